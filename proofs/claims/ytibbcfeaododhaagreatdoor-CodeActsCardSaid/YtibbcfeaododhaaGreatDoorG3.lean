/-
 code.writer: line. code.writer: insn, module, on the one program that 'alive' makes. code.writer: long, module, on the one program that 'alive' makes. code.Print on the one program that 'alive' makes. CodeActs' walk, given what 'alive' answers. heddlelaw15.alive.
-/
import Derived.Test.YtibbcfeaododhaaGreatDoorG1
import Derived.Deep.RegionHeld3
import Derived.Deep.AppendLies
import Derived.Lib.Strings
import Derived.Test.YtibbcfeaododhaaGreatDoorKWEqStruct
import Derived.Test.YtibbcfeaododhaaGreatDoorG2
import Derived.BigQuiet
import Derived.Deep.QuietTactic
set_option linter.unusedSimpArgs false
set_option linter.unusedVariables false
namespace Go.Proofs.YtibbcfeaododhaaGreatDoor
open Go.RowKit Go.Sort Go.Proofs.YtibbcfeaododhaaGreatDoorW.PrintWords Go.Proofs.YtibbcfeaododhaaGreatDoorW.PrintLast Go.Proofs.YtibbcfeaododhaaGreatDoorW.PrintMore
abbrev tyU8c : TypeId := 5
theorem infoU8c : (Tryz.prog.info? 5).map (fun i => (i.zero, i.size, i.bytes)) = some (some (.int .u8 0), 1, 1) := by kernel_rfl
theorem grownC_set2 (W : World) (g o : Nat) (v : Value) : W.grownBy (W.setCell ⟨g, o, none⟩ v) (some g) := ⟨rfl, rfl, rfl, by simp, fun k hk hne => Below.heap_setCell W ⟨g, o, none⟩ v k (fun e => hne (by rw [e]))⟩
/-- Nothing has turned but block h and rows of bytes. -/
def Oth (h : Nat) (w w' : World) : Prop := w.heap.size ≤ w'.heap.size ∧ ∀ k, k < w.heap.size → k ≠ h → (∀ c fz, w.heap[k]? ≠ some (.cells c tyU8c fz)) → w'.heap[k]? = w.heap[k]?
theorem Oth.refl (h : Nat) (w : World) : Oth h w w := ⟨Nat.le_refl _, fun _ _ _ _ => rfl⟩
theorem Oth.trans {h : Nat} {a b c : World} (x : Oth h a b) (y : Oth h b c) : Oth h a c :=
 ⟨Nat.le_trans x.1 y.1, fun k hk hn ht => by
  have e := x.2 k hk hn ht
  exact (y.2 k (Nat.lt_of_lt_of_le hk x.1) hn (fun c fz => by rw [e]; exact ht c fz)).trans e⟩
theorem Oth.below {h : Nat} {a b : World} (x : Below a.heap.size a b) : Oth h a b := ⟨x.size, fun k hk _ _ => x.block k hk⟩
theorem Oth.grown {h n base : Nat} {a b : World} {v : Value} {xs : List Value} (hg : a.grownBy b v.ownBlock) (ho : a.ownsRow base tyU8c 1 v n xs) : Oth h a b :=
 ⟨hg.size, fun k hk _ ht => hg.block k hk (fun e => by
  obtain ⟨c, hc⟩ := own_typed ho k e.symm
  exact ht c _ hc)⟩
theorem Oth.set {h : Nat} (a : World) (o : Nat) (v : Value) : Oth h a (a.setCell ⟨h, o, none⟩ v) := ⟨by simp, fun k _ hn _ => Below.heap_setCell a ⟨h, o, none⟩ v k hn⟩
/-- What a line says, its first words. -/
def linePre (ss : List ByteArray) : Nat → List Int
 | 0 => []
 | k + 1 => linePre ss k ++ ((if k = 0 then [] else [32]) ++ bytesOf (ss.getD k ⟨#[]⟩))
def lineB (ss : List ByteArray) : List Int := linePre ss ss.length ++ [10]
theorem bytesOf_len (s : ByteArray) : (bytesOf s).length = s.size := by
 unfold bytesOf
 rw [List.length_map]
 exact Lib.size_eq s |>.symm
theorem linePre_len (ss : List ByteArray) (h : ∀ s ∈ ss, s.size ≤ 100) : ∀ k, k ≤ ss.length → (linePre ss k).length ≤ 101 * k
 | 0, _ => Nat.zero_le _
 | k + 1, hk => by
  have ih := linePre_len ss h k (by omega)
  have h1 : (bytesOf (ss.getD k ⟨#[]⟩)).length ≤ 100 := by
   rw [bytesOf_len, List.getD_eq_getElem?_getD, List.getElem?_eq_getElem (show k < ss.length by omega)]
   exact h _ (List.getElem_mem _)
  have h2 : (if k = 0 then ([] : List Int) else [32]).length ≤ 1 := by split <;> simp
  rw [linePre, List.length_append, List.length_append]
  omega
section
variable {P : Program} {ops : Array Oper} {rest : List Oper} {o : Oper} {a : Act} {Q : Exit → Act → World → Prop}
theorem append_litC {w0 W : World} (base : Nat) (hgd : o.guard = none) (s x : Operand) (t e : TypeId)
  (ho : o.op = .call { callee := .builtin .append, args := #[s, x], argTypes := #[t, t] })
  (ht : P.underlying t = some (.slice e)) (hinfo : (P.info? e).map (fun i => (i.zero, i.size, i.bytes)) = some (some (.int .u8 0), 1, 1))
  (v : Value) (xs ys : List Int) (hs : a.eval s = v) (hx : a.eval x = .slice (some ⟨W.heap.size, 0, none⟩) ys.length ys.length)
  (HO : W.ownsRow base e 1 v xs.length (nums .u8 xs)) (HB : Below base w0 W) (hbase : base ≤ W.heap.size) (hl : xs.length + ys.length ≤ 140737488355328)
  (h : ∀ v1 w1, w1.ownsRow base e 1 v1 (xs ++ ys).length (nums .u8 (xs ++ ys)) → Below base w0 w1 → W.grownBy w1 v.ownBlock → wpList P ops Q rest (a.put o.dst v1) w1) :
  wpList P ops Q (o :: rest) a (W.alloc (.cells (nums .u8 ys).toArray e)) :=
 print_append_row base hgd s x t e .u8 1 ho ht hinfo (by decide) v xs ys (some ⟨W.heap.size, 0, none⟩) ys.length ys.length hs hx (HO.alloc _)
  (own_reads' (own_lit W base e .u8 ys hbase (by omega))) (HB.alloc hbase _) (by simp; omega) (by omega)
  fun v1 w1 ho hb hg _ => h v1 w1 ho hb (World.grownBy.trans (World.grownBy_alloc W _ _) hg)
end
/-- A writer at block h: so many bytes are written; the words of a line in block sb. -/
structure LnF (w W : World) (base h sb : Nat) (wv v : Value) (l : List Int) (ss : List ByteArray) (arr : Array Value) : Prop where
 bl : Below base w W
 hb : W.heap[h]? = some (.cells #[v, wv] 122 (0, 0))
 ob : W.ownsRow base tyU8c 1 v l.length (nums .u8 l)
 sb : W.heap[sb]? = some (.cells arr 9 (0, 0))
 se : ∀ i (hi : i < ss.length), arr[i]? = some (.string ss[i])
 oth : Oth h w W
 bw : base ≤ w.heap.size
 bh : base ≤ h
theorem LnF.app {w W W' : World} {base h sb : Nat} {wv v v1 : Value} {l l' : List Int} {ss : List ByteArray} {arr : Array Value} (x : LnF w W base h sb wv v l ss arr) (ho : W'.ownsRow base tyU8c 1 v1 l'.length (nums .u8 l')) (hB : Below base w W') (hg : W.grownBy W' v.ownBlock) :
  LnF w (W'.setCell ⟨h, 0, none⟩ v1) base h sb wv v1 l' ss arr := by
 have hh : W'.heap[h]? = some (.cells #[v, wv] 122 (0, 0)) := (hg.block h (blk_lt x.hb) (own_ne x.ob x.hb (by decide))).trans x.hb
 have hs : W'.heap[sb]? = some (.cells arr 9 (0, 0)) := (hg.block sb (blk_lt x.sb) (own_ne x.ob x.sb (by decide))).trans x.sb
 have hne : ¬ sb = h := fun e => by
  rw [e, hh] at hs
  injection hs with hs
  injection hs with _ hs
  exact absurd hs (by decide)
 refine ⟨hB.trans (below_grownC (grownC_set2 _ _ _ _) x.bh (Nat.le_trans x.bw hB.size)), by simpa using blk_set hh 0 v1, own_move ho (fun k hk => Below.heap_setCell W' ⟨h, 0, none⟩ v1 k (fun e => ?_)), blk_far hs (show sb ≠ h from hne) v1, x.se, (x.oth.trans (Oth.grown hg x.ob)).trans (Oth.set _ _ _), x.bw, x.bh⟩
 have := own_ne ho hh (by decide)
 exact this (by rw [hk, e])
theorem own_form {W : World} {base n : Nat} {e sz : Nat} {v : Value} {xs : List Value} (ho : W.ownsRow base e sz v n xs) : ∃ A m c, v = .slice A m c := by
 obtain ⟨A, c, e⟩ := own_slice ho
 exact ⟨A, _, c, e⟩
/-- A line is written. -/
def LinePost (w : World) (base h : Nat) (wv v : Value) (l : List Int) (e : Ending) (w' : World) : Prop := ∃ v1, e = .returned (.tuple #[]) ∧ Below base w w' ∧ w'.heap[h]? = some (.cells #[v1, wv] 122 (0, 0)) ∧ w'.ownsRow base tyU8c 1 v1 l.length (nums .u8 l) ∧ Oth h w w'
theorem LnF.here {w W W' : World} {base h sb : Nat} {wv v : Value} {l : List Int} {ss : List ByteArray} {arr : Array Value} (x : LnF w W base h sb wv v l ss arr) (hg : W.grownBy W' v.ownBlock) : W'.heap[h]? = some (.cells #[v, wv] 122 (0, 0)) := (hg.block h (blk_lt x.hb) (own_ne x.ob x.hb (by decide))).trans x.hb
set_option maxRecDepth 100000 in
set_option maxHeartbeats 4000000 in
theorem wr_line (ss : List ByteArray) (arr : Array Value) (l : List Int) (wv v : Value) (base h sb c : Nat) (w : World) (hll : l.length ≤ 4000) (hss : ss.length ≤ 10) (hsz : ∀ s ∈ ss, s.size ≤ 100) (hF : LnF w w base h sb wv v l ss arr) :
  Calls Tryz.prog 80 #[.pointer (some ⟨h, 0, none⟩), .slice (some ⟨sb, 0, none⟩) ss.length c] w (LinePost w base h wv v (l ++ lineB ss)) := by
 have HF := Lib.hid hF
 have HL := Lib.hid (And.intro hll (linePre_len ss hsz))
 clear hF hsz
 go_enter Tryz.func80, Tryz.ntmps80
 go_wp2
 go_loopg [4, 5, 8] ss.length (fun gg s4 s5 s8 wl => ∃ (k : Nat) (v1 : Value), s8 = .int .i64 k ∧ k ≤ ss.length ∧ ss.length - k ≤ gg ∧ Hid (LnF w wl base h sb wv v1 (l ++ linePre ss k) ss arr))
 case atStart => exact ⟨0, v, rfl, Nat.zero_le _, by omega, Lib.hid (by have := HF.out; rw [linePre, List.append_nil]; exact this)⟩
 case round =>
  obtain ⟨k, v1, rfl, hk, hg, HK⟩ := hrel
  have HG := Lib.hid hg
  clear hg HF
  by_cases hlt : k < ss.length
  ·have y0 : (0 : Int) ≤ (k : Int) := by omega
   have y1 : (k : Int) < (ss.length : Int) := by omega
   have q0 : wr.cell? ⟨sb, k, none⟩ = some (.string ss[k]) := by
    rw [cell_of_row wr sb _ _ _ _ HK.out.sb]
    exact HK.out.se k hlt
   have HX : Hid (∃ x, x = ss[k]) := Lib.hid ⟨_, rfl⟩
   obtain ⟨x, hx⟩ := HX.out
   rw [← hx] at q0
   have hxs : (bytesOf x).length ≤ 100 ∨ True := .inr trivial
   have HXX := Lib.hid hx
   have HN : Hid ((l ++ linePre ss k).length + 9000 ≤ 140737488355328) := Lib.hid (by have h1 := HL.out.1; have h2 := HL.out.2 k hk; rw [List.length_append]; omega)
   clear hx HX hxs
   by_cases hk0 : k = 0
   ·subst hk0
    have HE : Hid (linePre ss (0 + 1) = linePre ss 0 ++ bytesOf x) := Lib.hid (by simp only [linePre, if_true, List.nil_append]; rw [List.getD_eq_getElem?_getD, List.getElem?_eq_getElem hlt, HXX.out]; rfl)
    have HX100 : Hid ((bytesOf x).length ≤ 200) := Lib.hid (by have h2 := HL.out.2 (0 + 1) hlt; rw [HE.out, List.length_append] at h2; have := hss; omega)
    have k0 : wr.cell? ⟨h, 0, none⟩ = some v1 := (blk_cell HK.out.hb 0).trans rfl
    have z0 := blk_frozen HK.out.hb 0
    go_upto_region 6 with (at_builtin; go_loud (refine print_append_str (w0 := w) base rfl (.tmp 28) (.tmp 29) 104 9 5 rfl Tryz.underlying104 Tryz.underlying9 infoU8c v1 (l ++ linePre ss 0) x rfl rfl ?hO ?hB ?hbs ?hl ?_; (case hO => exact HK.out.ob); (case hB => exact HK.out.bl); (case hbs => exact Nat.le_trans HK.out.bw HK.out.bl.size); (case hl => have h1 := HN.out; have h2 := HX100.out; rw [bytesOf_len] at h2; omega); intro v3 w7 ho hb hg; have HA3 := Lib.hid (HK.out.app ho hb hg); have hh := HK.out.here hg; obtain ⟨Av3, nv3, cv3, hv3⟩ := own_form ho; subst hv3; have k3 : w7.cell? ⟨h, 0, none⟩ = some v1 := (blk_cell hh 0).trans rfl; have z3 := blk_frozen hh 0; clear ho hb hg hh))
    clear k3 z3 k0 z0
    generalize w7.setCell ⟨h, 0, none⟩ (.slice Av3 nv3 cv3) = w8 at HA3 ⊢
    have HA4 : Hid (LnF w w8 base h sb wv (.slice Av3 nv3 cv3) (l ++ linePre ss (0 + 1)) ss arr) := Lib.hid (by rw [HE.out]; simpa only [List.append_assoc] using HA3.out)
    clear HA3
    go_wp2_with fail
    go_roundg (ss.length - (0 + 1))
    case measure => have := HG.out; omega
    case rel => exact ⟨0 + 1, .slice Av3 nv3 cv3, by go_num, hlt, Nat.le_refl _, HA4⟩
   ·have d0 : decide ((k : Int) > 0) = true := decide_eq_true (by omega)
    have d1 : decide (0 < k) = true := decide_eq_true (by omega)
    have HE : Hid (linePre ss (k + 1) = linePre ss k ++ ([32] ++ bytesOf x)) := Lib.hid (by rw [linePre, if_neg hk0, List.getD_eq_getElem?_getD, List.getElem?_eq_getElem hlt, HXX.out]; rfl)
    have HX100 : Hid ((bytesOf x).length ≤ 2000) := Lib.hid (by have h2 := HL.out.2 (k + 1) hlt; rw [HE.out, List.length_append, List.length_append] at h2; have := hss; omega)
    clear hk0
    have k0 : wr.cell? ⟨h, 0, none⟩ = some v1 := (blk_cell HK.out.hb 0).trans rfl
    have z0 := blk_frozen HK.out.hb 0
    go_upto_region 5 with (at_builtin; go_loud (refine append_litC (w0 := w) base rfl (.tmp 19) (.tmp 20) 104 5 rfl Tryz.underlying104 infoU8c v1 (l ++ linePre ss k) [32] rfl ?hx ?hO ?hB ?hbs ?hl ?_; (case hx => first | rfl | (simp [Act.eval]; done)); (case hO => exact HK.out.ob); (case hB => exact HK.out.bl); (case hbs => exact Nat.le_trans HK.out.bw HK.out.bl.size); (case hl => have := HN.out; simp only [List.length_cons, List.length_nil]; omega); intro v2 w5 ho hb hg; have HA := Lib.hid (HK.out.app ho hb hg); have hh := HK.out.here hg; obtain ⟨Av2, nv2, cv2, hv2⟩ := own_form ho; subst hv2; have k1 : w5.cell? ⟨h, 0, none⟩ = some v1 := (blk_cell hh 0).trans rfl; have z1 := blk_frozen hh 0; clear ho hb hg hh))
    clear k1 z1 k0 z0
    generalize w5.setCell ⟨h, 0, none⟩ (.slice Av2 nv2 cv2) = w6 at HA ⊢
    have k0 : w6.cell? ⟨h, 0, none⟩ = some (.slice Av2 nv2 cv2) := (blk_cell HA.out.hb 0).trans rfl
    have z0 := blk_frozen HA.out.hb 0
    have HN2 : Hid ((l ++ linePre ss k ++ [32]).length + 4000 ≤ 140737488355328) := Lib.hid (by have := HN.out; simp only [List.length_append, List.length_cons, List.length_nil] at this ⊢; omega)
    go_upto_region 6 with (at_builtin; go_loud (refine print_append_str (w0 := w) base rfl (.tmp 28) (.tmp 29) 104 9 5 rfl Tryz.underlying104 Tryz.underlying9 infoU8c (.slice Av2 nv2 cv2) (l ++ linePre ss k ++ [32]) x rfl rfl ?hO ?hB ?hbs ?hl ?_; (case hO => exact HA.out.ob); (case hB => exact HA.out.bl); (case hbs => exact Nat.le_trans HA.out.bw HA.out.bl.size); (case hl => have h1 := HN2.out; have h2 := HX100.out; rw [bytesOf_len] at h2; omega); intro v3 w7 ho hb hg; have HA3 := Lib.hid (HA.out.app ho hb hg); have hh := HA.out.here hg; obtain ⟨Av3, nv3, cv3, hv3⟩ := own_form ho; subst hv3; have k3 : w7.cell? ⟨h, 0, none⟩ = some (.slice Av2 nv2 cv2) := (blk_cell hh 0).trans rfl; have z3 := blk_frozen hh 0; clear ho hb hg hh))
    clear k3 z3 k0 z0
    generalize w7.setCell ⟨h, 0, none⟩ (.slice Av3 nv3 cv3) = w8 at HA3 ⊢
    have HA4 : Hid (LnF w w8 base h sb wv (.slice Av3 nv3 cv3) (l ++ linePre ss (k + 1)) ss arr) := Lib.hid (by rw [HE.out]; simpa only [List.append_assoc] using HA3.out)
    clear HA3
    go_wp2_with fail
    go_roundg (ss.length - (k + 1))
    case measure => have := HG.out; omega
    case rel => exact ⟨k + 1, .slice Av3 nv3 cv3, by go_num, hlt, Nat.le_refl _, HA4⟩
  ·have y1 : ¬ (k : Int) < (ss.length : Int) := by omega
   have hke : k = ss.length := by omega
   have HN : Hid ((l ++ linePre ss k).length + 9000 ≤ 140737488355328) := Lib.hid (by have h1 := HL.out.1; have h2 := HL.out.2 k hk; rw [List.length_append]; omega)
   have HKE := Lib.hid hke
   clear hke
   have k0 : wr.cell? ⟨h, 0, none⟩ = some v1 := (blk_cell HK.out.hb 0).trans rfl
   have z0 := blk_frozen HK.out.hb 0
   go_wp2_with (at_builtin; refine append_litC (w0 := w) base rfl (.tmp 38) (.tmp 39) 104 5 rfl Tryz.underlying104 infoU8c v1 (l ++ linePre ss k) [10] rfl ?hx ?hO ?hB ?hbs ?hl ?_; (case hx => first | rfl | (simp [Act.eval]; done)); (case hO => exact HK.out.ob); (case hB => exact HK.out.bl); (case hbs => exact Nat.le_trans HK.out.bw HK.out.bl.size); (case hl => have := HN.out; simp only [List.length_cons, List.length_nil]; omega); intro v2 w5 ho hb hg; have HA := Lib.hid (HK.out.app ho hb hg); have hh := HK.out.here hg; obtain ⟨Av2, nv2, cv2, hv2⟩ := own_form ho; subst hv2; have k1 : w5.cell? ⟨h, 0, none⟩ = some v1 := (blk_cell hh 0).trans rfl; have z1 := blk_frozen hh 0; clear ho hb hg hh)
   refine bodyPost_end (results_none rfl _ _ _) rfl ?_
   have hA := HA.out
   rw [HKE.out] at hA
   rw [List.append_assoc] at hA
   exact ⟨_, rfl, hA.bl, hA.hb, hA.ob, hA.oth⟩
end Go.Proofs.YtibbcfeaododhaaGreatDoor
set_option linter.unusedSimpArgs false
set_option linter.unusedVariables false
namespace Go.Proofs.YtibbcfeaododhaaGreatDoor
open Go.RowKit Go.Sort Go.Proofs.YtibbcfeaododhaaGreatDoorW.PrintWords Go.Proofs.YtibbcfeaododhaaGreatDoorW.PrintLast Go.Proofs.YtibbcfeaododhaaGreatDoorW.PrintMore
abbrev sNames : ByteArray := ⟨(([99, 111, 110, 115, 116, 32, 108, 111, 97, 100, 32, 115, 116, 111, 114, 101, 32, 112, 111, 112, 32, 100, 117, 112, 32, 116, 117, 112, 108, 101, 32, 108, 105, 115, 116, 32, 98].append [105, 102, 32, 99, 97, 108, 108, 32, 116, 97, 105, 108, 32, 114, 101, 109, 111, 116, 101, 32, 108, 101, 97, 118, 101, 32, 114, 101, 116, 117, 114, 110, 32, 106, 117, 109, 112, 32]).append ([98, 114, 97, 110, 99, 104, 32, 105, 115, 32, 112, 97, 114, 116, 115, 32, 99, 111, 110, 115, 32, 115, 97, 109, 101, 32, 114, 97, 105, 115, 101, 32, 116, 114, 121, 32, 103].append [117, 97, 114, 100, 32, 100, 111, 110, 101, 32, 115, 101, 110, 100, 32, 97, 99, 116, 32, 112, 101, 101, 107, 32, 110, 101, 120, 116, 32, 116, 97, 107, 101, 32, 119, 97, 105, 116])).toArray⟩
abbrev namesL : List (List UInt8) := Lib.fields sNames.data.toList
abbrev sLoad : ByteArray := ⟨#[108, 111, 97, 100]⟩
abbrev sRet : ByteArray := ⟨#[114, 101, 116, 117, 114, 110]⟩
abbrev s0 : ByteArray := ⟨#[48]⟩
abbrev s1 : ByteArray := ⟨#[49]⟩
abbrev sE : ByteArray := ⟨#[]⟩
theorem names_len : namesL.length = 29 := by kernel_rfl
theorem names_1 : (namesL.getD 1 []).toArray = #[108, 111, 97, 100] := by kernel_rfl
theorem names_12 : (namesL.getD 12 []).toArray = #[114, 101, 116, 117, 114, 110] := by kernel_rfl
theorem itoa0 (w : World) : Calls Tryz.prog 131 #[.int .i64 0] w fun e w' => e = .returned (.string s0) ∧ w' = w := by
 have h := Tryz.strconv_Itoa_small 0 (by decide) w
 rw [show (Lib.decDigits 0).toArray = #[48] from by decide +kernel] at h
 exact h
theorem itoa1 (w : World) : Calls Tryz.prog 131 #[.int .i64 1] w fun e w' => e = .returned (.string s1) ∧ w' = w := by
 have h := Tryz.strconv_Itoa_small 1 (by decide) w
 rw [show (Lib.decDigits 1).toArray = #[49] from by decide +kernel] at h
 exact h
theorem ops2 (w : World) : Calls Tryz.prog 169 #[.int .i64 2] w fun e w' => e = .returned (.int .i64 1) ∧ Below w.heap.size w w' := (PCa.code_operands.calls 60 2 1 w (by kernel_rfl)).mono fun e w' h => ⟨h.1, h.2.below⟩
theorem ops13 (w : World) : Calls Tryz.prog 169 #[.int .i64 13] w fun e w' => e = .returned (.int .i64 0) ∧ Below w.heap.size w w' := (PCa.code_operands.calls 60 13 0 w (by kernel_rfl)).mono fun e w' h => ⟨h.1, h.2.below⟩
/-- The writer's words. -/
abbrev wdV (wb : Nat) : Value := .slice (some ⟨wb, 0, none⟩) 29 29
/-- A writer at block h: so much is written; its words in block wb. -/
structure WrS (w W : World) (base h wb : Nat) (v : Value) (l : List Int) : Prop where
 bl : Below base w W
 hb : W.heap[h]? = some (.cells #[v, wdV wb] 122 (0, 0))
 ob : W.ownsRow base tyU8c 1 v l.length (nums .u8 l)
 wd : W.heap[wb]? = some (.cells (strV namesL) 9 (0, 0))
 oth : Oth h w W
 bw : base ≤ w.heap.size
 bh : base ≤ h
theorem WrS.ne {w W : World} {base h wb : Nat} {v : Value} {l : List Int} (x : WrS w W base h wb v l) : wb ≠ h := fun e => by
 have h1 := x.wd
 rw [e, x.hb] at h1
 injection h1 with h1
 injection h1 with _ h1
 exact absurd h1 (by decide)
theorem Oth.at {h : Nat} {w W : World} (x : Oth h w W) {k : Nat} {c : Array Value} {t : TypeId} {fz : Nat × Nat} (hk : w.heap[k]? = some (.cells c t fz)) (hn : k ≠ h) (ht : t ≠ tyU8c) : W.heap[k]? = some (.cells c t fz) :=
 (x.2 k (blk_lt hk) hn (fun c' fz' e => by
  rw [hk] at e
  injection e with e
  injection e with _ e
  exact ht e)).trans hk
theorem WrS.below {w W W' : World} {base h wb : Nat} {v : Value} {l : List Int} (x : WrS w W base h wb v l) (hb : Below W.heap.size W W') : WrS w W' base h wb v l :=
 ⟨x.bl.trans (hb.mono (Nat.le_trans x.bw x.bl.size)), (hb.block _ (blk_lt x.hb)).trans x.hb, pw_own_below x.ob hb, (hb.block _ (blk_lt x.wd)).trans x.wd, x.oth.trans (Oth.below hb), x.bw, x.bh⟩
theorem WrS.ln {w W : World} {base h wb : Nat} {v : Value} {l : List Int} (x : WrS w W base h wb v l) {sb : Nat} {ss : List ByteArray} {arr : Array Value} (hs : W.heap[sb]? = some (.cells arr 9 (0, 0))) (he : ∀ i (hi : i < ss.length), arr[i]? = some (.string ss[i])) : LnF W W base h sb (wdV wb) v l ss arr :=
 ⟨Below.refl _ _, x.hb, x.ob, hs, he, Oth.refl _ _, Nat.le_trans x.bw x.bl.size, x.bh⟩
theorem WrS.next {w W W' : World} {base h wb : Nat} {v v1 : Value} {l l1 : List Int} (x : WrS w W base h wb v l) (hB : Below base W W') (hh : W'.heap[h]? = some (.cells #[v1, wdV wb] 122 (0, 0))) (ho : W'.ownsRow base tyU8c 1 v1 l1.length (nums .u8 l1)) (hO : Oth h W W') : WrS w W' base h wb v1 l1 :=
 ⟨x.bl.trans hB, hh, ho, hO.at x.wd x.ne (by decide), x.oth.trans hO, x.bw, x.bh⟩
/-- The words at their places. -/
theorem WrS.word1 {w W : World} {base h wb : Nat} {v : Value} {l : List Int} (x : WrS w W base h wb v l) : W.cell? ⟨wb, 1, none⟩ = some (.string sLoad) := by
 have h1 := strV_at x.wd 1 (by rw [names_len]; decide)
 have h2 := names_1
 rw [List.getD_eq_getElem?_getD, List.getElem?_eq_getElem (by rw [names_len]; decide)] at h2
 rw [h1]
 simp only [Option.getD_some] at h2
 rw [h2]
theorem WrS.word12 {w W : World} {base h wb : Nat} {v : Value} {l : List Int} (x : WrS w W base h wb v l) : W.cell? ⟨wb, 12, none⟩ = some (.string sRet) := by
 have h1 := strV_at x.wd 12 (by rw [names_len]; decide)
 have h2 := names_12
 rw [List.getD_eq_getElem?_getD, List.getElem?_eq_getElem (by rw [names_len]; decide)] at h2
 rw [h1]
 simp only [Option.getD_some] at h2
 rw [h2]
set_option maxRecDepth 100000 in
set_option maxHeartbeats 4000000 in
theorem wr_load (w W : World) (base h wb : Nat) (v : Value) (l : List Int) (hl : l.length ≤ 4000) (x : WrS w W base h wb v l) :
  Calls Tryz.prog 132 #[.pointer (some ⟨h, 0, none⟩), .agg #[.int .i64 2, .int .i64 0, .int .i64 0]] W (LinePost W base h (wdV wb) v (l ++ lineB [sE, sLoad, s0])) := by
 have HL := Lib.hid hl
 have c0 : (W.alloc (.cells #[.int .i64 2, .int .i64 0, .int .i64 0] 132)).cell? ⟨W.heap.size, 0, none⟩ = some (.int .i64 2) := by simp
 have c1 : (W.alloc (.cells #[.int .i64 2, .int .i64 0, .int .i64 0] 132)).cell? ⟨W.heap.size, 1, none⟩ = some (.int .i64 0) := by simp
 have c2 : (W.alloc (.cells #[.int .i64 2, .int .i64 0, .int .i64 0] 132)).cell? ⟨W.heap.size, 2, none⟩ = some (.int .i64 0) := by simp
 have hb := below_alloc (Below.refl W.heap.size W) (.cells #[.int .i64 2, .int .i64 0, .int .i64 0] 132)
 have HX := Lib.hid x
 clear hl x
 go_enter Tryz.func132, Tryz.ntmps132
 go_upto_region 1 with (fail)
 obtain ⟨ib, hib⟩ : ∃ ib, ib = W.heap.size := ⟨_, rfl⟩
 rw [← hib] at c0 c1 c2 ⊢
 generalize W.alloc (.cells #[.int .i64 2, .int .i64 0, .int .i64 0] 132) = w1 at c0 c1 c2 hb ⊢
 clear hib
 have HB := Lib.hid hb
 have HX1 := Lib.hid (HX.out.below hb)
 clear hb
 have hq1 : IntKind.i64.wrap 1 = 1 := by decide +kernel
 have hq2 : IntKind.i64.wrap 3 = 3 := by decide +kernel
 have HS : Hid (∀ W', Below w1.heap.size w1 W' → (Below w1.heap.size w1 W' ∧ W'.cell? ⟨h, 1, none⟩ = some (.slice (some ⟨wb, 0, none⟩) 29 29) ∧ W'.cell? ⟨ib, 0, none⟩ = some (.int .i64 2) ∧ W'.cell? ⟨ib, 1, none⟩ = some (.int .i64 0) ∧ W'.cell? ⟨ib, 2, none⟩ = some (.int .i64 0) ∧ W'.cell? ⟨wb, 1, none⟩ = some (.string sLoad))) := Lib.hid fun W' hW => ⟨hW, cell_b hW ((blk_cell HX1.out.hb 1).trans rfl), cell_b hW c0, cell_b hW c1, cell_b hW c2, cell_b hW HX1.out.word1⟩
 go_region_held3 (fun W' => Below w1.heap.size w1 W' ∧ W'.cell? ⟨h, 1, none⟩ = some (.slice (some ⟨wb, 0, none⟩) 29 29) ∧ W'.cell? ⟨ib, 0, none⟩ = some (.int .i64 2) ∧ W'.cell? ⟨ib, 1, none⟩ = some (.int .i64 0) ∧ W'.cell? ⟨ib, 2, none⟩ = some (.int .i64 0) ∧ W'.cell? ⟨wb, 1, none⟩ = some (.string sLoad)) ((refine HS.out _ ?_; first | assumption | exact Below.refl _ _ | exact (Below.refl _ _).drew | exact below_alloc (by assumption) _ | exact below_alloc (Below.refl _ _).drew _))
  ((go_at_call 131; refine (itoa0 _).mono ?_; rintro e w9 ⟨rfl, rfl⟩))
 have hs := heap_alloc_new w1 (.cells #[.string sE, .string sLoad, .string s0, .string s0] 9)
 have hb := (below_alloc (Below.refl w1.heap.size w1) (.cells #[.string sE, .string sLoad, .string s0, .string s0] 9)).drew
 replace hs : (w1.alloc (.cells #[.string sE, .string sLoad, .string s0, .string s0] 9)).drew.heap[w1.heap.size]? = some (.cells #[.string sE, .string sLoad, .string s0, .string s0] 9 (0, 0)) := hs
 obtain ⟨sb, hsb⟩ : ∃ sb, sb = w1.heap.size := ⟨_, rfl⟩
 have HX2 := Lib.hid (HX1.out.below hb)
 have HB2 := Lib.hid (trans_below HB.out hb)
 replace c0 := cell_b hb c0
 clear HS hb c1 c2 HX1 HB
 rw [← hsb] at hs ⊢
 generalize (w1.alloc (.cells #[.string sE, .string sLoad, .string s0, .string s0] 9)).drew = w2 at hs c0 HX2 HB2 ⊢
 clear hsb
 go_wp2_with fail
 refine (ops2 w2).mono ?_
 rintro e w3 ⟨rfl, hb⟩
 have HX3 := Lib.hid (HX2.out.below hb)
 have HB3 := Lib.hid (trans_below HB2.out hb)
 replace hs := (hb.block _ (blk_lt hs)).trans hs
 clear hb HX2 HB2 c0
 go_wp2_with fail
 refine (wr_line [sE, sLoad, s0] #[.string sE, .string sLoad, .string s0, .string s0] l (wdV wb) v base h sb 4 w3 HL.out (by decide) (by intro s hs; simp only [List.mem_cons, List.not_mem_nil, or_false] at hs; rcases hs with rfl | rfl | rfl <;> decide) (HX3.out.ln hs (by intro i hi; rcases i with _ | _ | _ | i <;> first | rfl | (simp at hi; omega)))).mono ?_
 rintro e w4 ⟨v1, rfl, hB, hh, ho, hO⟩
 go_wp2_with fail
 refine bodyPost_end (results_none rfl _ _ _) rfl ?_
 exact ⟨v1, rfl, (HB3.out.mono (Nat.le_trans HX.out.bw HX.out.bl.size)).trans hB, hh, ho, (Oth.below HB3.out).trans hO⟩
set_option maxRecDepth 100000 in
set_option maxHeartbeats 4000000 in
theorem wr_ret (w W : World) (base h wb : Nat) (v : Value) (l : List Int) (hl : l.length ≤ 4000) (x : WrS w W base h wb v l) :
  Calls Tryz.prog 132 #[.pointer (some ⟨h, 0, none⟩), .agg #[.int .i64 13, .int .i64 0, .int .i64 0]] W (LinePost W base h (wdV wb) v (l ++ lineB [sE, sRet])) := by
 have HL := Lib.hid hl
 have c0 : (W.alloc (.cells #[.int .i64 13, .int .i64 0, .int .i64 0] 132)).cell? ⟨W.heap.size, 0, none⟩ = some (.int .i64 13) := by simp
 have c1 : (W.alloc (.cells #[.int .i64 13, .int .i64 0, .int .i64 0] 132)).cell? ⟨W.heap.size, 1, none⟩ = some (.int .i64 0) := by simp
 have c2 : (W.alloc (.cells #[.int .i64 13, .int .i64 0, .int .i64 0] 132)).cell? ⟨W.heap.size, 2, none⟩ = some (.int .i64 0) := by simp
 have hb := below_alloc (Below.refl W.heap.size W) (.cells #[.int .i64 13, .int .i64 0, .int .i64 0] 132)
 have HX := Lib.hid x
 clear hl x
 go_enter Tryz.func132, Tryz.ntmps132
 go_upto_region 1 with (fail)
 obtain ⟨ib, hib⟩ : ∃ ib, ib = W.heap.size := ⟨_, rfl⟩
 rw [← hib] at c0 c1 c2 ⊢
 generalize W.alloc (.cells #[.int .i64 13, .int .i64 0, .int .i64 0] 132) = w1 at c0 c1 c2 hb ⊢
 clear hib
 have HB := Lib.hid hb
 have HX1 := Lib.hid (HX.out.below hb)
 clear hb
 have hq1 : IntKind.i64.wrap 12 = 12 := by decide +kernel
 have hq2 : IntKind.i64.wrap 2 = 2 := by decide +kernel
 have HS : Hid (∀ W', Below w1.heap.size w1 W' → (Below w1.heap.size w1 W' ∧ W'.cell? ⟨h, 1, none⟩ = some (.slice (some ⟨wb, 0, none⟩) 29 29) ∧ W'.cell? ⟨ib, 0, none⟩ = some (.int .i64 13) ∧ W'.cell? ⟨ib, 1, none⟩ = some (.int .i64 0) ∧ W'.cell? ⟨ib, 2, none⟩ = some (.int .i64 0) ∧ W'.cell? ⟨wb, 12, none⟩ = some (.string sRet))) := Lib.hid fun W' hW => ⟨hW, cell_b hW ((blk_cell HX1.out.hb 1).trans rfl), cell_b hW c0, cell_b hW c1, cell_b hW c2, cell_b hW HX1.out.word12⟩
 go_region_held3 (fun W' => Below w1.heap.size w1 W' ∧ W'.cell? ⟨h, 1, none⟩ = some (.slice (some ⟨wb, 0, none⟩) 29 29) ∧ W'.cell? ⟨ib, 0, none⟩ = some (.int .i64 13) ∧ W'.cell? ⟨ib, 1, none⟩ = some (.int .i64 0) ∧ W'.cell? ⟨ib, 2, none⟩ = some (.int .i64 0) ∧ W'.cell? ⟨wb, 12, none⟩ = some (.string sRet)) ((refine HS.out _ ?_; first | assumption | exact Below.refl _ _ | exact (Below.refl _ _).drew | exact below_alloc (by assumption) _ | exact below_alloc (Below.refl _ _).drew _))
  ((go_at_call 131; refine (itoa0 _).mono ?_; rintro e w9 ⟨rfl, rfl⟩))
 have hs := heap_alloc_new w1 (.cells #[.string sE, .string sRet, .string s0, .string s0] 9)
 have hb := (below_alloc (Below.refl w1.heap.size w1) (.cells #[.string sE, .string sRet, .string s0, .string s0] 9)).drew
 replace hs : (w1.alloc (.cells #[.string sE, .string sRet, .string s0, .string s0] 9)).drew.heap[w1.heap.size]? = some (.cells #[.string sE, .string sRet, .string s0, .string s0] 9 (0, 0)) := hs
 obtain ⟨sb, hsb⟩ : ∃ sb, sb = w1.heap.size := ⟨_, rfl⟩
 have HX2 := Lib.hid (HX1.out.below hb)
 have HB2 := Lib.hid (trans_below HB.out hb)
 replace c0 := cell_b hb c0
 clear HS hb c1 c2 HX1 HB
 rw [← hsb] at hs ⊢
 generalize (w1.alloc (.cells #[.string sE, .string sRet, .string s0, .string s0] 9)).drew = w2 at hs c0 HX2 HB2 ⊢
 clear hsb
 go_wp2_with fail
 refine (ops13 w2).mono ?_
 rintro e w3 ⟨rfl, hb⟩
 have HX3 := Lib.hid (HX2.out.below hb)
 have HB3 := Lib.hid (trans_below HB2.out hb)
 replace hs := (hb.block _ (blk_lt hs)).trans hs
 clear hb HX2 HB2 c0
 go_wp2_with fail
 refine (wr_line [sE, sRet] #[.string sE, .string sRet, .string s0, .string s0] l (wdV wb) v base h sb 4 w3 HL.out (by decide) (by intro s hs; simp only [List.mem_cons, List.not_mem_nil, or_false] at hs; rcases hs with rfl | rfl <;> decide) (HX3.out.ln hs (by intro i hi; rcases i with _ | _ | i <;> first | rfl | (simp at hi; omega)))).mono ?_
 rintro e w4 ⟨v1, rfl, hB, hh, ho, hO⟩
 go_wp2_with fail
 refine bodyPost_end (results_none rfl _ _ _) rfl ?_
 exact ⟨v1, rfl, (HB3.out.mono (Nat.le_trans HX.out.bw HX.out.bl.size)).trans hB, hh, ho, (Oth.below HB3.out).trans hO⟩
end Go.Proofs.YtibbcfeaododhaaGreatDoor
set_option linter.unusedSimpArgs false
set_option linter.unusedVariables false
namespace Go.Proofs.YtibbcfeaododhaaGreatDoor
open Go.RowKit Go.Sort Go.Proofs.YtibbcfeaododhaaGreatDoorW.PrintWords Go.Proofs.YtibbcfeaododhaaGreatDoorW.PrintLast Go.Proofs.YtibbcfeaododhaaGreatDoorW.PrintMore
abbrev kS : Kd ByteArray := Kd.string
theorem infoS : (Tryz.prog.info? 9).map (fun i => (i.zero, i.size, i.bytes)) = some (some (.string ⟨#[]⟩), 1, 16) := by kernel_rfl
abbrev sModule : ByteArray := ⟨#[109, 111, 100, 117, 108, 101]⟩
abbrev sExport : ByteArray := ⟨#[101, 120, 112, 111, 114, 116]⟩
abbrev sFun : ByteArray := ⟨#[102, 117, 110]⟩
def tx1 : List Int := [] ++ lineB [sModule, sM]
def tx2 : List Int := tx1 ++ lineB [sExport, s0]
def tx3 : List Int := tx2 ++ lineB [sFun, sF, s1, s1]
def tx4 : List Int := tx3 ++ lineB [sE, sLoad, s0]
def tx5 : List Int := tx4 ++ lineB [sE, sRet]
theorem tx1_len : tx1.length ≤ 4000 := by decide +kernel
theorem tx2_len : tx2.length ≤ 4000 := by decide +kernel
theorem tx3_len : tx3.length ≤ 4000 := by decide +kernel
theorem tx4_len : tx4.length ≤ 4000 := by decide +kernel
theorem tx5_len : tx5.length ≤ 4000 := by decide +kernel
theorem WrS.len {w W : World} {base h wb : Nat} {v : Value} {l : List Int} (x : WrS w W base h wb v l) : ∃ A c, v = .slice A l.length c := own_slice x.ob
set_option maxRecDepth 100000 in
theorem wr_long (w W : World) (base h wb : Nat) (v : Value) (l : List Int) (hl : l.length ≤ 4000) (x : WrS w W base h wb v l) :
  Calls Tryz.prog 81 #[.pointer (some ⟨h, 0, none⟩)] W fun e w' => e = .returned (.bool false) ∧ w' = W := by
 obtain ⟨A, c, rfl⟩ := x.len
 have k0 : W.cell? ⟨h, 0, none⟩ = some (.slice A l.length c) := (blk_cell x.hb 0).trans rfl
 have hd : decide ((l.length : Int) > 4194304) = false := decide_eq_false (by omega)
 clear hl x
 go_enter Tryz.func81, Tryz.ntmps81
 go_wp2_with fail
 go_ret
 exact ⟨rfl, rfl⟩
theorem R_oneS {W : World} {base : Nat} {ok : Nat → Prop} (z : ByteArray) (h0 : base ≤ W.heap.size) (hok : ok W.heap.size) : kS.R 9 (W.alloc (.cells #[.string z] 9)) base ok (.slice (some ⟨W.heap.size, 0, none⟩) 1 1) [z] := by
 refine ⟨fun k hk => ?_, [.string z], ?_, ?_⟩
 ·have : W.heap.size = k := by simpa [Value.ownBlock] using hk
  subst this
  exact hok
 ·have h2 := World.ownsRow_lit (base := base) (e := 9) (size := kS.sz) W #[.string z] 1 h0 (by unfold maxLen; omega) rfl
  simpa using h2
 ·exact ⟨rfl, fun j p hj => by
   have hj0 : j = 0 := by
    have := (List.getElem?_eq_some_iff.1 hj).1
    simpa using this
   subst hj0
   simp only [List.getElem?_cons_zero, Option.some.injEq] at hj
   subst hj
   rfl⟩
/-- Two strings that a row holds. -/
theorem R_twoS {W : World} {base gb cap : Nat} {ok : Nat → Prop} {a b : ByteArray} {arr : Array Value} {t : TypeId} {fz : Nat × Nat} (h : kS.R 9 W base ok (.slice (some ⟨gb, 0, none⟩) 2 cap) [a, b]) (hh : W.heap[gb]? = some (.cells arr t fz)) : ∀ i (hi : i < [a, b].length), arr[i]? = some (.string [a, b][i]) := by
 intro i hi
 obtain ⟨cs, _, hM, hc, _⟩ := Kd.R_elem h a (i : Int) (by omega) (by simp at hi ⊢; omega)
 rw [Int.toNat_natCast] at hM
 have hM' : cs = [.string ([a, b].getD i a)] := hM
 subst hM'
 have h0 := hc 0 _ rfl
 simp only [Int.toNat_natCast, Nat.add_zero] at h0
 rw [show i * kS.sz = i from Nat.mul_one i, cell_of_row W gb _ _ _ _ hh] at h0
 rw [h0, List.getD_eq_getElem?_getD, List.getElem?_eq_getElem hi]
 rfl
/-- module's walk: the writer, the module's box. -/
structure MdF (w W : World) (h wb : Nat) (v : Value) (l : List Int) (mb : Nat) (ae af : Addr) (e f : Nat) : Prop where
 x : WrS w W w.heap.size h wb v l
 m : W.heap[mb]? = some (.cells #[.string sM, .slice (some ae) 1 e, .slice (some af) 1 f] 128 (0, 0))
 ne : mb ≠ h
theorem MdF.below {w W W' : World} {h wb : Nat} {v : Value} {l : List Int} {mb : Nat} {ae af : Addr} {e f : Nat} (x : MdF w W h wb v l mb ae af e f) (hb : Below W.heap.size W W') : MdF w W' h wb v l mb ae af e f :=
 ⟨x.x.below hb, (hb.block _ (blk_lt x.m)).trans x.m, x.ne⟩
theorem MdF.line {w W W' : World} {h wb : Nat} {v v1 : Value} {l l1 : List Int} {mb : Nat} {ae af : Addr} {e f : Nat} (x : MdF w W h wb v l mb ae af e f) (hB : Below w.heap.size W W') (hh : W'.heap[h]? = some (.cells #[v1, wdV wb] 122 (0, 0))) (ho : W'.ownsRow w.heap.size tyU8c 1 v1 l1.length (nums .u8 l1)) (hO : Oth h W W') : MdF w W' h wb v1 l1 mb ae af e f :=
 ⟨x.x.next hB hh ho hO, hO.at x.m x.ne (by decide), x.ne⟩
/-- A module is written. -/
def MdPost (w : World) (h wb : Nat) (e : Ending) (W' : World) : Prop := ∃ v1, e = .returned (.tuple #[]) ∧ WrS w W' w.heap.size h wb v1 tx5
set_option maxRecDepth 100000 in
set_option maxHeartbeats 16000000 in
theorem wr_module (w W : World) (h wb : Nat) (v : Value) (am ae af : Addr) (e f i : Nat) (I : Option Addr) (hP : PrgAt w am ae af e f i I) (x : WrS w W w.heap.size h wb v []) :
  Calls Tryz.prog 83 #[.pointer (some ⟨h, 0, none⟩), .agg #[.string sM, .slice (some ae) 1 e, .slice (some af) 1 f]] W (MdPost w h wb) := by
 have hm := heap_alloc_new W (.cells #[.string sM, .slice (some ae) 1 e, .slice (some af) 1 f] 128)
 have hb := below_alloc (Below.refl W.heap.size W) (.cells #[.string sM, .slice (some ae) 1 e, .slice (some af) 1 f] 128)
 have HP := Lib.hid hP
 have HM : Hid (MdF w (W.alloc (.cells #[.string sM, .slice (some ae) 1 e, .slice (some af) 1 f] 128)) h wb v [] W.heap.size ae af e f) := Lib.hid ⟨x.below hb, hm, fun e => by have := blk_lt x.hb; omega⟩
 clear hP x hm hb
 go_enter Tryz.func83, Tryz.ntmps83
 go_upto_region 1 with (fail)
 generalize W.alloc (.cells #[.string sM, .slice (some ae) 1 e, .slice (some af) 1 f] 128) = w1 at HM ⊢
 generalize W.heap.size = mb at HM ⊢
 have m0 : w1.cell? ⟨mb, 0, none⟩ = some (.string sM) := (blk_cell HM.out.m 0).trans rfl
 go_wp2_with fail
 refine (quote_fine sM fineM (by decide) plainM w1).mono ?_
 rintro e1 w2 ⟨rfl, hb⟩
 have HM2 := Lib.hid (HM.out.below hb)
 clear hb HM m0
 go_wp2_with fail
 have hs := heap_alloc_new w2 (.cells #[.string sModule, .string sM] 9)
 have HM3 := Lib.hid (HM2.out.below (below_alloc (Below.refl w2.heap.size w2) (.cells #[.string sModule, .string sM] 9)))
 obtain ⟨sb, hsb⟩ : ∃ sb, sb = w2.heap.size := ⟨_, rfl⟩
 rw [← hsb] at hs ⊢
 generalize w2.alloc (.cells #[.string sModule, .string sM] 9) = w3 at hs HM3 ⊢
 clear hsb HM2
 refine (wr_line [sModule, sM] #[.string sModule, .string sM] [] (wdV wb) v w.heap.size h sb 2 w3 (by decide) (by decide) (by intro s hs; simp only [List.mem_cons, List.not_mem_nil, or_false] at hs; rcases hs with rfl | rfl <;> decide) (HM3.out.x.ln hs (by intro i hi; rcases i with _ | _ | i <;> first | rfl | (simp at hi; omega)))).mono ?_
 rintro e1 w4 ⟨v1, rfl, hB, hh, ho, hO⟩
 have HM4 := Lib.hid (HM3.out.line (l1 := tx1) hB hh ho hO)
 clear hB hh ho hO hs HM3
 have m1 : w4.cell? ⟨mb, 1, none⟩ = some (.slice (some ae) 1 e) := (blk_cell HM4.out.m 1).trans rfl
 go_upto_region 5 with (fail)
 obtain ⟨eb, heb⟩ : ∃ eb, eb = w4.heap.size := ⟨_, rfl⟩
 have hR := R_oneS (W := w4) (base := eb) (ok := fun _ => True) sExport (by omega) trivial
 have hb := below_alloc (Below.refl w4.heap.size w4) (.cells #[.string sExport] 9)
 have HM5 := Lib.hid (HM4.out.below hb)
 replace m1 := cell_b hb m1
 rw [← heb] at hR hb ⊢
 generalize w4.alloc (.cells #[.string sExport] 9) = w5 at hR hb m1 HM5 ⊢
 have HE : Hid (eb = w4.heap.size) := Lib.hid heb
 have HR := Lib.hid hR
 have HB := Lib.hid hb
 clear hR hb heb
 have x0 := cell_b HM5.out.x.bl HP.out.x0
 have le := HP.out.le
 go_wp2_with fail
 refine wp_loop_rounds 2 ?_
 rw [rounds_succ]
 go_wp2_with fail
 refine (itoa0 w5).mono ?_
 rintro e1 w6 ⟨rfl, rfl⟩
 clear x0 m1 le
 go_wp2_with (at_builtin; refine Kd.R_append kS (w0 := w4) eb rfl (.tmp 37) (.tmp 40) 119 9 (.string ⟨#[]⟩) 16 rfl Tryz.underlying119 infoS rfl (by decide) (by decide) (.slice (some ⟨eb, 0, none⟩) 1 1) [sExport] s0 [.string s0] (fun _ => True) (fun _ => False) ?hs ?hx ?hp ?hok ?hfr ?hO ?hB ?hbs ?hl ?_; (case hs => rfl); (case hx => first | rfl | (simp [Act.eval]; done)); (case hp => exact rfl); (case hok => exact fun j hj => hj.elim); (case hfr => exact fun k hk => trivial); (case hO => exact HR.out); (case hB => exact HB.out); (case hbs => exact Nat.le_trans (Nat.le_of_eq HE.out) HB.out.size); (case hl => decide); intro v2 w7 ho hb hg hat; obtain ⟨gb, cap, rfl, _, _, arr, hc⟩ := Kd.R_form ho (by simp); have HA := Lib.hid (And.intro (R_twoS ho hc) hc); have HM7 := Lib.hid (HM4.out.below (by rw [← HE.out]; exact hb)); clear ho hb hg hat hc)
 clear HR HB HE HM4
 rw [rounds_succ]
 go_wp2_with fail
 refine (wr_line [sExport, s0] arr tx1 (wdV wb) v1 w.heap.size h gb cap w7 tx1_len (by decide) (by intro s hs; simp only [List.mem_cons, List.not_mem_nil, or_false] at hs; rcases hs with rfl | rfl <;> decide) (HM7.out.x.ln HA.out.2 HA.out.1)).mono ?_
 rintro e1 w8 ⟨v2, rfl, hB, hh, ho, hO⟩
 have HM8 := Lib.hid (HM7.out.line (l1 := tx2) hB hh ho hO)
 clear hB hh ho hO HA HM7
 have m2 : w8.cell? ⟨mb, 2, none⟩ = some (.slice (some af) 1 f) := (blk_cell HM8.out.m 2).trans rfl
 have n0 := cell_b HM8.out.x.bl HP.out.n0
 have n1 := cell_b HM8.out.x.bl HP.out.n1
 have n2 := cell_b HM8.out.x.bl HP.out.n2
 have n3 := cell_b HM8.out.x.bl HP.out.n3
 have lf := HP.out.lf
 go_wp2_with fail
 refine wp_loop_rounds 2 ?_
 rw [rounds_succ]
 go_upto_region 14 with (fail)
 obtain ⟨fb, hfb⟩ : ∃ fb, fb = w8.heap.size := ⟨_, rfl⟩
 have hf := heap_alloc_new w8 (.cells #[.string sF, .int .i64 1, .int .i64 1, .slice I 2 i] 135)
 have hfh : fb ≠ h := fun e => by have := blk_lt HM8.out.x.hb; omega
 have HX9 := Lib.hid (HM8.out.x.below (below_alloc (Below.refl w8.heap.size w8) (.cells #[.string sF, .int .i64 1, .int .i64 1, .slice I 2 i] 135)))
 rw [← hfb] at hf ⊢
 clear m2 n0 n1 n2 n3 lf hfb HM8
 generalize w8.alloc (.cells #[.string sF, .int .i64 1, .int .i64 1, .slice I 2 i] 135) = w9 at hf HX9 ⊢
 have f0 : w9.cell? ⟨fb, 0, none⟩ = some (.string sF) := (blk_cell hf 0).trans rfl
 go_wp2_with fail
 refine (quote_fine sF fineF (by decide) plainF w9).mono ?_
 rintro e1 w10 ⟨rfl, hb⟩
 have HX10 := Lib.hid (HX9.out.below hb)
 replace hf := (hb.block _ (blk_lt hf)).trans hf
 have HFB := Lib.hid (And.intro hf hfh)
 clear hb HX9 f0 hf hfh
 go_upto_region 15 with (fail)
 have HS : Hid (∀ W', Below w10.heap.size w10 W' → (W'.cell? ⟨fb, 1, none⟩ = some (.int .i64 1) ∧ W'.cell? ⟨fb, 2, none⟩ = some (.int .i64 1))) := Lib.hid fun W' hW => ⟨cell_b hW ((blk_cell HFB.out.1 1).trans rfl), cell_b hW ((blk_cell HFB.out.1 2).trans rfl)⟩
 have HLN : Hid (∀ W', Below w10.heap.size w10 W' → W'.heap[w10.heap.size]? = some (.cells #[.string sFun, .string sF, .string s1, .string s1] 9 (0, 0)) → Calls Tryz.prog 80 #[.pointer (some ⟨h, 0, none⟩), .slice (some ⟨w10.heap.size, 0, none⟩) 4 4] W' (fun e w' => e = .returned (.tuple #[]) ∧ ∃ v3, WrS w w' w.heap.size h wb v3 tx3 ∧ w'.heap[fb]? = some (.cells #[.string sF, .int .i64 1, .int .i64 1, .slice I 2 i] 135 (0, 0)))) :=
  Lib.hid fun W' hb hs => (wr_line [sFun, sF, s1, s1] #[.string sFun, .string sF, .string s1, .string s1] tx2 (wdV wb) v2 w.heap.size h w10.heap.size 4 W' tx2_len (by decide) (by intro s hs; simp only [List.mem_cons, List.not_mem_nil, or_false] at hs; rcases hs with rfl | rfl | rfl | rfl <;> decide) ((HX10.out.below hb).ln hs (by intro i hi; rcases i with _ | _ | _ | _ | i <;> first | rfl | (simp at hi; omega)))).mono fun e w' ⟨v3, he, hB, hh, ho, hO⟩ => ⟨he, v3, (HX10.out.below hb).next (l1 := tx3) hB hh ho hO, hO.at ((hb.block _ (blk_lt HFB.out.1)).trans HFB.out.1) HFB.out.2 (by decide)⟩
 go_region_held3 (fun W' => W'.cell? ⟨fb, 1, none⟩ = some (.int .i64 1) ∧ W'.cell? ⟨fb, 2, none⟩ = some (.int .i64 1)) (first | exact hqf | (refine HS.out _ ?_; first | exact Below.refl _ _ | exact (Below.refl _ _).drew | exact below_alloc (Below.refl _ _).drew _))
  ((first
   | (go_at_call 131; refine (itoa1 _).mono ?_; rintro e1 w11 ⟨rfl, rfl⟩)
   | (go_at_call 80; refine (HLN.out _ (by first | exact below_alloc (Below.refl _ _).drew _ | exact (below_alloc (Below.refl _ _) _).drew) (by first | exact heap_alloc_new w10.drew _ | exact heap_alloc_new w10 _)).mono ?_; rintro e1 w12 ⟨rfl, v3, hX, hf⟩; have hqf : w12.cell? ⟨fb, 1, none⟩ = some (.int .i64 1) ∧ w12.cell? ⟨fb, 2, none⟩ = some (.int .i64 1) := ⟨(blk_cell hf 1).trans rfl, (blk_cell hf 2).trans rfl⟩; have HX12 := Lib.hid hX; have HF12 := Lib.hid hf; clear hX hf)))
 clear HS HLN hqf HX10 HFB
 have f3 : w12.cell? ⟨fb, 3, none⟩ = some (.slice I 2 i) := (blk_cell HF12.out 3).trans rfl
 obtain ⟨ad, rfl, a0, a1, a2, a3, a4, a5⟩ := insL_at (Kd.C_below HP.out.ci HX12.out.bl)
 clear a0 a1 a2 a3 a4 a5
 go_wp2_with fail
 refine wp_loop_rounds 3 ?_
 rw [rounds_succ]
 clear f3 HF12
 obtain ⟨ad', hA', a0, a1, a2, a3, a4, a5⟩ := insL_at (Kd.C_below HP.out.ci HX12.out.bl)
 cases hA'
 have li := HP.out.li
 go_upto_region 19 with (fail)
 have hb := below_alloc (Below.refl w12.heap.size w12) (.cells #[.int .i64 2, .int .i64 0, .int .i64 0] 132)
 have b0 : (w12.alloc (.cells #[.int .i64 2, .int .i64 0, .int .i64 0] 132)).cell? ⟨w12.heap.size, 0, none⟩ = some (.int .i64 2) := by simp
 have b1 : (w12.alloc (.cells #[.int .i64 2, .int .i64 0, .int .i64 0] 132)).cell? ⟨w12.heap.size, 1, none⟩ = some (.int .i64 0) := by simp
 have b2 : (w12.alloc (.cells #[.int .i64 2, .int .i64 0, .int .i64 0] 132)).cell? ⟨w12.heap.size, 2, none⟩ = some (.int .i64 0) := by simp
 generalize w12.alloc (.cells #[.int .i64 2, .int .i64 0, .int .i64 0] 132) = w13 at hb b0 b1 b2 ⊢
 have HQ := Lib.hid (HX12.out.below hb)
 clear hb a0 a1 a2 a3 a4 a5 li HX12
 go_wp2_with fail
 refine (wr_load w w13 w.heap.size h wb v3 tx3 tx3_len HQ.out).mono ?_
 rintro e1 w14 ⟨v9, rfl, hB, hh, ho, hO⟩
 have HX14 := Lib.hid (HQ.out.next (l1 := tx4) hB hh ho hO)
 clear hB hh ho hO HQ b0 b1 b2
 go_wp2_with fail
 rw [rounds_succ]
 obtain ⟨ad', hA', a0, a1, a2, a3, a4, a5⟩ := insL_at (Kd.C_below HP.out.ci HX14.out.bl)
 cases hA'
 have li := HP.out.li
 go_upto_region 19 with (fail)
 have hb := below_alloc (Below.refl w14.heap.size w14) (.cells #[.int .i64 13, .int .i64 0, .int .i64 0] 132)
 have b0 : (w14.alloc (.cells #[.int .i64 13, .int .i64 0, .int .i64 0] 132)).cell? ⟨w14.heap.size, 0, none⟩ = some (.int .i64 13) := by simp
 have b1 : (w14.alloc (.cells #[.int .i64 13, .int .i64 0, .int .i64 0] 132)).cell? ⟨w14.heap.size, 1, none⟩ = some (.int .i64 0) := by simp
 have b2 : (w14.alloc (.cells #[.int .i64 13, .int .i64 0, .int .i64 0] 132)).cell? ⟨w14.heap.size, 2, none⟩ = some (.int .i64 0) := by simp
 generalize w14.alloc (.cells #[.int .i64 13, .int .i64 0, .int .i64 0] 132) = w15 at hb b0 b1 b2 ⊢
 have HQ := Lib.hid (HX14.out.below hb)
 clear hb a0 a1 a2 a3 a4 a5 li HX14
 go_wp2_with fail
 refine (wr_ret w w15 w.heap.size h wb v9 tx4 tx4_len HQ.out).mono ?_
 rintro e1 w16 ⟨v9, rfl, hB, hh, ho, hO⟩
 have HX16 := Lib.hid (HQ.out.next (l1 := tx5) hB hh ho hO)
 clear hB hh ho hO HQ b0 b1 b2
 go_wp2_with fail
 rw [rounds_succ]
 go_wp2_with fail
 refine (wr_long w w16 w.heap.size h wb _ tx5 tx5_len HX16.out).mono ?_
 rintro e1 w17 ⟨rfl, rfl⟩
 go_wp2_with fail
 rw [rounds_succ]
 go_wp2_with fail
 refine bodyPost_end (results_none rfl _ _ _) rfl ?_
 exact ⟨_, rfl, HX16.out⟩
end Go.Proofs.YtibbcfeaododhaaGreatDoor
set_option linter.unusedSimpArgs false
set_option linter.unusedVariables false
namespace Go.Proofs.YtibbcfeaododhaaGreatDoor
open Go.RowKit Go.Sort Go.Proofs.YtibbcfeaododhaaGreatDoorW.PrintWords Go.Proofs.YtibbcfeaododhaaGreatDoorW.PrintLast Go.Proofs.YtibbcfeaododhaaGreatDoorW.PrintMore
abbrev sText : ByteArray := ⟨#[109, 111, 100, 117, 108, 101, 32, 109, 10, 101, 120, 112, 111, 114, 116, 32, 48, 10, 102, 117, 110, 32, 102, 32, 49, 32, 49, 10, 32, 108, 111, 97, 100, 32, 48, 10, 32, 114, 101, 116, 117, 114, 110, 10]⟩
theorem tx5_text : strOfNums tx5 = sText := by decide +kernel
set_option maxRecDepth 100000 in
set_option maxHeartbeats 16000000 in
theorem code_Print (w : World) (A B : Option Addr) (c d : Nat) (h : OneAt w A c B d) (hA : Asc w) :
  Calls Tryz.prog 47 #[.agg #[.slice A 0 c, .slice B 1 d]] w fun e w' => e = .returned (.tuple #[.string sText, .nilIface]) ∧ Below w.heap.size w w' := by
 have c0 : (w.alloc (.cells #[.slice A 0 c, .slice B 1 d] 82)).cell? ⟨w.heap.size, 0, none⟩ = some (.slice A 0 c) := by simp
 have c1 : (w.alloc (.cells #[.slice A 0 c, .slice B 1 d] 82)).cell? ⟨w.heap.size, 1, none⟩ = some (.slice B 1 d) := by simp
 have hb := below_alloc (Below.refl w.heap.size w) (.cells #[.slice A 0 c, .slice B 1 d] 82)
 have HO := Lib.hid (h.below hb)
 have HA := Lib.hid (hA.below hb)
 clear h hA
 obtain ⟨am, ae, af, e, f, i, I, rfl, hP⟩ := prg_at HO.out.ms
 clear hP
 go_enter Tryz.func47, Tryz.ntmps47
 go_upto_region 1 with (fail)
 obtain ⟨xb, hxb⟩ : ∃ xb, xb = w.heap.size := ⟨_, rfl⟩
 rw [← hxb] at c0 c1 ⊢
 generalize w.alloc (.cells #[.slice A 0 c, .slice (some am) 1 d] 82) = w1 at c0 c1 hb HO HA ⊢
 have HB := Lib.hid hb
 clear hb hxb
 go_wp2_with fail
 refine (code_Check w1 _ _ _ _ HO.out HA.out).mono ?_
 rintro e1 w2 ⟨rfl, hb⟩
 replace c0 := cell_b hb c0
 replace c1 := cell_b hb c1
 have HO2 := Lib.hid (HO.out.below hb)
 have HA2 := Lib.hid (HA.out.below hb)
 have HB2 := Lib.hid (trans_below HB.out hb)
 clear hb HO HA HB
 go_wp2_with fail
 refine (fields_ascii sNames (by decide +kernel) (by decide +kernel) w2 HA2.out).mono ?_
 rintro e1 w3 ⟨rfl, hb, hwd⟩
 rw [names_len]
 replace c0 := cell_b hb c0
 replace c1 := cell_b hb c1
 obtain ⟨am', ae', af', e', f', i', I', hA', hP⟩ := prg_at (HO2.out.below hb).ms
 cases hA'
 have HP3 := Lib.hid hP
 have HB3 := Lib.hid (trans_below HB2.out hb)
 obtain ⟨wb, hwb⟩ : ∃ wb, wb = w2.heap.size := ⟨_, rfl⟩
 rw [← hwb] at hwd ⊢
 have HW := Lib.hid hwd
 clear hb hP HO2 HA2 HB2 hwb hwd
 go_upto_region 5 with (fail)
 obtain ⟨h, hh⟩ : ∃ h, h = w3.heap.size := ⟨_, rfl⟩
 have hbx := below_alloc (Below.refl w3.heap.size w3) (.cells #[.slice none 0 0, wdV wb] 122)
 have hx : WrS w3 (w3.alloc (.cells #[.slice none 0 0, wdV wb] 122)) w3.heap.size h wb (.slice none 0 0) [] := ⟨hbx, by rw [hh]; exact heap_alloc_new w3 _, own_nil _ _ _ _, (hbx.block _ (blk_lt HW.out)).trans HW.out, Oth.below hbx, Nat.le_refl _, Nat.le_of_eq hh.symm⟩
 replace c0 := cell_b hbx c0
 replace c1 := cell_b hbx c1
 rw [← hh] at ⊢
 generalize w3.alloc (.cells #[.slice none 0 0, .slice (some ⟨wb, 0, none⟩) 29 29] 122) = w4 at hx c0 c1 ⊢
 have HX := Lib.hid hx
 clear hx hbx hh HW
 go_wp2_with fail
 refine wp_loop_rounds 1 ?_
 rw [rounds_succ]
 go_wp2_with fail
 refine wp_loop_rounds 2 ?_
 rw [rounds_succ]
 have m0 := cell_b HX.out.bl HP3.out.m0
 have m1 := cell_b HX.out.bl HP3.out.m1
 have m2 := cell_b HX.out.bl HP3.out.m2
 go_upto_region 16 with (fail)
 have hb := below_alloc (Below.refl w4.heap.size w4) (.cells #[.string sM, .slice (some ae') 1 e', .slice (some af') 1 f'] 128)
 have b0 : (w4.alloc (.cells #[.string sM, .slice (some ae') 1 e', .slice (some af') 1 f'] 128)).cell? ⟨w4.heap.size, 0, none⟩ = some (.string sM) := by simp
 have b1 : (w4.alloc (.cells #[.string sM, .slice (some ae') 1 e', .slice (some af') 1 f'] 128)).cell? ⟨w4.heap.size, 1, none⟩ = some (.slice (some ae') 1 e') := by simp
 have b2 : (w4.alloc (.cells #[.string sM, .slice (some ae') 1 e', .slice (some af') 1 f'] 128)).cell? ⟨w4.heap.size, 2, none⟩ = some (.slice (some af') 1 f') := by simp
 generalize w4.alloc (.cells #[.string sM, .slice (some ae') 1 e', .slice (some af') 1 f'] 128) = w5 at hb b0 b1 b2 ⊢
 have HX5 := Lib.hid (HX.out.below hb)
 clear hb c0 c1 m0 m1 m2 HX
 go_wp2_with fail
 refine (wr_module w3 w5 h wb _ am ae' af' e' f' i' I' HP3.out HX5.out).mono ?_
 rintro e1 w6 ⟨v1, rfl, hx⟩
 have HX6 := Lib.hid hx
 clear hx HX5 b0 b1 b2
 go_wp2_with fail
 refine (wr_long w3 w6 w3.heap.size h wb v1 tx5 tx5_len HX6.out).mono ?_
 rintro e1 w7 ⟨rfl, rfl⟩
 go_wp2_with fail
 rw [rounds_succ]
 have k0 : w7.cell? ⟨h, 0, none⟩ = some v1 := (blk_cell HX6.out.hb 0).trans rfl
 have hcv := own_string (P := Tryz.prog) (src := 104) (dst := 9) Tryz.underlying104 Tryz.underlying5 Tryz.underlying9 HX6.out.ob
 rw [tx5_text] at hcv
 go_wp2_with fail
 go_ret2
 exact ⟨rfl, HB3.out.trans (HX6.out.bl.mono HB3.out.size)⟩
end Go.Proofs.YtibbcfeaododhaaGreatDoor
set_option linter.unusedSimpArgs false
set_option linter.unusedVariables false
namespace Go.Proofs.YtibbcfeaododhaaGreatDoor
open Go.RowKit Go.Sort Go.Proofs.YtibbcfeaododhaaGreatDoorW.PrintWords Go.Proofs.YtibbcfeaododhaaGreatDoorW.PrintLast Go.Proofs.YtibbcfeaododhaaGreatDoorW.PrintMore
/-- The reference's search. -/
theorem refAct_loop (nm : ByteArray) (ar : Int) (xs : List Bf) (hx : xs.length ≤ 1000) : ∀ (d k i : Nat), xs.length - i = d → d < k → i ≤ xs.length →
  PCa.heddleref15_Act.l0 k nm ar xs (i : Int) = some (match (xs.drop i).findIdx? (isAct nm ar) with
   | some j => (((i + j : Nat) : Int), true)
   | none => (0, false))
 | 0, k + 1, i, hd, hk, hi => by
  have e : i = xs.length := by omega
  subst e
  rw [PCa.heddleref15_Act.l0, if_neg (by omega), List.drop_length]
  rfl
 | d + 1, k + 1, i, hd, hk, hi => by
  have hlt : i < xs.length := by omega
  rw [PCa.heddleref15_Act.l0, if_pos (by omega), if_pos (by omega), rdBf_at hlt, List.drop_eq_getElem_cons hlt, List.findIdx?_cons]
  have hw : wrap64 ((i : Int) + 1) = ((i + 1 : Nat) : Int) := by rw [IntWalk.wrap64_in _ (by omega)]; omega
  have ih := refAct_loop nm ar xs hx d k (i + 1) (by omega) (by omega) hlt
  rw [← hw] at ih
  have hn : (match (xs.drop (i + 1)).findIdx? (isAct nm ar) with
   | some j => (((i + 1 + j : Nat) : Int), true)
   | none => ((0 : Int), false)) = (match Option.map (fun j => j + 1) ((xs.drop (i + 1)).findIdx? (isAct nm ar)) with
   | some j => (((i + j : Nat) : Int), true)
   | none => ((0 : Int), false)) := by
   cases (xs.drop (i + 1)).findIdx? (isAct nm ar) with
   | none => rfl
   | some j => simp only [Option.map_some, Prod.mk.injEq, and_true]; omega
  rw [hn] at ih
  by_cases e0 : xs[i].f0.toList = nm.toList
  ·rw [if_pos e0]
   by_cases e1 : xs[i].f1 = ar
   ·have hp : isAct nm ar xs[i] = true := by unfold isAct; rw [e0, e1]; simp
    rw [if_pos e1, hp]
    rfl
   ·have hp : isAct nm ar xs[i] = false := by
     unfold isAct
     rw [show (xs[i].f1 == ar) = false from beq_eq_false_iff_ne.2 e1, Bool.and_false]
    rw [if_neg e1, hp, ih]
    rfl
  ·have hp : isAct nm ar xs[i] = false := by
    unfold isAct
    rw [show (xs[i].f0.toList == nm.toList) = false from beq_eq_false_iff_ne.2 e0, Bool.false_and]
   rw [if_neg e0, hp, ih]
   rfl
theorem acts_len : actsL.length = 17 := by kernel_rfl
theorem refAct_some (nm : ByteArray) (ar : Int) : PCa.heddleref15_Act.f 60 nm ar = some (if idxOf (isAct nm ar) actsL < 0 then 0 else idxOf (isAct nm ar) actsL, decide (0 ≤ idxOf (isAct nm ar) actsL)) := by
 unfold PCa.heddleref15_Act.f
 rw [refActs_some]
 have h := refAct_loop nm ar actsL (by rw [acts_len]; omega) 17 60 0 (by rw [acts_len]) (by omega) (by omega)
 rw [List.drop_zero] at h
 show PCa.heddleref15_Act.l0 60 nm ar actsL 0 = _
 rw [show (0 : Int) = ((0 : Nat) : Int) from rfl, h]
 unfold idxOf
 cases List.findIdx? (isAct nm ar) actsL with
 | none => rfl
 | some j =>
  simp only [Nat.zero_add]
  rw [if_neg (by omega), decide_eq_true (by omega)]
theorem eqBf (d : Nat) (w : World) (x0 y0 : ByteArray) (x1 y1 x2 y2 : Int) (x3 y3 : Bool) :
  (Op.equalIn (d + 2) 44 (.agg #[.string x0, .int .i64 x1, .int .i64 x2, .bool x3]) (.agg #[.string y0, .int .i64 y1, .int .i64 y2, .bool y3])).run Tryz.prog w = .ok (x0.toList == y0.toList && (x1 == y1 && (x2 == y2 && (x3 == y3)))) w := by
 refine eqA_of Tryz.underlying44 (by kernel_rfl) ?_
 refine eqf_cons (by rfl) (by go_simp; rfl) (by go_simp; rfl) (by go_simp) ?_
 refine eqf_cons (by rfl) (by go_simp; rfl) (by go_simp; rfl) (by go_simp) ?_
 refine eqf_cons (by rfl) (by go_simp; rfl) (by go_simp; rfl) (by go_simp) ?_
 exact eqf_last (by rfl) (by go_simp; rfl) (by go_simp; rfl) (by go_simp)
theorem neqBf (x : Bf) (w : World) : (binOp .neq 44 (bfV x) (bfV x)).run Tryz.prog w = .ok (.bool false) w := by
 have h := eqBf 9998 w x.f0 x.f0 x.f1 x.f1 x.f2 x.f2 x.f3 x.f3
 have he : (x.f0.toList == x.f0.toList && (x.f1 == x.f1 && (x.f2 == x.f2 && (x.f3 == x.f3)))) = true := by simp
 rw [he] at h
 simp only [binOp]
 simp [Op.equal, Op.maxDepth, h]
def TruePost (w : World) (e : Ending) (w' : World) : Prop := e = .returned (.bool true) ∧ Below w.heap.size w w'
set_option maxHeartbeats 4000000 in
set_option maxRecDepth 100000 in
theorem walk_CodeActs (nm : ByteArray) (ar : Int) (w : World) (hal : ∀ W, Below w.heap.size w W → Calls Tryz.prog 20 #[] W (TruePost W)) :
  Calls Tryz.prog 5 #[.string nm, .int .i64 ar] w (TruePost w) := by
 have HAL := Lib.hid hal
 have HRA := Lib.hid fun W => PCa.heddleref15_Acts.calls 60 actsL W refActs_some
 have HRF := Lib.hid fun W => PCa.heddleref15_Act.calls 60 nm ar _ _ W (refAct_some nm ar)
 have HCF := Lib.hid fun W => code_Act nm ar W
 have HCA := Lib.hid fun W => code_Acts W
 have HLL : Hid (actsL.length = 17) := Lib.hid acts_len
 clear hal
 generalize idxOf (isAct nm ar) actsL = q at HRF HCF
 generalize (if q < 0 then 0 else q) = q1 at HRF HCF
 generalize decide (0 ≤ q) = q2 at HRF HCF
 generalize actsL = xs at *
 go_enter Tryz.func5, Tryz.ntmps5
 go_wp2_with fail
 refine (HCA.out _).mono ?_
 rintro e w1 ⟨v, rfl, hR1, hB1⟩
 obtain ⟨A, c, rfl, _, hC1⟩ := Kd.R_reads hR1
 have HC1 := Lib.hid hC1
 have HB1 := Lib.hid hB1
 clear hR1 hC1 hB1
 go_wp2_with fail
 refine (HRA.out _).mono ?_
 rintro e w2 ⟨u, rfl, hR2, hB2⟩
 obtain ⟨B, d, rfl, _, hC2⟩ := Kd.R_reads hR2
 replace HC1 := Lib.hid (Kd.C_below HC1.out hB2)
 have HC2 := Lib.hid hC2
 have HB2 := Lib.hid (trans_below HB1.out hB2)
 clear hR2 hC2 hB2 HB1 HCA HRA
 go_wp2
 go_loopg [7] xs.length (fun gg s7 wl => ∃ i : Nat, s7 = .int .i64 i ∧ i ≤ xs.length ∧ xs.length - i ≤ gg ∧ Hid (Below w2.heap.size w2 wl))
 case atStart => exact ⟨0, rfl, Nat.zero_le _, by omega, Lib.hid (Below.refl _ _)⟩
 case round =>
  obtain ⟨i, rfl, hi, hg, HBL⟩ := hrel
  have HG := Lib.hid hg
  clear hg
  by_cases hlt : i < xs.length
  ·have y0 : (0 : Int) ≤ (i : Int) := by omega
   have y1 : (i : Int) < (xs.length : Int) := by omega
   have hll := HLL.out
   obtain ⟨a1, hA, q0, q1, q2, q3⟩ := PCa.at_T44 HC1.out (i : Int) y0 y1
   obtain ⟨a2, hB, z0, z1, z2, z3⟩ := PCa.at_T44 HC2.out (i : Int) y0 y1
   cases hA
   cases hB
   simp only [Int.toNat_natCast] at q0 q1 q2 q3 z0 z1 z2 z3
   have hbl := HBL.out
   replace q0 := (hbl.cell (World.block_lt_of_cell? w2 _ q0)).trans q0
   replace q1 := (hbl.cell (World.block_lt_of_cell? w2 _ q1)).trans q1
   replace q2 := (hbl.cell (World.block_lt_of_cell? w2 _ q2)).trans q2
   replace q3 := (hbl.cell (World.block_lt_of_cell? w2 _ q3)).trans q3
   replace z0 := (hbl.cell (World.block_lt_of_cell? w2 _ z0)).trans z0
   replace z1 := (hbl.cell (World.block_lt_of_cell? w2 _ z1)).trans z1
   replace z2 := (hbl.cell (World.block_lt_of_cell? w2 _ z2)).trans z2
   replace z3 := (hbl.cell (World.block_lt_of_cell? w2 _ z3)).trans z3
   have hq := neqBf (PCa.rd_T44 xs (i : Int))
   unfold bfV at hq
   generalize PCa.rd_T44 xs (i : Int) = x at *
   clear hbl
   go_wp2_with fail
   go_quiet (fail)
   go_wp2_with fail
   go_roundg (xs.length - (i + 1))
   case measure => have := HG.out; omega
   case rel => exact ⟨i + 1, by go_num, hlt, Nat.le_refl _, Lib.hid (trans_below HBL.out (by repeat (first | exact Below.refl _ _ | apply pw_below_drewN)))⟩
  ·have y1 : ¬ (i : Int) < (xs.length : Int) := by omega
   have HBW := Lib.hid (trans_below HB2.out HBL.out)
   clear HB2 HBL HC1 HC2 HG
   go_wp2_with fail
   refine (HCF.out _).mono ?_
   rintro e w3 ⟨rfl, hb⟩
   replace HBW := Lib.hid (trans_below HBW.out hb)
   clear hb
   go_wp2_with fail
   refine (HRF.out _).mono ?_
   rintro e w4 ⟨rfl, hb⟩
   replace HBW := Lib.hid (trans_below HBW.out hb)
   clear hb HRF HCF
   go_wp2_with fail
   refine (HAL.out _ HBW.out).mono ?_
   rintro e w5 ⟨rfl, hb⟩
   replace HBW := Lib.hid (trans_below HBW.out hb)
   go_wp2
   go_ret
   exact ⟨rfl, HBW.out⟩
end Go.Proofs.YtibbcfeaododhaaGreatDoor
set_option linter.unusedSimpArgs false
set_option linter.unusedVariables false
namespace Go.Proofs.YtibbcfeaododhaaGreatDoor
open Go.RowKit Go.Sort Go.Proofs.YtibbcfeaododhaaGreatDoorW.PrintWords Go.Proofs.YtibbcfeaododhaaGreatDoorW.PrintLast Go.Proofs.YtibbcfeaododhaaGreatDoorW.PrintMore
/-- The one program, made anew. -/
def OnePost (w : World) (e : Ending) (w' : World) : Prop := ∃ A c B d, e = .returned (.agg #[.slice A 0 c, .slice B 1 d]) ∧ OneAt w' A c B d ∧ Below w.heap.size w w'
theorem law_one (w : World) : Calls Tryz.prog 48 #[] w (OnePost w) := by
 refine (PCa.heddlelaw15_one.calls [] [mod0] w one_some).mono ?_
 rintro e w' ⟨v0, v1, rfl, h0, h1, hb⟩
 obtain ⟨A, c, rfl, _, hA⟩ := Kd.N_reads h0
 obtain ⟨B, d, rfl, _, hB⟩ := Kd.N_reads h1
 exact ⟨A, c, B, d, rfl, ⟨hA, hB⟩, hb⟩
abbrev sSelf : ByteArray := ⟨#[115, 101, 108, 102]⟩
theorem act_self (w : World) : Calls Tryz.prog 18 #[.string sSelf, .int .i64 0] w fun e w' => e = .returned (.tuple #[.int .i64 0, .bool true]) ∧ Below w.heap.size w w' := by
 have h := code_Act sSelf 0 w
 have e : idxOf (isAct sSelf 0) actsL = 0 := by kernel_rfl
 rw [e] at h
 exact h
set_option maxRecDepth 100000 in
set_option maxHeartbeats 4000000 in
theorem law_alive (w : World) (hA : Asc w) : Calls Tryz.prog 20 #[] w (TruePost w) := by
 have HA := Lib.hid hA
 clear hA
 go_enter Tryz.func20, Tryz.ntmps20
 go_wp2_with fail
 refine (law_one w).mono ?_
 rintro e1 w1 ⟨A1, c1, B1, d1, rfl, hO, hb⟩
 have HO := Lib.hid hO
 have HA1 := Lib.hid (HA.out.below hb)
 have HB1 := Lib.hid hb
 clear hO hb
 go_wp2_with fail
 refine (code_Print w1 _ _ _ _ HO.out HA1.out).mono ?_
 rintro e1 w2 ⟨rfl, hb⟩
 have HA2 := Lib.hid (HA1.out.below hb)
 have HB2 := Lib.hid (trans_below HB1.out hb)
 clear hb HO HA1 HB1
 go_wp2_with fail
 refine (law_one w2).mono ?_
 rintro e1 w3 ⟨A3, c3, B3, d3, rfl, hO, hb⟩
 have HO3 := Lib.hid hO
 have HA3 := Lib.hid (HA2.out.below hb)
 have HB3 := Lib.hid (trans_below HB2.out hb)
 clear hO hb HA2 HB2
 go_wp2_with fail
 refine (code_Height w3 _ _ _ _ HO3.out HA3.out).mono ?_
 rintro e1 w4 ⟨rfl, hb⟩
 have HA4 := Lib.hid (HA3.out.below hb)
 have HB4 := Lib.hid (trans_below HB3.out hb)
 clear hb HO3 HA3 HB3
 go_wp2_with fail
 refine (act_self w4).mono ?_
 rintro e1 w5 ⟨rfl, hb⟩
 have HA5 := Lib.hid (HA4.out.below hb)
 have HB5 := Lib.hid (trans_below HB4.out hb)
 clear hb HA4 HB4
 go_wp2_with fail
 refine (law_one w5).mono ?_
 rintro e1 w6 ⟨A6, c6, B6, d6, rfl, hO, hb⟩
 have HO6 := Lib.hid hO
 have HA6 := Lib.hid (HA5.out.below hb)
 have HB6 := Lib.hid (trans_below HB5.out hb)
 clear hO hb HA5 HB5
 go_wp2_with fail
 refine (code_Check w6 _ _ _ _ HO6.out HA6.out).mono ?_
 rintro e1 w7 ⟨rfl, hb⟩
 have HB7 := Lib.hid (trans_below HB6.out hb)
 clear hb HO6 HA6 HB6
 go_wp2_with fail
 go_ret
 exact ⟨rfl, HB7.out⟩
theorem law_CodeActs (nm : ByteArray) (ar : Int) (w : World) (hA : Asc w) : Calls Tryz.prog 5 #[.string nm, .int .i64 ar] w (TruePost w) :=
 walk_CodeActs nm ar w fun W hb => law_alive W (hA.below hb)
end Go.Proofs.YtibbcfeaododhaaGreatDoor
