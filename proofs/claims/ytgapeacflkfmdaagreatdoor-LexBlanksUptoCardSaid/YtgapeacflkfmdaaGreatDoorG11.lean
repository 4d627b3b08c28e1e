/-
  Quoted texts of atoms: atom.Quote, heddleref01.Quote. heddleref01.Quote. heddleref10.word; the head of a chain.
-/
import Derived.Test.YtgapeacflkfmdaaGreatDoorG9
import Derived.Test.YtgapeacflkfmdaaGreatDoorG3
import Derived.Test.YtgapeacflkfmdaaGreatDoorG4
namespace Go.Proofs.YtgapeacflkfmdaaGreatDoor
open Go.RowKit Go.Proofs.YtgapeacflkfmdaaGreatDoorW.PrintWords

def hexD (n : Int) : Int := if n < 10 then 48 + n else 87 + n
/-- A byte as it stands in a quoted atom. -/
def qB (c : Int) : List Int :=
  if c = 39 ∨ c = 92 then [92, c] else if c = 10 then [92, 110] else if c = 9 then [92, 116] else if c = 13 then [92, 114]
  else if c < 32 ∨ c = 127 then [92, 120, hexD (c / 16), hexD (c % 16)] else [c]
def qPre (s : ByteArray) (k : Nat) : List Int := 39 :: ((bs s).take k).flatMap qB
def quoteOf (s : ByteArray) : List Int := 39 :: ((bs s).flatMap qB ++ [39])
def quoted (s : ByteArray) : ByteArray × List Lk :=
  if s.size > 255 then (⟨#[]⟩, [⟨nAtom, 0, 4⟩])
  else if 0 ≤ utfBad s 0 then (⟨#[]⟩, [⟨nAtom, utfBad s 0, 23⟩])
  else if isPlain s then (s, []) else (strOfNums (quoteOf s), [])
def StrPost (w : World) (r : ByteArray × List Lk) (e : Ending) (w' : World) : Prop := ∃ v, e = .returned (.tuple #[.string r.1, v]) ∧ ErrIs w' r.2 v ∧ Below w.heap.size w w'
def StrR (w : World) (r : ByteArray × List Lk) (e : Ending) (w' : World) : Prop := ∃ v, e = .returned (.tuple #[.string r.1, v]) ∧ LnIs w' w.heap.size r.2 v ∧ Below w.heap.size w w'

theorem qB_len (c : Int) : (qB c).length ≤ 4 := by
  unfold qB
  repeat' split
  all_goals simp
theorem flat_len : ∀ l : List Int, (l.flatMap qB).length ≤ 4 * l.length
  | [] => by simp
  | c :: l => by
    have h1 := qB_len c
    have h2 := flat_len l
    simp only [List.flatMap_cons, List.length_append, List.length_cons]
    omega
theorem qPre_len (s : ByteArray) (k : Nat) : (qPre s k).length ≤ 1 + 4 * k := by
  have h1 := flat_len ((bs s).take k)
  have h2 : ((bs s).take k).length ≤ k := List.length_take_le _ _
  unfold qPre
  simp only [List.length_cons]
  omega
theorem qPre_succ {s : ByteArray} {k : Nat} (h : k < s.size) : qPre s (k + 1) = qPre s k ++ qB (bt s (k : Int)) := by
  unfold qPre
  rw [List.take_succ_eq_append_getElem (by rw [bs_len]; exact h), bs_get s k h]
  simp
theorem qPre_end {s : ByteArray} {k : Nat} (h : s.size ≤ k) : qPre s k ++ [39] = quoteOf s := by
  unfold qPre quoteOf
  rw [List.take_of_length_le (by rw [bs_len]; exact h)]
  rfl
section
variable {P : Program} {ops : Array Oper} {rest : List Oper} {o : Oper} {a : Act} {Q : Exit → Act → World → Prop}
/-- append of a literal row of bytes -/
theorem append_lit {w0 W : World} (base : Nat) (hgd : o.guard = none) (s x : Operand) (t e : TypeId)
    (ho : o.op = .call { callee := .builtin .append, args := #[s, x], argTypes := #[t, t] })
    (ht : P.underlying t = some (.slice e)) (hinfo : (P.info? e).map (fun i => (i.zero, i.size, i.bytes)) = some (some (.int .u8 0), 1, 1))
    (v : Value) (xs ys : List Int) (hs : a.eval s = v) (hx : a.eval x = .slice (some ⟨W.heap.size, 0, none⟩) ys.length ys.length)
    (HO : W.ownsRow base e 1 v xs.length (nums .u8 xs)) (HB : Below base w0 W) (hbase : base ≤ W.heap.size) (hl : xs.length + ys.length ≤ 140737488355328)
    (h : ∀ v1 w1, w1.ownsRow base e 1 v1 (xs ++ ys).length (nums .u8 (xs ++ ys)) → Below base w0 w1 → W.grownBy w1 v.ownBlock → wpList P ops Q rest (a.put o.dst v1) w1) :
    wpList P ops Q (o :: rest) a (W.alloc (.cells (nums .u8 ys).toArray e)) :=
  print_append_row base hgd s x t e .u8 1 ho ht hinfo (by decide) v xs ys (some ⟨W.heap.size, 0, none⟩) ys.length ys.length hs hx (HO.alloc _)
    (own_reads' (own_lit W base e .u8 ys hbase (by omega))) (HB.alloc hbase _) (by simp; omega) (by omega)
    fun v1 w1 ho hb hg _ => h v1 w1 ho hb (World.grownBy.trans (World.grownBy_alloc W _ _) hg)
end
theorem ne_marked {w : World} {base : Nat} {e : TypeId} {size n bb : Nat} {v : Value} {xs : List Value} {C : Array Value} {e' m : Nat} (h : w.ownsRow base e size v n xs) (hb : w.heap[bb]? = some (.cells C e' (m, m + 1))) : some bb ≠ v.ownBlock := by
  rcases h.2 with ⟨rfl, _⟩ | ⟨g, cap, cur, rfl, _, hg, _⟩
  · simp [Value.ownBlock]
  · intro he
    simp only [Value.ownBlock, Option.some.injEq] at he
    subst he
    rw [hg] at hb
    injection hb with hb
    injection hb with _ _ hm
    injection hm with h1 h2
    omega
theorem grown_heap {w w' : World} {row : Option Nat} {b : Nat} (h : w.grownBy w' row) (hb : b < w.heap.size) (hne : some b ≠ row) : w'.heap[b]? = w.heap[b]? := h.block b hb hne
theorem cell_heap {w w' : World} {b j : Nat} (h : w'.heap[b]? = w.heap[b]?) : w'.cell? ⟨b, j, none⟩ = w.cell? ⟨b, j, none⟩ := by
  simp [World.cell?, h]

theorem bytes_cell (W : World) (e : TypeId) (s : ByteArray) (k : Nat) (h : k < s.size) : (Lib.bytesWorld W e s).cell? ⟨W.heap.size, k, none⟩ = some (.int .u8 (bt s (k : Int))) := by
  rw [Lib.bytesWorld_cell W e s k h]
  have h1 := rd_bytesOf s (k : Int)
  rw [← h1]
  have h' : k < s.data.toList.length := by rw [← Lib.size_eq]; exact h
  simp [rd, bytesOf, List.getD_eq_getElem?_getD, List.getElem?_eq_getElem h']

theorem heap_alloc_old (W : World) (o : Obj) (b : Nat) (h : b < W.heap.size) : (W.alloc o).drew.heap[b]? = W.heap[b]? := by
  show (W.alloc o).heap[b]? = _
  simp only [World.alloc]
  rw [Array.getElem?_push_lt h, Array.getElem?_eq_getElem h]
theorem own_hex {w5 : World} {base : Nat} {e : TypeId} {v : Value} {xs : List Int} {a b : Int} (h : w5.ownsRow base e 1 v (xs.length + 4) (nums .u8 xs ++ [.int .u8 92, .int .u8 120, .int .u8 a, .int .u8 b])) :
    w5.ownsRow base e 1 v (xs ++ [92, 120, a, b]).length (nums .u8 (xs ++ [92, 120, a, b])) := by
  rw [nums_append, List.length_append]
  exact h
theorem one_four (a b : Int) : ∀ u ∈ [Value.int .u8 92, .int .u8 120, .int .u8 a, .int .u8 b], u.oneCell' = true := by
  intro u hu
  simp only [List.mem_cons, List.not_mem_nil, or_false] at hu
  rcases hu with rfl | rfl | rfl | rfl <;> rfl
theorem and_fifteen {c : Int} (h0 : 0 ≤ c) (h1 : c ≤ 255) : bits BinOp.and .u8 c 15 = c % 16 := by
  rw [u8_and c 15 h0 (by omega) (by decide) (by decide)]
  have := Nat.and_two_pow_sub_one_eq_mod c.toNat 4
  simp only [show (2 ^ 4 - 1 : Nat) = 15 from rfl, show (2 ^ 4 : Nat) = 16 from rfl] at this
  rw [show (15 : Int).toNat = 15 from rfl, this]
  omega
theorem hex_index (D : Int) (h0 : 0 ≤ D) (h1 : D < 16) (w : World) : (Instr.index 9 (.string ⟨#[48, 49, 50, 51, 52, 53, 54, 55, 56, 57, 97, 98, 99, 100, 101, 102]⟩) (.int .u8 D)).run Tryz.prog w = .ok (.int .u8 (hexD D)) w := by
  obtain ⟨n, rfl⟩ := Int.eq_ofNat_of_zero_le h0
  have : n < 16 := by omega
  obtain rfl | rfl | rfl | rfl | rfl | rfl | rfl | rfl | rfl | rfl | rfl | rfl | rfl | rfl | rfl | rfl : n = 0 ∨ n = 1 ∨ n = 2 ∨ n = 3 ∨ n = 4 ∨ n = 5 ∨ n = 6 ∨ n = 7 ∨ n = 8 ∨ n = 9 ∨ n = 10 ∨ n = 11 ∨ n = 12 ∨ n = 13 ∨ n = 14 ∨ n = 15 := by omega
  all_goals (show _ = _; kernel_rfl)

set_option maxRecDepth 100000 in
set_option maxHeartbeats 4000000 in
theorem atom_Quote (s : ByteArray) (hm : s.size ≤ 140737488351232) (w : World) (hG : Glob w) :
    Calls Tryz.prog 61 #[.string s] w (StrPost w (quoted s)) := by
  obtain ⟨R, hR⟩ : ∃ R, R = quoted s := ⟨_, rfl⟩
  rw [← hR]
  unfold quoted at hR
  have HST := Lib.hid (strange_any s w hG)
  clear hG
  by_cases hl : s.size > 255
  · have hd : decide ((s.size : Int) > 255) = true := decide_eq_true (by omega)
    rw [if_pos hl] at hR
    have HQ := Lib.hid hR
    clear hR hl
    go_enter Tryz.func61, Tryz.ntmps61
    go_wp2_with fail
    refine (atom_refused _ _ _).mono ?_
    rintro e w1 ⟨ve, rfl, hE, hB1⟩
    have HE := Lib.hid hE
    have HB1 := Lib.hid hB1
    clear hE hB1
    go_wp2_with fail
    go_ret2
    exact ⟨_, by rw [HQ.out]; rfl, by rw [HQ.out]; exact HE.out, HB1.out⟩
  · have hd : decide ((s.size : Int) > 255) = false := decide_eq_false (by omega)
    rw [if_neg hl] at hR
    have hs255 : s.size ≤ 255 := by omega
    by_cases hu : 0 ≤ utfBad s 0
    · have hd2 : decide (utfBad s 0 ≥ 0) = true := decide_eq_true hu
      rw [if_pos hu] at hR
      have HQ := Lib.hid hR
      clear hR hl hu
      go_enter Tryz.func61, Tryz.ntmps61
      go_wp2_with fail
      refine HST.out.mono ?_
      rintro e w1 ⟨rfl, hB0⟩
      have HB0 := Lib.hid hB0
      clear hB0
      go_wp2_with fail
      refine (atom_refused _ _ _).mono ?_
      rintro e w2 ⟨ve, rfl, hE, hB1⟩
      have HE := Lib.hid hE
      have HB1 := Lib.hid (trans_below HB0.out hB1)
      clear hE hB1
      go_wp2_with fail
      go_ret2
      exact ⟨_, by rw [HQ.out]; rfl, by rw [HQ.out]; exact HE.out, HB1.out⟩
    · have hd2 : decide (utfBad s 0 ≥ 0) = false := decide_eq_false hu
      rw [if_neg hu] at hR
      cases hp : isPlain s with
      | true =>
        rw [hp, if_pos rfl] at hR
        have HQ := Lib.hid hR
        clear hR hl hu
        go_enter Tryz.func61, Tryz.ntmps61
        go_wp2_with fail
        refine HST.out.mono ?_
        rintro e w1 ⟨rfl, hB0⟩
        have HB0 := Lib.hid hB0
        clear hB0
        go_wp2_with fail
        refine (atom_plain _ hm _).mono ?_
        rintro e w' ⟨rfl, rfl⟩
        go_wp2_with fail
        go_ret2
        exact ⟨_, by rw [HQ.out]; rfl, by rw [HQ.out]; rfl, HB0.out⟩
      | false =>
        rw [hp, if_neg (by simp)] at hR
        have HQ := Lib.hid hR
        have kb := fun W => print_bytes (P := Tryz.prog) 9 49 5 Tryz.underlying9 Tryz.underlying49 Tryz.underlying5 s W
        clear hR hl hu
        go_enter Tryz.func61, Tryz.ntmps61
        go_wp2_with fail
        refine HST.out.mono ?_
        rintro e w1 ⟨rfl, hB0⟩
        have HB0 := Lib.hid hB0
        clear hB0
        go_wp2_with fail
        refine (atom_plain _ hm _).mono ?_
        rintro e w' ⟨rfl, rfl⟩
        go_wp2_with fail
        have hb1 : w.heap.size ≤ w1.heap.size := HB0.out.size
        have ho0 := pw_own_below (own_lit w1 w.heap.size 5 .u8 [39] hb1 (by decide)) (Lib.bytesWorld_below (w1.alloc (.cells (nums .u8 [39]).toArray 5)) 5 s)
        have hb0 := trans_below (trans_below HB0.out (below_alloc (Below.refl _ _) (.cells #[.int .u8 39] 5))) (Lib.bytesWorld_below (w1.alloc (.cells #[.int .u8 39] 5)) 5 s)
        have HBC := Lib.hid (bytes_cell (w1.alloc (.cells #[.int .u8 39] 5)) 5 s)
        have HBM := Lib.hid (Lib.bytesWorld_at_new (w1.alloc (.cells #[.int .u8 39] 5)) 5 s)
        have hwsz : (w1.alloc (.cells #[.int .u8 39] 5)).heap.size = w1.heap.size + 1 := by simp
        rw [hwsz] at HBC HBM
        obtain ⟨w0, hw0⟩ : ∃ W, W = Lib.bytesWorld (w1.alloc (.cells #[.int .u8 39] 5)) 5 s := ⟨_, rfl⟩
        have hw0sz : w1.heap.size + 1 < w0.heap.size := by rw [hw0, Lib.bytesWorld_size, hwsz]; omega
        rw [← hw0] at hb0 HBC HBM
        rw [← hw0]
        have ho1 : w0.ownsRow w.heap.size 5 1 (.slice (some ⟨w1.heap.size, 0, none⟩) 1 1) [39].length (nums .u8 [39]) := by rw [hw0]; exact ho0
        have HO0 := Lib.hid ho1
        have HB0 := Lib.hid hb0
        obtain ⟨bb, hbb⟩ : ∃ n, n = w1.heap.size + 1 := ⟨_, rfl⟩
        rw [← hbb] at HBC HBM hw0sz
        rw [← hbb]
        obtain ⟨cp0, hcp0⟩ : ∃ n, n = grownCap (w1.alloc (.cells #[.int .u8 39] 5)) s.size 0 5 := ⟨_, rfl⟩
        rw [← hcp0]
        have HW0 := Lib.hid hw0sz
        clear hw0 hb0 ho0 ho1 hwsz hbb hcp0 hw0sz kb hb1
        go_loopg [5, 25] s.size (fun gk vb vi wl => ∃ (k : Nat) (v0 : Value), v0 = vb ∧ vi = .int .i64 (k : Int) ∧ gk = s.size - k ∧ k ≤ s.size ∧ Hid (wl.ownsRow w.heap.size 5 1 v0 (qPre s k).length (nums .u8 (qPre s k))) ∧ Hid (Below w.heap.size w wl) ∧ Hid (wl.heap[bb]? = w0.heap[bb]?))
        case atStart => exact ⟨0, _, rfl, rfl, rfl, Nat.zero_le _, HO0.out, HB0.out, rfl⟩
        case round =>
          clear HO0 HB0
          obtain ⟨k, vb, rfl, rfl, hgk, hk, HO, HB, HI⟩ := hrel
          have HK := Lib.hid hgk
          clear hgk
          have hqn := qPre_len s k
          have HLE : Hid (∀ n, n ≤ 4 → (qPre s k).length + n ≤ 140737488355328) := Lib.hid fun n hn => by omega
          clear hqn
          by_cases hlt : k < s.size
          · have hx0 : (0 : Int) ≤ (k : Int) := by omega
            have hx1 : (k : Int) < (s.size : Int) := by omega
            have hcell : wr.cell? ⟨bb, k, none⟩ = some (.int .u8 (bt s (k : Int))) := (cell_heap HI.out).trans (HBC.out k hlt)
            have HNB : Hid (some bb ≠ vb.ownBlock) := Lib.hid (ne_marked HO.out (HI.out.trans HBM.out))
            have HLT : Hid (bb < wr.heap.size) := Lib.hid (World.block_lt_of_cell? wr _ hcell)
            have hr := bt_range s (k : Int)
            have hqs := qPre_succ hlt
            generalize bt s (k : Int) = c at hcell hr hqs
            by_cases c0 : c = 39 ∨ c = 92
            · have HS : Hid (qPre s (k + 1) = qPre s k ++ [92, c]) := Lib.hid (by rw [hqs]; unfold qB; rw [if_pos c0])
              clear hqs
              by_cases c39 : c = 39
              · have d0 : (c == 39) = true := beq_iff_eq.2 c39
                clear c0 c39
                go_wp2_with (at_builtin; refine append_lit (w0 := w) w.heap.size rfl (.tmp 52) (.tmp 54) 49 5 rfl Tryz.underlying49 infoU8 vb (qPre s k) [92, c] rfl ?hx ?hO ?hB ?hbs ?hl ?_; (case hx => first | rfl | (simp [Act.eval]; done)); (case hO => exact HO.out); (case hB => exact HB.out); (case hbs => exact HB.out.size); (case hl => exact HLE.out _ (by first | decide | simp)); intro v1 w5 ho hb hg; have HO5 := Lib.hid ho; have HB5 := Lib.hid hb; have HI5 : Hid (w5.heap[bb]? = w0.heap[bb]?) := Lib.hid ((grown_heap hg HLT.out HNB.out).trans HI.out); clear ho hb hg)
                go_wp2_with fail
                go_roundg (s.size - (k + 1))
                case measure => rw [HK.out]; omega
                case rel => exact ⟨k + 1, _, rfl, by go_num, rfl, by omega, by rw [HS.out]; exact HO5.out, HB5.out, HI5.out⟩
              · have d0 : (c == 39) = false := beq_eq_false_iff_ne.2 c39
                have d1 : (c == 92) = true := beq_iff_eq.2 (c0.resolve_left c39)
                clear c0 c39
                go_wp2_with (at_builtin; refine append_lit (w0 := w) w.heap.size rfl (.tmp 52) (.tmp 54) 49 5 rfl Tryz.underlying49 infoU8 vb (qPre s k) [92, c] rfl ?hx ?hO ?hB ?hbs ?hl ?_; (case hx => first | rfl | (simp [Act.eval]; done)); (case hO => exact HO.out); (case hB => exact HB.out); (case hbs => exact HB.out.size); (case hl => exact HLE.out _ (by first | decide | simp)); intro v1 w5 ho hb hg; have HO5 := Lib.hid ho; have HB5 := Lib.hid hb; have HI5 : Hid (w5.heap[bb]? = w0.heap[bb]?) := Lib.hid ((grown_heap hg HLT.out HNB.out).trans HI.out); clear ho hb hg)
                go_wp2_with fail
                go_roundg (s.size - (k + 1))
                case measure => rw [HK.out]; omega
                case rel => exact ⟨k + 1, _, rfl, by go_num, rfl, by omega, by rw [HS.out]; exact HO5.out, HB5.out, HI5.out⟩
            · have d0 : (c == 39) = false := beq_eq_false_iff_ne.2 fun h => c0 (.inl h)
              have d1 : (c == 92) = false := beq_eq_false_iff_ne.2 fun h => c0 (.inr h)
              by_cases c10 : c = 10
              · have d2 : (c == 10) = true := beq_iff_eq.2 c10
                have HS : Hid (qPre s (k + 1) = qPre s k ++ bytesOf ⟨#[92, 110]⟩) := Lib.hid (by rw [hqs]; unfold qB; rw [if_neg c0, if_pos c10]; rfl)
                clear hqs c0 c10
                go_wp2_with (at_builtin; refine print_append_str (w0 := w) w.heap.size rfl (.tmp 58) _ 49 9 5 rfl Tryz.underlying49 Tryz.underlying9 infoU8 vb (qPre s k) ⟨#[92, 110]⟩ rfl rfl ?hO ?hB ?hbs ?hl ?_; (case hO => exact HO.out); (case hB => exact HB.out); (case hbs => exact HB.out.size); (case hl => exact HLE.out _ (by first | decide | simp)); intro v1 w5 ho hb hg; have HO5 := Lib.hid ho; have HB5 := Lib.hid hb; have HI5 : Hid (w5.heap[bb]? = w0.heap[bb]?) := Lib.hid ((grown_heap hg HLT.out HNB.out).trans HI.out); clear ho hb hg)
                go_wp2_with fail
                go_roundg (s.size - (k + 1))
                case measure => rw [HK.out]; omega
                case rel => exact ⟨k + 1, _, rfl, by go_num, rfl, by omega, by rw [HS.out]; exact HO5.out, HB5.out, HI5.out⟩
              · have d2 : (c == 10) = false := beq_eq_false_iff_ne.2 c10
                by_cases c9 : c = 9
                · have d3 : (c == 9) = true := beq_iff_eq.2 c9
                  have HS : Hid (qPre s (k + 1) = qPre s k ++ bytesOf ⟨#[92, 116]⟩) := Lib.hid (by rw [hqs]; unfold qB; rw [if_neg c0, if_neg c10, if_pos c9]; rfl)
                  clear hqs c0 c10 c9
                  go_wp2_with (at_builtin; refine print_append_str (w0 := w) w.heap.size rfl (.tmp 62) _ 49 9 5 rfl Tryz.underlying49 Tryz.underlying9 infoU8 vb (qPre s k) ⟨#[92, 116]⟩ rfl rfl ?hO ?hB ?hbs ?hl ?_; (case hO => exact HO.out); (case hB => exact HB.out); (case hbs => exact HB.out.size); (case hl => exact HLE.out _ (by first | decide | simp)); intro v1 w5 ho hb hg; have HO5 := Lib.hid ho; have HB5 := Lib.hid hb; have HI5 : Hid (w5.heap[bb]? = w0.heap[bb]?) := Lib.hid ((grown_heap hg HLT.out HNB.out).trans HI.out); clear ho hb hg)
                  go_wp2_with fail
                  go_roundg (s.size - (k + 1))
                  case measure => rw [HK.out]; omega
                  case rel => exact ⟨k + 1, _, rfl, by go_num, rfl, by omega, by rw [HS.out]; exact HO5.out, HB5.out, HI5.out⟩
                · have d3 : (c == 9) = false := beq_eq_false_iff_ne.2 c9
                  by_cases c13 : c = 13
                  · have d4 : (c == 13) = true := beq_iff_eq.2 c13
                    have HS : Hid (qPre s (k + 1) = qPre s k ++ bytesOf ⟨#[92, 114]⟩) := Lib.hid (by rw [hqs]; unfold qB; rw [if_neg c0, if_neg c10, if_neg c9, if_pos c13]; rfl)
                    clear hqs c0 c10 c9 c13
                    go_wp2_with (at_builtin; refine print_append_str (w0 := w) w.heap.size rfl (.tmp 66) _ 49 9 5 rfl Tryz.underlying49 Tryz.underlying9 infoU8 vb (qPre s k) ⟨#[92, 114]⟩ rfl rfl ?hO ?hB ?hbs ?hl ?_; (case hO => exact HO.out); (case hB => exact HB.out); (case hbs => exact HB.out.size); (case hl => exact HLE.out _ (by first | decide | simp)); intro v1 w5 ho hb hg; have HO5 := Lib.hid ho; have HB5 := Lib.hid hb; have HI5 : Hid (w5.heap[bb]? = w0.heap[bb]?) := Lib.hid ((grown_heap hg HLT.out HNB.out).trans HI.out); clear ho hb hg)
                    go_wp2_with fail
                    go_roundg (s.size - (k + 1))
                    case measure => rw [HK.out]; omega
                    case rel => exact ⟨k + 1, _, rfl, by go_num, rfl, by omega, by rw [HS.out]; exact HO5.out, HB5.out, HI5.out⟩
                  · have d4 : (c == 13) = false := beq_eq_false_iff_ne.2 c13
                    by_cases chx : c < 32 ∨ c = 127
                    · have HS : Hid (qPre s (k + 1) = qPre s k ++ [92, 120, hexD (c / 16), hexD (c % 16)]) := Lib.hid (by rw [hqs]; unfold qB; rw [if_neg c0, if_neg c10, if_neg c9, if_neg c13, if_pos chx])
                      clear hqs c0 c10 c9 c13
                      by_cases c32 : c < 32
                      · have d5 : decide (c < 32) = true := decide_eq_true c32
                        clear chx c32
                        obtain ⟨D1, hD1⟩ : ∃ D, D = c / 16 := ⟨_, rfl⟩
                        obtain ⟨D2, hD2⟩ : ∃ D, D = c % 16 := ⟨_, rfl⟩
                        have hc16 := hD1.symm
                        have hcr := hD2.symm
                        have hand : bits BinOp.and .u8 c 15 = D2 := by rw [and_fifteen hr.1 hr.2, hcr]
                        have x10 : (0 : Int) ≤ D1 := by omega
                        have x11 : D1 < 16 := by omega
                        have x20 : (0 : Int) ≤ D2 := by omega
                        have x21 : D2 < 16 := by omega
                        have hi1 := hex_index D1 x10 x11
                        have hi2 := hex_index D2 x20 x21
                        rw [hc16, hcr] at HS
                        clear hD1 hD2
                        go_wp2_with fail
                        obtain ⟨i0, hi0, hz0, hz1, hz2⟩ := info_parts infoU8
                        obtain ⟨O, hOO⟩ : ∃ o : Obj, o = .cells #[.int .u8 92, .int .u8 120, .int .u8 (hexD D1), .int .u8 (hexD D2)] 5 := ⟨_, rfl⟩
                        have HOA := Lib.hid ((HO.out.alloc O).drew)
                        have HBA := Lib.hid ((below_alloc HB.out O).drew)
                        have HIA := Lib.hid ((heap_alloc_old wr O bb HLT.out).trans HI.out)
                        have HNW := Lib.hid (World.news_of_block (w := (wr.alloc O).drew) (B := wr.heap.size) (show (wr.alloc O).drew.heap[wr.heap.size]? = _ by rw [hOO]; exact heap_alloc_new wr _))
                        have HZ9 : Hid ((wr.alloc O).drew.heap.size = wr.heap.size + 1) := Lib.hid (by show (wr.alloc O).heap.size = _; simp)
                        rw [hOO] at HOA HBA HIA HNW HZ9
                        have HON : Hid (∀ u ∈ [Value.int .u8 92, .int .u8 120, .int .u8 (hexD D1), .int .u8 (hexD D2)], u.oneCell' = true) := Lib.hid (one_four _ _)
                        have HL63 : Hid ((qPre s k).length + 4 ≤ maxLen) := Lib.hid (by unfold maxLen; have := HLE.out 4 (by decide); omega)
                        have HLBY : Hid (((qPre s k).length + 4) * 1 ≤ 140737488355328) := Lib.hid (by have := HLE.out 4 (by decide); omega)
                        clear hOO
                        go_region_held3 (fun _ => True) (trivial) (first | ((refine step_append_lies _ (by rfl) (.tmp 36) (.tmp 43) 49 (by rfl) w.heap.size 5 i0 (.int .u8 0) 1 1 Tryz.underlying49 hi0 hz0 hz1 hz2 rfl (by decide) vb (qPre s k).length (nums .u8 (qPre s k)) (by rfl) HOA.out ⟨wr.heap.size, 0, none⟩ 4 4 [.int .u8 92, .int .u8 120, .int .u8 (hexD D1), .int .u8 (hexD D2)] (by rfl) rfl HNW.out HON.out (by decide) HL63.out HLBY.out HBA.out.size (wr.heap.size + 1) HZ9.out ?_; intro g cap w5 hown hgrow _ _; have HO5 := Lib.hid (own_hex hown); have HB5 : Hid (Below w.heap.size w w5) := Lib.hid (HBA.out.grown hgrow HBA.out.size (own_base HO.out)); have HI5 : Hid (w5.heap[bb]? = w0.heap[bb]?) := Lib.hid ((grown_heap hgrow (by rw [HZ9.out]; exact Nat.lt_succ_of_lt HLT.out) HNB.out).trans HIA.out); clear hown hgrow)))
                        all_goals
                          go_wp2_with fail
                          go_roundg (s.size - (k + 1))
                          case measure => rw [HK.out]; omega
                          case rel => exact ⟨k + 1, _, rfl, by go_num, rfl, by omega, by rw [HS.out]; exact HO5.out, HB5.out, HI5.out⟩
                      · have d5 : decide (c < 32) = false := decide_eq_false c32
                        have d6 : (c == 127) = true := beq_iff_eq.2 (chx.resolve_left c32)
                        clear chx c32
                        obtain ⟨D1, hD1⟩ : ∃ D, D = c / 16 := ⟨_, rfl⟩
                        obtain ⟨D2, hD2⟩ : ∃ D, D = c % 16 := ⟨_, rfl⟩
                        have hc16 := hD1.symm
                        have hcr := hD2.symm
                        have hand : bits BinOp.and .u8 c 15 = D2 := by rw [and_fifteen hr.1 hr.2, hcr]
                        have x10 : (0 : Int) ≤ D1 := by omega
                        have x11 : D1 < 16 := by omega
                        have x20 : (0 : Int) ≤ D2 := by omega
                        have x21 : D2 < 16 := by omega
                        have hi1 := hex_index D1 x10 x11
                        have hi2 := hex_index D2 x20 x21
                        rw [hc16, hcr] at HS
                        clear hD1 hD2
                        go_wp2_with fail
                        obtain ⟨i0, hi0, hz0, hz1, hz2⟩ := info_parts infoU8
                        obtain ⟨O, hOO⟩ : ∃ o : Obj, o = .cells #[.int .u8 92, .int .u8 120, .int .u8 (hexD D1), .int .u8 (hexD D2)] 5 := ⟨_, rfl⟩
                        have HOA := Lib.hid ((HO.out.alloc O).drew)
                        have HBA := Lib.hid ((below_alloc HB.out O).drew)
                        have HIA := Lib.hid ((heap_alloc_old wr O bb HLT.out).trans HI.out)
                        have HNW := Lib.hid (World.news_of_block (w := (wr.alloc O).drew) (B := wr.heap.size) (show (wr.alloc O).drew.heap[wr.heap.size]? = _ by rw [hOO]; exact heap_alloc_new wr _))
                        have HZ9 : Hid ((wr.alloc O).drew.heap.size = wr.heap.size + 1) := Lib.hid (by show (wr.alloc O).heap.size = _; simp)
                        rw [hOO] at HOA HBA HIA HNW HZ9
                        have HON : Hid (∀ u ∈ [Value.int .u8 92, .int .u8 120, .int .u8 (hexD D1), .int .u8 (hexD D2)], u.oneCell' = true) := Lib.hid (one_four _ _)
                        have HL63 : Hid ((qPre s k).length + 4 ≤ maxLen) := Lib.hid (by unfold maxLen; have := HLE.out 4 (by decide); omega)
                        have HLBY : Hid (((qPre s k).length + 4) * 1 ≤ 140737488355328) := Lib.hid (by have := HLE.out 4 (by decide); omega)
                        clear hOO
                        go_region_held3 (fun _ => True) (trivial) (first | ((refine step_append_lies _ (by rfl) (.tmp 36) (.tmp 43) 49 (by rfl) w.heap.size 5 i0 (.int .u8 0) 1 1 Tryz.underlying49 hi0 hz0 hz1 hz2 rfl (by decide) vb (qPre s k).length (nums .u8 (qPre s k)) (by rfl) HOA.out ⟨wr.heap.size, 0, none⟩ 4 4 [.int .u8 92, .int .u8 120, .int .u8 (hexD D1), .int .u8 (hexD D2)] (by rfl) rfl HNW.out HON.out (by decide) HL63.out HLBY.out HBA.out.size (wr.heap.size + 1) HZ9.out ?_; intro g cap w5 hown hgrow _ _; have HO5 := Lib.hid (own_hex hown); have HB5 : Hid (Below w.heap.size w w5) := Lib.hid (HBA.out.grown hgrow HBA.out.size (own_base HO.out)); have HI5 : Hid (w5.heap[bb]? = w0.heap[bb]?) := Lib.hid ((grown_heap hgrow (by rw [HZ9.out]; exact Nat.lt_succ_of_lt HLT.out) HNB.out).trans HIA.out); clear hown hgrow)))
                        all_goals
                          go_wp2_with fail
                          go_roundg (s.size - (k + 1))
                          case measure => rw [HK.out]; omega
                          case rel => exact ⟨k + 1, _, rfl, by go_num, rfl, by omega, by rw [HS.out]; exact HO5.out, HB5.out, HI5.out⟩
                    · have d5 : decide (c < 32) = false := decide_eq_false fun h => chx (.inl h)
                      have d6 : (c == 127) = false := beq_eq_false_iff_ne.2 fun h => chx (.inr h)
                      have HS : Hid (qPre s (k + 1) = qPre s k ++ [c]) := Lib.hid (by rw [hqs]; unfold qB; rw [if_neg c0, if_neg c10, if_neg c9, if_neg c13, if_neg chx])
                      clear hqs c0 c10 c9 c13 chx
                      go_wp2_with (at_builtin; refine append_lit (w0 := w) w.heap.size rfl (.tmp 45) (.tmp 47) 49 5 rfl Tryz.underlying49 infoU8 vb (qPre s k) [c] rfl ?hx ?hO ?hB ?hbs ?hl ?_; (case hx => first | rfl | (simp [Act.eval]; done)); (case hO => exact HO.out); (case hB => exact HB.out); (case hbs => exact HB.out.size); (case hl => exact HLE.out _ (by first | decide | simp)); intro v1 w5 ho hb hg; have HO5 := Lib.hid ho; have HB5 := Lib.hid hb; have HI5 : Hid (w5.heap[bb]? = w0.heap[bb]?) := Lib.hid ((grown_heap hg HLT.out HNB.out).trans HI.out); clear ho hb hg)
                      go_wp2_with fail
                      go_roundg (s.size - (k + 1))
                      case measure => rw [HK.out]; omega
                      case rel => exact ⟨k + 1, _, rfl, by go_num, rfl, by omega, by rw [HS.out]; exact HO5.out, HB5.out, HI5.out⟩
          · have d0 : decide ((k : Int) < (s.size : Int)) = false := decide_eq_false (by omega)
            have HS : Hid (qPre s k ++ [39] = quoteOf s) := Lib.hid (qPre_end (by omega))
            go_wp2_with (at_builtin; refine append_lit (w0 := w) w.heap.size rfl (.tmp 69) (.tmp 70) 49 5 rfl Tryz.underlying49 infoU8 vb (qPre s k) [39] rfl ?hx ?hO ?hB ?hbs ?hl ?_; (case hx => first | rfl | (simp [Act.eval]; done)); (case hO => exact HO.out); (case hB => exact HB.out); (case hbs => exact HB.out.size); (case hl => exact HLE.out _ (by first | decide | simp)); intro v1 w5 ho hb hg; have hcv := own_string (P := Tryz.prog) (src := 49) (dst := 9) Tryz.underlying49 Tryz.underlying5 Tryz.underlying9 ho; have HB5 := Lib.hid hb; clear ho hb hg)
            go_ret2
            exact ⟨_, by rw [HQ.out, ← HS.out]; rfl, by rw [HQ.out]; rfl, HB5.out⟩
end Go.Proofs.YtgapeacflkfmdaaGreatDoor
namespace Go.Proofs.YtgapeacflkfmdaaGreatDoor
open Go.RowKit Go.Proofs.YtgapeacflkfmdaaGreatDoorW.PrintWords

set_option maxRecDepth 100000 in
set_option maxHeartbeats 4000000 in
theorem ref01_Quote (s : ByteArray) (hm : s.size ≤ 140737488351232) (w : World) :
    Calls Tryz.prog 70 #[.string s] w (StrR w (quoted s)) := by
  obtain ⟨R, hR⟩ : ∃ R, R = quoted s := ⟨_, rfl⟩
  rw [← hR]
  unfold quoted at hR
  have HST := Lib.hid (UTF_any s hm)
  by_cases hl : s.size > 255
  · have hd : decide ((s.size : Int) > 255) = true := decide_eq_true (by omega)
    rw [if_pos hl] at hR
    have HQ := Lib.hid hR
    have HB0 := Lib.hid (Below.refl w.heap.size w)
    clear hR hl
    go_enter Tryz.func70, Tryz.ntmps70
    go_wp2_with fail
    refine (ref01_no _ _ _).mono ?_
    rintro e w2 ⟨ve, rfl, hE, hB1⟩
    have HE := Lib.hid hE
    have HB1 := Lib.hid (trans_below HB0.out hB1)
    clear hE hB1
    go_wp2_with fail
    go_ret2
    exact ⟨_, by rw [HQ.out]; rfl, by rw [HQ.out]; exact HE.out.lower HB0.out.size, HB1.out⟩
  · have hd : decide ((s.size : Int) > 255) = false := decide_eq_false (by omega)
    rw [if_neg hl] at hR
    have hs255 : s.size ≤ 255 := by omega
    by_cases hu : 0 ≤ utfBad s 0
    · have hd2 : decide (utfBad s 0 ≥ 0) = true := decide_eq_true hu
      rw [if_pos hu] at hR
      have HQ := Lib.hid hR
      clear hR hl hu
      go_enter Tryz.func70, Tryz.ntmps70
      go_wp2_with fail
      refine (HST.out _).mono ?_
      rintro e w1 ⟨rfl, hB0⟩
      have HB0 := Lib.hid hB0.below
      clear hB0
      go_wp2_with fail
      refine (ref01_no _ _ _).mono ?_
      rintro e w2 ⟨ve, rfl, hE, hB1⟩
      have HE := Lib.hid hE
      have HB1 := Lib.hid (trans_below HB0.out hB1)
      clear hE hB1
      go_wp2_with fail
      go_ret2
      exact ⟨_, by rw [HQ.out]; rfl, by rw [HQ.out]; exact HE.out.lower HB0.out.size, HB1.out⟩
    · have hd2 : decide (utfBad s 0 ≥ 0) = false := decide_eq_false hu
      rw [if_neg hu] at hR
      cases hp : isPlain s with
      | true =>
        rw [hp, if_pos rfl] at hR
        have HQ := Lib.hid hR
        clear hR hl hu
        go_enter Tryz.func70, Tryz.ntmps70
        go_wp2_with fail
        refine (HST.out _).mono ?_
        rintro e w1 ⟨rfl, hB0⟩
        have HB0 := Lib.hid hB0.below
        clear hB0
        go_wp2_with fail
        refine (ref01_plain _ hm _).mono ?_
        rw [hp]
        rintro e w2 ⟨rfl, hB⟩
        have HB2 := Lib.hid (trans_below HB0.out hB)
        clear hB
        go_wp2_with fail
        go_ret2
        exact ⟨_, by rw [HQ.out]; rfl, by rw [HQ.out]; exact LnIs.nil _ _, HB2.out⟩
      | false =>
        rw [hp, if_neg (by simp)] at hR
        have HQ := Lib.hid hR
        clear hR hl hu
        go_enter Tryz.func70, Tryz.ntmps70
        go_wp2_with fail
        refine (HST.out _).mono ?_
        rintro e w1 ⟨rfl, hB0⟩
        have HB0 := Lib.hid hB0.below
        clear hB0
        go_wp2_with fail
        refine (ref01_plain _ hm _).mono ?_
        rw [hp]
        rintro e w2 ⟨rfl, hB⟩
        have HB2 := Lib.hid (trans_below HB0.out hB)
        clear hB
        go_wp2_with fail
        have HO0 := Lib.hid (own_lit w2 w.heap.size 5 .u8 [39] HB2.out.size (by decide))
        have HB3 := Lib.hid (below_alloc HB2.out (.cells #[.int .u8 39] 5))
        go_loopg [5, 6] s.size (fun gk vb vi wl => ∃ (k : Nat) (v0 : Value), v0 = vb ∧ vi = .int .i64 (k : Int) ∧ gk = s.size - k ∧ k ≤ s.size ∧ Hid (wl.ownsRow w.heap.size 5 1 v0 (qPre s k).length (nums .u8 (qPre s k))) ∧ Hid (Below w.heap.size w wl))
        case atStart => exact ⟨0, _, rfl, rfl, rfl, Nat.zero_le _, HO0.out, HB3.out⟩
        case round =>
          clear HO0 HB0 HB2 HB3
          obtain ⟨k, vb, rfl, rfl, hgk, hk, HO, HB⟩ := hrel
          have HK := Lib.hid hgk
          clear hgk
          have hqn := qPre_len s k
          have HLE : Hid (∀ n, n ≤ 4 → (qPre s k).length + n ≤ 140737488355328) := Lib.hid fun n hn => by omega
          clear hqn
          by_cases hlt : k < s.size
          · have hx0 : (0 : Int) ≤ (k : Int) := by omega
            have hx1 : (k : Int) < (s.size : Int) := by omega
            have hb := btk s k
            have hr := bt_range s (k : Int)
            have hqs := qPre_succ hlt
            generalize bt s (k : Int) = c at hb hr hqs
            by_cases c0 : c = 39 ∨ c = 92
            · have HS : Hid (qPre s (k + 1) = qPre s k ++ [92, c]) := Lib.hid (by rw [hqs]; unfold qB; rw [if_pos c0])
              clear hqs
              by_cases c39 : c = 39
              · have d0 : (c == 39) = true := beq_iff_eq.2 c39
                clear c0 c39
                go_wp2_with (at_builtin; refine append_lit (w0 := w) w.heap.size rfl (.tmp 42) (.tmp 44) 49 5 rfl Tryz.underlying49 infoU8 vb (qPre s k) [92, c] rfl ?hx ?hO ?hB ?hbs ?hl ?_; (case hx => first | rfl | (simp [Act.eval]; done)); (case hO => exact HO.out); (case hB => exact HB.out); (case hbs => exact HB.out.size); (case hl => exact HLE.out _ (by first | decide | simp)); intro v1 w5 ho hb hg; have HO5 := Lib.hid ho; have HB5 := Lib.hid hb; clear ho hb hg)
                go_wp2_with fail
                go_roundg (s.size - (k + 1))
                case measure => rw [HK.out]; omega
                case rel => exact ⟨k + 1, _, rfl, by go_num, rfl, by omega, by rw [HS.out]; exact HO5.out, HB5.out⟩
              · have d0 : (c == 39) = false := beq_eq_false_iff_ne.2 c39
                have d1 : (c == 92) = true := beq_iff_eq.2 (c0.resolve_left c39)
                clear c0 c39
                go_wp2_with (at_builtin; refine append_lit (w0 := w) w.heap.size rfl (.tmp 42) (.tmp 44) 49 5 rfl Tryz.underlying49 infoU8 vb (qPre s k) [92, c] rfl ?hx ?hO ?hB ?hbs ?hl ?_; (case hx => first | rfl | (simp [Act.eval]; done)); (case hO => exact HO.out); (case hB => exact HB.out); (case hbs => exact HB.out.size); (case hl => exact HLE.out _ (by first | decide | simp)); intro v1 w5 ho hb hg; have HO5 := Lib.hid ho; have HB5 := Lib.hid hb; clear ho hb hg)
                go_wp2_with fail
                go_roundg (s.size - (k + 1))
                case measure => rw [HK.out]; omega
                case rel => exact ⟨k + 1, _, rfl, by go_num, rfl, by omega, by rw [HS.out]; exact HO5.out, HB5.out⟩
            · have d0 : (c == 39) = false := beq_eq_false_iff_ne.2 fun h => c0 (.inl h)
              have d1 : (c == 92) = false := beq_eq_false_iff_ne.2 fun h => c0 (.inr h)
              by_cases c10 : c = 10
              · have d2 : (c == 10) = true := beq_iff_eq.2 c10
                have HS : Hid (qPre s (k + 1) = qPre s k ++ [92, 110]) := Lib.hid (by rw [hqs]; unfold qB; rw [if_neg c0, if_pos c10])
                clear hqs c0 c10
                go_wp2_with (at_builtin; refine append_lit (w0 := w) w.heap.size rfl (.tmp 49) (.tmp 50) 49 5 rfl Tryz.underlying49 infoU8 vb (qPre s k) [92, 110] rfl ?hx ?hO ?hB ?hbs ?hl ?_; (case hx => first | rfl | (simp [Act.eval]; done)); (case hO => exact HO.out); (case hB => exact HB.out); (case hbs => exact HB.out.size); (case hl => exact HLE.out _ (by first | decide | simp)); intro v1 w5 ho hb hg; have HO5 := Lib.hid ho; have HB5 := Lib.hid hb; clear ho hb hg)
                go_wp2_with fail
                go_roundg (s.size - (k + 1))
                case measure => rw [HK.out]; omega
                case rel => exact ⟨k + 1, _, rfl, by go_num, rfl, by omega, by rw [HS.out]; exact HO5.out, HB5.out⟩
              · have d2 : (c == 10) = false := beq_eq_false_iff_ne.2 c10
                by_cases c9 : c = 9
                · have d3 : (c == 9) = true := beq_iff_eq.2 c9
                  have HS : Hid (qPre s (k + 1) = qPre s k ++ [92, 116]) := Lib.hid (by rw [hqs]; unfold qB; rw [if_neg c0, if_neg c10, if_pos c9])
                  clear hqs c0 c10 c9
                  go_wp2_with (at_builtin; refine append_lit (w0 := w) w.heap.size rfl (.tmp 55) (.tmp 56) 49 5 rfl Tryz.underlying49 infoU8 vb (qPre s k) [92, 116] rfl ?hx ?hO ?hB ?hbs ?hl ?_; (case hx => first | rfl | (simp [Act.eval]; done)); (case hO => exact HO.out); (case hB => exact HB.out); (case hbs => exact HB.out.size); (case hl => exact HLE.out _ (by first | decide | simp)); intro v1 w5 ho hb hg; have HO5 := Lib.hid ho; have HB5 := Lib.hid hb; clear ho hb hg)
                  go_wp2_with fail
                  go_roundg (s.size - (k + 1))
                  case measure => rw [HK.out]; omega
                  case rel => exact ⟨k + 1, _, rfl, by go_num, rfl, by omega, by rw [HS.out]; exact HO5.out, HB5.out⟩
                · have d3 : (c == 9) = false := beq_eq_false_iff_ne.2 c9
                  by_cases c13 : c = 13
                  · have d4 : (c == 13) = true := beq_iff_eq.2 c13
                    have HS : Hid (qPre s (k + 1) = qPre s k ++ [92, 114]) := Lib.hid (by rw [hqs]; unfold qB; rw [if_neg c0, if_neg c10, if_neg c9, if_pos c13])
                    clear hqs c0 c10 c9 c13
                    go_wp2_with (at_builtin; refine append_lit (w0 := w) w.heap.size rfl (.tmp 61) (.tmp 62) 49 5 rfl Tryz.underlying49 infoU8 vb (qPre s k) [92, 114] rfl ?hx ?hO ?hB ?hbs ?hl ?_; (case hx => first | rfl | (simp [Act.eval]; done)); (case hO => exact HO.out); (case hB => exact HB.out); (case hbs => exact HB.out.size); (case hl => exact HLE.out _ (by first | decide | simp)); intro v1 w5 ho hb hg; have HO5 := Lib.hid ho; have HB5 := Lib.hid hb; clear ho hb hg)
                    go_wp2_with fail
                    go_roundg (s.size - (k + 1))
                    case measure => rw [HK.out]; omega
                    case rel => exact ⟨k + 1, _, rfl, by go_num, rfl, by omega, by rw [HS.out]; exact HO5.out, HB5.out⟩
                  · have d4 : (c == 13) = false := beq_eq_false_iff_ne.2 c13
                    by_cases chx : c < 32 ∨ c = 127
                    · have HS : Hid (qPre s (k + 1) = qPre s k ++ [92, 120, hexD (c / 16), hexD (c % 16)]) := Lib.hid (by rw [hqs]; unfold qB; rw [if_neg c0, if_neg c10, if_neg c9, if_neg c13, if_pos chx])
                      clear hqs c0 c10 c9 c13
                      by_cases c32 : c < 32
                      · have d5 : decide (c < 32) = true := decide_eq_true c32
                        clear chx c32
                        obtain ⟨D1, hD1⟩ : ∃ D, D = c / 16 := ⟨_, rfl⟩
                        obtain ⟨D2, hD2⟩ : ∃ D, D = c % 16 := ⟨_, rfl⟩
                        have hc16 := hD1.symm
                        have hcr := hD2.symm
                        have htd : IntKind.u8.wrap (c.tdiv 16) = D1 := by
                          rw [Int.tdiv_eq_ediv_of_nonneg hr.1, hc16]
                          exact (show ∀ x : Int, 0 ≤ x → x < 16 → IntKind.u8.wrap x = x from fun x h0 h1 => by show x % 256 = x; omega) D1 (by omega) (by omega)
                        have htr : c.tmod 16 = D2 := by rw [Int.tmod_eq_emod_of_nonneg hr.1, hcr]
                        have x10 : (0 : Int) ≤ D1 := by omega
                        have x11 : D1 < 16 := by omega
                        have x20 : (0 : Int) ≤ D2 := by omega
                        have x21 : D2 < 16 := by omega
                        have hi1 := hex_index D1 x10 x11
                        have hi2 := hex_index D2 x20 x21
                        rw [hc16, hcr] at HS
                        clear hD1 hD2
                        have hr0 := hr.1
                        have hr1 := hr.2
                        go_wp2_with fail
                        obtain ⟨i0, hi0, hz0, hz1, hz2⟩ := info_parts infoU8
                        obtain ⟨O, hOO⟩ : ∃ o : Obj, o = .cells #[.int .u8 92, .int .u8 120, .int .u8 (hexD D1), .int .u8 (hexD D2)] 5 := ⟨_, rfl⟩
                        have HOA := Lib.hid ((HO.out.alloc O).drew)
                        have HBA := Lib.hid ((below_alloc HB.out O).drew)
                        have HNW := Lib.hid (World.news_of_block (w := (wr.alloc O).drew) (B := wr.heap.size) (show (wr.alloc O).drew.heap[wr.heap.size]? = _ by rw [hOO]; exact heap_alloc_new wr _))
                        have HZ9 : Hid ((wr.alloc O).drew.heap.size = wr.heap.size + 1) := Lib.hid (by show (wr.alloc O).heap.size = _; simp)
                        rw [hOO] at HOA HBA HNW HZ9
                        have HON : Hid (∀ u ∈ [Value.int .u8 92, .int .u8 120, .int .u8 (hexD D1), .int .u8 (hexD D2)], u.oneCell' = true) := Lib.hid (one_four _ _)
                        have HL63 : Hid ((qPre s k).length + 4 ≤ maxLen) := Lib.hid (by unfold maxLen; have := HLE.out 4 (by decide); omega)
                        have HLBY : Hid (((qPre s k).length + 4) * 1 ≤ 140737488355328) := Lib.hid (by have := HLE.out 4 (by decide); omega)
                        clear hOO
                        go_region_held3 (fun _ => True) (trivial) (first | ((refine step_append_lies _ (by rfl) (.tmp 71) (.tmp 78) 49 (by rfl) w.heap.size 5 i0 (.int .u8 0) 1 1 Tryz.underlying49 hi0 hz0 hz1 hz2 rfl (by decide) vb (qPre s k).length (nums .u8 (qPre s k)) (by rfl) HOA.out ⟨wr.heap.size, 0, none⟩ 4 4 [.int .u8 92, .int .u8 120, .int .u8 (hexD D1), .int .u8 (hexD D2)] (by rfl) rfl HNW.out HON.out (by decide) HL63.out HLBY.out HBA.out.size (wr.heap.size + 1) HZ9.out ?_; intro g cap w5 hown hgrow _ _; have HO5 := Lib.hid (own_hex hown); have HB5 : Hid (Below w.heap.size w w5) := Lib.hid (HBA.out.grown hgrow HBA.out.size (own_base HO.out)); clear hown hgrow)))
                        all_goals
                          go_wp2_with fail
                          go_roundg (s.size - (k + 1))
                          case measure => rw [HK.out]; omega
                          case rel => exact ⟨k + 1, _, rfl, by go_num, rfl, by omega, by rw [HS.out]; exact HO5.out, HB5.out⟩
                      · have d5 : decide (c < 32) = false := decide_eq_false c32
                        have d6 : (c == 127) = true := beq_iff_eq.2 (chx.resolve_left c32)
                        clear chx c32
                        obtain ⟨D1, hD1⟩ : ∃ D, D = c / 16 := ⟨_, rfl⟩
                        obtain ⟨D2, hD2⟩ : ∃ D, D = c % 16 := ⟨_, rfl⟩
                        have hc16 := hD1.symm
                        have hcr := hD2.symm
                        have htd : IntKind.u8.wrap (c.tdiv 16) = D1 := by
                          rw [Int.tdiv_eq_ediv_of_nonneg hr.1, hc16]
                          exact (show ∀ x : Int, 0 ≤ x → x < 16 → IntKind.u8.wrap x = x from fun x h0 h1 => by show x % 256 = x; omega) D1 (by omega) (by omega)
                        have htr : c.tmod 16 = D2 := by rw [Int.tmod_eq_emod_of_nonneg hr.1, hcr]
                        have x10 : (0 : Int) ≤ D1 := by omega
                        have x11 : D1 < 16 := by omega
                        have x20 : (0 : Int) ≤ D2 := by omega
                        have x21 : D2 < 16 := by omega
                        have hi1 := hex_index D1 x10 x11
                        have hi2 := hex_index D2 x20 x21
                        rw [hc16, hcr] at HS
                        clear hD1 hD2
                        have hr0 := hr.1
                        have hr1 := hr.2
                        go_wp2_with fail
                        obtain ⟨i0, hi0, hz0, hz1, hz2⟩ := info_parts infoU8
                        obtain ⟨O, hOO⟩ : ∃ o : Obj, o = .cells #[.int .u8 92, .int .u8 120, .int .u8 (hexD D1), .int .u8 (hexD D2)] 5 := ⟨_, rfl⟩
                        have HOA := Lib.hid ((HO.out.alloc O).drew)
                        have HBA := Lib.hid ((below_alloc HB.out O).drew)
                        have HNW := Lib.hid (World.news_of_block (w := (wr.alloc O).drew) (B := wr.heap.size) (show (wr.alloc O).drew.heap[wr.heap.size]? = _ by rw [hOO]; exact heap_alloc_new wr _))
                        have HZ9 : Hid ((wr.alloc O).drew.heap.size = wr.heap.size + 1) := Lib.hid (by show (wr.alloc O).heap.size = _; simp)
                        rw [hOO] at HOA HBA HNW HZ9
                        have HON : Hid (∀ u ∈ [Value.int .u8 92, .int .u8 120, .int .u8 (hexD D1), .int .u8 (hexD D2)], u.oneCell' = true) := Lib.hid (one_four _ _)
                        have HL63 : Hid ((qPre s k).length + 4 ≤ maxLen) := Lib.hid (by unfold maxLen; have := HLE.out 4 (by decide); omega)
                        have HLBY : Hid (((qPre s k).length + 4) * 1 ≤ 140737488355328) := Lib.hid (by have := HLE.out 4 (by decide); omega)
                        clear hOO
                        go_region_held3 (fun _ => True) (trivial) (first | ((refine step_append_lies _ (by rfl) (.tmp 71) (.tmp 78) 49 (by rfl) w.heap.size 5 i0 (.int .u8 0) 1 1 Tryz.underlying49 hi0 hz0 hz1 hz2 rfl (by decide) vb (qPre s k).length (nums .u8 (qPre s k)) (by rfl) HOA.out ⟨wr.heap.size, 0, none⟩ 4 4 [.int .u8 92, .int .u8 120, .int .u8 (hexD D1), .int .u8 (hexD D2)] (by rfl) rfl HNW.out HON.out (by decide) HL63.out HLBY.out HBA.out.size (wr.heap.size + 1) HZ9.out ?_; intro g cap w5 hown hgrow _ _; have HO5 := Lib.hid (own_hex hown); have HB5 : Hid (Below w.heap.size w w5) := Lib.hid (HBA.out.grown hgrow HBA.out.size (own_base HO.out)); clear hown hgrow)))
                        all_goals
                          go_wp2_with fail
                          go_roundg (s.size - (k + 1))
                          case measure => rw [HK.out]; omega
                          case rel => exact ⟨k + 1, _, rfl, by go_num, rfl, by omega, by rw [HS.out]; exact HO5.out, HB5.out⟩
                    · have d5 : decide (c < 32) = false := decide_eq_false fun h => chx (.inl h)
                      have d6 : (c == 127) = false := beq_eq_false_iff_ne.2 fun h => chx (.inr h)
                      have HS : Hid (qPre s (k + 1) = qPre s k ++ [c]) := Lib.hid (by rw [hqs]; unfold qB; rw [if_neg c0, if_neg c10, if_neg c9, if_neg c13, if_neg chx])
                      clear hqs c0 c10 c9 c13 chx
                      go_wp2_with (at_builtin; refine append_lit (w0 := w) w.heap.size rfl (.tmp 31) (.tmp 33) 49 5 rfl Tryz.underlying49 infoU8 vb (qPre s k) [c] rfl ?hx ?hO ?hB ?hbs ?hl ?_; (case hx => first | rfl | (simp [Act.eval]; done)); (case hO => exact HO.out); (case hB => exact HB.out); (case hbs => exact HB.out.size); (case hl => exact HLE.out _ (by first | decide | simp)); intro v1 w5 ho hb hg; have HO5 := Lib.hid ho; have HB5 := Lib.hid hb; clear ho hb hg)
                      go_wp2_with fail
                      go_roundg (s.size - (k + 1))
                      case measure => rw [HK.out]; omega
                      case rel => exact ⟨k + 1, _, rfl, by go_num, rfl, by omega, by rw [HS.out]; exact HO5.out, HB5.out⟩
          · have d0 : decide ((k : Int) < (s.size : Int)) = false := decide_eq_false (by omega)
            have HS : Hid (qPre s k ++ [39] = quoteOf s) := Lib.hid (qPre_end (by omega))
            go_wp2_with (at_builtin; refine append_lit (w0 := w) w.heap.size rfl (.tmp 80) (.tmp 81) 49 5 rfl Tryz.underlying49 infoU8 vb (qPre s k) [39] rfl ?hx ?hO ?hB ?hbs ?hl ?_; (case hx => first | rfl | (simp [Act.eval]; done)); (case hO => exact HO.out); (case hB => exact HB.out); (case hbs => exact HB.out.size); (case hl => exact HLE.out _ (by first | decide | simp)); intro v1 w5 ho hb hg; have hcv := own_string (P := Tryz.prog) (src := 49) (dst := 9) Tryz.underlying49 Tryz.underlying5 Tryz.underlying9 ho; have HB5 := Lib.hid hb; clear ho hb hg)
            go_ret2
            exact ⟨_, by rw [HQ.out, ← HS.out]; rfl, by rw [HQ.out]; exact LnIs.nil _ _, HB5.out⟩
end Go.Proofs.YtgapeacflkfmdaaGreatDoor
namespace Go.Proofs.YtgapeacflkfmdaaGreatDoor
open Go.RowKit Go.Proofs.YtgapeacflkfmdaaGreatDoorW.PrintWords

theorem LnIs.head {W : World} {base : Nat} {x : Lk} {r : List Lk} {v : Value} (h : LnIs W base (x :: r) v) :
    ∃ g c : Nat, v = .slice (some ⟨g, 0, none⟩) (r.length + 1) c ∧ W.cell? ⟨g, 0, none⟩ = some (.string x.ly) ∧ W.cell? ⟨g, 1, none⟩ = some (.int .i64 x.pl) ∧ W.cell? ⟨g, 2, none⟩ = some (.int .i64 x.co) ∧ base ≤ g ∧ g < W.heap.size ∧ kLk.C W (some ⟨g, 0, none⟩) (r.length + 1) (x :: r) := by
  obtain ⟨A, c, rfl, _, hC⟩ := h.reads
  obtain ⟨inner, ho⟩ := Kd.R_own h.1
  obtain ⟨g, cap, hv, hg1, hg2⟩ := ho.form (by simp)
  obtain ⟨ad, rfl, h0, h1, h2⟩ := atLk hC 0 (by decide) (by simp)
  injection hv with hA _ _
  injection hA with hA
  subst hA
  exact ⟨g, c, rfl, h0, h1, h2, hg1, hg2, hC⟩
set_option maxRecDepth 100000 in
set_option maxHeartbeats 2000000 in
theorem ref10_word (s : ByteArray) (f : Nat) (hf : f ≤ s.size) (hm : s.size ≤ 140737488351232) (w : World) :
    Calls Tryz.prog 72 #[.string s, .int .i64 (f : Int)] w fun e w' => e = .returned (.int .i64 (runEnd isIn s f : Nat)) ∧ w = w' := by
  obtain ⟨E, hE⟩ : ∃ E, E = runEnd isIn s f := ⟨_, rfl⟩
  rw [← hE]
  have HE0 := Lib.hid hE.symm
  clear hE
  go_enter Tryz.func72, Tryz.ntmps72
  go_wp2_with fail
  go_loopg [1] (s.size - f) (fun gk vi wl => ∃ k : Nat, vi = .int .i64 (k : Int) ∧ gk = s.size - k ∧ f ≤ k ∧ k ≤ s.size ∧ Hid (runEnd isIn s k = E) ∧ wl = w)
  case atStart => exact ⟨f, rfl, rfl, Nat.le_refl _, hf, HE0.out, rfl⟩
  case round =>
    obtain ⟨k, rfl, hgk, hfk, hk, HE, rfl⟩ := hrel
    have HK := Lib.hid hgk
    clear hgk
    by_cases hlt : k < s.size
    · have hb := btk s k
      have e0 : (0 : Int) ≤ (k : Int) := by omega
      have e1 : (k : Int) < (s.size : Int) := by omega
      cases hd : isIn (bt s (k : Int)) with
      | true =>
        have HN := Lib.hid ((runEnd_yes hlt hd).trans HE.out)
        go_wp2_with fail
        refine (ref01_InWord _ _).mono ?_
        rintro e w' ⟨rfl, rfl⟩
        go_wp2_with fail
        go_roundg (s.size - (k + 1))
        case measure => rw [HK.out]; omega
        case rel => exact ⟨k + 1, by go_num, rfl, by omega, by omega, HN, rfl⟩
      | false =>
        have HN : Hid (k = E) := Lib.hid ((runEnd_no hlt hd).symm.trans HE.out)
        go_wp2_with fail
        refine (ref01_InWord _ _).mono ?_
        rintro e w' ⟨rfl, rfl⟩
        go_wp2_with fail
        go_ret
        exact ⟨by rw [HN.out]; rfl, rfl⟩
    · have HN : Hid (k = E) := Lib.hid ((runEnd_out (p := isIn) (show s.size ≤ k by omega)).symm.trans HE.out)
      have d0 : decide ((k : Int) < (s.size : Int)) = false := decide_eq_false (by omega)
      go_wp2_with fail
      go_ret
      exact ⟨by rw [HN.out]; rfl, rfl⟩

theorem qLoop_len (s : ByteArray) (f i : Nat) (acc : List Int) : (qLoop s f i acc).2.2.length ≤ 1 := by
  rw [qLoop]
  split
  · repeat' split
    all_goals first | exact qLoop_len _ _ _ _ | simp [noGot]
  · simp [noGot]
  termination_by s.size - i
  decreasing_by all_goals omega
theorem aScan_len (s : ByteArray) (f : Nat) : (aScan s f).2.2.length ≤ 1 := by
  unfold aScan
  repeat' split
  all_goals first | exact qLoop_len _ _ _ _ | simp [noGot]
end Go.Proofs.YtgapeacflkfmdaaGreatDoor
