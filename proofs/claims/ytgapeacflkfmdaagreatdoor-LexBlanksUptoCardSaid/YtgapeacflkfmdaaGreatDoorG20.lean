/-
  A row of tokens handed in: its reading opened; how much it weighs.
-/
import Derived.Test.YtgapeacflkfmdaaGreatDoorG15
import Derived.Test.YtgapeacflkfmdaaGreatDoorG19
import Derived.Deep.Slices
namespace Go.Proofs.YtgapeacflkfmdaaGreatDoor
open Go.Lib Go.ChangeShapes Go.WideShapes Go.ChangeAt Go.RowKit Go.Proofs.YtgapeacflkfmdaaGreatDoorW.PrintWords

theorem bulk_pos {H : Type} (d : DataW H) : 1 ≤ Rows.uptoBulk d := by
  cases d with
  | lit x => cases x <;> simp [Rows.uptoBulk]
  | _ => simp [Rows.uptoBulk]
theorem bulk_len {H : Type} : ∀ ds : List (DataW H), ds.length ≤ Rows.uptoBulkAll ds
  | [] => Nat.zero_le _
  | d :: ds => by
    have h1 := bulk_pos d
    have h2 := bulk_len ds
    rw [Rows.uptoBulkAll, List.length_cons]
    omega
theorem bulk_mem {H : Type} : ∀ {ds : List (DataW H)} {d : DataW H}, d ∈ ds → Rows.uptoBulk d ≤ Rows.uptoBulkAll ds
  | e :: ds, d, h => by
    rw [Rows.uptoBulkAll]
    rcases List.mem_cons.1 h with rfl | h
    · omega
    · have := bulk_mem h
      omega
theorem bulk_tk {H : Type} (t : Tk) : t.tx.size ≤ Rows.uptoBulk (tkD t : DataW H) := by
  unfold tkD
  rw [Rows.uptoBulk, Rows.uptoBulkAll, Rows.uptoBulkAll, Rows.uptoBulk]
  rw [Lib.size_eq]
  omega
theorem kTk_mkK (w : World) (x : Tk) : kTk.K w x [.int .i64 x.kd, .string x.tx, .int .i64 x.nm, .int .i64 x.at_] := ⟨[.int .i64 x.kd], [.string x.tx, .int .i64 x.nm, .int .i64 x.at_], rfl, rfl, ⟨[.string x.tx], [.int .i64 x.nm, .int .i64 x.at_], rfl, rfl, ⟨[.int .i64 x.nm], [.int .i64 x.at_], rfl, rfl, rfl⟩⟩⟩
set_option maxRecDepth 100000 in
theorem one_tk {H : Type} {enc : TypeId × Value → H} {w : World} {base : Nat} {sp : Nat → Bool} {held : Bool} {n : Nat} {cs : List Value} {x : DataW H × List MemPlace}
    (h : DataW.trod enc Tryz.prog w base sp held n 63 cs = some x) :
    ∃ t : Tk, cs = [.int .i64 t.kd, .string t.tx, .int .i64 t.nm, .int .i64 t.at_] ∧ x.1 = tkD t ∧ -9223372036854775808 ≤ t.nm ∧ t.nm ≤ 9223372036854775807 := by
  obtain ⟨y0, y1, y2, y3, m, rfl, hlen, h0, h1, h2, h3⟩ := Joins.trod_struct4 Tryz.underlying63 h
  rw [show Tryz.prog.cellsOf 63 = 4 by kernel_rfl] at hlen
  obtain ⟨c0, c1, c2, c3, rfl⟩ : ∃ c0 c1 c2 c3, cs = [c0, c1, c2, c3] := by
    match cs, hlen with
    | [c0, c1, c2, c3], _ => exact ⟨c0, c1, c2, c3, rfl⟩
  obtain ⟨k, e0, rfl, hk⟩ := DataW.trod_int Tryz.underlying61 h0
  obtain ⟨s, e1, rfl, hs⟩ := DataW.trod_string Tryz.underlying9 h1
  obtain ⟨q, e2, rfl, hm⟩ := DataW.trod_int Tryz.underlying2 h2
  obtain ⟨a, e3, rfl, ha⟩ := DataW.trod_int Tryz.underlying3 h3
  rw [show Tryz.prog.cellsOf 61 = 1 by kernel_rfl] at e0
  rw [show Tryz.prog.cellsOf 9 = 1 by kernel_rfl] at e1
  rw [show Tryz.prog.cellsOf 2 = 1 by kernel_rfl] at e2
  rw [show Tryz.prog.cellsOf 3 = 1 by kernel_rfl] at e3
  simp only [List.drop, List.take, List.cons.injEq, and_true] at e0 e1 e2 e3
  refine ⟨⟨k, s, q, a⟩, by rw [e0, e1, e2, e3], rfl, ?_, ?_⟩
  · exact (of_decide_eq_true ((Bool.and_eq_true _ _).mp hm).1 : IntKind.i64.min ≤ q)
  · exact (of_decide_eq_true ((Bool.and_eq_true _ _).mp hm).2 : q ≤ IntKind.i64.max)
set_option maxRecDepth 100000 in
theorem open_tks0 {H : Type} {enc : TypeId × Value → H} {w : World} {base fuel : Nat} {sp : Nat → Bool} {held : Bool} {v : Value} {x : DataW H × List MemPlace}
    (hf : DataW.trod enc Tryz.prog w base sp held fuel 56 [v] = some x) (hb : Rows.uptoBulk x.1 ≤ 1048576) :
    ∃ (l : List Tk) (A : Option Addr) (c : Nat), v = .slice A l.length c ∧ kTk.C w A l.length l ∧ l.length ≤ c ∧ TksOk l ∧ l.length ≤ 1048576 := by
  rcases Go.Deep.open_slice Tryz.underlying56 hf with ⟨hcs, hx⟩ | ⟨a, len, cap, m, n, D, Pl, hcs, _, hl, _, hm, hx, hall⟩
  · simp only [List.cons.injEq, and_true] at hcs
    subst hcs
    exact ⟨[], none, 0, rfl, ⟨rfl, by simp, fun h => absurd h (Nat.lt_irrefl 0)⟩, Nat.le_refl _, fun i hi => by simp at hi, Nat.zero_le _⟩
  · simp only [List.cons.injEq, and_true] at hcs
    subst hcs
    subst hx
    simp only at hb
    rw [show Tryz.prog.cellsOf 63 = 4 by kernel_rfl] at hall
    have hlm : len ≤ m := by rw [hm]; split <;> omega
    have key : ∀ i, i < len → ∃ t : Tk, (∀ j u, ([.int .i64 t.kd, .string t.tx, .int .i64 t.nm, .int .i64 t.at_] : List Value)[j]? = some u → w.cell? (a.add (i * 4 + j)) = some u) ∧ D i = tkD t ∧ -9223372036854775808 ≤ t.nm ∧ t.nm ≤ 9223372036854775807 := by
      intro i hi
      obtain ⟨cs, hc, ht⟩ := hall i (by omega)
      obtain ⟨t, rfl, hD, hn0, hn1⟩ := one_tk ht
      refine ⟨t, fun j u hj => ?_, hD, hn0, hn1⟩
      obtain ⟨_, _, hcell⟩ := World.cells?_some hc
      have hj4 : j < 4 := by
        have := (List.getElem?_eq_some_iff.1 hj).1
        simpa using this
      have := hcell j hj4
      rw [hj] at this
      rw [← this, Addr.add_add]
    have key2 : ∃ T : Nat → Tk, ∀ i, i < len → (∀ j u, ([.int .i64 (T i).kd, .string (T i).tx, .int .i64 (T i).nm, .int .i64 (T i).at_] : List Value)[j]? = some u → w.cell? (a.add (i * 4 + j)) = some u) ∧ D i = tkD (T i) ∧ -9223372036854775808 ≤ (T i).nm ∧ (T i).nm ≤ 9223372036854775807 := by
      refine ⟨fun i => if hi : i < len then (key i hi).choose else zTk, fun i hi => ?_⟩
      simp only [dif_pos hi]
      exact (key i hi).choose_spec
    obtain ⟨T, hT⟩ := key2
    have hll : ((List.range len).map T).length = len := by simp
    have hget : ∀ i, i < len → ((List.range len).map T)[i]? = some (T i) := by
      intro i hi
      rw [List.getElem?_map, List.getElem?_range hi]
      rfl
    rw [Rows.uptoBulk] at hb
    have hlen := bulk_len ((List.range len).map D)
    rw [List.length_map, List.length_range] at hlen
    refine ⟨(List.range len).map T, some a, cap, by rw [hll], ⟨rfl, by rw [hll]; omega, fun _ => ⟨a, rfl, fun j p hj => ?_⟩⟩, by rw [hll]; exact hl, fun i hi => ?_, by rw [hll]; omega⟩
    · have hj' : j < len := by rw [← hll]; exact (List.getElem?_eq_some_iff.1 hj).1
      rw [hget j hj'] at hj
      obtain rfl := Option.some.inj hj
      exact ⟨_, rfl, kTk_mkK _ _, (hT j hj').1⟩
    · rw [hll] at hi
      have hTi := hT i hi
      have e : ((List.range len).map T).getD i zTk = T i := by rw [List.getD_eq_getElem?_getD, hget i hi]; rfl
      rw [e]
      have hmem : D i ∈ (List.range len).map D := List.mem_map.2 ⟨i, List.mem_range.2 hi, rfl⟩
      have h1 := bulk_mem hmem
      rw [hTi.2.1] at h1
      have h2 := bulk_tk (H := H) (T i)
      exact ⟨by omega, hTi.2.2⟩
set_option maxRecDepth 100000 in
theorem open_tks {H : Type} {enc : TypeId × Value → H} {w : World} {base b0 : Nat} {sp : Nat → Bool} {held : Bool} {r : Reach} {v : Value} {d : DataW H} {ps : List MemPlace}
    (hv : Value.okWide Tryz.prog w r b0 56 v) (h : DataW.Trod enc Tryz.prog w base sp held 56 v d ps) (hb : Rows.uptoBulk d ≤ 1048576) :
    ∃ (l : List Tk) (A : Option Addr) (c : Nat), v = .slice A l.length c ∧ kTk.C w A l.length l ∧ l.length ≤ c ∧ TksOk l ∧ l.length ≤ 1048576 := by
  obtain ⟨A, len, cap, rfl⟩ := okWide_slice Tryz.underlying56 hv
  obtain ⟨fuel, hf⟩ := h
  exact open_tks0 (x := (d, ps)) hf hb
end Go.Proofs.YtgapeacflkfmdaaGreatDoor
