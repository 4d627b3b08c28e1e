/-
  LexBlanks' argument: tokens and gaps.
-/
import Derived.Test.YtgapeacflkfmdaaGreatDoorG20
import Derived.Test.YtgapeacflkfmdaaGreatDoorG21
namespace Go.Proofs.YtgapeacflkfmdaaGreatDoor
open Go.Lib Go.ChangeShapes Go.WideShapes Go.ChangeAt Go.RowKit Go.Proofs.YtgapeacflkfmdaaGreatDoorW.PrintWords

set_option maxRecDepth 100000 in
theorem open_strs0 {H : Type} {enc : TypeId × Value → H} {w : World} {base fuel : Nat} {sp : Nat → Bool} {held : Bool} {v : Value} {x : DataW H × List MemPlace}
    (hf : DataW.trod enc Tryz.prog w base sp held fuel 57 [v] = some x) (hb : Rows.uptoBulk x.1 ≤ 1048576) :
    ∃ (gs : List ByteArray) (B : Option Addr) (k : Nat), v = .slice B gs.length k ∧ StrsAt w B gs ∧ gs.length ≤ 1048576 := by
  rcases Go.Deep.open_slice1 Tryz.underlying57 (by kernel_rfl) hf with ⟨hcs, hx⟩ | ⟨a, len, cap, m, n, V, D, Pl, hcs, _, hl, _, hm, hx, hall⟩
  · simp only [List.cons.injEq, and_true] at hcs
    subst hcs
    exact ⟨[], none, 0, rfl, fun i hi => by simp at hi, Nat.zero_le _⟩
  · simp only [List.cons.injEq, and_true] at hcs
    subst hcs
    subst hx
    simp only at hb
    rw [Rows.uptoBulk] at hb
    have hlm : len ≤ m := by rw [hm]; split <;> omega
    have hlen := bulk_len ((List.range len).map D)
    rw [List.length_map, List.length_range] at hlen
    have key : ∀ i, i < len → ∃ s : ByteArray, w.cell? (a.add i) = some (.string s) ∧ s.size ≤ 140737488351232 := by
      intro i hi
      obtain ⟨h1, h2⟩ := hall i (by omega)
      obtain ⟨s, hs, hD, _⟩ := DataW.trod_string Tryz.underlying9 h2
      simp only [List.cons.injEq, and_true] at hs
      rw [hs] at h1
      refine ⟨s, h1, ?_⟩
      have hmem : D i ∈ (List.range len).map D := List.mem_map.2 ⟨i, List.mem_range.2 hi, rfl⟩
      have h3 := bulk_mem hmem
      rw [show D i = .lit (.string s.data.toList) from congrArg Prod.fst hD, Rows.uptoBulk, ← Lib.size_eq] at h3
      omega
    have key2 : ∃ T : Nat → ByteArray, ∀ i, i < len → w.cell? (a.add i) = some (.string (T i)) ∧ (T i).size ≤ 140737488351232 := by
      refine ⟨fun i => if hi : i < len then (key i hi).choose else ⟨#[]⟩, fun i hi => ?_⟩
      simp only [dif_pos hi]
      exact (key i hi).choose_spec
    obtain ⟨T, hT⟩ := key2
    have hll : ((List.range len).map T).length = len := by simp
    refine ⟨(List.range len).map T, some a, cap, by rw [hll], fun i hi => ?_, by rw [hll]; omega⟩
    rw [hll] at hi
    have e : ((List.range len).map T).getD i ⟨#[]⟩ = T i := by
      rw [List.getD_eq_getElem?_getD, List.getElem?_map, List.getElem?_range hi]
      rfl
    rw [e]
    exact ⟨a, rfl, hT i hi⟩
set_option maxRecDepth 100000 in
theorem open_two {H : Type} {enc : TypeId × Value → H} {w : World} {base b0 : Nat} {sp : Nat → Bool} {held : Bool} {r : Reach} {v : Value} {d : DataW H} {ps : List MemPlace}
    (hv : Value.okWide Tryz.prog w r b0 59 v) (h : DataW.Trod enc Tryz.prog w base sp held 59 v d ps) (hb : Rows.uptoBulk d ≤ 1048576) :
    ∃ (l : List Tk) (A : Option Addr) (c : Nat) (gs : List ByteArray) (B : Option Addr) (k : Nat), v = .agg #[.slice A l.length c, .slice B gs.length k] ∧ kTk.C w A l.length l ∧ l.length ≤ c ∧ TksOk l ∧ l.length ≤ 1048576 ∧ StrsAt w B gs ∧ gs.length ≤ 1048576 := by
  obtain ⟨v0, v1, y0, y1, n, rfl, rfl, rfl, h0, h1⟩ := Joins.open_agg2 Tryz.underlying59 (by kernel_rfl) (by kernel_rfl) hv h
  rw [Rows.uptoBulk, Rows.uptoBulkAll, Rows.uptoBulkAll] at hb
  obtain ⟨l, A, c, rfl, k1, k2, k3, k4⟩ := open_tks0 h0 (by omega)
  obtain ⟨gs, B, k, rfl, k5, k6⟩ := open_strs0 h1 (by omega)
  exact ⟨l, A, c, gs, B, k, rfl, k1, k2, k3, k4, k5, k6⟩
end Go.Proofs.YtgapeacflkfmdaaGreatDoor
