/-
  A token handed in: its reading opened and shut.
-/
import Derived.Test.YtgapeacflkfmdaaGreatDoorG13
import Derived.Lib.SmallJoins
namespace Go.Proofs.YtgapeacflkfmdaaGreatDoor
open Go.Lib Go.ChangeShapes Go.WideShapes Go.ChangeAt Go.RowKit
def tkD {H : Type} (t : Tk) : DataW H := .agg [.lit (.int .i64 t.kd), .lit (.string t.tx.data.toList), .lit (.int .i64 t.nm), .lit (.int .i64 t.at_)]
set_option maxRecDepth 100000 in
theorem open_tk {H : Type} {enc : TypeId × Value → H} {w : World} {base b0 : Nat} {sp : Nat → Bool} {held : Bool} {r : Reach} {v : Value} {d : DataW H} {ps : List MemPlace}
    (hv : Value.okWide Tryz.prog w r b0 63 v) (h : DataW.Trod enc Tryz.prog w base sp held 63 v d ps) :
    ∃ t : Tk, v = tkV t ∧ d = tkD t ∧ ps = [] ∧ (t.tx.size ∈ (tkD t : DataW H).weights Tryz.prog 63) ∧ t.tx.size ≤ maxLen ∧ -9223372036854775808 ≤ t.nm ∧ t.nm ≤ 9223372036854775807 ∧
      (∀ (w : World) (base : Nat) (sp : Nat → Bool) (held : Bool), DataW.Trod enc Tryz.prog w base sp held 63 (tkV t) (tkD t) []) := by
  obtain ⟨v0, v1, v2, v3, y0, y1, y2, y3, n, rfl, rfl, rfl, h0, h1, h2, h3⟩ := Joins.open_agg4 Tryz.underlying63 (by kernel_rfl) (by kernel_rfl) hv h
  obtain ⟨k, e0, rfl, hk⟩ := DataW.trod_int Tryz.underlying61 h0
  obtain ⟨s, e1, rfl, hs⟩ := DataW.trod_string Tryz.underlying9 h1
  obtain ⟨m, e2, rfl, hm⟩ := DataW.trod_int Tryz.underlying2 h2
  obtain ⟨a, e3, rfl, ha⟩ := DataW.trod_int Tryz.underlying3 h3
  obtain rfl := List.cons.inj e0 |>.1
  obtain rfl := List.cons.inj e1 |>.1
  obtain rfl := List.cons.inj e2 |>.1
  obtain rfl := List.cons.inj e3 |>.1
  refine ⟨⟨k, s, m, a⟩, rfl, rfl, rfl, ?_, hs, ?_, ?_, ?_⟩
  · unfold tkD
    rw [DataW.weights, Tryz.underlying63]
    simp only [List.map, DataW.weightsEach, DataW.weights, List.nil_append, List.append_nil, List.mem_singleton]
    exact Lib.size_eq _
  · have h := (of_decide_eq_true ((Bool.and_eq_true _ _).mp hm).1 : IntKind.i64.min ≤ m)
    exact h
  · have h := (of_decide_eq_true ((Bool.and_eq_true _ _).mp hm).2 : m ≤ IntKind.i64.max)
    exact h
  · intro w base sp held
    exact Joins.shut_agg4 (y0 := (.lit (.int .i64 k), [])) (y1 := (.lit (.string s.data.toList), [])) (y2 := (.lit (.int .i64 m), [])) (y3 := (.lit (.int .i64 a), [])) Tryz.underlying63 (by kernel_rfl) (by kernel_rfl)
      (Joins.field_of_Trod (shut_int Tryz.underlying61 hk) rfl) (Joins.field_of_Trod (Go.ChangeMaps.shut_string Tryz.underlying9 hs) rfl) (Joins.field_of_Trod (shut_int Tryz.underlying2 hm) rfl) (Joins.field_of_Trod (shut_int Tryz.underlying3 ha) rfl)
end Go.Proofs.YtgapeacflkfmdaaGreatDoor
