/-
  errors.As at a target of type **api.Fault: Go's own text of errors.As and errors.as walked (a nil error; an error that is a *api.Fault). Its closed facts are the kit's worked example Toyas turned to this program's numbers. Errors as chains of api.Fault: what a value of type error says (ErrIs), errors.Is at a number, heddlemem.Chain. The kinds of heddlemem.Link and api.Token as rows of cells; a chain of links as a slice (nil where it is empty). heddlemem.Chain: the links of an error's chain.
-/
import Derived.Test.YtgapeacflkfmdaaGreatDoorProg
import Derived.WalkKit
import Derived.WalkSpells
import Derived.LaidEql
import Derived.Stop.Asserts
import Derived.RowKitTokens
import Derived.Lib.IfaceEq
import Derived.Lib.Hide
import Derived.Below
import Derived.Deep.LoopGhost
import Derived.Test.YtgapeacflkfmdaaGreatDoorKWWords
import Derived.Lib.AppendIntMem
import Derived.Test.YtgapeacflkfmdaaGreatDoorKShelf
import Derived.StillTailTactics
import Derived.Deep.QuietTactic
import Derived.BigQuiet
import Derived.Outline
import Derived.Deep.RegionHeld3
import Derived.Deep.AppendLies
import Derived.Lib.Strings
import Derived.Test.YtgapeacflkfmdaaGreatDoorKWEqStruct
namespace Go.Proofs.YtgapeacflkfmdaaGreatDoor
open Go.RowKit Go.Extern.Stop Go.Stop Go.Extern

/-- errors.As(nil, target). -/
theorem as_nil (t : Value) (w : World) :
    Calls Tryz.prog 84 #[.nilIface, t] w fun e w' => e = .returned (.bool false) ∧ w' = w := by
  go_enter Tryz.func84, Tryz.ntmps84
  go_wp2
  go_ret
  exact ⟨rfl, rfl⟩

theorem as_valueOfPP (t : Addr) (w : World) : (ReflectliteValue.unpack (.iface 127 (.pointer (some t)))).run Tryz.prog w
    = .ok (.agg #[.pointer (some ⟨9, 127, none⟩), .pointer (some ⟨w.heap.size, 0, none⟩), .int .u64 150]) (w.alloc (.cells #[.pointer (some t)] 127)) := by kernel_rfl
theorem as_typePP (a : Addr) (w : World) : (ReflectliteValue.methodAny (ReflectliteValue.valueError "reflectlite.Value.Type" 0) (fun t _ _ _ => ReflectliteType.toType t) #[.agg #[.pointer (some ⟨9, 127, none⟩), .pointer (some a), .int .u64 150]]).run Tryz.prog w
    = .ok (.iface 174 (.agg #[.pointer (some ⟨9, 127, none⟩)])) w := by kernel_rfl
theorem as_methodKind (h : Value) (w : World) : (Go.method 390 174 (.agg #[h]) "Kind").run Tryz.prog w = .ok (246, h) w := by kernel_rfl
theorem as_kindPP (w : World) : ((ReflectliteType.abiMethod fun t => (fun a : Nat => Value.int IntKind.u8 (a : Int)) <$> Rtype.kind t) #[.pointer (some ⟨9, 127, none⟩)]).run Tryz.prog w = .ok (.int .u8 22) w := by kernel_rfl
theorem as_kindP (w : World) : ((ReflectliteType.abiMethod fun t => (fun a : Nat => Value.int IntKind.u8 (a : Int)) <$> Rtype.kind t) #[.pointer (some ⟨9, 125, none⟩)]).run Tryz.prog w = .ok (.int .u8 22) w := by kernel_rfl
theorem as_rlm (z : Sem Value) (f : TypeId → Addr → Nat → Nat → Sem Value) (v : Value) :
    ReflectliteValue.method z f #[v] = (do match ← ReflectliteValue.parts v with | none => z | some (t, a, fl) => f t a fl (fl % 32)) := rfl
theorem as_partsPP (a : Addr) (w : World) : (ReflectliteValue.parts (.agg #[.pointer (some ⟨9, 127, none⟩), .pointer (some a), .int .u64 150])).run Tryz.prog w = .ok (some (127, a, 150)) w := by kernel_rfl
theorem as_isNilPP (a p : Addr) (W : World) (ha : W.cell? a = some (.pointer (some p))) :
    (ReflectliteValue.method (ReflectliteValue.valueError "reflectlite.Value.IsNil" 0) ReflectliteValue.isNil #[.agg #[.pointer (some ⟨9, 127, none⟩), .pointer (some a), .int .u64 150]]).run Tryz.prog W = .ok (.bool false) W := by
  rw [as_rlm]
  simp only [Sem.run_bind, as_partsPP, Result.andThen]
  simp [ReflectliteValue.isNil, loadVar, isAgg, underlying, Tryz.underlying127, ha, Result.andThen]
theorem as_methodElem (h : Value) (w : World) : (Go.method 390 174 (.agg #[h]) "Elem").run Tryz.prog w = .ok (259, .agg #[h]) w := by kernel_rfl
theorem as_methodImplements (h : Value) (w : World) : (Go.method 390 174 (.agg #[h]) "Implements").run Tryz.prog w = .ok (260, .agg #[h]) w := by kernel_rfl
theorem as_methodAssignableTo (h : Value) (w : World) : (Go.method 390 174 (.agg #[h]) "AssignableTo").run Tryz.prog w = .ok (257, .agg #[h]) w := by kernel_rfl
theorem as_elemPP (w : World) : (ReflectliteType.method ReflectliteType.elem #[.agg #[.pointer (some ⟨9, 127, none⟩)]]).run Tryz.prog w = .ok (.iface 174 (.agg #[.pointer (some ⟨9, 125, none⟩)])) w := by kernel_rfl
theorem as_implementsP (w : World) : (ReflectliteType.relation "Implements" ReflectliteType.implements_ #[.agg #[.pointer (some ⟨9, 125, none⟩)], .iface 174 (.agg #[.pointer (some ⟨9, 29, none⟩)])]).run Tryz.prog w = .ok (.bool true) w := by kernel_rfl
theorem as_typeOfP (v : Value) (w : World) : (ReflectliteType.typeOf #[.iface 125 v]).run Tryz.prog w = .ok (.iface 174 (.agg #[.pointer (some ⟨9, 125, none⟩)])) w := by kernel_rfl
theorem as_assignableP (w : World) : (ReflectliteType.relation "AssignableTo" ReflectliteType.assignableTo #[.agg #[.pointer (some ⟨9, 125, none⟩)], .iface 174 (.agg #[.pointer (some ⟨9, 125, none⟩)])]).run Tryz.prog w = .ok (.bool true) w := by kernel_rfl
theorem as_valueOfP (e : Addr) (w : World) : (ReflectliteValue.unpack (.iface 125 (.pointer (some e)))).run Tryz.prog w
    = .ok (.agg #[.pointer (some ⟨9, 125, none⟩), .pointer (some ⟨w.heap.size, 0, none⟩), .int .u64 150]) (w.alloc (.cells #[.pointer (some e)] 125)) := by kernel_rfl
theorem as_elemOfPP (w : World) : (Rtype.elem? 127).run Tryz.prog w = .ok (some 125) w := by kernel_rfl
theorem as_mkP (p : Addr) (w : World) : (ReflectliteValue.mk 125 p ReflectliteValue.flagAddr).run Tryz.prog w = .ok (.agg #[.pointer (some ⟨9, 125, none⟩), .pointer (some p), .int .u64 406]) w := by kernel_rfl
theorem as_elemVPP (a p : Addr) (W : World) (ha : W.cell? a = some (.pointer (some p))) :
    (ReflectliteValue.method (ReflectliteValue.valueError "reflectlite.Value.Elem" 0) ReflectliteValue.elem #[.agg #[.pointer (some ⟨9, 127, none⟩), .pointer (some a), .int .u64 150]]).run Tryz.prog W
      = .ok (.agg #[.pointer (some ⟨9, 125, none⟩), .pointer (some p), .int .u64 406]) W := by
  rw [as_rlm]
  simp only [Sem.run_bind, as_partsPP, Result.andThen]
  simp [ReflectliteValue.elem, loadVar, isAgg, underlying, Tryz.underlying127, ha, Result.andThen, as_elemOfPP, as_mkP]
theorem as_rls (v x : Value) : ReflectliteValue.set #[v, x] = (do
    let (some (dst, a, fl), some (src, b, _)) := (← ReflectliteValue.parts v, ← ReflectliteValue.parts x)
      | unsupported (.noEntry "extern/(internal/reflectlite.Value).Set.zeroValue")
    if fl / ReflectliteValue.flagAddr % 2 == 0 then unsupported (.noEntry "extern/(internal/reflectlite.Value).Set.unaddressable")
    let val ← loadVar src b
    if ← Rtype.directlyAssignable dst src then storeVar dst a val
    else if ← Rtype.implements dst src then
      if (← Rtype.kind src) == 20 then
        match val with
        | .nilIface => unsupported (.noEntry "extern/reflectlite: a nil value of one interface type handed on as a value of another")
        | _ => storeVar dst a val
      else storeVar dst a (.iface src val)
    else panicString ("reflectlite.Set: value of type " ++ (← Rtype.spelt src) ++ " is not assignable to type " ++ (← Rtype.spelt dst))
    pure (.tuple #[])) := rfl
theorem as_partsPa (a : Addr) (w : World) : (ReflectliteValue.parts (.agg #[.pointer (some ⟨9, 125, none⟩), .pointer (some a), .int .u64 406])).run Tryz.prog w = .ok (some (125, a, 406)) w := by kernel_rfl
theorem as_partsP (a : Addr) (w : World) : (ReflectliteValue.parts (.agg #[.pointer (some ⟨9, 125, none⟩), .pointer (some a), .int .u64 150])).run Tryz.prog w = .ok (some (125, a, 150)) w := by kernel_rfl
theorem as_directP (w : World) : (Rtype.directlyAssignable 125 125).run Tryz.prog w = .ok true w := by kernel_rfl
theorem as_setP (ta b e : Addr) (old : Value) (W : World) (hb : W.cell? b = some (.pointer (some e))) (ht : W.cell? ta = some old) (hf : W.frozen? ta = false) :
    (ReflectliteValue.set #[.agg #[.pointer (some ⟨9, 125, none⟩), .pointer (some ta), .int .u64 406], .agg #[.pointer (some ⟨9, 125, none⟩), .pointer (some b), .int .u64 150]]).run Tryz.prog W
      = .ok (.tuple #[]) (W.setCell ta (.pointer (some e))) := by
  rw [as_rls]
  simp only [Sem.run_bind, as_partsPa, as_partsP, Result.andThen]
  simp [ReflectliteValue.flagAddr, loadVar, isAgg, underlying, Tryz.underlying125, hb, Result.andThen, as_directP, storeVar, Value.cells, storeCells, Addr.add]
  rw [run_store Tryz.prog W ta _ _ (by rfl)]
  simp [ht, hf]
set_option maxHeartbeats 4000000 in
theorem as_hit (e t : Addr) (old : Value) (w : World) (hg : w.cell? ⟨0, 0, none⟩ = some (.iface 174 (.agg #[.pointer (some ⟨9, 29, none⟩)]))) (ht0 : w.cell? t = some old) (hf0 : w.frozen? t = false) :
    Calls Tryz.prog 84 #[.iface 125 (.pointer (some e)), .iface 127 (.pointer (some t))] w fun ev w' => ev = .returned (.bool true) ∧ w' = ((((w.alloc (.cells #[.pointer (some t)] 127)).alloc (.cells #[.pointer (some ⟨9, 127, none⟩), .pointer (some ⟨w.heap.size, 0, none⟩), .int .u64 150] 166)).alloc (.cells #[.pointer (some ⟨9, 127, none⟩), .pointer (some ⟨w.heap.size, 0, none⟩), .int .u64 150] 166)).alloc (.cells #[.pointer (some e)] 125)).setCell t (.pointer (some e)) := by
  have h6 := @run_callFunc_extern Tryz.prog 139 _ (fun args => ReflectliteValue.unpack (args.getD 0 (.tuple #[]))) Tryz.func139 (by kernel_rfl) (by kernel_rfl) (by kernel_rfl) (by kernel_rfl)
  have h7 := @run_callFunc_extern Tryz.prog 140 _ (ReflectliteValue.methodAny (ReflectliteValue.valueError "reflectlite.Value.Type" 0) (fun t _ _ _ => ReflectliteType.toType t)) Tryz.func140 (by kernel_rfl) (by kernel_rfl) (by kernel_rfl) (by kernel_rfl)
  have h8 := @run_callFunc_extern Tryz.prog 141 _ (ReflectliteValue.method (ReflectliteValue.valueError "reflectlite.Value.IsNil" 0) ReflectliteValue.isNil) Tryz.func141 (by kernel_rfl) (by kernel_rfl) (by kernel_rfl) (by kernel_rfl)
  have h27 := @run_callFunc_extern Tryz.prog 246 _ (ReflectliteType.abiMethod fun t => do pure (.int .u8 (← Rtype.kind t))) Tryz.func246 (by kernel_rfl) (by kernel_rfl) (by kernel_rfl) (by kernel_rfl)
  have h37 := @run_callFunc_extern Tryz.prog 259 _ (ReflectliteType.method ReflectliteType.elem) Tryz.func259 (by kernel_rfl) (by kernel_rfl) (by kernel_rfl) (by kernel_rfl)
  have h38 := @run_callFunc_extern Tryz.prog 260 _ (ReflectliteType.relation "Implements" ReflectliteType.implements_) Tryz.func260 (by kernel_rfl) (by kernel_rfl) (by kernel_rfl) (by kernel_rfl)
  have h10 := @run_callFunc_extern Tryz.prog 85 _ ReflectliteType.typeOf Tryz.func85 (by kernel_rfl) (by kernel_rfl) (by kernel_rfl) (by kernel_rfl)
  have h35 := @run_callFunc_extern Tryz.prog 257 _ (ReflectliteType.relation "AssignableTo" ReflectliteType.assignableTo) Tryz.func257 (by kernel_rfl) (by kernel_rfl) (by kernel_rfl) (by kernel_rfl)
  have h11 := @run_callFunc_extern Tryz.prog 184 _ (ReflectliteValue.method (ReflectliteValue.valueError "reflectlite.Value.Elem" 0) ReflectliteValue.elem) Tryz.func184 (by kernel_rfl) (by kernel_rfl) (by kernel_rfl) (by kernel_rfl)
  have h12 := @run_callFunc_extern Tryz.prog 185 _ ReflectliteValue.set Tryz.func185 (by kernel_rfl) (by kernel_rfl) (by kernel_rfl) (by kernel_rfl)
  have tO := as_typeOfP
  have mA := as_methodAssignableTo
  have a25 := as_assignableP
  have v25 := as_valueOfP
  have f6 := as_valueOfPP
  have f7 := as_typePP
  have mK := as_methodKind
  have mE := as_methodElem
  have mI := as_methodImplements
  have k27 := as_kindPP
  have k25 := as_kindP
  have e27 := as_elemPP
  have i25 := as_implementsP
  have n8 := as_isNilPP ⟨w.heap.size, 0, none⟩ t ((w.alloc (.cells #[.pointer (some t)] 127)).alloc (.cells #[.pointer (some ⟨9, 127, none⟩), .pointer (some ⟨w.heap.size, 0, none⟩), .int .u64 150] 166)) (by simp)
  have hlt : 0 < w.heap.size := World.block_lt_of_cell? w _ hg
  have hg2 : ((w.alloc (.cells #[.pointer (some t)] 127)).alloc (.cells #[.pointer (some ⟨9, 127, none⟩), .pointer (some ⟨w.heap.size, 0, none⟩), .int .u64 150] 166)).cell? ⟨0, 0, none⟩ = some (.iface 174 (.agg #[.pointer (some ⟨9, 29, none⟩)])) := by
    rw [World.cell?_alloc_lt _ _ ⟨0, 0, none⟩ (by simp <;> omega), World.cell?_alloc_lt _ _ ⟨0, 0, none⟩ hlt]; exact hg
  have htl : t.block < w.heap.size := World.block_lt_of_cell? w _ ht0
  have el := as_elemVPP ⟨w.heap.size, 0, none⟩ t (((w.alloc (.cells #[.pointer (some t)] 127)).alloc (.cells #[.pointer (some ⟨9, 127, none⟩), .pointer (some ⟨w.heap.size, 0, none⟩), .int .u64 150] 166)).alloc (.cells #[.pointer (some ⟨9, 127, none⟩), .pointer (some ⟨w.heap.size, 0, none⟩), .int .u64 150] 166)) (by rw [World.cell?_alloc_lt _ _ ⟨w.heap.size, 0, none⟩ (by simp; omega)]; simp)
  have st := as_setP t ⟨w.heap.size + 1 + 1 + 1, 0, none⟩ e old ((((w.alloc (.cells #[.pointer (some t)] 127)).alloc (.cells #[.pointer (some ⟨9, 127, none⟩), .pointer (some ⟨w.heap.size, 0, none⟩), .int .u64 150] 166)).alloc (.cells #[.pointer (some ⟨9, 127, none⟩), .pointer (some ⟨w.heap.size, 0, none⟩), .int .u64 150] 166)).alloc (.cells #[.pointer (some e)] 125))
    (by rw [World.cell?_alloc_at _ _ _ _ (by simp)]; rfl)
    (by rw [World.cell?_alloc_lt _ _ t (by simp; omega), World.cell?_alloc_lt _ _ t (by simp; omega), World.cell?_alloc_lt _ _ t (by simp; omega), World.cell?_alloc_lt _ _ t htl]; exact ht0)
    (by rw [World.frozen?_alloc_old _ _ t (by simp; omega), World.frozen?_alloc_old _ _ t (by simp; omega), World.frozen?_alloc_old _ _ t (by simp; omega), World.frozen?_alloc_old _ _ t (Nat.ne_of_lt htl)]; exact hf0)
  go_enter Tryz.func84, Tryz.ntmps84
  go_wp2
  refine wp_loop_rounds 1 ?_
  rw [rounds_succ]
  go_wp2
  go_ret
  exact ⟨rfl, rfl⟩
end Go.Proofs.YtgapeacflkfmdaaGreatDoor
namespace Go.Proofs.YtgapeacflkfmdaaGreatDoor
open Go.RowKit Go.Extern.Stop Go.Stop Go.Extern

/-- One Fault of a chain. -/
structure Lk where
  ly : ByteArray
  pl : Int
  co : Int
instance : DecidableEq Lk := fun a b => if h : a.ly = b.ly ∧ a.pl = b.pl ∧ a.co = b.co then isTrue (by cases a; cases b; simp_all) else isFalse (by intro e; subst e; exact h ⟨rfl, rfl, rfl⟩)

/-- The value 'v' of type error is the chain 'l' of Faults in the world 'W' (no error: the empty chain). -/
def ErrIs (W : World) : List Lk → Value → Prop
  | [], v => v = .nilIface
  | l :: ls, v => ∃ b u, v = .iface 125 (.pointer (some ⟨b, 0, none⟩)) ∧ W.cell? ⟨b, 0, none⟩ = some (.string l.ly) ∧ W.cell? ⟨b, 1, none⟩ = some (.int .i64 l.pl) ∧
      W.cell? ⟨b, 2, none⟩ = some (.int .i64 l.co) ∧ W.cell? ⟨b, 3, none⟩ = some u ∧ ErrIs W ls u

theorem ErrIs.below {W W' : World} (hb : Below W.heap.size W W') : ∀ {l : List Lk} {v : Value}, ErrIs W l v → ErrIs W' l v
  | [], _, h => h
  | _ :: _, _, ⟨b, u, e, h0, h1, h2, h3, h4⟩ =>
    ⟨b, u, e, (hb.cell (World.block_lt_of_cell? W _ h0)).trans h0, (hb.cell (World.block_lt_of_cell? W _ h1)).trans h1, (hb.cell (World.block_lt_of_cell? W _ h2)).trans h2,
      (hb.cell (World.block_lt_of_cell? W _ h3)).trans h3, ErrIs.below hb h4⟩
theorem ErrIs.shape {W : World} : ∀ {l : List Lk} {v : Value}, ErrIs W l v → v = .nilIface ∨ ∃ b : Nat, v = .iface 125 (.pointer (some ⟨b, 0, none⟩))
  | [], _, h => .inl h
  | _ :: _, _, ⟨b, _, e, _⟩ => .inr ⟨b, e⟩

/-- The innermost number. -/
def inmost : List Lk → Int
  | [] => 0
  | [l] => l.co
  | _ :: l :: ls => inmost (l :: ls)

/-! ### errors.Is at a number -/
theorem is_typeOfN (v : Value) (w : World) : (Extern.ReflectliteType.typeOf #[.iface 81 v]).run Tryz.prog w = .ok (.iface 174 (.agg #[.pointer (some ⟨9, 81, none⟩)])) w := by kernel_rfl
def is_compM : Array Value → Sem Value := Extern.ReflectliteType.method fun t => do Rtype.noPackHeld "Comparable" t; pure (.bool (← typeInfo t).comparable)
theorem is_comparable (w : World) : (is_compM #[.agg #[.pointer (some ⟨9, 81, none⟩)]]).run Tryz.prog w = .ok (.bool true) w := by kernel_rfl
theorem is_methodComparable (v : Value) (w : World) : (Go.method 390 174 v "Comparable").run Tryz.prog w = .ok (258, v) w := by kernel_rfl
theorem is_comp : (Tryz.prog.info? 81).map (·.comparable) = some true := by kernel_rfl
theorem is_noIsF (v : Value) (xT : TypeId) (w : World) : (Instr.typeAssert (.iface 125 v) xT 176 true).run Tryz.prog w = .ok (.tuple #[.nilIface, .bool false]) w := run_typeAssert_lacksB Tryz.underlying176 (by kernel_rfl) (by kernel_rfl) v xT w
theorem is_noIsN (v : Value) (xT : TypeId) (w : World) : (Instr.typeAssert (.iface 81 v) xT 176 true).run Tryz.prog w = .ok (.tuple #[.nilIface, .bool false]) w := run_typeAssert_lacksB Tryz.underlying176 (by kernel_rfl) (by kernel_rfl) v xT w
theorem is_noUnwrapN (v : Value) (xT : TypeId) (w : World) : (Instr.typeAssert (.iface 81 v) xT 179 true).run Tryz.prog w = .ok (.tuple #[.nilIface, .bool false]) w := run_typeAssert_lacksB Tryz.underlying179 (by kernel_rfl) (by kernel_rfl) v xT w
theorem is_noUnwrapsN (v : Value) (xT : TypeId) (w : World) : (Instr.typeAssert (.iface 81 v) xT 180 true).run Tryz.prog w = .ok (.tuple #[.nilIface, .bool false]) w := run_typeAssert_lacksB Tryz.underlying180 (by kernel_rfl) (by kernel_rfl) v xT w
theorem is_hasUnwrapF (v : Value) (xT : TypeId) (w : World) : (Instr.typeAssert (.iface 125 v) xT 179 true).run Tryz.prog w = .ok (.tuple #[.iface 125 v, .bool true]) w := run_typeAssert_hasB Tryz.underlying179 (by kernel_rfl) v xT w
theorem is_methodUnwrap (v : Value) (w : World) : (Go.method 390 125 v "Unwrap").run Tryz.prog w = .ok (252, v) w := by kernel_rfl

/-- What errors.is still has to look at. -/
def Still (W : World) (c0 : Int) (k : Nat) (v : Value) : Prop := (∃ l : List Lk, l ≠ [] ∧ l.length = k ∧ ErrIs W l v ∧ inmost l = c0) ∨ (k = 0 ∧ v = .iface 81 (.int .i64 c0))

set_option maxRecDepth 100000 in
theorem is_in {W : World} (c : Int) (l : List Lk) (v : Value) (h : ErrIs W l v) (hl : l ≠ []) :
    Calls Tryz.prog 86 #[v, .iface 81 (.int .i64 c), .bool true] W fun e w' => e = .returned (.bool (inmost l == c)) ∧ W = w' := by
  have nF := is_noIsF
  have nN := is_noIsN
  have uN := is_noUnwrapN
  have usN := is_noUnwrapsN
  have uF := is_hasUnwrapF
  have mU := is_methodUnwrap
  have heq := fun (a : Int) => fun W => Lib.run_eql_iface_int (P := Tryz.prog) W (k := .i64) a c Tryz.underlying29 is_comp Tryz.underlying81
  have HS : Still W (inmost l) l.length v := .inl ⟨l, hl, rfl, h, rfl⟩
  obtain ⟨c0, hc0⟩ : ∃ c0, c0 = inmost l := ⟨_, rfl⟩
  rw [← hc0] at HS
  rw [← hc0]
  clear hc0 h hl
  go_enter Tryz.func86, Tryz.ntmps86
  go_wp2_with fail
  go_loopg [0] l.length (fun k E' wl => W = wl ∧ Still W c0 k E')
  case atStart => exact ⟨rfl, HS⟩
  case round =>
    obtain ⟨rfl, hs⟩ := hrel
    clear HS
    rcases hs with ⟨l', hl', hlen, hE, hin⟩ | ⟨hk, rfl⟩
    · cases l' with
      | nil => exact absurd rfl hl'
      | cons l1 ls =>
        obtain ⟨b, u, rfl, h0, h1, h2, h3, h4⟩ := hE
        have hty := run_eql_iface_types (P := Tryz.prog) 125 81 (.pointer (some ⟨b, 0, none⟩)) (.int .i64 c) Tryz.underlying29 (by decide) W
        cases ls with
        | nil =>
          have hu : u = .nilIface := h4
          subst hu
          have hc : l1.co = c0 := hin
          have HN : Hid (Still W c0 0 (.iface 81 (.int .i64 l1.co))) := Lib.hid (.inr ⟨rfl, by rw [hc]⟩)
          have HK : Hid (0 < gk) := Lib.hid (by rw [← hlen]; simp)
          clear hc hin h4 hlen hl'
          go_wp2
          go_roundg 0
          case measure => exact HK.out
          case rel => exact ⟨rfl, HN.out⟩
        | cons l2 ls =>
          obtain ⟨b2, u2, rfl, h5⟩ := id h4
          have HN : Hid (Still W c0 (gk - 1) (.iface 125 (.pointer (some ⟨b2, 0, none⟩)))) := Lib.hid (.inl ⟨l2 :: ls, by simp, by rw [← hlen]; simp, h4, hin⟩)
          have HK : Hid (gk - 1 < gk) := Lib.hid (by rw [← hlen]; simp)
          clear h4 h5 hin hlen hl'
          go_wp2
          go_roundg (gk - 1)
          case measure => exact HK.out
          case rel => exact ⟨rfl, HN.out⟩
    · have hq := heq c0 W
      clear heq
      by_cases hcc : c0 = c
      · have hb : (c0 == c) = true := beq_iff_eq.2 hcc
        clear hcc
        rw [hb] at hq
        have HB := Lib.hid hb
        clear hb
        go_wp2_with fail
        go_ret
        exact ⟨by rw [HB.out]; rfl, rfl⟩
      · have hb : (c0 == c) = false := beq_eq_false_iff_ne.2 hcc
        clear hcc
        rw [hb] at hq
        have HB := Lib.hid hb
        clear hb
        go_wp2_with fail
        go_ret
        exact ⟨by rw [HB.out]; rfl, rfl⟩

set_option maxRecDepth 100000 in
/-- errors.Is of a chain at a number. -/
theorem Is_in {W : World} (c : Int) (l : List Lk) (v : Value) (h : ErrIs W l v) (hl : l ≠ []) :
    Calls Tryz.prog 43 #[v, .iface 81 (.int .i64 c)] W fun e w' => e = .returned (.bool (inmost l == c)) ∧ W = w' := by
  have hT := @run_callFunc_extern Tryz.prog 85 _ ReflectliteType.typeOf Tryz.func85 (by kernel_rfl) (by kernel_rfl) (by kernel_rfl) (by kernel_rfl)
  have hC := @run_callFunc_extern Tryz.prog 258 _ is_compM Tryz.func258 (by kernel_rfl) (by kernel_rfl) (by kernel_rfl) (by kernel_rfl)
  have tN := is_typeOfN
  have cN := is_comparable
  have mC := is_methodComparable
  have hv : ∃ b : Nat, v = .iface 125 (.pointer (some ⟨b, 0, none⟩)) := by
    rcases h.shape with hn | hs
    · cases l with
      | nil => exact absurd rfl hl
      | cons x xs => obtain ⟨b, _, e, _⟩ := h; rw [hn] at e; cases e
    · exact hs
  obtain ⟨b, rfl⟩ := hv
  have HI := Lib.hid (is_in c l _ h hl)
  clear h hl
  go_enter Tryz.func43, Tryz.ntmps43
  go_wp2_with fail
  refine HI.out.mono ?_
  rintro e w' ⟨rfl, rfl⟩
  go_wp2_with fail
  go_ret
  exact ⟨rfl, rfl⟩
theorem Is_nil {W : World} (c : Int) :
    Calls Tryz.prog 43 #[.nilIface, .iface 81 (.int .i64 c)] W fun e w' => e = .returned (.bool false) ∧ W = w' := by
  have hn := fun W => run_eql_iface_nil_left (P := Tryz.prog) W 81 (.int .i64 c) Tryz.underlying29
  go_enter Tryz.func43, Tryz.ntmps43
  go_wp2_with fail
  go_ret
  exact ⟨rfl, rfl⟩
end Go.Proofs.YtgapeacflkfmdaaGreatDoor
namespace Go.Proofs.YtgapeacflkfmdaaGreatDoor
open Go.RowKit Go.Proofs.YtgapeacflkfmdaaGreatDoorW.PrintWords

theorem infoLk : (Tryz.prog.info? 83).map (fun i => (i.zero, i.size, i.bytes)) = some (some (.agg #[(.string ⟨#[]⟩), (.int .i64 0), (.int .i64 0)]), 3, 32) := by kernel_rfl
theorem infoTk : (Tryz.prog.info? 63).map (fun i => (i.zero, i.size, i.bytes)) = some (some (.agg #[(.int .i64 0), (.string ⟨#[]⟩), (.int .i64 0), (.int .i64 0)]), 4, 40) := by kernel_rfl

def zLk : Lk := ⟨⟨#[]⟩, 0, 0⟩
def kLk : Kd Lk := Kd.iso (Kd.pair Kd.string (Kd.pair (Kd.int .i64) (Kd.int .i64))) (fun x : Lk => (x.ly, x.pl, x.co))
theorem kLk_open {w : World} {x : Lk} {cs : List Value} (h : kLk.K w x cs) : cs = [.string x.ly, .int .i64 x.pl, .int .i64 x.co] := by
  obtain ⟨_, _, rfl, rfl, ⟨_, _, rfl, rfl, rfl⟩⟩ := h
  exact rfl
theorem kLk_mkM (w : World) (base : Nat) (ok : Nat → Prop) (x : Lk) : kLk.M w base ok x [.string x.ly, .int .i64 x.pl, .int .i64 x.co] := ⟨[.string x.ly], [.int .i64 x.pl, .int .i64 x.co], rfl, rfl, ⟨[.int .i64 x.pl], [.int .i64 x.co], rfl, rfl, rfl⟩⟩
def rdLk (xs : List Lk) (i : Int) : Lk := xs.getD i.toNat zLk
theorem atLk {w : World} {A : Option Addr} {n : Nat} {xs : List Lk} (h : Kd.C kLk w A n xs) (i : Int) (h0 : 0 ≤ i) (h1 : i < n) : ∃ ad , A = some ad ∧ w.cell? (ad.add (i.toNat * 3)) = some (.string (rdLk xs i).ly) ∧ w.cell? ⟨(ad.add (i.toNat * 3)).block, (ad.add (i.toNat * 3)).off + 1, none⟩ = some (.int .i64 (rdLk xs i).pl) ∧ w.cell? ⟨(ad.add (i.toNat * 3)).block, (ad.add (i.toNat * 3)).off + 2, none⟩ = some (.int .i64 (rdLk xs i).co) := by
  obtain ⟨ad, c, e, _, hK, hc0⟩ := Kd.C_get h zLk i h0 h1
  have hc : ∀ j u, c[j]? = some u → w.cell? (ad.add (i.toNat * 3 + j)) = some u := hc0
  obtain rfl := kLk_open hK
  exact ⟨ad, e, hc 0 _ rfl, by rw [← add_field _ _ 1 (by omega)]; exact hc 1 _ rfl, by rw [← add_field _ _ 2 (by omega)]; exact hc 2 _ rfl⟩

/-- One token. -/
structure Tk where
  kd : Int
  tx : ByteArray
  nm : Int
  at_ : Int
instance : DecidableEq Tk := fun a b => if h : a.kd = b.kd ∧ a.tx = b.tx ∧ a.nm = b.nm ∧ a.at_ = b.at_ then isTrue (by cases a; cases b; simp_all) else isFalse (by intro e; subst e; exact h ⟨rfl, rfl, rfl, rfl⟩)
def zTk : Tk := ⟨0, ⟨#[]⟩, 0, 0⟩
def kTk : Kd Tk := Kd.iso (Kd.pair (Kd.int .i64) (Kd.pair Kd.string (Kd.pair (Kd.int .i64) (Kd.int .i64)))) (fun x : Tk => (x.kd, x.tx, x.nm, x.at_))
theorem kTk_open {w : World} {x : Tk} {cs : List Value} (h : kTk.K w x cs) : cs = [.int .i64 x.kd, .string x.tx, .int .i64 x.nm, .int .i64 x.at_] := by
  obtain ⟨_, _, rfl, rfl, ⟨_, _, rfl, rfl, ⟨_, _, rfl, rfl, rfl⟩⟩⟩ := h
  exact rfl
theorem kTk_mkM (w : World) (base : Nat) (ok : Nat → Prop) (x : Tk) : kTk.M w base ok x [.int .i64 x.kd, .string x.tx, .int .i64 x.nm, .int .i64 x.at_] := ⟨[.int .i64 x.kd], [.string x.tx, .int .i64 x.nm, .int .i64 x.at_], rfl, rfl, ⟨[.string x.tx], [.int .i64 x.nm, .int .i64 x.at_], rfl, rfl, ⟨[.int .i64 x.nm], [.int .i64 x.at_], rfl, rfl, rfl⟩⟩⟩
def rdTk (xs : List Tk) (i : Int) : Tk := xs.getD i.toNat zTk
theorem atTk {w : World} {A : Option Addr} {n : Nat} {xs : List Tk} (h : Kd.C kTk w A n xs) (i : Int) (h0 : 0 ≤ i) (h1 : i < n) : ∃ ad , A = some ad ∧ w.cell? (ad.add (i.toNat * 4)) = some (.int .i64 (rdTk xs i).kd) ∧ w.cell? ⟨(ad.add (i.toNat * 4)).block, (ad.add (i.toNat * 4)).off + 1, none⟩ = some (.string (rdTk xs i).tx) ∧ w.cell? ⟨(ad.add (i.toNat * 4)).block, (ad.add (i.toNat * 4)).off + 2, none⟩ = some (.int .i64 (rdTk xs i).nm) ∧ w.cell? ⟨(ad.add (i.toNat * 4)).block, (ad.add (i.toNat * 4)).off + 3, none⟩ = some (.int .i64 (rdTk xs i).at_) := by
  obtain ⟨ad, c, e, _, hK, hc0⟩ := Kd.C_get h zTk i h0 h1
  have hc : ∀ j u, c[j]? = some u → w.cell? (ad.add (i.toNat * 4 + j)) = some u := hc0
  obtain rfl := kTk_open hK
  exact ⟨ad, e, hc 0 _ rfl, by rw [← add_field _ _ 1 (by omega)]; exact hc 1 _ rfl, by rw [← add_field _ _ 2 (by omega)]; exact hc 2 _ rfl, by rw [← add_field _ _ 3 (by omega)]; exact hc 3 _ rfl⟩

/-- A chain of links as a slice of the call's own; nil where it is empty. -/
def LnIs (W : World) (base : Nat) (l : List Lk) (v : Value) : Prop := kLk.R 83 W base (fun _ => True) v l ∧ (l = [] → v = .slice none 0 0)
theorem LnIs.below {W W' : World} {base : Nat} {l : List Lk} {v : Value} (h : LnIs W base l v) (hb : Below W.heap.size W W') : LnIs W' base l v := ⟨Kd.R_below h.1 hb, h.2⟩
theorem LnIs.lower {W : World} {base base' : Nat} {l : List Lk} {v : Value} (h : LnIs W base l v) (hb : base' ≤ base) : LnIs W base' l v := ⟨Kd.R_lower h.1 hb, h.2⟩
theorem LnIs.nil (W : World) (base : Nat) : LnIs W base [] (.slice none 0 0) := ⟨Kd.R_nil _ _ _ _ _, fun _ => rfl⟩
theorem LnIs.reads {W : World} {base : Nat} {l : List Lk} {v : Value} (h : LnIs W base l v) : ∃ A c, v = .slice A l.length c ∧ l.length ≤ c ∧ kLk.C W A l.length l := Kd.R_reads h.1

/-- What every call may lean on: the library's variables, as the row lists them. -/
structure Glob (W : World) : Prop where
  et : W.cell? ⟨0, 0, none⟩ = some (.iface 174 (.agg #[.pointer (some ⟨9, 29, none⟩)]))
  ut : Lib.Utf8Tabs 3 4 W
  sy : ∃ t p, W.cell? ⟨5, 0, none⟩ = some (.iface t p)
  rg : ∃ t p, W.cell? ⟨6, 0, none⟩ = some (.iface t p)
  pw : Lib.TabIs Tryz.prog W "internal/strconv.uint64pow10" .u64 Lib.pow10Tab
  mx : ∃ m, W.cell? ⟨2, 0, none⟩ = some (.int .i64 m)
theorem Glob.below {W W' : World} (h : Glob W) (hb : Below W.heap.size W W') : Glob W' where
  et := (hb.cell (World.block_lt_of_cell? W _ h.et)).trans h.et
  ut := ⟨fun c hc => (hb.cell (World.block_lt_of_cell? W _ (h.ut.1 c hc))).trans (h.ut.1 c hc), fun i hi => ⟨(hb.cell (World.block_lt_of_cell? W _ (h.ut.2 i hi).1)).trans (h.ut.2 i hi).1, (hb.cell (World.block_lt_of_cell? W _ (h.ut.2 i hi).2)).trans (h.ut.2 i hi).2⟩⟩
  sy := by obtain ⟨t, p, hc⟩ := h.sy; exact ⟨t, p, (hb.cell (World.block_lt_of_cell? W _ hc)).trans hc⟩
  rg := by obtain ⟨t, p, hc⟩ := h.rg; exact ⟨t, p, (hb.cell (World.block_lt_of_cell? W _ hc)).trans hc⟩
  pw := Lib.tabBelow_of_tabIs h.pw W' hb
  mx := by obtain ⟨m, hc⟩ := h.mx; exact ⟨m, (hb.cell (World.block_lt_of_cell? W _ hc)).trans hc⟩

theorem trans_below {w w1 w2 : World} (h : Below w.heap.size w w1) (k : Below w1.heap.size w1 w2) : Below w.heap.size w w2 := below_then h h.size k
end Go.Proofs.YtgapeacflkfmdaaGreatDoor
namespace Go.Proofs.YtgapeacflkfmdaaGreatDoor
open Go.RowKit Go.Proofs.YtgapeacflkfmdaaGreatDoorW.PrintWords

/-- errors.As at a *api.Fault, the target in a block of the caller's own. -/
theorem as_in (e : Addr) (tb : Nat) (old : Value) (w : World) (hg : Glob w) (ht : w.cell? ⟨tb, 0, none⟩ = some old) (hf : w.frozen? ⟨tb, 0, none⟩ = false) :
    Calls Tryz.prog 84 #[.iface 125 (.pointer (some e)), .iface 127 (.pointer (some ⟨tb, 0, none⟩))] w fun ev w' => ev = .returned (.bool true) ∧ w'.cell? ⟨tb, 0, none⟩ = some (.pointer (some e)) ∧ Below tb w w' ∧ w'.frozen? ⟨tb, 0, none⟩ = false := by
  have hlt : tb < w.heap.size := World.block_lt_of_cell? w _ ht
  refine (as_hit e ⟨tb, 0, none⟩ old w hg.et ht hf).mono ?_
  rintro ev w' ⟨rfl, rfl⟩
  have hb : ∀ o1 o2 o3 o4, Below w.heap.size w ((((w.alloc o1).alloc o2).alloc o3).alloc o4) := fun o1 o2 o3 o4 => below_alloc (below_alloc (below_alloc (below_alloc (Below.refl _ _) o1) o2) o3) o4
  refine ⟨rfl, ?_, ?_, ?_⟩
  · exact World.cell?_setCell_same (u := old) _ _ _ (((hb _ _ _ _).cell hlt).trans ht)
  · exact ((hb _ _ _ _).mono (Nat.le_of_lt hlt)).setCell (Nat.le_refl _) _
  · rw [World.frozen?_setCell]; exact ((hb _ _ _ _).frozen hlt).trans hf

/-- What Chain's loop still has to do. -/
def ChainRel (W : World) (l : List Lk) (k : Nat) (E' vl vi : Value) (wl : World) : Prop :=
  ∃ (E0 v0 : Value) (done rest : List Lk), E0 = E' ∧ v0 = vl ∧ done ++ rest = l ∧ k = rest.length ∧ vi = .int .i64 (done.length : Int) ∧ ErrIs W rest E' ∧ kLk.R 83 wl W.heap.size (fun _ => True) vl done ∧ Below W.heap.size W wl
def ChainPost (W : World) (l : List Lk) (e : Ending) (w' : World) : Prop := ∃ v, e = .returned v ∧ kLk.R 83 w' W.heap.size (fun _ => True) v l ∧ Below W.heap.size W w'

set_option maxRecDepth 100000 in
set_option maxHeartbeats 1000000 in
theorem Chain_in {W : World} (l : List Lk) (v : Value) (h : ErrIs W l v) (hl : l.length ≤ 16) (hG : Glob W) :
    Calls Tryz.prog 42 #[v] W (ChainPost W l) := by
  have HG := Lib.hid hG
  clear hG
  have H0 : ChainRel W l l.length v (.slice none 0 0) (.int .i64 0) W := ⟨_, _, [], l, rfl, rfl, rfl, rfl, rfl, h, Kd.R_nil _ _ _ _ _, Below.refl _ _⟩
  clear h
  go_enter Tryz.func42, Tryz.ntmps42
  go_wp2_with fail
  go_loopg [0, 3, 4] l.length (fun k E' vl vi wl => ChainRel W l k E' vl vi wl)
  case atStart => exact H0
  case round =>
    clear H0
    obtain ⟨E', vl, done, rest, rfl, rfl, hdr, hk, rfl, hE, hR, hB⟩ := hrel
    have HB := Lib.hid hB
    have hlen : done.length + rest.length ≤ 16 := by have := congrArg List.length hdr; simp at this; omega
    cases rest with
    | nil =>
      have hE' : E' = .nilIface := hE
      subst hE'
      have HR := Lib.hid hR
      have HD := Lib.hid hdr
      clear hdr hk hE hR hB
      have hP : ∀ e, e = .returned vl → ChainPost W l e wr := fun e he => ⟨vl, he, by have := HD.out; simp at this; subst this; exact HR.out, HB.out⟩
      have HP := Lib.hid hP
      clear hP
      by_cases hlt : done.length < 16
      · go_wp2_with fail
        go_ret
        exact HP.out _ rfl
      · go_wp2_with fail
        go_ret
        exact HP.out _ rfl
    | cons r rs =>
      obtain ⟨b, u, rfl, h0, h1, h2, h3, h4⟩ := hE
      have hlt : done.length < 16 := by simp at hlen; omega
      have HE4 := Lib.hid h4
      have HR := Lib.hid hR
      have HD := Lib.hid hdr
      have HK := Lib.hid hk
      clear hdr hk hR hB h4 hlen
      go_wp2_with fail
      refine (as_in ⟨b, 0, none⟩ wr.heap.size (.pointer none) _ ((HG.out.below HB.out).below (below_alloc (Below.refl _ _) _)) (by simp) (by simp)).mono ?_
      rintro e w1 ⟨rfl, hc1, hb1, hf1⟩
      have hb2 : Below wr.heap.size wr w1 := (below_alloc (Below.refl _ _) _).trans hb1
      have hb3 : Below W.heap.size W w1 := trans_below HB.out hb2
      have l0 : b < W.heap.size := World.block_lt_of_cell? W _ h0
      have g0 : w1.cell? ⟨b, 0, none⟩ = some (.string r.ly) := (hb3.cell l0).trans h0
      have g1 : w1.cell? ⟨b, 1, none⟩ = some (.int .i64 r.pl) := (hb3.cell l0).trans h1
      have g2 : w1.cell? ⟨b, 2, none⟩ = some (.int .i64 r.co) := (hb3.cell l0).trans h2
      have hR1 : kLk.R 83 w1 W.heap.size (fun _ => True) vl done := Kd.R_below HR.out hb2
      have hsz : wr.heap.size + 1 ≤ w1.heap.size := by have := hb1.size; simpa using this
      have hne : some wr.heap.size ≠ vl.ownBlock := by
        obtain ⟨inner, ho⟩ := Kd.R_own HR.out
        intro he
        have := own_lt ho _ he.symm
        omega
      have H3 := Lib.hid h3
      have HR1 := Lib.hid hR1
      have HB2 := Lib.hid hb2
      have HB3 := Lib.hid hb3
      have HN := Lib.hid hne
      have HL : Hid (b < w1.heap.size ∧ some b ≠ vl.ownBlock) := by
        refine ⟨Nat.lt_of_lt_of_le l0 hb3.size, ?_⟩
        obtain ⟨inner, ho⟩ := Kd.R_own HR.out
        intro he
        have := own_base ho _ he.symm
        omega
      clear h0 h1 h2 h3 hb1 hb2 hb3 hf1 hR1 hne l0
      go_wp2_with fail
      go_region_held3 (fun w' => w'.cell? ⟨wr.heap.size, 0, none⟩ = some (.pointer (some ⟨b, 0, none⟩)) ∧ w'.cell? ⟨b, 0, none⟩ = some (.string r.ly) ∧ w'.cell? ⟨b, 1, none⟩ = some (.int .i64 r.pl) ∧ w'.cell? ⟨b, 2, none⟩ = some (.int .i64 r.co))
        (first
          | go_keep
          | (go_split_ands
             refine ⟨?_, ?_, ?_, ?_⟩
             · (rw [hg.cell_far _ (by simp; omega) HN.out]; assumption)
             · (rw [hg.cell_far _ HL.out.1 HL.out.2]; assumption)
             · (rw [hg.cell_far _ HL.out.1 HL.out.2]; assumption)
             · (rw [hg.cell_far _ HL.out.1 HL.out.2]; assumption)))
        ((refine Kd.R_append_step kLk (w0 := W) W.heap.size (by rfl) _ _ 32 83 (.agg #[(.string ⟨#[]⟩), (.int .i64 0), (.int .i64 0)]) 32 (by rfl) Tryz.underlying32 infoLk rfl (by decide) (by omega) vl done r [.string r.ly, .int .i64 r.pl, .int .i64 r.co] (fun _ => True) (fun _ => False) (by rfl) (by rfl) (kLk_mkM _ _ _ r) (fun _ hk => hk.elim) (fun _ _ => trivial) (Kd.R_drew HR1.out) (HB3.out.drew) (below_size (HB3.out.drew)) (by omega) ?_; intro v1 w2 ho hb hg hat))
      rename_i hH
      have f0 := hH.1
      have g3 : w2.cell? ⟨b, 3, none⟩ = some u := (hb.cell (World.block_lt_of_cell? W _ H3.out)).trans H3.out
      have HO := Lib.hid ho
      have HB4 := Lib.hid hb
      clear hH g0 g1 g2 hc1 ho hb hg hat
      go_wp2_with fail
      go_roundg rs.length
      case measure => rw [HK.out]; simp
      case rel => exact ⟨_, _, done ++ [r], rs, rfl, rfl, by rw [← HD.out]; simp, rfl, by simp, HE4.out, HO.out, HB4.out⟩

theorem eqLkA (d : Nat) (w : World) (x0 y0 : ByteArray) (x1 y1 : Int) (x2 y2 : Int) :
    (Op.equalIn (d + 2) 83 (.agg #[.string x0, .int .i64 x1, .int .i64 x2]) (.agg #[.string y0, .int .i64 y1, .int .i64 y2])).run Tryz.prog w = .ok (x0.toList == y0.toList && (x1 == y1 && (x2 == y2))) w := by
  refine eqA_of Tryz.underlying83 (by kernel_rfl) ?_
  refine eqf_cons (by rfl) (by go_simp; rfl) (by go_simp; rfl) (by go_simp) ?_
  refine eqf_cons (by rfl) (by go_simp; rfl) (by go_simp; rfl) (by go_simp) ?_
  exact eqf_last (by rfl) (by go_simp; rfl) (by go_simp; rfl) (by go_simp)
theorem tl_inj {a b : ByteArray} : a.toList = b.toList ↔ a = b := by
  constructor
  · intro h
    rw [Lib.toList_data, Lib.toList_data] at h
    obtain ⟨⟨x⟩⟩ := a
    obtain ⟨⟨y⟩⟩ := b
    simp at h
    rw [h]
  · intro h
    rw [h]
theorem neqLk (x y : Lk) (b : Bool) (hb : b = decide (x = y)) (w : World) : (binOp .neq 83 (.agg #[.string x.ly, .int .i64 x.pl, .int .i64 x.co]) (.agg #[.string y.ly, .int .i64 y.pl, .int .i64 y.co])).run Tryz.prog w = .ok (.bool (!b)) w := by
  have h := eqLkA 9998 w x.ly y.ly x.pl y.pl x.co y.co
  have he : (x.ly.toList == y.ly.toList && (x.pl == y.pl && x.co == y.co)) = b := by
    subst hb
    rw [Bool.eq_iff_iff]
    obtain ⟨xl, xp, xc⟩ := x
    obtain ⟨yl, yp, yc⟩ := y
    simp only [Bool.and_eq_true, beq_iff_eq, decide_eq_true_eq, Lk.mk.injEq, tl_inj]
  rw [he] at h
  simp only [binOp]
  simp only [Op.equal, Op.maxDepth, Nat.reduceAdd] at h ⊢
  simp [h]
theorem inmost_last : ∀ (l : List Lk), l ≠ [] → inmost l = (rdLk l ((l.length : Int) - 1)).co
  | [], h => absurd rfl h
  | [x], _ => rfl
  | x :: y :: ys, _ => by
    have h := inmost_last (y :: ys) (by simp)
    have e1 : (((x :: y :: ys).length : Int) - 1).toNat = (y :: ys).length := by simp
    have e2 : (((y :: ys).length : Int) - 1).toNat = ys.length := by simp
    simp only [rdLk, e1, e2, inmost] at h ⊢
    rw [h]
    simp

/-! ### heddlemem.Refused -/
/-- Is an error just this chain? -/
def refusedOf (e l : List Lk) : Bool := decide (e = l)
def RefusedPost (W : World) (b : Bool) (e : Ending) (w' : World) : Prop := e = .returned (.bool b) ∧ Below W.heap.size W w'

set_option maxRecDepth 100000 in
set_option maxHeartbeats 1000000 in
theorem Refused_in {W : World} (ls l : List Lk) (v : Value) (A : Option Addr) (c : Nat) (h : ErrIs W ls v) (hl : ls.length ≤ 16) (hC : kLk.C W A l.length l) (hn : l.length ≤ 16) (hG : Glob W) :
    Calls Tryz.prog 17 #[v, .slice A l.length c] W (RefusedPost W (refusedOf ls l)) := by
  by_cases h0 : l = []
  · subst h0
    have hv : (v = .nilIface ∧ refusedOf ls [] = true) ∨ (∃ x, v = .iface 125 x) ∧ refusedOf ls [] = false := by
      cases ls with
      | nil => exact .inl ⟨h, rfl⟩
      | cons x xs => obtain ⟨b, u, rfl, _⟩ := h; exact .inr ⟨⟨_, rfl⟩, rfl⟩
    clear h hC
    rcases hv with ⟨rfl, hr⟩ | ⟨⟨x, rfl⟩, hr⟩
    · rw [hr]
      go_enter Tryz.func17, Tryz.ntmps17
      go_wp2_with fail
      go_ret
      exact ⟨rfl, Below.refl _ _⟩
    · rw [hr]
      go_enter Tryz.func17, Tryz.ntmps17
      go_wp2_with fail
      go_ret
      exact ⟨rfl, Below.refl _ _⟩
  · have hpos : 0 < l.length := List.length_pos_iff.2 h0
    have hb0 : ((l.length : Int) == 0) = false := by simp; omega
    have HE := Lib.hid h
    have HC := Lib.hid hC
    have HGG := Lib.hid hG
    have H0 := Lib.hid h0
    have HCH := Lib.hid (Chain_in ls v h hl hG)
    clear h hC hG h0
    go_enter Tryz.func17, Tryz.ntmps17
    go_wp2_with fail
    refine HCH.out.mono ?_
    rintro e w1 ⟨vc, rfl, hR, hB⟩
    obtain ⟨A1, c1, rfl, hc1, hC1⟩ := Kd.R_reads hR
    have HC1 := Lib.hid hC1
    have HB := Lib.hid hB
    have HCw := Lib.hid (Kd.C_below HC.out hB)
    clear hR hB hC1 HCH
    by_cases hlen : ls.length = l.length
    · have hbl : ((ls.length : Int) != (l.length : Int)) = false := by simp; omega
      have HLEN := Lib.hid hlen
      clear hlen
      go_wp2_with fail
      go_loopw [6] (fun i wl => ∃ k : Nat, i = .int .i64 k ∧ k ≤ l.length ∧ Hid (∀ j, j < k → ls[j]? = l[j]?) ∧ ∃ m, wl = w1.drewN m) (fun i _ => l.length - (intOf i).toNat)
      case atStart => exact ⟨0, rfl, Nat.zero_le _, fun j hj => absurd hj (Nat.not_lt_zero _), 0, rfl⟩
      case round =>
        obtain ⟨k, rfl, hk, HA, m, rfl⟩ := hrel
        by_cases hlt : k < l.length
        · obtain ⟨ad, rfl, a0, a1, a2⟩ := atLk HC1.out (k : Int) (by omega) (by rw [HLEN.out]; omega)
          obtain ⟨ad', rfl, b0, b1, b2⟩ := atLk HCw.out (k : Int) (by omega) (by omega)
          simp only [Int.toNat_natCast] at a0 a1 a2 b0 b1 b2
          have k0 : (0 : Int) ≤ (k : Int) := by omega
          have k1 : (k : Int) < (l.length : Int) := by omega
          have k2 : (k : Int) < (ls.length : Int) := by rw [HLEN.out]; omega
          by_cases heq : rdLk ls (k : Int) = rdLk l (k : Int)
          · have hq := neqLk (rdLk ls (k : Int)) (rdLk l (k : Int)) true (by simp [heq])
            have HQ := Lib.hid heq
            clear heq
            simp only [Bool.not_true] at hq
            go_wp2_with fail
            go_quiet (fail)
            go_wp2_with fail
            go_roundw
            case rel =>
              refine ⟨k + 1, by go_num, by omega, fun j hj => ?_, ⟨_, rfl⟩⟩
              by_cases hjk : j = k
              · subst hjk
                have h1 : j < ls.length := by omega
                have h2 : j < l.length := by omega
                have := HQ.out
                simp only [rdLk, Int.toNat_natCast] at this
                rw [List.getElem?_eq_getElem h1, List.getElem?_eq_getElem h2]
                rw [List.getD_eq_getElem?_getD, List.getD_eq_getElem?_getD, List.getElem?_eq_getElem h1, List.getElem?_eq_getElem h2] at this
                simpa using this
              · exact HA.out j (by omega)
            case measure => simp [intOf]; omega
          · have hq := neqLk (rdLk ls (k : Int)) (rdLk l (k : Int)) false (by simp [heq])
            have HQ := Lib.hid heq
            clear heq
            simp only [Bool.not_false] at hq
            have HF : Hid (refusedOf ls l = false) := Lib.hid (decide_eq_false fun he => HQ.out (by rw [he]))
            go_wp2_with fail
            go_quiet (fail)
            go_wp2_with fail
            go_ret
            exact ⟨by rw [HF.out]; rfl, trans_below HB.out (by repeat (first | exact Below.refl _ _ | apply pw_below_drewN))⟩
        · have HT : Hid (ls = l) := by
            refine Lib.hid (List.ext_getElem? fun j => ?_)
            by_cases hj : j < k
            · exact HA.out j hj
            · rw [List.getElem?_eq_none (by rw [HLEN.out]; omega), List.getElem?_eq_none (by omega)]
          obtain ⟨ad', rfl, b0, b1, b2⟩ := atLk HCw.out ((l.length : Int) - 1) (by omega) (by omega)
          have ek : ((l.length : Int) - 1).toNat = l.length - 1 := by omega
          simp only [ek] at b0 b1 b2
          have hco : inmost ls = (rdLk l ((l.length : Int) - 1)).co := by rw [HT.out]; exact inmost_last l H0.out
          have hB2 : Below W.heap.size W (w1.drewN m) := trans_below HB.out (by repeat (first | exact Below.refl _ _ | apply pw_below_drewN))
          have HI := Lib.hid (Is_in (W := w1.drewN m) (rdLk l ((l.length : Int) - 1)).co ls v (HE.out.below hB2) (by rw [HT.out]; exact H0.out))
          have HB3 := Lib.hid hB2
          have HCO := Lib.hid hco
          have HF : Hid (refusedOf ls l = true) := Lib.hid (decide_eq_true HT.out)
          have k0 : (0 : Int) ≤ (l.length : Int) - 1 := by omega
          clear ek hco hB2 b0 b1
          go_wp2_with fail
          refine HI.out.mono ?_
          rintro e w2 ⟨rfl, rfl⟩
          go_wp2_with fail
          go_ret
          exact ⟨by rw [HF.out, HCO.out]; simp, HB3.out⟩
    · have hbl : ((ls.length : Int) != (l.length : Int)) = true := by simp; omega
      have HF : Hid (refusedOf ls l = false) := by
        refine Lib.hid (decide_eq_false fun he => hlen (by rw [he]))
      clear hlen
      go_wp2_with fail
      go_ret
      exact ⟨by rw [HF.out]; rfl, HB.out⟩
end Go.Proofs.YtgapeacflkfmdaaGreatDoor
