/-
 errors.As at a target of type **api.Fault: Go's own text of errors.As and errors.as walked (a nil error; an error that is a *api.Fault). Its closed facts are the kit's worked example Toyas turned to this program's numbers. Errors as chains of api.Fault: what a value of type error says (ErrIs), errors.Is at a number, heddlemem.Chain. The kinds of heddlemem.Link and api.Token as rows of cells; a chain of links as a slice (nil where it is empty). heddlemem.Chain: the links of an error's chain. What a row of these statements lays: the library's variables in the world (Glob), a world that meets the list, the step from a walk's end to a row's post. Contracts of the small functions on one byte: lex, heddleref10, heddleref01, atom. Plain Lean: a text's bytes as numbers; runs of bytes of a sort; blanks and comments. No program here. lex: the scanner's runs, blanks and comments. UTF-8: the place of the first code point that is none: atom.strange, heddleref01.UTF. The escapes of quoted atoms: atom.escape, heddleref01.escape. Reserved words; runs of word bytes; plain atoms: atom.reserved, atom.word, atom.plain, lex.isReserved, heddleref01.Reserved, heddleref01.plain.
-/
import Derived.Test.YtibbcfeaododhaaGreatDoorProg
import Derived.WalkKit
import Derived.WalkSpells
import Derived.LaidEql
import Derived.Stop.Asserts
import Derived.RowKitTokens
import Derived.Lib.IfaceEq
import Derived.Lib.Hide
import Derived.Below
import Derived.Deep.LoopGhost
import Derived.Test.YtibbcfeaododhaaGreatDoorJWWords
import Derived.Lib.AppendIntMem
import Derived.Test.YtibbcfeaododhaaGreatDoorJShelf
import Derived.StillTailTactics
import Derived.Deep.QuietTactic
import Derived.BigQuiet
import Derived.Outline
import Derived.Deep.RegionHeld3
import Derived.Deep.AppendLies
import Derived.Lib.Strings
import Derived.Test.YtibbcfeaododhaaGreatDoorJWEqStruct
import Derived.Test.YtibbcfeaododhaaGreatDoorCards
import Derived.Test.YtibbcfeaododhaaGreatDoorTie
import Derived.ProofKit
import Derived.OpenShut
import Derived.Deep.DeepHandedRow
import Derived.Deep.DeepWitnessRowRef
import Derived.Lib.LaidTab
import Derived.Lib.LaidU8T
import Derived.PinnedBridge
import Derived.LaidHandle
import Derived.LaidSub
import Derived.Lay
import Derived.Shelf.Vars
import Derived.Lib.OthersKept
import Derived.Lib.TrimU
import Derived.Lib.RuneCountTail
import Derived.Test.YtibbcfeaododhaaGreatDoorJPWdx1
import Derived.Lib.IndexMore
namespace Go.Proofs.YtibbcfeaododhaaGreatDoor
open Go.RowKit Go.Extern.Stop Go.Stop Go.Extern
/-- errors.As(nil, target). -/
theorem as_nil (t : Value) (w : World) :
  Calls Tryz.prog 62 #[.nilIface, t] w fun e w' => e = .returned (.bool false) ∧ w' = w := by
 go_enter Tryz.func62, Tryz.ntmps62
 go_wp2
 go_ret
 exact ⟨rfl, rfl⟩
theorem as_valueOfPP (t : Addr) (w : World) : (ReflectliteValue.unpack (.iface 99 (.pointer (some t)))).run Tryz.prog w
  = .ok (.agg #[.pointer (some ⟨12, 99, none⟩), .pointer (some ⟨w.heap.size, 0, none⟩), .int .u64 150]) (w.alloc (.cells #[.pointer (some t)] 99)) := by kernel_rfl
theorem as_typePP (a : Addr) (w : World) : (ReflectliteValue.methodAny (ReflectliteValue.valueError "reflectlite.Value.Type" 0) (fun t _ _ _ => ReflectliteType.toType t) #[.agg #[.pointer (some ⟨12, 99, none⟩), .pointer (some a), .int .u64 150]]).run Tryz.prog w
  = .ok (.iface 185 (.agg #[.pointer (some ⟨12, 99, none⟩)])) w := by kernel_rfl
theorem as_methodKind (h : Value) (w : World) : (Go.method 429 185 (.agg #[h]) "Kind").run Tryz.prog w = .ok (233, h) w := by kernel_rfl
theorem as_kindPP (w : World) : ((ReflectliteType.abiMethod fun t => (fun a : Nat => Value.int IntKind.u8 (a : Int)) <$> Rtype.kind t) #[.pointer (some ⟨12, 99, none⟩)]).run Tryz.prog w = .ok (.int .u8 22) w := by kernel_rfl
theorem as_kindP (w : World) : ((ReflectliteType.abiMethod fun t => (fun a : Nat => Value.int IntKind.u8 (a : Int)) <$> Rtype.kind t) #[.pointer (some ⟨12, 92, none⟩)]).run Tryz.prog w = .ok (.int .u8 22) w := by kernel_rfl
theorem as_rlm (z : Sem Value) (f : TypeId → Addr → Nat → Nat → Sem Value) (v : Value) :
  ReflectliteValue.method z f #[v] = (do match ← ReflectliteValue.parts v with | none => z | some (t, a, fl) => f t a fl (fl % 32)) := rfl
theorem as_partsPP (a : Addr) (w : World) : (ReflectliteValue.parts (.agg #[.pointer (some ⟨12, 99, none⟩), .pointer (some a), .int .u64 150])).run Tryz.prog w = .ok (some (99, a, 150)) w := by kernel_rfl
theorem as_isNilPP (a p : Addr) (W : World) (ha : W.cell? a = some (.pointer (some p))) :
  (ReflectliteValue.method (ReflectliteValue.valueError "reflectlite.Value.IsNil" 0) ReflectliteValue.isNil #[.agg #[.pointer (some ⟨12, 99, none⟩), .pointer (some a), .int .u64 150]]).run Tryz.prog W = .ok (.bool false) W := by
 rw [as_rlm]
 simp only [Sem.run_bind, as_partsPP, Result.andThen]
 simp [ReflectliteValue.isNil, loadVar, isAgg, underlying, Tryz.underlying99, ha, Result.andThen]
theorem as_methodElem (h : Value) (w : World) : (Go.method 429 185 (.agg #[h]) "Elem").run Tryz.prog w = .ok (245, .agg #[h]) w := by kernel_rfl
theorem as_methodImplements (h : Value) (w : World) : (Go.method 429 185 (.agg #[h]) "Implements").run Tryz.prog w = .ok (246, .agg #[h]) w := by kernel_rfl
theorem as_methodAssignableTo (h : Value) (w : World) : (Go.method 429 185 (.agg #[h]) "AssignableTo").run Tryz.prog w = .ok (243, .agg #[h]) w := by kernel_rfl
theorem as_elemPP (w : World) : (ReflectliteType.method ReflectliteType.elem #[.agg #[.pointer (some ⟨12, 99, none⟩)]]).run Tryz.prog w = .ok (.iface 185 (.agg #[.pointer (some ⟨12, 92, none⟩)])) w := by kernel_rfl
theorem as_implementsP (w : World) : (ReflectliteType.relation "Implements" ReflectliteType.implements_ #[.agg #[.pointer (some ⟨12, 92, none⟩)], .iface 185 (.agg #[.pointer (some ⟨12, 29, none⟩)])]).run Tryz.prog w = .ok (.bool true) w := by kernel_rfl
theorem as_typeOfP (v : Value) (w : World) : (ReflectliteType.typeOf #[.iface 92 v]).run Tryz.prog w = .ok (.iface 185 (.agg #[.pointer (some ⟨12, 92, none⟩)])) w := by kernel_rfl
theorem as_assignableP (w : World) : (ReflectliteType.relation "AssignableTo" ReflectliteType.assignableTo #[.agg #[.pointer (some ⟨12, 92, none⟩)], .iface 185 (.agg #[.pointer (some ⟨12, 92, none⟩)])]).run Tryz.prog w = .ok (.bool true) w := by kernel_rfl
theorem as_valueOfP (e : Addr) (w : World) : (ReflectliteValue.unpack (.iface 92 (.pointer (some e)))).run Tryz.prog w
  = .ok (.agg #[.pointer (some ⟨12, 92, none⟩), .pointer (some ⟨w.heap.size, 0, none⟩), .int .u64 150]) (w.alloc (.cells #[.pointer (some e)] 92)) := by kernel_rfl
theorem as_elemOfPP (w : World) : (Rtype.elem? 99).run Tryz.prog w = .ok (some 92) w := by kernel_rfl
theorem as_mkP (p : Addr) (w : World) : (ReflectliteValue.mk 92 p ReflectliteValue.flagAddr).run Tryz.prog w = .ok (.agg #[.pointer (some ⟨12, 92, none⟩), .pointer (some p), .int .u64 406]) w := by kernel_rfl
theorem as_elemVPP (a p : Addr) (W : World) (ha : W.cell? a = some (.pointer (some p))) :
  (ReflectliteValue.method (ReflectliteValue.valueError "reflectlite.Value.Elem" 0) ReflectliteValue.elem #[.agg #[.pointer (some ⟨12, 99, none⟩), .pointer (some a), .int .u64 150]]).run Tryz.prog W
   = .ok (.agg #[.pointer (some ⟨12, 92, none⟩), .pointer (some p), .int .u64 406]) W := by
 rw [as_rlm]
 simp only [Sem.run_bind, as_partsPP, Result.andThen]
 simp [ReflectliteValue.elem, loadVar, isAgg, underlying, Tryz.underlying99, ha, Result.andThen, as_elemOfPP, as_mkP]
theorem as_rls (v x : Value) : ReflectliteValue.set #[v, x] = (do
  let (some (dst, a, fl), some (src, b, _)) := (← ReflectliteValue.parts v, ← ReflectliteValue.parts x)
   | unsupported (.noEntry "extern/(internal/reflectlite.Value).Set.zeroValue")
  if fl / ReflectliteValue.flagAddr % 2 == 0 then unsupported (.noEntry "extern/(internal/reflectlite.Value).Set.unaddressable")
  let val ← loadVar src b
  if ← Rtype.directlyAssignable dst src then storeVar dst a val
  else if ← Rtype.implements dst src then
   if (← Rtype.kind src) == 20 then
    match val with
    | .nilIface => unsupported (.noEntry "extern/reflectlite: a nil value of one interface type handed on as a value of another")
    | _ => storeVar dst a val
   else storeVar dst a (.iface src val)
  else panicString ("reflectlite.Set: value of type " ++ (← Rtype.spelt src) ++ " is not assignable to type " ++ (← Rtype.spelt dst))
  pure (.tuple #[])) := rfl
theorem as_partsPa (a : Addr) (w : World) : (ReflectliteValue.parts (.agg #[.pointer (some ⟨12, 92, none⟩), .pointer (some a), .int .u64 406])).run Tryz.prog w = .ok (some (92, a, 406)) w := by kernel_rfl
theorem as_partsP (a : Addr) (w : World) : (ReflectliteValue.parts (.agg #[.pointer (some ⟨12, 92, none⟩), .pointer (some a), .int .u64 150])).run Tryz.prog w = .ok (some (92, a, 150)) w := by kernel_rfl
theorem as_directP (w : World) : (Rtype.directlyAssignable 92 92).run Tryz.prog w = .ok true w := by kernel_rfl
theorem as_setP (ta b e : Addr) (old : Value) (W : World) (hb : W.cell? b = some (.pointer (some e))) (ht : W.cell? ta = some old) (hf : W.frozen? ta = false) :
  (ReflectliteValue.set #[.agg #[.pointer (some ⟨12, 92, none⟩), .pointer (some ta), .int .u64 406], .agg #[.pointer (some ⟨12, 92, none⟩), .pointer (some b), .int .u64 150]]).run Tryz.prog W
   = .ok (.tuple #[]) (W.setCell ta (.pointer (some e))) := by
 rw [as_rls]
 simp only [Sem.run_bind, as_partsPa, as_partsP, Result.andThen]
 simp [ReflectliteValue.flagAddr, loadVar, isAgg, underlying, Tryz.underlying92, hb, Result.andThen, as_directP, storeVar, Value.cells, storeCells, Addr.add]
 rw [run_store Tryz.prog W ta _ _ (by rfl)]
 simp [ht, hf]
set_option maxHeartbeats 4000000 in
theorem as_hit (e t : Addr) (old : Value) (w : World) (hg : w.cell? ⟨0, 0, none⟩ = some (.iface 185 (.agg #[.pointer (some ⟨12, 29, none⟩)]))) (ht0 : w.cell? t = some old) (hf0 : w.frozen? t = false) :
  Calls Tryz.prog 62 #[.iface 92 (.pointer (some e)), .iface 99 (.pointer (some t))] w fun ev w' => ev = .returned (.bool true) ∧ w' = ((((w.alloc (.cells #[.pointer (some t)] 99)).alloc (.cells #[.pointer (some ⟨12, 99, none⟩), .pointer (some ⟨w.heap.size, 0, none⟩), .int .u64 150] 177)).alloc (.cells #[.pointer (some ⟨12, 99, none⟩), .pointer (some ⟨w.heap.size, 0, none⟩), .int .u64 150] 177)).alloc (.cells #[.pointer (some e)] 92)).setCell t (.pointer (some e)) := by
 have h6 := @run_callFunc_extern Tryz.prog 113 _ (fun args => ReflectliteValue.unpack (args.getD 0 (.tuple #[]))) Tryz.func113 (by kernel_rfl) (by kernel_rfl) (by kernel_rfl) (by kernel_rfl)
 have h7 := @run_callFunc_extern Tryz.prog 114 _ (ReflectliteValue.methodAny (ReflectliteValue.valueError "reflectlite.Value.Type" 0) (fun t _ _ _ => ReflectliteType.toType t)) Tryz.func114 (by kernel_rfl) (by kernel_rfl) (by kernel_rfl) (by kernel_rfl)
 have h8 := @run_callFunc_extern Tryz.prog 115 _ (ReflectliteValue.method (ReflectliteValue.valueError "reflectlite.Value.IsNil" 0) ReflectliteValue.isNil) Tryz.func115 (by kernel_rfl) (by kernel_rfl) (by kernel_rfl) (by kernel_rfl)
 have h27 := @run_callFunc_extern Tryz.prog 233 _ (ReflectliteType.abiMethod fun t => do pure (.int .u8 (← Rtype.kind t))) Tryz.func233 (by kernel_rfl) (by kernel_rfl) (by kernel_rfl) (by kernel_rfl)
 have h37 := @run_callFunc_extern Tryz.prog 245 _ (ReflectliteType.method ReflectliteType.elem) Tryz.func245 (by kernel_rfl) (by kernel_rfl) (by kernel_rfl) (by kernel_rfl)
 have h38 := @run_callFunc_extern Tryz.prog 246 _ (ReflectliteType.relation "Implements" ReflectliteType.implements_) Tryz.func246 (by kernel_rfl) (by kernel_rfl) (by kernel_rfl) (by kernel_rfl)
 have h10 := @run_callFunc_extern Tryz.prog 63 _ ReflectliteType.typeOf Tryz.func63 (by kernel_rfl) (by kernel_rfl) (by kernel_rfl) (by kernel_rfl)
 have h35 := @run_callFunc_extern Tryz.prog 243 _ (ReflectliteType.relation "AssignableTo" ReflectliteType.assignableTo) Tryz.func243 (by kernel_rfl) (by kernel_rfl) (by kernel_rfl) (by kernel_rfl)
 have h11 := @run_callFunc_extern Tryz.prog 160 _ (ReflectliteValue.method (ReflectliteValue.valueError "reflectlite.Value.Elem" 0) ReflectliteValue.elem) Tryz.func160 (by kernel_rfl) (by kernel_rfl) (by kernel_rfl) (by kernel_rfl)
 have h12 := @run_callFunc_extern Tryz.prog 161 _ ReflectliteValue.set Tryz.func161 (by kernel_rfl) (by kernel_rfl) (by kernel_rfl) (by kernel_rfl)
 have tO := as_typeOfP
 have mA := as_methodAssignableTo
 have a25 := as_assignableP
 have v25 := as_valueOfP
 have f6 := as_valueOfPP
 have f7 := as_typePP
 have mK := as_methodKind
 have mE := as_methodElem
 have mI := as_methodImplements
 have k27 := as_kindPP
 have k25 := as_kindP
 have e27 := as_elemPP
 have i25 := as_implementsP
 have n8 := as_isNilPP ⟨w.heap.size, 0, none⟩ t ((w.alloc (.cells #[.pointer (some t)] 99)).alloc (.cells #[.pointer (some ⟨12, 99, none⟩), .pointer (some ⟨w.heap.size, 0, none⟩), .int .u64 150] 177)) (by simp)
 have hlt : 0 < w.heap.size := World.block_lt_of_cell? w _ hg
 have hg2 : ((w.alloc (.cells #[.pointer (some t)] 99)).alloc (.cells #[.pointer (some ⟨12, 99, none⟩), .pointer (some ⟨w.heap.size, 0, none⟩), .int .u64 150] 177)).cell? ⟨0, 0, none⟩ = some (.iface 185 (.agg #[.pointer (some ⟨12, 29, none⟩)])) := by
  rw [World.cell?_alloc_lt _ _ ⟨0, 0, none⟩ (by simp <;> omega), World.cell?_alloc_lt _ _ ⟨0, 0, none⟩ hlt]; exact hg
 have htl : t.block < w.heap.size := World.block_lt_of_cell? w _ ht0
 have el := as_elemVPP ⟨w.heap.size, 0, none⟩ t (((w.alloc (.cells #[.pointer (some t)] 99)).alloc (.cells #[.pointer (some ⟨12, 99, none⟩), .pointer (some ⟨w.heap.size, 0, none⟩), .int .u64 150] 177)).alloc (.cells #[.pointer (some ⟨12, 99, none⟩), .pointer (some ⟨w.heap.size, 0, none⟩), .int .u64 150] 177)) (by rw [World.cell?_alloc_lt _ _ ⟨w.heap.size, 0, none⟩ (by simp; omega)]; simp)
 have st := as_setP t ⟨w.heap.size + 1 + 1 + 1, 0, none⟩ e old ((((w.alloc (.cells #[.pointer (some t)] 99)).alloc (.cells #[.pointer (some ⟨12, 99, none⟩), .pointer (some ⟨w.heap.size, 0, none⟩), .int .u64 150] 177)).alloc (.cells #[.pointer (some ⟨12, 99, none⟩), .pointer (some ⟨w.heap.size, 0, none⟩), .int .u64 150] 177)).alloc (.cells #[.pointer (some e)] 92))
  (by rw [World.cell?_alloc_at _ _ _ _ (by simp)]; rfl)
  (by rw [World.cell?_alloc_lt _ _ t (by simp; omega), World.cell?_alloc_lt _ _ t (by simp; omega), World.cell?_alloc_lt _ _ t (by simp; omega), World.cell?_alloc_lt _ _ t htl]; exact ht0)
  (by rw [World.frozen?_alloc_old _ _ t (by simp; omega), World.frozen?_alloc_old _ _ t (by simp; omega), World.frozen?_alloc_old _ _ t (by simp; omega), World.frozen?_alloc_old _ _ t (Nat.ne_of_lt htl)]; exact hf0)
 go_enter Tryz.func62, Tryz.ntmps62
 go_wp2
 refine wp_loop_rounds 1 ?_
 rw [rounds_succ]
 go_wp2
 go_ret
 exact ⟨rfl, rfl⟩
end Go.Proofs.YtibbcfeaododhaaGreatDoor
namespace Go.Proofs.YtibbcfeaododhaaGreatDoor
open Go.RowKit Go.Extern.Stop Go.Stop Go.Extern
/-- One Fault of a chain. -/
structure Lk where
 ly : ByteArray
 pl : Int
 co : Int
instance : DecidableEq Lk := fun a b => if h : a.ly = b.ly ∧ a.pl = b.pl ∧ a.co = b.co then isTrue (by cases a; cases b; simp_all) else isFalse (by intro e; subst e; exact h ⟨rfl, rfl, rfl⟩)
/-- The value 'v' of type error is the chain 'l' of Faults in the world 'W' (no error: the empty chain). -/
def ErrIs (W : World) : List Lk → Value → Prop
 | [], v => v = .nilIface
 | l :: ls, v => ∃ b u, v = .iface 92 (.pointer (some ⟨b, 0, none⟩)) ∧ W.cell? ⟨b, 0, none⟩ = some (.string l.ly) ∧ W.cell? ⟨b, 1, none⟩ = some (.int .i64 l.pl) ∧
   W.cell? ⟨b, 2, none⟩ = some (.int .i64 l.co) ∧ W.cell? ⟨b, 3, none⟩ = some u ∧ ErrIs W ls u
theorem ErrIs.below {W W' : World} (hb : Below W.heap.size W W') : ∀ {l : List Lk} {v : Value}, ErrIs W l v → ErrIs W' l v
 | [], _, h => h
 | _ :: _, _, ⟨b, u, e, h0, h1, h2, h3, h4⟩ =>
  ⟨b, u, e, (hb.cell (World.block_lt_of_cell? W _ h0)).trans h0, (hb.cell (World.block_lt_of_cell? W _ h1)).trans h1, (hb.cell (World.block_lt_of_cell? W _ h2)).trans h2,
   (hb.cell (World.block_lt_of_cell? W _ h3)).trans h3, ErrIs.below hb h4⟩
theorem ErrIs.shape {W : World} : ∀ {l : List Lk} {v : Value}, ErrIs W l v → v = .nilIface ∨ ∃ b : Nat, v = .iface 92 (.pointer (some ⟨b, 0, none⟩))
 | [], _, h => .inl h
 | _ :: _, _, ⟨b, _, e, _⟩ => .inr ⟨b, e⟩
/-- The innermost number. -/
def inmost : List Lk → Int
 | [] => 0
 | [l] => l.co
 | _ :: l :: ls => inmost (l :: ls)
/-! ### errors.Is at a number -/
theorem is_typeOfN (v : Value) (w : World) : (Extern.ReflectliteType.typeOf #[.iface 53 v]).run Tryz.prog w = .ok (.iface 185 (.agg #[.pointer (some ⟨12, 53, none⟩)])) w := by kernel_rfl
def is_compM : Array Value → Sem Value := Extern.ReflectliteType.method fun t => do Rtype.noPackHeld "Comparable" t; pure (.bool (← typeInfo t).comparable)
theorem is_comparable (w : World) : (is_compM #[.agg #[.pointer (some ⟨12, 53, none⟩)]]).run Tryz.prog w = .ok (.bool true) w := by kernel_rfl
theorem is_methodComparable (v : Value) (w : World) : (Go.method 429 185 v "Comparable").run Tryz.prog w = .ok (244, v) w := by kernel_rfl
theorem is_comp : (Tryz.prog.info? 53).map (·.comparable) = some true := by kernel_rfl
theorem is_noIsF (v : Value) (xT : TypeId) (w : World) : (Instr.typeAssert (.iface 92 v) xT 187 true).run Tryz.prog w = .ok (.tuple #[.nilIface, .bool false]) w := run_typeAssert_lacksB Tryz.underlying187 (by kernel_rfl) (by kernel_rfl) v xT w
theorem is_noIsN (v : Value) (xT : TypeId) (w : World) : (Instr.typeAssert (.iface 53 v) xT 187 true).run Tryz.prog w = .ok (.tuple #[.nilIface, .bool false]) w := run_typeAssert_lacksB Tryz.underlying187 (by kernel_rfl) (by kernel_rfl) v xT w
theorem is_noUnwrapN (v : Value) (xT : TypeId) (w : World) : (Instr.typeAssert (.iface 53 v) xT 190 true).run Tryz.prog w = .ok (.tuple #[.nilIface, .bool false]) w := run_typeAssert_lacksB Tryz.underlying190 (by kernel_rfl) (by kernel_rfl) v xT w
theorem is_noUnwrapsN (v : Value) (xT : TypeId) (w : World) : (Instr.typeAssert (.iface 53 v) xT 191 true).run Tryz.prog w = .ok (.tuple #[.nilIface, .bool false]) w := run_typeAssert_lacksB Tryz.underlying191 (by kernel_rfl) (by kernel_rfl) v xT w
theorem is_hasUnwrapF (v : Value) (xT : TypeId) (w : World) : (Instr.typeAssert (.iface 92 v) xT 190 true).run Tryz.prog w = .ok (.tuple #[.iface 92 v, .bool true]) w := run_typeAssert_hasB Tryz.underlying190 (by kernel_rfl) v xT w
theorem is_methodUnwrap (v : Value) (w : World) : (Go.method 429 92 v "Unwrap").run Tryz.prog w = .ok (238, v) w := by kernel_rfl
/-- What errors.is still has to look at. -/
def Still (W : World) (c0 : Int) (k : Nat) (v : Value) : Prop := (∃ l : List Lk, l ≠ [] ∧ l.length = k ∧ ErrIs W l v ∧ inmost l = c0) ∨ (k = 0 ∧ v = .iface 53 (.int .i64 c0))
set_option maxRecDepth 100000 in
theorem is_in {W : World} (c : Int) (l : List Lk) (v : Value) (h : ErrIs W l v) (hl : l ≠ []) :
  Calls Tryz.prog 64 #[v, .iface 53 (.int .i64 c), .bool true] W fun e w' => e = .returned (.bool (inmost l == c)) ∧ W = w' := by
 have nF := is_noIsF
 have nN := is_noIsN
 have uN := is_noUnwrapN
 have usN := is_noUnwrapsN
 have uF := is_hasUnwrapF
 have mU := is_methodUnwrap
 have heq := fun (a : Int) => fun W => Lib.run_eql_iface_int (P := Tryz.prog) W (k := .i64) a c Tryz.underlying29 is_comp Tryz.underlying53
 have HS : Still W (inmost l) l.length v := .inl ⟨l, hl, rfl, h, rfl⟩
 obtain ⟨c0, hc0⟩ : ∃ c0, c0 = inmost l := ⟨_, rfl⟩
 rw [← hc0] at HS
 rw [← hc0]
 clear hc0 h hl
 go_enter Tryz.func64, Tryz.ntmps64
 go_wp2_with fail
 go_loopg [0] l.length (fun k E' wl => W = wl ∧ Still W c0 k E')
 case atStart => exact ⟨rfl, HS⟩
 case round =>
  obtain ⟨rfl, hs⟩ := hrel
  clear HS
  rcases hs with ⟨l', hl', hlen, hE, hin⟩ | ⟨hk, rfl⟩
  ·cases l' with
   | nil => exact absurd rfl hl'
   | cons l1 ls =>
    obtain ⟨b, u, rfl, h0, h1, h2, h3, h4⟩ := hE
    have hty := run_eql_iface_types (P := Tryz.prog) 92 53 (.pointer (some ⟨b, 0, none⟩)) (.int .i64 c) Tryz.underlying29 (by decide) W
    cases ls with
    | nil =>
     have hu : u = .nilIface := h4
     subst hu
     have hc : l1.co = c0 := hin
     have HN : Hid (Still W c0 0 (.iface 53 (.int .i64 l1.co))) := Lib.hid (.inr ⟨rfl, by rw [hc]⟩)
     have HK : Hid (0 < gk) := Lib.hid (by rw [← hlen]; simp)
     clear hc hin h4 hlen hl'
     go_wp2
     go_roundg 0
     case measure => exact HK.out
     case rel => exact ⟨rfl, HN.out⟩
    | cons l2 ls =>
     obtain ⟨b2, u2, rfl, h5⟩ := id h4
     have HN : Hid (Still W c0 (gk - 1) (.iface 92 (.pointer (some ⟨b2, 0, none⟩)))) := Lib.hid (.inl ⟨l2 :: ls, by simp, by rw [← hlen]; simp, h4, hin⟩)
     have HK : Hid (gk - 1 < gk) := Lib.hid (by rw [← hlen]; simp)
     clear h4 h5 hin hlen hl'
     go_wp2
     go_roundg (gk - 1)
     case measure => exact HK.out
     case rel => exact ⟨rfl, HN.out⟩
  ·have hq := heq c0 W
   clear heq
   by_cases hcc : c0 = c
   ·have hb : (c0 == c) = true := beq_iff_eq.2 hcc
    clear hcc
    rw [hb] at hq
    have HB := Lib.hid hb
    clear hb
    go_wp2_with fail
    go_ret
    exact ⟨by rw [HB.out]; rfl, rfl⟩
   ·have hb : (c0 == c) = false := beq_eq_false_iff_ne.2 hcc
    clear hcc
    rw [hb] at hq
    have HB := Lib.hid hb
    clear hb
    go_wp2_with fail
    go_ret
    exact ⟨by rw [HB.out]; rfl, rfl⟩
set_option maxRecDepth 100000 in
/-- errors.Is of a chain at a number. -/
theorem Is_in {W : World} (c : Int) (l : List Lk) (v : Value) (h : ErrIs W l v) (hl : l ≠ []) :
  Calls Tryz.prog 36 #[v, .iface 53 (.int .i64 c)] W fun e w' => e = .returned (.bool (inmost l == c)) ∧ W = w' := by
 have hT := @run_callFunc_extern Tryz.prog 63 _ ReflectliteType.typeOf Tryz.func63 (by kernel_rfl) (by kernel_rfl) (by kernel_rfl) (by kernel_rfl)
 have hC := @run_callFunc_extern Tryz.prog 244 _ is_compM Tryz.func244 (by kernel_rfl) (by kernel_rfl) (by kernel_rfl) (by kernel_rfl)
 have tN := is_typeOfN
 have cN := is_comparable
 have mC := is_methodComparable
 have hv : ∃ b : Nat, v = .iface 92 (.pointer (some ⟨b, 0, none⟩)) := by
  rcases h.shape with hn | hs
  ·cases l with
   | nil => exact absurd rfl hl
   | cons x xs => obtain ⟨b, _, e, _⟩ := h; rw [hn] at e; cases e
  ·exact hs
 obtain ⟨b, rfl⟩ := hv
 have HI := Lib.hid (is_in c l _ h hl)
 clear h hl
 go_enter Tryz.func36, Tryz.ntmps36
 go_wp2_with fail
 refine HI.out.mono ?_
 rintro e w' ⟨rfl, rfl⟩
 go_wp2_with fail
 go_ret
 exact ⟨rfl, rfl⟩
end Go.Proofs.YtibbcfeaododhaaGreatDoor
namespace Go.Proofs.YtibbcfeaododhaaGreatDoor
open Go.RowKit Go.Proofs.YtibbcfeaododhaaGreatDoorW.PrintWords
theorem infoLk : (Tryz.prog.info? 69).map (fun i => (i.zero, i.size, i.bytes)) = some (some (.agg #[(.string ⟨#[]⟩), (.int .i64 0), (.int .i64 0)]), 3, 32) := by kernel_rfl
def zLk : Lk := ⟨⟨#[]⟩, 0, 0⟩
def kLk : Kd Lk := Kd.iso (Kd.pair Kd.string (Kd.pair (Kd.int .i64) (Kd.int .i64))) (fun x : Lk => (x.ly, x.pl, x.co))
theorem kLk_open {w : World} {x : Lk} {cs : List Value} (h : kLk.K w x cs) : cs = [.string x.ly, .int .i64 x.pl, .int .i64 x.co] := by
 obtain ⟨_, _, rfl, rfl, ⟨_, _, rfl, rfl, rfl⟩⟩ := h
 exact rfl
theorem kLk_mkM (w : World) (base : Nat) (ok : Nat → Prop) (x : Lk) : kLk.M w base ok x [.string x.ly, .int .i64 x.pl, .int .i64 x.co] := ⟨[.string x.ly], [.int .i64 x.pl, .int .i64 x.co], rfl, rfl, ⟨[.int .i64 x.pl], [.int .i64 x.co], rfl, rfl, rfl⟩⟩
def rdLk (xs : List Lk) (i : Int) : Lk := xs.getD i.toNat zLk
theorem atLk {w : World} {A : Option Addr} {n : Nat} {xs : List Lk} (h : Kd.C kLk w A n xs) (i : Int) (h0 : 0 ≤ i) (h1 : i < n) : ∃ ad , A = some ad ∧ w.cell? (ad.add (i.toNat * 3)) = some (.string (rdLk xs i).ly) ∧ w.cell? ⟨(ad.add (i.toNat * 3)).block, (ad.add (i.toNat * 3)).off + 1, none⟩ = some (.int .i64 (rdLk xs i).pl) ∧ w.cell? ⟨(ad.add (i.toNat * 3)).block, (ad.add (i.toNat * 3)).off + 2, none⟩ = some (.int .i64 (rdLk xs i).co) := by
 obtain ⟨ad, c, e, _, hK, hc0⟩ := Kd.C_get h zLk i h0 h1
 have hc : ∀ j u, c[j]? = some u → w.cell? (ad.add (i.toNat * 3 + j)) = some u := hc0
 obtain rfl := kLk_open hK
 exact ⟨ad, e, hc 0 _ rfl, by rw [← add_field _ _ 1 (by omega)]; exact hc 1 _ rfl, by rw [← add_field _ _ 2 (by omega)]; exact hc 2 _ rfl⟩
/-- One token. -/
structure Tk where
 kd : Int
 tx : ByteArray
 nm : Int
 at_ : Int
instance : DecidableEq Tk := fun a b => if h : a.kd = b.kd ∧ a.tx = b.tx ∧ a.nm = b.nm ∧ a.at_ = b.at_ then isTrue (by cases a; cases b; simp_all) else isFalse (by intro e; subst e; exact h ⟨rfl, rfl, rfl, rfl⟩)
/-- A chain of links as a slice of the call's own; nil where it is empty. -/
def LnIs (W : World) (base : Nat) (l : List Lk) (v : Value) : Prop := kLk.R 69 W base (fun _ => True) v l ∧ (l = [] → v = .slice none 0 0)
theorem LnIs.lower {W : World} {base base' : Nat} {l : List Lk} {v : Value} (h : LnIs W base l v) (hb : base' ≤ base) : LnIs W base' l v := ⟨Kd.R_lower h.1 hb, h.2⟩
theorem LnIs.nil (W : World) (base : Nat) : LnIs W base [] (.slice none 0 0) := ⟨Kd.R_nil _ _ _ _ _, fun _ => rfl⟩
theorem LnIs.reads {W : World} {base : Nat} {l : List Lk} {v : Value} (h : LnIs W base l v) : ∃ A c, v = .slice A l.length c ∧ l.length ≤ c ∧ kLk.C W A l.length l := Kd.R_reads h.1
/-- What every call may lean on: the library's variables, as the row lists them. -/
structure Glob (W : World) : Prop where
 et : W.cell? ⟨0, 0, none⟩ = some (.iface 185 (.agg #[.pointer (some ⟨12, 29, none⟩)]))
 ut : Lib.Utf8Tabs 7 8 W
 sy : ∃ t p, W.cell? ⟨3, 0, none⟩ = some (.iface t p)
 rg : ∃ t p, W.cell? ⟨4, 0, none⟩ = some (.iface t p)
 pw : Lib.TabIs Tryz.prog W "internal/strconv.uint64pow10" .u64 Lib.pow10Tab
 mx : ∃ m, W.cell? ⟨6, 0, none⟩ = some (.int .i64 m)
theorem Glob.below {W W' : World} (h : Glob W) (hb : Below W.heap.size W W') : Glob W' where
 et := (hb.cell (World.block_lt_of_cell? W _ h.et)).trans h.et
 ut := ⟨fun c hc => (hb.cell (World.block_lt_of_cell? W _ (h.ut.1 c hc))).trans (h.ut.1 c hc), fun i hi => ⟨(hb.cell (World.block_lt_of_cell? W _ (h.ut.2 i hi).1)).trans (h.ut.2 i hi).1, (hb.cell (World.block_lt_of_cell? W _ (h.ut.2 i hi).2)).trans (h.ut.2 i hi).2⟩⟩
 sy := by obtain ⟨t, p, hc⟩ := h.sy; exact ⟨t, p, (hb.cell (World.block_lt_of_cell? W _ hc)).trans hc⟩
 rg := by obtain ⟨t, p, hc⟩ := h.rg; exact ⟨t, p, (hb.cell (World.block_lt_of_cell? W _ hc)).trans hc⟩
 pw := Lib.tabBelow_of_tabIs h.pw W' hb
 mx := by obtain ⟨m, hc⟩ := h.mx; exact ⟨m, (hb.cell (World.block_lt_of_cell? W _ hc)).trans hc⟩
theorem trans_below {w w1 w2 : World} (h : Below w.heap.size w w1) (k : Below w1.heap.size w1 w2) : Below w.heap.size w w2 := below_then h h.size k
end Go.Proofs.YtibbcfeaododhaaGreatDoor
namespace Go.Proofs.YtibbcfeaododhaaGreatDoor
open Go.RowKit Go.Proofs.YtibbcfeaododhaaGreatDoorW.PrintWords
/-- errors.As at a *api.Fault, the target in a block of the caller's own. -/
theorem as_in (e : Addr) (tb : Nat) (old : Value) (w : World) (hg : Glob w) (ht : w.cell? ⟨tb, 0, none⟩ = some old) (hf : w.frozen? ⟨tb, 0, none⟩ = false) :
  Calls Tryz.prog 62 #[.iface 92 (.pointer (some e)), .iface 99 (.pointer (some ⟨tb, 0, none⟩))] w fun ev w' => ev = .returned (.bool true) ∧ w'.cell? ⟨tb, 0, none⟩ = some (.pointer (some e)) ∧ Below tb w w' ∧ w'.frozen? ⟨tb, 0, none⟩ = false := by
 have hlt : tb < w.heap.size := World.block_lt_of_cell? w _ ht
 refine (as_hit e ⟨tb, 0, none⟩ old w hg.et ht hf).mono ?_
 rintro ev w' ⟨rfl, rfl⟩
 have hb : ∀ o1 o2 o3 o4, Below w.heap.size w ((((w.alloc o1).alloc o2).alloc o3).alloc o4) := fun o1 o2 o3 o4 => below_alloc (below_alloc (below_alloc (below_alloc (Below.refl _ _) o1) o2) o3) o4
 refine ⟨rfl, ?_, ?_, ?_⟩
 ·exact World.cell?_setCell_same (u := old) _ _ _ (((hb _ _ _ _).cell hlt).trans ht)
 ·exact ((hb _ _ _ _).mono (Nat.le_of_lt hlt)).setCell (Nat.le_refl _) _
 ·rw [World.frozen?_setCell]; exact ((hb _ _ _ _).frozen hlt).trans hf
/-- What Chain's loop still has to do. -/
def ChainRel (W : World) (l : List Lk) (k : Nat) (E' vl vi : Value) (wl : World) : Prop :=
 ∃ (E0 v0 : Value) (done rest : List Lk), E0 = E' ∧ v0 = vl ∧ done ++ rest = l ∧ k = rest.length ∧ vi = .int .i64 (done.length : Int) ∧ ErrIs W rest E' ∧ kLk.R 69 wl W.heap.size (fun _ => True) vl done ∧ Below W.heap.size W wl
def ChainPost (W : World) (l : List Lk) (e : Ending) (w' : World) : Prop := ∃ v, e = .returned v ∧ kLk.R 69 w' W.heap.size (fun _ => True) v l ∧ Below W.heap.size W w'
set_option maxRecDepth 100000 in
set_option maxHeartbeats 1000000 in
theorem Chain_in {W : World} (l : List Lk) (v : Value) (h : ErrIs W l v) (hl : l.length ≤ 16) (hG : Glob W) :
    Calls Tryz.prog 35 #[v] W (ChainPost W l) := by
  have HG := Lib.hid hG
  clear hG
  have H0 : ChainRel W l l.length v (.slice none 0 0) (.int .i64 0) W := ⟨_, _, [], l, rfl, rfl, rfl, rfl, rfl, h, Kd.R_nil _ _ _ _ _, Below.refl _ _⟩
  clear h
  go_enter Tryz.func35, Tryz.ntmps35
  go_wp2_with fail
  go_loopg [0, 3, 4] l.length (fun k E' vl vi wl => ChainRel W l k E' vl vi wl)
  case atStart => exact H0
  case round =>
    clear H0
    obtain ⟨E', vl, done, rest, rfl, rfl, hdr, hk, rfl, hE, hR, hB⟩ := hrel
    have HB := Lib.hid hB
    have hlen : done.length + rest.length ≤ 16 := by have := congrArg List.length hdr; simp at this; omega
    cases rest with
    | nil =>
      have hE' : E' = .nilIface := hE
      subst hE'
      have HR := Lib.hid hR
      have HD := Lib.hid hdr
      clear hdr hk hE hR hB
      have hP : ∀ e, e = .returned vl → ChainPost W l e wr := fun e he => ⟨vl, he, by have := HD.out; simp at this; subst this; exact HR.out, HB.out⟩
      have HP := Lib.hid hP
      clear hP
      by_cases hlt : done.length < 16
      · go_wp2_with fail
        go_ret
        exact HP.out _ rfl
      · go_wp2_with fail
        go_ret
        exact HP.out _ rfl
    | cons r rs =>
      obtain ⟨b, u, rfl, h0, h1, h2, h3, h4⟩ := hE
      have hlt : done.length < 16 := by simp at hlen; omega
      have HE4 := Lib.hid h4
      have HR := Lib.hid hR
      have HD := Lib.hid hdr
      have HK := Lib.hid hk
      clear hdr hk hR hB h4 hlen
      go_wp2_with fail
      refine (as_in ⟨b, 0, none⟩ wr.heap.size (.pointer none) _ ((HG.out.below HB.out).below (below_alloc (Below.refl _ _) _)) (by simp) (by simp)).mono ?_
      rintro e w1 ⟨rfl, hc1, hb1, hf1⟩
      have hb2 : Below wr.heap.size wr w1 := (below_alloc (Below.refl _ _) _).trans hb1
      have hb3 : Below W.heap.size W w1 := trans_below HB.out hb2
      have l0 : b < W.heap.size := World.block_lt_of_cell? W _ h0
      have g0 : w1.cell? ⟨b, 0, none⟩ = some (.string r.ly) := (hb3.cell l0).trans h0
      have g1 : w1.cell? ⟨b, 1, none⟩ = some (.int .i64 r.pl) := (hb3.cell l0).trans h1
      have g2 : w1.cell? ⟨b, 2, none⟩ = some (.int .i64 r.co) := (hb3.cell l0).trans h2
      have hR1 : kLk.R 69 w1 W.heap.size (fun _ => True) vl done := Kd.R_below HR.out hb2
      have hsz : wr.heap.size + 1 ≤ w1.heap.size := by have := hb1.size; simpa using this
      have hne : some wr.heap.size ≠ vl.ownBlock := by
        obtain ⟨inner, ho⟩ := Kd.R_own HR.out
        intro he
        have := own_lt ho _ he.symm
        omega
      have H3 := Lib.hid h3
      have HR1 := Lib.hid hR1
      have HB2 := Lib.hid hb2
      have HB3 := Lib.hid hb3
      have HN := Lib.hid hne
      have HL : Hid (b < w1.heap.size ∧ some b ≠ vl.ownBlock) := by
        refine ⟨Nat.lt_of_lt_of_le l0 hb3.size, ?_⟩
        obtain ⟨inner, ho⟩ := Kd.R_own HR.out
        intro he
        have := own_base ho _ he.symm
        omega
      clear h0 h1 h2 h3 hb1 hb2 hb3 hf1 hR1 hne l0
      go_wp2_with fail
      go_region_held3 (fun w' => w'.cell? ⟨wr.heap.size, 0, none⟩ = some (.pointer (some ⟨b, 0, none⟩)) ∧ w'.cell? ⟨b, 0, none⟩ = some (.string r.ly) ∧ w'.cell? ⟨b, 1, none⟩ = some (.int .i64 r.pl) ∧ w'.cell? ⟨b, 2, none⟩ = some (.int .i64 r.co))
        (first
          | go_keep
          | (go_split_ands
             refine ⟨?_, ?_, ?_, ?_⟩
             · (rw [hg.cell_far _ (by simp; omega) HN.out]; assumption)
             · (rw [hg.cell_far _ HL.out.1 HL.out.2]; assumption)
             · (rw [hg.cell_far _ HL.out.1 HL.out.2]; assumption)
             · (rw [hg.cell_far _ HL.out.1 HL.out.2]; assumption)))
        ((refine Kd.R_append_step kLk (w0 := W) W.heap.size (by rfl) _ _ 32 69 (.agg #[(.string ⟨#[]⟩), (.int .i64 0), (.int .i64 0)]) 32 (by rfl) Tryz.underlying32 infoLk rfl (by decide) (by omega) vl done r [.string r.ly, .int .i64 r.pl, .int .i64 r.co] (fun _ => True) (fun _ => False) (by rfl) (by rfl) (kLk_mkM _ _ _ r) (fun _ hk => hk.elim) (fun _ _ => trivial) (Kd.R_drew HR1.out) (HB3.out.drew) (below_size (HB3.out.drew)) (by omega) ?_; intro v1 w2 ho hb hg hat))
      rename_i hH
      have f0 := hH.1
      have g3 : w2.cell? ⟨b, 3, none⟩ = some u := (hb.cell (World.block_lt_of_cell? W _ H3.out)).trans H3.out
      have HO := Lib.hid ho
      have HB4 := Lib.hid hb
      clear hH g0 g1 g2 hc1 ho hb hg hat
      go_wp2_with fail
      go_roundg rs.length
      case measure => rw [HK.out]; simp
      case rel => exact ⟨_, _, done ++ [r], rs, rfl, rfl, by rw [← HD.out]; simp, rfl, by simp, HE4.out, HO.out, HB4.out⟩

theorem eqLkA (d : Nat) (w : World) (x0 y0 : ByteArray) (x1 y1 : Int) (x2 y2 : Int) :
  (Op.equalIn (d + 2) 69 (.agg #[.string x0, .int .i64 x1, .int .i64 x2]) (.agg #[.string y0, .int .i64 y1, .int .i64 y2])).run Tryz.prog w = .ok (x0.toList == y0.toList && (x1 == y1 && (x2 == y2))) w := by
 refine eqA_of Tryz.underlying69 (by kernel_rfl) ?_
 refine eqf_cons (by rfl) (by go_simp; rfl) (by go_simp; rfl) (by go_simp) ?_
 refine eqf_cons (by rfl) (by go_simp; rfl) (by go_simp; rfl) (by go_simp) ?_
 exact eqf_last (by rfl) (by go_simp; rfl) (by go_simp; rfl) (by go_simp)
theorem tl_inj {a b : ByteArray} : a.toList = b.toList ↔ a = b := by
 constructor
 ·intro h
  rw [Lib.toList_data, Lib.toList_data] at h
  obtain ⟨⟨x⟩⟩ := a
  obtain ⟨⟨y⟩⟩ := b
  simp at h
  rw [h]
 ·intro h
  rw [h]
theorem neqLk (x y : Lk) (b : Bool) (hb : b = decide (x = y)) (w : World) : (binOp .neq 69 (.agg #[.string x.ly, .int .i64 x.pl, .int .i64 x.co]) (.agg #[.string y.ly, .int .i64 y.pl, .int .i64 y.co])).run Tryz.prog w = .ok (.bool (!b)) w := by
 have h := eqLkA 9998 w x.ly y.ly x.pl y.pl x.co y.co
 have he : (x.ly.toList == y.ly.toList && (x.pl == y.pl && x.co == y.co)) = b := by
  subst hb
  rw [Bool.eq_iff_iff]
  obtain ⟨xl, xp, xc⟩ := x
  obtain ⟨yl, yp, yc⟩ := y
  simp only [Bool.and_eq_true, beq_iff_eq, decide_eq_true_eq, Lk.mk.injEq, tl_inj]
 rw [he] at h
 simp only [binOp]
 simp only [Op.equal, Op.maxDepth, Nat.reduceAdd] at h ⊢
 simp [h]
theorem inmost_last : ∀ (l : List Lk), l ≠ [] → inmost l = (rdLk l ((l.length : Int) - 1)).co
 | [], h => absurd rfl h
 | [x], _ => rfl
 | x :: y :: ys, _ => by
  have h := inmost_last (y :: ys) (by simp)
  have e1 : (((x :: y :: ys).length : Int) - 1).toNat = (y :: ys).length := by simp
  have e2 : (((y :: ys).length : Int) - 1).toNat = ys.length := by simp
  simp only [rdLk, e1, e2, inmost] at h ⊢
  rw [h]
  simp
/-! ### heddlemem.Refused -/
/-- Is an error just this chain? -/
def refusedOf (e l : List Lk) : Bool := decide (e = l)
def RefusedPost (W : World) (b : Bool) (e : Ending) (w' : World) : Prop := e = .returned (.bool b) ∧ Below W.heap.size W w'
set_option maxRecDepth 100000 in
set_option maxHeartbeats 1000000 in
theorem Refused_in {W : World} (ls l : List Lk) (v : Value) (A : Option Addr) (c : Nat) (h : ErrIs W ls v) (hl : ls.length ≤ 16) (hC : kLk.C W A l.length l) (hn : l.length ≤ 16) (hG : Glob W) :
  Calls Tryz.prog 9 #[v, .slice A l.length c] W (RefusedPost W (refusedOf ls l)) := by
 by_cases h0 : l = []
 ·subst h0
  have hv : (v = .nilIface ∧ refusedOf ls [] = true) ∨ (∃ x, v = .iface 92 x) ∧ refusedOf ls [] = false := by
   cases ls with
   | nil => exact .inl ⟨h, rfl⟩
   | cons x xs => obtain ⟨b, u, rfl, _⟩ := h; exact .inr ⟨⟨_, rfl⟩, rfl⟩
  clear h hC
  rcases hv with ⟨rfl, hr⟩ | ⟨⟨x, rfl⟩, hr⟩
  ·rw [hr]
   go_enter Tryz.func9, Tryz.ntmps9
   go_wp2_with fail
   go_ret
   exact ⟨rfl, Below.refl _ _⟩
  ·rw [hr]
   go_enter Tryz.func9, Tryz.ntmps9
   go_wp2_with fail
   go_ret
   exact ⟨rfl, Below.refl _ _⟩
 ·have hpos : 0 < l.length := List.length_pos_iff.2 h0
  have hb0 : ((l.length : Int) == 0) = false := by simp; omega
  have HE := Lib.hid h
  have HC := Lib.hid hC
  have HGG := Lib.hid hG
  have H0 := Lib.hid h0
  have HCH := Lib.hid (Chain_in ls v h hl hG)
  clear h hC hG h0
  go_enter Tryz.func9, Tryz.ntmps9
  go_wp2_with fail
  refine HCH.out.mono ?_
  rintro e w1 ⟨vc, rfl, hR, hB⟩
  obtain ⟨A1, c1, rfl, hc1, hC1⟩ := Kd.R_reads hR
  have HC1 := Lib.hid hC1
  have HB := Lib.hid hB
  have HCw := Lib.hid (Kd.C_below HC.out hB)
  clear hR hB hC1 HCH
  by_cases hlen : ls.length = l.length
  ·have hbl : ((ls.length : Int) != (l.length : Int)) = false := by simp; omega
   have HLEN := Lib.hid hlen
   clear hlen
   go_wp2_with fail
   go_loopw [6] (fun i wl => ∃ k : Nat, i = .int .i64 k ∧ k ≤ l.length ∧ Hid (∀ j, j < k → ls[j]? = l[j]?) ∧ ∃ m, wl = w1.drewN m) (fun i _ => l.length - (intOf i).toNat)
   case atStart => exact ⟨0, rfl, Nat.zero_le _, fun j hj => absurd hj (Nat.not_lt_zero _), 0, rfl⟩
   case round =>
    obtain ⟨k, rfl, hk, HA, m, rfl⟩ := hrel
    by_cases hlt : k < l.length
    ·obtain ⟨ad, rfl, a0, a1, a2⟩ := atLk HC1.out (k : Int) (by omega) (by rw [HLEN.out]; omega)
     obtain ⟨ad', rfl, b0, b1, b2⟩ := atLk HCw.out (k : Int) (by omega) (by omega)
     simp only [Int.toNat_natCast] at a0 a1 a2 b0 b1 b2
     have k0 : (0 : Int) ≤ (k : Int) := by omega
     have k1 : (k : Int) < (l.length : Int) := by omega
     have k2 : (k : Int) < (ls.length : Int) := by rw [HLEN.out]; omega
     by_cases heq : rdLk ls (k : Int) = rdLk l (k : Int)
     ·have hq := neqLk (rdLk ls (k : Int)) (rdLk l (k : Int)) true (by simp [heq])
      have HQ := Lib.hid heq
      clear heq
      simp only [Bool.not_true] at hq
      go_wp2_with fail
      go_quiet (fail)
      go_wp2_with fail
      go_roundw
      case rel =>
       refine ⟨k + 1, by go_num, by omega, fun j hj => ?_, ⟨_, rfl⟩⟩
       by_cases hjk : j = k
       ·subst hjk
        have h1 : j < ls.length := by omega
        have h2 : j < l.length := by omega
        have := HQ.out
        simp only [rdLk, Int.toNat_natCast] at this
        rw [List.getElem?_eq_getElem h1, List.getElem?_eq_getElem h2]
        rw [List.getD_eq_getElem?_getD, List.getD_eq_getElem?_getD, List.getElem?_eq_getElem h1, List.getElem?_eq_getElem h2] at this
        simpa using this
       ·exact HA.out j (by omega)
      case measure => simp [intOf]; omega
     ·have hq := neqLk (rdLk ls (k : Int)) (rdLk l (k : Int)) false (by simp [heq])
      have HQ := Lib.hid heq
      clear heq
      simp only [Bool.not_false] at hq
      have HF : Hid (refusedOf ls l = false) := Lib.hid (decide_eq_false fun he => HQ.out (by rw [he]))
      go_wp2_with fail
      go_quiet (fail)
      go_wp2_with fail
      go_ret
      exact ⟨by rw [HF.out]; rfl, trans_below HB.out (by repeat (first | exact Below.refl _ _ | apply pw_below_drewN))⟩
    ·have HT : Hid (ls = l) := by
      refine Lib.hid (List.ext_getElem? fun j => ?_)
      by_cases hj : j < k
      ·exact HA.out j hj
      ·rw [List.getElem?_eq_none (by rw [HLEN.out]; omega), List.getElem?_eq_none (by omega)]
     obtain ⟨ad', rfl, b0, b1, b2⟩ := atLk HCw.out ((l.length : Int) - 1) (by omega) (by omega)
     have ek : ((l.length : Int) - 1).toNat = l.length - 1 := by omega
     simp only [ek] at b0 b1 b2
     have hco : inmost ls = (rdLk l ((l.length : Int) - 1)).co := by rw [HT.out]; exact inmost_last l H0.out
     have hB2 : Below W.heap.size W (w1.drewN m) := trans_below HB.out (by repeat (first | exact Below.refl _ _ | apply pw_below_drewN))
     have HI := Lib.hid (Is_in (W := w1.drewN m) (rdLk l ((l.length : Int) - 1)).co ls v (HE.out.below hB2) (by rw [HT.out]; exact H0.out))
     have HB3 := Lib.hid hB2
     have HCO := Lib.hid hco
     have HF : Hid (refusedOf ls l = true) := Lib.hid (decide_eq_true HT.out)
     have k0 : (0 : Int) ≤ (l.length : Int) - 1 := by omega
     clear ek hco hB2 b0 b1
     go_wp2_with fail
     refine HI.out.mono ?_
     rintro e w2 ⟨rfl, rfl⟩
     go_wp2_with fail
     go_ret
     exact ⟨by rw [HF.out, HCO.out]; simp, HB3.out⟩
  ·have hbl : ((ls.length : Int) != (l.length : Int)) = true := by simp; omega
   have HF : Hid (refusedOf ls l = false) := by
    refine Lib.hid (decide_eq_false fun he => hlen (by rw [he]))
   clear hlen
   go_wp2_with fail
   go_ret
   exact ⟨by rw [HF.out]; rfl, HB.out⟩
end Go.Proofs.YtibbcfeaododhaaGreatDoor
namespace Go.Proofs.YtibbcfeaododhaaGreatDoor
open Go.Lib Go.ChangeShapes Go.WideShapes Go.ChangeAt Go.RowKit Go.Proofs.YtibbcfeaododhaaGreatDoorW.PrintWords
theorem own : ownKnob Tryz.prog.godebug = none := by kernel_rfl
abbrev laidL : List (String × DataW Unit) := Rows.termPartsRow.laid
theorem gEt : Tryz.prog.globalNamed "errors.errorType" = some 0 := by kernel_rfl
theorem rtNo : (Tryz.prog.cutTypes.find? (·.1 == "internal/reflectlite.rtype")).map (·.2) = some 185 := by kernel_rfl
theorem errRow : ((List.range 329).filter fun t => Tryz.prog.rowNamed t [101, 114, 114, 111, 114]) = [29] := by kernel_rfl
theorem typesNo : Tryz.prog.types.size = 329 := by kernel_rfl
theorem gSy : Tryz.prog.globalNamed "strconv.ErrSyntax" = some 3 := by kernel_rfl
theorem ySy : (Tryz.prog.globals[3]?).map (·.type) = some 29 := by kernel_rfl
theorem gRg : Tryz.prog.globalNamed "strconv.ErrRange" = some 4 := by kernel_rfl
theorem yRg : (Tryz.prog.globals[4]?).map (·.type) = some 29 := by kernel_rfl
theorem gPw : Tryz.prog.globalNamed "internal/strconv.uint64pow10" = some 5 := by kernel_rfl
theorem yPw : (Tryz.prog.globals[5]?).map (·.type) = some 285 := by kernel_rfl
def renU : Go.Shelf.Ren := ⟨fun n => n, fun | 5 => 5 | 119 => 203 | 138 => 297 | 139 => 298 | n => n, fun | 3 => 7 | 4 => 8 | n => n⟩
theorem u8types : U8Types Tryz.prog renU := ⟨Tryz.underlying5, Tryz.underlying203, by kernel_rfl, Tryz.underlying298⟩
theorem u8extra : U8Extra Tryz.prog renU := ⟨by kernel_rfl, by kernel_rfl, by kernel_rfl, by kernel_rfl, by kernel_rfl, by kernel_rfl, by kernel_rfl⟩
/-- WHAT THE ROW's LIST GIVES. -/
theorem glob_of {W : World} (h : laidMetH Tryz.prog laidL W) (hsh : W.ShapedOpen Tryz.prog) : Glob W := by
 obtain ⟨hd, hh⟩ := laidMetH_iff.1 h
 have hsent : ∀ (n : String) (g : Nat) (d : DataW Unit) (nm : String), Tryz.prog.globalNamed n = some g → (Tryz.prog.globals[g]?).map (·.type) = some 29 → VarReads Tryz.prog W n (.iface nm d) → ∃ t p, W.cell? ⟨g, 0, none⟩ = some (.iface t p) := by
  rintro n g d nm hg hy ⟨g', t', cs, fuel, p, hg', ht', hv, hr⟩
  obtain rfl := Option.some.inj (hg.symm.trans hg')
  obtain rfl := Option.some.inj (hy.symm.trans ht')
  obtain ⟨f1, u, v, hcs, _⟩ := iface_of_trod Tryz.underlying29 hr
  refine ⟨u, v, ?_⟩
  rw [World.var?_cell hg' hv 0, ← Array.getElem?_toList, hcs]
  rfl
 have at_ : ∀ (i : Nat) (x : String × DataW Unit), laidL[i]? = some x → x.2.handleName?.isNone = true → VarReads Tryz.prog W x.1 x.2 := fun i x hi hx => laidMet.reads hd (List.mem_filter.2 ⟨List.mem_iff_getElem?.2 ⟨i, hi⟩, hx⟩)
 have hpw := at_ 2 ("internal/strconv.uint64pow10", Rows.laid_internal_strconv_uint64pow10) rfl rfl
 have hac := at_ 3 ("unicode/utf8.acceptRanges", Rows.laid_unicode_utf8_acceptRanges) rfl rfl
 have hrg := at_ 5 ("strconv.ErrRange", Rows.laid_strconv_ErrRange) rfl rfl
 have hsy := at_ 6 ("strconv.ErrSyntax", Rows.laid_strconv_ErrSyntax) rfl rfl
 have hfi := at_ 7 ("unicode/utf8.first", Rows.laid_unicode_utf8_first) rfl (by kernel_rfl)
 refine ⟨?_, ?_, ?_, ?_, ?_, ?_⟩
 ·obtain ⟨name, u, ty, e1, e2, e3, e4, e5⟩ := hh ("errors.errorType", Rows.laid_errors_errorType) (List.mem_filter.2 ⟨List.mem_iff_getElem?.2 ⟨4, rfl⟩, rfl⟩)
  have en : name = [101, 114, 114, 111, 114] := (Option.some.inj e1).symm
  subst en
  obtain rfl := Option.some.inj (rtNo.symm.trans e2)
  have hm : ty ∈ (List.range 329).filter fun t => Tryz.prog.rowNamed t [101, 114, 114, 111, 114] := List.mem_filter.2 ⟨List.mem_range.2 (by rw [← typesNo]; exact e3), e4⟩
  rw [errRow] at hm
  obtain rfl := List.mem_singleton.1 hm
  have hth : typeHandle Tryz.prog 29 = .pointer (some ⟨12, 29, none⟩) := by kernel_rfl
  rw [hth] at e5
  simpa using World.var?_cell gEt e5 0
 ·exact utf8Tabs_of_readsT u8types u8extra (Pinned.utf8First_eq ▸ hfi) ((show Rows.laid_unicode_utf8_acceptRanges = acceptData by kernel_rfl) ▸ hac)
 ·exact hsent _ _ _ _ gSy ySy hsy
 ·exact hsent _ _ _ _ gRg yRg hrg
 ·obtain ⟨g', t', cs, fuel, p, hg', ht', hv, hr⟩ := hpw
  obtain rfl := Option.some.inj (gPw.symm.trans hg')
  obtain rfl := Option.some.inj (yPw.symm.trans ht')
  have e : (Rows.laid_internal_strconv_uint64pow10 : DataW Unit) = tabData .u64 Lib.pow10Tab := by kernel_rfl
  rw [e] at hr
  unfold Lib.TabIs
  rw [hv, ← cells_of_tab Tryz.underlying285 Tryz.underlying168 (by kernel_rfl) (by kernel_rfl) hr]
 ·exact Go.Proofs.cell_of_shapedOpen_int (zero := #[.int .i64 0]) (t := 3) hsh (of_decide_eq_true (by kernel_rfl)) (by kernel_rfl) rfl (by kernel_rfl) (by kernel_rfl) Tryz.underlying3
/-- A world that meets the list: the settled one; the error type's handle in its cell; the data laid. -/
noncomputable def baseWorld (os : Os) : World :=
 let w0 := World.holding Tryz.prog os ⟨#[], #[], []⟩
 { w0 with heap := w0.heap.modify 0 fun
   | .cells _ t frozen => .cells #[.iface 185 (.agg #[.pointer (some ⟨12, 29, none⟩)])] t frozen
   | o => o }
def laidD : List (String × DataW Unit) := laidL.filter fun x => x.2.handleName?.isNone
noncomputable def laidWorld (os : Os) : World := (baseWorld os).layVars Tryz.prog laidD
set_option maxRecDepth 100000 in
theorem laid_met (os : Os) (args : Array Value) : laidMetH Tryz.prog laidL ((laidWorld os).forCall (fun _ _ => 0) ⟨#[], args, []⟩).memory := by
 refine laidMetH_of_parts ?_ (by kernel_rfl)
 have e1 : (laidD.filter fun x => (laidD.map (·.1)).contains x.1) = laidD := List.filter_eq_self.2 fun x hx => List.contains_iff_mem.2 (List.mem_map.2 ⟨x, hx, rfl⟩)
 have e2 : (laidD.filter fun x => !(laidD.map (·.1)).contains x.1) = [] := List.filter_eq_nil_iff.2 fun x hx => by rw [List.contains_iff_mem.2 (List.mem_map.2 ⟨x, hx, rfl⟩)]; simp
 have h : laidMet Tryz.prog laidD (laidWorld os) := laidMet_layVars (w0 := baseWorld os) (laidD.map (·.1)) [] (by rw [e1]; rfl) (by rw [e1]; kernel_rfl) (by rw [e1]; kernel_rfl) (by rw [e2]; exact LaidIn.none)
 exact h.of_heap (by simp [World.memory, World.forCall, Input.heap])
set_option maxRecDepth 100000 in
theorem laid_shaped (os : Os) (args : Array Value) : ((laidWorld os).forCall (fun _ _ => 0) ⟨#[], args, []⟩).Shaped Tryz.prog := World.shaped_of_ZipB (by kernel_rfl) (by kernel_rfl)
theorem laid_os (os : Os) : (laidWorld os).os = os := World.layVars_os _ _ _
section
variable {H : Type} {enc : TypeId × Value → H} {P : Program}
/-- A row's last step where 'Below' is known of the world. -/
theorem post_of_below {f : Func} {s : ChangeSpec} {apart fresh handsOn again : Bool} {W W' : World} {args : Array Value} {v : Value} {ds gs : List (DataW H)} {before pa pv : List MemPlace}
  (hW : DataW.Whole enc P f.params.toList s.vars apart W args.toList ds gs before)
  (hres : ∀ (b : Nat) (sp : Nat → Bool) (hd : Bool), DataW.TrodAll enc P W' b sp hd f.resultTypes.toList (v.resultList f.resultTypes.size) (s.fn H (ds ++ gs)).results [])
  (hargs : ∀ sp : Nat → Bool, (∀ p ∈ before, sp p.block = true) → DataW.TrodAll enc P W' 0 sp true f.params.toList args.toList (s.fn H (ds ++ gs)).args pa)
  (hvars : ∀ sp : Nat → Bool, (∀ p ∈ before, sp p.block = true) → DataW.TrodVars enc P W' sp s.vars (s.fn H (ds ++ gs)).vars pv)
  (hps : before = pa ++ pv) (hb : Below W.heap.size W W')
  (hok : ∀ (j : Nat) (t : TypeId) (r : Value), f.resultTypes[j]? = some t → (v.resultList f.resultTypes.size)[j]? = some r → Value.okWide P W' .any 0 t r) :
  s.post enc P f apart fresh handsOn again W args v W' := by
 have hlt : ∀ p ∈ before, p.block < W.heap.size := fun p hp => hW.lt p hp
 have hold : ∀ p ∈ before, (fun b => decide (b < W.heap.size)) p.block = true := fun p hp => by simpa using hlt p hp
 refine ⟨ds, gs, before, [], pa, pv, hW, hres _ _ _, hargs _ hold, hvars _ hold, World.keptBut_mono (fun p hp => ⟨hp, ?_⟩) (hb.frame (· ∈ before)), fun _ => ?_⟩
 ·rw [hps, List.mem_append] at hp
  exact Or.inr hp
 ·obtain ⟨_, _, _, _, _, hz, hn⟩ := hW
  refine ⟨hok, _, _, ([] ++ pa) ++ pv, ⟨[] ++ pa, pv, trodAll_append (hargs _ (fun _ _ => rfl)) (hres _ _ _), hvars _ (fun _ _ => rfl), rfl, ?_, ?_⟩, ?_⟩
  ·intro b off hp
   have hin : MemPlace.cell b off ∈ before := by rw [hps]; simpa using hp
   rw [hb.frozen (hlt _ hin)]
   exact hz b off hin
  ·intro ha
   have := hn ha
   rw [hps] at this
   simpa using this
  ·intro p hp _
   rw [hps]
   simpa using hp
end
theorem laidOut : laidOutB Tryz.prog = true := by kernel_rfl
end Go.Proofs.YtibbcfeaododhaaGreatDoor
namespace Go.Proofs.YtibbcfeaododhaaGreatDoor
open Go.RowKit
def isBlank (c : Int) : Bool := c == 9 || c == 10 || c == 13 || c == 32
def isDigit (c : Int) : Bool := decide (48 ≤ c) && decide (c ≤ 57)
def isSmall (c : Int) : Bool := decide (97 ≤ c) && decide (c ≤ 122)
def isCapital (c : Int) : Bool := decide (65 ≤ c) && decide (c ≤ 90)
def isIn (c : Int) : Bool := isSmall c || isCapital c || isDigit c || c == 95 || c == 64
/-- The value of a hexadecimal digit; below 0: none. -/
def hexOf (c : Int) : Int := if isDigit c then c - 48 else if decide (97 ≤ c) && decide (c ≤ 102) then c - 97 + 10 else if decide (65 ≤ c) && decide (c ≤ 70) then c - 65 + 10 else -1
/-- What a byte is for atoms: 1 small, 2 great, 3 digit, 4 under, 0 other. -/
def kindOf (c : Int) : Int := if isSmall c then 1 else if isCapital c then 2 else if isDigit c then 3 else if c == 95 || c == 64 then 4 else 0
theorem eb {a b : Bool} (h : a = b) : Ending.returned (.bool a) = Ending.returned (.bool b) := by rw [h]
theorem ei {k : IntKind} {a b : Int} (h : a = b) : Ending.returned (.int k a) = Ending.returned (.int k b) := by rw [h]
theorem ref01_InWord (c : Int) (w : World) : Calls Tryz.prog 146 #[.int .u8 c] w fun e w' => e = .returned (.bool (isIn c)) ∧ w = w' := by
 unfold isIn isSmall isCapital isDigit
 go_enter Tryz.func146, Tryz.ntmps146
 go_wp2
 all_goals go_ret
 all_goals refine ⟨eb ?_, rfl⟩
 all_goals first | (simp_all; done) | (simp_all; omega) | (rw [Bool.eq_iff_iff]; simp; omega)
theorem atom_nibble (c : Int) (h0 : 0 ≤ c) (h1 : c ≤ 255) (w : World) : Calls Tryz.prog 202 #[.int .u8 c] w fun e w' => e = .returned (.int .i64 (hexOf c)) ∧ w = w' := by
 unfold hexOf isDigit
 go_enter Tryz.func202, Tryz.ntmps202
 go_wp2
 all_goals go_ret
 all_goals refine ⟨ei ?_, rfl⟩
 all_goals try (simp_all; done)
 all_goals first | omega | (simp only [Bool.and_eq_true, decide_eq_true_eq]; (repeat' split) <;> omega) | (repeat' split) <;> simp_all <;> omega
theorem atom_kind (c : Int) (h0 : 0 ≤ c) (h1 : c ≤ 255) (w : World) : Calls Tryz.prog 152 #[.int .u8 c] w fun e w' => e = .returned (.int .i64 (kindOf c)) ∧ w = w' := by
 unfold kindOf isSmall isCapital isDigit
 go_enter Tryz.func152, Tryz.ntmps152
 go_wp2
 all_goals go_ret
 all_goals refine ⟨ei ?_, rfl⟩
 all_goals try (simp_all; done)
 all_goals first | omega | (simp only [Bool.and_eq_true, decide_eq_true_eq]; (repeat' split) <;> omega) | (repeat' split) <;> simp_all <;> omega
end Go.Proofs.YtibbcfeaododhaaGreatDoor
namespace Go.Proofs.YtibbcfeaododhaaGreatDoor
open Go.RowKit Go.Proofs.YtibbcfeaododhaaGreatDoorW.PrintWords
/-- A text's bytes. -/
abbrev bs (s : ByteArray) : List Int := bytesOf s
theorem bs_len (s : ByteArray) : (bs s).length = s.size := bytesOf_length s
theorem btk (s : ByteArray) (k : Nat) : ∀ h : k < s.size, ((s[k]'h).toNat : Int) = bt s (k : Int) := by
 simpa using bt_at s (k : Int)
theorem bs_get (s : ByteArray) (k : Nat) (h : k < s.size) : (bs s)[k]'(by rw [bs_len]; exact h) = bt s (k : Int) := by
 rw [← btk s k h]
 unfold bs bytesOf
 simp
 rfl
theorem bs_drop (s : ByteArray) (k : Nat) (h : k < s.size) : (bs s).drop k = bt s (k : Int) :: (bs s).drop (k + 1) := by
 rw [List.drop_eq_getElem_cons (by rw [bs_len]; exact h), bs_get s k h]
theorem bs_end (s : ByteArray) (k : Nat) (h : s.size ≤ k) : (bs s).drop k = [] := List.drop_eq_nil_of_le (by rw [bs_len]; exact h)
theorem toList_nil {s : ByteArray} (h : s.size = 0) : s.toList = [] := by
 rw [Lib.toList_data]
 exact List.eq_nil_of_length_eq_zero (by have := Lib.size_eq s; omega)
theorem isEmpty_of {s : ByteArray} (h : s.size = 0) : s.toList.isEmpty = true := by rw [toList_nil h]; rfl
theorem isEmpty_not {s : ByteArray} (h : s.size ≠ 0) : s.toList.isEmpty = false := by
 rw [List.isEmpty_eq_false_iff]
 intro he
 rw [Lib.toList_data] at he
 have := Lib.size_eq s
 rw [he] at this
 exact h this
/-- How many bytes of a sort stand ahead. -/
def tw (p : Int → Bool) (l : List Int) : Nat := (l.takeWhile p).length
theorem tw_nil (p : Int → Bool) : tw p [] = 0 := rfl
theorem tw_yes {p : Int → Bool} {c : Int} {l : List Int} (h : p c = true) : tw p (c :: l) = tw p l + 1 := by simp [tw, h]
theorem tw_no {p : Int → Bool} {c : Int} {l : List Int} (h : p c = false) : tw p (c :: l) = 0 := by simp [tw, h]
theorem tw_le (p : Int → Bool) (l : List Int) : tw p l ≤ l.length := (List.takeWhile_sublist _).length_le
/-- Where the run ends that begins at k. -/
def runEnd (p : Int → Bool) (s : ByteArray) (k : Nat) : Nat := k + tw p ((bs s).drop k)
theorem runEnd_yes {p : Int → Bool} {s : ByteArray} {k : Nat} (h : k < s.size) (hp : p (bt s (k : Int)) = true) : runEnd p s (k + 1) = runEnd p s k := by
 unfold runEnd
 rw [bs_drop s k h, tw_yes hp]
 omega
theorem runEnd_no {p : Int → Bool} {s : ByteArray} {k : Nat} (h : k < s.size) (hp : p (bt s (k : Int)) = false) : runEnd p s k = k := by
 unfold runEnd
 rw [bs_drop s k h, tw_no hp]
 rfl
theorem runEnd_out {p : Int → Bool} {s : ByteArray} {k : Nat} (h : s.size ≤ k) : runEnd p s k = k := by
 unfold runEnd
 rw [bs_end s k h, tw_nil]
 rfl
theorem runEnd_ge (p : Int → Bool) (s : ByteArray) (k : Nat) : k ≤ runEnd p s k := Nat.le_add_right _ _
theorem runEnd_le (p : Int → Bool) (s : ByteArray) (k : Nat) (h : k ≤ s.size) : runEnd p s k ≤ s.size := by
 unfold runEnd
 have := tw_le p ((bs s).drop k)
 rw [List.length_drop, bs_len] at this
 omega
end Go.Proofs.YtibbcfeaododhaaGreatDoor
namespace Go.Proofs.YtibbcfeaododhaaGreatDoor
open Go.RowKit Go.Proofs.YtibbcfeaododhaaGreatDoorW.PrintWords
def nAtom : ByteArray := ⟨#[97, 116, 111, 109]⟩
/-- A call that hands back an error value alone. -/
def ErrPost (w : World) (l : List Lk) (e : Ending) (w' : World) : Prop := ∃ v, e = .returned v ∧ ErrIs w' l v ∧ Below w.heap.size w w'
theorem errOf_new (w : World) (x : Lk) (l : List Lk) (u : Value) (h : ErrIs w l u) :
  ErrIs (w.alloc (.cells #[.string x.ly, .int .i64 x.pl, .int .i64 x.co, u] 94)) (x :: l) (.iface 92 (.pointer (some ⟨w.heap.size, 0, none⟩))) :=
 ⟨w.heap.size, u, rfl, by simp, by simp, by simp, by simp, h.below (below_alloc (Below.refl _ _) _)⟩
theorem atom_refused (at_ code : Int) (w : World) :
  Calls Tryz.prog 153 #[.int .i64 at_, .int .i64 code] w (ErrPost w [⟨nAtom, at_, code⟩]) := by
 have H : Hid (ErrPost w [⟨nAtom, at_, code⟩] (.returned (.iface 92 (.pointer (some ⟨w.heap.size, 0, none⟩)))) (w.alloc (.cells #[.string ⟨#[97, 116, 111, 109]⟩, .int .i64 at_, .int .i64 code, .nilIface] 94))) :=
  Lib.hid ⟨_, rfl, errOf_new w ⟨nAtom, at_, code⟩ [] _ rfl, below_alloc (Below.refl _ _) _⟩
 go_enter Tryz.func153, Tryz.ntmps153
 go_wp2_with fail
 go_ret
 exact H.out
/-- A call of a function that has a Go body: it is entered. -/
theorem callFunc_in {P : Program} {f : FuncId} {fn : Func} {c : Code} (hf : P.funcs[f]? = some fn) (hname : (fn.name == "runtime.NumGoroutine") = false) (hb : fn.body = some c) (args : Array Value) (w : World) :
  (callFunc f args).run P w = .ok (.enter f args) w := by
 have h1 : fn.name ≠ "runtime.NumGoroutine" := by simpa using hname
 simp [callFunc, hf, h1, hb]
/-! ### blanks and comments -/
theorem grown_set (W : World) (b o : Nat) (v : Value) : W.grownBy (W.setCell ⟨b, o, none⟩ v) (some b) := ⟨rfl, rfl, rfl, by simp [World.setCell], fun k _ hne => Below.heap_setCell _ _ _ _ (fun e => hne (by simp [e]))⟩
theorem grown_drewN (W : World) (m : Nat) (r : Option Nat) : W.grownBy (W.drewN m) r := ⟨rfl, rfl, rfl, Nat.le_refl _, fun _ _ _ => rfl⟩
end Go.Proofs.YtibbcfeaododhaaGreatDoor
namespace Go.Proofs.YtibbcfeaododhaaGreatDoor
open Go.RowKit Go.Proofs.YtibbcfeaododhaaGreatDoorW.PrintWords
/-- The place of the first code point that is none, from k on; -1: there is none. -/
def utfBad (s : ByteArray) (k : Nat) : Int :=
 if h : k < s.size then if Utf8.decode s k = (65533, 1) then (k : Int) else utfBad s (k + (Utf8.decode s k).2)
 else -1
 termination_by s.size - k
 decreasing_by have := Lib.width_pos s k; omega
theorem utfBad_out {s : ByteArray} {k : Nat} (h : s.size ≤ k) : utfBad s k = -1 := by rw [utfBad, dif_neg (by omega)]
theorem utfBad_here {s : ByteArray} {k : Nat} (h : k < s.size) (hd : Utf8.decode s k = (65533, 1)) : utfBad s k = (k : Int) := by rw [utfBad, dif_pos h, if_pos hd]
theorem utfBad_on {s : ByteArray} {k : Nat} (h : k < s.size) (hd : Utf8.decode s k ≠ (65533, 1)) : utfBad s (k + (Utf8.decode s k).2) = utfBad s k := by rw [utfBad.eq_def s k, dif_pos h, if_neg hd]
def IntPost (w : World) (n : Int) (e : Ending) (w' : World) : Prop := e = .returned (.int .i64 n) ∧ Below w.heap.size w w'
set_option maxRecDepth 100000 in
set_option maxHeartbeats 1000000 in
theorem strange_any (s : ByteArray) (w : World) (hG : Glob w) :
  Calls Tryz.prog 166 #[.string s] w (IntPost w (utfBad s 0)) := by
 have HG := Lib.hid hG
 clear hG
 go_enter Tryz.func166, Tryz.ntmps166
 go_wp2_with fail
 go_loopg [] s.size (fun gk wl => ∃ pos : Nat, gk = s.size - pos ∧ wl.heap[w.heap.size]? = some (.stringIter s pos) ∧ Hid (Below w.heap.size w wl) ∧ Hid (utfBad s pos = utfBad s 0))
 case atStart => exact ⟨0, rfl, heap_alloc_new w _, below_alloc (Below.refl _ _) _, rfl⟩
 case round =>
  obtain ⟨pos, hgk, hit, HB, HU⟩ := hrel
  have HK := Lib.hid hgk
  clear hgk
  by_cases hlt : pos < s.size
  ·have hnx := fun ty => Lib.run_next_any_at (P := Tryz.prog) wr w.heap.size s pos ty hit hlt
   have hw1 := Lib.width_pos s pos
   have hsz : w.heap.size < wr.heap.size := (Array.getElem?_eq_some_iff.1 hit).1
   have HI := Lib.hid hit
   have HB2 : Hid (Below w.heap.size w (wr.iterAt w.heap.size s (pos + (Utf8.decode s pos).2))) := Lib.hid (Lib.below_iterAt HB.out (Nat.le_refl _) _ _)
   have HI2 : Hid ((wr.iterAt w.heap.size s (pos + (Utf8.decode s pos).2)).heap[w.heap.size]? = some (.stringIter s (pos + (Utf8.decode s pos).2))) := Lib.hid (Lib.iterAt_heap wr _ s pos _ hit)
   clear hit
   by_cases hd : (Utf8.decode s pos).1 = 65533
   ·have hcb : (((Utf8.decode s pos).1 : Int) == 65533) = true := beq_iff_eq.2 (by omega)
    have HD := Lib.hid hd
    clear hd
    have hx1 : (pos : Int) < (s.size : Int) := by omega
    have hx0 : (0 : Int) ≤ (pos : Int) := by omega
    go_wp2_with fail
    have hgo : Lib.decodeGo (s.extract pos s.size) = Utf8.decode s pos := by
     unfold Lib.decodeGo
     rw [if_neg (by simp; omega), Lib.tail_decode]
     rfl
    have HGO := Lib.hid hgo
    clear hgo
    refine (Tryz.utf8_DecodeRuneInString (s.extract pos s.size) _ (HG.out.below HB2.out).ut).mono ?_
    rw [HGO.out]
    rintro e w1 ⟨rfl, hb1⟩
    have HB3 : Hid (Below w.heap.size w w1) := Lib.hid (trans_below HB2.out hb1)
    have hsz2 : w.heap.size < (wr.iterAt w.heap.size s (pos + (Utf8.decode s pos).2)).heap.size := by rw [Lib.iterAt_size]; exact hsz
    have hi3 : w1.heap[w.heap.size]? = some (.stringIter s (pos + (Utf8.decode s pos).2)) := (hb1.block _ hsz2).trans HI2.out
    have HI3 := Lib.hid hi3
    clear hb1 hi3 hsz2
    by_cases hn : (Utf8.decode s pos).2 < 2
    ·have HE : Hid (utfBad s 0 = (pos : Int)) := Lib.hid (HU.out.symm.trans (utfBad_here hlt (Prod.ext HD.out (by omega))))
     have hcn : decide (((Utf8.decode s pos).2 : Int) < 2) = true := decide_eq_true (by omega)
     clear hn
     go_wp2_with fail
     go_ret
     exact ⟨by rw [HE.out]; rfl, HB3.out⟩
    ·have HE : Hid (utfBad s (pos + (Utf8.decode s pos).2) = utfBad s 0) := Lib.hid ((utfBad_on hlt (fun he => by rw [he] at hn; exact hn (by decide))).trans HU.out)
     have hcn : decide (((Utf8.decode s pos).2 : Int) < 2) = false := decide_eq_false (by omega)
     clear hn
     go_wp2_with fail
     go_roundg (s.size - (pos + (Utf8.decode s pos).2))
     case measure => rw [HK.out]; omega
     case rel => exact ⟨_, rfl, HI3.out, HB3, HE⟩
   ·have hcb : (((Utf8.decode s pos).1 : Int) == 65533) = false := beq_eq_false_iff_ne.2 (by omega)
    have HE : Hid (utfBad s (pos + (Utf8.decode s pos).2) = utfBad s 0) := Lib.hid ((utfBad_on hlt (fun he => hd (by rw [he]))).trans HU.out)
    clear hd
    go_wp2_with fail
    go_roundg (s.size - (pos + (Utf8.decode s pos).2))
    case measure => rw [HK.out]; omega
    case rel => exact ⟨_, rfl, HI2.out, HB2, HE⟩
  ·have hnx := fun ty => Lib.run_next_end_at (P := Tryz.prog) wr w.heap.size s pos ty hit hlt
   have HE : Hid (utfBad s 0 = -1) := Lib.hid (HU.out.symm.trans (utfBad_out (by omega)))
   clear hit
   go_wp2_with fail
   go_ret
   exact ⟨by rw [HE.out]; rfl, HB.out⟩
end Go.Proofs.YtibbcfeaododhaaGreatDoor
namespace Go.Proofs.YtibbcfeaododhaaGreatDoor
open Go.RowKit Go.Proofs.YtibbcfeaododhaaGreatDoorW.PrintWords
def escX : List Int → Int × Nat
 | a :: b :: _ => if 0 ≤ hexOf a ∧ 0 ≤ hexOf b then (hexOf a * 16 + hexOf b, 3) else (0, 0)
 | _ => (0, 0)
/-- The byte that stands behind a backslash, and how many bytes that takes; 0: none. -/
def escOf : List Int → Int × Nat
 | [] => (0, 0)
 | c :: r => if c = 110 then (10, 1) else if c = 116 then (9, 1) else if c = 114 then (13, 1) else if c = 39 then (39, 1) else if c = 92 then (92, 1) else if c = 120 then escX r else (0, 0)
theorem hexOf_range (c : Int) : -1 ≤ hexOf c ∧ hexOf c ≤ 15 := by
 unfold hexOf isDigit
 simp only [Bool.and_eq_true, decide_eq_true_eq]
 repeat' split
 all_goals omega
theorem or16 : ∀ a b : Fin 16, Go.bits .or .i64 ((a.val : Int) * 16) (b.val : Int) = (a.val : Int) * 16 + (b.val : Int) := by decide +kernel
theorem or_hex (a b : Int) (ha : 0 ≤ a) (ha' : a ≤ 15) (hb : 0 ≤ b) (hb' : b ≤ 15) : Go.bits .or .i64 (a * 16) b = a * 16 + b := by
 have := or16 ⟨a.toNat, by omega⟩ ⟨b.toNat, by omega⟩
 simp only at this
 rw [Int.toNat_of_nonneg ha, Int.toNat_of_nonneg hb] at this
 exact this
def TwoPost (w : World) (r : Int × Nat) (e : Ending) (w' : World) : Prop := e = .returned (.tuple #[.int .u8 r.1, .int .i64 (r.2 : Int)]) ∧ Drawn0 w w'
set_option maxRecDepth 100000 in
set_option maxHeartbeats 1000000 in
theorem atom_escape (s : ByteArray) (w : World) :
  Calls Tryz.prog 185 #[.string s] w (TwoPost w (escOf (bs s))) := by
 by_cases h0 : s.size = 0
 ·have he : escOf (bs s) = (0, 0) := by
   have : bs s = [] := by simpa using bs_end s 0 (by omega)
   rw [this]; rfl
  have hl : s.toList = [] := by rw [Lib.toList_data]; exact List.eq_nil_of_length_eq_zero (by rw [← Lib.size_eq]; exact h0)
  rw [he]
  clear he
  go_enter Tryz.func185, Tryz.ntmps185
  go_wp2_with fail
  go_ret2
  exact ⟨rfl, Drawn0.refl _⟩
 ·have hl : s.toList ≠ [] := by rw [Lib.toList_data]; intro h; exact h0 (by rw [Lib.size_eq, h]; rfl)
  have hle : s.toList.isEmpty = false := by simpa using hl
  have hbs : bs s = bt s 0 :: (bs s).drop 1 := by simpa using bs_drop s 0 (by omega)
  have hb := btk s 0
  have hpos : 0 < s.size := by omega
  simp only [Int.natCast_zero] at hb
  clear hl
  by_cases c0 : bt s 0 = 110
  ·have HE : Hid (escOf (bs s) = (10, 1)) := Lib.hid (by rw [hbs]; simp only [escOf]; rw [if_pos c0])
   have cb0 : (bt s 0 == 110) = true := beq_iff_eq.2 c0
   clear c0 hbs
   go_enter Tryz.func185, Tryz.ntmps185
   go_wp2_with fail
   go_ret2
   exact ⟨by rw [HE.out]; rfl, Drawn0.refl _⟩
  ·skip
   by_cases c1 : bt s 0 = 116
   ·have HE : Hid (escOf (bs s) = (9, 1)) := Lib.hid (by rw [hbs]; simp only [escOf]; rw [if_neg c0, if_pos c1])
    have cb0 : (bt s 0 == 110) = false := beq_eq_false_iff_ne.2 c0
    have cb1 : (bt s 0 == 116) = true := beq_iff_eq.2 c1
    clear c0 c1 hbs
    go_enter Tryz.func185, Tryz.ntmps185
    go_wp2_with fail
    go_ret2
    exact ⟨by rw [HE.out]; rfl, Drawn0.refl _⟩
   ·skip
    by_cases c2 : bt s 0 = 114
    ·have HE : Hid (escOf (bs s) = (13, 1)) := Lib.hid (by rw [hbs]; simp only [escOf]; rw [if_neg c0, if_neg c1, if_pos c2])
     have cb0 : (bt s 0 == 110) = false := beq_eq_false_iff_ne.2 c0
     have cb1 : (bt s 0 == 116) = false := beq_eq_false_iff_ne.2 c1
     have cb2 : (bt s 0 == 114) = true := beq_iff_eq.2 c2
     clear c0 c1 c2 hbs
     go_enter Tryz.func185, Tryz.ntmps185
     go_wp2_with fail
     go_ret2
     exact ⟨by rw [HE.out]; rfl, Drawn0.refl _⟩
    ·skip
     by_cases c3 : bt s 0 = 39
     ·have HE : Hid (escOf (bs s) = (39, 1)) := Lib.hid (by rw [hbs]; simp only [escOf]; rw [if_neg c0, if_neg c1, if_neg c2, if_pos c3])
      have hv : bt s 0 = 39 := c3
      have HV := Lib.hid hv
      clear hv
      have cb0 : (bt s 0 == 110) = false := beq_eq_false_iff_ne.2 c0
      have cb1 : (bt s 0 == 116) = false := beq_eq_false_iff_ne.2 c1
      have cb2 : (bt s 0 == 114) = false := beq_eq_false_iff_ne.2 c2
      have cb3 : (bt s 0 == 39) = true := beq_iff_eq.2 c3
      clear c0 c1 c2 c3 hbs
      go_enter Tryz.func185, Tryz.ntmps185
      go_wp2_with fail
      go_ret2
      exact ⟨by rw [HE.out]; simp only [HV.out]; rfl, Drawn0.refl _⟩
     ·skip
      by_cases c4 : bt s 0 = 92
      ·have HE : Hid (escOf (bs s) = (92, 1)) := Lib.hid (by rw [hbs]; simp only [escOf]; rw [if_neg c0, if_neg c1, if_neg c2, if_neg c3, if_pos c4])
       have hv : bt s 0 = 92 := c4
       have HV := Lib.hid hv
       clear hv
       have cb0 : (bt s 0 == 110) = false := beq_eq_false_iff_ne.2 c0
       have cb1 : (bt s 0 == 116) = false := beq_eq_false_iff_ne.2 c1
       have cb2 : (bt s 0 == 114) = false := beq_eq_false_iff_ne.2 c2
       have cb3 : (bt s 0 == 39) = false := beq_eq_false_iff_ne.2 c3
       have cb4 : (bt s 0 == 92) = true := beq_iff_eq.2 c4
       clear c0 c1 c2 c3 c4 hbs
       go_enter Tryz.func185, Tryz.ntmps185
       go_wp2_with fail
       go_ret2
       exact ⟨by rw [HE.out]; simp only [HV.out]; rfl, Drawn0.refl _⟩
      ·skip
       by_cases c5 : bt s 0 = 120
       ·have HE0 : Hid (escOf (bs s) = escX ((bs s).drop 1)) := Lib.hid (by rw [hbs]; simp only [escOf, List.drop_succ_cons, List.drop_zero]; rw [if_neg c0, if_neg c1, if_neg c2, if_neg c3, if_neg c4, if_pos c5])
        have cb0 : (bt s 0 == 110) = false := beq_eq_false_iff_ne.2 c0
        have cb1 : (bt s 0 == 116) = false := beq_eq_false_iff_ne.2 c1
        have cb2 : (bt s 0 == 114) = false := beq_eq_false_iff_ne.2 c2
        have cb3 : (bt s 0 == 39) = false := beq_eq_false_iff_ne.2 c3
        have cb4 : (bt s 0 == 92) = false := beq_eq_false_iff_ne.2 c4
        have cb5 : (bt s 0 == 120) = true := beq_iff_eq.2 c5
        clear c0 c1 c2 c3 c4 c5 hbs
        have r1 := bt_range s 1
        have r2 := bt_range s 2
        have x1 := hexOf_range (bt s 1)
        have x2 := hexOf_range (bt s 2)
        by_cases h2 : s.size ≤ 2
        ·have HE : Hid (escOf (bs s) = (0, 0)) := by
          refine Lib.hid (HE0.out.trans ?_)
          have hl2 : ((bs s).drop 1).length ≤ 1 := by rw [List.length_drop, bs_len]; omega
          match hx : (bs s).drop 1, hl2 with
          | [], _ => rfl
          | [a], _ => rfl
         have e2 : decide ((s.size : Int) > 2) = false := decide_eq_false (by omega)
         go_enter Tryz.func185, Tryz.ntmps185
         go_wp2_with fail
         go_ret2
         exact ⟨by rw [HE.out]; rfl, Drawn0.refl _⟩
        ·have e1 : 1 < s.size := by omega
         have e2 : 2 < s.size := by omega
         have hb1 : ∀ h : 1 < s.size, ((s[1]'h).toNat : Int) = bt s 1 := btk s 1
         have hb2 : ∀ h : 2 < s.size, ((s[2]'h).toNat : Int) = bt s 2 := btk s 2
         have HD : Hid ((bs s).drop 1 = bt s 1 :: bt s 2 :: (bs s).drop 3) := by
          refine Lib.hid ?_
          rw [bs_drop s 1 e1, bs_drop s 2 e2]; rfl
         by_cases g1 : 0 ≤ hexOf (bt s 1)
         ·by_cases g2 : 0 ≤ hexOf (bt s 2)
          ·have HE : Hid (escOf (bs s) = (hexOf (bt s 1) * 16 + hexOf (bt s 2), 3)) := Lib.hid (by rw [HE0.out, HD.out]; simp only [escX]; rw [if_pos ⟨g1, g2⟩])
           have ho := or_hex _ _ g1 x1.2 g2 x2.2
           go_enter Tryz.func185, Tryz.ntmps185
           go_wp2_with fail
           refine (atom_nibble _ r1.1 r1.2 _).mono ?_
           rintro e w' ⟨rfl, rfl⟩
           go_wp2_with fail
           refine (atom_nibble _ r2.1 r2.2 _).mono ?_
           rintro e w' ⟨rfl, rfl⟩
           go_wp2_with fail
           go_quiet ((go_at_call 202; exact Calls.quiet_of_same ((atom_nibble _ (by omega) (by omega) _).mono fun e w' h => ⟨h.1, h.2.symm⟩)))
           go_wp2_with fail
           go_ret2
           exact ⟨by rw [HE.out]; rfl, by repeat (first | exact Drawn0.refl _ | apply Drawn0.step)⟩
          ·have HE : Hid (escOf (bs s) = (0, 0)) := Lib.hid (by rw [HE0.out, HD.out]; simp only [escX]; rw [if_neg (fun h => g2 h.2)])
           go_enter Tryz.func185, Tryz.ntmps185
           go_wp2_with fail
           refine (atom_nibble _ r1.1 r1.2 _).mono ?_
           rintro e w' ⟨rfl, rfl⟩
           go_wp2_with fail
           refine (atom_nibble _ r2.1 r2.2 _).mono ?_
           rintro e w' ⟨rfl, rfl⟩
           go_wp2_with fail
           go_ret2
           exact ⟨by rw [HE.out]; rfl, Drawn0.refl _⟩
         ·have HE : Hid (escOf (bs s) = (0, 0)) := Lib.hid (by rw [HE0.out, HD.out]; simp only [escX]; rw [if_neg (fun h => g1 h.1)])
          go_enter Tryz.func185, Tryz.ntmps185
          go_wp2_with fail
          refine (atom_nibble _ r1.1 r1.2 _).mono ?_
          rintro e w' ⟨rfl, rfl⟩
          go_wp2_with fail
          go_ret2
          exact ⟨by rw [HE.out]; rfl, Drawn0.refl _⟩
       ·have HE : Hid (escOf (bs s) = (0, 0)) := Lib.hid (by rw [hbs]; simp only [escOf]; rw [if_neg c0, if_neg c1, if_neg c2, if_neg c3, if_neg c4, if_neg c5])
        have cb0 : (bt s 0 == 110) = false := beq_eq_false_iff_ne.2 c0
        have cb1 : (bt s 0 == 116) = false := beq_eq_false_iff_ne.2 c1
        have cb2 : (bt s 0 == 114) = false := beq_eq_false_iff_ne.2 c2
        have cb3 : (bt s 0 == 39) = false := beq_eq_false_iff_ne.2 c3
        have cb4 : (bt s 0 == 92) = false := beq_eq_false_iff_ne.2 c4
        have cb5 : (bt s 0 == 120) = false := beq_eq_false_iff_ne.2 c5
        clear c0 c1 c2 c3 c4 c5 hbs
        go_enter Tryz.func185, Tryz.ntmps185
        go_wp2_with fail
        go_ret2
        exact ⟨by rw [HE.out]; rfl, Drawn0.refl _⟩
end Go.Proofs.YtibbcfeaododhaaGreatDoor
namespace Go.Proofs.YtibbcfeaododhaaGreatDoor
open Go.RowKit Go.Proofs.YtibbcfeaododhaaGreatDoorW.PrintWords
def resList : List (List UInt8) := [[97, 102, 116, 101, 114], [97, 110, 100], [97, 110, 100, 97, 108, 115, 111], [98, 101, 103, 105, 110], [99, 97, 115, 101], [99, 97, 116, 99, 104], [100, 105, 118], [101, 110, 100], [102, 117, 110], [105, 102], [110, 111, 116], [111, 102], [111, 114], [111, 114, 101, 108, 115, 101], [114, 101, 99, 101, 105, 118, 101], [114, 101, 109], [116, 114, 121], [119, 104, 101, 110], [120, 111, 114]]
def isRes (s : ByteArray) : Bool := resList.contains s.data.toList
theorem isRes_no {s : ByteArray} (h : isRes s = false) (r : List UInt8) (hr : r ∈ resList) : (s.toList == r) = false := by
 rw [Lib.toList_data, beq_eq_false_iff_ne]
 rintro rfl
 unfold isRes at h
 rw [List.contains_eq_mem, decide_eq_false_iff_not] at h
 exact h hr
theorem isRes_yes {s : ByteArray} (h : isRes s = true) : ∃ r, r ∈ resList ∧ s = ⟨r.toArray⟩ := by
 unfold isRes at h
 rw [List.contains_eq_mem, decide_eq_true_eq] at h
 exact ⟨_, h, by simp⟩
theorem atom_reserved_0 (w : World) : Calls Tryz.prog 157 #[.string ⟨#[97, 102, 116, 101, 114]⟩] w fun e w' => e = .returned (.bool true) ∧ w = w' := by
 go_enter Tryz.func157, Tryz.ntmps157
 go_wp2_with fail
 go_ret
 exact ⟨rfl, rfl⟩
theorem atom_reserved_1 (w : World) : Calls Tryz.prog 157 #[.string ⟨#[97, 110, 100]⟩] w fun e w' => e = .returned (.bool true) ∧ w = w' := by
 go_enter Tryz.func157, Tryz.ntmps157
 go_wp2_with fail
 go_ret
 exact ⟨rfl, rfl⟩
theorem atom_reserved_2 (w : World) : Calls Tryz.prog 157 #[.string ⟨#[97, 110, 100, 97, 108, 115, 111]⟩] w fun e w' => e = .returned (.bool true) ∧ w = w' := by
 go_enter Tryz.func157, Tryz.ntmps157
 go_wp2_with fail
 go_ret
 exact ⟨rfl, rfl⟩
theorem atom_reserved_3 (w : World) : Calls Tryz.prog 157 #[.string ⟨#[98, 101, 103, 105, 110]⟩] w fun e w' => e = .returned (.bool true) ∧ w = w' := by
 go_enter Tryz.func157, Tryz.ntmps157
 go_wp2_with fail
 go_ret
 exact ⟨rfl, rfl⟩
theorem atom_reserved_4 (w : World) : Calls Tryz.prog 157 #[.string ⟨#[99, 97, 115, 101]⟩] w fun e w' => e = .returned (.bool true) ∧ w = w' := by
 go_enter Tryz.func157, Tryz.ntmps157
 go_wp2_with fail
 go_ret
 exact ⟨rfl, rfl⟩
theorem atom_reserved_5 (w : World) : Calls Tryz.prog 157 #[.string ⟨#[99, 97, 116, 99, 104]⟩] w fun e w' => e = .returned (.bool true) ∧ w = w' := by
 go_enter Tryz.func157, Tryz.ntmps157
 go_wp2_with fail
 go_ret
 exact ⟨rfl, rfl⟩
theorem atom_reserved_6 (w : World) : Calls Tryz.prog 157 #[.string ⟨#[100, 105, 118]⟩] w fun e w' => e = .returned (.bool true) ∧ w = w' := by
 go_enter Tryz.func157, Tryz.ntmps157
 go_wp2_with fail
 go_ret
 exact ⟨rfl, rfl⟩
theorem atom_reserved_7 (w : World) : Calls Tryz.prog 157 #[.string ⟨#[101, 110, 100]⟩] w fun e w' => e = .returned (.bool true) ∧ w = w' := by
 go_enter Tryz.func157, Tryz.ntmps157
 go_wp2_with fail
 go_ret
 exact ⟨rfl, rfl⟩
theorem atom_reserved_8 (w : World) : Calls Tryz.prog 157 #[.string ⟨#[102, 117, 110]⟩] w fun e w' => e = .returned (.bool true) ∧ w = w' := by
 go_enter Tryz.func157, Tryz.ntmps157
 go_wp2_with fail
 go_ret
 exact ⟨rfl, rfl⟩
theorem atom_reserved_9 (w : World) : Calls Tryz.prog 157 #[.string ⟨#[105, 102]⟩] w fun e w' => e = .returned (.bool true) ∧ w = w' := by
 go_enter Tryz.func157, Tryz.ntmps157
 go_wp2_with fail
 go_ret
 exact ⟨rfl, rfl⟩
theorem atom_reserved_10 (w : World) : Calls Tryz.prog 157 #[.string ⟨#[110, 111, 116]⟩] w fun e w' => e = .returned (.bool true) ∧ w = w' := by
 go_enter Tryz.func157, Tryz.ntmps157
 go_wp2_with fail
 go_ret
 exact ⟨rfl, rfl⟩
theorem atom_reserved_11 (w : World) : Calls Tryz.prog 157 #[.string ⟨#[111, 102]⟩] w fun e w' => e = .returned (.bool true) ∧ w = w' := by
 go_enter Tryz.func157, Tryz.ntmps157
 go_wp2_with fail
 go_ret
 exact ⟨rfl, rfl⟩
theorem atom_reserved_12 (w : World) : Calls Tryz.prog 157 #[.string ⟨#[111, 114]⟩] w fun e w' => e = .returned (.bool true) ∧ w = w' := by
 go_enter Tryz.func157, Tryz.ntmps157
 go_wp2_with fail
 go_ret
 exact ⟨rfl, rfl⟩
theorem atom_reserved_13 (w : World) : Calls Tryz.prog 157 #[.string ⟨#[111, 114, 101, 108, 115, 101]⟩] w fun e w' => e = .returned (.bool true) ∧ w = w' := by
 go_enter Tryz.func157, Tryz.ntmps157
 go_wp2_with fail
 go_ret
 exact ⟨rfl, rfl⟩
theorem atom_reserved_14 (w : World) : Calls Tryz.prog 157 #[.string ⟨#[114, 101, 99, 101, 105, 118, 101]⟩] w fun e w' => e = .returned (.bool true) ∧ w = w' := by
 go_enter Tryz.func157, Tryz.ntmps157
 go_wp2_with fail
 go_ret
 exact ⟨rfl, rfl⟩
theorem atom_reserved_15 (w : World) : Calls Tryz.prog 157 #[.string ⟨#[114, 101, 109]⟩] w fun e w' => e = .returned (.bool true) ∧ w = w' := by
 go_enter Tryz.func157, Tryz.ntmps157
 go_wp2_with fail
 go_ret
 exact ⟨rfl, rfl⟩
theorem atom_reserved_16 (w : World) : Calls Tryz.prog 157 #[.string ⟨#[116, 114, 121]⟩] w fun e w' => e = .returned (.bool true) ∧ w = w' := by
 go_enter Tryz.func157, Tryz.ntmps157
 go_wp2_with fail
 go_ret
 exact ⟨rfl, rfl⟩
theorem atom_reserved_17 (w : World) : Calls Tryz.prog 157 #[.string ⟨#[119, 104, 101, 110]⟩] w fun e w' => e = .returned (.bool true) ∧ w = w' := by
 go_enter Tryz.func157, Tryz.ntmps157
 go_wp2_with fail
 go_ret
 exact ⟨rfl, rfl⟩
theorem atom_reserved_18 (w : World) : Calls Tryz.prog 157 #[.string ⟨#[120, 111, 114]⟩] w fun e w' => e = .returned (.bool true) ∧ w = w' := by
 go_enter Tryz.func157, Tryz.ntmps157
 go_wp2_with fail
 go_ret
 exact ⟨rfl, rfl⟩
theorem atom_reserved (s : ByteArray) (w : World) : Calls Tryz.prog 157 #[.string s] w fun e w' => e = .returned (.bool (isRes s)) ∧ w = w' := by
 cases h : isRes s with
 | true =>
  obtain ⟨r, hr, rfl⟩ := isRes_yes h
  clear h
  simp only [resList, List.mem_cons, List.mem_nil_iff, or_false] at hr
  rcases hr with rfl | rfl | rfl | rfl | rfl | rfl | rfl | rfl | rfl | rfl | rfl | rfl | rfl | rfl | rfl | rfl | rfl | rfl | rfl
  ·exact atom_reserved_0 w
  ·exact atom_reserved_1 w
  ·exact atom_reserved_2 w
  ·exact atom_reserved_3 w
  ·exact atom_reserved_4 w
  ·exact atom_reserved_5 w
  ·exact atom_reserved_6 w
  ·exact atom_reserved_7 w
  ·exact atom_reserved_8 w
  ·exact atom_reserved_9 w
  ·exact atom_reserved_10 w
  ·exact atom_reserved_11 w
  ·exact atom_reserved_12 w
  ·exact atom_reserved_13 w
  ·exact atom_reserved_14 w
  ·exact atom_reserved_15 w
  ·exact atom_reserved_16 w
  ·exact atom_reserved_17 w
  ·exact atom_reserved_18 w
 | false =>
  have r0 := isRes_no h [97, 102, 116, 101, 114] (by decide)
  have r1 := isRes_no h [97, 110, 100] (by decide)
  have r2 := isRes_no h [97, 110, 100, 97, 108, 115, 111] (by decide)
  have r3 := isRes_no h [98, 101, 103, 105, 110] (by decide)
  have r4 := isRes_no h [99, 97, 115, 101] (by decide)
  have r5 := isRes_no h [99, 97, 116, 99, 104] (by decide)
  have r6 := isRes_no h [100, 105, 118] (by decide)
  have r7 := isRes_no h [101, 110, 100] (by decide)
  have r8 := isRes_no h [102, 117, 110] (by decide)
  have r9 := isRes_no h [105, 102] (by decide)
  have r10 := isRes_no h [110, 111, 116] (by decide)
  have r11 := isRes_no h [111, 102] (by decide)
  have r12 := isRes_no h [111, 114] (by decide)
  have r13 := isRes_no h [111, 114, 101, 108, 115, 101] (by decide)
  have r14 := isRes_no h [114, 101, 99, 101, 105, 118, 101] (by decide)
  have r15 := isRes_no h [114, 101, 109] (by decide)
  have r16 := isRes_no h [116, 114, 121] (by decide)
  have r17 := isRes_no h [119, 104, 101, 110] (by decide)
  have r18 := isRes_no h [120, 111, 114] (by decide)
  clear h
  go_enter Tryz.func157, Tryz.ntmps157
  go_wp2_with fail
  go_ret
  exact ⟨rfl, rfl⟩
theorem leO_up' {α : Type} {f : Nat → Option α} (hm : ∀ k, LeO (f k) (f (k + 1))) {k0 : Nat} {r : α} (h : f k0 = some r) : ∀ k, k0 ≤ k → f k = some r := by
 intro k hk
 obtain ⟨d, rfl⟩ : ∃ d, k = k0 + d := ⟨k - k0, by omega⟩
 clear hk
 induction d with
 | zero => exact h
 | succ d ih => exact hm _ _ ih
/-! ### heddleref01.Reserved, by its printed function -/
theorem res_l0 (s : ByteArray) (l : List ByteArray) (hl : l.length ≤ 100) : ∀ (d i n : Nat), l.length - i = d → i ≤ l.length → d + 1 ≤ n → PWd.heddleref01_Reserved.l0 n s l (i : Int) = some ((l.drop i).any fun r => r.toList == s.toList) := by
 intro d
 induction d with
 | zero =>
  intro i n hd hi hn
  obtain ⟨n, rfl⟩ : ∃ m, n = m + 1 := ⟨n - 1, by omega⟩
  simp only [PWd.heddleref01_Reserved.l0]
  rw [if_neg (by omega), List.drop_eq_nil_of_le (by omega)]
  rfl
 | succ d ih =>
  intro i n hd hi hn
  obtain ⟨n, rfl⟩ : ∃ m, n = m + 1 := ⟨n - 1, by omega⟩
  have hlt : i < l.length := by omega
  simp only [PWd.heddleref01_Reserved.l0]
  rw [if_pos (by omega), if_pos (by omega), List.drop_eq_getElem_cons hlt]
  have hr : rdOf ByteArray.empty l (i : Int) = l[i] := by simp [rdOf, List.getD_eq_getElem?_getD, List.getElem?_eq_getElem hlt]
  rw [hr]
  by_cases h : l[i].toList = s.toList
  ·rw [if_pos h, List.any_cons, beq_iff_eq.2 h]
   rfl
  ·rw [if_neg h, List.any_cons, beq_eq_false_iff_ne.2 h, Bool.false_or]
   have hw : wrap64 ((i : Int) + 1) = ((i + 1 : Nat) : Int) := by unfold wrap64; omega
   rw [hw, ih (i + 1) n (by omega) (by omega) (by omega)]
theorem res_f (s : ByteArray) : PWd.heddleref01_Reserved.f 25 s = some (isRes s) := by
 unfold PWd.heddleref01_Reserved.f
 rw [show (0 : Int) = ((0 : Nat) : Int) from rfl, res_l0 s _ (by decide) 19 0 25 (by decide) (by decide) (by decide)]
 congr 1
 unfold isRes resList
 rw [List.drop_zero, ← Lib.toList_data, Bool.eq_iff_iff]
 simp only [List.any_cons, List.any_nil, Bool.or_false, Bool.or_eq_true, beq_iff_eq, List.contains_eq_mem, decide_eq_true_eq, List.mem_cons, List.mem_nil_iff, or_false, Lib.toList_data, eq_comm (a := s.data.toList)]
/-! ### plain atoms -/
theorem kindOf_in (c : Int) : (kindOf c != 0) = isIn c := by
 unfold kindOf isIn
 cases isSmall c <;> cases isCapital c <;> cases isDigit c <;> simp
 by_cases h1 : c = 95 <;> by_cases h2 : c = 64 <;> simp [h1, h2]
set_option maxRecDepth 100000 in
theorem atom_word (s : ByteArray) (k0 : Nat) (h0 : k0 ≤ s.size) (hm : s.size ≤ 140737488351232) (w : World) :
  Calls Tryz.prog 156 #[.string s, .int .i64 (k0 : Int)] w fun e w' => e = .returned (.int .i64 (runEnd isIn s k0 : Nat)) ∧ w = w' := by
 go_enter Tryz.func156, Tryz.ntmps156
 go_wp2_with fail
 go_loop [1] (fun i => ∃ k : Nat, i = .int .i64 (k : Int) ∧ k ≤ s.size ∧ Hid (runEnd isIn s k = runEnd isIn s k0)) (fun i => s.size - (intOf i).toNat)
 case atStart => exact ⟨k0, rfl, h0, rfl⟩
 case round =>
  obtain ⟨k, rfl, hk, HR⟩ := hrel
  by_cases hlt : k < s.size
  ·have hb := btk s k
   have hr := bt_range s (k : Int)
   by_cases hp : isIn (bt s (k : Int)) = true
   ·have HN : Hid (runEnd isIn s (k + 1) = runEnd isIn s k0) := Lib.hid ((runEnd_yes hlt hp).trans HR.out)
    have hkd : (kindOf (bt s (k : Int)) != 0) = true := by rw [kindOf_in]; exact hp
    clear hp
    go_wp2_with fail
    refine (atom_kind _ hr.1 hr.2 _).mono ?_
    rintro e w' ⟨rfl, rfl⟩
    go_wp2_with fail
    go_round
    case rel => exact ⟨k + 1, by go_num, by omega, HN.out⟩
    case measure => simp [intOf]; omega
   ·have hp' : isIn (bt s (k : Int)) = false := by simpa using hp
    have HN : Hid (runEnd isIn s k0 = k) := Lib.hid (HR.out.symm.trans (runEnd_no hlt hp'))
    have hkd : (kindOf (bt s (k : Int)) != 0) = false := by rw [kindOf_in]; exact hp'
    clear hp hp'
    go_wp2_with fail
    refine (atom_kind _ hr.1 hr.2 _).mono ?_
    rintro e w' ⟨rfl, rfl⟩
    go_wp2_with fail
    go_ret
    exact ⟨by rw [HN.out]; rfl, rfl⟩
  ·have HN : Hid (runEnd isIn s k0 = k) := Lib.hid (HR.out.symm.trans (runEnd_out (by omega)))
   go_wp2_with fail
   go_ret
   exact ⟨by rw [HN.out]; rfl, rfl⟩
/-- Does an atom stand without quotes? -/
def isPlain (s : ByteArray) : Bool := decide (0 < s.size) && isSmall (bt s 0) && decide (runEnd isIn s 0 = s.size) && !isRes s
theorem plain_l0 (s : ByteArray) (hm : s.size ≤ 140737488351232) : ∀ (d i n : Nat), s.size - i = d → i ≤ s.size → d + 1 ≤ n → PWd.heddleref01_plain.l0 n s (i : Int) = some (decide (runEnd isIn s i = s.size)) := by
 intro d
 induction d with
 | zero =>
  intro i n hd hi hn
  obtain ⟨n, rfl⟩ : ∃ m, n = m + 1 := ⟨n - 1, by omega⟩
  simp only [PWd.heddleref01_plain.l0]
  rw [if_neg (by omega), runEnd_out (by omega)]
  simp
  omega
 | succ d ih =>
  intro i n hd hi hn
  obtain ⟨n, rfl⟩ : ∃ m, n = m + 1 := ⟨n - 1, by omega⟩
  have hlt : i < s.size := by omega
  have hin : PWd.heddleref01_InWord.f (bt s (i : Int)) = some (isIn (bt s (i : Int))) := by
   generalize bt s (i : Int) = c
   have hs : PWd.heddleref01_Small.f c = some (isSmall c) := by
    unfold PWd.heddleref01_Small.f isSmall
    by_cases h : c ≥ 97
    ·rw [if_pos h]; simp; intro h2; omega
    ·rw [if_neg h]; simp; intro h2; omega
   unfold PWd.heddleref01_InWord.f isIn isCapital isDigit
   rw [hs]
   cases isSmall c <;> simp
   repeat' split
   all_goals (rw [Option.some.injEq, Bool.eq_iff_iff]; simp; omega)
  simp only [PWd.heddleref01_plain.l0]
  rw [if_pos (by omega), if_pos (by omega), hin]
  simp only [Option.bind_some]
  cases hp : isIn (bt s (i : Int)) with
  | true =>
   have hw : wrap64 ((i : Int) + 1) = ((i + 1 : Nat) : Int) := by unfold wrap64; omega
   rw [if_pos rfl, hw, ih (i + 1) n (by omega) (by omega) (by omega), runEnd_yes hlt hp]
  | false =>
   rw [if_neg (by simp), runEnd_no hlt hp]
   simp
   omega
theorem plain_f (s : ByteArray) (hm : s.size ≤ 140737488351232) : PWd.heddleref01_plain.f (s.size + 30) s = some (isPlain s) := by
 unfold PWd.heddleref01_plain.f isPlain
 by_cases h0 : s.size = 0
 ·have hl : s.toList = [] := by rw [Lib.toList_data]; exact List.eq_nil_of_length_eq_zero (by rw [← Lib.size_eq]; exact h0)
  rw [if_pos hl]
  obtain ⟨n, hn⟩ : ∃ n, s.size + 30 = n + 1 := ⟨s.size + 29, rfl⟩
  rw [hn]
  simp only [PWd.heddleref01_plain.j0]
  simp [h0]
 ·have hl : s.toList ≠ [] := by rw [Lib.toList_data]; intro h; exact h0 (by rw [Lib.size_eq, h]; rfl)
  rw [if_neg hl, if_pos (by omega)]
  have hs : PWd.heddleref01_Small.f (bt s 0) = some (isSmall (bt s 0)) := by
   generalize bt s 0 = c
   unfold PWd.heddleref01_Small.f isSmall
   by_cases h : c ≥ 97
   ·rw [if_pos h]; simp; intro h2; omega
   ·rw [if_neg h]; simp; intro h2; omega
  have hR : PWd.heddleref01_Reserved.f (s.size + 30) s = some (isRes s) :=
   leO_up' (f := fun n => PWd.heddleref01_Reserved.f n s) (fun n => PWd.heddleref01_Reserved.mono _ n) (res_f s) _ (by omega)
  rw [hs, hR]
  simp only [Option.bind_some]
  have hd : decide (0 < s.size) = true := decide_eq_true (by omega)
  have hj : ∀ b, PWd.heddleref01_plain.j0 (s.size + 30) s b = some (!b && decide (runEnd isIn s 0 = s.size)) := by
   intro b
   have e : s.size + 30 = (s.size + 29) + 1 := rfl
   rw [e]
   simp only [PWd.heddleref01_plain.j0]
   cases b with
   | true => simp
   | false =>
    have := plain_l0 s hm s.size 0 (s.size + 29) (by omega) (by omega) (by omega)
    rw [if_neg (by simp), show (0 : Int) = ((0 : Nat) : Int) from rfl, this]
    simp
  rw [hj, hj, hd]
  cases isSmall (bt s 0) <;> cases isRes s <;> simp
theorem ref01_plain (s : ByteArray) (hm : s.size ≤ 140737488351232) (w : World) : Calls Tryz.prog 144 #[.string s] w fun e w' => e = .returned (.bool (isPlain s)) ∧ Below w.heap.size w w' :=
 PWd.heddleref01_plain.calls (s.size + 30) s (isPlain s) w (plain_f s hm)
set_option maxRecDepth 100000 in
theorem atom_plain (s : ByteArray) (hm : s.size ≤ 140737488351232) (w : World) :
  Calls Tryz.prog 167 #[.string s] w fun e w' => e = .returned (.bool (isPlain s)) ∧ w = w' := by
 by_cases h0 : s.size = 0
 ·have hl : s.toList.isEmpty = true := isEmpty_of h0
  have HE : Hid (isPlain s = false) := Lib.hid (by unfold isPlain; simp [h0])
  clear h0
  go_enter Tryz.func167, Tryz.ntmps167
  go_wp2_with fail
  go_ret
  exact ⟨by rw [HE.out]; rfl, rfl⟩
 ·have hpos : 0 < s.size := by omega
  have hl : s.toList.isEmpty = false := isEmpty_not h0
  have hb : ∀ h : 0 < s.size, ((s[0]'h).toNat : Int) = bt s 0 := btk s 0
  have hr := bt_range s 0
  have hk0 : (kindOf (bt s 0) == 1) = isSmall (bt s 0) := by
   unfold kindOf
   cases isSmall (bt s 0) <;> simp
   split
   ·simp
   ·split
    ·simp
    ·split <;> simp
  clear h0
  cases h1 : isSmall (bt s 0) with
  | false =>
   have HE : Hid (isPlain s = false) := Lib.hid (by unfold isPlain; simp [h1])
   rw [h1] at hk0
   clear h1
   go_enter Tryz.func167, Tryz.ntmps167
   go_wp2_with fail
   refine (atom_kind _ hr.1 hr.2 _).mono ?_
   rintro e w' ⟨rfl, rfl⟩
   go_wp2_with fail
   go_ret
   exact ⟨by rw [HE.out]; rfl, rfl⟩
  | true =>
   rw [h1] at hk0
   by_cases h2 : runEnd isIn s 0 = s.size
   ·have e2 : ((runEnd isIn s 0 : Nat) : Int) = (s.size : Int) := by rw [h2]
    have e3 : (((runEnd isIn s 0 : Nat) : Int) == (s.size : Int)) = true := by simp [h2]
    have HE : Hid (isPlain s = !isRes s) := Lib.hid (by unfold isPlain; simp [h1, h2, hpos])
    clear h1 h2 e2
    go_enter Tryz.func167, Tryz.ntmps167
    go_wp2_with fail
    refine (atom_kind _ hr.1 hr.2 _).mono ?_
    rintro e w' ⟨rfl, rfl⟩
    go_wp2_with fail
    refine (atom_word s 0 (Nat.zero_le _) hm _).mono ?_
    rintro e w' ⟨rfl, rfl⟩
    go_wp2_with fail
    refine (atom_reserved s _).mono ?_
    rintro e w' ⟨rfl, rfl⟩
    go_wp2_with fail
    go_ret
    exact ⟨by rw [HE.out]; rfl, rfl⟩
   ·have e3 : (((runEnd isIn s 0 : Nat) : Int) == (s.size : Int)) = false := by simp; omega
    have HE : Hid (isPlain s = false) := Lib.hid (by unfold isPlain; simp [h2])
    clear h1 h2
    go_enter Tryz.func167, Tryz.ntmps167
    go_wp2_with fail
    refine (atom_kind _ hr.1 hr.2 _).mono ?_
    rintro e w' ⟨rfl, rfl⟩
    go_wp2_with fail
    refine (atom_word s 0 (Nat.zero_le _) hm _).mono ?_
    rintro e w' ⟨rfl, rfl⟩
    go_wp2_with fail
    go_ret
    exact ⟨by rw [HE.out]; rfl, rfl⟩
/-! ### lex.isReserved -/
end Go.Proofs.YtibbcfeaododhaaGreatDoor
