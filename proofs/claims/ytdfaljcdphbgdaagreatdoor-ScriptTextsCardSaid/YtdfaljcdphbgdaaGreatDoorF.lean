/- The reader of a line: how its answers leave it. -/
import Derived.Test.YtdfaljcdphbgdaaGreatDoorC
import Derived.LaidEql
import Derived.Stop.Asserts
import Derived.RowKitTokens
import Derived.Recover
namespace Go.Proofs.YtdfaljcdphbgdaaGreatDoor
set_option linter.unusedVariables false
set_option linter.unusedSimpArgs false
open Go.RowKit Go.Extern.Stop Go.Stop Go.Extern Go.Proofs

theorem as_valueOf (t : Addr) (w : World) : (ReflectliteValue.unpack (.iface 45 (.pointer (some t)))).run Tryz.prog w
    = .ok (.agg #[.pointer (some ⟨9, 45, none⟩), .pointer (some ⟨w.heap.size, 0, none⟩), .int .u64 150]) (w.alloc (.cells #[.pointer (some t)] 45)) := by kernel_rfl
theorem as_type (a : Addr) (w : World) : (ReflectliteValue.methodAny (ReflectliteValue.valueError "reflectlite.Value.Type" 0) (fun t _ _ _ => ReflectliteType.toType t) #[.agg #[.pointer (some ⟨9, 45, none⟩), .pointer (some a), .int .u64 150]]).run Tryz.prog w
    = .ok (.iface 91 (.agg #[.pointer (some ⟨9, 45, none⟩)])) w := by kernel_rfl
theorem as_methodKind (h : Value) (w : World) : (Go.method 277 91 (.agg #[h]) "Kind").run Tryz.prog w = .ok (110, h) w := by kernel_rfl
theorem as_kindPP (w : World) : ((ReflectliteType.abiMethod fun t => (fun a : Nat => Value.int IntKind.u8 (a : Int)) <$> Rtype.kind t) #[.pointer (some ⟨9, 45, none⟩)]).run Tryz.prog w = .ok (.int .u8 22) w := by kernel_rfl
theorem as_kindP (w : World) : ((ReflectliteType.abiMethod fun t => (fun a : Nat => Value.int IntKind.u8 (a : Int)) <$> Rtype.kind t) #[.pointer (some ⟨9, 43, none⟩)]).run Tryz.prog w = .ok (.int .u8 22) w := by kernel_rfl

theorem as_rlm (z : Sem Value) (f : TypeId → Addr → Nat → Nat → Sem Value) (v : Value) :
    ReflectliteValue.method z f #[v] = (do match ← ReflectliteValue.parts v with | none => z | some (t, a, fl) => f t a fl (fl % 32)) := rfl
theorem as_partsPP (a : Addr) (w : World) : (ReflectliteValue.parts (.agg #[.pointer (some ⟨9, 45, none⟩), .pointer (some a), .int .u64 150])).run Tryz.prog w = .ok (some (45, a, 150)) w := by kernel_rfl
theorem as_isNil (a p : Addr) (W : World) (ha : W.cell? a = some (.pointer (some p))) :
    (ReflectliteValue.method (ReflectliteValue.valueError "reflectlite.Value.IsNil" 0) ReflectliteValue.isNil #[.agg #[.pointer (some ⟨9, 45, none⟩), .pointer (some a), .int .u64 150]]).run Tryz.prog W = .ok (.bool false) W := by
  rw [as_rlm]
  simp only [Sem.run_bind, as_partsPP, Result.andThen]
  simp [ReflectliteValue.isNil, loadVar, isAgg, underlying, Tryz.underlying45, ha, Result.andThen]

theorem as_methodElem (h : Value) (w : World) : (Go.method 277 91 (.agg #[h]) "Elem").run Tryz.prog w = .ok (121, .agg #[h]) w := by kernel_rfl
theorem as_methodImplements (h : Value) (w : World) : (Go.method 277 91 (.agg #[h]) "Implements").run Tryz.prog w = .ok (122, .agg #[h]) w := by kernel_rfl
theorem as_methodAssignableTo (h : Value) (w : World) : (Go.method 277 91 (.agg #[h]) "AssignableTo").run Tryz.prog w = .ok (119, .agg #[h]) w := by kernel_rfl
theorem as_elem (w : World) : (ReflectliteType.method ReflectliteType.elem #[.agg #[.pointer (some ⟨9, 45, none⟩)]]).run Tryz.prog w = .ok (.iface 91 (.agg #[.pointer (some ⟨9, 43, none⟩)])) w := by kernel_rfl
theorem as_implements (w : World) : (ReflectliteType.relation "Implements" ReflectliteType.implements_ #[.agg #[.pointer (some ⟨9, 43, none⟩)], .iface 91 (.agg #[.pointer (some ⟨9, 42, none⟩)])]).run Tryz.prog w = .ok (.bool true) w := by kernel_rfl
theorem as_typeOf (v : Value) (w : World) : (ReflectliteType.typeOf #[.iface 43 v]).run Tryz.prog w = .ok (.iface 91 (.agg #[.pointer (some ⟨9, 43, none⟩)])) w := by kernel_rfl
theorem as_assignable (w : World) : (ReflectliteType.relation "AssignableTo" ReflectliteType.assignableTo #[.agg #[.pointer (some ⟨9, 43, none⟩)], .iface 91 (.agg #[.pointer (some ⟨9, 43, none⟩)])]).run Tryz.prog w = .ok (.bool true) w := by kernel_rfl
theorem as_valueOfP (e : Addr) (w : World) : (ReflectliteValue.unpack (.iface 43 (.pointer (some e)))).run Tryz.prog w
    = .ok (.agg #[.pointer (some ⟨9, 43, none⟩), .pointer (some ⟨w.heap.size, 0, none⟩), .int .u64 150]) (w.alloc (.cells #[.pointer (some e)] 43)) := by kernel_rfl
theorem as_elemOf (w : World) : (Rtype.elem? 45).run Tryz.prog w = .ok (some 43) w := by kernel_rfl
theorem as_mk (p : Addr) (w : World) : (ReflectliteValue.mk 43 p ReflectliteValue.flagAddr).run Tryz.prog w = .ok (.agg #[.pointer (some ⟨9, 43, none⟩), .pointer (some p), .int .u64 406]) w := by kernel_rfl
theorem as_elemV (a p : Addr) (W : World) (ha : W.cell? a = some (.pointer (some p))) :
    (ReflectliteValue.method (ReflectliteValue.valueError "reflectlite.Value.Elem" 0) ReflectliteValue.elem #[.agg #[.pointer (some ⟨9, 45, none⟩), .pointer (some a), .int .u64 150]]).run Tryz.prog W
      = .ok (.agg #[.pointer (some ⟨9, 43, none⟩), .pointer (some p), .int .u64 406]) W := by
  rw [as_rlm]
  simp only [Sem.run_bind, as_partsPP, Result.andThen]
  simp [ReflectliteValue.elem, loadVar, isAgg, underlying, Tryz.underlying45, ha, Result.andThen, as_elemOf, as_mk]
theorem as_rls (v x : Value) : ReflectliteValue.set #[v, x] = (do
    let (some (dst, a, fl), some (src, b, _)) := (← ReflectliteValue.parts v, ← ReflectliteValue.parts x)
      | unsupported (.noEntry "extern/(internal/reflectlite.Value).Set.zeroValue")
    if fl / ReflectliteValue.flagAddr % 2 == 0 then unsupported (.noEntry "extern/(internal/reflectlite.Value).Set.unaddressable")
    let val ← loadVar src b
    if ← Rtype.directlyAssignable dst src then storeVar dst a val
    else if ← Rtype.implements dst src then
      if (← Rtype.kind src) == 20 then
        match val with
        | .nilIface => unsupported (.noEntry "extern/reflectlite: a nil value of one interface type handed on as a value of another")
        | _ => storeVar dst a val
      else storeVar dst a (.iface src val)
    else panicString ("reflectlite.Set: value of type " ++ (← Rtype.spelt src) ++ " is not assignable to type " ++ (← Rtype.spelt dst))
    pure (.tuple #[])) := rfl
theorem as_partsPa (a : Addr) (w : World) : (ReflectliteValue.parts (.agg #[.pointer (some ⟨9, 43, none⟩), .pointer (some a), .int .u64 406])).run Tryz.prog w = .ok (some (43, a, 406)) w := by kernel_rfl
theorem as_partsP (a : Addr) (w : World) : (ReflectliteValue.parts (.agg #[.pointer (some ⟨9, 43, none⟩), .pointer (some a), .int .u64 150])).run Tryz.prog w = .ok (some (43, a, 150)) w := by kernel_rfl
theorem as_direct (w : World) : (Rtype.directlyAssignable 43 43).run Tryz.prog w = .ok true w := by kernel_rfl
theorem as_size (w : World) : (sizeOf 43).run Tryz.prog w = .ok 1 w := by kernel_rfl
theorem as_set (ta b e : Addr) (old : Value) (W : World) (hb : W.cell? b = some (.pointer (some e))) (ht : W.cell? ta = some old) (hf : W.frozen? ta = false) :
    (ReflectliteValue.set #[.agg #[.pointer (some ⟨9, 43, none⟩), .pointer (some ta), .int .u64 406], .agg #[.pointer (some ⟨9, 43, none⟩), .pointer (some b), .int .u64 150]]).run Tryz.prog W
      = .ok (.tuple #[]) (W.setCell ta (.pointer (some e))) := by
  rw [as_rls]
  simp only [Sem.run_bind, as_partsPa, as_partsP, Result.andThen]
  simp [ReflectliteValue.flagAddr, loadVar, isAgg, underlying, Tryz.underlying43, hb, Result.andThen, as_direct, storeVar, Value.cells, storeCells, Addr.add]
  rw [run_store Tryz.prog W ta _ _ (by rfl)]
  simp [ht, hf]

set_option maxHeartbeats 4000000 in
theorem as_hit (e t : Addr) (old : Value) (w : World) (hg : w.cell? ⟨0, 0, none⟩ = some (.iface 91 (.agg #[.pointer (some ⟨9, 42, none⟩)]))) (ht0 : w.cell? t = some old) (hf0 : w.frozen? t = false) :
    Calls Tryz.prog 17 #[.iface 43 (.pointer (some e)), .iface 45 (.pointer (some t))] w fun ev w' => ev = .returned (.bool true) ∧ w' = ((((w.alloc (.cells #[.pointer (some t)] 45)).alloc (.cells #[.pointer (some ⟨9, 45, none⟩), .pointer (some ⟨w.heap.size, 0, none⟩), .int .u64 150] 73)).alloc (.cells #[.pointer (some ⟨9, 45, none⟩), .pointer (some ⟨w.heap.size, 0, none⟩), .int .u64 150] 73)).alloc (.cells #[.pointer (some e)] 43)).setCell t (.pointer (some e)) := by
  have h6 := @run_callFunc_extern Tryz.prog 35 _ (fun args => ReflectliteValue.unpack (args.getD 0 (.tuple #[]))) Tryz.func35 (by kernel_rfl) (by kernel_rfl) (by kernel_rfl) (by kernel_rfl)
  have h7 := @run_callFunc_extern Tryz.prog 36 _ (ReflectliteValue.methodAny (ReflectliteValue.valueError "reflectlite.Value.Type" 0) (fun t _ _ _ => ReflectliteType.toType t)) Tryz.func36 (by kernel_rfl) (by kernel_rfl) (by kernel_rfl) (by kernel_rfl)
  have h8 := @run_callFunc_extern Tryz.prog 37 _ (ReflectliteValue.method (ReflectliteValue.valueError "reflectlite.Value.IsNil" 0) ReflectliteValue.isNil) Tryz.func37 (by kernel_rfl) (by kernel_rfl) (by kernel_rfl) (by kernel_rfl)
  have h27 := @run_callFunc_extern Tryz.prog 110 _ (ReflectliteType.abiMethod fun t => do pure (.int .u8 (← Rtype.kind t))) Tryz.func110 (by kernel_rfl) (by kernel_rfl) (by kernel_rfl) (by kernel_rfl)
  have h37 := @run_callFunc_extern Tryz.prog 121 _ (ReflectliteType.method ReflectliteType.elem) Tryz.func121 (by kernel_rfl) (by kernel_rfl) (by kernel_rfl) (by kernel_rfl)
  have h38 := @run_callFunc_extern Tryz.prog 122 _ (ReflectliteType.relation "Implements" ReflectliteType.implements_) Tryz.func122 (by kernel_rfl) (by kernel_rfl) (by kernel_rfl) (by kernel_rfl)
  have h10 := @run_callFunc_extern Tryz.prog 49 _ ReflectliteType.typeOf Tryz.func49 (by kernel_rfl) (by kernel_rfl) (by kernel_rfl) (by kernel_rfl)
  have h35 := @run_callFunc_extern Tryz.prog 119 _ (ReflectliteType.relation "AssignableTo" ReflectliteType.assignableTo) Tryz.func119 (by kernel_rfl) (by kernel_rfl) (by kernel_rfl) (by kernel_rfl)
  have h11 := @run_callFunc_extern Tryz.prog 50 _ (ReflectliteValue.method (ReflectliteValue.valueError "reflectlite.Value.Elem" 0) ReflectliteValue.elem) Tryz.func50 (by kernel_rfl) (by kernel_rfl) (by kernel_rfl) (by kernel_rfl)
  have h12 := @run_callFunc_extern Tryz.prog 51 _ ReflectliteValue.set Tryz.func51 (by kernel_rfl) (by kernel_rfl) (by kernel_rfl) (by kernel_rfl)
  have tO := as_typeOf
  have mA := as_methodAssignableTo
  have a25 := as_assignable
  have v25 := as_valueOfP
  have f6 := as_valueOf
  have f7 := as_type
  have mK := as_methodKind
  have mE := as_methodElem
  have mI := as_methodImplements
  have k27 := as_kindPP
  have k25 := as_kindP
  have e27 := as_elem
  have i25 := as_implements
  have n8 := as_isNil ⟨w.heap.size, 0, none⟩ t ((w.alloc (.cells #[.pointer (some t)] 45)).alloc (.cells #[.pointer (some ⟨9, 45, none⟩), .pointer (some ⟨w.heap.size, 0, none⟩), .int .u64 150] 73)) (by simp)
  have hlt : 0 < w.heap.size := by
    rcases Nat.eq_zero_or_pos w.heap.size with h0 | h
    · simp [World.cell?, h0] at hg
    · exact h
  have hg2 : ((w.alloc (.cells #[.pointer (some t)] 45)).alloc (.cells #[.pointer (some ⟨9, 45, none⟩), .pointer (some ⟨w.heap.size, 0, none⟩), .int .u64 150] 73)).cell? ⟨0, 0, none⟩ = some (.iface 91 (.agg #[.pointer (some ⟨9, 42, none⟩)])) := by
    rw [World.cell?_alloc_lt _ _ ⟨0, 0, none⟩ (by simp), World.cell?_alloc_lt _ _ ⟨0, 0, none⟩ hlt]; exact hg
  have htl : t.block < w.heap.size := by
    rcases Nat.lt_or_ge t.block w.heap.size with h | h
    · exact h
    · simp [World.cell?, Array.getElem?_eq_none h] at ht0
  have el := as_elemV ⟨w.heap.size, 0, none⟩ t (((w.alloc (.cells #[.pointer (some t)] 45)).alloc (.cells #[.pointer (some ⟨9, 45, none⟩), .pointer (some ⟨w.heap.size, 0, none⟩), .int .u64 150] 73)).alloc (.cells #[.pointer (some ⟨9, 45, none⟩), .pointer (some ⟨w.heap.size, 0, none⟩), .int .u64 150] 73)) (by rw [World.cell?_alloc_lt _ _ ⟨w.heap.size, 0, none⟩ (by simp; omega)]; simp)
  have st := as_set t ⟨w.heap.size + 1 + 1 + 1, 0, none⟩ e old ((((w.alloc (.cells #[.pointer (some t)] 45)).alloc (.cells #[.pointer (some ⟨9, 45, none⟩), .pointer (some ⟨w.heap.size, 0, none⟩), .int .u64 150] 73)).alloc (.cells #[.pointer (some ⟨9, 45, none⟩), .pointer (some ⟨w.heap.size, 0, none⟩), .int .u64 150] 73)).alloc (.cells #[.pointer (some e)] 43))
    (by rw [World.cell?_alloc_at _ _ _ _ (by simp)]; rfl)
    (by rw [World.cell?_alloc_lt _ _ t (by simp; omega), World.cell?_alloc_lt _ _ t (by simp; omega), World.cell?_alloc_lt _ _ t (by simp; omega), World.cell?_alloc_lt _ _ t htl]; exact ht0)
    (by rw [World.frozen?_alloc_old _ _ t (by simp; omega), World.frozen?_alloc_old _ _ t (by simp; omega), World.frozen?_alloc_old _ _ t (by simp; omega), World.frozen?_alloc_old _ _ t (Nat.ne_of_lt htl)]; exact hf0)
  go_enter Tryz.func17, Tryz.ntmps17
  go_wp2
  refine wp_loop_rounds 1 ?_
  rw [rounds_succ]
  go_wp2
  go_ret
  exact ⟨rfl, rfl⟩
end Go.Proofs.YtdfaljcdphbgdaaGreatDoor
namespace Go.Proofs.YtdfaljcdphbgdaaGreatDoor
set_option linter.unusedVariables false
set_option linter.unusedSimpArgs false
open Go.RowKit Go.Proofs

theorem wpS_recover_some {P : Program} {Q : Exit → Act → List Frame → World → Prop} {a : Act} {cs cs' : List Frame} {w : World} {id : Nat} {d : Tmp} {ty : TypeId} {pos : String} {v : Value}
    (hr : recoverD cs = some (v, cs')) (h : Q .normal (a.put (some d) v) cs' w) :
    (Code.region id #[{ dst := some d, op := Op.call { callee := Callee.builtin Builtin.recover, args := #[], argTypes := #[] }, type := ty, pos := pos, after := #[], guard := none }] false).wpS P Q a cs w := by
  apply wpS_region
  simp [wpOpsS, go_sem, hr]
  exact h

theorem wpS_recover_none {P : Program} {Q : Exit → Act → List Frame → World → Prop} {a : Act} {cs : List Frame} {w : World} {id : Nat} {d : Tmp} {ty : TypeId} {pos : String}
    (hr : recoverD cs = none) (h : Q .normal (a.put (some d) .nilIface) cs w) :
    (Code.region id #[{ dst := some d, op := Op.call { callee := Callee.builtin Builtin.recover, args := #[], argTypes := #[] }, type := ty, pos := pos, after := #[], guard := none }] false).wpS P Q a cs w := by
  apply wpS_region
  simp [wpOpsS, go_sem, hr]
  exact h

theorem ta_wrong (a : Addr) (w : World) : (Instr.typeAssert (.iface 43 (.pointer (some a))) 20 42 true).run Tryz.prog w = .ok (.tuple #[.iface 43 (.pointer (some a)), .bool true]) w := by kernel_rfl

theorem as_wrong (w : World) (T : Tabs w) (hs : 9 ≤ w.heap.size) (p : Nat) :
    Calls Tryz.prog 17 #[.iface 43 (.pointer (some ⟨p, 0, none⟩)), .iface 45 (.pointer (some ⟨w.heap.size, 0, none⟩))] (w.alloc (.cells #[.pointer none] 43)) fun e w' => e = .returned (.bool true) ∧ Below w.heap.size w w' := by
  refine (as_hit ⟨p, 0, none⟩ ⟨w.heap.size, 0, none⟩ (.pointer none) (w.alloc (.cells #[.pointer none] 43)) ?_ (by simp) (by simp)).mono fun e w' ⟨he, hw⟩ => ⟨he, ?_⟩
  · rw [World.cell?_alloc_lt _ _ ⟨0, 0, none⟩ (show _ < w.heap.size by simp; omega)]; exact T.ety
  · subst hw
    exact ((((((Below.refl _ _).alloc (Nat.le_refl _) _).alloc (by simp) _).alloc (by simp; omega) _).alloc (by simp; omega) _).alloc (by simp; omega) _).setCell (Nat.le_refl _) _

theorem closure_idle (bx be : Nat) (w : World) :
    CallsD Tryz.prog 16 #[.pointer (some ⟨bx, 0, none⟩), .pointer (some ⟨be, 0, none⟩)] .returning w fun e u' w' => e = .returned (.tuple #[]) ∧ u' = .returning ∧ w' = w := by
  refine callsD_of_wpS Tryz.func16 rfl fun c₀ cs hu => ?_
  apply wpS_seq
  refine wpS_recover_none (by simp [recoverD, hu]) ?_
  simp only [Exit.thenS, Tryz.ntmps16, List.size_toArray, List.length_cons, List.length_nil, Nat.reduceAdd, Nat.reduceSub, Array.replicate_succ, Array.replicate_zero, List.push_toArray, List.append_toArray, List.nil_append, List.cons_append, Act.put, List.setIfInBounds_toArray, List.set_cons_zero, List.set_cons_succ]
  refine wpS_of_wp ?_
  go_wp2
  exact ⟨rfl, .returning, by cases c₀; simp_all, _, results_none rfl _ _ _, rfl, rfl, rfl⟩

set_option maxHeartbeats 1000000 in
set_option maxRecDepth 100000 in
theorem closure_wrong (bx be p B : Nat) (a0 a1 a2 a3 b0 : Value) (older : List PanicEntry) (w : World) (T : Tabs w) (hx : w.heap[bx]? = some (.cells #[a0, a1, a2, a3] 27 (0, 0))) (he : w.heap[be]? = some (.cells #[b0] 28 (0, 0))) (hne : ¬ bx = be) (hs : 9 ≤ w.heap.size)
    (hB1 : B ≤ bx) (hB2 : B ≤ be) :
    CallsD Tryz.prog 16 #[.pointer (some ⟨bx, 0, none⟩), .pointer (some ⟨be, 0, none⟩)] (.panicking ({ v := .iface 43 (.pointer (some ⟨p, 0, none⟩)), recovered := false } :: older)) w fun e u' w' =>
      e = .returned (.tuple #[]) ∧ u' = .panicking ({ v := .iface 43 (.pointer (some ⟨p, 0, none⟩)), recovered := true } :: older) ∧
        w'.heap[bx]? = some (.cells #[.int .i64 0, .int .i64 0, .slice none 0 0, .slice none 0 0] 27 (0, 0)) ∧ w'.heap[be]? = some (.cells #[.int .i64 15] 28 (0, 0)) ∧ Below B w w' := by
  refine callsD_of_wpS Tryz.func16 rfl fun c₀ cs hu => ?_
  apply wpS_seq
  refine wpS_recover_some (v := .iface 43 (.pointer (some ⟨p, 0, none⟩))) (cs' := { c₀ with mode := .panicking ({ v := .iface 43 (.pointer (some ⟨p, 0, none⟩)), recovered := true } :: older) } :: cs) (by simp [recoverD, hu]) ?_
  simp only [Exit.thenS, Tryz.ntmps16, List.size_toArray, List.length_cons, List.length_nil, Nat.reduceAdd, Nat.reduceSub, Array.replicate_succ, Array.replicate_zero, List.push_toArray, List.append_toArray, List.nil_append, List.cons_append, Act.put, List.setIfInBounds_toArray, List.set_cons_zero, List.set_cons_succ]
  refine wpS_of_wp ?_
  have HT := Lib.hid T
  have HX := Lib.hid hx
  have HE := Lib.hid he
  have HU := Lib.hid hu
  clear T hx he hu
  have ta := ta_wrong ⟨p, 0, none⟩
  go_wp2_with fail
  refine (as_wrong w HT.out hs p).mono ?_
  rintro e w2 ⟨rfl, b2⟩
  have hX : w2.heap[bx]? = some (.cells #[a0, a1, a2, a3] 27 (0, 0)) := (b2.block bx (Array.getElem?_eq_some_iff.1 HX.out).1).trans HX.out
  have hE : w2.heap[be]? = some (.cells #[b0] 28 (0, 0)) := (b2.block be (Array.getElem?_eq_some_iff.1 HE.out).1).trans HE.out
  have x0 := cell_of_heap hX 0
  have x1 := cell_of_heap hX 1
  have x2 := cell_of_heap hX 2
  have x3 := cell_of_heap hX 3
  have e0 := cell_of_heap hE 0
  have fx := frozen_of_heap hX
  have fe := frozen_of_heap hE
  simp only [List.getElem?_toArray, List.getElem?_cons_zero, List.getElem?_cons_succ] at x0 x1 x2 x3 e0
  have HX2 := Lib.hid hX
  have HE2 := Lib.hid hE
  have B2 := Lib.hid b2
  clear hX hE b2
  go_wp2
  refine ⟨rfl, _, rfl, _, results_none rfl _ _ _, rfl, rfl, ?_, ?_, ?_⟩
  · rw [Below.heap_setCell _ _ _ _ hne]
    exact (heap_setCell_at _ _ _ _ _ _ (heap_setCell_at _ _ _ _ _ _ (heap_setCell_at _ _ _ _ _ _ (heap_setCell_at _ _ _ _ _ _ HX2.out)))).trans (by rfl)
  · refine (heap_setCell_at _ _ _ #[b0] _ _ ?_).trans (by rfl)
    rw [Below.heap_setCell _ _ _ _ (Ne.symm hne), Below.heap_setCell _ _ _ _ (Ne.symm hne), Below.heap_setCell _ _ _ _ (Ne.symm hne), Below.heap_setCell _ _ _ _ (Ne.symm hne)]
    exact HE2.out
  · have hw : B ≤ w.heap.size := Nat.le_trans hB1 (Nat.le_of_lt (Array.getElem?_eq_some_iff.1 HX.out).1)
    exact (((((B2.out.mono hw).setCell (p := ⟨bx, 0, none⟩) hB1 _).setCell (p := ⟨bx, 1, none⟩) hB1 _).setCell (p := ⟨bx, 2, none⟩) hB1 _).setCell (p := ⟨bx, 3, none⟩) hB1 _).setCell (p := ⟨be, 0, none⟩) hB2 _

end Go.Proofs.YtdfaljcdphbgdaaGreatDoor
namespace Go.Proofs.YtdfaljcdphbgdaaGreatDoor
set_option linter.unusedVariables false
set_option linter.unusedSimpArgs false
open Go.RowKit Go.Proofs

/-- the two results as they lie in memory -/
structure Res (w : World) (bx be : Nat) (a0 a1 a2 a3 b0 : Value) : Prop where
  hx : w.heap[bx]? = some (.cells #[a0, a1, a2, a3] 27 (0, 0))
  he : w.heap[be]? = some (.cells #[b0] 28 (0, 0))

theorem res_run {w : World} {bx be : Nat} {a0 a1 a2 a3 b0 : Value} (h : Res w bx be a0 a1 a2 a3 b0) (tmps : Array Value) (h2 : tmps[2]? = some (.pointer (some ⟨bx, 0, none⟩))) (h3 : tmps[3]? = some (.pointer (some ⟨be, 0, none⟩))) :
    (results Tryz.f7 tmps).run Tryz.prog w = .ok (.tuple #[.agg #[a0, a1, a2, a3], b0]) w := by
  have x0 := cell_of_heap h.hx 0
  have x1 := cell_of_heap h.hx 1
  have x2 := cell_of_heap h.hx 2
  have x3 := cell_of_heap h.hx 3
  have e0 := cell_of_heap h.he 0
  simp only [List.getElem?_toArray, List.getElem?_cons_zero, List.getElem?_cons_succ] at x0 x1 x2 x3 e0
  simp [results, Tryz.results7, h2, h3, go_sem, x0, x1, x2, x3, e0]

/-- the deferred call -/
def dfr (bx be : Nat) : Deferred := { target := Target.fn (Fn.func 16) #[.pointer (some ⟨bx, 0, none⟩), .pointer (some ⟨be, 0, none⟩)], args := #[] }

theorem door_ret {R : Ending → World → Prop} {w : World} {bx be : Nat} {a0 a1 a2 a3 b0 : Value} (h : Res w bx be a0 a1 a2 a3 b0) (tmps : Array Value) (h2 : tmps[2]? = some (.pointer (some ⟨bx, 0, none⟩))) (h3 : tmps[3]? = some (.pointer (some ⟨be, 0, none⟩)))
    (hR : R (.returned (.tuple #[.agg #[a0, a1, a2, a3], b0])) w) :
    bodyPostD Tryz.prog Tryz.f7 R Exit.ret { tmps := tmps, defers := [{ target := Target.fn (Fn.func 16) #[.pointer (some ⟨bx, 0, none⟩), .pointer (some ⟨be, 0, none⟩)], args := #[] }] } w := by
  refine leaves_cons (f := 16) (args := #[.pointer (some ⟨bx, 0, none⟩), .pointer (some ⟨be, 0, none⟩)]) (by simp) (by simp [go_sem]) ?_
  refine (closure_idle bx be w).mono ?_
  rintro e u' w'' ⟨rfl, rfl, rfl⟩
  exact ⟨_, res_run h tmps h2 h3, hR⟩

theorem door_wrong {R : Ending → World → Prop} {w : World} {bx be B p : Nat} {a0 a1 a2 a3 b0 : Value} (h : Res w bx be a0 a1 a2 a3 b0) (T : Tabs w) (hne : ¬ bx = be) (hs : 9 ≤ w.heap.size) (hB1 : B ≤ bx) (hB2 : B ≤ be)
    (tmps : Array Value) (h2 : tmps[2]? = some (.pointer (some ⟨bx, 0, none⟩))) (h3 : tmps[3]? = some (.pointer (some ⟨be, 0, none⟩)))
    (hR : ∀ w', Below B w w' → R (.returned (.tuple #[.agg #[.int .i64 0, .int .i64 0, .slice none 0 0, .slice none 0 0], .int .i64 15])) w') :
    bodyPostD Tryz.prog Tryz.f7 R (Exit.panic [{ v := .iface 43 (.pointer (some ⟨p, 0, none⟩)), recovered := false }]) { tmps := tmps, defers := [{ target := Target.fn (Fn.func 16) #[.pointer (some ⟨bx, 0, none⟩), .pointer (some ⟨be, 0, none⟩)], args := #[] }] } w := by
  refine leaves_cons (f := 16) (args := #[.pointer (some ⟨bx, 0, none⟩), .pointer (some ⟨be, 0, none⟩)]) (by simp) (by simp [go_sem]) ?_
  refine (closure_wrong bx be p B a0 a1 a2 a3 b0 [] w T h.hx h.he hne hs hB1 hB2).mono ?_
  rintro e u' w'' ⟨rfl, rfl, hx, he, hb⟩
  exact ⟨_, res_run (b0 := .int .i64 15) ⟨hx, he⟩ tmps h2 h3, hR w'' hb⟩

end Go.Proofs.YtdfaljcdphbgdaaGreatDoor
