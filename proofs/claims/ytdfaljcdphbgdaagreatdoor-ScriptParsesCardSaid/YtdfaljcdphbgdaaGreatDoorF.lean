/- The reader of a line: how its answers leave it. -/
import Derived.Test.YtdfaljcdphbgdaaGreatDoorD
import Derived.Recover
namespace Go.Proofs.YtdfaljcdphbgdaaGreatDoor
set_option linter.unusedVariables false
set_option linter.unusedSimpArgs false
open Go.RowKit Go.Proofs

theorem wpS_recover_some {P : Program} {Q : Exit → Act → List Frame → World → Prop} {a : Act} {cs cs' : List Frame} {w : World} {id : Nat} {d : Tmp} {ty : TypeId} {pos : String} {v : Value}
    (hr : recoverD cs = some (v, cs')) (h : Q .normal (a.put (some d) v) cs' w) :
    (Code.region id #[{ dst := some d, op := Op.call { callee := Callee.builtin Builtin.recover, args := #[], argTypes := #[] }, type := ty, pos := pos, after := #[], guard := none }] false).wpS P Q a cs w := by
  apply wpS_region
  simp [wpOpsS, go_sem, hr]
  exact h

theorem wpS_recover_none {P : Program} {Q : Exit → Act → List Frame → World → Prop} {a : Act} {cs : List Frame} {w : World} {id : Nat} {d : Tmp} {ty : TypeId} {pos : String}
    (hr : recoverD cs = none) (h : Q .normal (a.put (some d) .nilIface) cs w) :
    (Code.region id #[{ dst := some d, op := Op.call { callee := Callee.builtin Builtin.recover, args := #[], argTypes := #[] }, type := ty, pos := pos, after := #[], guard := none }] false).wpS P Q a cs w := by
  apply wpS_region
  simp [wpOpsS, go_sem, hr]
  exact h

theorem ta_wrong (a : Addr) (w : World) : (Instr.typeAssert (.iface 43 (.pointer (some a))) 20 42 true).run Tryz.prog w = .ok (.tuple #[.iface 43 (.pointer (some a)), .bool true]) w := by kernel_rfl

theorem as_wrong (w : World) (T : Tabs w) (hs : 9 ≤ w.heap.size) (p : Nat) :
    Calls Tryz.prog 17 #[.iface 43 (.pointer (some ⟨p, 0, none⟩)), .iface 45 (.pointer (some ⟨w.heap.size, 0, none⟩))] (w.alloc (.cells #[.pointer none] 43)) fun e w' => e = .returned (.bool true) ∧ Below w.heap.size w w' := by
  refine (as_hit ⟨p, 0, none⟩ ⟨w.heap.size, 0, none⟩ (.pointer none) (w.alloc (.cells #[.pointer none] 43)) ?_ (by simp) (by simp)).mono fun e w' ⟨he, hw⟩ => ⟨he, ?_⟩
  · rw [World.cell?_alloc_lt _ _ ⟨0, 0, none⟩ (show _ < w.heap.size by simp; omega)]; exact T.ety
  · subst hw
    exact ((((((Below.refl _ _).alloc (Nat.le_refl _) _).alloc (by simp) _).alloc (by simp; omega) _).alloc (by simp; omega) _).alloc (by simp; omega) _).setCell (Nat.le_refl _) _

theorem closure_idle (bx be : Nat) (w : World) :
    CallsD Tryz.prog 16 #[.pointer (some ⟨bx, 0, none⟩), .pointer (some ⟨be, 0, none⟩)] .returning w fun e u' w' => e = .returned (.tuple #[]) ∧ u' = .returning ∧ w' = w := by
  refine callsD_of_wpS Tryz.func16 rfl fun c₀ cs hu => ?_
  apply wpS_seq
  refine wpS_recover_none (by simp [recoverD, hu]) ?_
  simp only [Exit.thenS, Tryz.ntmps16, List.size_toArray, List.length_cons, List.length_nil, Nat.reduceAdd, Nat.reduceSub, Array.replicate_succ, Array.replicate_zero, List.push_toArray, List.append_toArray, List.nil_append, List.cons_append, Act.put, List.setIfInBounds_toArray, List.set_cons_zero, List.set_cons_succ]
  refine wpS_of_wp ?_
  go_wp2
  exact ⟨rfl, .returning, by cases c₀; simp_all, _, results_none rfl _ _ _, rfl, rfl, rfl⟩

set_option maxHeartbeats 1000000 in
set_option maxRecDepth 100000 in
theorem closure_wrong (bx be p B : Nat) (a0 a1 a2 a3 b0 : Value) (older : List PanicEntry) (w : World) (T : Tabs w) (hx : w.heap[bx]? = some (.cells #[a0, a1, a2, a3] 27 (0, 0))) (he : w.heap[be]? = some (.cells #[b0] 28 (0, 0))) (hne : ¬ bx = be) (hs : 9 ≤ w.heap.size)
    (hB1 : B ≤ bx) (hB2 : B ≤ be) :
    CallsD Tryz.prog 16 #[.pointer (some ⟨bx, 0, none⟩), .pointer (some ⟨be, 0, none⟩)] (.panicking ({ v := .iface 43 (.pointer (some ⟨p, 0, none⟩)), recovered := false } :: older)) w fun e u' w' =>
      e = .returned (.tuple #[]) ∧ u' = .panicking ({ v := .iface 43 (.pointer (some ⟨p, 0, none⟩)), recovered := true } :: older) ∧
        w'.heap[bx]? = some (.cells #[.int .i64 0, .int .i64 0, .slice none 0 0, .slice none 0 0] 27 (0, 0)) ∧ w'.heap[be]? = some (.cells #[.int .i64 15] 28 (0, 0)) ∧ Below B w w' := by
  refine callsD_of_wpS Tryz.func16 rfl fun c₀ cs hu => ?_
  apply wpS_seq
  refine wpS_recover_some (v := .iface 43 (.pointer (some ⟨p, 0, none⟩))) (cs' := { c₀ with mode := .panicking ({ v := .iface 43 (.pointer (some ⟨p, 0, none⟩)), recovered := true } :: older) } :: cs) (by simp [recoverD, hu]) ?_
  simp only [Exit.thenS, Tryz.ntmps16, List.size_toArray, List.length_cons, List.length_nil, Nat.reduceAdd, Nat.reduceSub, Array.replicate_succ, Array.replicate_zero, List.push_toArray, List.append_toArray, List.nil_append, List.cons_append, Act.put, List.setIfInBounds_toArray, List.set_cons_zero, List.set_cons_succ]
  refine wpS_of_wp ?_
  have HT := Lib.hid T
  have HX := Lib.hid hx
  have HE := Lib.hid he
  have HU := Lib.hid hu
  clear T hx he hu
  have ta := ta_wrong ⟨p, 0, none⟩
  go_wp2_with fail
  refine (as_wrong w HT.out hs p).mono ?_
  rintro e w2 ⟨rfl, b2⟩
  have hX : w2.heap[bx]? = some (.cells #[a0, a1, a2, a3] 27 (0, 0)) := (b2.block bx (Array.getElem?_eq_some_iff.1 HX.out).1).trans HX.out
  have hE : w2.heap[be]? = some (.cells #[b0] 28 (0, 0)) := (b2.block be (Array.getElem?_eq_some_iff.1 HE.out).1).trans HE.out
  have x0 := cell_of_heap hX 0
  have x1 := cell_of_heap hX 1
  have x2 := cell_of_heap hX 2
  have x3 := cell_of_heap hX 3
  have e0 := cell_of_heap hE 0
  have fx := frozen_of_heap hX
  have fe := frozen_of_heap hE
  simp only [List.getElem?_toArray, List.getElem?_cons_zero, List.getElem?_cons_succ] at x0 x1 x2 x3 e0
  have HX2 := Lib.hid hX
  have HE2 := Lib.hid hE
  have B2 := Lib.hid b2
  clear hX hE b2
  go_wp2
  refine ⟨rfl, _, rfl, _, results_none rfl _ _ _, rfl, rfl, ?_, ?_, ?_⟩
  · rw [Below.heap_setCell _ _ _ _ hne]
    exact (heap_setCell_at _ _ _ _ _ _ (heap_setCell_at _ _ _ _ _ _ (heap_setCell_at _ _ _ _ _ _ (heap_setCell_at _ _ _ _ _ _ HX2.out)))).trans (by rfl)
  · refine (heap_setCell_at _ _ _ #[b0] _ _ ?_).trans (by rfl)
    rw [Below.heap_setCell _ _ _ _ (Ne.symm hne), Below.heap_setCell _ _ _ _ (Ne.symm hne), Below.heap_setCell _ _ _ _ (Ne.symm hne), Below.heap_setCell _ _ _ _ (Ne.symm hne)]
    exact HE2.out
  · have hw : B ≤ w.heap.size := Nat.le_trans hB1 (Nat.le_of_lt (Array.getElem?_eq_some_iff.1 HX.out).1)
    exact (((((B2.out.mono hw).setCell (p := ⟨bx, 0, none⟩) hB1 _).setCell (p := ⟨bx, 1, none⟩) hB1 _).setCell (p := ⟨bx, 2, none⟩) hB1 _).setCell (p := ⟨bx, 3, none⟩) hB1 _).setCell (p := ⟨be, 0, none⟩) hB2 _

end Go.Proofs.YtdfaljcdphbgdaaGreatDoor
namespace Go.Proofs.YtdfaljcdphbgdaaGreatDoor
set_option linter.unusedVariables false
set_option linter.unusedSimpArgs false
open Go.RowKit Go.Proofs

/-- the two results as they lie in memory -/
structure Res (w : World) (bx be : Nat) (a0 a1 a2 a3 b0 : Value) : Prop where
  hx : w.heap[bx]? = some (.cells #[a0, a1, a2, a3] 27 (0, 0))
  he : w.heap[be]? = some (.cells #[b0] 28 (0, 0))

theorem res_run {w : World} {bx be : Nat} {a0 a1 a2 a3 b0 : Value} (h : Res w bx be a0 a1 a2 a3 b0) (tmps : Array Value) (h2 : tmps[2]? = some (.pointer (some ⟨bx, 0, none⟩))) (h3 : tmps[3]? = some (.pointer (some ⟨be, 0, none⟩))) :
    (results Tryz.f7 tmps).run Tryz.prog w = .ok (.tuple #[.agg #[a0, a1, a2, a3], b0]) w := by
  have x0 := cell_of_heap h.hx 0
  have x1 := cell_of_heap h.hx 1
  have x2 := cell_of_heap h.hx 2
  have x3 := cell_of_heap h.hx 3
  have e0 := cell_of_heap h.he 0
  simp only [List.getElem?_toArray, List.getElem?_cons_zero, List.getElem?_cons_succ] at x0 x1 x2 x3 e0
  simp [results, Tryz.results7, h2, h3, go_sem, x0, x1, x2, x3, e0]

/-- the deferred call -/
def dfr (bx be : Nat) : Deferred := { target := Target.fn (Fn.func 16) #[.pointer (some ⟨bx, 0, none⟩), .pointer (some ⟨be, 0, none⟩)], args := #[] }

theorem door_ret {R : Ending → World → Prop} {w : World} {bx be : Nat} {a0 a1 a2 a3 b0 : Value} (h : Res w bx be a0 a1 a2 a3 b0) (tmps : Array Value) (h2 : tmps[2]? = some (.pointer (some ⟨bx, 0, none⟩))) (h3 : tmps[3]? = some (.pointer (some ⟨be, 0, none⟩)))
    (hR : R (.returned (.tuple #[.agg #[a0, a1, a2, a3], b0])) w) :
    bodyPostD Tryz.prog Tryz.f7 R Exit.ret { tmps := tmps, defers := [{ target := Target.fn (Fn.func 16) #[.pointer (some ⟨bx, 0, none⟩), .pointer (some ⟨be, 0, none⟩)], args := #[] }] } w := by
  refine leaves_cons (f := 16) (args := #[.pointer (some ⟨bx, 0, none⟩), .pointer (some ⟨be, 0, none⟩)]) (by simp) (by simp [go_sem]) ?_
  refine (closure_idle bx be w).mono ?_
  rintro e u' w'' ⟨rfl, rfl, rfl⟩
  exact ⟨_, res_run h tmps h2 h3, hR⟩

theorem door_wrong {R : Ending → World → Prop} {w : World} {bx be B p : Nat} {a0 a1 a2 a3 b0 : Value} (h : Res w bx be a0 a1 a2 a3 b0) (T : Tabs w) (hne : ¬ bx = be) (hs : 9 ≤ w.heap.size) (hB1 : B ≤ bx) (hB2 : B ≤ be)
    (tmps : Array Value) (h2 : tmps[2]? = some (.pointer (some ⟨bx, 0, none⟩))) (h3 : tmps[3]? = some (.pointer (some ⟨be, 0, none⟩)))
    (hR : ∀ w', Below B w w' → R (.returned (.tuple #[.agg #[.int .i64 0, .int .i64 0, .slice none 0 0, .slice none 0 0], .int .i64 15])) w') :
    bodyPostD Tryz.prog Tryz.f7 R (Exit.panic [{ v := .iface 43 (.pointer (some ⟨p, 0, none⟩)), recovered := false }]) { tmps := tmps, defers := [{ target := Target.fn (Fn.func 16) #[.pointer (some ⟨bx, 0, none⟩), .pointer (some ⟨be, 0, none⟩)], args := #[] }] } w := by
  refine leaves_cons (f := 16) (args := #[.pointer (some ⟨bx, 0, none⟩), .pointer (some ⟨be, 0, none⟩)]) (by simp) (by simp [go_sem]) ?_
  refine (closure_wrong bx be p B a0 a1 a2 a3 b0 [] w T h.hx h.he hne hs hB1 hB2).mono ?_
  rintro e u' w'' ⟨rfl, rfl, hx, he, hb⟩
  exact ⟨_, res_run (b0 := .int .i64 15) ⟨hx, he⟩ tmps h2 h3, hR w'' hb⟩

end Go.Proofs.YtdfaljcdphbgdaaGreatDoor
