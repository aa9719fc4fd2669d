/- The reader of a line: how its answers leave it. -/
import Derived.Test.YtdfaljcdphbgdaaDoorE
namespace Go.Proofs.YtdfaljcdphbgdaaDoor
set_option linter.unusedVariables false
set_option linter.unusedSimpArgs false
open Go.RowKit Go.Proofs

/-- the two results as they lie in memory -/
structure Res (w : World) (bx be : Nat) (a0 a1 a2 a3 b0 : Value) : Prop where
  hx : w.heap[bx]? = some (.cells #[a0, a1, a2, a3] 26 (0, 0))
  he : w.heap[be]? = some (.cells #[b0] 29 (0, 0))

theorem res_run {w : World} {bx be : Nat} {a0 a1 a2 a3 b0 : Value} (h : Res w bx be a0 a1 a2 a3 b0) (tmps : Array Value) (h2 : tmps[2]? = some (.pointer (some ⟨bx, 0, none⟩))) (h3 : tmps[3]? = some (.pointer (some ⟨be, 0, none⟩))) :
    (results Tryd.f11 tmps).run Tryd.prog w = .ok (.tuple #[.agg #[a0, a1, a2, a3], b0]) w := by
  have x0 := cell_of_heap h.hx 0
  have x1 := cell_of_heap h.hx 1
  have x2 := cell_of_heap h.hx 2
  have x3 := cell_of_heap h.hx 3
  have e0 := cell_of_heap h.he 0
  simp only [List.getElem?_toArray, List.getElem?_cons_zero, List.getElem?_cons_succ] at x0 x1 x2 x3 e0
  simp [results, Tryd.results11, h2, h3, go_sem, x0, x1, x2, x3, e0]

/-- the deferred call -/
def dfr (bx be : Nat) : Deferred := { target := Target.fn (Fn.func 18) #[.pointer (some ⟨bx, 0, none⟩), .pointer (some ⟨be, 0, none⟩)], args := #[] }

theorem door_ret {R : Ending → World → Prop} {w : World} {bx be : Nat} {a0 a1 a2 a3 b0 : Value} (h : Res w bx be a0 a1 a2 a3 b0) (tmps : Array Value) (h2 : tmps[2]? = some (.pointer (some ⟨bx, 0, none⟩))) (h3 : tmps[3]? = some (.pointer (some ⟨be, 0, none⟩)))
    (hR : R (.returned (.tuple #[.agg #[a0, a1, a2, a3], b0])) w) :
    bodyPostD Tryd.prog Tryd.f11 R Exit.ret { tmps := tmps, defers := [{ target := Target.fn (Fn.func 18) #[.pointer (some ⟨bx, 0, none⟩), .pointer (some ⟨be, 0, none⟩)], args := #[] }] } w := by
  refine leaves_cons (f := 18) (args := #[.pointer (some ⟨bx, 0, none⟩), .pointer (some ⟨be, 0, none⟩)]) (by simp) (by simp [go_sem]) ?_
  refine (closure_idle bx be w).mono ?_
  rintro e u' w'' ⟨rfl, rfl, rfl⟩
  exact ⟨_, res_run h tmps h2 h3, hR⟩

theorem door_wrong {R : Ending → World → Prop} {w : World} {bx be B p : Nat} {a0 a1 a2 a3 b0 : Value} (h : Res w bx be a0 a1 a2 a3 b0) (T : Tabs w) (hne : ¬ bx = be) (hs : 9 ≤ w.heap.size) (hB1 : B ≤ bx) (hB2 : B ≤ be)
    (tmps : Array Value) (h2 : tmps[2]? = some (.pointer (some ⟨bx, 0, none⟩))) (h3 : tmps[3]? = some (.pointer (some ⟨be, 0, none⟩)))
    (hR : ∀ w', Below B w w' → R (.returned (.tuple #[.agg #[.int .i64 0, .int .i64 0, .slice none 0 0, .slice none 0 0], .int .i64 15])) w') :
    bodyPostD Tryd.prog Tryd.f11 R (Exit.panic [{ v := .iface 47 (.pointer (some ⟨p, 0, none⟩)), recovered := false }]) { tmps := tmps, defers := [{ target := Target.fn (Fn.func 18) #[.pointer (some ⟨bx, 0, none⟩), .pointer (some ⟨be, 0, none⟩)], args := #[] }] } w := by
  refine leaves_cons (f := 18) (args := #[.pointer (some ⟨bx, 0, none⟩), .pointer (some ⟨be, 0, none⟩)]) (by simp) (by simp [go_sem]) ?_
  refine (closure_wrong bx be p B a0 a1 a2 a3 b0 [] w T h.hx h.he hne hs hB1 hB2).mono ?_
  rintro e u' w'' ⟨rfl, rfl, hx, he, hb⟩
  exact ⟨_, res_run (b0 := .int .i64 15) ⟨hx, he⟩ tmps h2 h3, hR w'' hb⟩

end Go.Proofs.YtdfaljcdphbgdaaDoor
