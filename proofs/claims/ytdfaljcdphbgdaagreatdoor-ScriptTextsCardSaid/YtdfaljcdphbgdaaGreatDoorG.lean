/- Unline: the walk. -/
import Derived.Test.YtdfaljcdphbgdaaGreatDoorC
import Derived.Test.YtdfaljcdphbgdaaGreatDoorF
import Derived.Test.YtdfaljcdphbgdaaGreatDoorPlainC
import Derived.Deep.RegionHeld3
import Derived.Deep.AppendLies
import Derived.Deep.RegionWith
namespace Go.Proofs.YtdfaljcdphbgdaaGreatDoor
set_option linter.unusedVariables false
set_option linter.unusedSimpArgs false
open Go.RowKit Go.Proofs Go.Proofs.YtdfaljcdphbgdaaGreatDoorW.PrintWords Go.Proofs.YtdfaljcdphbgdaaGreatDoorW.PrintLast Go.Proofs.YtdfaljcdphbgdaaGreatDoorW.PrintMore

/-- where the reader of a line stands: what lies in its results, and the words that are left -/
structure St (w0 : World) (bx be bw : Nat) (w : World) (k n : Int) (v2 v3 : Value) (bs : SP.B) (ag : List Int) (l : List ByteArray) : Prop where
  hbx : w0.heap.size = bx
  hbe : be = bx + 1
  hbw : bw = bx + 3
  hb9 : 9 ≤ bx
  res : Res w bx be (.int .i64 k) (.int .i64 n) v2 v3 (.int .i64 0)
  wd : Wd w bw l
  tabs : Tabs w
  below : Below bx w0 w
  r2 : (Kd.int .u8).R 5 w (bw + 1) (fun _ => True) v2 (SP.nums8 bs)
  r3 : (Kd.int .i64).R 3 w (bw + 1) (fun _ => True) v3 ag

section
variable {w0 w w1 : World} {bx be bw : Nat} {k n : Int} {v2 v3 : Value} {bs : SP.B} {ag : List Int} {l l' : List ByteArray}
theorem St.lt (h : St w0 bx be bw w k n v2 v3 bs ag l) : bw < w.heap.size := by
  obtain ⟨⟨bs, off, hc, _, _⟩, _⟩ := h.wd
  exact World.block_lt_of_cell? _ _ hc

theorem St.grown (h : St w0 bx be bw w k n v2 v3 bs ag l) (hg : w.grownBy w1 (some bw)) (hw : Wd w1 bw l') : St w0 bx be bw w1 k n v2 v3 bs ag l' := by
  have hl := h.lt
  have e1 := h.hbe; have e2 := h.hbw; have e3 := h.hb9
  refine ⟨h.hbx, h.hbe, h.hbw, h.hb9, ⟨(hg.block _ (by omega) (by simp; omega)).trans h.res.hx, (hg.block _ (by omega) (by simp; omega)).trans h.res.he⟩, hw, h.tabs.grown (b := bw) (by omega) (by omega) hg, ?_, ?_, ?_⟩
  · exact ⟨hg.os.trans h.below.os, hg.tape.trans h.below.tape, hg.output.trans h.below.output, Nat.le_trans h.below.size hg.size, fun i hi => (hg.block i (by omega) (by simp; omega)).trans (h.below.block i hi)⟩
  · exact Kd.R_mono (Kd.R_grown (Kd.R_bound h.r2) hg (fun k hk => by have := hk.2.1; simp; omega)) (fun _ _ => trivial)
  · exact Kd.R_mono (Kd.R_grown (Kd.R_bound h.r3) hg (fun k hk => by have := hk.2.1; simp; omega)) (fun _ _ => trivial)

theorem St.out (h : St w0 bx be bw w k n v2 v3 bs ag l) (hb : Below w.heap.size w w1) : St w0 bx be bw w1 k n v2 v3 bs ag l := h.grown (grown_below hb _) (h.wd.below hb)

/-- a deed is laid into the result -/
theorem St.put (h : St w0 bx be bw w k n v2 v3 bs ag l) {k' n' : Int} {v2' v3' : Value} {bs' : SP.B} {ag' : List Int} (r2 : (Kd.int .u8).R 5 w (bw + 1) (fun _ => True) v2' (SP.nums8 bs')) (r3 : (Kd.int .i64).R 3 w (bw + 1) (fun _ => True) v3' ag') :
    St w0 bx be bw ((((w.setCell ⟨bx, 0, none⟩ (.int .i64 k')).setCell ⟨bx, 1, none⟩ (.int .i64 n')).setCell ⟨bx, 2, none⟩ v2').setCell ⟨bx, 3, none⟩ v3') k' n' v2' v3' bs' ag' l := by
  have hx1 := heap_setCell_at (((w.setCell ⟨bx, 0, none⟩ (.int .i64 k')).setCell ⟨bx, 1, none⟩ (.int .i64 n')).setCell ⟨bx, 2, none⟩ v2') bx 3 _ _ v3' (heap_setCell_at ((w.setCell ⟨bx, 0, none⟩ (.int .i64 k')).setCell ⟨bx, 1, none⟩ (.int .i64 n')) bx 2 _ _ v2' (heap_setCell_at (w.setCell ⟨bx, 0, none⟩ (.int .i64 k')) bx 1 _ _ (.int .i64 n') (heap_setCell_at w bx 0 _ _ (.int .i64 k') h.res.hx)))
  have hb : ∀ i, i ≠ bx → ((((w.setCell ⟨bx, 0, none⟩ (.int .i64 k')).setCell ⟨bx, 1, none⟩ (.int .i64 n')).setCell ⟨bx, 2, none⟩ v2').setCell ⟨bx, 3, none⟩ v3').heap[i]? = w.heap[i]? := by
    intro i hi
    rw [Below.heap_setCell _ _ _ _ hi, Below.heap_setCell _ _ _ _ hi, Below.heap_setCell _ _ _ _ hi, Below.heap_setCell _ _ _ _ hi]
  generalize hw1 : ((((w.setCell ⟨bx, 0, none⟩ (.int .i64 k')).setCell ⟨bx, 1, none⟩ (.int .i64 n')).setCell ⟨bx, 2, none⟩ v2').setCell ⟨bx, 3, none⟩ v3') = w1 at hx1 hb
  have hl := h.lt
  have e1 := h.hbe; have e2 := h.hbw; have e3 := h.hb9
  have hs : w1.heap.size = w.heap.size := by rw [← hw1]; simp [World.setCell]
  have hg : w.grownBy w1 (some bx) := ⟨by rw [← hw1]; rfl, by rw [← hw1]; rfl, by rw [← hw1]; rfl, by omega, fun i _ hn => hb i (by simpa using hn)⟩
  refine ⟨h.hbx, h.hbe, h.hbw, h.hb9, ⟨hx1.trans (by rfl), (hb _ (by omega)).trans h.res.he⟩, ?_, h.tabs.grown (b := bx) (by omega) (by omega) hg, ?_, ?_, ?_⟩
  · obtain ⟨⟨b, off, hc, hn, hx⟩, hf⟩ := h.wd
    have hcc : ∀ a : Addr, a.block ≠ bx → w1.cell? a = w.cell? a := fun a ha => by simp only [World.cell?, hb a.block ha]
    refine ⟨⟨b, off, (hcc _ (by show bw ≠ bx; omega)).trans hc, hn, fun j x hj => ?_⟩, by simp only [World.frozen?, hb bw (by omega)]; exact hf⟩
    by_cases hbb : b = bx
    · have h1 := hx j x hj
      subst hbb
      exfalso
      rw [cell_of_heap h.res.hx] at h1
      rcases hoj : off + j with _ | _ | _ | _ | m <;> rw [hoj] at h1 <;> simp at h1
      · obtain ⟨A, c, e⟩ := Kd.R_slice h.r2; rw [e] at h1; cases h1
      · obtain ⟨A, c, e⟩ := Kd.R_slice h.r3; rw [e] at h1; cases h1
    · exact (hcc _ hbb).trans (hx j x hj)
  · exact ⟨hg.os.trans h.below.os, hg.tape.trans h.below.tape, hg.output.trans h.below.output, Nat.le_trans h.below.size hg.size, fun i hi => (hg.block i (by omega) (by simp; omega)).trans (h.below.block i hi)⟩
  · exact Kd.R_mono (Kd.R_grown (Kd.R_bound r2) hg (fun k hk => by have := hk.2.1; simp; omega)) (fun _ _ => trivial)
  · exact Kd.R_mono (Kd.R_grown (Kd.R_bound r3) hg (fun k hk => by have := hk.2.1; simp; omega)) (fun _ _ => trivial)
end

/-- what is told of a line -/
def told (s : SP.B) : SP.Deed × Int := match SP.unline s with | some x => (x, 0) | none => (⟨0, 0, [], []⟩, 15)

def UPost (w0 : World) (s : SP.B) (e : Ending) (w : World) : Prop :=
  ∃ v2 v3, e = .returned (.tuple #[.agg #[.int .i64 (told s).1.kind, .int .i64 (told s).1.n, v2, v3], .int .i64 (told s).2]) ∧
    (Kd.int .u8).R 5 w w0.heap.size (fun _ => True) v2 (SP.nums8 (told s).1.bytes) ∧ (Kd.int .i64).R 3 w w0.heap.size (fun _ => True) v3 (told s).1.again ∧ Below w0.heap.size w0 w

theorem UPost.none {w0 w : World} {s : SP.B} (h : SP.unline s = none) (hb : Below w0.heap.size w0 w) : UPost w0 s (.returned (.tuple #[.agg #[.int .i64 0, .int .i64 0, .slice none 0 0, .slice none 0 0], .int .i64 15])) w := by
  unfold UPost told
  rw [h]
  exact ⟨_, _, rfl, Kd.R_nil _ _ _ _ _, Kd.R_nil _ _ _ _ _, hb⟩
theorem UPost.some {w0 w : World} {s : SP.B} {x : SP.Deed} {v2 v3 : Value} {b : Nat} (h : SP.unline s = some x) (hb : Below w0.heap.size w0 w) (hle : w0.heap.size ≤ b)
    (r2 : (Kd.int .u8).R 5 w b (fun _ => True) v2 (SP.nums8 x.bytes)) (r3 : (Kd.int .i64).R 3 w b (fun _ => True) v3 x.again) :
    UPost w0 s (.returned (.tuple #[.agg #[.int .i64 x.kind, .int .i64 x.n, v2, v3], .int .i64 0])) w := by
  unfold UPost told
  rw [h]
  exact ⟨_, _, rfl, Kd.R_lower r2 hle, Kd.R_lower r3 hle, hb⟩

theorem St.wrong {w0 w : World} {bx be bw p : Nat} {k n : Int} {v2 v3 : Value} {bs : SP.B} {ag : List Int} {l : List ByteArray} (h : St w0 bx be bw w k n v2 v3 bs ag l) {s : SP.B} (hn : SP.unline s = none)
    (tmps : Array Value) (h2 : tmps[2]? = some (.pointer (some ⟨bx, 0, none⟩))) (h3 : tmps[3]? = some (.pointer (some ⟨be, 0, none⟩))) :
    bodyPostD Tryz.prog Tryz.f7 (UPost w0 s) (Exit.panic [{ v := .iface 43 (.pointer (some ⟨p, 0, none⟩)), recovered := false }]) { tmps := tmps, defers := [{ target := Target.fn (Fn.func 16) #[.pointer (some ⟨bx, 0, none⟩), .pointer (some ⟨be, 0, none⟩)], args := #[] }] } w := by
  have e1 := h.hbe; have e2 := h.hbw; have e3 := h.hb9; have e4 := h.hbx; have e5 := h.lt
  refine door_wrong h.res h.tabs (B := bx) (by omega) (by omega) (by omega) (by omega) tmps h2 h3 fun w' hb => UPost.none hn ?_
  rw [e4]
  exact h.below.trans hb

theorem St.right {w0 w : World} {bx be bw : Nat} {k n : Int} {v2 v3 : Value} {bs : SP.B} {ag : List Int} {l : List ByteArray} (h : St w0 bx be bw w k n v2 v3 bs ag l) {s : SP.B} (hu : SP.unline s = Option.some ⟨k, n, bs, ag⟩)
    (tmps : Array Value) (h2 : tmps[2]? = some (.pointer (some ⟨bx, 0, none⟩))) (h3 : tmps[3]? = some (.pointer (some ⟨be, 0, none⟩))) :
    bodyPostD Tryz.prog Tryz.f7 (UPost w0 s) Exit.ret { tmps := tmps, defers := [{ target := Target.fn (Fn.func 16) #[.pointer (some ⟨bx, 0, none⟩), .pointer (some ⟨be, 0, none⟩)], args := #[] }] } (w.setCell ⟨be, 0, none⟩ (.int .i64 0)) := by
  have e1 := h.hbe; have e2 := h.hbw; have e3 := h.hb9; have e4 := h.hbx; have e5 := h.lt
  have hg := grown_set w be 0 (.int .i64 0)
  refine door_ret (a0 := .int .i64 k) (a1 := .int .i64 n) (a2 := v2) (a3 := v3) (b0 := .int .i64 0) ⟨(Below.heap_setCell _ _ _ _ (by show bx ≠ be; omega)).trans h.res.hx, (heap_setCell_at _ _ _ _ _ _ h.res.he).trans (by rfl)⟩ tmps h2 h3 ?_
  refine UPost.some (b := bw + 1) hu ?_ (by omega) ?_ ?_
  · rw [e4]; exact h.below.setCell (by show bx ≤ be; omega) _
  · exact Kd.R_mono (Kd.R_grown (Kd.R_bound h.r2) hg (fun k hk => by have := hk.2.1; simp; omega)) (fun _ _ => trivial)
  · exact Kd.R_mono (Kd.R_grown (Kd.R_bound h.r3) hg (fun k hk => by have := hk.2.1; simp; omega)) (fun _ _ => trivial)

/-- a reader that ended wrongly -/
theorem St.wrong' {w0 w w1 : World} {bx be bw p : Nat} {k n : Int} {v2 v3 : Value} {bs : SP.B} {ag : List Int} {l : List ByteArray} (h : St w0 bx be bw w k n v2 v3 bs ag l) (hg : w.grownBy w1 (Option.some bw)) {s : SP.B} (hn : SP.unline s = Option.none)
    (tmps : Array Value) (h2 : tmps[2]? = some (.pointer (some ⟨bx, 0, none⟩))) (h3 : tmps[3]? = some (.pointer (some ⟨be, 0, none⟩))) :
    bodyPostD Tryz.prog Tryz.f7 (UPost w0 s) (Exit.panic [{ v := .iface 43 (.pointer (some ⟨p, 0, none⟩)), recovered := false }]) { tmps := tmps, defers := [{ target := Target.fn (Fn.func 16) #[.pointer (some ⟨bx, 0, none⟩), .pointer (some ⟨be, 0, none⟩)], args := #[] }] } w1 := by
  have e1 := h.hbe; have e2 := h.hbw; have e3 := h.hb9; have e4 := h.hbx; have e5 := h.lt; have e6 := hg.size
  have hr : Res w1 bx be (.int .i64 k) (.int .i64 n) v2 v3 (.int .i64 0) := ⟨(hg.block _ (by omega) (by simp; omega)).trans h.res.hx, (hg.block _ (by omega) (by simp; omega)).trans h.res.he⟩
  refine door_wrong hr (h.tabs.grown (b := bw) (by omega) (by omega) hg) (B := bx) (by omega) (by omega) (by omega) (by omega) tmps h2 h3 fun w' hb => UPost.none hn ?_
  rw [e4]
  have hbb : Below bx w0 w1 := ⟨hg.os.trans h.below.os, hg.tape.trans h.below.tape, hg.output.trans h.below.output, Nat.le_trans h.below.size hg.size, fun i hi => (hg.block i (by omega) (by simp; omega)).trans (h.below.block i hi)⟩
  exact hbb.trans hb

/-- the bytes that a reader handed back -/
theorem BytesR {w0 w w1 : World} {bx be bw : Nat} {k n : Int} {v2 v3 : Value} {bs0 : SP.B} {ag : List Int} {l : List ByteArray} (h : St w0 bx be bw w k n v2 v3 bs0 ag l) {bs : SP.B} {e : Ending} (hlen : bs.length ≤ 2000000) (hg : w.grownBy w1 (Option.some bw))
    (hc : (bs = [] ∧ e = .returned (.slice none 0 0)) ∨ ∃ g, w.heap.size ≤ g ∧ e = .returned (.slice (some ⟨g, 0, Option.none⟩) bs.length bs.length) ∧ w1.heap[g]? = some (.cells (bs.map fun b => Value.int .u8 b.toNat).toArray 5 (0, 0))) :
    ∃ v, e = .returned v ∧ (Kd.int .u8).R 5 w1 (bw + 1) (fun _ => True) v (SP.nums8 bs) := by
  rcases hc with ⟨rfl, rfl⟩ | ⟨g, hge, rfl, hh⟩
  · exact ⟨_, rfl, Kd.R_nil _ _ _ _ _⟩
  · have hl := h.lt
    have e1 : (SP.nums8 bs).length = bs.length := by simp [SP.nums8]
    refine ⟨_, rfl, Kd.R_of_own (enc := Value.int .u8) ⟨by simp [encs], .inr ⟨g, bs.length, _, by rw [e1], by omega, hh, by rw [e1]; exact Nat.le_refl _, by unfold maxLen; omega, by simp, ?_⟩⟩ (fun _ _ => trivial)⟩
    rw [e1]
    simp only [encs, SP.nums8, List.map_map, Function.comp_def, Nat.mul_one]
    exact List.take_of_length_le (by simp)

/-- within the loop over a crash's numbers -/
def CrI (w0 : World) (bx be bw : Nat) (bs : SP.B) (t : List ByteArray) (w : World) : Prop :=
  ∃ (v2 v3 : Value) (ag : List Int) (rest : List ByteArray), St w0 bx be bw w 3 0 v2 v3 bs ag rest ∧
    SP.nums (t.map fun y => y.data.toList) = (SP.nums (rest.map fun y => y.data.toList)).map (ag ++ ·) ∧ (∀ y ∈ rest, y ∈ t) ∧ rest.length + ag.length ≤ t.length

/-- how many words are left, as the world says it -/
def leftAt (w : World) (bw : Nat) : Nat := match w.cell? ⟨bw, 0, Option.none⟩ with | Option.some (.slice _ n _) => n | _ => 0

/-- what was appended is laid into the result -/
theorem St.push {w0 w w1 : World} {bx be bw : Nat} {k n : Int} {v2 v3 v : Value} {bs : SP.B} {ag ag' : List Int} {l : List ByteArray} (h : St w0 bx be bw w k n v2 v3 bs ag l) (hg : w.grownBy w1 v3.ownBlock) (r3' : (Kd.int .i64).R 3 w1 (bw + 1) (fun _ => True) v ag') :
    St w0 bx be bw (w1.setCell ⟨bx, 3, Option.none⟩ v) k n v2 v bs ag' l := by
  have hl := h.lt
  have e1 := h.hbe; have e2 := h.hbw; have e3 := h.hb9; have e4 := h.hbx; have e6 := hg.size
  have hbase : ∀ i, i ≤ bw → Option.some i ≠ v3.ownBlock := fun i hi e => by
    have := Kd.R_base h.r3 i e.symm; omega
  have hx1 := (hg.block bx (by omega) (hbase _ (by omega))).trans h.res.hx
  have he1 := (hg.block be (by omega) (hbase _ (by omega))).trans h.res.he
  have hr2 := Kd.R_over h.r2 h.r3 (by simp [Kd.int, Kd.scalar]) hg
  have hg2 := grown_set w1 bx 3 v
  have hlo : ∀ i, i ≤ bw → i ≠ bx → (w1.setCell ⟨bx, 3, Option.none⟩ v).heap[i]? = w.heap[i]? := fun i hi hn => (Below.heap_setCell _ _ _ _ hn).trans (hg.block i (by omega) (hbase i hi))
  refine ⟨h.hbx, h.hbe, h.hbw, h.hb9, ⟨(heap_setCell_at _ _ _ _ _ v hx1).trans (by rfl), (hlo be (by omega) (by omega)).trans h.res.he⟩, ?_, ?_, ?_, ?_, ?_⟩
  · obtain ⟨⟨b, off, hc, hn, hx⟩, hf⟩ := h.wd
    have hcc : ∀ a : Addr, a.block ≤ bw → a.block ≠ bx → (w1.setCell ⟨bx, 3, Option.none⟩ v).cell? a = w.cell? a := fun a ha hb => by simp only [World.cell?, hlo a.block ha hb]
    refine ⟨⟨b, off, (hcc _ (Nat.le_refl _) (by show bw ≠ bx; omega)).trans hc, hn, fun j x hj => ?_⟩, by simp only [World.frozen?, hlo bw (Nat.le_refl _) (by omega)]; exact hf⟩
    by_cases hbb : b = bx
    · have h1 := hx j x hj
      subst hbb
      exfalso
      rw [cell_of_heap h.res.hx] at h1
      rcases hoj : off + j with _ | _ | _ | _ | m <;> rw [hoj] at h1 <;> simp at h1
      · obtain ⟨A, c, e⟩ := Kd.R_slice h.r2; rw [e] at h1; cases h1
      · obtain ⟨A, c, e⟩ := Kd.R_slice h.r3; rw [e] at h1; cases h1
    · exact (hcc ⟨b, off + j, Option.none⟩ (by show b ≤ bw; omega) hbb).trans (hx j x hj)
  · refine h.tabs.below (B := 9) (Nat.le_refl _) ⟨hg.os, hg.tape, hg.output, ?_, fun i hi => hlo i (by omega) (by omega)⟩
    simp [World.setCell]; omega
  · refine ⟨hg.os.trans h.below.os, hg.tape.trans h.below.tape, hg.output.trans h.below.output, ?_, fun i hi => (hlo i (by omega) (by omega)).trans (h.below.block i hi)⟩
    have := h.below.size
    simp [World.setCell]; omega
  · exact Kd.R_mono (Kd.R_grown (Kd.R_bound hr2) hg2 (fun k hk => by have := hk.2.1; simp; omega)) (fun _ _ => trivial)
  · exact Kd.R_mono (Kd.R_grown (Kd.R_bound r3') hg2 (fun k hk => by have := hk.2.1; simp; omega)) (fun _ _ => trivial)

theorem leftAt_of {w : World} {bw : Nat} {l : List ByteArray} (h : Wd w bw l) : leftAt w bw = l.length := by
  obtain ⟨⟨b, off, hc, _, _⟩, _⟩ := h
  unfold leftAt
  rw [hc]

theorem StepSt {w0 wr w3 w4 : World} {bx be bw : Nat} {k m n : Int} {v2 v3 : Value} {bs : SP.B} {ag : List Int} {l rest : List ByteArray} {gg cap : Nat} (H : St w0 bx be bw wr k m v2 v3 bs ag l)
    (hg : wr.drew.grownBy w3 (some bw)) (hw3 : Wd w3 bw rest) (hg2 : wr.grownBy w3 (some bw)) (hgrow : (w3.alloc (Obj.cells #[Value.int IntKind.i64 n] 3)).grownBy w4 v3.ownBlock)
    (hown : w4.ownsRow (bw + 1) 3 1 (Value.slice (some { block := gg, off := 0 }) (ag.length + 1) cap) (ag.length + 1) (encs (Value.int IntKind.i64) ag ++ [Value.int IntKind.i64 n])) :
    St w0 bx be bw (w4.setCell { block := bx, off := 3 } (Value.slice (some { block := gg, off := 0 }) (ag.length + 1) cap)) k m v2 (Value.slice (some { block := gg, off := 0 }) (ag.length + 1) cap) bs (ag ++ [n]) rest := by
  refine ((H.grown hg2 hw3).out ((Below.refl _ _).alloc (Nat.le_refl _) _)).push hgrow (Kd.R_of_own (enc := Value.int .i64) ?_ (fun _ _ => trivial))
  simpa [encs] using hown

theorem intInfo : (Tryz.prog.info? 3).map (fun i => (i.zero, i.size, i.bytes)) = some (some (.int .i64 0), 1, 8) := by kernel_rfl

theorem alloc4 (w : World) (o1 o2 o3 o4 : Obj) : ((((w.alloc o1).alloc o2).alloc o3).alloc o4).heap[w.heap.size]? = some o1 ∧ ((((w.alloc o1).alloc o2).alloc o3).alloc o4).heap[w.heap.size + 1]? = some o2 ∧
    ((((w.alloc o1).alloc o2).alloc o3).alloc o4).heap[w.heap.size + 1 + 1]? = some o3 ∧ ((((w.alloc o1).alloc o2).alloc o3).alloc o4).heap[w.heap.size + 1 + 1 + 1]? = some o4 := by
  have n1 := heap_alloc_new w o1
  have n2 := heap_alloc_new (w.alloc o1) o2
  have n3 := heap_alloc_new ((w.alloc o1).alloc o2) o3
  have n4 := heap_alloc_new (((w.alloc o1).alloc o2).alloc o3) o4
  simp only [World.size_alloc] at n2 n3 n4
  have h : ∀ (v : World) (o : Obj) (i : Nat), i < v.heap.size → (v.alloc o).heap[i]? = v.heap[i]? := fun v o i hi => Below.heap_alloc v o i hi
  refine ⟨?_, ?_, ?_, n4⟩
  · rw [h _ _ _ (by simp only [World.size_alloc]; omega), h _ _ _ (by simp only [World.size_alloc]; omega), h _ _ _ (by simp only [World.size_alloc]; omega), n1]
  · rw [h _ _ _ (by simp only [World.size_alloc]; omega), h _ _ _ (by simp only [World.size_alloc]; omega), n2]
  · rw [h _ _ _ (by simp only [World.size_alloc]; omega), n3]

set_option maxHeartbeats 2000000 in
set_option maxRecDepth 100000 in
theorem walk (s : ByteArray) (w : World) (T : Tabs w) (h0 : 9 ≤ w.heap.size) (hsz : s.size ≤ 1500000) :
    Calls Tryz.prog 7 #[.string s] w (UPost w s.data.toList) := by
  go_enter_defers Tryz.func7, Tryz.ntmps7
  go_wp2_with fail
  obtain ⟨m, hm⟩ := T.mx
  refine (Tryz.strings_Split s ⟨#[32]⟩ m _ (by omega) ?_ (by decide)).mono ?_
  · rw [World.cell?_alloc_lt _ _ ⟨1, 0, none⟩ (by simp; omega), World.cell?_alloc_lt _ _ ⟨1, 0, none⟩ (show _ < w.heap.size by simp; omega)]; exact hm
  rintro e w1 ⟨rfl, rfl⟩
  clear hm
  go_wp2_with fail
  have HS0 : St w w.heap.size (w.heap.size + 1) (w.heap.size + 1 + 1 + 1) (((((w.alloc (Obj.cells #[Value.int IntKind.i64 0, Value.int IntKind.i64 0, Value.slice none 0 0, Value.slice none 0 0] 27)).alloc (Obj.cells #[Value.int IntKind.i64 0] 28)).alloc
          (Obj.cells (List.map Value.string (Lib.splitB { data := #[32] } 0 (Lib.countB s { data := #[32] }) s)).toArray 9)).alloc
      (Obj.cells #[Value.slice (some { block := w.heap.size + 1 + 1, off := 0 }) (Lib.countB s { data := #[32] } + 1) (Lib.countB s { data := #[32] } + 1)] 47))) 0 0 (.slice none 0 0) (.slice none 0 0) [] [] (SP.pieces 32 s) := by
    have hb := (((((Below.refl w.heap.size w).alloc (Nat.le_refl _) (Obj.cells #[Value.int IntKind.i64 0, Value.int IntKind.i64 0, Value.slice none 0 0, Value.slice none 0 0] 27)).alloc (by simp) (Obj.cells #[Value.int IntKind.i64 0] 28)).alloc (by simp; omega)
          (Obj.cells (List.map Value.string (Lib.splitB { data := #[32] } 0 (Lib.countB s { data := #[32] }) s)).toArray 9)).alloc (by simp; omega)
      (Obj.cells #[Value.slice (some { block := w.heap.size + 1 + 1, off := 0 }) (Lib.countB s { data := #[32] } + 1) (Lib.countB s { data := #[32] } + 1)] 47))
    have A4 := alloc4 w (Obj.cells #[Value.int IntKind.i64 0, Value.int IntKind.i64 0, Value.slice none 0 0, Value.slice none 0 0] 27) (Obj.cells #[Value.int IntKind.i64 0] 28)
      (Obj.cells (List.map Value.string (Lib.splitB { data := #[32] } 0 (Lib.countB s { data := #[32] }) s)).toArray 9)
      (Obj.cells #[Value.slice (some { block := w.heap.size + 1 + 1, off := 0 }) (Lib.countB s { data := #[32] } + 1) (Lib.countB s { data := #[32] } + 1)] 47)
    refine ⟨rfl, rfl, by omega, h0, ⟨?_, ?_⟩, ⟨⟨w.heap.size + 1 + 1, 0, ?_, by omega, ?_⟩, ?_⟩, T.below h0 hb, hb, Kd.R_nil _ _ _ _ _, Kd.R_nil _ _ _ _ _⟩
    · exact A4.1
    · exact A4.2.1
    · rw [SP.pieces_length]
      exact cell_of_heap A4.2.2.2 0
    · intro j x hj
      refine (cell_of_heap A4.2.2.1 _).trans ?_
      show (List.map Value.string (SP.pieces 32 s)).toArray[0 + j]? = _
      simp [hj]
    · exact frozen_of_heap A4.2.2.2 0
  generalize hw1 : ((((w.alloc (Obj.cells #[Value.int IntKind.i64 0, Value.int IntKind.i64 0, Value.slice none 0 0, Value.slice none 0 0] 27)).alloc (Obj.cells #[Value.int IntKind.i64 0] 28)).alloc
          (Obj.cells (List.map Value.string (Lib.splitB { data := #[32] } 0 (Lib.countB s { data := #[32] }) s)).toArray 9)).alloc
      (Obj.cells #[Value.slice (some { block := w.heap.size + 1 + 1, off := 0 }) (Lib.countB s { data := #[32] } + 1) (Lib.countB s { data := #[32] } + 1)] 47)) = w1 at HS0 ⊢
  generalize hs7 : (Value.slice (some { block := w.heap.size + 1 + 1, off := 0 }) (Lib.countB s { data := #[32] } + 1) (Lib.countB s { data := #[32] } + 1)) = s7 at *
  generalize hbw : w.heap.size + 1 + 1 + 1 = bw at *
  generalize hbe : w.heap.size + 1 = be at *
  generalize hbx : w.heap.size = bx at *
  have hl := SP.pieces_cut 32 s
  have hn1 := SP.cut_length 32 s.data.toList
  have hn2 := SP.cut_each 32 s.data.toList
  have hcne := SP.cut_ne 32 s.data.toList
  have HU := Lib.hid (show SP.unline s.data.toList = (SP.read (SP.cut 32 s.data.toList)).filter SP.may from rfl)
  have hsl : s.data.toList.length = s.size := Array.length_toList
  rw [hsl] at hn1 hn2
  generalize hls : SP.pieces 32 s = ls at HS0 hl
  generalize hcs : SP.cut 32 s.data.toList = cs at hl hn1 hn2 HU hcne
  generalize hsd : s.data.toList = sd at *
  have HS := Lib.hid HS0
  clear HS0 hw1 hs7 hls hcs
  rename_i K2 K1 K0 a3 a2 a1
  have TAIL : ∀ (w1 : World) (k n : Int) (v2 v3 : Value) (bs : SP.B) (ag : List Int) (l : List ByteArray), St w bx be bw w1 k n v2 v3 bs ag l → (l = [] → SP.unline sd = if SP.may ⟨k, n, bs, ag⟩ = true then some ⟨k, n, bs, ag⟩ else none) → (l ≠ [] → SP.unline sd = none) →
      ∀ t5 t6 t7 t8 t9 t10 t11 t12 t13 t14 t15 t16 t17 t18 t19 t20 t21 t22 t23 t24 t25 t26 t27 t28 t29 t30 t31 t32 t33 : Value, K2 { tmps := #[Value.string s, undef, Value.pointer (some { block := bx, off := 0 }), Value.pointer (some { block := be, off := 0 }), Value.pointer (some { block := bw, off := 0 }), t5, t6, t7, t8, t9, t10, t11, t12, t13, t14, t15, t16, t17, t18, t19, t20, t21, t22, t23, t24, t25, t26, t27, t28, t29, t30, t31, t32, t33, undef, undef, undef, undef, undef, undef, undef, undef, undef, undef, undef, undef], defers := [{ target := Target.fn (Fn.func 16) #[Value.pointer (some { block := bx, off := 0 }), Value.pointer (some { block := be, off := 0 })], args := #[] }] } w1 := by
    clear HS HU hl hn1 hn2 a2 a1 T
    intro w1 k n v2 v3 bs ag l H hu1 hu2 t5 t6 t7 t8 t9 t10 t11 t12 t13 t14 t15 t16 t17 t18 t19 t20 t21 t22 t23 t24 t25 t26 t27 t28 t29 t30 t31 t32 t33
    refine a3 _ _ ?_
    clear a3
    have x0 := cell_of_heap H.res.hx 0
    have x1 := cell_of_heap H.res.hx 1
    have x2 := cell_of_heap H.res.hx 2
    have x3 := cell_of_heap H.res.hx 3
    have e0 := cell_of_heap H.res.he 0
    have fx := frozen_of_heap H.res.hx
    have fe := frozen_of_heap H.res.he
    simp only [List.getElem?_toArray, List.getElem?_cons_zero, List.getElem?_cons_succ] at x0 x1 x2 x3 e0
    obtain ⟨b, off, hc, _, _⟩ := H.wd.ex
    cases l with
    | cons y ys =>
      have hu := hu2 (by simp)
      have HH := Lib.hid H
      simp only [List.length_cons] at hc
      clear hu1 hu2 H
      go_wp2
      exact St.wrong (HH.out.out ((Below.refl _ _).alloc (Nat.le_refl _) _)) hu _ rfl rfl
    | nil =>
      have hu := hu1 rfl
      obtain ⟨A2, c2, rfl⟩ := Kd.R_slice H.r2
      obtain ⟨A3, c3, rfl⟩ := Kd.R_slice H.r3
      have q2 := Kd.R_reads' H.r2
      have q3 := Kd.R_reads' H.r3
      have HM := Lib.hid (fun W (hb : Below w1.heap.size w1 W) => PRef.script_May.calls 20 k n A2 c2 (SP.nums8 bs) A3 c3 ag _ W (Kd.C_below q2.2.2 hb) q2.2.1 (Kd.C_below q3.2.2 hb) q3.2.1 (SP.may_printed ⟨k, n, bs, ag⟩))
      have HH := Lib.hid H
      simp only [List.length_nil] at hc
      clear hu1 hu2 H q2 q3
      go_wp2_with fail
      refine (HM.out _ (Below.refl _ _)).mono ?_
      rintro e w2 ⟨rfl, b2⟩
      have H2 := HH.out.out b2
      clear b2 x0 x1 x2 x3 e0 fx fe hc HM
      have x0 := cell_of_heap H2.res.hx 0
      have x1 := cell_of_heap H2.res.hx 1
      have x2 := cell_of_heap H2.res.hx 2
      have x3 := cell_of_heap H2.res.hx 3
      have e0 := cell_of_heap H2.res.he 0
      have fx := frozen_of_heap H2.res.hx
      have fe := frozen_of_heap H2.res.he
      simp only [List.getElem?_toArray, List.getElem?_cons_zero, List.getElem?_cons_succ] at x0 x1 x2 x3 e0
      have HH2 := Lib.hid H2
      clear H2
      cases hm : SP.may ⟨k, n, bs, ag⟩
      · rw [hm] at hu
        simp only [Bool.false_eq_true, if_false] at hu
        go_wp2
        exact St.wrong (HH2.out.out ((Below.refl _ _).alloc (Nat.le_refl _) _)) hu _ rfl rfl
      · rw [hm] at hu
        simp only [if_true] at hu
        go_wp2
        exact St.right (HH2.out.put HH2.out.r2 HH2.out.r3) hu _ rfl rfl
  have TAILH := Lib.hid @TAIL
  clear TAIL a3
  subst hl
  cases ls with
  | nil =>
    exact absurd rfl hcne
  | cons x r =>
    simp only [List.map_cons, List.length_cons, List.length_map] at hn1
    have hxs : x.data.toList.length ≤ s.size := hn2 _ (by simp)
    have hrs : ∀ y ∈ r, y.size ≤ 2000000 := fun y hy => by
      have h1 := hn2 y.data.toList (by simp only [List.map_cons, List.mem_cons, List.mem_map]; exact .inr ⟨y, hy, rfl⟩)
      have h2 : y.data.toList.length = y.size := Array.length_toList
      omega
    have hrl : r.length ≤ 1500001 := by omega
    clear hn1 hn2 hxs
    refine (next_some w1 bw x r HS.out.wd (by omega)).mono ?_
    rintro e w2 ⟨rfl, hw2, g2⟩
    have H2 := Lib.hid (HS.out.grown g2 hw2)
    clear HS hw2 g2
    have hxx : x.toList = x.data.toList := toList_data x
    clear hcne
    by_cases hf : x.data.toList = SP.wFeed
    · have q1 : (x.toList == [102, 101, 101, 100]) = true := by rw [hxx, hf]; rfl
      have hu : ∀ t, SP.read (x.data.toList :: t) = _ := SP.read_feed hf
      have HU2 := Lib.hid (HU.out.trans (congrArg (Option.filter SP.may) (hu (List.map (fun y : ByteArray => y.data.toList) r))))
      clear hxx hf HU hu
      cases r with
      | nil =>
        go_wp2_with fail
        refine (number_none w2 bw H2.out.wd).mono ?_
        rintro e w3 ⟨p, hp1, hp2, rfl, hg⟩
        have G3 := Lib.hid hg
        clear hg
        go_wp2
        exact H2.out.wrong' G3.out HU2.out _ rfl rfl
      | cons a t =>
        have ha := hrs a (by simp)
        cases hn : SP.numOf a.data.toList with
        | none =>
          have hu3 : SP.unline sd = none := by
            rw [HU2.out]
            rcases t with _ | ⟨b, _ | ⟨c, u⟩⟩ <;> simp [hn]
          have HN := Lib.hid (number_bad w2 bw a t H2.out.wd (by simp at hrl; omega) ha H2.out.tabs (by have := H2.out.hb9; have := H2.out.hbw; omega) (by have := H2.out.lt; have := H2.out.hb9; have := H2.out.hbw; omega) hn)
          have HU3 := Lib.hid hu3
          clear hu3 HU2 hn
          go_wp2_with fail
          refine HN.out.mono ?_
          rintro e w3 ⟨p, hp1, hp2, rfl, hg⟩
          have G3 := Lib.hid hg
          clear hg
          go_wp2
          exact H2.out.wrong' G3.out HU3.out _ rfl rfl
        | some n =>
          have HN := Lib.hid (number_ok w2 bw a t n H2.out.wd (by simp at hrl; omega) ha H2.out.tabs (by have := H2.out.hb9; have := H2.out.hbw; omega) (by have := H2.out.lt; have := H2.out.hb9; have := H2.out.hbw; omega) hn)
          go_wp2_with fail
          refine HN.out.mono ?_
          rintro e w3 ⟨rfl, hw3, hg⟩
          have H3 := Lib.hid (H2.out.grown hg hw3)
          clear hg hw3 HN H2
          cases t with
          | nil =>
            have hu3 : SP.unline sd = none := by rw [HU2.out]; rfl
            have HU3 := Lib.hid hu3
            clear hu3 HU2 hn
            go_wp2_with fail
            refine (bytes_none w3 bw H3.out.wd).mono ?_
            rintro e w4 ⟨p, hp1, hp2, rfl, hg⟩
            have G4 := Lib.hid hg
            clear hg
            go_wp2
            exact H3.out.wrong' G4.out HU3.out _ rfl rfl
          | cons b t =>
            have HB := Lib.hid (bytes_some w3 bw b t H3.out.wd (by simp at hrl; omega) (hrs b (by simp)))
            go_wp2_with fail
            refine HB.out.mono ?_
            clear HB
            rintro e w4 (⟨hh, p, hp1, hp2, rfl, hg⟩ | ⟨bs, hh, hw4, hg, hcase⟩)
            · have hu3 : SP.unline sd = none := by
                rw [HU2.out]
                rcases t with _ | ⟨c, u⟩ <;> simp [hn, hh]
              have HU3 := Lib.hid hu3
              have G4 := Lib.hid hg
              clear hu3 HU2 hn hh hg
              go_wp2
              exact H3.out.wrong' G4.out HU3.out _ rfl rfl
            · have hbl := SP.hexOf_len hh
              have hbl2 := hrs b (by simp)
              rw [Array.length_toList] at hbl
              obtain ⟨v, rfl, hv⟩ := BytesR H3.out (Nat.le_trans hbl hbl2) hg hcase
              clear hbl hbl2
              have H4 := Lib.hid (H3.out.grown hg hw4)
              have hu1 : t = [] → SP.unline sd = if SP.may ⟨1, n, bs, []⟩ = true then some ⟨1, n, bs, []⟩ else none := by
                rintro rfl
                rw [HU2.out]
                simp [hn, hh, Option.filter]
              have hu2 : t ≠ [] → SP.unline sd = none := by
                intro hne
                rw [HU2.out]
                cases t with
                | nil => exact absurd rfl hne
                | cons c u => rfl
              have HU3 := Lib.hid hu1
              have HU4 := Lib.hid hu2
              have HV := Lib.hid hv
              clear hu1 hu2 hv hh hn HU2 hcase hw4 hg H3
              have x0 := cell_of_heap H4.out.res.hx 0
              have x1 := cell_of_heap H4.out.res.hx 1
              have x2 := cell_of_heap H4.out.res.hx 2
              have x3 := cell_of_heap H4.out.res.hx 3
              have fx := frozen_of_heap H4.out.res.hx
              simp only [List.getElem?_toArray, List.getElem?_cons_zero, List.getElem?_cons_succ] at x0 x1 x2 x3
              obtain ⟨A4, c4, rfl⟩ := Kd.R_slice HV.out
              go_wp2
              exact TAILH.out _ _ _ _ _ _ _ _ (H4.out.put HV.out (Kd.R_nil _ _ _ _ _)) HU3.out HU4.out _ _ _ _ _ _ _ _ _ _ _ _ _ _ _ _ _ _ _ _ _ _ _ _ _ _ _ _ _
    · by_cases ha : x.data.toList = SP.wArm
      · have q1 : (x.toList == [102, 101, 101, 100]) = false := by rw [hxx, ha]; rfl
        have q2 : (x.toList == [97, 114, 109]) = true := by rw [hxx, ha]; rfl
        have hu : ∀ t, SP.read (x.data.toList :: t) = _ := SP.read_arm ha
        have HU2 := Lib.hid (HU.out.trans (congrArg (Option.filter SP.may) (hu (List.map (fun y : ByteArray => y.data.toList) r))))
        clear hxx hf ha HU hu
        cases r with
        | nil =>
          go_wp2_with fail
          refine (number_none w2 bw H2.out.wd).mono ?_
          rintro e w3 ⟨p, hp1, hp2, rfl, hg⟩
          have G3 := Lib.hid hg
          clear hg
          go_wp2
          exact H2.out.wrong' G3.out HU2.out _ rfl rfl
        | cons a t =>
          have ha := hrs a (by simp)
          cases hn : SP.numOf a.data.toList with
          | none =>
            have hu3 : SP.unline sd = none := by
              rw [HU2.out]
              rcases t with _ | ⟨b, u⟩ <;> simp [hn]
            have HN := Lib.hid (number_bad w2 bw a t H2.out.wd (by simp at hrl; omega) ha H2.out.tabs (by have := H2.out.hb9; have := H2.out.hbw; omega) (by have := H2.out.lt; have := H2.out.hb9; have := H2.out.hbw; omega) hn)
            have HU3 := Lib.hid hu3
            clear hu3 HU2 hn
            go_wp2_with fail
            refine HN.out.mono ?_
            rintro e w3 ⟨p, hp1, hp2, rfl, hg⟩
            have G3 := Lib.hid hg
            clear hg
            go_wp2
            exact H2.out.wrong' G3.out HU3.out _ rfl rfl
          | some n =>
            have HN := Lib.hid (number_ok w2 bw a t n H2.out.wd (by simp at hrl; omega) ha H2.out.tabs (by have := H2.out.hb9; have := H2.out.hbw; omega) (by have := H2.out.lt; have := H2.out.hb9; have := H2.out.hbw; omega) hn)
            go_wp2_with fail
            refine HN.out.mono ?_
            rintro e w3 ⟨rfl, hw3, hg⟩
            have H3 := Lib.hid (H2.out.grown hg hw3)
            clear hg hw3 HN H2
            have hu1 : t = [] → SP.unline sd = if SP.may ⟨2, n, [], []⟩ = true then some ⟨2, n, [], []⟩ else none := by
              rintro rfl
              rw [HU2.out]
              simp [hn, Option.filter]
            have hu2 : t ≠ [] → SP.unline sd = none := by
              intro hne
              rw [HU2.out]
              cases t with
              | nil => exact absurd rfl hne
              | cons c u => rfl
            have HU3 := Lib.hid hu1
            have HU4 := Lib.hid hu2
            clear hu1 hu2 hn HU2
            have x0 := cell_of_heap H3.out.res.hx 0
            have x1 := cell_of_heap H3.out.res.hx 1
            have x2 := cell_of_heap H3.out.res.hx 2
            have x3 := cell_of_heap H3.out.res.hx 3
            have fx := frozen_of_heap H3.out.res.hx
            simp only [List.getElem?_toArray, List.getElem?_cons_zero, List.getElem?_cons_succ] at x0 x1 x2 x3
            go_wp2
            exact TAILH.out _ _ _ _ _ _ _ _ (H3.out.put (bs' := []) (ag' := []) (Kd.R_nil _ _ _ _ _) (Kd.R_nil _ _ _ _ _)) HU3.out HU4.out _ _ _ _ _ _ _ _ _ _ _ _ _ _ _ _ _ _ _ _ _ _ _ _ _ _ _ _ _
      · by_cases hc : x.data.toList = SP.wCrash
        · have q1 : (x.toList == [102, 101, 101, 100]) = false := by rw [hxx, hc]; rfl
          have q2 : (x.toList == [97, 114, 109]) = false := by rw [hxx, hc]; rfl
          have q3 : (x.toList == [99, 114, 97, 115, 104]) = true := by rw [hxx, hc]; rfl
          have hu : ∀ t, SP.read (x.data.toList :: t) = _ := SP.read_crash hc
          have HU2 := Lib.hid (HU.out.trans (congrArg (Option.filter SP.may) (hu (List.map (fun y : ByteArray => y.data.toList) r))))
          clear hxx hf ha hc HU hu
          cases r with
          | nil =>
            go_wp2_with fail
            refine (bytes_none w2 bw H2.out.wd).mono ?_
            rintro e w3 ⟨p, hp1, hp2, rfl, hg⟩
            have G3 := Lib.hid hg
            clear hg
            go_wp2
            exact H2.out.wrong' G3.out HU2.out _ rfl rfl
          | cons b t =>
            have HB := Lib.hid (bytes_some w2 bw b t H2.out.wd (by simp at hrl; omega) (hrs b (by simp)))
            go_wp2_with fail
            refine HB.out.mono ?_
            clear HB
            rintro e w4 (⟨hh, p, hp1, hp2, rfl, hg⟩ | ⟨bs, hh, hw4, hg, hcase⟩)
            · have hu3 : SP.unline sd = none := by
                rw [HU2.out]
                simp [hh]
              have HU3 := Lib.hid hu3
              have G4 := Lib.hid hg
              clear hu3 HU2 hh hg
              go_wp2
              exact H2.out.wrong' G4.out HU3.out _ rfl rfl
            · have hbl := SP.hexOf_len hh
              have hbl2 := hrs b (by simp)
              rw [Array.length_toList] at hbl
              obtain ⟨v, rfl, hv⟩ := BytesR H2.out (Nat.le_trans hbl hbl2) hg hcase
              clear hbl hbl2
              have H4 := Lib.hid (H2.out.grown hg hw4)
              have HV := Lib.hid hv
              have HU3 := Lib.hid (show ∀ ag, SP.nums (t.map fun y => y.data.toList) = some ag → SP.unline sd = if SP.may ⟨3, 0, bs, ag⟩ = true then some ⟨3, 0, bs, ag⟩ else none from fun ag hag => by rw [HU2.out]; simp [hh, hag, Option.filter])
              have HU4 := Lib.hid (show SP.nums (t.map fun y => y.data.toList) = none → SP.unline sd = none from fun hag => by rw [HU2.out]; simp [hh, hag])
              have hts : ∀ y ∈ t, y.size ≤ 2000000 := fun y hy => hrs y (by simp [hy])
              have htl : t.length ≤ 1500001 := by simp at hrl; omega
              clear hv hh HU2 hcase hw4 hg H2 hrs hrl
              have x0 := cell_of_heap H4.out.res.hx 0
              have x1 := cell_of_heap H4.out.res.hx 1
              have x2 := cell_of_heap H4.out.res.hx 2
              have x3 := cell_of_heap H4.out.res.hx 3
              have fx := frozen_of_heap H4.out.res.hx
              simp only [List.getElem?_toArray, List.getElem?_cons_zero, List.getElem?_cons_succ] at x0 x1 x2 x3
              obtain ⟨A4, c4, rfl⟩ := Kd.R_slice HV.out
              go_wp2_with fail
              have HC0 : CrI w bx be bw bs t _ := ⟨_, _, [], t, H4.out.put (k' := 3) (n' := 0) (ag' := []) HV.out (Kd.R_nil _ _ _ _ _), by simp, fun y hy => hy, Nat.le_refl _⟩
              generalize ((((w4.setCell { block := bx, off := 0 } (Value.int IntKind.i64 3)).setCell { block := bx, off := 1 } (Value.int IntKind.i64 0)).setCell { block := bx, off := 2 } (Value.slice A4 (SP.nums8 bs).length c4)).setCell { block := bx, off := 3 } (Value.slice none 0 0)) = w5 at HC0 ⊢
              have HC := Lib.hid HC0
              clear HC0 x0 x1 x2 x3 fx H4
              generalize (SP.nums8 bs).length = bn
              clear HV
              go_loopw [22] (fun _ wr => CrI w bx be bw bs t wr) (fun _ wr => leftAt wr bw)
              case atStart => exact HC.out
              case round =>
                clear HC
                obtain ⟨v2, v3, ag, rest, H, hnums, hmem, hlen⟩ := hrel
                obtain ⟨bb, off, hcw, _, _⟩ := H.wd.ex
                cases rest with
                | nil =>
                  have HH := Lib.hid H
                  have HUa := Lib.hid (HU3.out ag (by rw [hnums]; simp [SP.nums]))
                  simp only [List.length_nil] at hcw
                  clear H hnums HU3 HU4 hmem hlen hts
                  go_wp2
                  exact TAILH.out _ _ _ _ _ _ _ _ HH.out (fun _ => HUa.out) (fun h => absurd rfl h) _ _ _ _ _ _ _ _ _ _ _ _ _ _ _ _ _ _ _ _ _ _ _ _ _ _ _ _ _
                | cons y rest =>
                  simp only [List.length_cons] at hcw
                  have hy := hts y (hmem y (by simp))
                  have hb9 : 9 ≤ bw := by have := H.hb9; have := H.hbw; omega
                  have hw9 : 9 ≤ wr.heap.size := by have := H.lt; omega
                  have x3 := cell_of_heap H.res.hx 3
                  have fx := frozen_of_heap H.res.hx
                  simp only [List.getElem?_toArray, List.getElem?_cons_zero, List.getElem?_cons_succ] at x3
                  cases hn : SP.numOf y.data.toList with
                  | none =>
                    have hu := HU4.out (by rw [hnums, List.map_cons, SP.nums, hn]; rfl)
                    have HN := Lib.hid (fun W (hb : Below wr.heap.size wr W) => number_bad W bw y rest (H.out hb).wd (by simp at hlen; omega) hy (H.out hb).tabs hb9 (Nat.le_trans hw9 hb.size) hn)
                    have HU5 := Lib.hid hu
                    have HH := Lib.hid H
                    clear hu hn H hnums HU3 HU4 hmem hlen hts
                    go_wp2_with fail
                    refine wp_region_any (by kernel_rfl) ?_
                    change wpAny _ _ _ _ _ _ _ (World.drew _)
                    refine wpAny_ready (rs := [0, 2]) (by kernel_rfl) (by simp) ?_
                    refine AllReady.cons rfl (fun K0 hK0 => ?_) (AllReady.cons rfl (fun K0 hK0 => ?_) AllReady.nil)
                    · go_simp
                      refine hK0 _ _ ?_
                      refine wpAny_ready (rs := [1, 2]) (by kernel_rfl) (by simp) ?_
                      refine AllReady.cons rfl (fun K1 hK1 => ?_) (AllReady.cons rfl (fun K1 hK1 => ?_) AllReady.nil)
                      · go_simp
                        refine hK1 _ _ ?_
                        refine wpAny_ready (rs := [2]) (by kernel_rfl) (by simp) ?_
                        refine AllReady.cons rfl (fun K2 hK2 => ?_) AllReady.nil
                        go_simp
                        go_wp2_with fail
                        refine (HN.out _ (below_drew (Below.refl _ _))).mono ?_
                        rintro e w3 ⟨p, hp1, hp2, rfl, hg⟩
                        exact St.wrong' (HH.out.out (below_drew (Below.refl _ _))) hg HU5.out _ rfl rfl
                      · go_simp
                        go_wp2_with fail
                        refine (HN.out _ (below_drew (Below.refl _ _))).mono ?_
                        rintro e w3 ⟨p, hp1, hp2, rfl, hg⟩
                        exact St.wrong' (HH.out.out (below_drew (Below.refl _ _))) hg HU5.out _ rfl rfl
                    · go_simp
                      go_wp2_with fail
                      refine (HN.out _ (below_drew (Below.refl _ _))).mono ?_
                      rintro e w3 ⟨p, hp1, hp2, rfl, hg⟩
                      exact St.wrong' (HH.out.out (below_drew (Below.refl _ _))) hg HU5.out _ rfl rfl
                  | some n =>
                    have HN := Lib.hid (fun W (hb : Below wr.heap.size wr W) => number_ok W bw y rest n (H.out hb).wd (by simp at hlen; omega) hy (H.out hb).tabs hb9 (Nat.le_trans hw9 hb.size) hn)
                    have HO := Lib.hid (fun W (hg : wr.grownBy W (some bw)) => Kd.own_of_R (Kd.R_mono (ok' := fun _ => True) (Kd.R_grown (Kd.R_bound H.r3) hg (fun k hk => by have := hk.2.1; simp; omega)) (fun _ _ => trivial)))
                    have HX := Lib.hid (fun W (hg : wr.grownBy W (some bw)) => show W.cell? ⟨bx, 3, none⟩ = some v3 from (hg.cell (show wr.cell? ⟨bx, 3, none⟩ = some v3 from x3) (by have := H.hbw; simp; omega)))
                    have HX2 := Lib.hid (fun (W W' : World) (hW : W.cell? ⟨bx, 3, none⟩ = some v3) (hg : W.grownBy W' v3.ownBlock) => show W'.cell? ⟨bx, 3, none⟩ = some v3 from hg.cell hW (fun e => by have := Kd.R_base H.r3 bx (by simpa using e.symm); have := H.hbw; omega))
                    have HH := Lib.hid H
                    have h63 : ag.length + 1 ≤ maxLen := by simp only [List.length_cons] at hlen; unfold maxLen; omega
                    have h64 : (ag.length + 1) * 8 ≤ 140737488355328 := by simp only [List.length_cons] at hlen; omega
                    have hlw := H.lt
                    obtain ⟨i0, hi0, hz0, hz1, hz2⟩ := info_parts intInfo
                    have hbxw : bx < bw := by have := H.hbw; omega
                    have HF := Lib.hid (fun (W : World) (hg : wr.grownBy W (some bw)) => show W.frozen? ⟨bx, 3, none⟩ = false from (World.frozen?_of_block (hg.block bx (by omega) (by simp; omega))).trans (fx 3))
                    have HF2 := Lib.hid (fun (W W' : World) (hW : W.frozen? ⟨bx, 3, none⟩ = false ∧ bx < W.heap.size) (hg : W.grownBy W' v3.ownBlock) => show W'.frozen? ⟨bx, 3, none⟩ = false from (World.frozen?_of_block (hg.block bx hW.2 (fun e => by have := Kd.R_base H.r3 bx e.symm; omega))).trans hW.1)
                    have HNO := Lib.hid hn
                    have HNU := Lib.hid hnums
                    have HLE := Lib.hid hlen
                    have HME := Lib.hid hmem
                    clear hn H hnums HU3 HU4 hmem hlen hts
                    go_wp2_with fail
                    refine wp_region_noPanic ?_
                    have x3d : wr.drew.cell? ⟨bx, 3, none⟩ = some v3 := x3
                    go_region_law (first
                        | (refine step_append_lies _ (by rfl) _ _ _ (by rfl) (bw + 1) 3 i0 _ 1 8 Tryz.underlying25 hi0 hz0 hz1 hz2 rfl (by omega) v3 ag.length (encs (Value.int .i64) ag) (by rfl) (HO.out _ hg3)
                             ⟨w3.heap.size, 0, none⟩ 1 1 [.int .i64 n] (by rfl) (by rfl) (World.news_of_block (cs := #[.int .i64 n]) (t := 3) (fr := (0, 0)) (heap_alloc_new w3 _)) (by simp [Value.oneCell'])
                             (by omega) h63 h64 (by have := hg3.size; omega) (w3.heap.size + 1) (by simp) ?_
                           intro gg cap w4 hown1 hgrow hat hlt
                           have x34 := HX2.out _ _ (HX.out _ hg3) hgrow
                           have f34 := HF2.out _ _ ⟨HF.out _ hg3, Nat.lt_of_lt_of_le (Nat.lt_trans hbxw hlw) hg3.size⟩ hgrow)
                        | (go_simp
                           go_at_call 20
                           refine (HN.out _ (below_drew (Below.refl _ _))).mono ?_
                           rintro e w3 ⟨rfl, hw3, hg⟩
                           have hg2 := grown_trans (grown_below (below_drew (Below.refl _ _)) (some bw)) hg
                           have hg3 := grown_trans hg2 (World.grownBy_alloc w3 (Obj.cells #[Value.int IntKind.i64 n] 3) (some bw))
                           have x32 := HX.out _ hg2
                           have hbx3 : bx < w3.heap.size := Nat.lt_of_lt_of_le (Nat.lt_trans hbxw hlw) hg2.size
                           have x33 : (w3.alloc (Obj.cells #[Value.int IntKind.i64 n] 3)).cell? ⟨bx, 3, none⟩ = some v3 := HX.out _ hg3))
                    all_goals
                      have hSt := StepSt HH.out hg hw3 hg2 hgrow hown1
                      have hC : CrI w bx be bw bs t _ := ⟨_, _, ag ++ [n], rest, hSt, by
                        rw [HNU.out, List.map_cons, SP.nums, HNO.out]
                        cases SP.nums (List.map (fun y => y.data.toList) rest) <;> simp, fun z hz => HME.out z (by simp [hz]), by have := HLE.out; simp only [List.length_cons, List.length_append, List.length_nil] at this ⊢; omega⟩
                      have hM : leftAt (w4.setCell { block := bx, off := 3 } (Value.slice (some { block := gg, off := 0 }) (ag.length + 1) cap)) bw < leftAt wr bw := by
                        rw [leftAt_of hSt.wd, leftAt_of HH.out.wd]
                        simp
                      have HCh := Lib.hid hC
                      have HMh := Lib.hid hM
                      clear hC hM hSt hg hg2 hg3 hw3 hown1 hgrow hat hlt x34 f34 x33 x32 hbx3
                      refine NoPanic.normal ?_
                      go_wp2_with fail
                      exact ⟨HCh.out, HMh.out⟩
        · by_cases he : x.data.toList = SP.wCensus
          · have q1 : (x.toList == [102, 101, 101, 100]) = false := by rw [hxx, he]; rfl
            have q2 : (x.toList == [97, 114, 109]) = false := by rw [hxx, he]; rfl
            have q3 : (x.toList == [99, 114, 97, 115, 104]) = false := by rw [hxx, he]; rfl
            have q4 : (x.toList == [99, 101, 110, 115, 117, 115]) = true := by rw [hxx, he]; rfl
            have hu : ∀ t, SP.read (x.data.toList :: t) = _ := SP.read_census he
            have HU2 := Lib.hid (HU.out.trans (congrArg (Option.filter SP.may) (hu (List.map (fun y : ByteArray => y.data.toList) r))))
            clear hxx hf ha hc he HU hu
            have x0 := cell_of_heap H2.out.res.hx 0
            have x1 := cell_of_heap H2.out.res.hx 1
            have x2 := cell_of_heap H2.out.res.hx 2
            have x3 := cell_of_heap H2.out.res.hx 3
            have fx := frozen_of_heap H2.out.res.hx
            simp only [List.getElem?_toArray, List.getElem?_cons_zero, List.getElem?_cons_succ] at x0 x1 x2 x3
            go_wp2
            refine TAILH.out _ _ _ _ _ _ _ _ (H2.out.put (k' := 4) (n' := 0) (bs' := []) (ag' := []) (Kd.R_nil _ _ _ _ _) (Kd.R_nil _ _ _ _ _)) ?_ ?_ _ _ _ _ _ _ _ _ _ _ _ _ _ _ _ _ _ _ _ _ _ _ _ _ _ _ _ _ _
            · rintro rfl
              rw [HU2.out]
              rfl
            · intro hne
              rw [HU2.out]
              cases r with
              | nil => exact absurd rfl hne
              | cons y ys => rfl
          · have q1 : (x.toList == [102, 101, 101, 100]) = false := by rw [hxx]; exact beq_false_of_ne hf
            have q2 : (x.toList == [97, 114, 109]) = false := by rw [hxx]; exact beq_false_of_ne ha
            have q3 : (x.toList == [99, 114, 97, 115, 104]) = false := by rw [hxx]; exact beq_false_of_ne hc
            have q4 : (x.toList == [99, 101, 110, 115, 117, 115]) = false := by rw [hxx]; exact beq_false_of_ne he
            have hu : ∀ t, SP.read (x.data.toList :: t) = _ := SP.read_else hf ha hc he
            have HU2 := Lib.hid (HU.out.trans (congrArg (Option.filter SP.may) (hu (List.map (fun y : ByteArray => y.data.toList) r))))
            clear hxx hf ha hc he HU hu
            go_wp2
            refine TAILH.out _ _ _ _ _ _ _ _ H2.out ?_ ?_ _ _ _ _ _ _ _ _ _ _ _ _ _ _ _ _ _ _ _ _ _ _ _ _ _ _ _ _ _
            · intro _
              rw [HU2.out]
              rfl
            · intro _
              exact HU2.out
end Go.Proofs.YtdfaljcdphbgdaaGreatDoor
