/- The reader of a script: Parse, walked. -/
import Derived.Test.YtdfaljcdphbgdaaGreatDoorGiL
import Derived.Test.YtdfaljcdphbgdaaGreatDoorS
import Derived.Test.YtdfaljcdphbgdaaGreatDoorWApart
import Derived.Deep.AppendLies
import Derived.RangeFuncNested
import Derived.RegionIn
import Derived.ChangeAlike
namespace Go.Proofs.YtdfaljcdphbgdaaGreatDoor.PL
set_option linter.unusedVariables false
set_option linter.unusedSimpArgs false
open Go.RowKit Go.Proofs Go.Proofs.YtdfaljcdphbgdaaGreatDoorW.PrintWords Go.Proofs.YtdfaljcdphbgdaaGreatDoorW.PrintLast Go.Proofs.YtdfaljcdphbgdaaGreatDoorW.PrintMore Go.Proofs.YtdfaljcdphbgdaaGreatDoor Go.Proofs.YtdfaljcdphbgdaaGreatDoor.PRef

def sOf (x : SP.Deed) : S27 := ⟨x.kind, x.n, SP.nums8 x.bytes, x.again⟩

/-- does a line say nothing? -/
def idle (x : SP.B) : Bool := x.isEmpty || x.head? == some 35

/-- the deeds of lines, or where they are wrong -/
def parseFrom : List SP.B → Nat → List SP.Deed → List SP.Deed × Int × Int
  | [], _, acc => (acc, 0, 0)
  | x :: r, n, acc => if idle x = true then parseFrom r (n + 1) acc else
    if (told x).2 = 0 then (if 1000 ≤ acc.length then ([], (n : Int) + 1, 3) else parseFrom r (n + 1) (acc ++ [(told x).1])) else ([], (n : Int) + 1, (told x).2)

def parsed (s : SP.B) : List SP.Deed × Int × Int := if s.length ≤ 1048576 then parseFrom (SP.cut 10 s) 0 [] else ([], 0, 3)

/-- append, run: the new element's rows are apart from the elder ones' -/
theorem S_append_run {P : Program} {α : Type} (d : Kd α) {W : World} (base : Nat) (t ty e : TypeId) (z : Value) (bytes : Nat)
    (ht : P.underlying t = some (.slice e)) (hinfo : (P.info? e).map (fun i => (i.zero, i.size, i.bytes)) = some (some z, d.sz, bytes)) (hz : z.cells.size = d.sz) (hs0 : 0 < d.sz) (hb0 : 0 < bytes)
    (v : Value) (xs : List α) (p : α) (cs : List Value) (ok okp : Nat → Prop) (hp : d.M W base okp p cs) (hokp : ∀ k, okp k → ok k ∧ some k ≠ v.ownBlock) (hfresh : ∀ k, W.heap.size ≤ k → ok k)
    (HO : Kd.S d e W base (fun k => ok k ∧ ¬ okp k) v xs) (hbase : base ≤ W.heap.size) (hl : (xs.length + 1) * bytes ≤ 140737488355328) :
    ∃ g cap w1, (Builtin.append_ #[t, t] ty #[v, .slice (some ⟨W.heap.size, 0, none⟩) 1 1]).run P (W.alloc (.cells cs.toArray e)) = .ok (.slice (some ⟨g, 0, none⟩) (xs.length + 1) cap) w1 ∧
      Kd.S d e w1 base ok (.slice (some ⟨g, 0, none⟩) (xs.length + 1) cap) (xs ++ [p]) ∧ W.grownBy w1 v.ownBlock ∧ g < w1.heap.size := by
  obtain ⟨f, hf, h0, inner, hown, hr⟩ := Kd.S_tag HO xs.length okp (fun _ hk h2 => h2.2 hk)
  have hMp : (Kd.tag f d).M W base okp (p, xs.length) cs := d.M_mono (fun k hk => ⟨hk, hf k hk⟩) hp
  obtain ⟨i, hi, hz0, hz1, hz2⟩ := info_parts hinfo
  have hcl : cs.length = 1 * d.sz := by rw [Nat.one_mul]; exact d.K_len (d.K_of_M hp)
  rw [List.length_zipIdx] at hown
  have hxl : xs.length + 1 ≤ maxLen := by unfold maxLen; have := Nat.le_mul_of_pos_right (xs.length + 1) hb0; omega
  obtain ⟨g, cap, w1, hrun, hown1, hgrow, hat, hlt⟩ := run_append_lies (P := P) (w := W.alloc (.cells cs.toArray e)) t ty base e i z d.sz bytes ht hi hz0 hz1 hz2 hz hs0 v xs.length inner (hown.alloc _)
    ⟨W.heap.size, 0, none⟩ 1 1 cs hcl (by simpa using World.news_of_block (cs := cs.toArray) (t := e) (fr := (0, 0)) (heap_alloc_new W _)) (d.K_one (d.K_of_M hp)) (by omega) hxl hl (by simp; omega) (W.heap.size + 1) (by simp)
  have hg : W.grownBy w1 v.ownBlock := grown_trans (World.grownBy_alloc W _ _) hgrow
  refine ⟨g, cap, w1, hrun, ⟨f, ?_⟩, hg, hlt⟩
  rw [Kd.zip_snoc]
  refine Kd.R_appended (d := Kd.tag f d) (okp := okp) (fun k hk => (h0 k hk).1) (hr.imp_ (fun _ _ hq => (Kd.tag f d).M_mono (fun k hk => ⟨hk.1.1, hk.2⟩) hq)) hMp hokp hfresh (by rw [List.length_zipIdx]; exact hown1) hg ?_
  rcases hat with h | h
  · left; rw [h]; rfl
  · right; exact ⟨g, rfl, by omega⟩

/-- what a round may change: the blocks of Parse's own variables, and one row -/
structure Chg (b : Nat) (row : Option Nat) (W W' : World) : Prop where
  os : W'.os = W.os
  tape : W'.tape = W.tape
  output : W'.output = W.output
  size : W.heap.size ≤ W'.heap.size
  same : ∀ k, k < W.heap.size → k < b ∨ b + 5 ≤ k → some k ≠ row → W'.heap[k]? = W.heap[k]?
theorem Chg.refl (b : Nat) (row : Option Nat) (W : World) : Chg b row W W := ⟨rfl, rfl, rfl, Nat.le_refl _, fun _ _ _ _ => rfl⟩
theorem Chg.trans {b : Nat} {row : Option Nat} {A B C : World} (h : Chg b row A B) (k : Chg b row B C) : Chg b row A C :=
  ⟨k.os.trans h.os, k.tape.trans h.tape, k.output.trans h.output, Nat.le_trans h.size k.size, fun i hi h1 h2 => (k.same i (Nat.lt_of_lt_of_le hi h.size) h1 h2).trans (h.same i hi h1 h2)⟩
theorem Chg.below {b : Nat} {row : Option Nat} {A B : World} (h : Below A.heap.size A B) : Chg b row A B := ⟨h.os, h.tape, h.output, h.size, fun i hi _ _ => h.block i hi⟩
theorem Chg.grown {b : Nat} {row : Option Nat} {A B : World} (h : A.grownBy B row) : Chg b row A B := ⟨h.os, h.tape, h.output, h.size, fun i hi _ hr => h.block i hi hr⟩
theorem Chg.set {b : Nat} {row : Option Nat} (A : World) {j : Nat} (h1 : b ≤ j) (h2 : j < b + 5) (o : Nat) (v : Value) : Chg b row A (A.setCell ⟨j, o, none⟩ v) :=
  ⟨rfl, rfl, rfl, by simp [World.setCell], fun i _ h _ => Below.heap_setCell A _ v i (by show i ≠ j; omega)⟩
theorem Chg.old {b : Nat} {row : Option Nat} {w A B : World} (h : Chg b row A B) (hb : Below b w A) (hr : ∀ k, row = some k → b ≤ k) (hs : b ≤ w.heap.size) : Below b w B :=
  ⟨h.os.trans hb.os, h.tape.trans hb.tape, h.output.trans hb.output, Nat.le_trans hb.size h.size, fun i hi => (h.same i (by have := hb.size; omega) (.inl hi) (fun e => by have := hr i e.symm; omega)).trans (hb.block i hi)⟩
theorem Chg.keeps {b B : Nat} {row : Option Nat} {A C : World} (h : Chg b row A C) (hB : b + 5 ≤ B) (hr : ∀ k, row = some k → ∃ o, A.heap[k]? = some o ∧ o.isCells = true) : KeepsFrom B A C :=
  ⟨h.size, fun k o hk ho hc => (h.same k (Array.getElem?_eq_some_iff.1 ho).1 (.inr (by omega)) (fun e => by
    obtain ⟨o', ho', hc'⟩ := hr k e.symm
    rw [ho] at ho'; cases ho'; rw [hc] at hc'; cases hc')).trans ho⟩

/-- Parse's variables -/
structure Vars (W : World) (b : Nat) (r0 : Value) (r1 r2 : Int) (out : Value) (n : Int) : Prop where
  h0 : W.heap[b]? = some (.cells #[r0] 33 (0, 0))
  h1 : W.heap[b + 1]? = some (.cells #[.int .i64 r1] 3 (0, 0))
  h2 : W.heap[b + 2]? = some (.cells #[.int .i64 r2] 28 (0, 0))
  h3 : W.heap[b + 3]? = some (.cells #[out] 33 (0, 0))
  h4 : W.heap[b + 4]? = some (.cells #[.int .i64 n] 3 (0, 0))
theorem Vars.of {W W' : World} {b : Nat} {r0 out : Value} {r1 r2 n : Int} (h : Vars W b r0 r1 r2 out n) (hk : ∀ k, k < W.heap.size → b ≤ k → k < b + 5 → W'.heap[k]? = W.heap[k]?) : Vars W' b r0 r1 r2 out n := by
  have lt : ∀ {k o}, W.heap[k]? = some o → k < W.heap.size := fun h => (Array.getElem?_eq_some_iff.1 h).1
  exact ⟨(hk _ (lt h.h0) (by omega) (by omega)).trans h.h0, (hk _ (lt h.h1) (by omega) (by omega)).trans h.h1, (hk _ (lt h.h2) (by omega) (by omega)).trans h.h2, (hk _ (lt h.h3) (by omega) (by omega)).trans h.h3, (hk _ (lt h.h4) (by omega) (by omega)).trans h.h4⟩
theorem Vars.set3 {W : World} {b : Nat} {r0 out : Value} {r1 r2 n : Int} (h : Vars W b r0 r1 r2 out n) (v : Value) : Vars (W.setCell ⟨b + 3, 0, none⟩ v) b r0 r1 r2 v n :=
  ⟨(Below.heap_setCell _ _ _ _ (by show b ≠ b + 3; omega)).trans h.h0, (Below.heap_setCell _ _ _ _ (by show b + 1 ≠ b + 3; omega)).trans h.h1, (Below.heap_setCell _ _ _ _ (by show b + 2 ≠ b + 3; omega)).trans h.h2, (heap_setCell_at _ _ _ _ _ _ h.h3).trans (by rfl), (Below.heap_setCell _ _ _ _ (by show b + 4 ≠ b + 3; omega)).trans h.h4⟩
theorem Vars.set4 {W : World} {b : Nat} {r0 out : Value} {r1 r2 n : Int} (h : Vars W b r0 r1 r2 out n) (m : Int) : Vars (W.setCell ⟨b + 4, 0, none⟩ (.int .i64 m)) b r0 r1 r2 out m :=
  ⟨(Below.heap_setCell _ _ _ _ (by show b ≠ b + 4; omega)).trans h.h0, (Below.heap_setCell _ _ _ _ (by show b + 1 ≠ b + 4; omega)).trans h.h1, (Below.heap_setCell _ _ _ _ (by show b + 2 ≠ b + 4; omega)).trans h.h2, (Below.heap_setCell _ _ _ _ (by show b + 3 ≠ b + 4; omega)).trans h.h3, (heap_setCell_at _ _ _ _ _ _ h.h4).trans (by rfl)⟩

/-- between two rounds -/
structure PI (w : World) (pre : List ByteArray) (W : World) (v : Value) (acc : List SP.Deed) : Prop where
  vars : Vars W w.heap.size (.slice none 0 0) 0 0 v pre.length
  row : Kd.S k27 27 W (w.heap.size + 8) (fun _ => True) v (acc.map sOf)
  run : ∀ r, parseFrom (pre.map dl ++ r) 0 [] = parseFrom r pre.length acc
  len : acc.length ≤ 1000
  below : Below w.heap.size w W
def PIx (w : World) (pre : List ByteArray) (W : World) : Prop := ∃ v acc, PI w pre W v acc
/-- a line was wrong -/
def PX (w : World) (pre : List ByteArray) (W : World) : Prop :=
  ∃ (out : Value) (n n' e : Int), Vars W w.heap.size (.slice none 0 0) n e out n' ∧ (∀ r, parseFrom (pre.map dl ++ r) 0 [] = ([], n, e)) ∧ Below w.heap.size w W

theorem cells_S {W : World} {base : Nat} {v : Value} {xs : List S27} (h : Kd.S k27 27 W base (fun _ => True) v xs) : ∀ k, v.ownBlock = some k → ∃ o, W.heap[k]? = some o ∧ o.isCells = true := fun k hk => by
  obtain ⟨c, hc⟩ := Kd.S_typed h k hk
  exact ⟨_, hc, rfl⟩

theorem PI.stay (w : World) (bs : Nat) (hbs : w.heap.size + 5 ≤ bs) (hbs2 : bs < w.heap.size + 8) : Stay bs (w.heap.size + 8) (PIx w) := by
  rintro pre A C row ⟨v, acc, h⟩ hg hr
  have hne : ∀ k, w.heap.size ≤ k → k < w.heap.size + 5 → some k ≠ row := fun k h1 h2 e => by
    rcases hr k e.symm with rfl | ⟨hB, _⟩ <;> omega
  refine ⟨v, acc, h.vars.of (fun k hk h1 h2 => hg.block k hk (hne k h1 h2)), Kd.S_mono (Kd.S_grown (Kd.S_bound h.row) hg (fun k hk e => ?_)) (fun _ _ => trivial), h.run, h.len, ?_⟩
  · obtain ⟨_, hb, _, q, _, c, hc⟩ := hk
    rcases hr k e.symm with rfl | ⟨_, o, ho, hc2⟩
    · omega
    · rw [hc] at ho; cases ho; cases hc2
  · exact h.below.grown hg h.below.size (fun k e => by rcases hr k e with rfl | ⟨hB, _⟩ <;> omega)

theorem PX.stay (w : World) (bs : Nat) (hbs : w.heap.size + 5 ≤ bs) : Stay bs (w.heap.size + 8) (PX w) := by
  rintro pre A C row ⟨out, n, n', e, h, hp, hb⟩ hg hr
  have hne : ∀ k, w.heap.size ≤ k → k < w.heap.size + 5 → some k ≠ row := fun k h1 h2 e => by
    rcases hr k e.symm with rfl | ⟨hB, _⟩ <;> omega
  exact ⟨out, n, n', e, h.of (fun k hk h1 h2 => hg.block k hk (hne k h1 h2)), hp, hb.grown hg hb.size (fun k e => by rcases hr k e with rfl | ⟨hB, _⟩ <;> omega)⟩
end Go.Proofs.YtdfaljcdphbgdaaGreatDoor.PL
namespace Go.Proofs.YtdfaljcdphbgdaaGreatDoor.PL
set_option linter.unusedVariables false
set_option linter.unusedSimpArgs false
open Go Go.RowKit Go.Shelf Go.Proofs Go.Proofs.YtdfaljcdphbgdaaGreatDoorW.PrintWords Go.Proofs.YtdfaljcdphbgdaaGreatDoorW.PrintLast Go.Proofs.YtdfaljcdphbgdaaGreatDoorW.PrintMore Go.Proofs.YtdfaljcdphbgdaaGreatDoor Go.Proofs.YtdfaljcdphbgdaaGreatDoor.PRef
attribute [local go_sem] Oper.semAt_some

theorem splitSeq_new (s : ByteArray) (w : World) :
    Calls Tryz.prog 45 #[.string s, .string ⟨#[10]⟩, .int .i64 0] w fun e w' => e = .returned (.func (.func 61) #[] #[.pointer (some ⟨w.heap.size + 1, 0, none⟩), .pointer (some ⟨w.heap.size, 0, none⟩), .pointer (some ⟨w.heap.size + 2, 0, none⟩)]) ∧
      w' = ((w.alloc (.cells #[.string s] 9)).alloc (.cells #[.string ⟨#[10]⟩] 9)).alloc (.cells #[.int .i64 0] 3) := by
  go_enter Tryz.func45, Tryz.ntmps45
  go_wp2
  go_ret
  exact ⟨rfl, rfl⟩

theorem splitSeq_lines (s : ByteArray) (w : World) :
    Calls Tryz.prog 28 #[.string s, .string ⟨#[10]⟩] w fun e w' => e = .returned (.func (.func 61) #[] #[.pointer (some ⟨w.heap.size + 1, 0, none⟩), .pointer (some ⟨w.heap.size, 0, none⟩), .pointer (some ⟨w.heap.size + 2, 0, none⟩)]) ∧
      w' = ((w.alloc (.cells #[.string s] 9)).alloc (.cells #[.string ⟨#[10]⟩] 9)).alloc (.cells #[.int .i64 0] 3) := by
  go_enter Tryz.func28, Tryz.ntmps28
  go_wp2_with fail
  refine (splitSeq_new s w).mono ?_
  rintro e w' ⟨rfl, rfl⟩
  go_wp2
  go_ret
  exact ⟨rfl, rfl⟩

def PPost (w : World) (s : SP.B) (e : Ending) (w' : World) : Prop :=
  ∃ v, e = .returned (.tuple #[v, .int .i64 (parsed s).2.1, .int .i64 (parsed s).2.2]) ∧ Kd.S k27 27 w' w.heap.size (fun _ => True) v ((parsed s).1.map sOf) ∧ Below w.heap.size w w'

theorem parse_long (s : ByteArray) (w : World) (h : 1048576 < s.size) : Calls Tryz.prog 10 #[.string s] w (PPost w (dl s)) := by
  have hp : parsed (dl s) = ([], 0, 3) := by
    unfold parsed
    rw [if_neg (by rw [show (dl s).length = s.size from Array.length_toList]; omega)]
  have HP := Lib.hid (show ∀ w', Below w.heap.size w w' → PPost w (dl s) (.returned (.tuple #[.slice none 0 0, .int .i64 0, .int .i64 3])) w' from fun w' hb => ⟨_, by rw [hp], by rw [hp]; exact Kd.S_nil _ _ _ _ _, hb⟩)
  have h' : (1048576 : Int) < (s.size : Int) := by omega
  clear hp h
  go_enter Tryz.func10, Tryz.ntmps10
  go_wp2
  refine bodyPost_ret (v := .tuple #[.slice none 0 0, .int .i64 0, .int .i64 3]) (by simp [results, Tryz.results10, go_sem]) rfl (HP.out _ ?_)
  exact (((Below.refl _ _).alloc (Nat.le_refl _) _).alloc (by simp) _).alloc (by simp; omega) _

theorem heap8 (w : World) (o0 o1 o2 o3 o4 o5 o6 o7 : Obj) (i : Nat) : ((((((((w.alloc o0).alloc o1).alloc o2).alloc o3).alloc o4).alloc o5).alloc o6).alloc o7).heap[w.heap.size + i]? = #[o0, o1, o2, o3, o4, o5, o6, o7][i]? := by
  have e : ((((((((w.alloc o0).alloc o1).alloc o2).alloc o3).alloc o4).alloc o5).alloc o6).alloc o7).heap = w.heap ++ #[o0, o1, o2, o3, o4, o5, o6, o7] := by
    show (((((((w.heap.push o0).push o1).push o2).push o3).push o4).push o5).push o6).push o7 = _
    apply Array.ext'
    simp
  rw [e, Array.getElem?_append_right (by omega)]
  congr 1
  omega

theorem Vars.set0 {W : World} {b : Nat} {r0 out : Value} {r1 r2 n : Int} (h : Vars W b r0 r1 r2 out n) (v : Value) : Vars (W.setCell ⟨b, 0, none⟩ v) b v r1 r2 out n :=
  ⟨(heap_setCell_at _ _ _ _ _ _ h.h0).trans (by rfl), (Below.heap_setCell _ _ _ _ (by show b + 1 ≠ b; omega)).trans h.h1, (Below.heap_setCell _ _ _ _ (by show b + 2 ≠ b; omega)).trans h.h2, (Below.heap_setCell _ _ _ _ (by show b + 3 ≠ b; omega)).trans h.h3, (Below.heap_setCell _ _ _ _ (by show b + 4 ≠ b; omega)).trans h.h4⟩
theorem Vars.set1 {W : World} {b : Nat} {r0 out : Value} {r1 r2 n : Int} (h : Vars W b r0 r1 r2 out n) (m : Int) : Vars (W.setCell ⟨b + 1, 0, none⟩ (.int .i64 m)) b r0 m r2 out n :=
  ⟨(Below.heap_setCell _ _ _ _ (by show b ≠ b + 1; omega)).trans h.h0, (heap_setCell_at _ _ _ _ _ _ h.h1).trans (by rfl), (Below.heap_setCell _ _ _ _ (by show b + 2 ≠ b + 1; omega)).trans h.h2, (Below.heap_setCell _ _ _ _ (by show b + 3 ≠ b + 1; omega)).trans h.h3, (Below.heap_setCell _ _ _ _ (by show b + 4 ≠ b + 1; omega)).trans h.h4⟩
theorem Vars.set2 {W : World} {b : Nat} {r0 out : Value} {r1 r2 n : Int} (h : Vars W b r0 r1 r2 out n) (m : Int) : Vars (W.setCell ⟨b + 2, 0, none⟩ (.int .i64 m)) b r0 r1 m out n :=
  ⟨(Below.heap_setCell _ _ _ _ (by show b ≠ b + 2; omega)).trans h.h0, (Below.heap_setCell _ _ _ _ (by show b + 1 ≠ b + 2; omega)).trans h.h1, (heap_setCell_at _ _ _ _ _ _ h.h2).trans (by rfl), (Below.heap_setCell _ _ _ _ (by show b + 3 ≠ b + 2; omega)).trans h.h3, (Below.heap_setCell _ _ _ _ (by show b + 4 ≠ b + 2; omega)).trans h.h4⟩
theorem Vars.drew {W : World} {b : Nat} {r0 out : Value} {r1 r2 n : Int} (h : Vars W b r0 r1 r2 out n) : Vars W.drew b r0 r1 r2 out n := ⟨h.h0, h.h1, h.h2, h.h3, h.h4⟩
theorem Chg.drew {b : Nat} {row : Option Nat} {A B : World} (h : Chg b row A B) : Chg b row A B.drew := h.trans (Chg.below (below_drew (Below.refl _ _)))
theorem Chg.and0 {b : Nat} {row : Option Nat} {A B : World} (h : Chg b row A B) (v : Value) : Chg b row A (B.setCell ⟨b, 0, none⟩ v) := h.trans (Chg.set B (Nat.le_refl _) (by omega) 0 v)
theorem Chg.and1 {b : Nat} {row : Option Nat} {A B : World} (h : Chg b row A B) (v : Value) : Chg b row A (B.setCell ⟨b + 1, 0, none⟩ v) := h.trans (Chg.set B (by omega) (by omega) 0 v)
theorem Chg.and2 {b : Nat} {row : Option Nat} {A B : World} (h : Chg b row A B) (v : Value) : Chg b row A (B.setCell ⟨b + 2, 0, none⟩ v) := h.trans (Chg.set B (by omega) (by omega) 0 v)
theorem Chg.and3 {b : Nat} {row : Option Nat} {A B : World} (h : Chg b row A B) (v : Value) : Chg b row A (B.setCell ⟨b + 3, 0, none⟩ v) := h.trans (Chg.set B (by omega) (by omega) 0 v)

theorem round_bad {w W W' : World} {pre : List ByteArray} {v : Value} {acc : List SP.Deed} {x : ByteArray} {td : SP.Deed × Int} (h : PI w pre W v acc) (hid : ¬ idle (dl x) = true) (ht : told (dl x) = td) {e : Int}
    (he : (td.2 ≠ 0 ∧ e = td.2) ∨ (td.2 = 0 ∧ 1000 ≤ acc.length ∧ e = 3)) (hc : Chg w.heap.size none W W') {out : Value} {n' : Int} (hv : Vars W' w.heap.size (.slice none 0 0) ((pre.length : Nat) + 1) e out n') : PX w (pre ++ [x]) W' := by
  refine ⟨out, _, n', e, hv, fun r => ?_, hc.old h.below (fun k e => by cases e) (Nat.le_refl _)⟩
  have := h.run (dl x :: r)
  rw [List.map_append, List.append_assoc]
  refine this.trans ?_
  rw [parseFrom, if_neg hid, ht]
  rcases he with ⟨h1, rfl⟩ | ⟨h1, h2, rfl⟩
  · rw [if_neg h1]
  · rw [if_pos h1, if_pos h2]

theorem round_more {w W W3 w4 : World} {pre : List ByteArray} {A5 : Option Addr} {q5 : Nat} {acc : List SP.Deed} {x : ByteArray} {d : SP.Deed} (h : PI w pre W (.slice A5 (acc.map sOf).length q5) acc) (hid : ¬ idle (dl x) = true) (ht : told (dl x) = (d, 0)) (hn : ¬ 1000 ≤ acc.length)
    (hc : Chg w.heap.size none W W3) (hv : Vars W3 w.heap.size (.slice none 0 0) 0 0 (.slice A5 acc.length q5) ((pre.length : Nat) + 1)) (hg : W3.grownBy w4 (Value.slice A5 acc.length q5).ownBlock) {g cap : Nat}
    (hS : Kd.S k27 27 w4 (w.heap.size + 8) (fun _ => True) (.slice (some ⟨g, 0, none⟩) (acc.length + 1) cap) (acc.map sOf ++ [sOf d])) :
    PI w (pre ++ [x]) (w4.setCell ⟨w.heap.size + 3, 0, none⟩ (.slice (some ⟨g, 0, none⟩) (acc.length + 1) cap)) (.slice (some ⟨g, 0, none⟩) (acc.length + 1) cap) (acc ++ [d]) ∧
    Chg w.heap.size (Value.slice A5 acc.length q5).ownBlock W (w4.setCell ⟨w.heap.size + 3, 0, none⟩ (.slice (some ⟨g, 0, none⟩) (acc.length + 1) cap)) := by
  have hrow := h.row
  rw [List.length_map] at hrow
  have hbase := Kd.S_base hrow
  have hcc : Chg w.heap.size (Value.slice A5 acc.length q5).ownBlock W (w4.setCell ⟨w.heap.size + 3, 0, none⟩ (.slice (some ⟨g, 0, none⟩) (acc.length + 1) cap)) :=
    (((show Chg w.heap.size (Value.slice A5 acc.length q5).ownBlock W W3 from ⟨hc.os, hc.tape, hc.output, hc.size, fun k hk hk2 _ => hc.same k hk hk2 (by simp)⟩)).trans (Chg.grown hg)).and3 _
  refine ⟨⟨?_, ?_, fun r => ?_, by simp; omega, hcc.old h.below (fun k e => by have := hbase k e; omega) (Nat.le_refl _)⟩, hcc⟩
  · have := (hv.of (W' := w4) fun k hk h1 h2 => hg.block k hk (fun e => by have := hbase k e.symm; omega)).set3 (.slice (some ⟨g, 0, none⟩) (acc.length + 1) cap)
    simpa using this
  · rw [List.map_append]
    refine Kd.S_mono (Kd.S_far (Kd.S_bound hS) (fun k hk => ?_) _) (fun _ _ => trivial)
    have := hk.2.1
    show k ≠ w.heap.size + 3
    omega
  · have := h.run (dl x :: r)
    rw [List.map_append, List.append_assoc]
    refine this.trans ?_
    rw [parseFrom, if_neg hid, ht]
    simp only [if_true]
    rw [if_neg hn, List.length_append]
    rfl

theorem wpListIn_append_run {F : Fence} {n : Nat} {P : Program} {w : World} {ops : Array Oper} {rest : List Oper} {o : Oper} {a : Act} {Q : Exit → Act → World → Prop} (hg : o.guard = none) (s x : Operand) (t : TypeId)
    (hop : o.op = Op.call { callee := Callee.builtin Builtin.append, args := #[s, x], argTypes := #[t, t] }) {v xv v1 : Value} {w1 : World} (hs : a.eval s = v) (hx : a.eval x = xv) (hrun : (Builtin.append_ #[t, t] o.type #[v, xv]).run P w = .ok v1 w1)
    (hK : wpListIn F n P ops Q rest (a.put o.dst v1) w1) : wpListIn F n P ops Q (o :: rest) a w := by
  refine wpListIn_plain hg fun K hK' => ?_
  unfold Oper.wpIn
  refine ⟨?_, ?_⟩
  · simp [Oper.about, hop, resolve, Target.leads, Sem.run_pure]
  · rw [Oper.semAt_plain F _ _ (by rw [hop]; intro c hc'; cases hc')]
    simp [execOp, hop, resolve, invoke, builtin, hs, hx, hrun, Result.andThen]
    exact hK' _ _ hK

set_option maxRecDepth 100000 in
theorem leave_parse {w W1 : World} {D : Nat} (hD : w.heap.size + 8 ≤ D) {A : Option Addr} {k c : Nat} {r1 r2 n : Int} {out : Value} (hv : Vars W1 w.heap.size (.slice A k c) r1 r2 out n) (hK : W1.heap[D]? = some (.deferred (some []))) (tmps : Array Value)
    (h2 : tmps[2]? = some (.pointer (some ⟨w.heap.size, 0, none⟩))) (h3 : tmps[3]? = some (.pointer (some ⟨w.heap.size + 1, 0, none⟩))) (h4 : tmps[4]? = some (.pointer (some ⟨w.heap.size + 2, 0, none⟩))) {R : Ending → World → Prop}
    (hR : R (.returned (.tuple #[.slice A k c, .int .i64 r1, .int .i64 r2])) (W1.putObj D (.deferred none))) : LeavesInM Fence.wide 5 Tryz.prog Tryz.f10 tmps R [{ target := .collected D, args := #[] }] .returning W1 := by
  have hv' : Vars (W1.putObj D (.deferred none)) w.heap.size (.slice A k c) r1 r2 out n := hv.of fun k _ h1 h2 => World.putObj_heap_other (by omega)
  have c0 := cell_of_heap hv'.h0 0
  have c1 := cell_of_heap hv'.h1 0
  have c2 := cell_of_heap hv'.h2 0
  simp only [List.getElem?_toArray, List.getElem?_cons_zero] at c0 c1 c2
  refine ⟨by simp, .inl ⟨_, _, rfl, run_takeDeferred hK, ?_⟩⟩
  refine ⟨.tuple #[.slice A k c, .int .i64 r1, .int .i64 r2], ?_, hR⟩
  simp [results, Tryz.results10, go_sem, h2, h3, h4, c0, c1, c2]

theorem put_chg {b : Nat} {row : Option Nat} {A B : World} (h : Chg b row A B) {D : Nat} (o : Obj) (hD : A.heap.size ≤ D) : Chg b row A (B.putObj D o) :=
  ⟨h.os, h.tape, h.output, by rw [World.putObj_size]; exact h.size, fun k hk h1 h2 => (World.putObj_heap_other (by omega)).trans (h.same k hk h1 h2)⟩

theorem deedInfo : (Tryz.prog.info? 27).map (fun i => (i.zero, i.size, i.bytes)) = some (some (.agg #[.int .i64 0, .int .i64 0, .slice none 0 0, .slice none 0 0]), k27.sz, 64) := by kernel_rfl

theorem idle_cases (x : ByteArray) : (idle (dl x) = true ∧ x.toList = []) ∨ (∃ h : 0 < x.size, ¬ x.toList = [] ∧ x.toList.isEmpty = false ∧ ((((x[0]'h).toNat : Nat) : Int) == 35) = idle (dl x)) := by
  have e := toList_data x
  cases hd : dl x with
  | nil => left; exact ⟨rfl, e.trans hd⟩
  | cons c r =>
    right
    have hd' : x.data.toList = c :: r := hd
    have hs : x.size = r.length + 1 := by rw [show x.size = x.data.toList.length from Array.length_toList.symm, hd']; rfl
    refine ⟨by omega, by rw [e, hd']; simp, by rw [e, hd']; rfl, ?_⟩
    have hc : x[0]'(by omega) = c := by
      show x.data[0]'_ = c
      rw [← Array.getElem_toList]
      simp [hd']
    rw [hc]
    simp only [idle, List.isEmpty_cons, Bool.false_or, List.head?_cons]
    rw [Bool.eq_iff_iff]
    simp only [beq_iff_eq, Option.some.injEq]
    constructor
    · intro h
      apply UInt8.toNat_inj.1
      have : (35 : UInt8).toNat = 35 := rfl
      omega
    · rintro rfl; rfl

theorem below_set {w W : World} (h : Below w.heap.size w W) {j : Nat} (hj : w.heap.size ≤ j) (v : Value) : Below w.heap.size w (W.setCell ⟨j, 0, none⟩ v) := h.setCell (p := ⟨j, 0, none⟩) hj v

theorem round_idle {w W : World} {pre : List ByteArray} {v : Value} {acc : List SP.Deed} {x : ByteArray} (h : PI w pre W v acc) (hid : idle (dl x) = true) :
    PI w (pre ++ [x]) (W.setCell ⟨w.heap.size + 4, 0, none⟩ (.int .i64 ((pre.length : Nat) + 1))) v acc := by
  refine ⟨?_, Kd.S_mono (Kd.S_far (Kd.S_bound h.row) (fun k hk => ?_) _) (fun _ _ => trivial), fun r => ?_, h.len, below_set h.below (by omega) _⟩
  · have := h.vars.set4 ((pre.length : Nat) + 1)
    simpa using this
  · have := hk.2.1
    show k ≠ w.heap.size + 4
    omega
  · have := h.run (dl x :: r)
    rw [List.map_append, List.append_assoc]
    refine this.trans ?_
    rw [parseFrom, if_pos hid, List.length_append]
    rfl

set_option maxRecDepth 100000 in
set_option maxHeartbeats 8000000 in
theorem parse_short (s : ByteArray) (w : World) (hF : FixW w) (h : ¬ 1048576 < s.size) : Calls Tryz.prog 10 #[.string s] w (PPost w (dl s)) := by
  have h' : ¬ (1048576 : Int) < (s.size : Int) := by omega
  have HF := Lib.hid hF
  have HS := Lib.hid h
  clear h hF
  refine (callsIn_wide (n := 5)).1 ?_
  refine callsIn_of_wp_marks Tryz.func10 rfl trivial ?_ rfl
  simp only [Tryz.ntmps10, List.size_toArray, List.length_cons, List.length_nil, Nat.reduceAdd, Nat.reduceSub, Array.replicate_succ, Array.replicate_zero, List.push_toArray, List.append_toArray, List.nil_append, List.cons_append]
  gi_wp2_with (fail)
  refine ⟨trivial, ?_⟩
  gi_at_call 28
  refine (callsIn_wide.2 (splitSeq_lines s _)).mono ?_
  rintro e w' ⟨rfl, rfl⟩
  gi_wp2_with (fail)
  simp only [Nat.add_assoc, Nat.reduceAdd]
  have hv : Vars ((((((((w.alloc (.cells #[.slice none 0 0] 33)).alloc (.cells #[.int .i64 0] 3)).alloc (.cells #[.int .i64 0] 28)).alloc (.cells #[.slice none 0 0] 33)).alloc (.cells #[.int .i64 0] 3)).alloc (.cells #[.string s] 9)).alloc (.cells #[.string ⟨#[10]⟩] 9)).alloc (.cells #[.int .i64 0] 3)) w.heap.size (.slice none 0 0) 0 0 (.slice none 0 0) 0 := by
    exact ⟨heap8 w _ _ _ _ _ _ _ _ 0, heap8 w _ _ _ _ _ _ _ _ 1, heap8 w _ _ _ _ _ _ _ _ 2, heap8 w _ _ _ _ _ _ _ _ 3, heap8 w _ _ _ _ _ _ _ _ 4⟩
  have hi : It ((((((((w.alloc (.cells #[.slice none 0 0] 33)).alloc (.cells #[.int .i64 0] 3)).alloc (.cells #[.int .i64 0] 28)).alloc (.cells #[.slice none 0 0] 33)).alloc (.cells #[.int .i64 0] 3)).alloc (.cells #[.string s] 9)).alloc (.cells #[.string ⟨#[10]⟩] 9)).alloc (.cells #[.int .i64 0] 3)) (w.heap.size + 6) (w.heap.size + 5) (w.heap.size + 7) s := by
    exact ⟨heap8 w _ _ _ _ _ _ _ _ 6, heap8 w _ _ _ _ _ _ _ _ 5, heap8 w _ _ _ _ _ _ _ _ 7⟩
  have hsz : ((((((((w.alloc (.cells #[.slice none 0 0] 33)).alloc (.cells #[.int .i64 0] 3)).alloc (.cells #[.int .i64 0] 28)).alloc (.cells #[.slice none 0 0] 33)).alloc (.cells #[.int .i64 0] 3)).alloc (.cells #[.string s] 9)).alloc (.cells #[.string ⟨#[10]⟩] 9)).alloc (.cells #[.int .i64 0] 3)).heap.size = w.heap.size + 8 := by simp
  have hbel : Below w.heap.size w ((((((((w.alloc (.cells #[.slice none 0 0] 33)).alloc (.cells #[.int .i64 0] 3)).alloc (.cells #[.int .i64 0] 28)).alloc (.cells #[.slice none 0 0] 33)).alloc (.cells #[.int .i64 0] 3)).alloc (.cells #[.string s] 9)).alloc (.cells #[.string ⟨#[10]⟩] 9)).alloc (.cells #[.int .i64 0] 3)) := by
    refine ((((((((Below.refl _ _).alloc ?_ _).alloc ?_ _).alloc ?_ _).alloc ?_ _).alloc ?_ _).alloc ?_ _).alloc ?_ _).alloc ?_ _ <;> simp <;> omega
  generalize ((((((((w.alloc (.cells #[.slice none 0 0] 33)).alloc (.cells #[.int .i64 0] 3)).alloc (.cells #[.int .i64 0] 28)).alloc (.cells #[.slice none 0 0] 33)).alloc (.cells #[.int .i64 0] 3)).alloc (.cells #[.string s] 9)).alloc (.cells #[.string ⟨#[10]⟩] 9)).alloc (.cells #[.int .i64 0] 3)) = W0 at hv hi hsz hbel ⊢
  have h0 : PIx w [] W0 := ⟨_, [], hv, Kd.S_nil _ _ _ _ _, fun r => rfl, by simp, hbel⟩
  have HB0 := Lib.hid hbel
  have HSZ := Lib.hid hsz
  refine wpIn_rangeB (α := ByteArray) rfl (by omega) (gf := 61) (lb := #[.pointer (some ⟨w.heap.size + 6, 0, none⟩), .pointer (some ⟨w.heap.size + 5, 0, none⟩), .pointer (some ⟨w.heap.size + 7, 0, none⟩)]) rfl trivial (enters_of Tryz.func61 (by kernel_rfl) rfl)
    (lines_seq _ (by omega) (w.heap.size + 6) (w.heap.size + 5) (w.heap.size + 7) s W0 (by have := HS.out; omega) hi (by omega) (by omega)) (by omega) (fun k hk => by omega) (fun _ => rfl)
    (PIx w) (PX w) (by rw [hsz]; exact PI.stay w _ (by omega) (by omega)) (by rw [hsz]; exact PX.stay w _ (by omega)) h0
    (fun x => { tmps := #[.string s, undef, .pointer (some ⟨w.heap.size, 0, none⟩), .pointer (some ⟨w.heap.size + 1, 0, none⟩), .pointer (some ⟨w.heap.size + 2, 0, none⟩), .pointer (some ⟨w.heap.size + 3, 0, none⟩), .pointer (some ⟨w.heap.size + 4, 0, none⟩), .string x, undef, undef, .string s, .int .i64 s.size, .bool false, .string s,
      .func (.func 61) #[] #[.pointer (some ⟨w.heap.size + 6, 0, none⟩), .pointer (some ⟨w.heap.size + 5, 0, none⟩), .pointer (some ⟨w.heap.size + 7, 0, none⟩)], .string x, undef, undef, undef, undef, undef, undef, undef, undef, undef, undef, undef, undef, undef, undef, undef, undef, undef, undef, undef, undef, undef, undef, undef, undef, undef, undef, undef, undef, undef, undef], defers := [] }) ?assign ?body ?done ?stop
  case assign =>
    intro l x W K hK
    gi_wp2
    exact hK
  case body =>
    clear h0 hi
    rintro l pre x W ⟨v, acc, hI⟩ ⟨ys, hSp⟩ hge
    have hplen : pre.length + 1 + ys.length ≤ s.size + 1 := by
      have h1 := congrArg List.length hSp
      have h2 := SP.cut_length 10 (dl s)
      rw [show (dl s).length = s.size from Array.length_toList] at h2
      simp at h1
      omega
    have hxs : x.size ≤ 1048576 := by
      have := SP.cut_each 10 (dl s) (dl x) (by rw [← hSp]; simp)
      rw [show (dl s).length = s.size from Array.length_toList, show (dl x).length = x.size from Array.length_toList] at this
      have := HS.out
      omega
    have hpl : ((pre.length : Nat) : Int) ≤ 2000000 := by have := HS.out; omega
    have hsub : s.size ≤ 1048576 := by have := HS.out; omega
    obtain ⟨A5, q5, rfl⟩ := Kd.S_slice hI.row
    have c3 := cell_of_heap hI.vars.h3 0
    have c4 := cell_of_heap hI.vars.h4 0
    have f3 := frozen_of_heap hI.vars.h3 0
    have f4 := frozen_of_heap hI.vars.h4 0
    simp only [List.getElem?_toArray, List.getElem?_cons_zero, List.length_map] at c3 c4
    have HI := Lib.hid hI
    have HSP := Lib.hid hSp
    have HPL := Lib.hid hplen
    clear hI hSp hplen hsz hbel hv
    have hks : ∀ (W W' : World), Chg w.heap.size none W W' → W0.heap.size ≤ W.heap.size → KeepsFrom W0.heap.size W W' ∧ ∀ k, k = w.heap.size + 6 ∨ k = w.heap.size + 5 ∨ k = w.heap.size + 7 → W'.heap[k]? = W.heap[k]? := fun W W' h hs =>
      ⟨h.keeps (by have := HSZ.out; omega) (fun k e => by cases e), fun k hk => h.same k (by have := HSZ.out; omega) (by omega) (by simp)⟩
    have HKS := Lib.hid hks
    clear hks
    by_cases hidle : idle (dl x) = true
    · have HR := Lib.hid (round_idle HI.out hidle)
      have HK := Lib.hid (HKS.out W _ (Chg.set W (j := w.heap.size + 4) (by omega) (by omega) 0 (.int .i64 ((pre.length : Nat) + 1))) hge)
      rcases idle_cases x with ⟨_, hx0⟩ | ⟨hx1, hx2, hx3, hx4⟩
      · clear hidle
        gi_wp2
        exact ⟨HK.out.1, HK.out.2, _, _, HR.out⟩
      · rw [hidle] at hx4
        clear hidle
        gi_wp2
        exact ⟨HK.out.1, HK.out.2, _, _, HR.out⟩
    · obtain ⟨h1, h2, h3, h4⟩ : ∃ h : 0 < x.size, ¬ x.toList = [] ∧ x.toList.isEmpty = false ∧ ((((x[0]'h).toNat : Nat) : Int) == 35) = idle (dl x) := by
        rcases idle_cases x with ⟨h, _⟩ | h
        · exact absurd h hidle
        · exact h
      rw [Bool.eq_false_iff.2 hidle] at h4
      have hU : script_Unline.f x = some ((told (dl x)).1.kind, (told (dl x)).1.n, SP.nums8 (told (dl x)).1.bytes, (told (dl x)).1.again, (told (dl x)).2) := by
        unfold script_Unline.f
        rw [if_pos (by omega)]
      have hW1 : FixW (W.setCell ⟨w.heap.size + 4, 0, none⟩ (.int .i64 ((pre.length : Nat) + 1))) := HF.out.below (below_set HI.out.below (by omega) _)
      have hcall := script_Unline.calls x _ _ _ _ _ _ hU hW1
      have HC := Lib.hid hcall
      clear hcall hU hW1
      generalize htd : told (dl x) = td at HC
      have HTD := Lib.hid htd
      clear htd
      obtain ⟨⟨kd, nn, by_, ag⟩, er⟩ := td
      dsimp only at HC
      gi_wp2_with (fail)
      refine ⟨trivial, ?_⟩
      refine (CallsIn.inRound l (callsIn_wide.2 HC.out)).mono ?_
      rintro e w2 ⟨v2, v3, rfl, r2, r3, hb2⟩
      have HB2 := Lib.hid hb2
      have HR2 := Lib.hid r2
      have HR3 := Lib.hid r3
      obtain ⟨A2, q2, rfl⟩ := Kd.R_slice r2
      obtain ⟨A3, q3, rfl⟩ := Kd.R_slice r3
      have hvars : Vars w2 w.heap.size (.slice none 0 0) 0 0 (.slice A5 acc.length q5) ((pre.length : Nat) + 1) := by
        rw [← List.length_map (f := sOf)]
        exact (HI.out.vars.set4 _).of fun k hk _ _ => hb2.block k hk
      have c3 := cell_of_heap hvars.h3 0
      have c4 := cell_of_heap hvars.h4 0
      have c0 := cell_of_heap hvars.h0 0
      have c1 := cell_of_heap hvars.h1 0
      have c2 := cell_of_heap hvars.h2 0
      have f0 := frozen_of_heap hvars.h0 0
      have f1 := frozen_of_heap hvars.h1 0
      have f2 := frozen_of_heap hvars.h2 0
      have f3 := frozen_of_heap hvars.h3 0
      simp only [List.getElem?_toArray, List.getElem?_cons_zero] at c0 c1 c2 c3 c4
      have HV := Lib.hid hvars
      have hlt3 : w.heap.size + 3 < w2.heap.size := (Array.getElem?_eq_some_iff.1 hvars.h3).1
      clear r2 r3 hb2 hvars HC h2 h3 h4
      by_cases htold : er = 0
      · by_cases hfull : 1000 ≤ acc.length
        · subst htold
          have hful : (1000 : Int) ≤ ((acc.length : Nat) : Int) := by omega
          gi_wp2
          have hmx : Tryz.prog.follows .mixedOrders = true := by kernel_rfl
          have hvz : Vars (w2.alloc (.cells #[.int .i64 kd, .int .i64 nn, .slice A2 (SP.nums8 by_).length q2, .slice A3 ag.length q3] 27)) w.heap.size (.slice none 0 0) 0 0 (.slice A5 acc.length q5) ((pre.length : Nat) + 1) := HV.out.of fun k hk _ _ => Below.heap_alloc _ _ _ hk
          clear c0 c1 c2 c3 c4 f0 f1 f2 f3 f4
          have hch : Chg w.heap.size none W (w2.alloc (.cells #[.int .i64 kd, .int .i64 nn, .slice A2 (SP.nums8 by_).length q2, .slice A3 ag.length q3] 27)) :=
            ((Chg.set W (j := w.heap.size + 4) (by omega) (by omega) 0 _).trans (Chg.below HB2.out)).trans (Chg.below (below_alloc (Below.refl _ _) _))
          generalize (w2.alloc (.cells #[.int .i64 kd, .int .i64 nn, .slice A2 (SP.nums8 by_).length q2, .slice A3 ag.length q3] 27)) = W3 at hvz hch ⊢
          have HCH := Lib.hid hch
          clear hch
          have c0 := cell_of_heap hvz.h0 0
          have c1 := cell_of_heap hvz.h1 0
          have c2 := cell_of_heap hvz.h2 0
          have c4 := cell_of_heap hvz.h4 0
          have f0 := frozen_of_heap hvz.h0 0
          have f1 := frozen_of_heap hvz.h1 0
          have f2 := frozen_of_heap hvz.h2 0
          simp only [List.getElem?_toArray, List.getElem?_cons_zero] at c0 c1 c2 c4
          have HVZ := Lib.hid hvz
          clear hvz
          gi_region_with_o (fail)
          all_goals gi_wp2
          all_goals
            refine ⟨(HKS.out W _ ?_ hge).1, round_bad (out := .slice A5 acc.length q5) (n' := (pre.length : Nat) + 1) HI.out hidle HTD.out (.inr ⟨rfl, hfull, rfl⟩) ?_ ?_⟩
            · apply Chg.drew
              repeat (first | exact HCH.out | apply Chg.and0 | apply Chg.and1 | apply Chg.and2)
            · apply Chg.drew
              repeat (first | exact HCH.out | apply Chg.and0 | apply Chg.and1 | apply Chg.and2)
            · apply Vars.drew
              repeat (first | exact HVZ.out | apply Vars.set0 | apply Vars.set1 | apply Vars.set2)
        · subst htold
          have hful : ¬ (1000 : Int) ≤ ((acc.length : Nat) : Int) := by omega
          have hrow := HI.out.row
          have hlt0 := Kd.S_lt hrow
          have hbs0 := Kd.S_base hrow
          rw [List.length_map] at hlt0 hbs0 hrow
          have hsW : (W.setCell ⟨w.heap.size + 4, 0, none⟩ (.int .i64 ((pre.length : Nat) + 1))).heap.size = W.heap.size := by simp [World.setCell]
          have hS1 : Kd.S k27 27 (w2.alloc (.cells #[.int .i64 kd, .int .i64 nn, .slice A2 (SP.nums8 by_).length q2, .slice A3 ag.length q3] 27)) (w.heap.size + 8) (fun k => True ∧ ¬ W.heap.size ≤ k) (.slice A5 acc.length q5) (acc.map sOf) := by
            refine Kd.S_mono (Kd.S_alloc (Kd.S_below (Kd.S_far (Kd.S_bound hrow) (fun k hk => ?_) _) HB2.out) _) (fun k hk => ⟨trivial, by have := hk.2.2.1; omega⟩)
            have := hk.2.1
            show k ≠ w.heap.size + 4
            omega
          have hM : k27.M (w2.alloc (.cells #[.int .i64 kd, .int .i64 nn, .slice A2 (SP.nums8 by_).length q2, .slice A3 ag.length q3] 27)) (w.heap.size + 8) (fun k => W.heap.size ≤ k) (sOf ⟨kd, nn, by_, ag⟩) [.int .i64 kd, .int .i64 nn, .slice A2 (SP.nums8 by_).length q2, .slice A3 ag.length q3] := by
            refine k27_mkM _ _ _ (sOf ⟨kd, nn, by_, ag⟩) (Kd.R_below (Kd.R_lower (Kd.R_mono (Kd.R_bound HR2.out) (fun k hk => ?_)) ?_) (below_alloc (Below.refl _ _) _)) (Kd.R_below (Kd.R_lower (Kd.R_mono (Kd.R_bound HR3.out) (fun k hk => ?_)) ?_) (below_alloc (Below.refl _ _) _))
            · have := hk.2.1; rw [hsW] at this; exact this
            · rw [hsW]; have := HSZ.out; omega
            · have := hk.2.1; rw [hsW] at this; exact this
            · rw [hsW]; have := HSZ.out; omega
          obtain ⟨g, cap, w4, hrun, hS4, hg4, hlt4⟩ := S_append_run (P := Tryz.prog) k27 (w.heap.size + 8) 33 33 27 _ 64 Tryz.underlying33 deedInfo rfl (by decide) (by decide) (.slice A5 acc.length q5) (acc.map sOf) (sOf ⟨kd, nn, by_, ag⟩) _ (fun _ => True) (fun k => W.heap.size ≤ k) hM
            (fun k hk => ⟨trivial, fun e => by have := hlt0 k e.symm; omega⟩) (fun _ _ => trivial) hS1 (by have := HB2.out.size; rw [hsW] at this; simp; have := HSZ.out; omega) (by rw [List.length_map]; omega)
          rw [List.length_map] at hrun hS4
          have hch : Chg w.heap.size none W (w2.alloc (.cells #[.int .i64 kd, .int .i64 nn, .slice A2 (SP.nums8 by_).length q2, .slice A3 ag.length q3] 27)) :=
            ((Chg.set W (j := w.heap.size + 4) (by omega) (by omega) 0 _).trans (Chg.below HB2.out)).trans (Chg.below (below_alloc (Below.refl _ _) _))
          have hvz : Vars (w2.alloc (.cells #[.int .i64 kd, .int .i64 nn, .slice A2 (SP.nums8 by_).length q2, .slice A3 ag.length q3] 27)) w.heap.size (.slice none 0 0) 0 0 (.slice A5 acc.length q5) ((pre.length : Nat) + 1) := HV.out.of fun k hk _ _ => Below.heap_alloc _ _ _ hk
          have HEND := Lib.hid (round_more HI.out hidle HTD.out hfull hch hvz hg4 hS4)
          have hk3 : ∃ old, w4.heap[w.heap.size + 3]? = some (.cells #[old] 33 (0, 0)) := ⟨_, (hg4.block _ (Array.getElem?_eq_some_iff.1 hvz.h3).1 (fun e => by have := hbs0 _ e.symm; omega)).trans hvz.h3⟩
          obtain ⟨old, hk3⟩ := hk3
          have c43 := cell_of_heap hk3 0
          have f43 := frozen_of_heap hk3 0
          simp only [List.getElem?_toArray, List.getElem?_cons_zero] at c43
          simp only [World.size_alloc] at hrun
          have HRUN := Lib.hid hrun
          have HCS := Lib.hid (cells_S HI.out.row)
          have HB0 := Lib.hid hbs0
          clear hrow hlt0 hbs0 hsW hS1 hM hrun hS4 hg4 hlt4 hch hvz hk3
          gi_wp2_with (gi_at_builtin; refine wpListIn_append_run rfl (.tmp 41) (.tmp 43) 33 rfl rfl rfl HRUN.out ?_)
          exact ⟨HEND.out.2.keeps (by have := HSZ.out; omega) (by have := HCS.out; rw [List.length_map] at this; exact this), fun k hk => HEND.out.2.same k (by have := HSZ.out; omega) (by omega) (fun e => by have := HB0.out k e.symm; omega), _, _, HEND.out.1⟩
      · have he1 : (er == 0) = false := beq_eq_false_iff_ne.2 htold
        have he2 : (er != 0) = true := bne_iff_ne.2 htold
        gi_wp2
        have hmx : Tryz.prog.follows .mixedOrders = true := by kernel_rfl
        have hvz : Vars (w2.alloc (.cells #[.int .i64 kd, .int .i64 nn, .slice A2 (SP.nums8 by_).length q2, .slice A3 ag.length q3] 27)) w.heap.size (.slice none 0 0) 0 0 (.slice A5 acc.length q5) ((pre.length : Nat) + 1) := HV.out.of fun k hk _ _ => Below.heap_alloc _ _ _ hk
        clear c0 c1 c2 c3 c4 f0 f1 f2 f3 f4
        have hch : Chg w.heap.size none W (w2.alloc (.cells #[.int .i64 kd, .int .i64 nn, .slice A2 (SP.nums8 by_).length q2, .slice A3 ag.length q3] 27)) :=
          ((Chg.set W (j := w.heap.size + 4) (by omega) (by omega) 0 _).trans (Chg.below HB2.out)).trans (Chg.below (below_alloc (Below.refl _ _) _))
        generalize (w2.alloc (.cells #[.int .i64 kd, .int .i64 nn, .slice A2 (SP.nums8 by_).length q2, .slice A3 ag.length q3] 27)) = W3 at hvz hch ⊢
        have HCH := Lib.hid hch
        clear hch
        have c0 := cell_of_heap hvz.h0 0
        have c1 := cell_of_heap hvz.h1 0
        have c2 := cell_of_heap hvz.h2 0
        have c4 := cell_of_heap hvz.h4 0
        have f0 := frozen_of_heap hvz.h0 0
        have f1 := frozen_of_heap hvz.h1 0
        have f2 := frozen_of_heap hvz.h2 0
        simp only [List.getElem?_toArray, List.getElem?_cons_zero] at c0 c1 c2 c4
        have HVZ := Lib.hid hvz
        clear hvz
        gi_region_with_o (fail)
        all_goals gi_wp2
        all_goals
          refine ⟨(HKS.out W _ ?_ hge).1, round_bad (out := .slice A5 acc.length q5) (n' := (pre.length : Nat) + 1) HI.out hidle HTD.out (.inl ⟨htold, rfl⟩) ?_ ?_⟩
          · apply Chg.drew
            repeat (first | exact HCH.out | apply Chg.and0 | apply Chg.and1 | apply Chg.and2)
          · apply Chg.drew
            repeat (first | exact HCH.out | apply Chg.and0 | apply Chg.and1 | apply Chg.and2)
          · apply Vars.drew
            repeat (first | exact HVZ.out | apply Vars.set0 | apply Vars.set1 | apply Vars.set2)
  case done =>
    clear h0 hi
    rintro D xs W hD hS ⟨v, acc, hI⟩ hK
    obtain ⟨A5, q5, rfl⟩ := Kd.S_slice hI.row
    have c0 := cell_of_heap hI.vars.h0 0
    have c1 := cell_of_heap hI.vars.h1 0
    have c2 := cell_of_heap hI.vars.h2 0
    have c3 := cell_of_heap hI.vars.h3 0
    have f0 := frozen_of_heap hI.vars.h0 0
    have f1 := frozen_of_heap hI.vars.h1 0
    have f2 := frozen_of_heap hI.vars.h2 0
    simp only [List.getElem?_toArray, List.getElem?_cons_zero] at c0 c1 c2 c3
    have HI := Lib.hid hI
    have HK := Lib.hid hK
    have HS2 := Lib.hid hS
    clear hI hK hS hsz hbel hv
    gi_wp2
    have hv1 : Vars (((W.setCell ⟨w.heap.size, 0, none⟩ (.slice A5 (acc.map sOf).length q5)).setCell ⟨w.heap.size + 1, 0, none⟩ (.int .i64 0)).setCell ⟨w.heap.size + 2, 0, none⟩ (.int .i64 0)) w.heap.size (.slice A5 (acc.map sOf).length q5) 0 0 (.slice A5 (acc.map sOf).length q5) xs.length :=
      ((HI.out.vars.set0 _).set1 _).set2 _
    have hc1 : Chg w.heap.size none W (((W.setCell ⟨w.heap.size, 0, none⟩ (.slice A5 (acc.map sOf).length q5)).setCell ⟨w.heap.size + 1, 0, none⟩ (.int .i64 0)).setCell ⟨w.heap.size + 2, 0, none⟩ (.int .i64 0)) :=
      (((Chg.refl _ _ W).and0 _).and1 _).and2 _
    have hDW : D < W.heap.size := (Array.getElem?_eq_some_iff.1 HK.out).1
    have hK2 := (hc1.same D hDW (by have := HSZ.out; omega) (by simp)).trans HK.out
    rw [List.length_map] at hv1 hc1 hK2
    refine leave_parse (w := w) (by have := HSZ.out; omega) hv1 hK2 _ rfl rfl rfl ?_
    have hp : parsed (dl s) = (acc, 0, 0) := by
      unfold parsed
      rw [if_pos (by have := HS.out; rw [show (dl s).length = s.size from Array.length_toList]; omega)]
      have := HI.out.run []
      rw [List.append_nil, HS2.out] at this
      exact this
    have hg1 := grownBy_putObj' (((W.setCell ⟨w.heap.size, 0, none⟩ (.slice A5 acc.length q5)).setCell ⟨w.heap.size + 1, 0, none⟩ (.int .i64 0)).setCell ⟨w.heap.size + 2, 0, none⟩ (.int .i64 0)) D (.deferred none)
    refine ⟨_, by rw [hp], ?_, ?_⟩
    · rw [hp]
      have hrow := HI.out.row
      rw [List.length_map] at hrow
      have h1 := Kd.S_mono (Kd.S_step (Kd.S_bound hrow) (w1 := (((W.setCell ⟨w.heap.size, 0, none⟩ (.slice A5 acc.length q5)).setCell ⟨w.heap.size + 1, 0, none⟩ (.int .i64 0)).setCell ⟨w.heap.size + 2, 0, none⟩ (.int .i64 0))) (fun k hk hlt => hc1.same k hlt (by have := hk.2.1; omega) (by simp))) (ok' := fun _ => True) (fun _ _ => trivial)
      refine Kd.S_lower (Kd.S_mono (Kd.S_grown (Kd.S_bound h1) hg1 (fun k hk e => ?_)) (fun _ _ => trivial)) (by omega)
      obtain ⟨_, _, _, q, _, c, hc⟩ := hk
      injection e with e
      rw [e, hK2] at hc
      cases hc
    · refine Below.grown (hc1.old HI.out.below (fun k e => by cases e) (Nat.le_refl _)) hg1 ?_ (fun k e => by cases e; have := HSZ.out; omega)
      exact (hc1.old HI.out.below (fun k e => by cases e) (Nat.le_refl _)).size
  case stop =>
    clear h0 hi
    rintro D pre W hD ⟨ys, hSp⟩ ⟨out, n, n', e, hv1, hrun, hb1⟩ hK
    have HX := Lib.hid hv1
    have HRN := Lib.hid hrun
    have HBX := Lib.hid hb1
    have HK := Lib.hid hK
    have HSP := Lib.hid hSp
    clear hv1 hrun hb1 hK hSp hsz hbel hv
    gi_wp2
    refine leave_parse (w := w) (by have := HSZ.out; omega) HX.out HK.out _ rfl rfl rfl ?_
    have hp : parsed (dl s) = ([], n, e) := by
      unfold parsed
      rw [if_pos (by have := HS.out; rw [show (dl s).length = s.size from Array.length_toList]; omega), ← HSP.out]
      exact HRN.out ys
    refine ⟨_, by rw [hp], by rw [hp]; exact Kd.S_nil _ _ _ _ _, HBX.out.grown (grownBy_putObj' W D (.deferred none)) HBX.out.size (fun k e => by cases e; have := HSZ.out; omega)⟩

def script_Parse.f (s : ByteArray) : Option (List S27 × Int × Int) := some ((parsed s.data.toList).1.map sOf, (parsed s.data.toList).2.1, (parsed s.data.toList).2.2)
theorem script_Parse.calls (a0 : ByteArray) (r1 : List S27) (r2 r3 : Int) (w : World) (h : script_Parse.f a0 = some (r1, r2, r3)) (hF : FixW w) :
    Calls Tryz.prog 10 #[.string a0] w fun e w' => ∃ v0_ : Value, e = .returned (.tuple #[v0_, .int .i64 r2, .int .i64 r3]) ∧ Kd.S k27 27 w' w.heap.size (fun _ => True) v0_ r1 ∧ Below w.heap.size w w' := by
  obtain ⟨rfl, rfl, rfl⟩ : (parsed a0.data.toList).1.map sOf = r1 ∧ (parsed a0.data.toList).2.1 = r2 ∧ (parsed a0.data.toList).2.2 = r3 := by
    unfold script_Parse.f at h
    injection h with h; injection h with h1 h; injection h with h2 h3
    exact ⟨h1, h2, h3⟩
  by_cases hl : 1048576 < a0.size
  · exact parse_long a0 w hl
  · exact parse_short a0 w hF hl
end Go.Proofs.YtdfaljcdphbgdaaGreatDoor.PL
