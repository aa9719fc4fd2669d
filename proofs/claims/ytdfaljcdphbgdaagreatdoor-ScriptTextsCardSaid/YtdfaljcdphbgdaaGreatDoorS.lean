/- strings.SplitSeq at a text's lines: the iterator's contract. -/
import Derived.RangeFuncWrites
import Derived.RangeFuncBound
import Derived.RangeFuncCalls
import Derived.RangeFuncLeaves
import Derived.Test.YtdfaljcdphbgdaaGreatDoorC
import Derived.Test.YtdfaljcdphbgdaaGreatDoorPlainC
import Derived.Shelf.Abstract
import Derived.Shelf.RegionOpen
import Derived.WalkKit
import Derived.OwnWalkIn
import Derived.TacticsInMore
import Derived.LoopNIn
import Derived.LoopIn
namespace Go.Proofs.YtdfaljcdphbgdaaGreatDoor
set_option linter.unusedVariables false
open Go Go.RowKit

/-- WHAT THE ITERATOR OWES. It stores into block bs (its own box) and into nothing else that lay; its rounds leave the blocks ks alone. -/
def SeqB {α : Type} (F : Fence) (n : Nat) (P : Program) (g : Nat) (lb : Array Value) (encs : α → Array Value) (bs : Nat) (ks : Nat → Prop) (S Sp : List α → Prop) (w : World) : Prop :=
  ∀ (l : Nat) (J Jx : List α → World → Prop) (W : World), Below w.heap.size w W →
    (∀ s A C, J s A → A.grownBy C (some bs) → J s C) → (∀ s A C, Jx s A → A.grownBy C (some bs) → Jx s C) →
    (∀ pre x W1, J pre W1 → Sp (pre ++ [x]) → YieldAt F (n - 1) P l (encs x) W1 fun e W' =>
      (e = .returned (.bool true) ∧ J (pre ++ [x]) W' ∧ ∀ k, ks k → W'.heap[k]? = W1.heap[k]?) ∨ (e = .returned (.bool false) ∧ Jx (pre ++ [x]) W')) →
    J [] W →
    CallsIn F n P g (#[.func (.yield l) #[] #[]] ++ lb) W fun e W' => (∃ v, e = .returned v) ∧ ((∃ xs, S xs ∧ J xs W') ∨ (∃ pre, Sp pre ∧ Jx pre W'))

/-- What the caller says of the world abides the iterator's stores, and the turns of blocks that are no cells and lie beyond B. -/
def Stay {β : Type} (bs B : Nat) (I : β → World → Prop) : Prop :=
  ∀ s A C row, I s A → A.grownBy C row → (∀ r, row = some r → r = bs ∨ (B ≤ r ∧ ∃ o : Obj, A.heap[r]? = some o ∧ o.isCells = false)) → I s C

/-- How the body of a round may be left: off its end, or by a return. -/
def postB {α : Type} (B : Nat) (ks : Nat → Prop) (I X : List α → World → Prop) (xs : List α) (W : World) : Exit → Act → World → Prop
  | .normal, _, W' => KeepsFrom B W W' ∧ (∀ k, ks k → W'.heap[k]? = W.heap[k]?) ∧ I xs W'
  | .ret, _, W' => KeepsFrom B W W' ∧ X xs W'
  | .exit _, _, _ => False
  | .goto _, _, _ => False
  | .panic _, _, _ => False
  | .outgrown, _, _ => False

theorem wpIn_rangeB {F : Fence} {n : Nat} {P : Program} {α : Type} {g : Operand} {ps : Array Tmp} {assign body : Code} {Q : Exit → Act → World → Prop} {a : Act} {w : World}
    (hro : F.round = none) (h1 : 1 ≤ n) {gf : Nat} {lb : Array Value} (hg : a.eval g = .func (.func gf) #[] lb) (hFg : F.fn gf) (eg : ∀ args w, (callFunc gf args).run P w = .ok (.enter gf args) w)
    {encs : α → Array Value} {bs : Nat} {ks : Nat → Prop} {S Sp : List α → Prop} (hseq : SeqB F (n - 1) P gf lb encs bs ks S Sp w) (hbs : bs < w.heap.size) (hks : ∀ k, ks k → k < w.heap.size)
    (hps : ∀ x, (encs x).size = ps.size) (I X : List α → World → Prop) (hI : Stay bs w.heap.size I) (hX : Stay bs w.heap.size X) (h0 : I [] w) (a₁ : α → Act)
    (hassign : ∀ (l : Nat) (x : α) (W : World) (K : Act → World → Prop), K (a₁ x) W →
      assign.wpIn (F.inRound l) (n - 1 - 1) P (Exit.then K (fun _ _ _ => False)) { tmps := (ps.zip (encs x)).foldl (fun t (p, v) => t.setIfInBounds p v) a.tmps, defers := [] } W)
    (hbody : ∀ (l : Nat) (pre : List α) (x : α) (W : World), I pre W → Sp (pre ++ [x]) → w.heap.size ≤ W.heap.size → body.wpIn (F.inRound l) (n - 1 - 1) P (postB w.heap.size ks I X (pre ++ [x]) W) (a₁ x) W)
    (hdone : ∀ (D : Nat) (xs : List α) (W : World), w.heap.size ≤ D → S xs → I xs W → W.heap[D]? = some (.deferred (some [])) → Q .normal { a with defers := { target := .collected D, args := #[] } :: a.defers } W)
    (hstop : ∀ (D : Nat) (pre : List α) (W : World), w.heap.size ≤ D → Sp pre → X pre W → W.heap[D]? = some (.deferred (some [])) → Code.ret.wpIn F n P Q { a with defers := { target := .collected D, args := #[] } :: a.defers } W) :
    (Code.rangeFunc g ps assign body).wpIn F n P Q a w := by
  refine wpIn_rangeFunc ?_
  intro fn hfn
  rw [hro]
  have hM : ∃ rec : LoopState → Option Code → Loop, rec = fun st pe => { state := st, pending := pe, fn, tmps := a.tmps, params := ps, assign, body, defers := w.heap.size } := ⟨_, rfl⟩
  obtain ⟨rec, hrec⟩ := hM
  have hst : ∀ {I : List α → World → Prop}, Stay bs w.heap.size I → ∀ {s : List α} {W : World} {l : Nat} {o : Obj} (o' : Obj), I s W → w.heap.size ≤ l → W.heap[l]? = some o → o.isCells = false → I s (W.putObj l o') :=
    fun h s W l o o' hs hB hl ho => h s W _ (some l) hs (grownBy_putObj' W l o') (fun r e => by cases e; exact .inr ⟨hB, o, hl, ho⟩)
  have hal : ∀ {s : List α} {W : World} (o : Obj), I s W → I s (W.alloc o) := fun o hs => hI _ _ _ none hs (World.grownBy_alloc _ o none) (fun r e => by cases e)
  generalize hW1 : (w.alloc (.deferred (some []))).alloc (.loop (rec .ready none)) = W1
  have hL1 : W1.heap[w.heap.size + 1]? = some (.loop (rec .ready none)) := by
    rw [← hW1]
    have := World.alloc_heap_new (w.alloc (.deferred (some []))) (.loop (rec .ready none))
    rwa [World.size_alloc] at this
  have hK1 : W1.heap[w.heap.size]? = some (.deferred (some [])) := by
    rw [← hW1]
    exact (Below.heap_alloc _ _ _ (by simp)).trans (World.alloc_heap_new w _)
  have hI1 : I [] W1 := by rw [← hW1]; exact hal _ (hal _ h0)
  have hb1 : Below w.heap.size w W1 := by rw [← hW1]; exact ((Below.refl _ w).alloc (Nat.le_refl _) _).alloc (by simp) _
  refine ⟨w.heap.size + 1, [{ target := .collected w.heap.size, args := #[] }], W1, { target := .fn (.func gf) lb, args := #[.func (.yield (w.heap.size + 1)) #[] #[]] }, W1, gf, #[.func (.yield (w.heap.size + 1)) #[] #[]] ++ lb, W1, ?_, ?_, ?_, ?_, fun _ => h1, ?_⟩
  · rw [← hW1, hrec]
    exact run_enterLoop_outer _ _ _ _ _
  · simp only [resolve, hg]
    simp [go_sem]
  · intro f' hf'
    simp [Target.leads] at hf'
    subst hf'
    exact hFg
  · simp [invoke, go_sem, eg]
  have far : ∀ {A C : World} {k : Nat} {o : Obj}, A.grownBy C (some bs) → w.heap.size ≤ k → A.heap[k]? = some o → C.heap[k]? = some o :=
    fun hg' hk ho => (hg'.block _ (Array.getElem?_eq_some_iff.1 ho).1 (by simp; omega)).trans ho
  refine (hseq (w.heap.size + 1)
    (fun pre W => (I pre W ∧ w.heap.size ≤ W.heap.size) ∧ W.heap[w.heap.size + 1]? = some (.loop (rec .ready none)) ∧ W.heap[w.heap.size]? = some (.deferred (some [])))
    (fun pre W => X pre W ∧ W.heap[w.heap.size + 1]? = some (.loop (rec .done (some .ret))) ∧ W.heap[w.heap.size]? = some (.deferred (some [])))
    W1 hb1
    (fun s A C hs hg' => ⟨⟨hI s A C _ hs.1.1 hg' (fun r e => by cases e; exact .inl rfl), Nat.le_trans hs.1.2 hg'.size⟩, far hg' (by omega) hs.2.1, far hg' (Nat.le_refl _) hs.2.2⟩)
    (fun s A C hs hg' => ⟨hX s A C _ hs.1 hg' (fun r e => by cases e; exact .inl rfl), far hg' (by omega) hs.2.1, far hg' (Nat.le_refl _) hs.2.2⟩)
    ?_ ⟨⟨hI1, hb1.size⟩, hL1, hK1⟩).mono ?_
  · rintro pre x W ⟨⟨hi, hsz⟩, hl, hk⟩ hlen
    have hlt : w.heap.size + 1 < W.heap.size := (Array.getElem?_eq_some_iff.1 hl).1
    have hy := run_yield (P := P) (args := encs x) hl (by rw [hrec]; exact hps x)
    rw [hrec] at hy
    refine ⟨fn, _, assign, body, hy, roundIn_of_wpIn hfn (hassign _ x W _ ⟨_, run_beginRound hl (by rw [hrec]), ?_⟩)⟩
    generalize hbz : ({ rec .ready none with state := .busy } : Loop) = busy
    have hl2 : (W.putObj (w.heap.size + 1) (.loop busy)).heap[w.heap.size + 1]? = some (.loop busy) := World.putObj_heap_same hlt
    have hk2 : (W.putObj (w.heap.size + 1) (.loop busy)).heap[w.heap.size]? = some (.deferred (some [])) := (World.putObj_heap_other (by omega)).trans hk
    refine wpIn_mono (hbody _ pre x _ (hst hI _ hi (by omega) hl rfl) hlen (by rw [World.putObj_size]; exact hsz)) ?_
    have fin : ∀ (jump : Option Code) (W3 : World), KeepsFrom w.heap.size (W.putObj (w.heap.size + 1) (.loop busy)) W3 →
        (Instr.endRound (w.heap.size + 1) jump).run P W3 = .ok (.bool jump.isNone) (W3.putObj (w.heap.size + 1) (.loop (rec (if jump.isNone then .ready else .done) jump))) ∧
        W3.heap[w.heap.size + 1]? = some (.loop busy) ∧
        (W3.putObj (w.heap.size + 1) (.loop (rec (if jump.isNone then .ready else .done) jump))).heap[w.heap.size + 1]? = some (.loop (rec (if jump.isNone then .ready else .done) jump)) ∧
        (W3.putObj (w.heap.size + 1) (.loop (rec (if jump.isNone then .ready else .done) jump))).heap[w.heap.size]? = some (.deferred (some [])) := fun jump W3 hk3 => by
      have hl3 := hk3.same _ _ (by omega) hl2 rfl
      refine ⟨?_, hl3, World.putObj_heap_same (Array.getElem?_eq_some_iff.1 hl3).1, (World.putObj_heap_other (by omega)).trans (hk3.same _ _ (Nat.le_refl _) hk2 rfl)⟩
      have := run_endRound (P := P) jump hl3
      rw [this, ← hbz, hrec]
    rintro e a3 W3 hp
    cases e with
    | normal =>
      obtain ⟨hk3, hkp3, hi3⟩ := hp
      obtain ⟨hr, hl3, hl4, hk4⟩ := fin none W3 hk3
      refine ⟨_, _, hr, .inl ⟨rfl, ⟨⟨hst hI _ hi3 (by omega) hl3 rfl, by have := hk3.size; rw [World.putObj_size] at this; rw [World.putObj_size]; omega⟩, hl4, hk4⟩, fun k hkk => ?_⟩⟩
      have hkl := hks k hkk
      exact (World.putObj_heap_other (by omega)).trans ((hkp3 k hkk).trans (World.putObj_heap_other (by omega)))
    | ret =>
      obtain ⟨hk3, hi3⟩ := hp
      obtain ⟨hr, hl3, hl4, hk4⟩ := fin (some .ret) W3 hk3
      exact ⟨_, _, hr, .inr ⟨rfl, hst hX _ hi3 (by omega) hl3 rfl, hl4, hk4⟩⟩
    | exit id => exact hp.elim
    | goto t => exact hp.elim
    | panic ch => exact hp.elim
    | outgrown => exact hp.elim
  · rintro e W2 ⟨⟨v, rfl⟩, (⟨xs, hS, ⟨hi, _⟩, hl, hk⟩ | ⟨pre, hSp, hi, hl, hk⟩)⟩
    · have hend := run_endLoop (P := P) hl (by rw [hrec]; simp)
      rw [hrec] at hend
      exact ⟨none, _, hend, hdone _ xs _ (Nat.le_refl _) hS (hst hI _ hi (by omega) hl rfl) ((World.putObj_heap_other (by omega)).trans hk)⟩
    · have hend := run_endLoop (P := P) hl (by rw [hrec]; simp)
      rw [hrec] at hend
      exact ⟨some .ret, _, hend, hstop _ pre _ (Nat.le_refl _) hSp (hst hX _ hi (by omega) hl rfl) ((World.putObj_heap_other (by omega)).trans hk)⟩
end Go.Proofs.YtdfaljcdphbgdaaGreatDoor
namespace Go.Proofs.YtdfaljcdphbgdaaGreatDoor
set_option linter.unusedVariables false
set_option linter.unusedSimpArgs false
open Go Go.RowKit Go.Shelf
attribute [local go_sem] Oper.semAt_some

theorem ib_hit (c : UInt8) : ∀ (a b : SP.B), c ∉ a → Lib.indexByte (a ++ c :: b) c = (a.length : Nat)
  | [], b, _ => by simp [Lib.indexByte]
  | x :: r, b, h => by
    have h1 : (x == c) = false := by simpa using fun e => h (by simp [e])
    have ih := ib_hit c r b (fun e => h (by simp [e]))
    rw [List.cons_append, Lib.indexByte, h1, ih]
    simp
theorem ib_miss (c : UInt8) : ∀ (a : SP.B), c ∉ a → Lib.indexByte a c = -1
  | [], _ => rfl
  | x :: r, h => by
    have h1 : (x == c) = false := by simpa using fun e => h (by simp [e])
    have ih := ib_miss c r (fun e => h (by simp [e]))
    rw [Lib.indexByte, h1, ih]
    rfl

/-- the iterator's three boxes -/
structure It (W : World) (bsep bs bsv : Nat) (rest : ByteArray) : Prop where
  sep : W.heap[bsep]? = some (.cells #[.string ⟨#[10]⟩] 9 (0, 0))
  s : W.heap[bs]? = some (.cells #[.string rest] 9 (0, 0))
  sv : W.heap[bsv]? = some (.cells #[.int .i64 0] 3 (0, 0))

def leftS (W : World) (bs : Nat) : Nat := match W.cell? ⟨bs, 0, none⟩ with | some (.string t) => t.size | _ => 0

theorem It.of {W W' : World} {a b c : Nat} {r : ByteArray} (h : It W a b c r) (hk : ∀ k, k = a ∨ k = b ∨ k = c → W'.heap[k]? = W.heap[k]?) : It W' a b c r :=
  ⟨(hk _ (.inl rfl)).trans h.sep, (hk _ (.inr (.inl rfl))).trans h.s, (hk _ (.inr (.inr rfl))).trans h.sv⟩
theorem It.put {W : World} {a b c : Nat} {r : ByteArray} (h : It W a b c r) (h1 : a ≠ b) (h2 : c ≠ b) (r' : ByteArray) : It (W.setCell ⟨b, 0, none⟩ (.string r')) a b c r' :=
  ⟨(Below.heap_setCell _ _ _ _ h1).trans h.sep, (heap_setCell_at _ _ _ _ _ _ h.s).trans (by rfl), (Below.heap_setCell _ _ _ _ h2).trans h.sv⟩
theorem It.left {W : World} {a b c : Nat} {r : ByteArray} (h : It W a b c r) : leftS W b = r.size := by
  unfold leftS
  rw [cell_of_heap h.s 0]
  rfl

abbrev dl (x : ByteArray) : SP.B := x.data.toList

set_option maxRecDepth 100000 in
set_option maxHeartbeats 4000000 in
theorem lines_seq (n : Nat) (hn : 1 ≤ n) (bsep bs bsv : Nat) (s : ByteArray) (w : World) (hs : s.size ≤ 4000000) (h : It w bsep bs bsv s) (h1 : bsep ≠ bs) (h2 : bsv ≠ bs) :
    SeqB Fence.wide n Tryz.prog 61 #[.pointer (some ⟨bsep, 0, none⟩), .pointer (some ⟨bs, 0, none⟩), .pointer (some ⟨bsv, 0, none⟩)] (fun x : ByteArray => #[.string x]) bs (fun k => k = bsep ∨ k = bs ∨ k = bsv)
      (fun xs => xs.map dl = SP.cut 10 (dl s)) (fun xs => ∃ ys, xs.map dl ++ ys = SP.cut 10 (dl s)) w := by
  intro l J Jx W hW hJ hJx hY h0
  have hi : It W bsep bs bsv s := h.of fun k hk => hW.block k (by
    rcases hk with rfl | rfl | rfl
    · exact (Array.getElem?_eq_some_iff.1 h.sep).1
    · exact (Array.getElem?_eq_some_iff.1 h.s).1
    · exact (Array.getElem?_eq_some_iff.1 h.sv).1)
  have hl : n - 1 = n - 1 := rfl
  refine callsIn_of_wp Tryz.func61 rfl trivial ?_ rfl
  simp only [Tryz.ntmps61, List.size_toArray, List.length_cons, List.length_nil, Nat.reduceAdd, Nat.reduceSub, Array.replicate_succ, Array.replicate_zero, List.push_toArray, List.append_toArray, List.nil_append, List.cons_append]
  have c1 := cell_of_heap hi.sep 0
  simp only [List.getElem?_toArray, List.getElem?_cons_zero] at c1
  have HJ := Lib.hid hJ; have HJX := Lib.hid hJx; have HY := Lib.hid hY; have HI := Lib.hid hi; have HW := Lib.hid hW; have HH := Lib.hid h
  clear hJ hJx hY hi hW h hl
  gi_wp2
  clear c1
  gi_loopw [7] (fun _ wr => ∃ (pre : List ByteArray) (rest : ByteArray), J pre wr ∧ It wr bsep bs bsv rest ∧ pre.map dl ++ SP.cut 10 (dl rest) = SP.cut 10 (dl s) ∧ rest.size ≤ s.size) (fun _ wr => leftS wr bs)
  case atStart => exact ⟨[], s, h0, HI.out, rfl, Nat.le_refl _⟩
  case round =>
    clear h0 HI
    obtain ⟨pre, rest, hj, hit, hcut, hsz⟩ := hrel
    have c1 := cell_of_heap hit.sep 0
    have c2 := cell_of_heap hit.s 0
    have c3 := cell_of_heap hit.sv 0
    have f2 := frozen_of_heap hit.s 0
    simp only [List.getElem?_toArray, List.getElem?_cons_zero] at c1 c2 c3
    have HIT := Lib.hid hit
    have HJR := Lib.hid hj
    by_cases h10 : (10 : UInt8) ∈ dl rest
    · obtain ⟨a, b, hab, hna⟩ := SP.first_of 10 (dl rest) h10
      have hix : Lib.indexByte rest.data.toList 10 = ((a.length : Nat) : Int) := by
        have := ib_hit 10 a b hna
        rw [← hab] at this
        exact this
      have hsz2 : a.length + 1 + b.length = rest.size := by
        have := congrArg List.length hab
        rw [dl, Array.length_toList] at this
        rw [show rest.size = rest.data.size from rfl, this]
        simp
        omega
      have hfr : dl (rest.extract 0 a.length) = a := by
        show (rest.extract 0 a.length).data.toList = a
        rw [Lib.extract_data]
        rw [show rest.data.toList = a ++ 10 :: b from hab]
        simp
      have hnx : dl (rest.extract (a.length + 1) rest.size) = b := by
        show (rest.extract (a.length + 1) rest.size).data.toList = b
        rw [Lib.extract_data]
        rw [show rest.data.toList = a ++ 10 :: b from hab]
        rw [← hsz2]
        simp
      have hcut2 : SP.cut 10 (dl rest) = a :: SP.cut 10 b := by rw [hab]; exact SP.cut_append 10 a b hna
      have hpre : (pre ++ [rest.extract 0 a.length]).map dl ++ SP.cut 10 b = SP.cut 10 (dl s) := by
        rw [← hcut, hcut2, List.map_append, List.map_cons, hfr]
        simp
      obtain ⟨fn, tmps, assign, body, hy, hR⟩ := HY.out pre (rest.extract 0 a.length) wr hj ⟨_, hpre⟩
      have HPRE := Lib.hid hpre
      have HNX := Lib.hid hnx
      have HSZ2 := Lib.hid hsz2
      have HIX := Lib.hid hix
      have HR := Lib.hid hR
      have b1 : (0 : Int) ≤ ((a.length : Nat) : Int) := by omega
      have b2 : ((a.length : Nat) : Int) + 1 ≤ (rest.size : Int) := by omega
      have b3 : (rest.size : Int) ≤ 4000000 := by omega
      clear hab hna hix hsz2 hfr hnx hcut2 hpre hR hcut h10 hit hj
      generalize a.length = n0 at *
      gi_wp2_with (fail)
      refine ⟨trivial, ?_⟩
      gi_at_call 54
      refine (callsIn_wide.2 (Tryz.strings_Index_one rest 10 _)).mono ?_
      rintro e w' ⟨rfl, rfl⟩
      rw [HIX.out]
      gi_wp2
      refine HR.out.mono ?_
      clear HR hy c1 c2 c3 f2
      rintro e W3 (⟨rfl, hJ3, hk3⟩ | ⟨rfl, hJx3⟩)
      · have hit3 := HIT.out.of hk3
        have HJ3 := Lib.hid hJ3
        have HIT3 := Lib.hid hit3
        have c1 := cell_of_heap hit3.sep 0
        have c2 := cell_of_heap hit3.s 0
        have f2 := frozen_of_heap hit3.s 0
        simp only [List.getElem?_toArray, List.getElem?_cons_zero] at c1 c2
        have HST := Lib.hid (hit3.put h1 h2 (rest.extract (n0 + 1) rest.size))
        have HJ4 := Lib.hid (HJ.out _ _ _ hJ3 (grown_set W3 bs 0 (.string (rest.extract (n0 + 1) rest.size))))
        have HM := Lib.hid (show leftS (W3.setCell ⟨bs, 0, none⟩ (.string (rest.extract (n0 + 1) rest.size))) bs < leftS w' bs by
          rw [HST.out.left, HIT.out.left, ByteArray.size_extract]
          have := HSZ2.out
          omega)
        have hsz3 : (rest.extract (n0 + 1) rest.size).size ≤ s.size := by rw [ByteArray.size_extract]; omega
        have HSZ3 := Lib.hid hsz3
        clear hJ3 hk3 hit3 hsz3
        gi_wp2
        go_roundw
        case rel => exact ⟨pre ++ [rest.extract 0 n0], rest.extract (n0 + 1) rest.size, HJ4.out, HST.out, by rw [HNX.out]; exact HPRE.out, HSZ3.out⟩
        case measure => exact HM.out
      · gi_wp2
        refine bodyPost_ret (results_none rfl _ _ _) rfl ?_
        exact ⟨⟨_, rfl⟩, .inr ⟨_, ⟨_, HPRE.out⟩, hJx3⟩⟩
    · have hix : Lib.indexByte rest.data.toList 10 = -1 := ib_miss 10 _ h10
      have hcut2 : SP.cut 10 (dl rest) = [dl rest] := SP.cut_none 10 _ h10
      have hpre : (pre ++ [rest]).map dl = SP.cut 10 (dl s) := by
        rw [← hcut, hcut2, List.map_append, List.map_cons, List.map_nil]
      obtain ⟨fn, tmps, assign, body, hy, hR⟩ := HY.out pre rest wr hj ⟨[], by rw [hpre]; simp⟩
      have HPRE := Lib.hid hpre
      have HIX := Lib.hid hix
      have HR := Lib.hid hR
      clear hix hcut2 hpre hR hcut h10 hit hj
      gi_wp2_with (fail)
      refine ⟨trivial, ?_⟩
      gi_at_call 54
      refine (callsIn_wide.2 (Tryz.strings_Index_one rest 10 _)).mono ?_
      rintro e w' ⟨rfl, rfl⟩
      rw [HIX.out]
      gi_wp2
      refine HR.out.mono ?_
      rintro e W3 (⟨rfl, hJ3, hk3⟩ | ⟨rfl, hJx3⟩)
      · gi_wp2
        go_end0
        exact ⟨⟨_, rfl⟩, .inl ⟨_, HPRE.out, hJ3⟩⟩
      · gi_wp2
        go_end0
        exact ⟨⟨_, rfl⟩, .inr ⟨_, ⟨[], by rw [HPRE.out]; simp⟩, hJx3⟩⟩
end Go.Proofs.YtdfaljcdphbgdaaGreatDoor
