/- Walks over the words of a line: taking a word off, with what becomes of the memory. -/
import Derived.Test.YtdfaljcdphbgdaaGreatDoorShelf
import Derived.WalkKit
import Derived.WalkLawsBesides
import Derived.Lib.Hide
import Derived.Lib.SmallJoins
import Derived.WideLaws
import Derived.Test.YtdfaljcdphbgdaaGreatDoorPlain
namespace Go.Proofs.YtdfaljcdphbgdaaGreatDoor
set_option linter.unusedVariables false
set_option linter.unusedSimpArgs false
open Go.RowKit Go.Proofs

/-- the words that are left: the variable at block bw holds a slice of them -/
structure Wd (W : World) (bw : Nat) (l : List ByteArray) : Prop where
  ex : ∃ bs off, W.cell? ⟨bw, 0, none⟩ = some (.slice (some ⟨bs, off, none⟩) l.length l.length) ∧ bs < bw ∧ ∀ j x, l[j]? = some x → W.cell? ⟨bs, off + j, none⟩ = some (.string x)
  fz : W.frozen? ⟨bw, 0, none⟩ = false

theorem grown_cell {W W' : World} {b : Nat} (h : W.grownBy W' (some b)) {a : Addr} {v : Value} (hc : W.cell? a = some v) (hn : a.block ≠ b) : W'.cell? a = some v :=
  h.cell hc (by simpa using hn)

theorem grown_trans {A B C : World} {b : Option Nat} (h : A.grownBy B b) (k : B.grownBy C b) : A.grownBy C b :=
  ⟨k.os.trans h.os, k.tape.trans h.tape, k.output.trans h.output, Nat.le_trans h.size k.size, fun i hi hb => (k.block i (Nat.lt_of_lt_of_le hi h.size) hb).trans (h.block i hi hb)⟩

theorem grown_below {A B : World} (h : Below A.heap.size A B) (b : Option Nat) : A.grownBy B b :=
  ⟨h.os, h.tape, h.output, h.size, fun i hi _ => h.block i hi⟩

theorem grown_set (W : World) (b o : Nat) (v : Value) : W.grownBy (W.setCell ⟨b, o, none⟩ v) (some b) :=
  ⟨rfl, rfl, rfl, by simp [World.setCell], fun i _ hb => Below.heap_setCell W _ v i (by simpa using hb)⟩

/-- how a reader of words ends that finds no such word: a panic with a new error of the reader's own -/
def Wrongly (W : World) (bw : Nat) (e : Ending) (w' : World) : Prop :=
  ∃ p : Nat, W.heap.size ≤ p ∧ p < w'.heap.size ∧ e = .panicked [{ v := .iface 43 (.pointer (some ⟨p, 0, none⟩)), recovered := false }] ∧ W.grownBy w' (some bw)

theorem next_none (W : World) (bw : Nat) (h : Wd W bw []) :
    Calls Tryz.prog 19 #[.pointer (some ⟨bw, 0, none⟩)] W (Wrongly W bw) := by
  obtain ⟨⟨bs, off, hc, _, _⟩, hf⟩ := h
  simp only [List.length_nil] at hc
  go_enter Tryz.func19, Tryz.ntmps19
  go_wp2
  exact ⟨rfl, W.heap.size, Nat.le_refl _, by simp, rfl, World.grownBy_alloc _ _ _⟩

theorem Wd_set (W : World) (bw bs off : Nat) (l : List ByteArray) (old : Value) (hc : W.cell? ⟨bw, 0, none⟩ = some old) (hf : W.frozen? ⟨bw, 0, none⟩ = false) (hb : bs < bw)
    (hx : ∀ j x, l[j]? = some x → W.cell? ⟨bs, off + j, none⟩ = some (.string x)) : Wd (W.setCell ⟨bw, 0, none⟩ (.slice (some ⟨bs, off, none⟩) l.length l.length)) bw l := by
  refine ⟨⟨bs, off, World.cell?_setCell_same _ _ _ hc, hb, fun j x h => ?_⟩, by rw [World.frozen?_setCell]; exact hf⟩
  rw [World.cell?_setCell_other _ _ _ _ (by intro e; injection e with e1; omega)]
  exact hx j x h

set_option maxHeartbeats 400000 in
theorem next_some (W : World) (bw : Nat) (x : ByteArray) (l : List ByteArray) (h : Wd W bw (x :: l)) (hl : l.length ≤ 2000000) :
    Calls Tryz.prog 19 #[.pointer (some ⟨bw, 0, none⟩)] W fun e w' => e = .returned (.string x) ∧ Wd w' bw l ∧ W.grownBy w' (some bw) := by
  obtain ⟨⟨bs, off, hc, hb, hx⟩, hf⟩ := h
  simp only [List.length_cons] at hc
  have h0 : W.cell? ⟨bs, off, none⟩ = some (.string x) := hx 0 x rfl
  have HS : Hid (∀ o, (∀ j x, l[j]? = some x → W.cell? ⟨bs, o + j, none⟩ = some (.string x)) → Wd (W.setCell ⟨bw, 0, none⟩ (.slice (some ⟨bs, o, none⟩) l.length l.length)) bw l) :=
    Lib.hid fun o h => Wd_set W bw bs o l _ hc hf hb h
  have HX := Lib.hid hx
  clear hx
  have hb' : ¬ bw = bs := by omega
  cases l with
  | nil =>
    simp only [List.length_nil] at hc HS
    go_enter Tryz.func19, Tryz.ntmps19
    go_wp2
    go_ret
    exact ⟨rfl, HS.out _ fun j x h => by simp at h, grown_set _ _ _ _⟩
  | cons y r =>
    simp only [List.length_cons] at hc hl HS
    go_enter Tryz.func19, Tryz.ntmps19
    go_wp2
    go_ret
    refine ⟨rfl, HS.out _ fun j x h => ?_, grown_set _ _ _ _⟩
    have := HX.out (j + 1) x (by simpa using h)
    rwa [show off + (j + 1) = off + 1 + j by omega] at this

/-! ### what the reader reads of the program's variables -/
structure Tabs (W : World) : Prop where
  pow : Lib.TabIs Tryz.prog W "internal/strconv.uint64pow10" .u64 Lib.pow10Tab
  syn : ∃ tp p, W.var? Tryz.prog "strconv.ErrSyntax" = some #[.iface tp p]
  rng : ∃ tp p, W.var? Tryz.prog "strconv.ErrRange" = some #[.iface tp p]
  ety : W.cell? ⟨0, 0, none⟩ = some (.iface 91 (.agg #[.pointer (some ⟨9, 42, none⟩)]))
  mx : ∃ m, W.cell? ⟨1, 0, none⟩ = some (.int .i64 m)

theorem Tabs.below {W W' : World} (h : Tabs W) {B : Nat} (hB : 9 ≤ B) (hb : Below B W W') : Tabs W' := by
  refine ⟨?_, ?_, ?_, ?_, ?_⟩
  · exact var?_below hb (g := 6) (by kernel_rfl) (by omega) h.pow
  · obtain ⟨tp, p, hv⟩ := h.syn
    exact ⟨tp, p, var?_below hb (g := 2) (by kernel_rfl) (by omega) hv⟩
  · obtain ⟨tp, p, hv⟩ := h.rng
    exact ⟨tp, p, var?_below hb (g := 3) (by kernel_rfl) (by omega) hv⟩
  · rw [hb.cell (p := ⟨0, 0, none⟩) (show _ < B by simp; omega)]; exact h.ety
  · obtain ⟨m, hm⟩ := h.mx
    exact ⟨m, by rw [hb.cell (p := ⟨1, 0, none⟩) (show _ < B by simp; omega)]; exact hm⟩

theorem Tabs.grown {W W' : World} (h : Tabs W) {b : Nat} (hB : 9 ≤ b) (hs : 9 ≤ W.heap.size) (hg : W.grownBy W' (some b)) : Tabs W' :=
  h.below (B := 9) (Nat.le_refl _) ⟨hg.os, hg.tape, hg.output, hg.size, fun k hk => hg.block k (by omega) (by simp; omega)⟩

/-! ### Atoi, Itoa: what the walks need of them -/
theorem atoi_ok (s : ByteArray) (n : Int) (W : World) (h : Lib.atoiAll s.data.toList = .ok n) (hs : s.size ≤ 2000000) :
    Calls Tryz.prog 40 #[.string s] W fun e w' => e = .returned (.tuple #[.int .i64 n, .nilIface]) ∧ Below W.heap.size W w' := by
  refine (Tryz.strconv_Atoi_ok s (by omega) n h W).mono fun e w' ⟨he, hw⟩ => ⟨he, ?_⟩
  rcases hw with rfl | ⟨t, rfl⟩
  · exact Below.refl _ _
  · exact Joins.below_bytesWorld _ _ _ _ (Nat.le_refl _)

theorem atoi_bad (s : ByteArray) (W : World) (T : Tabs W) (h : ∀ n, Lib.atoiAll s.data.toList ≠ .ok n) (hs : s.size ≤ 2000000) :
    Calls Tryz.prog 40 #[.string s] W fun e w' => ∃ (k : Int) (q : Nat), e = .returned (.tuple #[.int .i64 k, .iface 117 (.pointer (some ⟨q, 0, none⟩))]) ∧ Below W.heap.size W w' := by
  rcases hc : Lib.atoiAll s.data.toList with n | _ | _
  · exact absurd hc (h n)
  · obtain ⟨tp, p, hv⟩ := T.syn
    exact (Any.strconv_Atoi_syntax_var Tryz.laysC172 s (by omega) hc tp p W hv).mono fun e w' ⟨N, he, _, _, hb⟩ => ⟨0, N, he, hb⟩
  · obtain ⟨tp, p, hv⟩ := T.rng
    exact (Tryz.strconv_Atoi_range_var s (by omega) hc tp p W hv).mono fun e w' ⟨N, he, _, _, hb⟩ => ⟨_, N, he, hb⟩

theorem itoa_any (n : Int) (W : World) (T : Tabs W) (h0 : -9223372036854775808 ≤ n) (h1 : n ≤ 9223372036854775807) :
    Calls Tryz.prog 32 #[.int .i64 n] W fun e w' => e = .returned (.string ⟨(Lib.itoa n).toArray⟩) ∧ Below W.heap.size W w' := by
  refine (Tryz.strconv_Itoa n h0 h1 W T.pow).mono fun e w' ⟨he, k, os, hw⟩ => ⟨he, ?_⟩
  subst hw
  refine ⟨rfl, rfl, rfl, (by show W.heap.size ≤ (W.heap ++ os).size; simp), fun j hj => ?_⟩
  show (W.heap ++ os)[j]? = _
  rw [Array.getElem?_append_left hj]

theorem Wd.below {W W' : World} {bw : Nat} {l : List ByteArray} (h : Wd W bw l) (hb : Below W.heap.size W W') : Wd W' bw l := by
  obtain ⟨⟨bs, off, hc, hn, hx⟩, hf⟩ := h
  have hlt := World.block_lt_of_cell? _ _ hc
  refine ⟨⟨bs, off, (hb.cell (p := ⟨bw, 0, none⟩) hlt).trans hc, hn, fun j x h => ?_⟩, (hb.frozen (p := ⟨bw, 0, none⟩) hlt).trans hf⟩
  have h1 := hx j x h
  exact (hb.cell (World.block_lt_of_cell? _ _ h1)).trans h1

theorem grown_then {A B C : World} {b : Option Nat} (h : A.grownBy B b) (k : Below B.heap.size B C) : A.grownBy C b :=
  grown_trans h (grown_below k b)

set_option maxHeartbeats 400000 in
theorem number_ok (W : World) (bw : Nat) (x : ByteArray) (l : List ByteArray) (n : Int) (h : Wd W bw (x :: l)) (hl : l.length ≤ 2000000) (hs : x.size ≤ 2000000)
    (T : Tabs W) (hB : 9 ≤ bw) (hW : 9 ≤ W.heap.size) (hn : SP.numOf x.data.toList = some n) :
    Calls Tryz.prog 20 #[.pointer (some ⟨bw, 0, none⟩)] W fun e w' => e = .returned (.int .i64 n) ∧ Wd w' bw l ∧ W.grownBy w' (some bw) := by
  have hi := SP.numOf_itoa hn
  have ha : Lib.atoiAll x.data.toList = .ok n := by
    unfold SP.numOf at hn
    split at hn
    · rename_i m hm
      split at hn
      · cases hn; exact hm
      · cases hn
    · cases hn
  have hbd := Lib.atoiAll_bounds ha
  obtain rfl : x = ⟨(Lib.itoa n).toArray⟩ := by rw [hi]
  clear hi hn
  go_enter Tryz.func20, Tryz.ntmps20
  go_wp2_with fail
  refine (next_some W bw _ l h hl).mono ?_
  rintro e w1 ⟨rfl, h1, g1⟩
  have H1 := Lib.hid h1; have G1 := Lib.hid g1
  clear h1 g1
  go_wp2_with fail
  refine (atoi_ok _ n w1 ha hs).mono ?_
  rintro e w2 ⟨rfl, b2⟩
  have B2 := Lib.hid b2
  clear b2
  go_wp2_with fail
  have t2 : Tabs w2 := (T.grown hB hW G1.out).below (B := w1.heap.size) (Nat.le_trans hW G1.out.size) B2.out
  refine (itoa_any n w2 t2 hbd.1 hbd.2).mono ?_
  rintro e w3 ⟨rfl, b3⟩
  have B3 := Lib.hid b3
  clear b3 t2
  go_wp2
  go_ret
  exact ⟨rfl, (H1.out.below B2.out).below B3.out, grown_then (grown_then G1.out B2.out) B3.out⟩

theorem toList_data (s : ByteArray) : s.toList = s.data.toList := ByteArray.toList_eq s

theorem Wrongly.mk {W w' : World} {bw : Nat} {p : Nat} (h1 : W.heap.size ≤ p) (h2 : p < w'.heap.size) (hg : W.grownBy w' (some bw)) :
    Wrongly W bw (.panicked [{ v := .iface 43 (.pointer (some ⟨p, 0, none⟩)), recovered := false }]) w' := ⟨p, h1, h2, rfl, hg⟩

set_option maxHeartbeats 400000 in
theorem number_bad (W : World) (bw : Nat) (x : ByteArray) (l : List ByteArray) (h : Wd W bw (x :: l)) (hl : l.length ≤ 2000000) (hs : x.size ≤ 2000000)
    (T : Tabs W) (hB : 9 ≤ bw) (hW : 9 ≤ W.heap.size) (hn : SP.numOf x.data.toList = none) :
    Calls Tryz.prog 20 #[.pointer (some ⟨bw, 0, none⟩)] W (Wrongly W bw) := by
  by_cases ha : ∃ n, Lib.atoiAll x.data.toList = .ok n
  · obtain ⟨n, ha⟩ := ha
    have hne : ¬ (Lib.itoa n = x.data.toList) := by
      intro e
      unfold SP.numOf at hn
      rw [ha] at hn
      simp [e] at hn
    have hbd := Lib.atoiAll_bounds ha
    clear hn
    go_enter Tryz.func20, Tryz.ntmps20
    go_wp2_with fail
    refine (next_some W bw _ l h hl).mono ?_
    rintro e w1 ⟨rfl, h1, g1⟩
    have H1 := Lib.hid h1; have G1 := Lib.hid g1
    clear h1 g1
    go_wp2_with fail
    refine (atoi_ok _ n w1 ha hs).mono ?_
    rintro e w2 ⟨rfl, b2⟩
    have B2 := Lib.hid b2
    clear b2
    go_wp2_with fail
    have t2 : Tabs w2 := (T.grown hB hW G1.out).below (B := w1.heap.size) (Nat.le_trans hW G1.out.size) B2.out
    refine (itoa_any n w2 t2 hbd.1 hbd.2).mono ?_
    rintro e w3 ⟨rfl, b3⟩
    have B3 := Lib.hid b3
    clear b3 t2
    have hne' : (!Lib.itoa n == x.toList) = true := by rw [toList_data]; simpa using hne
    clear hne
    go_wp2
    exact ⟨rfl, Wrongly.mk (Nat.le_trans G1.out.size (Nat.le_trans B2.out.size B3.out.size)) (by simp) (grown_trans (grown_then (grown_then G1.out B2.out) B3.out) (World.grownBy_alloc _ _ _))⟩
  · have ha' : ∀ n, Lib.atoiAll x.data.toList ≠ .ok n := fun n e => ha ⟨n, e⟩
    clear ha hn
    go_enter Tryz.func20, Tryz.ntmps20
    go_wp2_with fail
    refine (next_some W bw _ l h hl).mono ?_
    rintro e w1 ⟨rfl, h1, g1⟩
    have H1 := Lib.hid h1; have G1 := Lib.hid g1
    clear h1 g1
    go_wp2_with fail
    refine (atoi_bad _ w1 (T.grown hB hW G1.out) ha' hs).mono ?_
    rintro e w2 ⟨k, q, rfl, b2⟩
    have B2 := Lib.hid b2
    clear b2
    go_wp2
    exact ⟨rfl, Wrongly.mk (Nat.le_trans G1.out.size B2.out.size) (by simp) (grown_trans (grown_then G1.out B2.out) (World.grownBy_alloc _ _ _))⟩

theorem number_none (W : World) (bw : Nat) (h : Wd W bw []) :
    Calls Tryz.prog 20 #[.pointer (some ⟨bw, 0, none⟩)] W (Wrongly W bw) := by
  go_enter Tryz.func20, Tryz.ntmps20
  go_wp2_with fail
  refine (next_none W bw h).mono ?_
  rintro e w1 ⟨p, hp1, hp2, rfl, hg⟩
  go_wp2
  exact ⟨rfl, Wrongly.mk hp1 hp2 hg⟩

end Go.Proofs.YtdfaljcdphbgdaaGreatDoor
