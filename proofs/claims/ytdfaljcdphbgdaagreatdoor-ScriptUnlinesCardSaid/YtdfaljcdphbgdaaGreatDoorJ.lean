/- known, and the law ScriptUnlines. -/
import Derived.Test.YtdfaljcdphbgdaaGreatDoorG
import Derived.Test.YtdfaljcdphbgdaaGreatDoorI
import Derived.Test.YtdfaljcdphbgdaaGreatDoorPlainF
namespace Go.Proofs.YtdfaljcdphbgdaaGreatDoor
open Go.RowKit Go.Proofs Go.Proofs.YtdfaljcdphbgdaaGreatDoorW.PrintWords Go.Proofs.YtdfaljcdphbgdaaGreatDoorW.PrintLast Go.Proofs.YtdfaljcdphbgdaaGreatDoorW.PrintMore

def kd1 : SP.Deed := ⟨3, 0, [], [5, 0]⟩
theorem kd1_may : SP.may kd1 = true := by decide
theorem kd1_line : SP.line kd1 = [99, 114, 97, 115, 104, 32, 45, 32, 53, 32, 48] := by
  simp [SP.line, SP.wordsOf, SP.joinSp, SP.join_flat, kd1, SP.hexW, SP.wCrash, Lib.itoa, Lib.decDigits]
def ks2 : SP.B := [102, 101, 101, 100, 32, 50, 32, 48, 49, 48, 97]
theorem ks2_unline : SP.unline ks2 = some ⟨1, 2, [1, 10], []⟩ := by
  refine (SP.unline_iff _ _).2 ⟨by decide, ?_⟩
  simp [SP.line, SP.wordsOf, SP.joinSp, SP.join_flat, ks2, SP.hexW, SP.wFeed, Lib.itoa, Lib.decDigits, SP.hd]

theorem known_line (w : World) (T : Tabs w) (h9 : 9 ≤ w.heap.size) (A3 : Option Addr) (c3 : Nat) (hg : (Kd.int .i64).C w A3 2 [5, 0]) (hc : 2 ≤ c3) :
    Calls Tryz.prog 15 #[.agg #[.int .i64 3, .int .i64 0, .slice none 0 0, .slice A3 2 c3]] w fun e w' => e = .returned (.tuple #[.string ⟨#[99, 114, 97, 115, 104, 32, 45, 32, 53, 32, 48]⟩, .int .i64 0]) ∧ Below w.heap.size w w' := by
  have h := line_all w kd1 none A3 0 c3 ⟨Kd.C_nil _ _, by simp [kd1, SP.nums8], hg, hc⟩ T h9
  refine h.mono fun e w' ⟨he, hb⟩ => ⟨?_, hb⟩
  rw [he, kd1_may, kd1_line]; rfl

theorem known_unline (w : World) (T : Tabs w) (h9 : 9 ≤ w.heap.size) :
    Calls Tryz.prog 7 #[.string ⟨#[102, 101, 101, 100, 32, 50, 32, 48, 49, 48, 97]⟩] w fun e w' => ∃ A2 c2 A3 c3, e = .returned (.tuple #[.agg #[.int .i64 1, .int .i64 2, .slice A2 2 c2, .slice A3 0 c3], .int .i64 0]) ∧ (Kd.int .u8).C w' A2 2 [1, 10] ∧ Below w.heap.size w w' := by
  refine (walk _ w T h9 (by decide)).mono fun e w' ⟨v2, v3, he, r2, r3, hb⟩ => ?_
  have ht : told (ByteArray.data ⟨#[102, 101, 101, 100, 32, 50, 32, 48, 49, 48, 97]⟩).toList = (⟨1, 2, [1, 10], []⟩, 0) := by
    show told ks2 = _
    unfold told; rw [ks2_unline]
  rw [ht] at he r2 r3
  obtain ⟨A2, c2, rfl⟩ := Kd.R_slice r2
  obtain ⟨A3, c3, rfl⟩ := Kd.R_slice r3
  exact ⟨A2, c2, A3, c3, he, (Kd.R_reads' r2).2.2, hb⟩

theorem known_true (w : World) (T : Tabs w) (h9 : 9 ≤ w.heap.size) : Calls Tryz.prog 6 #[] w fun e w' => e = .returned (.bool true) ∧ Below w.heap.size w w' := by
  go_enter Tryz.func6, Tryz.ntmps6
  go_wp2_with fail
  have hb0 := (Below.refl w.heap.size w).alloc (Nat.le_refl _) (Obj.cells #[Value.int IntKind.i64 5, Value.int IntKind.i64 0] 3)
  refine (known_line _ (T.below h9 hb0) (Nat.le_trans h9 hb0.size) _ _ ?_ (Nat.le_refl _)).mono ?_
  · refine Kd.C_of_reads (d := (0 : Int)) ⟨rfl, by decide, fun _ => ⟨⟨w.heap.size, 0, none⟩, rfl, fun j hj => ?_⟩⟩
    refine World.news_of_block (cs := #[Value.int IntKind.i64 5, Value.int IntKind.i64 0]) (heap_alloc_new w _) j _ ?_
    match j, hj with
    | 0, _ => rfl
    | 1, _ => rfl
  rintro e w1 ⟨rfl, b1⟩
  have hb1 := hb0.trans (b1.mono hb0.size)
  have HB1 := Lib.hid hb1
  clear b1 hb0 hb1
  go_wp2_with fail
  refine (known_unline _ (T.below h9 HB1.out) (Nat.le_trans h9 HB1.out.size)).mono ?_
  rintro e w2 ⟨A2, c2, A3, c3, rfl, hC, b2⟩
  have HB2 := Lib.hid (HB1.out.trans (b2.mono HB1.out.size))
  have hC3 := Kd.C_alloc hC (Obj.cells #[Value.int IntKind.i64 1, Value.int IntKind.i64 2, Value.slice A2 2 c2, Value.slice A3 0 c3] 27)
  have hcv := Kd.C_string (P := Tryz.prog) (dst := 9) (c := c2) Tryz.underlying24 (by kernel_rfl) (by kernel_rfl) hC3
  have hs : strOfNums [1, 10] = ⟨#[1, 10]⟩ := rfl
  rw [hs] at hcv
  clear b2 hC hC3 hs
  go_wp2
  go_ret
  exact ⟨rfl, (HB2.out.alloc HB2.out.size _)⟩
/-! ### the law -/
theorem law_big (s : ByteArray) (w : World) (T : Tabs w) (h9 : 9 ≤ w.heap.size) (hs : 150000 < s.size) : Calls Tryz.prog 3 #[.string s] w fun e w' => e = .returned (.bool true) ∧ Below w.heap.size w w' := by
  go_enter Tryz.func3, Tryz.ntmps3
  go_wp2_with fail
  refine (known_true w T h9).mono ?_
  rintro e w1 ⟨rfl, b1⟩
  have B1 := Lib.hid b1
  clear b1
  go_wp2
  go_ret
  exact ⟨rfl, B1.out⟩

theorem utuple_told (s : SP.B) : SP.utuple s = ((told s).1.kind, (told s).1.n, SP.nums8 (told s).1.bytes, (told s).1.again, (told s).2) := by
  unfold SP.utuple told
  cases SP.unline s <;> rfl

theorem unline_again (s : SP.B) : (told s).1.again.length ≤ 8 := by
  unfold told
  cases h : SP.unline s with
  | none => simp
  | some x => exact (SP.may_parts ((SP.unline_iff _ _).1 h).1).2.1

theorem law_small (s : ByteArray) (w : World) (T : Tabs w) (h9 : 9 ≤ w.heap.size) (hs : ¬ 150000 < s.size) : Calls Tryz.prog 3 #[.string s] w fun e w' => e = .returned (.bool true) ∧ Below w.heap.size w w' := by
  go_enter Tryz.func3, Tryz.ntmps3
  go_wp2_with fail
  refine (walk s w T h9 (by omega)).mono ?_
  rintro e w1 ⟨v2, v3, rfl, r2, r3, b1⟩
  obtain ⟨A2, c2, rfl⟩ := Kd.R_slice r2
  obtain ⟨A3, c3, rfl⟩ := Kd.R_slice r3
  have q2 := (Kd.R_reads' r2).2
  have q3 := (Kd.R_reads' r3).2
  have hrun := SP.runline s (by omega) 5000000 (by omega)
  rw [utuple_told] at hrun
  have hrl := fun W => PRef.vicinageref27_Unline.calls 5000000 s _ _ _ _ _ W hrun
  have hag := unline_again s.data.toList
  have hsame := SP.same_refl (told s.data.toList).1.kind (told s.data.toList).1.n (SP.nums8 (told s.data.toList).1.bytes) (told s.data.toList).1.again 20 (by omega) (by omega)
  generalize (told s.data.toList).1.kind = k at *
  generalize (told s.data.toList).1.n = n at *
  generalize SP.nums8 (told s.data.toList).1.bytes = l2 at *
  generalize (told s.data.toList).1.again = l3 at *
  generalize (told s.data.toList).2 = er at *
  have HRL := Lib.hid hrl
  have HB1 := Lib.hid b1
  have HQ2 := Lib.hid q2
  have HQ3 := Lib.hid q3
  have HSM := Lib.hid hsame
  clear hrun hrl b1 q2 q3 r2 r3 hag hsame
  go_wp2_with fail
  have hb2 := (HB1.out.alloc HB1.out.size (Obj.cells #[Value.int IntKind.i64 k, Value.int IntKind.i64 n, Value.slice A2 l2.length c2, Value.slice A3 l3.length c3] 27))
  have HB2 := Lib.hid hb2
  refine (HRL.out _).mono ?_
  rintro e w2 ⟨v5, v6, rfl, r5, r6, b2⟩
  obtain ⟨A5, c5, rfl⟩ := Kd.R_slice r5
  obtain ⟨A6, c6, rfl⟩ := Kd.R_slice r6
  have q5 := (Kd.R_reads' r5).2
  have q6 := (Kd.R_reads' r6).2
  have x0 := b2.block w1.heap.size (by simp)
  rw [heap_alloc_new] at x0
  have y0 := (cell_of_heap x0 0).trans rfl
  have y1 := (cell_of_heap x0 1).trans rfl
  have y2 := (cell_of_heap x0 2).trans rfl
  have y3 := (cell_of_heap x0 3).trans rfl
  have hlt := (Array.getElem?_eq_some_iff.1 x0).1
  have hal2 := (Below.refl w2.heap.size w2).alloc (Nat.le_refl _) (Obj.cells #[Value.int IntKind.i64 k, Value.int IntKind.i64 n, Value.slice A5 l2.length c5, Value.slice A6 l3.length c6] 27)
  have hw13 : Below w1.heap.size w1 (w2.alloc (Obj.cells #[Value.int IntKind.i64 k, Value.int IntKind.i64 n, Value.slice A5 l2.length c5, Value.slice A6 l3.length c6] 27)) :=
    (((Below.refl _ _).alloc (Nat.le_refl _) _).trans (b2.mono (by simp))).trans (hal2.mono (Nat.le_of_lt hlt))
  have HSC := Lib.hid (fun W (hb : Below (w2.alloc (Obj.cells #[Value.int IntKind.i64 k, Value.int IntKind.i64 n, Value.slice A5 l2.length c5, Value.slice A6 l3.length c6] 27)).heap.size (w2.alloc (Obj.cells #[Value.int IntKind.i64 k, Value.int IntKind.i64 n, Value.slice A5 l2.length c5, Value.slice A6 l3.length c6] 27)) W) =>
    PRef.vicinageref27_Same.calls 20 k n A2 c2 l2 A3 c3 l3 k n A5 c5 l2 A6 c6 l3 true W (Kd.C_below (Kd.C_below HQ2.out.2 hw13) hb) HQ2.out.1 (Kd.C_below (Kd.C_below HQ3.out.2 hw13) hb) HQ3.out.1 (Kd.C_below (Kd.C_below q5.2 hal2) hb) q5.1 (Kd.C_below (Kd.C_below q6.2 hal2) hb) q6.1 HSM.out)
  have HBW := Lib.hid (HB1.out.trans (hw13.mono HB1.out.size))
  clear b2 r5 r6 q5 q6 x0 hal2 hw13 hb2
  go_wp2_with fail
  refine (HSC.out _ (Below.refl _ _)).mono ?_
  rintro e w3 ⟨rfl, b3⟩
  have HB3 := Lib.hid (HBW.out.trans (b3.mono HBW.out.size))
  clear b3 HSC HBW
  go_wp2_with fail
  refine (known_true w3 (T.below h9 HB3.out) (Nat.le_trans h9 HB3.out.size)).mono ?_
  rintro e w4 ⟨rfl, b4⟩
  have HB4 := Lib.hid (HB3.out.trans (b4.mono HB3.out.size))
  clear b4
  go_wp2
  go_ret
  exact ⟨rfl, HB4.out⟩

theorem law_unlines (s : ByteArray) (w : World) (T : Tabs w) (h9 : 9 ≤ w.heap.size) : Calls Tryz.prog 3 #[.string s] w fun e w' => e = .returned (.bool true) ∧ Below w.heap.size w w' := by
  by_cases hs : 150000 < s.size
  · exact law_big s w T h9 hs
  · exact law_small s w T h9 hs

end Go.Proofs.YtdfaljcdphbgdaaGreatDoor
