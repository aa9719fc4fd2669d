/- known. -/
import Derived.Test.YtdfaljcdphbgdaaGreatDoorG
import Derived.Test.YtdfaljcdphbgdaaGreatDoorI
namespace Go.Proofs.YtdfaljcdphbgdaaGreatDoor
set_option linter.unusedVariables false
set_option linter.unusedSimpArgs false
open Go.RowKit Go.Proofs Go.Proofs.YtdfaljcdphbgdaaGreatDoorW.PrintWords Go.Proofs.YtdfaljcdphbgdaaGreatDoorW.PrintLast Go.Proofs.YtdfaljcdphbgdaaGreatDoorW.PrintMore

def kd1 : SP.Deed := ⟨3, 0, [], [5, 0]⟩
theorem kd1_may : SP.may kd1 = true := by decide
theorem kd1_line : SP.line kd1 = [99, 114, 97, 115, 104, 32, 45, 32, 53, 32, 48] := by
  simp [SP.line, SP.wordsOf, SP.joinSp, SP.join_flat, kd1, SP.hexW, SP.wCrash, Lib.itoa, Lib.decDigits]
def ks2 : SP.B := [102, 101, 101, 100, 32, 50, 32, 48, 49, 48, 97]
theorem ks2_unline : SP.unline ks2 = some ⟨1, 2, [1, 10], []⟩ := by
  refine (SP.unline_iff _ _).2 ⟨by decide, ?_⟩
  simp [SP.line, SP.wordsOf, SP.joinSp, SP.join_flat, ks2, SP.hexW, SP.wFeed, Lib.itoa, Lib.decDigits, SP.hd]

theorem known_line (w : World) (T : Tabs w) (h9 : 9 ≤ w.heap.size) (A3 : Option Addr) (c3 : Nat) (hg : (Kd.int .i64).C w A3 2 [5, 0]) (hc : 2 ≤ c3) :
    Calls Tryz.prog 15 #[.agg #[.int .i64 3, .int .i64 0, .slice none 0 0, .slice A3 2 c3]] w fun e w' => e = .returned (.tuple #[.string ⟨#[99, 114, 97, 115, 104, 32, 45, 32, 53, 32, 48]⟩, .int .i64 0]) ∧ Below w.heap.size w w' := by
  have h := line_all w kd1 none A3 0 c3 ⟨Kd.C_nil _ _, by simp [kd1, SP.nums8], hg, hc⟩ T h9
  refine h.mono fun e w' ⟨he, hb⟩ => ⟨?_, hb⟩
  rw [he, kd1_may, kd1_line]; rfl

theorem known_unline (w : World) (T : Tabs w) (h9 : 9 ≤ w.heap.size) :
    Calls Tryz.prog 7 #[.string ⟨#[102, 101, 101, 100, 32, 50, 32, 48, 49, 48, 97]⟩] w fun e w' => ∃ A2 c2 A3 c3, e = .returned (.tuple #[.agg #[.int .i64 1, .int .i64 2, .slice A2 2 c2, .slice A3 0 c3], .int .i64 0]) ∧ (Kd.int .u8).C w' A2 2 [1, 10] ∧ Below w.heap.size w w' := by
  refine (walk _ w T h9 (by decide)).mono fun e w' ⟨v2, v3, he, r2, r3, hb⟩ => ?_
  have ht : told (ByteArray.data ⟨#[102, 101, 101, 100, 32, 50, 32, 48, 49, 48, 97]⟩).toList = (⟨1, 2, [1, 10], []⟩, 0) := by
    show told ks2 = _
    unfold told; rw [ks2_unline]
  rw [ht] at he r2 r3
  obtain ⟨A2, c2, rfl⟩ := Kd.R_slice r2
  obtain ⟨A3, c3, rfl⟩ := Kd.R_slice r3
  exact ⟨A2, c2, A3, c3, he, (Kd.R_reads' r2).2.2, hb⟩

theorem known_true (w : World) (T : Tabs w) (h9 : 9 ≤ w.heap.size) : Calls Tryz.prog 6 #[] w fun e w' => e = .returned (.bool true) ∧ Below w.heap.size w w' := by
  go_enter Tryz.func6, Tryz.ntmps6
  go_wp2_with fail
  have hb0 := (Below.refl w.heap.size w).alloc (Nat.le_refl _) (Obj.cells #[Value.int IntKind.i64 5, Value.int IntKind.i64 0] 3)
  refine (known_line _ (T.below h9 hb0) (Nat.le_trans h9 hb0.size) _ _ ?_ (Nat.le_refl _)).mono ?_
  · refine Kd.C_of_reads (d := (0 : Int)) ⟨rfl, by decide, fun _ => ⟨⟨w.heap.size, 0, none⟩, rfl, fun j hj => ?_⟩⟩
    refine World.news_of_block (cs := #[Value.int IntKind.i64 5, Value.int IntKind.i64 0]) (heap_alloc_new w _) j _ ?_
    match j, hj with
    | 0, _ => rfl
    | 1, _ => rfl
  rintro e w1 ⟨rfl, b1⟩
  have hb1 := hb0.trans (b1.mono hb0.size)
  have HB1 := Lib.hid hb1
  clear b1 hb0 hb1
  go_wp2_with fail
  refine (known_unline _ (T.below h9 HB1.out) (Nat.le_trans h9 HB1.out.size)).mono ?_
  rintro e w2 ⟨A2, c2, A3, c3, rfl, hC, b2⟩
  have HB2 := Lib.hid (HB1.out.trans (b2.mono HB1.out.size))
  have hC3 := Kd.C_alloc hC (Obj.cells #[Value.int IntKind.i64 1, Value.int IntKind.i64 2, Value.slice A2 2 c2, Value.slice A3 0 c3] 27)
  have hcv := Kd.C_string (P := Tryz.prog) (dst := 9) (c := c2) Tryz.underlying24 (by kernel_rfl) (by kernel_rfl) hC3
  have hs : strOfNums [1, 10] = ⟨#[1, 10]⟩ := rfl
  rw [hs] at hcv
  clear b2 hC hC3 hs
  go_wp2
  go_ret
  exact ⟨rfl, (HB2.out.alloc HB2.out.size _)⟩
end Go.Proofs.YtdfaljcdphbgdaaGreatDoor
