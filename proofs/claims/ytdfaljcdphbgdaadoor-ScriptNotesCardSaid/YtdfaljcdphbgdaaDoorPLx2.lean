/- Walks of functions, written by a program. -/
import Derived.Test.YtdfaljcdphbgdaaDoorPLx0
import Derived.Test.YtdfaljcdphbgdaaDoorPLx1
import Derived.Test.YtdfaljcdphbgdaaDoorGiL
namespace Go.Proofs.YtdfaljcdphbgdaaDoor.PL
open Go.Proofs.YtdfaljcdphbgdaaDoor.PRef
open Go.RowKit Go.Proofs.YtdfaljcdphbgdaaDoorW.PrintWords Go.Proofs.YtdfaljcdphbgdaaDoorW.PrintLast Go.Proofs.YtdfaljcdphbgdaaDoorW.PrintMore
attribute [local go_sem] max2_int min2_int max_two min_two max_three min_three max_four min_four   -- for this text's walks alone
set_option linter.unusedVariables false
set_option linter.unusedSimpArgs false

/-! ### vicinagelaw27_ScriptLines: function 3 -/
def vicinagelaw27_ScriptLines.j0 : Nat → ByteArray → Int → Bool → Int → Int → List Int → List Int → Option (Bool)
 | 0, _, _, _, _, _, _, _ => none
 | k + 1, x4, x5, x39, x103000, x103001, x103002, x103003 => if x39 = true then (some false) else ((vicinageref27_May.f k x103000 x103001 x103002 x103003).bind fun t123 => (if t123 = true then ((script_Unline.f x4).bind fun bt125 => (if x5 = 0 then (if bt125.2.2.2.2 = 0 then ((vicinageref27_Line.f k x103000 x103001 x103002 x103003).bind fun t135 => (if x4.toList = t135.toList then ((vicinageref27_Same.f k x103000 x103001 x103002 x103003 bt125.1 bt125.2.1 bt125.2.2.1 bt125.2.2.2.1).bind fun t136 => (if t136 = true then ((vicinagelaw27_known.f).bind fun t137 => (some t137)) else (some false))) else (some false))) else (some false)) else (some false))) else (if x5 = 2 then (if x4.toList = ([] : List UInt8) then ((vicinagelaw27_known.f).bind fun t124 => (some t124)) else (some false)) else (some false))))
def vicinagelaw27_ScriptLines.f (k : Nat) (a0_0 : Int) (a0_1 : Int) (l0_2 : List Int) (l0_3 : List Int) : Option (Bool) := (vicinagelaw27_large.f a0_0 a0_1 l0_2 l0_3).bind fun t103 => (if t103 = true then ((vicinagelaw27_known.f).bind fun t104 => (some t104)) else ((some (([] : List Int) : List Int)).bind fun y105 => (if y105.length + l0_2.length < 140737488355328 then ((some (y105 ++ l0_2 : List Int)).bind fun y108 => ((some (([] : List Int) : List Int)).bind fun y111 => (if y111.length + l0_3.length < 17592186044416 then ((some (y111 ++ l0_3 : List Int)).bind fun y114 => ((script_Line.f a0_0 a0_1 y108 y114).bind fun bt118 => ((script_May.f k a0_0 a0_1 y108 y114).bind fun t120 => ((vicinageref27_May.f k a0_0 a0_1 l0_2 l0_3).bind fun t121 => (if (t120 != t121) = true then (vicinagelaw27_ScriptLines.j0 k bt118.1 bt118.2 true a0_0 a0_1 l0_2 l0_3) else ((vicinageref27_Same.f k a0_0 a0_1 y108 y114 a0_0 a0_1 l0_2 l0_3).bind fun t122 => (vicinagelaw27_ScriptLines.j0 k bt118.1 bt118.2 (!t122) a0_0 a0_1 l0_2 l0_3))))))) else (none)))) else (none))))
theorem vicinagelaw27_ScriptLines.mono_l : ∀ k, (∀ y0 y1 y2 y3 y4 y5 y6, LeO (vicinagelaw27_ScriptLines.j0 k y0 y1 y2 y3 y4 y5 y6) (vicinagelaw27_ScriptLines.j0 (k + 1) y0 y1 y2 y3 y4 y5 y6))
 | 0 => fun _ _ _ _ _ _ _ r h => by simp [vicinagelaw27_ScriptLines.j0] at h
 | k + 1 => by
  have ih0 := vicinagelaw27_ScriptLines.mono_l k
  ·
   intro y0 y1 y2 y3 y4 y5 y6
   unfold vicinagelaw27_ScriptLines.j0
   repeat' first
   | (with_reducible exact ih0 _ _ _ _ _ _ _)
   | (with_reducible exact script_May.mono _ _ _ _ _)
   | (with_reducible exact vicinageref27_Line.mono _ _ _ _ _)
   | (with_reducible exact vicinageref27_May.mono _ _ _ _ _)
   | (with_reducible exact vicinageref27_Same.mono _ _ _ _ _ _ _ _ _)
   | (with_reducible exact LeO.refl _)
   | (with_reducible exact LeO.none _)
   | (with_reducible refine LeO.ite ?_ ?_)
   | (with_reducible refine LeO.bind ?_ (fun _ => ?_))
   | exact ih0 _ _ _ _ _ _ _
   | exact script_May.mono _ _ _ _ _
   | exact vicinageref27_Line.mono _ _ _ _ _
   | exact vicinageref27_May.mono _ _ _ _ _
   | exact vicinageref27_Same.mono _ _ _ _ _ _ _ _ _
   | exact LeO.none _
   | refine LeO.ite ?_ ?_
   | refine LeO.bind ?_ (fun _ => ?_)
theorem vicinagelaw27_ScriptLines.mono : ∀ a0 a1 a2 a3 k, LeO (vicinagelaw27_ScriptLines.f k a0 a1 a2 a3) (vicinagelaw27_ScriptLines.f (k + 1) a0 a1 a2 a3) := by
 intro a0 a1 a2 a3 k
 have ih0 := vicinagelaw27_ScriptLines.mono_l k
 unfold vicinagelaw27_ScriptLines.f
 repeat' first
   | (with_reducible exact ih0 _ _ _ _ _ _ _)
   | (with_reducible exact script_May.mono _ _ _ _ _)
   | (with_reducible exact vicinageref27_Line.mono _ _ _ _ _)
   | (with_reducible exact vicinageref27_May.mono _ _ _ _ _)
   | (with_reducible exact vicinageref27_Same.mono _ _ _ _ _ _ _ _ _)
   | (with_reducible exact LeO.refl _)
   | (with_reducible exact LeO.none _)
   | (with_reducible refine LeO.ite ?_ ?_)
   | (with_reducible refine LeO.bind ?_ (fun _ => ?_))
   | exact ih0 _ _ _ _ _ _ _
   | exact script_May.mono _ _ _ _ _
   | exact vicinageref27_Line.mono _ _ _ _ _
   | exact vicinageref27_May.mono _ _ _ _ _
   | exact vicinageref27_Same.mono _ _ _ _ _ _ _ _ _
   | exact LeO.none _
   | refine LeO.ite ?_ ?_
   | refine LeO.bind ?_ (fun _ => ?_)
def vicinagelaw27_ScriptLines.T3 : Bool × List (List Nat × List Nat) := (true, [([], []), ([0], [0]), ([], []), ([2], [2]), ([], []), ([], []), ([5], [5]), ([4, 6], [4, 6]), ([], []), ([], []), ([9], [9]), ([8, 10, 7], [8, 10]), ([1, 3, 7, 11], [1, 3, 7, 11]), ([], []), ([13, 12, 11, 0, 1, 2, 3, 4, 5, 6, 7, 8, 9, 10, 11, 12, 13], [12, 13])])
def vicinagelaw27_ScriptLines.B3 : List Nat := [0, 1, 0, 4, 0, 0, 32, 112, 0, 0, 512, 2032, 4095, 0, 16383]
theorem vicinagelaw27_ScriptLines.tab3 : rtab .any (opsOf Tryd.f3 3) = vicinagelaw27_ScriptLines.T3 := by kernel_rfl
theorem vicinagelaw27_ScriptLines.bits3 : waitsOk vicinagelaw27_ScriptLines.T3.2 vicinagelaw27_ScriptLines.B3 = true := by kernel_rfl
def vicinagelaw27_ScriptLines.T5 : Bool × List (List Nat × List Nat) := (true, [([], []), ([0], [0]), ([], []), ([2, 1], [2]), ([1, 3], [1, 3]), ([4, 3], [4]), ([5], [5]), ([5], [5]), ([6, 7, 5, 5], [5, 6, 7]), ([8, 5], [5, 8]), ([5, 9], [5, 9])])
def vicinagelaw27_ScriptLines.B5 : List Nat := [0, 1, 0, 7, 15, 31, 63, 63, 255, 511, 1023]
theorem vicinagelaw27_ScriptLines.tab5 : rtab .any (opsOf Tryd.f3 5) = vicinagelaw27_ScriptLines.T5 := by kernel_rfl
theorem vicinagelaw27_ScriptLines.bits5 : waitsOk vicinagelaw27_ScriptLines.T5.2 vicinagelaw27_ScriptLines.B5 = true := by kernel_rfl
end Go.Proofs.YtdfaljcdphbgdaaDoor.PL
