/- Walks of functions, written by a program. -/
import Derived.Test.YtdfaljcdphbgdaaDoorPLx0
import Derived.Test.YtdfaljcdphbgdaaDoorPLx3
import Derived.Test.YtdfaljcdphbgdaaDoorGiL
import Derived.Test.YtdfaljcdphbgdaaDoorGpL
namespace Go.Proofs.YtdfaljcdphbgdaaDoor.PL
open Go.Proofs.YtdfaljcdphbgdaaDoor.PRef
open Go.RowKit Go.Proofs.YtdfaljcdphbgdaaDoorW.PrintWords Go.Proofs.YtdfaljcdphbgdaaDoorW.PrintLast Go.Proofs.YtdfaljcdphbgdaaDoorW.PrintMore
attribute [local go_sem] max2_int min2_int max_two min_two max_three min_three max_four min_four   -- for this text's walks alone
set_option linter.unusedVariables false
set_option linter.unusedSimpArgs false

/-! ### vicinagelaw27_ScriptNotes: function 4 -/
mutual
def vicinagelaw27_ScriptNotes.j0 : Nat → List (S26) → List Int → ByteArray → Bool → Option (Bool)
 | 0, _, _, _, _ => none
 | k + 1, x0, x1, x2, x34 => if x34 = true then ((vicinagelaw27_known.f).bind fun t141 => (some t141)) else (vicinagelaw27_ScriptNotes.l0 k x0 x1 x2 0)
def vicinagelaw27_ScriptNotes.l0 : Nat → List (S26) → List Int → ByteArray → Int → Option (Bool)
 | 0, _, _, _, _ => none
 | k + 1, x0, x1, x2, x7 => if x7 < (x2.size : Int) then (if 0 ≤ x7 then (if (bt x2 x7) = 10 then ((vicinagelaw27_known.f).bind fun t142 => (some t142)) else (vicinagelaw27_ScriptNotes.l0 k x0 x1 x2 (wrap64 (x7 + 1)))) else (none)) else (vicinagelaw27_ScriptNotes.l1 k x0 x1 x2 (⟨#[]⟩ : ByteArray) 0 0)
def vicinagelaw27_ScriptNotes.l1 : Nat → List (S26) → List Int → ByteArray → ByteArray → Int → Int → Option (Bool)
 | 0, _, _, _, _, _, _ => none
 | k + 1, x0, x1, x2, x8, x9, x10 => if x10 < (x0.length : Int) then (vicinagelaw27_ScriptNotes.l2 k x0 x1 x2 x8 x9 x10 0) else ((script_Parse.f x8).bind fun bt149 => (if bt149.2.2 = 0 then (if bt149.2.1 = 0 then (vicinagelaw27_ScriptNotes.j4 k x0 x8 x9 bt149.1 ((bt149.1.length : Int) != (x0.length : Int))) else (vicinagelaw27_ScriptNotes.j4 k x0 x8 x9 bt149.1 true)) else (vicinagelaw27_ScriptNotes.j4 k x0 x8 x9 bt149.1 true)))
def vicinagelaw27_ScriptNotes.l2 : Nat → List (S26) → List Int → ByteArray → ByteArray → Int → Int → Int → Option (Bool)
 | 0, _, _, _, _, _, _, _ => none
 | k + 1, x0, x1, x2, x8, x9, x10, x11 => if x11 < (x1.length : Int) then (if 0 ≤ x11 then (if (rd x1 x11) = x10 then (if x8.size + 1 ≤ 9223372036854775807 then (if (x8 ++ (⟨#[35]⟩ : ByteArray)).size + x2.size ≤ 9223372036854775807 then (if ((x8 ++ (⟨#[35]⟩ : ByteArray)) ++ x2).size + 2 ≤ 9223372036854775807 then (vicinagelaw27_ScriptNotes.l2 k x0 x1 x2 (((x8 ++ (⟨#[35]⟩ : ByteArray)) ++ x2) ++ (⟨#[10, 10]⟩ : ByteArray)) (wrap64 (x9 + 2)) x10 (wrap64 (x11 + 1))) else (none)) else (none)) else (none)) else (vicinagelaw27_ScriptNotes.l2 k x0 x1 x2 x8 x9 x10 (wrap64 (x11 + 1)))) else (none)) else (if 0 ≤ x10 then (if x10 < (x0.length : Int) then ((script_Line.f ((rd_T26 x0 x10).f0) ((rd_T26 x0 x10).f1) ((rd_T26 x0 x10).f2) ((rd_T26 x0 x10).f3)).bind fun bt145 => (if bt145.2 = 0 then (if (x8.size : Int) > 20000 then ((vicinagelaw27_known.f).bind fun t147 => (some t147)) else (if x8.size + bt145.1.size ≤ 9223372036854775807 then (if (x8 ++ bt145.1).size + 1 ≤ 9223372036854775807 then (vicinagelaw27_ScriptNotes.l1 k x0 x1 x2 ((x8 ++ bt145.1) ++ (⟨#[10]⟩ : ByteArray)) (wrap64 (x9 + 1)) (wrap64 (x10 + 1))) else (none)) else (none))) else ((vicinagelaw27_known.f).bind fun t148 => (some t148)))) else (none)) else (none))
def vicinagelaw27_ScriptNotes.j4 : Nat → List (S26) → ByteArray → Int → List (S26) → Bool → Option (Bool)
 | 0, _, _, _, _, _ => none
 | k + 1, x0, x8, x9, x14, x112 => if x112 = true then (some false) else (vicinagelaw27_ScriptNotes.l3 k x0 x8 x9 x14 0)
def vicinagelaw27_ScriptNotes.l3 : Nat → List (S26) → ByteArray → Int → List (S26) → Int → Option (Bool)
 | 0, _, _, _, _, _ => none
 | k + 1, x0, x8, x9, x14, x17 => if x17 < (x0.length : Int) then (if 0 ≤ x17 then (if x17 < (x14.length : Int) then ((vicinageref27_Same.f k ((rd_T26 x0 x17).f0) ((rd_T26 x0 x17).f1) ((rd_T26 x0 x17).f2) ((rd_T26 x0 x17).f3) ((rd_T26 x14 x17).f0) ((rd_T26 x14 x17).f1) ((rd_T26 x14 x17).f2) ((rd_T26 x14 x17).f3)).bind fun t156 => (if t156 = true then (vicinagelaw27_ScriptNotes.l3 k x0 x8 x9 x14 (wrap64 (x17 + 1))) else (some false))) else (none)) else (none)) else (if x8.size + 5 ≤ 9223372036854775807 then ((script_Parse.f (x8 ++ (⟨#[102, 114, 111, 98, 10]⟩ : ByteArray))).bind fun bt157 => (if bt157.2.2 = 15 then (if bt157.2.1 = (wrap64 (x9 + 1)) then ((vicinagelaw27_known.f).bind fun t162 => (some t162)) else (some false)) else (some false))) else (none))
end
def vicinagelaw27_ScriptNotes.f (k : Nat) (l0 : List (S26)) (l1 : List Int) (a2 : ByteArray) : Option (Bool) := if (l0.length : Int) > 60 then (vicinagelaw27_ScriptNotes.j0 k l0 l1 a2 true) else (if (l1.length : Int) > 60 then (vicinagelaw27_ScriptNotes.j0 k l0 l1 a2 true) else ((vicinagelaw27_heavy.f k l0).bind fun t140 => (if t140 = true then (vicinagelaw27_ScriptNotes.j0 k l0 l1 a2 true) else (vicinagelaw27_ScriptNotes.j0 k l0 l1 a2 (decide ((a2.size : Int) > 100))))))
theorem vicinagelaw27_ScriptNotes.mono_l : ∀ k, (∀ y0 y1 y2 y3, LeO (vicinagelaw27_ScriptNotes.j0 k y0 y1 y2 y3) (vicinagelaw27_ScriptNotes.j0 (k + 1) y0 y1 y2 y3)) ∧ (∀ y0 y1 y2 y3, LeO (vicinagelaw27_ScriptNotes.l0 k y0 y1 y2 y3) (vicinagelaw27_ScriptNotes.l0 (k + 1) y0 y1 y2 y3)) ∧ (∀ y0 y1 y2 y3 y4 y5, LeO (vicinagelaw27_ScriptNotes.l1 k y0 y1 y2 y3 y4 y5) (vicinagelaw27_ScriptNotes.l1 (k + 1) y0 y1 y2 y3 y4 y5)) ∧ (∀ y0 y1 y2 y3 y4 y5 y6, LeO (vicinagelaw27_ScriptNotes.l2 k y0 y1 y2 y3 y4 y5 y6) (vicinagelaw27_ScriptNotes.l2 (k + 1) y0 y1 y2 y3 y4 y5 y6)) ∧ (∀ y0 y1 y2 y3 y4, LeO (vicinagelaw27_ScriptNotes.j4 k y0 y1 y2 y3 y4) (vicinagelaw27_ScriptNotes.j4 (k + 1) y0 y1 y2 y3 y4)) ∧ (∀ y0 y1 y2 y3 y4, LeO (vicinagelaw27_ScriptNotes.l3 k y0 y1 y2 y3 y4) (vicinagelaw27_ScriptNotes.l3 (k + 1) y0 y1 y2 y3 y4))
 | 0 => ⟨fun _ _ _ _ r h => by simp [vicinagelaw27_ScriptNotes.j0] at h, fun _ _ _ _ r h => by simp [vicinagelaw27_ScriptNotes.l0] at h, fun _ _ _ _ _ _ r h => by simp [vicinagelaw27_ScriptNotes.l1] at h, fun _ _ _ _ _ _ _ r h => by simp [vicinagelaw27_ScriptNotes.l2] at h, fun _ _ _ _ _ r h => by simp [vicinagelaw27_ScriptNotes.j4] at h, fun _ _ _ _ _ r h => by simp [vicinagelaw27_ScriptNotes.l3] at h⟩
 | k + 1 => by
  obtain ⟨ih0, ih1, ih2, ih3, ih4, ih5⟩ := vicinagelaw27_ScriptNotes.mono_l k
  refine ⟨?_, ?_, ?_, ?_, ?_, ?_⟩
  ·
   intro y0 y1 y2 y3
   unfold vicinagelaw27_ScriptNotes.j0
   repeat' first
   | (with_reducible exact ih0 _ _ _ _)
   | (with_reducible exact ih1 _ _ _ _)
   | (with_reducible exact ih2 _ _ _ _ _ _)
   | (with_reducible exact ih3 _ _ _ _ _ _ _)
   | (with_reducible exact ih4 _ _ _ _ _)
   | (with_reducible exact ih5 _ _ _ _ _)
   | (with_reducible exact vicinagelaw27_heavy.mono _ _)
   | (with_reducible exact vicinageref27_Same.mono _ _ _ _ _ _ _ _ _)
   | (with_reducible exact LeO.refl _)
   | (with_reducible exact LeO.none _)
   | (with_reducible refine LeO.ite ?_ ?_)
   | (with_reducible refine LeO.bind ?_ (fun _ => ?_))
   | exact ih0 _ _ _ _
   | exact ih1 _ _ _ _
   | exact ih2 _ _ _ _ _ _
   | exact ih3 _ _ _ _ _ _ _
   | exact ih4 _ _ _ _ _
   | exact ih5 _ _ _ _ _
   | exact vicinagelaw27_heavy.mono _ _
   | exact vicinageref27_Same.mono _ _ _ _ _ _ _ _ _
   | exact LeO.none _
   | refine LeO.ite ?_ ?_
   | refine LeO.bind ?_ (fun _ => ?_)
  ·
   intro y0 y1 y2 y3
   unfold vicinagelaw27_ScriptNotes.l0
   repeat' first
   | (with_reducible exact ih0 _ _ _ _)
   | (with_reducible exact ih1 _ _ _ _)
   | (with_reducible exact ih2 _ _ _ _ _ _)
   | (with_reducible exact ih3 _ _ _ _ _ _ _)
   | (with_reducible exact ih4 _ _ _ _ _)
   | (with_reducible exact ih5 _ _ _ _ _)
   | (with_reducible exact vicinagelaw27_heavy.mono _ _)
   | (with_reducible exact vicinageref27_Same.mono _ _ _ _ _ _ _ _ _)
   | (with_reducible exact LeO.refl _)
   | (with_reducible exact LeO.none _)
   | (with_reducible refine LeO.ite ?_ ?_)
   | (with_reducible refine LeO.bind ?_ (fun _ => ?_))
   | exact ih0 _ _ _ _
   | exact ih1 _ _ _ _
   | exact ih2 _ _ _ _ _ _
   | exact ih3 _ _ _ _ _ _ _
   | exact ih4 _ _ _ _ _
   | exact ih5 _ _ _ _ _
   | exact vicinagelaw27_heavy.mono _ _
   | exact vicinageref27_Same.mono _ _ _ _ _ _ _ _ _
   | exact LeO.none _
   | refine LeO.ite ?_ ?_
   | refine LeO.bind ?_ (fun _ => ?_)
  ·
   intro y0 y1 y2 y3 y4 y5
   unfold vicinagelaw27_ScriptNotes.l1
   repeat' first
   | (with_reducible exact ih0 _ _ _ _)
   | (with_reducible exact ih1 _ _ _ _)
   | (with_reducible exact ih2 _ _ _ _ _ _)
   | (with_reducible exact ih3 _ _ _ _ _ _ _)
   | (with_reducible exact ih4 _ _ _ _ _)
   | (with_reducible exact ih5 _ _ _ _ _)
   | (with_reducible exact vicinagelaw27_heavy.mono _ _)
   | (with_reducible exact vicinageref27_Same.mono _ _ _ _ _ _ _ _ _)
   | (with_reducible exact LeO.refl _)
   | (with_reducible exact LeO.none _)
   | (with_reducible refine LeO.ite ?_ ?_)
   | (with_reducible refine LeO.bind ?_ (fun _ => ?_))
   | exact ih0 _ _ _ _
   | exact ih1 _ _ _ _
   | exact ih2 _ _ _ _ _ _
   | exact ih3 _ _ _ _ _ _ _
   | exact ih4 _ _ _ _ _
   | exact ih5 _ _ _ _ _
   | exact vicinagelaw27_heavy.mono _ _
   | exact vicinageref27_Same.mono _ _ _ _ _ _ _ _ _
   | exact LeO.none _
   | refine LeO.ite ?_ ?_
   | refine LeO.bind ?_ (fun _ => ?_)
  ·
   intro y0 y1 y2 y3 y4 y5 y6
   unfold vicinagelaw27_ScriptNotes.l2
   repeat' first
   | (with_reducible exact ih0 _ _ _ _)
   | (with_reducible exact ih1 _ _ _ _)
   | (with_reducible exact ih2 _ _ _ _ _ _)
   | (with_reducible exact ih3 _ _ _ _ _ _ _)
   | (with_reducible exact ih4 _ _ _ _ _)
   | (with_reducible exact ih5 _ _ _ _ _)
   | (with_reducible exact vicinagelaw27_heavy.mono _ _)
   | (with_reducible exact vicinageref27_Same.mono _ _ _ _ _ _ _ _ _)
   | (with_reducible exact LeO.refl _)
   | (with_reducible exact LeO.none _)
   | (with_reducible refine LeO.ite ?_ ?_)
   | (with_reducible refine LeO.bind ?_ (fun _ => ?_))
   | exact ih0 _ _ _ _
   | exact ih1 _ _ _ _
   | exact ih2 _ _ _ _ _ _
   | exact ih3 _ _ _ _ _ _ _
   | exact ih4 _ _ _ _ _
   | exact ih5 _ _ _ _ _
   | exact vicinagelaw27_heavy.mono _ _
   | exact vicinageref27_Same.mono _ _ _ _ _ _ _ _ _
   | exact LeO.none _
   | refine LeO.ite ?_ ?_
   | refine LeO.bind ?_ (fun _ => ?_)
  ·
   intro y0 y1 y2 y3 y4
   unfold vicinagelaw27_ScriptNotes.j4
   repeat' first
   | (with_reducible exact ih0 _ _ _ _)
   | (with_reducible exact ih1 _ _ _ _)
   | (with_reducible exact ih2 _ _ _ _ _ _)
   | (with_reducible exact ih3 _ _ _ _ _ _ _)
   | (with_reducible exact ih4 _ _ _ _ _)
   | (with_reducible exact ih5 _ _ _ _ _)
   | (with_reducible exact vicinagelaw27_heavy.mono _ _)
   | (with_reducible exact vicinageref27_Same.mono _ _ _ _ _ _ _ _ _)
   | (with_reducible exact LeO.refl _)
   | (with_reducible exact LeO.none _)
   | (with_reducible refine LeO.ite ?_ ?_)
   | (with_reducible refine LeO.bind ?_ (fun _ => ?_))
   | exact ih0 _ _ _ _
   | exact ih1 _ _ _ _
   | exact ih2 _ _ _ _ _ _
   | exact ih3 _ _ _ _ _ _ _
   | exact ih4 _ _ _ _ _
   | exact ih5 _ _ _ _ _
   | exact vicinagelaw27_heavy.mono _ _
   | exact vicinageref27_Same.mono _ _ _ _ _ _ _ _ _
   | exact LeO.none _
   | refine LeO.ite ?_ ?_
   | refine LeO.bind ?_ (fun _ => ?_)
  ·
   intro y0 y1 y2 y3 y4
   unfold vicinagelaw27_ScriptNotes.l3
   repeat' first
   | (with_reducible exact ih0 _ _ _ _)
   | (with_reducible exact ih1 _ _ _ _)
   | (with_reducible exact ih2 _ _ _ _ _ _)
   | (with_reducible exact ih3 _ _ _ _ _ _ _)
   | (with_reducible exact ih4 _ _ _ _ _)
   | (with_reducible exact ih5 _ _ _ _ _)
   | (with_reducible exact vicinagelaw27_heavy.mono _ _)
   | (with_reducible exact vicinageref27_Same.mono _ _ _ _ _ _ _ _ _)
   | (with_reducible exact LeO.refl _)
   | (with_reducible exact LeO.none _)
   | (with_reducible refine LeO.ite ?_ ?_)
   | (with_reducible refine LeO.bind ?_ (fun _ => ?_))
   | exact ih0 _ _ _ _
   | exact ih1 _ _ _ _
   | exact ih2 _ _ _ _ _ _
   | exact ih3 _ _ _ _ _ _ _
   | exact ih4 _ _ _ _ _
   | exact ih5 _ _ _ _ _
   | exact vicinagelaw27_heavy.mono _ _
   | exact vicinageref27_Same.mono _ _ _ _ _ _ _ _ _
   | exact LeO.none _
   | refine LeO.ite ?_ ?_
   | refine LeO.bind ?_ (fun _ => ?_)
theorem vicinagelaw27_ScriptNotes.mono : ∀ a0 a1 a2 k, LeO (vicinagelaw27_ScriptNotes.f k a0 a1 a2) (vicinagelaw27_ScriptNotes.f (k + 1) a0 a1 a2) := by
 intro a0 a1 a2 k
 obtain ⟨ih0, ih1, ih2, ih3, ih4, ih5⟩ := vicinagelaw27_ScriptNotes.mono_l k
 unfold vicinagelaw27_ScriptNotes.f
 repeat' first
   | (with_reducible exact ih0 _ _ _ _)
   | (with_reducible exact ih1 _ _ _ _)
   | (with_reducible exact ih2 _ _ _ _ _ _)
   | (with_reducible exact ih3 _ _ _ _ _ _ _)
   | (with_reducible exact ih4 _ _ _ _ _)
   | (with_reducible exact ih5 _ _ _ _ _)
   | (with_reducible exact vicinagelaw27_heavy.mono _ _)
   | (with_reducible exact vicinageref27_Same.mono _ _ _ _ _ _ _ _ _)
   | (with_reducible exact LeO.refl _)
   | (with_reducible exact LeO.none _)
   | (with_reducible refine LeO.ite ?_ ?_)
   | (with_reducible refine LeO.bind ?_ (fun _ => ?_))
   | exact ih0 _ _ _ _
   | exact ih1 _ _ _ _
   | exact ih2 _ _ _ _ _ _
   | exact ih3 _ _ _ _ _ _ _
   | exact ih4 _ _ _ _ _
   | exact ih5 _ _ _ _ _
   | exact vicinagelaw27_heavy.mono _ _
   | exact vicinageref27_Same.mono _ _ _ _ _ _ _ _ _
   | exact LeO.none _
   | refine LeO.ite ?_ ?_
   | refine LeO.bind ?_ (fun _ => ?_)
def vicinagelaw27_ScriptNotes.T30 : Bool × List (List Nat × List Nat) := (true, [([], []), ([], []), ([0, 1], [0, 1]), ([2], [2]), ([], []), ([], []), ([4, 5], [4, 5]), ([6], [6]), ([3, 7], [3, 7]), ([8], [8])])
def vicinagelaw27_ScriptNotes.B30 : List Nat := [0, 0, 3, 7, 0, 0, 48, 112, 255, 511]
theorem vicinagelaw27_ScriptNotes.tab30 : rtab .any (opsOf Tryd.f4 30) = vicinagelaw27_ScriptNotes.T30 := by kernel_rfl
theorem vicinagelaw27_ScriptNotes.bits30 : waitsOk vicinagelaw27_ScriptNotes.T30.2 vicinagelaw27_ScriptNotes.B30 = true := by kernel_rfl
set_option maxHeartbeats 8000000 in
set_option maxRecDepth 100000 in
theorem vicinagelaw27_ScriptNotes.calls (k : Nat) (A0 : Option Addr) (c0 : Nat) (l0 : List (S26)) (A1 : Option Addr) (c1 : Nat) (l1 : List Int) (a2 : ByteArray) (r : Bool) (w : World) (hr0 : Kd.C k26 w A0 l0.length l0) (hc0 : l0.length ≤ c0) (hr1 : Kd.C (Kd.int .i64) w A1 l1.length l1) (hc1 : l1.length ≤ c1) (h : vicinagelaw27_ScriptNotes.f k l0 l1 a2 = some r) (hF : FixW w) :
  Calls Tryd.prog 4 #[.slice A0 l0.length c0, .slice A1 l1.length c1, .string a2] w fun e w' => e = .returned (.bool r) ∧ Below w.heap.size w w' := by
 have hu26 := Tryd.underlying26
 have HF := Aside0.mk hF
 clear hF
 have HR0 := Aside0.mk hr0
 have HC0 := Aside0.mk hc0
 clear hr0 hc0
 have HR1 := Aside0.mk hr1
 have HC1 := Aside0.mk hc1
 clear hr1 hc1
 have HB := Aside0.mk (Below.refl w.heap.size w)
 have H : (if (l0.length : Int) > 60 then (vicinagelaw27_ScriptNotes.j0 k l0 l1 a2 true) else (if (l1.length : Int) > 60 then (vicinagelaw27_ScriptNotes.j0 k l0 l1 a2 true) else ((vicinagelaw27_heavy.f k l0).bind fun t140 => (if t140 = true then (vicinagelaw27_ScriptNotes.j0 k l0 l1 a2 true) else (vicinagelaw27_ScriptNotes.j0 k l0 l1 a2 (decide ((a2.size : Int) > 100))))))) = some r := h
 clear h
 have HC4 := Aside0.mk H
 clear H
 go_enter Tryd.func4, Tryd.ntmps4
 go_upto_region 1 with (fail)
 go_cut [34] (fun v34 wc => ∃ (kq : Nat) (x34_3 : Bool), v34 = .bool x34_3 ∧ Aside0 (vicinagelaw27_ScriptNotes.j0 kq l0 l1 a2 x34_3 = some r) ∧ Aside0 (kq ≤ k) ∧ Aside0 (Below w.heap.size w wc))
 case first =>
  have H := HC4.out
  clear HC4
  by_cases c5 : (l0.length : Int) > 60
  ·
   rw [if_pos c5] at H
   have c5b0 : decide (60 < (l0.length : Int)) = true := decide_eq_true c5
   have c5b1 : decide (60 < l0.length) = true := decide_eq_true (by omega)
   clear c5
   (first | rw [c5b0] | (simp only [i64_w, i32_w]; rw [c5b0]) | skip)
   have H' := Aside0.mk H
   clear H
   go_wp2
   go_meet
   case rel => exact ⟨_, (true), (by first | rfl | (simp; done) | (simp [*]; done)), H', ⟨by first | omega | exact Nat.le_refl _⟩, ⟨by repeat (first | (with_reducible first | exact HB.out | apply below_alloc | apply pw_below_drewN | apply below_drew1) | exact HB.out)⟩⟩
  ·
   rw [if_neg c5] at H
   have c5b0 : decide (60 < (l0.length : Int)) = false := decide_eq_false c5
   have c5b1 : decide (60 < l0.length) = false := decide_eq_false (by omega)
   clear c5
   (first | rw [c5b0] | (simp only [i64_w, i32_w]; rw [c5b0]) | skip)
   by_cases c6 : (l1.length : Int) > 60
   ·
    rw [if_pos c6] at H
    have c6b0 : decide (60 < (l1.length : Int)) = true := decide_eq_true c6
    have c6b1 : decide (60 < l1.length) = true := decide_eq_true (by omega)
    clear c6
    have H' := Aside0.mk H
    clear H
    go_wp2
    go_meet
    case rel => exact ⟨_, (true), (by first | rfl | (simp; done) | (simp [*]; done)), H', ⟨by first | omega | exact Nat.le_refl _⟩, ⟨by repeat (first | (with_reducible first | exact HB.out | apply below_alloc | apply pw_below_drewN | apply below_drew1) | exact HB.out)⟩⟩
   ·
    rw [if_neg c6] at H
    have c6b0 : decide (60 < (l1.length : Int)) = false := decide_eq_false c6
    have c6b1 : decide (60 < l1.length) = false := decide_eq_false (by omega)
    clear c6
    replace H := Option.bind_eq_some_iff.mp H
    obtain ⟨t140, A70, H⟩ := H
    replace H : (if t140 = true then (vicinagelaw27_ScriptNotes.j0 k l0 l1 a2 true) else (vicinagelaw27_ScriptNotes.j0 k l0 l1 a2 (decide ((a2.size : Int) > 100)))) = some r := H
    have A7 := Aside0.mk A70
    clear A70
    by_cases c8 : t140 = true
    ·
     subst c8
     have H1 : (vicinagelaw27_ScriptNotes.j0 k l0 l1 a2 true) = some r := by rw [if_pos rfl] at H; exact H
     clear H
     have H := H1
     clear H1
     have H' := Aside0.mk H
     clear H
     go_wp2_with (first | (go_at_call 13; (with_reducible refine (vicinagelaw27_heavy.calls k _ _ l0 true _ ?side1 ?side2 A7.out).mono ?_); (case side1 => repeat (first | exact (Kd.C_below HR0.out HB.out) | (with_reducible refine Kd.C_alloc ?_ _) | (with_reducible refine Kd.C_drewN ?_ _) | (with_reducible refine Kd.C_drew ?_))); (case side2 => exact HC0.out); rintro e w' ⟨rfl, ⟨nd, rfl⟩⟩))
     go_meet
     case rel => exact ⟨_, (true), (by first | rfl | (simp; done) | (simp [*]; done)), H', ⟨by first | omega | exact Nat.le_refl _⟩, ⟨by repeat (first | (with_reducible first | exact HB.out | apply below_alloc | apply pw_below_drewN | apply below_drew1) | exact HB.out)⟩⟩
    ·
     replace c8 := Bool.eq_false_iff.mpr c8
     subst c8
     have H1 : (vicinagelaw27_ScriptNotes.j0 k l0 l1 a2 (decide ((a2.size : Int) > 100))) = some r := by rw [if_neg (show ¬ (false = true) by decide)] at H; exact H
     clear H
     have H := H1
     clear H1
     have H' := Aside0.mk H
     clear H
     go_wp2_with (first | (go_at_call 13; (with_reducible refine (vicinagelaw27_heavy.calls k _ _ l0 false _ ?side1 ?side2 A7.out).mono ?_); (case side1 => repeat (first | exact (Kd.C_below HR0.out HB.out) | (with_reducible refine Kd.C_alloc ?_ _) | (with_reducible refine Kd.C_drewN ?_ _) | (with_reducible refine Kd.C_drew ?_))); (case side2 => exact HC0.out); rintro e w' ⟨rfl, ⟨nd, rfl⟩⟩))
     go_meet
     case rel => exact ⟨_, (decide ((a2.size : Int) > 100)), (by first | rfl | (simp; done) | (simp [*]; done)), H', ⟨by first | omega | exact Nat.le_refl _⟩, ⟨by repeat (first | (with_reducible first | exact HB.out | apply below_alloc | apply pw_below_drewN | apply below_drew1) | exact HB.out)⟩⟩
 case rest =>
  clear HC4
  try clear c1
  try clear p2
  try clear c4
  try clear c5
  try clear c5b0
  try clear c5b1
  try clear c6
  try clear c6b0
  try clear c6b1
  try clear c8
  obtain ⟨kq, x34_3, rfl, HA, HJ3, HB⟩ := hcut
  cases kq with
  | zero => exact absurd HA.out (by simp [vicinagelaw27_ScriptNotes.j0])
  | succ kj3 =>
   have H := HA.out
   clear HA
   simp only [vicinagelaw27_ScriptNotes.j0] at H
   by_cases c9 : x34_3 = true
   ·
    subst c9
    have H1 : ((vicinagelaw27_known.f).bind fun t141 => (some t141)) = some r := by rw [if_pos rfl] at H; exact H
    clear H
    have H := H1
    clear H1
    replace H := Option.bind_eq_some_iff.mp H
    obtain ⟨t141, A100, H⟩ := H
    replace H : (some t141) = some r := H
    have A10 := Aside0.mk A100
    clear A100
    obtain rfl := Option.some.inj H
    go_wp2_with (first | ((with_reducible refine gate_callee (f := 6) rfl ?_); refine goesL_ (some 35) rfl rfl Tryd.func6 (by kernel_rfl) rfl #[] rfl (by (try simp only [List.map_toArray, List.map_cons, List.map_nil]); first | done | rfl | (simp only [List.length_drop, List.length_take]; rfl)) ?_; (with_reducible refine (vicinagelaw27_known.calls  t141 _ A10.out ?side1).mono ?_); (case side1 => exact FixW.below HF.out (by repeat (first | (with_reducible first | exact HB.out | apply below_alloc | apply pw_below_drewN | apply below_drew1) | exact HB.out))); rintro e w11 ⟨rfl, hb⟩; refine ⟨_, rfl, ?_⟩; have n0_ := Aside0.mk (below_step (by repeat (first | (with_reducible first | exact HB.out | apply below_alloc | apply pw_below_drewN | apply below_drew1) | exact HB.out)) hb); clear HB; have HB := n0_; clear n0_; (try clear hb); (try clear hb2); (try clear hk); (try clear hi)))
    go_ret
    exact ⟨by first | rfl | (simp [errW_none, errW_some] <;> rfl) | (simp [*, errW_none, errW_some] <;> rfl), by repeat (first | (with_reducible first | exact HB.out | apply below_alloc | apply pw_below_drewN | apply below_drew1) | exact HB.out)⟩
   ·
    replace c9 := Bool.eq_false_iff.mpr c9
    subst c9
    have H1 : (vicinagelaw27_ScriptNotes.l0 kj3 l0 l1 a2 0) = some r := by rw [if_neg (show ¬ (false = true) by decide)] at H; exact H
    clear H
    have H := H1
    clear H1
    have H' := Aside0.mk H
    clear H
    go_wp2
    go_loopg [7] kj3 (fun kq v7 w' => ∃ (x7_2 : Int), v7 = .int .i64 x7_2 ∧ Aside0 (vicinagelaw27_ScriptNotes.l0 kq l0 l1 a2 x7_2 = some r) ∧ Aside0 (kq ≤ kj3) ∧ Aside0 (Below w.heap.size w w'))
    case atStart => exact ⟨(0), (by first | rfl | (simp; done) | (simp [*]; done)), H', ⟨Nat.le_refl _⟩, ⟨by repeat (first | (with_reducible first | exact HB.out | apply below_alloc | apply pw_below_drewN | apply below_drew1) | exact HB.out)⟩⟩
    case round =>
     clear H'
     try clear c1
     try clear p2
     try clear c4
     try clear c5
     try clear c5b0
     try clear c5b1
     try clear c6
     try clear c6b0
     try clear c6b1
     try clear c8
     try clear c9
     try clear p2
     obtain ⟨x7_2, rfl, HA, HK2, HB⟩ := hrel
     cases gk with
     | zero => exact absurd HA.out (by simp [vicinagelaw27_ScriptNotes.l0])
     | succ k2 =>
      have H := HA.out
      clear HA
      simp only [vicinagelaw27_ScriptNotes.l0] at H
      by_cases c12 : x7_2 < (a2.size : Int)
      ·
       rw [if_pos c12] at H
       have c12b0 : decide (x7_2 < (a2.size : Int)) = true := decide_eq_true c12
       clear c12
       by_cases c13 : 0 ≤ x7_2
       ·
        rw [if_pos c13] at H
        have c13b0 : decide (0 ≤ x7_2) = true := decide_eq_true c13
        clear c13
        by_cases c15 : (bt a2 x7_2) = 10
        ·
         rw [if_pos c15] at H
         have c15b0 : ((bt a2 x7_2) == 10) = true := beq_iff_eq.mpr c15
         have c15b1 : ((bt a2 x7_2) != 10) = false := bne_eq_false_iff_eq.mpr c15
         clear c15
         replace H := Option.bind_eq_some_iff.mp H
         obtain ⟨t142, A160, H⟩ := H
         replace H : (some t142) = some r := H
         have A16 := Aside0.mk A160
         clear A160
         obtain rfl := Option.some.inj H
         have p14 : 0 ≤ (x7_2 : Int) := of_decide_eq_true (by first | (with_reducible assumption) | assumption)
         have q14 : x7_2 < (a2.size : Int) := of_decide_eq_true (by first | (with_reducible assumption) | assumption)
         have hx14 := bt_at a2 x7_2
         replace p14 := eq_true p14
         replace q14 := eq_true q14
         go_wp2_with (first | ((with_reducible refine gate_callee (f := 6) rfl ?_); refine goesL_ (some 46) rfl rfl Tryd.func6 (by kernel_rfl) rfl #[] rfl (by (try simp only [List.map_toArray, List.map_cons, List.map_nil]); first | done | rfl | (simp only [List.length_drop, List.length_take]; rfl)) ?_; (with_reducible refine (vicinagelaw27_known.calls  t142 _ A16.out ?side1).mono ?_); (case side1 => exact FixW.below HF.out (by repeat (first | (with_reducible first | exact HB.out | apply below_alloc | apply pw_below_drewN | apply below_drew1) | exact HB.out))); rintro e w17 ⟨rfl, hb⟩; refine ⟨_, rfl, ?_⟩; have n0_ := Aside0.mk (below_step (by repeat (first | (with_reducible first | exact HB.out | apply below_alloc | apply pw_below_drewN | apply below_drew1) | exact HB.out)) hb); clear HB; have HB := n0_; clear n0_; (try clear hb); (try clear hb2); (try clear hk); (try clear hi)))
         go_ret
         exact ⟨by first | rfl | (simp [errW_none, errW_some] <;> rfl) | (simp [*, errW_none, errW_some] <;> rfl), by repeat (first | (with_reducible first | exact HB.out | apply below_alloc | apply pw_below_drewN | apply below_drew1) | exact HB.out)⟩
        ·
         rw [if_neg c15] at H
         have c15b0 : ((bt a2 x7_2) == 10) = false := beq_eq_false_iff_ne.mpr c15
         have c15b1 : ((bt a2 x7_2) != 10) = true := bne_iff_ne.mpr c15
         have H' := Aside0.mk H
         clear H
         have p14 : 0 ≤ (x7_2 : Int) := of_decide_eq_true (by first | (with_reducible assumption) | assumption)
         have q14 : x7_2 < (a2.size : Int) := of_decide_eq_true (by first | (with_reducible assumption) | assumption)
         have hx14 := bt_at a2 x7_2
         replace p14 := eq_true p14
         replace q14 := eq_true q14
         go_wp2
         go_roundg k2
         case measure => have := HJ3.out; have := HK2.out; omega
         case rel => exact ⟨(wrap64 (x7_2 + 1)), (by first | rfl | (simp; done) | (simp [*]; done)), H', ⟨by have := HJ3.out; have := HK2.out; omega⟩, ⟨by repeat (first | (with_reducible first | exact HB.out | apply below_alloc | apply pw_below_drewN | apply below_drew1) | exact HB.out)⟩⟩
       ·
        rw [if_neg c13] at H
        exact absurd H (by simp)
      ·
       rw [if_neg c12] at H
       have c12b0 : decide (x7_2 < (a2.size : Int)) = false := decide_eq_false c12
       clear c12
       have H' := Aside0.mk H
       clear H
       go_wp2
       go_loopg [8, 9, 10] k2 (fun kq v8 v9 v10 w' => ∃ (x8_3 : ByteArray) (x9_3 : Int) (x10_3 : Int), v8 = .string x8_3 ∧ v9 = .int .i64 x9_3 ∧ v10 = .int .i64 x10_3 ∧ Aside0 (vicinagelaw27_ScriptNotes.l1 kq l0 l1 a2 x8_3 x9_3 x10_3 = some r) ∧ Aside0 (kq ≤ k2) ∧ Aside0 (Below w.heap.size w w'))
       case atStart => exact ⟨((⟨#[]⟩ : ByteArray)), (0), (0), (by first | rfl | (simp; done) | (simp [*]; done)), (by first | rfl | (simp; done) | (simp [*]; done)), (by first | rfl | (simp; done) | (simp [*]; done)), H', ⟨Nat.le_refl _⟩, ⟨by repeat (first | (with_reducible first | exact HB.out | apply below_alloc | apply pw_below_drewN | apply below_drew1) | exact HB.out)⟩⟩
       case round =>
        clear H'
        try clear c1
        try clear p1
        try clear q1
        try clear hx1
        try clear p2
        try clear c4
        try clear c5
        try clear c5b0
        try clear c5b1
        try clear c6
        try clear c6b0
        try clear c6b1
        try clear p6
        try clear c8
        try clear c9
        try clear c12
        try clear c12b0
        try clear c13
        try clear c13b0
        try clear p14
        try clear q14
        try clear hx14
        try clear c15
        try clear c15b0
        try clear c15b1
        try clear p14
        try clear p2
        try clear q14
        obtain ⟨x8_3, x9_3, x10_3, rfl, rfl, rfl, HA, HK3, HB⟩ := hrel
        cases gk with
        | zero => exact absurd HA.out (by simp [vicinagelaw27_ScriptNotes.l1])
        | succ k3 =>
         have H := HA.out
         clear HA
         simp only [vicinagelaw27_ScriptNotes.l1] at H
         by_cases c18 : x10_3 < (l0.length : Int)
         ·
          rw [if_pos c18] at H
          have c18b0 : decide (x10_3 < (l0.length : Int)) = true := decide_eq_true c18
          clear c18
          have H' := Aside0.mk H
          clear H
          go_wp2
          go_loopg [8, 9, 11] k3 (fun kq v8 v9 v11 w' => ∃ (x8_4 : ByteArray) (x9_4 : Int) (x11_4 : Int), v8 = .string x8_4 ∧ v9 = .int .i64 x9_4 ∧ v11 = .int .i64 x11_4 ∧ Aside0 (vicinagelaw27_ScriptNotes.l2 kq l0 l1 a2 x8_4 x9_4 x10_3 x11_4 = some r) ∧ Aside0 (kq ≤ k3) ∧ Aside0 (Below w.heap.size w w'))
          case atStart => exact ⟨(x8_3), (x9_3), (0), (by first | rfl | (simp; done) | (simp [*]; done)), (by first | rfl | (simp; done) | (simp [*]; done)), (by first | rfl | (simp; done) | (simp [*]; done)), H', ⟨Nat.le_refl _⟩, ⟨by repeat (first | (with_reducible first | exact HB.out | apply below_alloc | apply pw_below_drewN | apply below_drew1) | exact HB.out)⟩⟩
          case round =>
           clear H'
           try clear c1
           try clear p1
           try clear q1
           try clear hx1
           try clear p2
           try clear c4
           try clear c5
           try clear c5b0
           try clear c5b1
           try clear c6
           try clear c6b0
           try clear c6b1
           try clear p6
           try clear c8
           try clear c9
           try clear c12
           try clear c12b0
           try clear c13
           try clear c13b0
           try clear p14
           try clear q14
           try clear hx14
           try clear c15
           try clear c15b0
           try clear c15b1
           try clear c18
           try clear c18b0
           try clear p1
           try clear p14
           try clear p2
           try clear p6
           try clear q1
           try clear q14
           obtain ⟨x8_4, x9_4, x11_4, rfl, rfl, rfl, HA, HK4, HB⟩ := hrel
           cases gk with
           | zero => exact absurd HA.out (by simp [vicinagelaw27_ScriptNotes.l2])
           | succ k4 =>
            have H := HA.out
            clear HA
            simp only [vicinagelaw27_ScriptNotes.l2] at H
            by_cases c19 : x11_4 < (l1.length : Int)
            ·
             rw [if_pos c19] at H
             have c19b0 : decide (x11_4 < (l1.length : Int)) = true := decide_eq_true c19
             clear c19
             by_cases c20 : 0 ≤ x11_4
             ·
              rw [if_pos c20] at H
              have c20b0 : decide (0 ≤ x11_4) = true := decide_eq_true c20
              clear c20
              by_cases c21 : (rd l1 x11_4) = x10_3
              ·
               rw [if_pos c21] at H
               have c21b0 : ((rd l1 x11_4) == x10_3) = true := beq_iff_eq.mpr c21
               have c21b1 : ((rd l1 x11_4) != x10_3) = false := bne_eq_false_iff_eq.mpr c21
               clear c21
               by_cases c22 : x8_4.size + 1 ≤ 9223372036854775807
               ·
                rw [if_pos c22] at H
                have c22b0 := eq_true c22
                have c22b1 : decide (x8_4.size + 1 ≤ 9223372036854775807) = true := decide_eq_true c22
                try have c22b2 : (9223372036854775807 < x8_4.size + 1) = False := eq_false (Nat.not_lt.2 c22)
                by_cases c23 : (x8_4 ++ (⟨#[35]⟩ : ByteArray)).size + a2.size ≤ 9223372036854775807
                ·
                 rw [if_pos c23] at H
                 have c23b0 := eq_true c23
                 have c23b1 : decide ((x8_4 ++ (⟨#[35]⟩ : ByteArray)).size + a2.size ≤ 9223372036854775807) = true := decide_eq_true c23
                 try have c23b2 : (9223372036854775807 < (x8_4 ++ (⟨#[35]⟩ : ByteArray)).size + a2.size) = False := eq_false (Nat.not_lt.2 c23)
                 have c23z : (9223372036854775807 < x8_4.size + 1 + a2.size) = False := eq_false (Nat.not_lt.2 (by have hz := c23; simp only [ByteArray.size_append] at hz; exact hz))
                 by_cases c24 : ((x8_4 ++ (⟨#[35]⟩ : ByteArray)) ++ a2).size + 2 ≤ 9223372036854775807
                 ·
                  rw [if_pos c24] at H
                  have c24b0 := eq_true c24
                  have c24b1 : decide (((x8_4 ++ (⟨#[35]⟩ : ByteArray)) ++ a2).size + 2 ≤ 9223372036854775807) = true := decide_eq_true c24
                  try have c24b2 : (9223372036854775807 < ((x8_4 ++ (⟨#[35]⟩ : ByteArray)) ++ a2).size + 2) = False := eq_false (Nat.not_lt.2 c24)
                  have c24z : (9223372036854775807 < x8_4.size + 1 + a2.size + 2) = False := eq_false (Nat.not_lt.2 (by have hz := c24; simp only [ByteArray.size_append] at hz; exact hz))
                  have H' := Aside0.mk H
                  clear H
                  have p143 : 0 ≤ (x11_4 : Int) := of_decide_eq_true (by first | (with_reducible assumption) | assumption)
                  have q143 : x11_4 < (l1.length : Int) := of_decide_eq_true (by first | (with_reducible assumption) | assumption)
                  obtain ⟨ad143, e143, hx143_0⟩ := Kd.at_int HR1.out x11_4 p143 q143
                  cases e143
                  replace hx143_0 := (HB.out.cell (World.block_lt_of_cell? w _ hx143_0)).trans hx143_0
                  replace p143 := eq_true p143
                  replace q143 := eq_true q143
                  go_wp2
                  go_roundg k4
                  case measure => have := HJ3.out; have := HK2.out; have := HK3.out; have := HK4.out; omega
                  case rel => exact ⟨(((x8_4 ++ (⟨#[35]⟩ : ByteArray)) ++ a2) ++ (⟨#[10, 10]⟩ : ByteArray)), (wrap64 (x9_4 + 2)), (wrap64 (x11_4 + 1)), (by first | rfl | (simp; done) | (simp [*]; done)), (by first | rfl | (simp; done) | (simp [*]; done)), (by first | rfl | (simp; done) | (simp [*]; done)), H', ⟨by have := HJ3.out; have := HK2.out; have := HK3.out; have := HK4.out; omega⟩, ⟨by repeat (first | (with_reducible first | exact HB.out | apply below_alloc | apply pw_below_drewN | apply below_drew1) | exact HB.out)⟩⟩
                 ·
                  rw [if_neg c24] at H
                  exact absurd H (by simp)
                ·
                 rw [if_neg c23] at H
                 exact absurd H (by simp)
               ·
                rw [if_neg c22] at H
                exact absurd H (by simp)
              ·
               rw [if_neg c21] at H
               have c21b0 : ((rd l1 x11_4) == x10_3) = false := beq_eq_false_iff_ne.mpr c21
               have c21b1 : ((rd l1 x11_4) != x10_3) = true := bne_iff_ne.mpr c21
               have H' := Aside0.mk H
               clear H
               have p143 : 0 ≤ (x11_4 : Int) := of_decide_eq_true (by first | (with_reducible assumption) | assumption)
               have q143 : x11_4 < (l1.length : Int) := of_decide_eq_true (by first | (with_reducible assumption) | assumption)
               obtain ⟨ad143, e143, hx143_0⟩ := Kd.at_int HR1.out x11_4 p143 q143
               cases e143
               replace hx143_0 := (HB.out.cell (World.block_lt_of_cell? w _ hx143_0)).trans hx143_0
               replace p143 := eq_true p143
               replace q143 := eq_true q143
               go_wp2
               go_roundg k4
               case measure => have := HJ3.out; have := HK2.out; have := HK3.out; have := HK4.out; omega
               case rel => exact ⟨(x8_4), (x9_4), (wrap64 (x11_4 + 1)), (by first | rfl | (simp; done) | (simp [*]; done)), (by first | rfl | (simp; done) | (simp [*]; done)), (by first | rfl | (simp; done) | (simp [*]; done)), H', ⟨by have := HJ3.out; have := HK2.out; have := HK3.out; have := HK4.out; omega⟩, ⟨by repeat (first | (with_reducible first | exact HB.out | apply below_alloc | apply pw_below_drewN | apply below_drew1) | exact HB.out)⟩⟩
             ·
              rw [if_neg c20] at H
              exact absurd H (by simp)
            ·
             rw [if_neg c19] at H
             have c19b0 : decide (x11_4 < (l1.length : Int)) = false := decide_eq_false c19
             clear c19
             by_cases c25 : 0 ≤ x10_3
             ·
              rw [if_pos c25] at H
              have c25b0 : decide (0 ≤ x10_3) = true := decide_eq_true c25
              clear c25
              by_cases c26 : x10_3 < (l0.length : Int)
              ·
               rw [if_pos c26] at H
               have c26b0 : decide (x10_3 < (l0.length : Int)) = true := decide_eq_true c26
               clear c26
               replace H := Option.bind_eq_some_iff.mp H
               obtain ⟨⟨t145, t146⟩, A270, H⟩ := H
               replace H : (if t146 = 0 then (if (x8_4.size : Int) > 20000 then ((vicinagelaw27_known.f).bind fun t147 => (some t147)) else (if x8_4.size + t145.size ≤ 9223372036854775807 then (if (x8_4 ++ t145).size + 1 ≤ 9223372036854775807 then (vicinagelaw27_ScriptNotes.l1 k4 l0 l1 a2 ((x8_4 ++ t145) ++ (⟨#[10]⟩ : ByteArray)) (wrap64 (x9_4 + 1)) (wrap64 (x10_3 + 1))) else (none)) else (none))) else ((vicinagelaw27_known.f).bind fun t148 => (some t148))) = some r := H
               have A27 := Aside0.mk A270
               clear A270
               by_cases c28 : t146 = 0
               ·
                rw [if_pos c28] at H
                have c28b0 : (t146 == 0) = true := beq_iff_eq.mpr c28
                have c28b1 : (t146 != 0) = false := bne_eq_false_iff_eq.mpr c28
                clear c28
                by_cases c29 : (x8_4.size : Int) > 20000
                ·
                 rw [if_pos c29] at H
                 have c29b0 : decide (20000 < (x8_4.size : Int)) = true := decide_eq_true c29
                 have c29b1 : decide (20000 < x8_4.size) = true := decide_eq_true (by omega)
                 clear c29
                 replace H := Option.bind_eq_some_iff.mp H
                 obtain ⟨t147, A300, H⟩ := H
                 replace H : (some t147) = some r := H
                 have A30 := Aside0.mk A300
                 clear A300
                 obtain rfl := Option.some.inj H
                 have p144 : 0 ≤ (x10_3 : Int) := of_decide_eq_true (by first | (with_reducible assumption) | assumption)
                 have q144 : x10_3 < (l0.length : Int) := of_decide_eq_true (by first | (with_reducible assumption) | assumption)
                 obtain ⟨ad144, A144_2, c144_2, A144_3, c144_3, e144, hx144_0, hx144_1, hx144_2, hx144_3, hl144_2, hi144_2, hl144_3, hi144_3⟩ := at_T26 HR0.out x10_3 p144 q144
                 cases e144
                 replace hx144_0 := (HB.out.cell (World.block_lt_of_cell? w _ hx144_0)).trans hx144_0
                 replace hx144_1 := (HB.out.cell (World.block_lt_of_cell? w _ hx144_1)).trans hx144_1
                 replace hx144_2 := (HB.out.cell (World.block_lt_of_cell? w _ hx144_2)).trans hx144_2
                 replace hx144_3 := (HB.out.cell (World.block_lt_of_cell? w _ hx144_3)).trans hx144_3
                 have HR144_2 := Aside0.mk hi144_2
                 have HC144_2 := Aside0.mk hl144_2
                 clear hi144_2 hl144_2
                 have HR144_3 := Aside0.mk hi144_3
                 have HC144_3 := Aside0.mk hl144_3
                 clear hi144_3 hl144_3
                 replace p144 := eq_true p144
                 replace q144 := eq_true q144
                 go_wp2_with (first | ((with_reducible refine gate_callee (f := 7) rfl ?_); refine goesL_ (some 77) rfl rfl Tryd.func7 (by kernel_rfl) rfl #[.agg #[.int .i64 ((rd_T26 l0 x10_3).f0), .int .i64 ((rd_T26 l0 x10_3).f1), .slice A144_2 ((rd_T26 l0 x10_3).f2).length c144_2, .slice A144_3 ((rd_T26 l0 x10_3).f3).length c144_3]] rfl (by (try simp only [List.map_toArray, List.map_cons, List.map_nil]); first | done | rfl | (simp only [List.length_drop, List.length_take]; rfl)) ?_; (with_reducible refine (script_Line.calls ((rd_T26 l0 x10_3).f0) ((rd_T26 l0 x10_3).f1) _ _ ((rd_T26 l0 x10_3).f2) _ _ ((rd_T26 l0 x10_3).f3) t145 t146 _ ?side1 ?side2 ?side3 ?side4 A27.out ?side5).mono ?_); (case side1 => repeat (first | exact (Kd.C_below HR144_2.out HB.out) | (with_reducible refine Kd.C_alloc ?_ _) | (with_reducible refine Kd.C_drewN ?_ _) | (with_reducible refine Kd.C_drew ?_))); (case side2 => exact HC144_2.out); (case side3 => repeat (first | exact (Kd.C_below HR144_3.out HB.out) | (with_reducible refine Kd.C_alloc ?_ _) | (with_reducible refine Kd.C_drewN ?_ _) | (with_reducible refine Kd.C_drew ?_))); (case side4 => exact HC144_3.out); (case side5 => exact FixW.below HF.out (by repeat (first | (with_reducible first | exact HB.out | apply below_alloc | apply pw_below_drewN | apply below_drew1) | exact HB.out))); rintro e w31 ⟨rfl, hb⟩; refine ⟨_, rfl, ?_⟩; have n0_ := Aside0.mk (below_step (by repeat (first | (with_reducible first | exact HB.out | apply below_alloc | apply pw_below_drewN | apply below_drew1) | exact HB.out)) hb); clear HB; have HB := n0_; clear n0_; (try clear hb); (try clear hb2); (try clear hk); (try clear hi)) | ((with_reducible refine gate_callee (f := 6) rfl ?_); refine goesL_ (some 87) rfl rfl Tryd.func6 (by kernel_rfl) rfl #[] rfl (by (try simp only [List.map_toArray, List.map_cons, List.map_nil]); first | done | rfl | (simp only [List.length_drop, List.length_take]; rfl)) ?_; (with_reducible refine (vicinagelaw27_known.calls  t147 _ A30.out ?side1).mono ?_); (case side1 => exact FixW.below HF.out (by repeat (first | (with_reducible first | exact HB.out | apply below_alloc | apply pw_below_drewN | apply below_drew1) | exact HB.out))); rintro e w32 ⟨rfl, hb⟩; refine ⟨_, rfl, ?_⟩; have n0_ := Aside0.mk (below_step (by repeat (first | (with_reducible first | exact HB.out | apply below_alloc | apply pw_below_drewN | apply below_drew1) | exact HB.out)) hb); clear HB; have HB := n0_; clear n0_; (try clear hb); (try clear hb2); (try clear hk); (try clear hi)))
                 go_ret
                 exact ⟨by first | rfl | (simp [errW_none, errW_some] <;> rfl) | (simp [*, errW_none, errW_some] <;> rfl), by repeat (first | (with_reducible first | exact HB.out | apply below_alloc | apply pw_below_drewN | apply below_drew1) | exact HB.out)⟩
                ·
                 rw [if_neg c29] at H
                 have c29b0 : decide (20000 < (x8_4.size : Int)) = false := decide_eq_false c29
                 have c29b1 : decide (20000 < x8_4.size) = false := decide_eq_false (by omega)
                 clear c29
                 by_cases c33 : x8_4.size + t145.size ≤ 9223372036854775807
                 ·
                  rw [if_pos c33] at H
                  have c33b0 := eq_true c33
                  have c33b1 : decide (x8_4.size + t145.size ≤ 9223372036854775807) = true := decide_eq_true c33
                  try have c33b2 : (9223372036854775807 < x8_4.size + t145.size) = False := eq_false (Nat.not_lt.2 c33)
                  by_cases c34 : (x8_4 ++ t145).size + 1 ≤ 9223372036854775807
                  ·
                   rw [if_pos c34] at H
                   have c34b0 := eq_true c34
                   have c34b1 : decide ((x8_4 ++ t145).size + 1 ≤ 9223372036854775807) = true := decide_eq_true c34
                   try have c34b2 : (9223372036854775807 < (x8_4 ++ t145).size + 1) = False := eq_false (Nat.not_lt.2 c34)
                   have c34z : (9223372036854775807 < x8_4.size + t145.size + 1) = False := eq_false (Nat.not_lt.2 (by have hz := c34; simp only [ByteArray.size_append] at hz; exact hz))
                   have H' := Aside0.mk H
                   clear H
                   have p144 : 0 ≤ (x10_3 : Int) := of_decide_eq_true (by first | (with_reducible assumption) | assumption)
                   have q144 : x10_3 < (l0.length : Int) := of_decide_eq_true (by first | (with_reducible assumption) | assumption)
                   obtain ⟨ad144, A144_2, c144_2, A144_3, c144_3, e144, hx144_0, hx144_1, hx144_2, hx144_3, hl144_2, hi144_2, hl144_3, hi144_3⟩ := at_T26 HR0.out x10_3 p144 q144
                   cases e144
                   replace hx144_0 := (HB.out.cell (World.block_lt_of_cell? w _ hx144_0)).trans hx144_0
                   replace hx144_1 := (HB.out.cell (World.block_lt_of_cell? w _ hx144_1)).trans hx144_1
                   replace hx144_2 := (HB.out.cell (World.block_lt_of_cell? w _ hx144_2)).trans hx144_2
                   replace hx144_3 := (HB.out.cell (World.block_lt_of_cell? w _ hx144_3)).trans hx144_3
                   have HR144_2 := Aside0.mk hi144_2
                   have HC144_2 := Aside0.mk hl144_2
                   clear hi144_2 hl144_2
                   have HR144_3 := Aside0.mk hi144_3
                   have HC144_3 := Aside0.mk hl144_3
                   clear hi144_3 hl144_3
                   replace p144 := eq_true p144
                   replace q144 := eq_true q144
                   go_wp2_with (first | ((with_reducible refine gate_callee (f := 7) rfl ?_); refine goesL_ (some 77) rfl rfl Tryd.func7 (by kernel_rfl) rfl #[.agg #[.int .i64 ((rd_T26 l0 x10_3).f0), .int .i64 ((rd_T26 l0 x10_3).f1), .slice A144_2 ((rd_T26 l0 x10_3).f2).length c144_2, .slice A144_3 ((rd_T26 l0 x10_3).f3).length c144_3]] rfl (by (try simp only [List.map_toArray, List.map_cons, List.map_nil]); first | done | rfl | (simp only [List.length_drop, List.length_take]; rfl)) ?_; (with_reducible refine (script_Line.calls ((rd_T26 l0 x10_3).f0) ((rd_T26 l0 x10_3).f1) _ _ ((rd_T26 l0 x10_3).f2) _ _ ((rd_T26 l0 x10_3).f3) t145 t146 _ ?side1 ?side2 ?side3 ?side4 A27.out ?side5).mono ?_); (case side1 => repeat (first | exact (Kd.C_below HR144_2.out HB.out) | (with_reducible refine Kd.C_alloc ?_ _) | (with_reducible refine Kd.C_drewN ?_ _) | (with_reducible refine Kd.C_drew ?_))); (case side2 => exact HC144_2.out); (case side3 => repeat (first | exact (Kd.C_below HR144_3.out HB.out) | (with_reducible refine Kd.C_alloc ?_ _) | (with_reducible refine Kd.C_drewN ?_ _) | (with_reducible refine Kd.C_drew ?_))); (case side4 => exact HC144_3.out); (case side5 => exact FixW.below HF.out (by repeat (first | (with_reducible first | exact HB.out | apply below_alloc | apply pw_below_drewN | apply below_drew1) | exact HB.out))); rintro e w35 ⟨rfl, hb⟩; refine ⟨_, rfl, ?_⟩; have n0_ := Aside0.mk (below_step (by repeat (first | (with_reducible first | exact HB.out | apply below_alloc | apply pw_below_drewN | apply below_drew1) | exact HB.out)) hb); clear HB; have HB := n0_; clear n0_; (try clear hb); (try clear hb2); (try clear hk); (try clear hi)))
                   go_roundg k4
                   case measure => have := HJ3.out; have := HK2.out; have := HK3.out; have := HK4.out; omega
                   case rel => exact ⟨((x8_4 ++ t145) ++ (⟨#[10]⟩ : ByteArray)), (wrap64 (x9_4 + 1)), (wrap64 (x10_3 + 1)), (by first | rfl | (simp; done) | (simp [*]; done)), (by first | rfl | (simp; done) | (simp [*]; done)), (by first | rfl | (simp; done) | (simp [*]; done)), H', ⟨by have := HJ3.out; have := HK2.out; have := HK3.out; have := HK4.out; omega⟩, ⟨by repeat (first | (with_reducible first | exact HB.out | apply below_alloc | apply pw_below_drewN | apply below_drew1) | exact HB.out)⟩⟩
                  ·
                   rw [if_neg c34] at H
                   exact absurd H (by simp)
                 ·
                  rw [if_neg c33] at H
                  exact absurd H (by simp)
               ·
                rw [if_neg c28] at H
                have c28b0 : (t146 == 0) = false := beq_eq_false_iff_ne.mpr c28
                have c28b1 : (t146 != 0) = true := bne_iff_ne.mpr c28
                replace H := Option.bind_eq_some_iff.mp H
                obtain ⟨t148, A360, H⟩ := H
                replace H : (some t148) = some r := H
                have A36 := Aside0.mk A360
                clear A360
                obtain rfl := Option.some.inj H
                have p144 : 0 ≤ (x10_3 : Int) := of_decide_eq_true (by first | (with_reducible assumption) | assumption)
                have q144 : x10_3 < (l0.length : Int) := of_decide_eq_true (by first | (with_reducible assumption) | assumption)
                obtain ⟨ad144, A144_2, c144_2, A144_3, c144_3, e144, hx144_0, hx144_1, hx144_2, hx144_3, hl144_2, hi144_2, hl144_3, hi144_3⟩ := at_T26 HR0.out x10_3 p144 q144
                cases e144
                replace hx144_0 := (HB.out.cell (World.block_lt_of_cell? w _ hx144_0)).trans hx144_0
                replace hx144_1 := (HB.out.cell (World.block_lt_of_cell? w _ hx144_1)).trans hx144_1
                replace hx144_2 := (HB.out.cell (World.block_lt_of_cell? w _ hx144_2)).trans hx144_2
                replace hx144_3 := (HB.out.cell (World.block_lt_of_cell? w _ hx144_3)).trans hx144_3
                have HR144_2 := Aside0.mk hi144_2
                have HC144_2 := Aside0.mk hl144_2
                clear hi144_2 hl144_2
                have HR144_3 := Aside0.mk hi144_3
                have HC144_3 := Aside0.mk hl144_3
                clear hi144_3 hl144_3
                replace p144 := eq_true p144
                replace q144 := eq_true q144
                go_wp2_with (first | ((with_reducible refine gate_callee (f := 7) rfl ?_); refine goesL_ (some 77) rfl rfl Tryd.func7 (by kernel_rfl) rfl #[.agg #[.int .i64 ((rd_T26 l0 x10_3).f0), .int .i64 ((rd_T26 l0 x10_3).f1), .slice A144_2 ((rd_T26 l0 x10_3).f2).length c144_2, .slice A144_3 ((rd_T26 l0 x10_3).f3).length c144_3]] rfl (by (try simp only [List.map_toArray, List.map_cons, List.map_nil]); first | done | rfl | (simp only [List.length_drop, List.length_take]; rfl)) ?_; (with_reducible refine (script_Line.calls ((rd_T26 l0 x10_3).f0) ((rd_T26 l0 x10_3).f1) _ _ ((rd_T26 l0 x10_3).f2) _ _ ((rd_T26 l0 x10_3).f3) t145 t146 _ ?side1 ?side2 ?side3 ?side4 A27.out ?side5).mono ?_); (case side1 => repeat (first | exact (Kd.C_below HR144_2.out HB.out) | (with_reducible refine Kd.C_alloc ?_ _) | (with_reducible refine Kd.C_drewN ?_ _) | (with_reducible refine Kd.C_drew ?_))); (case side2 => exact HC144_2.out); (case side3 => repeat (first | exact (Kd.C_below HR144_3.out HB.out) | (with_reducible refine Kd.C_alloc ?_ _) | (with_reducible refine Kd.C_drewN ?_ _) | (with_reducible refine Kd.C_drew ?_))); (case side4 => exact HC144_3.out); (case side5 => exact FixW.below HF.out (by repeat (first | (with_reducible first | exact HB.out | apply below_alloc | apply pw_below_drewN | apply below_drew1) | exact HB.out))); rintro e w37 ⟨rfl, hb⟩; refine ⟨_, rfl, ?_⟩; have n0_ := Aside0.mk (below_step (by repeat (first | (with_reducible first | exact HB.out | apply below_alloc | apply pw_below_drewN | apply below_drew1) | exact HB.out)) hb); clear HB; have HB := n0_; clear n0_; (try clear hb); (try clear hb2); (try clear hk); (try clear hi)) | ((with_reducible refine gate_callee (f := 6) rfl ?_); refine goesL_ (some 87) rfl rfl Tryd.func6 (by kernel_rfl) rfl #[] rfl (by (try simp only [List.map_toArray, List.map_cons, List.map_nil]); first | done | rfl | (simp only [List.length_drop, List.length_take]; rfl)) ?_; (with_reducible refine (vicinagelaw27_known.calls  t148 _ A36.out ?side1).mono ?_); (case side1 => exact FixW.below HF.out (by repeat (first | (with_reducible first | exact HB.out | apply below_alloc | apply pw_below_drewN | apply below_drew1) | exact HB.out))); rintro e w38 ⟨rfl, hb⟩; refine ⟨_, rfl, ?_⟩; have n0_ := Aside0.mk (below_step (by repeat (first | (with_reducible first | exact HB.out | apply below_alloc | apply pw_below_drewN | apply below_drew1) | exact HB.out)) hb); clear HB; have HB := n0_; clear n0_; (try clear hb); (try clear hb2); (try clear hk); (try clear hi)))
                go_ret
                exact ⟨by first | rfl | (simp [errW_none, errW_some] <;> rfl) | (simp [*, errW_none, errW_some] <;> rfl), by repeat (first | (with_reducible first | exact HB.out | apply below_alloc | apply pw_below_drewN | apply below_drew1) | exact HB.out)⟩
              ·
               rw [if_neg c26] at H
               exact absurd H (by simp)
             ·
              rw [if_neg c25] at H
              exact absurd H (by simp)
         ·
          rw [if_neg c18] at H
          have c18b0 : decide (x10_3 < (l0.length : Int)) = false := decide_eq_false c18
          clear c18
          replace H := Option.bind_eq_some_iff.mp H
          obtain ⟨⟨t149, t150, t151⟩, A390, H⟩ := H
          replace H : (if t151 = 0 then (if t150 = 0 then (vicinagelaw27_ScriptNotes.j4 k3 l0 x8_3 x9_3 t149 ((t149.length : Int) != (l0.length : Int))) else (vicinagelaw27_ScriptNotes.j4 k3 l0 x8_3 x9_3 t149 true)) else (vicinagelaw27_ScriptNotes.j4 k3 l0 x8_3 x9_3 t149 true)) = some r := H
          have A39 := Aside0.mk A390
          clear A390
          have HC40 := Aside0.mk H
          clear H
          go_upto_region 25 with (first | ((with_reducible refine gate_callee (f := 14) rfl ?_); refine goesL_ (some 96) rfl rfl Tryd.func14 (by kernel_rfl) rfl #[.string x8_3] rfl (by (try simp only [List.map_toArray, List.map_cons, List.map_nil]); first | done | rfl | (simp only [List.length_drop, List.length_take]; rfl)) ?_; (with_reducible refine (script_Parse.calls x8_3 t149 t150 t151 _ A39.out ?side1).mono ?_); (case side1 => exact FixW.below HF.out (by repeat (first | (with_reducible first | exact HB.out | apply below_alloc | apply pw_below_drewN | apply below_drew1) | exact HB.out))); rintro e w41 ⟨v152, rfl, ho0, hb⟩; refine ⟨_, rfl, ?_⟩; have n0_ := Aside0.mk (Kd.S_lower ho0 (below_size (by repeat (first | (with_reducible first | exact HB.out | apply below_alloc | apply pw_below_drewN | apply below_drew1) | exact HB.out)))); have n1_ := Aside0.mk (below_step (by repeat (first | (with_reducible first | exact HB.out | apply below_alloc | apply pw_below_drewN | apply below_drew1) | exact HB.out)) hb); clear HB; have HO153 := n0_; have HB := n1_; clear n0_ n1_; (try clear hb); (try clear hb2); (try clear hk); (try clear hi); (try clear ho0)))
          (try simp only [Act.put, List.setIfInBounds_toArray, List.set_cons_zero, List.set_cons_succ])
          go_cut [112] (fun v112 wc => ∃ (kq : Nat) (x112_39 : Bool), v112 = .bool x112_39 ∧ Aside0 (vicinagelaw27_ScriptNotes.j4 kq l0 x8_3 x9_3 t149 x112_39 = some r) ∧ Aside0 (kq ≤ k3) ∧ Aside0 (Kd.S k26 26 wc w.heap.size (fun _ => True) v152 t149) ∧ Aside0 (Below w.heap.size w wc))
          case first =>
           have H := HC40.out
           clear HC40
           by_cases c42 : t151 = 0
           ·
            rw [if_pos c42] at H
            have c42b0 : (t151 == 0) = true := beq_iff_eq.mpr c42
            have c42b1 : (t151 != 0) = false := bne_eq_false_iff_eq.mpr c42
            clear c42
            (first | rw [c42b0] | (simp only [i64_w, i32_w]; rw [c42b0]) | skip)
            by_cases c43 : t150 = 0
            ·
             rw [if_pos c43] at H
             have c43b0 : (t150 == 0) = true := beq_iff_eq.mpr c43
             have c43b1 : (t150 != 0) = false := bne_eq_false_iff_eq.mpr c43
             clear c43
             have H' := Aside0.mk H
             clear H
             obtain ⟨Ao44, co44, eo44⟩ := Kd.S_slice HO153.out
             subst eo44
             go_wp2
             go_meet
             case rel => exact ⟨_, (((t149.length : Int) != (l0.length : Int))), (by first | rfl | (simp; done) | (simp [*]; done)), H', ⟨by have := HJ3.out; have := HK2.out; have := HK3.out; first | omega | exact Nat.le_refl _⟩, ⟨by (with_reducible repeat (first | apply Kd.S_alloc | apply Kd.S_drewN | apply Kd.S_drew)); exact HO153.out⟩, ⟨by repeat (first | (with_reducible first | exact HB.out | apply below_alloc | apply pw_below_drewN | apply below_drew1) | exact HB.out)⟩⟩
            ·
             rw [if_neg c43] at H
             have c43b0 : (t150 == 0) = false := beq_eq_false_iff_ne.mpr c43
             have c43b1 : (t150 != 0) = true := bne_iff_ne.mpr c43
             have H' := Aside0.mk H
             clear H
             go_wp2
             go_meet
             case rel => exact ⟨_, (true), (by first | rfl | (simp; done) | (simp [*]; done)), H', ⟨by have := HJ3.out; have := HK2.out; have := HK3.out; first | omega | exact Nat.le_refl _⟩, ⟨by (with_reducible repeat (first | apply Kd.S_alloc | apply Kd.S_drewN | apply Kd.S_drew)); exact HO153.out⟩, ⟨by repeat (first | (with_reducible first | exact HB.out | apply below_alloc | apply pw_below_drewN | apply below_drew1) | exact HB.out)⟩⟩
           ·
            rw [if_neg c42] at H
            have c42b0 : (t151 == 0) = false := beq_eq_false_iff_ne.mpr c42
            have c42b1 : (t151 != 0) = true := bne_iff_ne.mpr c42
            (first | rw [c42b0] | (simp only [i64_w, i32_w]; rw [c42b0]) | skip)
            have H' := Aside0.mk H
            clear H
            go_wp2
            go_meet
            case rel => exact ⟨_, (true), (by first | rfl | (simp; done) | (simp [*]; done)), H', ⟨by have := HJ3.out; have := HK2.out; have := HK3.out; first | omega | exact Nat.le_refl _⟩, ⟨by (with_reducible repeat (first | apply Kd.S_alloc | apply Kd.S_drewN | apply Kd.S_drew)); exact HO153.out⟩, ⟨by repeat (first | (with_reducible first | exact HB.out | apply below_alloc | apply pw_below_drewN | apply below_drew1) | exact HB.out)⟩⟩
          case rest =>
           clear HC40
           try clear c1
           try clear p1
           try clear q1
           try clear hx1
           try clear c2
           try clear p2
           try clear c3
           try clear c4
           try clear c5
           try clear c5b0
           try clear c5b1
           try clear c6
           try clear c6b0
           try clear c6b1
           try clear p6
           try clear c7
           try clear c8
           try clear c9
           try clear c12
           try clear c12b0
           try clear c13
           try clear c13b0
           try clear c14
           try clear p14
           try clear q14
           try clear hx14
           try clear c15
           try clear c15b0
           try clear c15b1
           try clear c18
           try clear c18b0
           try clear c19
           try clear c19b0
           try clear c20
           try clear c20b0
           try clear c21
           try clear c21b0
           try clear c21b1
           try clear c22
           try clear c22b0
           try clear c22b1
           try clear c22b2
           try clear c23
           try clear c23b0
           try clear c23b1
           try clear c23b2
           try clear c24
           try clear c24b0
           try clear c24b1
           try clear c24b2
           try clear c25
           try clear c25b0
           try clear c26
           try clear c26b0
           try clear c28
           try clear c28b0
           try clear c28b1
           try clear c29
           try clear c29b0
           try clear c29b1
           try clear c33
           try clear c33b0
           try clear c33b1
           try clear c33b2
           try clear c34
           try clear c34b0
           try clear c34b1
           try clear c34b2
           try clear c42
           try clear c42b0
           try clear c42b1
           try clear c43
           try clear c43b0
           try clear c43b1
           try clear hx143_0
           try clear hx144_0
           try clear hx144_1
           try clear hx144_2
           try clear hx144_3
           try clear p1
           try clear p14
           try clear p143
           try clear p144
           try clear p2
           try clear p6
           try clear q1
           try clear q14
           try clear q143
           try clear q144
           obtain ⟨kq, x112_39, rfl, HA, HJ39, HO_14, HB⟩ := hcut
           cases kq with
           | zero => exact absurd HA.out (by simp [vicinagelaw27_ScriptNotes.j4])
           | succ kj39 =>
            have H := HA.out
            clear HA
            simp only [vicinagelaw27_ScriptNotes.j4] at H
            by_cases c45 : x112_39 = true
            ·
             subst c45
             have H1 : (some false) = some r := by rw [if_pos rfl] at H; exact H
             clear H
             have H := H1
             clear H1
             obtain rfl := Option.some.inj H
             go_wp2
             go_ret
             exact ⟨by first | rfl | (simp [errW_none, errW_some] <;> rfl) | (simp [*, errW_none, errW_some] <;> rfl), by repeat (first | (with_reducible first | exact HB.out | apply below_alloc | apply pw_below_drewN | apply below_drew1) | exact HB.out)⟩
            ·
             replace c45 := Bool.eq_false_iff.mpr c45
             subst c45
             have H1 : (vicinagelaw27_ScriptNotes.l3 kj39 l0 x8_3 x9_3 t149 0) = some r := by rw [if_neg (show ¬ (false = true) by decide)] at H; exact H
             clear H
             have H := H1
             clear H1
             have H' := Aside0.mk H
             clear H
             go_wp2
             go_loopg [17] kj39 (fun kq v17 w' => ∃ (x17_5 : Int), v17 = .int .i64 x17_5 ∧ Aside0 (vicinagelaw27_ScriptNotes.l3 kq l0 x8_3 x9_3 t149 x17_5 = some r) ∧ Aside0 (kq ≤ kj39) ∧ Aside0 (Kd.S k26 26 w' w.heap.size (fun _ => True) v152 t149) ∧ Aside0 (Below w.heap.size w w'))
             case atStart => exact ⟨(0), (by first | rfl | (simp; done) | (simp [*]; done)), H', ⟨Nat.le_refl _⟩, ⟨by (with_reducible repeat (first | apply Kd.S_alloc | apply Kd.S_drewN | apply Kd.S_drew)); exact HO_14.out⟩, ⟨by repeat (first | (with_reducible first | exact HB.out | apply below_alloc | apply pw_below_drewN | apply below_drew1) | exact HB.out)⟩⟩
             case round =>
              clear H'
              try clear c1
              try clear p1
              try clear q1
              try clear hx1
              try clear c2
              try clear p2
              try clear c3
              try clear c4
              try clear c5
              try clear c5b0
              try clear c5b1
              try clear c6
              try clear c6b0
              try clear c6b1
              try clear p6
              try clear c7
              try clear c8
              try clear c9
              try clear c12
              try clear c12b0
              try clear c13
              try clear c13b0
              try clear c14
              try clear p14
              try clear q14
              try clear hx14
              try clear c15
              try clear c15b0
              try clear c15b1
              try clear c18
              try clear c18b0
              try clear c19
              try clear c19b0
              try clear c20
              try clear c20b0
              try clear c21
              try clear c21b0
              try clear c21b1
              try clear c22
              try clear c22b0
              try clear c22b1
              try clear c22b2
              try clear c23
              try clear c23b0
              try clear c23b1
              try clear c23b2
              try clear c24
              try clear c24b0
              try clear c24b1
              try clear c24b2
              try clear c25
              try clear c25b0
              try clear c26
              try clear c26b0
              try clear c28
              try clear c28b0
              try clear c28b1
              try clear c29
              try clear c29b0
              try clear c29b1
              try clear c33
              try clear c33b0
              try clear c33b1
              try clear c33b2
              try clear c34
              try clear c34b0
              try clear c34b1
              try clear c34b2
              try clear c42
              try clear c42b0
              try clear c42b1
              try clear c43
              try clear c43b0
              try clear c43b1
              try clear c45
              try clear hx143_0
              try clear hx144_0
              try clear hx144_1
              try clear hx144_2
              try clear hx144_3
              try clear p1
              try clear p14
              try clear p143
              try clear p144
              try clear p2
              try clear p6
              try clear q1
              try clear q14
              try clear q143
              try clear q144
              obtain ⟨x17_5, rfl, HA, HK5, HO_14, HB⟩ := hrel
              cases gk with
              | zero => exact absurd HA.out (by simp [vicinagelaw27_ScriptNotes.l3])
              | succ k5 =>
               have H := HA.out
               clear HA
               simp only [vicinagelaw27_ScriptNotes.l3] at H
               by_cases c46 : x17_5 < (l0.length : Int)
               ·
                rw [if_pos c46] at H
                have c46b0 : decide (x17_5 < (l0.length : Int)) = true := decide_eq_true c46
                clear c46
                by_cases c47 : 0 ≤ x17_5
                ·
                 rw [if_pos c47] at H
                 have c47b0 : decide (0 ≤ x17_5) = true := decide_eq_true c47
                 clear c47
                 by_cases c48 : x17_5 < (t149.length : Int)
                 ·
                  rw [if_pos c48] at H
                  have c48b0 : decide (x17_5 < (t149.length : Int)) = true := decide_eq_true c48
                  clear c48
                  replace H := Option.bind_eq_some_iff.mp H
                  obtain ⟨t156, A490, H⟩ := H
                  replace H : (if t156 = true then (vicinagelaw27_ScriptNotes.l3 k5 l0 x8_3 x9_3 t149 (wrap64 (x17_5 + 1))) else (some false)) = some r := H
                  have A49 := Aside0.mk A490
                  clear A490
                  by_cases c50 : t156 = true
                  ·
                   subst c50
                   have H1 : (vicinagelaw27_ScriptNotes.l3 k5 l0 x8_3 x9_3 t149 (wrap64 (x17_5 + 1))) = some r := by rw [if_pos rfl] at H; exact H
                   clear H
                   have H := H1
                   clear H1
                   have H' := Aside0.mk H
                   clear H
                   try go_wp2
                   have n0_ := Aside0.mk (Kd.S_drew HO_14.out)
                   have n1_ := Aside0.mk (below_drew1 HB.out)
                   clear HO_14
                   clear HB
                   have HO_14 := n0_
                   have HB := n1_
                   clear n0_ n1_
                   have p154 : 0 ≤ (x17_5 : Int) := of_decide_eq_true (by first | (with_reducible assumption) | assumption)
                   have q154 : x17_5 < (l0.length : Int) := of_decide_eq_true (by first | (with_reducible assumption) | assumption)
                   obtain ⟨ad154, A154_2, c154_2, A154_3, c154_3, e154, hx154_0, hx154_1, hx154_2, hx154_3, hl154_2, hi154_2, hl154_3, hi154_3⟩ := at_T26 HR0.out x17_5 p154 q154
                   have hw154_3 := hx154_3
                   have hw154_2 := hx154_2
                   have hw154_1 := hx154_1
                   have hw154_0 := hx154_0
                   cases e154
                   replace hx154_0 := (HB.out.cell (World.block_lt_of_cell? w _ hx154_0)).trans hx154_0
                   replace hx154_1 := (HB.out.cell (World.block_lt_of_cell? w _ hx154_1)).trans hx154_1
                   replace hx154_2 := (HB.out.cell (World.block_lt_of_cell? w _ hx154_2)).trans hx154_2
                   replace hx154_3 := (HB.out.cell (World.block_lt_of_cell? w _ hx154_3)).trans hx154_3
                   have HR154_2 := Aside0.mk hi154_2
                   have HC154_2 := Aside0.mk hl154_2
                   clear hi154_2 hl154_2
                   have HR154_3 := Aside0.mk hi154_3
                   have HC154_3 := Aside0.mk hl154_3
                   clear hi154_3 hl154_3
                   replace p154 := eq_true p154
                   replace q154 := eq_true q154
                   obtain ⟨Ao52, co52, eo52⟩ := Kd.S_slice HO_14.out
                   (first | subst eo52 | (injection eo52 with f1_ f2_ f3_; have f4_ := f1_.symm; have f5_ := f3_.symm; clear f1_ f2_ f3_; subst f4_; subst f5_))
                   have p155 : 0 ≤ (x17_5 : Int) := of_decide_eq_true (by first | (with_reducible assumption) | assumption)
                   have q155 : x17_5 < (t149.length : Int) := of_decide_eq_true (by first | (with_reducible assumption) | assumption)
                   obtain ⟨ad155, A155_2, c155_2, A155_3, c155_3, e155, hx155_0, hx155_1, hx155_2, hx155_3, hl155_2, hi155_2, hl155_3, hi155_3⟩ := at_T26 (Kd.S_reads' HO_14.out).2.2 x17_5 p155 q155
                   cases e155
                   obtain ⟨ce155, hce155, hMe155, hcc155⟩ := Kd.S_get HO_14.out z26 x17_5 p155 (by first | exact q155 | exact of_decide_eq_true (by first | (with_reducible assumption) | assumption) | (have e_ := (Kd.S_reads' HO_14.out).1; omega))
                   obtain ⟨ve155_2, ve155_3, rfl, ge155_2, ge155_3⟩ := k26_openM hMe155
                   have hv155_2 := hcc155 2 _ rfl
                   rw [add_field _ _ 2 (by omega)] at hv155_2
                   replace hv155_2 := Option.some.inj (hv155_2.symm.trans hx155_2)
                   rw [hv155_2] at ge155_2
                   have HL155_2 := Aside0.mk (show Kd.R (Kd.int .u8) 5 _ _ _ _ ((rd_T26 t149 x17_5).f2) from ge155_2)
                   clear hv155_2 ge155_2
                   have hv155_3 := hcc155 3 _ rfl
                   rw [add_field _ _ 3 (by omega)] at hv155_3
                   replace hv155_3 := Option.some.inj (hv155_3.symm.trans hx155_3)
                   rw [hv155_3] at ge155_3
                   have HL155_3 := Aside0.mk (show Kd.R (Kd.int .i64) 3 _ _ _ _ ((rd_T26 t149 x17_5).f3) from ge155_3)
                   clear hv155_3 ge155_3
                   clear hcc155 hce155
                   have HR155_2 := Aside0.mk hi155_2
                   have HC155_2 := Aside0.mk hl155_2
                   clear hi155_2 hl155_2
                   have HR155_3 := Aside0.mk hi155_3
                   have HC155_3 := Aside0.mk hl155_3
                   clear hi155_3 hl155_3
                   replace p155 := eq_true p155
                   replace q155 := eq_true q155
                   refine start_ (n := 10) (S := fun w' => w'.cell? (ad154.add ((x17_5).toNat * 4)) = some (.int .i64 ((rd_T26 l0 x17_5).f0)) ∧ w'.cell? ⟨(ad154.add ((x17_5).toNat * 4)).block, (ad154.add ((x17_5).toNat * 4)).off + 1, none⟩ = some (.int .i64 ((rd_T26 l0 x17_5).f1)) ∧ w'.cell? ⟨(ad154.add ((x17_5).toNat * 4)).block, (ad154.add ((x17_5).toNat * 4)).off + 2, none⟩ = some (.slice A154_2 ((rd_T26 l0 x17_5).f2).length c154_2) ∧ w'.cell? ⟨(ad154.add ((x17_5).toNat * 4)).block, (ad154.add ((x17_5).toNat * 4)).off + 3, none⟩ = some (.slice A154_3 ((rd_T26 l0 x17_5).f3).length c154_3) ∧ w'.cell? (ad155.add ((x17_5).toNat * 4)) = some (.int .i64 ((rd_T26 t149 x17_5).f0)) ∧ w'.cell? ⟨(ad155.add ((x17_5).toNat * 4)).block, (ad155.add ((x17_5).toNat * 4)).off + 1, none⟩ = some (.int .i64 ((rd_T26 t149 x17_5).f1)) ∧ w'.cell? ⟨(ad155.add ((x17_5).toNat * 4)).block, (ad155.add ((x17_5).toNat * 4)).off + 2, none⟩ = some (.slice A155_2 ((rd_T26 t149 x17_5).f2).length c155_2) ∧ w'.cell? ⟨(ad155.add ((x17_5).toNat * 4)).block, (ad155.add ((x17_5).toNat * 4)).off + 3, none⟩ = some (.slice A155_3 ((rd_T26 t149 x17_5).f3).length c155_3)) (ds := []) #[false, false, false, false, false, false, false, false, false, false] (by kernel_rfl) rfl rfl ⟨((HB.out.cell (World.block_lt_of_cell? w _ hw154_0)).trans hw154_0), ((HB.out.cell (World.block_lt_of_cell? w _ hw154_1)).trans hw154_1), ((HB.out.cell (World.block_lt_of_cell? w _ hw154_2)).trans hw154_2), ((HB.out.cell (World.block_lt_of_cell? w _ hw154_3)).trans hw154_3), hx155_0, hx155_1, hx155_2, hx155_3⟩ (fun hHeld => ?_); refine with_tabW vicinagelaw27_ScriptNotes.tab30 vicinagelaw27_ScriptNotes.bits30 (fun HT_ HW_ => ?_)
                   generalize wr.drew = w51 at HO_14 HB HL155_2 HL155_3 HR154_2 HR154_3 HR155_2 HR155_3 hx154_0 hx154_1 hx154_2 hx154_3 hx155_0 hx155_1 hx155_2 hx155_3 hHeld ⊢
                   refine pure_ (i := 0) (N := some 119) (v := ?_) (a' := ?_) #[true, false, false, false, false, false, false, false, false, false] rfl rfl (any_of HT_.out (by kernel_rfl)) (fun _ _ _ h => h) (Or.inl ⟨by rfl, ?_⟩) ?_ ?_
                   rotate_left
                   ·
                    intro w'
                    go_simp
                    with_reducible rfl
                   rotate_left
                   ·
                    simp only [Act.put, List.setIfInBounds_toArray, List.set_cons_zero, List.set_cons_succ, i64_w, i32_w]
                    rfl
                   refine pure_ (i := 1) (N := some 120) (v := ?_) (a' := ?_) #[true, true, false, false, false, false, false, false, false, false] rfl rfl (any_of HT_.out (by kernel_rfl)) (fun _ _ _ h => h) (Or.inl ⟨by rfl, ?_⟩) ?_ ?_
                   rotate_left
                   ·
                    intro w'
                    go_simp
                    with_reducible rfl
                   rotate_left
                   ·
                    simp only [Act.put, List.setIfInBounds_toArray, List.set_cons_zero, List.set_cons_succ, i64_w, i32_w]
                    rfl
                   refine pure_ (i := 2) (N := some 121) (v := ?_) (a' := ?_) #[true, true, true, false, false, false, false, false, false, false] rfl rfl (any_of HT_.out (by kernel_rfl)) (fun _ _ _ h => h) (Or.inl ⟨by rfl, ?_⟩) ?_ ?_
                   rotate_left
                   ·
                    intro w'
                    go_simp
                    with_reducible rfl
                   rotate_left
                   ·
                    simp only [Act.put, List.setIfInBounds_toArray, List.set_cons_zero, List.set_cons_succ, i64_w, i32_w]
                    rfl
                   refine pure_ (i := 4) (N := some 123) (v := ?_) (a' := ?_) #[true, true, true, false, true, false, false, false, false, false] rfl rfl (any_of HT_.out (by kernel_rfl)) (fun _ _ _ h => h) (Or.inl ⟨by rfl, ?_⟩) ?_ ?_
                   rotate_left
                   ·
                    intro w'
                    go_simp
                    with_reducible rfl
                   rotate_left
                   ·
                    simp only [Act.put, List.setIfInBounds_toArray, List.set_cons_zero, List.set_cons_succ, i64_w, i32_w]
                    rfl
                   refine pure_ (i := 5) (N := some 124) (v := ?_) (a' := ?_) #[true, true, true, false, true, true, false, false, false, false] rfl rfl (any_of HT_.out (by kernel_rfl)) (fun _ _ _ h => h) (Or.inl ⟨by rfl, ?_⟩) ?_ ?_
                   rotate_left
                   ·
                    intro w'
                    go_simp
                    with_reducible rfl
                   rotate_left
                   ·
                    simp only [Act.put, List.setIfInBounds_toArray, List.set_cons_zero, List.set_cons_succ, i64_w, i32_w]
                    rfl
                   refine pure_ (i := 6) (N := some 125) (v := ?_) (a' := ?_) #[true, true, true, false, true, true, true, false, false, false] rfl rfl (any_of HT_.out (by kernel_rfl)) (fun _ _ _ h => h) (Or.inl ⟨by rfl, ?_⟩) ?_ ?_
                   rotate_left
                   ·
                    intro w'
                    go_simp
                    with_reducible rfl
                   rotate_left
                   ·
                    simp only [Act.put, List.setIfInBounds_toArray, List.set_cons_zero, List.set_cons_succ, i64_w, i32_w]
                    rfl
                   refine take_ (i := 3) (N := some 122) (v := ?_) (a' := ?_) #[true, true, true, true, true, true, true, false, false, false] rfl rfl (take_ofW HT_.out HW_.out (by kernel_rfl)) (fun _ _ _ h => h) (Or.inl ⟨by rfl, ?_⟩) hHeld ?_ ?_
                   rotate_left
                   ·
                    rintro w' ⟨s0, s1, s2, s3, s4, s5, s6, s7⟩
                    go_simp
                    with_reducible rfl
                   rotate_left
                   ·
                    simp only [Act.put, List.setIfInBounds_toArray, List.set_cons_zero, List.set_cons_succ, i64_w, i32_w]
                    rfl
                   refine take_ (i := 7) (N := some 126) (v := ?_) (a' := ?_) #[true, true, true, true, true, true, true, true, false, false] rfl rfl (take_ofW HT_.out HW_.out (by kernel_rfl)) (fun _ _ _ h => h) (Or.inl ⟨by rfl, ?_⟩) hHeld ?_ ?_
                   rotate_left
                   ·
                    rintro w' ⟨s0, s1, s2, s3, s4, s5, s6, s7⟩
                    go_simp
                    with_reducible rfl
                   rotate_left
                   ·
                    simp only [Act.put, List.setIfInBounds_toArray, List.set_cons_zero, List.set_cons_succ, i64_w, i32_w]
                    rfl
                   refine one_ (i := 8) (N := some 127) #[true, true, true, true, true, true, true, true, true, false] rfl rfl (one_of HT_.out (by kernel_rfl)) (by decide) (fun K hK => ?_)
                   refine goes_ Tryd.func10 (by kernel_rfl) rfl #[.agg #[.int .i64 ((rd_T26 l0 x17_5).f0), .int .i64 ((rd_T26 l0 x17_5).f1), .slice A154_2 ((rd_T26 l0 x17_5).f2).length c154_2, .slice A154_3 ((rd_T26 l0 x17_5).f3).length c154_3], .agg #[.int .i64 ((rd_T26 t149 x17_5).f0), .int .i64 ((rd_T26 t149 x17_5).f1), .slice A155_2 ((rd_T26 t149 x17_5).f2).length c155_2, .slice A155_3 ((rd_T26 t149 x17_5).f3).length c155_3]] (by rfl) rfl rfl (by (try simp only [List.map_toArray, List.map_cons, List.map_nil]); first | done | rfl | (simp only [List.length_drop, List.length_take]; rfl)) ?_
                   with_reducible refine (vicinageref27_Same.calls k5 ((rd_T26 l0 x17_5).f0) ((rd_T26 l0 x17_5).f1) _ _ ((rd_T26 l0 x17_5).f2) _ _ ((rd_T26 l0 x17_5).f3) ((rd_T26 t149 x17_5).f0) ((rd_T26 t149 x17_5).f1) _ _ ((rd_T26 t149 x17_5).f2) _ _ ((rd_T26 t149 x17_5).f3) true _ ?side1 ?side2 ?side3 ?side4 ?side5 ?side6 ?side7 ?side8 A49.out).mono ?_
                   (case side1 => repeat (first | exact (Kd.C_below HR154_2.out HB.out) | (with_reducible refine Kd.C_alloc ?_ _) | (with_reducible refine Kd.C_drewN ?_ _) | (with_reducible refine Kd.C_drew ?_)))
                   (case side2 => exact HC154_2.out)
                   (case side3 => repeat (first | exact (Kd.C_below HR154_3.out HB.out) | (with_reducible refine Kd.C_alloc ?_ _) | (with_reducible refine Kd.C_drewN ?_ _) | (with_reducible refine Kd.C_drew ?_)))
                   (case side4 => exact HC154_3.out)
                   (case side5 => repeat (first | exact (by repeat (first | (with_reducible exact HR155_2.out) | (with_reducible refine Kd.C_alloc ?_ _) | (with_reducible refine Kd.C_drewN ?_ _) | (with_reducible refine Kd.C_drew ?_) | exact HR155_2.out)) | (with_reducible refine Kd.C_alloc ?_ _) | (with_reducible refine Kd.C_drewN ?_ _) | (with_reducible refine Kd.C_drew ?_)))
                   (case side6 => exact HC155_2.out)
                   (case side7 => repeat (first | exact (by repeat (first | (with_reducible exact HR155_3.out) | (with_reducible refine Kd.C_alloc ?_ _) | (with_reducible refine Kd.C_drewN ?_ _) | (with_reducible refine Kd.C_drew ?_) | exact HR155_3.out)) | (with_reducible refine Kd.C_alloc ?_ _) | (with_reducible refine Kd.C_drewN ?_ _) | (with_reducible refine Kd.C_drew ?_)))
                   (case side8 => exact HC155_3.out)
                   rintro e w53 ⟨rfl, hb⟩
                   have HS4_ := (hb.cell (World.block_lt_of_cell? _ _ (hHeld.2.2.2.2.1))).trans (hHeld.2.2.2.2.1)
                   have HS5_ := (hb.cell (World.block_lt_of_cell? _ _ (hHeld.2.2.2.2.2.1))).trans (hHeld.2.2.2.2.2.1)
                   have HS6_ := (hb.cell (World.block_lt_of_cell? _ _ (hHeld.2.2.2.2.2.2.1))).trans (hHeld.2.2.2.2.2.2.1)
                   have HS7_ := (hb.cell (World.block_lt_of_cell? _ _ (hHeld.2.2.2.2.2.2.2))).trans (hHeld.2.2.2.2.2.2.2)
                   refine ⟨_, rfl, ?_⟩
                   have n0_ := Aside0.mk (Kd.S_below (by (with_reducible repeat (first | apply Kd.S_alloc | apply Kd.S_drewN | apply Kd.S_drew)); exact HO_14.out) hb)
                   have n1_ := Aside0.mk (Kd.R_below (by (with_reducible repeat (first | apply Kd.R_alloc | apply Kd.R_drewN | apply Kd.R_drew)); exact HL155_2.out) hb)
                   have n2_ := Aside0.mk (Kd.R_below (by (with_reducible repeat (first | apply Kd.R_alloc | apply Kd.R_drewN | apply Kd.R_drew)); exact HL155_3.out) hb)
                   have n3_ := Aside0.mk (Kd.C_below (by repeat (first | (with_reducible exact HR155_2.out) | (with_reducible refine Kd.C_alloc ?_ _) | (with_reducible refine Kd.C_drewN ?_ _) | (with_reducible refine Kd.C_drew ?_) | exact HR155_2.out)) hb)
                   have n4_ := Aside0.mk (Kd.C_below (by repeat (first | (with_reducible exact HR155_3.out) | (with_reducible refine Kd.C_alloc ?_ _) | (with_reducible refine Kd.C_drewN ?_ _) | (with_reducible refine Kd.C_drew ?_) | exact HR155_3.out)) hb)
                   have n5_ := Aside0.mk (below_step (by repeat (first | (with_reducible first | exact HB.out | apply below_alloc | apply pw_below_drewN | apply below_drew1) | exact HB.out)) hb)
                   clear HO_14
                   clear HL155_2
                   clear HL155_3
                   clear HR155_2
                   clear HR155_3
                   clear HB
                   have HO_14 := n0_
                   have HL155_2 := n1_
                   have HL155_3 := n2_
                   have HR155_2 := n3_
                   have HR155_3 := n4_
                   have HB := n5_
                   clear n0_ n1_ n2_ n3_ n4_ n5_
                   (try clear hb)
                   (try clear hb2)
                   (try clear hk)
                   (try clear hi)
                   refine hK.out _ _ ⟨((HB.out.cell (World.block_lt_of_cell? w _ hw154_0)).trans hw154_0), ((HB.out.cell (World.block_lt_of_cell? w _ hw154_1)).trans hw154_1), ((HB.out.cell (World.block_lt_of_cell? w _ hw154_2)).trans hw154_2), ((HB.out.cell (World.block_lt_of_cell? w _ hw154_3)).trans hw154_3), HS4_, HS5_, HS6_, HS7_⟩ (fun hHeld => ?_)
                   clear hK K
                   refine norm_ (a' := ?_) ?_ ?_
                   rotate_left
                   ·
                    show Act.put _ (some 127) _ = _
                    simp only [Act.put, List.setIfInBounds_toArray, List.set_cons_zero, List.set_cons_succ, i64_w, i32_w]
                    rfl
                   refine pure_ (i := 9) (N := some 128) (v := ?_) (a' := ?_) #[true, true, true, true, true, true, true, true, true, true] rfl rfl (any_of HT_.out (by kernel_rfl)) (fun _ _ _ h => h) (Or.inl ⟨by rfl, ?_⟩) ?_ ?_
                   rotate_left
                   ·
                    intro w'
                    go_simp
                    with_reducible rfl
                   rotate_left
                   ·
                    simp only [Act.put, List.setIfInBounds_toArray, List.set_cons_zero, List.set_cons_succ, i64_w, i32_w]
                    rfl
                   refine done_ (done_of HT_.out (by kernel_rfl)) ?_
                   try go_wp2
                   go_roundg k5
                   case measure => have := HJ3.out; have := HK2.out; have := HK3.out; have := HJ39.out; have := HK5.out; omega
                   case rel => exact ⟨(wrap64 (x17_5 + 1)), (by first | rfl | (simp; done) | (simp [*]; done)), H', ⟨by have := HJ3.out; have := HK2.out; have := HK3.out; have := HJ39.out; have := HK5.out; omega⟩, ⟨by (with_reducible repeat (first | apply Kd.S_alloc | apply Kd.S_drewN | apply Kd.S_drew)); exact HO_14.out⟩, ⟨by repeat (first | (with_reducible first | exact HB.out | apply below_alloc | apply pw_below_drewN | apply below_drew1) | exact HB.out)⟩⟩
                  ·
                   replace c50 := Bool.eq_false_iff.mpr c50
                   subst c50
                   have H1 : (some false) = some r := by rw [if_neg (show ¬ (false = true) by decide)] at H; exact H
                   clear H
                   have H := H1
                   clear H1
                   obtain rfl := Option.some.inj H
                   try go_wp2
                   have n0_ := Aside0.mk (Kd.S_drew HO_14.out)
                   have n1_ := Aside0.mk (below_drew1 HB.out)
                   clear HO_14
                   clear HB
                   have HO_14 := n0_
                   have HB := n1_
                   clear n0_ n1_
                   have p154 : 0 ≤ (x17_5 : Int) := of_decide_eq_true (by first | (with_reducible assumption) | assumption)
                   have q154 : x17_5 < (l0.length : Int) := of_decide_eq_true (by first | (with_reducible assumption) | assumption)
                   obtain ⟨ad154, A154_2, c154_2, A154_3, c154_3, e154, hx154_0, hx154_1, hx154_2, hx154_3, hl154_2, hi154_2, hl154_3, hi154_3⟩ := at_T26 HR0.out x17_5 p154 q154
                   have hw154_3 := hx154_3
                   have hw154_2 := hx154_2
                   have hw154_1 := hx154_1
                   have hw154_0 := hx154_0
                   cases e154
                   replace hx154_0 := (HB.out.cell (World.block_lt_of_cell? w _ hx154_0)).trans hx154_0
                   replace hx154_1 := (HB.out.cell (World.block_lt_of_cell? w _ hx154_1)).trans hx154_1
                   replace hx154_2 := (HB.out.cell (World.block_lt_of_cell? w _ hx154_2)).trans hx154_2
                   replace hx154_3 := (HB.out.cell (World.block_lt_of_cell? w _ hx154_3)).trans hx154_3
                   have HR154_2 := Aside0.mk hi154_2
                   have HC154_2 := Aside0.mk hl154_2
                   clear hi154_2 hl154_2
                   have HR154_3 := Aside0.mk hi154_3
                   have HC154_3 := Aside0.mk hl154_3
                   clear hi154_3 hl154_3
                   replace p154 := eq_true p154
                   replace q154 := eq_true q154
                   obtain ⟨Ao55, co55, eo55⟩ := Kd.S_slice HO_14.out
                   (first | subst eo55 | (injection eo55 with f1_ f2_ f3_; have f4_ := f1_.symm; have f5_ := f3_.symm; clear f1_ f2_ f3_; subst f4_; subst f5_))
                   have p155 : 0 ≤ (x17_5 : Int) := of_decide_eq_true (by first | (with_reducible assumption) | assumption)
                   have q155 : x17_5 < (t149.length : Int) := of_decide_eq_true (by first | (with_reducible assumption) | assumption)
                   obtain ⟨ad155, A155_2, c155_2, A155_3, c155_3, e155, hx155_0, hx155_1, hx155_2, hx155_3, hl155_2, hi155_2, hl155_3, hi155_3⟩ := at_T26 (Kd.S_reads' HO_14.out).2.2 x17_5 p155 q155
                   cases e155
                   obtain ⟨ce155, hce155, hMe155, hcc155⟩ := Kd.S_get HO_14.out z26 x17_5 p155 (by first | exact q155 | exact of_decide_eq_true (by first | (with_reducible assumption) | assumption) | (have e_ := (Kd.S_reads' HO_14.out).1; omega))
                   obtain ⟨ve155_2, ve155_3, rfl, ge155_2, ge155_3⟩ := k26_openM hMe155
                   have hv155_2 := hcc155 2 _ rfl
                   rw [add_field _ _ 2 (by omega)] at hv155_2
                   replace hv155_2 := Option.some.inj (hv155_2.symm.trans hx155_2)
                   rw [hv155_2] at ge155_2
                   have HL155_2 := Aside0.mk (show Kd.R (Kd.int .u8) 5 _ _ _ _ ((rd_T26 t149 x17_5).f2) from ge155_2)
                   clear hv155_2 ge155_2
                   have hv155_3 := hcc155 3 _ rfl
                   rw [add_field _ _ 3 (by omega)] at hv155_3
                   replace hv155_3 := Option.some.inj (hv155_3.symm.trans hx155_3)
                   rw [hv155_3] at ge155_3
                   have HL155_3 := Aside0.mk (show Kd.R (Kd.int .i64) 3 _ _ _ _ ((rd_T26 t149 x17_5).f3) from ge155_3)
                   clear hv155_3 ge155_3
                   clear hcc155 hce155
                   have HR155_2 := Aside0.mk hi155_2
                   have HC155_2 := Aside0.mk hl155_2
                   clear hi155_2 hl155_2
                   have HR155_3 := Aside0.mk hi155_3
                   have HC155_3 := Aside0.mk hl155_3
                   clear hi155_3 hl155_3
                   replace p155 := eq_true p155
                   replace q155 := eq_true q155
                   refine start_ (n := 10) (S := fun w' => w'.cell? (ad154.add ((x17_5).toNat * 4)) = some (.int .i64 ((rd_T26 l0 x17_5).f0)) ∧ w'.cell? ⟨(ad154.add ((x17_5).toNat * 4)).block, (ad154.add ((x17_5).toNat * 4)).off + 1, none⟩ = some (.int .i64 ((rd_T26 l0 x17_5).f1)) ∧ w'.cell? ⟨(ad154.add ((x17_5).toNat * 4)).block, (ad154.add ((x17_5).toNat * 4)).off + 2, none⟩ = some (.slice A154_2 ((rd_T26 l0 x17_5).f2).length c154_2) ∧ w'.cell? ⟨(ad154.add ((x17_5).toNat * 4)).block, (ad154.add ((x17_5).toNat * 4)).off + 3, none⟩ = some (.slice A154_3 ((rd_T26 l0 x17_5).f3).length c154_3) ∧ w'.cell? (ad155.add ((x17_5).toNat * 4)) = some (.int .i64 ((rd_T26 t149 x17_5).f0)) ∧ w'.cell? ⟨(ad155.add ((x17_5).toNat * 4)).block, (ad155.add ((x17_5).toNat * 4)).off + 1, none⟩ = some (.int .i64 ((rd_T26 t149 x17_5).f1)) ∧ w'.cell? ⟨(ad155.add ((x17_5).toNat * 4)).block, (ad155.add ((x17_5).toNat * 4)).off + 2, none⟩ = some (.slice A155_2 ((rd_T26 t149 x17_5).f2).length c155_2) ∧ w'.cell? ⟨(ad155.add ((x17_5).toNat * 4)).block, (ad155.add ((x17_5).toNat * 4)).off + 3, none⟩ = some (.slice A155_3 ((rd_T26 t149 x17_5).f3).length c155_3)) (ds := []) #[false, false, false, false, false, false, false, false, false, false] (by kernel_rfl) rfl rfl ⟨((HB.out.cell (World.block_lt_of_cell? w _ hw154_0)).trans hw154_0), ((HB.out.cell (World.block_lt_of_cell? w _ hw154_1)).trans hw154_1), ((HB.out.cell (World.block_lt_of_cell? w _ hw154_2)).trans hw154_2), ((HB.out.cell (World.block_lt_of_cell? w _ hw154_3)).trans hw154_3), hx155_0, hx155_1, hx155_2, hx155_3⟩ (fun hHeld => ?_); refine with_tabW vicinagelaw27_ScriptNotes.tab30 vicinagelaw27_ScriptNotes.bits30 (fun HT_ HW_ => ?_)
                   generalize wr.drew = w54 at HO_14 HB HL155_2 HL155_3 HR154_2 HR154_3 HR155_2 HR155_3 hx154_0 hx154_1 hx154_2 hx154_3 hx155_0 hx155_1 hx155_2 hx155_3 hHeld ⊢
                   refine pure_ (i := 0) (N := some 119) (v := ?_) (a' := ?_) #[true, false, false, false, false, false, false, false, false, false] rfl rfl (any_of HT_.out (by kernel_rfl)) (fun _ _ _ h => h) (Or.inl ⟨by rfl, ?_⟩) ?_ ?_
                   rotate_left
                   ·
                    intro w'
                    go_simp
                    with_reducible rfl
                   rotate_left
                   ·
                    simp only [Act.put, List.setIfInBounds_toArray, List.set_cons_zero, List.set_cons_succ, i64_w, i32_w]
                    rfl
                   refine pure_ (i := 1) (N := some 120) (v := ?_) (a' := ?_) #[true, true, false, false, false, false, false, false, false, false] rfl rfl (any_of HT_.out (by kernel_rfl)) (fun _ _ _ h => h) (Or.inl ⟨by rfl, ?_⟩) ?_ ?_
                   rotate_left
                   ·
                    intro w'
                    go_simp
                    with_reducible rfl
                   rotate_left
                   ·
                    simp only [Act.put, List.setIfInBounds_toArray, List.set_cons_zero, List.set_cons_succ, i64_w, i32_w]
                    rfl
                   refine pure_ (i := 2) (N := some 121) (v := ?_) (a' := ?_) #[true, true, true, false, false, false, false, false, false, false] rfl rfl (any_of HT_.out (by kernel_rfl)) (fun _ _ _ h => h) (Or.inl ⟨by rfl, ?_⟩) ?_ ?_
                   rotate_left
                   ·
                    intro w'
                    go_simp
                    with_reducible rfl
                   rotate_left
                   ·
                    simp only [Act.put, List.setIfInBounds_toArray, List.set_cons_zero, List.set_cons_succ, i64_w, i32_w]
                    rfl
                   refine pure_ (i := 4) (N := some 123) (v := ?_) (a' := ?_) #[true, true, true, false, true, false, false, false, false, false] rfl rfl (any_of HT_.out (by kernel_rfl)) (fun _ _ _ h => h) (Or.inl ⟨by rfl, ?_⟩) ?_ ?_
                   rotate_left
                   ·
                    intro w'
                    go_simp
                    with_reducible rfl
                   rotate_left
                   ·
                    simp only [Act.put, List.setIfInBounds_toArray, List.set_cons_zero, List.set_cons_succ, i64_w, i32_w]
                    rfl
                   refine pure_ (i := 5) (N := some 124) (v := ?_) (a' := ?_) #[true, true, true, false, true, true, false, false, false, false] rfl rfl (any_of HT_.out (by kernel_rfl)) (fun _ _ _ h => h) (Or.inl ⟨by rfl, ?_⟩) ?_ ?_
                   rotate_left
                   ·
                    intro w'
                    go_simp
                    with_reducible rfl
                   rotate_left
                   ·
                    simp only [Act.put, List.setIfInBounds_toArray, List.set_cons_zero, List.set_cons_succ, i64_w, i32_w]
                    rfl
                   refine pure_ (i := 6) (N := some 125) (v := ?_) (a' := ?_) #[true, true, true, false, true, true, true, false, false, false] rfl rfl (any_of HT_.out (by kernel_rfl)) (fun _ _ _ h => h) (Or.inl ⟨by rfl, ?_⟩) ?_ ?_
                   rotate_left
                   ·
                    intro w'
                    go_simp
                    with_reducible rfl
                   rotate_left
                   ·
                    simp only [Act.put, List.setIfInBounds_toArray, List.set_cons_zero, List.set_cons_succ, i64_w, i32_w]
                    rfl
                   refine take_ (i := 3) (N := some 122) (v := ?_) (a' := ?_) #[true, true, true, true, true, true, true, false, false, false] rfl rfl (take_ofW HT_.out HW_.out (by kernel_rfl)) (fun _ _ _ h => h) (Or.inl ⟨by rfl, ?_⟩) hHeld ?_ ?_
                   rotate_left
                   ·
                    rintro w' ⟨s0, s1, s2, s3, s4, s5, s6, s7⟩
                    go_simp
                    with_reducible rfl
                   rotate_left
                   ·
                    simp only [Act.put, List.setIfInBounds_toArray, List.set_cons_zero, List.set_cons_succ, i64_w, i32_w]
                    rfl
                   refine take_ (i := 7) (N := some 126) (v := ?_) (a' := ?_) #[true, true, true, true, true, true, true, true, false, false] rfl rfl (take_ofW HT_.out HW_.out (by kernel_rfl)) (fun _ _ _ h => h) (Or.inl ⟨by rfl, ?_⟩) hHeld ?_ ?_
                   rotate_left
                   ·
                    rintro w' ⟨s0, s1, s2, s3, s4, s5, s6, s7⟩
                    go_simp
                    with_reducible rfl
                   rotate_left
                   ·
                    simp only [Act.put, List.setIfInBounds_toArray, List.set_cons_zero, List.set_cons_succ, i64_w, i32_w]
                    rfl
                   refine one_ (i := 8) (N := some 127) #[true, true, true, true, true, true, true, true, true, false] rfl rfl (one_of HT_.out (by kernel_rfl)) (by decide) (fun K hK => ?_)
                   refine goes_ Tryd.func10 (by kernel_rfl) rfl #[.agg #[.int .i64 ((rd_T26 l0 x17_5).f0), .int .i64 ((rd_T26 l0 x17_5).f1), .slice A154_2 ((rd_T26 l0 x17_5).f2).length c154_2, .slice A154_3 ((rd_T26 l0 x17_5).f3).length c154_3], .agg #[.int .i64 ((rd_T26 t149 x17_5).f0), .int .i64 ((rd_T26 t149 x17_5).f1), .slice A155_2 ((rd_T26 t149 x17_5).f2).length c155_2, .slice A155_3 ((rd_T26 t149 x17_5).f3).length c155_3]] (by rfl) rfl rfl (by (try simp only [List.map_toArray, List.map_cons, List.map_nil]); first | done | rfl | (simp only [List.length_drop, List.length_take]; rfl)) ?_
                   with_reducible refine (vicinageref27_Same.calls k5 ((rd_T26 l0 x17_5).f0) ((rd_T26 l0 x17_5).f1) _ _ ((rd_T26 l0 x17_5).f2) _ _ ((rd_T26 l0 x17_5).f3) ((rd_T26 t149 x17_5).f0) ((rd_T26 t149 x17_5).f1) _ _ ((rd_T26 t149 x17_5).f2) _ _ ((rd_T26 t149 x17_5).f3) false _ ?side1 ?side2 ?side3 ?side4 ?side5 ?side6 ?side7 ?side8 A49.out).mono ?_
                   (case side1 => repeat (first | exact (Kd.C_below HR154_2.out HB.out) | (with_reducible refine Kd.C_alloc ?_ _) | (with_reducible refine Kd.C_drewN ?_ _) | (with_reducible refine Kd.C_drew ?_)))
                   (case side2 => exact HC154_2.out)
                   (case side3 => repeat (first | exact (Kd.C_below HR154_3.out HB.out) | (with_reducible refine Kd.C_alloc ?_ _) | (with_reducible refine Kd.C_drewN ?_ _) | (with_reducible refine Kd.C_drew ?_)))
                   (case side4 => exact HC154_3.out)
                   (case side5 => repeat (first | exact (by repeat (first | (with_reducible exact HR155_2.out) | (with_reducible refine Kd.C_alloc ?_ _) | (with_reducible refine Kd.C_drewN ?_ _) | (with_reducible refine Kd.C_drew ?_) | exact HR155_2.out)) | (with_reducible refine Kd.C_alloc ?_ _) | (with_reducible refine Kd.C_drewN ?_ _) | (with_reducible refine Kd.C_drew ?_)))
                   (case side6 => exact HC155_2.out)
                   (case side7 => repeat (first | exact (by repeat (first | (with_reducible exact HR155_3.out) | (with_reducible refine Kd.C_alloc ?_ _) | (with_reducible refine Kd.C_drewN ?_ _) | (with_reducible refine Kd.C_drew ?_) | exact HR155_3.out)) | (with_reducible refine Kd.C_alloc ?_ _) | (with_reducible refine Kd.C_drewN ?_ _) | (with_reducible refine Kd.C_drew ?_)))
                   (case side8 => exact HC155_3.out)
                   rintro e w56 ⟨rfl, hb⟩
                   have HS4_ := (hb.cell (World.block_lt_of_cell? _ _ (hHeld.2.2.2.2.1))).trans (hHeld.2.2.2.2.1)
                   have HS5_ := (hb.cell (World.block_lt_of_cell? _ _ (hHeld.2.2.2.2.2.1))).trans (hHeld.2.2.2.2.2.1)
                   have HS6_ := (hb.cell (World.block_lt_of_cell? _ _ (hHeld.2.2.2.2.2.2.1))).trans (hHeld.2.2.2.2.2.2.1)
                   have HS7_ := (hb.cell (World.block_lt_of_cell? _ _ (hHeld.2.2.2.2.2.2.2))).trans (hHeld.2.2.2.2.2.2.2)
                   refine ⟨_, rfl, ?_⟩
                   have n0_ := Aside0.mk (Kd.S_below (by (with_reducible repeat (first | apply Kd.S_alloc | apply Kd.S_drewN | apply Kd.S_drew)); exact HO_14.out) hb)
                   have n1_ := Aside0.mk (Kd.R_below (by (with_reducible repeat (first | apply Kd.R_alloc | apply Kd.R_drewN | apply Kd.R_drew)); exact HL155_2.out) hb)
                   have n2_ := Aside0.mk (Kd.R_below (by (with_reducible repeat (first | apply Kd.R_alloc | apply Kd.R_drewN | apply Kd.R_drew)); exact HL155_3.out) hb)
                   have n3_ := Aside0.mk (Kd.C_below (by repeat (first | (with_reducible exact HR155_2.out) | (with_reducible refine Kd.C_alloc ?_ _) | (with_reducible refine Kd.C_drewN ?_ _) | (with_reducible refine Kd.C_drew ?_) | exact HR155_2.out)) hb)
                   have n4_ := Aside0.mk (Kd.C_below (by repeat (first | (with_reducible exact HR155_3.out) | (with_reducible refine Kd.C_alloc ?_ _) | (with_reducible refine Kd.C_drewN ?_ _) | (with_reducible refine Kd.C_drew ?_) | exact HR155_3.out)) hb)
                   have n5_ := Aside0.mk (below_step (by repeat (first | (with_reducible first | exact HB.out | apply below_alloc | apply pw_below_drewN | apply below_drew1) | exact HB.out)) hb)
                   clear HO_14
                   clear HL155_2
                   clear HL155_3
                   clear HR155_2
                   clear HR155_3
                   clear HB
                   have HO_14 := n0_
                   have HL155_2 := n1_
                   have HL155_3 := n2_
                   have HR155_2 := n3_
                   have HR155_3 := n4_
                   have HB := n5_
                   clear n0_ n1_ n2_ n3_ n4_ n5_
                   (try clear hb)
                   (try clear hb2)
                   (try clear hk)
                   (try clear hi)
                   refine hK.out _ _ ⟨((HB.out.cell (World.block_lt_of_cell? w _ hw154_0)).trans hw154_0), ((HB.out.cell (World.block_lt_of_cell? w _ hw154_1)).trans hw154_1), ((HB.out.cell (World.block_lt_of_cell? w _ hw154_2)).trans hw154_2), ((HB.out.cell (World.block_lt_of_cell? w _ hw154_3)).trans hw154_3), HS4_, HS5_, HS6_, HS7_⟩ (fun hHeld => ?_)
                   clear hK K
                   refine norm_ (a' := ?_) ?_ ?_
                   rotate_left
                   ·
                    show Act.put _ (some 127) _ = _
                    simp only [Act.put, List.setIfInBounds_toArray, List.set_cons_zero, List.set_cons_succ, i64_w, i32_w]
                    rfl
                   refine pure_ (i := 9) (N := some 128) (v := ?_) (a' := ?_) #[true, true, true, true, true, true, true, true, true, true] rfl rfl (any_of HT_.out (by kernel_rfl)) (fun _ _ _ h => h) (Or.inl ⟨by rfl, ?_⟩) ?_ ?_
                   rotate_left
                   ·
                    intro w'
                    go_simp
                    with_reducible rfl
                   rotate_left
                   ·
                    simp only [Act.put, List.setIfInBounds_toArray, List.set_cons_zero, List.set_cons_succ, i64_w, i32_w]
                    rfl
                   refine done_ (done_of HT_.out (by kernel_rfl)) ?_
                   try go_wp2
                   go_ret
                   exact ⟨by first | rfl | (simp [errW_none, errW_some] <;> rfl) | (simp [*, errW_none, errW_some] <;> rfl), by repeat (first | (with_reducible first | exact HB.out | apply below_alloc | apply pw_below_drewN | apply below_drew1) | exact HB.out)⟩
                 ·
                  rw [if_neg c48] at H
                  exact absurd H (by simp)
                ·
                 rw [if_neg c47] at H
                 exact absurd H (by simp)
               ·
                rw [if_neg c46] at H
                have c46b0 : decide (x17_5 < (l0.length : Int)) = false := decide_eq_false c46
                clear c46
                by_cases c57 : x8_3.size + 5 ≤ 9223372036854775807
                ·
                 rw [if_pos c57] at H
                 have c57b0 := eq_true c57
                 have c57b1 : decide (x8_3.size + 5 ≤ 9223372036854775807) = true := decide_eq_true c57
                 try have c57b2 : (9223372036854775807 < x8_3.size + 5) = False := eq_false (Nat.not_lt.2 c57)
                 replace H := Option.bind_eq_some_iff.mp H
                 obtain ⟨⟨t157, t158, t159⟩, A580, H⟩ := H
                 replace H : (if t159 = 15 then (if t158 = (wrap64 (x9_3 + 1)) then ((vicinagelaw27_known.f).bind fun t162 => (some t162)) else (some false)) else (some false)) = some r := H
                 have A58 := Aside0.mk A580
                 clear A580
                 by_cases c59 : t159 = 15
                 ·
                  rw [if_pos c59] at H
                  have c59b0 : (t159 == 15) = true := beq_iff_eq.mpr c59
                  have c59b1 : (t159 != 15) = false := bne_eq_false_iff_eq.mpr c59
                  clear c59
                  by_cases c60 : t158 = (wrap64 (x9_3 + 1))
                  ·
                   rw [if_pos c60] at H
                   have c60b0 : (t158 == (wrap64 (x9_3 + 1))) = true := beq_iff_eq.mpr c60
                   have c60b1 : (t158 != (wrap64 (x9_3 + 1))) = false := bne_eq_false_iff_eq.mpr c60
                   clear c60
                   replace H := Option.bind_eq_some_iff.mp H
                   obtain ⟨t162, A610, H⟩ := H
                   replace H : (some t162) = some r := H
                   have A61 := Aside0.mk A610
                   clear A610
                   obtain rfl := Option.some.inj H
                   go_wp2_with (first | ((with_reducible refine gate_callee (f := 14) rfl ?_); refine goesL_ (some 132) rfl rfl Tryd.func14 (by kernel_rfl) rfl #[.string (x8_3 ++ (⟨#[102, 114, 111, 98, 10]⟩ : ByteArray))] rfl (by (try simp only [List.map_toArray, List.map_cons, List.map_nil]); first | done | rfl | (simp only [List.length_drop, List.length_take]; rfl)) ?_; (with_reducible refine (script_Parse.calls (x8_3 ++ (⟨#[102, 114, 111, 98, 10]⟩ : ByteArray)) t157 t158 t159 _ A58.out ?side1).mono ?_); (case side1 => exact FixW.below HF.out (by repeat (first | (with_reducible first | exact HB.out | apply below_alloc | apply pw_below_drewN | apply below_drew1) | exact HB.out))); rintro e w62 ⟨v160, rfl, ho0, hb⟩; refine ⟨_, rfl, ?_⟩; have n0_ := Aside0.mk (Kd.S_elder' (by (with_reducible repeat (first | apply Kd.S_alloc | apply Kd.S_drewN | apply Kd.S_drew)); exact HO_14.out) (Kd.S_base ho0) hb); have n1_ := Aside0.mk (Kd.S_lower (Kd.S_new' ho0 (Kd.S_lt (by (with_reducible repeat (first | apply Kd.S_alloc | apply Kd.S_drewN | apply Kd.S_drew)); exact HO_14.out))) (below_size (by repeat (first | (with_reducible first | exact HB.out | apply below_alloc | apply pw_below_drewN | apply below_drew1) | exact HB.out)))); have n2_ := Aside0.mk (below_step (by repeat (first | (with_reducible first | exact HB.out | apply below_alloc | apply pw_below_drewN | apply below_drew1) | exact HB.out)) hb); clear HO_14; clear HB; have HO_14 := n0_; have HO161 := n1_; have HB := n2_; clear n0_ n1_ n2_; (try clear hb); (try clear hb2); (try clear hk); (try clear hi); (try clear ho0)) | (go_at_call 6; (with_reducible refine (vicinagelaw27_known.calls  t162 _ A61.out ?side1).mono ?_); (case side1 => exact FixW.below HF.out (by repeat (first | (with_reducible first | exact HB.out | apply below_alloc | apply pw_below_drewN | apply below_drew1) | exact HB.out))); rintro e w63 ⟨rfl, hb⟩; have n0_ := Aside0.mk (Kd.S_below (by (with_reducible repeat (first | apply Kd.S_alloc | apply Kd.S_drewN | apply Kd.S_drew)); exact HO_14.out) hb); have n1_ := Aside0.mk (Kd.S_below (by (with_reducible repeat (first | apply Kd.S_alloc | apply Kd.S_drewN | apply Kd.S_drew)); exact HO161.out) hb); have n2_ := Aside0.mk (below_step (by repeat (first | (with_reducible first | exact HB.out | apply below_alloc | apply pw_below_drewN | apply below_drew1) | exact HB.out)) hb); clear HO_14; clear HO161; clear HB; have HO_14 := n0_; have HO161 := n1_; have HB := n2_; clear n0_ n1_ n2_; (try clear hb); (try clear hb2); (try clear hk); (try clear hi)))
                   go_ret
                   exact ⟨by first | rfl | (simp [errW_none, errW_some] <;> rfl) | (simp [*, errW_none, errW_some] <;> rfl), by repeat (first | (with_reducible first | exact HB.out | apply below_alloc | apply pw_below_drewN | apply below_drew1) | exact HB.out)⟩
                  ·
                   rw [if_neg c60] at H
                   have c60b0 : (t158 == (wrap64 (x9_3 + 1))) = false := beq_eq_false_iff_ne.mpr c60
                   have c60b1 : (t158 != (wrap64 (x9_3 + 1))) = true := bne_iff_ne.mpr c60
                   obtain rfl := Option.some.inj H
                   go_wp2_with (first | ((with_reducible refine gate_callee (f := 14) rfl ?_); refine goesL_ (some 132) rfl rfl Tryd.func14 (by kernel_rfl) rfl #[.string (x8_3 ++ (⟨#[102, 114, 111, 98, 10]⟩ : ByteArray))] rfl (by (try simp only [List.map_toArray, List.map_cons, List.map_nil]); first | done | rfl | (simp only [List.length_drop, List.length_take]; rfl)) ?_; (with_reducible refine (script_Parse.calls (x8_3 ++ (⟨#[102, 114, 111, 98, 10]⟩ : ByteArray)) t157 t158 t159 _ A58.out ?side1).mono ?_); (case side1 => exact FixW.below HF.out (by repeat (first | (with_reducible first | exact HB.out | apply below_alloc | apply pw_below_drewN | apply below_drew1) | exact HB.out))); rintro e w64 ⟨v160, rfl, ho0, hb⟩; refine ⟨_, rfl, ?_⟩; have n0_ := Aside0.mk (Kd.S_elder' (by (with_reducible repeat (first | apply Kd.S_alloc | apply Kd.S_drewN | apply Kd.S_drew)); exact HO_14.out) (Kd.S_base ho0) hb); have n1_ := Aside0.mk (Kd.S_lower (Kd.S_new' ho0 (Kd.S_lt (by (with_reducible repeat (first | apply Kd.S_alloc | apply Kd.S_drewN | apply Kd.S_drew)); exact HO_14.out))) (below_size (by repeat (first | (with_reducible first | exact HB.out | apply below_alloc | apply pw_below_drewN | apply below_drew1) | exact HB.out)))); have n2_ := Aside0.mk (below_step (by repeat (first | (with_reducible first | exact HB.out | apply below_alloc | apply pw_below_drewN | apply below_drew1) | exact HB.out)) hb); clear HO_14; clear HB; have HO_14 := n0_; have HO161 := n1_; have HB := n2_; clear n0_ n1_ n2_; (try clear hb); (try clear hb2); (try clear hk); (try clear hi); (try clear ho0)))
                   go_ret
                   exact ⟨by first | rfl | (simp [errW_none, errW_some] <;> rfl) | (simp [*, errW_none, errW_some] <;> rfl), by repeat (first | (with_reducible first | exact HB.out | apply below_alloc | apply pw_below_drewN | apply below_drew1) | exact HB.out)⟩
                 ·
                  rw [if_neg c59] at H
                  have c59b0 : (t159 == 15) = false := beq_eq_false_iff_ne.mpr c59
                  have c59b1 : (t159 != 15) = true := bne_iff_ne.mpr c59
                  obtain rfl := Option.some.inj H
                  go_wp2_with (first | ((with_reducible refine gate_callee (f := 14) rfl ?_); refine goesL_ (some 132) rfl rfl Tryd.func14 (by kernel_rfl) rfl #[.string (x8_3 ++ (⟨#[102, 114, 111, 98, 10]⟩ : ByteArray))] rfl (by (try simp only [List.map_toArray, List.map_cons, List.map_nil]); first | done | rfl | (simp only [List.length_drop, List.length_take]; rfl)) ?_; (with_reducible refine (script_Parse.calls (x8_3 ++ (⟨#[102, 114, 111, 98, 10]⟩ : ByteArray)) t157 t158 t159 _ A58.out ?side1).mono ?_); (case side1 => exact FixW.below HF.out (by repeat (first | (with_reducible first | exact HB.out | apply below_alloc | apply pw_below_drewN | apply below_drew1) | exact HB.out))); rintro e w65 ⟨v160, rfl, ho0, hb⟩; refine ⟨_, rfl, ?_⟩; have n0_ := Aside0.mk (Kd.S_elder' (by (with_reducible repeat (first | apply Kd.S_alloc | apply Kd.S_drewN | apply Kd.S_drew)); exact HO_14.out) (Kd.S_base ho0) hb); have n1_ := Aside0.mk (Kd.S_lower (Kd.S_new' ho0 (Kd.S_lt (by (with_reducible repeat (first | apply Kd.S_alloc | apply Kd.S_drewN | apply Kd.S_drew)); exact HO_14.out))) (below_size (by repeat (first | (with_reducible first | exact HB.out | apply below_alloc | apply pw_below_drewN | apply below_drew1) | exact HB.out)))); have n2_ := Aside0.mk (below_step (by repeat (first | (with_reducible first | exact HB.out | apply below_alloc | apply pw_below_drewN | apply below_drew1) | exact HB.out)) hb); clear HO_14; clear HB; have HO_14 := n0_; have HO161 := n1_; have HB := n2_; clear n0_ n1_ n2_; (try clear hb); (try clear hb2); (try clear hk); (try clear hi); (try clear ho0)))
                  go_ret
                  exact ⟨by first | rfl | (simp [errW_none, errW_some] <;> rfl) | (simp [*, errW_none, errW_some] <;> rfl), by repeat (first | (with_reducible first | exact HB.out | apply below_alloc | apply pw_below_drewN | apply below_drew1) | exact HB.out)⟩
                ·
                 rw [if_neg c57] at H
                 exact absurd H (by simp)

end Go.Proofs.YtdfaljcdphbgdaaDoor.PL
