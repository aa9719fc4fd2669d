/- Walks of functions, written by a program. -/
import Derived.Test.YtdfaljcdphbgdaaDoorPLx0
namespace Go.Proofs.YtdfaljcdphbgdaaDoor.PL
open Go.Proofs.YtdfaljcdphbgdaaDoor.PRef
open Go.RowKit Go.Proofs.YtdfaljcdphbgdaaDoorW.PrintWords Go.Proofs.YtdfaljcdphbgdaaDoorW.PrintLast Go.Proofs.YtdfaljcdphbgdaaDoorW.PrintMore
attribute [local go_sem] max2_int min2_int max_two min_two max_three min_three max_four min_four   -- for this text's walks alone
set_option linter.unusedVariables false
set_option linter.unusedSimpArgs false

/-! ### vicinagelaw27_heavy: function 13 -/
def vicinagelaw27_heavy.l0 : Nat → List (S26) → Int → Int → Option (Bool)
  | 0, _, _, _ => none
  | k + 1, x0, x3, x4 => if x4 < (x0.length : Int) then (if x4 < 2000 then (if 0 ≤ x4 then (vicinagelaw27_heavy.l0 k x0 (wrap64 ((wrap64 (x3 + (((rd_T26 x0 x4).f2).length : Int))) + (((rd_T26 x0 x4).f3).length : Int))) (wrap64 (x4 + 1))) else (none)) else (if (x0.length : Int) > 1500 then (some true) else (some (decide (x3 > 300000))))) else (if (x0.length : Int) > 1500 then (some true) else (some (decide (x3 > 300000))))
def vicinagelaw27_heavy.f (k : Nat) (l0 : List (S26)) : Option (Bool) := vicinagelaw27_heavy.l0 k l0 0 0
theorem vicinagelaw27_heavy.mono_l : ∀ k, (∀ y0 y1 y2, LeO (vicinagelaw27_heavy.l0 k y0 y1 y2) (vicinagelaw27_heavy.l0 (k + 1) y0 y1 y2))
  | 0 => fun _ _ _ r h => by simp [vicinagelaw27_heavy.l0] at h
  | k + 1 => by
    have ih0 := vicinagelaw27_heavy.mono_l k
    · intro y0 y1 y2
      unfold vicinagelaw27_heavy.l0
      repeat' first
      | (with_reducible exact ih0 _ _ _)
      | (with_reducible exact LeO.refl _)
      | (with_reducible exact LeO.none _)
      | (with_reducible refine LeO.ite ?_ ?_)
      | (with_reducible refine LeO.bind ?_ (fun _ => ?_))
      | exact ih0 _ _ _
      | exact LeO.none _
      | refine LeO.ite ?_ ?_
      | refine LeO.bind ?_ (fun _ => ?_)
theorem vicinagelaw27_heavy.mono : ∀ a0 k, LeO (vicinagelaw27_heavy.f k a0) (vicinagelaw27_heavy.f (k + 1) a0) := by
  intro a0 k
  have ih0 := vicinagelaw27_heavy.mono_l k
  unfold vicinagelaw27_heavy.f
  repeat' first
      | (with_reducible exact ih0 _ _ _)
      | (with_reducible exact LeO.refl _)
      | (with_reducible exact LeO.none _)
      | (with_reducible refine LeO.ite ?_ ?_)
      | (with_reducible refine LeO.bind ?_ (fun _ => ?_))
      | exact ih0 _ _ _
      | exact LeO.none _
      | refine LeO.ite ?_ ?_
      | refine LeO.bind ?_ (fun _ => ?_)
set_option maxHeartbeats 8000000 in
set_option maxRecDepth 100000 in
theorem vicinagelaw27_heavy.calls (k : Nat) (A0 : Option Addr) (c0 : Nat) (l0 : List (S26)) (r : Bool) (w : World) (hr0 : Kd.C k26 w A0 l0.length l0) (hc0 : l0.length ≤ c0) (h : vicinagelaw27_heavy.f k l0 = some r) :
    Calls Tryd.prog 13 #[.slice A0 l0.length c0] w fun e w' => e = .returned (.bool r) ∧ Drawn0 w w' := by
  have HR0 := Aside0.mk hr0
  have HC0 := Aside0.mk hc0
  clear hr0 hc0
  have H : (vicinagelaw27_heavy.l0 k l0 0 0) = some r := h
  clear h
  have H' := Aside0.mk H
  clear H
  go_enter Tryd.func13, Tryd.ntmps13
  go_wp2
  repeat (go_quiet (fail); try go_wp2)
  go_loopg [3, 4] k (fun kq v3 v4 w' => ∃ (x3_1 : Int) (x4_1 : Int), v3 = .int .i64 x3_1 ∧ v4 = .int .i64 x4_1 ∧ Aside0 (vicinagelaw27_heavy.l0 kq l0 x3_1 x4_1 = some r) ∧ Aside0 (kq ≤ k) ∧ Drawn0 w w')
  case atStart => exact ⟨(0), (0), (by first | rfl | (simp; done) | (simp [*]; done)), (by first | rfl | (simp; done) | (simp [*]; done)), H', ⟨Nat.le_refl _⟩, by repeat (first | exact Drawn0.refl _ | apply Drawn0.step)⟩
  case round =>
    clear H'
    try clear c1
    obtain ⟨x3_1, x4_1, rfl, rfl, HA, HK1, ⟨m1, rfl⟩⟩ := hrel
    cases gk with
    | zero => exact absurd HA.out (by simp [vicinagelaw27_heavy.l0])
    | succ k1 =>
      have H := HA.out
      clear HA
      simp only [vicinagelaw27_heavy.l0] at H
      by_cases c2 : x4_1 < (l0.length : Int)
      · rw [if_pos c2] at H
        have c2b0 : decide (x4_1 < (l0.length : Int)) = true := decide_eq_true c2
        clear c2
        by_cases c3 : x4_1 < 2000
        · rw [if_pos c3] at H
          have c3b0 : decide (x4_1 < 2000) = true := decide_eq_true c3
          clear c3
          by_cases c4 : 0 ≤ x4_1
          · rw [if_pos c4] at H
            have c4b0 : decide (0 ≤ x4_1) = true := decide_eq_true c4
            clear c4
            have H' := Aside0.mk H
            clear H
            have p138 : 0 ≤ (x4_1 : Int) := of_decide_eq_true (by first | (with_reducible assumption) | assumption)
            have q138 : x4_1 < (l0.length : Int) := of_decide_eq_true (by first | (with_reducible assumption) | assumption)
            obtain ⟨ad138, A138_2, c138_2, A138_3, c138_3, e138, hx138_0, hx138_1, hx138_2, hx138_3, hl138_2, hi138_2, hl138_3, hi138_3⟩ := at_T26 HR0.out x4_1 p138 q138
            cases e138
            have HR138_2 := Aside0.mk hi138_2
            have HC138_2 := Aside0.mk hl138_2
            clear hi138_2 hl138_2
            have HR138_3 := Aside0.mk hi138_3
            have HC138_3 := Aside0.mk hl138_3
            clear hi138_3 hl138_3
            replace p138 := eq_true p138
            replace q138 := eq_true q138
            have p139 : 0 ≤ (x4_1 : Int) := of_decide_eq_true (by first | (with_reducible assumption) | assumption)
            have q139 : x4_1 < (l0.length : Int) := of_decide_eq_true (by first | (with_reducible assumption) | assumption)
            obtain ⟨ad139, A139_2, c139_2, A139_3, c139_3, e139, hx139_0, hx139_1, hx139_2, hx139_3, hl139_2, hi139_2, hl139_3, hi139_3⟩ := at_T26 HR0.out x4_1 p139 q139
            obtain rfl : ad138 = ad139 := (by injection e139)
            have HR139_2 := Aside0.mk hi139_2
            have HC139_2 := Aside0.mk hl139_2
            clear hi139_2 hl139_2
            have HR139_3 := Aside0.mk hi139_3
            have HC139_3 := Aside0.mk hl139_3
            clear hi139_3 hl139_3
            replace p139 := eq_true p139
            replace q139 := eq_true q139
            have ea_ := Option.some.inj (hx138_2.symm.trans hx139_2)
            injection ea_ with ea_ en_ ec_
            subst ea_
            subst ec_
            clear en_
            have ea_ := Option.some.inj (hx138_3.symm.trans hx139_3)
            injection ea_ with ea_ en_ ec_
            subst ea_
            subst ec_
            clear en_
            go_wp2
            repeat (go_quiet (fail); try go_wp2)
            go_roundg k1
            case measure => have := HK1.out; omega
            case rel => exact ⟨(wrap64 ((wrap64 (x3_1 + (((rd_T26 l0 x4_1).f2).length : Int))) + (((rd_T26 l0 x4_1).f3).length : Int))), (wrap64 (x4_1 + 1)), (by first | rfl | (simp; done) | (simp [*]; done)), (by first | rfl | (simp; done) | (simp [*]; done)), H', ⟨by have := HK1.out; omega⟩, by repeat (first | exact Drawn0.refl _ | apply Drawn0.step)⟩
          · rw [if_neg c4] at H
            exact absurd H (by simp)
        · rw [if_neg c3] at H
          have c3b0 : decide (x4_1 < 2000) = false := decide_eq_false c3
          clear c3
          by_cases c5 : (l0.length : Int) > 1500
          · rw [if_pos c5] at H
            have c5b0 : decide (1500 < (l0.length : Int)) = true := decide_eq_true c5
            have c5b1 : decide (1500 < l0.length) = true := decide_eq_true (by omega)
            clear c5
            obtain rfl := Option.some.inj H
            go_wp2
            repeat (go_quiet (fail); try go_wp2)
            go_ret
            exact ⟨by first | rfl | (simp; done) | (simp [*]; done), by repeat (first | exact Drawn0.refl _ | apply Drawn0.step)⟩
          · rw [if_neg c5] at H
            have c5b0 : decide (1500 < (l0.length : Int)) = false := decide_eq_false c5
            have c5b1 : decide (1500 < l0.length) = false := decide_eq_false (by omega)
            clear c5
            obtain rfl := Option.some.inj H
            go_wp2
            repeat (go_quiet (fail); try go_wp2)
            go_ret
            exact ⟨by first | rfl | (simp; done) | (simp [*]; done), by repeat (first | exact Drawn0.refl _ | apply Drawn0.step)⟩
      · rw [if_neg c2] at H
        have c2b0 : decide (x4_1 < (l0.length : Int)) = false := decide_eq_false c2
        clear c2
        by_cases c6 : (l0.length : Int) > 1500
        · rw [if_pos c6] at H
          have c6b0 : decide (1500 < (l0.length : Int)) = true := decide_eq_true c6
          have c6b1 : decide (1500 < l0.length) = true := decide_eq_true (by omega)
          clear c6
          obtain rfl := Option.some.inj H
          go_wp2
          repeat (go_quiet (fail); try go_wp2)
          go_ret
          exact ⟨by first | rfl | (simp; done) | (simp [*]; done), by repeat (first | exact Drawn0.refl _ | apply Drawn0.step)⟩
        · rw [if_neg c6] at H
          have c6b0 : decide (1500 < (l0.length : Int)) = false := decide_eq_false c6
          have c6b1 : decide (1500 < l0.length) = false := decide_eq_false (by omega)
          clear c6
          obtain rfl := Option.some.inj H
          go_wp2
          repeat (go_quiet (fail); try go_wp2)
          go_ret
          exact ⟨by first | rfl | (simp; done) | (simp [*]; done), by repeat (first | exact Drawn0.refl _ | apply Drawn0.step)⟩

end Go.Proofs.YtdfaljcdphbgdaaDoor.PL
