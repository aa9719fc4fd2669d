/- Walks of functions, written by a program. -/
import Derived.Test.YtdfaljcdphbgdaaGreatDoorPLx0
import Derived.Test.YtdfaljcdphbgdaaGreatDoorGiL
import Derived.Test.YtdfaljcdphbgdaaGreatDoorGpL
namespace Go.Proofs.YtdfaljcdphbgdaaGreatDoor.PL
open Go.Proofs.YtdfaljcdphbgdaaGreatDoor.PRef
open Go.RowKit Go.Proofs.YtdfaljcdphbgdaaGreatDoorW.PrintWords Go.Proofs.YtdfaljcdphbgdaaGreatDoorW.PrintLast Go.Proofs.YtdfaljcdphbgdaaGreatDoorW.PrintMore
attribute [local go_sem] max2_int min2_int max_two min_two max_three min_three max_four min_four   -- for this text's walks alone
set_option linter.unusedVariables false
set_option linter.unusedSimpArgs false

/-! ### vicinagelaw27_ScriptParses: function 4 -/
mutual
def vicinagelaw27_ScriptParses.j0 : Nat → List (S27) → List (S27) → Bool → Option (Bool)
 | 0, _, _, _ => none
 | k + 1, x3, x6, x40 => if x40 = true then (some false) else (vicinagelaw27_ScriptParses.l0 k x3 x6 0)
def vicinagelaw27_ScriptParses.l0 : Nat → List (S27) → List (S27) → Int → Option (Bool)
 | 0, _, _, _ => none
 | k + 1, x3, x6, x9 => if x9 < (x3.length : Int) then (if 0 ≤ x9 then (if x9 < (x6.length : Int) then ((vicinageref27_Same.f k ((rd_T27 x3 x9).f0) ((rd_T27 x3 x9).f1) ((rd_T27 x3 x9).f2) ((rd_T27 x3 x9).f3) ((rd_T27 x6 x9).f0) ((rd_T27 x6 x9).f1) ((rd_T27 x6 x9).f2) ((rd_T27 x6 x9).f3)).bind fun t114 => (if t114 = true then (vicinagelaw27_ScriptParses.l0 k x3 x6 (wrap64 (x9 + 1))) else (some false))) else (none)) else (none)) else ((vicinagelaw27_known.f).bind fun t115 => (some t115))
end
def vicinagelaw27_ScriptParses.f (k : Nat) (a0 : ByteArray) : Option (Bool) := if (a0.size : Int) > 1048676 then ((vicinagelaw27_known.f).bind fun t101 => (some t101)) else ((script_Parse.f a0).bind fun bt102 => ((vicinageref27_Parse.f k a0).bind fun bt107 => (if bt102.2.1 = bt107.2.1 then (if bt102.2.2 = bt107.2.2 then (vicinagelaw27_ScriptParses.j0 k bt102.1 bt107.1 ((bt102.1.length : Int) != (bt107.1.length : Int))) else (vicinagelaw27_ScriptParses.j0 k bt102.1 bt107.1 true)) else (vicinagelaw27_ScriptParses.j0 k bt102.1 bt107.1 true))))
theorem vicinagelaw27_ScriptParses.mono_l : ∀ k, (∀ y0 y1 y2, LeO (vicinagelaw27_ScriptParses.j0 k y0 y1 y2) (vicinagelaw27_ScriptParses.j0 (k + 1) y0 y1 y2)) ∧ (∀ y0 y1 y2, LeO (vicinagelaw27_ScriptParses.l0 k y0 y1 y2) (vicinagelaw27_ScriptParses.l0 (k + 1) y0 y1 y2))
 | 0 => ⟨fun _ _ _ r h => by simp [vicinagelaw27_ScriptParses.j0] at h, fun _ _ _ r h => by simp [vicinagelaw27_ScriptParses.l0] at h⟩
 | k + 1 => by
  obtain ⟨ih0, ih1⟩ := vicinagelaw27_ScriptParses.mono_l k
  refine ⟨?_, ?_⟩
  ·
   intro y0 y1 y2
   unfold vicinagelaw27_ScriptParses.j0
   repeat' first
   | (with_reducible exact ih0 _ _ _)
   | (with_reducible exact ih1 _ _ _)
   | (with_reducible exact vicinageref27_Parse.mono _ _)
   | (with_reducible exact vicinageref27_Same.mono _ _ _ _ _ _ _ _ _)
   | (with_reducible exact LeO.refl _)
   | (with_reducible exact LeO.none _)
   | (with_reducible refine LeO.ite ?_ ?_)
   | (with_reducible refine LeO.bind ?_ (fun _ => ?_))
   | exact ih0 _ _ _
   | exact ih1 _ _ _
   | exact vicinageref27_Parse.mono _ _
   | exact vicinageref27_Same.mono _ _ _ _ _ _ _ _ _
   | exact LeO.none _
   | refine LeO.ite ?_ ?_
   | refine LeO.bind ?_ (fun _ => ?_)
  ·
   intro y0 y1 y2
   unfold vicinagelaw27_ScriptParses.l0
   repeat' first
   | (with_reducible exact ih0 _ _ _)
   | (with_reducible exact ih1 _ _ _)
   | (with_reducible exact vicinageref27_Parse.mono _ _)
   | (with_reducible exact vicinageref27_Same.mono _ _ _ _ _ _ _ _ _)
   | (with_reducible exact LeO.refl _)
   | (with_reducible exact LeO.none _)
   | (with_reducible refine LeO.ite ?_ ?_)
   | (with_reducible refine LeO.bind ?_ (fun _ => ?_))
   | exact ih0 _ _ _
   | exact ih1 _ _ _
   | exact vicinageref27_Parse.mono _ _
   | exact vicinageref27_Same.mono _ _ _ _ _ _ _ _ _
   | exact LeO.none _
   | refine LeO.ite ?_ ?_
   | refine LeO.bind ?_ (fun _ => ?_)
theorem vicinagelaw27_ScriptParses.mono : ∀ a0 k, LeO (vicinagelaw27_ScriptParses.f k a0) (vicinagelaw27_ScriptParses.f (k + 1) a0) := by
 intro a0 k
 obtain ⟨ih0, ih1⟩ := vicinagelaw27_ScriptParses.mono_l k
 unfold vicinagelaw27_ScriptParses.f
 repeat' first
   | (with_reducible exact ih0 _ _ _)
   | (with_reducible exact ih1 _ _ _)
   | (with_reducible exact vicinageref27_Parse.mono _ _)
   | (with_reducible exact vicinageref27_Same.mono _ _ _ _ _ _ _ _ _)
   | (with_reducible exact LeO.refl _)
   | (with_reducible exact LeO.none _)
   | (with_reducible refine LeO.ite ?_ ?_)
   | (with_reducible refine LeO.bind ?_ (fun _ => ?_))
   | exact ih0 _ _ _
   | exact ih1 _ _ _
   | exact vicinageref27_Parse.mono _ _
   | exact vicinageref27_Same.mono _ _ _ _ _ _ _ _ _
   | exact LeO.none _
   | refine LeO.ite ?_ ?_
   | refine LeO.bind ?_ (fun _ => ?_)
def vicinagelaw27_ScriptParses.T10 : Bool × List (List Nat × List Nat) := (true, [([], []), ([], []), ([0, 1], [0, 1]), ([2], [2]), ([], []), ([], []), ([4, 5], [4, 5]), ([6], [6]), ([3, 7], [3, 7]), ([8], [8])])
def vicinagelaw27_ScriptParses.B10 : List Nat := [0, 0, 3, 7, 0, 0, 48, 112, 255, 511]
theorem vicinagelaw27_ScriptParses.tab10 : rtab .any (opsOf Tryz.f4 10) = vicinagelaw27_ScriptParses.T10 := by kernel_rfl
theorem vicinagelaw27_ScriptParses.bits10 : waitsOk vicinagelaw27_ScriptParses.T10.2 vicinagelaw27_ScriptParses.B10 = true := by kernel_rfl
set_option maxHeartbeats 8000000 in
set_option maxRecDepth 100000 in
theorem vicinagelaw27_ScriptParses.calls (k : Nat) (a0 : ByteArray) (r : Bool) (w : World) (h : vicinagelaw27_ScriptParses.f k a0 = some r) (hF : FixW w) :
  Calls Tryz.prog 4 #[.string a0] w fun e w' => e = .returned (.bool r) ∧ Below w.heap.size w w' := by
 have hu27 := Tryz.underlying27
 have HF := Aside0.mk hF
 clear hF
 have HB := Aside0.mk (Below.refl w.heap.size w)
 have H : (if (a0.size : Int) > 1048676 then ((vicinagelaw27_known.f).bind fun t101 => (some t101)) else ((script_Parse.f a0).bind fun bt102 => ((vicinageref27_Parse.f k a0).bind fun bt107 => (if bt102.2.1 = bt107.2.1 then (if bt102.2.2 = bt107.2.2 then (vicinagelaw27_ScriptParses.j0 k bt102.1 bt107.1 ((bt102.1.length : Int) != (bt107.1.length : Int))) else (vicinagelaw27_ScriptParses.j0 k bt102.1 bt107.1 true)) else (vicinagelaw27_ScriptParses.j0 k bt102.1 bt107.1 true))))) = some r := h
 clear h
 by_cases c2 : (a0.size : Int) > 1048676
 ·
  rw [if_pos c2] at H
  have c2b0 : decide (1048676 < (a0.size : Int)) = true := decide_eq_true c2
  have c2b1 : decide (1048676 < a0.size) = true := decide_eq_true (by omega)
  clear c2
  replace H := Option.bind_eq_some_iff.mp H
  obtain ⟨t101, A30, H⟩ := H
  replace H : (some t101) = some r := H
  have A3 := Aside0.mk A30
  clear A30
  obtain rfl := Option.some.inj H
  go_enter Tryz.func4, Tryz.ntmps4
  go_wp2_with (first | ((with_reducible refine gate_callee (f := 6) rfl ?_); refine goesL_ (some 13) rfl rfl Tryz.func6 (by kernel_rfl) rfl #[] rfl (by (try simp only [List.map_toArray, List.map_cons, List.map_nil]); first | done | rfl | (simp only [List.length_drop, List.length_take]; rfl)) ?_; (with_reducible refine (vicinagelaw27_known.calls  t101 _ A3.out ?side1).mono ?_); (case side1 => exact FixW.below HF.out (by repeat (first | (with_reducible first | exact HB.out | apply below_alloc | apply pw_below_drewN | apply below_drew1) | exact HB.out))); rintro e w4 ⟨rfl, hb⟩; refine ⟨_, rfl, ?_⟩; have n0_ := Aside0.mk (below_step (by repeat (first | (with_reducible first | exact HB.out | apply below_alloc | apply pw_below_drewN | apply below_drew1) | exact HB.out)) hb); clear HB; have HB := n0_; clear n0_; (try clear hb); (try clear hb2); (try clear hk); (try clear hi)))
  go_ret
  exact ⟨by first | rfl | (simp [errW_none, errW_some] <;> rfl) | (simp [*, errW_none, errW_some] <;> rfl), by repeat (first | (with_reducible first | exact HB.out | apply below_alloc | apply pw_below_drewN | apply below_drew1) | exact HB.out)⟩
 ·
  rw [if_neg c2] at H
  have c2b0 : decide (1048676 < (a0.size : Int)) = false := decide_eq_false c2
  have c2b1 : decide (1048676 < a0.size) = false := decide_eq_false (by omega)
  clear c2
  replace H := Option.bind_eq_some_iff.mp H
  obtain ⟨⟨t102, t103, t104⟩, A50, H⟩ := H
  replace H : ((vicinageref27_Parse.f k a0).bind fun bt107 => (if t103 = bt107.2.1 then (if t104 = bt107.2.2 then (vicinagelaw27_ScriptParses.j0 k t102 bt107.1 ((t102.length : Int) != (bt107.1.length : Int))) else (vicinagelaw27_ScriptParses.j0 k t102 bt107.1 true)) else (vicinagelaw27_ScriptParses.j0 k t102 bt107.1 true))) = some r := H
  have A5 := Aside0.mk A50
  clear A50
  replace H := Option.bind_eq_some_iff.mp H
  obtain ⟨⟨t107, t108, t109⟩, A60, H⟩ := H
  replace H : (if t103 = t108 then (if t104 = t109 then (vicinagelaw27_ScriptParses.j0 k t102 t107 ((t102.length : Int) != (t107.length : Int))) else (vicinagelaw27_ScriptParses.j0 k t102 t107 true)) else (vicinagelaw27_ScriptParses.j0 k t102 t107 true)) = some r := H
  have A6 := Aside0.mk A60
  clear A60
  have HC7 := Aside0.mk H
  clear H
  go_enter Tryz.func4, Tryz.ntmps4
  go_upto_region 5 with (first | ((with_reducible refine gate_callee (f := 10) rfl ?_); refine goesL_ (some 16) rfl rfl Tryz.func10 (by kernel_rfl) rfl #[.string a0] rfl (by (try simp only [List.map_toArray, List.map_cons, List.map_nil]); first | done | rfl | (simp only [List.length_drop, List.length_take]; rfl)) ?_; (with_reducible refine (script_Parse.calls a0 t102 t103 t104 _ A5.out ?side1).mono ?_); (case side1 => exact FixW.below HF.out (by repeat (first | (with_reducible first | exact HB.out | apply below_alloc | apply pw_below_drewN | apply below_drew1) | exact HB.out))); rintro e w8 ⟨v105, rfl, ho0, hb⟩; refine ⟨_, rfl, ?_⟩; have n0_ := Aside0.mk (Kd.S_lower ho0 (below_size (by repeat (first | (with_reducible first | exact HB.out | apply below_alloc | apply pw_below_drewN | apply below_drew1) | exact HB.out)))); have n1_ := Aside0.mk (below_step (by repeat (first | (with_reducible first | exact HB.out | apply below_alloc | apply pw_below_drewN | apply below_drew1) | exact HB.out)) hb); clear HB; have HO106 := n0_; have HB := n1_; clear n0_ n1_; (try clear hb); (try clear hb2); (try clear hk); (try clear hi); (try clear ho0)) | ((with_reducible refine gate_callee (f := 11) rfl ?_); refine goesL_ (some 22) rfl rfl Tryz.func11 (by kernel_rfl) rfl #[.string a0] rfl (by (try simp only [List.map_toArray, List.map_cons, List.map_nil]); first | done | rfl | (simp only [List.length_drop, List.length_take]; rfl)) ?_; (with_reducible refine (vicinageref27_Parse.calls k a0 t107 t108 t109 _ A6.out).mono ?_); rintro e w9 ⟨v110, rfl, ho0, hb⟩; refine ⟨_, rfl, ?_⟩; have n0_ := Aside0.mk (Kd.S_elder' (by (with_reducible repeat (first | apply Kd.S_alloc | apply Kd.S_drewN | apply Kd.S_drew)); exact HO106.out) (Kd.S_base ho0) hb); have n1_ := Aside0.mk (Kd.S_lower (Kd.S_new' ho0 (Kd.S_lt (by (with_reducible repeat (first | apply Kd.S_alloc | apply Kd.S_drewN | apply Kd.S_drew)); exact HO106.out))) (below_size (by repeat (first | (with_reducible first | exact HB.out | apply below_alloc | apply pw_below_drewN | apply below_drew1) | exact HB.out)))); have n2_ := Aside0.mk (below_step (by repeat (first | (with_reducible first | exact HB.out | apply below_alloc | apply pw_below_drewN | apply below_drew1) | exact HB.out)) hb); clear HO106; clear HB; have HO106 := n0_; have HO111 := n1_; have HB := n2_; clear n0_ n1_ n2_; (try clear hb); (try clear hb2); (try clear hk); (try clear hi); (try clear ho0)))
  (try simp only [Act.put, List.setIfInBounds_toArray, List.set_cons_zero, List.set_cons_succ])
  go_cut [40] (fun v40 wc => ∃ (kq : Nat) (x40_6 : Bool), v40 = .bool x40_6 ∧ Aside0 (vicinagelaw27_ScriptParses.j0 kq t102 t107 x40_6 = some r) ∧ Aside0 (kq ≤ k) ∧ Aside0 (Kd.S k27 27 wc w.heap.size (fun k_ => some k_ ≠ (v110 : Value).ownBlock) v105 t102) ∧ Aside0 (Kd.S k27 27 wc w.heap.size (fun k_ => some k_ ≠ (v105 : Value).ownBlock) v110 t107) ∧ Aside0 (Below w.heap.size w wc))
  case first =>
   have H := HC7.out
   clear HC7
   by_cases c10 : t103 = t108
   ·
    rw [if_pos c10] at H
    have c10b0 : (t103 == t108) = true := beq_iff_eq.mpr c10
    have c10b1 : (t103 != t108) = false := bne_eq_false_iff_eq.mpr c10
    clear c10
    (first | rw [c10b0] | (simp only [i64_w, i32_w]; rw [c10b0]) | skip)
    by_cases c11 : t104 = t109
    ·
     rw [if_pos c11] at H
     have c11b0 : (t104 == t109) = true := beq_iff_eq.mpr c11
     have c11b1 : (t104 != t109) = false := bne_eq_false_iff_eq.mpr c11
     clear c11
     have H' := Aside0.mk H
     clear H
     obtain ⟨Ao12, co12, eo12⟩ := Kd.S_slice HO106.out
     subst eo12
     obtain ⟨Ao13, co13, eo13⟩ := Kd.S_slice HO111.out
     subst eo13
     go_wp2
     go_meet
     case rel => exact ⟨_, (((t102.length : Int) != (t107.length : Int))), (by first | rfl | (simp; done) | (simp [*]; done)), H', ⟨by first | omega | exact Nat.le_refl _⟩, ⟨by (with_reducible repeat (first | apply Kd.S_alloc | apply Kd.S_drewN | apply Kd.S_drew)); exact Kd.S_mono HO106.out (fun _ hk => hk.2)⟩, ⟨by (with_reducible repeat (first | apply Kd.S_alloc | apply Kd.S_drewN | apply Kd.S_drew)); exact Kd.S_mono HO111.out (fun _ hk => hk.2)⟩, ⟨by repeat (first | (with_reducible first | exact HB.out | apply below_alloc | apply pw_below_drewN | apply below_drew1) | exact HB.out)⟩⟩
    ·
     rw [if_neg c11] at H
     have c11b0 : (t104 == t109) = false := beq_eq_false_iff_ne.mpr c11
     have c11b1 : (t104 != t109) = true := bne_iff_ne.mpr c11
     have H' := Aside0.mk H
     clear H
     go_wp2
     go_meet
     case rel => exact ⟨_, (true), (by first | rfl | (simp; done) | (simp [*]; done)), H', ⟨by first | omega | exact Nat.le_refl _⟩, ⟨by (with_reducible repeat (first | apply Kd.S_alloc | apply Kd.S_drewN | apply Kd.S_drew)); exact Kd.S_mono HO106.out (fun _ hk => hk.2)⟩, ⟨by (with_reducible repeat (first | apply Kd.S_alloc | apply Kd.S_drewN | apply Kd.S_drew)); exact Kd.S_mono HO111.out (fun _ hk => hk.2)⟩, ⟨by repeat (first | (with_reducible first | exact HB.out | apply below_alloc | apply pw_below_drewN | apply below_drew1) | exact HB.out)⟩⟩
   ·
    rw [if_neg c10] at H
    have c10b0 : (t103 == t108) = false := beq_eq_false_iff_ne.mpr c10
    have c10b1 : (t103 != t108) = true := bne_iff_ne.mpr c10
    (first | rw [c10b0] | (simp only [i64_w, i32_w]; rw [c10b0]) | skip)
    have H' := Aside0.mk H
    clear H
    go_wp2
    go_meet
    case rel => exact ⟨_, (true), (by first | rfl | (simp; done) | (simp [*]; done)), H', ⟨by first | omega | exact Nat.le_refl _⟩, ⟨by (with_reducible repeat (first | apply Kd.S_alloc | apply Kd.S_drewN | apply Kd.S_drew)); exact Kd.S_mono HO106.out (fun _ hk => hk.2)⟩, ⟨by (with_reducible repeat (first | apply Kd.S_alloc | apply Kd.S_drewN | apply Kd.S_drew)); exact Kd.S_mono HO111.out (fun _ hk => hk.2)⟩, ⟨by repeat (first | (with_reducible first | exact HB.out | apply below_alloc | apply pw_below_drewN | apply below_drew1) | exact HB.out)⟩⟩
  case rest =>
   clear HC7
   try clear c1
   try clear c2
   try clear c2b0
   try clear c2b1
   try clear p2
   try clear c4
   try clear c6
   try clear c10
   try clear c10b0
   try clear c10b1
   try clear c11
   try clear c11b0
   try clear c11b1
   obtain ⟨kq, x40_6, rfl, HA, HJ6, HO_3, HO_6, HB⟩ := hcut
   cases kq with
   | zero => exact absurd HA.out (by simp [vicinagelaw27_ScriptParses.j0])
   | succ kj6 =>
    have H := HA.out
    clear HA
    simp only [vicinagelaw27_ScriptParses.j0] at H
    by_cases c14 : x40_6 = true
    ·
     subst c14
     have H1 : (some false) = some r := by rw [if_pos rfl] at H; exact H
     clear H
     have H := H1
     clear H1
     obtain rfl := Option.some.inj H
     go_wp2
     go_ret
     exact ⟨by first | rfl | (simp [errW_none, errW_some] <;> rfl) | (simp [*, errW_none, errW_some] <;> rfl), by repeat (first | (with_reducible first | exact HB.out | apply below_alloc | apply pw_below_drewN | apply below_drew1) | exact HB.out)⟩
    ·
     replace c14 := Bool.eq_false_iff.mpr c14
     subst c14
     have H1 : (vicinagelaw27_ScriptParses.l0 kj6 t102 t107 0) = some r := by rw [if_neg (show ¬ (false = true) by decide)] at H; exact H
     clear H
     have H := H1
     clear H1
     have H' := Aside0.mk H
     clear H
     go_wp2
     go_loopg [9] kj6 (fun kq v9 w' => ∃ (x9_2 : Int), v9 = .int .i64 x9_2 ∧ Aside0 (vicinagelaw27_ScriptParses.l0 kq t102 t107 x9_2 = some r) ∧ Aside0 (kq ≤ kj6) ∧ Aside0 (Kd.S k27 27 w' w.heap.size (fun k_ => some k_ ≠ (v110 : Value).ownBlock) v105 t102) ∧ Aside0 (Kd.S k27 27 w' w.heap.size (fun k_ => some k_ ≠ (v105 : Value).ownBlock) v110 t107) ∧ Aside0 (Below w.heap.size w w'))
     case atStart => exact ⟨(0), (by first | rfl | (simp; done) | (simp [*]; done)), H', ⟨Nat.le_refl _⟩, ⟨by (with_reducible repeat (first | apply Kd.S_alloc | apply Kd.S_drewN | apply Kd.S_drew)); exact HO_3.out⟩, ⟨by (with_reducible repeat (first | apply Kd.S_alloc | apply Kd.S_drewN | apply Kd.S_drew)); exact HO_6.out⟩, ⟨by repeat (first | (with_reducible first | exact HB.out | apply below_alloc | apply pw_below_drewN | apply below_drew1) | exact HB.out)⟩⟩
     case round =>
      clear H'
      try clear c1
      try clear c2
      try clear c2b0
      try clear c2b1
      try clear p2
      try clear c4
      try clear c6
      try clear c10
      try clear c10b0
      try clear c10b1
      try clear c11
      try clear c11b0
      try clear c11b1
      try clear c14
      try clear p2
      obtain ⟨x9_2, rfl, HA, HK2, HO_3, HO_6, HB⟩ := hrel
      cases gk with
      | zero => exact absurd HA.out (by simp [vicinagelaw27_ScriptParses.l0])
      | succ k2 =>
       have H := HA.out
       clear HA
       simp only [vicinagelaw27_ScriptParses.l0] at H
       by_cases c15 : x9_2 < (t102.length : Int)
       ·
        rw [if_pos c15] at H
        have c15b0 : decide (x9_2 < (t102.length : Int)) = true := decide_eq_true c15
        clear c15
        by_cases c16 : 0 ≤ x9_2
        ·
         rw [if_pos c16] at H
         have c16b0 : decide (0 ≤ x9_2) = true := decide_eq_true c16
         clear c16
         by_cases c17 : x9_2 < (t107.length : Int)
         ·
          rw [if_pos c17] at H
          have c17b0 : decide (x9_2 < (t107.length : Int)) = true := decide_eq_true c17
          clear c17
          replace H := Option.bind_eq_some_iff.mp H
          obtain ⟨t114, A180, H⟩ := H
          replace H : (if t114 = true then (vicinagelaw27_ScriptParses.l0 k2 t102 t107 (wrap64 (x9_2 + 1))) else (some false)) = some r := H
          have A18 := Aside0.mk A180
          clear A180
          by_cases c19 : t114 = true
          ·
           subst c19
           have H1 : (vicinagelaw27_ScriptParses.l0 k2 t102 t107 (wrap64 (x9_2 + 1))) = some r := by rw [if_pos rfl] at H; exact H
           clear H
           have H := H1
           clear H1
           have H' := Aside0.mk H
           clear H
           obtain ⟨Ao20, co20, eo20⟩ := Kd.S_slice HO_3.out
           subst eo20
           try go_wp2
           have n0_ := Aside0.mk (Kd.S_drew HO_3.out)
           have n1_ := Aside0.mk (Kd.S_drew HO_6.out)
           have n2_ := Aside0.mk (below_drew1 HB.out)
           clear HO_3
           clear HO_6
           clear HB
           have HO_3 := n0_
           have HO_6 := n1_
           have HB := n2_
           clear n0_ n1_ n2_
           have p112 : 0 ≤ (x9_2 : Int) := of_decide_eq_true (by first | (with_reducible assumption) | assumption)
           have q112 : x9_2 < (t102.length : Int) := of_decide_eq_true (by first | (with_reducible assumption) | assumption)
           obtain ⟨ad112, A112_2, c112_2, A112_3, c112_3, e112, hx112_0, hx112_1, hx112_2, hx112_3, hl112_2, hi112_2, hl112_3, hi112_3⟩ := at_T27 (Kd.S_reads' HO_3.out).2.2 x9_2 p112 q112
           cases e112
           obtain ⟨ce112, hce112, hMe112, hcc112⟩ := Kd.S_get HO_3.out z27 x9_2 p112 (by first | exact q112 | exact of_decide_eq_true (by first | (with_reducible assumption) | assumption) | (have e_ := (Kd.S_reads' HO_3.out).1; omega))
           obtain ⟨ve112_2, ve112_3, rfl, ge112_2, ge112_3⟩ := k27_openM hMe112
           have hv112_2 := hcc112 2 _ rfl
           rw [add_field _ _ 2 (by omega)] at hv112_2
           replace hv112_2 := Option.some.inj (hv112_2.symm.trans hx112_2)
           rw [hv112_2] at ge112_2
           have HL112_2 := Aside0.mk (show Kd.R (Kd.int .u8) 5 _ _ _ _ ((rd_T27 t102 x9_2).f2) from ge112_2)
           clear hv112_2 ge112_2
           have hv112_3 := hcc112 3 _ rfl
           rw [add_field _ _ 3 (by omega)] at hv112_3
           replace hv112_3 := Option.some.inj (hv112_3.symm.trans hx112_3)
           rw [hv112_3] at ge112_3
           have HL112_3 := Aside0.mk (show Kd.R (Kd.int .i64) 3 _ _ _ _ ((rd_T27 t102 x9_2).f3) from ge112_3)
           clear hv112_3 ge112_3
           clear hcc112 hce112
           have HR112_2 := Aside0.mk hi112_2
           have HC112_2 := Aside0.mk hl112_2
           clear hi112_2 hl112_2
           have HR112_3 := Aside0.mk hi112_3
           have HC112_3 := Aside0.mk hl112_3
           clear hi112_3 hl112_3
           replace p112 := eq_true p112
           replace q112 := eq_true q112
           obtain ⟨Ao22, co22, eo22⟩ := Kd.S_slice HO_6.out
           (first | subst eo22 | (injection eo22 with f1_ f2_ f3_; have f4_ := f1_.symm; have f5_ := f3_.symm; clear f1_ f2_ f3_; subst f4_; subst f5_))
           have p113 : 0 ≤ (x9_2 : Int) := of_decide_eq_true (by first | (with_reducible assumption) | assumption)
           have q113 : x9_2 < (t107.length : Int) := of_decide_eq_true (by first | (with_reducible assumption) | assumption)
           obtain ⟨ad113, A113_2, c113_2, A113_3, c113_3, e113, hx113_0, hx113_1, hx113_2, hx113_3, hl113_2, hi113_2, hl113_3, hi113_3⟩ := at_T27 (Kd.S_reads' HO_6.out).2.2 x9_2 p113 q113
           cases e113
           obtain ⟨ce113, hce113, hMe113, hcc113⟩ := Kd.S_get HO_6.out z27 x9_2 p113 (by first | exact q113 | exact of_decide_eq_true (by first | (with_reducible assumption) | assumption) | (have e_ := (Kd.S_reads' HO_6.out).1; omega))
           obtain ⟨ve113_2, ve113_3, rfl, ge113_2, ge113_3⟩ := k27_openM hMe113
           have hv113_2 := hcc113 2 _ rfl
           rw [add_field _ _ 2 (by omega)] at hv113_2
           replace hv113_2 := Option.some.inj (hv113_2.symm.trans hx113_2)
           rw [hv113_2] at ge113_2
           have HL113_2 := Aside0.mk (show Kd.R (Kd.int .u8) 5 _ _ _ _ ((rd_T27 t107 x9_2).f2) from ge113_2)
           clear hv113_2 ge113_2
           have hv113_3 := hcc113 3 _ rfl
           rw [add_field _ _ 3 (by omega)] at hv113_3
           replace hv113_3 := Option.some.inj (hv113_3.symm.trans hx113_3)
           rw [hv113_3] at ge113_3
           have HL113_3 := Aside0.mk (show Kd.R (Kd.int .i64) 3 _ _ _ _ ((rd_T27 t107 x9_2).f3) from ge113_3)
           clear hv113_3 ge113_3
           clear hcc113 hce113
           have HR113_2 := Aside0.mk hi113_2
           have HC113_2 := Aside0.mk hl113_2
           clear hi113_2 hl113_2
           have HR113_3 := Aside0.mk hi113_3
           have HC113_3 := Aside0.mk hl113_3
           clear hi113_3 hl113_3
           replace p113 := eq_true p113
           replace q113 := eq_true q113
           refine start_ (n := 10) (S := fun w' => w'.cell? (ad112.add ((x9_2).toNat * 4)) = some (.int .i64 ((rd_T27 t102 x9_2).f0)) ∧ w'.cell? ⟨(ad112.add ((x9_2).toNat * 4)).block, (ad112.add ((x9_2).toNat * 4)).off + 1, none⟩ = some (.int .i64 ((rd_T27 t102 x9_2).f1)) ∧ w'.cell? ⟨(ad112.add ((x9_2).toNat * 4)).block, (ad112.add ((x9_2).toNat * 4)).off + 2, none⟩ = some (.slice A112_2 ((rd_T27 t102 x9_2).f2).length c112_2) ∧ w'.cell? ⟨(ad112.add ((x9_2).toNat * 4)).block, (ad112.add ((x9_2).toNat * 4)).off + 3, none⟩ = some (.slice A112_3 ((rd_T27 t102 x9_2).f3).length c112_3) ∧ w'.cell? (ad113.add ((x9_2).toNat * 4)) = some (.int .i64 ((rd_T27 t107 x9_2).f0)) ∧ w'.cell? ⟨(ad113.add ((x9_2).toNat * 4)).block, (ad113.add ((x9_2).toNat * 4)).off + 1, none⟩ = some (.int .i64 ((rd_T27 t107 x9_2).f1)) ∧ w'.cell? ⟨(ad113.add ((x9_2).toNat * 4)).block, (ad113.add ((x9_2).toNat * 4)).off + 2, none⟩ = some (.slice A113_2 ((rd_T27 t107 x9_2).f2).length c113_2) ∧ w'.cell? ⟨(ad113.add ((x9_2).toNat * 4)).block, (ad113.add ((x9_2).toNat * 4)).off + 3, none⟩ = some (.slice A113_3 ((rd_T27 t107 x9_2).f3).length c113_3)) (ds := []) #[false, false, false, false, false, false, false, false, false, false] (by kernel_rfl) rfl rfl ⟨hx112_0, hx112_1, hx112_2, hx112_3, hx113_0, hx113_1, hx113_2, hx113_3⟩ (fun hHeld => ?_); refine with_tabW vicinagelaw27_ScriptParses.tab10 vicinagelaw27_ScriptParses.bits10 (fun HT_ HW_ => ?_)
           generalize wr.drew = w21 at HO_3 HO_6 HB HL112_2 HL112_3 HL113_2 HL113_3 HR112_2 HR112_3 HR113_2 HR113_3 hx112_0 hx112_1 hx112_2 hx112_3 hx113_0 hx113_1 hx113_2 hx113_3 hHeld ⊢
           refine pure_ (i := 0) (N := some 47) (v := ?_) (a' := ?_) #[true, false, false, false, false, false, false, false, false, false] rfl rfl (any_of HT_.out (by kernel_rfl)) (fun _ _ _ h => h) (Or.inl ⟨by rfl, ?_⟩) ?_ ?_
           rotate_left
           ·
            intro w'
            go_simp
            with_reducible rfl
           rotate_left
           ·
            simp only [Act.put, List.setIfInBounds_toArray, List.set_cons_zero, List.set_cons_succ, i64_w, i32_w]
            rfl
           refine pure_ (i := 1) (N := some 48) (v := ?_) (a' := ?_) #[true, true, false, false, false, false, false, false, false, false] rfl rfl (any_of HT_.out (by kernel_rfl)) (fun _ _ _ h => h) (Or.inl ⟨by rfl, ?_⟩) ?_ ?_
           rotate_left
           ·
            intro w'
            go_simp
            with_reducible rfl
           rotate_left
           ·
            simp only [Act.put, List.setIfInBounds_toArray, List.set_cons_zero, List.set_cons_succ, i64_w, i32_w]
            rfl
           refine pure_ (i := 2) (N := some 49) (v := ?_) (a' := ?_) #[true, true, true, false, false, false, false, false, false, false] rfl rfl (any_of HT_.out (by kernel_rfl)) (fun _ _ _ h => h) (Or.inl ⟨by rfl, ?_⟩) ?_ ?_
           rotate_left
           ·
            intro w'
            go_simp
            with_reducible rfl
           rotate_left
           ·
            simp only [Act.put, List.setIfInBounds_toArray, List.set_cons_zero, List.set_cons_succ, i64_w, i32_w]
            rfl
           refine pure_ (i := 4) (N := some 51) (v := ?_) (a' := ?_) #[true, true, true, false, true, false, false, false, false, false] rfl rfl (any_of HT_.out (by kernel_rfl)) (fun _ _ _ h => h) (Or.inl ⟨by rfl, ?_⟩) ?_ ?_
           rotate_left
           ·
            intro w'
            go_simp
            with_reducible rfl
           rotate_left
           ·
            simp only [Act.put, List.setIfInBounds_toArray, List.set_cons_zero, List.set_cons_succ, i64_w, i32_w]
            rfl
           refine pure_ (i := 5) (N := some 52) (v := ?_) (a' := ?_) #[true, true, true, false, true, true, false, false, false, false] rfl rfl (any_of HT_.out (by kernel_rfl)) (fun _ _ _ h => h) (Or.inl ⟨by rfl, ?_⟩) ?_ ?_
           rotate_left
           ·
            intro w'
            go_simp
            with_reducible rfl
           rotate_left
           ·
            simp only [Act.put, List.setIfInBounds_toArray, List.set_cons_zero, List.set_cons_succ, i64_w, i32_w]
            rfl
           refine pure_ (i := 6) (N := some 53) (v := ?_) (a' := ?_) #[true, true, true, false, true, true, true, false, false, false] rfl rfl (any_of HT_.out (by kernel_rfl)) (fun _ _ _ h => h) (Or.inl ⟨by rfl, ?_⟩) ?_ ?_
           rotate_left
           ·
            intro w'
            go_simp
            with_reducible rfl
           rotate_left
           ·
            simp only [Act.put, List.setIfInBounds_toArray, List.set_cons_zero, List.set_cons_succ, i64_w, i32_w]
            rfl
           refine take_ (i := 3) (N := some 50) (v := ?_) (a' := ?_) #[true, true, true, true, true, true, true, false, false, false] rfl rfl (take_ofW HT_.out HW_.out (by kernel_rfl)) (fun _ _ _ h => h) (Or.inl ⟨by rfl, ?_⟩) hHeld ?_ ?_
           rotate_left
           ·
            rintro w' ⟨s0, s1, s2, s3, s4, s5, s6, s7⟩
            go_simp
            with_reducible rfl
           rotate_left
           ·
            simp only [Act.put, List.setIfInBounds_toArray, List.set_cons_zero, List.set_cons_succ, i64_w, i32_w]
            rfl
           refine take_ (i := 7) (N := some 54) (v := ?_) (a' := ?_) #[true, true, true, true, true, true, true, true, false, false] rfl rfl (take_ofW HT_.out HW_.out (by kernel_rfl)) (fun _ _ _ h => h) (Or.inl ⟨by rfl, ?_⟩) hHeld ?_ ?_
           rotate_left
           ·
            rintro w' ⟨s0, s1, s2, s3, s4, s5, s6, s7⟩
            go_simp
            with_reducible rfl
           rotate_left
           ·
            simp only [Act.put, List.setIfInBounds_toArray, List.set_cons_zero, List.set_cons_succ, i64_w, i32_w]
            rfl
           refine one_ (i := 8) (N := some 55) #[true, true, true, true, true, true, true, true, true, false] rfl rfl (one_of HT_.out (by kernel_rfl)) (by decide) (fun K hK => ?_)
           refine goes_ Tryz.func9 (by kernel_rfl) rfl #[.agg #[.int .i64 ((rd_T27 t102 x9_2).f0), .int .i64 ((rd_T27 t102 x9_2).f1), .slice A112_2 ((rd_T27 t102 x9_2).f2).length c112_2, .slice A112_3 ((rd_T27 t102 x9_2).f3).length c112_3], .agg #[.int .i64 ((rd_T27 t107 x9_2).f0), .int .i64 ((rd_T27 t107 x9_2).f1), .slice A113_2 ((rd_T27 t107 x9_2).f2).length c113_2, .slice A113_3 ((rd_T27 t107 x9_2).f3).length c113_3]] (by rfl) rfl rfl (by (try simp only [List.map_toArray, List.map_cons, List.map_nil]); first | done | rfl | (simp only [List.length_drop, List.length_take]; rfl)) ?_
           with_reducible refine (vicinageref27_Same.calls k2 ((rd_T27 t102 x9_2).f0) ((rd_T27 t102 x9_2).f1) _ _ ((rd_T27 t102 x9_2).f2) _ _ ((rd_T27 t102 x9_2).f3) ((rd_T27 t107 x9_2).f0) ((rd_T27 t107 x9_2).f1) _ _ ((rd_T27 t107 x9_2).f2) _ _ ((rd_T27 t107 x9_2).f3) true _ ?side1 ?side2 ?side3 ?side4 ?side5 ?side6 ?side7 ?side8 A18.out).mono ?_
           (case side1 => repeat (first | exact (by repeat (first | (with_reducible exact HR112_2.out) | (with_reducible refine Kd.C_alloc ?_ _) | (with_reducible refine Kd.C_drewN ?_ _) | (with_reducible refine Kd.C_drew ?_) | exact HR112_2.out)) | (with_reducible refine Kd.C_alloc ?_ _) | (with_reducible refine Kd.C_drewN ?_ _) | (with_reducible refine Kd.C_drew ?_)))
           (case side2 => exact HC112_2.out)
           (case side3 => repeat (first | exact (by repeat (first | (with_reducible exact HR112_3.out) | (with_reducible refine Kd.C_alloc ?_ _) | (with_reducible refine Kd.C_drewN ?_ _) | (with_reducible refine Kd.C_drew ?_) | exact HR112_3.out)) | (with_reducible refine Kd.C_alloc ?_ _) | (with_reducible refine Kd.C_drewN ?_ _) | (with_reducible refine Kd.C_drew ?_)))
           (case side4 => exact HC112_3.out)
           (case side5 => repeat (first | exact (by repeat (first | (with_reducible exact HR113_2.out) | (with_reducible refine Kd.C_alloc ?_ _) | (with_reducible refine Kd.C_drewN ?_ _) | (with_reducible refine Kd.C_drew ?_) | exact HR113_2.out)) | (with_reducible refine Kd.C_alloc ?_ _) | (with_reducible refine Kd.C_drewN ?_ _) | (with_reducible refine Kd.C_drew ?_)))
           (case side6 => exact HC113_2.out)
           (case side7 => repeat (first | exact (by repeat (first | (with_reducible exact HR113_3.out) | (with_reducible refine Kd.C_alloc ?_ _) | (with_reducible refine Kd.C_drewN ?_ _) | (with_reducible refine Kd.C_drew ?_) | exact HR113_3.out)) | (with_reducible refine Kd.C_alloc ?_ _) | (with_reducible refine Kd.C_drewN ?_ _) | (with_reducible refine Kd.C_drew ?_)))
           (case side8 => exact HC113_3.out)
           rintro e w23 ⟨rfl, hb⟩
           have HS0_ := (hb.cell (World.block_lt_of_cell? _ _ (hHeld.1))).trans (hHeld.1)
           have HS1_ := (hb.cell (World.block_lt_of_cell? _ _ (hHeld.2.1))).trans (hHeld.2.1)
           have HS2_ := (hb.cell (World.block_lt_of_cell? _ _ (hHeld.2.2.1))).trans (hHeld.2.2.1)
           have HS3_ := (hb.cell (World.block_lt_of_cell? _ _ (hHeld.2.2.2.1))).trans (hHeld.2.2.2.1)
           have HS4_ := (hb.cell (World.block_lt_of_cell? _ _ (hHeld.2.2.2.2.1))).trans (hHeld.2.2.2.2.1)
           have HS5_ := (hb.cell (World.block_lt_of_cell? _ _ (hHeld.2.2.2.2.2.1))).trans (hHeld.2.2.2.2.2.1)
           have HS6_ := (hb.cell (World.block_lt_of_cell? _ _ (hHeld.2.2.2.2.2.2.1))).trans (hHeld.2.2.2.2.2.2.1)
           have HS7_ := (hb.cell (World.block_lt_of_cell? _ _ (hHeld.2.2.2.2.2.2.2))).trans (hHeld.2.2.2.2.2.2.2)
           refine ⟨_, rfl, ?_⟩
           have n0_ := Aside0.mk (Kd.S_below (by (with_reducible repeat (first | apply Kd.S_alloc | apply Kd.S_drewN | apply Kd.S_drew)); exact HO_3.out) hb)
           have n1_ := Aside0.mk (Kd.S_below (by (with_reducible repeat (first | apply Kd.S_alloc | apply Kd.S_drewN | apply Kd.S_drew)); exact HO_6.out) hb)
           have n2_ := Aside0.mk (Kd.R_below (by (with_reducible repeat (first | apply Kd.R_alloc | apply Kd.R_drewN | apply Kd.R_drew)); exact HL112_2.out) hb)
           have n3_ := Aside0.mk (Kd.R_below (by (with_reducible repeat (first | apply Kd.R_alloc | apply Kd.R_drewN | apply Kd.R_drew)); exact HL112_3.out) hb)
           have n4_ := Aside0.mk (Kd.R_below (by (with_reducible repeat (first | apply Kd.R_alloc | apply Kd.R_drewN | apply Kd.R_drew)); exact HL113_2.out) hb)
           have n5_ := Aside0.mk (Kd.R_below (by (with_reducible repeat (first | apply Kd.R_alloc | apply Kd.R_drewN | apply Kd.R_drew)); exact HL113_3.out) hb)
           have n6_ := Aside0.mk (Kd.C_below (by repeat (first | (with_reducible exact HR112_2.out) | (with_reducible refine Kd.C_alloc ?_ _) | (with_reducible refine Kd.C_drewN ?_ _) | (with_reducible refine Kd.C_drew ?_) | exact HR112_2.out)) hb)
           have n7_ := Aside0.mk (Kd.C_below (by repeat (first | (with_reducible exact HR112_3.out) | (with_reducible refine Kd.C_alloc ?_ _) | (with_reducible refine Kd.C_drewN ?_ _) | (with_reducible refine Kd.C_drew ?_) | exact HR112_3.out)) hb)
           have n8_ := Aside0.mk (Kd.C_below (by repeat (first | (with_reducible exact HR113_2.out) | (with_reducible refine Kd.C_alloc ?_ _) | (with_reducible refine Kd.C_drewN ?_ _) | (with_reducible refine Kd.C_drew ?_) | exact HR113_2.out)) hb)
           have n9_ := Aside0.mk (Kd.C_below (by repeat (first | (with_reducible exact HR113_3.out) | (with_reducible refine Kd.C_alloc ?_ _) | (with_reducible refine Kd.C_drewN ?_ _) | (with_reducible refine Kd.C_drew ?_) | exact HR113_3.out)) hb)
           have n10_ := Aside0.mk (below_step (by repeat (first | (with_reducible first | exact HB.out | apply below_alloc | apply pw_below_drewN | apply below_drew1) | exact HB.out)) hb)
           clear HO_3
           clear HO_6
           clear HL112_2
           clear HL112_3
           clear HL113_2
           clear HL113_3
           clear HR112_2
           clear HR112_3
           clear HR113_2
           clear HR113_3
           clear HB
           have HO_3 := n0_
           have HO_6 := n1_
           have HL112_2 := n2_
           have HL112_3 := n3_
           have HL113_2 := n4_
           have HL113_3 := n5_
           have HR112_2 := n6_
           have HR112_3 := n7_
           have HR113_2 := n8_
           have HR113_3 := n9_
           have HB := n10_
           clear n0_ n1_ n2_ n3_ n4_ n5_ n6_ n7_ n8_ n9_ n10_
           (try clear hb)
           (try clear hb2)
           (try clear hk)
           (try clear hi)
           refine hK.out _ _ ⟨HS0_, HS1_, HS2_, HS3_, HS4_, HS5_, HS6_, HS7_⟩ (fun hHeld => ?_)
           clear hK K
           refine norm_ (a' := ?_) ?_ ?_
           rotate_left
           ·
            show Act.put _ (some 55) _ = _
            simp only [Act.put, List.setIfInBounds_toArray, List.set_cons_zero, List.set_cons_succ, i64_w, i32_w]
            rfl
           refine pure_ (i := 9) (N := some 56) (v := ?_) (a' := ?_) #[true, true, true, true, true, true, true, true, true, true] rfl rfl (any_of HT_.out (by kernel_rfl)) (fun _ _ _ h => h) (Or.inl ⟨by rfl, ?_⟩) ?_ ?_
           rotate_left
           ·
            intro w'
            go_simp
            with_reducible rfl
           rotate_left
           ·
            simp only [Act.put, List.setIfInBounds_toArray, List.set_cons_zero, List.set_cons_succ, i64_w, i32_w]
            rfl
           refine done_ (done_of HT_.out (by kernel_rfl)) ?_
           try go_wp2
           go_roundg k2
           case measure => have := HJ6.out; have := HK2.out; omega
           case rel => exact ⟨(wrap64 (x9_2 + 1)), (by first | rfl | (simp; done) | (simp [*]; done)), H', ⟨by have := HJ6.out; have := HK2.out; omega⟩, ⟨by (with_reducible repeat (first | apply Kd.S_alloc | apply Kd.S_drewN | apply Kd.S_drew)); exact HO_3.out⟩, ⟨by (with_reducible repeat (first | apply Kd.S_alloc | apply Kd.S_drewN | apply Kd.S_drew)); exact HO_6.out⟩, ⟨by repeat (first | (with_reducible first | exact HB.out | apply below_alloc | apply pw_below_drewN | apply below_drew1) | exact HB.out)⟩⟩
          ·
           replace c19 := Bool.eq_false_iff.mpr c19
           subst c19
           have H1 : (some false) = some r := by rw [if_neg (show ¬ (false = true) by decide)] at H; exact H
           clear H
           have H := H1
           clear H1
           obtain rfl := Option.some.inj H
           obtain ⟨Ao24, co24, eo24⟩ := Kd.S_slice HO_3.out
           subst eo24
           try go_wp2
           have n0_ := Aside0.mk (Kd.S_drew HO_3.out)
           have n1_ := Aside0.mk (Kd.S_drew HO_6.out)
           have n2_ := Aside0.mk (below_drew1 HB.out)
           clear HO_3
           clear HO_6
           clear HB
           have HO_3 := n0_
           have HO_6 := n1_
           have HB := n2_
           clear n0_ n1_ n2_
           have p112 : 0 ≤ (x9_2 : Int) := of_decide_eq_true (by first | (with_reducible assumption) | assumption)
           have q112 : x9_2 < (t102.length : Int) := of_decide_eq_true (by first | (with_reducible assumption) | assumption)
           obtain ⟨ad112, A112_2, c112_2, A112_3, c112_3, e112, hx112_0, hx112_1, hx112_2, hx112_3, hl112_2, hi112_2, hl112_3, hi112_3⟩ := at_T27 (Kd.S_reads' HO_3.out).2.2 x9_2 p112 q112
           cases e112
           obtain ⟨ce112, hce112, hMe112, hcc112⟩ := Kd.S_get HO_3.out z27 x9_2 p112 (by first | exact q112 | exact of_decide_eq_true (by first | (with_reducible assumption) | assumption) | (have e_ := (Kd.S_reads' HO_3.out).1; omega))
           obtain ⟨ve112_2, ve112_3, rfl, ge112_2, ge112_3⟩ := k27_openM hMe112
           have hv112_2 := hcc112 2 _ rfl
           rw [add_field _ _ 2 (by omega)] at hv112_2
           replace hv112_2 := Option.some.inj (hv112_2.symm.trans hx112_2)
           rw [hv112_2] at ge112_2
           have HL112_2 := Aside0.mk (show Kd.R (Kd.int .u8) 5 _ _ _ _ ((rd_T27 t102 x9_2).f2) from ge112_2)
           clear hv112_2 ge112_2
           have hv112_3 := hcc112 3 _ rfl
           rw [add_field _ _ 3 (by omega)] at hv112_3
           replace hv112_3 := Option.some.inj (hv112_3.symm.trans hx112_3)
           rw [hv112_3] at ge112_3
           have HL112_3 := Aside0.mk (show Kd.R (Kd.int .i64) 3 _ _ _ _ ((rd_T27 t102 x9_2).f3) from ge112_3)
           clear hv112_3 ge112_3
           clear hcc112 hce112
           have HR112_2 := Aside0.mk hi112_2
           have HC112_2 := Aside0.mk hl112_2
           clear hi112_2 hl112_2
           have HR112_3 := Aside0.mk hi112_3
           have HC112_3 := Aside0.mk hl112_3
           clear hi112_3 hl112_3
           replace p112 := eq_true p112
           replace q112 := eq_true q112
           obtain ⟨Ao26, co26, eo26⟩ := Kd.S_slice HO_6.out
           (first | subst eo26 | (injection eo26 with f1_ f2_ f3_; have f4_ := f1_.symm; have f5_ := f3_.symm; clear f1_ f2_ f3_; subst f4_; subst f5_))
           have p113 : 0 ≤ (x9_2 : Int) := of_decide_eq_true (by first | (with_reducible assumption) | assumption)
           have q113 : x9_2 < (t107.length : Int) := of_decide_eq_true (by first | (with_reducible assumption) | assumption)
           obtain ⟨ad113, A113_2, c113_2, A113_3, c113_3, e113, hx113_0, hx113_1, hx113_2, hx113_3, hl113_2, hi113_2, hl113_3, hi113_3⟩ := at_T27 (Kd.S_reads' HO_6.out).2.2 x9_2 p113 q113
           cases e113
           obtain ⟨ce113, hce113, hMe113, hcc113⟩ := Kd.S_get HO_6.out z27 x9_2 p113 (by first | exact q113 | exact of_decide_eq_true (by first | (with_reducible assumption) | assumption) | (have e_ := (Kd.S_reads' HO_6.out).1; omega))
           obtain ⟨ve113_2, ve113_3, rfl, ge113_2, ge113_3⟩ := k27_openM hMe113
           have hv113_2 := hcc113 2 _ rfl
           rw [add_field _ _ 2 (by omega)] at hv113_2
           replace hv113_2 := Option.some.inj (hv113_2.symm.trans hx113_2)
           rw [hv113_2] at ge113_2
           have HL113_2 := Aside0.mk (show Kd.R (Kd.int .u8) 5 _ _ _ _ ((rd_T27 t107 x9_2).f2) from ge113_2)
           clear hv113_2 ge113_2
           have hv113_3 := hcc113 3 _ rfl
           rw [add_field _ _ 3 (by omega)] at hv113_3
           replace hv113_3 := Option.some.inj (hv113_3.symm.trans hx113_3)
           rw [hv113_3] at ge113_3
           have HL113_3 := Aside0.mk (show Kd.R (Kd.int .i64) 3 _ _ _ _ ((rd_T27 t107 x9_2).f3) from ge113_3)
           clear hv113_3 ge113_3
           clear hcc113 hce113
           have HR113_2 := Aside0.mk hi113_2
           have HC113_2 := Aside0.mk hl113_2
           clear hi113_2 hl113_2
           have HR113_3 := Aside0.mk hi113_3
           have HC113_3 := Aside0.mk hl113_3
           clear hi113_3 hl113_3
           replace p113 := eq_true p113
           replace q113 := eq_true q113
           refine start_ (n := 10) (S := fun w' => w'.cell? (ad112.add ((x9_2).toNat * 4)) = some (.int .i64 ((rd_T27 t102 x9_2).f0)) ∧ w'.cell? ⟨(ad112.add ((x9_2).toNat * 4)).block, (ad112.add ((x9_2).toNat * 4)).off + 1, none⟩ = some (.int .i64 ((rd_T27 t102 x9_2).f1)) ∧ w'.cell? ⟨(ad112.add ((x9_2).toNat * 4)).block, (ad112.add ((x9_2).toNat * 4)).off + 2, none⟩ = some (.slice A112_2 ((rd_T27 t102 x9_2).f2).length c112_2) ∧ w'.cell? ⟨(ad112.add ((x9_2).toNat * 4)).block, (ad112.add ((x9_2).toNat * 4)).off + 3, none⟩ = some (.slice A112_3 ((rd_T27 t102 x9_2).f3).length c112_3) ∧ w'.cell? (ad113.add ((x9_2).toNat * 4)) = some (.int .i64 ((rd_T27 t107 x9_2).f0)) ∧ w'.cell? ⟨(ad113.add ((x9_2).toNat * 4)).block, (ad113.add ((x9_2).toNat * 4)).off + 1, none⟩ = some (.int .i64 ((rd_T27 t107 x9_2).f1)) ∧ w'.cell? ⟨(ad113.add ((x9_2).toNat * 4)).block, (ad113.add ((x9_2).toNat * 4)).off + 2, none⟩ = some (.slice A113_2 ((rd_T27 t107 x9_2).f2).length c113_2) ∧ w'.cell? ⟨(ad113.add ((x9_2).toNat * 4)).block, (ad113.add ((x9_2).toNat * 4)).off + 3, none⟩ = some (.slice A113_3 ((rd_T27 t107 x9_2).f3).length c113_3)) (ds := []) #[false, false, false, false, false, false, false, false, false, false] (by kernel_rfl) rfl rfl ⟨hx112_0, hx112_1, hx112_2, hx112_3, hx113_0, hx113_1, hx113_2, hx113_3⟩ (fun hHeld => ?_); refine with_tabW vicinagelaw27_ScriptParses.tab10 vicinagelaw27_ScriptParses.bits10 (fun HT_ HW_ => ?_)
           generalize wr.drew = w25 at HO_3 HO_6 HB HL112_2 HL112_3 HL113_2 HL113_3 HR112_2 HR112_3 HR113_2 HR113_3 hx112_0 hx112_1 hx112_2 hx112_3 hx113_0 hx113_1 hx113_2 hx113_3 hHeld ⊢
           refine pure_ (i := 0) (N := some 47) (v := ?_) (a' := ?_) #[true, false, false, false, false, false, false, false, false, false] rfl rfl (any_of HT_.out (by kernel_rfl)) (fun _ _ _ h => h) (Or.inl ⟨by rfl, ?_⟩) ?_ ?_
           rotate_left
           ·
            intro w'
            go_simp
            with_reducible rfl
           rotate_left
           ·
            simp only [Act.put, List.setIfInBounds_toArray, List.set_cons_zero, List.set_cons_succ, i64_w, i32_w]
            rfl
           refine pure_ (i := 1) (N := some 48) (v := ?_) (a' := ?_) #[true, true, false, false, false, false, false, false, false, false] rfl rfl (any_of HT_.out (by kernel_rfl)) (fun _ _ _ h => h) (Or.inl ⟨by rfl, ?_⟩) ?_ ?_
           rotate_left
           ·
            intro w'
            go_simp
            with_reducible rfl
           rotate_left
           ·
            simp only [Act.put, List.setIfInBounds_toArray, List.set_cons_zero, List.set_cons_succ, i64_w, i32_w]
            rfl
           refine pure_ (i := 2) (N := some 49) (v := ?_) (a' := ?_) #[true, true, true, false, false, false, false, false, false, false] rfl rfl (any_of HT_.out (by kernel_rfl)) (fun _ _ _ h => h) (Or.inl ⟨by rfl, ?_⟩) ?_ ?_
           rotate_left
           ·
            intro w'
            go_simp
            with_reducible rfl
           rotate_left
           ·
            simp only [Act.put, List.setIfInBounds_toArray, List.set_cons_zero, List.set_cons_succ, i64_w, i32_w]
            rfl
           refine pure_ (i := 4) (N := some 51) (v := ?_) (a' := ?_) #[true, true, true, false, true, false, false, false, false, false] rfl rfl (any_of HT_.out (by kernel_rfl)) (fun _ _ _ h => h) (Or.inl ⟨by rfl, ?_⟩) ?_ ?_
           rotate_left
           ·
            intro w'
            go_simp
            with_reducible rfl
           rotate_left
           ·
            simp only [Act.put, List.setIfInBounds_toArray, List.set_cons_zero, List.set_cons_succ, i64_w, i32_w]
            rfl
           refine pure_ (i := 5) (N := some 52) (v := ?_) (a' := ?_) #[true, true, true, false, true, true, false, false, false, false] rfl rfl (any_of HT_.out (by kernel_rfl)) (fun _ _ _ h => h) (Or.inl ⟨by rfl, ?_⟩) ?_ ?_
           rotate_left
           ·
            intro w'
            go_simp
            with_reducible rfl
           rotate_left
           ·
            simp only [Act.put, List.setIfInBounds_toArray, List.set_cons_zero, List.set_cons_succ, i64_w, i32_w]
            rfl
           refine pure_ (i := 6) (N := some 53) (v := ?_) (a' := ?_) #[true, true, true, false, true, true, true, false, false, false] rfl rfl (any_of HT_.out (by kernel_rfl)) (fun _ _ _ h => h) (Or.inl ⟨by rfl, ?_⟩) ?_ ?_
           rotate_left
           ·
            intro w'
            go_simp
            with_reducible rfl
           rotate_left
           ·
            simp only [Act.put, List.setIfInBounds_toArray, List.set_cons_zero, List.set_cons_succ, i64_w, i32_w]
            rfl
           refine take_ (i := 3) (N := some 50) (v := ?_) (a' := ?_) #[true, true, true, true, true, true, true, false, false, false] rfl rfl (take_ofW HT_.out HW_.out (by kernel_rfl)) (fun _ _ _ h => h) (Or.inl ⟨by rfl, ?_⟩) hHeld ?_ ?_
           rotate_left
           ·
            rintro w' ⟨s0, s1, s2, s3, s4, s5, s6, s7⟩
            go_simp
            with_reducible rfl
           rotate_left
           ·
            simp only [Act.put, List.setIfInBounds_toArray, List.set_cons_zero, List.set_cons_succ, i64_w, i32_w]
            rfl
           refine take_ (i := 7) (N := some 54) (v := ?_) (a' := ?_) #[true, true, true, true, true, true, true, true, false, false] rfl rfl (take_ofW HT_.out HW_.out (by kernel_rfl)) (fun _ _ _ h => h) (Or.inl ⟨by rfl, ?_⟩) hHeld ?_ ?_
           rotate_left
           ·
            rintro w' ⟨s0, s1, s2, s3, s4, s5, s6, s7⟩
            go_simp
            with_reducible rfl
           rotate_left
           ·
            simp only [Act.put, List.setIfInBounds_toArray, List.set_cons_zero, List.set_cons_succ, i64_w, i32_w]
            rfl
           refine one_ (i := 8) (N := some 55) #[true, true, true, true, true, true, true, true, true, false] rfl rfl (one_of HT_.out (by kernel_rfl)) (by decide) (fun K hK => ?_)
           refine goes_ Tryz.func9 (by kernel_rfl) rfl #[.agg #[.int .i64 ((rd_T27 t102 x9_2).f0), .int .i64 ((rd_T27 t102 x9_2).f1), .slice A112_2 ((rd_T27 t102 x9_2).f2).length c112_2, .slice A112_3 ((rd_T27 t102 x9_2).f3).length c112_3], .agg #[.int .i64 ((rd_T27 t107 x9_2).f0), .int .i64 ((rd_T27 t107 x9_2).f1), .slice A113_2 ((rd_T27 t107 x9_2).f2).length c113_2, .slice A113_3 ((rd_T27 t107 x9_2).f3).length c113_3]] (by rfl) rfl rfl (by (try simp only [List.map_toArray, List.map_cons, List.map_nil]); first | done | rfl | (simp only [List.length_drop, List.length_take]; rfl)) ?_
           with_reducible refine (vicinageref27_Same.calls k2 ((rd_T27 t102 x9_2).f0) ((rd_T27 t102 x9_2).f1) _ _ ((rd_T27 t102 x9_2).f2) _ _ ((rd_T27 t102 x9_2).f3) ((rd_T27 t107 x9_2).f0) ((rd_T27 t107 x9_2).f1) _ _ ((rd_T27 t107 x9_2).f2) _ _ ((rd_T27 t107 x9_2).f3) false _ ?side1 ?side2 ?side3 ?side4 ?side5 ?side6 ?side7 ?side8 A18.out).mono ?_
           (case side1 => repeat (first | exact (by repeat (first | (with_reducible exact HR112_2.out) | (with_reducible refine Kd.C_alloc ?_ _) | (with_reducible refine Kd.C_drewN ?_ _) | (with_reducible refine Kd.C_drew ?_) | exact HR112_2.out)) | (with_reducible refine Kd.C_alloc ?_ _) | (with_reducible refine Kd.C_drewN ?_ _) | (with_reducible refine Kd.C_drew ?_)))
           (case side2 => exact HC112_2.out)
           (case side3 => repeat (first | exact (by repeat (first | (with_reducible exact HR112_3.out) | (with_reducible refine Kd.C_alloc ?_ _) | (with_reducible refine Kd.C_drewN ?_ _) | (with_reducible refine Kd.C_drew ?_) | exact HR112_3.out)) | (with_reducible refine Kd.C_alloc ?_ _) | (with_reducible refine Kd.C_drewN ?_ _) | (with_reducible refine Kd.C_drew ?_)))
           (case side4 => exact HC112_3.out)
           (case side5 => repeat (first | exact (by repeat (first | (with_reducible exact HR113_2.out) | (with_reducible refine Kd.C_alloc ?_ _) | (with_reducible refine Kd.C_drewN ?_ _) | (with_reducible refine Kd.C_drew ?_) | exact HR113_2.out)) | (with_reducible refine Kd.C_alloc ?_ _) | (with_reducible refine Kd.C_drewN ?_ _) | (with_reducible refine Kd.C_drew ?_)))
           (case side6 => exact HC113_2.out)
           (case side7 => repeat (first | exact (by repeat (first | (with_reducible exact HR113_3.out) | (with_reducible refine Kd.C_alloc ?_ _) | (with_reducible refine Kd.C_drewN ?_ _) | (with_reducible refine Kd.C_drew ?_) | exact HR113_3.out)) | (with_reducible refine Kd.C_alloc ?_ _) | (with_reducible refine Kd.C_drewN ?_ _) | (with_reducible refine Kd.C_drew ?_)))
           (case side8 => exact HC113_3.out)
           rintro e w27 ⟨rfl, hb⟩
           have HS0_ := (hb.cell (World.block_lt_of_cell? _ _ (hHeld.1))).trans (hHeld.1)
           have HS1_ := (hb.cell (World.block_lt_of_cell? _ _ (hHeld.2.1))).trans (hHeld.2.1)
           have HS2_ := (hb.cell (World.block_lt_of_cell? _ _ (hHeld.2.2.1))).trans (hHeld.2.2.1)
           have HS3_ := (hb.cell (World.block_lt_of_cell? _ _ (hHeld.2.2.2.1))).trans (hHeld.2.2.2.1)
           have HS4_ := (hb.cell (World.block_lt_of_cell? _ _ (hHeld.2.2.2.2.1))).trans (hHeld.2.2.2.2.1)
           have HS5_ := (hb.cell (World.block_lt_of_cell? _ _ (hHeld.2.2.2.2.2.1))).trans (hHeld.2.2.2.2.2.1)
           have HS6_ := (hb.cell (World.block_lt_of_cell? _ _ (hHeld.2.2.2.2.2.2.1))).trans (hHeld.2.2.2.2.2.2.1)
           have HS7_ := (hb.cell (World.block_lt_of_cell? _ _ (hHeld.2.2.2.2.2.2.2))).trans (hHeld.2.2.2.2.2.2.2)
           refine ⟨_, rfl, ?_⟩
           have n0_ := Aside0.mk (Kd.S_below (by (with_reducible repeat (first | apply Kd.S_alloc | apply Kd.S_drewN | apply Kd.S_drew)); exact HO_3.out) hb)
           have n1_ := Aside0.mk (Kd.S_below (by (with_reducible repeat (first | apply Kd.S_alloc | apply Kd.S_drewN | apply Kd.S_drew)); exact HO_6.out) hb)
           have n2_ := Aside0.mk (Kd.R_below (by (with_reducible repeat (first | apply Kd.R_alloc | apply Kd.R_drewN | apply Kd.R_drew)); exact HL112_2.out) hb)
           have n3_ := Aside0.mk (Kd.R_below (by (with_reducible repeat (first | apply Kd.R_alloc | apply Kd.R_drewN | apply Kd.R_drew)); exact HL112_3.out) hb)
           have n4_ := Aside0.mk (Kd.R_below (by (with_reducible repeat (first | apply Kd.R_alloc | apply Kd.R_drewN | apply Kd.R_drew)); exact HL113_2.out) hb)
           have n5_ := Aside0.mk (Kd.R_below (by (with_reducible repeat (first | apply Kd.R_alloc | apply Kd.R_drewN | apply Kd.R_drew)); exact HL113_3.out) hb)
           have n6_ := Aside0.mk (Kd.C_below (by repeat (first | (with_reducible exact HR112_2.out) | (with_reducible refine Kd.C_alloc ?_ _) | (with_reducible refine Kd.C_drewN ?_ _) | (with_reducible refine Kd.C_drew ?_) | exact HR112_2.out)) hb)
           have n7_ := Aside0.mk (Kd.C_below (by repeat (first | (with_reducible exact HR112_3.out) | (with_reducible refine Kd.C_alloc ?_ _) | (with_reducible refine Kd.C_drewN ?_ _) | (with_reducible refine Kd.C_drew ?_) | exact HR112_3.out)) hb)
           have n8_ := Aside0.mk (Kd.C_below (by repeat (first | (with_reducible exact HR113_2.out) | (with_reducible refine Kd.C_alloc ?_ _) | (with_reducible refine Kd.C_drewN ?_ _) | (with_reducible refine Kd.C_drew ?_) | exact HR113_2.out)) hb)
           have n9_ := Aside0.mk (Kd.C_below (by repeat (first | (with_reducible exact HR113_3.out) | (with_reducible refine Kd.C_alloc ?_ _) | (with_reducible refine Kd.C_drewN ?_ _) | (with_reducible refine Kd.C_drew ?_) | exact HR113_3.out)) hb)
           have n10_ := Aside0.mk (below_step (by repeat (first | (with_reducible first | exact HB.out | apply below_alloc | apply pw_below_drewN | apply below_drew1) | exact HB.out)) hb)
           clear HO_3
           clear HO_6
           clear HL112_2
           clear HL112_3
           clear HL113_2
           clear HL113_3
           clear HR112_2
           clear HR112_3
           clear HR113_2
           clear HR113_3
           clear HB
           have HO_3 := n0_
           have HO_6 := n1_
           have HL112_2 := n2_
           have HL112_3 := n3_
           have HL113_2 := n4_
           have HL113_3 := n5_
           have HR112_2 := n6_
           have HR112_3 := n7_
           have HR113_2 := n8_
           have HR113_3 := n9_
           have HB := n10_
           clear n0_ n1_ n2_ n3_ n4_ n5_ n6_ n7_ n8_ n9_ n10_
           (try clear hb)
           (try clear hb2)
           (try clear hk)
           (try clear hi)
           refine hK.out _ _ ⟨HS0_, HS1_, HS2_, HS3_, HS4_, HS5_, HS6_, HS7_⟩ (fun hHeld => ?_)
           clear hK K
           refine norm_ (a' := ?_) ?_ ?_
           rotate_left
           ·
            show Act.put _ (some 55) _ = _
            simp only [Act.put, List.setIfInBounds_toArray, List.set_cons_zero, List.set_cons_succ, i64_w, i32_w]
            rfl
           refine pure_ (i := 9) (N := some 56) (v := ?_) (a' := ?_) #[true, true, true, true, true, true, true, true, true, true] rfl rfl (any_of HT_.out (by kernel_rfl)) (fun _ _ _ h => h) (Or.inl ⟨by rfl, ?_⟩) ?_ ?_
           rotate_left
           ·
            intro w'
            go_simp
            with_reducible rfl
           rotate_left
           ·
            simp only [Act.put, List.setIfInBounds_toArray, List.set_cons_zero, List.set_cons_succ, i64_w, i32_w]
            rfl
           refine done_ (done_of HT_.out (by kernel_rfl)) ?_
           try go_wp2
           go_ret
           exact ⟨by first | rfl | (simp [errW_none, errW_some] <;> rfl) | (simp [*, errW_none, errW_some] <;> rfl), by repeat (first | (with_reducible first | exact HB.out | apply below_alloc | apply pw_below_drewN | apply below_drew1) | exact HB.out)⟩
         ·
          rw [if_neg c17] at H
          exact absurd H (by simp)
        ·
         rw [if_neg c16] at H
         exact absurd H (by simp)
       ·
        rw [if_neg c15] at H
        have c15b0 : decide (x9_2 < (t102.length : Int)) = false := decide_eq_false c15
        clear c15
        replace H := Option.bind_eq_some_iff.mp H
        obtain ⟨t115, A280, H⟩ := H
        replace H : (some t115) = some r := H
        have A28 := Aside0.mk A280
        clear A280
        obtain rfl := Option.some.inj H
        obtain ⟨Ao29, co29, eo29⟩ := Kd.S_slice HO_3.out
        subst eo29
        go_wp2_with (first | ((with_reducible refine gate_callee (f := 6) rfl ?_); refine goesL_ (some 57) rfl rfl Tryz.func6 (by kernel_rfl) rfl #[] rfl (by (try simp only [List.map_toArray, List.map_cons, List.map_nil]); first | done | rfl | (simp only [List.length_drop, List.length_take]; rfl)) ?_; (with_reducible refine (vicinagelaw27_known.calls  t115 _ A28.out ?side1).mono ?_); (case side1 => exact FixW.below HF.out (by repeat (first | (with_reducible first | exact HB.out | apply below_alloc | apply pw_below_drewN | apply below_drew1) | exact HB.out))); rintro e w30 ⟨rfl, hb⟩; refine ⟨_, rfl, ?_⟩; have n0_ := Aside0.mk (Kd.S_below (by (with_reducible repeat (first | apply Kd.S_alloc | apply Kd.S_drewN | apply Kd.S_drew)); exact HO_3.out) hb); have n1_ := Aside0.mk (Kd.S_below (by (with_reducible repeat (first | apply Kd.S_alloc | apply Kd.S_drewN | apply Kd.S_drew)); exact HO_6.out) hb); have n2_ := Aside0.mk (below_step (by repeat (first | (with_reducible first | exact HB.out | apply below_alloc | apply pw_below_drewN | apply below_drew1) | exact HB.out)) hb); clear HO_3; clear HO_6; clear HB; have HO_3 := n0_; have HO_6 := n1_; have HB := n2_; clear n0_ n1_ n2_; (try clear hb); (try clear hb2); (try clear hk); (try clear hi)))
        go_ret
        exact ⟨by first | rfl | (simp [errW_none, errW_some] <;> rfl) | (simp [*, errW_none, errW_some] <;> rfl), by repeat (first | (with_reducible first | exact HB.out | apply below_alloc | apply pw_below_drewN | apply below_drew1) | exact HB.out)⟩

end Go.Proofs.YtdfaljcdphbgdaaGreatDoor.PL
