/- The row ScriptNotes and its card. -/
import Derived.Test.YtdfaljcdphbgdaaDoorOd
import Derived.Test.YtdfaljcdphbgdaaDoorNn
namespace Go.Proofs.YtdfaljcdphbgdaaDoor
set_option linter.unusedVariables false
set_option linter.unusedSimpArgs false
open Go.ChangeShapes Go.WideShapes Go.ChangeAt Go.RowKit Go.Proofs.YtdfaljcdphbgdaaDoorW.PrintWords
open Go.ChangeMaps (open_string shut_string)

set_option maxRecDepth 100000 in
theorem notes_lifted (os : Os) (started : os.Started) (H : Type) (enc : TypeId × Value → H) :
    ReturnsInHanded {} Tryd.checked os 4 .any (fun w args => (Rows.scriptNotesSpec.pre enc Tryd.prog Tryd.f4 [] false w args ∧ laidMetH Tryd.prog laidL w) ∧ sizedMet enc Tryd.prog Tryd.f4 (OpenSpec.ofChange Rows.scriptNotesSpec) false w args)
      (Rows.scriptNotesSpec.post enc Tryd.prog Tryd.f4 false true false false) := by
  refine returnsInHanded_laid (C := Tryd.checked) (X := fun w _ => laidMetH Tryd.prog laidL w) (fun _ _ _ hh h => h.of_heap hh) own started (by kernel_rfl) Tryd.func4
    (ChangeSpec.witness_shaped (enc := enc) (C := Tryd.checked) (os := os) (X := fun w _ => laidMetH Tryd.prog laidL w) false (wl os) #[.slice none 0 0, .slice none 0 0, .string ByteArray.empty] 8 (World.layVars_os _ _ _) (wl_shaped os _) (by kernel_rfl) (by kernel_rfl) (by kernel_rfl) (wl_met os _)) ?_
  intro W base args ds gs before hval0 hW hsh hL
  have hval : ∀ (j : Nat) t v, Tryd.f4.params[j]? = some t → args[j]? = some v → Value.okWide Tryd.prog W .any base t v := hval0
  have hW' := hW
  obtain ⟨p, q, hA0, hV, rfl, _, _⟩ := hW
  have hA : DataW.TrodAll enc Tryd.prog W 0 (fun _ => true) true Tryd.f4.params.toList args.toList ds p := hA0
  rw [Tryd.params4] at hA hval
  obtain ⟨v0, vs0, d0, ds0, p0, q0, hargs, rfl, rfl, h0, r0⟩ := trodAll_cons hA
  obtain ⟨v1, vs1, d1, ds1, p1, q1, rfl, rfl, rfl, h1, r1⟩ := trodAll_cons r0
  obtain ⟨v2, vs2, d2, ds2, p2, q2, rfl, rfl, rfl, h2, r2⟩ := trodAll_cons r1
  obtain ⟨rfl, rfl, rfl⟩ := trodAll_nil r2
  obtain rfl : args = #[v0, v1, v2] := by cases args; simp_all
  obtain ⟨rfl, rfl⟩ := trodVars_none hV
  have hv0 : Value.okWide Tryd.prog W .any base 36 v0 := hval 0 36 v0 rfl rfl
  have hv1 : Value.okWide Tryd.prog W .any base 24 v1 := hval 1 24 v1 rfl rfl
  obtain ⟨a0, n0, c0, rfl⟩ := okWide_slice Tryd.underlying36 hv0
  obtain ⟨a1, n1, c1, rfl⟩ := okWide_slice Tryd.underlying24 hv1
  obtain ⟨A0, cc0, xs, e0, hC0, hc0⟩ : ∃ (A : Option Addr) (c : Nat) (xs : List SP.Deed), Value.slice a0 n0 c0 = .slice A xs.length c ∧ Kd.C _ W A xs.length (xs.map PL.sOf) ∧ xs.length ≤ c := by
    obtain ⟨n, hn⟩ := h0
    exact PL.open_deeds hn
  obtain ⟨A1, cc1, ats, e1, hC1, hc1, _⟩ : ∃ (A : Option Addr) (c : Nat) (l : List Int), Value.slice a1 n1 c1 = .slice A l.length c ∧ (Kd.int .i64).C W A l.length l ∧ l.length ≤ c ∧ (∀ x ∈ l, (Lit.int .i64 x).wf = true) := by
    obtain ⟨n, hn⟩ := h1
    exact PL.row_of_ints Tryd.underlying24 Tryd.underlying3 (by kernel_rfl) hn
  obtain ⟨s, rfl, rfl, rfl, hs⟩ := open_string Tryd.underlying9 (hval 2 9 v2 rfl rfl) h2
  rw [e0] at h0 hW' hA0 ⊢
  rw [e1] at h1 hW' hA0 ⊢
  have lt0 : ∀ x ∈ p0, x.block < W.heap.size := by obtain ⟨m, hm⟩ := h0; exact DataW.trod_lt m _ _ _ hm
  have lt1 : ∀ x ∈ p1, x.block < W.heap.size := by obtain ⟨m, hm⟩ := h1; exact DataW.trod_lt m _ _ _ hm
  clear hA0 hval0 hval hv0 hv1
  obtain ⟨k, hk⟩ := PL.notes_pure xs ats s
  have hcall := PL.vicinagelaw27_ScriptNotes.calls k A0 cc0 (xs.map PL.sOf) A1 cc1 ats s true W (by rw [List.length_map]; exact hC0) (by rw [List.length_map]; exact hc0) hC1 hc1 hk ⟨tabs_of_laid hsh hL, size_of_laid hL⟩
  rw [List.length_map] at hcall
  refine hcall.mono fun e W' ⟨he, hb⟩ => ?_
  subst he
  exact ⟨_, rfl, _, _, _, [], _, [], hW', trodAll_mk1 (shut_bool Tryd.underlying4 _), trodAll_mk3 (Below.trod PL.laidOut (by kernel_rfl) (of_decide_eq_true (by kernel_rfl)) h0 hb lt0) (Below.trod PL.laidOut (by kernel_rfl) (of_decide_eq_true (by kernel_rfl)) h1 hb lt1) (shut_string Tryd.underlying9 hs), rfl, hb.frame _, fun h => by cases h⟩

theorem notes_holds : Rows.ScriptNotesSaid :=
  OpenClaim.holds_of_wide 4 Tryd.f4 rfl rfl rfl rfl rfl rfl rfl ⟨rfl, rfl, rfl, rfl, rfl⟩ rfl rfl rfl rfl rfl (by kernel_rfl) Tryd.func4 (by kernel_rfl)
    (of_decide_eq_true (by kernel_rfl)) (by unfold Func.isWrapper; first | (rw [if_pos (by decide +kernel)]; kernel_rfl) | (rw [if_neg (by decide +kernel)]; exact ⟨rfl, rfl⟩))
    (fun os started H enc _ => notes_lifted os started H enc)

theorem notes_card : Rows.ScriptNotesCardSaid :=
  Claim7.holds_tied_plain_at .later [] [.data, .data, .data, .data, .handle, .sentinel, .sentinel, .pinned] true (true, "a151a126fdc12560d5b31695f5032d42feb867090c393135a48eba5299560e31") true
    notes_holds (fun _ h => by cases h) (by kernel_rfl) (fun _ h => by cases h) scriptNotes_row_tie rfl ⟨rfl, rfl⟩ (by kernel_rfl) rfl
    (fun f fn hf hfn => by
      obtain rfl : f = 4 := Option.some.inj ((show Tryd.prog.funcNamed "vicinage/vicinagelaw27.ScriptNotes" = some 4 by kernel_rfl).symm.trans hf) |>.symm
      obtain rfl : fn = Tryd.f4 := (Option.some.inj (Tryd.func4.symm.trans hfn)).symm
      exact ⟨by kernel_rfl, fun j t ht => by
        rw [Tryd.params4] at ht
        have hm : t ∈ [36, 24, 9] := by simpa using Array.mem_of_getElem? ht
        have hall : ([36, 24, 9].all fun u => !Tryd.prog.wantsStandIn u) = true := by kernel_rfl
        exact (show Tryd.prog.wantsStandIn t = false by simpa using List.all_eq_true.1 hall t hm)⟩)
    (by kernel_rfl)
#print axioms notes_card
end Go.Proofs.YtdfaljcdphbgdaaDoor
