/- The law ScriptLines, as the printed functions tell it. -/
import Derived.Test.YtdfaljcdphbgdaaDoorPLx2
namespace Go.Proofs.YtdfaljcdphbgdaaDoor.PL
set_option linter.unusedVariables false
set_option linter.unusedSimpArgs false
open Go.RowKit Go.Proofs Go.Proofs.YtdfaljcdphbgdaaDoorW.PrintWords Go.Proofs.YtdfaljcdphbgdaaDoorW.PrintLast Go.Proofs.YtdfaljcdphbgdaaDoorW.PrintMore Go.Proofs.YtdfaljcdphbgdaaDoor Go.Proofs.YtdfaljcdphbgdaaDoor.PRef

theorem may_at (x : SP.Deed) (k : Nat) (hk : 20 ≤ k) : script_May.f k x.kind x.n (SP.nums8 x.bytes) x.again = some (SP.may x) :=
  at_rounds (fun j => script_May.mono _ _ _ _ j) hk (SP.may_printed x)

theorem deedOf_nums (k n : Int) (b : SP.B) (a : List Int) : deedOf k n (SP.nums8 b) a = ⟨k, n, b, a⟩ := by
  unfold deedOf; rw [byt_nums]

theorem line_at (x : SP.Deed) : script_Line.f x.kind x.n (SP.nums8 x.bytes) x.again = some (⟨(if SP.may x = true then SP.line x else []).toArray⟩, if SP.may x = true then 0 else 2) := by
  unfold script_Line.f
  rw [if_pos (isByt_nums _), deedOf_nums]

theorem told_line (x : SP.Deed) (h : SP.may x = true) : told (SP.line x) = (x, 0) := by
  unfold told
  rw [(SP.unline_iff _ _).2 ⟨h, rfl⟩]

theorem unline_at (x : SP.Deed) (h : SP.may x = true) : script_Unline.f ⟨(SP.line x).toArray⟩ = some (x.kind, x.n, SP.nums8 x.bytes, x.again, 0) := by
  unfold script_Unline.f
  have hl := SP.line_len x h
  rw [if_pos (by show (SP.line x).toArray.size ≤ _; simp; omega)]
  simp only [told_line x h]

theorem same_at (x : SP.Deed) (h8 : x.again.length ≤ 1000) (k : Nat) (hk : 1002 ≤ k) : vicinageref27_Same.f k x.kind x.n (SP.nums8 x.bytes) x.again x.kind x.n (SP.nums8 x.bytes) x.again = some true :=
  SP.same_refl _ _ _ _ k (by omega) (by omega)

theorem lines_pure (x : SP.Deed) : ∃ k, vicinagelaw27_ScriptLines.f k x.kind x.n (SP.nums8 x.bytes) x.again = some true := by
  have e0 : (SP.nums8 x.bytes).length = x.bytes.length := by simp [SP.nums8]
  by_cases h2 : (x.bytes.length : Int) > 70000
  · exact ⟨0, by unfold vicinagelaw27_ScriptLines.f vicinagelaw27_large.f vicinagelaw27_known.f; rw [e0, if_pos h2]; simp⟩
  by_cases h3 : (x.again.length : Int) > 1000
  · exact ⟨0, by unfold vicinagelaw27_ScriptLines.f vicinagelaw27_large.f vicinagelaw27_known.f; rw [e0, if_neg h2, decide_eq_true h3]; simp⟩
  obtain ⟨K, hK⟩ : ∃ K : Nat, K = 1000200 := ⟨_, rfl⟩
  refine ⟨K + 1, ?_⟩
  have hs := same_at x (by omega) (K + 1) (by omega)
  have hs' := same_at x (by omega) K (by omega)
  have hm := may_at x (K + 1) (by omega)
  have hr := SP.rmay_printed x (K + 1) (by omega)
  have hr' := SP.rmay_printed x K (by omega)
  have hl := line_at x
  unfold vicinagelaw27_ScriptLines.f vicinagelaw27_large.f
  rw [e0, if_neg h2, decide_eq_false h3]
  simp only [Option.bind_some, List.nil_append, List.length_nil, Nat.zero_add]
  rw [if_neg (by simp), if_pos (by omega), if_pos (by omega), hl, hm, hr, hs]
  simp only [Option.bind_some, bne_self_eq_false, Bool.not_true]
  rw [if_neg (by simp), vicinagelaw27_ScriptLines.j0, if_neg (by simp), hr']
  simp only [Option.bind_some]
  cases hx : SP.may x
  · simp only [Bool.false_eq_true, if_false]
    rw [if_pos trivial, if_pos (by show (ByteArray.mk #[]).toList = []; rw [toList_data]), vicinagelaw27_known.f]
    rfl
  · simp only [if_true]
    have hp := SP.rline_printed x hx K (by omega)
    rw [unline_at x hx]
    simp only [Option.bind_some, if_true]
    rw [hp]
    simp only [Option.bind_some, if_true]
    rw [hs', vicinagelaw27_known.f]
    rfl
end Go.Proofs.YtdfaljcdphbgdaaDoor.PL
