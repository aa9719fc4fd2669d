/- The law ScriptNotes, as the printed functions tell it. -/
import Derived.Test.YtdfaljcdphbgdaaDoorPLx4
import Derived.Test.YtdfaljcdphbgdaaDoorNl
namespace Go.Proofs.YtdfaljcdphbgdaaDoor.PL
set_option linter.unusedVariables false
set_option linter.unusedSimpArgs false
open Go.RowKit Go.Proofs Go.Proofs.YtdfaljcdphbgdaaDoorW.PrintWords Go.Proofs.YtdfaljcdphbgdaaDoorW.PrintLast Go.Proofs.YtdfaljcdphbgdaaDoorW.PrintMore Go.Proofs.YtdfaljcdphbgdaaDoor Go.Proofs.YtdfaljcdphbgdaaDoor.PRef

theorem same_s (x : SP.Deed) (h : x.again.length ≤ 8) (k : Nat) (hk : 20 ≤ k) : vicinageref27_Same.f k (sOf x).f0 (sOf x).f1 (sOf x).f2 (sOf x).f3 (sOf x).f0 (sOf x).f1 (sOf x).f2 (sOf x).f3 = some true :=
  SP.same_refl _ _ _ _ k (by show x.again.length + 1 < k; omega) (by show x.again.length ≤ _; omega)
theorem rd_nth (l : List S26) (i : Nat) (h : i < l.length) : rd_T26 l (i : Int) = l[i] := by
  unfold rd_T26
  simp [h]

/-- lines, each with its end -/
def flat (Ls : List SP.B) : SP.B := Ls.flatMap fun x => x ++ [10]
theorem flat_snoc (Ls : List SP.B) (x : SP.B) : flat (Ls ++ [x]) = flat Ls ++ (x ++ [10]) := by simp [flat]
theorem cut_flat : ∀ (Ls : List SP.B) (t : SP.B), (∀ x ∈ Ls, (10 : UInt8) ∉ x) → SP.cut 10 (flat Ls ++ t) = Ls ++ SP.cut 10 t
  | [], t, _ => rfl
  | x :: r, t, h => by
    have e : flat (x :: r) ++ t = x ++ 10 :: (flat r ++ t) := by simp [flat]
    rw [e, SP.cut_append 10 x _ (h x (by simp)), cut_flat r t (fun y hy => h y (by simp [hy]))]
    rfl

structure Inv (ds : List SP.Deed) (i : Nat) (text : ByteArray) (Ls : List SP.B) : Prop where
  flat : text.data.toList = flat Ls
  no : ∀ x ∈ Ls, (10 : UInt8) ∉ x
  run : ∀ r, parseFrom (Ls ++ r) 0 [] = parseFrom r Ls.length (ds.take i)
  ok : ∀ d ∈ ds.take i, SP.may d = true

theorem Inv.idle {ds : List SP.Deed} {i : Nat} {text text' : ByteArray} {Ls : List SP.B} (h : Inv ds i text Ls) {x : SP.B} (hx : (10 : UInt8) ∉ x) (hi : idle x = true) (ht : text'.data.toList = text.data.toList ++ (x ++ [10])) : Inv ds i text' (Ls ++ [x]) := by
  refine ⟨by rw [ht, h.flat, flat_snoc], fun y hy => ?_, fun r => ?_, h.ok⟩
  · rcases List.mem_append.1 hy with hy | hy
    · exact h.no y hy
    · rw [List.mem_singleton.1 hy]; exact hx
  · rw [List.append_assoc, h.run, List.singleton_append, parseFrom, if_pos hi, List.length_append]
    rfl

theorem line_head (x : SP.Deed) : idle (SP.line x) = false := by
  unfold SP.line SP.wordsOf SP.joinSp
  split
  · rw [SP.join_flat]; rfl
  · split
    · rw [SP.join_flat]; rfl
    · split
      · rw [SP.join_flat]; rfl
      · rw [SP.join_flat]; rfl

theorem line_no (x : SP.Deed) (h : SP.may x = true) : (10 : UInt8) ∉ SP.line x := by
  have hw := SP.words_no x h 10 (by decide)
  unfold SP.line SP.joinSp
  cases hx : SP.wordsOf x with
  | nil => exact absurd hx (SP.wordsOf_ne x)
  | cons a r =>
    rw [hx] at hw
    rw [SP.join_flat]
    intro hm
    rcases List.mem_append.1 hm with hm | hm
    · exact hw a (by simp) hm
    · obtain ⟨y, hy, hm⟩ := List.mem_flatMap.1 hm
      rcases List.mem_cons.1 hm with hm | hm
      · exact absurd hm (by decide)
      · exact hw y (by simp [hy]) hm

theorem Inv.deed {ds : List SP.Deed} {i : Nat} {text text' : ByteArray} {Ls : List SP.B} (h : Inv ds i text Ls) (hi : i < ds.length) (h60 : ds.length ≤ 60) (hm : SP.may ds[i] = true) (ht : text'.data.toList = text.data.toList ++ (SP.line ds[i] ++ [10])) : Inv ds (i + 1) text' (Ls ++ [SP.line ds[i]]) := by
  have hk : ds.take (i + 1) = ds.take i ++ [ds[i]] := List.take_succ_eq_append_getElem hi
  refine ⟨by rw [ht, h.flat, flat_snoc], fun y hy => ?_, fun r => ?_, fun d hd => ?_⟩
  · rcases List.mem_append.1 hy with hy | hy
    · exact h.no y hy
    · rw [List.mem_singleton.1 hy]; exact line_no _ hm
  · rw [List.append_assoc, h.run, List.singleton_append, parseFrom, if_neg (by rw [line_head]; simp), told_line _ hm, List.length_append, hk]
    simp only [if_true]
    rw [if_neg (by rw [List.length_take]; omega)]
    rfl
  · rw [hk] at hd
    rcases List.mem_append.1 hd with hd | hd
    · exact h.ok d hd
    · rw [List.mem_singleton.1 hd]; exact hm

theorem app_toList (a b : ByteArray) : (a ++ b).data.toList = a.data.toList ++ b.data.toList := by
  rw [show (a ++ b).data = a.data ++ b.data from ByteArray.data_append]
  simp

theorem Inv.note {ds : List SP.Deed} {i : Nat} {text note : ByteArray} {Ls : List SP.B} (h : Inv ds i text Ls) (hno : (10 : UInt8) ∉ note.data.toList) : Inv ds i (((text ++ (⟨#[35]⟩ : ByteArray)) ++ note) ++ (⟨#[10, 10]⟩ : ByteArray)) (Ls ++ [35 :: note.data.toList] ++ [[]]) := by
  have e35 : (⟨#[35]⟩ : ByteArray).data.toList = [35] := rfl
  have e10 : (⟨#[10]⟩ : ByteArray).data.toList = [10] := rfl
  have e11 : (⟨#[10, 10]⟩ : ByteArray).data.toList = [10, 10] := rfl
  have h1 := h.idle (x := 35 :: note.data.toList) (by simp [hno]) rfl (text' := ((text ++ (⟨#[35]⟩ : ByteArray)) ++ note) ++ (⟨#[10]⟩ : ByteArray)) (by rw [app_toList, app_toList, app_toList, e35, e10]; simp)
  exact h1.idle (x := []) (by simp) rfl (by rw [app_toList, app_toList _ note, app_toList, e11, app_toList, app_toList, app_toList, e35, e10]; simp)

def frob : SP.B := [102, 114, 111, 98]
theorem told_frob : told frob = (⟨0, 0, [], []⟩, 15) := by
  have h : SP.unline frob = none := by
    unfold SP.unline
    rw [SP.cut_none 32 frob (by decide), SP.read_else (by decide) (by decide) (by decide) (by decide)]
    rfl
  unfold told
  rw [h]

theorem parsed_all {ds : List SP.Deed} {text : ByteArray} {Ls : List SP.B} (h : Inv ds ds.length text Ls) (hs : text.size ≤ 1048576) : parsed text.data.toList = (ds, 0, 0) := by
  unfold parsed
  rw [if_pos (by rw [Array.length_toList]; exact hs), h.flat, ← List.append_nil (flat Ls), cut_flat Ls [] h.no, h.run, List.take_length]
  rfl
theorem parsed_frob {ds : List SP.Deed} {text text' : ByteArray} {Ls : List SP.B} (h : Inv ds ds.length text Ls) (hs : text'.size ≤ 1048576) (ht : text'.data.toList = text.data.toList ++ (frob ++ [10])) : parsed text'.data.toList = ([], (Ls.length : Int) + 1, 15) := by
  unfold parsed
  rw [if_pos (by rw [Array.length_toList]; exact hs), ht, h.flat, cut_flat Ls _ h.no, h.run, SP.cut_append 10 frob [] (by decide), parseFrom, if_neg (by decide), told_frob]
  rfl

theorem notes_l3 (ds : List SP.Deed) (text : ByteArray) (Ls : List SP.B) (h : Inv ds ds.length text Ls) (h60 : ds.length ≤ 60) (hs : text.size ≤ 1000000) (hL : Ls.length ≤ 1000000) : ∀ (m i k : Nat), ds.length = i + m → m + 30 < k →
    vicinagelaw27_ScriptNotes.l3 k (ds.map sOf) text (Ls.length : Int) (ds.map sOf) (i : Int) = some true := by
  intro m
  induction m with
  | zero =>
    intro i k hi hk
    obtain ⟨k, rfl⟩ : ∃ j, k = j + 1 := ⟨k - 1, by omega⟩
    have hsz : (text ++ (⟨#[102, 114, 111, 98, 10]⟩ : ByteArray)).size = text.size + 5 := by rw [ByteArray.size_append]; rfl
    have hp := parsed_frob (text' := text ++ (⟨#[102, 114, 111, 98, 10]⟩ : ByteArray)) h (by omega) (by rw [app_toList]; rfl)
    rw [vicinagelaw27_ScriptNotes.l3, if_neg (by rw [List.length_map]; omega), if_pos (by omega), script_Parse.f, hp, Option.bind_some, if_pos (show (15 : Int) = 15 from rfl), SP.wrap64_small (by omega) (by omega), if_pos rfl, vicinagelaw27_known.f]
    rfl
  | succ m ih =>
    intro i k hi hk
    obtain ⟨k, rfl⟩ : ∃ j, k = j + 1 := ⟨k - 1, by omega⟩
    have hlt : i < (ds.map sOf).length := by rw [List.length_map]; omega
    have hlt2 : i < ds.length := by omega
    have hw : wrap64 ((i : Int) + 1) = ((i + 1 : Nat) : Int) := by rw [SP.wrap64_small (by omega) (by omega)]; omega
    have h8 : ds[i].again.length ≤ 8 := (SP.may_parts (h.ok ds[i] (by rw [List.take_length]; exact List.getElem_mem hlt2))).2.1
    rw [vicinagelaw27_ScriptNotes.l3, if_pos (by omega), if_pos (by omega), if_pos (by omega), rd_nth _ _ hlt, List.getElem_map, same_s _ h8 k (by omega), Option.bind_some, if_pos rfl, hw]
    exact ih (i + 1) k (by omega) (by omega)

set_option maxHeartbeats 1000000 in
theorem notes_l1 (ds : List SP.Deed) (ats : List Int) (note : ByteArray) (h60 : ds.length ≤ 60) (ha : ats.length ≤ 60) (hn : note.size ≤ 100) (hno : (10 : UInt8) ∉ note.data.toList) : ∀ (m i k : Nat) (text : ByteArray) (Ls : List SP.B), ds.length = i + m → 100 * (m + 2) < k → Inv ds i text Ls →
    text.size ≤ 140201 → Ls.length ≤ 121 * i → vicinagelaw27_ScriptNotes.l1 k (ds.map sOf) ats note text (Ls.length : Int) (i : Int) = some true := by
  intro m
  induction m with
  | zero =>
    intro i k text Ls hi hk h hs hL
    obtain ⟨k, rfl⟩ : ∃ j, k = j + 2 := ⟨k - 2, by omega⟩
    obtain rfl : i = ds.length := by omega
    rw [vicinagelaw27_ScriptNotes.l1, if_neg (by rw [List.length_map]; omega), script_Parse.f, parsed_all h (by omega), Option.bind_some, if_pos (show (0 : Int) = 0 from rfl), if_pos (show (0 : Int) = 0 from rfl)]
    rw [show (((ds.map sOf).length : Int) != ((ds.map sOf).length : Int)) = false from bne_self_eq_false _, vicinagelaw27_ScriptNotes.j4, if_neg (by simp)]
    exact notes_l3 ds text Ls h h60 (by omega) (by omega) ds.length 0 k (by omega) (by omega)
  | succ m ih =>
    intro i k text Ls hi hk h hs hL
    obtain ⟨k, rfl⟩ : ∃ j, k = j + 1 := ⟨k - 1, by omega⟩
    have hlt : i < (ds.map sOf).length := by rw [List.length_map]; omega
    have hlt2 : i < ds.length := by omega
    rw [vicinagelaw27_ScriptNotes.l1, if_pos (by omega)]
    have step : ∀ (q j k : Nat) (text : ByteArray) (Ls : List SP.B), ats.length = j + q → 100 * (m + 2) + q + 2 < k → Inv ds i text Ls → text.size ≤ 140201 + 103 * j → Ls.length ≤ 121 * i + 2 * j →
        vicinagelaw27_ScriptNotes.l2 k (ds.map sOf) ats note text (Ls.length : Int) (i : Int) (j : Int) = some true := by
      intro q
      induction q with
      | zero =>
        intro j k text Ls hj hk h hs hL
        obtain ⟨k, rfl⟩ : ∃ z, k = z + 1 := ⟨k - 1, by omega⟩
        have hl := line_at ds[i]
        rw [vicinagelaw27_ScriptNotes.l2, if_neg (by omega), if_pos (by omega), if_pos (by omega), rd_nth _ _ hlt, List.getElem_map]
        cases hm : SP.may ds[i] with
        | false =>
          rw [hm] at hl
          have hl' : script_Line.f (sOf ds[i]).f0 (sOf ds[i]).f1 (sOf ds[i]).f2 (sOf ds[i]).f3 = some (⟨#[]⟩, 2) := hl
          rw [hl', Option.bind_some, if_neg (show ¬ (2 : Int) = 0 by decide), vicinagelaw27_known.f]
          rfl
        | true =>
          rw [hm] at hl
          have hl' : script_Line.f (sOf ds[i]).f0 (sOf ds[i]).f1 (sOf ds[i]).f2 (sOf ds[i]).f3 = some (⟨(SP.line ds[i]).toArray⟩, 0) := hl
          rw [hl', Option.bind_some, if_pos (show (0 : Int) = 0 from rfl)]
          by_cases hbig : (text.size : Int) > 20000
          · rw [if_pos hbig, vicinagelaw27_known.f]
            rfl
          · have hll := SP.line_len ds[i] hm
            have hz : (⟨(SP.line ds[i]).toArray⟩ : ByteArray).size = (SP.line ds[i]).length := by simp [ByteArray.size]
            have hz2 : (text ++ (⟨(SP.line ds[i]).toArray⟩ : ByteArray)).size = text.size + (SP.line ds[i]).length := by rw [ByteArray.size_append, hz]
            have hz3 : ((text ++ (⟨(SP.line ds[i]).toArray⟩ : ByteArray)) ++ (⟨#[10]⟩ : ByteArray)).size = text.size + (SP.line ds[i]).length + 1 := by rw [ByteArray.size_append, hz2]; rfl
            have hI := h.deed hlt2 h60 hm (text' := (text ++ (⟨(SP.line ds[i]).toArray⟩ : ByteArray)) ++ (⟨#[10]⟩ : ByteArray)) (by rw [app_toList, app_toList, List.append_assoc])
            have eL : (((Ls ++ [SP.line ds[i]]).length : Nat) : Int) = (Ls.length : Int) + 1 := by rw [List.length_append, List.length_singleton]; omega
            have eI : ((i + 1 : Nat) : Int) = (i : Int) + 1 := by omega
            have hnext := ih (i + 1) k _ _ (by omega) (by omega) hI (by omega) (by rw [List.length_append, List.length_singleton]; omega)
            rw [eL, eI] at hnext
            rw [if_neg hbig, if_pos (by show text.size + (⟨(SP.line ds[i]).toArray⟩ : ByteArray).size ≤ _; omega), if_pos (by show (text ++ (⟨(SP.line ds[i]).toArray⟩ : ByteArray)).size + 1 ≤ _; omega), SP.wrap64_small (by omega) (by omega), SP.wrap64_small (by omega) (by omega)]
            exact hnext
      | succ q ihq =>
        intro j k text Ls hj hk h hs hL
        obtain ⟨k, rfl⟩ : ∃ z, k = z + 1 := ⟨k - 1, by omega⟩
        rw [vicinagelaw27_ScriptNotes.l2, if_pos (by omega), if_pos (by omega), show wrap64 ((j : Int) + 1) = ((j + 1 : Nat) : Int) by rw [SP.wrap64_small (by omega) (by omega)]; omega]
        by_cases he : rd ats (j : Int) = (i : Int)
        · have z1 : (text ++ (⟨#[35]⟩ : ByteArray)).size = text.size + 1 := by rw [ByteArray.size_append]; rfl
          have z2 : ((text ++ (⟨#[35]⟩ : ByteArray)) ++ note).size = text.size + 1 + note.size := by rw [ByteArray.size_append, z1]
          have z3 : (((text ++ (⟨#[35]⟩ : ByteArray)) ++ note) ++ (⟨#[10, 10]⟩ : ByteArray)).size = text.size + 1 + note.size + 2 := by rw [ByteArray.size_append, z2]; rfl
          have hI := h.note (note := note) hno
          have eL : (((Ls ++ [35 :: note.data.toList] ++ [[]]).length : Nat) : Int) = (Ls.length : Int) + 2 := by rw [List.length_append, List.length_append, List.length_singleton, List.length_singleton]; omega
          have hnext := ihq (j + 1) k _ _ (by omega) (by omega) hI (by omega) (by rw [List.length_append, List.length_append, List.length_singleton, List.length_singleton]; omega)
          rw [eL] at hnext
          rw [if_pos he, if_pos (by omega), if_pos (by omega), if_pos (by omega), SP.wrap64_small (by omega) (by omega)]
          exact hnext
        · rw [if_neg he]
          exact ihq (j + 1) k text Ls (by omega) (by omega) h (by omega) (by omega)
    exact step ats.length 0 k text Ls (by omega) (by omega) h (by omega) (by omega)

theorem bt_drop (w : ByteArray) (i : Nat) (c : UInt8) (r : SP.B) (h : w.data.toList.drop i = c :: r) : bt w (i : Int) = (c.toNat : Int) ∧ i < w.size ∧ w.data.toList.drop (i + 1) = r := by
  have hlt : i < w.data.toList.length := by
    rcases Nat.lt_or_ge i w.data.toList.length with h1 | h1
    · exact h1
    · rw [List.drop_of_length_le h1] at h; cases h
  have hlt' : i < w.size := by rw [Array.length_toList] at hlt; exact hlt
  rw [List.drop_eq_getElem_cons hlt] at h
  injection h with h1 h2
  refine ⟨?_, hlt', h2⟩
  unfold bt
  rw [dif_pos (by simpa using hlt')]
  rw [← h1]
  simp
  rfl

theorem notes_l0 (ds : List SP.Deed) (ats : List Int) (note : ByteArray) (h60 : ds.length ≤ 60) (ha : ats.length ≤ 60) (hn : note.size ≤ 100) : ∀ (l : SP.B) (i k : Nat), note.data.toList.drop i = l → (10 : UInt8) ∉ note.data.toList.take i → i ≤ note.size → l.length + 7000 < k →
    vicinagelaw27_ScriptNotes.l0 k (ds.map sOf) ats note (i : Int) = some true := by
  intro l
  induction l with
  | nil =>
    intro i k hd hno hi hk
    obtain ⟨k, rfl⟩ : ∃ z, k = z + 1 := ⟨k - 1, by omega⟩
    have hlen : note.size ≤ i := by
      have := congrArg List.length hd
      rw [List.length_drop, Array.length_toList] at this
      simp at this
      omega
    rw [vicinagelaw27_ScriptNotes.l0, if_neg (by omega)]
    rw [List.take_of_length_le (by rw [Array.length_toList]; exact hlen)] at hno
    exact notes_l1 ds ats note h60 ha hn hno ds.length 0 k ⟨#[]⟩ [] (by omega) (by omega) ⟨rfl, by simp, fun r => rfl, by simp⟩ (by decide) (by simp)
  | cons c r ih =>
    intro i k hd hno hi hk
    obtain ⟨k, rfl⟩ : ∃ z, k = z + 1 := ⟨k - 1, by omega⟩
    obtain ⟨hb, hlt, hd2⟩ := bt_drop note i c r hd
    rw [vicinagelaw27_ScriptNotes.l0, if_pos (by omega), if_pos (by omega), hb]
    by_cases hc : (c.toNat : Int) = 10
    · rw [if_pos hc, vicinagelaw27_known.f]
      rfl
    · rw [if_neg hc, show wrap64 ((i : Int) + 1) = ((i + 1 : Nat) : Int) by rw [SP.wrap64_small (by omega) (by omega)]; omega]
      refine ih (i + 1) k hd2 (fun hm => ?_) (by omega) (by simp at hk ⊢; omega)
      have hlt2 : i < note.data.toList.length := by rw [Array.length_toList]; exact hlt
      rw [List.take_succ_eq_append_getElem hlt2] at hm
      rcases List.mem_append.1 hm with hm | hm
      · exact hno hm
      · rw [List.drop_eq_getElem_cons hlt2] at hd
        injection hd with h1 _
        rw [h1] at hm
        have := List.mem_singleton.1 hm
        rw [← this] at hc
        exact hc rfl

theorem heavy_some (l : List S26) (hl : l.length ≤ 60) : ∀ (m i k : Nat) (n : Int), l.length = i + m → m < k → ∃ b, vicinagelaw27_heavy.l0 k l n (i : Int) = some b := by
  intro m
  induction m with
  | zero =>
    intro i k n hi hk
    obtain ⟨k, rfl⟩ : ∃ z, k = z + 1 := ⟨k - 1, by omega⟩
    exact ⟨_, by rw [vicinagelaw27_heavy.l0, if_neg (by omega), if_neg (by omega)]⟩
  | succ m ih =>
    intro i k n hi hk
    obtain ⟨k, rfl⟩ : ∃ z, k = z + 1 := ⟨k - 1, by omega⟩
    rw [vicinagelaw27_heavy.l0, if_pos (by omega), if_pos (by omega), if_pos (by omega), show wrap64 ((i : Int) + 1) = ((i + 1 : Nat) : Int) by rw [SP.wrap64_small (by omega) (by omega)]; omega]
    exact ih (i + 1) k _ (by omega) (by omega)

theorem notes_pure (ds : List SP.Deed) (ats : List Int) (note : ByteArray) : ∃ k, vicinagelaw27_ScriptNotes.f k (ds.map sOf) ats note = some true := by
  obtain ⟨K, hK⟩ : ∃ K : Nat, K = 20000 := ⟨_, rfl⟩
  have hj : ∀ k, vicinagelaw27_ScriptNotes.j0 (k + 1) (ds.map sOf) ats note true = some true := fun k => by
    rw [vicinagelaw27_ScriptNotes.j0, if_pos rfl, vicinagelaw27_known.f]
    rfl
  refine ⟨K + 1, ?_⟩
  unfold vicinagelaw27_ScriptNotes.f
  by_cases h1 : ((ds.map sOf).length : Int) > 60
  · rw [if_pos h1]; exact hj _
  rw [if_neg h1]
  rw [List.length_map] at h1
  by_cases h2 : (ats.length : Int) > 60
  · rw [if_pos h2]; exact hj _
  rw [if_neg h2]
  obtain ⟨b, hb⟩ := heavy_some (ds.map sOf) (by rw [List.length_map]; omega) ds.length 0 (K + 1) 0 (by rw [List.length_map]; omega) (by omega)
  have hb' : vicinagelaw27_heavy.f (K + 1) (ds.map sOf) = some b := hb
  rw [hb', Option.bind_some]
  cases b with
  | true => rw [if_pos rfl]; exact hj _
  | false =>
    rw [if_neg (by simp)]
    by_cases h3 : (note.size : Int) > 100
    · rw [decide_eq_true h3]; exact hj _
    · rw [decide_eq_false h3, vicinagelaw27_ScriptNotes.j0, if_neg (by simp)]
      refine notes_l0 ds ats note (by omega) (by omega) (by omega) note.data.toList 0 K rfl (by simp) (by omega) ?_
      rw [Array.length_toList]
      have : note.data.size = note.size := rfl
      omega
end Go.Proofs.YtdfaljcdphbgdaaDoor.PL
