/- The law ScriptTexts, as the printed functions tell it. -/
import Derived.Test.YtdfaljcdphbgdaaGreatDoorPLx3
namespace Go.Proofs.YtdfaljcdphbgdaaGreatDoor.PL
set_option linter.unusedVariables false
set_option linter.unusedSimpArgs false
open Go.RowKit Go.Proofs Go.Proofs.YtdfaljcdphbgdaaGreatDoorW.PrintWords Go.Proofs.YtdfaljcdphbgdaaGreatDoorW.PrintLast Go.Proofs.YtdfaljcdphbgdaaGreatDoorW.PrintMore Go.Proofs.YtdfaljcdphbgdaaGreatDoor Go.Proofs.YtdfaljcdphbgdaaGreatDoor.PRef

theorem deedOf_nums (k n : Int) (b : SP.B) (a : List Int) : deedOf k n (SP.nums8 b) a = ⟨k, n, b, a⟩ := by
  unfold deedOf; rw [byt_nums]
theorem dOf_sOf (x : SP.Deed) : dOf (sOf x) = x := deedOf_nums x.kind x.n x.bytes x.again
theorem told_line (x : SP.Deed) (h : SP.may x = true) : told (SP.line x) = (x, 0) := by
  unfold told
  rw [(SP.unline_iff _ _).2 ⟨h, rfl⟩]
theorem same_s (x : SP.Deed) (h : x.again.length ≤ 8) (k : Nat) (hk : 20 ≤ k) : vicinageref27_Same.f k (sOf x).f0 (sOf x).f1 (sOf x).f2 (sOf x).f3 (sOf x).f0 (sOf x).f1 (sOf x).f2 (sOf x).f3 = some true :=
  SP.same_refl _ _ _ _ k (by show x.again.length + 1 < k; omega) (by show x.again.length ≤ _; omega)
theorem rd_nth (l : List S27) (i : Nat) (h : i < l.length) : rd_T27 l (i : Int) = l[i] := by
  unfold rd_T27
  simp [h]
theorem rd_deed (ds : List SP.Deed) (i : Nat) (h : i < ds.length) : rd_T27 (ds.map sOf) (i : Int) = sOf ds[i] := by
  rw [rd_nth _ _ (by rw [List.length_map]; exact h), List.getElem_map]

/-- lines, each with its end -/
def flat (Ls : List SP.B) : SP.B := Ls.flatMap fun x => x ++ [10]
theorem cut_flat : ∀ (Ls : List SP.B) (t : SP.B), (∀ x ∈ Ls, (10 : UInt8) ∉ x) → SP.cut 10 (flat Ls ++ t) = Ls ++ SP.cut 10 t
  | [], t, _ => rfl
  | x :: r, t, h => by
    have e : flat (x :: r) ++ t = x ++ 10 :: (flat r ++ t) := by simp [flat]
    rw [e, SP.cut_append 10 x _ (h x (by simp)), cut_flat r t (fun y hy => h y (by simp [hy]))]
    rfl
theorem line_head (x : SP.Deed) : idle (SP.line x) = false := by
  unfold SP.line SP.wordsOf SP.joinSp
  split
  · rw [SP.join_flat]; rfl
  · split
    · rw [SP.join_flat]; rfl
    · split
      · rw [SP.join_flat]; rfl
      · rw [SP.join_flat]; rfl
theorem line_no (x : SP.Deed) (h : SP.may x = true) : (10 : UInt8) ∉ SP.line x := by
  have hw := SP.words_no x h 10 (by decide)
  unfold SP.line SP.joinSp
  cases hx : SP.wordsOf x with
  | nil => exact absurd hx (SP.wordsOf_ne x)
  | cons a r =>
    rw [hx] at hw
    rw [SP.join_flat]
    intro hm
    rcases List.mem_append.1 hm with hm | hm
    · exact hw a (by simp) hm
    · obtain ⟨y, hy, hm⟩ := List.mem_flatMap.1 hm
      rcases List.mem_cons.1 hm with hm | hm
      · exact absurd hm (by decide)
      · exact hw y (by simp [hy]) hm

/-- what script's Text writes of deeds that may be -/
def capd : List SP.Deed → SP.B → SP.B
  | [], acc => acc
  | x :: r, acc => capd r (if acc.length ≤ 1048576 then acc ++ (SP.line x ++ [10]) else acc)

theorem capd_over : ∀ (ds : List SP.Deed) (acc : SP.B), ¬ acc.length ≤ 1048576 → capd ds acc = acc
  | [], _, _ => rfl
  | x :: r, acc, h => by rw [capd, if_neg h]; exact capd_over r acc h

theorem capd_all : ∀ (ds : List SP.Deed) (acc : SP.B), (capd ds acc).length ≤ 1048576 → capd ds acc = acc ++ flat (ds.map SP.line)
  | [], acc, _ => by simp [capd, flat]
  | x :: r, acc, h => by
    rw [capd] at h ⊢
    by_cases ha : acc.length ≤ 1048576
    · rw [if_pos ha] at h ⊢
      rw [capd_all r _ h]
      simp [flat]
    · rw [if_neg ha, capd_over r acc ha] at h
      exact absurd h ha

theorem from_all : ∀ (ds : List SP.Deed) (acc : SP.B), (∀ d ∈ ds, SP.may d = true) → textFrom (ds.map sOf) acc = (capd ds acc, 0)
  | [], acc, _ => rfl
  | x :: r, acc, h => by
    rw [List.map_cons, textFrom, dOf_sOf, if_pos (h x (by simp)), capd]
    exact from_all r _ (fun d hd => h d (by simp [hd]))
theorem from_bad : ∀ (ds : List SP.Deed) (acc : SP.B), (∃ d ∈ ds, SP.may d = false) → textFrom (ds.map sOf) acc = ([], 2)
  | [], acc, h => by obtain ⟨d, hd, _⟩ := h; cases hd
  | x :: r, acc, h => by
    rw [List.map_cons, textFrom, dOf_sOf]
    cases hx : SP.may x with
    | false => rw [if_neg (by simp)]
    | true =>
      rw [if_pos rfl]
      obtain ⟨d, hd, hm⟩ := h
      rcases List.mem_cons.1 hd with hd | hd
      · rw [hd, hx] at hm; cases hm
      · exact from_bad r _ ⟨d, hd, hm⟩

theorem text_at (ds : List SP.Deed) (h : ds.length ≤ 2000) : script_Text.f (ds.map sOf) = some (⟨(texted (ds.map sOf)).1.toArray⟩, (texted (ds.map sOf)).2) := by
  unfold script_Text.f
  rw [if_pos]
  refine ⟨by rw [List.length_map]; exact h, List.all_eq_true.2 fun x hx => ?_⟩
  obtain ⟨d, _, rfl⟩ := List.mem_map.1 hx
  unfold lineOk
  rw [Bool.and_eq_true, Bool.or_eq_true, Bool.not_eq_true', decide_eq_true_eq, dOf_sOf]
  refine ⟨isByt_nums _, ?_⟩
  cases hm : SP.may d with
  | false => exact .inl rfl
  | true => exact .inr (by have := SP.line_len d hm; omega)

theorem app_toList (a b : ByteArray) : (a ++ b).data.toList = a.data.toList ++ b.data.toList := by
  rw [show (a ++ b).data = a.data ++ b.data from ByteArray.data_append]
  simp

theorem ref_l1 (ds : List SP.Deed) (hall : ∀ d ∈ ds, SP.may d = true) (hn : ds.length ≤ 2000) (K : Nat) (hK : K = 1000100) : ∀ (m i k : Nat) (text : ByteArray), ds.length = i + m → m + K < k → text.size ≤ 1048576 →
    vicinageref27_Text.l1 k (ds.map sOf) text (i : Int) = some (if (capd (ds.drop i) text.data.toList).length ≤ 1048576 then (⟨(capd (ds.drop i) text.data.toList).toArray⟩, 0) else (⟨#[]⟩, 3)) := by
  intro m
  induction m with
  | zero =>
    intro i k text hi hk hs
    obtain ⟨k, rfl⟩ : ∃ j, k = j + 1 := ⟨k - 1, by omega⟩
    have hlen : text.data.toList.length ≤ 1048576 := by rw [Array.length_toList]; exact hs
    rw [vicinageref27_Text.l1, if_neg (by rw [List.length_map]; omega), List.drop_of_length_le (by omega)]
    rw [show capd [] text.data.toList = text.data.toList from rfl, if_pos hlen]
  | succ m ih =>
    intro i k text hi hk hs
    obtain ⟨k, rfl⟩ : ∃ j, k = j + 1 := ⟨k - 1, by omega⟩
    have hlt : i < ds.length := by omega
    have hm : SP.may ds[i] = true := hall _ (List.getElem_mem hlt)
    have hr := SP.rline_printed ds[i] hm k (by omega)
    have hr' : vicinageref27_Line.f k (sOf ds[i]).f0 (sOf ds[i]).f1 (sOf ds[i]).f2 (sOf ds[i]).f3 = some ⟨(SP.line ds[i]).toArray⟩ := hr
    have hll := SP.line_len ds[i] hm
    have hz : (⟨(SP.line ds[i]).toArray⟩ : ByteArray).size = (SP.line ds[i]).length := by simp [ByteArray.size]
    have hz2 : (text ++ (⟨(SP.line ds[i]).toArray⟩ : ByteArray)).size = text.size + (SP.line ds[i]).length := by rw [ByteArray.size_append, hz]
    have hz3 : ((text ++ (⟨(SP.line ds[i]).toArray⟩ : ByteArray)) ++ (⟨#[10]⟩ : ByteArray)).size = text.size + (SP.line ds[i]).length + 1 := by rw [ByteArray.size_append, hz2]; rfl
    have ht : ((text ++ (⟨(SP.line ds[i]).toArray⟩ : ByteArray)) ++ (⟨#[10]⟩ : ByteArray)).data.toList = text.data.toList ++ (SP.line ds[i] ++ [10]) := by rw [app_toList, app_toList, List.append_assoc]
    have hlen : text.data.toList.length ≤ 1048576 := by rw [Array.length_toList]; exact hs
    have hcap : capd (ds.drop i) text.data.toList = capd (ds.drop (i + 1)) (text.data.toList ++ (SP.line ds[i] ++ [10])) := by
      rw [List.drop_eq_getElem_cons hlt, capd, if_pos hlen]
    rw [vicinageref27_Text.l1, if_pos (by rw [List.length_map]; omega), if_pos (by omega), rd_deed ds i hlt, hr', Option.bind_some, if_pos (by omega), if_pos (by omega), hcap]
    generalize htx : ((text ++ (⟨(SP.line ds[i]).toArray⟩ : ByteArray)) ++ (⟨#[10]⟩ : ByteArray)) = text' at hz3 ht ⊢
    rw [← ht]
    by_cases hbig : (text'.size : Int) > 1048576
    · have hov : ¬ text'.data.toList.length ≤ 1048576 := by rw [Array.length_toList]; show ¬ text'.size ≤ _; omega
      rw [if_pos hbig, capd_over _ _ hov, if_neg hov]
    · rw [if_neg hbig, show wrap64 ((i : Int) + 1) = ((i + 1 : Nat) : Int) by rw [SP.wrap64_small (by omega) (by omega)]; omega]
      exact ih (i + 1) k text' (by omega) (by omega) (by omega)

theorem ref_text (ds : List SP.Deed) (hn : ds.length ≤ 2000) (K : Nat) (hK : K = 1000100) (k : Nat) (hk : K + 8000 < k) :
    vicinageref27_Text.f k (ds.map sOf) = some (⟨(texted (ds.map sOf)).1.toArray⟩, (texted (ds.map sOf)).2) := by
  have loop : ∀ (m i k : Nat), ds.length = i + m → m + K + 4000 < k → (∀ d ∈ ds.take i, SP.may d = true) → vicinageref27_Text.l0 k (ds.map sOf) (i : Int) = some (⟨(texted (ds.map sOf)).1.toArray⟩, (texted (ds.map sOf)).2) := by
    intro m
    induction m with
    | zero =>
      intro i k hi hk hall
      obtain ⟨k, rfl⟩ : ∃ j, k = j + 1 := ⟨k - 1, by omega⟩
      rw [List.take_of_length_le (by omega)] at hall
      have hf := from_all ds [] hall
      rw [vicinageref27_Text.l0, if_neg (by rw [List.length_map]; omega)]
      unfold texted
      rw [hf, if_pos (show (0 : Int) = 0 from rfl), List.length_map]
      by_cases h1 : 1000 < ds.length
      · rw [if_pos (show ((ds.length : Nat) : Int) > 1000 by omega), if_pos (Or.inl h1)]
      · rw [if_neg (show ¬ ((ds.length : Nat) : Int) > 1000 by omega)]
        have hl := ref_l1 ds hall hn K hK ds.length 0 k ⟨#[]⟩ (by omega) (by omega) (by decide)
        rw [List.drop_zero, show (⟨#[]⟩ : ByteArray).data.toList = [] from rfl, show (((0 : Nat) : Nat) : Int) = 0 from rfl] at hl
        rw [hl]
        by_cases h2 : (capd ds []).length ≤ 1048576
        · rw [if_pos h2, if_neg (fun h => h.elim h1 (fun h => Nat.not_le.2 h h2))]
        · rw [if_neg h2, if_pos (Or.inr (Nat.lt_of_not_le h2))]
    | succ m ih =>
      intro i k hi hk hall
      obtain ⟨k, rfl⟩ : ∃ j, k = j + 1 := ⟨k - 1, by omega⟩
      have hlt : i < ds.length := by omega
      have hr := SP.rmay_printed ds[i] k (by omega)
      have hr' : vicinageref27_May.f k (sOf ds[i]).f0 (sOf ds[i]).f1 (sOf ds[i]).f2 (sOf ds[i]).f3 = some (SP.may ds[i]) := hr
      rw [vicinageref27_Text.l0, if_pos (by rw [List.length_map]; omega), if_pos (by omega), rd_deed ds i hlt, hr', Option.bind_some]
      cases hm : SP.may ds[i] with
      | false =>
        rw [if_neg (by simp)]
        have hf := from_bad ds [] ⟨ds[i], List.getElem_mem hlt, hm⟩
        have ht := text_two hf
        rw [ht]
      | true =>
        rw [if_pos rfl, show wrap64 ((i : Int) + 1) = ((i + 1 : Nat) : Int) by rw [SP.wrap64_small (by omega) (by omega)]; omega]
        refine ih (i + 1) k (by omega) (by omega) (fun d hd => ?_)
        rw [List.take_succ_eq_append_getElem hlt] at hd
        rcases List.mem_append.1 hd with hd | hd
        · exact hall d hd
        · rw [List.mem_singleton.1 hd]; exact hm
  exact loop ds.length 0 k (by omega) (by omega) (by simp)

theorem parse_lines : ∀ (ds : List SP.Deed) (n : Nat) (acc : List SP.Deed) (r : List SP.B), (∀ d ∈ ds, SP.may d = true) → acc.length + ds.length ≤ 1000 → parseFrom (ds.map SP.line ++ r) n acc = parseFrom r (n + ds.length) (acc ++ ds)
  | [], n, acc, r, _, _ => by simp
  | x :: q, n, acc, r, h, hl => by
    rw [List.length_cons] at hl
    rw [List.map_cons, List.cons_append, parseFrom, if_neg (by rw [line_head]; simp), told_line _ (h x (by simp)), if_pos rfl, if_neg (by omega)]
    show parseFrom (q.map SP.line ++ r) (n + 1) (acc ++ [x]) = _
    rw [parse_lines q (n + 1) (acc ++ [x]) r (fun d hd => h d (by simp [hd])) (by rw [List.length_append, List.length_singleton]; omega)]
    rw [List.append_assoc, List.singleton_append, List.length_cons, show n + 1 + q.length = n + (q.length + 1) by omega]

theorem parsed_text (ds : List SP.Deed) (hall : ∀ d ∈ ds, SP.may d = true) (h1 : ds.length ≤ 1000) (h2 : (capd ds []).length ≤ 1048576) : parsed (capd ds []) = (ds, 0, 0) := by
  have e := capd_all ds [] h2
  rw [List.nil_append] at e
  unfold parsed
  rw [if_pos h2, e, ← List.append_nil (flat _), cut_flat _ [] (fun x hx => by obtain ⟨d, hd, rfl⟩ := List.mem_map.1 hx; exact line_no d (hall d hd)), parse_lines ds 0 [] _ hall (by simpa using h1)]
  rfl

theorem texts_l0 (ds : List SP.Deed) (hall : ∀ d ∈ ds, SP.may d = true) (hn : ds.length ≤ 1000) : ∀ (m i k : Nat), ds.length = i + m → m + 30 < k →
    vicinagelaw27_ScriptTexts.l0 k (ds.map sOf) (ds.map sOf) (i : Int) = some true := by
  intro m
  induction m with
  | zero =>
    intro i k hi hk
    obtain ⟨k, rfl⟩ : ∃ j, k = j + 1 := ⟨k - 1, by omega⟩
    rw [vicinagelaw27_ScriptTexts.l0, if_neg (by rw [List.length_map]; omega), vicinagelaw27_known.f]
    rfl
  | succ m ih =>
    intro i k hi hk
    obtain ⟨k, rfl⟩ : ∃ j, k = j + 1 := ⟨k - 1, by omega⟩
    have hlt : i < ds.length := by omega
    have h8 : ds[i].again.length ≤ 8 := (SP.may_parts (hall ds[i] (List.getElem_mem hlt))).2.1
    rw [vicinagelaw27_ScriptTexts.l0, if_pos (by rw [List.length_map]; omega), if_pos (by omega), if_pos (by rw [List.length_map]; omega), rd_deed ds i hlt, same_s _ h8 k (by omega), Option.bind_some, if_pos rfl]
    rw [show wrap64 ((i : Int) + 1) = ((i + 1 : Nat) : Int) by rw [SP.wrap64_small (by omega) (by omega)]; omega]
    exact ih (i + 1) k (by omega) (by omega)

theorem heavy_some (l : List S27) : ∀ (m i k : Nat) (n : Int), i + m = 2000 → m < k → ∃ b, vicinagelaw27_heavy.l0 k l n (i : Int) = some b ∧ (b = false → l.length ≤ 1500) := by
  have last : ∀ n : Int, ∃ b, (if (l.length : Int) > 1500 then some true else some (decide (n > 300000))) = some b ∧ (b = false → l.length ≤ 1500) := fun n => by
    by_cases h : (l.length : Int) > 1500
    · exact ⟨true, by rw [if_pos h], fun h => by cases h⟩
    · exact ⟨_, by rw [if_neg h], fun _ => by omega⟩
  intro m
  induction m with
  | zero =>
    intro i k n hi hk
    obtain ⟨k, rfl⟩ : ∃ z, k = z + 1 := ⟨k - 1, by omega⟩
    rw [vicinagelaw27_heavy.l0]
    by_cases h : (i : Int) < (l.length : Int)
    · rw [if_pos h, if_neg (by omega)]; exact last n
    · rw [if_neg h]; exact last n
  | succ m ih =>
    intro i k n hi hk
    obtain ⟨k, rfl⟩ : ∃ z, k = z + 1 := ⟨k - 1, by omega⟩
    rw [vicinagelaw27_heavy.l0]
    by_cases h : (i : Int) < (l.length : Int)
    · rw [if_pos h, if_pos (by omega), if_pos (by omega), show wrap64 ((i : Int) + 1) = ((i + 1 : Nat) : Int) by rw [SP.wrap64_small (by omega) (by omega)]; omega]
      exact ih (i + 1) k _ (by omega) (by omega)
    · rw [if_neg h]; exact last n

theorem texts_j0 (ds : List SP.Deed) (hn : ds.length ≤ 1500) (k : Nat) (hk : 5000 < k) :
    vicinagelaw27_ScriptTexts.j0 k (ds.map sOf) ⟨(texted (ds.map sOf)).1.toArray⟩ (texted (ds.map sOf)).2 false = some true := by
  obtain ⟨k, rfl⟩ : ∃ z, k = z + 2 := ⟨k - 2, by omega⟩
  rw [vicinagelaw27_ScriptTexts.j0, if_neg (by simp)]
  by_cases hall : ∀ d ∈ ds, SP.may d = true
  · have hf := from_all ds [] hall
    by_cases h1 : 1000 < ds.length
    · have ht : texted (ds.map sOf) = ([], 3) := by unfold texted; rw [hf, if_pos rfl, if_pos (Or.inl (by rw [List.length_map]; exact h1))]
      rw [ht, if_neg (show ¬ (3 : Int) = 0 by decide), vicinagelaw27_known.f]
      rfl
    · by_cases h2 : (capd ds []).length ≤ 1048576
      · have ht : texted (ds.map sOf) = (capd ds [], 0) := by unfold texted; rw [hf, if_pos rfl, if_neg (by rw [List.length_map]; exact fun h => h.elim h1 (fun h => Nat.not_le.2 h h2))]
        have hp : script_Parse.f ⟨(capd ds []).toArray⟩ = some (ds.map sOf, 0, 0) := by
          unfold script_Parse.f
          rw [show (⟨(capd ds []).toArray⟩ : ByteArray).data.toList = capd ds [] by simp, parsed_text ds hall (by omega) h2]
        rw [ht, if_pos (show (0 : Int) = 0 from rfl), hp, Option.bind_some, if_pos (show (0 : Int) = 0 from rfl), if_pos (show (0 : Int) = 0 from rfl)]
        rw [show (((ds.map sOf).length : Int) != ((ds.map sOf).length : Int)) = false from bne_self_eq_false _, vicinagelaw27_ScriptTexts.j1, if_neg (by simp)]
        exact texts_l0 ds hall (by omega) ds.length 0 k (by omega) (by omega)
      · have ht : texted (ds.map sOf) = ([], 3) := by unfold texted; rw [hf, if_pos rfl, if_pos (Or.inr (Nat.lt_of_not_le h2))]
        rw [ht, if_neg (show ¬ (3 : Int) = 0 by decide), vicinagelaw27_known.f]
        rfl
  · have hbad : ∃ d ∈ ds, SP.may d = false := by
      refine Classical.byContradiction fun hno => hall fun d hd => ?_
      cases hm : SP.may d with
      | true => rfl
      | false => exact absurd ⟨d, hd, hm⟩ hno
    rw [text_two (from_bad ds [] hbad), if_neg (show ¬ (2 : Int) = 0 by decide), vicinagelaw27_known.f]
    rfl

theorem texts_pure (ds : List SP.Deed) : ∃ k, vicinagelaw27_ScriptTexts.f k (ds.map sOf) = some true := by
  obtain ⟨K, hK⟩ : ∃ K : Nat, K = 1000100 := ⟨_, rfl⟩
  refine ⟨K + 20000, ?_⟩
  unfold vicinagelaw27_ScriptTexts.f
  obtain ⟨b, hb, hb2⟩ := heavy_some (ds.map sOf) 2000 0 (K + 20000) 0 (by omega) (by omega)
  have hb' : vicinagelaw27_heavy.f (K + 20000) (ds.map sOf) = some b := hb
  rw [hb', Option.bind_some]
  cases b with
  | true =>
    rw [if_pos rfl, vicinagelaw27_known.f]
    rfl
  | false =>
    have hn := hb2 rfl
    rw [List.length_map] at hn
    rw [if_neg (by simp), text_at ds (by omega), Option.bind_some, ref_text ds (by omega) K hK (K + 20000) (by omega), Option.bind_some, if_pos rfl]
    rw [show ((texted (ds.map sOf)).2 != (texted (ds.map sOf)).2) = false from bne_self_eq_false _]
    exact texts_j0 ds hn _ (by omega)
end Go.Proofs.YtdfaljcdphbgdaaGreatDoor.PL
