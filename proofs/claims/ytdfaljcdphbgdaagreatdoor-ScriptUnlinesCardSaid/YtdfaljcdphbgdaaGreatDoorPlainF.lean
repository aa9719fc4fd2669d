/- Plain laws: the document's Unline is SP's. -/
import Derived.Test.YtdfaljcdphbgdaaGreatDoorPlainE
namespace Go.Proofs.YtdfaljcdphbgdaaGreatDoor.SP
open Go.RowKit Go.Proofs.YtdfaljcdphbgdaaGreatDoor.PRef Go.Proofs.YtdfaljcdphbgdaaGreatDoorW.PrintWords Go.Proofs.YtdfaljcdphbgdaaGreatDoorW.PrintLast Go.Proofs.YtdfaljcdphbgdaaGreatDoorW.PrintMore

/-- what the document tells of a line -/
def utuple (s : B) : Int × Int × List Int × List Int × Int :=
  match unline s with | some x => (x.kind, x.n, nums8 x.bytes, x.again, 0) | none => (0, 0, [], [], 15)

theorem baToList (s : ByteArray) : s.toList = s.data.toList := ByteArray.toList_eq s

theorem j4_none (w : ByteArray) (h : unline w.data.toList = none) (kd n : Int) (b : B) (ag : List Int) (k : Nat) (hk : 1000200 ≤ k) :
    vicinageref27_Unline.j4 k w kd n (nums8 b) ag = some (utuple w.data.toList) := by
  obtain ⟨k, rfl⟩ : ∃ j, k = j + 1 := ⟨k - 1, by omega⟩
  have hu : utuple w.data.toList = (0, 0, [], [], 15) := by simp [utuple, h]
  have hm := rmay_printed ⟨kd, n, b, ag⟩ k (by omega)
  simp only at hm
  rw [vicinageref27_Unline.j4, hm]
  simp only [Option.bind_some]
  by_cases hy : may ⟨kd, n, b, ag⟩ = true
  · rw [if_pos hy]
    have hl := rline_printed ⟨kd, n, b, ag⟩ hy k (by omega)
    simp only at hl
    rw [hl]
    simp only [Option.bind_some]
    rw [if_neg, hu]
    rw [baToList, baToList]
    intro e
    have := (unline_iff w.data.toList ⟨kd, n, b, ag⟩).2 ⟨hy, by simpa using e⟩
    rw [h] at this; cases this
  · rw [if_neg hy, hu]

theorem j4_some (w : ByteArray) (x : Deed) (h : unline w.data.toList = some x) (k : Nat) (hk : 1000200 ≤ k) :
    vicinageref27_Unline.j4 k w x.kind x.n (nums8 x.bytes) x.again = some (utuple w.data.toList) := by
  obtain ⟨k, rfl⟩ : ∃ j, k = j + 1 := ⟨k - 1, by omega⟩
  obtain ⟨hy, hl⟩ := (unline_iff _ _).1 h
  have hu : utuple w.data.toList = (x.kind, x.n, nums8 x.bytes, x.again, 0) := by simp [utuple, h]
  rw [vicinageref27_Unline.j4, rmay_printed x k (by omega)]
  simp only [Option.bind_some]
  rw [if_pos hy, rline_printed x hy k (by omega)]
  simp only [Option.bind_some]
  rw [if_pos, hu]
  rw [baToList, baToList, hl]

theorem rdOf_one (R : List ByteArray) (h : 1 < R.length) : rdOf ByteArray.empty R 1 = R[1] := by
  show R.getD 1 _ = _
  rw [List.getD_eq_getElem?_getD, List.getElem?_eq_getElem h]; rfl
theorem rdOf_two (R : List ByteArray) (h : 2 < R.length) : rdOf ByteArray.empty R 2 = R[2] := by
  show R.getD 2 _ = _
  rw [List.getD_eq_getElem?_getD, List.getElem?_eq_getElem h]; rfl

theorem l0_none (w : ByteArray) (h : unline w.data.toList = none) (R : List ByteArray) (hR : ∀ y ∈ R, y.size ≤ 1500000) (hl : R.length ≤ 2000000) (kd n : Int) (b : B) :
    ∀ (m i k : Nat) (ag : List Int), R.length ≤ i + m → m + 1500300 < k → ag.length ≤ i → i ≤ R.length + 2 → vicinageref27_Unline.l0 k w R (i : Int) kd n (nums8 b) ag = some (utuple w.data.toList)
  | m, i, 0, ag, _, hk, _, _ => by omega
  | m, i, k + 1, ag, hm, hk, ha, hi => by
    rw [vicinageref27_Unline.l0]
    by_cases c : (i : Int) < (R.length : Int)
    · obtain ⟨m, rfl⟩ : ∃ j, m = j + 1 := ⟨m - 1, by omega⟩
      have hi' : i < R.length := by omega
      have hr : rdOf ByteArray.empty R (i : Int) = R[i] := by simp [rdOf, hi']
      obtain ⟨v, hv⟩ := rnum_total R[i] k (by have := hR _ (List.getElem_mem hi'); omega)
      have e : wrap64 ((i : Int) + 1) = ((i + 1 : Nat) : Int) := by rw [wrap64_small (by omega) (by omega)]; omega
      rw [if_pos c, if_pos (by omega), hr, hv]
      simp only [Option.bind_some]
      rw [if_pos (by omega), e]
      exact l0_none w h R hR hl kd n b m (i + 1) k _ (by omega) (by omega) (by simp; omega) (by omega)
    · rw [if_neg c]
      exact j4_none w h kd n b ag k (by omega)

theorem l0_some (K : Nat) (hK : 1500300 ≤ K) (w : ByteArray) (kd n : Int) (b : B) (g : List Int) (hg : g.all inOps = true) (h8 : g.length ≤ 8) (h : unline w.data.toList = some ⟨kd, n, b, g⟩) (R : List ByteArray) (hl : R.length = g.length + 2) (hR : ∀ (j : Nat) (hj : j < g.length), ∃ y, R[j + 2]? = some y ∧ y.data.toList = Lib.itoa g[j]) :
    ∀ (m i k : Nat), g.length = i + m → K + m < k → vicinageref27_Unline.l0 k w R ((i + 2 : Nat) : Int) kd n (nums8 b) (g.take i) = some (utuple w.data.toList)
  | 0, i, k + 1, hm, hk => by
    rw [vicinageref27_Unline.l0, if_neg (by omega), List.take_of_length_le (by omega)]
    exact j4_some w ⟨kd, n, b, g⟩ h k (by omega)
  | m + 1, i, k + 1, hm, hk => by
    have hi' : i < g.length := by omega
    obtain ⟨y, h1, h2⟩ := hR i hi'
    have hr : rdOf ByteArray.empty R ((i + 2 : Nat) : Int) = y := by
      show R.getD ((i + 2 : Nat) : Int).toNat _ = y
      rw [Int.toNat_natCast, List.getD_eq_getElem?_getD, h1]; rfl
    have hv := rnum_of y g[i] (List.all_eq_true.1 hg _ (List.getElem_mem hi')) h2 k (by omega)
    have e : wrap64 (((i + 2 : Nat) : Int) + 1) = ((i + 1 + 2 : Nat) : Int) := by rw [wrap64_small (by omega) (by omega)]; omega
    rw [vicinageref27_Unline.l0, if_pos (by omega), if_pos (by omega), hr, hv]
    simp only [Option.bind_some]
    rw [if_pos (by simp; omega), e, ← List.take_succ_eq_append_getElem hi']
    exact l0_some K hK w kd n b g hg h8 h R hl hR m (i + 1) k (by omega) (by omega)

theorem line_len (x : Deed) (h : may x = true) : (line x).length ≤ 120200 := by
  obtain ⟨hb, h8, h3, h4, h5⟩ := may_parts h
  obtain ⟨kd, n, b, g⟩ := x
  simp only at hb h8 h3 h4 h5
  have hsh := itoa_short _ h3
  have hxs := hexW_short b
  have hf : ∀ l : List Int, l.all inOps = true → (l.flatMap fun v => 32 :: Lib.itoa v).length ≤ 11 * l.length := by
    intro l
    induction l with
    | nil => simp
    | cons v r ih =>
      intro ha
      rw [List.all_cons, Bool.and_eq_true] at ha
      have := itoa_short v ha.1
      have := ih ha.2
      simp only [List.flatMap_cons, List.length_append, List.length_cons]; omega
  rcases h5 with ⟨rfl, _, rfl⟩ | ⟨rfl, rfl, rfl⟩ | ⟨rfl, rfl⟩ | ⟨rfl, rfl, rfl, rfl⟩
  · simp [line, joinSp, wordsOf, join_flat, wFeed]; omega
  · simp [line, joinSp, wordsOf, join_flat, wArm]; omega
  · have := hf g h4
    simp [line, joinSp, wordsOf, join_flat, wCrash, List.flatMap_map] at this ⊢; omega
  · simp [line, joinSp, wordsOf, join_flat, wCensus]

theorem runline (w : ByteArray) (hw : w.size ≤ 1500000) (k : Nat) (hk : 4000000 ≤ k) : vicinageref27_Unline.f k w = some (utuple w.data.toList) := by
  have hz : w.data.toList.length = w.size := Array.length_toList
  unfold vicinageref27_Unline.f
  by_cases hbig : (w.size : Int) > 120200
  · rw [if_pos hbig]
    have : unline w.data.toList = none := by
      cases hu : unline w.data.toList with
      | none => rfl
      | some x =>
        obtain ⟨hy, hl⟩ := (unline_iff _ _).1 hu
        have := line_len x hy
        rw [hl] at this
        omega
    simp [utuple, this]
  · rw [if_neg hbig]
    obtain ⟨R, h1, h2⟩ := rcut w (by omega) 32 k (by omega)
    have h1' : vicinageref27_Cut.f k w 32 = some R := h1
    rw [h1']
    simp only [Option.bind_some]
    have hne := cut_ne 32 w.data.toList
    have hlen := cut_length 32 w.data.toList
    have heach := cut_each 32 w.data.toList
    rw [← h2] at hne hlen heach
    rw [List.length_map] at hlen
    have hR : ∀ y ∈ R, y.size ≤ 1500000 := fun y hy => by
      have := heach y.data.toList (List.mem_map.2 ⟨y, hy, rfl⟩)
      have h3 : y.data.toList.length = y.size := Array.length_toList
      omega
    have hRl : 0 < R.length := by
      cases R with
      | nil => exact absurd rfl hne
      | cons a r => simp
    rw [if_pos (by omega)]
    obtain ⟨k, rfl⟩ : ∃ j, k = j + 4 := ⟨k - 4, by omega⟩
    cases hu : unline w.data.toList with
    | none =>
      -- whatever the branch
      have J2 : ∀ (c : Bool) (kd : Int), (c = true → 2 ≤ R.length) → vicinageref27_Unline.j2 (k + 2) w R c kd 0 = some (utuple w.data.toList) := by
        intro c kd hc
        rw [vicinageref27_Unline.j2]
        cases c with
        | true =>
          have h2l := hc rfl
          rw [if_pos rfl, if_pos (by omega)]
          have hr : rdOf ByteArray.empty R 1 = R[1] := rdOf_one R h2l
          obtain ⟨b, hb⟩ := rhexr_total R[1] (by have := hR _ (List.getElem_mem h2l); omega) (k + 1) (by have := hR _ (List.getElem_mem h2l); omega)
          rw [hr, hb]
          simp only [Option.bind_some]
          exact l0_none w hu R hR (by omega) 3 0 b R.length 2 (k + 1) [] (by omega) (by omega) (by simp) (by omega)
        | false =>
          rw [if_neg (by simp), if_pos (by omega)]
          split
          · exact j4_none w hu 4 0 [] [] (k + 1) (by omega)
          · exact j4_none w hu kd 0 [] [] (k + 1) (by omega)
      have J1 : ∀ (c : Bool), (c = true → 2 ≤ R.length) → vicinageref27_Unline.j1 (k + 3) w R c 0 0 = some (utuple w.data.toList) := by
        intro c hc
        rw [vicinageref27_Unline.j1]
        cases c with
        | true =>
          have h2l := hc rfl
          rw [if_pos rfl, if_pos (by omega)]
          have hr : rdOf ByteArray.empty R 1 = R[1] := rdOf_one R h2l
          obtain ⟨v, hv⟩ := rnum_total R[1] (k + 2) (by have := hR _ (List.getElem_mem h2l); omega)
          rw [hr, hv]
          simp only [Option.bind_some]
          exact j4_none w hu 2 v [] [] (k + 2) (by omega)
        | false =>
          rw [if_neg (by simp), if_pos (by omega)]
          split
          · exact J2 _ 0 (fun h => by have := of_decide_eq_true h; omega)
          · exact J2 _ 0 (fun h => by cases h)
      have J0 : ∀ (c : Bool), (c = true → R.length = 3) → vicinageref27_Unline.j0 (k + 4) w R c 0 0 = some (utuple w.data.toList) := by
        intro c hc
        rw [vicinageref27_Unline.j0]
        cases c with
        | true =>
          have h3l := hc rfl
          rw [if_pos rfl, if_pos (by omega)]
          have hr1 : rdOf ByteArray.empty R 1 = R[1] := rdOf_one R (by omega)
          have hr2 : rdOf ByteArray.empty R 2 = R[2] := rdOf_two R (by omega)
          obtain ⟨v, hv⟩ := rnum_total R[1] (k + 3) (by have := hR _ (List.getElem_mem (show 1 < R.length by omega)); omega)
          obtain ⟨b, hb⟩ := rhexr_total R[2] (by have := hR _ (List.getElem_mem (show 2 < R.length by omega)); omega) (k + 3) (by have := hR _ (List.getElem_mem (show 2 < R.length by omega)); omega)
          rw [hr1, hv]
          simp only [Option.bind_some]
          rw [if_pos (by omega), hr2, hb]
          simp only [Option.bind_some]
          exact j4_none w hu 1 v b [] (k + 3) (by omega)
        | false =>
          rw [if_neg (by simp), if_pos (by omega)]
          split
          · exact J1 _ (fun h => by have := beq_iff_eq.1 h; omega)
          · exact J1 _ (fun h => by cases h)
      split
      · exact J0 _ (fun h => by have := beq_iff_eq.1 h; omega)
      · exact J0 _ (fun h => by cases h)
    | some x =>
      obtain ⟨hy, hl⟩ := (unline_iff _ _).1 hu
      have hws : R.map (·.data.toList) = wordsOf x := by
        rw [h2, ← hl, line, joinSp]
        exact cut_join 32 _ (by unfold wordsOf; split <;> (try split) <;> (try split) <;> simp) (words_no x hy 32 (by decide))
      obtain ⟨hb, h8, h3, h4, h5⟩ := may_parts hy
      obtain ⟨kd, n, b, g⟩ := x
      simp only at hb h8 h3 h4 h5
      rcases h5 with ⟨rfl, _, rfl⟩ | ⟨rfl, rfl, rfl⟩ | ⟨rfl, rfl⟩ | ⟨rfl, rfl, rfl, rfl⟩
      · simp only [wordsOf, if_true] at hws
        obtain ⟨r0, R, rfl, w0, hws⟩ := List.map_eq_cons_iff.1 hws
        obtain ⟨r1, R, rfl, w1, hws⟩ := List.map_eq_cons_iff.1 hws
        obtain ⟨r2, R, rfl, w2, hws⟩ := List.map_eq_cons_iff.1 hws
        obtain rfl := List.map_eq_nil_iff.1 hws
        have e0 : rdOf ByteArray.empty [r0, r1, r2] 0 = r0 := rfl
        have e1 : rdOf ByteArray.empty [r0, r1, r2] 1 = r1 := rfl
        have e2 : rdOf ByteArray.empty [r0, r1, r2] 2 = r2 := rfl
        rw [e0, if_pos (by rw [baToList, w0]; rfl), vicinageref27_Unline.j0, if_pos (by rfl), if_pos (by simp), e1, rnum_of r1 n h3 w1 (k + 3) (by omega)]
        simp only [Option.bind_some]
        rw [if_pos (by simp), e2, rhexr_of r2 (by have := hR r2 (by simp); omega) b w2 (k + 3) (by omega)]
        simp only [Option.bind_some]
        exact j4_some w ⟨1, n, b, []⟩ hu (k + 3) (by omega)
      · simp only [wordsOf, if_neg (show ¬ (2 : Int) = 1 by decide), if_true] at hws
        obtain ⟨r0, R, rfl, w0, hws⟩ := List.map_eq_cons_iff.1 hws
        obtain ⟨r1, R, rfl, w1, hws⟩ := List.map_eq_cons_iff.1 hws
        obtain rfl := List.map_eq_nil_iff.1 hws
        have e0 : rdOf ByteArray.empty [r0, r1] 0 = r0 := rfl
        have e1 : rdOf ByteArray.empty [r0, r1] 1 = r1 := rfl
        rw [e0, if_neg (by rw [baToList, w0]; decide), vicinageref27_Unline.j0, if_neg (by simp), if_pos (by simp), e0, if_pos (by rw [baToList, w0]; rfl), vicinageref27_Unline.j1, if_pos (by rfl), if_pos (by simp), e1, rnum_of r1 n h3 w1 (k + 2) (by omega)]
        simp only [Option.bind_some]
        exact j4_some w ⟨2, n, [], []⟩ hu (k + 2) (by omega)
      · simp only [wordsOf, if_neg (show ¬ (3 : Int) = 1 by decide), if_neg (show ¬ (3 : Int) = 2 by decide), if_true] at hws
        obtain ⟨r0, R, rfl, w0, hws⟩ := List.map_eq_cons_iff.1 hws
        obtain ⟨r1, rs, rfl, w1, wr⟩ := List.map_eq_cons_iff.1 hws
        have e0 : rdOf ByteArray.empty (r0 :: r1 :: rs) 0 = r0 := rfl
        have e1 : rdOf ByteArray.empty (r0 :: r1 :: rs) 1 = r1 := rfl
        have hrl : rs.length = g.length := by have := congrArg List.length wr; simpa using this
        rw [e0, if_neg (by rw [baToList, w0]; decide), vicinageref27_Unline.j0, if_neg (by simp), if_pos (by simp; omega), e0, if_neg (by rw [baToList, w0]; decide), vicinageref27_Unline.j1, if_neg (by simp), if_pos (by simp; omega), e0, if_pos (by rw [baToList, w0]; rfl),
          vicinageref27_Unline.j2, if_pos (by simp; omega), if_pos (by simp; omega), e1, rhexr_of r1 (by have := hR r1 (by simp); omega) b w1 (k + 1) (by omega)]
        simp only [Option.bind_some]
        refine l0_some 1500300 (Nat.le_refl _) w 3 0 b g h4 h8 hu (r0 :: r1 :: rs) (by simp [hrl]) (fun j hj => ?_) g.length 0 (k + 1) (by omega) (by omega)
        have hj2 : j < rs.length := by omega
        refine ⟨rs[j], by simp [hj2], ?_⟩
        have := congrArg (fun l => l[j]?) wr
        simp only [List.getElem?_map, List.getElem?_eq_getElem hj2, List.getElem?_eq_getElem hj, Option.map_some, Option.some.injEq] at this
        exact this
      · simp only [wordsOf, if_neg (show ¬ (4 : Int) = 1 by decide), if_neg (show ¬ (4 : Int) = 2 by decide), if_neg (show ¬ (4 : Int) = 3 by decide)] at hws
        obtain ⟨r0, R, rfl, hw0, hn⟩ := List.map_eq_cons_iff.1 hws
        obtain rfl := List.map_eq_nil_iff.1 hn
        have e0 : rdOf ByteArray.empty [r0] 0 = r0 := rfl
        rw [e0, if_neg (by rw [baToList, hw0]; decide), vicinageref27_Unline.j0, if_neg (by simp), if_pos (by simp), e0, if_neg (by rw [baToList, hw0]; decide), vicinageref27_Unline.j1, if_neg (by simp), if_pos (by simp), e0, if_neg (by rw [baToList, hw0]; decide),
          vicinageref27_Unline.j2, if_neg (by simp), if_pos (by simp), e0, if_pos (by rw [baToList, hw0]; rfl)]
        exact j4_some w ⟨4, 0, [], []⟩ hu (k + 1) (by omega)

end Go.Proofs.YtdfaljcdphbgdaaGreatDoor.SP
