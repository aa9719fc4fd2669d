/- The law ScriptParses, as the printed functions tell it: the document's Parse is 'parsed', too. -/
import Derived.Test.YtdfaljcdphbgdaaGreatDoorPLx1
import Derived.Test.YtdfaljcdphbgdaaGreatDoorPlainF
namespace Go.Proofs.YtdfaljcdphbgdaaGreatDoor.PL
set_option linter.unusedVariables false
set_option linter.unusedSimpArgs false
open Go.RowKit Go.Proofs Go.Proofs.YtdfaljcdphbgdaaGreatDoorW.PrintWords Go.Proofs.YtdfaljcdphbgdaaGreatDoorW.PrintLast Go.Proofs.YtdfaljcdphbgdaaGreatDoorW.PrintMore Go.Proofs.YtdfaljcdphbgdaaGreatDoor Go.Proofs.YtdfaljcdphbgdaaGreatDoor.PRef

theorem utuple_told2 (s : SP.B) : SP.utuple s = ((told s).1.kind, (told s).1.n, SP.nums8 (told s).1.bytes, (told s).1.again, (told s).2) := by
  unfold SP.utuple told
  cases SP.unline s <;> rfl
theorem told_again (s : SP.B) : (told s).1.again.length ≤ 8 := by
  unfold told
  cases h : SP.unline s with
  | none => simp
  | some x => exact (SP.may_parts ((SP.unline_iff _ _).1 h).1).2.1

theorem parseFrom_again : ∀ (L : List SP.B) (n : Nat) (acc : List SP.Deed), (∀ d ∈ acc, d.again.length ≤ 8) → ∀ d ∈ (parseFrom L n acc).1, d.again.length ≤ 8
  | [], _, acc, h => h
  | x :: r, n, acc, h => by
    rw [parseFrom]
    split
    · exact parseFrom_again r _ acc h
    · split
      · split
        · simp
        · refine parseFrom_again r _ _ (fun d hd => ?_)
          rcases List.mem_append.1 hd with hd | hd
          · exact h d hd
          · rw [List.mem_singleton.1 hd]; exact told_again x
      · simp
theorem parsed_again (s : SP.B) : ∀ d ∈ (parsed s).1, d.again.length ≤ 8 := by
  unfold parsed
  split
  · exact parseFrom_again _ _ _ (by simp)
  · simp

def tup (r : List SP.Deed × Int × Int) : List S27 × Int × Int := (r.1.map sOf, r.2.1, r.2.2)

theorem rdOf_nth (R : List ByteArray) (i : Nat) (h : i < R.length) : rdOf ByteArray.empty R (i : Int) = R[i] := by
  simp [rdOf, h]

theorem bt_head (x : ByteArray) (h : 0 < x.size) : bt x 0 = (((x[0]'h).toNat : Nat) : Int) := by
  unfold bt
  rw [dif_pos (by simpa using h)]
  rfl

theorem rparse_l0 (R : List ByteArray) (hR : ∀ y ∈ R, y.size ≤ 1500000) (hl : R.length ≤ 2000000) (K : Nat) (hK : 4000000 ≤ K) : ∀ (m i k : Nat) (acc : List SP.Deed), R.length = i + m → acc.length ≤ i → K + 3 * m < k →
    vicinageref27_Parse.l0 k R (acc.map sOf) (i : Int) = some (tup (parseFrom ((R.map dl).drop i) i acc)) := by
  intro m
  induction m with
  | zero =>
    intro i k acc hi ha hk
    obtain ⟨k, rfl⟩ : ∃ j, k = j + 1 := ⟨k - 1, by omega⟩
    rw [vicinageref27_Parse.l0, if_neg (by omega), List.drop_of_length_le (by simp; omega)]
    rfl
  | succ m ih =>
    intro i k acc hi ha hk
    obtain ⟨k, rfl⟩ : ∃ j, k = j + 3 := ⟨k - 3, by omega⟩
    have hlt : i < R.length := by omega
    have hd : (R.map dl).drop i = dl R[i] :: (R.map dl).drop (i + 1) := by
      rw [List.drop_eq_getElem_cons (by simpa using hlt)]
      simp
    have hw : wrap64 ((i : Int) + 1) = ((i + 1 : Nat) : Int) := by rw [SP.wrap64_small (by omega) (by omega)]; omega
    have hx := hR R[i] (List.getElem_mem hlt)
    rw [vicinageref27_Parse.l0, if_pos (by omega), if_pos (by omega), rdOf_nth R i hlt, hd, parseFrom]
    rcases idle_cases R[i] with ⟨h1, h2⟩ | ⟨h1, h2, h3, h4⟩
    · rw [if_pos h2, vicinageref27_Parse.j1, if_pos rfl, hw, if_pos h1]
      exact ih (i + 1) _ acc (by omega) (by omega) (by omega)
    · rw [if_neg h2, if_pos (by omega), bt_head _ h1, h4, vicinageref27_Parse.j1]
      cases hid : idle (dl R[i]) with
      | true =>
        rw [if_pos rfl, hw, if_pos rfl]
        exact ih (i + 1) _ acc (by omega) (by omega) (by omega)
      | false =>
        rw [if_neg (by simp), if_pos (by omega), if_pos (by omega), rdOf_nth R i hlt, SP.runline R[i] hx (k + 1) (by omega), utuple_told2]
        simp only [Option.bind_some, Bool.false_eq_true, if_false]
        by_cases he : (told (dl R[i])).2 = 0
        · have he' : (told R[i].data.toList).2 = 0 := he
          rw [if_pos he', if_pos he, vicinageref27_Parse.j2]
          by_cases hf : 1000 ≤ acc.length
          · rw [decide_eq_true (by rw [List.length_map]; omega), if_pos rfl, if_neg (by decide), if_pos hf, hw]
            rfl
          · rw [decide_eq_false (by rw [List.length_map]; omega), if_neg (by simp), if_pos he', if_pos (by rw [List.length_map]; omega), if_neg hf, hw]
            have := ih (i + 1) k (acc ++ [(told (dl R[i])).1]) (by omega) (by simp; omega) (by omega)
            rw [List.map_append] at this
            exact this
        · rw [if_neg (show ¬ (told R[i].data.toList).2 = 0 from he), if_neg he, vicinageref27_Parse.j2, if_neg (by simp), if_neg (show ¬ (told R[i].data.toList).2 = 0 from he), hw]
          rfl

theorem rparse (a0 : ByteArray) (hs : a0.size ≤ 1048676) : vicinageref27_Parse.f 20000000 a0 = some (tup (parsed a0.data.toList)) := by
  have hz : a0.data.toList.length = a0.size := Array.length_toList
  obtain ⟨K, hK⟩ : ∃ K : Nat, K = 20000000 := ⟨_, rfl⟩
  rw [← hK]
  unfold vicinageref27_Parse.f parsed
  by_cases hb : (a0.size : Int) > 1048576
  · rw [if_pos hb, if_neg (by omega)]
    rfl
  · rw [if_neg hb, if_pos (by omega)]
    obtain ⟨R, hR, hRc⟩ := SP.rcut a0 (by omega) 10 K (by omega)
    have hR' : vicinageref27_Cut.f K a0 10 = some R := hR
    rw [hR']
    simp only [Option.bind_some]
    have hlen : R.length ≤ a0.size + 1 := by
      have := SP.cut_length 10 a0.data.toList
      rw [← hRc, hz] at this
      simpa using this
    have h := rparse_l0 R (fun y hy => by
      have := SP.cut_each 10 a0.data.toList (dl y) (by rw [← hRc]; exact List.mem_map.2 ⟨y, hy, rfl⟩)
      rw [hz, show (dl y).length = y.size from Array.length_toList] at this
      omega) (by omega) 4000000 (Nat.le_refl _) R.length 0 K [] (by omega) (by simp) (by omega)
    have hRc' : R.map dl = SP.cut 10 a0.data.toList := hRc
    rw [hRc'] at h
    exact h

theorem same_s (x : SP.Deed) (h : x.again.length ≤ 8) (k : Nat) (hk : 20 ≤ k) : vicinageref27_Same.f k (sOf x).f0 (sOf x).f1 (sOf x).f2 (sOf x).f3 (sOf x).f0 (sOf x).f1 (sOf x).f2 (sOf x).f3 = some true :=
  SP.same_refl _ _ _ _ k (by show x.again.length + 1 < k; omega) (by show x.again.length ≤ _; omega)

theorem rd_nth (l : List S27) (i : Nat) (h : i < l.length) : rd_T27 l (i : Int) = l[i] := by
  unfold rd_T27
  simp [h]

theorem parses_l0 (l : List SP.Deed) (hl : ∀ d ∈ l, d.again.length ≤ 8) (hs : l.length ≤ 2000000) : ∀ (m i k : Nat), l.length = i + m → m + 30 < k → vicinagelaw27_ScriptParses.l0 k (l.map sOf) (l.map sOf) (i : Int) = some true := by
  intro m
  induction m with
  | zero =>
    intro i k hi hk
    obtain ⟨k, rfl⟩ : ∃ j, k = j + 1 := ⟨k - 1, by omega⟩
    rw [vicinagelaw27_ScriptParses.l0, if_neg (by rw [List.length_map]; omega), vicinagelaw27_known.f]
    rfl
  | succ m ih =>
    intro i k hi hk
    obtain ⟨k, rfl⟩ : ∃ j, k = j + 1 := ⟨k - 1, by omega⟩
    have hlt : i < (l.map sOf).length := by rw [List.length_map]; omega
    have hlt2 : i < l.length := by omega
    have hw : wrap64 ((i : Int) + 1) = ((i + 1 : Nat) : Int) := by rw [SP.wrap64_small (by omega) (by omega)]; omega
    rw [vicinagelaw27_ScriptParses.l0, if_pos (by omega), if_pos (by omega), if_pos (by omega), rd_nth _ _ hlt, List.getElem_map, same_s _ (hl _ (List.getElem_mem hlt2)) k (by omega)]
    simp only [Option.bind_some, if_true]
    rw [hw]
    exact ih (i + 1) k (by omega) (by omega)

theorem parseFrom_len : ∀ (L : List SP.B) (n : Nat) (acc : List SP.Deed), acc.length ≤ 1000 → (parseFrom L n acc).1.length ≤ 1000
  | [], _, acc, h => h
  | x :: r, n, acc, h => by
    rw [parseFrom]
    split
    · exact parseFrom_len r _ acc h
    · split
      · split
        · simp
        · exact parseFrom_len r _ _ (by simp; omega)
      · simp
theorem parsed_len (s : SP.B) : (parsed s).1.length ≤ 1000 := by
  unfold parsed
  split
  · exact parseFrom_len _ _ _ (by simp)
  · simp

theorem parses_pure (a0 : ByteArray) : ∃ k, vicinagelaw27_ScriptParses.f k a0 = some true := by
  refine ⟨20000000, ?_⟩
  unfold vicinagelaw27_ScriptParses.f
  by_cases hb : (a0.size : Int) > 1048676
  · rw [if_pos hb, vicinagelaw27_known.f]
    rfl
  · rw [if_neg hb, rparse a0 (by omega), script_Parse.f]
    obtain ⟨K, hK⟩ : ∃ K : Nat, K = 20000000 := ⟨_, rfl⟩
    rw [← hK]
    simp only [Option.bind_some, tup, if_true]
    obtain ⟨k, rfl⟩ : ∃ j, K = j + 1 := ⟨K - 1, by omega⟩
    rw [bne_self_eq_false, vicinagelaw27_ScriptParses.j0, if_neg (by simp)]
    have hl := parsed_len a0.data.toList
    exact parses_l0 _ (parsed_again _) (by omega) (parsed a0.data.toList).1.length 0 k (by omega) (by omega)
end Go.Proofs.YtdfaljcdphbgdaaGreatDoor.PL
