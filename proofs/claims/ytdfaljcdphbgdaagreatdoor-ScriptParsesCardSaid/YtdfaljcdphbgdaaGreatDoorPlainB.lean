/- Plain laws on words of sixteen digits, read digit by digit. -/
import Derived.Test.YtdfaljcdphbgdaaGreatDoorPlain
namespace Go.Proofs.YtdfaljcdphbgdaaGreatDoor.SP
set_option linter.unusedVariables false
set_option linter.unusedSimpArgs false

def nibs : B → Option (List Nat)
  | [] => some []
  | c :: r => (unhd c).bind fun x => (nibs r).map fun t => x :: t

theorem nibs_snoc : ∀ (l : B) (d : List Nat) (c : UInt8) (k : Nat), nibs l = some d → unhd c = some k → nibs (l ++ [c]) = some (d ++ [k])
  | [], d, c, k, h, hc => by simp [nibs] at h; subst h; simp [nibs, hc]
  | a :: r, d, c, k, h, hc => by
    simp only [nibs, Option.bind_eq_some_iff, Option.map_eq_some_iff] at h
    obtain ⟨x, hx, t, ht, rfl⟩ := h
    rw [List.cons_append, nibs, hx, nibs_snoc r t c k ht hc]; rfl

theorem nibs_length : ∀ (l : B) (d : List Nat), nibs l = some d → d.length = l.length
  | [], d, h => by simp [nibs] at h; simp [h]
  | a :: r, d, h => by
    simp only [nibs, Option.bind_eq_some_iff, Option.map_eq_some_iff] at h
    obtain ⟨x, _, t, ht, rfl⟩ := h
    simp [nibs_length r t ht]

theorem nibs_lt : ∀ (l : B) (d : List Nat), nibs l = some d → ∀ x ∈ d, x < 16
  | [], d, h, x, hx => by simp [nibs] at h; subst h; simp at hx
  | a :: r, d, h, x, hx => by
    simp only [nibs, Option.bind_eq_some_iff, Option.map_eq_some_iff] at h
    obtain ⟨y, hy, t, ht, rfl⟩ := h
    rcases List.mem_cons.1 hx with rfl | hx
    · exact (hd_unhd hy).1
    · exact nibs_lt r t ht x hx

/-- what stands at a place of the bytes when the digits d have been read -/
def pcell (d : List Nat) (i : Nat) : Nat := if 2 * i + 1 < d.length then d.getD (2 * i) 0 * 16 + d.getD (2 * i + 1) 0 else if 2 * i < d.length then d.getD (2 * i) 0 else 0

theorem pcell_snoc_other (d : List Nat) (k i : Nat) (h : i ≠ d.length / 2) : pcell (d ++ [k]) i = pcell d i := by
  unfold pcell
  simp only [List.length_append, List.length_cons, List.length_nil]
  by_cases h1 : 2 * i + 1 < d.length
  · rw [if_pos h1, if_pos (by omega)]
    simp [List.getD, List.getElem?_append_left (show 2 * i < d.length by omega), List.getElem?_append_left (show 2 * i + 1 < d.length by omega)]
  · rw [if_neg h1, if_neg (by omega), if_neg (by omega), if_neg (by omega)]

theorem pcell_even (d : List Nat) (k : Nat) (h : d.length % 2 = 0) : pcell d (d.length / 2) = 0 ∧ pcell (d ++ [k]) (d.length / 2) = k := by
  unfold pcell
  simp only [List.length_append, List.length_cons, List.length_nil]
  have e : 2 * (d.length / 2) = d.length := by omega
  rw [e]
  refine ⟨by rw [if_neg (by omega), if_neg (by omega)], ?_⟩
  rw [if_neg (by omega), if_pos (by omega)]
  simp [List.getD]

theorem pcell_odd (d : List Nat) (k : Nat) (h : d.length % 2 = 1) : pcell (d ++ [k]) (d.length / 2) = pcell d (d.length / 2) * 16 + k ∧ pcell d (d.length / 2) = d.getD (2 * (d.length / 2)) 0 := by
  unfold pcell
  simp only [List.length_append, List.length_cons, List.length_nil]
  have e : 2 * (d.length / 2) + 1 = d.length := by omega
  rw [e]
  rw [if_pos (by omega), if_neg (by omega), if_pos (by omega)]
  refine ⟨?_, rfl⟩
  have : 2 * (d.length / 2) < d.length := by omega
  simp [List.getD, List.getElem?_append_left this]

theorem pcell_lt (d : List Nat) (hd : ∀ x ∈ d, x < 16) (i : Nat) : pcell d i < 256 ∧ (d.length % 2 = 1 → pcell d (d.length / 2) < 16) := by
  have hg : ∀ j, d.getD j 0 < 16 := by
    intro j
    rw [List.getD]
    cases h : d[j]? with
    | none => simp
    | some y => simpa using hd y (List.mem_of_getElem? h)
  refine ⟨?_, fun h => by rw [(pcell_odd d 0 h).2]; exact hg _⟩
  unfold pcell
  have h1 := hg (2 * i); have h2 := hg (2 * i + 1)
  split
  · omega
  · split <;> omega

theorem unpairs_nibs : ∀ (l : B) (d : List Nat), nibs l = some d → l.length % 2 = 0 → unpairs l = some ((List.range (l.length / 2)).map fun i => UInt8.ofNat (pcell d i))
  | [], d, h, _ => by simp [unpairs]
  | [_], _, _, h => by simp at h
  | a :: b :: r, d, h, he => by
    simp only [nibs, Option.bind_eq_some_iff, Option.map_eq_some_iff] at h
    obtain ⟨x, hx, t, ⟨y, hy, u, hu, rfl⟩, rfl⟩ := h
    have hl := nibs_length r u hu
    have ih := unpairs_nibs r u hu (by simp at he; omega)
    simp only [unpairs, hx, hy, ih, Option.bind_some, Option.map_some, Option.some.injEq]
    have e0 : (a :: b :: r).length / 2 = r.length / 2 + 1 := by
      simp only [List.length_cons]; omega
    rw [e0, List.range_succ_eq_map, List.map_cons, List.map_map]
    congr 1
    refine List.map_congr_left fun i _ => ?_
    simp only [Function.comp_apply]
    congr 1
    unfold pcell
    simp only [List.length_cons, List.getD]
    rw [show 2 * (i + 1) + 1 = 2 * i + 1 + 1 + 1 by omega, show 2 * (i + 1) = 2 * i + 1 + 1 by omega]
    simp only [List.getElem?_cons_succ]
    have e1 : (2 * i + 1 + 1 + 1 < u.length + 1 + 1) = (2 * i + 1 < u.length) := by simp
    have e2 : (2 * i + 1 + 1 < u.length + 1 + 1) = (2 * i < u.length) := by simp
    simp only [e1, e2]

theorem unpairs_bad : ∀ (l : B) (c : UInt8), c ∈ l → unhd c = none → unpairs l = none
  | [], c, h, _ => by simp at h
  | [_], _, _, _ => rfl
  | a :: b :: r, c, h, hc => by
    simp only [unpairs]
    rcases List.mem_cons.1 h with rfl | h
    · rw [hc]; rfl
    · rcases List.mem_cons.1 h with rfl | h
      · rw [hc]; cases unhd a <;> rfl
      · rw [unpairs_bad r c h hc]; cases unhd a <;> cases unhd b <;> rfl

theorem unpairs_odd : ∀ l : B, l.length % 2 = 1 → unpairs l = none
  | [], h => by simp at h
  | [_], _ => rfl
  | a :: b :: r, h => by
    simp only [unpairs]
    rw [unpairs_odd r (by simp at h; omega)]; cases unhd a <;> cases unhd b <;> rfl

end Go.Proofs.YtdfaljcdphbgdaaGreatDoor.SP
