/- Plain laws: the pieces of strings.Split, and the printed May. -/
import Derived.Test.YtdfaljcdphbgdaaGreatDoorPlain
import Derived.Lib.Split
import Derived.Lib.IndexBytes
import Derived.Lib.IndexLaws
import Derived.Lib.SplitLaws
import Derived.Test.YtdfaljcdphbgdaaGreatDoorPRefx7
namespace Go.Proofs.YtdfaljcdphbgdaaGreatDoor.SP
set_option linter.unusedVariables false
set_option linter.unusedSimpArgs false

def nibs : B → Option (List Nat)
  | [] => some []
  | c :: r => (unhd c).bind fun x => (nibs r).map fun t => x :: t

theorem nibs_snoc : ∀ (l : B) (d : List Nat) (c : UInt8) (k : Nat), nibs l = some d → unhd c = some k → nibs (l ++ [c]) = some (d ++ [k])
  | [], d, c, k, h, hc => by simp [nibs] at h; subst h; simp [nibs, hc]
  | a :: r, d, c, k, h, hc => by
    simp only [nibs, Option.bind_eq_some_iff, Option.map_eq_some_iff] at h
    obtain ⟨x, hx, t, ht, rfl⟩ := h
    rw [List.cons_append, nibs, hx, nibs_snoc r t c k ht hc]; rfl

theorem nibs_length : ∀ (l : B) (d : List Nat), nibs l = some d → d.length = l.length
  | [], d, h => by simp [nibs] at h; simp [h]
  | a :: r, d, h => by
    simp only [nibs, Option.bind_eq_some_iff, Option.map_eq_some_iff] at h
    obtain ⟨x, _, t, ht, rfl⟩ := h
    simp [nibs_length r t ht]

theorem nibs_lt : ∀ (l : B) (d : List Nat), nibs l = some d → ∀ x ∈ d, x < 16
  | [], d, h, x, hx => by simp [nibs] at h; subst h; simp at hx
  | a :: r, d, h, x, hx => by
    simp only [nibs, Option.bind_eq_some_iff, Option.map_eq_some_iff] at h
    obtain ⟨y, hy, t, ht, rfl⟩ := h
    rcases List.mem_cons.1 hx with rfl | hx
    · exact (hd_unhd hy).1
    · exact nibs_lt r t ht x hx

/-- what stands at a place of the bytes when the digits d have been read -/
def pcell (d : List Nat) (i : Nat) : Nat := if 2 * i + 1 < d.length then d.getD (2 * i) 0 * 16 + d.getD (2 * i + 1) 0 else if 2 * i < d.length then d.getD (2 * i) 0 else 0

theorem pcell_snoc_other (d : List Nat) (k i : Nat) (h : i ≠ d.length / 2) : pcell (d ++ [k]) i = pcell d i := by
  unfold pcell
  simp only [List.length_append, List.length_cons, List.length_nil]
  by_cases h1 : 2 * i + 1 < d.length
  · rw [if_pos h1, if_pos (by omega)]
    simp [List.getD, List.getElem?_append_left (show 2 * i < d.length by omega), List.getElem?_append_left (show 2 * i + 1 < d.length by omega)]
  · rw [if_neg h1, if_neg (by omega), if_neg (by omega), if_neg (by omega)]

theorem pcell_even (d : List Nat) (k : Nat) (h : d.length % 2 = 0) : pcell d (d.length / 2) = 0 ∧ pcell (d ++ [k]) (d.length / 2) = k := by
  unfold pcell
  simp only [List.length_append, List.length_cons, List.length_nil]
  have e : 2 * (d.length / 2) = d.length := by omega
  rw [e]
  refine ⟨by rw [if_neg (by omega), if_neg (by omega)], ?_⟩
  rw [if_neg (by omega), if_pos (by omega)]
  simp [List.getD]

theorem pcell_odd (d : List Nat) (k : Nat) (h : d.length % 2 = 1) : pcell (d ++ [k]) (d.length / 2) = pcell d (d.length / 2) * 16 + k ∧ pcell d (d.length / 2) = d.getD (2 * (d.length / 2)) 0 := by
  unfold pcell
  simp only [List.length_append, List.length_cons, List.length_nil]
  have e : 2 * (d.length / 2) + 1 = d.length := by omega
  rw [e]
  rw [if_pos (by omega), if_neg (by omega), if_pos (by omega)]
  refine ⟨?_, rfl⟩
  have : 2 * (d.length / 2) < d.length := by omega
  simp [List.getD, List.getElem?_append_left this]

theorem pcell_lt (d : List Nat) (hd : ∀ x ∈ d, x < 16) (i : Nat) : pcell d i < 256 ∧ (d.length % 2 = 1 → pcell d (d.length / 2) < 16) := by
  have hg : ∀ j, d.getD j 0 < 16 := by
    intro j
    rw [List.getD]
    cases h : d[j]? with
    | none => simp
    | some y => simpa using hd y (List.mem_of_getElem? h)
  refine ⟨?_, fun h => by rw [(pcell_odd d 0 h).2]; exact hg _⟩
  unfold pcell
  have h1 := hg (2 * i); have h2 := hg (2 * i + 1)
  split
  · omega
  · split <;> omega

theorem unpairs_nibs : ∀ (l : B) (d : List Nat), nibs l = some d → l.length % 2 = 0 → unpairs l = some ((List.range (l.length / 2)).map fun i => UInt8.ofNat (pcell d i))
  | [], d, h, _ => by simp [unpairs]
  | [_], _, _, h => by simp at h
  | a :: b :: r, d, h, he => by
    simp only [nibs, Option.bind_eq_some_iff, Option.map_eq_some_iff] at h
    obtain ⟨x, hx, t, ⟨y, hy, u, hu, rfl⟩, rfl⟩ := h
    have hl := nibs_length r u hu
    have ih := unpairs_nibs r u hu (by simp at he; omega)
    simp only [unpairs, hx, hy, ih, Option.bind_some, Option.map_some, Option.some.injEq]
    have e0 : (a :: b :: r).length / 2 = r.length / 2 + 1 := by
      simp only [List.length_cons]; omega
    rw [e0, List.range_succ_eq_map, List.map_cons, List.map_map]
    congr 1
    refine List.map_congr_left fun i _ => ?_
    simp only [Function.comp_apply]
    congr 1
    unfold pcell
    simp only [List.length_cons, List.getD]
    rw [show 2 * (i + 1) + 1 = 2 * i + 1 + 1 + 1 by omega, show 2 * (i + 1) = 2 * i + 1 + 1 by omega]
    simp only [List.getElem?_cons_succ]
    have e1 : (2 * i + 1 + 1 + 1 < u.length + 1 + 1) = (2 * i + 1 < u.length) := by simp
    have e2 : (2 * i + 1 + 1 < u.length + 1 + 1) = (2 * i < u.length) := by simp
    simp only [e1, e2]

theorem unpairs_bad : ∀ (l : B) (c : UInt8), c ∈ l → unhd c = none → unpairs l = none
  | [], c, h, _ => by simp at h
  | [_], _, _, _ => rfl
  | a :: b :: r, c, h, hc => by
    simp only [unpairs]
    rcases List.mem_cons.1 h with rfl | h
    · rw [hc]; rfl
    · rcases List.mem_cons.1 h with rfl | h
      · rw [hc]; cases unhd a <;> rfl
      · rw [unpairs_bad r c h hc]; cases unhd a <;> cases unhd b <;> rfl

theorem unpairs_odd : ∀ l : B, l.length % 2 = 1 → unpairs l = none
  | [], h => by simp at h
  | [_], _ => rfl
  | a :: b :: r, h => by
    simp only [unpairs]
    rw [unpairs_odd r (by simp at h; omega)]; cases unhd a <;> cases unhd b <;> rfl

end Go.Proofs.YtdfaljcdphbgdaaGreatDoor.SP
namespace Go.Proofs.YtdfaljcdphbgdaaGreatDoor.SP
set_option linter.unusedVariables false
set_option linter.unusedSimpArgs false

theorem index_hit1 (c : UInt8) : ∀ (a b : B), c ∉ a → Lib.index (a ++ c :: b) [c] = (a.length : Nat)
  | [], b, _ => by simp [Lib.index_one, Lib.indexByte]
  | x :: r, b, h => by
    have h1 : x ≠ c := fun e => h (by simp [e])
    have h2 : c ∉ r := fun e => h (by simp [e])
    have ih := index_hit1 c r b h2
    rw [Lib.index_one] at ih ⊢
    rw [List.cons_append, Lib.indexByte, if_neg (by simpa using h1), ih, if_neg (by simp)]
    simp

theorem index_miss1 (c : UInt8) : ∀ (a : B), c ∉ a → Lib.index a [c] = -1
  | [], _ => by simp [Lib.index_one, Lib.indexByte]
  | x :: r, h => by
    have h1 : x ≠ c := fun e => h (by simp [e])
    have h2 : c ∉ r := fun e => h (by simp [e])
    have ih := index_miss1 c r h2
    rw [Lib.index_one] at ih ⊢
    rw [Lib.indexByte, if_neg (by simpa using h1), ih]
    simp

theorem first_of (c : UInt8) : ∀ (s : B), c ∈ s → ∃ a b, s = a ++ c :: b ∧ c ∉ a
  | [], h => by simp at h
  | x :: r, h => by
    by_cases e : x = c
    · exact ⟨[], r, by simp [e], by simp⟩
    · obtain ⟨a, b, hab, hn⟩ := first_of c r (by simpa [Ne.symm e] using h)
      exact ⟨x :: a, b, by simp [hab], by simp [Ne.symm e, hn]⟩

theorem splitK_cut (c : UInt8) (n : Nat) : ∀ (s : B), s.length ≤ n → Lib.splitK [c] 0 (Lib.count s [c]) s = cut c s := by
  induction n with
  | zero =>
    intro s h
    have : s = [] := List.length_eq_zero_iff.1 (by omega)
    subst this
    rw [Lib.count_miss (index_miss1 c [] (by simp))]
    simp [Lib.splitK, cut]
  | succ n ih =>
    intro s h
    by_cases hm : c ∈ s
    · obtain ⟨a, b, rfl, hn⟩ := first_of c s hm
      have hi := index_hit1 c a b hn
      have hd : (a ++ c :: b).drop (a.length + 1) = b := by
        rw [show a ++ c :: b = (a ++ [c]) ++ b by simp, show a.length + 1 = (a ++ [c]).length by simp, List.drop_left]
      have hc := Lib.count_hit (s := a ++ c :: b) (sub := [c]) (i := a.length) (by simp) hi
      rw [show [c].length = 1 from rfl, hd] at hc
      rw [hc, Nat.add_comm, Lib.splitK, hi, if_neg (by simp)]
      rw [cut_append c a b hn]
      have e : ((a.length : Nat) : Int).toNat = a.length := by omega
      rw [e, show [c].length = 1 from rfl, hd, ih b (by simp at h; omega)]
      simp
    · rw [Lib.count_miss (index_miss1 c s hm), cut_none c s hm]
      rfl

/-- the pieces as texts -/
def pieces (c : UInt8) (s : ByteArray) : List ByteArray := Lib.splitB ⟨#[c]⟩ 0 (Lib.countB s ⟨#[c]⟩) s
theorem pieces_cut (c : UInt8) (s : ByteArray) : (pieces c s).map (·.data.toList) = cut c s.data.toList := by
  rw [pieces, Lib.splitB_data]
  exact splitK_cut c _ _ (Nat.le_refl _)
theorem pieces_length (c : UInt8) (s : ByteArray) : (pieces c s).length = Lib.countB s ⟨#[c]⟩ + 1 :=
  Lib.splitB_all ⟨#[c]⟩ (by simp [ByteArray.size]) 0 _ s rfl

theorem cut_length (c : UInt8) : ∀ s : B, (cut c s).length ≤ s.length + 1
  | [] => by simp [cut]
  | x :: r => by
    have ih := cut_length c r
    unfold cut
    split
    · simp; omega
    · split
      · simp
      · rename_i y ys h; rw [h] at ih; simp at ih ⊢; omega
theorem cut_each (c : UInt8) : ∀ s : B, ∀ w ∈ cut c s, w.length ≤ s.length
  | [], w, h => by simp [cut] at h; simp [h]
  | x :: r, w, h => by
    have ih := cut_each c r
    unfold cut at h
    split at h
    · rcases List.mem_cons.1 h with rfl | h
      · simp
      · have := ih w h; simp; omega
    · split at h
      · simp at h; subst h; simp
      · rename_i y ys hr
        rcases List.mem_cons.1 h with rfl | h
        · have := ih y (by rw [hr]; simp); simp; omega
        · have := ih w (by rw [hr]; simp [h]); simp; omega

theorem hexW_ge (l : B) : l.length ≤ (hexW l).length := by
  unfold hexW
  cases l with
  | nil => simp
  | cons b r =>
    simp only [List.isEmpty_cons, Bool.false_eq_true, if_false]
    have : ∀ m : B, (m.flatMap fun b => [hd (b.toNat / 16), hd (b.toNat % 16)]).length = 2 * m.length := by
      intro m; induction m with
      | nil => rfl
      | cons x m ih => rw [List.flatMap_cons, List.length_append, ih]; simp; omega
    rw [this]; omega
theorem hexOf_len {w l : B} (h : hexOf w = some l) : l.length ≤ w.length := by
  have := hexW_ge l
  rw [hexOf_hexW h] at this
  exact this

/-! ### what is read of words, word by word -/
theorem read_feed {x : B} (h : x = wFeed) (t : List B) : read (x :: t) = match t with | [a, b] => (numOf a).bind fun n => (hexOf b).map fun l => ⟨1, n, l, []⟩ | _ => none := by
  subst h; simp only [read, if_true]; rfl
theorem read_arm {x : B} (h : x = wArm) (t : List B) : read (x :: t) = match t with | [a] => (numOf a).map fun n => ⟨2, n, [], []⟩ | _ => none := by
  subst h; simp only [read, if_neg (show ¬ wArm = wFeed by decide), if_true]; rfl
theorem read_crash {x : B} (h : x = wCrash) (t : List B) : read (x :: t) = match t with | b :: r => (hexOf b).bind fun l => (nums r).map fun g => ⟨3, 0, l, g⟩ | [] => none := by
  subst h; simp only [read, if_neg (show ¬ wCrash = wFeed by decide), if_neg (show ¬ wCrash = wArm by decide), if_true]; rfl
theorem read_census {x : B} (h : x = wCensus) (t : List B) : read (x :: t) = match t with | [] => some ⟨4, 0, [], []⟩ | _ => none := by
  subst h; simp only [read, if_neg (show ¬ wCensus = wFeed by decide), if_neg (show ¬ wCensus = wArm by decide), if_neg (show ¬ wCensus = wCrash by decide), if_true]; rfl
theorem read_else {x : B} (h1 : x ≠ wFeed) (h2 : x ≠ wArm) (h3 : x ≠ wCrash) (h4 : x ≠ wCensus) (t : List B) : read (x :: t) = none := by
  simp only [read, if_neg h1, if_neg h2, if_neg h3, if_neg h4]

/-! ### the printed May -/
open Go.RowKit Go.Proofs.YtdfaljcdphbgdaaGreatDoor.PRef Go.Proofs.YtdfaljcdphbgdaaGreatDoorW.PrintWords Go.Proofs.YtdfaljcdphbgdaaGreatDoorW.PrintLast Go.Proofs.YtdfaljcdphbgdaaGreatDoorW.PrintMore
theorem wrap64_small {n : Int} (h : -9223372036854775808 ≤ n) (h2 : n ≤ 9223372036854775807) : wrap64 n = n := by unfold wrap64; omega
def nums8 (l : B) : List Int := l.map fun b => (b.toNat : Int)

theorem may_l0 (kind n : Int) (bs ag : List Int) (hb : bs.length ≤ 60000) (ha : ag.length ≤ 8) (h0 : 0 ≤ n) (h1 : n ≤ 1073741824) :
    ∀ (m i k : Nat), ag.length = i + m → m < k → script_May.l0 k ag (ag.length : Int) (i : Int) kind n bs ag =
      some ((ag.drop i).all inOps && (if kind = 1 then decide (n ≤ 7) && ag.isEmpty else if kind = 2 then bs.isEmpty && ag.isEmpty else if kind = 3 then decide (n = 0) else if kind = 4 then decide (n = 0) && bs.isEmpty && ag.isEmpty else false))
  | 0, i, k + 1, hl, _ => by
    rw [script_May.l0, if_neg (by omega)]
    have hd : ag.drop i = [] := List.drop_eq_nil_iff.2 (by omega)
    rw [hd]
    have e1 : ((ag.length : Int) == 0) = ag.isEmpty := by cases ag <;> simp <;> omega
    have e2 : wrap64 ((bs.length : Int) + ag.length) = (bs.length : Int) + ag.length := wrap64_small (by omega) (by omega)
    have e3 : wrap64 (n + bs.length) = n + bs.length := wrap64_small (by omega) (by omega)
    have e4 : wrap64 (n + bs.length + ag.length) = n + bs.length + ag.length := wrap64_small (by omega) (by omega)
    have e5 : ((bs.length : Int) + ag.length == 0) = (bs.isEmpty && ag.isEmpty) := by cases bs <;> cases ag <;> simp <;> omega
    have e6 : (n + bs.length + ag.length == 0) = (decide (n = 0) && bs.isEmpty && ag.isEmpty) := by
      cases bs <;> cases ag <;> simp <;> (first | omega | (rw [Bool.eq_iff_iff]; simp))
    have e7 : (n == 0) = decide (n = 0) := rfl
    rw [e3, e4, e2, e5, e6, e7, e1]
    by_cases k1 : kind = 1
    · simp only [if_pos k1, List.all_nil, Bool.true_and]
      by_cases h7 : n ≤ 7
      · rw [if_pos (by omega), decide_eq_true h7]; simp
      · rw [if_neg (by omega), decide_eq_false h7]; simp
    · simp only [if_neg k1, List.all_nil, Bool.true_and]
      split
      · rfl
      · split
        · rfl
        · split <;> rfl
  | m + 1, i, k + 1, hl, hk => by
    rw [script_May.l0, if_pos (by omega), if_pos (by omega), if_pos (by omega)]
    have hi : i < ag.length := by omega
    have hr : rd ag (i : Int) = ag[i] := by simp [rd, hi]
    have hd : ag.drop i = ag[i] :: ag.drop (i + 1) := (List.drop_eq_getElem_cons hi)
    have e : wrap64 ((i : Int) + 1) = ((i + 1 : Nat) : Int) := by rw [wrap64_small (by omega) (by omega)]; omega
    rw [hr, hd, List.all_cons]
    by_cases c1 : ag[i] < 0
    · rw [if_pos c1]
      have : inOps ag[i] = false := by simp [inOps]; omega
      rw [this]; rfl
    · rw [if_neg c1]
      by_cases c2 : ag[i] > 1073741824
      · rw [if_pos c2]
        have : inOps ag[i] = false := by simp [inOps]; omega
        rw [this]; rfl
      · rw [if_neg c2, e, may_l0 kind n bs ag hb ha h0 h1 m (i + 1) k (by omega) (by omega)]
        have : inOps ag[i] = true := by simp [inOps]; omega
        rw [this]; rfl

theorem may_printed (x : Deed) : script_May.f 20 x.kind x.n (nums8 x.bytes) x.again = some (may x) := by
  have e0 : (nums8 x.bytes).length = x.bytes.length := by simp [nums8]
  have e1 : (nums8 x.bytes).isEmpty = x.bytes.isEmpty := by cases h : x.bytes <;> simp [nums8]
  unfold script_May.f may
  rw [e0]
  by_cases c1 : (x.bytes.length : Int) > 60000
  · rw [if_pos c1, script_May.j0, if_pos rfl, decide_eq_false (by omega)]; simp
  · rw [if_neg c1, decide_eq_true (show x.bytes.length ≤ 60000 by omega)]
    by_cases c2 : (x.again.length : Int) > 8
    · rw [if_pos c2, script_May.j0, if_pos rfl, decide_eq_false (show ¬ x.again.length ≤ 8 by omega)]; simp
    · rw [if_neg c2, decide_eq_true (show x.again.length ≤ 8 by omega)]
      by_cases c3 : x.n < 0
      · rw [if_pos c3, script_May.j0, if_pos rfl]
        have : inOps x.n = false := by simp [inOps]; omega
        rw [this]; simp
      · rw [if_neg c3]
        by_cases c4 : x.n > 1073741824
        · rw [decide_eq_true c4, script_May.j0, if_pos rfl]
          have : inOps x.n = false := by simp [inOps]; omega
          rw [this]; simp
        · rw [decide_eq_false c4, script_May.j0, if_neg (by simp)]
          have : inOps x.n = true := by simp [inOps]; omega
          rw [this]
          have := may_l0 x.kind x.n (nums8 x.bytes) x.again (by omega) (by omega) (by omega) (by omega) x.again.length 0 19 (by omega) (by omega)
          rw [Int.natCast_zero] at this
          rw [this, e1]
          simp

end Go.Proofs.YtdfaljcdphbgdaaGreatDoor.SP
