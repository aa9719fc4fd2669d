/- Plain laws on the lines of a script: what a deed's line is, and which deed a line says. No program stands in this text. -/
import Derived.Lib.ItoaNum
import Derived.Lib.AtoiAll
import Derived.Lib.AtoiAllCases
import Derived.Lib.Join
namespace Go.Proofs.YtdfaljcdphbgdaaGreatDoor.SP
set_option linter.unusedVariables false
set_option linter.unusedSimpArgs false

abbrev B := List UInt8

structure Deed where
  kind : Int
  n : Int
  bytes : B
  again : List Int

def inOps (n : Int) : Bool := decide (0 ≤ n) && decide (n ≤ 1073741824)

def may (x : Deed) : Bool :=
  decide (x.bytes.length ≤ 60000) && decide (x.again.length ≤ 8) && inOps x.n && x.again.all inOps &&
  (if x.kind = 1 then decide (x.n ≤ 7) && x.again.isEmpty
   else if x.kind = 2 then x.bytes.isEmpty && x.again.isEmpty
   else if x.kind = 3 then decide (x.n = 0)
   else if x.kind = 4 then decide (x.n = 0) && x.bytes.isEmpty && x.again.isEmpty
   else false)

/-- a digit of sixteen, as a byte -/
def hd (d : Nat) : UInt8 := if d < 10 then UInt8.ofNat (48 + d) else UInt8.ofNat (87 + d)
def hexW (l : B) : B := if l.isEmpty then [45] else l.flatMap fun b => [hd (b.toNat / 16), hd (b.toNat % 16)]

def wFeed : B := [102, 101, 101, 100]
def wArm : B := [97, 114, 109]
def wCrash : B := [99, 114, 97, 115, 104]
def wCensus : B := [99, 101, 110, 115, 117, 115]

/-- the words of a deed's line -/
def wordsOf (x : Deed) : List B :=
  if x.kind = 1 then [wFeed, Lib.itoa x.n, hexW x.bytes]
  else if x.kind = 2 then [wArm, Lib.itoa x.n]
  else if x.kind = 3 then wCrash :: hexW x.bytes :: x.again.map Lib.itoa
  else [wCensus]

def joinSp (ws : List B) : B := Lib.join ws [32]
def line (x : Deed) : B := joinSp (wordsOf x)

/-! ### cutting and joining -/
def cut (c : UInt8) : B → List B
  | [] => [[]]
  | x :: r => if x = c then [] :: cut c r else
    match cut c r with
    | [] => [[x]]
    | y :: ys => (x :: y) :: ys

theorem cut_ne (c : UInt8) : ∀ l, cut c l ≠ []
  | [] => by simp [cut]
  | x :: r => by
    unfold cut
    split
    · simp
    · split <;> simp

theorem cut_none (c : UInt8) : ∀ l : B, c ∉ l → cut c l = [l]
  | [], _ => rfl
  | x :: r, h => by
    have h1 : x ≠ c := fun e => h (by simp [e])
    have h2 : c ∉ r := fun e => h (by simp [e])
    unfold cut
    rw [if_neg h1, cut_none c r h2]

theorem cut_append (c : UInt8) : ∀ (a b : B), c ∉ a → cut c (a ++ c :: b) = a :: cut c b
  | [], b, _ => by simp [cut]
  | x :: r, b, h => by
    have h1 : x ≠ c := fun e => h (by simp [e])
    have h2 : c ∉ r := fun e => h (by simp [e])
    rw [List.cons_append, cut, if_neg h1, cut_append c r b h2]

theorem join_cons2 (x y : B) (r : List B) (sep : B) : Lib.join (x :: y :: r) sep = x ++ sep ++ Lib.join (y :: r) sep := by
  simp [Lib.join, List.intercalate]

theorem cut_join (c : UInt8) : ∀ (ws : List B), ws ≠ [] → (∀ w ∈ ws, c ∉ w) → cut c (Lib.join ws [c]) = ws
  | [], h, _ => absurd rfl h
  | [x], _, h => by rw [Lib.join_one]; exact cut_none c x (h x (by simp))
  | x :: y :: r, _, h => by
    rw [join_cons2, List.append_assoc, List.singleton_append, cut_append c x _ (h x (by simp)), cut_join c (y :: r) (by simp) (fun w hw => h w (by simp [hw]))]

theorem join_cut (c : UInt8) : ∀ l : B, Lib.join (cut c l) [c] = l
  | [] => by simp [cut, Lib.join_one]
  | x :: r => by
    unfold cut
    split
    · rename_i h
      have ih := join_cut c r
      cases hr : cut c r with
      | nil => exact absurd hr (cut_ne c r)
      | cons y ys => rw [hr] at ih; rw [join_cons2, ih, h]; rfl
    · have ih := join_cut c r
      split
      · rename_i hr; exact absurd hr (cut_ne c r)
      · rename_i y ys hr
        rw [hr] at ih
        cases ys with
        | nil => rw [Lib.join_one] at ih ⊢; rw [ih]
        | cons z zs => rw [join_cons2] at ih ⊢; rw [← ih]; simp

theorem cut_mem (c : UInt8) : ∀ (l : B) (w : B), w ∈ cut c l → c ∉ w
  | [], w, h => by simp [cut] at h; simp [h]
  | x :: r, w, h => by
    unfold cut at h
    split at h
    · rcases List.mem_cons.1 h with rfl | h
      · simp
      · exact cut_mem c r w h
    · rename_i hx
      split at h
      · simp at h; subst h; simp [Ne.symm hx]
      · rename_i y ys hr
        rcases List.mem_cons.1 h with rfl | h
        · have := cut_mem c r y (by rw [hr]; simp)
          simp [Ne.symm hx, this]
        · exact cut_mem c r w (by rw [hr]; simp [h])

/-! ### numbers -/
def numOf (w : B) : Option Int :=
  match Lib.atoiAll w with
  | .ok n => if Lib.itoa n = w then some n else none
  | _ => none

theorem numOf_itoa {w : B} {n : Int} (h : numOf w = some n) : Lib.itoa n = w := by
  unfold numOf at h
  split at h
  · split at h
    · rename_i h2; cases h; exact h2
    · cases h
  · cases h

theorem dig_toNat (d : Nat) (h : d < 10) : (UInt8.ofNat (48 + d)).toNat = 48 + d := by
  rw [UInt8.toNat_ofNat']; omega

theorem parse_append : ∀ (l : B) (acc d v : Nat), d < 10 → Lib.parseUint10 acc l = .ok v → v < 1844674407370955161 → Lib.parseUint10 acc (l ++ [UInt8.ofNat (48 + d)]) = .ok (v * 10 + d)
  | [], acc, d, v, hd, h, hv => by
    simp only [Lib.parseUint10] at h
    cases h
    rw [List.nil_append, Lib.parseUint10, dig_toNat d hd, if_pos (by omega), if_neg (by omega), if_neg (by omega), Lib.parseUint10]
    congr 1; omega
  | c :: r, acc, d, v, hd, h, hv => by
    rw [Lib.parseUint10] at h
    rw [List.cons_append, Lib.parseUint10]
    by_cases h1 : 48 ≤ c.toNat ∧ c.toNat ≤ 57
    · rw [if_pos h1] at h ⊢
      by_cases h2 : 1844674407370955162 ≤ acc
      · rw [if_pos h2] at h; cases h
      · rw [if_neg h2] at h ⊢
        by_cases h3 : 18446744073709551616 ≤ acc * 10 + (c.toNat - 48)
        · rw [if_pos h3] at h; cases h
        · rw [if_neg h3] at h ⊢
          exact parse_append r _ d v hd h hv
    · rw [if_neg h1] at h; cases h

theorem parse_decDigits (u : Nat) : u < 18446744073709551610 → Lib.parseUint10 0 (Lib.decDigits u) = .ok u := by
  induction u using Nat.strongRecOn with
  | _ u ih =>
    intro hu
    rw [Lib.decDigits]
    by_cases h : u < 10
    · rw [dif_pos h, Lib.parseUint10, dig_toNat u h, if_pos (by omega), if_neg (by omega), if_neg (by omega), Lib.parseUint10]
      congr 1; omega
    · rw [dif_neg h, parse_append _ 0 (u % 10) (u / 10) (by omega) (ih (u / 10) (by omega) (by omega)) (by omega)]
      congr 1; omega

theorem decDigits_digits (u : Nat) : ∀ c ∈ Lib.decDigits u, 48 ≤ c.toNat ∧ c.toNat ≤ 57 := by
  induction u using Nat.strongRecOn with
  | _ u ih =>
    intro c hc
    rw [Lib.decDigits] at hc
    by_cases h : u < 10
    · rw [dif_pos h] at hc
      simp only [List.mem_singleton] at hc
      subst hc; rw [dig_toNat u h]; omega
    · rw [dif_neg h] at hc
      rcases List.mem_append.1 hc with hc | hc
      · exact ih (u / 10) (by omega) c hc
      · simp only [List.mem_singleton] at hc
        subst hc; rw [dig_toNat _ (by omega)]; omega

theorem decDigits_ne (u : Nat) : Lib.decDigits u ≠ [] := by
  have := Lib.decDigits_length u
  have h2 := Lib.nDigits_pos u
  intro e; rw [e] at this; simp at this; omega

theorem itoa_nat (n : Int) (h : 0 ≤ n) : Lib.itoa n = Lib.decDigits n.toNat := by rw [Lib.itoa, if_neg (by omega)]

theorem atoi_itoa (n : Int) (h0 : 0 ≤ n) (h1 : n ≤ 1073741824) : Lib.atoiAll (Lib.itoa n) = .ok n := by
  rw [itoa_nat n h0]
  have hp := parse_decDigits n.toNat (by omega)
  have hd := decDigits_digits n.toNat
  cases hl : Lib.decDigits n.toNat with
  | nil => exact absurd hl (decDigits_ne _)
  | cons c r =>
    rw [hl] at hp
    have hc := hd c (by rw [hl]; simp)
    rw [Lib.atoiAll_plain c r (by omega) (by omega), Lib.parseMag, if_neg (by simp), hp, Lib.signless]
    rw [if_neg (by omega)]
    congr 1; omega

theorem numOf_of (n : Int) (h : inOps n = true) : numOf (Lib.itoa n) = some n := by
  simp only [inOps, Bool.and_eq_true, decide_eq_true_eq] at h
  unfold numOf
  rw [atoi_itoa n h.1 h.2]
  simp

theorem itoa_no (c : UInt8) (n : Int) (h : inOps n = true) (hc : c.toNat < 48 ∨ 57 < c.toNat) : c ∉ Lib.itoa n := by
  simp only [inOps, Bool.and_eq_true, decide_eq_true_eq] at h
  rw [itoa_nat n h.1]
  intro hm
  have := decDigits_digits _ c hm
  omega

/-! ### bytes as a word -/
def unhd (c : UInt8) : Option Nat :=
  if 48 ≤ c.toNat ∧ c.toNat ≤ 57 then some (c.toNat - 48) else if 97 ≤ c.toNat ∧ c.toNat ≤ 102 then some (c.toNat - 87) else none

def unpairs : B → Option B
  | [] => some []
  | [_] => none
  | a :: b :: r => (unhd a).bind fun x => (unhd b).bind fun y => (unpairs r).map fun t => UInt8.ofNat (x * 16 + y) :: t

def hexOf (w : B) : Option B := if w = [45] then some [] else if w = [] then none else unpairs w

theorem hd_toNat (d : Nat) (h : d < 16) : (hd d).toNat = if d < 10 then 48 + d else 87 + d := by
  unfold hd
  split <;> rw [UInt8.toNat_ofNat'] <;> omega

theorem unhd_hd (d : Nat) (h : d < 16) : unhd (hd d) = some d := by
  unfold unhd
  rw [hd_toNat d h]
  by_cases h1 : d < 10
  · simp only [if_pos h1]
    rw [if_pos (by omega)]; congr 1; omega
  · simp only [if_neg h1]
    rw [if_neg (by omega), if_pos (by omega)]; congr 1; omega

theorem hd_unhd {c : UInt8} {d : Nat} (h : unhd c = some d) : d < 16 ∧ hd d = c := by
  unfold unhd at h
  have hb := c.toNat_lt
  split at h
  · cases h
    refine ⟨by omega, ?_⟩
    apply UInt8.toNat_inj.1
    rw [hd_toNat _ (by omega)]; split <;> omega
  · split at h
    · cases h
      refine ⟨by omega, ?_⟩
      apply UInt8.toNat_inj.1
      rw [hd_toNat _ (by omega)]; split <;> omega
    · cases h

theorem unpairs_hex (l : B) : unpairs (l.flatMap fun b => [hd (b.toNat / 16), hd (b.toNat % 16)]) = some l := by
  induction l with
  | nil => rfl
  | cons b r ih =>
    have hb := b.toNat_lt
    rw [List.flatMap_cons]
    simp only [List.cons_append, List.nil_append, unpairs]
    rw [unhd_hd _ (by omega), unhd_hd _ (by omega), ih]
    simp only [Option.bind_some, Option.map_some, Option.some.injEq, List.cons.injEq, and_true]
    apply UInt8.toNat_inj.1
    rw [UInt8.toNat_ofNat']; omega

theorem hex_unpairs : ∀ (w l : B), unpairs w = some l → (l.flatMap fun b => [hd (b.toNat / 16), hd (b.toNat % 16)]) = w
  | [], l, h => by simp [unpairs] at h; subst h; rfl
  | [_], l, h => by simp [unpairs] at h
  | a :: b :: r, l, h => by
    simp only [unpairs, Option.bind_eq_some_iff, Option.map_eq_some_iff] at h
    obtain ⟨x, hx, y, hy, t, ht, rfl⟩ := h
    obtain ⟨hx1, hx2⟩ := hd_unhd hx
    obtain ⟨hy1, hy2⟩ := hd_unhd hy
    have e : (UInt8.ofNat (x * 16 + y)).toNat = x * 16 + y := by rw [UInt8.toNat_ofNat']; omega
    rw [List.flatMap_cons, hex_unpairs r t ht, e, show (x * 16 + y) / 16 = x by omega, show (x * 16 + y) % 16 = y by omega, hx2, hy2]
    rfl

theorem hexOf_hexW {w l : B} (h : hexOf w = some l) : hexW l = w := by
  unfold hexOf at h
  split at h
  · rename_i e; cases h; rw [e]; rfl
  · split at h
    · cases h
    · rename_i h1 h2
      have := hex_unpairs w l h
      unfold hexW
      cases l with
      | nil => simp at this; exact absurd this h2
      | cons b r => simpa using this

theorem hexOf_of (l : B) : hexOf (hexW l) = some l := by
  unfold hexW
  cases l with
  | nil => rfl
  | cons b r =>
    have h := unpairs_hex (b :: r)
    simp only [List.isEmpty_cons, Bool.false_eq_true, if_false]
    unfold hexOf
    rw [if_neg, if_neg, h]
    · simp
    · intro e; rw [List.flatMap_cons] at e; simp at e

theorem hexW_no (c : UInt8) (l : B) (h1 : c.toNat < 45) : c ∉ hexW l := by
  unfold hexW
  cases l with
  | nil => intro h; simp at h; subst h; revert h1; decide
  | cons b r =>
    simp only [List.isEmpty_cons, Bool.false_eq_true, if_false]
    intro h
    obtain ⟨b, _, hb⟩ := List.mem_flatMap.1 h
    have hl := b.toNat_lt
    simp only [List.mem_cons, List.mem_nil_iff, or_false] at hb
    rcases hb with rfl | rfl
    · rw [hd_toNat _ (by omega)] at h1; split at h1 <;> omega
    · rw [hd_toNat _ (by omega)] at h1; split at h1 <;> omega

theorem hexW_length (l : B) : (hexW l).length ≤ 2 * l.length + 1 := by
  unfold hexW
  cases l with
  | nil => simp
  | cons b r =>
    simp only [List.isEmpty_cons, Bool.false_eq_true, if_false]
    have : ∀ m : B, (m.flatMap fun b => [hd (b.toNat / 16), hd (b.toNat % 16)]).length = 2 * m.length := by
      intro m; induction m with
      | nil => rfl
      | cons x m ih => rw [List.flatMap_cons, List.length_append, ih]; simp; omega
    rw [this]; omega

/-! ### the deed of a line -/
def nums : List B → Option (List Int)
  | [] => some []
  | w :: r => (numOf w).bind fun n => (nums r).map fun t => n :: t

theorem nums_map {ws : List B} : ∀ {l : List Int}, nums ws = some l → l.map Lib.itoa = ws := by
  induction ws with
  | nil => intro l h; simp [nums] at h; subst h; rfl
  | cons w r ih =>
    intro l h
    simp only [nums, Option.bind_eq_some_iff, Option.map_eq_some_iff] at h
    obtain ⟨n, hn, t, ht, rfl⟩ := h
    rw [List.map_cons, numOf_itoa hn, ih ht]

theorem nums_of : ∀ (l : List Int), l.all inOps = true → nums (l.map Lib.itoa) = some l
  | [], _ => rfl
  | n :: r, h => by
    rw [List.all_cons, Bool.and_eq_true] at h
    rw [List.map_cons, nums, numOf_of n h.1, nums_of r h.2]; rfl

/-- what the words of a line say, before it is asked whether it may be -/
def read : List B → Option Deed
  | h :: t =>
    if h = wFeed then match t with
      | [a, b] => (numOf a).bind fun n => (hexOf b).map fun l => ⟨1, n, l, []⟩
      | _ => none
    else if h = wArm then match t with
      | [a] => (numOf a).map fun n => ⟨2, n, [], []⟩
      | _ => none
    else if h = wCrash then match t with
      | b :: r => (hexOf b).bind fun l => (nums r).map fun g => ⟨3, 0, l, g⟩
      | [] => none
    else if h = wCensus then match t with
      | [] => some ⟨4, 0, [], []⟩
      | _ => none
    else none
  | [] => none

def unline (s : B) : Option Deed := (read (cut 32 s)).filter may

theorem read_words {ws : List B} {x : Deed} (h : read ws = some x) : wordsOf x = ws := by
  cases ws with
  | nil => simp [read] at h
  | cons a t =>
    simp only [read] at h
    by_cases h1 : a = wFeed
    · rw [if_pos h1] at h
      split at h
      · simp only [Option.bind_eq_some_iff, Option.map_eq_some_iff] at h
        obtain ⟨n, hn, l, hl, rfl⟩ := h
        simp [wordsOf, numOf_itoa hn, hexOf_hexW hl, h1]
      · cases h
    · rw [if_neg h1] at h
      by_cases h2 : a = wArm
      · rw [if_pos h2] at h
        split at h
        · simp only [Option.map_eq_some_iff] at h
          obtain ⟨n, hn, rfl⟩ := h
          simp [wordsOf, numOf_itoa hn, h2]
        · cases h
      · rw [if_neg h2] at h
        by_cases h3 : a = wCrash
        · rw [if_pos h3] at h
          split at h
          · simp only [Option.bind_eq_some_iff, Option.map_eq_some_iff] at h
            obtain ⟨l, hl, g, hg, rfl⟩ := h
            simp [wordsOf, hexOf_hexW hl, nums_map hg, h3]
          · cases h
        · rw [if_neg h3] at h
          by_cases h4 : a = wCensus
          · rw [if_pos h4] at h
            split at h
            · cases h; simp [wordsOf, h4]
            · cases h
          · rw [if_neg h4] at h; cases h

theorem may_parts {x : Deed} (h : may x = true) : x.bytes.length ≤ 60000 ∧ x.again.length ≤ 8 ∧ inOps x.n = true ∧ x.again.all inOps = true ∧
    ((x.kind = 1 ∧ x.n ≤ 7 ∧ x.again = []) ∨ (x.kind = 2 ∧ x.bytes = [] ∧ x.again = []) ∨ (x.kind = 3 ∧ x.n = 0) ∨ (x.kind = 4 ∧ x.n = 0 ∧ x.bytes = [] ∧ x.again = [])) := by
  unfold may at h
  simp only [Bool.and_eq_true, decide_eq_true_eq] at h
  obtain ⟨⟨⟨⟨h1, h2⟩, h3⟩, h4⟩, h5⟩ := h
  refine ⟨h1, h2, h3, h4, ?_⟩
  split at h5
  · rename_i e; simp at h5; exact .inl ⟨e, h5.1, h5.2⟩
  · split at h5
    · rename_i e; simp at h5; exact .inr (.inl ⟨e, h5.1, h5.2⟩)
    · split at h5
      · rename_i e; simp at h5; exact .inr (.inr (.inl ⟨e, h5⟩))
      · split at h5
        · rename_i e; simp at h5; exact .inr (.inr (.inr ⟨e, h5.1.1, h5.1.2, h5.2⟩))
        · cases h5

theorem read_of {x : Deed} (h : may x = true) : read (wordsOf x) = some x := by
  obtain ⟨_, _, h3, h4, h5⟩ := may_parts h
  obtain ⟨k, n, b, g⟩ := x
  simp only at h3 h4 h5
  have e1 : wArm ≠ wFeed := by decide
  have e2 : wCrash ≠ wFeed := by decide
  have e3 : wCrash ≠ wArm := by decide
  have e4 : wCensus ≠ wFeed := by decide
  have e5 : wCensus ≠ wArm := by decide
  have e6 : wCensus ≠ wCrash := by decide
  rcases h5 with ⟨rfl, _, rfl⟩ | ⟨rfl, rfl, rfl⟩ | ⟨rfl, rfl⟩ | ⟨rfl, rfl, rfl, rfl⟩
  · simp [wordsOf, read, numOf_of n h3, hexOf_of]
  · simp [wordsOf, read, numOf_of n h3, e1]
  · simp [wordsOf, read, hexOf_of, nums_of g h4, e2, e3]
  · simp [wordsOf, read, e4, e5, e6]

theorem words_no (x : Deed) (h : may x = true) (c : UInt8) (hc : c.toNat < 45) : ∀ w ∈ wordsOf x, c ∉ w := by
  obtain ⟨_, _, h3, h4, _⟩ := may_parts h
  have hw : ∀ l : B, l = wFeed ∨ l = wArm ∨ l = wCrash ∨ l = wCensus → c ∉ l := by
    intro l hl hm
    rcases hl with rfl | rfl | rfl | rfl <;>
    · simp only [wFeed, wArm, wCrash, wCensus, List.mem_cons, List.mem_nil_iff, or_false] at hm
      rcases hm with rfl | rfl | rfl | rfl | rfl | rfl <;> revert hc <;> decide
  intro w hm
  unfold wordsOf at hm
  split at hm
  · simp only [List.mem_cons, List.mem_nil_iff, or_false] at hm
    rcases hm with rfl | rfl | rfl
    · exact hw _ (by simp)
    · exact itoa_no c _ h3 (by omega)
    · exact hexW_no c _ hc
  · split at hm
    · simp only [List.mem_cons, List.mem_nil_iff, or_false] at hm
      rcases hm with rfl | rfl
      · exact hw _ (by simp)
      · exact itoa_no c _ h3 (by omega)
    · split at hm
      · rcases List.mem_cons.1 hm with rfl | hm
        · exact hw _ (by simp)
        · rcases List.mem_cons.1 hm with rfl | hm
          · exact hexW_no c _ hc
          · obtain ⟨n, hn, rfl⟩ := List.mem_map.1 hm
            exact itoa_no c n (List.all_eq_true.1 h4 n hn) (by omega)
      · simp only [List.mem_cons, List.mem_nil_iff, or_false] at hm
        subst hm; exact hw _ (by simp)

theorem wordsOf_ne (x : Deed) : wordsOf x ≠ [] := by
  unfold wordsOf
  split
  · simp
  · split
    · simp
    · split <;> simp

theorem unline_iff (s : B) (x : Deed) : unline s = some x ↔ may x = true ∧ line x = s := by
  unfold unline
  rw [Option.filter_eq_some_iff]
  constructor
  · rintro ⟨h1, h2⟩
    refine ⟨h2, ?_⟩
    unfold line joinSp
    rw [read_words h1, join_cut]
  · rintro ⟨h1, rfl⟩
    refine ⟨?_, h1⟩
    unfold line joinSp
    rw [cut_join 32 _ (wordsOf_ne x) (words_no x h1 32 (by decide)), read_of h1]

theorem line_inj {x y : Deed} (hx : may x = true) (hy : may y = true) (h : line x = line y) : x = y := by
  have h1 := (unline_iff (line x) x).2 ⟨hx, rfl⟩
  have h2 := (unline_iff (line x) y).2 ⟨hy, h.symm⟩
  rw [h1] at h2; exact Option.some.inj h2

end Go.Proofs.YtdfaljcdphbgdaaGreatDoor.SP
