/- Plain laws: the document's answer (its printed functions) is what SP says. -/
import Derived.Test.YtdfaljcdphbgdaaGreatDoorPlainC
import Derived.Test.YtdfaljcdphbgdaaGreatDoorPRefx5
import Derived.Test.YtdfaljcdphbgdaaGreatDoorPRefx6
namespace Go.Proofs.YtdfaljcdphbgdaaGreatDoor.SP
set_option linter.unusedVariables false
set_option linter.unusedSimpArgs false
open Go.RowKit Go.Proofs.YtdfaljcdphbgdaaGreatDoor.PRef Go.Proofs.YtdfaljcdphbgdaaGreatDoorW.PrintWords Go.Proofs.YtdfaljcdphbgdaaGreatDoorW.PrintLast Go.Proofs.YtdfaljcdphbgdaaGreatDoorW.PrintMore

/-! ### Same, at one deed -/
theorem same_l0 (a b : Int) (bs ag : List Int) : ∀ (m i k : Nat), ag.length = i + m → m < k → ag.length ≤ 9223372036854775000 → vicinageref27_Same.l0 k (i : Int) a b bs ag a b bs ag = some true
  | 0, i, k + 1, hl, _, _ => by rw [vicinageref27_Same.l0, if_neg (by omega)]
  | m + 1, i, k + 1, hl, hk, hm => by
    have e : wrap64 ((i : Int) + 1) = ((i + 1 : Nat) : Int) := by rw [wrap64_small (by omega) (by omega)]; omega
    rw [vicinageref27_Same.l0, if_pos (by omega), if_pos (by omega), if_pos (by omega), if_pos rfl, e]
    exact same_l0 a b bs ag m (i + 1) k (by omega) (by omega) hm
theorem same_refl (a b : Int) (bs ag : List Int) (k : Nat) (hk : ag.length + 1 < k) (hm : ag.length ≤ 9223372036854775000) : vicinageref27_Same.f k a b bs ag a b bs ag = some true := by
  obtain ⟨k, rfl⟩ : ∃ j, k = j + 1 := ⟨k - 1, by omega⟩
  unfold vicinageref27_Same.f
  rw [if_pos rfl, if_pos rfl, if_pos rfl, vicinageref27_Same.j0, if_neg (by simp)]
  exact same_l0 a b bs ag ag.length 0 k (by omega) (by omega) hm

/-! ### the document's May -/
theorem rmay_l0 (kind n : Int) (bs ag : List Int) (hb : bs.length ≤ 60000) (ha : ag.length ≤ 8) (h0 : 0 ≤ n) :
    ∀ (m i k : Nat), ag.length = i + m → m < k → vicinageref27_May.l0 k (i : Int) kind n bs ag =
      some ((ag.drop i).all inOps && (if kind = 1 then decide (n ≤ 7) && ag.isEmpty else if kind = 2 then bs.isEmpty && ag.isEmpty else if kind = 3 then decide (n = 0) else if kind = 4 then decide (n = 0) && bs.isEmpty && ag.isEmpty else false))
  | 0, i, k + 1, hl, _ => by
    rw [vicinageref27_May.l0, if_neg (by omega)]
    have hd : ag.drop i = [] := List.drop_eq_nil_iff.2 (by omega)
    rw [hd]
    have e1 : ((ag.length : Int) == 0) = ag.isEmpty := by cases ag <;> simp <;> omega
    have e2 : ((bs.length : Int) = 0) = (bs.isEmpty = true) := by cases bs <;> simp <;> omega
    have e7 : (n == 0) = decide (n = 0) := rfl
    rw [e1, e7]
    simp only [e2, List.all_nil, Bool.true_and]
    by_cases k1 : kind = 1
    · simp only [if_pos k1]
      by_cases h7 : n ≤ 7
      · rw [if_pos h7, decide_eq_true h7]; simp
      · rw [if_neg h7, decide_eq_false h7]; simp
    · simp only [if_neg k1]
      split
      · split <;> simp_all
      · split
        · rfl
        · split
          · by_cases hn : n = 0 <;> simp only [hn, if_true, if_false] <;> (try split) <;> simp_all
          · rfl
  | m + 1, i, k + 1, hl, hk => by
    rw [vicinageref27_May.l0, if_pos (by omega), if_pos (by omega)]
    have hi : i < ag.length := by omega
    have hr : rd ag (i : Int) = ag[i] := by simp [rd, hi]
    have hd : ag.drop i = ag[i] :: ag.drop (i + 1) := (List.drop_eq_getElem_cons hi)
    have e : wrap64 ((i : Int) + 1) = ((i + 1 : Nat) : Int) := by rw [wrap64_small (by omega) (by omega)]; omega
    rw [hr, hd, List.all_cons]
    by_cases c1 : ag[i] < 0
    · rw [if_pos c1]
      have : inOps ag[i] = false := by simp [inOps]; omega
      rw [this]; rfl
    · rw [if_neg c1]
      by_cases c2 : ag[i] > 1073741824
      · rw [if_pos c2]
        have : inOps ag[i] = false := by simp [inOps]; omega
        rw [this]; rfl
      · rw [if_neg c2, e, rmay_l0 kind n bs ag hb ha h0 m (i + 1) k (by omega) (by omega)]
        have : inOps ag[i] = true := by simp [inOps]; omega
        rw [this]; rfl

theorem rmay_printed (x : Deed) (k : Nat) (hk : 20 ≤ k) : vicinageref27_May.f k x.kind x.n (nums8 x.bytes) x.again = some (may x) := by
  obtain ⟨k, rfl⟩ : ∃ j, k = j + 1 := ⟨k - 1, by omega⟩
  have e0 : (nums8 x.bytes).length = x.bytes.length := by simp [nums8]
  have e1 : (nums8 x.bytes).isEmpty = x.bytes.isEmpty := by cases h : x.bytes <;> simp [nums8]
  unfold vicinageref27_May.f may
  rw [e0]
  by_cases c1 : (x.bytes.length : Int) > 60000
  · rw [if_pos c1, vicinageref27_May.j0, if_pos rfl, decide_eq_false (by omega)]; simp
  · rw [if_neg c1, decide_eq_true (show x.bytes.length ≤ 60000 by omega)]
    by_cases c2 : (x.again.length : Int) > 8
    · rw [if_pos c2, vicinageref27_May.j0, if_pos rfl, decide_eq_false (show ¬ x.again.length ≤ 8 by omega)]; simp
    · rw [if_neg c2, decide_eq_true (show x.again.length ≤ 8 by omega)]
      by_cases c3 : x.n < 0
      · rw [if_pos c3, vicinageref27_May.j0, if_pos rfl]
        have : inOps x.n = false := by simp [inOps]; omega
        rw [this]; simp
      · rw [if_neg c3]
        by_cases c4 : x.n > 1073741824
        · rw [decide_eq_true c4, vicinageref27_May.j0, if_pos rfl]
          have : inOps x.n = false := by simp [inOps]; omega
          rw [this]; simp
        · rw [decide_eq_false c4, vicinageref27_May.j0, if_neg (by simp)]
          have : inOps x.n = true := by simp [inOps]; omega
          rw [this]
          have := rmay_l0 x.kind x.n (nums8 x.bytes) x.again (by omega) (by omega) (by omega) x.again.length 0 k (by omega) (by omega)
          rw [Int.natCast_zero] at this
          rw [this, e1]
          simp

/-! ### the document's Num -/
theorem text_ext {a b : ByteArray} (h : a.data.toList = b.data.toList) : a = b := by
  cases a; cases b; simpa using h
theorem dig1 (d : Int) (h0 : 0 ≤ d) (h1 : d < 10) : (strOfNums [(wrap64 (48 + d)) % 256]).data.toList = [UInt8.ofNat (48 + d.toNat)] := by
  rw [wrap64_small (by omega) (by omega), strOfNums_data]
  simp only [List.map_cons, List.map_nil, List.cons.injEq, and_true]
  congr 1; omega

theorem rnum_l0 : ∀ (j k : Nat) (n : Int) (acc : ByteArray), 0 ≤ n → n < (10 : Int) ^ (j + 1) → j < 20 → n ≤ 4611686018427387904 → j < k → acc.size + j ≤ 1000 →
    ∃ r : ByteArray, vicinageref27_Num.l0 k n acc = some r ∧ r.data.toList = (if n < 10 then [] else Lib.decDigits (n.toNat / 10)) ++ acc.data.toList
  | 0, k + 1, n, acc, h0, h1, _, _, _, _ => by
    rw [vicinageref27_Num.l0, if_neg (by omega)]
    exact ⟨acc, rfl, by rw [if_pos (by omega)]; rfl⟩
  | j + 1, k + 1, n, acc, h0, h1, hj, hn, hk, hs => by
    rw [vicinageref27_Num.l0]
    by_cases h10 : n ≥ 10
    · rw [if_pos h10, if_neg (by omega)]
      have e1 : wrap64 (Int.tdiv n 10) = n / 10 := by rw [Int.tdiv_eq_ediv_of_nonneg h0, wrap64_small (by omega) (by omega)]
      have e2 : Int.tmod (n / 10) 10 = (n / 10) % 10 := by rw [Int.tmod_eq_emod_of_nonneg (by omega)]
      rw [e1, e2]
      simp only [Option.bind_some]
      have hd := dig1 ((n / 10) % 10) (by omega) (by omega)
      have hsz : (strOfNums [(wrap64 (48 + (n / 10) % 10)) % 256]).size = 1 := by rw [strOfNums_size]; rfl
      rw [if_pos (by rw [hsz]; omega)]
      have hp : (10 : Int) ^ (j + 1 + 1) = 10 * 10 ^ (j + 1) := by rw [Int.pow_succ, Int.mul_comm]
      obtain ⟨r, hr, hrd⟩ := rnum_l0 j k (n / 10) (strOfNums [(wrap64 (48 + (n / 10) % 10)) % 256] ++ acc) (by omega) (by omega) (by omega) (by omega) (by omega) (by rw [ByteArray.size_append, hsz]; omega)
      refine ⟨r, hr, ?_⟩
      rw [hrd, ByteArray.data_append, Array.toList_append, hd]
      have e3 : (n / 10).toNat = n.toNat / 10 := by omega
      have e4 : ((n / 10) % 10).toNat = n.toNat / 10 % 10 := by omega
      rw [e3, e4]
      conv => rhs; rw [Lib.decDigits]
      by_cases h2 : n / 10 < 10
      · rw [if_pos h2, dif_pos (by omega)]
        rw [Nat.mod_eq_of_lt (show n.toNat / 10 < 10 by omega)]
        simp
      · rw [if_neg h2, dif_neg (by omega)]
        simp
    · rw [if_neg h10]
      exact ⟨acc, rfl, by rw [if_pos (by omega)]; rfl⟩

theorem rnum_itoa (n : Int) (h : inOps n = true) (k : Nat) (hk : 20 ≤ k) : vicinageref27_Num.f k n = some ⟨(Lib.itoa n).toArray⟩ := by
  simp only [inOps, Bool.and_eq_true, decide_eq_true_eq] at h
  have hd := dig1 (n % 10) (by omega) (by omega)
  have hsz : (strOfNums [(wrap64 (48 + n % 10)) % 256]).size = 1 := by rw [strOfNums_size]; rfl
  obtain ⟨r, hr, hrd⟩ := rnum_l0 10 k n (strOfNums [(wrap64 (48 + n % 10)) % 256]) h.1 (by omega) (by omega) (by omega) (by omega) (by rw [hsz]; omega)
  unfold vicinageref27_Num.f
  rw [Int.tmod_eq_emod_of_nonneg h.1, hr]
  congr 1
  apply text_ext
  rw [hrd, hd, itoa_nat n h.1]
  show _ = Lib.decDigits n.toNat
  conv => rhs; rw [Lib.decDigits]
  have e4 : (n % 10).toNat = n.toNat % 10 := by omega
  rw [e4]
  by_cases h2 : n < 10
  · rw [if_pos h2, dif_pos (by omega), Nat.mod_eq_of_lt (by omega)]; rfl
  · rw [if_neg h2, dif_neg (by omega)]

/-! ### the document's Hex -/
theorem bt_digits (j : Nat) (h : j < 16) : bt (⟨#[48, 49, 50, 51, 52, 53, 54, 55, 56, 57, 97, 98, 99, 100, 101, 102]⟩ : ByteArray) (j : Int) = ((hd j).toNat : Int) := by
  have : ∀ j : Fin 16, bt (⟨#[48, 49, 50, 51, 52, 53, 54, 55, 56, 57, 97, 98, 99, 100, 101, 102]⟩ : ByteArray) ((j.val : Nat) : Int) = ((hd j.val).toNat : Int) := by decide
  exact this ⟨j, h⟩

theorem rhex_l0 (l : B) (hl : l.length ≤ 1000000) : ∀ (m i k : Nat) (out : List Int), l.length = i + m → m < k → out.length = 2 * i →
    vicinageref27_Hex.l0 k (nums8 l) (⟨#[48, 49, 50, 51, 52, 53, 54, 55, 56, 57, 97, 98, 99, 100, 101, 102]⟩ : ByteArray) out (i : Int) =
      some (strOfNums (out ++ nums8 ((l.drop i).flatMap fun b => [hd (b.toNat / 16), hd (b.toNat % 16)])))
  | 0, i, k + 1, out, h, _, _ => by
    have e0 : (nums8 l).length = l.length := by simp [nums8]
    rw [vicinageref27_Hex.l0, e0, if_neg (by omega), List.drop_eq_nil_iff.2 (by omega)]
    simp [nums8]
  | m + 1, i, k + 1, out, h, hk, ho => by
    have e0 : (nums8 l).length = l.length := by simp [nums8]
    have hi : i < l.length := by omega
    have hb := (l[i]).toNat_lt
    have hr : rd (nums8 l) (i : Int) = ((l[i]).toNat : Int) := by simp [rd, nums8, hi]
    have hd' : l.drop i = l[i] :: l.drop (i + 1) := (List.drop_eq_getElem_cons hi)
    have e : wrap64 ((i : Int) + 1) = ((i + 1 : Nat) : Int) := by rw [wrap64_small (by omega) (by omega)]; omega
    have e1 : (Int.tdiv ((l[i]).toNat : Int) 16) % 256 = (((l[i]).toNat / 16 : Nat) : Int) := by rw [Int.tdiv_eq_ediv_of_nonneg (by omega)]; omega
    have e2 : Int.tmod ((l[i]).toNat : Int) 16 = (((l[i]).toNat % 16 : Nat) : Int) := by rw [Int.tmod_eq_emod_of_nonneg (by omega)]; omega
    have e3 : (⟨#[48, 49, 50, 51, 52, 53, 54, 55, 56, 57, 97, 98, 99, 100, 101, 102]⟩ : ByteArray).size = 16 := rfl
    rw [vicinageref27_Hex.l0, e0, if_pos (by omega), if_pos (by omega), hr, e1, e2, e3, if_pos (by omega), if_pos (by omega), if_pos (by omega), if_pos (by omega), bt_digits _ (by omega), bt_digits _ (by omega)]
    simp only [Option.bind_some]
    rw [if_pos (by simp; omega), e, rhex_l0 l hl m (i + 1) k _ (by omega) (by omega) (by simp; omega), hd', List.flatMap_cons]
    congr 2
    simp only [nums8, List.map_append, List.map_cons, List.map_nil, List.append_assoc, List.cons_append, List.nil_append]

theorem rhex_hexW (l : B) (hl : l.length ≤ 1000000) (k : Nat) (hk : 1000001 ≤ k) : vicinageref27_Hex.f k (nums8 l) = some ⟨(hexW l).toArray⟩ := by
  unfold vicinageref27_Hex.f
  have e0 : (nums8 l).length = l.length := by simp [nums8]
  rw [e0]
  cases l with
  | nil => rfl
  | cons b r =>
    rw [if_neg (by simp; omega)]
    have := rhex_l0 (b :: r) hl (b :: r).length 0 k [] (by omega) (by omega) rfl
    rw [Int.natCast_zero] at this
    rw [this]
    congr 1
    apply text_ext
    rw [strOfNums_data]
    simp [nums8, hexW, Function.comp_def]

/-! ### the document's Line -/
theorem joinI_cons (s : ByteArray) (t : B) : (s ++ ⟨t.toArray⟩ : ByteArray).data.toList = s.data.toList ++ t := by
  simp [ByteArray.data_append]

theorem nDigits_lt : ∀ (j u : Nat), u < 10 ^ (j + 1) → Lib.nDigits u ≤ j + 1
  | 0, u, h => by rw [Lib.nDigits_small (by omega)]; omega
  | j + 1, u, h => by
    by_cases h1 : u < 10
    · rw [Lib.nDigits_small h1]; omega
    · rw [Lib.nDigits_big h1]
      have := nDigits_lt j (u / 10) (by rw [Nat.pow_succ] at h; omega)
      omega

theorem itoa_short (n : Int) (h : inOps n = true) : (Lib.itoa n).length ≤ 10 := by
  simp only [inOps, Bool.and_eq_true, decide_eq_true_eq] at h
  rw [itoa_nat n h.1, Lib.decDigits_length]
  exact nDigits_lt 9 _ (by omega)

theorem rline_l0 (kind n : Int) (bs ag : List Int) (hag : ag.all inOps = true) (h8 : ag.length ≤ 8) : ∀ (m i k : Nat) (acc : ByteArray), ag.length = i + m → m + 20 < k → acc.size + m * 11 ≤ 1000000 →
    ∃ r : ByteArray, vicinageref27_Line.l0 k acc (i : Int) kind n bs ag = some r ∧ r.data.toList = acc.data.toList ++ (ag.drop i).flatMap fun v => 32 :: Lib.itoa v
  | 0, i, k + 1, acc, hl, _, _ => by
    rw [vicinageref27_Line.l0, if_neg (by omega)]
    exact ⟨acc, rfl, by rw [List.drop_eq_nil_iff.2 (by omega)]; simp⟩
  | m + 1, i, k + 1, acc, hl, hk, hs => by
    have hi : i < ag.length := by omega
    have hr : rd ag (i : Int) = ag[i] := by simp [rd, hi]
    have hin : inOps ag[i] = true := List.all_eq_true.1 hag _ (List.getElem_mem hi)
    have hd : ag.drop i = ag[i] :: ag.drop (i + 1) := (List.drop_eq_getElem_cons hi)
    have e : wrap64 ((i : Int) + 1) = ((i + 1 : Nat) : Int) := by rw [wrap64_small (by omega) (by omega)]; omega
    have hsh := itoa_short _ hin
    have hz : (⟨(Lib.itoa ag[i]).toArray⟩ : ByteArray).size = (Lib.itoa ag[i]).length := by simp [ByteArray.size]
    have hz1 : (⟨#[32]⟩ : ByteArray).size = 1 := rfl
    rw [vicinageref27_Line.l0, if_pos (by omega), if_pos (by omega), if_pos (by omega), hr, rnum_itoa _ hin k (by omega)]
    simp only [Option.bind_some]
    rw [if_pos (by rw [ByteArray.size_append, hz, hz1]; omega), e]
    obtain ⟨r, h1, h2⟩ := rline_l0 kind n bs ag hag h8 m (i + 1) k (acc ++ ⟨#[32]⟩ ++ ⟨(Lib.itoa ag[i]).toArray⟩) (by omega) (by omega) (by rw [ByteArray.size_append, ByteArray.size_append, hz, hz1]; omega)
    refine ⟨r, h1, ?_⟩
    rw [h2, hd, joinI_cons, List.flatMap_cons, ByteArray.data_append, Array.toList_append]
    simp only [List.append_assoc, List.cons_append, List.nil_append]

theorem join_flat (sep : UInt8) : ∀ (h : B) (t : List B), Lib.join (h :: t) [sep] = h ++ t.flatMap fun w => sep :: w
  | h, [] => by rw [Lib.join_one]; simp
  | h, y :: r => by rw [join_cons2, join_flat sep y r]; simp

theorem hexW_short (l : B) : (hexW l).length ≤ 2 * l.length + 1 := hexW_length l

theorem rline_printed (x : Deed) (h : may x = true) (k : Nat) (hk : 1000100 ≤ k) : vicinageref27_Line.f k x.kind x.n (nums8 x.bytes) x.again = some ⟨(line x).toArray⟩ := by
  obtain ⟨hb, h8, h3, h4, h5⟩ := may_parts h
  obtain ⟨kd, n, b, g⟩ := x
  simp only at hb h8 h3 h4 h5
  have hsh := itoa_short _ h3
  have hxs := hexW_short b
  have hz : (⟨(Lib.itoa n).toArray⟩ : ByteArray).size = (Lib.itoa n).length := by simp [ByteArray.size]
  have hzx : (⟨(hexW b).toArray⟩ : ByteArray).size = (hexW b).length := by simp [ByteArray.size]
  have z1 : (⟨#[32]⟩ : ByteArray).size = 1 := rfl
  have z2 : (⟨#[102, 101, 101, 100, 32]⟩ : ByteArray).size = 5 := rfl
  unfold vicinageref27_Line.f
  rcases h5 with ⟨rfl, _, rfl⟩ | ⟨rfl, rfl, rfl⟩ | ⟨rfl, rfl⟩ | ⟨rfl, rfl, rfl, rfl⟩
  · rw [if_pos rfl, rnum_itoa n h3 k (by omega)]
    simp only [Option.bind_some]
    rw [if_pos (by omega), if_pos (by rw [ByteArray.size_append, hz, z2]; omega), rhex_hexW b (by omega) k (by omega)]
    simp only [Option.bind_some]
    rw [if_pos (by rw [ByteArray.size_append, ByteArray.size_append, hz, hzx, z1, z2]; omega)]
    congr 1
    apply text_ext
    simp [ByteArray.data_append, line, joinSp, wordsOf, join_flat, wFeed]
  · rw [if_neg (show ¬ (2 : Int) = 1 by decide), if_pos rfl, rnum_itoa n h3 k (by omega)]
    simp only [Option.bind_some]
    rw [if_pos (by omega)]
    congr 1
    apply text_ext
    simp [ByteArray.data_append, line, joinSp, wordsOf, join_flat, wArm]
  · rw [if_neg (show ¬ (3 : Int) = 1 by decide), if_neg (show ¬ (3 : Int) = 2 by decide), if_pos rfl, rhex_hexW b (by omega) k (by omega)]
    simp only [Option.bind_some]
    rw [if_pos (by omega)]
    obtain ⟨r, h1, h2⟩ := rline_l0 3 0 (nums8 b) g h4 h8 g.length 0 k (⟨#[99, 114, 97, 115, 104, 32]⟩ ++ ⟨(hexW b).toArray⟩) (by omega) (by omega) (by rw [ByteArray.size_append, hzx]; show 6 + _ + _ ≤ _; omega)
    rw [Int.natCast_zero] at h1
    rw [h1]
    congr 1
    apply text_ext
    rw [h2]
    simp [ByteArray.data_append, line, joinSp, wordsOf, join_flat, wCrash, List.flatMap_map]
  · rw [if_neg (show ¬ (4 : Int) = 1 by decide), if_neg (show ¬ (4 : Int) = 2 by decide), if_neg (show ¬ (4 : Int) = 3 by decide)]
    rfl

theorem line_len (x : Deed) (h : may x = true) : (line x).length ≤ 120200 := by
  obtain ⟨hb, h8, h3, h4, h5⟩ := may_parts h
  obtain ⟨kd, n, b, g⟩ := x
  simp only at hb h8 h3 h4 h5
  have hsh := itoa_short _ h3
  have hxs := hexW_short b
  have hf : ∀ l : List Int, l.all inOps = true → (l.flatMap fun v => 32 :: Lib.itoa v).length ≤ 11 * l.length := by
    intro l
    induction l with
    | nil => simp
    | cons v r ih =>
      intro ha
      rw [List.all_cons, Bool.and_eq_true] at ha
      have := itoa_short v ha.1
      have := ih ha.2
      simp only [List.flatMap_cons, List.length_append, List.length_cons]; omega
  rcases h5 with ⟨rfl, _, rfl⟩ | ⟨rfl, rfl, rfl⟩ | ⟨rfl, rfl⟩ | ⟨rfl, rfl, rfl, rfl⟩
  · simp [line, joinSp, wordsOf, join_flat, wFeed]; omega
  · simp [line, joinSp, wordsOf, join_flat, wArm]; omega
  · have := hf g h4
    simp [line, joinSp, wordsOf, join_flat, wCrash, List.flatMap_map] at this ⊢; omega
  · simp [line, joinSp, wordsOf, join_flat, wCensus]

end Go.Proofs.YtdfaljcdphbgdaaGreatDoor.SP
