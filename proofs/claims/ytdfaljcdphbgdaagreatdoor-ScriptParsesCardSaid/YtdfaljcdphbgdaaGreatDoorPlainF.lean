/- Plain laws: the document's Unline is SP's. -/
import Derived.Test.YtdfaljcdphbgdaaGreatDoorPlainD
namespace Go.Proofs.YtdfaljcdphbgdaaGreatDoor.SP
set_option linter.unusedVariables false
set_option linter.unusedSimpArgs false
open Go.RowKit Go.Proofs.YtdfaljcdphbgdaaGreatDoor.PRef Go.Proofs.YtdfaljcdphbgdaaGreatDoorW.PrintWords Go.Proofs.YtdfaljcdphbgdaaGreatDoorW.PrintLast Go.Proofs.YtdfaljcdphbgdaaGreatDoorW.PrintMore

/-! ### the document's num -/
theorem rnum_some : ∀ (m i k : Nat) (w : ByteArray) (n : Int), w.size = i + m → m < k → ∃ v, vicinageref27_num.l0 k w n (i : Int) = some v
  | 0, i, k + 1, w, n, h, _ => by rw [vicinageref27_num.l0, if_neg (by omega)]; exact ⟨_, rfl⟩
  | m + 1, i, k + 1, w, n, h, hk => by
    rw [vicinageref27_num.l0, if_pos (by omega), if_pos (by omega)]
    split
    · exact ⟨_, rfl⟩
    · split
      · exact ⟨_, rfl⟩
      · split
        · exact ⟨_, rfl⟩
        · have e : wrap64 ((i : Int) + 1) = ((i + 1 : Nat) : Int) := by rw [wrap64_small (by omega) (by omega)]; omega
          rw [e]
          exact rnum_some m (i + 1) k w _ (by omega) (by omega)
theorem rnum_total (w : ByteArray) (k : Nat) (hk : w.size < k) : ∃ v, vicinageref27_num.f k w = some v := rnum_some w.size 0 k w 0 (by omega) hk

theorem bt_get (w : ByteArray) (i : Nat) (c : UInt8) (r : B) (h : w.data.toList.drop i = c :: r) : bt w (i : Int) = (c.toNat : Int) ∧ i < w.size ∧ w.data.toList.drop (i + 1) = r := by
  have hl : i < w.data.toList.length := by
    rcases Nat.lt_or_ge i w.data.toList.length with h1 | h1
    · exact h1
    · rw [List.drop_eq_nil_iff.2 h1] at h; cases h
  have hz : w.data.toList.length = w.size := Array.length_toList
  rw [List.drop_eq_getElem_cons hl] at h
  injection h with h1 h2
  refine ⟨?_, by omega, h2⟩
  unfold bt
  rw [dif_pos (by simp; omega)]
  rw [← h1]
  rfl

/-! ### num, at a numeral -/
def val (l : B) (a : Nat) : Nat := l.foldl (fun a c => a * 10 + (c.toNat - 48)) a

theorem rnum_digits (w : ByteArray) : ∀ (l : B) (i k a : Nat), w.data.toList.drop i = l → (∀ c ∈ l, 48 ≤ c.toNat ∧ c.toNat ≤ 57) → l.length + i ≤ 10 → a < 10 ^ i → l.length < k →
    vicinageref27_num.l0 k w (a : Int) (i : Int) = some ((val l a : Nat) : Int)
  | [], i, k + 1, a, h, _, _, _, _ => by
    have hz : w.data.toList.length = w.size := Array.length_toList
    have := List.drop_eq_nil_iff.1 h
    rw [vicinageref27_num.l0, if_neg (by omega)]; rfl
  | c :: r, i, k + 1, a, h, hd, hl, ha, hk => by
    obtain ⟨hb, hi, hr⟩ := bt_get w i c r h
    have hc := hd c (by simp)
    simp only [List.length_cons] at hl hk
    have hp : 10 ^ i ≤ 10 ^ 9 := Nat.pow_le_pow_right (by omega) (by omega)
    have e : wrap64 ((i : Int) + 1) = ((i + 1 : Nat) : Int) := by rw [wrap64_small (by omega) (by omega)]; omega
    have e2 : wrap64 (wrap64 ((a : Int) * 10) + ((c.toNat : Int) - 48) % 256) = ((a * 10 + (c.toNat - 48) : Nat) : Int) := by
      rw [wrap64_small (n := (a : Int) * 10) (by omega) (by omega), wrap64_small (by omega) (by omega)]; omega
    rw [vicinageref27_num.l0, if_pos (by omega), if_pos (by omega), hb, if_neg (by omega), if_neg (by omega), if_neg (by omega), e, e2]
    exact rnum_digits w r (i + 1) k _ hr (fun x hx => hd x (by simp [hx])) (by omega) (by rw [Nat.pow_succ]; omega) (by omega)

theorem val_append (l m : B) (a : Nat) : val (l ++ m) a = val m (val l a) := List.foldl_append

theorem val_dec (u : Nat) : val (Lib.decDigits u) 0 = u := by
  induction u using Nat.strongRecOn with
  | _ u ih =>
    rw [Lib.decDigits]
    by_cases h : u < 10
    · rw [dif_pos h]
      simp only [val, List.foldl_cons, List.foldl_nil, dig_toNat u h]; omega
    · rw [dif_neg h, val_append, ih (u / 10) (by omega)]
      simp only [val, List.foldl_cons, List.foldl_nil, dig_toNat (u % 10) (by omega)]; omega

theorem rnum_of (w : ByteArray) (n : Int) (h : inOps n = true) (hw : w.data.toList = Lib.itoa n) (k : Nat) (hk : 20 ≤ k) : vicinageref27_num.f k w = some n := by
  have hs := itoa_short n h
  simp only [inOps, Bool.and_eq_true, decide_eq_true_eq] at h
  rw [itoa_nat n h.1] at hw hs
  have := rnum_digits w (Lib.decDigits n.toNat) 0 k 0 (by rw [← hw]; rfl) (decDigits_digits _) (by omega) (by decide) (by omega)
  unfold vicinageref27_num.f
  rw [Int.natCast_zero] at this
  rw [this, val_dec]
  congr 1; omega

/-! ### hex -/
theorem rdigit_some (c : Int) (h0 : 0 ≤ c) (h1 : c ≤ 255) (k : Nat) (hk : 1 ≤ k) : ∃ v, vicinageref27_digit.f k c = some v ∧ 0 ≤ v ∧ v < 256 := by
  obtain ⟨k, rfl⟩ : ∃ j, k = j + 1 := ⟨k - 1, by omega⟩
  unfold vicinageref27_digit.f
  have : ∀ b, ∃ v, vicinageref27_digit.j0 (k + 1) c b = some v ∧ 0 ≤ v ∧ v < 256 := by
    intro b
    rw [vicinageref27_digit.j0]
    repeat' split
    all_goals exact ⟨_, rfl, by omega, by omega⟩
  split <;> exact this _

theorem rdigit_hd (d : Nat) (h : d < 16) (k : Nat) (hk : 1 ≤ k) : vicinageref27_digit.f k ((hd d).toNat : Int) = some (d : Int) := by
  obtain ⟨k, rfl⟩ : ∃ j, k = j + 1 := ⟨k - 1, by omega⟩
  unfold vicinageref27_digit.f
  rw [hd_toNat d h]
  by_cases h1 : d < 10
  · rw [if_pos h1, if_pos (by omega), decide_eq_true (by omega), vicinageref27_digit.j0, if_pos rfl]
    congr 1; omega
  · rw [if_neg h1, if_pos (by omega), decide_eq_false (by omega), vicinageref27_digit.j0, if_neg (by simp), if_pos (by omega), if_pos (by omega)]
    congr 1; omega

theorem rhexr_some (w : ByteArray) (hw : w.size ≤ 2000000) : ∀ (m i k : Nat) (b : B), w.size ≤ i + m → m + 1 < k → b.length ≤ i → i ≤ w.size + 1 →
    ∃ b', vicinageref27_hex.l0 k w (nums8 b) (i : Int) = some (nums8 b')
  | m, i, 0, b, _, h, _, _ => by omega
  | m, i, k + 1, b, h, hk, hb, hiw => by
    by_cases hi : i + 1 < w.size
    · have e : wrap64 ((i : Int) + 1) = ((i + 1 : Nat) : Int) := by rw [wrap64_small (by omega) (by omega)]; omega
      have e2 : wrap64 ((i : Int) + 2) = ((i + 2 : Nat) : Int) := by rw [wrap64_small (by omega) (by omega)]; omega
      have r1 := bt_range w (i : Int)
      have r2 := bt_range w ((i + 1 : Nat) : Int)
      obtain ⟨v1, h1, _, _⟩ := rdigit_some (bt w (i : Int)) r1.1 r1.2 k (by omega)
      obtain ⟨v2, h2, _, _⟩ := rdigit_some (bt w ((i + 1 : Nat) : Int)) r2.1 r2.2 k (by omega)
      obtain ⟨m, rfl⟩ : ∃ j, m = j + 2 := ⟨m - 2, by omega⟩
      rw [vicinageref27_hex.l0, e, if_pos (by omega), if_pos (by omega), if_pos (by omega), h1]
      simp only [Option.bind_some]
      rw [if_pos (by omega), h2]
      simp only [Option.bind_some]
      have e0 : (nums8 b).length = b.length := by simp [nums8]
      rw [if_pos (by rw [e0]; omega), e2]
      have e3 : nums8 b ++ [(v1 * 16 % 256 + v2) % 256] = nums8 (b ++ [UInt8.ofNat ((v1 * 16 % 256 + v2) % 256).toNat]) := by
        simp only [nums8, List.map_append, List.map_cons, List.map_nil]
        congr 2
        rw [UInt8.toNat_ofNat']; omega
      rw [e3]
      exact rhexr_some w hw m (i + 2) k _ (by omega) (by omega) (by simp; omega) (by omega)
    · have e : ¬ wrap64 ((i : Int) + 1) < (w.size : Int) := by
        rw [wrap64_small (by omega) (by omega)]; omega
      rw [vicinageref27_hex.l0, if_neg e]
      exact ⟨b, rfl⟩

theorem rhexr_total (w : ByteArray) (hw : w.size ≤ 2000000) (k : Nat) (hk : w.size + 1 < k) : ∃ b, vicinageref27_hex.f k w = some (nums8 b) :=
  rhexr_some w hw w.size 0 k [] (by omega) hk (by simp) (by omega)

theorem rhexr_pairs (w : ByteArray) (hw : w.size ≤ 2000000) : ∀ (l : B) (i k : Nat) (out : List Int), w.data.toList.drop i = (l.flatMap fun b => [hd (b.toNat / 16), hd (b.toNat % 16)]) → out.length ≤ i → l.length + 1 < k → i ≤ w.size →
    vicinageref27_hex.l0 k w out (i : Int) = some (out ++ nums8 l)
  | l, i, 0, out, _, _, h, _ => by omega
  | [], i, k + 1, out, h, ho, hk, hiw => by
    have hz : w.data.toList.length = w.size := Array.length_toList
    have := List.drop_eq_nil_iff.1 h
    have e : wrap64 ((i : Int) + 1) = ((i + 1 : Nat) : Int) := by rw [wrap64_small (by omega) (by omega)]; omega
    rw [vicinageref27_hex.l0, e, if_neg (by omega)]
    simp [nums8]
  | c :: l, i, k + 1, out, h, ho, hk, hiw => by
    have hc := c.toNat_lt
    rw [List.flatMap_cons] at h
    obtain ⟨b1, i1, d1⟩ := bt_get w i _ _ h
    obtain ⟨b2, i2, d2⟩ := bt_get w (i + 1) _ _ d1
    simp only [List.length_cons] at hk
    have hdd : ∀ (d : Nat), d < 16 → vicinageref27_digit.f k ((hd d).toNat : Int) = some (d : Int) := fun d hd => rdigit_hd d hd k (by clear b1 b2 d1 d2 h; omega)
    have h1' : vicinageref27_digit.f k (bt w (i : Int)) = some ((c.toNat / 16 : Nat) : Int) := by rw [b1]; exact hdd _ (Nat.div_lt_of_lt_mul hc)
    have h2' : vicinageref27_digit.f k (bt w ((i + 1 : Nat) : Int)) = some ((c.toNat % 16 : Nat) : Int) := by rw [b2]; exact hdd _ (Nat.mod_lt _ (by decide))
    clear b1 b2 h d1 hdd
    have e : wrap64 ((i : Int) + 1) = ((i + 1 : Nat) : Int) := by clear d2; rw [wrap64_small (by omega) (by omega)]; omega
    have e2 : wrap64 ((i : Int) + 2) = ((i + 2 : Nat) : Int) := by clear d2; rw [wrap64_small (by omega) (by omega)]; omega
    have ih := rhexr_pairs w hw l (i + 2) k (out ++ [(c.toNat : Int)]) d2 (by simp; omega) (by omega) (by omega)
    have e3 : ((((c.toNat / 16 : Nat) : Int) * 16) % 256 + ((c.toNat % 16 : Nat) : Int)) % 256 = (c.toNat : Int) := by omega
    have c1 : out.length < 140737488355328 := by omega
    clear d2
    rw [vicinageref27_hex.l0, e, if_pos (by omega), if_pos (by omega), if_pos (by omega), h1']
    simp only [Option.bind_some]
    rw [if_pos (by omega), h2']
    simp only [Option.bind_some]
    rw [if_pos c1, e2, e3, ih]
    simp [nums8]

theorem rhexr_of (w : ByteArray) (hw : w.size ≤ 2000000) (b : B) (h : w.data.toList = hexW b) (k : Nat) (hk : 2000010 ≤ k) : vicinageref27_hex.f k w = some (nums8 b) := by
  have hz : w.data.toList.length = w.size := Array.length_toList
  unfold vicinageref27_hex.f
  cases b with
  | nil =>
    obtain ⟨k, rfl⟩ : ∃ j, k = j + 1 := ⟨k - 1, by omega⟩
    have : w.size = 1 := by rw [← hz, h]; rfl
    rw [vicinageref27_hex.l0, this, if_neg (by rw [wrap64_small (by omega) (by omega)]; omega)]; rfl
  | cons c r =>
    have hl := hexW_ge (c :: r)
    rw [← h] at hl
    rw [Int.natCast_zero.symm, rhexr_pairs w hw (c :: r) 0 k [] (by rw [List.drop_zero, h]; simp [hexW]) (by simp) (by omega) (by omega)]
    simp

/-! ### Cut -/
def cutp (c : UInt8) (pre l : B) : List B := match cut c l with | [] => [pre] | y :: ys => (pre ++ y) :: ys
theorem cutp_hit (c : UInt8) (pre r : B) : cutp c pre (c :: r) = pre :: cut c r := by simp [cutp, cut]
theorem cutp_nil (c : UInt8) (l : B) : cutp c [] l = cut c l := by
  unfold cutp
  cases h : cut c l with
  | nil => exact absurd h (cut_ne c l)
  | cons y ys => rfl
theorem cutp_miss (c x : UInt8) (h : x ≠ c) (pre r : B) : cutp c pre (x :: r) = cutp c (pre ++ [x]) r := by
  unfold cutp
  rw [cut, if_neg h]
  cases hr : cut c r with
  | nil => exact absurd hr (cut_ne c r)
  | cons y ys => simp

theorem extract_toList (w : ByteArray) (a b : Nat) (h1 : a ≤ b) (h2 : b ≤ w.size) : (w.extract a b).data.toList = (w.data.toList.take b).drop a := by
  rw [Lib.extract_data, List.drop_take]

theorem rcut_l0 (w : ByteArray) (hw : w.size ≤ 4000000) (c : UInt8) : ∀ (m i k : Nat) (frm : Nat) (acc : List ByteArray), w.size = i + m → m < k → frm ≤ i → acc.length ≤ i →
    ∃ R, vicinageref27_Cut.l0 k w (c.toNat : Int) acc (frm : Int) (i : Int) = some R ∧ R.map (·.data.toList) = acc.map (·.data.toList) ++ cutp c ((w.data.toList.take i).drop frm) (w.data.toList.drop i)
  | 0, i, k + 1, frm, acc, h, _, hf, ha => by
    have hz : w.data.toList.length = w.size := Array.length_toList
    rw [vicinageref27_Cut.l0, if_neg (by omega), if_pos (by omega), if_pos (by omega), if_pos (by omega)]
    refine ⟨_, rfl, ?_⟩
    have e1 : (frm : Int).toNat = frm := by omega
    have e2 : w.size = i := by omega
    have e3 : w.data.toList.drop i = [] := List.drop_eq_nil_iff.2 (by omega)
    rw [e3, List.map_append, List.map_cons, List.map_nil, extract_toList _ _ _ (by omega) (by omega), e1, e2]
    simp [cutp, cut]
  | m + 1, i, k + 1, frm, acc, h, hk, hf, ha => by
    have hz : w.data.toList.length = w.size := Array.length_toList
    have hi : i < w.data.toList.length := by omega
    have hd := List.drop_eq_getElem_cons hi
    obtain ⟨hb, _, _⟩ := bt_get w i _ _ hd
    have e : wrap64 ((i : Int) + 1) = ((i + 1 : Nat) : Int) := by rw [wrap64_small (by omega) (by omega)]; omega
    rw [vicinageref27_Cut.l0, if_pos (by omega), if_pos (by omega), hb, e, hd]
    by_cases hc : w.data.toList[i] = c
    · rw [if_pos (by rw [hc]), if_pos (by omega), if_pos (by omega), if_pos (by omega), if_pos (by omega)]
      obtain ⟨R, h1, h2⟩ := rcut_l0 w hw c m (i + 1) k (i + 1) (acc ++ [w.extract (frm : Int).toNat (i : Int).toNat]) (by omega) (by omega) (by omega) (by simp; omega)
      refine ⟨R, h1, ?_⟩
      rw [h2, hc, cutp_hit, List.drop_eq_nil_iff.2 (by simp; omega), cutp_nil, List.map_append, List.map_cons, List.map_nil, extract_toList _ _ _ (by omega) (by omega)]
      have e1 : (frm : Int).toNat = frm := by omega
      have e2 : (i : Int).toNat = i := by omega
      rw [e1, e2]
      simp
    · rw [if_neg (fun e => hc (UInt8.toNat_inj.1 (by omega)))]
      obtain ⟨R, h1, h2⟩ := rcut_l0 w hw c m (i + 1) k frm acc (by omega) (by omega) (by omega) (by omega)
      refine ⟨R, h1, ?_⟩
      rw [h2, cutp_miss c _ hc]
      congr 2
      rw [List.take_add_one, List.getElem?_eq_getElem hi, Option.toList_some, List.drop_append_of_le_length (by simp; omega)]

theorem rcut (w : ByteArray) (hw : w.size ≤ 4000000) (c : UInt8) (k : Nat) (hk : w.size < k) : ∃ R, vicinageref27_Cut.f k w (c.toNat : Int) = some R ∧ R.map (·.data.toList) = cut c w.data.toList := by
  obtain ⟨R, h1, h2⟩ := rcut_l0 w hw c w.size 0 k 0 [] (by omega) hk (by omega) (by simp)
  refine ⟨R, h1, ?_⟩
  rw [h2]
  simp [cutp_nil]

end Go.Proofs.YtdfaljcdphbgdaaGreatDoor.SP
namespace Go.Proofs.YtdfaljcdphbgdaaGreatDoor.SP
set_option linter.unusedVariables false
set_option linter.unusedSimpArgs false
open Go.RowKit Go.Proofs.YtdfaljcdphbgdaaGreatDoor.PRef Go.Proofs.YtdfaljcdphbgdaaGreatDoorW.PrintWords Go.Proofs.YtdfaljcdphbgdaaGreatDoorW.PrintLast Go.Proofs.YtdfaljcdphbgdaaGreatDoorW.PrintMore

/-- what the document tells of a line -/
def utuple (s : B) : Int × Int × List Int × List Int × Int :=
  match unline s with | some x => (x.kind, x.n, nums8 x.bytes, x.again, 0) | none => (0, 0, [], [], 15)

theorem baToList (s : ByteArray) : s.toList = s.data.toList := ByteArray.toList_eq s

theorem j4_none (w : ByteArray) (h : unline w.data.toList = none) (kd n : Int) (b : B) (ag : List Int) (k : Nat) (hk : 1000200 ≤ k) :
    vicinageref27_Unline.j4 k w kd n (nums8 b) ag = some (utuple w.data.toList) := by
  obtain ⟨k, rfl⟩ : ∃ j, k = j + 1 := ⟨k - 1, by omega⟩
  have hu : utuple w.data.toList = (0, 0, [], [], 15) := by simp [utuple, h]
  have hm := rmay_printed ⟨kd, n, b, ag⟩ k (by omega)
  simp only at hm
  rw [vicinageref27_Unline.j4, hm]
  simp only [Option.bind_some]
  by_cases hy : may ⟨kd, n, b, ag⟩ = true
  · rw [if_pos hy]
    have hl := rline_printed ⟨kd, n, b, ag⟩ hy k (by omega)
    simp only at hl
    rw [hl]
    simp only [Option.bind_some]
    rw [if_neg, hu]
    rw [baToList, baToList]
    intro e
    have := (unline_iff w.data.toList ⟨kd, n, b, ag⟩).2 ⟨hy, by simpa using e⟩
    rw [h] at this; cases this
  · rw [if_neg hy, hu]

theorem j4_some (w : ByteArray) (x : Deed) (h : unline w.data.toList = some x) (k : Nat) (hk : 1000200 ≤ k) :
    vicinageref27_Unline.j4 k w x.kind x.n (nums8 x.bytes) x.again = some (utuple w.data.toList) := by
  obtain ⟨k, rfl⟩ : ∃ j, k = j + 1 := ⟨k - 1, by omega⟩
  obtain ⟨hy, hl⟩ := (unline_iff _ _).1 h
  have hu : utuple w.data.toList = (x.kind, x.n, nums8 x.bytes, x.again, 0) := by simp [utuple, h]
  rw [vicinageref27_Unline.j4, rmay_printed x k (by omega)]
  simp only [Option.bind_some]
  rw [if_pos hy, rline_printed x hy k (by omega)]
  simp only [Option.bind_some]
  rw [if_pos, hu]
  rw [baToList, baToList, hl]

theorem rdOf_one (R : List ByteArray) (h : 1 < R.length) : rdOf ByteArray.empty R 1 = R[1] := by
  show R.getD 1 _ = _
  rw [List.getD_eq_getElem?_getD, List.getElem?_eq_getElem h]; rfl
theorem rdOf_two (R : List ByteArray) (h : 2 < R.length) : rdOf ByteArray.empty R 2 = R[2] := by
  show R.getD 2 _ = _
  rw [List.getD_eq_getElem?_getD, List.getElem?_eq_getElem h]; rfl

theorem l0_none (w : ByteArray) (h : unline w.data.toList = none) (R : List ByteArray) (hR : ∀ y ∈ R, y.size ≤ 1500000) (hl : R.length ≤ 2000000) (kd n : Int) (b : B) :
    ∀ (m i k : Nat) (ag : List Int), R.length ≤ i + m → m + 1500300 < k → ag.length ≤ i → i ≤ R.length + 2 → vicinageref27_Unline.l0 k w R (i : Int) kd n (nums8 b) ag = some (utuple w.data.toList)
  | m, i, 0, ag, _, hk, _, _ => by omega
  | m, i, k + 1, ag, hm, hk, ha, hi => by
    rw [vicinageref27_Unline.l0]
    by_cases c : (i : Int) < (R.length : Int)
    · obtain ⟨m, rfl⟩ : ∃ j, m = j + 1 := ⟨m - 1, by omega⟩
      have hi' : i < R.length := by omega
      have hr : rdOf ByteArray.empty R (i : Int) = R[i] := by simp [rdOf, hi']
      obtain ⟨v, hv⟩ := rnum_total R[i] k (by have := hR _ (List.getElem_mem hi'); omega)
      have e : wrap64 ((i : Int) + 1) = ((i + 1 : Nat) : Int) := by rw [wrap64_small (by omega) (by omega)]; omega
      rw [if_pos c, if_pos (by omega), hr, hv]
      simp only [Option.bind_some]
      rw [if_pos (by omega), e]
      exact l0_none w h R hR hl kd n b m (i + 1) k _ (by omega) (by omega) (by simp; omega) (by omega)
    · rw [if_neg c]
      exact j4_none w h kd n b ag k (by omega)

theorem l0_some (K : Nat) (hK : 1500300 ≤ K) (w : ByteArray) (kd n : Int) (b : B) (g : List Int) (hg : g.all inOps = true) (h8 : g.length ≤ 8) (h : unline w.data.toList = some ⟨kd, n, b, g⟩) (R : List ByteArray) (hl : R.length = g.length + 2) (hR : ∀ (j : Nat) (hj : j < g.length), ∃ y, R[j + 2]? = some y ∧ y.data.toList = Lib.itoa g[j]) :
    ∀ (m i k : Nat), g.length = i + m → K + m < k → vicinageref27_Unline.l0 k w R ((i + 2 : Nat) : Int) kd n (nums8 b) (g.take i) = some (utuple w.data.toList)
  | 0, i, k + 1, hm, hk => by
    rw [vicinageref27_Unline.l0, if_neg (by omega), List.take_of_length_le (by omega)]
    exact j4_some w ⟨kd, n, b, g⟩ h k (by omega)
  | m + 1, i, k + 1, hm, hk => by
    have hi' : i < g.length := by omega
    obtain ⟨y, h1, h2⟩ := hR i hi'
    have hr : rdOf ByteArray.empty R ((i + 2 : Nat) : Int) = y := by
      show R.getD ((i + 2 : Nat) : Int).toNat _ = y
      rw [Int.toNat_natCast, List.getD_eq_getElem?_getD, h1]; rfl
    have hv := rnum_of y g[i] (List.all_eq_true.1 hg _ (List.getElem_mem hi')) h2 k (by omega)
    have e : wrap64 (((i + 2 : Nat) : Int) + 1) = ((i + 1 + 2 : Nat) : Int) := by rw [wrap64_small (by omega) (by omega)]; omega
    rw [vicinageref27_Unline.l0, if_pos (by omega), if_pos (by omega), hr, hv]
    simp only [Option.bind_some]
    rw [if_pos (by simp; omega), e, ← List.take_succ_eq_append_getElem hi']
    exact l0_some K hK w kd n b g hg h8 h R hl hR m (i + 1) k (by omega) (by omega)

theorem runline (w : ByteArray) (hw : w.size ≤ 1500000) (k : Nat) (hk : 4000000 ≤ k) : vicinageref27_Unline.f k w = some (utuple w.data.toList) := by
  have hz : w.data.toList.length = w.size := Array.length_toList
  unfold vicinageref27_Unline.f
  by_cases hbig : (w.size : Int) > 120200
  · rw [if_pos hbig]
    have : unline w.data.toList = none := by
      cases hu : unline w.data.toList with
      | none => rfl
      | some x =>
        obtain ⟨hy, hl⟩ := (unline_iff _ _).1 hu
        have := line_len x hy
        rw [hl] at this
        omega
    simp [utuple, this]
  · rw [if_neg hbig]
    obtain ⟨R, h1, h2⟩ := rcut w (by omega) 32 k (by omega)
    have h1' : vicinageref27_Cut.f k w 32 = some R := h1
    rw [h1']
    simp only [Option.bind_some]
    have hne := cut_ne 32 w.data.toList
    have hlen := cut_length 32 w.data.toList
    have heach := cut_each 32 w.data.toList
    rw [← h2] at hne hlen heach
    rw [List.length_map] at hlen
    have hR : ∀ y ∈ R, y.size ≤ 1500000 := fun y hy => by
      have := heach y.data.toList (List.mem_map.2 ⟨y, hy, rfl⟩)
      have h3 : y.data.toList.length = y.size := Array.length_toList
      omega
    have hRl : 0 < R.length := by
      cases R with
      | nil => exact absurd rfl hne
      | cons a r => simp
    rw [if_pos (by omega)]
    obtain ⟨k, rfl⟩ : ∃ j, k = j + 4 := ⟨k - 4, by omega⟩
    cases hu : unline w.data.toList with
    | none =>
      -- whatever the branch
      have J2 : ∀ (c : Bool) (kd : Int), (c = true → 2 ≤ R.length) → vicinageref27_Unline.j2 (k + 2) w R c kd 0 = some (utuple w.data.toList) := by
        intro c kd hc
        rw [vicinageref27_Unline.j2]
        cases c with
        | true =>
          have h2l := hc rfl
          rw [if_pos rfl, if_pos (by omega)]
          have hr : rdOf ByteArray.empty R 1 = R[1] := rdOf_one R h2l
          obtain ⟨b, hb⟩ := rhexr_total R[1] (by have := hR _ (List.getElem_mem h2l); omega) (k + 1) (by have := hR _ (List.getElem_mem h2l); omega)
          rw [hr, hb]
          simp only [Option.bind_some]
          exact l0_none w hu R hR (by omega) 3 0 b R.length 2 (k + 1) [] (by omega) (by omega) (by simp) (by omega)
        | false =>
          rw [if_neg (by simp), if_pos (by omega)]
          split
          · exact j4_none w hu 4 0 [] [] (k + 1) (by omega)
          · exact j4_none w hu kd 0 [] [] (k + 1) (by omega)
      have J1 : ∀ (c : Bool), (c = true → 2 ≤ R.length) → vicinageref27_Unline.j1 (k + 3) w R c 0 0 = some (utuple w.data.toList) := by
        intro c hc
        rw [vicinageref27_Unline.j1]
        cases c with
        | true =>
          have h2l := hc rfl
          rw [if_pos rfl, if_pos (by omega)]
          have hr : rdOf ByteArray.empty R 1 = R[1] := rdOf_one R h2l
          obtain ⟨v, hv⟩ := rnum_total R[1] (k + 2) (by have := hR _ (List.getElem_mem h2l); omega)
          rw [hr, hv]
          simp only [Option.bind_some]
          exact j4_none w hu 2 v [] [] (k + 2) (by omega)
        | false =>
          rw [if_neg (by simp), if_pos (by omega)]
          split
          · exact J2 _ 0 (fun h => by have := of_decide_eq_true h; omega)
          · exact J2 _ 0 (fun h => by cases h)
      have J0 : ∀ (c : Bool), (c = true → R.length = 3) → vicinageref27_Unline.j0 (k + 4) w R c 0 0 = some (utuple w.data.toList) := by
        intro c hc
        rw [vicinageref27_Unline.j0]
        cases c with
        | true =>
          have h3l := hc rfl
          rw [if_pos rfl, if_pos (by omega)]
          have hr1 : rdOf ByteArray.empty R 1 = R[1] := rdOf_one R (by omega)
          have hr2 : rdOf ByteArray.empty R 2 = R[2] := rdOf_two R (by omega)
          obtain ⟨v, hv⟩ := rnum_total R[1] (k + 3) (by have := hR _ (List.getElem_mem (show 1 < R.length by omega)); omega)
          obtain ⟨b, hb⟩ := rhexr_total R[2] (by have := hR _ (List.getElem_mem (show 2 < R.length by omega)); omega) (k + 3) (by have := hR _ (List.getElem_mem (show 2 < R.length by omega)); omega)
          rw [hr1, hv]
          simp only [Option.bind_some]
          rw [if_pos (by omega), hr2, hb]
          simp only [Option.bind_some]
          exact j4_none w hu 1 v b [] (k + 3) (by omega)
        | false =>
          rw [if_neg (by simp), if_pos (by omega)]
          split
          · exact J1 _ (fun h => by have := beq_iff_eq.1 h; omega)
          · exact J1 _ (fun h => by cases h)
      split
      · exact J0 _ (fun h => by have := beq_iff_eq.1 h; omega)
      · exact J0 _ (fun h => by cases h)
    | some x =>
      obtain ⟨hy, hl⟩ := (unline_iff _ _).1 hu
      have hws : R.map (·.data.toList) = wordsOf x := by
        rw [h2, ← hl, line, joinSp]
        exact cut_join 32 _ (by unfold wordsOf; split <;> (try split) <;> (try split) <;> simp) (words_no x hy 32 (by decide))
      obtain ⟨hb, h8, h3, h4, h5⟩ := may_parts hy
      obtain ⟨kd, n, b, g⟩ := x
      simp only at hb h8 h3 h4 h5
      rcases h5 with ⟨rfl, _, rfl⟩ | ⟨rfl, rfl, rfl⟩ | ⟨rfl, rfl⟩ | ⟨rfl, rfl, rfl, rfl⟩
      · simp only [wordsOf, if_true] at hws
        obtain ⟨r0, R, rfl, w0, hws⟩ := List.map_eq_cons_iff.1 hws
        obtain ⟨r1, R, rfl, w1, hws⟩ := List.map_eq_cons_iff.1 hws
        obtain ⟨r2, R, rfl, w2, hws⟩ := List.map_eq_cons_iff.1 hws
        obtain rfl := List.map_eq_nil_iff.1 hws
        have e0 : rdOf ByteArray.empty [r0, r1, r2] 0 = r0 := rfl
        have e1 : rdOf ByteArray.empty [r0, r1, r2] 1 = r1 := rfl
        have e2 : rdOf ByteArray.empty [r0, r1, r2] 2 = r2 := rfl
        rw [e0, if_pos (by rw [baToList, w0]; rfl), vicinageref27_Unline.j0, if_pos (by rfl), if_pos (by simp), e1, rnum_of r1 n h3 w1 (k + 3) (by omega)]
        simp only [Option.bind_some]
        rw [if_pos (by simp), e2, rhexr_of r2 (by have := hR r2 (by simp); omega) b w2 (k + 3) (by omega)]
        simp only [Option.bind_some]
        exact j4_some w ⟨1, n, b, []⟩ hu (k + 3) (by omega)
      · simp only [wordsOf, if_neg (show ¬ (2 : Int) = 1 by decide), if_true] at hws
        obtain ⟨r0, R, rfl, w0, hws⟩ := List.map_eq_cons_iff.1 hws
        obtain ⟨r1, R, rfl, w1, hws⟩ := List.map_eq_cons_iff.1 hws
        obtain rfl := List.map_eq_nil_iff.1 hws
        have e0 : rdOf ByteArray.empty [r0, r1] 0 = r0 := rfl
        have e1 : rdOf ByteArray.empty [r0, r1] 1 = r1 := rfl
        rw [e0, if_neg (by rw [baToList, w0]; decide), vicinageref27_Unline.j0, if_neg (by simp), if_pos (by simp), e0, if_pos (by rw [baToList, w0]; rfl), vicinageref27_Unline.j1, if_pos (by rfl), if_pos (by simp), e1, rnum_of r1 n h3 w1 (k + 2) (by omega)]
        simp only [Option.bind_some]
        exact j4_some w ⟨2, n, [], []⟩ hu (k + 2) (by omega)
      · simp only [wordsOf, if_neg (show ¬ (3 : Int) = 1 by decide), if_neg (show ¬ (3 : Int) = 2 by decide), if_true] at hws
        obtain ⟨r0, R, rfl, w0, hws⟩ := List.map_eq_cons_iff.1 hws
        obtain ⟨r1, rs, rfl, w1, wr⟩ := List.map_eq_cons_iff.1 hws
        have e0 : rdOf ByteArray.empty (r0 :: r1 :: rs) 0 = r0 := rfl
        have e1 : rdOf ByteArray.empty (r0 :: r1 :: rs) 1 = r1 := rfl
        have hrl : rs.length = g.length := by have := congrArg List.length wr; simpa using this
        rw [e0, if_neg (by rw [baToList, w0]; decide), vicinageref27_Unline.j0, if_neg (by simp), if_pos (by simp; omega), e0, if_neg (by rw [baToList, w0]; decide), vicinageref27_Unline.j1, if_neg (by simp), if_pos (by simp; omega), e0, if_pos (by rw [baToList, w0]; rfl),
          vicinageref27_Unline.j2, if_pos (by simp; omega), if_pos (by simp; omega), e1, rhexr_of r1 (by have := hR r1 (by simp); omega) b w1 (k + 1) (by omega)]
        simp only [Option.bind_some]
        refine l0_some 1500300 (Nat.le_refl _) w 3 0 b g h4 h8 hu (r0 :: r1 :: rs) (by simp [hrl]) (fun j hj => ?_) g.length 0 (k + 1) (by omega) (by omega)
        have hj2 : j < rs.length := by omega
        refine ⟨rs[j], by simp [hj2], ?_⟩
        have := congrArg (fun l => l[j]?) wr
        simp only [List.getElem?_map, List.getElem?_eq_getElem hj2, List.getElem?_eq_getElem hj, Option.map_some, Option.some.injEq] at this
        exact this
      · simp only [wordsOf, if_neg (show ¬ (4 : Int) = 1 by decide), if_neg (show ¬ (4 : Int) = 2 by decide), if_neg (show ¬ (4 : Int) = 3 by decide)] at hws
        obtain ⟨r0, R, rfl, hw0, hn⟩ := List.map_eq_cons_iff.1 hws
        obtain rfl := List.map_eq_nil_iff.1 hn
        have e0 : rdOf ByteArray.empty [r0] 0 = r0 := rfl
        rw [e0, if_neg (by rw [baToList, hw0]; decide), vicinageref27_Unline.j0, if_neg (by simp), if_pos (by simp), e0, if_neg (by rw [baToList, hw0]; decide), vicinageref27_Unline.j1, if_neg (by simp), if_pos (by simp), e0, if_neg (by rw [baToList, hw0]; decide),
          vicinageref27_Unline.j2, if_neg (by simp), if_pos (by simp), e0, if_pos (by rw [baToList, hw0]; rfl)]
        exact j4_some w ⟨4, 0, [], []⟩ hu (k + 1) (by omega)

end Go.Proofs.YtdfaljcdphbgdaaGreatDoor.SP
