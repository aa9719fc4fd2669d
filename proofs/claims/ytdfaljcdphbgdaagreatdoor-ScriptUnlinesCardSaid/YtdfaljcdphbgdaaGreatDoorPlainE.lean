/- Plain laws: the document's answer, second part: reading. -/
import Derived.Test.YtdfaljcdphbgdaaGreatDoorPlainD
namespace Go.Proofs.YtdfaljcdphbgdaaGreatDoor.SP
open Go.RowKit Go.Proofs.YtdfaljcdphbgdaaGreatDoor.PRef Go.Proofs.YtdfaljcdphbgdaaGreatDoorW.PrintWords Go.Proofs.YtdfaljcdphbgdaaGreatDoorW.PrintLast Go.Proofs.YtdfaljcdphbgdaaGreatDoorW.PrintMore

theorem bt_get (w : ByteArray) (i : Nat) (c : UInt8) (r : B) (h : w.data.toList.drop i = c :: r) : bt w (i : Int) = (c.toNat : Int) ∧ i < w.size ∧ w.data.toList.drop (i + 1) = r := by
  have hl : i < w.data.toList.length := by
    rcases Nat.lt_or_ge i w.data.toList.length with h1 | h1
    · exact h1
    · rw [List.drop_eq_nil_iff.2 h1] at h; cases h
  have hz : w.data.toList.length = w.size := Array.length_toList
  rw [List.drop_eq_getElem_cons hl] at h
  injection h with h1 h2
  refine ⟨?_, by omega, h2⟩
  unfold bt
  rw [dif_pos (by simp; omega)]
  rw [← h1]
  rfl

/-! ### num, at a numeral -/
def val (l : B) (a : Nat) : Nat := l.foldl (fun a c => a * 10 + (c.toNat - 48)) a

theorem rnum_digits (w : ByteArray) : ∀ (l : B) (i k a : Nat), w.data.toList.drop i = l → (∀ c ∈ l, 48 ≤ c.toNat ∧ c.toNat ≤ 57) → l.length + i ≤ 10 → a < 10 ^ i → l.length < k →
    vicinageref27_num.l0 k w (a : Int) (i : Int) = some ((val l a : Nat) : Int)
  | [], i, k + 1, a, h, _, _, _, _ => by
    have hz : w.data.toList.length = w.size := Array.length_toList
    have := List.drop_eq_nil_iff.1 h
    rw [vicinageref27_num.l0, if_neg (by omega)]; rfl
  | c :: r, i, k + 1, a, h, hd, hl, ha, hk => by
    obtain ⟨hb, hi, hr⟩ := bt_get w i c r h
    have hc := hd c (by simp)
    simp only [List.length_cons] at hl hk
    have hp : 10 ^ i ≤ 10 ^ 9 := Nat.pow_le_pow_right (by omega) (by omega)
    have e : wrap64 ((i : Int) + 1) = ((i + 1 : Nat) : Int) := by rw [wrap64_small (by omega) (by omega)]; omega
    have e2 : wrap64 (wrap64 ((a : Int) * 10) + ((c.toNat : Int) - 48) % 256) = ((a * 10 + (c.toNat - 48) : Nat) : Int) := by
      rw [wrap64_small (n := (a : Int) * 10) (by omega) (by omega), wrap64_small (by omega) (by omega)]; omega
    rw [vicinageref27_num.l0, if_pos (by omega), if_pos (by omega), hb, if_neg (by omega), if_neg (by omega), if_neg (by omega), e, e2]
    exact rnum_digits w r (i + 1) k _ hr (fun x hx => hd x (by simp [hx])) (by omega) (by rw [Nat.pow_succ]; omega) (by omega)

theorem val_append (l m : B) (a : Nat) : val (l ++ m) a = val m (val l a) := List.foldl_append

theorem val_dec (u : Nat) : val (Lib.decDigits u) 0 = u := by
  induction u using Nat.strongRecOn with
  | _ u ih =>
    rw [Lib.decDigits]
    by_cases h : u < 10
    · rw [dif_pos h]
      simp only [val, List.foldl_cons, List.foldl_nil, dig_toNat u h]; omega
    · rw [dif_neg h, val_append, ih (u / 10) (by omega)]
      simp only [val, List.foldl_cons, List.foldl_nil, dig_toNat (u % 10) (by omega)]; omega

theorem rnum_of (w : ByteArray) (n : Int) (h : inOps n = true) (hw : w.data.toList = Lib.itoa n) (k : Nat) (hk : 20 ≤ k) : vicinageref27_num.f k w = some n := by
  have hs := itoa_short n h
  simp only [inOps, Bool.and_eq_true, decide_eq_true_eq] at h
  rw [itoa_nat n h.1] at hw hs
  have := rnum_digits w (Lib.decDigits n.toNat) 0 k 0 (by rw [← hw]; rfl) (decDigits_digits _) (by omega) (by decide) (by omega)
  unfold vicinageref27_num.f
  rw [Int.natCast_zero] at this
  rw [this, val_dec]
  congr 1; omega

/-! ### hex -/
theorem rdigit_some (c : Int) (h0 : 0 ≤ c) (h1 : c ≤ 255) (k : Nat) (hk : 1 ≤ k) : ∃ v, vicinageref27_digit.f k c = some v ∧ 0 ≤ v ∧ v < 256 := by
  obtain ⟨k, rfl⟩ : ∃ j, k = j + 1 := ⟨k - 1, by omega⟩
  unfold vicinageref27_digit.f
  have : ∀ b, ∃ v, vicinageref27_digit.j0 (k + 1) c b = some v ∧ 0 ≤ v ∧ v < 256 := by
    intro b
    rw [vicinageref27_digit.j0]
    repeat' split
    all_goals exact ⟨_, rfl, by omega, by omega⟩
  split <;> exact this _

theorem rdigit_hd (d : Nat) (h : d < 16) (k : Nat) (hk : 1 ≤ k) : vicinageref27_digit.f k ((hd d).toNat : Int) = some (d : Int) := by
  obtain ⟨k, rfl⟩ : ∃ j, k = j + 1 := ⟨k - 1, by omega⟩
  unfold vicinageref27_digit.f
  rw [hd_toNat d h]
  by_cases h1 : d < 10
  · rw [if_pos h1, if_pos (by omega), decide_eq_true (by omega), vicinageref27_digit.j0, if_pos rfl]
    congr 1; omega
  · rw [if_neg h1, if_pos (by omega), decide_eq_false (by omega), vicinageref27_digit.j0, if_neg (by simp), if_pos (by omega), if_pos (by omega)]
    congr 1; omega

theorem rhexr_some (w : ByteArray) (hw : w.size ≤ 2000000) : ∀ (m i k : Nat) (b : B), w.size ≤ i + m → m + 1 < k → b.length ≤ i → i ≤ w.size + 1 →
    ∃ b', vicinageref27_hex.l0 k w (nums8 b) (i : Int) = some (nums8 b')
  | m, i, 0, b, _, h, _, _ => by omega
  | m, i, k + 1, b, h, hk, hb, hiw => by
    by_cases hi : i + 1 < w.size
    · have e : wrap64 ((i : Int) + 1) = ((i + 1 : Nat) : Int) := by rw [wrap64_small (by omega) (by omega)]; omega
      have e2 : wrap64 ((i : Int) + 2) = ((i + 2 : Nat) : Int) := by rw [wrap64_small (by omega) (by omega)]; omega
      have r1 := bt_range w (i : Int)
      have r2 := bt_range w ((i + 1 : Nat) : Int)
      obtain ⟨v1, h1, _, _⟩ := rdigit_some (bt w (i : Int)) r1.1 r1.2 k (by omega)
      obtain ⟨v2, h2, _, _⟩ := rdigit_some (bt w ((i + 1 : Nat) : Int)) r2.1 r2.2 k (by omega)
      obtain ⟨m, rfl⟩ : ∃ j, m = j + 2 := ⟨m - 2, by omega⟩
      rw [vicinageref27_hex.l0, e, if_pos (by omega), if_pos (by omega), if_pos (by omega), h1]
      simp only [Option.bind_some]
      rw [if_pos (by omega), h2]
      simp only [Option.bind_some]
      have e0 : (nums8 b).length = b.length := by simp [nums8]
      rw [if_pos (by rw [e0]; omega), e2]
      have e3 : nums8 b ++ [(v1 * 16 % 256 + v2) % 256] = nums8 (b ++ [UInt8.ofNat ((v1 * 16 % 256 + v2) % 256).toNat]) := by
        simp only [nums8, List.map_append, List.map_cons, List.map_nil]
        congr 2
        rw [UInt8.toNat_ofNat']; omega
      rw [e3]
      exact rhexr_some w hw m (i + 2) k _ (by omega) (by omega) (by simp; omega) (by omega)
    · have e : ¬ wrap64 ((i : Int) + 1) < (w.size : Int) := by
        rw [wrap64_small (by omega) (by omega)]; omega
      rw [vicinageref27_hex.l0, if_neg e]
      exact ⟨b, rfl⟩

theorem rhexr_total (w : ByteArray) (hw : w.size ≤ 2000000) (k : Nat) (hk : w.size + 1 < k) : ∃ b, vicinageref27_hex.f k w = some (nums8 b) :=
  rhexr_some w hw w.size 0 k [] (by omega) hk (by simp) (by omega)

theorem rhexr_pairs (w : ByteArray) (hw : w.size ≤ 2000000) : ∀ (l : B) (i k : Nat) (out : List Int), w.data.toList.drop i = (l.flatMap fun b => [hd (b.toNat / 16), hd (b.toNat % 16)]) → out.length ≤ i → l.length + 1 < k → i ≤ w.size →
    vicinageref27_hex.l0 k w out (i : Int) = some (out ++ nums8 l)
  | l, i, 0, out, _, _, h, _ => by omega
  | [], i, k + 1, out, h, ho, hk, hiw => by
    have hz : w.data.toList.length = w.size := Array.length_toList
    have := List.drop_eq_nil_iff.1 h
    have e : wrap64 ((i : Int) + 1) = ((i + 1 : Nat) : Int) := by rw [wrap64_small (by omega) (by omega)]; omega
    rw [vicinageref27_hex.l0, e, if_neg (by omega)]
    simp [nums8]
  | c :: l, i, k + 1, out, h, ho, hk, hiw => by
    have hc := c.toNat_lt
    rw [List.flatMap_cons] at h
    obtain ⟨b1, i1, d1⟩ := bt_get w i _ _ h
    obtain ⟨b2, i2, d2⟩ := bt_get w (i + 1) _ _ d1
    simp only [List.length_cons] at hk
    have hdd : ∀ (d : Nat), d < 16 → vicinageref27_digit.f k ((hd d).toNat : Int) = some (d : Int) := fun d hd => rdigit_hd d hd k (by clear b1 b2 d1 d2 h; omega)
    have h1' : vicinageref27_digit.f k (bt w (i : Int)) = some ((c.toNat / 16 : Nat) : Int) := by rw [b1]; exact hdd _ (Nat.div_lt_of_lt_mul hc)
    have h2' : vicinageref27_digit.f k (bt w ((i + 1 : Nat) : Int)) = some ((c.toNat % 16 : Nat) : Int) := by rw [b2]; exact hdd _ (Nat.mod_lt _ (by decide))
    clear b1 b2 h d1 hdd
    have e : wrap64 ((i : Int) + 1) = ((i + 1 : Nat) : Int) := by clear d2; rw [wrap64_small (by omega) (by omega)]; omega
    have e2 : wrap64 ((i : Int) + 2) = ((i + 2 : Nat) : Int) := by clear d2; rw [wrap64_small (by omega) (by omega)]; omega
    have ih := rhexr_pairs w hw l (i + 2) k (out ++ [(c.toNat : Int)]) d2 (by simp; omega) (by omega) (by omega)
    have e3 : ((((c.toNat / 16 : Nat) : Int) * 16) % 256 + ((c.toNat % 16 : Nat) : Int)) % 256 = (c.toNat : Int) := by omega
    have c1 : out.length < 140737488355328 := by omega
    clear d2
    rw [vicinageref27_hex.l0, e, if_pos (by omega), if_pos (by omega), if_pos (by omega), h1']
    simp only [Option.bind_some]
    rw [if_pos (by omega), h2']
    simp only [Option.bind_some]
    rw [if_pos c1, e2, e3, ih]
    simp [nums8]

theorem rhexr_of (w : ByteArray) (hw : w.size ≤ 2000000) (b : B) (h : w.data.toList = hexW b) (k : Nat) (hk : 2000010 ≤ k) : vicinageref27_hex.f k w = some (nums8 b) := by
  have hz : w.data.toList.length = w.size := Array.length_toList
  unfold vicinageref27_hex.f
  cases b with
  | nil =>
    obtain ⟨k, rfl⟩ : ∃ j, k = j + 1 := ⟨k - 1, by omega⟩
    have : w.size = 1 := by rw [← hz, h]; rfl
    rw [vicinageref27_hex.l0, this, if_neg (by rw [wrap64_small (by omega) (by omega)]; omega)]; rfl
  | cons c r =>
    have hl := hexW_ge (c :: r)
    rw [← h] at hl
    rw [Int.natCast_zero.symm, rhexr_pairs w hw (c :: r) 0 k [] (by rw [List.drop_zero, h]; simp [hexW]) (by simp) (by omega) (by omega)]
    simp

/-! ### Cut -/
def cutp (c : UInt8) (pre l : B) : List B := match cut c l with | [] => [pre] | y :: ys => (pre ++ y) :: ys
theorem cutp_hit (c : UInt8) (pre r : B) : cutp c pre (c :: r) = pre :: cut c r := by simp [cutp, cut]
theorem cutp_nil (c : UInt8) (l : B) : cutp c [] l = cut c l := by
  unfold cutp
  cases h : cut c l with
  | nil => exact absurd h (cut_ne c l)
  | cons y ys => rfl
theorem cutp_miss (c x : UInt8) (h : x ≠ c) (pre r : B) : cutp c pre (x :: r) = cutp c (pre ++ [x]) r := by
  unfold cutp
  rw [cut, if_neg h]
  cases hr : cut c r with
  | nil => exact absurd hr (cut_ne c r)
  | cons y ys => simp

theorem extract_toList (w : ByteArray) (a b : Nat) (h1 : a ≤ b) (h2 : b ≤ w.size) : (w.extract a b).data.toList = (w.data.toList.take b).drop a := by
  rw [Lib.extract_data, List.drop_take]

theorem rcut_l0 (w : ByteArray) (hw : w.size ≤ 4000000) (c : UInt8) : ∀ (m i k : Nat) (frm : Nat) (acc : List ByteArray), w.size = i + m → m < k → frm ≤ i → acc.length ≤ i →
    ∃ R, vicinageref27_Cut.l0 k w (c.toNat : Int) acc (frm : Int) (i : Int) = some R ∧ R.map (·.data.toList) = acc.map (·.data.toList) ++ cutp c ((w.data.toList.take i).drop frm) (w.data.toList.drop i)
  | 0, i, k + 1, frm, acc, h, _, hf, ha => by
    have hz : w.data.toList.length = w.size := Array.length_toList
    rw [vicinageref27_Cut.l0, if_neg (by omega), if_pos (by omega), if_pos (by omega), if_pos (by omega)]
    refine ⟨_, rfl, ?_⟩
    have e1 : (frm : Int).toNat = frm := by omega
    have e2 : w.size = i := by omega
    have e3 : w.data.toList.drop i = [] := List.drop_eq_nil_iff.2 (by omega)
    rw [e3, List.map_append, List.map_cons, List.map_nil, extract_toList _ _ _ (by omega) (by omega), e1, e2]
    simp [cutp, cut]
  | m + 1, i, k + 1, frm, acc, h, hk, hf, ha => by
    have hz : w.data.toList.length = w.size := Array.length_toList
    have hi : i < w.data.toList.length := by omega
    have hd := List.drop_eq_getElem_cons hi
    obtain ⟨hb, _, _⟩ := bt_get w i _ _ hd
    have e : wrap64 ((i : Int) + 1) = ((i + 1 : Nat) : Int) := by rw [wrap64_small (by omega) (by omega)]; omega
    rw [vicinageref27_Cut.l0, if_pos (by omega), if_pos (by omega), hb, e, hd]
    by_cases hc : w.data.toList[i] = c
    · rw [if_pos (by rw [hc]), if_pos (by omega), if_pos (by omega), if_pos (by omega), if_pos (by omega)]
      obtain ⟨R, h1, h2⟩ := rcut_l0 w hw c m (i + 1) k (i + 1) (acc ++ [w.extract (frm : Int).toNat (i : Int).toNat]) (by omega) (by omega) (by omega) (by simp; omega)
      refine ⟨R, h1, ?_⟩
      rw [h2, hc, cutp_hit, List.drop_eq_nil_iff.2 (by simp; omega), cutp_nil, List.map_append, List.map_cons, List.map_nil, extract_toList _ _ _ (by omega) (by omega)]
      have e1 : (frm : Int).toNat = frm := by omega
      have e2 : (i : Int).toNat = i := by omega
      rw [e1, e2]
      simp
    · rw [if_neg (fun e => hc (UInt8.toNat_inj.1 (by omega)))]
      obtain ⟨R, h1, h2⟩ := rcut_l0 w hw c m (i + 1) k frm acc (by omega) (by omega) (by omega) (by omega)
      refine ⟨R, h1, ?_⟩
      rw [h2, cutp_miss c _ hc]
      congr 2
      rw [List.take_add_one, List.getElem?_eq_getElem hi, Option.toList_some, List.drop_append_of_le_length (by simp; omega)]

theorem rcut (w : ByteArray) (hw : w.size ≤ 4000000) (c : UInt8) (k : Nat) (hk : w.size < k) : ∃ R, vicinageref27_Cut.f k w (c.toNat : Int) = some R ∧ R.map (·.data.toList) = cut c w.data.toList := by
  obtain ⟨R, h1, h2⟩ := rcut_l0 w hw c w.size 0 k 0 [] (by omega) hk (by omega) (by simp)
  refine ⟨R, h1, ?_⟩
  rw [h2]
  simp [cutp_nil]

end Go.Proofs.YtdfaljcdphbgdaaGreatDoor.SP
