/- The contracts of Line, Unline and known, in the form in which printed walks take them. -/
import Derived.Test.YtdfaljcdphbgdaaGreatDoorPLx0
import Derived.Test.YtdfaljcdphbgdaaGreatDoorJ
namespace Go.Proofs.YtdfaljcdphbgdaaGreatDoor.PL
set_option linter.unusedVariables false
open Go.RowKit Go.Proofs Go.Proofs.YtdfaljcdphbgdaaGreatDoorW.PrintWords Go.Proofs.YtdfaljcdphbgdaaGreatDoorW.PrintLast Go.Proofs.YtdfaljcdphbgdaaGreatDoorW.PrintMore Go.Proofs.YtdfaljcdphbgdaaGreatDoor

/-- what all calls find in memory -/
structure FixW (w : World) : Prop where
  tabs : Tabs w
  size : 9 ≤ w.heap.size

theorem FixW.below {w w' : World} (h : FixW w) (hb : Below w.heap.size w w') : FixW w' := ⟨h.tabs.below h.size hb, Nat.le_trans h.size hb.size⟩

def vicinagelaw27_known.f : Option Bool := some true
theorem vicinagelaw27_known.calls (r : Bool) (w : World) (h : vicinagelaw27_known.f = some r) (hF : FixW w) : Calls Tryz.prog 6 #[] w fun e w' => e = .returned (.bool r) ∧ Below w.heap.size w w' := by
  cases h
  exact known_true w hF.tabs hF.size

/-- bytes, as the printed walks have them -/
def byt (l : List Int) : SP.B := l.map fun x => UInt8.ofNat x.toNat
def isByt (l : List Int) : Bool := l.all fun x => decide (0 ≤ x) && decide (x < 256)
theorem byt_back : ∀ (l : List Int), isByt l = true → SP.nums8 (byt l) = l
  | [], _ => rfl
  | x :: r, h => by
    simp only [isByt, List.all_cons, Bool.and_eq_true, decide_eq_true_eq] at h
    have ih := byt_back r h.2
    simp only [byt, SP.nums8, List.map_cons, List.map_map] at ih ⊢
    rw [ih]
    congr 1
    rw [UInt8.toNat_ofNat']
    omega
theorem byt_nums (b : SP.B) : byt (SP.nums8 b) = b := by
  induction b with
  | nil => rfl
  | cons x r ih =>
    simp only [byt, SP.nums8, List.map_cons, List.map_map] at ih ⊢
    rw [ih]
    simp
theorem isByt_nums (b : SP.B) : isByt (SP.nums8 b) = true := by
  induction b with
  | nil => rfl
  | cons x r ih =>
    simp only [isByt, SP.nums8, List.map_cons, List.all_cons, Bool.and_eq_true, decide_eq_true_eq] at ih ⊢
    exact ⟨⟨by omega, by have := x.toNat_lt; omega⟩, ih⟩

def deedOf (k n : Int) (b a : List Int) : SP.Deed := ⟨k, n, byt b, a⟩
def script_Line.f (k n : Int) (b a : List Int) : Option (ByteArray × Int) :=
  if isByt b = true then some (⟨(if SP.may (deedOf k n b a) = true then SP.line (deedOf k n b a) else []).toArray⟩, if SP.may (deedOf k n b a) = true then 0 else 2) else none
theorem script_Line.calls (a0_0 : Int) (a0_1 : Int) (A0_2 : Option Addr) (c0_2 : Nat) (l0_2 : List Int) (A0_3 : Option Addr) (c0_3 : Nat) (l0_3 : List Int) (r1 : ByteArray) (r2 : Int) (w : World) (hr0_2 : Kd.C (Kd.int .u8) w A0_2 l0_2.length l0_2) (hc0_2 : l0_2.length ≤ c0_2) (hr0_3 : Kd.C (Kd.int .i64) w A0_3 l0_3.length l0_3) (hc0_3 : l0_3.length ≤ c0_3) (h : script_Line.f a0_0 a0_1 l0_2 l0_3 = some (r1, r2)) (hF : FixW w) :
    Calls Tryz.prog 15 #[.agg #[.int .i64 a0_0, .int .i64 a0_1, .slice A0_2 l0_2.length c0_2, .slice A0_3 l0_3.length c0_3]] w fun e w' => e = .returned (.tuple #[.string r1, .int .i64 r2]) ∧ Below w.heap.size w w' := by
  unfold script_Line.f at h
  split at h
  · rename_i hb
    have hbb := byt_back l0_2 hb
    injection h with h
    injection h with h1 h2
    have hI : In w (deedOf a0_0 a0_1 l0_2 l0_3) A0_2 c0_2 A0_3 c0_3 := ⟨by show Kd.C _ _ _ (SP.nums8 (byt l0_2)).length (SP.nums8 (byt l0_2)); rw [hbb]; exact hr0_2, by show (SP.nums8 (byt l0_2)).length ≤ c0_2; rw [hbb]; exact hc0_2, hr0_3, hc0_3⟩
    have hc := line_all w (deedOf a0_0 a0_1 l0_2 l0_3) A0_2 A0_3 c0_2 c0_3 hI hF.tabs hF.size
    rw [show (deedOf a0_0 a0_1 l0_2 l0_3).bytes = byt l0_2 from rfl, hbb] at hc
    refine hc.mono fun e w' ⟨he, hb⟩ => ⟨?_, hb⟩
    rw [he, h1, h2]
  · cases h

def script_Unline.f (s : ByteArray) : Option (Int × Int × List Int × List Int × Int) :=
  if s.size ≤ 1500000 then some ((told s.data.toList).1.kind, (told s.data.toList).1.n, SP.nums8 (told s.data.toList).1.bytes, (told s.data.toList).1.again, (told s.data.toList).2) else none
theorem script_Unline.calls (a0 : ByteArray) (r1 r2 : Int) (r3 r4 : List Int) (r5 : Int) (w : World) (h : script_Unline.f a0 = some (r1, r2, r3, r4, r5)) (hF : FixW w) :
    Calls Tryz.prog 7 #[.string a0] w fun e w' => ∃ v2_ v3_ : Value, e = .returned (.tuple #[.agg #[.int .i64 r1, .int .i64 r2, v2_, v3_], .int .i64 r5]) ∧ Kd.R (Kd.int .u8) 5 w' w.heap.size (fun _ => True) v2_ r3 ∧ Kd.R (Kd.int .i64) 3 w' w.heap.size (fun _ => True) v3_ r4 ∧ Below w.heap.size w w' := by
  unfold script_Unline.f at h
  split at h
  · rename_i hs
    obtain ⟨rfl, rfl, rfl, rfl, rfl⟩ : (told a0.data.toList).1.kind = r1 ∧ (told a0.data.toList).1.n = r2 ∧ SP.nums8 (told a0.data.toList).1.bytes = r3 ∧ (told a0.data.toList).1.again = r4 ∧ (told a0.data.toList).2 = r5 := by
      injection h with h; injection h with h1 h; injection h with h2 h; injection h with h3 h; injection h with h4 h5
      exact ⟨h1, h2, h3, h4, h5⟩
    exact walk a0 w hF.tabs hF.size hs
  · cases h
end Go.Proofs.YtdfaljcdphbgdaaGreatDoor.PL
