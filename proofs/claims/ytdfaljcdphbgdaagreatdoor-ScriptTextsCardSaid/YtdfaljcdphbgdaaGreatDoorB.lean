/- A rune among the sixteen digits: strings.IndexRune at that text, at every rune. -/
import Derived.Test.YtdfaljcdphbgdaaGreatDoorA
import Derived.Deep.QuietTactic
import Derived.BigQuiet
import Derived.Lib.OthersKept
import Derived.Stop.FmtRuneSmall
namespace Go.Proofs.YtdfaljcdphbgdaaGreatDoor
set_option linter.unusedVariables false
set_option linter.unusedSimpArgs false
open Go.RowKit Go.Proofs

/-- the place of a rune among the digits, or -1 -/
def hexIdx (c : Int) : Int := if 48 ≤ c ∧ c ≤ 57 then c - 48 else if 97 ≤ c ∧ c ≤ 102 then c - 87 else -1

theorem hex_ascii : ∀ c : Fin 128, Lib.indexByte [48, 49, 50, 51, 52, 53, 54, 55, 56, 57, 97, 98, 99, 100, 101, 102] c.val.toUInt8 = hexIdx c.val := by decide +kernel

theorem idx_ascii (c : Int) (W : World) (h0 : 0 ≤ c) (h1 : c < 128) :
    Calls Tryz.prog 41 #[.string ⟨#[48, 49, 50, 51, 52, 53, 54, 55, 56, 57, 97, 98, 99, 100, 101, 102]⟩, .int .i32 c] W fun e w' => e = .returned (.int .i64 (hexIdx c)) ∧ Below W.heap.size W w' := by
  refine (Tryz.strings_IndexRune_ascii _ c W h0 h1).mono fun e w' ⟨he, hw⟩ => ⟨?_, hw ▸ Below.refl _ _⟩
  have h := hex_ascii ⟨c.toNat, by omega⟩
  simp only at h
  rw [he, show (((c.toNat : Nat) : Int)) = c by omega] at *
  rw [← h]

theorem far_indexByte (l : List UInt8) (c : UInt8) (hl : ∀ b ∈ l, b.toNat < 128) (hc : 128 ≤ c.toNat) : Lib.indexByte l c = -1 := by
  induction l with
  | nil => rfl
  | cons b r ih =>
    have h1 := hl b (by simp)
    have hne : (b == c) = false := by
      rw [beq_eq_false_iff_ne]; intro e; rw [e] at h1; omega
    rw [Lib.indexByte, hne, ih (fun b hb => hl b (by simp [hb]))]
    rfl

theorem encode_forms (r : Int) (hv : Utf8.valid r = true) (h : 128 ≤ r) :
    (∃ a c : UInt8, Utf8.encode r = ⟨#[a, c]⟩ ∧ 128 ≤ c.toNat) ∨ (∃ a b c : UInt8, Utf8.encode r = ⟨#[a, b, c]⟩ ∧ 128 ≤ c.toNat) ∨ (∃ a b d c : UInt8, Utf8.encode r = ⟨#[a, b, d, c]⟩ ∧ 128 ≤ c.toNat) := by
  have hc : ¬ r.toNat < 128 := by omega
  unfold Utf8.encode
  simp only [hv, if_true, hc, if_false]
  split
  · exact .inl ⟨_, _, rfl, by simp; omega⟩
  · split
    · exact .inr (.inl ⟨_, _, _, rfl, by simp; omega⟩)
    · exact .inr (.inr ⟨_, _, _, _, rfl, by simp; omega⟩)

theorem hex_lt : ∀ i : Fin 16, ((⟨#[48, 49, 50, 51, 52, 53, 54, 55, 56, 57, 97, 98, 99, 100, 101, 102]⟩ : ByteArray)[i.val]'(i.isLt)).toNat < 128 := by decide +kernel

theorem ib_far (s : ByteArray) (c : UInt8) (W : World) (hs : (s.data.toList.all fun b => decide (b.toNat < 128)) = true) (hc : 128 ≤ c.toNat) :
    Calls Tryz.prog 57 #[.string s, .int .u8 c.toNat] W fun e w' => e = .returned (.int .i64 (-1)) ∧ w' = W := by
  refine (Tryz.strings_IndexByte s c.toNat W).mono fun e w' ⟨he, hw⟩ => ⟨?_, hw⟩
  have e1 : ((c.toNat : Int)).toNat.toUInt8 = c := by simp
  rw [he, e1, far_indexByte _ _ (fun b hb => by simpa using List.all_eq_true.1 hs b hb) hc]

set_option maxHeartbeats 1000000 in
set_option maxRecDepth 100000 in
theorem idx_err (W : World) :
    Calls Tryz.prog 41 #[.string ⟨#[48, 49, 50, 51, 52, 53, 54, 55, 56, 57, 97, 98, 99, 100, 101, 102]⟩, .int .i32 65533] W fun e w' => e = .returned (.int .i64 (-1)) ∧ Below W.heap.size W w' := by
  go_enter Tryz.func41, Tryz.ntmps41
  go_wp2_with fail
  go_loopw [176, 177] (fun _ _ wr => ∃ pos, pos ≤ 16 ∧ wr.heap[W.heap.size]? = some (.stringIter ⟨#[48, 49, 50, 51, 52, 53, 54, 55, 56, 57, 97, 98, 99, 100, 101, 102]⟩ pos) ∧ Below W.heap.size W wr) (fun _ _ wr => 16 - wr.iterPos W.heap.size)
  case atStart => exact ⟨0, by omega, World.iter_heap _ _ _, (Below.refl _ _).alloc (Nat.le_refl _) _⟩
  case round =>
    obtain ⟨pos, hp, hk, hb⟩ := hrel
    by_cases hlt : pos < 16
    · have hn := fun ty => Lib.run_next_ascii_at (P := Tryz.prog) wr W.heap.size _ pos ty hk hlt (hex_lt ⟨pos, hlt⟩)
      have hv := hex_lt ⟨pos, hlt⟩
      simp only at hv
      have hK := Lib.hid (Lib.iterAt_heap wr W.heap.size _ pos (pos + 1) hk)
      have hB := Lib.below_iterAt hb (k := W.heap.size) (Nat.le_refl _) ⟨#[48, 49, 50, 51, 52, 53, 54, 55, 56, 57, 97, 98, 99, 100, 101, 102]⟩ (pos + 1)
      have hM := Lib.hid (iterPos_of hk)
      have hM2 := Lib.hid (iterPos_of hK.out)
      clear hk hb
      obtain ⟨b, hb⟩ : ∃ b, (⟨#[48, 49, 50, 51, 52, 53, 54, 55, 56, 57, 97, 98, 99, 100, 101, 102]⟩ : ByteArray)[pos]'hlt = b := ⟨_, rfl⟩
      rw [hb] at hv
      have hn' : ∀ ty, (Instr.next (.pointer (some ⟨W.heap.size, 0, none⟩)) true ty).run Tryz.prog wr = .ok (.tuple #[.bool true, .int .i64 pos, .int .i32 b.toNat]) (wr.iterAt W.heap.size _ (pos + 1)) := fun ty => by rw [hn ty, hb]
      clear hn hb
      have hne : ((b.toNat : Int) == 65533) = false := by rw [beq_eq_false_iff_ne]; omega
      go_wp2
      go_roundw
      case rel => exact ⟨pos + 1, by omega, hK.out, hB⟩
      case measure => rw [hM.out, hM2.out]; omega
    · have hn := fun ty => Lib.run_next_end_at (P := Tryz.prog) wr W.heap.size _ pos ty hk (by show ¬ pos < 16; omega)
      go_wp2
      go_ret
      exact ⟨rfl, hb⟩

set_option maxHeartbeats 1000000 in
set_option maxRecDepth 100000 in
theorem idx_two (r : Int) (a c : UInt8) (W : World) (hr : 128 ≤ r) (hn : r ≠ 65533) (hv : Utf8.valid r = true) (he : Utf8.encode r = ⟨#[a, c]⟩) (hc : 128 ≤ c.toNat) :
    Calls Tryz.prog 41 #[.string ⟨#[48, 49, 50, 51, 52, 53, 54, 55, 56, 57, 97, 98, 99, 100, 101, 102]⟩, .int .i32 r] W fun e w' => e = .returned (.int .i64 (-1)) ∧ Below W.heap.size W w' := by
  have hv' : Lib.validRune r = true := by rw [show Lib.validRune r = Go.validRune r from rfl, ← validRune_eq]; exact hv
  have hb1 : (r == 65533) = false := by simpa using hn
  have hct : ((((⟨#[48, 49, 50, 51, 52, 53, 54, 55, 56, 57, 97, 98, 99, 100, 101, 102]⟩ : ByteArray)[1]'(by show 1 < 16; omega)).toNat : Int) != (((⟨#[a, c]⟩ : ByteArray)[1]'(by show 1 < 2; omega)).toNat : Int)) = true := by
    rw [bne_iff_ne]
    show ((49 : UInt8).toNat : Int) ≠ (c.toNat : Int)
    have : (49 : UInt8).toNat = 49 := rfl
    omega
  clear hn
  go_enter Tryz.func41, Tryz.ntmps41
  go_wp2_with fail
  refine (Tryz.utf8_ValidRune r W).mono ?_
  rintro e w' ⟨rfl, rfl⟩
  rw [hv']
  go_wp2_with fail
  go_step3
  go_wp2_with fail
  refine wp_loop_rounds 1 ?_
  rw [rounds_succ]
  go_wp2_with fail
  go_step3
  go_wp2_with fail
  go_quiet (fail)
  go_wp2_with fail
  have hb9 := below_drewN (Below.refl w'.heap.size w') nq
  generalize w'.drewN nq = w9 at hb9 ⊢
  go_quiet ((go_at_call 57; exact Calls.quiet_of_same (ib_far _ _ _ (by decide +kernel) hc)))
  have hb8 := below_drewN hb9 nq
  clear hb9
  go_wp2_with fail
  rw [Exit.noGoto_ret]
  simp only [Exit.inBlock, Exit.then]
  rw [Exit.noGoto_ret]
  go_ret
  exact ⟨rfl, hb8⟩

set_option maxHeartbeats 1000000 in
set_option maxRecDepth 100000 in
theorem idx_three (r : Int) (a b c : UInt8) (W : World) (hr : 128 ≤ r) (hn : r ≠ 65533) (hv : Utf8.valid r = true) (he : Utf8.encode r = ⟨#[a, b, c]⟩) (hc : 128 ≤ c.toNat) :
    Calls Tryz.prog 41 #[.string ⟨#[48, 49, 50, 51, 52, 53, 54, 55, 56, 57, 97, 98, 99, 100, 101, 102]⟩, .int .i32 r] W fun e w' => e = .returned (.int .i64 (-1)) ∧ Below W.heap.size W w' := by
  have hv' : Lib.validRune r = true := by rw [show Lib.validRune r = Go.validRune r from rfl, ← validRune_eq]; exact hv
  have hb1 : (r == 65533) = false := by simpa using hn
  have hct : ((((⟨#[48, 49, 50, 51, 52, 53, 54, 55, 56, 57, 97, 98, 99, 100, 101, 102]⟩ : ByteArray)[2]'(by show 2 < 16; omega)).toNat : Int) != (((⟨#[a, b, c]⟩ : ByteArray)[2]'(by show 2 < 3; omega)).toNat : Int)) = true := by
    rw [bne_iff_ne]
    show ((50 : UInt8).toNat : Int) ≠ (c.toNat : Int)
    have : (50 : UInt8).toNat = 50 := rfl
    omega
  clear hn
  go_enter Tryz.func41, Tryz.ntmps41
  go_wp2_with fail
  refine (Tryz.utf8_ValidRune r W).mono ?_
  rintro e w' ⟨rfl, rfl⟩
  rw [hv']
  go_wp2_with fail
  go_step3
  go_wp2_with fail
  refine wp_loop_rounds 1 ?_
  rw [rounds_succ]
  go_wp2_with fail
  go_step3
  go_wp2_with fail
  go_quiet (fail)
  go_wp2_with fail
  have hb9 := below_drewN (Below.refl w'.heap.size w') nq
  generalize w'.drewN nq = w9 at hb9 ⊢
  go_quiet ((go_at_call 57; exact Calls.quiet_of_same (ib_far _ _ _ (by decide +kernel) hc)))
  have hb8 := below_drewN hb9 nq
  clear hb9
  go_wp2_with fail
  rw [Exit.noGoto_ret]
  simp only [Exit.inBlock, Exit.then]
  rw [Exit.noGoto_ret]
  go_ret
  exact ⟨rfl, hb8⟩

set_option maxHeartbeats 1000000 in
set_option maxRecDepth 100000 in
theorem idx_four (r : Int) (a b d c : UInt8) (W : World) (hr : 128 ≤ r) (hn : r ≠ 65533) (hv : Utf8.valid r = true) (he : Utf8.encode r = ⟨#[a, b, d, c]⟩) (hc : 128 ≤ c.toNat) :
    Calls Tryz.prog 41 #[.string ⟨#[48, 49, 50, 51, 52, 53, 54, 55, 56, 57, 97, 98, 99, 100, 101, 102]⟩, .int .i32 r] W fun e w' => e = .returned (.int .i64 (-1)) ∧ Below W.heap.size W w' := by
  have hv' : Lib.validRune r = true := by rw [show Lib.validRune r = Go.validRune r from rfl, ← validRune_eq]; exact hv
  have hb1 : (r == 65533) = false := by simpa using hn
  have hct : ((((⟨#[48, 49, 50, 51, 52, 53, 54, 55, 56, 57, 97, 98, 99, 100, 101, 102]⟩ : ByteArray)[3]'(by show 3 < 16; omega)).toNat : Int) != (((⟨#[a, b, d, c]⟩ : ByteArray)[3]'(by show 3 < 4; omega)).toNat : Int)) = true := by
    rw [bne_iff_ne]
    show ((51 : UInt8).toNat : Int) ≠ (c.toNat : Int)
    have : (51 : UInt8).toNat = 51 := rfl
    omega
  clear hn
  go_enter Tryz.func41, Tryz.ntmps41
  go_wp2_with fail
  refine (Tryz.utf8_ValidRune r W).mono ?_
  rintro e w' ⟨rfl, rfl⟩
  rw [hv']
  go_wp2_with fail
  go_step3
  go_wp2_with fail
  refine wp_loop_rounds 1 ?_
  rw [rounds_succ]
  go_wp2_with fail
  go_step3
  go_wp2_with fail
  go_quiet (fail)
  go_wp2_with fail
  have hb9 := below_drewN (Below.refl w'.heap.size w') nq
  generalize w'.drewN nq = w9 at hb9 ⊢
  go_quiet ((go_at_call 57; exact Calls.quiet_of_same (ib_far _ _ _ (by decide +kernel) hc)))
  have hb8 := below_drewN hb9 nq
  clear hb9
  go_wp2_with fail
  rw [Exit.noGoto_ret]
  simp only [Exit.inBlock, Exit.then]
  rw [Exit.noGoto_ret]
  go_ret
  exact ⟨rfl, hb8⟩

theorem idx_any (c : Int) (W : World) (h0 : 0 ≤ c) (hv : Utf8.valid c = true) :
    Calls Tryz.prog 41 #[.string ⟨#[48, 49, 50, 51, 52, 53, 54, 55, 56, 57, 97, 98, 99, 100, 101, 102]⟩, .int .i32 c] W fun e w' => e = .returned (.int .i64 (hexIdx c)) ∧ Below W.heap.size W w' := by
  by_cases h1 : c < 128
  · exact idx_ascii c W h0 h1
  · have e1 : hexIdx c = -1 := by unfold hexIdx; rw [if_neg (by omega), if_neg (by omega)]
    rw [e1]
    by_cases h2 : c = 65533
    · subst h2; exact idx_err W
    · rcases encode_forms c hv (by omega) with ⟨a, d, he, hd⟩ | ⟨a, b, d, he, hd⟩ | ⟨a, b, x, d, he, hd⟩
      · exact idx_two c a d W (by omega) h2 hv he hd
      · exact idx_three c a b d W (by omega) h2 hv he hd
      · exact idx_four c a b x d W (by omega) h2 hv he hd

end Go.Proofs.YtdfaljcdphbgdaaGreatDoor
