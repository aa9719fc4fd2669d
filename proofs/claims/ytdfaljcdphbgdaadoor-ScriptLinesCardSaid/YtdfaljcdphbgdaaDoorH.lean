/- The writer of a line: digits. -/
import Derived.Test.YtdfaljcdphbgdaaDoorC
import Derived.Test.YtdfaljcdphbgdaaDoorPlainD
import Derived.Deep.RegionLaw
import Derived.Deep.AppendLies
namespace Go.Proofs.YtdfaljcdphbgdaaDoor
set_option linter.unusedVariables false
set_option linter.unusedSimpArgs false
open Go.RowKit Go.Proofs Go.Proofs.YtdfaljcdphbgdaaDoorW.PrintWords Go.Proofs.YtdfaljcdphbgdaaDoorW.PrintLast Go.Proofs.YtdfaljcdphbgdaaDoorW.PrintMore

theorem u8Info : (Tryd.prog.info? 5).map (fun i => (i.zero, i.size, i.bytes)) = some (some (.int .u8 0), 1, 1) := by kernel_rfl

/-- the digits of bytes -/
def hx (l : SP.B) : List Int := SP.nums8 (l.flatMap fun b => [SP.hd (b.toNat / 16), SP.hd (b.toNat % 16)])

def DgI (W : World) (b : SP.B) (wr : World) (v3 : Value) (i : Nat) : Prop :=
  i ≤ b.length ∧ wr.ownsRow W.heap.size 5 1 v3 (2 * i) (encs (Value.int .u8) (hx (b.take i))) ∧ Below W.heap.size W wr

theorem digits_nil (A : Option Addr) (c : Nat) (w : World) :
    Calls Tryd.prog 16 #[.slice A 0 c] w fun e w' => e = .returned (.string ⟨#[45]⟩) ∧ w' = w := by
  go_enter Tryd.func16, Tryd.ntmps16
  go_wp2
  go_ret
  exact ⟨rfl, rfl⟩

theorem make_digits (n : Nat) (hn : n ≤ 2000000) (w : World) :
    (Instr.makeSlice 23 (.int .i64 0) (.int .i64 (n : Int))).run Tryd.prog w = .ok (.slice (some ⟨w.heap.size, 0, none⟩) 0 n) (w.alloc (.cells (madeCells #[.int .u8 0] n) 5)) := by
  obtain ⟨i, hi, hz, hs, hb⟩ := info_parts u8Info
  have hr := run_make (P := Tryd.prog) w 23 5 i (.int .u8 0) Tryd.underlying23 hi hz .i64 .i64 0 n (by omega) (by omega) (by rw [hb]; omega) (by omega)
  simp only [Int.toNat_natCast, Int.toNat_zero, hs, Nat.mul_one] at hr
  exact hr

theorem index_digits (j : Nat) (h : j < 16) (W : World) : (Instr.index 9 (.string ⟨#[48, 49, 50, 51, 52, 53, 54, 55, 56, 57, 97, 98, 99, 100, 101, 102]⟩) (.int .u8 (j : Int))).run Tryd.prog W = .ok (.int .u8 (((SP.hd j).toNat : Nat) : Int)) W := by
  have hb := SP.bt_digits j h
  have h1 : (j : Int) < 16 := by omega
  simp [go_sem, h1]
  rw [← hb, ← bt_at _ _ (by simpa [ByteArray.size] using h)]
  rfl
theorem and15 (x : Nat) (h : x < 256) : bits BinOp.and .u8 (x : Int) 15 = (x : Int) % 16 := by
  have : ∀ x : Fin 256, bits BinOp.and .u8 ((x.val : Nat) : Int) 15 = ((x.val : Nat) : Int) % 16 := by decide +kernel
  exact this ⟨x, h⟩

theorem own_lt2 {w : World} {base n size : Nat} {e : TypeId} {v : Value} {xs : List Value} (h : w.ownsRow base e size v n xs) : ∀ k, v.ownBlock = some k → base ≤ k := by
  intro k hk
  rcases h.2 with ⟨rfl, _⟩ | ⟨g, cap, cur, rfl, hb, _⟩
  · simp [Value.ownBlock] at hk
  · simp [Value.ownBlock] at hk; omega

theorem digits_some (A : Option Addr) (c : Nat) (b : SP.B) (w : World) (hb : b ≠ []) (hl : b.length ≤ 1000000) (hC : (Kd.int .u8).C w A b.length (SP.nums8 b)) :
    Calls Tryd.prog 16 #[.slice A b.length c] w fun e w' => e = .returned (.string ⟨(SP.hexW b).toArray⟩) ∧ Below w.heap.size w w' := by
  obtain ⟨m, hm⟩ : ∃ m, b.length = m + 1 := ⟨b.length - 1, by cases b with | nil => exact absurd rfl hb | cons _ _ => simp⟩
  have hbl := Lib.hid hm
  rw [hm] at hC ⊢
  have HC := Lib.hid hC
  have HLL := Lib.hid hl
  have e1 : (2 : Int) * ((m : Int) + 1) = ((2 * (m + 1) : Nat) : Int) := by omega
  have hmk := make_digits (2 * (m + 1)) (by omega)
  generalize h2m : 2 * (m + 1) = M at e1 hmk
  have H2M := Lib.hid h2m
  have hM : M ≤ 2000000 := by omega
  have hM0 : 0 ≤ (M : Int) := by omega
  have hm0 : ((m : Int) + 1 == 0) = false := by rw [beq_eq_false_iff_ne]; omega
  clear hC hm hl h2m
  go_enter Tryd.func16, Tryd.ntmps16
  go_wp2_with fail
  go_loopw [3, 15] (fun v i wr => ∃ k : Nat, i = .int .i64 k ∧ DgI w b wr v k) (fun _ i _ => b.length - (intOf i).toNat)
  case atStart =>
    refine ⟨0, rfl, Nat.zero_le _, ⟨by simp [hx, SP.nums8, encs], .inr ⟨w.heap.size, M, madeCells #[Value.int IntKind.u8 0] M, rfl, Nat.le_refl _, heap_alloc_new _ _, Nat.zero_le _, by unfold maxLen; omega, by simp [madeCells], by simp [hx, SP.nums8, encs]⟩⟩, (Below.refl _ _).alloc (Nat.le_refl _) _⟩
  case round =>
    obtain ⟨k, rfl, hk, hown, hbel⟩ := hrel
    by_cases hkm : k < m + 1
    · have hkm2 : (k : Int) < (m : Int) + 1 := by omega
      have hkl : k < b.length := by rw [hbl.out]; exact hkm
      obtain ⟨ad, rfl, hcell⟩ := (Kd.reads_of_C (d := 0) (Kd.C_below HC.out hbel)).at_ (k : Int) (by omega) (by omega)
      have hx8 : rdOf (0 : Int) (SP.nums8 b) (k : Int) = ((b[k]'hkl).toNat : Int) := by simp [rdOf, SP.nums8, hkl]
      rw [hx8, Int.toNat_natCast] at hcell
      have hlt := (b[k]'hkl).toNat_lt
      generalize hx0 : (b[k]'hkl).toNat = x at hcell hlt
      have HX0 := Lib.hid hx0
      have HOW := Lib.hid hown
      have HBE := Lib.hid hbel
      have h63 : 2 * k + 2 ≤ maxLen := by have := HLL.out; unfold maxLen; omega
      have h64 : (2 * k + 2) * 1 ≤ 140737488355328 := by have := HLL.out; omega
      obtain ⟨n1, hn1⟩ : ∃ n1 : Int, Hid (n1 = (((SP.hd (x / 16)).toNat : Nat) : Int)) := ⟨_, Lib.hid rfl⟩
      obtain ⟨n2, hn2⟩ : ∃ n2 : Int, Hid (n2 = (((SP.hd (x % 16)).toNat : Nat) : Int)) := ⟨_, Lib.hid rfl⟩
      have HOA := Lib.hid ((hown.alloc (Obj.cells #[Value.int IntKind.u8 n1, Value.int IntKind.u8 n2] 5)).drew)
      have hba : w.heap.size ≤ (wr.alloc (Obj.cells #[Value.int IntKind.u8 n1, Value.int IntKind.u8 n2] 5)).heap.size := by have := hbel.size; simp; omega
      obtain ⟨i0, hi0, hz0, hz1, hz2⟩ := info_parts u8Info
      have hi1 : ∀ W, (Instr.index 9 (.string ⟨#[48, 49, 50, 51, 52, 53, 54, 55, 56, 57, 97, 98, 99, 100, 101, 102]⟩) (.int .u8 ((x : Int) / 16))).run Tryd.prog W = .ok (.int .u8 n1) W := fun W => by rw [hn1.out]; exact index_digits (x / 16) (by omega) W
      have hi2 : ∀ W, (Instr.index 9 (.string ⟨#[48, 49, 50, 51, 52, 53, 54, 55, 56, 57, 97, 98, 99, 100, 101, 102]⟩) (.int .u8 ((x : Int) % 16))).run Tryd.prog W = .ok (.int .u8 n2) W := fun W => by rw [hn2.out]; exact index_digits (x % 16) (by omega) W
      have han : bits BinOp.and .u8 (x : Int) 15 = (x : Int) % 16 := and15 x (by omega)
      clear hx0 hown hbel hx8 hk
      go_wp2
      go_region_law (first
        | (refine step_append_lies _ (by rfl) _ _ _ (by rfl) w.heap.size 5 i0 _ 1 1 Tryd.underlying23 hi0 hz0 hz1 hz2 rfl (by omega) u3 (2 * k) _ (by rfl) HOA.out
             ⟨wr.heap.size, 0, none⟩ 2 2 [.int .u8 n1, .int .u8 n2] (by rfl) (by rfl) (World.news_of_block (cs := #[.int .u8 n1, .int .u8 n2]) (t := 5) (fr := (0, 0)) (heap_alloc_new wr _)) (by simp [Value.oneCell'])
             (by omega) h63 h64 hba (wr.heap.size + 1) (by simp) ?_
           intro gg cap w4 hown1 hgrow hat hlt2))
      all_goals
        have hD : DgI w b w4 (.slice (some ⟨gg, 0, none⟩) (2 * k + 2) cap) (k + 1) := by
          refine ⟨hkl, ?_, ?_⟩
          · have e : encs (Value.int .u8) (hx (b.take (k + 1))) = encs (Value.int .u8) (hx (b.take k)) ++ [Value.int .u8 n1, Value.int .u8 n2] := by
              rw [hn1.out, hn2.out, List.take_succ_eq_append_getElem hkl, ← HX0.out]
              simp only [hx, encs, SP.nums8, List.flatMap_append, List.map_append, List.flatMap_cons, List.flatMap_nil, List.append_nil, List.map_cons, List.map_nil]
            rw [e]
            exact hown1
          · have h1 := HBE.out
            have h2 : Below w.heap.size w (wr.alloc (Obj.cells #[Value.int IntKind.u8 n1, Value.int IntKind.u8 n2] 5)).drew := below_drew (h1.alloc h1.size _)
            have h3 := hgrow
            refine ⟨h3.os.trans h2.os, h3.tape.trans h2.tape, h3.output.trans h2.output, Nat.le_trans h2.size h3.size, fun i hi => (h3.block i (by have := h2.size; omega) (fun e => ?_)).trans (h2.block i hi)⟩
            have := own_lt2 HOW.out i e.symm
            omega
        have HD := Lib.hid hD
        have hkb : k + 1 < 1000001 := by have := HLL.out; omega
        clear hD hown1 hgrow hat hlt2 hcell
        try go_wp2_with fail
        exact ⟨⟨k + 1, by go_num, HD.out⟩, by simp [intOf]; omega⟩
    · have hkm2 : ¬ (k : Int) < (m : Int) + 1 := by omega
      have hke : k = b.length := by rw [hbl.out]; have := hbl.out; omega
      subst hke
      rw [List.take_length] at hown
      have hcv := own_string (P := Tryd.prog) (dst := 9) Tryd.underlying23 (by kernel_rfl) (by kernel_rfl) (xs := hx b) hown
      have HBE := Lib.hid hbel
      have hv : strOfNums (hx b) = ⟨(SP.hexW b).toArray⟩ := by
        apply SP.text_ext
        rw [strOfNums_data]
        cases b with
        | nil => exact absurd rfl hb
        | cons y r => simp [hx, SP.nums8, SP.hexW, Function.comp_def]
      rw [hv] at hcv
      obtain ⟨A3, c3, rfl⟩ := own_slice hown
      clear hown hbel
      go_wp2
      go_ret
      exact ⟨rfl, HBE.out⟩
end Go.Proofs.YtdfaljcdphbgdaaDoor
