/- The writer of a line: Line. -/
import Derived.Test.YtdfaljcdphbgdaaGreatDoorC
import Derived.Test.YtdfaljcdphbgdaaGreatDoorPlainD
import Derived.Deep.RegionLaw
import Derived.Deep.AppendLies
import Derived.Deep.RegionHeld3
import Derived.Deep.RegionWith
namespace Go.Proofs.YtdfaljcdphbgdaaGreatDoor
set_option linter.unusedVariables false
set_option linter.unusedSimpArgs false
open Go.RowKit Go.Proofs Go.Proofs.YtdfaljcdphbgdaaGreatDoorW.PrintWords Go.Proofs.YtdfaljcdphbgdaaGreatDoorW.PrintLast Go.Proofs.YtdfaljcdphbgdaaGreatDoorW.PrintMore

theorem u8Info : (Tryz.prog.info? 5).map (fun i => (i.zero, i.size, i.bytes)) = some (some (.int .u8 0), 1, 1) := by kernel_rfl

/-- the digits of bytes -/
def hx (l : SP.B) : List Int := SP.nums8 (l.flatMap fun b => [SP.hd (b.toNat / 16), SP.hd (b.toNat % 16)])

def DgI (W : World) (b : SP.B) (wr : World) (v3 : Value) (i : Nat) : Prop :=
  i ≤ b.length ∧ wr.ownsRow W.heap.size 5 1 v3 (2 * i) (encs (Value.int .u8) (hx (b.take i))) ∧ Below W.heap.size W wr

theorem digits_nil (A : Option Addr) (c : Nat) (w : World) :
    Calls Tryz.prog 33 #[.slice A 0 c] w fun e w' => e = .returned (.string ⟨#[45]⟩) ∧ w' = w := by
  go_enter Tryz.func33, Tryz.ntmps33
  go_wp2
  go_ret
  exact ⟨rfl, rfl⟩

theorem make_digits (n : Nat) (hn : n ≤ 2000000) (w : World) :
    (Instr.makeSlice 24 (.int .i64 0) (.int .i64 (n : Int))).run Tryz.prog w = .ok (.slice (some ⟨w.heap.size, 0, none⟩) 0 n) (w.alloc (.cells (madeCells #[.int .u8 0] n) 5)) := by
  obtain ⟨i, hi, hz, hs, hb⟩ := info_parts u8Info
  have hr := run_make (P := Tryz.prog) w 24 5 i (.int .u8 0) Tryz.underlying24 hi hz .i64 .i64 0 n (by omega) (by omega) (by rw [hb]; omega) (by omega)
  simp only [Int.toNat_natCast, Int.toNat_zero, hs, Nat.mul_one] at hr
  exact hr

theorem index_digits (j : Nat) (h : j < 16) (W : World) : (Instr.index 9 (.string ⟨#[48, 49, 50, 51, 52, 53, 54, 55, 56, 57, 97, 98, 99, 100, 101, 102]⟩) (.int .u8 (j : Int))).run Tryz.prog W = .ok (.int .u8 (((SP.hd j).toNat : Nat) : Int)) W := by
  have hb := SP.bt_digits j h
  have h1 : (j : Int) < 16 := by omega
  simp [go_sem, h1]
  rw [← hb, ← bt_at _ _ (by simpa [ByteArray.size] using h)]
  rfl
theorem and15 (x : Nat) (h : x < 256) : bits BinOp.and .u8 (x : Int) 15 = (x : Int) % 16 := by
  have : ∀ x : Fin 256, bits BinOp.and .u8 ((x.val : Nat) : Int) 15 = ((x.val : Nat) : Int) % 16 := by decide +kernel
  exact this ⟨x, h⟩

theorem own_lt2 {w : World} {base n size : Nat} {e : TypeId} {v : Value} {xs : List Value} (h : w.ownsRow base e size v n xs) : ∀ k, v.ownBlock = some k → base ≤ k := by
  intro k hk
  rcases h.2 with ⟨rfl, _⟩ | ⟨g, cap, cur, rfl, hb, _⟩
  · simp [Value.ownBlock] at hk
  · simp [Value.ownBlock] at hk; omega

theorem digits_some (A : Option Addr) (c : Nat) (b : SP.B) (w : World) (hb : b ≠ []) (hl : b.length ≤ 1000000) (hC : (Kd.int .u8).C w A b.length (SP.nums8 b)) :
    Calls Tryz.prog 33 #[.slice A b.length c] w fun e w' => e = .returned (.string ⟨(SP.hexW b).toArray⟩) ∧ Below w.heap.size w w' := by
  obtain ⟨m, hm⟩ : ∃ m, b.length = m + 1 := ⟨b.length - 1, by cases b with | nil => exact absurd rfl hb | cons _ _ => simp⟩
  have hbl := Lib.hid hm
  rw [hm] at hC ⊢
  have HC := Lib.hid hC
  have HLL := Lib.hid hl
  have e1 : (2 : Int) * ((m : Int) + 1) = ((2 * (m + 1) : Nat) : Int) := by omega
  have hmk := make_digits (2 * (m + 1)) (by omega)
  generalize h2m : 2 * (m + 1) = M at e1 hmk
  have H2M := Lib.hid h2m
  have hM : M ≤ 2000000 := by omega
  have hM0 : 0 ≤ (M : Int) := by omega
  have hm0 : ((m : Int) + 1 == 0) = false := by rw [beq_eq_false_iff_ne]; omega
  clear hC hm hl h2m
  go_enter Tryz.func33, Tryz.ntmps33
  go_wp2_with fail
  go_loopw [3, 15] (fun v i wr => ∃ k : Nat, i = .int .i64 k ∧ DgI w b wr v k) (fun _ i _ => b.length - (intOf i).toNat)
  case atStart =>
    refine ⟨0, rfl, Nat.zero_le _, ⟨by simp [hx, SP.nums8, encs], .inr ⟨w.heap.size, M, madeCells #[Value.int IntKind.u8 0] M, rfl, Nat.le_refl _, heap_alloc_new _ _, Nat.zero_le _, by unfold maxLen; omega, by simp [madeCells], by simp [hx, SP.nums8, encs]⟩⟩, (Below.refl _ _).alloc (Nat.le_refl _) _⟩
  case round =>
    obtain ⟨k, rfl, hk, hown, hbel⟩ := hrel
    by_cases hkm : k < m + 1
    · have hkm2 : (k : Int) < (m : Int) + 1 := by omega
      have hkl : k < b.length := by rw [hbl.out]; exact hkm
      obtain ⟨ad, rfl, hcell⟩ := (Kd.reads_of_C (d := 0) (Kd.C_below HC.out hbel)).at_ (k : Int) (by omega) (by omega)
      have hx8 : rdOf (0 : Int) (SP.nums8 b) (k : Int) = ((b[k]'hkl).toNat : Int) := by simp [rdOf, SP.nums8, hkl]
      rw [hx8, Int.toNat_natCast] at hcell
      have hlt := (b[k]'hkl).toNat_lt
      generalize hx0 : (b[k]'hkl).toNat = x at hcell hlt
      have HX0 := Lib.hid hx0
      have HOW := Lib.hid hown
      have HBE := Lib.hid hbel
      have h63 : 2 * k + 2 ≤ maxLen := by have := HLL.out; unfold maxLen; omega
      have h64 : (2 * k + 2) * 1 ≤ 140737488355328 := by have := HLL.out; omega
      obtain ⟨n1, hn1⟩ : ∃ n1 : Int, Hid (n1 = (((SP.hd (x / 16)).toNat : Nat) : Int)) := ⟨_, Lib.hid rfl⟩
      obtain ⟨n2, hn2⟩ : ∃ n2 : Int, Hid (n2 = (((SP.hd (x % 16)).toNat : Nat) : Int)) := ⟨_, Lib.hid rfl⟩
      have HOA := Lib.hid ((hown.alloc (Obj.cells #[Value.int IntKind.u8 n1, Value.int IntKind.u8 n2] 5)).drew)
      have hba : w.heap.size ≤ (wr.alloc (Obj.cells #[Value.int IntKind.u8 n1, Value.int IntKind.u8 n2] 5)).heap.size := by have := hbel.size; simp; omega
      obtain ⟨i0, hi0, hz0, hz1, hz2⟩ := info_parts u8Info
      have hi1 : ∀ W, (Instr.index 9 (.string ⟨#[48, 49, 50, 51, 52, 53, 54, 55, 56, 57, 97, 98, 99, 100, 101, 102]⟩) (.int .u8 ((x : Int) / 16))).run Tryz.prog W = .ok (.int .u8 n1) W := fun W => by rw [hn1.out]; exact index_digits (x / 16) (by omega) W
      have hi2 : ∀ W, (Instr.index 9 (.string ⟨#[48, 49, 50, 51, 52, 53, 54, 55, 56, 57, 97, 98, 99, 100, 101, 102]⟩) (.int .u8 ((x : Int) % 16))).run Tryz.prog W = .ok (.int .u8 n2) W := fun W => by rw [hn2.out]; exact index_digits (x % 16) (by omega) W
      have han : bits BinOp.and .u8 (x : Int) 15 = (x : Int) % 16 := and15 x (by omega)
      clear hx0 hown hbel hx8 hk
      go_wp2
      go_region_law (first
        | (refine step_append_lies _ (by rfl) _ _ _ (by rfl) w.heap.size 5 i0 _ 1 1 Tryz.underlying24 hi0 hz0 hz1 hz2 rfl (by omega) u3 (2 * k) _ (by rfl) HOA.out
             ⟨wr.heap.size, 0, none⟩ 2 2 [.int .u8 n1, .int .u8 n2] (by rfl) (by rfl) (World.news_of_block (cs := #[.int .u8 n1, .int .u8 n2]) (t := 5) (fr := (0, 0)) (heap_alloc_new wr _)) (by simp [Value.oneCell'])
             (by omega) h63 h64 hba (wr.heap.size + 1) (by simp) ?_
           intro gg cap w4 hown1 hgrow hat hlt2))
      all_goals
        have hD : DgI w b w4 (.slice (some ⟨gg, 0, none⟩) (2 * k + 2) cap) (k + 1) := by
          refine ⟨hkl, ?_, ?_⟩
          · have e : encs (Value.int .u8) (hx (b.take (k + 1))) = encs (Value.int .u8) (hx (b.take k)) ++ [Value.int .u8 n1, Value.int .u8 n2] := by
              rw [hn1.out, hn2.out, List.take_succ_eq_append_getElem hkl, ← HX0.out]
              simp only [hx, encs, SP.nums8, List.flatMap_append, List.map_append, List.flatMap_cons, List.flatMap_nil, List.append_nil, List.map_cons, List.map_nil]
            rw [e]
            exact hown1
          · have h1 := HBE.out
            have h2 : Below w.heap.size w (wr.alloc (Obj.cells #[Value.int IntKind.u8 n1, Value.int IntKind.u8 n2] 5)).drew := below_drew (h1.alloc h1.size _)
            have h3 := hgrow
            refine ⟨h3.os.trans h2.os, h3.tape.trans h2.tape, h3.output.trans h2.output, Nat.le_trans h2.size h3.size, fun i hi => (h3.block i (by have := h2.size; omega) (fun e => ?_)).trans (h2.block i hi)⟩
            have := own_lt2 HOW.out i e.symm
            omega
        have HD := Lib.hid hD
        have hkb : k + 1 < 1000001 := by have := HLL.out; omega
        clear hD hown1 hgrow hat hlt2 hcell
        try go_wp2_with fail
        exact ⟨⟨k + 1, by go_num, HD.out⟩, by simp [intOf]; omega⟩
    · have hkm2 : ¬ (k : Int) < (m : Int) + 1 := by omega
      have hke : k = b.length := by rw [hbl.out]; have := hbl.out; omega
      subst hke
      rw [List.take_length] at hown
      have hcv := own_string (P := Tryz.prog) (dst := 9) Tryz.underlying24 (by kernel_rfl) (by kernel_rfl) (xs := hx b) hown
      have HBE := Lib.hid hbel
      have hv : strOfNums (hx b) = ⟨(SP.hexW b).toArray⟩ := by
        apply SP.text_ext
        rw [strOfNums_data]
        cases b with
        | nil => exact absurd rfl hb
        | cons y r => simp [hx, SP.nums8, SP.hexW, Function.comp_def]
      rw [hv] at hcv
      obtain ⟨A3, c3, rfl⟩ := own_slice hown
      clear hown hbel
      go_wp2
      go_ret
      exact ⟨rfl, HBE.out⟩
end Go.Proofs.YtdfaljcdphbgdaaGreatDoor
namespace Go.Proofs.YtdfaljcdphbgdaaGreatDoor
set_option linter.unusedVariables false
set_option linter.unusedSimpArgs false
open Go.RowKit Go.Proofs Go.Proofs.YtdfaljcdphbgdaaGreatDoorW.PrintWords Go.Proofs.YtdfaljcdphbgdaaGreatDoorW.PrintLast Go.Proofs.YtdfaljcdphbgdaaGreatDoorW.PrintMore

theorem errInfo : (Tryz.prog.info? 9).map (fun i => (i.zero, i.size, i.bytes)) = some (some (.string ByteArray.empty), 1, 16) := by kernel_rfl

/-- a deed as it came in -/
structure In (w : World) (x : SP.Deed) (A2 : Option Addr) (c2 : Nat) (A3 : Option Addr) (c3 : Nat) : Prop where
  b : (Kd.int .u8).C w A2 (SP.nums8 x.bytes).length (SP.nums8 x.bytes)
  hb : (SP.nums8 x.bytes).length ≤ c2
  g : (Kd.int .i64).C w A3 x.again.length x.again
  hg : x.again.length ≤ c3

theorem In.below {w w' : World} {x : SP.Deed} {A2 A3 : Option Addr} {c2 c3 : Nat} (h : In w x A2 c2 A3 c3) (hb : Below w.heap.size w w') : In w' x A2 c2 A3 c3 :=
  ⟨Kd.C_below h.b hb, h.hb, Kd.C_below h.g hb, h.hg⟩

theorem may_in {w : World} {x : SP.Deed} {A2 A3 : Option Addr} {c2 c3 : Nat} (h : In w x A2 c2 A3 c3) :
    Calls Tryz.prog 22 #[.agg #[.int .i64 x.kind, .int .i64 x.n, .slice A2 (SP.nums8 x.bytes).length c2, .slice A3 x.again.length c3]] w fun e w' => e = .returned (.bool (SP.may x)) ∧ Below w.heap.size w w' :=
  PRef.script_May.calls 20 x.kind x.n A2 c2 (SP.nums8 x.bytes) A3 c3 x.again _ w h.b h.hb h.g h.hg (SP.may_printed x)

/-- how Line ends -/
def LPost (w : World) (x : SP.Deed) (e : Ending) (w' : World) : Prop :=
  e = .returned (.tuple #[.string ⟨(if SP.may x = true then SP.line x else []).toArray⟩, .int .i64 (if SP.may x = true then 0 else 2)]) ∧ Below w.heap.size w w'

theorem line_no (w : World) (x : SP.Deed) (A2 A3 : Option Addr) (c2 c3 : Nat) (h : In w x A2 c2 A3 c3) (hm : SP.may x = false) :
    Calls Tryz.prog 15 #[.agg #[.int .i64 x.kind, .int .i64 x.n, .slice A2 (SP.nums8 x.bytes).length c2, .slice A3 x.again.length c3]] w (LPost w x) := by
  have HM := Lib.hid (fun W (hb : Below w.heap.size w W) => may_in (h.below hb))
  have HP := Lib.hid (show ∀ w', Below w.heap.size w w' → LPost w x (.returned (.tuple #[.string ⟨#[]⟩, .int .i64 2])) w' from fun w' hb => by unfold LPost; rw [hm]; exact ⟨rfl, hb⟩)
  have hmm := hm
  clear h
  generalize hk : x.kind = k at *
  generalize hn : x.n = n at *
  generalize (SP.nums8 x.bytes).length = l2 at *
  generalize x.again.length = l3 at *
  go_enter Tryz.func15, Tryz.ntmps15
  go_wp2_with fail
  refine (HM.out _ ((Below.refl _ _).alloc (Nat.le_refl _) _)).mono ?_
  rintro e w2 ⟨rfl, b2⟩
  have B2 := Lib.hid b2
  clear b2
  go_wp2
  go_ret2
  exact HP.out _ (((Below.refl _ _).alloc (Nat.le_refl _) _).trans (B2.out.mono (by simp)))

/-- the deed's own cells, behind the question whether it may be -/
structure Box (w : World) (x : SP.Deed) (v2 v3 : Value) (w2 : World) : Prop where
  hx : w2.heap[w.heap.size]? = some (.cells #[.int .i64 x.kind, .int .i64 x.n, v2, v3] 27 (0, 0))
  hb : Below w.heap.size w w2
theorem Box.mk' {w w2 : World} {x : SP.Deed} {v2 v3 : Value} (hb : Below (w.alloc (.cells #[.int .i64 x.kind, .int .i64 x.n, v2, v3] 27)).heap.size (w.alloc (.cells #[.int .i64 x.kind, .int .i64 x.n, v2, v3] 27)) w2) : Box w x v2 v3 w2 :=
  ⟨(hb.block _ (by simp)).trans (heap_alloc_new _ _), ((Below.refl _ _).alloc (Nat.le_refl _) _).trans (hb.mono (by simp))⟩
theorem Box.out {w w2 w3 : World} {x : SP.Deed} {v2 v3 : Value} (h : Box w x v2 v3 w2) (hb : Below w2.heap.size w2 w3) : Box w x v2 v3 w3 :=
  ⟨(hb.block _ (Array.getElem?_eq_some_iff.1 h.hx).1).trans h.hx, h.hb.trans (hb.mono h.hb.size)⟩

theorem LPost.yes {w w' : World} {x : SP.Deed} (hm : SP.may x = true) {s : ByteArray} (hs : s.data.toList = SP.line x) (hb : Below w.heap.size w w') : LPost w x (.returned (.tuple #[.string s, .int .i64 0])) w' := by
  unfold LPost
  rw [hm]
  simp only [if_true]
  refine ⟨?_, hb⟩
  rw [← hs]

theorem join_in (W : World) (xs : List ByteArray) (hlen : (Lib.join (xs.map (·.data.toList)) [32]).length ≤ 1000000) (hN : xs.length ≤ 1000) (g c : Nat) (hc : xs.length ≤ c) (hg : ∀ (j : Nat) x, xs[j]? = some x → W.cell? ⟨g, j, none⟩ = some (.string x)) (hgs : g < W.heap.size) :
    Calls Tryz.prog 34 #[.slice (some ⟨g, 0, none⟩) xs.length c, .string ⟨#[32]⟩] W fun e w' => e = .returned (.string ⟨(Lib.join (xs.map (·.data.toList)) [32]).toArray⟩) ∧ Below W.heap.size W w' :=
  Tryz.strings_Join g 0 c xs ⟨#[32]⟩ W (fun j x h => by rw [Nat.zero_add]; exact hg j x h) hgs (by omega) hc (by show (Lib.join _ [32]).length ≤ _; omega)

theorem join_new (W : World) (xs : List ByteArray) (hlen : (Lib.join (xs.map (·.data.toList)) [32]).length ≤ 1000000) (hN : xs.length ≤ 1000) :
    Calls Tryz.prog 34 #[.slice (some ⟨W.heap.size, 0, none⟩) xs.length xs.length, .string ⟨#[32]⟩] (W.alloc (.cells (xs.map Value.string).toArray 9)) fun e w' => e = .returned (.string ⟨(Lib.join (xs.map (·.data.toList)) [32]).toArray⟩) ∧ Below W.heap.size W w' :=
  (join_in _ xs hlen hN W.heap.size xs.length (Nat.le_refl _) (fun j x h => (cell_of_heap (heap_alloc_new W _) j).trans (by simp [h])) (by simp)).mono fun e w' ⟨he, hb⟩ => ⟨he, ((Below.refl _ _).alloc (Nat.le_refl _) _).trans (hb.mono (by simp))⟩

theorem line_census (w : World) (x : SP.Deed) (A2 A3 : Option Addr) (c2 c3 : Nat) (h : In w x A2 c2 A3 c3) (hm : SP.may x = true) (T : Tabs w) (h9 : 9 ≤ w.heap.size) (hk : x.kind = 4) :
    Calls Tryz.prog 15 #[.agg #[.int .i64 x.kind, .int .i64 x.n, .slice A2 (SP.nums8 x.bytes).length c2, .slice A3 x.again.length c3]] w (LPost w x) := by
  have hl : SP.line x = [99, 101, 110, 115, 117, 115] := by
    unfold SP.line SP.wordsOf
    rw [hk]; rfl
  have HM := Lib.hid (fun W (hb : Below w.heap.size w W) => may_in (h.below hb))
  have HB := Lib.hid (fun w2 => Box.mk' (w := w) (x := x) (v2 := .slice A2 (SP.nums8 x.bytes).length c2) (v3 := .slice A3 x.again.length c3) (w2 := w2))
  have HI := Lib.hid h
  have HMM := Lib.hid hm
  have hmm := hm
  clear h hm
  rw [hk] at HM HB ⊢
  generalize hn0 : x.n = n at HM HB ⊢
  generalize hl2 : (SP.nums8 x.bytes).length = l2 at HM HB ⊢
  generalize hl3 : x.again.length = l3 at HM HB ⊢
  have HN0 := Lib.hid hn0
  have HL2 := Lib.hid hl2
  have HL3 := Lib.hid hl3
  clear hn0 hl2 hl3
  go_enter Tryz.func15, Tryz.ntmps15
  go_wp2_with fail
  refine (HM.out _ ((Below.refl _ _).alloc (Nat.le_refl _) _)).mono ?_
  rintro e w2 ⟨rfl, b2⟩
  have B2 := HB.out w2 b2
  have x0 := cell_of_heap B2.hx 0
  have x1 := cell_of_heap B2.hx 1
  have x2 := cell_of_heap B2.hx 2
  have x3 := cell_of_heap B2.hx 3
  simp only [List.getElem?_toArray, List.getElem?_cons_zero, List.getElem?_cons_succ] at x0 x1 x2 x3
  have hbx : w.heap.size < w2.heap.size := (Array.getElem?_eq_some_iff.1 B2.hx).1
  have BB := Lib.hid B2
  rw [hk] at x0
  rw [HN0.out] at x1
  clear b2 B2 HB HM
  go_wp2_with fail
  refine (join_new w2 [⟨#[99, 101, 110, 115, 117, 115]⟩] (by decide) (by simp)).mono ?_
  rintro e w3 ⟨rfl, b3⟩
  have B3 := Lib.hid b3
  clear b3
  go_wp2
  go_ret2
  exact LPost.yes HMM.out (by rw [hl]; rfl) (BB.out.out B3.out).hb

theorem line_arm (w : World) (x : SP.Deed) (A2 A3 : Option Addr) (c2 c3 : Nat) (h : In w x A2 c2 A3 c3) (hm : SP.may x = true) (T : Tabs w) (h9 : 9 ≤ w.heap.size) (hk : x.kind = 2) :
    Calls Tryz.prog 15 #[.agg #[.int .i64 x.kind, .int .i64 x.n, .slice A2 (SP.nums8 x.bytes).length c2, .slice A3 x.again.length c3]] w (LPost w x) := by
  have hin := (SP.may_parts hm).2.2.1
  have hsh := SP.itoa_short _ hin
  have hl : SP.line x = Lib.join [SP.wArm, Lib.itoa x.n] [32] := by
    unfold SP.line SP.wordsOf SP.joinSp
    rw [hk]; rfl
  have hj : (Lib.join [SP.wArm, Lib.itoa x.n] [32]).length ≤ 1000000 := by
    simp [SP.join_flat, SP.wArm]; omega
  have HIN := Lib.hid (show -9223372036854775808 ≤ x.n ∧ x.n ≤ 9223372036854775807 by simp only [SP.inOps, Bool.and_eq_true, decide_eq_true_eq] at hin; omega)
  clear hin
  have HM := Lib.hid (fun W (hb : Below w.heap.size w W) => may_in (h.below hb))
  have HB := Lib.hid (fun w2 => Box.mk' (w := w) (x := x) (v2 := .slice A2 (SP.nums8 x.bytes).length c2) (v3 := .slice A3 x.again.length c3) (w2 := w2))
  have HI := Lib.hid h
  have HMM := Lib.hid hm
  have hmm := hm
  clear h hm
  rw [hk] at HM HB ⊢
  generalize hn0 : x.n = n at HM HB ⊢
  generalize hl2 : (SP.nums8 x.bytes).length = l2 at HM HB ⊢
  generalize hl3 : x.again.length = l3 at HM HB ⊢
  have HN0 := Lib.hid hn0
  have HL2 := Lib.hid hl2
  have HL3 := Lib.hid hl3
  clear hn0 hl2 hl3
  go_enter Tryz.func15, Tryz.ntmps15
  go_wp2_with fail
  refine (HM.out _ ((Below.refl _ _).alloc (Nat.le_refl _) _)).mono ?_
  rintro e w2 ⟨rfl, b2⟩
  have B2 := HB.out w2 b2
  have x0 := cell_of_heap B2.hx 0
  have x1 := cell_of_heap B2.hx 1
  have x2 := cell_of_heap B2.hx 2
  have x3 := cell_of_heap B2.hx 3
  simp only [List.getElem?_toArray, List.getElem?_cons_zero, List.getElem?_cons_succ] at x0 x1 x2 x3
  have hbx : w.heap.size < w2.heap.size := (Array.getElem?_eq_some_iff.1 B2.hx).1
  have BB := Lib.hid B2
  rw [hk] at x0
  rw [HN0.out] at x1
  clear b2 B2 HB HM
  go_wp2_with fail
  have hBa := BB.out.out ((Below.refl _ _).alloc (Nat.le_refl _) (Obj.cells #[Value.string { data := #[99, 101, 110, 115, 117, 115] }] 9))
  have hit := itoa_any x.n _ (T.below h9 hBa.hb) HIN.out.1 HIN.out.2
  rw [HN0.out] at hit
  refine hit.mono ?_
  rintro e w3 ⟨rfl, b3⟩
  have B3 := Lib.hid (hBa.out b3)
  clear b3 hit hBa
  go_wp2_with fail
  refine (join_new w3 [⟨#[97, 114, 109]⟩, ⟨(Lib.itoa n).toArray⟩] (by have := hj; rw [HN0.out] at this; simpa [SP.wArm] using this) (by simp)).mono ?_
  rintro e w4 ⟨rfl, b4⟩
  have B4 := Lib.hid b4
  clear b4
  go_wp2
  go_ret2
  exact LPost.yes HMM.out (by rw [hl, HN0.out]; simp [SP.wArm]) (B3.out.out B4.out).hb

theorem Box.c1 {w w2 : World} {x : SP.Deed} {v2 v3 : Value} (h : Box w x v2 v3 w2) : w2.cell? ⟨w.heap.size, 1, none⟩ = some (.int .i64 x.n) := (cell_of_heap h.hx 1).trans rfl
theorem Box.c2 {w w2 : World} {x : SP.Deed} {v2 v3 : Value} (h : Box w x v2 v3 w2) : w2.cell? ⟨w.heap.size, 2, none⟩ = some v2 := (cell_of_heap h.hx 2).trans rfl

theorem digits_any (A : Option Addr) (c : Nat) (b : SP.B) (w : World) (hl : b.length ≤ 1000000) (hC : (Kd.int .u8).C w A (SP.nums8 b).length (SP.nums8 b)) :
    Calls Tryz.prog 33 #[.slice A (SP.nums8 b).length c] w fun e w' => e = .returned (.string ⟨(SP.hexW b).toArray⟩) ∧ Below w.heap.size w w' := by
  have e : (SP.nums8 b).length = b.length := by simp [SP.nums8]
  rw [e] at hC ⊢
  by_cases hb : b = []
  · subst hb
    exact (digits_nil A c w).mono fun e w' ⟨he, hw⟩ => ⟨he, by rw [hw]; exact Below.refl _ _⟩
  · exact digits_some A c b w hb hl hC

theorem line_feed (w : World) (x : SP.Deed) (A2 A3 : Option Addr) (c2 c3 : Nat) (h : In w x A2 c2 A3 c3) (hm : SP.may x = true) (T : Tabs w) (h9 : 9 ≤ w.heap.size) (hk : x.kind = 1) :
    Calls Tryz.prog 15 #[.agg #[.int .i64 x.kind, .int .i64 x.n, .slice A2 (SP.nums8 x.bytes).length c2, .slice A3 x.again.length c3]] w (LPost w x) := by
  have hin := (SP.may_parts hm).2.2.1
  have hbl := (SP.may_parts hm).1
  have hsh := SP.itoa_short _ hin
  have hxs := SP.hexW_short x.bytes
  have hl : SP.line x = Lib.join [SP.wFeed, Lib.itoa x.n, SP.hexW x.bytes] [32] := by
    unfold SP.line SP.wordsOf SP.joinSp
    rw [hk]; rfl
  have hj : (Lib.join [SP.wFeed, Lib.itoa x.n, SP.hexW x.bytes] [32]).length ≤ 1000000 := by
    simp [SP.join_flat, SP.wFeed]; omega
  have hr : -9223372036854775808 ≤ x.n ∧ x.n ≤ 9223372036854775807 := by simp only [SP.inOps, Bool.and_eq_true, decide_eq_true_eq] at hin; omega
  have HIT := Lib.hid (fun W (hb : Box w x (.slice A2 (SP.nums8 x.bytes).length c2) (.slice A3 x.again.length c3) W) => itoa_any x.n W (T.below h9 hb.hb) hr.1 hr.2)
  have HDG := Lib.hid (fun W (hb : Box w x (.slice A2 (SP.nums8 x.bytes).length c2) (.slice A3 x.again.length c3) W) => digits_any A2 c2 x.bytes W (by omega) (Kd.C_below h.b hb.hb))
  have HC1 := Lib.hid (fun W (hb : Box w x (.slice A2 (SP.nums8 x.bytes).length c2) (.slice A3 x.again.length c3) W) => hb.c1)
  have HC2 := Lib.hid (fun W (hb : Box w x (.slice A2 (SP.nums8 x.bytes).length c2) (.slice A3 x.again.length c3) W) => hb.c2)
  clear hin hbl hsh hxs hr
  have HM := Lib.hid (fun W (hb : Below w.heap.size w W) => may_in (h.below hb))
  have HB := Lib.hid (fun w2 => Box.mk' (w := w) (x := x) (v2 := .slice A2 (SP.nums8 x.bytes).length c2) (v3 := .slice A3 x.again.length c3) (w2 := w2))
  have HI := Lib.hid h
  have HMM := Lib.hid hm
  have hmm := hm
  clear h hm
  rw [hk] at HM HB ⊢
  generalize hn0 : x.n = n at HM HB HIT HC1 ⊢
  generalize hl2 : (SP.nums8 x.bytes).length = l2 at HM HB HIT HDG HC1 HC2 ⊢
  generalize hl3 : x.again.length = l3 at HM HB HIT HDG HC1 HC2 ⊢
  have HN0 := Lib.hid hn0
  have HL2 := Lib.hid hl2
  have HL3 := Lib.hid hl3
  clear hn0 hl2 hl3
  go_enter Tryz.func15, Tryz.ntmps15
  go_wp2_with fail
  refine (HM.out _ ((Below.refl _ _).alloc (Nat.le_refl _) _)).mono ?_
  rintro e w2 ⟨rfl, b2⟩
  have B2 := HB.out w2 b2
  have x0 := cell_of_heap B2.hx 0
  have x1 := cell_of_heap B2.hx 1
  have x2 := cell_of_heap B2.hx 2
  have x3 := cell_of_heap B2.hx 3
  simp only [List.getElem?_toArray, List.getElem?_cons_zero, List.getElem?_cons_succ] at x0 x1 x2 x3
  have hbx : w.heap.size < w2.heap.size := (Array.getElem?_eq_some_iff.1 B2.hx).1
  have BB := Lib.hid B2
  rw [hk] at x0
  rw [HN0.out] at x1
  clear b2 B2 HB HM
  go_wp2_with fail
  have hBa := BB.out.out ((Below.refl _ _).alloc (Nat.le_refl _) (Obj.cells #[Value.string { data := #[99, 101, 110, 115, 117, 115] }] 9))
  generalize hwa : w2.alloc (Obj.cells #[Value.string { data := #[99, 101, 110, 115, 117, 115] }] 9) = wa at hBa ⊢
  have hBd : Box w x (Value.slice A2 l2 c2) (Value.slice A3 l3 c3) wa.drew := hBa.out (below_drew (Below.refl _ _))
  go_region_held3 (fun w' => w'.cell? ⟨w.heap.size, 1, none⟩ = some (.int .i64 n) ∧ w'.cell? ⟨w.heap.size, 2, none⟩ = some (Value.slice A2 l2 c2) ∧ Box w x (Value.slice A2 l2 c2) (Value.slice A3 l3 c3) w')
    (first
      | exact ⟨HC1.out _ hB4, HC2.out _ hB4, hB4⟩
      | exact ⟨HC1.out _ hB3, HC2.out _ hB3, hB3⟩
      | exact ⟨HC1.out _ hBd, HC2.out _ hBd, hBd⟩
      | exact ⟨HC1.out _ (hB4.out ((Below.refl _ _).alloc (Nat.le_refl _) _)), HC2.out _ (hB4.out ((Below.refl _ _).alloc (Nat.le_refl _) _)), hB4.out ((Below.refl _ _).alloc (Nat.le_refl _) _)⟩
      | exact ⟨HC1.out _ (hB3.out ((Below.refl _ _).alloc (Nat.le_refl _) _)), HC2.out _ (hB3.out ((Below.refl _ _).alloc (Nat.le_refl _) _)), hB3.out ((Below.refl _ _).alloc (Nat.le_refl _) _)⟩)
    (first
      | (go_at_call 32
         refine (HIT.out _ ?_).mono ?_
         · exact (by assumption : _ ∧ _ ∧ Box w x (Value.slice A2 l2 c2) (Value.slice A3 l3 c3) _).2.2
         rintro e w3 ⟨rfl, b3⟩
         have hB3 := Box.out ((by assumption : _ ∧ _ ∧ Box w x (Value.slice A2 l2 c2) (Value.slice A3 l3 c3) _).2.2) b3)
      | (go_at_call 33
         refine (HDG.out _ ?_).mono ?_
         · exact (by assumption : _ ∧ _ ∧ Box w x (Value.slice A2 l2 c2) (Value.slice A3 l3 c3) _).2.2
         rintro e w4 ⟨rfl, b4⟩
         have hB4 := Box.out ((by assumption : _ ∧ _ ∧ Box w x (Value.slice A2 l2 c2) (Value.slice A3 l3 c3) _).2.2) b4))
  all_goals
    clear b3 b4 hBa hBd hwa
    go_wp2_with fail
    refine (join_new _ [⟨#[102, 101, 101, 100]⟩, ⟨(Lib.itoa n).toArray⟩, ⟨(SP.hexW x.bytes).toArray⟩] (by have := hj; rw [HN0.out] at this; simpa [SP.wFeed] using this) (by simp)).mono ?_
    rintro e w5 ⟨rfl, b5⟩
    have B5 := Lib.hid b5
    clear b5
    go_wp2
    go_ret2
    first
    | exact LPost.yes HMM.out (by rw [hl, HN0.out]; simp [SP.wFeed]) (hB4.out B5.out).hb
    | exact LPost.yes HMM.out (by rw [hl, HN0.out]; simp [SP.wFeed]) (hB3.out B5.out).hb

theorem itoa_in (W : World) (T : Tabs W) (n : Int) (h : SP.inOps n = true) : Calls Tryz.prog 32 #[.int .i64 n] W fun e w' => e = .returned (.string ⟨(Lib.itoa n).toArray⟩) ∧ Below W.heap.size W w' :=
  itoa_any n W T (by simp only [SP.inOps, Bool.and_eq_true, decide_eq_true_eq] at h; omega) (by simp only [SP.inOps, Bool.and_eq_true, decide_eq_true_eq] at h; omega)

theorem Box.c3 {w w2 : World} {x : SP.Deed} {v2 v3 : Value} (h : Box w x v2 v3 w2) : w2.cell? ⟨w.heap.size, 3, none⟩ = some v3 := (cell_of_heap h.hx 3).trans rfl
theorem Box.grown {w w2 w3 : World} {x : SP.Deed} {v2 v3 v : Value} (h : Box w x v2 v3 w2) (hg : w2.grownBy w3 v.ownBlock) (hv : ∀ k, v.ownBlock = some k → w.heap.size + 1 ≤ k) : Box w x v2 v3 w3 :=
  ⟨(hg.block _ (Array.getElem?_eq_some_iff.1 h.hx).1 (fun e => by have := hv _ e.symm; omega)).trans h.hx,
   ⟨hg.os.trans h.hb.os, hg.tape.trans h.hb.tape, hg.output.trans h.hb.output, Nat.le_trans h.hb.size hg.size, fun i hi => (hg.block i (Nat.lt_of_lt_of_le hi h.hb.size) (fun e => by have := hv _ e.symm; omega)).trans (h.hb.block i hi)⟩⟩

/-- the words of a crash's line, as far as i numbers -/
def cw (x : SP.Deed) (i : Nat) : List ByteArray := ⟨#[99, 114, 97, 115, 104]⟩ :: ⟨(SP.hexW x.bytes).toArray⟩ :: (x.again.take i).map fun n => ⟨(Lib.itoa n).toArray⟩
theorem cw_len (x : SP.Deed) (i : Nat) (h : i ≤ x.again.length) : (cw x i).length = 2 + i := by simp [cw]; omega
theorem cw_next (x : SP.Deed) (i : Nat) (h : i < x.again.length) : cw x (i + 1) = cw x i ++ [⟨(Lib.itoa x.again[i]).toArray⟩] := by
  simp only [cw, List.take_succ_eq_append_getElem h, List.map_append, List.map_cons, List.map_nil, List.cons_append]

theorem own_below {B : Nat} {e : TypeId} {k : Nat} {v : Value} {n : Nat} {xs : List Value} {w w' : World} (h : w.ownsRow B e k v n xs) (hb : Below w.heap.size w w') : w'.ownsRow B e k v n xs := by
  refine ⟨h.1, ?_⟩
  rcases h.2 with h2 | ⟨g, cap, cur, h2, h3, h4, h5⟩
  · exact .inl h2
  · exact .inr ⟨g, cap, cur, h2, h3, (hb.block g (Array.getElem?_eq_some_iff.1 h4).1).trans h4, h5⟩

theorem own_strings {B n : Nat} {v : Value} {vs : List Value} {w : World} {xs : List ByteArray} (h : w.ownsRow B 9 1 v n vs) (hn : 0 < n) (hx : vs = encs Value.string xs) :
    ∃ g cap, v = .slice (some ⟨g, 0, none⟩) n cap ∧ n ≤ cap ∧ (∀ (j : Nat) x, xs[j]? = some x → w.cell? ⟨g, j, none⟩ = some (.string x)) ∧ g < w.heap.size := by
  subst hx
  rcases h.2 with ⟨_, h2⟩ | ⟨g, cap, cur, h2, h3, h4, h5, h6, h7, h8⟩
  · omega
  · refine ⟨g, cap, h2, h5, fun j x hj => ?_, (Array.getElem?_eq_some_iff.1 h4).1⟩
    have hl := h.1
    rw [cell_of_heap h4]
    have e : (cur.toList.take (n * 1))[j]? = some (.string x) := by rw [h8]; simp [encs, hj]
    rw [List.getElem?_take] at e
    split at e
    · simpa using e
    · cases e

structure LnI (w : World) (x : SP.Deed) (v2 v3 : Value) (wr : World) (v4 : Value) (i : Nat) : Prop where
  le : i ≤ x.again.length
  box : Box w x v2 v3 wr
  own : wr.ownsRow (w.heap.size + 1) 9 1 v4 (2 + i) (encs Value.string (cw x i))

theorem LnI.next {w wr w3 w4 : World} {x : SP.Deed} {v2 v3 v4 : Value} {i g cap : Nat} {o : Obj} (h : LnI w x v2 v3 wr v4 i) (hi : i < x.again.length) (hb : Below wr.heap.size wr w3) (hg : (w3.alloc o).grownBy w4 v4.ownBlock)
    (hown : w4.ownsRow (w.heap.size + 1) 9 1 (.slice (some ⟨g, 0, none⟩) (2 + i + 1) cap) (2 + i + 1) (encs Value.string (cw x i) ++ [Value.string ⟨(Lib.itoa x.again[i]).toArray⟩])) : LnI w x v2 v3 w4 (.slice (some ⟨g, 0, none⟩) (2 + i + 1) cap) (i + 1) := by
  refine ⟨hi, ((h.box.out hb).out ((Below.refl _ _).alloc (Nat.le_refl _) _)).grown hg (own_lt2 h.own), ?_⟩
  rw [cw_next x i hi]
  simpa [encs, Nat.add_assoc] using hown

theorem line_crash (w : World) (x : SP.Deed) (A2 A3 : Option Addr) (c2 c3 : Nat) (h : In w x A2 c2 A3 c3) (hm : SP.may x = true) (T : Tabs w) (h9 : 9 ≤ w.heap.size) (hk : x.kind = 3) :
    Calls Tryz.prog 15 #[.agg #[.int .i64 x.kind, .int .i64 x.n, .slice A2 (SP.nums8 x.bytes).length c2, .slice A3 x.again.length c3]] w (LPost w x) := by
  have hp := SP.may_parts hm
  have hbl := hp.1
  have h8 := hp.2.1
  have hal := hp.2.2.2.1
  have hxs := SP.hexW_short x.bytes
  have hl : SP.line x = Lib.join ((cw x x.again.length).map (·.data.toList)) [32] := by
    unfold SP.line SP.wordsOf SP.joinSp
    rw [hk]
    simp [cw, SP.wCrash, Function.comp_def]
  have hj : (Lib.join ((cw x x.again.length).map (·.data.toList)) [32]).length ≤ 1000000 := by
    rw [← hl]; have := SP.line_len x hm; omega
  have HIT := Lib.hid (fun W (hb : Box w x (.slice A2 (SP.nums8 x.bytes).length c2) (.slice A3 x.again.length c3) W) => itoa_in W (T.below h9 hb.hb))
  have HDG := Lib.hid (fun W (hb : Box w x (.slice A2 (SP.nums8 x.bytes).length c2) (.slice A3 x.again.length c3) W) => digits_any A2 c2 x.bytes W (by omega) (Kd.C_below h.b hb.hb))
  have HC1 := Lib.hid (fun W (hb : Box w x (.slice A2 (SP.nums8 x.bytes).length c2) (.slice A3 x.again.length c3) W) => hb.c1)
  have HC2 := Lib.hid (fun W (hb : Box w x (.slice A2 (SP.nums8 x.bytes).length c2) (.slice A3 x.again.length c3) W) => hb.c2)
  have HC3 := Lib.hid (fun W (hb : Box w x (.slice A2 (SP.nums8 x.bytes).length c2) (.slice A3 x.again.length c3) W) => hb.c3)
  have HG := Lib.hid (fun W (hb : Box w x (.slice A2 (SP.nums8 x.bytes).length c2) (.slice A3 x.again.length c3) W) (i : Nat) (hi : i < x.again.length) => (Kd.reads_of_C (d := 0) (Kd.C_below h.g hb.hb)).at_ (i : Int) (by omega) (by omega))
  have HAL := Lib.hid (fun (i : Nat) (hi : i < x.again.length) => List.all_eq_true.1 hal _ (List.getElem_mem hi))
  have H8 := Lib.hid h8
  clear hp hbl h8 hal hxs
  have HM := Lib.hid (fun W (hb : Below w.heap.size w W) => may_in (h.below hb))
  have HB := Lib.hid (fun w2 => Box.mk' (w := w) (x := x) (v2 := .slice A2 (SP.nums8 x.bytes).length c2) (v3 := .slice A3 x.again.length c3) (w2 := w2))
  have HI := Lib.hid h
  have HMM := Lib.hid hm
  have hmm := hm
  clear h hm
  rw [hk] at HM HB ⊢
  generalize hn0 : x.n = n at HM HB HC1 ⊢
  generalize hl2 : (SP.nums8 x.bytes).length = l2 at HM HB HIT HDG HC1 HC2 HC3 HG ⊢
  generalize hl3 : x.again.length = l3 at HM HB HIT HDG HC1 HC2 HC3 HG ⊢
  have HN0 := Lib.hid hn0
  have HL2 := Lib.hid hl2
  have HL3 := Lib.hid hl3
  clear hn0 hl2 hl3
  go_enter Tryz.func15, Tryz.ntmps15
  go_wp2_with fail
  refine (HM.out _ ((Below.refl _ _).alloc (Nat.le_refl _) _)).mono ?_
  rintro e w2 ⟨rfl, b2⟩
  have B2 := HB.out w2 b2
  have x0 := cell_of_heap B2.hx 0
  have x1 := cell_of_heap B2.hx 1
  have x2 := cell_of_heap B2.hx 2
  have x3 := cell_of_heap B2.hx 3
  simp only [List.getElem?_toArray, List.getElem?_cons_zero, List.getElem?_cons_succ] at x0 x1 x2 x3
  have hbx : w.heap.size < w2.heap.size := (Array.getElem?_eq_some_iff.1 B2.hx).1
  have BB := Lib.hid B2
  rw [hk] at x0
  rw [HN0.out] at x1
  clear b2 B2 HB HM
  go_wp2_with fail
  have hBa := BB.out.out ((Below.refl _ _).alloc (Nat.le_refl _) (Obj.cells #[Value.string { data := #[99, 101, 110, 115, 117, 115] }] 9))
  refine (HDG.out _ hBa).mono ?_
  rintro e w3 ⟨rfl, b3⟩
  have hB3 := hBa.out b3
  clear b3 hBa
  have hB4 := hB3.out ((Below.refl _ _).alloc (Nat.le_refl _) (Obj.cells #[Value.string { data := #[99, 114, 97, 115, 104] }, Value.string { data := (SP.hexW x.bytes).toArray }] 9))
  have HI0 := Lib.hid (show LnI w x _ _ (w3.alloc (Obj.cells #[Value.string { data := #[99, 114, 97, 115, 104] }, Value.string { data := (SP.hexW x.bytes).toArray }] 9)) (.slice (some ⟨w3.heap.size, 0, none⟩) 2 2) 0 from
    ⟨Nat.zero_le _, hB4, by simp [encs, cw], .inr ⟨w3.heap.size, 2, _, rfl, by have := (Array.getElem?_eq_some_iff.1 hB3.hx).1; omega, heap_alloc_new _ _, by omega, by unfold maxLen; omega, by simp, by simp [encs, cw]⟩⟩)
  have hc3 := HC3.out _ hB4
  clear hB3 hB4
  obtain ⟨i0, hi0, hz0, hz1, hz2⟩ := info_parts errInfo
  go_wp2_with fail
  go_loopw [4, 37] (fun v i wr => ∃ k : Nat, i = .int .i64 k ∧ LnI w x (.slice A2 l2 c2) (.slice A3 l3 c3) wr v k) (fun _ i _ => l3 - (intOf i).toNat)
  case atStart => exact ⟨0, rfl, HI0.out⟩
  case round =>
    obtain ⟨k, rfl, hI⟩ := hrel
    clear HI0 hc3
    by_cases hkl : k < l3
    · have hkl2 : (k : Int) < (l3 : Int) := by omega
      have hkx : k < x.again.length := by rw [HL3.out]; exact hkl
      obtain ⟨ad, rfl, hcell⟩ := HG.out _ hI.box k hkl
      have hx8 : rdOf (0 : Int) x.again (k : Int) = x.again[k] := by simp [rdOf, hkx]
      rw [hx8, Int.toNat_natCast] at hcell
      have hin := HAL.out k hkx
      generalize hm0 : x.again[k] = m at hcell hin
      have HM0 := Lib.hid hm0
      have h63 : 2 + k + 1 ≤ maxLen := by have := H8.out; unfold maxLen; omega
      have h64 : (2 + k + 1) * 16 ≤ 140737488355328 := by have := H8.out; omega
      have hk8 : k < 9 := by have := H8.out; omega
      have HII := Lib.hid hI
      clear hI hm0 hx8
      go_wp2_with fail
      refine (HIT.out _ HII.out.box m hin).mono ?_
      rintro e w4 ⟨rfl, b4⟩
      have B4 := Lib.hid b4
      have HOW := Lib.hid (show (w4.alloc (Obj.cells #[Value.string { data := (Lib.itoa m).toArray }] 9)).ownsRow (w.heap.size + 1) 9 1 u4 (2 + k) (encs Value.string (cw x k)) from own_below (own_below HII.out.own b4) ((Below.refl _ _).alloc (Nat.le_refl _) _))
      have hbs : w.heap.size + 1 ≤ (w4.alloc (Obj.cells #[Value.string { data := (Lib.itoa m).toArray }] 9)).heap.size := by
        have := (Array.getElem?_eq_some_iff.1 (HII.out.box.out b4).hx).1
        simp; omega
      clear b4
      have hnw : ∀ (j : Nat) u, [Value.string ⟨(Lib.itoa m).toArray⟩][j]? = some u → (w4.alloc (Obj.cells #[Value.string { data := (Lib.itoa m).toArray }] 9)).cell? ((⟨w4.heap.size, 0, none⟩ : Addr).add j) = some u :=
        World.news_of_block (cs := #[.string ⟨(Lib.itoa m).toArray⟩]) (t := 9) (fr := (0, 0)) (heap_alloc_new w4 _)
      have HNW := Lib.hid hnw
      clear hnw
      go_wp2_with (at_builtin; refine wpList_append_lies _ rfl _ _ _ rfl (w.heap.size + 1) 9 i0 _ 1 16 Tryz.underlying46 hi0 hz0 hz1 hz2 rfl (by omega) u4 (2 + k) _ rfl HOW.out ⟨w4.heap.size, 0, none⟩ 1 1 _ rfl rfl HNW.out (by simp [Value.oneCell']) (by omega) h63 h64 hbs (w4.heap.size + 1) (by simp) ?_; intro gg cap w5 hown1 hgrow hat hlt2)
      have hN := HII.out.next hkx B4.out hgrow (by rw [HM0.out]; exact hown1)
      exact ⟨⟨k + 1, by go_num, hN⟩, by simp [intOf]; omega⟩
    · have hkl2 : ¬ (k : Int) < (l3 : Int) := by omega
      have hke : k = x.again.length := by have := hI.le; have := HL3.out; omega
      obtain ⟨g, cap, hv4, hcap, hcells, hgs⟩ := own_strings hI.own (by omega) (xs := cw x k) rfl
      subst hv4
      have hjn := join_in wr (cw x k) (by rw [hke]; exact hj) (by rw [cw_len x k hI.le]; have := H8.out; have := hI.le; omega) g cap (by rw [cw_len x k hI.le]; exact hcap) hcells hgs
      rw [cw_len x k hI.le] at hjn
      have HJ := Lib.hid hjn
      have HBX := Lib.hid hI.box
      have HKE := Lib.hid hke
      clear hjn hI hke hcells hgs
      go_wp2_with fail
      refine HJ.out.mono ?_
      rintro e w5 ⟨rfl, b5⟩
      have B5 := Lib.hid b5
      clear b5
      go_wp2
      go_ret2
      exact LPost.yes HMM.out (by rw [hl, HKE.out]) (HBX.out.out B5.out).hb

theorem line_all (w : World) (x : SP.Deed) (A2 A3 : Option Addr) (c2 c3 : Nat) (h : In w x A2 c2 A3 c3) (T : Tabs w) (h9 : 9 ≤ w.heap.size) :
    Calls Tryz.prog 15 #[.agg #[.int .i64 x.kind, .int .i64 x.n, .slice A2 (SP.nums8 x.bytes).length c2, .slice A3 x.again.length c3]] w (LPost w x) := by
  cases hm : SP.may x
  · exact line_no w x A2 A3 c2 c3 h hm
  · rcases (SP.may_parts hm).2.2.2.2 with ⟨hk, _⟩ | ⟨hk, _⟩ | ⟨hk, _⟩ | ⟨hk, _⟩
    · exact line_feed w x A2 A3 c2 c3 h hm T h9 hk
    · exact line_arm w x A2 A3 c2 c3 h hm T h9 hk
    · exact line_crash w x A2 A3 c2 c3 h hm T h9 hk
    · exact line_census w x A2 A3 c2 c3 h hm T h9 hk

end Go.Proofs.YtdfaljcdphbgdaaGreatDoor
