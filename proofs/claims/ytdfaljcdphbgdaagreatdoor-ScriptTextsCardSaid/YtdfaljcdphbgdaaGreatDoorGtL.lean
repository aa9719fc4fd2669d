/- The writer of a script: Text, walked. -/
import Derived.Test.YtdfaljcdphbgdaaGreatDoorGiL
import Derived.Test.YtdfaljcdphbgdaaGreatDoorShelfT
import Derived.RegionIn
namespace Go.Proofs.YtdfaljcdphbgdaaGreatDoor.PL
set_option linter.unusedVariables false
set_option linter.unusedSimpArgs false
open Go.RowKit Go.Proofs Go.Proofs.YtdfaljcdphbgdaaGreatDoorW.PrintWords Go.Proofs.YtdfaljcdphbgdaaGreatDoorW.PrintLast Go.Proofs.YtdfaljcdphbgdaaGreatDoorW.PrintMore Go.Proofs.YtdfaljcdphbgdaaGreatDoor Go.Proofs.YtdfaljcdphbgdaaGreatDoor.PRef

def dOf (x : S27) : SP.Deed := deedOf x.f0 x.f1 x.f2 x.f3

/-- the lines of deeds behind what is written, or that one may not be -/
def textFrom : List S27 → SP.B → SP.B × Int
  | [], acc => (acc, 0)
  | x :: r, acc => if SP.may (dOf x) = true then textFrom r (if acc.length ≤ 1048576 then acc ++ (SP.line (dOf x) ++ [10]) else acc) else ([], 2)

def texted (l : List S27) : SP.B × Int :=
  if (textFrom l []).2 = 0 then (if 1000 < l.length ∨ 1048576 < (textFrom l []).1.length then ([], 3) else ((textFrom l []).1, 0)) else ([], (textFrom l []).2)

def lineOk (x : S27) : Bool := isByt x.f2 && (!SP.may (dOf x) || decide ((SP.line (dOf x)).length ≤ 1500300))
def script_Text.f (l : List S27) : Option (ByteArray × Int) :=
  if l.length ≤ 2000 ∧ l.all lineOk = true then some (⟨(texted l).1.toArray⟩, (texted l).2) else none

theorem text_two {l : List S27} {x : SP.B} (h : textFrom l [] = (x, 2)) : texted l = ([], 2) := by unfold texted; rw [h]; rfl

theorem builder_below {T e : TypeId} {B b : Nat} {bs : List Value} {w w' : World} (h : Lib.IsBuilderF T e B b bs w) (hb : Below w.heap.size w w') : Lib.IsBuilderF T e B b bs w' := by
  have hg : w.grownBy w' none := ⟨hb.os, hb.tape, hb.output, hb.size, fun k hk _ => hb.block k hk⟩
  have one : ∀ p, Lib.BuilderAtF T e B b p bs w → Lib.BuilderAtF T e B b p bs w' := by
    rintro p h
    have hlt := h.lt
    obtain ⟨hB, v, hbk, hown, hne⟩ := h
    refine ⟨hB, v, (hb.block b hlt).trans hbk, hown.kept hg ?_, hne⟩
    cases hv : v.ownBlock
    · exact .inl rfl
    · exact .inr (by simp)
  rcases h with h | h
  · exact .inl (one _ h)
  · exact .inr (one _ h)

/-- how it stands ahead of the k-th deed -/
structure TI (l : List S27) (w wr : World) (k : Nat) (acc : SP.B) : Prop where
  le : k ≤ l.length
  run : textFrom (l.drop k) acc = textFrom l []
  len : acc.length ≤ 3000000
  bld : Lib.IsBuilderF 64 5 w.heap.size w.heap.size (Lib.byteCells acc) wr
  bel : Below w.heap.size w wr

theorem TI.below {l : List S27} {w wr w2 : World} {k : Nat} {acc : SP.B} (h : TI l w wr k acc) (hb : Below wr.heap.size wr w2) : TI l w w2 k acc :=
  ⟨h.le, h.run, h.len, builder_below h.bld hb, below_step h.bel hb⟩

theorem next_count {k n : Nat} (h : k < n) (h2 : n ≤ 2000) : wrap64 ((k : Int) + 1) = ((k + 1 : Nat) : Int) := by
  rw [SP.wrap64_small (by omega) (by omega)]; omega
theorem count_less {k n : Nat} (h : k < n) (h2 : n ≤ 2000) : n - (intOf (Value.int .i64 (wrap64 ((k : Int) + 1)))).toNat < n - (intOf (Value.int .i64 (k : Int))).toNat := by
  rw [next_count h h2]
  show n - ((k + 1 : Nat) : Int).toNat < n - (k : Int).toNat
  omega

def TPost (l : List S27) (w : World) : Ending → World → Prop := fun e w' => e = .returned (.tuple #[.string ⟨(texted l).1.toArray⟩, .int .i64 (texted l).2]) ∧ Below w.heap.size w w'

theorem text_all (A0 : Option Addr) (c0 : Nat) (l0 : List S27) (w : World) (hC : Kd.C k27 w A0 l0.length l0) (hc : l0.length ≤ c0) (hF : FixW w) (hl : l0.length ≤ 2000) (hok : l0.all lineOk = true) :
    Calls Tryz.prog 13 #[.slice A0 l0.length c0] w (TPost l0 w) := by
  have HC := Lib.hid hC
  have HF := Lib.hid hF
  have HOK := Lib.hid hok
  have HL := Lib.hid hl
  have HLC := Lib.hid hc
  clear hC hF hok hl hc
  go_enter Tryz.func13, Tryz.ntmps13
  go_wp2_with fail
  have HI0 := Lib.hid (show TI l0 w (w.alloc (.cells #[.pointer none, .slice none 0 0] 64)) 0 [] from ⟨Nat.zero_le _, rfl, Nat.zero_le _, Lib.IsBuilderF.of (Lib.fresh_isBuilder 64 5 w), (Below.refl _ _).alloc (Nat.le_refl _) _⟩)
  go_loopw [11] (fun i wr => ∃ (k : Nat) (acc : SP.B), i = .int .i64 k ∧ TI l0 w wr k acc) (fun i _ => l0.length - (intOf i).toNat)
  case atStart => exact ⟨0, [], rfl, HI0.out⟩
  case round =>
    clear HI0
    obtain ⟨k, acc, rfl, hI⟩ := hrel
    by_cases hk : k < l0.length
    · have hk2 : (k : Int) < (l0.length : Int) := by omega
      obtain ⟨ad, A2, c2, A3, c3, e, hx0, hx1, hx2, hx3, hl2, hi2, hl3, hi3⟩ := at_T27 HC.out (k : Int) (by omega) (by omega)
      cases e
      rw [Int.toNat_natCast] at hx0 hx1 hx2 hx3
      replace hx0 := (hI.bel.cell (World.block_lt_of_cell? w _ hx0)).trans hx0
      replace hx1 := (hI.bel.cell (World.block_lt_of_cell? w _ hx1)).trans hx1
      replace hx2 := (hI.bel.cell (World.block_lt_of_cell? w _ hx2)).trans hx2
      replace hx3 := (hI.bel.cell (World.block_lt_of_cell? w _ hx3)).trans hx3
      have hxe : rd_T27 l0 (k : Int) = l0[k] := by simp [rd_T27, hk]
      rw [hxe] at hx0 hx1 hx2 hx3 hl2 hi2 hl3 hi3
      have hlx : lineOk l0[k] = true := List.all_eq_true.1 HOK.out _ (List.getElem_mem hk)
      have hdr : l0.drop k = l0[k] :: l0.drop (k + 1) := List.drop_eq_getElem_cons hk
      generalize l0[k] = x at hx0 hx1 hx2 hx3 hl2 hi2 hl3 hi3 hlx hdr
      have hby : isByt x.f2 = true := by unfold lineOk at hlx; rw [Bool.and_eq_true] at hlx; exact hlx.1
      have hln : SP.may (dOf x) = true → (SP.line (dOf x)).length ≤ 1500300 := fun hm => by
        unfold lineOk at hlx
        rw [Bool.and_eq_true, Bool.or_eq_true, Bool.not_eq_true', decide_eq_true_eq] at hlx
        rcases hlx.2 with h | h
        · rw [hm] at h; cases h
        · exact h
      have H2 := Lib.hid hi2
      have H3 := Lib.hid hi3
      have HL2 := Lib.hid hl2
      have HL3 := Lib.hid hl3
      have HK := Lib.hid hk
      have HKZ := Lib.hid hk2
      have HDR := Lib.hid hdr
      have HLN := Lib.hid hln
      have HBY := Lib.hid hby
      have HI := Lib.hid hI
      clear hi2 hi3 hl2 hl3 hxe hlx hdr hln hby hI hk
      have HB5 := Lib.hid (show Below wr.heap.size wr (wr.alloc (.cells #[.int .i64 x.f0, .int .i64 x.f1, .slice A2 x.f2.length c2, .slice A3 x.f3.length c3] 27)) from (Below.refl _ _).alloc (Nat.le_refl _) _)
      have HI5 := Lib.hid (HI.out.below HB5.out)
      clear HB5
      rcases hm : SP.may (dOf x)
      · have hf : script_Line.f x.f0 x.f1 x.f2 x.f3 = some (⟨#[]⟩, 2) := by
          have hm' : SP.may (deedOf x.f0 x.f1 x.f2 x.f3) = false := hm
          unfold script_Line.f; rw [if_pos HBY.out]
          simp only [hm', Bool.false_eq_true, if_false]
        have HFF := Lib.hid hf
        have HM := Lib.hid hm
        clear hf hm
        go_wp2_with fail
        refine (script_Line.calls x.f0 x.f1 A2 c2 x.f2 A3 c3 x.f3 _ _ _ (Kd.C_below H2.out HI5.out.bel) HL2.out (Kd.C_below H3.out HI5.out.bel) HL3.out HFF.out (HF.out.below HI5.out.bel)).mono ?_
        rintro e w4 ⟨rfl, b4⟩
        have HI6 := Lib.hid (HI5.out.below b4)
        clear b4
        go_wp2
        go_ret2
        have hx2 := HI6.out.run
        rw [HDR.out, textFrom, if_neg (by rw [HM.out]; decide)] at hx2
        have ht := text_two hx2.symm
        exact ⟨by rw [ht]; rfl, HI6.out.bel⟩
      · have HM := Lib.hid hm
        have HLX := Lib.hid (HLN.out hm)
        obtain ⟨s, hs, hsz, hf⟩ : ∃ s : ByteArray, Hid (s.data.toList = SP.line (dOf x)) ∧ Hid (s.size ≤ 1500300) ∧ script_Line.f x.f0 x.f1 x.f2 x.f3 = some (s, 0) := by
          refine ⟨⟨(SP.line (dOf x)).toArray⟩, Lib.hid rfl, Lib.hid ?_, ?_⟩
          · show (SP.line (dOf x)).toArray.size ≤ _
            rw [List.size_toArray]; exact HLX.out
          · have hm' : SP.may (deedOf x.f0 x.f1 x.f2 x.f3) = true := hm
            unfold script_Line.f; rw [if_pos HBY.out]
            simp only [hm', if_true]
            rfl
        have HFF := Lib.hid hf
        have hcat : s.size + 1 ≤ 9223372036854775807 := by have := hsz.out; omega
        clear hf hm
        go_wp2_with fail
        refine (script_Line.calls x.f0 x.f1 A2 c2 x.f2 A3 c3 x.f3 _ _ _ (Kd.C_below H2.out HI5.out.bel) HL2.out (Kd.C_below H3.out HI5.out.bel) HL3.out HFF.out (HF.out.below HI5.out.bel)).mono ?_
        rintro e w4 ⟨rfl, b4⟩
        have HI6 := Lib.hid (HI5.out.below b4)
        clear b4 HI5
        go_wp2_with fail
        refine (Tryz.Builder_Len_f _ _ _ _ HI6.out.bld).mono ?_
        rintro e w5 ⟨rfl, rfl⟩
        rw [Lib.byteCells_length]
        by_cases hb : acc.length ≤ 1048576
        · have hbi : (acc.length : Int) ≤ 1048576 := by omega
          have HBI := Lib.hid hb
          clear hb
          go_wp2_with fail
          refine (Tryz.Builder_WriteString_f _ _ _ _ _ HI6.out.bld ?len ?big).mono ?_
          case len =>
            have h1 := hsz.out
            have h2 := HBI.out
            rw [Lib.byteCells_length, ByteArray.size_append]
            show acc.length + (s.size + 1) ≤ _
            omega
          case big => exact HI6.out.bel.size
          rintro e w6 ⟨rfl, h6, b6⟩
          have H6 := Lib.hid h6
          have B6 := Lib.hid b6
          clear h6 b6
          go_wp2
          have hT : TI l0 w w6 (k + 1) (acc ++ (SP.line (dOf x) ++ [10])) := by
            refine ⟨HK.out, ?_, ?_, ?_, Below.trans HI6.out.bel B6.out⟩
            · rw [← HI6.out.run, HDR.out, textFrom, if_pos HM.out, if_pos HBI.out]
            · have h1 := HLX.out
              have h2 := HBI.out
              rw [List.length_append, List.length_append, List.length_singleton]
              omega
            · have h := H6.out
              rw [Lib.strCells_eq, ← Lib.byteCells_append, ByteArray.toList_data_append, hs.out] at h
              exact .inr h
          exact ⟨⟨k + 1, _, by rw [next_count HK.out HL.out], hT⟩, count_less HK.out HL.out⟩
        · have hbi : ¬ (acc.length : Int) ≤ 1048576 := by omega
          have HBI := Lib.hid hb
          clear hb
          go_wp2
          have hT : TI l0 w w5 (k + 1) acc := by
            refine ⟨HK.out, ?_, HI6.out.len, HI6.out.bld, HI6.out.bel⟩
            rw [← HI6.out.run, HDR.out, textFrom, if_pos HM.out, if_neg HBI.out]
          exact ⟨⟨k + 1, _, by rw [next_count HK.out HL.out], hT⟩, count_less HK.out HL.out⟩
    · have hk2 : ¬ (k : Int) < (l0.length : Int) := by omega
      have hke : k = l0.length := by have := hI.le; omega
      have HK := Lib.hid hke
      have HI := Lib.hid hI
      have hrun : textFrom l0 [] = (acc, 0) := by rw [← hI.run, hke, List.drop_length]; rfl
      have HR := Lib.hid hrun
      clear hke hI hk hrun
      by_cases hb : 1000 < l0.length
      · have hbi : 1000 < (l0.length : Int) := by omega
        have HBI := Lib.hid hb
        clear hb
        go_wp2
        go_ret2
        have ht : texted l0 = ([], 3) := by unfold texted; rw [HR.out, if_pos rfl, if_pos (Or.inl HBI.out)]
        exact ⟨by rw [ht]; rfl, HI.out.bel⟩
      · have hbi : ¬ 1000 < (l0.length : Int) := by omega
        have HBI := Lib.hid hb
        clear hb
        go_wp2_with fail
        refine (Tryz.Builder_Len_f _ _ _ _ HI.out.bld).mono ?_
        rintro e w5 ⟨rfl, rfl⟩
        rw [Lib.byteCells_length]
        by_cases hb2 : 1048576 < acc.length
        · have hbi2 : 1048576 < (acc.length : Int) := by omega
          have HB2 := Lib.hid hb2
          clear hb2
          go_wp2
          go_ret2
          have ht : texted l0 = ([], 3) := by unfold texted; rw [HR.out, if_pos rfl, if_pos (Or.inr HB2.out)]
          exact ⟨by rw [ht]; rfl, HI.out.bel⟩
        · have hbi2 : ¬ 1048576 < (acc.length : Int) := by omega
          have HB2 := Lib.hid hb2
          clear hb2
          go_wp2_with fail
          refine (Tryz.Builder_String_any_f _ _ _ _ HI.out.bld HI.out.bel.size).mono ?_
          rintro e w6 ⟨rfl, h6, b6⟩
          have B6 := Lib.hid b6
          clear h6 b6
          go_wp2
          go_ret2
          have ht : texted l0 = (acc, 0) := by unfold texted; rw [HR.out, if_pos rfl, if_neg (by rintro (h | h); exact HBI.out h; exact HB2.out h)]
          exact ⟨by rw [ht]; rfl, Below.trans HI.out.bel B6.out⟩
theorem script_Text.calls (A0 : Option Addr) (c0 : Nat) (l0 : List S27) (r1 : ByteArray) (r2 : Int) (w : World) (hr0 : Kd.C k27 w A0 l0.length l0) (hc0 : l0.length ≤ c0) (h : script_Text.f l0 = some (r1, r2)) (hF : FixW w) :
    Calls Tryz.prog 13 #[.slice A0 l0.length c0] w fun e w' => e = .returned (.tuple #[.string r1, .int .i64 r2]) ∧ Below w.heap.size w w' := by
  unfold script_Text.f at h
  split at h
  · rename_i hb
    injection h with h
    injection h with h1 h2
    rw [← h1, ← h2]
    exact text_all A0 c0 l0 w hr0 hc0 hF hb.1 hb.2
  · cases h
/-- what heavy draws is little: as the printed walk takes it -/
theorem vicinagelaw27_heavy.calls (k : Nat) (A0 : Option Addr) (c0 : Nat) (l0 : List (S27)) (r : Bool) (w : World) (hr0 : Kd.C k27 w A0 l0.length l0) (hc0 : l0.length ≤ c0) (h : PRef.vicinagelaw27_heavy.f k l0 = some r) :
    Calls Tryz.prog 12 #[.slice A0 l0.length c0] w fun e w' => e = .returned (.bool r) ∧ Below w.heap.size w w' :=
  (PRef.vicinagelaw27_heavy.calls k A0 c0 l0 r w hr0 hc0 h).mono fun e w' h => ⟨h.1, h.2.below⟩
end Go.Proofs.YtdfaljcdphbgdaaGreatDoor.PL
