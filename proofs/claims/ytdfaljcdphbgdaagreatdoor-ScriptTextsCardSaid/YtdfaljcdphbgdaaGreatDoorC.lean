/- Taking a word of bytes off: the walk. -/
import Derived.Test.YtdfaljcdphbgdaaGreatDoorB
import Derived.Test.YtdfaljcdphbgdaaGreatDoorPlainC
import Derived.Deep.OwnRows
namespace Go.Proofs.YtdfaljcdphbgdaaGreatDoor
set_option linter.unusedVariables false
set_option linter.unusedSimpArgs false
open Go.RowKit Go.Proofs

theorem heap_setCell_at (W : World) (g o : Nat) (C : Array Value) (t : TypeId) (v : Value) (h : W.heap[g]? = some (.cells C t (0, 0))) : (W.setCell ⟨g, o, none⟩ v).heap[g]? = some (.cells (C.setIfInBounds o v) t (0, 0)) := by
  simp [World.setCell, Array.getElem?_modify, h]

theorem cell_of_heap {W : World} {g : Nat} {C : Array Value} {t : TypeId} (h : W.heap[g]? = some (.cells C t (0, 0))) (o : Nat) : W.cell? ⟨g, o, none⟩ = C[o]? := by
  simp [World.cell?, h]
theorem frozen_of_heap {W : World} {g : Nat} {C : Array Value} {t : TypeId} (h : W.heap[g]? = some (.cells C t (0, 0))) (o : Nat) : W.frozen? ⟨g, o, none⟩ = false := by
  simp [World.frozen?, h]

/-- the cells of the bytes when the digits d have been read -/
def PC (d : List Nat) (m : Nat) : Array Value := ((List.range m).map fun i => Value.int .u8 (SP.pcell d i)).toArray
theorem PC_nil (m : Nat) : PC [] m = madeCells #[.int .u8 0] m := by
  apply Array.ext
  · simp [PC, madeCells]
  · intro i h1 h2
    simp [PC, madeCells, SP.pcell, Nat.mod_one]
theorem PC_get (d : List Nat) (m i : Nat) (h : i < m) : (PC d m)[i]? = some (.int .u8 (SP.pcell d i)) := by
  simp [PC, h]
theorem PC_set (d : List Nat) (m k : Nat) (v : Value) (hv : v = .int .u8 (SP.pcell (d ++ [k]) (d.length / 2))) : (PC d m).setIfInBounds (d.length / 2) v = PC (d ++ [k]) m := by
  subst hv
  apply Array.ext
  · simp [PC]
  · intro i h1 h2
    by_cases h : i = d.length / 2
    · subst h
      simp [PC]
    · rw [Array.getElem_setIfInBounds (by simpa using h1), if_neg (Ne.symm h)]
      simp [PC, SP.pcell_snoc_other d k i h]

theorem Wd.grown {W W' : World} {bw : Nat} {l : List ByteArray} (h : Wd W bw l) {r : Nat} (hg : W.grownBy W' (some r)) (hr : W.heap.size ≤ r) : Wd W' bw l :=
  h.below ⟨hg.os, hg.tape, hg.output, hg.size, fun k hk => hg.block k hk (by simp; omega)⟩

/-- how the reader of bytes ends -/
def BytesPost (W : World) (bw : Nat) (x : ByteArray) (l : List ByteArray) (e : Ending) (w' : World) : Prop :=
  (SP.hexOf x.data.toList = none ∧ Wrongly W bw e w') ∨
  ∃ bs, SP.hexOf x.data.toList = some bs ∧ Wd w' bw l ∧ W.grownBy w' (some bw) ∧
    ((bs = [] ∧ e = .returned (.slice none 0 0)) ∨
     ∃ g, W.heap.size ≤ g ∧ e = .returned (.slice (some ⟨g, 0, none⟩) bs.length bs.length) ∧ w'.heap[g]? = some (.cells (bs.map fun b => Value.int .u8 b.toNat).toArray 5 (0, 0)))

theorem bytes_none (W : World) (bw : Nat) (h : Wd W bw []) :
    Calls Tryz.prog 21 #[.pointer (some ⟨bw, 0, none⟩)] W (Wrongly W bw) := by
  go_enter Tryz.func21, Tryz.ntmps21
  go_wp2_with fail
  refine (next_none W bw h).mono ?_
  rintro e w1 ⟨p, hp1, hp2, rfl, hg⟩
  go_wp2
  exact ⟨rfl, Wrongly.mk hp1 hp2 hg⟩

theorem bytes_dash (W : World) (bw : Nat) (x : ByteArray) (l : List ByteArray) (h : Wd W bw (x :: l)) (hl : l.length ≤ 2000000) (hx : x.data.toList = [45]) :
    Calls Tryz.prog 21 #[.pointer (some ⟨bw, 0, none⟩)] W (BytesPost W bw x l) := by
  obtain rfl : x = ⟨#[45]⟩ := by
    apply WideShapes.bytes_inj; rw [hx]
  clear hx
  go_enter Tryz.func21, Tryz.ntmps21
  go_wp2_with fail
  refine (next_some W bw _ l h hl).mono ?_
  rintro e w1 ⟨rfl, h1, g1⟩
  have H1 := Lib.hid h1; have G1 := Lib.hid g1
  clear h1 g1
  go_wp2
  go_ret
  exact .inr ⟨[], rfl, H1.out, G1.out, .inl ⟨rfl, rfl⟩⟩

theorem bytes_odd (W : World) (bw : Nat) (x : ByteArray) (l : List ByteArray) (h : Wd W bw (x :: l)) (hl : l.length ≤ 2000000) (hx : ¬ x.data.toList = [45]) (ho : x.size = 0 ∨ x.size % 2 = 1) (hs : x.size ≤ 2000000) :
    Calls Tryz.prog 21 #[.pointer (some ⟨bw, 0, none⟩)] W (BytesPost W bw x l) := by
  have hh : SP.hexOf x.data.toList = none := by
    unfold SP.hexOf
    rw [if_neg hx]
    rcases ho with h0 | h1
    · rw [if_pos (List.eq_nil_of_length_eq_zero (by rw [Array.length_toList]; exact h0))]
    · split
      · rfl
      · exact SP.unpairs_odd _ (by rw [Array.length_toList]; exact h1)
  have hx' : (x.toList == [45]) = false := by rw [toList_data]; simpa using hx
  clear hx
  have HH := Lib.hid hh
  clear hh
  rcases ho with h0 | h1
  · have h0' : ((x.size : Int) == 0) = true := by simp [h0]
    clear h0
    go_enter Tryz.func21, Tryz.ntmps21
    go_wp2_with fail
    refine (next_some W bw _ l h hl).mono ?_
    rintro e w1 ⟨rfl, h1, g1⟩
    have H1 := Lib.hid h1; have G1 := Lib.hid g1
    clear h1 g1
    go_wp2
    exact ⟨rfl, .inl ⟨HH.out, Wrongly.mk G1.out.size (by simp) (grown_trans G1.out (World.grownBy_alloc _ _ _))⟩⟩
  · have h0' : ((x.size : Int) == 0) = false := by rw [beq_eq_false_iff_ne]; omega
    have h2' : ((x.size : Int) % 2 == 1) = true := by rw [beq_iff_eq]; omega
    clear h1
    go_enter Tryz.func21, Tryz.ntmps21
    go_wp2_with fail
    refine (next_some W bw _ l h hl).mono ?_
    rintro e w1 ⟨rfl, h1, g1⟩
    have H1 := Lib.hid h1; have G1 := Lib.hid g1
    clear h1 g1
    go_wp2
    exact ⟨rfl, .inl ⟨HH.out, Wrongly.mk G1.out.size (by simp) (grown_trans G1.out (World.grownBy_alloc _ _ _))⟩⟩
theorem shl_or_fin : ∀ v k : Fin 16, bits BinOp.or IntKind.u8 ((v.val : Int) * 16 % 256) (k.val : Int) = ((v.val * 16 + k.val : Nat) : Int) := by decide +kernel
theorem shl_or (v k : Nat) (hv : v < 16) (hk : k < 16) : bits BinOp.or IntKind.u8 ((v : Int) * 16 % 256) (k : Int) = ((v * 16 + k : Nat) : Int) := shl_or_fin ⟨v, hv⟩ ⟨k, hk⟩

theorem unhd_hexIdx (c : UInt8) : (∀ d, SP.unhd c = some d → hexIdx c.toNat = d) ∧ (SP.unhd c = none → hexIdx c.toNat = -1) := by
  refine ⟨fun d hd => ?_, fun hn => ?_⟩
  · unfold SP.unhd at hd
    unfold hexIdx
    split at hd
    · cases hd; rw [if_pos (by omega)]; omega
    · split at hd
      · cases hd; rw [if_neg (by omega), if_pos (by omega)]; omega
      · cases hd
  · unfold SP.unhd at hn
    unfold hexIdx
    split at hn
    · cases hn
    · split at hn
      · cases hn
      · rw [if_neg (by omega), if_neg (by omega)]

theorem decode_facts (x : ByteArray) (pos : Nat) (h : pos < x.size) : Utf8.valid ((Utf8.decode x pos).1 : Int) = true ∧ ((x[pos]'h).toNat < 128 → Utf8.decode x pos = ((x[pos]'h).toNat, 1)) ∧ (128 ≤ (x[pos]'h).toNat → 128 ≤ (Utf8.decode x pos).1) := by
  have e : x.get! (pos + 0) = x[pos]'h := by
    show x.get! pos = _
    simp [ByteArray.get!, getElem!_pos, h]
    rfl
  have hb := (x[pos]'h).toNat_lt
  have hv : ∀ n : Nat, n < 55296 → Utf8.valid (n : Int) = true := by
    intro n hn; unfold Utf8.valid; simp; omega
  have h1 : Utf8.valid ((65533 : Nat) : Int) = true := by decide
  refine ⟨?_, fun ha => decode_ascii x pos h ha, fun ha => ?_⟩
  · unfold Utf8.decode
    simp only [e]
    split
    · exact hv _ (by omega)
    · split
      · split
        · exact hv _ (by omega)
        · exact h1
      · split
        · split
          · rename_i hh; simp only [ge_iff_le, Bool.and_eq_true, decide_eq_true_eq] at hh; exact hh.2
          · exact h1
        · split
          · split
            · rename_i hh; simp only [ge_iff_le, Bool.and_eq_true, decide_eq_true_eq] at hh; exact hh.2
            · exact h1
          · exact h1
  · unfold Utf8.decode
    simp only [e]
    have h2 : 128 ≤ Utf8.runeError := by decide
    split
    · omega
    · split
      · split
        · assumption
        · exact h2
      · split
        · split
          · rename_i hh; simp only [ge_iff_le, Bool.and_eq_true, decide_eq_true_eq] at hh; omega
          · exact h2
        · split
          · split
            · rename_i hh; simp only [ge_iff_le, Bool.and_eq_true, decide_eq_true_eq] at hh; omega
            · exact h2
          · exact h2

/-- what holds at a round's head -/
structure LB (w1 : World) (x : ByteArray) (m g : Nat) (wr : World) (pos : Nat) (d : List Nat) : Prop where
  hi : wr.heap[g + 1]? = some (.stringIter x pos)
  hg : wr.heap[g]? = some (.cells (PC d m) 5 (0, 0))
  nib : SP.nibs (x.data.toList.take pos) = some d
  le : pos ≤ x.size
  hb : Below g w1 wr

theorem LB_end {W w1 : World} {bw : Nat} {l : List ByteArray} {x : ByteArray} {m g : Nat} {wr : World} {pos : Nat} {d : List Nat} (H1 : Wd w1 bw l) (G1 : W.grownBy w1 (some bw)) (hgs : w1.heap.size = g) (h : LB w1 x m g wr pos d) (hp : ¬ pos < x.size)
    (hx : ¬ x.data.toList = [45]) (hm : x.size = 2 * m) (hm1 : 1 ≤ m) : BytesPost W bw x l (.returned (.slice (some ⟨g, 0, none⟩) m m)) wr := by
  have hl : x.data.toList.length = 2 * m := by rw [Array.length_toList]; exact hm
  have e1 : x.data.toList.take pos = x.data.toList := List.take_of_length_le (by have := h.le; omega)
  have hn := h.nib
  rw [e1] at hn
  have hu := SP.unpairs_nibs _ d hn (by omega)
  rw [hl, show 2 * m / 2 = m by omega] at hu
  have hh : SP.hexOf x.data.toList = some ((List.range m).map fun i => UInt8.ofNat (SP.pcell d i)) := by
    unfold SP.hexOf
    rw [if_neg hx]
    split
    · rename_i h0; rw [h0] at hl; simp at hl; omega
    · exact hu
  have e2 : (((List.range m).map fun i => UInt8.ofNat (SP.pcell d i)).map fun b => Value.int .u8 b.toNat).toArray = PC d m := by
    unfold PC
    rw [List.map_map]
    congr 1
    refine List.map_congr_left fun i _ => ?_
    have := (SP.pcell_lt d (SP.nibs_lt _ _ hn) i).1
    simp only [Function.comp_apply]
    rw [UInt8.toNat_ofNat', Nat.mod_eq_of_lt (by omega)]
  subst hgs
  refine .inr ⟨_, hh, H1.below h.hb, grown_then G1 h.hb, .inr ⟨w1.heap.size, G1.size, ?_, ?_⟩⟩
  · rw [List.length_map, List.length_range]
  · rw [e2]; exact h.hg

theorem LB_bad {W w1 : World} {bw : Nat} {l : List ByteArray} {x : ByteArray} {m g : Nat} {wr w2 : World} {pos p : Nat} {d : List Nat} (G1 : W.grownBy w1 (some bw)) (hgs : w1.heap.size = g) (h : LB w1 x m g wr pos d) (hp : pos < x.size)
    (hx : ¬ x.data.toList = [45]) (hu : SP.unhd (x[pos]'hp) = none) (hb : Below (g + 1) wr w2) (hp1 : g ≤ p) (hp2 : p < w2.heap.size) :
    BytesPost W bw x l (.panicked [{ v := .iface 43 (.pointer (some ⟨p, 0, none⟩)), recovered := false }]) w2 := by
  have hmem : x[pos]'hp ∈ x.data.toList := Array.getElem_mem_toList (xs := x.data) hp
  subst hgs
  refine .inl ⟨?_, Wrongly.mk (Nat.le_trans G1.size hp1) hp2 (grown_then G1 (h.hb.trans (hb.mono (Nat.le_succ _))))⟩
  unfold SP.hexOf
  rw [if_neg hx]
  split
  · rfl
  · exact SP.unpairs_bad _ _ hmem hu

theorem LB_step {w1 : World} {x : ByteArray} {m g k : Nat} {wr w2 : World} {pos : Nat} {d : List Nat} (h : LB w1 x m g wr pos d) (hp : pos < x.size)
    (hu : SP.unhd (x[pos]'hp) = some k) (hG : w2.heap[g]? = some (.cells (PC d m) 5 (0, 0))) (hI : w2.heap[g + 1]? = some (.stringIter x (pos + 1))) (hb : Below g wr w2) :
    LB w1 x m g (w2.setCell ⟨g, pos / 2, none⟩ (.int .u8 (bits BinOp.or IntKind.u8 ((SP.pcell d (pos / 2) : Int) * 16 % 256) (k : Int)))) (pos + 1) (d ++ [k]) := by
  have hdl : d.length = pos := by
    have := SP.nibs_length _ _ h.nib
    rw [this, List.length_take, Array.length_toList]
    exact Nat.min_eq_left (Nat.le_of_lt hp)
  have hk := (SP.hd_unhd hu).1
  have hd16 := SP.nibs_lt _ _ h.nib
  refine ⟨?_, ?_, ?_, hp, ?_⟩
  · rw [Below.heap_setCell _ _ _ _ (by simp)]; exact hI
  · rw [heap_setCell_at _ _ _ _ _ _ hG]
    have hv : bits BinOp.or IntKind.u8 ((SP.pcell d (pos / 2) : Int) * 16 % 256) (k : Int) = (SP.pcell (d ++ [k]) (d.length / 2) : Int) := by
      subst hdl
      by_cases hev : d.length % 2 = 0
      · obtain ⟨e1, e2⟩ := SP.pcell_even d k hev
        rw [e1, e2, shl_or 0 k (by omega) hk]; omega
      · obtain ⟨e1, _⟩ := SP.pcell_odd d k (by omega)
        rw [e1, shl_or _ k ((SP.pcell_lt d hd16 0).2 (by omega)) hk]
    have := PC_set d m k _ (congrArg (Value.int .u8) hv)
    rw [hdl] at this
    rw [this]
  · have e : x.data.toList.take (pos + 1) = x.data.toList.take pos ++ [x[pos]'hp] := by
      rw [List.take_succ_eq_append_getElem (by rw [Array.length_toList]; exact hp)]; rfl
    rw [e]; exact SP.nibs_snoc _ _ _ _ h.nib hu
  · exact (h.hb.trans hb).setCell (p := ⟨g, pos / 2, none⟩) (Nat.le_refl _) _

set_option maxHeartbeats 20000000 in
set_option maxRecDepth 100000 in
theorem bytes_even (W : World) (bw : Nat) (x : ByteArray) (l : List ByteArray) (m : Nat) (h : Wd W bw (x :: l)) (hl : l.length ≤ 2000000) (hx : ¬ x.data.toList = [45]) (hm : x.size = 2 * m) (hm1 : 1 ≤ m) (hs : m ≤ 1000000) :
    Calls Tryz.prog 21 #[.pointer (some ⟨bw, 0, none⟩)] W (BytesPost W bw x l) := by
  have hx' : (x.toList == [45]) = false := by rw [toList_data]; simpa using hx
  have h0' : ((x.size : Int) == 0) = false := by rw [beq_eq_false_iff_ne]; omega
  have h2' : ((x.size : Int) % 2 == 1) = false := by rw [beq_eq_false_iff_ne]; omega
  have hq : ((x.size : Int) / 2) = (m : Int) := by omega
  have hmk := run_make_row' (P := Tryz.prog) 24 5 (.int .u8 0) 1 Tryz.underlying24 (by kernel_rfl) rfl .i64 .i64 m (by omega) (by omega)
  have HM := Lib.hid hm
  have HX := Lib.hid hx
  clear hm hx
  go_enter Tryz.func21, Tryz.ntmps21
  go_wp2_with fail
  refine (next_some W bw _ l h hl).mono ?_
  rintro e w1 ⟨rfl, h1, g1⟩
  have H1 := Lib.hid h1; have G1 := Lib.hid g1
  clear h1 g1
  go_wp2_with fail
  obtain ⟨g, hgs⟩ : ∃ g, w1.heap.size = g := ⟨_, rfl⟩
  rw [hgs]
  have L0 : LB w1 x m g ((w1.alloc (Obj.cells (madeCells #[Value.int IntKind.u8 0] m) 5)).iter x 0) 0 [] := by
    refine ⟨?_, ?_, rfl, Nat.zero_le _, ?_⟩
    · rw [← hgs]; have := World.iter_heap (w1.alloc (Obj.cells (madeCells #[Value.int IntKind.u8 0] m) 5)) x 0
      rwa [World.size_alloc] at this
    · rw [← hgs, PC_nil]
      exact (Below.heap_alloc _ _ _ (by simp)).trans (heap_alloc_new _ _)
    · rw [← hgs]; exact ((Below.refl _ _).alloc (Nat.le_refl _) _).alloc (by simp) _
  have HGS := Lib.hid hgs
  clear hgs hmk hq
  go_loopw [30] (fun _ wr => ∃ pos d, LB w1 x m g wr pos d) (fun _ wr => x.size - wr.iterPos (g + 1))
  case atStart => exact ⟨0, [], L0⟩
  case round =>
    obtain ⟨pos, d, hL⟩ := hrel
    clear L0
    by_cases hlt : pos < x.size
    · obtain ⟨hv, hasc, hfar⟩ := decode_facts x pos hlt
      have hn := fun ty => Lib.run_next_any_at (P := Tryz.prog) wr (g + 1) x pos ty hL.hi hlt
      have hba := Lib.below_iterAt (Below.refl (g + 1) wr) (k := g + 1) (Nat.le_refl _) x (pos + (Utf8.decode x pos).2)
      have hsz := Lib.iterAt_size wr (g + 1) x (pos + (Utf8.decode x pos).2)
      have hgs : g + 1 < wr.heap.size := (Array.getElem?_eq_some_iff.1 hL.hi).1
      have HK := Lib.hid (Lib.iterAt_heap wr (g + 1) x pos (pos + (Utf8.decode x pos).2) hL.hi)
      generalize hr : (Utf8.decode x pos).1 = r at hv hfar hn
      cases hu : SP.unhd (x[pos]'hlt) with
      | none =>
        have hk : hexIdx (r : Int) = -1 := by
          by_cases h1 : (x[pos]'hlt).toNat < 128
          · have e1 := hasc h1
            rw [e1] at hr
            subst hr
            exact (unhd_hexIdx _).2 hu
          · have := hfar (by omega)
            unfold hexIdx; rw [if_neg (by omega), if_neg (by omega)]
        have hc := fun W => idx_any (r : Int) W (by omega) hv
        rw [hk] at hc
        have HC := Lib.hid hc
        have HL := Lib.hid hL
        have HBA := Lib.hid hba
        have HU := Lib.hid hu
        have HS := Lib.hid hsz
        clear hL hc hk hasc hfar hv hr hba hu HM HK hm1 hsz
        go_wp2_with fail
        refine (HC.out _).mono ?_
        rintro e w2 ⟨rfl, b2⟩
        have B2 := Lib.hid b2
        have hs2 := b2.size
        rw [HS.out] at hs2
        clear b2
        go_wp2
        refine ⟨rfl, LB_bad G1.out HGS.out HL.out hlt HX.out HU.out ((HBA.out.trans (B2.out.mono (by rw [HS.out]; omega))).alloc (by omega) _) (by omega) (by simp)⟩
      | some k =>
        have hk16 := (SP.hd_unhd hu).1
        have h128 : (x[pos]'hlt).toNat < 128 := by
          unfold SP.unhd at hu
          split at hu
          · omega
          · split at hu
            · omega
            · cases hu
        have e1 := hasc h128
        rw [e1] at hr hn hba HK
        simp only at hr hn hba HK
        subst hr
        have hk := (unhd_hexIdx _).1 k hu
        have hc := fun W => idx_any ((x[pos]'hlt).toNat : Int) W (by omega) hv
        rw [hk] at hc
        have HC := Lib.hid hc
        have HL := Lib.hid hL
        have HBA := Lib.hid hba
        have HU := Lib.hid hu
        have hdl : d.length = pos := by
          have := SP.nibs_length _ _ hL.nib
          rw [this, List.length_take, Array.length_toList]
          exact Nat.min_eq_left (Nat.le_of_lt hlt)
        have hgn : ∀ w2, Below (wr.iterAt (g + 1) x (pos + 1)).heap.size (wr.iterAt (g + 1) x (pos + 1)) w2 → w2.heap[g]? = some (.cells (PC d m) 5 (0, 0)) := by
          intro w2 hb2
          have h1 : (wr.iterAt (g + 1) x (pos + 1)).heap[g]? = some (.cells (PC d m) 5 (0, 0)) := by
            rw [Lib.iterAt_other wr (g + 1) g x _ (by omega)]; exact hL.hg
          rw [hb2.block g (Array.getElem?_eq_some_iff.1 h1).1]; exact h1
        have HGN := Lib.hid hgn
        generalize hcc : (x[pos]'hlt).toNat = cc at hn HC hv
        have HS := Lib.hid hsz
        rw [e1] at HS
        clear hgn hL hc hk hasc hfar hv hba hu hm1 h128 e1 hcc hsz
        go_wp2_with fail
        refine (HC.out _).mono ?_
        rintro e w2 ⟨rfl, b2⟩
        have hG := HGN.out w2 b2
        have hmp : pos / 2 < m := by have := HM.out; omega
        have hcl : w2.cell? ⟨g, pos / 2, none⟩ = some (.int .u8 (SP.pcell d (pos / 2))) := (cell_of_heap hG _).trans (PC_get d m _ hmp)
        have hfl : w2.frozen? ⟨g, pos / 2, none⟩ = false := frozen_of_heap hG _
        have hi1 : (pos : Int) / 2 < (m : Int) := by omega
        have HG := Lib.hid hG
        have B2 := Lib.hid b2
        clear b2 hG
        go_wp2
        have hb3 := HBA.out.trans (B2.out.mono (show g + 1 ≤ _ by rw [HS.out]; omega))
        have hL2 := LB_step HL.out hlt HU.out HG.out ((B2.out.block _ (by rw [HS.out]; omega)).trans HK.out) (hb3.mono (Nat.le_succ _))
        refine ⟨⟨pos + 1, d ++ [k], hL2⟩, ?_⟩
        rw [iterPos_of hL2.hi, iterPos_of HL.out.hi]
        omega
    · have hn := fun ty => Lib.run_next_end_at (P := Tryz.prog) wr (g + 1) x pos ty hL.hi hlt
      have HL := Lib.hid hL
      clear hL
      go_wp2
      go_ret
      exact LB_end H1.out G1.out HGS.out HL.out hlt HX.out HM.out hm1

theorem bytes_some (W : World) (bw : Nat) (x : ByteArray) (l : List ByteArray) (h : Wd W bw (x :: l)) (hl : l.length ≤ 2000000) (hs : x.size ≤ 2000000) :
    Calls Tryz.prog 21 #[.pointer (some ⟨bw, 0, none⟩)] W (BytesPost W bw x l) := by
  by_cases hx : x.data.toList = [45]
  · exact bytes_dash W bw x l h hl hx
  · by_cases ho : x.size = 0 ∨ x.size % 2 = 1
    · exact bytes_odd W bw x l h hl hx ho hs
    · exact bytes_even W bw x l (x.size / 2) h hl hx (by omega) (by omega) (by omega)

end Go.Proofs.YtdfaljcdphbgdaaGreatDoor
