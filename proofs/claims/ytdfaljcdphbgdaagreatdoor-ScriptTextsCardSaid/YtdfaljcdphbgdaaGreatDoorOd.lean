/- Arguments that are deeds, or lists of deeds, opened. -/
import Derived.Test.YtdfaljcdphbgdaaGreatDoorK
import Derived.Test.YtdfaljcdphbgdaaGreatDoorGpL
import Derived.Test.YtdfaljcdphbgdaaGreatDoorCards
import Derived.Test.YtdfaljcdphbgdaaGreatDoorTie
import Derived.SevenTiedAt
import Derived.ChangeMaps5
import Derived.ChangeSame
import Derived.Lib.SmallJoins
import Derived.OpenShut
import Derived.Carry
import Derived.Deep.Slices
import Derived.Deep.Fields
namespace Go.Proofs.YtdfaljcdphbgdaaGreatDoor.PL
set_option linter.unusedVariables false
set_option linter.unusedSimpArgs false
open Go.ChangeShapes Go.WideShapes Go.ChangeAt Go.RowKit Go.Deep Go.Proofs.YtdfaljcdphbgdaaGreatDoorW.PrintWords Go.Proofs.YtdfaljcdphbgdaaGreatDoor.PRef

theorem laidOut : laidOutB Tryz.prog = true := by kernel_rfl

section
variable {H : Type} {enc : TypeId × Value → H} {W : World}
theorem row_of_ints {t e : TypeId} {k : IntKind} {n : Nat} {v : Value} {y : DataW H × List MemPlace} (ht : Tryz.prog.underlying t = some (.slice e)) (he : Tryz.prog.underlying e = some (.int k)) (hc : Tryz.prog.cellsOf e = 1)
    (h : DataW.trod enc Tryz.prog W 0 (fun _ => true) true n t [v] = some y) : ∃ (A : Option Addr) (c : Nat) (l : List Int), v = .slice A l.length c ∧ (Kd.int k).C W A l.length l ∧ l.length ≤ c ∧ (∀ x ∈ l, (Lit.int k x).wf = true) := by
  obtain ⟨A, len, c, zs, hv, hz⟩ : ∃ (A : Option Addr) (len c : Nat) (zs : List Int), v = .slice A len c ∧
      ((A = none ∧ len = 0 ∧ c = 0 ∧ zs = []) ∨ ∃ x, A = some x ∧ len ≤ c ∧ c ≤ maxLen ∧ zs.length = c ∧ (∀ i, i < zs.length → W.cell? (x.add i) = some (.int k (zs.getD i 0))) ∧ ∀ n ∈ zs, (Lit.int k n).wf = true) := by
    rcases open_ints ht he hc h with ⟨hcs, _⟩ | ⟨x, l, c, zs, hcs, _, hl, hm, hz, _, hcell, hwz⟩
    · injection hcs with hcs
      exact ⟨none, 0, 0, [], hcs, .inl ⟨rfl, rfl, rfl, rfl⟩⟩
    · injection hcs with hcs
      exact ⟨some x, l, c, zs, hcs, .inr ⟨x, rfl, hl, hm, by simpa using hz, hcell, hwz⟩⟩
  obtain ⟨l, rfl, hr, hm, hw, hcc⟩ := ReadsInt.ofRowC hz
  exact ⟨A, c, l, hv, Kd.C_of_reads (d := (0 : Int)) (h1 := fun _ => rfl) hr, hcc, hw⟩

theorem byt_wf : ∀ (l : List Int), (∀ x ∈ l, (Lit.int .u8 x).wf = true) → ∃ b : SP.B, l = SP.nums8 b
  | [], _ => ⟨[], rfl⟩
  | x :: r, h => by
    obtain ⟨b, rfl⟩ := byt_wf r (fun z hz => h z (by simp [hz]))
    have hx := h x (by simp)
    have hx2 : 0 ≤ x ∧ x < 256 := by
      have e1 : IntKind.u8.min = 0 := rfl
      have e2 : IntKind.u8.max = 255 := rfl
      simp [Lit.wf] at hx
      rw [e1, e2] at hx
      omega
    refine ⟨UInt8.ofNat x.toNat :: b, ?_⟩
    simp only [SP.nums8, List.map_cons]
    congr 1
    rw [UInt8.toNat_ofNat']
    omega

theorem list_of (α : Type) (P : Nat → α → Prop) : ∀ n, (∀ i, i < n → ∃ x, P i x) → ∃ l : List α, l.length = n ∧ ∀ j x, l[j]? = some x → P j x
  | 0, _ => ⟨[], rfl, fun j x h => by simp at h⟩
  | n + 1, h => by
    obtain ⟨l, hl, hp⟩ := list_of α P n (fun i hi => h i (by omega))
    obtain ⟨x, hx⟩ := h n (by omega)
    refine ⟨l ++ [x], by simp [hl], fun j y hj => ?_⟩
    rcases Nat.lt_or_ge j l.length with h1 | h1
    · rw [List.getElem?_append_left h1] at hj; exact hp j y hj
    · have : j = l.length := by
        have := (List.getElem?_eq_some_iff.1 hj).1
        simp at this
        omega
      subst this
      have : x = y := by simpa using hj
      rw [← this, hl]; exact hx

/-- a slice of structs of one-cell fields, opened field by field -/
theorem slice_fields {t e : TypeId} {fs : Array Field} {fuel : Nat} {cs : List Value} {x : DataW H × List MemPlace} (ht : Tryz.prog.underlying t = some (.slice e)) (he : Tryz.prog.underlying e = some (.struct fs))
    (hone : oneCellFields Tryz.prog fs = true) (hC : Tryz.prog.cellsOf e = fs.size) (h : DataW.trod enc Tryz.prog W 0 (fun _ => true) true fuel t cs = some x) :
    (cs = [.slice none 0 0]) ∨ ∃ (a : Addr) (len cap : Nat), cs = [.slice (some a) len cap] ∧ len ≤ cap ∧ cap ≤ maxLen ∧
      ∀ i, i < len → ∃ n : Nat, ∀ (j : Nat) (f : Field), fs[j]? = some f → ∃ (v : Value) (y : DataW H × List MemPlace), W.cell? (a.add (i * fs.size + j)) = some v ∧ DataW.trod enc Tryz.prog W 0 (fun _ => true) true n f.type [v] = some y := by
  rcases open_slice ht h with h0 | ⟨a, len, cap, m, n, D, Pl, hcs, hb, hl, hm, hmm, hx, hi⟩
  · exact .inl h0.1
  · refine .inr ⟨a, len, cap, hcs, hl, hm, fun i him => ?_⟩
    have hml : len ≤ m := by rw [hmm]; simp; exact hl
    obtain ⟨cs', hc, ht'⟩ := hi i (by omega)
    rw [hC] at hc
    obtain ⟨ys, n', hn', hy, hlen, hyl, hf⟩ := DataW.trod_struct he ht'
    obtain ⟨_, hcl, hat⟩ := World.cells?_some hc
    refine ⟨n', fun j f hj => ?_⟩
    obtain ⟨ho, hk⟩ := hone_of hone j f hj
    have hjl : j < fs.size := (Array.getElem?_eq_some_iff.1 hj).1
    have hcell := hat j hjl
    have hv : cs'[j]? = some (cs'[j]'(by omega)) := List.getElem?_eq_getElem (by omega)
    have h1 := hf j f hj
    rw [ho, hk] at h1
    have hone' : (cs'.drop j).take 1 = [cs'[j]'(by omega)] := by
      rw [List.drop_eq_getElem_cons (by omega)]
      rfl
    rw [hone'] at h1
    have hys : ys[j]? = some (ys[j]'(by omega)) := List.getElem?_eq_getElem (by omega)
    refine ⟨_, _, ?_, h1.trans hys⟩
    rw [← Go.Deep.add_add, hcell, hv]

set_option maxRecDepth 100000 in
theorem open_deeds {n : Nat} {v : Value} {y : DataW H × List MemPlace} (h : DataW.trod enc Tryz.prog W 0 (fun _ => true) true n 33 [v] = some y) :
    ∃ (A : Option Addr) (c : Nat) (ds : List SP.Deed), v = .slice A ds.length c ∧ Kd.C k27 W A ds.length (ds.map sOf) ∧ ds.length ≤ c := by
  rcases slice_fields Tryz.underlying33 Tryz.underlying27 (by kernel_rfl) (by kernel_rfl) h with hv | ⟨a, len, cap, hv, hl, hm, hi⟩
  · injection hv with hv
    exact ⟨none, 0, [], hv, ⟨rfl, by decide, fun h => absurd h (by simp)⟩, Nat.le_refl _⟩
  · injection hv with hv
    obtain ⟨ds, hd, hp⟩ := list_of SP.Deed (fun i x => ∃ c, c.length = 4 ∧ k27.K W (sOf x) c ∧ ∀ j u, c[j]? = some u → W.cell? (a.add (i * 4 + j)) = some u) len (fun i hlt => by
      obtain ⟨n, hf⟩ := hi i hlt
      obtain ⟨v0, y0, c0, h0⟩ := hf 0 _ rfl
      obtain ⟨v1, y1, c1, h1⟩ := hf 1 _ rfl
      obtain ⟨v2, y2, c2, h2⟩ := hf 2 _ rfl
      obtain ⟨v3, y3, c3, h3⟩ := hf 3 _ rfl
      obtain ⟨k, e0, _, _⟩ := DataW.trod_int Tryz.underlying23 h0
      obtain ⟨m, e1, _, _⟩ := DataW.trod_int Tryz.underlying3 h1
      injection e0 with e0
      injection e1 with e1
      subst e0 e1
      obtain ⟨A2, q2, l2, rfl, hC2, hc2, hw2⟩ := row_of_ints Tryz.underlying24 Tryz.underlying5 (by kernel_rfl) h2
      obtain ⟨A3, q3, l3, rfl, hC3, hc3, _⟩ := row_of_ints Tryz.underlying25 Tryz.underlying3 (by kernel_rfl) h3
      obtain ⟨b, rfl⟩ := byt_wf l2 hw2
      refine ⟨⟨k, m, b, l3⟩, _, rfl, k27_mk W (sOf ⟨k, m, b, l3⟩) hc2 hC2 hc3 hC3, fun j u hj => ?_⟩
      match j, hj with
      | 0, hj => cases hj; exact c0
      | 1, hj => cases hj; exact c1
      | 2, hj => cases hj; exact c2
      | 3, hj => cases hj; exact c3)
    subst hd
    refine ⟨some a, cap, ds, hv, ⟨by simp, by unfold maxLen at hm; omega, fun _ => ⟨a, rfl, fun j p hj => ?_⟩⟩, hl⟩
    rw [List.getElem?_map] at hj
    cases hx : ds[j]? with
    | none => rw [hx] at hj; cases hj
    | some x =>
      rw [hx] at hj
      cases hj
      exact hp j x hx
end
end Go.Proofs.YtdfaljcdphbgdaaGreatDoor.PL
