/- For rows of laws that take slices of structs of two whole numbers: such an argument, opened as a list of pairs, with its weight: no condition. -/
import Derived.Deep.Slices
import Derived.Deep.Fields
import Derived.ChangeSame
import Derived.SizedLaws
import Derived.ChangeSlices
import Derived.Lib.SmallJoins
import Derived.Test.YtnfbdaffbpaagaaGreatDoorWWords
namespace Go.Proofs.YtnfbdaffbpaagaaGreatDoorH
open Go.ChangeShapes Go.WideShapes Go.Deep Go.Proofs.YtnfbdaffbpaagaaGreatDoorW.PrintWords
set_option linter.unusedVariables false
set_option linter.unusedSimpArgs false
section
variable {H : Type} {enc : TypeId × Value → H} {P : Program} {w : World} {base : Nat} {spare : Nat → Bool} {held : Bool}
/-- An argument that is a slice of structs of one-cell fields, field by field (after the guide's page on structs). -/
theorem open_slice_fields {t e : TypeId} {fs : Array Field} {fuel : Nat} {cs : List Value} {x : DataW H × List MemPlace} (ht : P.underlying t = some (.slice e)) (he : P.underlying e = some (.struct fs))
    (hone : oneCellFields P fs = true) (hC : P.cellsOf e = fs.size) (h : DataW.trod enc P w base spare held fuel t cs = some x) :
    (cs = [.slice none 0 0] ∧ x = (.nil, [])) ∨
    ∃ (a : Addr) (len cap m : Nat) (D : Nat → DataW H) (Pl : Nat → List MemPlace), cs = [.slice (some a) len cap] ∧ base ≤ a.block ∧ len ≤ cap ∧ cap ≤ maxLen ∧ m = (if spare a.block then cap else len) ∧
      x = (.slice ((List.range len).map D) ((List.range (m - len)).map fun j => D (len + j)), MemPlace.row a (m * fs.size) ++ (List.range m).flatMap Pl) ∧
      ∀ i, i < m → ∃ (ys : List (DataW H × List MemPlace)) (n : Nat), D i = .agg (ys.map (·.1)) ∧ Pl i = ys.flatMap (·.2) ∧ ys.length = fs.size ∧
        ∀ (j : Nat) (f : Field), fs[j]? = some f → ∃ (v : Value) (y : DataW H × List MemPlace), w.cell? (a.add (i * fs.size + j)) = some v ∧ ys[j]? = some y ∧ DataW.trod enc P w base spare held n f.type [v] = some y := by
  rcases open_slice ht h with h0 | ⟨a, len, cap, m, n, D, Pl, hcs, hb, hl, hm, hmm, hx, hi⟩
  · exact .inl h0
  · refine .inr ⟨a, len, cap, m, D, Pl, hcs, hb, hl, hm, hmm, by rw [hC] at hx; exact hx, fun i him => ?_⟩
    obtain ⟨cs', hc, ht'⟩ := hi i him
    rw [hC] at hc
    obtain ⟨ys, n', hn', hy, hlen, hyl, hf⟩ := DataW.trod_struct he ht'
    obtain ⟨_, hcl, hat⟩ := World.cells?_some hc
    simp only [Prod.mk.injEq] at hy
    refine ⟨ys, n', hy.1, hy.2, hyl, fun j f hj => ?_⟩
    obtain ⟨ho, hk⟩ := hone_of hone j f hj
    have hjl : j < fs.size := (Array.getElem?_eq_some_iff.1 hj).1
    have hcell := hat j hjl
    have hv : cs'[j]? = some (cs'[j]'(by omega)) := List.getElem?_eq_getElem (by omega)
    have h1 := hf j f hj
    rw [ho, hk] at h1
    have hone' : (cs'.drop j).take 1 = [cs'[j]'(by omega)] := by
      rw [List.drop_eq_getElem_cons (by omega)]
      rfl
    rw [hone'] at h1
    have hys : ys[j]? = some (ys[j]'(by omega)) := List.getElem?_eq_getElem (by omega)
    refine ⟨_, _, ?_, hys, h1.trans hys⟩
    rw [← Go.Deep.add_add, hcell, hv]
/-- A slice of pairs of whole numbers that came in: the pairs, where they lie, their ranges, their weight. -/
theorem open_pairs {α : Type} (mk : Int → Int → α) {t e : TypeId} {f0 f1 : Field} {k0 k1 : IntKind} {a : Option Addr} {len cap : Nat} {d : DataW H} {ps : List MemPlace} {ts : List TypeId} {ds : List (DataW H)} {j : Nat}
    (hsz : (DataW.weightsEach P ts ds).all (· ≤ reachBytes) = true) (htj : ts[j]? = some t) (hdj : ds[j]? = some d)
    (ht : P.underlying t = some (.slice e)) (he : P.underlying e = some (.struct #[f0, f1]))
    (hone : oneCellFields P #[f0, f1] = true) (hC : P.cellsOf e = 2) (u0 : P.underlying f0.type = some (.int k0)) (u1 : P.underlying f1.type = some (.int k1)) {B : Nat} (hB : P.bytesOf e = B)
    (h : DataW.Trod enc P w base spare held t (.slice a len cap) d ps) :
    ∃ l : List (Int × Int), l.length = len ∧ len ≤ cap ∧ cap ≤ maxLen ∧ (Kd.pair (Kd.int k0) (Kd.int k1)).C w a len l ∧ (∀ x ∈ l, (Lit.int k0 x.1).wf = true ∧ (Lit.int k1 x.2).wf = true) ∧ len * B ≤ 140737488351232 := by
  obtain ⟨fuel, hf⟩ := h
  rcases open_slice_fields ht he hone hC hf with ⟨hcs, _⟩ | ⟨x, l, c, m, D, Pl, hcs, hb, hl, hm, hmm, hx, hi⟩
  · simp [Value.cells] at hcs
    obtain ⟨rfl, rfl, rfl⟩ := hcs
    exact ⟨[], rfl, Nat.le_refl _, Nat.zero_le _, Kd.C_nil _ _, (fun x hx => by cases hx), by simp⟩
  · simp [Value.cells] at hcs
    obtain ⟨rfl, rfl, rfl⟩ := hcs
    obtain ⟨hx, _⟩ := Prod.mk.inj hx
    subst hx
    have hlm : len ≤ m := by
      rw [hmm]
      split
      · exact hl
      · exact Nat.le_refl _
    have hp : ∀ i, i < len → ∃ p : Int × Int, w.cell? (x.add (i * 2)) = some (.int k0 p.1) ∧ w.cell? (x.add (i * 2 + 1)) = some (.int k1 p.2) ∧ (Lit.int k0 p.1).wf = true ∧ (Lit.int k1 p.2).wf = true := by
      intro i hil
      obtain ⟨ys, n, _, _, _, hfs⟩ := hi i (by omega)
      obtain ⟨v0, y0, hc0, _, hy0⟩ := hfs 0 f0 rfl
      obtain ⟨v1, y1, hc1, _, hy1⟩ := hfs 1 f1 rfl
      obtain ⟨n0, e0, rfl, w0⟩ := DataW.trod_int u0 hy0
      obtain ⟨n1, e1, rfl, w1⟩ := DataW.trod_int u1 hy1
      simp at e0 e1
      subst e0 e1
      exact ⟨(n0, n1), hc0, hc1, w0, w1⟩
    let F : Nat → Int × Int := fun i => if h : i < len then (hp i h).choose else (0, 0)
    have hF : ∀ i, i < len → w.cell? (x.add (i * 2)) = some (.int k0 (F i).1) ∧ w.cell? (x.add (i * 2 + 1)) = some (.int k1 (F i).2) ∧ (Lit.int k0 (F i).1).wf = true ∧ (Lit.int k1 (F i).2).wf = true := by
      intro i hil
      have e : F i = (hp i hil).choose := dif_pos hil
      rw [e]
      exact (hp i hil).choose_spec
    have z := sized_slice hsz htj hdj ht
    rw [hB] at z
    simp at z
    have hw : len * B ≤ 140737488351232 := Nat.le_trans (Nat.mul_le_mul_right _ (by omega)) z
    refine ⟨(List.range len).map F, by simp, hl, hm, ⟨by simp, by unfold maxLen at hm; omega, fun hpos => ⟨x, rfl, fun i p hj => ?_⟩⟩, ?_, hw⟩
    · obtain ⟨hil, rfl⟩ := List.getElem?_eq_some_iff.1 hj
      simp at hil
      obtain ⟨c0, c1, _, _⟩ := hF i hil
      simp only [List.getElem_map, List.getElem_range]
      refine ⟨[.int k0 (F i).1, .int k1 (F i).2], rfl, ⟨[.int k0 (F i).1], [.int k1 (F i).2], rfl, rfl, rfl⟩, fun q u hu => ?_⟩
      match q, hu with
      | 0, hu => cases hu; exact c0
      | 1, hu => cases hu; exact c1
    · intro p hpm
      obtain ⟨i, hi', rfl⟩ := List.mem_map.1 hpm
      exact (hF i (List.mem_range.1 hi')).2.2
/-- The same row, its elements told as another type's. -/
theorem C_map {α β : Type} {d : Kd α} {f : β → α} (g : α → β) (hfg : ∀ x, f (g x) = x) {A : Option Addr} {n : Nat} {xs : List α} (h : d.C w A n xs) : (Kd.iso d f).C w A n (xs.map g) := by
  obtain ⟨h1, h2, h3⟩ := h
  refine ⟨by simpa using h1, h2, fun hn => ?_⟩
  obtain ⟨ad, e, hc⟩ := h3 hn
  refine ⟨ad, e, fun j p hj => ?_⟩
  rw [List.getElem?_map] at hj
  obtain ⟨q, hq, rfl⟩ := Option.map_eq_some_iff.1 hj
  obtain ⟨c, hc1, hc2, hc3⟩ := hc j q hq
  refine ⟨c, hc1, ?_, hc3⟩
  show d.K w (f (g q)) c
  rw [hfg]
  exact hc2
end
end Go.Proofs.YtnfbdaffbpaagaaGreatDoorH
