/- For slices.Delete over a row of the call's own: what clear(s[n:n+1]) does behind the row's end: no condition. -/
import Derived.Lib.SliceRun
import Derived.Deep.RegionLaw
import Derived.Test.YtnfbdaffbpaagaaGreatDoorWWords
namespace Go.Proofs.YtnfbdaffbpaagaaGreatDoorH
open Go.RowKit Go.Proofs.YtnfbdaffbpaagaaGreatDoorW.PrintWords
set_option linter.unusedVariables false
set_option linter.unusedSimpArgs false
theorem zeroCells_one (z : Array Value) (h0 : 0 < z.size) : (Builtin.zeroCells z 1).toList = z.toList := by
  simp only [Builtin.zeroCells, Nat.one_mul]
  apply List.ext_getElem
  · simp
  · intro i h1 h2
    have hi : i < z.size := by simpa using h2
    simp [Nat.mod_eq_of_lt hi, hi]
theorem R_clear_run {P : Program} {α : Type} (d : Kd α) {W : World} (base : Nat) (t e : TypeId) (z : Value) (ht : P.underlying t = some (.slice e)) (hv : ∀ w, (zeroValue e).run P w = .ok z w) (hzs : z.cells.size = d.sz) (hz1 : ∀ u ∈ z.cells.toList, u.oneCell' = true) (h0 : 0 < d.sz)
    {g n c : Nat} {xs : List α} {ok : Nat → Prop} (HO : d.R e W base ok (.slice (some ⟨g, 0, none⟩) n c) xs) (hnc : n < c) (o : Nat) (ho : o = n * d.sz) :
    ∃ w1, (∀ ty c2, (Builtin.clear_ #[t] ty #[.slice (some ⟨g, o, none⟩) 1 c2]).run P W = .ok (.tuple #[]) w1) ∧ d.R e w1 base ok (.slice (some ⟨g, 0, none⟩) n c) xs ∧ W.grownBy w1 (some g) := by
  subst ho
  obtain ⟨hn, _, _⟩ := Kd.R_reads' HO
  obtain ⟨hok, inner, hown, hr⟩ := HO
  have hin : inner.length = n * d.sz := by rw [hr.1, hn]
  rcases hown.2 with ⟨hv', _⟩ | ⟨g', cap', cur, hv', hb, hh, _, hcm, hcs, htake⟩
  · cases hv'
  injection hv' with ha _ hc
  injection ha with ha
  injection ha with hg
  subst hg; subst hc
  rw [← hn] at htake
  have hle : (n + 1) * d.sz ≤ c * d.sz := Nat.mul_le_mul_right _ hnc
  have hks : (n + 1) * d.sz = n * d.sz + d.sz := Nat.succ_mul _ _
  have hzl : z.cells.toList.length = d.sz := by simpa using hzs
  have hfit : n * d.sz + z.cells.toList.length ≤ cur.size := by omega
  have hst := run_storeCells_cells (P := P) g (n * d.sz) z.cells.toList 0 W
    (fun j hj => by rw [cell_of_row W g _ cur e (0, 0) hh]; simp; omega) (fun j _ => blk_frozen hh _) hz1
  rw [Nat.add_zero] at hst
  have hrun : ∀ ty c2, (Builtin.clear_ #[t] ty #[.slice (some ⟨g, n * d.sz, none⟩) 1 c2]).run P W = .ok (.tuple #[]) (W.setCells g (n * d.sz) z.cells.toList) := by
    intro ty c2
    simp [Builtin.clear_, run_underlying ht, hv, zeroCells_one z.cells (by omega), hst]
  obtain ⟨cur', h3, h4, h5⟩ := setCells_row z.cells.toList (n * d.sz) W cur hh hfit
  obtain ⟨s1, s2, s3, s4⟩ := setCells_same g z.cells.toList (n * d.sz) W
  have hfar : ∀ k', k' ≠ g → (W.setCells g (n * d.sz) z.cells.toList).heap[k']? = W.heap[k']? := fun k' hk' => setCells_far z.cells.toList _ k' hk'
  have hgo : ∀ m, some g = (Value.slice (some ⟨g, 0, none⟩) m c).ownBlock := fun m => by simp [Value.ownBlock]
  refine ⟨_, hrun, ⟨hok, inner, ⟨hown.1, .inr ⟨g, c, cur', by rw [hn], hb, h3, by omega, hcm, by rw [h4, hcs], ?_⟩⟩, ?_⟩, ⟨s1, s2, s3, by rw [s4]; exact Nat.le_refl _, fun k' _ hk' => hfar k' (fun he => hk' (by rw [he]))⟩⟩
  · rw [← hn, h5, ← htake, List.append_assoc, List.take_append_of_le_length (by rw [List.length_take]; simp; omega), List.take_take, Nat.min_self]
  · exact hr.imp_ (fun p q hp => d.M_move (fun k' hk' => hfar k' (fun he => hk'.2 (by rw [← hgo, he]))) hp)
end Go.Proofs.YtnfbdaffbpaagaaGreatDoorH
