/- IsStepList of the program and of the reference answer alike at every list, whatever its numbers: no condition. -/
import Derived.Test.YtapcnidappknnaaPFnExactIsStepListx1
namespace Go.Proofs.Ytapcnidappknnaa.Pure
open Go.RowKit Go.Proofs.Ytapcnidappknnaa.PFnExactIsStepList Go.Proofs.YtapcnidappknnaaW.PrintWords Go.Proofs.YtapcnidappknnaaW.PrintLast Go.Proofs.YtapcnidappknnaaW.PrintMore
set_option linter.unusedVariables false
set_option linter.unusedSimpArgs false
namespace OwnFnExactIsStepList
theorem w64 {x : Int} (h0 : -9223372036854775808 ≤ x) (h1 : x ≤ 9223372036854775807) : wrap64 x = x := by unfold wrap64; omega
theorem l1In_at (n a b : Int) : spec_l1In.f n a b = some (decide (a ≤ n ∧ n ≤ b)) := by
  unfold spec_l1In.f
  by_cases h : a ≤ n
  · rw [if_pos (by omega)]; simp [h]
  · rw [if_neg (by omega)]; simp [h]
theorem drop_rd (xs : List Int) (i : Nat) (h : i < xs.length) : xs.drop i = rd xs (i : Int) :: xs.drop (i + 1) := by
  rw [List.drop_eq_getElem_cons h]
  simp [rd, List.getD, h]
theorem eqIntS_l0 (xs : List Int) (hx : xs.length ≤ 1000000000000) : ∀ (d i : Nat), i + d = xs.length → ∀ K, d < K → laws_eqIntS.l0 K xs xs i = some true := by
  intro d
  induction d with
  | zero =>
    intro i hi K hK
    obtain ⟨K, rfl⟩ : ∃ k, K = k + 1 := ⟨K - 1, by omega⟩
    simp only [laws_eqIntS.l0]
    rw [if_neg (by omega)]
  | succ d ih =>
    intro i hi K hK
    obtain ⟨K, rfl⟩ : ∃ k, K = k + 1 := ⟨K - 1, by omega⟩
    have hlt : (i : Int) < (xs.length : Int) := by omega
    simp only [laws_eqIntS.l0]
    rw [if_pos hlt, if_pos (by omega), if_pos hlt, if_pos trivial, w64 (by omega) (by omega)]
    exact ih (i + 1) (by omega) K (by omega)
theorem eqIntS_at (xs : List Int) (hx : xs.length ≤ 100000000) (K : Nat) (hK : 100000000 < K) : laws_eqIntS.f K xs xs = some true := by
  unfold laws_eqIntS.f
  rw [if_pos rfl]
  exact eqIntS_l0 xs (by omega) xs.length 0 (by omega) K (by omega)
theorem take_set_succ {α : Type} (xs : List α) (i : Nat) (v : α) (h : i < xs.length) : (xs.set i v).take (i + 1) = xs.take i ++ [v] := by
  rw [List.take_succ_eq_append_getElem (by simpa using h)]
  simp [List.take_set_of_le]
theorem toIntS_l0 (xs : List Int) (hx : xs.length ≤ 100000000) : ∀ (d i : Nat) (ys : List Int), i + d = xs.length → ys.length = xs.length → ys.take i = xs.take i → ∀ K, d < K → laws_toIntS.l0 K xs ys i = some xs := by
  intro d
  induction d with
  | zero =>
    intro i ys hi hl ht K hK
    obtain ⟨K, rfl⟩ : ∃ k, K = k + 1 := ⟨K - 1, by omega⟩
    simp only [laws_toIntS.l0]
    rw [if_neg (by omega)]
    rw [List.take_of_length_le (by omega), List.take_of_length_le (by omega)] at ht
    rw [ht]
  | succ d ih =>
    intro i ys hi hl ht K hK
    obtain ⟨K, rfl⟩ : ∃ k, K = k + 1 := ⟨K - 1, by omega⟩
    simp only [laws_toIntS.l0]
    rw [if_pos (by omega), if_pos (by omega), if_pos (by omega), w64 (by omega) (by omega)]
    refine ih (i + 1) _ (by omega) (by simpa using hl) ?_ K (by omega)
    rw [Int.toNat_natCast, take_set_succ _ _ _ (by omega), ht, List.take_succ_eq_append_getElem (by omega)]
    have e : rd xs (i : Int) = xs[i]'(by omega) := by
      have hi' : i < xs.length := by omega
      simp [rd, List.getD, hi']
    rw [e]
theorem toIntS_at (xs : List Int) (hx : xs.length ≤ 100000000) (K : Nat) (hK : 100000000 < K) : laws_toIntS.f K xs = some xs := by
  unfold laws_toIntS.f
  rw [if_pos (by omega), if_pos (by omega)]
  refine toIntS_l0 xs hx xs.length 0 (List.replicate ((xs.length : Int)).toNat 0) (by omega) (by simp) rfl K (by omega)
/-- What a list of steps is. -/
def goodS (L : List Int) : Bool := decide (L.length ≤ 12) && L.all (fun x => decide (2 ≤ x ∧ x ≤ 400))
theorem areAny_at : ∀ L : List Int, impl_areSteps.any L = some (!(L.all fun x => decide (2 ≤ x ∧ x ≤ 400)))
  | [] => rfl
  | x :: xs => by
    simp only [impl_areSteps.any, List.all_cons]
    rw [areAny_at xs]
    by_cases h : 2 ≤ x ∧ x ≤ 400
    · rw [decide_eq_true h, if_neg (by simp; omega)]; simp
    · rw [decide_eq_false h, if_pos (by simp; omega)]; simp
theorem areSteps_at (L : List Int) : impl_areSteps.f L = some (goodS L) := by
  unfold impl_areSteps.f goodS
  rw [areAny_at]
  by_cases h : L.length ≤ 12
  · rw [if_pos (by omega)]; simp [h]
  · rw [if_neg (by omega)]; simp [h]
theorem l1All_l0 (L : List Int) (hL : L.length ≤ 12) : ∀ (d i : Nat), i + d = L.length → ∀ K, d < K → spec_l1All.l0 K 2 400 L L.length i = some ((L.drop i).all fun x => decide (2 ≤ x ∧ x ≤ 400)) := by
  intro d
  induction d with
  | zero =>
    intro i hi K hK
    obtain ⟨K, rfl⟩ : ∃ k, K = k + 1 := ⟨K - 1, by omega⟩
    simp only [spec_l1All.l0]
    rw [if_neg (by omega), List.drop_of_length_le (by omega)]
    rfl
  | succ d ih =>
    intro i hi K hK
    obtain ⟨K, rfl⟩ : ∃ k, K = k + 1 := ⟨K - 1, by omega⟩
    have hlt : (i : Int) < (L.length : Int) := by omega
    have h := ih (i + 1) (by omega) K (by omega)
    simp only [spec_l1All.l0]
    rw [if_pos hlt, if_pos (by omega), if_pos hlt, l1In_at, w64 (by omega) (by omega), drop_rd L i (by omega)]
    simp only [Option.bind_some, List.all_cons]
    rw [show (i : Int) + 1 = ((i + 1 : Nat) : Int) from by omega, h]
    by_cases h2 : 2 ≤ rd L (i : Int) ∧ rd L (i : Int) ≤ 400
    · rw [decide_eq_true h2, if_pos rfl]; simp
    · rw [decide_eq_false h2, if_neg (by simp)]; simp
theorem cnGood_at (L : List Int) (K : Nat) (hK : 100 < K) : spec_cnGood.f K L = some (goodS L) := by
  unfold spec_cnGood.f spec_l1All.f goodS
  by_cases h : L.length ≤ 12
  · have h0 := l1All_l0 L h L.length 0 (by omega) K (by omega)
    have h0' : spec_l1All.l0 K 2 400 L L.length 0 = _ := h0
    rw [if_pos (by omega), h0']; simp [h]
  · rw [if_neg (by omega)]; simp [h]
theorem goodS_len {L : List Int} (h : goodS L = true) : L.length ≤ 12 := by
  unfold goodS at h
  simp at h
  exact h.1
theorem goodS_mem {L : List Int} (h : goodS L = true) (x : Int) (hx : x ∈ L) : 2 ≤ x ∧ x ≤ 400 := by
  unfold goodS at h
  simp at h
  exact h.2 x hx
theorem both (L : List Int) : ∃ v, spec_IsStepList.f 1000000000 L = some v ∧ impl_IsStepList.f L = some v :=
  ⟨goodS L, by unfold spec_IsStepList.f; rw [cnGood_at L _ (by omega)]; rfl, by unfold impl_IsStepList.f; rw [areSteps_at]; rfl⟩

theorem done : laws_FnExactIsStepList.Pure := by
  intro l0  hm hb hw
  by_cases hl : (l0.length : Int) > 1048576
  · refine ⟨1, ?_⟩
    unfold laws_FnExactIsStepList.f
    rw [if_pos hl]
  · refine ⟨1000000000, ?_⟩
    obtain ⟨v, hs, hi⟩ := both l0 
    have hT1 := toIntS_at l0 (by omega) 1000000000 (by omega)
    have hT2 := toIntS_at l0 (by omega) 999999999 (by omega)
    have hE1 := eqIntS_at l0 (by omega) 1000000000 (by omega)
    have hE2 := eqIntS_at l0 (by omega) 999999999 (by omega)
    unfold laws_FnExactIsStepList.f
    rw [if_neg hl]
    simp only [Option.bind_some, hT1, hs, hi, hT2, hE1, hE2]
    simp
end OwnFnExactIsStepList
theorem FnExactIsStepList : laws_FnExactIsStepList.Pure := OwnFnExactIsStepList.done
end Go.Proofs.Ytapcnidappknnaa.Pure
