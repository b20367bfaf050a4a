/- RankBehind of the program and of the reference answer alike at all steps and numbers: no condition. -/
import Derived.Test.YtapcnidappknnaaPFnExactRankBehindx2
namespace Go.Proofs.Ytapcnidappknnaa.Pure
open Go.RowKit Go.Proofs.Ytapcnidappknnaa.PFnExactRankBehind Go.Proofs.YtapcnidappknnaaW.PrintWords Go.Proofs.YtapcnidappknnaaW.PrintLast Go.Proofs.YtapcnidappknnaaW.PrintMore
set_option linter.unusedVariables false
set_option linter.unusedSimpArgs false
namespace OwnFnExactRankBehind
theorem w64 {x : Int} (h0 : -9223372036854775808 ≤ x) (h1 : x ≤ 9223372036854775807) : wrap64 x = x := by unfold wrap64; omega
theorem l1In_at (n a b : Int) : spec_l1In.f n a b = some (decide (a ≤ n ∧ n ≤ b)) := by
  unfold spec_l1In.f
  by_cases h : a ≤ n
  · rw [if_pos (by omega)]; simp [h]
  · rw [if_neg (by omega)]; simp [h]
theorem drop_rd (xs : List Int) (i : Nat) (h : i < xs.length) : xs.drop i = rd xs (i : Int) :: xs.drop (i + 1) := by
  rw [List.drop_eq_getElem_cons h]
  simp [rd, List.getD, h]
theorem eqIntS_l0 (xs : List Int) (hx : xs.length ≤ 1000000000000) : ∀ (d i : Nat), i + d = xs.length → ∀ K, d < K → laws_eqIntS.l0 K xs xs i = some true := by
  intro d
  induction d with
  | zero =>
    intro i hi K hK
    obtain ⟨K, rfl⟩ : ∃ k, K = k + 1 := ⟨K - 1, by omega⟩
    simp only [laws_eqIntS.l0]
    rw [if_neg (by omega)]
  | succ d ih =>
    intro i hi K hK
    obtain ⟨K, rfl⟩ : ∃ k, K = k + 1 := ⟨K - 1, by omega⟩
    have hlt : (i : Int) < (xs.length : Int) := by omega
    simp only [laws_eqIntS.l0]
    rw [if_pos hlt, if_pos (by omega), if_pos hlt, if_pos trivial, w64 (by omega) (by omega)]
    exact ih (i + 1) (by omega) K (by omega)
theorem eqIntS_at (xs : List Int) (hx : xs.length ≤ 100000000) (K : Nat) (hK : 100000000 < K) : laws_eqIntS.f K xs xs = some true := by
  unfold laws_eqIntS.f
  rw [if_pos rfl]
  exact eqIntS_l0 xs (by omega) xs.length 0 (by omega) K (by omega)
theorem take_set_succ {α : Type} (xs : List α) (i : Nat) (v : α) (h : i < xs.length) : (xs.set i v).take (i + 1) = xs.take i ++ [v] := by
  rw [List.take_succ_eq_append_getElem (by simpa using h)]
  simp [List.take_set_of_le]
theorem toIntS_l0 (xs : List Int) (hx : xs.length ≤ 100000000) : ∀ (d i : Nat) (ys : List Int), i + d = xs.length → ys.length = xs.length → ys.take i = xs.take i → ∀ K, d < K → laws_toIntS.l0 K xs ys i = some xs := by
  intro d
  induction d with
  | zero =>
    intro i ys hi hl ht K hK
    obtain ⟨K, rfl⟩ : ∃ k, K = k + 1 := ⟨K - 1, by omega⟩
    simp only [laws_toIntS.l0]
    rw [if_neg (by omega)]
    rw [List.take_of_length_le (by omega), List.take_of_length_le (by omega)] at ht
    rw [ht]
  | succ d ih =>
    intro i ys hi hl ht K hK
    obtain ⟨K, rfl⟩ : ∃ k, K = k + 1 := ⟨K - 1, by omega⟩
    simp only [laws_toIntS.l0]
    rw [if_pos (by omega), if_pos (by omega), if_pos (by omega), w64 (by omega) (by omega)]
    refine ih (i + 1) _ (by omega) (by simpa using hl) ?_ K (by omega)
    rw [Int.toNat_natCast, take_set_succ _ _ _ (by omega), ht, List.take_succ_eq_append_getElem (by omega)]
    have e : rd xs (i : Int) = xs[i]'(by omega) := by
      have hi' : i < xs.length := by omega
      simp [rd, List.getD, hi']
    rw [e]
theorem toIntS_at (xs : List Int) (hx : xs.length ≤ 100000000) (K : Nat) (hK : 100000000 < K) : laws_toIntS.f K xs = some xs := by
  unfold laws_toIntS.f
  rw [if_pos (by omega), if_pos (by omega)]
  refine toIntS_l0 xs hx xs.length 0 (List.replicate ((xs.length : Int)).toNat 0) (by omega) (by simp) rfl K (by omega)
/-- What a list of steps is. -/
def goodS (L : List Int) : Bool := decide (L.length ≤ 12) && L.all (fun x => decide (2 ≤ x ∧ x ≤ 400))
theorem areAny_at : ∀ L : List Int, impl_areSteps.any L = some (!(L.all fun x => decide (2 ≤ x ∧ x ≤ 400)))
  | [] => rfl
  | x :: xs => by
    simp only [impl_areSteps.any, List.all_cons]
    rw [areAny_at xs]
    by_cases h : 2 ≤ x ∧ x ≤ 400
    · rw [decide_eq_true h, if_neg (by simp; omega)]; simp
    · rw [decide_eq_false h, if_pos (by simp; omega)]; simp
theorem areSteps_at (L : List Int) : impl_areSteps.f L = some (goodS L) := by
  unfold impl_areSteps.f goodS
  rw [areAny_at]
  by_cases h : L.length ≤ 12
  · rw [if_pos (by omega)]; simp [h]
  · rw [if_neg (by omega)]; simp [h]
theorem l1All_l0 (L : List Int) (hL : L.length ≤ 12) : ∀ (d i : Nat), i + d = L.length → ∀ K, d < K → spec_l1All.l0 K 2 400 L L.length i = some ((L.drop i).all fun x => decide (2 ≤ x ∧ x ≤ 400)) := by
  intro d
  induction d with
  | zero =>
    intro i hi K hK
    obtain ⟨K, rfl⟩ : ∃ k, K = k + 1 := ⟨K - 1, by omega⟩
    simp only [spec_l1All.l0]
    rw [if_neg (by omega), List.drop_of_length_le (by omega)]
    rfl
  | succ d ih =>
    intro i hi K hK
    obtain ⟨K, rfl⟩ : ∃ k, K = k + 1 := ⟨K - 1, by omega⟩
    have hlt : (i : Int) < (L.length : Int) := by omega
    have h := ih (i + 1) (by omega) K (by omega)
    simp only [spec_l1All.l0]
    rw [if_pos hlt, if_pos (by omega), if_pos hlt, l1In_at, w64 (by omega) (by omega), drop_rd L i (by omega)]
    simp only [Option.bind_some, List.all_cons]
    rw [show (i : Int) + 1 = ((i + 1 : Nat) : Int) from by omega, h]
    by_cases h2 : 2 ≤ rd L (i : Int) ∧ rd L (i : Int) ≤ 400
    · rw [decide_eq_true h2, if_pos rfl]; simp
    · rw [decide_eq_false h2, if_neg (by simp)]; simp
theorem cnGood_at (L : List Int) (K : Nat) (hK : 100 < K) : spec_cnGood.f K L = some (goodS L) := by
  unfold spec_cnGood.f spec_l1All.f goodS
  by_cases h : L.length ≤ 12
  · have h0 := l1All_l0 L h L.length 0 (by omega) K (by omega)
    have h0' : spec_l1All.l0 K 2 400 L L.length 0 = _ := h0
    rw [if_pos (by omega), h0']; simp [h]
  · rw [if_neg (by omega)]; simp [h]
theorem goodS_len {L : List Int} (h : goodS L = true) : L.length ≤ 12 := by
  unfold goodS at h
  simp at h
  exact h.1
theorem goodS_mem {L : List Int} (h : goodS L = true) (x : Int) (hx : x ∈ L) : 2 ≤ x ∧ x ≤ 400 := by
  unfold goodS at h
  simp at h
  exact h.2 x hx
theorem rd_mem (xs : List Int) (i : Nat) (h : i < xs.length) : rd xs (i : Int) ∈ xs := by
  simp [rd, List.getD, h]
theorem fall_l0 (L : List Int) (hg : goodS L = true) : ∀ (d i : Nat) (n : Int), i + d = L.length → 1 ≤ n → n ≤ 10000 →
    ∃ a b, -1 ≤ a ∧ ∀ K, d < K → spec_cnFall.l0 K n L L.length i = some (a, b) ∧ impl_RankBehind.l0 K n L L.length i = some (if a ≥ 0 then (0, false) else (b, true)) := by
  have hl := goodS_len hg
  intro d
  induction d with
  | zero =>
    intro i n hi h1 h2
    refine ⟨-1, n - 1, by omega, fun K hK => ?_⟩
    obtain ⟨K, rfl⟩ : ∃ k, K = k + 1 := ⟨K - 1, by omega⟩
    have hc : ¬ (i : Int) < (L.length : Int) := by omega
    simp only [spec_cnFall.l0, impl_RankBehind.l0]
    rw [if_neg hc, if_neg hc]
    refine ⟨?_, ?_⟩
    · rw [w64 (x := n - 1) (by omega) (by omega)]
    · first
      | (rw [w64 (x := n - 1) (by omega) (by omega)]; simp; done)
      | (simp; done)
  | succ d ih =>
    intro i n hi h1 h2
    have hm := goodS_mem hg _ (rd_mem L i (by omega))
    obtain ⟨s, hs⟩ : ∃ s, s = rd L (i : Int) := ⟨_, rfl⟩
    rw [← hs] at hm
    have hlt : (i : Int) < (L.length : Int) := by omega
    have hi0 : (0 : Int) ≤ (i : Int) := by omega
    have hs0 : ¬ s = 0 := by omega
    by_cases hz : Int.tmod n s = 0
    · refine ⟨i, 0, by omega, fun K hK => ?_⟩
      obtain ⟨K, rfl⟩ : ∃ k, K = k + 1 := ⟨K - 1, by omega⟩
      simp only [spec_cnFall.l0, impl_RankBehind.l0]
      rw [← hs, if_pos hlt, if_pos hlt, if_pos hi0, if_pos hi0, if_pos hlt, if_pos hlt, if_neg hs0, if_neg hs0, if_pos hz, if_pos hz]
      have h5 : ¬ ((i : Int) < 0) := by omega
      have h6 : (i : Int) ≥ 0 := by omega
      exact ⟨rfl, by simp [h5, h6]⟩
    · have hq : Int.tdiv n s = n / s := Int.tdiv_eq_ediv_of_nonneg (by omega)
      have hq0 : 0 ≤ n / s := Int.ediv_nonneg (by omega) (by omega)
      have hq1 : n / s < n := Int.ediv_lt_self_of_pos_of_ne_one (by omega) (by omega)
      obtain ⟨q, hqe⟩ : ∃ q, q = n / s := ⟨_, rfl⟩
      rw [← hqe] at hq hq0 hq1
      obtain ⟨a, b, ha, hv⟩ := ih (i + 1) (n - q) (by omega) (by omega) (by omega)
      refine ⟨a, b, ha, fun K hK => ?_⟩
      obtain ⟨K, rfl⟩ : ∃ k, K = k + 1 := ⟨K - 1, by omega⟩
      have h := hv K (by omega)
      rw [show ((i + 1 : Nat) : Int) = (i : Int) + 1 from by omega] at h
      simp only [spec_cnFall.l0, impl_RankBehind.l0]
      rw [← hs, if_pos hlt, if_pos hlt, if_pos hi0, if_pos hi0, if_pos hlt, if_pos hlt, if_neg hs0, if_neg hs0, if_neg hz, if_neg hz, hq, w64 (x := q) (by omega) (by omega), w64 (x := n - q) (by omega) (by omega), w64 (x := (i : Int) + 1) (by omega) (by omega)]
      exact h
theorem cnNumber_at (n : Int) : spec_cnNumber.f n = some (decide (1 ≤ n ∧ n ≤ 10000)) := by
  unfold spec_cnNumber.f; rw [l1In_at]; rfl
theorem both (L : List Int) (n : Int) : ∃ v, spec_RankBehind.f 1000000000 L n = some v ∧ impl_RankBehind.f 1000000000 L n = some v := by
  unfold spec_RankBehind.f impl_RankBehind.f
  rw [cnGood_at L _ (by omega), areSteps_at, cnNumber_at]
  simp only [Option.bind_some, spec_RankBehind.j0, impl_RankBehind.j0, spec_cnFall.f]
  by_cases hg : goodS L = true
  · have hl := goodS_len hg
    by_cases hr : 1 ≤ n ∧ n ≤ 10000
    · obtain ⟨a, b, ha, hv⟩ := fall_l0 L hg L.length 0 n (by omega) hr.1 hr.2
      have h := hv 999999999 (by omega)
      have h1 : spec_cnFall.l0 999999999 n L L.length 0 = _ := h.1
      have h2 : impl_RankBehind.l0 999999999 n L L.length 0 = _ := h.2
      refine ⟨if a ≥ 0 then (0, false) else (b, true), ?_, ?_⟩
      · rw [hg, if_pos rfl, decide_eq_true hr, h1, if_neg (show ¬ ((!true) = true) by simp)]
        simp only [Option.bind_some]
        split <;> rfl
      · rw [hg, if_pos rfl, if_neg (show ¬ n < 1 by omega), decide_eq_false (show ¬ n > 10000 by omega), if_neg (show ¬ (false = true) by simp), h2]
    · refine ⟨(0, false), by simp [hg, hr], ?_⟩
      by_cases h1 : n < 1
      · simp [hg, h1]
      · have h2 : n > 10000 := by omega
        simp [hg, h1, h2]
  · exact ⟨(0, false), by simp [hg], by simp [hg]⟩

theorem done : laws_FnExactRankBehind.Pure := by
  intro l0 n hm hb hw _
  by_cases hl : (l0.length : Int) > 1048576
  · refine ⟨1, ?_⟩
    unfold laws_FnExactRankBehind.f
    rw [if_pos hl]
  · refine ⟨1000000000, ?_⟩
    obtain ⟨v, hs, hi⟩ := both l0 n
    have hT1 := toIntS_at l0 (by omega) 1000000000 (by omega)
    have hT2 := toIntS_at l0 (by omega) 999999999 (by omega)
    have hE1 := eqIntS_at l0 (by omega) 1000000000 (by omega)
    have hE2 := eqIntS_at l0 (by omega) 999999999 (by omega)
    unfold laws_FnExactRankBehind.f
    rw [if_neg hl]
    simp only [Option.bind_some, hT1, hs, hi, laws_FnExactRankBehind.j0, hT2, hE1, hE2]
    simp
end OwnFnExactRankBehind
theorem FnExactRankBehind : laws_FnExactRankBehind.Pure := OwnFnExactRankBehind.done
end Go.Proofs.Ytapcnidappknnaa.Pure
