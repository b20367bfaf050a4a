/- NumberOfRank of the program and of the reference answer alike at all steps and ranks: no condition. -/
import Derived.Test.YtapcnidappknnaaPFnExactNumberOfRankx2
namespace Go.Proofs.Ytapcnidappknnaa.Pure
open Go.RowKit Go.Proofs.Ytapcnidappknnaa.PFnExactNumberOfRank Go.Proofs.YtapcnidappknnaaW.PrintWords Go.Proofs.YtapcnidappknnaaW.PrintLast Go.Proofs.YtapcnidappknnaaW.PrintMore
set_option linter.unusedVariables false
set_option linter.unusedSimpArgs false
namespace OwnFnExactNumberOfRank
theorem w64 {x : Int} (h0 : -9223372036854775808 ≤ x) (h1 : x ≤ 9223372036854775807) : wrap64 x = x := by unfold wrap64; omega
theorem l1In_at (n a b : Int) : spec_l1In.f n a b = some (decide (a ≤ n ∧ n ≤ b)) := by
  unfold spec_l1In.f
  by_cases h : a ≤ n
  · rw [if_pos (by omega)]; simp [h]
  · rw [if_neg (by omega)]; simp [h]
theorem drop_rd (xs : List Int) (i : Nat) (h : i < xs.length) : xs.drop i = rd xs (i : Int) :: xs.drop (i + 1) := by
  rw [List.drop_eq_getElem_cons h]
  simp [rd, List.getD, h]
theorem eqIntS_l0 (xs : List Int) (hx : xs.length ≤ 1000000000000) : ∀ (d i : Nat), i + d = xs.length → ∀ K, d < K → laws_eqIntS.l0 K xs xs i = some true := by
  intro d
  induction d with
  | zero =>
    intro i hi K hK
    obtain ⟨K, rfl⟩ : ∃ k, K = k + 1 := ⟨K - 1, by omega⟩
    simp only [laws_eqIntS.l0]
    rw [if_neg (by omega)]
  | succ d ih =>
    intro i hi K hK
    obtain ⟨K, rfl⟩ : ∃ k, K = k + 1 := ⟨K - 1, by omega⟩
    have hlt : (i : Int) < (xs.length : Int) := by omega
    simp only [laws_eqIntS.l0]
    rw [if_pos hlt, if_pos (by omega), if_pos hlt, if_pos trivial, w64 (by omega) (by omega)]
    exact ih (i + 1) (by omega) K (by omega)
theorem eqIntS_at (xs : List Int) (hx : xs.length ≤ 100000000) (K : Nat) (hK : 100000000 < K) : laws_eqIntS.f K xs xs = some true := by
  unfold laws_eqIntS.f
  rw [if_pos rfl]
  exact eqIntS_l0 xs (by omega) xs.length 0 (by omega) K (by omega)
theorem take_set_succ {α : Type} (xs : List α) (i : Nat) (v : α) (h : i < xs.length) : (xs.set i v).take (i + 1) = xs.take i ++ [v] := by
  rw [List.take_succ_eq_append_getElem (by simpa using h)]
  simp [List.take_set_of_le]
theorem toIntS_l0 (xs : List Int) (hx : xs.length ≤ 100000000) : ∀ (d i : Nat) (ys : List Int), i + d = xs.length → ys.length = xs.length → ys.take i = xs.take i → ∀ K, d < K → laws_toIntS.l0 K xs ys i = some xs := by
  intro d
  induction d with
  | zero =>
    intro i ys hi hl ht K hK
    obtain ⟨K, rfl⟩ : ∃ k, K = k + 1 := ⟨K - 1, by omega⟩
    simp only [laws_toIntS.l0]
    rw [if_neg (by omega)]
    rw [List.take_of_length_le (by omega), List.take_of_length_le (by omega)] at ht
    rw [ht]
  | succ d ih =>
    intro i ys hi hl ht K hK
    obtain ⟨K, rfl⟩ : ∃ k, K = k + 1 := ⟨K - 1, by omega⟩
    simp only [laws_toIntS.l0]
    rw [if_pos (by omega), if_pos (by omega), if_pos (by omega), w64 (by omega) (by omega)]
    refine ih (i + 1) _ (by omega) (by simpa using hl) ?_ K (by omega)
    rw [Int.toNat_natCast, take_set_succ _ _ _ (by omega), ht, List.take_succ_eq_append_getElem (by omega)]
    have e : rd xs (i : Int) = xs[i]'(by omega) := by
      have hi' : i < xs.length := by omega
      simp [rd, List.getD, hi']
    rw [e]
theorem toIntS_at (xs : List Int) (hx : xs.length ≤ 100000000) (K : Nat) (hK : 100000000 < K) : laws_toIntS.f K xs = some xs := by
  unfold laws_toIntS.f
  rw [if_pos (by omega), if_pos (by omega)]
  refine toIntS_l0 xs hx xs.length 0 (List.replicate ((xs.length : Int)).toNat 0) (by omega) (by simp) rfl K (by omega)
/-- What a list of steps is. -/
def goodS (L : List Int) : Bool := decide (L.length ≤ 12) && L.all (fun x => decide (2 ≤ x ∧ x ≤ 400))
theorem areAny_at : ∀ L : List Int, impl_areSteps.any L = some (!(L.all fun x => decide (2 ≤ x ∧ x ≤ 400)))
  | [] => rfl
  | x :: xs => by
    simp only [impl_areSteps.any, List.all_cons]
    rw [areAny_at xs]
    by_cases h : 2 ≤ x ∧ x ≤ 400
    · rw [decide_eq_true h, if_neg (by simp; omega)]; simp
    · rw [decide_eq_false h, if_pos (by simp; omega)]; simp
theorem areSteps_at (L : List Int) : impl_areSteps.f L = some (goodS L) := by
  unfold impl_areSteps.f goodS
  rw [areAny_at]
  by_cases h : L.length ≤ 12
  · rw [if_pos (by omega)]; simp [h]
  · rw [if_neg (by omega)]; simp [h]
theorem l1All_l0 (L : List Int) (hL : L.length ≤ 12) : ∀ (d i : Nat), i + d = L.length → ∀ K, d < K → spec_l1All.l0 K 2 400 L L.length i = some ((L.drop i).all fun x => decide (2 ≤ x ∧ x ≤ 400)) := by
  intro d
  induction d with
  | zero =>
    intro i hi K hK
    obtain ⟨K, rfl⟩ : ∃ k, K = k + 1 := ⟨K - 1, by omega⟩
    simp only [spec_l1All.l0]
    rw [if_neg (by omega), List.drop_of_length_le (by omega)]
    rfl
  | succ d ih =>
    intro i hi K hK
    obtain ⟨K, rfl⟩ : ∃ k, K = k + 1 := ⟨K - 1, by omega⟩
    have hlt : (i : Int) < (L.length : Int) := by omega
    have h := ih (i + 1) (by omega) K (by omega)
    simp only [spec_l1All.l0]
    rw [if_pos hlt, if_pos (by omega), if_pos hlt, l1In_at, w64 (by omega) (by omega), drop_rd L i (by omega)]
    simp only [Option.bind_some, List.all_cons]
    rw [show (i : Int) + 1 = ((i + 1 : Nat) : Int) from by omega, h]
    by_cases h2 : 2 ≤ rd L (i : Int) ∧ rd L (i : Int) ≤ 400
    · rw [decide_eq_true h2, if_pos rfl]; simp
    · rw [decide_eq_false h2, if_neg (by simp)]; simp
theorem cnGood_at (L : List Int) (K : Nat) (hK : 100 < K) : spec_cnGood.f K L = some (goodS L) := by
  unfold spec_cnGood.f spec_l1All.f goodS
  by_cases h : L.length ≤ 12
  · have h0 := l1All_l0 L h L.length 0 (by omega) K (by omega)
    have h0' : spec_l1All.l0 K 2 400 L L.length 0 = _ := h0
    rw [if_pos (by omega), h0']; simp [h]
  · rw [if_neg (by omega)]; simp [h]
theorem goodS_len {L : List Int} (h : goodS L = true) : L.length ≤ 12 := by
  unfold goodS at h
  simp at h
  exact h.1
theorem goodS_mem {L : List Int} (h : goodS L = true) (x : Int) (hx : x ∈ L) : 2 ≤ x ∧ x ≤ 400 := by
  unfold goodS at h
  simp at h
  exact h.2 x hx
theorem rd_mem (xs : List Int) (i : Nat) (h : i < xs.length) : rd xs (i : Int) ∈ xs := by
  simp [rd, List.getD, h]
def pw : Nat → Int
  | 0 => 1
  | d + 1 => 2 * pw d
theorem pw_pos : ∀ d, 1 ≤ pw d
  | 0 => by simp [pw]
  | d + 1 => by have := pw_pos d; unfold pw; omega
theorem pw_12 : pw 12 = 4096 := by decide
theorem pw_le : ∀ (d e : Nat), d ≤ e → pw d ≤ pw e
  | d, 0, h => by obtain rfl : d = 0 := by omega
                  exact Int.le_refl _
  | d, e + 1, h => by
    by_cases h1 : d = e + 1
    · subst h1; exact Int.le_refl _
    · have h2 := pw_le d e (by omega)
      have h3 := pw_pos e
      show pw d ≤ 2 * pw e
      omega
theorem rank_l0 (L : List Int) (hg : goodS L = true) : ∀ (d : Nat) (x : Int), d ≤ L.length → 1 ≤ x → x * pw d ≤ 5000000 →
    ∃ v, ∀ K, d < K → spec_NumberOfRank.l0 K L x ((d : Int) - 1) = some v ∧ impl_NumberOfRank.l0 K L x ((d : Int) - 1) = some v := by
  have hl := goodS_len hg
  intro d
  induction d with
  | zero =>
    intro x hd hx hb
    refine ⟨(x, true), fun K hK => ?_⟩
    obtain ⟨K, rfl⟩ : ∃ k, K = k + 1 := ⟨K - 1, by omega⟩
    have hc : ¬ (((0 : Nat) : Int) - 1 ≥ 0) := by omega
    simp only [pw] at hb
    simp only [spec_NumberOfRank.l0, impl_NumberOfRank.l0]
    rw [if_neg hc, if_neg hc, if_neg (by omega)]
    exact ⟨rfl, rfl⟩
  | succ d ih =>
    intro x hd hx hb
    have e0 : ((d + 1 : Nat) : Int) - 1 = (d : Int) := by omega
    have hm := goodS_mem hg _ (rd_mem L d (by omega))
    have hp := pw_pos d
    obtain ⟨s, hs⟩ : ∃ s, s = rd L (d : Int) := ⟨_, rfl⟩
    rw [← hs] at hm
    have hxb : x ≤ 5000000 := by
      have := Int.mul_le_mul_of_nonneg_left (show 1 ≤ pw (d + 1) from pw_pos _) (by omega : 0 ≤ x)
      omega
    have hq : Int.tdiv (x - 1) (s - 1) = (x - 1) / (s - 1) := Int.tdiv_eq_ediv_of_nonneg (by omega)
    have hq0 : 0 ≤ (x - 1) / (s - 1) := Int.ediv_nonneg (by omega) (by omega)
    have hq1 : (x - 1) / (s - 1) ≤ x - 1 := Int.ediv_le_self _ (by omega)
    obtain ⟨q, hqe⟩ : ∃ q, q = (x - 1) / (s - 1) := ⟨_, rfl⟩
    rw [← hqe] at hq hq0 hq1
    have hb' : (x + q) * pw d ≤ 5000000 := by
      have h1 := Int.mul_le_mul_of_nonneg_right (show x + q ≤ 2 * x by omega) (by omega : 0 ≤ pw d)
      have h2 : 2 * x * pw d = x * pw (d + 1) := by
        show 2 * x * pw d = x * (2 * pw d)
        rw [Int.mul_comm 2 x, Int.mul_assoc]
      omega
    obtain ⟨v, hv⟩ := ih (x + q) (by omega) (by omega) hb'
    refine ⟨v, fun K hK => ?_⟩
    obtain ⟨K, rfl⟩ : ∃ k, K = k + 1 := ⟨K - 1, by omega⟩
    have h := hv K (by omega)
    have hlt : (d : Int) < (L.length : Int) := by omega
    have hd0 : (d : Int) ≥ 0 := by omega
    have hd1 : (0 : Int) ≤ (d : Int) := by omega
    have hs1 : ¬ (s - 1 = 0) := by omega
    have hbig : ¬ (x + q > 1000000000000) := by omega
    simp only [spec_NumberOfRank.l0, impl_NumberOfRank.l0]
    rw [e0, ← hs, if_pos hd0, if_pos hd0, if_pos hd1, if_pos hd1, if_pos hlt, if_pos hlt, w64 (x := s - 1) (by omega) (by omega), if_neg hs1, if_neg hs1, w64 (x := x - 1) (by omega) (by omega), hq, w64 (x := q) (by omega) (by omega), w64 (x := x + q) (by omega) (by omega), if_neg hbig, w64 (x := (d : Int) - 1) (by omega) (by omega)]
    exact h
theorem both (L : List Int) (r : Int) : ∃ v, spec_NumberOfRank.f 1000000000 L r = some v ∧ impl_NumberOfRank.f 1000000000 L r = some v := by
  unfold spec_NumberOfRank.f impl_NumberOfRank.f
  rw [cnGood_at L _ (by omega), areSteps_at, l1In_at]
  simp only [Option.bind_some, spec_NumberOfRank.j0, impl_NumberOfRank.j0]
  by_cases hg : goodS L = true
  · have hl := goodS_len hg
    by_cases hr : 0 ≤ r ∧ r ≤ 1000
    · have hp := pw_le L.length 12 hl
      rw [pw_12] at hp
      have hb : (r + 1) * pw L.length ≤ 5000000 := by
        have h1 := Int.mul_le_mul (show r + 1 ≤ 1001 by omega) hp (by have := pw_pos L.length; omega) (by omega)
        omega
      obtain ⟨v, hv⟩ := rank_l0 L hg L.length (r + 1) (by omega) (by omega) hb
      have h := hv 999999999 (by omega)
      refine ⟨v, ?_, ?_⟩
      · rw [hg, if_pos rfl, decide_eq_true hr, if_neg (show ¬ ((!true) = true) by simp), w64 (x := r + 1) (by omega) (by omega), w64 (x := (L.length : Int) - 1) (by omega) (by omega)]; exact h.1
      · rw [hg, if_pos rfl, if_neg (show ¬ r < 0 by omega), decide_eq_false (show ¬ r > 1000 by omega), if_neg (show ¬ (false = true) by simp), w64 (x := r + 1) (by omega) (by omega), w64 (x := (L.length : Int) - 1) (by omega) (by omega)]; exact h.2
    · refine ⟨(0, false), by simp [hg, hr], ?_⟩
      by_cases h1 : r < 0
      · simp [hg, h1]
      · have h2 : r > 1000 := by omega
        simp [hg, h1, h2]
  · exact ⟨(0, false), by simp [hg], by simp [hg]⟩

theorem done : laws_FnExactNumberOfRank.Pure := by
  intro l0 r hm hb hw _
  by_cases hl : (l0.length : Int) > 1048576
  · refine ⟨1, ?_⟩
    unfold laws_FnExactNumberOfRank.f
    rw [if_pos hl]
  · refine ⟨1000000000, ?_⟩
    obtain ⟨v, hs, hi⟩ := both l0 r
    have hT1 := toIntS_at l0 (by omega) 1000000000 (by omega)
    have hT2 := toIntS_at l0 (by omega) 999999999 (by omega)
    have hE1 := eqIntS_at l0 (by omega) 1000000000 (by omega)
    have hE2 := eqIntS_at l0 (by omega) 999999999 (by omega)
    unfold laws_FnExactNumberOfRank.f
    rw [if_neg hl]
    simp only [Option.bind_some, hT1, hs, hi, laws_FnExactNumberOfRank.j0, hT2, hE1, hE2]
    simp
end OwnFnExactNumberOfRank
theorem FnExactNumberOfRank : laws_FnExactNumberOfRank.Pure := OwnFnExactNumberOfRank.done
end Go.Proofs.Ytapcnidappknnaa.Pure
