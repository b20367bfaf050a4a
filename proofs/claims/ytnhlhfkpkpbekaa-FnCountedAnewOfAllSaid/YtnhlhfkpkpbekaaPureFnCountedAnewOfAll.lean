/- What is left by counting is told by ranks, each number falls by one step or is left, and ranks lead back to numbers, whatever is given: no condition. -/
import Derived.Test.YtnhlhfkpkpbekaaPFnCountedAnewOfAllx6
namespace Go.Proofs.Ytnhlhfkpkpbekaa.Pure
open Go.RowKit Go.Proofs.Ytnhlhfkpkpbekaa.PFnCountedAnewOfAll Go.Proofs.YtnhlhfkpkpbekaaW.PrintWords Go.Proofs.YtnhlhfkpkpbekaaW.PrintLast Go.Proofs.YtnhlhfkpkpbekaaW.PrintMore
set_option linter.unusedVariables false
set_option linter.unusedSimpArgs false
namespace OwnFnCountedAnewOfAll
theorem w64 {x : Int} (h0 : -9223372036854775808 ≤ x) (h1 : x ≤ 9223372036854775807) : wrap64 x = x := by unfold wrap64; omega
theorem l1In_at (n a b : Int) : spec_l1In.f n a b = some (decide (a ≤ n ∧ n ≤ b)) := by
  unfold spec_l1In.f
  by_cases h : a ≤ n
  · rw [if_pos (by omega)]; simp [h]
  · rw [if_neg (by omega)]; simp [h]
theorem drop_rd (xs : List Int) (i : Nat) (h : i < xs.length) : xs.drop i = rd xs (i : Int) :: xs.drop (i + 1) := by
  rw [List.drop_eq_getElem_cons h]
  simp [rd, List.getD, h]
/-- What a list of steps is. -/
def goodS (L : List Int) : Bool := decide (L.length ≤ 12) && L.all (fun x => decide (2 ≤ x ∧ x ≤ 400))
theorem areAny_at : ∀ L : List Int, impl_areSteps.any L = some (!(L.all fun x => decide (2 ≤ x ∧ x ≤ 400)))
  | [] => rfl
  | x :: xs => by
    simp only [impl_areSteps.any, List.all_cons]
    rw [areAny_at xs]
    by_cases h : 2 ≤ x ∧ x ≤ 400
    · rw [decide_eq_true h, if_neg (by simp; omega)]; simp
    · rw [decide_eq_false h, if_pos (by simp; omega)]; simp
theorem areSteps_at (L : List Int) : impl_areSteps.f L = some (goodS L) := by
  unfold impl_areSteps.f goodS
  rw [areAny_at]
  by_cases h : L.length ≤ 12
  · rw [if_pos (by omega)]; simp [h]
  · rw [if_neg (by omega)]; simp [h]
theorem l1All_l0 (L : List Int) (hL : L.length ≤ 12) : ∀ (d i : Nat), i + d = L.length → ∀ K, d < K → spec_l1All.l0 K 2 400 L L.length i = some ((L.drop i).all fun x => decide (2 ≤ x ∧ x ≤ 400)) := by
  intro d
  induction d with
  | zero =>
    intro i hi K hK
    obtain ⟨K, rfl⟩ : ∃ k, K = k + 1 := ⟨K - 1, by omega⟩
    simp only [spec_l1All.l0]
    rw [if_neg (by omega), List.drop_of_length_le (by omega)]
    rfl
  | succ d ih =>
    intro i hi K hK
    obtain ⟨K, rfl⟩ : ∃ k, K = k + 1 := ⟨K - 1, by omega⟩
    have hlt : (i : Int) < (L.length : Int) := by omega
    have h := ih (i + 1) (by omega) K (by omega)
    simp only [spec_l1All.l0]
    rw [if_pos hlt, if_pos (by omega), if_pos hlt, l1In_at, w64 (by omega) (by omega), drop_rd L i (by omega)]
    simp only [Option.bind_some, List.all_cons]
    rw [show (i : Int) + 1 = ((i + 1 : Nat) : Int) from by omega, h]
    by_cases h2 : 2 ≤ rd L (i : Int) ∧ rd L (i : Int) ≤ 400
    · rw [decide_eq_true h2, if_pos rfl]; simp
    · rw [decide_eq_false h2, if_neg (by simp)]; simp
theorem cnGood_at (L : List Int) (K : Nat) (hK : 100 < K) : spec_cnGood.f K L = some (goodS L) := by
  unfold spec_cnGood.f spec_l1All.f goodS
  by_cases h : L.length ≤ 12
  · have h0 := l1All_l0 L h L.length 0 (by omega) K (by omega)
    have h0' : spec_l1All.l0 K 2 400 L L.length 0 = _ := h0
    rw [if_pos (by omega), h0']; simp [h]
  · rw [if_neg (by omega)]; simp [h]
theorem goodS_len {L : List Int} (h : goodS L = true) : L.length ≤ 12 := by
  unfold goodS at h
  simp at h
  exact h.1
theorem goodS_mem {L : List Int} (h : goodS L = true) (x : Int) (hx : x ∈ L) : 2 ≤ x ∧ x ≤ 400 := by
  unfold goodS at h
  simp at h
  exact h.2 x hx
theorem rd_mem (xs : List Int) (i : Nat) (h : i < xs.length) : rd xs (i : Int) ∈ xs := by
  simp [rd, List.getD, h]
theorem isAnew_at (n : Int) : impl_isAnew.f n = some (decide (0 ≤ n ∧ n ≤ 400)) := by
  unfold impl_isAnew.f
  by_cases h : 0 ≤ n
  · rw [if_pos (by omega)]; simp [h]
  · rw [if_neg (by omega)]; simp [h]
theorem cnMost_at (n : Int) : spec_cnMost.f n = some (decide (0 ≤ n ∧ n ≤ 400)) := by
  unfold spec_cnMost.f; rw [l1In_at]; rfl
/-- The numbers from n on up to hi by s, d at most. -/
def upn (hi s : Int) : Nat → Int → List Int
  | 0, _ => []
  | d + 1, n => if n ≤ hi then n :: upn hi s d (n + s) else []
theorem upn_len (hi s : Int) : ∀ (d : Nat) (n : Int), (upn hi s d n).length ≤ d
  | 0, _ => Nat.le_refl _
  | d + 1, n => by
    unfold upn
    have := upn_len hi s d (n + s)
    split
    · simp; omega
    · simp
theorem upn_mem (hi s : Int) (hs : 1 ≤ s) : ∀ (d : Nat) (n x : Int), x ∈ upn hi s d n → n ≤ x ∧ x ≤ hi
  | 0, n, x, h => by cases h
  | d + 1, n, x, h => by
    unfold upn at h
    split at h
    · rcases List.mem_cons.1 h with rfl | h
      · omega
      · have := upn_mem hi s hs d (n + s) x h
        omega
    · cases h
/-- The list of 0 to 400 numbers from a on. -/
def up (a s hi : Int) : List Int := upn hi s 1000 a
theorem up_len (a s hi : Int) : (up a s hi).length ≤ 1000 := upn_len hi s 1000 a
theorem upTo_l0 (hi s : Int) (hs : 1 ≤ s) (hs2 : s ≤ 2) (hh : hi ≤ 400) : ∀ (d : Nat) (n : Int) (acc : List Int), 0 ≤ n → hi + 1 - n ≤ d → acc.length + d ≤ 2000000 →
    ∀ K, d < K → impl_upTo.l0 K hi s acc n = some (acc ++ upn hi s d n) := by
  intro d
  induction d with
  | zero =>
    intro n acc h0 h1 h2 K hK
    obtain ⟨K, rfl⟩ : ∃ k, K = k + 1 := ⟨K - 1, by omega⟩
    have hc : ¬ n ≤ hi := by omega
    simp only [impl_upTo.l0]
    rw [if_neg hc]
    simp [upn]
  | succ d ih =>
    intro n acc h0 h1 h2 K hK
    obtain ⟨K, rfl⟩ : ∃ k, K = k + 1 := ⟨K - 1, by omega⟩
    simp only [impl_upTo.l0]
    unfold upn
    by_cases hc : n ≤ hi
    · have hl : acc.length < 17592186044416 := by omega
      have h := ih (n + s) (acc ++ [n]) (by omega) (by omega) (by simp; omega) K (by omega)
      rw [if_pos hc, if_pos hc, if_pos hl, w64 (x := n + s) (by omega) (by omega), h]
      simp
    · rw [if_neg hc, if_neg hc]
      simp
theorem upTo_at (a s hi : Int) (ha : 0 ≤ a) (hs : 1 ≤ s) (hs2 : s ≤ 2) (hh : hi ≤ 400) (K : Nat) (hK : 10000 < K) : impl_upTo.f K a hi s = some (up a s hi) := by
  have h := upTo_l0 hi s hs hs2 hh 1000 a [] ha (by omega) (by simp) K (by omega)
  unfold impl_upTo.f up
  rw [h]; rfl
theorem cnUp_l0 (hi s : Int) (hs : 1 ≤ s) (hs2 : s ≤ 2) (hh : hi ≤ 400) : ∀ (d : Nat) (n : Int) (acc : List Int), 0 ≤ n → hi + 1 - n ≤ d → acc.length + d ≤ 2000000 →
    ∀ K, d < K → spec_cnUp.l0 K s hi acc n = some (acc ++ upn hi s d n) := by
  intro d
  induction d with
  | zero =>
    intro n acc h0 h1 h2 K hK
    obtain ⟨K, rfl⟩ : ∃ k, K = k + 1 := ⟨K - 1, by omega⟩
    have hc : ¬ n ≤ hi := by omega
    simp only [spec_cnUp.l0]
    rw [if_neg hc]
    simp [upn]
  | succ d ih =>
    intro n acc h0 h1 h2 K hK
    obtain ⟨K, rfl⟩ : ∃ k, K = k + 1 := ⟨K - 1, by omega⟩
    simp only [spec_cnUp.l0]
    unfold upn
    by_cases hc : n ≤ hi
    · have hl : acc.length < 17592186044416 := by omega
      have h := ih (n + s) (acc ++ [n]) (by omega) (by omega) (by simp; omega) K (by omega)
      rw [if_pos hc, if_pos hc, if_pos hl, w64 (x := n + s) (by omega) (by omega), h]
      simp
    · rw [if_neg hc, if_neg hc]
      simp
theorem cnUp_at (a s hi : Int) (ha : 0 ≤ a) (hs : 1 ≤ s) (hs2 : s ≤ 2) (hh : hi ≤ 400) (K : Nat) (hK : 10000 < K) : spec_cnUp.f K a s hi = some (up a s hi) := by
  have h := cnUp_l0 hi s hs hs2 hh 1000 a [] ha (by omega) (by simp) K (by omega)
  unfold spec_cnUp.f up
  rw [h]; rfl
/-- A list without each k-th number, its first one at place i. -/
def outk (k : Int) : Int → List Int → List Int
  | _, [] => []
  | i, x :: xs => if Int.tmod (i + 1) k = 0 then outk k (i + 1) xs else x :: outk k (i + 1) xs
theorem outk_len (k : Int) : ∀ (L : List Int) (i : Int), (outk k i L).length ≤ L.length
  | [], _ => Nat.le_refl _
  | x :: xs, i => by
    unfold outk
    have := outk_len k xs (i + 1)
    split
    · simp; omega
    · simp; omega
theorem outk_mem (k : Int) : ∀ (L : List Int) (i x : Int), x ∈ outk k i L → x ∈ L
  | [], _, _, h => h
  | y :: ys, i, x, h => by
    unfold outk at h
    split at h
    · exact List.mem_cons_of_mem _ (outk_mem k ys (i + 1) x h)
    · rcases List.mem_cons.1 h with rfl | h
      · simp
      · exact List.mem_cons_of_mem _ (outk_mem k ys (i + 1) x h)
theorem without_l0 (k : Int) (hk : k ≠ 0) (L : List Int) (hL : L.length ≤ 100000) : ∀ (d i : Nat) (acc : List Int), i + d = L.length → acc.length ≤ i →
    ∀ K, d < K → impl_withoutEach.l0 K k acc L L.length i = some (acc ++ outk k i (L.drop i)) := by
  intro d
  induction d with
  | zero =>
    intro i acc hi ha K hK
    obtain ⟨K, rfl⟩ : ∃ k, K = k + 1 := ⟨K - 1, by omega⟩
    have hc : ¬ (i : Int) < (L.length : Int) := by omega
    simp only [impl_withoutEach.l0]
    rw [if_neg hc, List.drop_of_length_le (by omega)]
    simp [outk]
  | succ d ih =>
    intro i acc hi ha K hK
    obtain ⟨K, rfl⟩ : ∃ k, K = k + 1 := ⟨K - 1, by omega⟩
    have hlt : (i : Int) < (L.length : Int) := by omega
    have hi0 : (0 : Int) ≤ (i : Int) := by omega
    have hl : acc.length < 17592186044416 := by omega
    simp only [impl_withoutEach.l0]
    rw [if_pos hlt, if_pos hi0, if_pos hlt, if_neg hk, w64 (x := (i : Int) + 1) (by omega) (by omega), drop_rd L i (by omega)]
    unfold outk
    by_cases hm : Int.tmod ((i : Int) + 1) k = 0
    · have h := ih (i + 1) acc (by omega) (by omega) K (by omega)
      rw [show ((i + 1 : Nat) : Int) = (i : Int) + 1 from by omega] at h
      rw [if_pos hm, if_pos hm]
      exact h
    · have h := ih (i + 1) (acc ++ [rd L (i : Int)]) (by omega) (by simp; omega) K (by omega)
      rw [show ((i + 1 : Nat) : Int) = (i : Int) + 1 from by omega] at h
      rw [if_neg hm, if_neg hm, if_pos hl, h]
      simp
theorem without_at (k : Int) (hk : k ≠ 0) (L : List Int) (hL : L.length ≤ 5000) (K : Nat) (hK : 10000 < K) : impl_withoutEach.f K L k = some (outk k 0 L) := by
  have h := without_l0 k hk L (by omega) L.length 0 [] (by omega) (by simp) K (by omega)
  unfold impl_withoutEach.f
  simpa using h
theorem cnOut_l0 (k : Int) (hk : k ≠ 0) (L : List Int) (hL : L.length ≤ 100000) : ∀ (d i : Nat) (acc : List Int), i + d = L.length → acc.length ≤ i →
    ∀ K, d < K → spec_cnOut.l0 K k acc L L.length i = some (acc ++ outk k i (L.drop i)) := by
  intro d
  induction d with
  | zero =>
    intro i acc hi ha K hK
    obtain ⟨K, rfl⟩ : ∃ k, K = k + 1 := ⟨K - 1, by omega⟩
    have hc : ¬ (i : Int) < (L.length : Int) := by omega
    simp only [spec_cnOut.l0]
    rw [if_neg hc, List.drop_of_length_le (by omega)]
    simp [outk]
  | succ d ih =>
    intro i acc hi ha K hK
    obtain ⟨K, rfl⟩ : ∃ k, K = k + 1 := ⟨K - 1, by omega⟩
    have hlt : (i : Int) < (L.length : Int) := by omega
    have hi0 : (0 : Int) ≤ (i : Int) := by omega
    have hl : acc.length < 17592186044416 := by omega
    simp only [spec_cnOut.l0]
    rw [if_pos hlt, if_pos hi0, if_pos hlt, if_neg hk, w64 (x := (i : Int) + 1) (by omega) (by omega), drop_rd L i (by omega)]
    unfold outk
    by_cases hm : Int.tmod ((i : Int) + 1) k = 0
    · have h := ih (i + 1) acc (by omega) (by omega) K (by omega)
      rw [show ((i + 1 : Nat) : Int) = (i : Int) + 1 from by omega] at h
      rw [if_pos hm, if_pos hm]
      exact h
    · have h := ih (i + 1) (acc ++ [rd L (i : Int)]) (by omega) (by simp; omega) K (by omega)
      rw [show ((i + 1 : Nat) : Int) = (i : Int) + 1 from by omega] at h
      rw [if_neg hm, if_neg hm, if_pos hl, h]
      simp
theorem cnOut_at (k : Int) (hk : k ≠ 0) (L : List Int) (hL : L.length ≤ 5000) (K : Nat) (hK : 10000 < K) : spec_cnOut.f K L k = some (outk k 0 L) := by
  have h := cnOut_l0 k hk L (by omega) L.length 0 [] (by omega) (by simp) K (by omega)
  unfold spec_cnOut.f
  simpa using h
/-- What is left of a list by steps. -/
def cOut (L : List Int) (st : List Int) : List Int := st.foldl (fun l k => outk k 0 l) L
theorem cOut_len : ∀ (st L : List Int), (cOut L st).length ≤ L.length
  | [], L => Nat.le_refl _
  | k :: st, L => by
    have h1 := cOut_len st (outk k 0 L)
    have h2 := outk_len k L 0
    show (cOut (outk k 0 L) st).length ≤ L.length
    omega
theorem countedOut_l0 (st : List Int) (hg : goodS st = true) : ∀ (d i : Nat) (L : List Int), i + d = st.length → L.length ≤ 5000 →
    ∀ K, 10001 + d < K → impl_countedOut.l0 K L st st.length i = some (cOut L (st.drop i)) := by
  have hl := goodS_len hg
  intro d
  induction d with
  | zero =>
    intro i L hi hL K hK
    obtain ⟨K, rfl⟩ : ∃ k, K = k + 1 := ⟨K - 1, by omega⟩
    simp only [impl_countedOut.l0]
    rw [if_neg (by omega), List.drop_of_length_le (by omega)]
    rfl
  | succ d ih =>
    intro i L hi hL K hK
    obtain ⟨K, rfl⟩ : ∃ k, K = k + 1 := ⟨K - 1, by omega⟩
    have hm := goodS_mem hg _ (rd_mem st i (by omega))
    have hlt : (i : Int) < (st.length : Int) := by omega
    have h2 := outk_len (rd st (i : Int)) L 0
    have h := ih (i + 1) (outk (rd st (i : Int)) 0 L) (by omega) (by omega) K (by omega)
    rw [show ((i + 1 : Nat) : Int) = (i : Int) + 1 from by omega] at h
    simp only [impl_countedOut.l0]
    rw [if_pos hlt, if_pos (by omega), if_pos hlt, without_at _ (by omega) L hL K (by omega), w64 (by omega) (by omega), drop_rd st i (by omega)]
    exact h
theorem countedOut_at (st : List Int) (hg : goodS st = true) (L : List Int) (hL : L.length ≤ 5000) (K : Nat) (hK : 20000 < K) : impl_countedOut.f K L st = some (cOut L st) :=
  countedOut_l0 st hg st.length 0 L (by omega) hL K (by have := goodS_len hg; omega)
theorem div_step (i k : Int) (hi : 0 ≤ i) (hk : 1 ≤ k) : (i + 1) / k = i / k + (if Int.tmod (i + 1) k = 0 then 1 else 0) := by
  rw [Int.tmod_eq_emod_of_nonneg (by omega)]
  have e := Int.mul_ediv_add_emod i k
  have r0 := Int.emod_nonneg i (by omega : k ≠ 0)
  have r1 := Int.emod_lt_of_pos i (by omega : 0 < k)
  obtain ⟨q, hq⟩ : ∃ q, q = i / k := ⟨_, rfl⟩
  obtain ⟨r, hr⟩ : ∃ r, r = i % k := ⟨_, rfl⟩
  rw [← hq] at e ⊢
  rw [← hr] at e r0 r1
  have e1 : i + 1 = (r + 1) + k * q := by omega
  rw [e1, Int.add_mul_ediv_left _ _ (by omega : k ≠ 0), Int.add_mul_emod_self_left]
  by_cases h : r + 1 = k
  · rw [h, Int.ediv_self (by omega), Int.emod_self, if_pos rfl]; omega
  · rw [Int.ediv_eq_zero_of_lt (by omega) (by omega), Int.emod_eq_of_lt (by omega) (by omega), if_neg (by omega)]; omega
theorem outk_length (k : Int) (hk : 1 ≤ k) : ∀ (L : List Int) (i : Int), 0 ≤ i → ((outk k i L).length : Int) = L.length - ((i + L.length) / k - i / k)
  | [], i, _ => by simp [outk]
  | x :: xs, i, hi => by
    have ih := outk_length k hk xs (i + 1) (by omega)
    have hs := div_step i k hi hk
    unfold outk
    rw [show i + ((x :: xs).length : Int) = i + 1 + (xs.length : Int) from by simp; omega]
    by_cases h : Int.tmod (i + 1) k = 0
    · rw [if_pos h, ih]
      rw [if_pos h] at hs
      simp only [List.length_cons]
      omega
    · rw [if_neg h] at hs
      rw [if_neg h]
      simp only [List.length_cons]
      have := ih
      omega
theorem upn_length1 (hi : Int) : ∀ (d : Nat) (n : Int), hi + 1 - n ≤ d → n ≤ hi + 1 → ((upn hi 1 d n).length : Int) = hi + 1 - n
  | 0, n, h, h2 => by simp [upn]; omega
  | d + 1, n, h, h2 => by
    unfold upn
    by_cases hc : n ≤ hi
    · rw [if_pos hc]
      have := upn_length1 hi d (n + 1) (by omega) (by omega)
      simp only [List.length_cons]
      omega
    · rw [if_neg hc]
      simp; omega
theorem up_length (hi : Int) (h0 : 0 ≤ hi) (hh : hi ≤ 400) : ((up 1 1 hi).length : Int) = hi := by
  have := upn_length1 hi 1000 1 (by omega) (by omega)
  unfold up
  omega
theorem left_l0 (st : List Int) (hg : goodS st = true) : ∀ (d i : Nat) (L : List Int), i + d = st.length → L.length ≤ 5000 →
    ∀ K, 10001 + d < K → spec_cnLeft.l0 K L st st.length i = some (cOut L (st.drop i)) := by
  have hl := goodS_len hg
  intro d
  induction d with
  | zero =>
    intro i L hi hL K hK
    obtain ⟨K, rfl⟩ : ∃ k, K = k + 1 := ⟨K - 1, by omega⟩
    simp only [spec_cnLeft.l0]
    rw [if_neg (by omega), List.drop_of_length_le (by omega)]
    rfl
  | succ d ih =>
    intro i L hi hL K hK
    obtain ⟨K, rfl⟩ : ∃ k, K = k + 1 := ⟨K - 1, by omega⟩
    have hm := goodS_mem hg _ (rd_mem st i (by omega))
    have hlt : (i : Int) < (st.length : Int) := by omega
    have h2 := outk_len (rd st (i : Int)) L 0
    have h := ih (i + 1) (outk (rd st (i : Int)) 0 L) (by omega) (by omega) K (by omega)
    rw [show ((i + 1 : Nat) : Int) = (i : Int) + 1 from by omega] at h
    simp only [spec_cnLeft.l0]
    rw [if_pos hlt, if_pos (by omega), if_pos hlt, cnOut_at _ (by omega) L hL K (by omega), w64 (by omega) (by omega), drop_rd st i (by omega)]
    exact h
theorem count_l0 (st : List Int) (hg : goodS st = true) : ∀ (d i : Nat) (L : List Int) (n : Int), i + d = st.length → (L.length : Int) = n → n ≤ 5000 →
    ∀ K, d < K → spec_CountByCounting.l0 K n st st.length i = some (((cOut L (st.drop i)).length : Int), true) := by
  have hl := goodS_len hg
  intro d
  induction d with
  | zero =>
    intro i L n hi hn hL K hK
    obtain ⟨K, rfl⟩ : ∃ k, K = k + 1 := ⟨K - 1, by omega⟩
    simp only [spec_CountByCounting.l0]
    rw [if_neg (by omega), List.drop_of_length_le (by omega), ← hn]
    rfl
  | succ d ih =>
    intro i L n hi hn hL K hK
    obtain ⟨K, rfl⟩ : ∃ k, K = k + 1 := ⟨K - 1, by omega⟩
    have hm := goodS_mem hg _ (rd_mem st i (by omega))
    have hlt : (i : Int) < (st.length : Int) := by omega
    obtain ⟨s, hs⟩ : ∃ s, s = rd st (i : Int) := ⟨_, rfl⟩
    rw [← hs] at hm
    have hq0 : 0 ≤ n / s := Int.ediv_nonneg (by omega) (by omega)
    have hq1 : n / s ≤ n := Int.ediv_le_self _ (by omega)
    have hlen := outk_length s (by omega) L 0 (by omega)
    rw [Int.zero_ediv, Int.zero_add, hn, Int.sub_zero] at hlen
    have h := ih (i + 1) (outk s 0 L) (n - n / s) (by omega) hlen (by omega) K (by omega)
    rw [show ((i + 1 : Nat) : Int) = (i : Int) + 1 from by omega] at h
    simp only [spec_CountByCounting.l0]
    rw [drop_rd st i (by omega), ← hs, if_pos hlt, if_pos (by omega), if_pos hlt, if_neg (by omega), Int.tdiv_eq_ediv_of_nonneg (by omega), w64 (x := n / s) (by omega) (by omega), w64 (x := n - n / s) (by omega) (by omega), w64 (x := (i : Int) + 1) (by omega) (by omega)]
    exact h
/-- Where a number falls among steps, the first one being step i: at which step, and its rank where at none (-1). -/
def fz : List Int → Int → Int → Int × Int
  | [], _, n => (-1, n - 1)
  | s :: st, i, n => if Int.tmod n s = 0 then (i, 0) else fz st (i + 1) (n - n / s)
/-- The place before one step of place q behind it. -/
def gz (s q : Int) : Int := q + (q - 1) / (s - 1)
/-- The place before all steps. -/
def nz : List Int → Int → Int
  | [], q => q
  | s :: st, q => gz s (nz st q)
theorem gz_eq (s a b q : Int) (hs : 2 ≤ s) (hb : 0 < b) (hbs : b < s) (hq : q = a * (s - 1) + b) : gz s q = a * s + b := by
  have e : (q - 1) / (s - 1) = a := by
    have e1 : q - 1 = (b - 1) + (s - 1) * a := by rw [hq, Int.mul_comm (s - 1) a]; omega
    rw [e1, Int.add_mul_ediv_left _ _ (by omega : s - 1 ≠ 0), Int.ediv_eq_zero_of_lt (by omega) (by omega)]
    omega
  unfold gz
  rw [e, hq, Int.mul_sub, Int.mul_one]
  omega
/-- A place as so many whole rounds and a rest. -/
theorem split_at (n s : Int) (hs : 2 ≤ s) (hn : 1 ≤ n) (h : Int.tmod n s ≠ 0) : ∃ a b, 0 ≤ a ∧ 0 < b ∧ b < s ∧ n = a * s + b ∧ n / s = a := by
  rw [Int.tmod_eq_emod_of_nonneg (by omega)] at h
  have e := Int.mul_ediv_add_emod n s
  have r0 := Int.emod_nonneg n (by omega : s ≠ 0)
  have r1 := Int.emod_lt_of_pos n (by omega : 0 < s)
  refine ⟨n / s, n % s, Int.ediv_nonneg (by omega) (by omega), by omega, r1, ?_, rfl⟩
  rw [Int.mul_comm]
  omega
theorem back_one (n s : Int) (hs : 2 ≤ s) (hn : 1 ≤ n) (h : Int.tmod n s ≠ 0) : 1 ≤ n - n / s ∧ gz s (n - n / s) = n := by
  obtain ⟨a, b, ha, hb, hbs, he, hd⟩ := split_at n s hs hn h
  rw [hd]
  have e : n - a = a * (s - 1) + b := by rw [he, Int.mul_sub, Int.mul_one]; omega
  refine ⟨?_, by rw [gz_eq s a b _ hs hb hbs e, ← he]⟩
  rw [e]
  have := Int.mul_nonneg ha (by omega : 0 ≤ s - 1)
  omega
theorem forth_one (q s : Int) (hs : 2 ≤ s) (hq : 1 ≤ q) : q ≤ gz s q ∧ Int.tmod (gz s q) s ≠ 0 ∧ gz s q - gz s q / s = q := by
  have e := Int.mul_ediv_add_emod (q - 1) (s - 1)
  have r0 := Int.emod_nonneg (q - 1) (by omega : s - 1 ≠ 0)
  have r1 := Int.emod_lt_of_pos (q - 1) (by omega : 0 < s - 1)
  have a0 : 0 ≤ (q - 1) / (s - 1) := Int.ediv_nonneg (by omega) (by omega)
  obtain ⟨a, ha⟩ : ∃ a, a = (q - 1) / (s - 1) := ⟨_, rfl⟩
  obtain ⟨b, hb⟩ : ∃ b, b = (q - 1) % (s - 1) := ⟨_, rfl⟩
  rw [← ha] at e a0
  rw [← hb] at e r0 r1
  have hq2 : q = a * (s - 1) + (b + 1) := by rw [Int.mul_comm]; omega
  have hg := gz_eq s a (b + 1) q hs (by omega) (by omega) hq2
  have hd : (a * s + (b + 1)) / s = a := by
    rw [Int.add_comm, Int.add_mul_ediv_right _ _ (by omega : s ≠ 0), Int.ediv_eq_zero_of_lt (by omega) (by omega)]
    omega
  have hmod : (a * s + (b + 1)) % s = b + 1 := by
    rw [Int.add_comm, Int.add_mul_emod_self_right, Int.emod_eq_of_lt (by omega) (by omega)]
  have hpos := Int.mul_nonneg a0 (by omega : 0 ≤ s)
  rw [hg]
  refine ⟨?_, ?_, ?_⟩
  · rw [Int.mul_sub, Int.mul_one] at hq2; omega
  · rw [Int.tmod_eq_emod_of_nonneg (by omega), hmod]; omega
  · rw [hd]; rw [Int.mul_sub, Int.mul_one] at hq2; omega
def all2 (st : List Int) : Prop := ∀ x ∈ st, 2 ≤ x
theorem all2_tail {s : Int} {st : List Int} (h : all2 (s :: st)) : 2 ≤ s ∧ all2 st := ⟨h s (by simp), fun x hx => h x (by simp [hx])⟩
theorem nz_ge : ∀ (st : List Int), all2 st → ∀ q, 1 ≤ q → q ≤ nz st q
  | [], _, q, _ => Int.le_refl _
  | s :: st, h, q, hq => by
    have h1 := nz_ge st (all2_tail h).2 q hq
    have h2 := (forth_one (nz st q) s (all2_tail h).1 (by omega)).1
    show q ≤ gz s (nz st q)
    omega
theorem fz_nz : ∀ (st : List Int), all2 st → ∀ i q, 1 ≤ q → fz st i (nz st q) = (-1, q - 1)
  | [], _, i, q, _ => rfl
  | s :: st, h, i, q, hq => by
    have h1 := nz_ge st (all2_tail h).2 q hq
    obtain ⟨_, h2, h3⟩ := forth_one (nz st q) s (all2_tail h).1 (by omega)
    have ih := fz_nz st (all2_tail h).2 (i + 1) q hq
    show (if Int.tmod (gz s (nz st q)) s = 0 then (i, 0) else fz st (i + 1) (gz s (nz st q) - gz s (nz st q) / s)) = _
    rw [if_neg h2, h3, ih]
theorem nz_fz : ∀ (st : List Int), all2 st → ∀ i n, 0 ≤ i → 1 ≤ n → (fz st i n).1 < 0 → 0 ≤ (fz st i n).2 ∧ nz st ((fz st i n).2 + 1) = n
  | [], _, i, n, _, hn, _ => by simp only [fz, nz]; omega
  | s :: st, h, i, n, hi, hn, hz => by
    unfold fz at hz ⊢
    by_cases hm : Int.tmod n s = 0
    · rw [if_pos hm] at hz; simp at hz; omega
    · rw [if_neg hm] at hz ⊢
      obtain ⟨h1, h2⟩ := back_one n s (all2_tail h).1 hn hm
      obtain ⟨h3, h4⟩ := nz_fz st (all2_tail h).2 (i + 1) (n - n / s) (by omega) h1 hz
      refine ⟨h3, ?_⟩
      show gz s (nz st _) = n
      rw [h4, h2]
theorem fz_range : ∀ (st : List Int) i n, 0 ≤ i → (fz st i n).1 = -1 ∨ i ≤ (fz st i n).1 ∧ (fz st i n).1 < i + st.length
  | [], i, n, _ => .inl rfl
  | s :: st, i, n, hi => by
    unfold fz
    by_cases hm : Int.tmod n s = 0
    · rw [if_pos hm]; right; simp; omega
    · rw [if_neg hm]
      rcases fz_range st (i + 1) (n - n / s) (by omega) with h | h
      · exact .inl h
      · right
        simp only [List.length_cons]
        omega
/-- Between n and a place behind it that is left, as many are left as there are. -/
theorem mono_div (n p k : Int) (hk : 1 ≤ k) (h0 : 0 ≤ n) (h : n < p) (hm : Int.tmod p k ≠ 0) : n - n / k ≤ p - p / k - 1 := by
  rw [Int.tmod_eq_emod_of_nonneg (by omega)] at hm
  have e := Int.mul_ediv_add_emod n k
  have r0 := Int.emod_nonneg n (by omega : k ≠ 0)
  have r1 := Int.emod_lt_of_pos n (by omega : 0 < k)
  have e' := Int.mul_ediv_add_emod p k
  have r0' := Int.emod_nonneg p (by omega : k ≠ 0)
  have r1' := Int.emod_lt_of_pos p (by omega : 0 < k)
  obtain ⟨a, ha⟩ : ∃ a, a = n / k := ⟨_, rfl⟩
  obtain ⟨b, hb⟩ : ∃ b, b = p / k := ⟨_, rfl⟩
  rw [← ha] at e ⊢
  rw [← hb] at e' ⊢
  have hab : a ≤ b := by
    rw [ha, hb]
    exact Int.ediv_le_ediv (by omega) (by omega)
  by_cases hc : a = b
  · omega
  · have h1 : 0 ≤ (k - 1) * (b - a - 1) := Int.mul_nonneg (by omega) (by omega)
    have h2 : (k - 1) * (b - a - 1) = k * b - k * a - k - b + a + 1 := by
      rw [Int.sub_mul, Int.mul_sub, Int.mul_sub]; omega
    omega
theorem tmod_emod (n k : Int) (h : 0 ≤ n) : Int.tmod n k = n % k := Int.tmod_eq_emod_of_nonneg h
theorem outk_get (k : Int) (hk : 1 ≤ k) : ∀ (L : List Int) (i : Int) (j t : Nat), 0 ≤ i → j < L.length → Int.tmod (i + j + 1) k ≠ 0 → (t : Int) = (i + j + 1 - (i + j + 1) / k) - (i - i / k) - 1 → (outk k i L)[t]? = L[j]?
  | [], _, _, _, _, h, _, _ => absurd h (Nat.not_lt_zero _)
  | x :: xs, i, 0, t, hi, _, hm, ht => by
    have hs := div_step i k hi hk
    have e0 : i + ((0 : Nat) : Int) + 1 = i + 1 := by omega
    rw [e0] at hm ht
    rw [if_neg hm] at hs
    unfold outk
    rw [if_neg hm]
    have : t = 0 := by omega
    subst this
    rfl
  | x :: xs, i, j + 1, t, hi, hj, hm, ht => by
    have hs := div_step i k hi hk
    have e0 : i + ((j + 1 : Nat) : Int) + 1 = (i + 1) + (j : Int) + 1 := by omega
    rw [e0] at hm ht
    unfold outk
    by_cases h : Int.tmod (i + 1) k = 0
    · rw [if_pos h] at hs ⊢
      have ih := outk_get k hk xs (i + 1) j t (by omega) (by simpa using hj) hm (by omega)
      rw [ih]
      rfl
    · rw [if_neg h] at hs ⊢
      have hm0 := mono_div (i + 1) (i + 1 + j + 1) k hk (by omega) (by omega) hm
      obtain ⟨t', rfl⟩ : ∃ t', t = t' + 1 := ⟨t - 1, by omega⟩
      have ih := outk_get k hk xs (i + 1) j t' (by omega) (by simpa using hj) hm (by omega)
      simpa using ih
theorem outk_at (k : Int) (hk : 2 ≤ k) (L : List Int) (p : Int) (h1 : 1 ≤ p) (h2 : p ≤ L.length) (hm : Int.tmod p k ≠ 0) : (outk k 0 L)[(p - p / k - 1).toNat]? = L[(p - 1).toNat]? := by
  have hb := (back_one p k hk h1 hm).1
  have e : (0 : Int) + ((p - 1).toNat : Int) + 1 = p := by omega
  refine outk_get k (by omega) L 0 (p - 1).toNat _ (by omega) (by omega) (by rw [e]; exact hm) ?_
  rw [e, Int.zero_ediv]
  omega
theorem outk_sub (k : Int) : ∀ (L : List Int) (i : Int), (outk k i L).Sublist L
  | [], _ => List.Sublist.slnil
  | x :: xs, i => by
    unfold outk
    have ih := outk_sub k xs (i + 1)
    split
    · exact ih.cons x
    · exact ih.cons_cons x
theorem cOut_sub : ∀ (st L : List Int), (cOut L st).Sublist L
  | [], L => List.Sublist.refl _
  | k :: st, L => (cOut_sub st (outk k 0 L)).trans (outk_sub k L 0)
theorem cOut_at : ∀ (st : List Int), all2 st → ∀ (L : List Int) (i p : Int), 1 ≤ p → p ≤ L.length → (fz st i p).1 < 0 → 0 ≤ i → (cOut L st)[((fz st i p).2).toNat]? = L[(p - 1).toNat]?
  | [], _, L, i, p, _, _, _, _ => rfl
  | k :: st, h, L, i, p, h1, h2, hz, hi => by
    unfold fz at hz ⊢
    by_cases hm : Int.tmod p k = 0
    · rw [if_pos hm] at hz; simp at hz; omega
    · rw [if_neg hm] at hz ⊢
      have hb := (back_one p k (all2_tail h).1 h1 hm).1
      have ha := outk_at k (all2_tail h).1 L p h1 h2 hm
      have hlt : (p - p / k - 1).toNat < (outk k 0 L).length := by
        have hs : L[(p - 1).toNat]? = some (L[(p - 1).toNat]'(by omega)) := List.getElem?_eq_getElem (by omega)
        rw [hs] at ha
        exact (List.getElem?_eq_some_iff.1 ha).1
      have ih := cOut_at st (all2_tail h).2 (outk k 0 L) (i + 1) (p - p / k) hb (by omega) hz (by omega)
      exact ih.trans ha
theorem outk_back (k : Int) (hk : 2 ≤ k) (L : List Int) (q : Int) (h1 : 1 ≤ q) (h2 : q ≤ (outk k 0 L).length) : gz k q ≤ L.length := by
  have hl := outk_length k (by omega) L 0 (Int.le_refl _)
  rw [Int.zero_add, Int.zero_ediv, Int.sub_zero] at hl
  rw [hl] at h2
  obtain ⟨h3, h4, h5⟩ := forth_one q k hk h1
  obtain ⟨p, hp⟩ : ∃ p, p = gz k q := ⟨_, rfl⟩
  rw [← hp] at h3 h4 h5 ⊢
  obtain ⟨n, hn⟩ : ∃ n : Int, n = L.length := ⟨_, rfl⟩
  rw [← hn] at h2 ⊢
  by_cases hle : p ≤ n
  · exact hle
  · exfalso
    have hm := mono_div n p k (by omega) (by omega) (by omega) h4
    omega
theorem cOut_back : ∀ (st : List Int), all2 st → ∀ (L : List Int) (q : Int), 1 ≤ q → q ≤ (cOut L st).length → nz st q ≤ L.length
  | [], _, L, q, _, h => h
  | k :: st, h, L, q, h1, h2 => by
    have ih := cOut_back st (all2_tail h).2 (outk k 0 L) q h1 h2
    have hg := nz_ge st (all2_tail h).2 q h1
    exact outk_back k (all2_tail h).1 L (nz st q) (by omega) ih
theorem cOut_nz (st : List Int) (h : all2 st) (L : List Int) (q : Int) (h1 : 1 ≤ q) (h2 : q ≤ (cOut L st).length) : (cOut L st)[(q - 1).toNat]? = L[(nz st q - 1).toNat]? := by
  have hb := cOut_back st h L q h1 h2
  have hf := fz_nz st h 0 q h1
  have hg := nz_ge st h q h1
  have := cOut_at st h L 0 (nz st q) (by omega) hb (by rw [hf]; show (-1 : Int) < 0; omega) (Int.le_refl _)
  rw [hf] at this
  exact this
theorem cnNumber_at (n : Int) : spec_cnNumber.f n = some (decide (1 ≤ n ∧ n ≤ 10000)) := by
  unfold spec_cnNumber.f; rw [l1In_at]; rfl
theorem good2 {L : List Int} (hg : goodS L = true) : all2 L := fun x hx => (goodS_mem hg x hx).1
theorem fz_l0 (L : List Int) (hg : goodS L = true) : ∀ (d i : Nat) (n : Int), i + d = L.length → 1 ≤ n → n ≤ 10000 → ∀ K, d < K →
    spec_cnFall.l0 K n L L.length i = some (fz (L.drop i) i n) ∧ impl_StepOfFall.l0 K n L L.length i = some (if (fz (L.drop i) i n).1 < 0 then (0, false) else ((fz (L.drop i) i n).1, true)) ∧
    impl_RankBehind.l0 K n L L.length i = some (if (fz (L.drop i) i n).1 < 0 then ((fz (L.drop i) i n).2, true) else (0, false)) := by
  have hl := goodS_len hg
  intro d
  induction d with
  | zero =>
    intro i n hi h1 h2 K hK
    obtain ⟨K, rfl⟩ : ∃ k, K = k + 1 := ⟨K - 1, by omega⟩
    have hc : ¬ (i : Int) < (L.length : Int) := by omega
    have hw : wrap64 (n - 1) = n - 1 := w64 (by omega) (by omega)
    have hz : fz (L.drop i) i n = (-1, n - 1) := by rw [List.drop_of_length_le (by omega)]; rfl
    have hm : (-1 : Int) < 0 := by omega
    simp only [spec_cnFall.l0, impl_StepOfFall.l0, impl_RankBehind.l0]
    rw [hz, if_neg hc, if_neg hc, if_neg hc, hw, if_pos hm, if_pos hm]
    exact ⟨rfl, rfl, rfl⟩
  | succ d ih =>
    intro i n hi h1 h2 K hK
    obtain ⟨K, rfl⟩ : ∃ k, K = k + 1 := ⟨K - 1, by omega⟩
    have hm := goodS_mem hg _ (rd_mem L i (by omega))
    have hdr := drop_rd L i (by omega)
    obtain ⟨s, hs⟩ : ∃ s, s = rd L (i : Int) := ⟨_, rfl⟩
    rw [← hs] at hm hdr
    have hlt : (i : Int) < (L.length : Int) := by omega
    have hi0 : (0 : Int) ≤ (i : Int) := by omega
    have hs0 : ¬ s = 0 := by omega
    rw [hdr]
    unfold fz
    simp only [spec_cnFall.l0, impl_StepOfFall.l0, impl_RankBehind.l0]
    rw [← hs, if_pos hlt, if_pos hlt, if_pos hlt, if_pos hi0, if_pos hi0, if_pos hi0, if_pos hlt, if_pos hlt, if_pos hlt, if_neg hs0, if_neg hs0, if_neg hs0]
    by_cases hz : Int.tmod n s = 0
    · have h5 : ¬ ((i : Int) < 0) := by omega
      rw [if_pos hz, if_pos hz, if_pos hz, if_pos hz]
      refine ⟨rfl, ?_, ?_⟩
      · show _ = some (if (i : Int) < 0 then _ else _); rw [if_neg h5]
      · show _ = some (if (i : Int) < 0 then _ else _); rw [if_neg h5]
    · have hq : Int.tdiv n s = n / s := Int.tdiv_eq_ediv_of_nonneg (by omega)
      have hq0 : 0 ≤ n / s := Int.ediv_nonneg (by omega) (by omega)
      have hq1 : n / s < n := Int.ediv_lt_self_of_pos_of_ne_one (by omega) (by omega)
      have h := ih (i + 1) (n - n / s) (by omega) (by omega) (by omega) K (by omega)
      rw [show ((i + 1 : Nat) : Int) = (i : Int) + 1 from by omega] at h
      obtain ⟨q, hqe⟩ : ∃ q, q = n / s := ⟨_, rfl⟩
      rw [← hqe] at hq hq0 hq1 h ⊢
      rw [if_neg hz, if_neg hz, if_neg hz, if_neg hz, hq, w64 (x := q) (by omega) (by omega), w64 (x := n - q) (by omega) (by omega), w64 (x := (i : Int) + 1) (by omega) (by omega)]
      exact h
def stepV (L : List Int) (n : Int) : Int × Bool := if goodS L = true ∧ (1 ≤ n ∧ n ≤ 10000) ∧ ¬ (fz L 0 n).1 < 0 then ((fz L 0 n).1, true) else (0, false)
def rankV (L : List Int) (n : Int) : Int × Bool := if goodS L = true ∧ (1 ≤ n ∧ n ≤ 10000) ∧ (fz L 0 n).1 < 0 then ((fz L 0 n).2, true) else (0, false)
theorem falls_at (L : List Int) (n : Int) (K : Nat) (hK : 1000 < K) : spec_StepOfFall.f K L n = some (stepV L n) ∧ impl_StepOfFall.f K L n = some (stepV L n) ∧ spec_RankBehind.f K L n = some (rankV L n) ∧ impl_RankBehind.f K L n = some (rankV L n) := by
  obtain ⟨K, rfl⟩ : ∃ k, K = k + 1 := ⟨K - 1, by omega⟩
  unfold spec_StepOfFall.f impl_StepOfFall.f spec_RankBehind.f impl_RankBehind.f stepV rankV
  rw [cnGood_at L _ (by omega), areSteps_at, cnNumber_at]
  simp only [Option.bind_some, spec_StepOfFall.j0, impl_StepOfFall.j0, spec_RankBehind.j0, impl_RankBehind.j0, spec_cnFall.f]
  by_cases hg : goodS L = true
  · have hl := goodS_len hg
    by_cases hr : 1 ≤ n ∧ n ≤ 10000
    · have h := fz_l0 L hg L.length 0 n (by omega) hr.1 hr.2 K (by omega)
      have h1 : spec_cnFall.l0 K n L L.length 0 = some (fz L 0 n) := h.1
      have h2 : impl_StepOfFall.l0 K n L L.length 0 = some (if (fz L 0 n).1 < 0 then (0, false) else ((fz L 0 n).1, true)) := h.2.1
      have h3 : impl_RankBehind.l0 K n L L.length 0 = some (if (fz L 0 n).1 < 0 then ((fz L 0 n).2, true) else (0, false)) := h.2.2
      have n1 : ¬ n < 1 := by omega
      rw [hg, decide_eq_true hr, h1, h2, h3, if_neg n1, if_neg n1, decide_eq_false (show ¬ n > 10000 by omega)]
      by_cases hz : (fz L 0 n).1 < 0
      · have hz' : ¬ (fz L 0 n).1 ≥ 0 := by omega
        simp [hz, hr, hz']
      · have hz' : (fz L 0 n).1 ≥ 0 := by omega
        simp [hz, hr, hz']
    · have e : ∀ p : Prop, ¬ (goodS L = true ∧ (1 ≤ n ∧ n ≤ 10000) ∧ p) := fun p hh => hr hh.2.1
      rw [if_neg (e _), if_neg (e _), decide_eq_false hr, hg]
      by_cases h1 : n < 1
      · simp [h1]
      · have h2 : n > 10000 := by omega
        simp [h1, h2]
  · have e : ∀ p : Prop, ¬ (goodS L = true ∧ p) := fun p hh => hg hh.1
    rw [if_neg (e _), if_neg (e _)]
    simp [hg]
theorem nz_append : ∀ (a : List Int) (s x : Int), nz (a ++ [s]) x = nz a (gz s x)
  | [], s, x => rfl
  | y :: a, s, x => by
    show gz y (nz (a ++ [s]) x) = gz y (nz a (gz s x))
    rw [nz_append a s x]
theorem take_rd (L : List Int) (i : Nat) (h : i < L.length) : L.take (i + 1) = L.take i ++ [rd L (i : Int)] := by
  rw [List.take_succ_eq_append_getElem h]
  simp [rd, List.getD, h]
def pw : Nat → Int
  | 0 => 1
  | d + 1 => 2 * pw d
theorem pw_pos : ∀ d, 1 ≤ pw d
  | 0 => by simp [pw]
  | d + 1 => by have := pw_pos d; unfold pw; omega
theorem pw_12 : pw 12 = 4096 := by decide
theorem pw_le : ∀ (d e : Nat), d ≤ e → pw d ≤ pw e
  | d, 0, h => by obtain rfl : d = 0 := by omega
                  exact Int.le_refl _
  | d, e + 1, h => by
    by_cases h1 : d = e + 1
    · subst h1; exact Int.le_refl _
    · have h2 := pw_le d e (by omega)
      have h3 := pw_pos e
      show pw d ≤ 2 * pw e
      omega
theorem num_l0 (L : List Int) (hg : goodS L = true) : ∀ (d : Nat) (x : Int), d ≤ L.length → 1 ≤ x → x * pw d ≤ 5000000 →
    ∀ K, d < K → spec_NumberOfRank.l0 K L x ((d : Int) - 1) = some (nz (L.take d) x, true) ∧ impl_NumberOfRank.l0 K L x ((d : Int) - 1) = some (nz (L.take d) x, true) := by
  have hl := goodS_len hg
  intro d
  induction d with
  | zero =>
    intro x hd hx hb K hK
    obtain ⟨K, rfl⟩ : ∃ k, K = k + 1 := ⟨K - 1, by omega⟩
    have hc : ¬ (((0 : Nat) : Int) - 1 ≥ 0) := by omega
    simp only [pw] at hb
    simp only [spec_NumberOfRank.l0, impl_NumberOfRank.l0]
    rw [if_neg hc, if_neg hc, if_neg (by omega)]
    exact ⟨rfl, rfl⟩
  | succ d ih =>
    intro x hd hx hb K hK
    have e0 : ((d + 1 : Nat) : Int) - 1 = (d : Int) := by omega
    have hm := goodS_mem hg _ (rd_mem L d (by omega))
    have hp := pw_pos d
    have htk := take_rd L d (by omega)
    obtain ⟨s, hs⟩ : ∃ s, s = rd L (d : Int) := ⟨_, rfl⟩
    rw [← hs] at hm htk
    have hxb : x ≤ 5000000 := by
      have := Int.mul_le_mul_of_nonneg_left (show 1 ≤ pw (d + 1) from pw_pos _) (by omega : 0 ≤ x)
      omega
    have hq : Int.tdiv (x - 1) (s - 1) = (x - 1) / (s - 1) := Int.tdiv_eq_ediv_of_nonneg (by omega)
    have hq0 : 0 ≤ (x - 1) / (s - 1) := Int.ediv_nonneg (by omega) (by omega)
    have hq1 : (x - 1) / (s - 1) ≤ x - 1 := Int.ediv_le_self _ (by omega)
    have hgz : gz s x = x + (x - 1) / (s - 1) := rfl
    obtain ⟨q, hqe⟩ : ∃ q, q = (x - 1) / (s - 1) := ⟨_, rfl⟩
    rw [← hqe] at hq hq0 hq1 hgz
    have hb' : (x + q) * pw d ≤ 5000000 := by
      have h1 := Int.mul_le_mul_of_nonneg_right (show x + q ≤ 2 * x by omega) (by omega : 0 ≤ pw d)
      have h2 : 2 * x * pw d = x * pw (d + 1) := by
        show 2 * x * pw d = x * (2 * pw d)
        rw [Int.mul_comm 2 x, Int.mul_assoc]
      omega
    obtain ⟨K, rfl⟩ : ∃ k, K = k + 1 := ⟨K - 1, by omega⟩
    have h := ih (x + q) (by omega) (by omega) hb' K (by omega)
    have hlt : (d : Int) < (L.length : Int) := by omega
    have hd0 : (d : Int) ≥ 0 := by omega
    have hd1 : (0 : Int) ≤ (d : Int) := by omega
    have hs1 : ¬ (s - 1 = 0) := by omega
    have hbig : ¬ (x + q > 1000000000000) := by omega
    simp only [spec_NumberOfRank.l0, impl_NumberOfRank.l0]
    rw [htk, nz_append, hgz, e0, ← hs, if_pos hd0, if_pos hd0, if_pos hd1, if_pos hd1, if_pos hlt, if_pos hlt, w64 (x := s - 1) (by omega) (by omega), if_neg hs1, if_neg hs1, w64 (x := x - 1) (by omega) (by omega), hq, w64 (x := q) (by omega) (by omega), w64 (x := x + q) (by omega) (by omega), if_neg hbig, w64 (x := (d : Int) - 1) (by omega) (by omega)]
    exact h
def numV (L : List Int) (r : Int) : Int × Bool := if goodS L = true ∧ (0 ≤ r ∧ r ≤ 1000) then (nz L (r + 1), true) else (0, false)
theorem num_at (L : List Int) (r : Int) (K : Nat) (hK : 1000 < K) : spec_NumberOfRank.f K L r = some (numV L r) ∧ impl_NumberOfRank.f K L r = some (numV L r) := by
  obtain ⟨K, rfl⟩ : ∃ k, K = k + 1 := ⟨K - 1, by omega⟩
  unfold spec_NumberOfRank.f impl_NumberOfRank.f
  rw [cnGood_at L _ (by omega), areSteps_at, l1In_at]
  simp only [Option.bind_some, spec_NumberOfRank.j0, impl_NumberOfRank.j0]
  by_cases hg : goodS L = true
  · have hl := goodS_len hg
    by_cases hr : 0 ≤ r ∧ r ≤ 1000
    · have hp := pw_le L.length 12 hl
      rw [pw_12] at hp
      have hb : (r + 1) * pw L.length ≤ 5000000 := by
        have h1 := Int.mul_le_mul (show r + 1 ≤ 1001 by omega) hp (by have := pw_pos L.length; omega) (by omega)
        omega
      have h := num_l0 L hg L.length (r + 1) (by omega) (by omega) hb K (by omega)
      rw [List.take_length] at h
      have n1 : ¬ r < 0 := by omega
      have e : numV L r = (nz L (r + 1), true) := by unfold numV; rw [if_pos ⟨hg, hr⟩]
      rw [e, hg, decide_eq_true hr, if_neg n1, decide_eq_false (show ¬ r > 1000 by omega), w64 (x := r + 1) (by omega) (by omega), w64 (x := (L.length : Int) - 1) (by omega) (by omega), h.1, h.2]
      simp
    · have e : numV L r = (0, false) := by unfold numV; rw [if_neg (fun hh => hr hh.2)]
      rw [e, decide_eq_false hr, hg]
      by_cases h1 : r < 0
      · simp [h1]
      · have h2 : r > 1000 := by omega
        simp [h1, h2]
  · have e : numV L r = (0, false) := by unfold numV; rw [if_neg (fun hh => hg hh.1)]
    rw [e]
    simp [hg]
def leftV (L : List Int) (n : Int) : List Int × Bool := if goodS L = true ∧ (0 ≤ n ∧ n ≤ 400) then (cOut (up 1 1 n) L, true) else ([], false)
theorem leftV_pos {L : List Int} {n : Int} (hg : goodS L = true) (hr : 0 ≤ n ∧ n ≤ 400) : leftV L n = (cOut (up 1 1 n) L, true) := by unfold leftV; rw [if_pos ⟨hg, hr⟩]
theorem leftV_neg {L : List Int} {n : Int} (h : ¬ (goodS L = true ∧ (0 ≤ n ∧ n ≤ 400))) : leftV L n = ([], false) := by unfold leftV; rw [if_neg h]
theorem left_at (L : List Int) (n : Int) (K : Nat) (hK : 20100 < K) : spec_LeftByCounting.f K L n = some (leftV L n) ∧ impl_LeftByCounting.f K L n = some (leftV L n) := by
  obtain ⟨K, rfl⟩ : ∃ k, K = k + 1 := ⟨K - 1, by omega⟩
  unfold spec_LeftByCounting.f impl_LeftByCounting.f
  by_cases hg : goodS L = true
  · by_cases hr : 0 ≤ n ∧ n ≤ 400
    · have hul := up_len 1 1 n
      have hc := countedOut_at L hg (up 1 1 n) (by omega) K (by omega)
      have hu := upTo_at 1 1 n (by omega) (by omega) (by omega) (by omega) K (by omega)
      have hv := cnUp_at 1 1 n (by omega) (by omega) (by omega) (by omega) (K + 1) (by omega)
      have hs := left_l0 L hg L.length 0 (up 1 1 n) (by omega) (by omega) (K + 1) (by have := goodS_len hg; omega)
      have hs' : spec_cnLeft.l0 (K + 1) (up 1 1 n) L L.length 0 = _ := hs
      rw [leftV_pos hg hr, cnGood_at L _ (by omega), areSteps_at, cnMost_at, isAnew_at, hg, decide_eq_true hr]
      simp only [Option.bind_some, impl_LeftByCounting.j0, spec_cnLeft.f]
      rw [if_pos trivial, if_pos trivial, hv]
      simp only [Option.bind_some]
      rw [hs', if_pos trivial, if_neg (show ¬ ((!true) = true) by simp), hu]
      simp only [Option.bind_some]
      rw [hc]
      exact ⟨rfl, rfl⟩
    · rw [leftV_neg (fun h => hr h.2), cnGood_at L _ (by omega), areSteps_at, cnMost_at, isAnew_at]
      simp only [Option.bind_some, impl_LeftByCounting.j0]
      exact ⟨by simp [hg, hr], by simp [hg, hr]⟩
  · rw [leftV_neg (fun h => hg h.1), cnGood_at L _ (by omega), areSteps_at]
    simp only [Option.bind_some, impl_LeftByCounting.j0]
    exact ⟨by simp [hg], by simp [hg]⟩
theorem count_at (L : List Int) (n : Int) (K : Nat) (hK : 20100 < K) : spec_CountByCounting.f K L n = some (((leftV L n).1.length : Int), (leftV L n).2) ∧ impl_CountByCounting.f K L n = some (((leftV L n).1.length : Int), (leftV L n).2) := by
  obtain ⟨K, rfl⟩ : ∃ k, K = k + 1 := ⟨K - 1, by omega⟩
  unfold spec_CountByCounting.f impl_CountByCounting.f
  rw [cnGood_at L _ (by omega), areSteps_at, cnMost_at, isAnew_at]
  simp only [Option.bind_some, spec_CountByCounting.j0, impl_CountByCounting.j0]
  by_cases hg : goodS L = true
  · by_cases hr : 0 ≤ n ∧ n ≤ 400
    · have hul := up_len 1 1 n
      have hc := countedOut_at L hg (up 1 1 n) (by omega) K (by omega)
      have hu := upTo_at 1 1 n (by omega) (by omega) (by omega) (by omega) K (by omega)
      have hs := count_l0 L hg L.length 0 (up 1 1 n) n (by omega) (up_length n hr.1 hr.2) (by omega) K (by have := goodS_len hg; omega)
      have hs' : spec_CountByCounting.l0 K n L L.length 0 = _ := hs
      rw [leftV_pos hg hr]
      refine ⟨?_, ?_⟩
      · rw [hg, if_pos rfl, decide_eq_true hr, if_neg (show ¬ ((!true) = true) by simp), hs']; rfl
      · rw [hg, if_pos rfl, decide_eq_true hr, if_neg (show ¬ ((!true) = true) by simp), hu]
        simp only [Option.bind_some]
        rw [hc]; rfl
    · rw [leftV_neg (fun h => hr h.2)]
      exact ⟨by simp [hg, hr], by simp [hg, hr]⟩
  · rw [leftV_neg (fun h => hg h.1)]
    exact ⟨by simp [hg], by simp [hg]⟩
theorem rd_get (xs : List Int) (i : Nat) (h : i < xs.length) : rd xs (i : Int) = xs[i] := by simp [rd, List.getD, h]
theorem tSame_l0 (xs : List Int) (hx : xs.length ≤ 100000000) : ∀ (d i : Nat), i + d = xs.length → ∀ K, d < K → laws_tSame.l0 K xs xs xs.length i = some true := by
  intro d
  induction d with
  | zero =>
    intro i hi K hK
    obtain ⟨K, rfl⟩ : ∃ k, K = k + 1 := ⟨K - 1, by omega⟩
    simp only [laws_tSame.l0]
    rw [if_neg (by omega)]
  | succ d ih =>
    intro i hi K hK
    obtain ⟨K, rfl⟩ : ∃ k, K = k + 1 := ⟨K - 1, by omega⟩
    have h1 : (i : Int) < (xs.length : Int) := by omega
    have h0 : (0 : Int) ≤ (i : Int) := by omega
    simp only [laws_tSame.l0]
    rw [if_pos h1, if_pos h0, if_pos h1, if_pos h1, if_pos trivial, w64 (by omega) (by omega)]
    exact ih (i + 1) (by omega) K (by omega)
theorem tSame_at (xs : List Int) (hx : xs.length ≤ 10000) (K : Nat) (hK : 10000 < K) : laws_tSame.f K xs xs = some true := by
  unfold laws_tSame.f
  rw [if_pos rfl]
  exact tSame_l0 xs (by omega) xs.length 0 (by omega) K (by omega)
theorem tRises_l0 (xs : List Int) (a b : Int) (hx : xs.length ≤ 100000000) (hp : xs.Pairwise (· < ·)) (hm : ∀ x ∈ xs, a ≤ x ∧ x ≤ b) : ∀ (d i : Nat), i + d = xs.length → ∀ K, d < K → laws_tRises.l0 K xs a b xs xs.length i = some true := by
  intro d
  induction d with
  | zero =>
    intro i hi K hK
    obtain ⟨K, rfl⟩ : ∃ k, K = k + 1 := ⟨K - 1, by omega⟩
    simp only [laws_tRises.l0]
    rw [if_neg (by omega)]
  | succ d ih =>
    intro i hi K hK
    obtain ⟨K, rfl⟩ : ∃ k, K = k + 1 := ⟨K - 1, by omega⟩
    have h1 : (i : Int) < (xs.length : Int) := by omega
    have h0 : (0 : Int) ≤ (i : Int) := by omega
    have hi' : i < xs.length := by omega
    have hme := hm _ (rd_mem xs i hi')
    have n1 : ¬ (rd xs (i : Int) < a) := by omega
    have n2 : ¬ (rd xs (i : Int) > b) := by omega
    have h := ih (i + 1) (by omega) K (by omega)
    rw [show ((i + 1 : Nat) : Int) = (i : Int) + 1 from by omega] at h
    simp only [laws_tRises.l0]
    rw [if_pos h1, if_pos h0, if_pos h1, if_neg n1, if_neg n2, w64 (x := (i : Int) + 1) (by omega) (by omega)]
    cases i with
    | zero =>
      rw [if_neg (by omega)]
      exact h
    | succ j =>
      have e : ((j + 1 : Nat) : Int) - 1 = (j : Int) := by omega
      have hlt : rd xs (j : Int) < rd xs ((j + 1 : Nat) : Int) := by
        rw [rd_get xs j (by omega), rd_get xs (j + 1) hi']
        exact List.pairwise_iff_getElem.1 hp j (j + 1) (by omega) hi' (by omega)
      rw [if_pos (by omega), w64 (x := ((j + 1 : Nat) : Int) - 1) (by omega) (by omega), e, if_pos (by omega), if_pos (by omega), if_neg (by omega)]
      exact h
theorem tHas_l0 (xs : List Int) (n : Int) (hx : xs.length ≤ 100000000) : ∀ (d i : Nat), i + d = xs.length → ∀ K, d < K → laws_tHas.l0 K n xs xs.length i = some (decide (n ∈ xs.drop i)) := by
  intro d
  induction d with
  | zero =>
    intro i hi K hK
    obtain ⟨K, rfl⟩ : ∃ k, K = k + 1 := ⟨K - 1, by omega⟩
    simp only [laws_tHas.l0]
    rw [if_neg (by omega), List.drop_of_length_le (by omega)]
    simp
  | succ d ih =>
    intro i hi K hK
    obtain ⟨K, rfl⟩ : ∃ k, K = k + 1 := ⟨K - 1, by omega⟩
    have h1 : (i : Int) < (xs.length : Int) := by omega
    have h0 : (0 : Int) ≤ (i : Int) := by omega
    have h := ih (i + 1) (by omega) K (by omega)
    rw [show ((i + 1 : Nat) : Int) = (i : Int) + 1 from by omega] at h
    simp only [laws_tHas.l0]
    rw [if_pos h1, if_pos h0, if_pos h1, w64 (x := (i : Int) + 1) (by omega) (by omega), drop_rd xs i (by omega)]
    by_cases he : rd xs (i : Int) = n
    · rw [if_pos he]; simp [he]
    · rw [if_neg he, h]
      simp
      exact fun hh => absurd hh.symm he
theorem tHas_at (xs : List Int) (n : Int) (hx : xs.length ≤ 10000) (K : Nat) (hK : 10000 < K) : laws_tHas.f K xs n = some (decide (n ∈ xs)) :=
  tHas_l0 xs n (by omega) xs.length 0 (by omega) K (by omega)
theorem upn_get (hi : Int) : ∀ (d : Nat) (a : Int) (j : Nat), j < d → a + j ≤ hi → (upn hi 1 d a)[j]? = some (a + j)
  | 0, _, _, h, _ => absurd h (Nat.not_lt_zero _)
  | d + 1, a, 0, _, h2 => by
    unfold upn
    rw [if_pos (by omega)]
    simp
  | d + 1, a, j + 1, h1, h2 => by
    unfold upn
    rw [if_pos (by omega), List.getElem?_cons_succ, upn_get hi d (a + 1) j (by omega) (by omega)]
    congr 1
    omega
theorem upn_rises (hi s : Int) (hs : 1 ≤ s) : ∀ (d : Nat) (a : Int), (upn hi s d a).Pairwise (· < ·)
  | 0, _ => List.Pairwise.nil
  | d + 1, a => by
    unfold upn
    split
    · refine List.Pairwise.cons (fun x hx => ?_) (upn_rises hi s hs d (a + s))
      have := upn_mem hi s hs d (a + s) x hx
      omega
    · exact List.Pairwise.nil
theorem up_get (m n : Int) (hm : m ≤ 400) (h1 : 1 ≤ n) (h2 : n ≤ m) : (up 1 1 m)[(n - 1).toNat]? = some n := by
  unfold up
  rw [upn_get m 1000 1 (n - 1).toNat (by omega) (by omega)]
  congr 1
  omega
theorem rankV_nz {t : List Int} (hg : goodS t = true) (q : Int) (h1 : 1 ≤ q) (h2 : nz t q ≤ 10000) : rankV t (nz t q) = (q - 1, true) := by
  have hz := fz_nz t (good2 hg) 0 q h1
  have hge := nz_ge t (good2 hg) q h1
  unfold rankV
  rw [hz, if_pos ⟨hg, ⟨by omega, h2⟩, by show (-1 : Int) < 0; omega⟩]
theorem j6_at (t : List Int) (r : Int) (K : Nat) (hK : 1010 < K) : laws_FnCountedAnewOfAll.j6 K t r (numV t r).1 (numV t r).2 false = some true := by
  obtain ⟨K, rfl⟩ : ∃ k, K = k + 1 := ⟨K - 1, by omega⟩
  simp only [laws_FnCountedAnewOfAll.j6]
  rw [if_neg (by simp)]
  by_cases h : goodS t = true ∧ (0 ≤ r ∧ r ≤ 1000)
  · have e : numV t r = (nz t (r + 1), true) := by unfold numV; rw [if_pos h]
    rw [e]
    by_cases hb : nz t (r + 1) ≤ 10000
    · have hv := rankV_nz h.1 (r + 1) (by omega) hb
      have hr : r + 1 - 1 = r := by omega
      rw [hr] at hv
      simp only []
      rw [if_pos trivial, if_pos hb, (falls_at t (nz t (r + 1)) K (by omega)).2.2.2, hv]
      simp
    · simp only []
      rw [if_pos trivial, if_neg hb]
  · have e : numV t r = (0, false) := by unfold numV; rw [if_neg h]
    rw [e, if_neg (by simp)]
theorem j5_at (s : List Int) (n : Int) (t : List Int) (r : Int) (K : Nat) (hK : 1020 < K) : laws_FnCountedAnewOfAll.j5 K s n t r = some true := by
  obtain ⟨K, rfl⟩ : ∃ k, K = k + 1 := ⟨K - 1, by omega⟩
  obtain ⟨f1, f2, f3, f4⟩ := falls_at s n K (by omega)
  obtain ⟨f5, f6⟩ := num_at t r K (by omega)
  simp only [laws_FnCountedAnewOfAll.j5]
  rw [f2, f1, f4, f3, f6, f5]
  simp only [Option.bind_some, bne_self_eq_false]
  rw [if_neg (by simp), if_pos trivial, if_neg (by simp), if_pos trivial, if_neg (by simp)]
  exact j6_at t r K (by omega)
theorem cOut_last (st U : List Int) (j : Nat) (h : st.length = j + 1) : cOut U st = outk (rd st (j : Int)) 0 (cOut U (st.take j)) := by
  have e : st = st.take j ++ [rd st (j : Int)] := by
    rw [← take_rd st j (by omega), List.take_of_length_le (by omega)]
  have e2 : cOut U (st.take j ++ [rd st (j : Int)]) = outk (rd st (j : Int)) 0 (cOut U (st.take j)) := by
    unfold cOut
    rw [List.foldl_append]
    rfl
  rw [← e] at e2
  exact e2
theorem good_take {st : List Int} (hg : goodS st = true) (j : Nat) : goodS (st.take j) = true := by
  have hl := goodS_len hg
  have h2 := List.length_take_le' j st
  unfold goodS at hg ⊢
  simp only [Bool.and_eq_true, decide_eq_true_eq, List.all_eq_true] at hg ⊢
  exact ⟨by omega, fun x hx => hg.2 x (List.mem_of_mem_take hx)⟩
theorem after_at (st : List Int) (hg : goodS st = true) (m : Int) (hm : 0 ≤ m ∧ m ≤ 400) (s : List Int) (n : Int) (t : List Int) (r x : Int) (hx : ¬ x ≤ m) (K : Nat) (hK : 30000 < K) :
    laws_FnCountedAnewOfAll.l0 K st m s n t r (cOut (up 1 1 m) st) (cOut (up 1 1 m) st).length x = some true := by
  obtain ⟨K, rfl⟩ : ∃ k, K = k + 1 := ⟨K - 1, by omega⟩
  have hl := goodS_len hg
  simp only [laws_FnCountedAnewOfAll.l0]
  rw [if_neg hx]
  by_cases h0 : 0 < st.length
  · obtain ⟨j, hj⟩ : ∃ j, st.length = j + 1 := ⟨st.length - 1, by omega⟩
    have hme := goodS_mem hg _ (rd_mem st j (by omega))
    have hlast := cOut_last st (up 1 1 m) j hj
    have hul := up_len 1 1 m
    have hbl := cOut_len (st.take j) (up 1 1 m)
    have e1 : wrap64 ((st.length : Int) - 1) = (j : Int) := by rw [w64 (by omega) (by omega)]; omega
    obtain ⟨k, hk⟩ : ∃ k, k = rd st (j : Int) := ⟨_, rfl⟩
    rw [← hk] at hme hlast
    obtain ⟨B, hB⟩ : ∃ B, B = cOut (up 1 1 m) (st.take j) := ⟨_, rfl⟩
    have hol := outk_length k (by omega) B 0 (Int.le_refl _)
    rw [← hB] at hlast hbl
    rw [Int.zero_add, Int.zero_ediv, Int.sub_zero] at hol
    have hq0 : 0 ≤ (B.length : Int) / k := Int.ediv_nonneg (by omega) (by omega)
    have hq1 : (B.length : Int) / k ≤ (B.length : Int) := Int.ediv_le_self _ (by omega)
    have p1 : (st.length : Int) > 0 := by omega
    have p2 : (0 : Int) ≤ (j : Int) := by omega
    have p3 : (j : Int) ≤ (st.length : Int) := by omega
    have p4 : (j : Int) < (st.length : Int) := by omega
    have p5 : ¬ k = 0 := by omega
    rw [e1, if_pos p1, if_pos p2, if_pos p3, Int.toNat_natCast, (left_at (st.take j) m K (by omega)).2, leftV_pos (good_take hg j) hm, ← hB]
    simp only [Option.bind_some]
    rw [if_pos p4, if_pos trivial, ← hk, if_neg p5, w64 (x := (B.length : Int) / k) (by omega) (by omega), w64 (x := (B.length : Int) - (B.length : Int) / k) (by omega) (by omega), hlast, if_pos hol]
    exact j5_at s n t r K (by omega)
  · rw [if_neg (by omega)]
    exact j5_at s n t r K (by omega)
theorem round_at (st : List Int) (hg : goodS st = true) (m : Int) (hm : 0 ≤ m ∧ m ≤ 400) (s : List Int) (n : Int) (t : List Int) (r : Int) : ∀ (d : Nat) (x : Int), 1 ≤ x → m + 1 - x ≤ d → ∀ K, 30000 + 2 * d < K →
    laws_FnCountedAnewOfAll.l0 K st m s n t r (cOut (up 1 1 m) st) (cOut (up 1 1 m) st).length x = some true := by
  intro d
  induction d with
  | zero =>
    intro x h1 h2 K hK
    exact after_at st hg m hm s n t r x (by omega) K (by omega)
  | succ d ih =>
    intro x h1 h2 K hK
    by_cases hx : x ≤ m
    · obtain ⟨K, rfl⟩ : ∃ k, K = k + 1 := ⟨K - 1, by omega⟩
      obtain ⟨K, rfl⟩ : ∃ k, K = k + 1 := ⟨K - 1, by omega⟩
      have h := ih (x + 1) (by omega) (by omega) K (by omega)
      have h2l := good2 hg
      have hul := up_length m hm.1 hm.2
      have hul2 := up_len 1 1 m
      have hcl := cOut_len st (up 1 1 m)
      have hxg := up_get m x hm.2 h1 hx
      obtain ⟨f1, f2, f3, f4⟩ := falls_at st x (K + 1) (by omega)
      have hH := tHas_at (cOut (up 1 1 m) st) x (by omega) (K + 1) (by omega)
      have hw : wrap64 (x + 1) = x + 1 := w64 (by omega) (by omega)
      simp only [laws_FnCountedAnewOfAll.l0]
      rw [if_pos hx, f2, f4]
      simp only [Option.bind_some]
      by_cases hz : (fz st 0 x).1 < 0
      · obtain ⟨hz0, hzn⟩ := nz_fz st h2l 0 x (Int.le_refl _) h1 hz
        have hat := cOut_at st h2l (up 1 1 m) 0 x h1 (by omega) hz (Int.le_refl _)
        have e1 : stepV st x = (0, false) := by unfold stepV; rw [if_neg (fun hh => hh.2.2 hz)]
        have e2 : rankV st x = ((fz st 0 x).2, true) := by unfold rankV; rw [if_pos ⟨hg, ⟨h1, by omega⟩, hz⟩]
        rw [hxg] at hat
        obtain ⟨q, hq⟩ : ∃ q, q = (fz st 0 x).2 := ⟨_, rfl⟩
        rw [← hq] at hz0 hzn hat e2
        obtain ⟨hlt, hge⟩ := List.getElem?_eq_some_iff.1 hat
        have hmem : x ∈ cOut (up 1 1 m) st := by rw [← hge]; exact List.getElem_mem _
        have hql : q < ((cOut (up 1 1 m) st).length : Int) := by omega
        have hrd : rd (cOut (up 1 1 m) st) q = x := by
          have := rd_get (cOut (up 1 1 m) st) q.toNat hlt
          rw [Int.toNat_of_nonneg hz0] at this
          rw [this, hge]
        have hnv : numV st q = (x, true) := by unfold numV; rw [if_pos ⟨hg, hz0, by omega⟩, hzn]
        rw [e1, e2, hH, decide_eq_true hmem, hrd]
        simp only [Option.bind_some, bne_self_eq_false]
        rw [if_neg (show ¬ ((false == true) = true) by decide), if_neg (by simp), if_neg (by simp), if_pos trivial, if_pos hz0, if_pos hql]
        simp only [laws_FnCountedAnewOfAll.j4]
        rw [if_neg (by simp), if_pos trivial, (num_at st q K (by omega)).2, hnv]
        simp only [Option.bind_some]
        rw [if_pos trivial, if_pos trivial, hw]
        exact h
      · have e1 : stepV st x = ((fz st 0 x).1, true) := by unfold stepV; rw [if_pos ⟨hg, ⟨h1, by omega⟩, hz⟩]
        have e2 : rankV st x = (0, false) := by unfold rankV; rw [if_neg (fun hh => hz hh.2.2)]
        have hra : 0 ≤ (fz st 0 x).1 ∧ (fz st 0 x).1 < st.length := by
          rcases fz_range st 0 x (Int.le_refl _) with hh | hh <;> omega
        have hnm : ¬ x ∈ cOut (up 1 1 m) st := by
          intro hmem
          obtain ⟨j, hj, hje⟩ := List.mem_iff_getElem.1 hmem
          have hb := cOut_nz st h2l (up 1 1 m) (j + 1) (by omega) (by omega)
          have hbk := cOut_back st h2l (up 1 1 m) (j + 1) (by omega) (by omega)
          have hge := nz_ge st h2l (j + 1) (by omega)
          rw [up_get m (nz st (j + 1)) hm.2 (by omega) (by omega), show ((j : Int) + 1 - 1).toNat = j from by omega, List.getElem?_eq_getElem hj, hje] at hb
          have hxe : x = nz st (j + 1) := by injection hb
          have hf := fz_nz st h2l 0 (j + 1) (by omega)
          rw [← hxe] at hf
          rw [hf] at hz
          exact hz (by show (-1 : Int) < 0; omega)
        obtain ⟨q, hq⟩ : ∃ q, q = (fz st 0 x).1 := ⟨_, rfl⟩
        rw [← hq] at hra e1
        have n1 : ¬ q < 0 := by omega
        have n2 : ¬ q ≥ (st.length : Int) := by omega
        rw [e1, e2, hH, decide_eq_false hnm]
        simp only [Option.bind_some, bne_self_eq_false]
        rw [if_neg (show ¬ ((true == false) = true) by decide), if_neg (by simp), if_pos trivial, if_neg n1, if_neg n2, if_neg (by simp)]
        simp only [laws_FnCountedAnewOfAll.j4]
        rw [if_neg (by simp), if_neg (by simp), hw]
        exact h
    · exact after_at st hg m hm s n t r x hx K (by omega)
theorem j1_at (st : List Int) (m : Int) (s : List Int) (n : Int) (t : List Int) (r : Int) (K : Nat) (hK : 40000 < K) : laws_FnCountedAnewOfAll.j1 K st m s n t r (leftV st m).1 (leftV st m).2 (leftV st m).1.length false = some true := by
  obtain ⟨K, rfl⟩ : ∃ k, K = k + 1 := ⟨K - 1, by omega⟩
  obtain ⟨K, rfl⟩ : ∃ k, K = k + 1 := ⟨K - 1, by omega⟩
  simp only [laws_FnCountedAnewOfAll.j1]
  rw [if_neg (by simp)]
  by_cases h : goodS st = true ∧ (0 ≤ m ∧ m ≤ 400)
  · have hul := up_len 1 1 m
    have hcl := cOut_len st (up 1 1 m)
    have hp : (cOut (up 1 1 m) st).Pairwise (· < ·) := (upn_rises m 1 (by omega) 1000 1).sublist (cOut_sub st _)
    have hme : ∀ x ∈ cOut (up 1 1 m) st, 1 ≤ x ∧ x ≤ m := fun x hx => upn_mem m 1 (by omega) 1000 1 x ((cOut_sub st _).subset hx)
    have hr := tRises_l0 (cOut (up 1 1 m) st) 1 m (by omega) hp hme (cOut (up 1 1 m) st).length 0 (by omega) (K + 1) (by omega)
    have hr' : laws_tRises.l0 (K + 1) (cOut (up 1 1 m) st) 1 m (cOut (up 1 1 m) st) (cOut (up 1 1 m) st).length 0 = _ := hr
    rw [leftV_pos h.1 h.2]
    simp only []
    rw [if_pos trivial, if_pos trivial]
    simp only [laws_tRises.f]
    rw [hr']
    simp only [Option.bind_some, laws_FnCountedAnewOfAll.j2]
    rw [if_neg (by simp)]
    exact round_at st h.1 m h.2 s n t r 400 1 (by omega) (by omega) K (by omega)
  · rw [leftV_neg h, if_neg (by simp)]
    exact j5_at s n t r (K + 1) (by omega)
theorem j0_at (st : List Int) (m : Int) (s : List Int) (n : Int) (t : List Int) (r : Int) (K : Nat) (hK : 40010 < K) : laws_FnCountedAnewOfAll.j0 K st m s n t r false = some true := by
  obtain ⟨K, rfl⟩ : ∃ k, K = k + 1 := ⟨K - 1, by omega⟩
  have hj := j1_at st m s n t r K (by omega)
  have hlen : (leftV st m).1.length ≤ 10000 := by
    by_cases h : goodS st = true ∧ (0 ≤ m ∧ m ≤ 400)
    · rw [leftV_pos h.1 h.2]
      have hul := up_len 1 1 m
      have hcl := cOut_len st (up 1 1 m)
      show (cOut (up 1 1 m) st).length ≤ _
      omega
    · rw [leftV_neg h]; simp
  have e1 : impl_IsStepList.f st = some (goodS st) := by unfold impl_IsStepList.f; rw [areSteps_at]; rfl
  have e2 : spec_IsStepList.f K st = some (goodS st) := by unfold spec_IsStepList.f; rw [cnGood_at st _ (by omega)]; rfl
  simp only [laws_FnCountedAnewOfAll.j0]
  rw [if_neg (by simp), (left_at st m K (by omega)).1, (left_at st m K (by omega)).2, (count_at st m K (by omega)).1, (count_at st m K (by omega)).2]
  simp only [Option.bind_some, bne_self_eq_false]
  rw [if_neg (by simp), tSame_at _ hlen K (by omega)]
  simp only [Option.bind_some]
  rw [if_pos trivial, if_neg (by simp), if_pos trivial, if_neg (by simp), e1, e2]
  simp only [Option.bind_some, bne_self_eq_false]
  by_cases h : goodS st = true ∧ (0 ≤ m ∧ m ≤ 400)
  · have e : (leftV st m).2 = true := by rw [leftV_pos h.1 h.2]
    rw [if_pos e, if_pos h.1]
    exact hj
  · have e : ¬ (leftV st m).2 = true := by rw [leftV_neg h]; simp
    rw [if_neg e]
    exact hj

theorem done : laws_FnCountedAnewOfAll.Pure := by
  intro l0 a1 l2 a3 l4 a5 _ _ _ _ _ _ _ _ _ _ _ _
  refine ⟨1000000000, ?_⟩
  have ht : laws_FnCountedAnewOfAll.j0 1000000000 l0 a1 l2 a3 l4 a5 true = some true := by
    show laws_FnCountedAnewOfAll.j0 (999999999 + 1) l0 a1 l2 a3 l4 a5 true = some true
    simp only [laws_FnCountedAnewOfAll.j0]
    rw [if_pos trivial]
  unfold laws_FnCountedAnewOfAll.f
  by_cases h0 : (l0.length : Int) > 10000
  · rw [if_pos h0, ht]
  · rw [if_neg h0]
    by_cases h2 : (l2.length : Int) > 10000
    · rw [if_pos h2, ht]
    · rw [if_neg h2]
      by_cases h4 : (l4.length : Int) > 10000
      · rw [decide_eq_true h4, ht]
      · rw [decide_eq_false h4]
        exact j0_at l0 a1 l2 a3 l4 a5 1000000000 (by omega)
end OwnFnCountedAnewOfAll
theorem FnCountedAnewOfAll : laws_FnCountedAnewOfAll.Pure := OwnFnCountedAnewOfAll.done
end Go.Proofs.Ytnhlhfkpkpbekaa.Pure
