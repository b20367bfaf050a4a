/- IsLucky of the program and of the reference answer alike at every number: no condition. -/
import Derived.Test.YtapcnidappknnaaPFnExactIsLuckyx2
namespace Go.Proofs.Ytapcnidappknnaa.Pure
open Go.RowKit Go.Proofs.Ytapcnidappknnaa.PFnExactIsLucky Go.Proofs.YtapcnidappknnaaW.PrintWords Go.Proofs.YtapcnidappknnaaW.PrintLast Go.Proofs.YtapcnidappknnaaW.PrintMore
set_option linter.unusedVariables false
set_option linter.unusedSimpArgs false
namespace OwnFnExactIsLucky
theorem w64 {x : Int} (h0 : -9223372036854775808 ≤ x) (h1 : x ≤ 9223372036854775807) : wrap64 x = x := by unfold wrap64; omega
theorem l1In_at (n a b : Int) : spec_l1In.f n a b = some (decide (a ≤ n ∧ n ≤ b)) := by
  unfold spec_l1In.f
  by_cases h : a ≤ n
  · rw [if_pos (by omega)]; simp [h]
  · rw [if_neg (by omega)]; simp [h]
theorem drop_rd (xs : List Int) (i : Nat) (h : i < xs.length) : xs.drop i = rd xs (i : Int) :: xs.drop (i + 1) := by
  rw [List.drop_eq_getElem_cons h]
  simp [rd, List.getD, h]
theorem rd_mem (xs : List Int) (i : Nat) (h : i < xs.length) : rd xs (i : Int) ∈ xs := by
  simp [rd, List.getD, h]
/-- The numbers from n on up to hi by s, d at most. -/
def upn (hi s : Int) : Nat → Int → List Int
  | 0, _ => []
  | d + 1, n => if n ≤ hi then n :: upn hi s d (n + s) else []
theorem upn_len (hi s : Int) : ∀ (d : Nat) (n : Int), (upn hi s d n).length ≤ d
  | 0, _ => Nat.le_refl _
  | d + 1, n => by
    unfold upn
    have := upn_len hi s d (n + s)
    split
    · simp; omega
    · simp
theorem upn_mem (hi s : Int) (hs : 1 ≤ s) : ∀ (d : Nat) (n x : Int), x ∈ upn hi s d n → n ≤ x ∧ x ≤ hi
  | 0, n, x, h => by cases h
  | d + 1, n, x, h => by
    unfold upn at h
    split at h
    · rcases List.mem_cons.1 h with rfl | h
      · omega
      · have := upn_mem hi s hs d (n + s) x h
        omega
    · cases h
/-- The list of 0 to 400 numbers from a on. -/
def up (a s hi : Int) : List Int := upn hi s 1000 a
theorem up_len (a s hi : Int) : (up a s hi).length ≤ 1000 := upn_len hi s 1000 a
theorem upTo_l0 (hi s : Int) (hs : 1 ≤ s) (hs2 : s ≤ 2) (hh : hi ≤ 400) : ∀ (d : Nat) (n : Int) (acc : List Int), 0 ≤ n → hi + 1 - n ≤ d → acc.length + d ≤ 2000000 →
    ∀ K, d < K → impl_upTo.l0 K hi s acc n = some (acc ++ upn hi s d n) := by
  intro d
  induction d with
  | zero =>
    intro n acc h0 h1 h2 K hK
    obtain ⟨K, rfl⟩ : ∃ k, K = k + 1 := ⟨K - 1, by omega⟩
    have hc : ¬ n ≤ hi := by omega
    simp only [impl_upTo.l0]
    rw [if_neg hc]
    simp [upn]
  | succ d ih =>
    intro n acc h0 h1 h2 K hK
    obtain ⟨K, rfl⟩ : ∃ k, K = k + 1 := ⟨K - 1, by omega⟩
    simp only [impl_upTo.l0]
    unfold upn
    by_cases hc : n ≤ hi
    · have hl : acc.length < 17592186044416 := by omega
      have h := ih (n + s) (acc ++ [n]) (by omega) (by omega) (by simp; omega) K (by omega)
      rw [if_pos hc, if_pos hc, if_pos hl, w64 (x := n + s) (by omega) (by omega), h]
      simp
    · rw [if_neg hc, if_neg hc]
      simp
theorem upTo_at (a s hi : Int) (ha : 0 ≤ a) (hs : 1 ≤ s) (hs2 : s ≤ 2) (hh : hi ≤ 400) (K : Nat) (hK : 10000 < K) : impl_upTo.f K a hi s = some (up a s hi) := by
  have h := upTo_l0 hi s hs hs2 hh 1000 a [] ha (by omega) (by simp) K (by omega)
  unfold impl_upTo.f up
  rw [h]; rfl
theorem cnUp_l0 (hi s : Int) (hs : 1 ≤ s) (hs2 : s ≤ 2) (hh : hi ≤ 400) : ∀ (d : Nat) (n : Int) (acc : List Int), 0 ≤ n → hi + 1 - n ≤ d → acc.length + d ≤ 2000000 →
    ∀ K, d < K → spec_cnUp.l0 K s hi acc n = some (acc ++ upn hi s d n) := by
  intro d
  induction d with
  | zero =>
    intro n acc h0 h1 h2 K hK
    obtain ⟨K, rfl⟩ : ∃ k, K = k + 1 := ⟨K - 1, by omega⟩
    have hc : ¬ n ≤ hi := by omega
    simp only [spec_cnUp.l0]
    rw [if_neg hc]
    simp [upn]
  | succ d ih =>
    intro n acc h0 h1 h2 K hK
    obtain ⟨K, rfl⟩ : ∃ k, K = k + 1 := ⟨K - 1, by omega⟩
    simp only [spec_cnUp.l0]
    unfold upn
    by_cases hc : n ≤ hi
    · have hl : acc.length < 17592186044416 := by omega
      have h := ih (n + s) (acc ++ [n]) (by omega) (by omega) (by simp; omega) K (by omega)
      rw [if_pos hc, if_pos hc, if_pos hl, w64 (x := n + s) (by omega) (by omega), h]
      simp
    · rw [if_neg hc, if_neg hc]
      simp
theorem cnUp_at (a s hi : Int) (ha : 0 ≤ a) (hs : 1 ≤ s) (hs2 : s ≤ 2) (hh : hi ≤ 400) (K : Nat) (hK : 10000 < K) : spec_cnUp.f K a s hi = some (up a s hi) := by
  have h := cnUp_l0 hi s hs hs2 hh 1000 a [] ha (by omega) (by simp) K (by omega)
  unfold spec_cnUp.f up
  rw [h]; rfl
/-- A list without each k-th number, its first one at place i. -/
def outk (k : Int) : Int → List Int → List Int
  | _, [] => []
  | i, x :: xs => if Int.tmod (i + 1) k = 0 then outk k (i + 1) xs else x :: outk k (i + 1) xs
theorem outk_len (k : Int) : ∀ (L : List Int) (i : Int), (outk k i L).length ≤ L.length
  | [], _ => Nat.le_refl _
  | x :: xs, i => by
    unfold outk
    have := outk_len k xs (i + 1)
    split
    · simp; omega
    · simp; omega
theorem outk_mem (k : Int) : ∀ (L : List Int) (i x : Int), x ∈ outk k i L → x ∈ L
  | [], _, _, h => h
  | y :: ys, i, x, h => by
    unfold outk at h
    split at h
    · exact List.mem_cons_of_mem _ (outk_mem k ys (i + 1) x h)
    · rcases List.mem_cons.1 h with rfl | h
      · simp
      · exact List.mem_cons_of_mem _ (outk_mem k ys (i + 1) x h)
theorem without_l0 (k : Int) (hk : k ≠ 0) (L : List Int) (hL : L.length ≤ 100000) : ∀ (d i : Nat) (acc : List Int), i + d = L.length → acc.length ≤ i →
    ∀ K, d < K → impl_withoutEach.l0 K k acc L L.length i = some (acc ++ outk k i (L.drop i)) := by
  intro d
  induction d with
  | zero =>
    intro i acc hi ha K hK
    obtain ⟨K, rfl⟩ : ∃ k, K = k + 1 := ⟨K - 1, by omega⟩
    have hc : ¬ (i : Int) < (L.length : Int) := by omega
    simp only [impl_withoutEach.l0]
    rw [if_neg hc, List.drop_of_length_le (by omega)]
    simp [outk]
  | succ d ih =>
    intro i acc hi ha K hK
    obtain ⟨K, rfl⟩ : ∃ k, K = k + 1 := ⟨K - 1, by omega⟩
    have hlt : (i : Int) < (L.length : Int) := by omega
    have hi0 : (0 : Int) ≤ (i : Int) := by omega
    have hl : acc.length < 17592186044416 := by omega
    simp only [impl_withoutEach.l0]
    rw [if_pos hlt, if_pos hi0, if_pos hlt, if_neg hk, w64 (x := (i : Int) + 1) (by omega) (by omega), drop_rd L i (by omega)]
    unfold outk
    by_cases hm : Int.tmod ((i : Int) + 1) k = 0
    · have h := ih (i + 1) acc (by omega) (by omega) K (by omega)
      rw [show ((i + 1 : Nat) : Int) = (i : Int) + 1 from by omega] at h
      rw [if_pos hm, if_pos hm]
      exact h
    · have h := ih (i + 1) (acc ++ [rd L (i : Int)]) (by omega) (by simp; omega) K (by omega)
      rw [show ((i + 1 : Nat) : Int) = (i : Int) + 1 from by omega] at h
      rw [if_neg hm, if_neg hm, if_pos hl, h]
      simp
theorem without_at (k : Int) (hk : k ≠ 0) (L : List Int) (hL : L.length ≤ 5000) (K : Nat) (hK : 10000 < K) : impl_withoutEach.f K L k = some (outk k 0 L) := by
  have h := without_l0 k hk L (by omega) L.length 0 [] (by omega) (by simp) K (by omega)
  unfold impl_withoutEach.f
  simpa using h
theorem cnOut_l0 (k : Int) (hk : k ≠ 0) (L : List Int) (hL : L.length ≤ 100000) : ∀ (d i : Nat) (acc : List Int), i + d = L.length → acc.length ≤ i →
    ∀ K, d < K → spec_cnOut.l0 K k acc L L.length i = some (acc ++ outk k i (L.drop i)) := by
  intro d
  induction d with
  | zero =>
    intro i acc hi ha K hK
    obtain ⟨K, rfl⟩ : ∃ k, K = k + 1 := ⟨K - 1, by omega⟩
    have hc : ¬ (i : Int) < (L.length : Int) := by omega
    simp only [spec_cnOut.l0]
    rw [if_neg hc, List.drop_of_length_le (by omega)]
    simp [outk]
  | succ d ih =>
    intro i acc hi ha K hK
    obtain ⟨K, rfl⟩ : ∃ k, K = k + 1 := ⟨K - 1, by omega⟩
    have hlt : (i : Int) < (L.length : Int) := by omega
    have hi0 : (0 : Int) ≤ (i : Int) := by omega
    have hl : acc.length < 17592186044416 := by omega
    simp only [spec_cnOut.l0]
    rw [if_pos hlt, if_pos hi0, if_pos hlt, if_neg hk, w64 (x := (i : Int) + 1) (by omega) (by omega), drop_rd L i (by omega)]
    unfold outk
    by_cases hm : Int.tmod ((i : Int) + 1) k = 0
    · have h := ih (i + 1) acc (by omega) (by omega) K (by omega)
      rw [show ((i + 1 : Nat) : Int) = (i : Int) + 1 from by omega] at h
      rw [if_pos hm, if_pos hm]
      exact h
    · have h := ih (i + 1) (acc ++ [rd L (i : Int)]) (by omega) (by simp; omega) K (by omega)
      rw [show ((i + 1 : Nat) : Int) = (i : Int) + 1 from by omega] at h
      rw [if_neg hm, if_neg hm, if_pos hl, h]
      simp
theorem cnOut_at (k : Int) (hk : k ≠ 0) (L : List Int) (hL : L.length ≤ 5000) (K : Nat) (hK : 10000 < K) : spec_cnOut.f K L k = some (outk k 0 L) := by
  have h := cnOut_l0 k hk L (by omega) L.length 0 [] (by omega) (by simp) K (by omega)
  unfold spec_cnOut.f
  simpa using h
theorem own_l0 : ∀ (d at_ : Nat) (L st : List Int), L.length + 1 - at_ ≤ d → L.length ≤ 2000 → st.length ≤ at_ → at_ ≤ 3000 → (∀ x ∈ L, 1 ≤ x) →
    ∃ g t : List Int, g.length ≤ 2000 ∧ t.length ≤ 6000 ∧ ∀ K, 10001 + d < K → spec_cnOwn.l0 K L at_ st = some (g, t) ∧ impl_luckyFrom.l0 K L st at_ = some (g, t) := by
  intro d
  induction d with
  | zero =>
    intro at_ L st hd hL hs ha hm
    refine ⟨L, st, hL, by omega, fun K hK => ?_⟩
    obtain ⟨K, rfl⟩ : ∃ k, K = k + 1 := ⟨K - 1, by omega⟩
    have hc : ¬ (at_ : Int) < (L.length : Int) := by omega
    simp only [spec_cnOwn.l0, impl_luckyFrom.l0]
    rw [if_neg hc, if_neg hc]
    exact ⟨rfl, rfl⟩
  | succ d ih =>
    intro at_ L st hd hL hs ha hm
    by_cases hc : (at_ : Int) < (L.length : Int)
    · have h0 : (0 : Int) ≤ (at_ : Int) := by omega
      have hk := hm _ (rd_mem L at_ (by omega))
      by_cases hx : rd L (at_ : Int) ≤ (L.length : Int)
      · have hl := outk_len (rd L (at_ : Int)) L 0
        obtain ⟨g, t, hg, ht, hv⟩ := ih (at_ + 1) (outk (rd L (at_ : Int)) 0 L) (st ++ [rd L (at_ : Int)]) (by omega) (by omega) (by simp; omega) (by omega) (fun x hx => hm x (outk_mem _ _ _ _ hx))
        refine ⟨g, t, hg, ht, fun K hK => ?_⟩
        obtain ⟨K, rfl⟩ : ∃ k, K = k + 1 := ⟨K - 1, by omega⟩
        have h := hv K (by omega)
        rw [show ((at_ + 1 : Nat) : Int) = (at_ : Int) + 1 from by omega] at h
        have h3 : st.length < 17592186044416 := by omega
        simp only [spec_cnOwn.l0, impl_luckyFrom.l0]
        rw [if_pos hc, if_pos hc, if_pos h0, if_pos h0, if_pos hx, if_pos hx, if_pos h3, if_pos h3, cnOut_at _ (by omega) L (by omega) K (by omega), without_at _ (by omega) L (by omega) K (by omega), w64 (by omega) (by omega)]
        exact h
      · refine ⟨L, st, hL, by omega, fun K hK => ?_⟩
        obtain ⟨K, rfl⟩ : ∃ k, K = k + 1 := ⟨K - 1, by omega⟩
        simp only [spec_cnOwn.l0, impl_luckyFrom.l0]
        rw [if_pos hc, if_pos hc, if_pos h0, if_pos h0, if_neg hx, if_neg hx]
        exact ⟨rfl, rfl⟩
    · refine ⟨L, st, hL, by omega, fun K hK => ?_⟩
      obtain ⟨K, rfl⟩ : ∃ k, K = k + 1 := ⟨K - 1, by omega⟩
      simp only [spec_cnOwn.l0, impl_luckyFrom.l0]
      rw [if_neg hc, if_neg hc]
      exact ⟨rfl, rfl⟩
theorem own_at (L : List Int) (hL : L.length ≤ 1000) (hm : ∀ x ∈ L, 1 ≤ x) : ∃ g t : List Int, g.length ≤ 2000 ∧ t.length ≤ 6000 ∧ ∀ K, 20000 < K → spec_cnOwn.f K L 1 = some (g, t) ∧ impl_luckyFrom.f K L = some (g, t) := by
  obtain ⟨g, t, hg, ht, hv⟩ := own_l0 3000 1 L [] (by omega) (by omega) (by simp) (by omega) hm
  exact ⟨g, t, hg, ht, fun K hK => hv K (by omega)⟩
theorem lucky_at (n : Int) (h0 : 0 ≤ n) (hn : n ≤ 400) : ∃ g t : List Int, g.length ≤ 2000 ∧ t.length ≤ 6000 ∧ ∀ K, 20000 < K → spec_cnOwn.f K (up 1 2 n) 1 = some (g, t) ∧ impl_lucky.f K n = some (g, if n ≥ 2 then 2 :: t else t) := by
  obtain ⟨g, t, hg, ht, hv⟩ := own_at (up 1 2 n) (up_len 1 2 n) (fun x hx => by have := upn_mem n 2 (by omega) 1000 1 x hx; omega)
  refine ⟨g, t, hg, ht, fun K hK => ?_⟩
  have h := hv K (by omega)
  refine ⟨h.1, ?_⟩
  unfold impl_lucky.f
  rw [upTo_at 1 2 n (by omega) (by omega) (by omega) (by omega) K (by omega)]
  simp only [Option.bind_some]
  rw [h.2]
  simp only [Option.bind_some]
  by_cases h2 : n ≥ 2
  · rw [if_pos h2, if_pos h2, if_pos (by simp; omega)]; rfl
  · rw [if_neg h2, if_neg h2]
theorem has_l0 (n : Int) (L : List Int) (hL : L.length ≤ 5000) : ∀ (d i : Nat), i + d = L.length → ∃ b : Int, -1 ≤ b ∧ ∀ K, d < K → slices_Index_int_int.l0 K L n L.length i = some b ∧ spec_l1Has.l0 K n L L.length i = some (decide (b ≥ 0)) := by
  intro d
  induction d with
  | zero =>
    intro i hi
    refine ⟨-1, by omega, fun K hK => ?_⟩
    obtain ⟨K, rfl⟩ : ∃ k, K = k + 1 := ⟨K - 1, by omega⟩
    have hc : ¬ (i : Int) < (L.length : Int) := by omega
    simp only [slices_Index_int_int.l0, spec_l1Has.l0]
    rw [if_neg hc, if_neg hc]
    exact ⟨rfl, rfl⟩
  | succ d ih =>
    intro i hi
    have hlt : (i : Int) < (L.length : Int) := by omega
    have hi0 : (0 : Int) ≤ (i : Int) := by omega
    by_cases he : rd L (i : Int) = n
    · refine ⟨i, by omega, fun K hK => ?_⟩
      obtain ⟨K, rfl⟩ : ∃ k, K = k + 1 := ⟨K - 1, by omega⟩
      simp only [slices_Index_int_int.l0, spec_l1Has.l0]
      rw [if_pos hlt, if_pos hlt, if_pos hi0, if_pos hi0, if_pos hlt, if_pos hlt, if_pos he, if_pos he.symm]
      exact ⟨rfl, by simp⟩
    · obtain ⟨b, hb, hv⟩ := ih (i + 1) (by omega)
      refine ⟨b, hb, fun K hK => ?_⟩
      obtain ⟨K, rfl⟩ : ∃ k, K = k + 1 := ⟨K - 1, by omega⟩
      have h := hv K (by omega)
      rw [show ((i + 1 : Nat) : Int) = (i : Int) + 1 from by omega] at h
      simp only [slices_Index_int_int.l0, spec_l1Has.l0]
      rw [if_pos hlt, if_pos hlt, if_pos hi0, if_pos hi0, if_pos hlt, if_pos hlt, if_neg he, if_neg (fun x => he x.symm), w64 (by omega) (by omega)]
      exact h

theorem done : laws_FnExactIsLucky.Pure := by
  intro n _
  refine ⟨1000000000, ?_⟩
  unfold laws_FnExactIsLucky.f spec_IsLucky.f impl_IsLucky.f
  rw [l1In_at]
  simp only [Option.bind_some, impl_IsLucky.j0]
  by_cases hr : 1 ≤ n ∧ n ≤ 400
  · obtain ⟨g, t, hg, ht, hv⟩ := lucky_at n (by omega) hr.2
    obtain ⟨b, hb, hh⟩ := has_l0 n g (by omega) g.length 0 (by omega)
    have h1 := hv 1000000000 (by omega)
    have h2 := hv 999999999 (by omega)
    have h3 : spec_l1Has.l0 1000000000 n g g.length 0 = _ := (hh 1000000000 (by omega)).2
    have h4 : slices_Index_int_int.l0 999999999 g n g.length 0 = _ := (hh 999999999 (by omega)).1
    rw [decide_eq_true hr, if_pos rfl, cnUp_at 1 2 n (by omega) (by omega) (by omega) (by omega) _ (by omega), if_neg (show ¬ n < 1 by omega), decide_eq_false (show ¬ n > 400 by omega), if_neg (show ¬ (false = true) by simp)]
    simp only [Option.bind_some]
    rw [h1.1, h2.2]
    simp only [Option.bind_some, spec_l1Has.f, slices_Contains_int_int.f, slices_Index_int_int.f]
    rw [h3, h4]
    simp
  · rw [decide_eq_false hr, if_neg (show ¬ (false = true) by simp)]
    by_cases h1 : n < 1
    · simp [h1]
    · have h2 : n > 400 := by omega
      simp [h1, h2]
end OwnFnExactIsLucky
theorem FnExactIsLucky : laws_FnExactIsLucky.Pure := OwnFnExactIsLucky.done
end Go.Proofs.Ytapcnidappknnaa.Pure
