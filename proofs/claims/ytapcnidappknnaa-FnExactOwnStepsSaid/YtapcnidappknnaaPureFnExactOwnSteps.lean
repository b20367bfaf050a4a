/- OwnSteps of the program and of the reference answer alike at all numbers, and hand back memory of their own: no condition. -/
import Derived.Test.YtapcnidappknnaaPFnExactOwnStepsx3
namespace Go.Proofs.Ytapcnidappknnaa.Pure
open Go.RowKit Go.Proofs.Ytapcnidappknnaa.PFnExactOwnSteps Go.Proofs.YtapcnidappknnaaW.PrintWords Go.Proofs.YtapcnidappknnaaW.PrintLast Go.Proofs.YtapcnidappknnaaW.PrintMore
set_option linter.unusedVariables false
set_option linter.unusedSimpArgs false
namespace OwnFnExactOwnSteps
theorem w64 {x : Int} (h0 : -9223372036854775808 ≤ x) (h1 : x ≤ 9223372036854775807) : wrap64 x = x := by unfold wrap64; omega
theorem l1In_at (n a b : Int) : spec_l1In.f n a b = some (decide (a ≤ n ∧ n ≤ b)) := by
  unfold spec_l1In.f
  by_cases h : a ≤ n
  · rw [if_pos (by omega)]; simp [h]
  · rw [if_neg (by omega)]; simp [h]
theorem drop_rd (xs : List Int) (i : Nat) (h : i < xs.length) : xs.drop i = rd xs (i : Int) :: xs.drop (i + 1) := by
  rw [List.drop_eq_getElem_cons h]
  simp [rd, List.getD, h]
theorem eqIntS_l0 (xs : List Int) (hx : xs.length ≤ 1000000000000) : ∀ (d i : Nat), i + d = xs.length → ∀ K, d < K → laws_eqIntS.l0 K xs xs i = some true := by
  intro d
  induction d with
  | zero =>
    intro i hi K hK
    obtain ⟨K, rfl⟩ : ∃ k, K = k + 1 := ⟨K - 1, by omega⟩
    simp only [laws_eqIntS.l0]
    rw [if_neg (by omega)]
  | succ d ih =>
    intro i hi K hK
    obtain ⟨K, rfl⟩ : ∃ k, K = k + 1 := ⟨K - 1, by omega⟩
    have hlt : (i : Int) < (xs.length : Int) := by omega
    simp only [laws_eqIntS.l0]
    rw [if_pos hlt, if_pos (by omega), if_pos hlt, if_pos trivial, w64 (by omega) (by omega)]
    exact ih (i + 1) (by omega) K (by omega)
theorem eqIntS_at (xs : List Int) (hx : xs.length ≤ 100000000) (K : Nat) (hK : 100000000 < K) : laws_eqIntS.f K xs xs = some true := by
  unfold laws_eqIntS.f
  rw [if_pos rfl]
  exact eqIntS_l0 xs (by omega) xs.length 0 (by omega) K (by omega)
theorem take_set_succ {α : Type} (xs : List α) (i : Nat) (v : α) (h : i < xs.length) : (xs.set i v).take (i + 1) = xs.take i ++ [v] := by
  rw [List.take_succ_eq_append_getElem (by simpa using h)]
  simp [List.take_set_of_le]
/-- So many numbers in a row, from v on. -/
def upw : Nat → Int → List Int
  | 0, _ => []
  | n + 1, v => upw n v ++ [v + n]
theorem upw_len : ∀ n v, (upw n v).length = n
  | 0, _ => rfl
  | n + 1, v => by simp [upw, upw_len n v]
theorem upw_get : ∀ (n : Nat) (v : Int) (i : Nat), i < n → (upw n v)[i]? = some (v + i)
  | n + 1, v, i, h => by
    unfold upw
    by_cases e : i = n
    · subst e
      rw [List.getElem?_append_right (by rw [upw_len]; exact Nat.le_refl _), upw_len]
      simp
    · rw [List.getElem?_append_left (by rw [upw_len]; omega)]
      exact upw_get n v i (by omega)
theorem markIntS_l0 : ∀ (d i : Nat) (xs : List Int), i + d = xs.length → xs.length ≤ 100000000 → xs.take i = upw i 1 → ∀ K, d < K → laws_markIntS.l0 K xs (1 + i) i = some (1 + (xs.length : Int), upw xs.length 1) := by
  intro d
  induction d with
  | zero =>
    intro i xs hi hx ht K hK
    obtain ⟨K, rfl⟩ : ∃ k, K = k + 1 := ⟨K - 1, by omega⟩
    simp only [laws_markIntS.l0]
    rw [if_neg (by omega)]
    obtain rfl : i = xs.length := by omega
    rw [List.take_length] at ht
    rw [← ht]
  | succ d ih =>
    intro i xs hi hx ht K hK
    obtain ⟨K, rfl⟩ : ∃ k, K = k + 1 := ⟨K - 1, by omega⟩
    simp only [laws_markIntS.l0]
    rw [if_pos (by omega), if_pos (by omega), w64 (by omega) (by omega), w64 (by omega) (by omega)]
    have h := ih (i + 1) (xs.set i (1 + i)) (by simp; omega) (by simpa using hx) (by rw [take_set_succ _ _ _ (by omega), ht]; rfl) K (by omega)
    simp only [List.length_set, Int.toNat_natCast] at h ⊢
    rw [show (1 : Int) + (i : Int) + 1 = 1 + ((i + 1 : Nat) : Int) from by omega, show (i : Int) + 1 = ((i + 1 : Nat) : Int) from by omega]
    exact h
theorem markIntS_at (xs : List Int) (hx : xs.length ≤ 100000000) (K : Nat) (hK : 100000000 < K) : laws_markIntS.f K xs 1 = some (1 + (xs.length : Int), upw xs.length 1) :=
  markIntS_l0 xs.length 0 xs (by omega) hx rfl K (by omega)
theorem heldIntS_l0 (n : Nat) (hn : n ≤ 100000000) : ∀ (d i : Nat), i + d = n → ∀ K, d < K → laws_heldIntS.l0 K (upw n 1) (1 + i) i = some (1 + (n : Int)) := by
  intro d
  induction d with
  | zero =>
    intro i hi K hK
    obtain ⟨K, rfl⟩ : ∃ k, K = k + 1 := ⟨K - 1, by omega⟩
    simp only [laws_heldIntS.l0, upw_len]
    rw [if_neg (by omega)]
    obtain rfl : i = n := by omega
    rfl
  | succ d ih =>
    intro i hi K hK
    obtain ⟨K, rfl⟩ : ∃ k, K = k + 1 := ⟨K - 1, by omega⟩
    simp only [laws_heldIntS.l0, upw_len]
    have hr : rd (upw n 1) (i : Int) = 1 + i := by
      unfold rd
      rw [List.getD_eq_getElem?_getD, Int.toNat_natCast, upw_get n 1 i (by omega)]
      rfl
    rw [if_pos (by omega), if_pos (by omega), if_pos hr, w64 (by omega) (by omega), w64 (by omega) (by omega)]
    have h := ih (i + 1) (by omega) K (by omega)
    rw [show (1 : Int) + (i : Int) + 1 = 1 + ((i + 1 : Nat) : Int) from by omega, show (i : Int) + 1 = ((i + 1 : Nat) : Int) from by omega]
    exact h
theorem heldIntS_at (n : Nat) (hn : n ≤ 100000000) (K : Nat) (hK : 100000000 < K) : laws_heldIntS.f K (upw n 1) 1 = some (1 + (n : Int)) :=
  heldIntS_l0 n hn n 0 (by omega) K (by omega)
theorem isAnew_at (n : Int) : impl_isAnew.f n = some (decide (0 ≤ n ∧ n ≤ 400)) := by
  unfold impl_isAnew.f
  by_cases h : 0 ≤ n
  · rw [if_pos (by omega)]; simp [h]
  · rw [if_neg (by omega)]; simp [h]
theorem cnMost_at (n : Int) : spec_cnMost.f n = some (decide (0 ≤ n ∧ n ≤ 400)) := by
  unfold spec_cnMost.f; rw [l1In_at]; rfl
/-- The numbers from n on up to hi by s, d at most. -/
def upn (hi s : Int) : Nat → Int → List Int
  | 0, _ => []
  | d + 1, n => if n ≤ hi then n :: upn hi s d (n + s) else []
theorem upn_len (hi s : Int) : ∀ (d : Nat) (n : Int), (upn hi s d n).length ≤ d
  | 0, _ => Nat.le_refl _
  | d + 1, n => by
    unfold upn
    have := upn_len hi s d (n + s)
    split
    · simp; omega
    · simp
theorem upn_mem (hi s : Int) (hs : 1 ≤ s) : ∀ (d : Nat) (n x : Int), x ∈ upn hi s d n → n ≤ x ∧ x ≤ hi
  | 0, n, x, h => by cases h
  | d + 1, n, x, h => by
    unfold upn at h
    split at h
    · rcases List.mem_cons.1 h with rfl | h
      · omega
      · have := upn_mem hi s hs d (n + s) x h
        omega
    · cases h
/-- The list of 0 to 400 numbers from a on. -/
def up (a s hi : Int) : List Int := upn hi s 1000 a
theorem up_len (a s hi : Int) : (up a s hi).length ≤ 1000 := upn_len hi s 1000 a
theorem upTo_l0 (hi s : Int) (hs : 1 ≤ s) (hs2 : s ≤ 2) (hh : hi ≤ 400) : ∀ (d : Nat) (n : Int) (acc : List Int), 0 ≤ n → hi + 1 - n ≤ d → acc.length + d ≤ 2000000 →
    ∀ K, d < K → impl_upTo.l0 K hi s acc n = some (acc ++ upn hi s d n) := by
  intro d
  induction d with
  | zero =>
    intro n acc h0 h1 h2 K hK
    obtain ⟨K, rfl⟩ : ∃ k, K = k + 1 := ⟨K - 1, by omega⟩
    have hc : ¬ n ≤ hi := by omega
    simp only [impl_upTo.l0]
    rw [if_neg hc]
    simp [upn]
  | succ d ih =>
    intro n acc h0 h1 h2 K hK
    obtain ⟨K, rfl⟩ : ∃ k, K = k + 1 := ⟨K - 1, by omega⟩
    simp only [impl_upTo.l0]
    unfold upn
    by_cases hc : n ≤ hi
    · have hl : acc.length < 17592186044416 := by omega
      have h := ih (n + s) (acc ++ [n]) (by omega) (by omega) (by simp; omega) K (by omega)
      rw [if_pos hc, if_pos hc, if_pos hl, w64 (x := n + s) (by omega) (by omega), h]
      simp
    · rw [if_neg hc, if_neg hc]
      simp
theorem upTo_at (a s hi : Int) (ha : 0 ≤ a) (hs : 1 ≤ s) (hs2 : s ≤ 2) (hh : hi ≤ 400) (K : Nat) (hK : 10000 < K) : impl_upTo.f K a hi s = some (up a s hi) := by
  have h := upTo_l0 hi s hs hs2 hh 1000 a [] ha (by omega) (by simp) K (by omega)
  unfold impl_upTo.f up
  rw [h]; rfl
theorem cnUp_l0 (hi s : Int) (hs : 1 ≤ s) (hs2 : s ≤ 2) (hh : hi ≤ 400) : ∀ (d : Nat) (n : Int) (acc : List Int), 0 ≤ n → hi + 1 - n ≤ d → acc.length + d ≤ 2000000 →
    ∀ K, d < K → spec_cnUp.l0 K s hi acc n = some (acc ++ upn hi s d n) := by
  intro d
  induction d with
  | zero =>
    intro n acc h0 h1 h2 K hK
    obtain ⟨K, rfl⟩ : ∃ k, K = k + 1 := ⟨K - 1, by omega⟩
    have hc : ¬ n ≤ hi := by omega
    simp only [spec_cnUp.l0]
    rw [if_neg hc]
    simp [upn]
  | succ d ih =>
    intro n acc h0 h1 h2 K hK
    obtain ⟨K, rfl⟩ : ∃ k, K = k + 1 := ⟨K - 1, by omega⟩
    simp only [spec_cnUp.l0]
    unfold upn
    by_cases hc : n ≤ hi
    · have hl : acc.length < 17592186044416 := by omega
      have h := ih (n + s) (acc ++ [n]) (by omega) (by omega) (by simp; omega) K (by omega)
      rw [if_pos hc, if_pos hc, if_pos hl, w64 (x := n + s) (by omega) (by omega), h]
      simp
    · rw [if_neg hc, if_neg hc]
      simp
theorem cnUp_at (a s hi : Int) (ha : 0 ≤ a) (hs : 1 ≤ s) (hs2 : s ≤ 2) (hh : hi ≤ 400) (K : Nat) (hK : 10000 < K) : spec_cnUp.f K a s hi = some (up a s hi) := by
  have h := cnUp_l0 hi s hs hs2 hh 1000 a [] ha (by omega) (by simp) K (by omega)
  unfold spec_cnUp.f up
  rw [h]; rfl
/-- A list without each k-th number, its first one at place i. -/
def outk (k : Int) : Int → List Int → List Int
  | _, [] => []
  | i, x :: xs => if Int.tmod (i + 1) k = 0 then outk k (i + 1) xs else x :: outk k (i + 1) xs
theorem outk_len (k : Int) : ∀ (L : List Int) (i : Int), (outk k i L).length ≤ L.length
  | [], _ => Nat.le_refl _
  | x :: xs, i => by
    unfold outk
    have := outk_len k xs (i + 1)
    split
    · simp; omega
    · simp; omega
theorem outk_mem (k : Int) : ∀ (L : List Int) (i x : Int), x ∈ outk k i L → x ∈ L
  | [], _, _, h => h
  | y :: ys, i, x, h => by
    unfold outk at h
    split at h
    · exact List.mem_cons_of_mem _ (outk_mem k ys (i + 1) x h)
    · rcases List.mem_cons.1 h with rfl | h
      · simp
      · exact List.mem_cons_of_mem _ (outk_mem k ys (i + 1) x h)
theorem without_l0 (k : Int) (hk : k ≠ 0) (L : List Int) (hL : L.length ≤ 100000) : ∀ (d i : Nat) (acc : List Int), i + d = L.length → acc.length ≤ i →
    ∀ K, d < K → impl_withoutEach.l0 K k acc L L.length i = some (acc ++ outk k i (L.drop i)) := by
  intro d
  induction d with
  | zero =>
    intro i acc hi ha K hK
    obtain ⟨K, rfl⟩ : ∃ k, K = k + 1 := ⟨K - 1, by omega⟩
    have hc : ¬ (i : Int) < (L.length : Int) := by omega
    simp only [impl_withoutEach.l0]
    rw [if_neg hc, List.drop_of_length_le (by omega)]
    simp [outk]
  | succ d ih =>
    intro i acc hi ha K hK
    obtain ⟨K, rfl⟩ : ∃ k, K = k + 1 := ⟨K - 1, by omega⟩
    have hlt : (i : Int) < (L.length : Int) := by omega
    have hi0 : (0 : Int) ≤ (i : Int) := by omega
    have hl : acc.length < 17592186044416 := by omega
    simp only [impl_withoutEach.l0]
    rw [if_pos hlt, if_pos hi0, if_pos hlt, if_neg hk, w64 (x := (i : Int) + 1) (by omega) (by omega), drop_rd L i (by omega)]
    unfold outk
    by_cases hm : Int.tmod ((i : Int) + 1) k = 0
    · have h := ih (i + 1) acc (by omega) (by omega) K (by omega)
      rw [show ((i + 1 : Nat) : Int) = (i : Int) + 1 from by omega] at h
      rw [if_pos hm, if_pos hm]
      exact h
    · have h := ih (i + 1) (acc ++ [rd L (i : Int)]) (by omega) (by simp; omega) K (by omega)
      rw [show ((i + 1 : Nat) : Int) = (i : Int) + 1 from by omega] at h
      rw [if_neg hm, if_neg hm, if_pos hl, h]
      simp
theorem without_at (k : Int) (hk : k ≠ 0) (L : List Int) (hL : L.length ≤ 5000) (K : Nat) (hK : 10000 < K) : impl_withoutEach.f K L k = some (outk k 0 L) := by
  have h := without_l0 k hk L (by omega) L.length 0 [] (by omega) (by simp) K (by omega)
  unfold impl_withoutEach.f
  simpa using h
theorem cnOut_l0 (k : Int) (hk : k ≠ 0) (L : List Int) (hL : L.length ≤ 100000) : ∀ (d i : Nat) (acc : List Int), i + d = L.length → acc.length ≤ i →
    ∀ K, d < K → spec_cnOut.l0 K k acc L L.length i = some (acc ++ outk k i (L.drop i)) := by
  intro d
  induction d with
  | zero =>
    intro i acc hi ha K hK
    obtain ⟨K, rfl⟩ : ∃ k, K = k + 1 := ⟨K - 1, by omega⟩
    have hc : ¬ (i : Int) < (L.length : Int) := by omega
    simp only [spec_cnOut.l0]
    rw [if_neg hc, List.drop_of_length_le (by omega)]
    simp [outk]
  | succ d ih =>
    intro i acc hi ha K hK
    obtain ⟨K, rfl⟩ : ∃ k, K = k + 1 := ⟨K - 1, by omega⟩
    have hlt : (i : Int) < (L.length : Int) := by omega
    have hi0 : (0 : Int) ≤ (i : Int) := by omega
    have hl : acc.length < 17592186044416 := by omega
    simp only [spec_cnOut.l0]
    rw [if_pos hlt, if_pos hi0, if_pos hlt, if_neg hk, w64 (x := (i : Int) + 1) (by omega) (by omega), drop_rd L i (by omega)]
    unfold outk
    by_cases hm : Int.tmod ((i : Int) + 1) k = 0
    · have h := ih (i + 1) acc (by omega) (by omega) K (by omega)
      rw [show ((i + 1 : Nat) : Int) = (i : Int) + 1 from by omega] at h
      rw [if_pos hm, if_pos hm]
      exact h
    · have h := ih (i + 1) (acc ++ [rd L (i : Int)]) (by omega) (by simp; omega) K (by omega)
      rw [show ((i + 1 : Nat) : Int) = (i : Int) + 1 from by omega] at h
      rw [if_neg hm, if_neg hm, if_pos hl, h]
      simp
theorem cnOut_at (k : Int) (hk : k ≠ 0) (L : List Int) (hL : L.length ≤ 5000) (K : Nat) (hK : 10000 < K) : spec_cnOut.f K L k = some (outk k 0 L) := by
  have h := cnOut_l0 k hk L (by omega) L.length 0 [] (by omega) (by simp) K (by omega)
  unfold spec_cnOut.f
  simpa using h
theorem rd_mem (xs : List Int) (i : Nat) (h : i < xs.length) : rd xs (i : Int) ∈ xs := by
  simp [rd, List.getD, h]
theorem own_l0 : ∀ (d i : Nat) (L : List Int), L.length ≤ i + d → L.length ≤ 1000 → (∀ x ∈ L, x ≠ 0) →
    ∃ g : List Int, g.length ≤ 1000 ∧ ∀ K, 10001 + d < K → spec_OwnSteps.l0 K L i = some (g, true) ∧ impl_OwnSteps.l0 K L i = some (g, true) := by
  intro d
  induction d with
  | zero =>
    intro i L hi hL hm
    refine ⟨L, hL, fun K hK => ?_⟩
    obtain ⟨K, rfl⟩ : ∃ k, K = k + 1 := ⟨K - 1, by omega⟩
    have hc : ¬ (i : Int) < (L.length : Int) := by omega
    simp only [spec_OwnSteps.l0, impl_OwnSteps.l0]
    rw [if_neg hc, if_neg hc]
    exact ⟨rfl, rfl⟩
  | succ d ih =>
    intro i L hi hL hm
    by_cases hlt : i < L.length
    · have hne := hm _ (rd_mem L i hlt)
      have hdl : (L.drop (i + 1)).length ≤ 5000 := by rw [List.length_drop]; omega
      have hol := outk_len (rd L (i : Int)) (L.drop (i + 1)) 0
      have hlen : (L.take (i + 1) ++ outk (rd L (i : Int)) 0 (L.drop (i + 1))).length ≤ L.length := by
        rw [List.length_append, List.length_take]
        rw [List.length_drop] at hol
        omega
      obtain ⟨g, hg, hv⟩ := ih (i + 1) (L.take (i + 1) ++ outk (rd L (i : Int)) 0 (L.drop (i + 1))) (by omega) (by omega) (by
        intro x hx
        rcases List.mem_append.1 hx with hx | hx
        · exact hm x (List.mem_of_mem_take hx)
        · exact hm x (List.mem_of_mem_drop (outk_mem _ _ _ _ hx)))
      refine ⟨g, hg, fun K hK => ?_⟩
      obtain ⟨K, rfl⟩ : ∃ k, K = k + 1 := ⟨K - 1, by omega⟩
      have h := hv K (by omega)
      rw [show ((i + 1 : Nat) : Int) = (i : Int) + 1 from by omega] at h
      have hc : (i : Int) < (L.length : Int) := by omega
      have hi0 : (0 : Int) ≤ (i : Int) := by omega
      have hq : wrap64 ((i : Int) + 1) = (i : Int) + 1 := w64 (by omega) (by omega)
      have q1 : (0 : Int) ≤ (i : Int) + 1 := by omega
      have q2 : (i : Int) + 1 ≤ (L.length : Int) := by omega
      have q3 : ((i : Int) + 1).toNat = i + 1 := by omega
      have s1 := without_at (rd L (i : Int)) hne (L.drop (i + 1)) hdl K (by omega)
      have s2 := cnOut_at (rd L (i : Int)) hne (L.drop (i + 1)) hdl K (by omega)
      have big : 1000 < 17592186044416 := by decide
      have p4 : (L.take (i + 1)).length < 17592186044416 := Nat.lt_of_le_of_lt (Nat.le_trans (List.length_take_le' (i + 1) L) hL) big
      have p5 : (L.take (i + 1)).length + (outk (rd L (i : Int)) 0 (L.drop (i + 1))).length < 17592186044416 := by
        rw [List.length_append] at hlen
        exact Nat.lt_of_le_of_lt (Nat.le_trans hlen hL) big
      clear ih hv hm hlen hol hdl hL hi
      simp only [spec_OwnSteps.l0, impl_OwnSteps.l0, spec_l1Own.f]
      rw [if_pos hc, if_pos hc, hq, if_pos q1, if_pos q2, if_pos hi0, if_pos hi0, q3, Int.toNat_natCast, s1, s2]
      simp only [Option.bind_some, List.nil_append, List.length_nil, Nat.zero_add]
      rw [if_pos p4]
      simp only [Option.bind_some]
      rw [if_pos p5, if_pos p5]
      exact h
    · refine ⟨L, hL, fun K hK => ?_⟩
      obtain ⟨K, rfl⟩ : ∃ k, K = k + 1 := ⟨K - 1, by omega⟩
      have hc : ¬ (i : Int) < (L.length : Int) := by omega
      simp only [spec_OwnSteps.l0, impl_OwnSteps.l0]
      rw [if_neg hc, if_neg hc]
      exact ⟨rfl, rfl⟩
theorem both (a m : Int) : ∃ (g : List Int) (ok : Bool), g.length ≤ 1000000 ∧ ∀ K, 100000000 < K → spec_OwnSteps.f K a m = some (g, ok) ∧ impl_OwnSteps.f K a m = some (g, ok) := by
  unfold spec_OwnSteps.f impl_OwnSteps.f
  by_cases hn : 2 ≤ a ∧ a ≤ 20
  · by_cases hk : 0 ≤ m ∧ m ≤ 400
    · have hul := up_len a 1 m
      obtain ⟨g, hg, hv⟩ := own_l0 1000 0 (up a 1 m) (by omega) (by omega) (by
        intro x hx
        have := upn_mem m 1 (by omega) 1000 a x hx
        omega)
      refine ⟨g, true, by omega, fun K hK => ?_⟩
      obtain ⟨K, rfl⟩ : ∃ k, K = k + 1 := ⟨K - 1, by omega⟩
      have h := hv K (by omega)
      rw [l1In_at, cnMost_at, isAnew_at, decide_eq_true hn, decide_eq_true hk, if_neg (show ¬ a < 2 by omega), if_neg (show ¬ a > 20 by omega)]
      simp only [Option.bind_some, spec_OwnSteps.j0, impl_OwnSteps.j0]
      rw [if_pos trivial, if_neg (show ¬ ((!true) = true) by simp), if_neg (show ¬ ((!true) = true) by simp), upTo_at a 1 m (by omega) (by omega) (by omega) (by omega) K (by omega), cnUp_at a 1 m (by omega) (by omega) (by omega) (by omega) K (by omega)]
      exact h
    · refine ⟨[], false, by simp, fun K hK => ?_⟩
      obtain ⟨K, rfl⟩ : ∃ k, K = k + 1 := ⟨K - 1, by omega⟩
      rw [l1In_at, cnMost_at, isAnew_at, decide_eq_true hn, decide_eq_false hk, if_neg (show ¬ a < 2 by omega), if_neg (show ¬ a > 20 by omega)]
      simp [spec_OwnSteps.j0, impl_OwnSteps.j0]
  · refine ⟨[], false, by simp, fun K hK => ?_⟩
    obtain ⟨K, rfl⟩ : ∃ k, K = k + 1 := ⟨K - 1, by omega⟩
    rw [l1In_at, decide_eq_false hn]
    simp only [Option.bind_some, spec_OwnSteps.j0, impl_OwnSteps.j0]
    refine ⟨by simp, ?_⟩
    by_cases h1 : a < 2
    · simp [h1]
    · have h2 : a > 20 := by omega
      simp [h1, h2]

theorem done : laws_FnExactOwnSteps.Pure := by
  intro a m  _ _
  refine ⟨1000000000, ?_⟩
  obtain ⟨g, ok, hg, hsi⟩ := both a m
  have hs := fun K hK => (hsi K hK).1
  have hi := fun K hK => (hsi K hK).2
  have hEg := eqIntS_at g (by omega)
  have hMg := markIntS_at g (by omega)
  have hHg := heldIntS_at g.length (by omega)
  have n2 : ¬ ((1 : Int) + (g.length : Int) < 0) := by omega
  unfold laws_FnExactOwnSteps.f
  rw [hs _ (by omega)]
  simp only [Option.bind_some]
  rw [hi _ (by omega)]
  simp only [Option.bind_some]
  rw [hEg _ (by omega)]
  simp only [Option.bind_some]
  rw [if_pos trivial, bne_self_eq_false]
  simp only [laws_FnExactOwnSteps.j0]
  rw [if_neg (by simp), hMg _ (by omega)]
  simp only [Option.bind_some]
  rw [hHg _ (by omega)]
  simp only [Option.bind_some]
  rw [if_neg n2, if_pos trivial, hi _ (by omega)]
  simp only [Option.bind_some]
  rw [hEg _ (by omega)]
  simp only [Option.bind_some]
  rw [if_pos trivial, bne_self_eq_false]
  simp only [laws_FnExactOwnSteps.j1]
  rw [if_neg (by simp), hHg _ (by omega)]
  simp only [Option.bind_some]
  rw [if_neg n2, if_pos trivial]
end OwnFnExactOwnSteps
theorem FnExactOwnSteps : laws_FnExactOwnSteps.Pure := OwnFnExactOwnSteps.done
end Go.Proofs.Ytapcnidappknnaa.Pure
