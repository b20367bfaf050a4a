/- Lucky numbers are left by their own steps, rising steps leave the told ones, own steps stay, and circles are counted out whole, whatever is drawn: no condition. -/
import Derived.Test.YtnhlhfkpkpbekaaPFnLuckyNumbersx8
namespace Go.Proofs.Ytnhlhfkpkpbekaa.Pure
open Go.RowKit Go.Proofs.Ytnhlhfkpkpbekaa.PFnLuckyNumbers Go.Proofs.YtnhlhfkpkpbekaaW.PrintWords Go.Proofs.YtnhlhfkpkpbekaaW.PrintLast Go.Proofs.YtnhlhfkpkpbekaaW.PrintMore
set_option linter.unusedVariables false
set_option linter.unusedSimpArgs false
namespace OwnFnLuckyNumbers
theorem w64 {x : Int} (h0 : -9223372036854775808 ≤ x) (h1 : x ≤ 9223372036854775807) : wrap64 x = x := by unfold wrap64; omega
theorem l1In_at (n a b : Int) : spec_l1In.f n a b = some (decide (a ≤ n ∧ n ≤ b)) := by
  unfold spec_l1In.f
  by_cases h : a ≤ n
  · rw [if_pos (by omega)]; simp [h]
  · rw [if_neg (by omega)]; simp [h]
theorem drop_rd (xs : List Int) (i : Nat) (h : i < xs.length) : xs.drop i = rd xs (i : Int) :: xs.drop (i + 1) := by
  rw [List.drop_eq_getElem_cons h]
  simp [rd, List.getD, h]
/-- What a list of steps is. -/
def goodS (L : List Int) : Bool := decide (L.length ≤ 12) && L.all (fun x => decide (2 ≤ x ∧ x ≤ 400))
theorem areAny_at : ∀ L : List Int, impl_areSteps.any L = some (!(L.all fun x => decide (2 ≤ x ∧ x ≤ 400)))
  | [] => rfl
  | x :: xs => by
    simp only [impl_areSteps.any, List.all_cons]
    rw [areAny_at xs]
    by_cases h : 2 ≤ x ∧ x ≤ 400
    · rw [decide_eq_true h, if_neg (by simp; omega)]; simp
    · rw [decide_eq_false h, if_pos (by simp; omega)]; simp
theorem areSteps_at (L : List Int) : impl_areSteps.f L = some (goodS L) := by
  unfold impl_areSteps.f goodS
  rw [areAny_at]
  by_cases h : L.length ≤ 12
  · rw [if_pos (by omega)]; simp [h]
  · rw [if_neg (by omega)]; simp [h]
theorem goodS_len {L : List Int} (h : goodS L = true) : L.length ≤ 12 := by
  unfold goodS at h
  simp at h
  exact h.1
theorem goodS_mem {L : List Int} (h : goodS L = true) (x : Int) (hx : x ∈ L) : 2 ≤ x ∧ x ≤ 400 := by
  unfold goodS at h
  simp at h
  exact h.2 x hx
theorem rd_mem (xs : List Int) (i : Nat) (h : i < xs.length) : rd xs (i : Int) ∈ xs := by
  simp [rd, List.getD, h]
theorem isAnew_at (n : Int) : impl_isAnew.f n = some (decide (0 ≤ n ∧ n ≤ 400)) := by
  unfold impl_isAnew.f
  by_cases h : 0 ≤ n
  · rw [if_pos (by omega)]; simp [h]
  · rw [if_neg (by omega)]; simp [h]
theorem cnMost_at (n : Int) : spec_cnMost.f n = some (decide (0 ≤ n ∧ n ≤ 400)) := by
  unfold spec_cnMost.f; rw [l1In_at]; rfl
/-- The numbers from n on up to hi by s, d at most. -/
def upn (hi s : Int) : Nat → Int → List Int
  | 0, _ => []
  | d + 1, n => if n ≤ hi then n :: upn hi s d (n + s) else []
theorem upn_len (hi s : Int) : ∀ (d : Nat) (n : Int), (upn hi s d n).length ≤ d
  | 0, _ => Nat.le_refl _
  | d + 1, n => by
    unfold upn
    have := upn_len hi s d (n + s)
    split
    · simp; omega
    · simp
theorem upn_mem (hi s : Int) (hs : 1 ≤ s) : ∀ (d : Nat) (n x : Int), x ∈ upn hi s d n → n ≤ x ∧ x ≤ hi
  | 0, n, x, h => by cases h
  | d + 1, n, x, h => by
    unfold upn at h
    split at h
    · rcases List.mem_cons.1 h with rfl | h
      · omega
      · have := upn_mem hi s hs d (n + s) x h
        omega
    · cases h
/-- The list of 0 to 400 numbers from a on. -/
def up (a s hi : Int) : List Int := upn hi s 1000 a
theorem up_len (a s hi : Int) : (up a s hi).length ≤ 1000 := upn_len hi s 1000 a
theorem upTo_l0 (hi s : Int) (hs : 1 ≤ s) (hs2 : s ≤ 2) (hh : hi ≤ 400) : ∀ (d : Nat) (n : Int) (acc : List Int), 0 ≤ n → hi + 1 - n ≤ d → acc.length + d ≤ 2000000 →
    ∀ K, d < K → impl_upTo.l0 K hi s acc n = some (acc ++ upn hi s d n) := by
  intro d
  induction d with
  | zero =>
    intro n acc h0 h1 h2 K hK
    obtain ⟨K, rfl⟩ : ∃ k, K = k + 1 := ⟨K - 1, by omega⟩
    have hc : ¬ n ≤ hi := by omega
    simp only [impl_upTo.l0]
    rw [if_neg hc]
    simp [upn]
  | succ d ih =>
    intro n acc h0 h1 h2 K hK
    obtain ⟨K, rfl⟩ : ∃ k, K = k + 1 := ⟨K - 1, by omega⟩
    simp only [impl_upTo.l0]
    unfold upn
    by_cases hc : n ≤ hi
    · have hl : acc.length < 17592186044416 := by omega
      have h := ih (n + s) (acc ++ [n]) (by omega) (by omega) (by simp; omega) K (by omega)
      rw [if_pos hc, if_pos hc, if_pos hl, w64 (x := n + s) (by omega) (by omega), h]
      simp
    · rw [if_neg hc, if_neg hc]
      simp
theorem upTo_at (a s hi : Int) (ha : 0 ≤ a) (hs : 1 ≤ s) (hs2 : s ≤ 2) (hh : hi ≤ 400) (K : Nat) (hK : 10000 < K) : impl_upTo.f K a hi s = some (up a s hi) := by
  have h := upTo_l0 hi s hs hs2 hh 1000 a [] ha (by omega) (by simp) K (by omega)
  unfold impl_upTo.f up
  rw [h]; rfl
theorem cnUp_l0 (hi s : Int) (hs : 1 ≤ s) (hs2 : s ≤ 2) (hh : hi ≤ 400) : ∀ (d : Nat) (n : Int) (acc : List Int), 0 ≤ n → hi + 1 - n ≤ d → acc.length + d ≤ 2000000 →
    ∀ K, d < K → spec_cnUp.l0 K s hi acc n = some (acc ++ upn hi s d n) := by
  intro d
  induction d with
  | zero =>
    intro n acc h0 h1 h2 K hK
    obtain ⟨K, rfl⟩ : ∃ k, K = k + 1 := ⟨K - 1, by omega⟩
    have hc : ¬ n ≤ hi := by omega
    simp only [spec_cnUp.l0]
    rw [if_neg hc]
    simp [upn]
  | succ d ih =>
    intro n acc h0 h1 h2 K hK
    obtain ⟨K, rfl⟩ : ∃ k, K = k + 1 := ⟨K - 1, by omega⟩
    simp only [spec_cnUp.l0]
    unfold upn
    by_cases hc : n ≤ hi
    · have hl : acc.length < 17592186044416 := by omega
      have h := ih (n + s) (acc ++ [n]) (by omega) (by omega) (by simp; omega) K (by omega)
      rw [if_pos hc, if_pos hc, if_pos hl, w64 (x := n + s) (by omega) (by omega), h]
      simp
    · rw [if_neg hc, if_neg hc]
      simp
theorem cnUp_at (a s hi : Int) (ha : 0 ≤ a) (hs : 1 ≤ s) (hs2 : s ≤ 2) (hh : hi ≤ 400) (K : Nat) (hK : 10000 < K) : spec_cnUp.f K a s hi = some (up a s hi) := by
  have h := cnUp_l0 hi s hs hs2 hh 1000 a [] ha (by omega) (by simp) K (by omega)
  unfold spec_cnUp.f up
  rw [h]; rfl
/-- A list without each k-th number, its first one at place i. -/
def outk (k : Int) : Int → List Int → List Int
  | _, [] => []
  | i, x :: xs => if Int.tmod (i + 1) k = 0 then outk k (i + 1) xs else x :: outk k (i + 1) xs
theorem outk_len (k : Int) : ∀ (L : List Int) (i : Int), (outk k i L).length ≤ L.length
  | [], _ => Nat.le_refl _
  | x :: xs, i => by
    unfold outk
    have := outk_len k xs (i + 1)
    split
    · simp; omega
    · simp; omega
theorem outk_mem (k : Int) : ∀ (L : List Int) (i x : Int), x ∈ outk k i L → x ∈ L
  | [], _, _, h => h
  | y :: ys, i, x, h => by
    unfold outk at h
    split at h
    · exact List.mem_cons_of_mem _ (outk_mem k ys (i + 1) x h)
    · rcases List.mem_cons.1 h with rfl | h
      · simp
      · exact List.mem_cons_of_mem _ (outk_mem k ys (i + 1) x h)
theorem without_l0 (k : Int) (hk : k ≠ 0) (L : List Int) (hL : L.length ≤ 100000) : ∀ (d i : Nat) (acc : List Int), i + d = L.length → acc.length ≤ i →
    ∀ K, d < K → impl_withoutEach.l0 K k acc L L.length i = some (acc ++ outk k i (L.drop i)) := by
  intro d
  induction d with
  | zero =>
    intro i acc hi ha K hK
    obtain ⟨K, rfl⟩ : ∃ k, K = k + 1 := ⟨K - 1, by omega⟩
    have hc : ¬ (i : Int) < (L.length : Int) := by omega
    simp only [impl_withoutEach.l0]
    rw [if_neg hc, List.drop_of_length_le (by omega)]
    simp [outk]
  | succ d ih =>
    intro i acc hi ha K hK
    obtain ⟨K, rfl⟩ : ∃ k, K = k + 1 := ⟨K - 1, by omega⟩
    have hlt : (i : Int) < (L.length : Int) := by omega
    have hi0 : (0 : Int) ≤ (i : Int) := by omega
    have hl : acc.length < 17592186044416 := by omega
    simp only [impl_withoutEach.l0]
    rw [if_pos hlt, if_pos hi0, if_pos hlt, if_neg hk, w64 (x := (i : Int) + 1) (by omega) (by omega), drop_rd L i (by omega)]
    unfold outk
    by_cases hm : Int.tmod ((i : Int) + 1) k = 0
    · have h := ih (i + 1) acc (by omega) (by omega) K (by omega)
      rw [show ((i + 1 : Nat) : Int) = (i : Int) + 1 from by omega] at h
      rw [if_pos hm, if_pos hm]
      exact h
    · have h := ih (i + 1) (acc ++ [rd L (i : Int)]) (by omega) (by simp; omega) K (by omega)
      rw [show ((i + 1 : Nat) : Int) = (i : Int) + 1 from by omega] at h
      rw [if_neg hm, if_neg hm, if_pos hl, h]
      simp
theorem without_at (k : Int) (hk : k ≠ 0) (L : List Int) (hL : L.length ≤ 5000) (K : Nat) (hK : 10000 < K) : impl_withoutEach.f K L k = some (outk k 0 L) := by
  have h := without_l0 k hk L (by omega) L.length 0 [] (by omega) (by simp) K (by omega)
  unfold impl_withoutEach.f
  simpa using h
theorem cnOut_l0 (k : Int) (hk : k ≠ 0) (L : List Int) (hL : L.length ≤ 100000) : ∀ (d i : Nat) (acc : List Int), i + d = L.length → acc.length ≤ i →
    ∀ K, d < K → spec_cnOut.l0 K k acc L L.length i = some (acc ++ outk k i (L.drop i)) := by
  intro d
  induction d with
  | zero =>
    intro i acc hi ha K hK
    obtain ⟨K, rfl⟩ : ∃ k, K = k + 1 := ⟨K - 1, by omega⟩
    have hc : ¬ (i : Int) < (L.length : Int) := by omega
    simp only [spec_cnOut.l0]
    rw [if_neg hc, List.drop_of_length_le (by omega)]
    simp [outk]
  | succ d ih =>
    intro i acc hi ha K hK
    obtain ⟨K, rfl⟩ : ∃ k, K = k + 1 := ⟨K - 1, by omega⟩
    have hlt : (i : Int) < (L.length : Int) := by omega
    have hi0 : (0 : Int) ≤ (i : Int) := by omega
    have hl : acc.length < 17592186044416 := by omega
    simp only [spec_cnOut.l0]
    rw [if_pos hlt, if_pos hi0, if_pos hlt, if_neg hk, w64 (x := (i : Int) + 1) (by omega) (by omega), drop_rd L i (by omega)]
    unfold outk
    by_cases hm : Int.tmod ((i : Int) + 1) k = 0
    · have h := ih (i + 1) acc (by omega) (by omega) K (by omega)
      rw [show ((i + 1 : Nat) : Int) = (i : Int) + 1 from by omega] at h
      rw [if_pos hm, if_pos hm]
      exact h
    · have h := ih (i + 1) (acc ++ [rd L (i : Int)]) (by omega) (by simp; omega) K (by omega)
      rw [show ((i + 1 : Nat) : Int) = (i : Int) + 1 from by omega] at h
      rw [if_neg hm, if_neg hm, if_pos hl, h]
      simp
theorem cnOut_at (k : Int) (hk : k ≠ 0) (L : List Int) (hL : L.length ≤ 5000) (K : Nat) (hK : 10000 < K) : spec_cnOut.f K L k = some (outk k 0 L) := by
  have h := cnOut_l0 k hk L (by omega) L.length 0 [] (by omega) (by simp) K (by omega)
  unfold spec_cnOut.f
  simpa using h
/-- What is left of a list by steps. -/
def cOut (L : List Int) (st : List Int) : List Int := st.foldl (fun l k => outk k 0 l) L
theorem cOut_len : ∀ (st L : List Int), (cOut L st).length ≤ L.length
  | [], L => Nat.le_refl _
  | k :: st, L => by
    have h1 := cOut_len st (outk k 0 L)
    have h2 := outk_len k L 0
    show (cOut (outk k 0 L) st).length ≤ L.length
    omega
theorem countedOut_l0 (st : List Int) (hg : goodS st = true) : ∀ (d i : Nat) (L : List Int), i + d = st.length → L.length ≤ 5000 →
    ∀ K, 10001 + d < K → impl_countedOut.l0 K L st st.length i = some (cOut L (st.drop i)) := by
  have hl := goodS_len hg
  intro d
  induction d with
  | zero =>
    intro i L hi hL K hK
    obtain ⟨K, rfl⟩ : ∃ k, K = k + 1 := ⟨K - 1, by omega⟩
    simp only [impl_countedOut.l0]
    rw [if_neg (by omega), List.drop_of_length_le (by omega)]
    rfl
  | succ d ih =>
    intro i L hi hL K hK
    obtain ⟨K, rfl⟩ : ∃ k, K = k + 1 := ⟨K - 1, by omega⟩
    have hm := goodS_mem hg _ (rd_mem st i (by omega))
    have hlt : (i : Int) < (st.length : Int) := by omega
    have h2 := outk_len (rd st (i : Int)) L 0
    have h := ih (i + 1) (outk (rd st (i : Int)) 0 L) (by omega) (by omega) K (by omega)
    rw [show ((i + 1 : Nat) : Int) = (i : Int) + 1 from by omega] at h
    simp only [impl_countedOut.l0]
    rw [if_pos hlt, if_pos (by omega), if_pos hlt, without_at _ (by omega) L hL K (by omega), w64 (by omega) (by omega), drop_rd st i (by omega)]
    exact h
theorem countedOut_at (st : List Int) (hg : goodS st = true) (L : List Int) (hL : L.length ≤ 5000) (K : Nat) (hK : 20000 < K) : impl_countedOut.f K L st = some (cOut L st) :=
  countedOut_l0 st hg st.length 0 L (by omega) hL K (by have := goodS_len hg; omega)
theorem div_step (i k : Int) (hi : 0 ≤ i) (hk : 1 ≤ k) : (i + 1) / k = i / k + (if Int.tmod (i + 1) k = 0 then 1 else 0) := by
  rw [Int.tmod_eq_emod_of_nonneg (by omega)]
  have e := Int.mul_ediv_add_emod i k
  have r0 := Int.emod_nonneg i (by omega : k ≠ 0)
  have r1 := Int.emod_lt_of_pos i (by omega : 0 < k)
  obtain ⟨q, hq⟩ : ∃ q, q = i / k := ⟨_, rfl⟩
  obtain ⟨r, hr⟩ : ∃ r, r = i % k := ⟨_, rfl⟩
  rw [← hq] at e ⊢
  rw [← hr] at e r0 r1
  have e1 : i + 1 = (r + 1) + k * q := by omega
  rw [e1, Int.add_mul_ediv_left _ _ (by omega : k ≠ 0), Int.add_mul_emod_self_left]
  by_cases h : r + 1 = k
  · rw [h, Int.ediv_self (by omega), Int.emod_self, if_pos rfl]; omega
  · rw [Int.ediv_eq_zero_of_lt (by omega) (by omega), Int.emod_eq_of_lt (by omega) (by omega), if_neg (by omega)]; omega
theorem outk_length (k : Int) (hk : 1 ≤ k) : ∀ (L : List Int) (i : Int), 0 ≤ i → ((outk k i L).length : Int) = L.length - ((i + L.length) / k - i / k)
  | [], i, _ => by simp [outk]
  | x :: xs, i, hi => by
    have ih := outk_length k hk xs (i + 1) (by omega)
    have hs := div_step i k hi hk
    unfold outk
    rw [show i + ((x :: xs).length : Int) = i + 1 + (xs.length : Int) from by simp; omega]
    by_cases h : Int.tmod (i + 1) k = 0
    · rw [if_pos h, ih]
      rw [if_pos h] at hs
      simp only [List.length_cons]
      omega
    · rw [if_neg h] at hs
      rw [if_neg h]
      simp only [List.length_cons]
      have := ih
      omega
theorem upn_length1 (hi : Int) : ∀ (d : Nat) (n : Int), hi + 1 - n ≤ d → n ≤ hi + 1 → ((upn hi 1 d n).length : Int) = hi + 1 - n
  | 0, n, h, h2 => by simp [upn]; omega
  | d + 1, n, h, h2 => by
    unfold upn
    by_cases hc : n ≤ hi
    · rw [if_pos hc]
      have := upn_length1 hi d (n + 1) (by omega) (by omega)
      simp only [List.length_cons]
      omega
    · rw [if_neg hc]
      simp; omega
theorem up_length (hi : Int) (h0 : 0 ≤ hi) (hh : hi ≤ 400) : ((up 1 1 hi).length : Int) = hi := by
  have := upn_length1 hi 1000 1 (by omega) (by omega)
  unfold up
  omega
/-- Where a number falls among steps, the first one being step i: at which step, and its rank where at none (-1). -/
def fz : List Int → Int → Int → Int × Int
  | [], _, n => (-1, n - 1)
  | s :: st, i, n => if Int.tmod n s = 0 then (i, 0) else fz st (i + 1) (n - n / s)
/-- The place before one step of place q behind it. -/
def gz (s q : Int) : Int := q + (q - 1) / (s - 1)
/-- The place before all steps. -/
def nz : List Int → Int → Int
  | [], q => q
  | s :: st, q => gz s (nz st q)
theorem gz_eq (s a b q : Int) (hs : 2 ≤ s) (hb : 0 < b) (hbs : b < s) (hq : q = a * (s - 1) + b) : gz s q = a * s + b := by
  have e : (q - 1) / (s - 1) = a := by
    have e1 : q - 1 = (b - 1) + (s - 1) * a := by rw [hq, Int.mul_comm (s - 1) a]; omega
    rw [e1, Int.add_mul_ediv_left _ _ (by omega : s - 1 ≠ 0), Int.ediv_eq_zero_of_lt (by omega) (by omega)]
    omega
  unfold gz
  rw [e, hq, Int.mul_sub, Int.mul_one]
  omega
/-- A place as so many whole rounds and a rest. -/
theorem split_at (n s : Int) (hs : 2 ≤ s) (hn : 1 ≤ n) (h : Int.tmod n s ≠ 0) : ∃ a b, 0 ≤ a ∧ 0 < b ∧ b < s ∧ n = a * s + b ∧ n / s = a := by
  rw [Int.tmod_eq_emod_of_nonneg (by omega)] at h
  have e := Int.mul_ediv_add_emod n s
  have r0 := Int.emod_nonneg n (by omega : s ≠ 0)
  have r1 := Int.emod_lt_of_pos n (by omega : 0 < s)
  refine ⟨n / s, n % s, Int.ediv_nonneg (by omega) (by omega), by omega, r1, ?_, rfl⟩
  rw [Int.mul_comm]
  omega
theorem back_one (n s : Int) (hs : 2 ≤ s) (hn : 1 ≤ n) (h : Int.tmod n s ≠ 0) : 1 ≤ n - n / s ∧ gz s (n - n / s) = n := by
  obtain ⟨a, b, ha, hb, hbs, he, hd⟩ := split_at n s hs hn h
  rw [hd]
  have e : n - a = a * (s - 1) + b := by rw [he, Int.mul_sub, Int.mul_one]; omega
  refine ⟨?_, by rw [gz_eq s a b _ hs hb hbs e, ← he]⟩
  rw [e]
  have := Int.mul_nonneg ha (by omega : 0 ≤ s - 1)
  omega
theorem forth_one (q s : Int) (hs : 2 ≤ s) (hq : 1 ≤ q) : q ≤ gz s q ∧ Int.tmod (gz s q) s ≠ 0 ∧ gz s q - gz s q / s = q := by
  have e := Int.mul_ediv_add_emod (q - 1) (s - 1)
  have r0 := Int.emod_nonneg (q - 1) (by omega : s - 1 ≠ 0)
  have r1 := Int.emod_lt_of_pos (q - 1) (by omega : 0 < s - 1)
  have a0 : 0 ≤ (q - 1) / (s - 1) := Int.ediv_nonneg (by omega) (by omega)
  obtain ⟨a, ha⟩ : ∃ a, a = (q - 1) / (s - 1) := ⟨_, rfl⟩
  obtain ⟨b, hb⟩ : ∃ b, b = (q - 1) % (s - 1) := ⟨_, rfl⟩
  rw [← ha] at e a0
  rw [← hb] at e r0 r1
  have hq2 : q = a * (s - 1) + (b + 1) := by rw [Int.mul_comm]; omega
  have hg := gz_eq s a (b + 1) q hs (by omega) (by omega) hq2
  have hd : (a * s + (b + 1)) / s = a := by
    rw [Int.add_comm, Int.add_mul_ediv_right _ _ (by omega : s ≠ 0), Int.ediv_eq_zero_of_lt (by omega) (by omega)]
    omega
  have hmod : (a * s + (b + 1)) % s = b + 1 := by
    rw [Int.add_comm, Int.add_mul_emod_self_right, Int.emod_eq_of_lt (by omega) (by omega)]
  have hpos := Int.mul_nonneg a0 (by omega : 0 ≤ s)
  rw [hg]
  refine ⟨?_, ?_, ?_⟩
  · rw [Int.mul_sub, Int.mul_one] at hq2; omega
  · rw [Int.tmod_eq_emod_of_nonneg (by omega), hmod]; omega
  · rw [hd]; rw [Int.mul_sub, Int.mul_one] at hq2; omega
def all2 (st : List Int) : Prop := ∀ x ∈ st, 2 ≤ x
theorem all2_tail {s : Int} {st : List Int} (h : all2 (s :: st)) : 2 ≤ s ∧ all2 st := ⟨h s (by simp), fun x hx => h x (by simp [hx])⟩
theorem nz_ge : ∀ (st : List Int), all2 st → ∀ q, 1 ≤ q → q ≤ nz st q
  | [], _, q, _ => Int.le_refl _
  | s :: st, h, q, hq => by
    have h1 := nz_ge st (all2_tail h).2 q hq
    have h2 := (forth_one (nz st q) s (all2_tail h).1 (by omega)).1
    show q ≤ gz s (nz st q)
    omega
theorem fz_nz : ∀ (st : List Int), all2 st → ∀ i q, 1 ≤ q → fz st i (nz st q) = (-1, q - 1)
  | [], _, i, q, _ => rfl
  | s :: st, h, i, q, hq => by
    have h1 := nz_ge st (all2_tail h).2 q hq
    obtain ⟨_, h2, h3⟩ := forth_one (nz st q) s (all2_tail h).1 (by omega)
    have ih := fz_nz st (all2_tail h).2 (i + 1) q hq
    show (if Int.tmod (gz s (nz st q)) s = 0 then (i, 0) else fz st (i + 1) (gz s (nz st q) - gz s (nz st q) / s)) = _
    rw [if_neg h2, h3, ih]
theorem nz_fz : ∀ (st : List Int), all2 st → ∀ i n, 0 ≤ i → 1 ≤ n → (fz st i n).1 < 0 → 0 ≤ (fz st i n).2 ∧ nz st ((fz st i n).2 + 1) = n
  | [], _, i, n, _, hn, _ => by simp only [fz, nz]; omega
  | s :: st, h, i, n, hi, hn, hz => by
    unfold fz at hz ⊢
    by_cases hm : Int.tmod n s = 0
    · rw [if_pos hm] at hz; simp at hz; omega
    · rw [if_neg hm] at hz ⊢
      obtain ⟨h1, h2⟩ := back_one n s (all2_tail h).1 hn hm
      obtain ⟨h3, h4⟩ := nz_fz st (all2_tail h).2 (i + 1) (n - n / s) (by omega) h1 hz
      refine ⟨h3, ?_⟩
      show gz s (nz st _) = n
      rw [h4, h2]
theorem fz_range : ∀ (st : List Int) i n, 0 ≤ i → (fz st i n).1 = -1 ∨ i ≤ (fz st i n).1 ∧ (fz st i n).1 < i + st.length
  | [], i, n, _ => .inl rfl
  | s :: st, i, n, hi => by
    unfold fz
    by_cases hm : Int.tmod n s = 0
    · rw [if_pos hm]; right; simp; omega
    · rw [if_neg hm]
      rcases fz_range st (i + 1) (n - n / s) (by omega) with h | h
      · exact .inl h
      · right
        simp only [List.length_cons]
        omega
/-- Between n and a place behind it that is left, as many are left as there are. -/
theorem mono_div (n p k : Int) (hk : 1 ≤ k) (h0 : 0 ≤ n) (h : n < p) (hm : Int.tmod p k ≠ 0) : n - n / k ≤ p - p / k - 1 := by
  rw [Int.tmod_eq_emod_of_nonneg (by omega)] at hm
  have e := Int.mul_ediv_add_emod n k
  have r0 := Int.emod_nonneg n (by omega : k ≠ 0)
  have r1 := Int.emod_lt_of_pos n (by omega : 0 < k)
  have e' := Int.mul_ediv_add_emod p k
  have r0' := Int.emod_nonneg p (by omega : k ≠ 0)
  have r1' := Int.emod_lt_of_pos p (by omega : 0 < k)
  obtain ⟨a, ha⟩ : ∃ a, a = n / k := ⟨_, rfl⟩
  obtain ⟨b, hb⟩ : ∃ b, b = p / k := ⟨_, rfl⟩
  rw [← ha] at e ⊢
  rw [← hb] at e' ⊢
  have hab : a ≤ b := by
    rw [ha, hb]
    exact Int.ediv_le_ediv (by omega) (by omega)
  by_cases hc : a = b
  · omega
  · have h1 : 0 ≤ (k - 1) * (b - a - 1) := Int.mul_nonneg (by omega) (by omega)
    have h2 : (k - 1) * (b - a - 1) = k * b - k * a - k - b + a + 1 := by
      rw [Int.sub_mul, Int.mul_sub, Int.mul_sub]; omega
    omega
theorem tmod_emod (n k : Int) (h : 0 ≤ n) : Int.tmod n k = n % k := Int.tmod_eq_emod_of_nonneg h
theorem outk_get (k : Int) (hk : 1 ≤ k) : ∀ (L : List Int) (i : Int) (j t : Nat), 0 ≤ i → j < L.length → Int.tmod (i + j + 1) k ≠ 0 → (t : Int) = (i + j + 1 - (i + j + 1) / k) - (i - i / k) - 1 → (outk k i L)[t]? = L[j]?
  | [], _, _, _, _, h, _, _ => absurd h (Nat.not_lt_zero _)
  | x :: xs, i, 0, t, hi, _, hm, ht => by
    have hs := div_step i k hi hk
    have e0 : i + ((0 : Nat) : Int) + 1 = i + 1 := by omega
    rw [e0] at hm ht
    rw [if_neg hm] at hs
    unfold outk
    rw [if_neg hm]
    have : t = 0 := by omega
    subst this
    rfl
  | x :: xs, i, j + 1, t, hi, hj, hm, ht => by
    have hs := div_step i k hi hk
    have e0 : i + ((j + 1 : Nat) : Int) + 1 = (i + 1) + (j : Int) + 1 := by omega
    rw [e0] at hm ht
    unfold outk
    by_cases h : Int.tmod (i + 1) k = 0
    · rw [if_pos h] at hs ⊢
      have ih := outk_get k hk xs (i + 1) j t (by omega) (by simpa using hj) hm (by omega)
      rw [ih]
      rfl
    · rw [if_neg h] at hs ⊢
      have hm0 := mono_div (i + 1) (i + 1 + j + 1) k hk (by omega) (by omega) hm
      obtain ⟨t', rfl⟩ : ∃ t', t = t' + 1 := ⟨t - 1, by omega⟩
      have ih := outk_get k hk xs (i + 1) j t' (by omega) (by simpa using hj) hm (by omega)
      simpa using ih
theorem outk_at (k : Int) (hk : 2 ≤ k) (L : List Int) (p : Int) (h1 : 1 ≤ p) (h2 : p ≤ L.length) (hm : Int.tmod p k ≠ 0) : (outk k 0 L)[(p - p / k - 1).toNat]? = L[(p - 1).toNat]? := by
  have hb := (back_one p k hk h1 hm).1
  have e : (0 : Int) + ((p - 1).toNat : Int) + 1 = p := by omega
  refine outk_get k (by omega) L 0 (p - 1).toNat _ (by omega) (by omega) (by rw [e]; exact hm) ?_
  rw [e, Int.zero_ediv]
  omega
theorem outk_sub (k : Int) : ∀ (L : List Int) (i : Int), (outk k i L).Sublist L
  | [], _ => List.Sublist.slnil
  | x :: xs, i => by
    unfold outk
    have ih := outk_sub k xs (i + 1)
    split
    · exact ih.cons x
    · exact ih.cons_cons x
theorem cOut_sub : ∀ (st L : List Int), (cOut L st).Sublist L
  | [], L => List.Sublist.refl _
  | k :: st, L => (cOut_sub st (outk k 0 L)).trans (outk_sub k L 0)
theorem cOut_at : ∀ (st : List Int), all2 st → ∀ (L : List Int) (i p : Int), 1 ≤ p → p ≤ L.length → (fz st i p).1 < 0 → 0 ≤ i → (cOut L st)[((fz st i p).2).toNat]? = L[(p - 1).toNat]?
  | [], _, L, i, p, _, _, _, _ => rfl
  | k :: st, h, L, i, p, h1, h2, hz, hi => by
    unfold fz at hz ⊢
    by_cases hm : Int.tmod p k = 0
    · rw [if_pos hm] at hz; simp at hz; omega
    · rw [if_neg hm] at hz ⊢
      have hb := (back_one p k (all2_tail h).1 h1 hm).1
      have ha := outk_at k (all2_tail h).1 L p h1 h2 hm
      have hlt : (p - p / k - 1).toNat < (outk k 0 L).length := by
        have hs : L[(p - 1).toNat]? = some (L[(p - 1).toNat]'(by omega)) := List.getElem?_eq_getElem (by omega)
        rw [hs] at ha
        exact (List.getElem?_eq_some_iff.1 ha).1
      have ih := cOut_at st (all2_tail h).2 (outk k 0 L) (i + 1) (p - p / k) hb (by omega) hz (by omega)
      exact ih.trans ha
theorem outk_back (k : Int) (hk : 2 ≤ k) (L : List Int) (q : Int) (h1 : 1 ≤ q) (h2 : q ≤ (outk k 0 L).length) : gz k q ≤ L.length := by
  have hl := outk_length k (by omega) L 0 (Int.le_refl _)
  rw [Int.zero_add, Int.zero_ediv, Int.sub_zero] at hl
  rw [hl] at h2
  obtain ⟨h3, h4, h5⟩ := forth_one q k hk h1
  obtain ⟨p, hp⟩ : ∃ p, p = gz k q := ⟨_, rfl⟩
  rw [← hp] at h3 h4 h5 ⊢
  obtain ⟨n, hn⟩ : ∃ n : Int, n = L.length := ⟨_, rfl⟩
  rw [← hn] at h2 ⊢
  by_cases hle : p ≤ n
  · exact hle
  · exfalso
    have hm := mono_div n p k (by omega) (by omega) (by omega) h4
    omega
theorem cOut_back : ∀ (st : List Int), all2 st → ∀ (L : List Int) (q : Int), 1 ≤ q → q ≤ (cOut L st).length → nz st q ≤ L.length
  | [], _, L, q, _, h => h
  | k :: st, h, L, q, h1, h2 => by
    have ih := cOut_back st (all2_tail h).2 (outk k 0 L) q h1 h2
    have hg := nz_ge st (all2_tail h).2 q h1
    exact outk_back k (all2_tail h).1 L (nz st q) (by omega) ih
theorem cOut_nz (st : List Int) (h : all2 st) (L : List Int) (q : Int) (h1 : 1 ≤ q) (h2 : q ≤ (cOut L st).length) : (cOut L st)[(q - 1).toNat]? = L[(nz st q - 1).toNat]? := by
  have hb := cOut_back st h L q h1 h2
  have hf := fz_nz st h 0 q h1
  have hg := nz_ge st h q h1
  have := cOut_at st h L 0 (nz st q) (by omega) hb (by rw [hf]; show (-1 : Int) < 0; omega) (Int.le_refl _)
  rw [hf] at this
  exact this
theorem rd_get (xs : List Int) (i : Nat) (h : i < xs.length) : rd xs (i : Int) = xs[i] := by simp [rd, List.getD, h]
theorem tSame_l0 (xs : List Int) (hx : xs.length ≤ 100000000) : ∀ (d i : Nat), i + d = xs.length → ∀ K, d < K → laws_tSame.l0 K xs xs xs.length i = some true := by
  intro d
  induction d with
  | zero =>
    intro i hi K hK
    obtain ⟨K, rfl⟩ : ∃ k, K = k + 1 := ⟨K - 1, by omega⟩
    simp only [laws_tSame.l0]
    rw [if_neg (by omega)]
  | succ d ih =>
    intro i hi K hK
    obtain ⟨K, rfl⟩ : ∃ k, K = k + 1 := ⟨K - 1, by omega⟩
    have h1 : (i : Int) < (xs.length : Int) := by omega
    have h0 : (0 : Int) ≤ (i : Int) := by omega
    simp only [laws_tSame.l0]
    rw [if_pos h1, if_pos h0, if_pos h1, if_pos h1, if_pos trivial, w64 (by omega) (by omega)]
    exact ih (i + 1) (by omega) K (by omega)
theorem tSame_at (xs : List Int) (hx : xs.length ≤ 10000) (K : Nat) (hK : 10000 < K) : laws_tSame.f K xs xs = some true := by
  unfold laws_tSame.f
  rw [if_pos rfl]
  exact tSame_l0 xs (by omega) xs.length 0 (by omega) K (by omega)
theorem tRises_l0 (xs : List Int) (a b : Int) (hx : xs.length ≤ 100000000) (hp : xs.Pairwise (· < ·)) (hm : ∀ x ∈ xs, a ≤ x ∧ x ≤ b) : ∀ (d i : Nat), i + d = xs.length → ∀ K, d < K → laws_tRises.l0 K xs a b xs xs.length i = some true := by
  intro d
  induction d with
  | zero =>
    intro i hi K hK
    obtain ⟨K, rfl⟩ : ∃ k, K = k + 1 := ⟨K - 1, by omega⟩
    simp only [laws_tRises.l0]
    rw [if_neg (by omega)]
  | succ d ih =>
    intro i hi K hK
    obtain ⟨K, rfl⟩ : ∃ k, K = k + 1 := ⟨K - 1, by omega⟩
    have h1 : (i : Int) < (xs.length : Int) := by omega
    have h0 : (0 : Int) ≤ (i : Int) := by omega
    have hi' : i < xs.length := by omega
    have hme := hm _ (rd_mem xs i hi')
    have n1 : ¬ (rd xs (i : Int) < a) := by omega
    have n2 : ¬ (rd xs (i : Int) > b) := by omega
    have h := ih (i + 1) (by omega) K (by omega)
    rw [show ((i + 1 : Nat) : Int) = (i : Int) + 1 from by omega] at h
    simp only [laws_tRises.l0]
    rw [if_pos h1, if_pos h0, if_pos h1, if_neg n1, if_neg n2, w64 (x := (i : Int) + 1) (by omega) (by omega)]
    cases i with
    | zero =>
      rw [if_neg (by omega)]
      exact h
    | succ j =>
      have e : ((j + 1 : Nat) : Int) - 1 = (j : Int) := by omega
      have hlt : rd xs (j : Int) < rd xs ((j + 1 : Nat) : Int) := by
        rw [rd_get xs j (by omega), rd_get xs (j + 1) hi']
        exact List.pairwise_iff_getElem.1 hp j (j + 1) (by omega) hi' (by omega)
      rw [if_pos (by omega), w64 (x := ((j + 1 : Nat) : Int) - 1) (by omega) (by omega), e, if_pos (by omega), if_pos (by omega), if_neg (by omega)]
      exact h
theorem tHas_l0 (xs : List Int) (n : Int) (hx : xs.length ≤ 100000000) : ∀ (d i : Nat), i + d = xs.length → ∀ K, d < K → laws_tHas.l0 K n xs xs.length i = some (decide (n ∈ xs.drop i)) := by
  intro d
  induction d with
  | zero =>
    intro i hi K hK
    obtain ⟨K, rfl⟩ : ∃ k, K = k + 1 := ⟨K - 1, by omega⟩
    simp only [laws_tHas.l0]
    rw [if_neg (by omega), List.drop_of_length_le (by omega)]
    simp
  | succ d ih =>
    intro i hi K hK
    obtain ⟨K, rfl⟩ : ∃ k, K = k + 1 := ⟨K - 1, by omega⟩
    have h1 : (i : Int) < (xs.length : Int) := by omega
    have h0 : (0 : Int) ≤ (i : Int) := by omega
    have h := ih (i + 1) (by omega) K (by omega)
    rw [show ((i + 1 : Nat) : Int) = (i : Int) + 1 from by omega] at h
    simp only [laws_tHas.l0]
    rw [if_pos h1, if_pos h0, if_pos h1, w64 (x := (i : Int) + 1) (by omega) (by omega), drop_rd xs i (by omega)]
    by_cases he : rd xs (i : Int) = n
    · rw [if_pos he]; simp [he]
    · rw [if_neg he, h]
      simp
      exact fun hh => absurd hh.symm he
theorem tHas_at (xs : List Int) (n : Int) (hx : xs.length ≤ 10000) (K : Nat) (hK : 10000 < K) : laws_tHas.f K xs n = some (decide (n ∈ xs)) :=
  tHas_l0 xs n (by omega) xs.length 0 (by omega) K (by omega)
theorem upn_get (hi : Int) : ∀ (d : Nat) (a : Int) (j : Nat), j < d → a + j ≤ hi → (upn hi 1 d a)[j]? = some (a + j)
  | 0, _, _, h, _ => absurd h (Nat.not_lt_zero _)
  | d + 1, a, 0, _, h2 => by
    unfold upn
    rw [if_pos (by omega)]
    simp
  | d + 1, a, j + 1, h1, h2 => by
    unfold upn
    rw [if_pos (by omega), List.getElem?_cons_succ, upn_get hi d (a + 1) j (by omega) (by omega)]
    congr 1
    omega
theorem upn_rises (hi s : Int) (hs : 1 ≤ s) : ∀ (d : Nat) (a : Int), (upn hi s d a).Pairwise (· < ·)
  | 0, _ => List.Pairwise.nil
  | d + 1, a => by
    unfold upn
    split
    · refine List.Pairwise.cons (fun x hx => ?_) (upn_rises hi s hs d (a + s))
      have := upn_mem hi s hs d (a + s) x hx
      omega
    · exact List.Pairwise.nil
theorem up_get (m n : Int) (hm : m ≤ 400) (h1 : 1 ≤ n) (h2 : n ≤ m) : (up 1 1 m)[(n - 1).toNat]? = some n := by
  unfold up
  rw [upn_get m 1000 1 (n - 1).toNat (by omega) (by omega)]
  congr 1
  omega
theorem gap_get {L : List Int} (hp : L.Pairwise (fun x y => x + 2 ≤ y)) (h1 : ∀ x ∈ L, 1 ≤ x) : ∀ (j : Nat) (x : Int), L[j]? = some x → 2 * (j : Int) + 1 ≤ x
  | 0, x, h => by
    have := h1 x (List.mem_of_getElem? h)
    omega
  | j + 1, x, h => by
    obtain ⟨hj, hx⟩ := List.getElem?_eq_some_iff.1 h
    have hlt : j < L.length := by omega
    have ih := gap_get hp h1 j (L[j]'hlt) (List.getElem?_eq_getElem hlt)
    have := List.pairwise_iff_getElem.1 hp j (j + 1) hlt hj (Nat.lt_succ_self j)
    rw [hx] at this
    omega
/-- A step leaves alone what stands ahead of its first place. -/
theorem outk_keep (k : Int) (L : List Int) (j : Nat) (x : Int) (h : L[j]? = some x) (hk : (j : Int) + 1 < k) : (outk k 0 L)[j]? = some x := by
  obtain ⟨hj, _⟩ := List.getElem?_eq_some_iff.1 h
  have e1 : (0 : Int) + (j : Int) + 1 = (j : Int) + 1 := by omega
  have hm : Int.tmod ((j : Int) + 1) k = (j : Int) + 1 := by
    rw [Int.tmod_eq_emod_of_nonneg (by omega), Int.emod_eq_of_lt (by omega) hk]
  have hd : ((j : Int) + 1) / k = 0 := Int.ediv_eq_zero_of_lt (by omega) hk
  rw [outk_get k (by omega) L 0 j j (Int.le_refl _) hj (by rw [e1, hm]; omega) (by rw [e1, hd, Int.zero_ediv]; omega)]
  exact h
/-- A list counted out by its own numbers from place a on: what is left, and the steps. -/
def lk : Nat → Nat → List Int → List Int × List Int
  | 0, _, L => (L, [])
  | d + 1, a, L => if a < L.length ∧ L.getD a 0 ≤ L.length then ((lk d (a + 1) (outk (L.getD a 0) 0 L)).1, L.getD a 0 :: (lk d (a + 1) (outk (L.getD a 0) 0 L)).2) else (L, [])
theorem lk_step (d a : Nat) (L : List Int) (h : a < L.length ∧ L.getD a 0 ≤ L.length) : lk (d + 1) a L = ((lk d (a + 1) (outk (L.getD a 0) 0 L)).1, L.getD a 0 :: (lk d (a + 1) (outk (L.getD a 0) 0 L)).2) :=
  if_pos h
theorem lk_stop (d a : Nat) (L : List Int) (h : ¬ (a < L.length ∧ L.getD a 0 ≤ L.length)) : lk (d + 1) a L = (L, []) :=
  if_neg h
def Gap (L : List Int) : Prop := L.Pairwise (fun x y => x + 2 ≤ y) ∧ ∀ x ∈ L, 1 ≤ x
theorem Gap.out {L : List Int} (h : Gap L) (k : Int) : Gap (outk k 0 L) :=
  ⟨h.1.sublist (outk_sub k L 0), fun x hx => h.2 x ((outk_sub k L 0).subset hx)⟩
theorem getD_some (L : List Int) (a : Nat) (h : a < L.length) : L[a]? = some (L.getD a 0) := by
  simp [List.getD, h]
theorem lk_cOut : ∀ (d a : Nat) (L : List Int), cOut L (lk d a L).2 = (lk d a L).1
  | 0, _, _ => rfl
  | d + 1, a, L => by
    by_cases h : a < L.length ∧ L.getD a 0 ≤ L.length
    · rw [lk_step d a L h]
      exact lk_cOut d (a + 1) _
    · rw [lk_stop d a L h]; rfl
theorem lk_sub : ∀ (d a : Nat) (L : List Int), (lk d a L).1.Sublist L
  | 0, _, _ => List.Sublist.refl _
  | d + 1, a, L => by
    by_cases h : a < L.length ∧ L.getD a 0 ≤ L.length
    · rw [lk_step d a L h]
      exact (lk_sub d (a + 1) _).trans (outk_sub _ L 0)
    · rw [lk_stop d a L h]
      exact List.Sublist.refl _
/-- What stands up to the place stays. -/
theorem lk_keep : ∀ (d a : Nat) (L : List Int), Gap L → 1 ≤ a → ∀ (i : Nat) (x : Int), i ≤ a → L[i]? = some x → (lk d a L).1[i]? = some x
  | 0, _, _, _, _, _, _, _, h => h
  | d + 1, a, L, hg, ha, i, x, hi, h => by
    by_cases hc : a < L.length ∧ L.getD a 0 ≤ L.length
    · rw [lk_step d a L hc]
      have hge := gap_get hg.1 hg.2 a _ (getD_some L a hc.1)
      exact lk_keep d (a + 1) _ (hg.out _) (by omega) i x (by omega) (outk_keep _ L i x h (by omega))
    · rw [lk_stop d a L hc]; exact h
/-- The steps stand in what is left, one behind the other. -/
theorem lk_steps : ∀ (d a : Nat) (L : List Int), Gap L → 1 ≤ a → ∀ (j : Nat) (x : Int), (lk d a L).2[j]? = some x → (lk d a L).1[a + j]? = some x
  | 0, _, _, _, _, _, _, h => by simp [lk] at h
  | d + 1, a, L, hg, ha, j, x, h => by
    by_cases hc : a < L.length ∧ L.getD a 0 ≤ L.length
    · rw [lk_step d a L hc] at h ⊢
      have hge := gap_get hg.1 hg.2 a _ (getD_some L a hc.1)
      cases j with
      | zero =>
        have hx : L.getD a 0 = x := by simpa using h
        refine lk_keep d (a + 1) _ (hg.out _) (by omega) a x (by omega) (outk_keep _ L a x ?_ (by omega))
        rw [getD_some L a hc.1, hx]
      | succ j =>
        have h' : (lk d (a + 1) (outk (L.getD a 0) 0 L)).2[j]? = some x := by simpa using h
        have := lk_steps d (a + 1) _ (hg.out _) (by omega) j x h'
        rw [show a + 1 + j = a + (j + 1) from by omega] at this
        exact this
    · rw [lk_stop d a L hc] at h
      simp at h
/-- The one is the other's begin; what follows there is greater than n. -/
def Bgn (n : Int) (A L : List Int) : Prop := ∃ B, L = A ++ B ∧ ∀ x ∈ B, n < x
theorem outk_cons (k i x : Int) (L : List Int) : outk k i (x :: L) = if Int.tmod (i + 1) k = 0 then outk k (i + 1) L else x :: outk k (i + 1) L := rfl
theorem outk_append (k : Int) : ∀ (A B : List Int) (i : Int), outk k i (A ++ B) = outk k i A ++ outk k (i + A.length) B
  | [], B, i => by simp [outk]
  | x :: A, B, i => by
    have ih := outk_append k A B (i + 1)
    rw [show i + 1 + (A.length : Int) = i + ((x :: A).length : Int) from by simp; omega] at ih
    rw [List.cons_append, outk_cons, outk_cons]
    by_cases h : Int.tmod (i + 1) k = 0
    · rw [if_pos h, if_pos h, ih]
    · rw [if_neg h, if_neg h, ih, List.cons_append]
theorem Bgn.out {n : Int} {A L : List Int} (h : Bgn n A L) (k : Int) (i : Int) : Bgn n (outk k i A) (outk k i L) := by
  obtain ⟨B, rfl, hB⟩ := h
  exact ⟨_, outk_append k A B i, fun x hx => hB x ((outk_sub k B _).subset hx)⟩
/-- A step behind a whole list leaves it. -/
theorem outk_id (k : Int) : ∀ (A : List Int) (i : Int), 0 ≤ i → i + A.length < k → outk k i A = A
  | [], _, _, _ => rfl
  | x :: A, i, hi, h => by
    have hl : i + 1 + (A.length : Int) < k := by simp only [List.length_cons] at h; omega
    have ih := outk_id k A (i + 1) (by omega) hl
    unfold outk
    rw [if_neg (by rw [Int.tmod_eq_emod_of_nonneg (by omega), Int.emod_eq_of_lt (by omega) (by omega)]; omega), ih]
theorem Bgn.get {n : Int} {A L : List Int} (h : Bgn n A L) (j : Nat) (hj : j < A.length) : L[j]? = A[j]? := by
  obtain ⟨B, rfl, hB⟩ := h
  exact List.getElem?_append_left hj
theorem Bgn.len {n : Int} {A L : List Int} (h : Bgn n A L) : A.length ≤ L.length := by
  obtain ⟨B, rfl, hB⟩ := h
  simp
/-- Where no further step reaches into the begin, it stays. -/
theorem lk_past (n : Int) (A : List Int) : ∀ (d a : Nat) (L : List Int), Gap L → 1 ≤ a → Bgn n A L → (A.length ≤ a ∨ (a < L.length → (A.length : Int) < L.getD a 0)) → Bgn n A (lk d a L).1
  | 0, _, _, _, _, h, _ => h
  | d + 1, a, L, hg, ha, h, hp => by
    by_cases hc : a < L.length ∧ L.getD a 0 ≤ L.length
    · rw [lk_step d a L hc]
      have hs := getD_some L a hc.1
      have hge := gap_get hg.1 hg.2 a _ hs
      have hk : (A.length : Int) < L.getD a 0 := by
        rcases hp with hp | hp
        · omega
        · exact hp hc.1
      have h2 : Bgn n A (outk (L.getD a 0) 0 L) := by
        have := h.out (L.getD a 0) 0
        rw [outk_id _ A 0 (Int.le_refl _) (by omega)] at this
        exact this
      refine lk_past n A d (a + 1) _ (hg.out _) (by omega) h2 (.inr fun hlt => ?_)
      have hsn := getD_some _ _ hlt
      have hsa := outk_keep (L.getD a 0) L a _ hs (by omega)
      obtain ⟨q1, q2⟩ := List.getElem?_eq_some_iff.1 hsn
      obtain ⟨q3, q4⟩ := List.getElem?_eq_some_iff.1 hsa
      have := List.pairwise_iff_getElem.1 (hg.out (L.getD a 0)).1 a (a + 1) q3 q1 (Nat.lt_succ_self a)
      rw [q2, q4] at this
      omega
    · rw [lk_stop d a L hc]; exact h
theorem lk_bgn (n : Int) : ∀ (d a : Nat) (A L : List Int), Gap L → Gap A → 1 ≤ a → Bgn n A L → A.length + 1 ≤ d + a → Bgn n (lk d a A).1 (lk d a L).1
  | 0, a, A, L, _, _, _, h, _ => h
  | d + 1, a, A, L, hg, hgA, ha, h, hd => by
    by_cases hc : a < A.length ∧ A.getD a 0 ≤ A.length
    · have hs := getD_some A a hc.1
      have hl := h.len
      have e : L.getD a 0 = A.getD a 0 := by
        have h1 := h.get a hc.1
        have h2 := getD_some L a (by omega)
        rw [h2, hs] at h1
        injection h1
      have hcL : a < L.length ∧ L.getD a 0 ≤ L.length := ⟨by omega, by rw [e]; omega⟩
      rw [lk_step d a A hc, lk_step d a L hcL, e]
      have h3 := (outk_sub (A.getD a 0) A 0).length_le
      exact lk_bgn n d (a + 1) _ _ (hg.out _) (hgA.out _) (by omega) (h.out _ 0) (by omega)
    · rw [lk_stop d a A hc]
      refine lk_past n A (d + 1) a L hg ha h ?_
      by_cases h1 : A.length ≤ a
      · exact .inl h1
      · refine .inr fun hlt => ?_
        have hs := getD_some A a (by omega)
        have h2 := h.get a (by omega)
        rw [getD_some L a hlt, hs] at h2
        injection h2 with h2
        rw [h2]
        exact Int.not_le.1 fun hh => hc ⟨by omega, hh⟩
theorem Bgn.mem {n : Int} {A L : List Int} (h : Bgn n A L) {x : Int} (hx : x ∈ L) (hn : x ≤ n) : x ∈ A := by
  obtain ⟨B, rfl, hB⟩ := h
  rcases List.mem_append.1 hx with hx | hx
  · exact hx
  · have := hB x hx
    omega
theorem upn_gap (hi : Int) : ∀ (d : Nat) (a : Int), 1 ≤ a → Gap (upn hi 2 d a)
  | 0, _, _ => ⟨List.Pairwise.nil, fun x hx => by cases hx⟩
  | d + 1, a, ha => by
    have ih := upn_gap hi d (a + 2) (by omega)
    unfold upn
    split
    · refine ⟨List.Pairwise.cons (fun x hx => ?_) ih.1, fun x hx => ?_⟩
      · have := upn_mem hi 2 (by omega) d (a + 2) x hx
        omega
      · rcases List.mem_cons.1 hx with rfl | hx
        · exact ha
        · exact ih.2 x hx
    · exact ⟨List.Pairwise.nil, fun x hx => by cases hx⟩
/-- Numbers up to n are the begin of the numbers up to more. -/
theorem upn_bgn (n m s : Int) (hs : 1 ≤ s) (hnm : n ≤ m) : ∀ (d : Nat) (a : Int), Bgn n (upn n s d a) (upn m s d a)
  | 0, _ => ⟨[], rfl, fun x hx => by cases hx⟩
  | d + 1, a => by
    obtain ⟨B, h1, h2⟩ := upn_bgn n m s hs hnm d (a + s)
    unfold upn
    by_cases h : a ≤ n
    · rw [if_pos h, if_pos (by omega)]
      exact ⟨B, by rw [h1]; rfl, h2⟩
    · rw [if_neg h]
      by_cases h3 : a ≤ m
      · rw [if_pos h3]
        refine ⟨_, rfl, fun x hx => ?_⟩
        rcases List.mem_cons.1 hx with rfl | hx
        · omega
        · have := upn_mem m s hs d (a + s) x hx
          omega
      · rw [if_neg h3]
        exact ⟨[], rfl, fun x hx => by cases hx⟩
theorem upn_more (hi s : Int) (hs : 1 ≤ s) : ∀ (d : Nat) (a : Int), hi + 1 - a ≤ (d : Int) → upn hi s (d + 1) a = upn hi s d a
  | 0, a, h => by
    unfold upn
    rw [if_neg (by omega)]
  | d + 1, a, h => by
    have ih := upn_more hi s hs d (a + s) (by omega)
    show (if a ≤ hi then a :: upn hi s (d + 1) (a + s) else []) = (if a ≤ hi then a :: upn hi s d (a + s) else [])
    rw [ih]
/-- Each second number left out. -/
theorem upn_succ (hi s : Int) (d : Nat) (a : Int) : upn hi s (d + 1) a = if a ≤ hi then a :: upn hi s d (a + s) else [] := rfl
theorem upn_none (hi s : Int) (d : Nat) (a : Int) (h : hi < a) : upn hi s d a = [] := by
  cases d with
  | zero => rfl
  | succ d => rw [upn_succ, if_neg (by omega)]
theorem outk_two (hi : Int) : ∀ (d : Nat) (a i : Int), 0 ≤ i → i % 2 = 0 → hi + 1 - a ≤ d → outk 2 i (upn hi 1 d a) = upn hi 2 d a
  | 0, _, _, _, _, _ => rfl
  | 1, a, i, hi0, he, hd => by
    rw [upn_succ, upn_succ]
    by_cases h : a ≤ hi
    · rw [if_pos h, if_pos h, outk_cons, if_neg (by rw [Int.tmod_eq_emod_of_nonneg (by omega)]; omega)]
      rfl
    · rw [if_neg h, if_neg h]; rfl
  | d + 2, a, i, hi0, he, hd => by
    have ih := outk_two hi d (a + 1 + 1) (i + 1 + 1) (by omega) (by omega) (by omega)
    have e : a + 2 = a + 1 + 1 := by omega
    have h2 : upn hi 2 (d + 1) (a + 1 + 1) = upn hi 2 d (a + 1 + 1) := upn_more hi 2 (by omega) d _ (by omega)
    have h3 : upn hi 1 (d + 1) (a + 1) = upn hi 1 (d + 1) (a + 1) := rfl
    rw [upn_succ hi 1 (d + 1) a, upn_succ hi 2 (d + 1) a]
    by_cases h : a ≤ hi
    · rw [if_pos h, if_pos h, outk_cons, if_neg (by rw [Int.tmod_eq_emod_of_nonneg (by omega)]; omega), e, h2, ← ih, upn_succ hi 1 d (a + 1)]
      by_cases h3 : a + 1 ≤ hi
      · rw [if_pos h3, outk_cons, if_pos (by rw [Int.tmod_eq_emod_of_nonneg (by omega)]; omega)]
      · rw [if_neg h3, upn_none hi 1 d (a + 1 + 1) (by omega)]
        rfl
    · rw [if_neg h, if_neg h]; rfl
/-- So many steps, one after the other, from k on. -/
def sq : Nat → Int → List Int
  | 0, _ => []
  | c + 1, k => k :: sq c (k + 1)
theorem sq_all2 : ∀ (c : Nat) (k : Int), 2 ≤ k → all2 (sq c k)
  | 0, _, _, x, h => by cases h
  | c + 1, k, hk, x, h => by
    rcases List.mem_cons.1 h with rfl | h
    · exact hk
    · exact sq_all2 c (k + 1) (by omega) x h
theorem sq_add : ∀ (a b : Nat) (k : Int), sq (a + b) k = sq a k ++ sq b (k + a)
  | 0, b, k => by simp [sq]
  | a + 1, b, k => by
    have ih := sq_add a b (k + 1)
    rw [show a + 1 + b = (a + b) + 1 from by omega]
    show k :: sq (a + b) (k + 1) = k :: (sq a (k + 1) ++ sq b (k + ((a + 1 : Nat) : Int)))
    rw [ih, show k + 1 + (a : Int) = k + ((a + 1 : Nat) : Int) from by omega]
theorem nz_append : ∀ (a b : List Int) (q : Int), nz (a ++ b) q = nz a (nz b q)
  | [], _, _ => rfl
  | s :: a, b, q => by
    show gz s (nz (a ++ b) q) = gz s (nz a (nz b q))
    rw [nz_append a b q]
theorem gz_far (s q : Int) (h1 : 1 ≤ q) (h : q < s) : gz s q = q := by
  unfold gz
  rw [Int.ediv_eq_zero_of_lt (by omega) (by omega)]
  omega
theorem nz_far : ∀ (c : Nat) (k q : Int), 1 ≤ q → q < k → nz (sq c k) q = q
  | 0, _, _, _, _ => rfl
  | c + 1, k, q, h1, h => by
    show gz k (nz (sq c (k + 1)) q) = q
    rw [nz_far c (k + 1) q h1 (by omega), gz_far k q h1 h]
/-- The sieve with rising steps, from step k on. -/
def rs : Nat → Int → List Int → List Int
  | 0, _, L => L
  | d + 1, k, L => if k ≤ L.length then rs d (k + 1) (outk k 0 L) else L
theorem rs_succ (d : Nat) (k : Int) (L : List Int) : rs (d + 1) k L = if k ≤ L.length then rs d (k + 1) (outk k 0 L) else L := rfl
theorem rs_sq : ∀ (d : Nat) (k : Int) (L : List Int), L.length + 1 ≤ d + k → ∃ c : Nat, rs d k L = cOut L (sq c k) ∧ ((rs d k L).length : Int) < k + c
  | 0, k, L, h => ⟨0, rfl, by show (L.length : Int) < _; omega⟩
  | d + 1, k, L, h => by
    rw [rs_succ]
    by_cases hc : k ≤ L.length
    · rw [if_pos hc]
      have hl := (outk_sub k L 0).length_le
      obtain ⟨c, h1, h2⟩ := rs_sq d (k + 1) (outk k 0 L) (by omega)
      exact ⟨c + 1, h1, by omega⟩
    · rw [if_neg hc]
      exact ⟨0, rfl, by omega⟩
theorem rs_sub : ∀ (d : Nat) (k : Int) (L : List Int), (rs d k L).Sublist L
  | 0, _, _ => List.Sublist.refl _
  | d + 1, k, L => by
    rw [rs_succ]
    by_cases hc : k ≤ L.length
    · rw [if_pos hc]
      exact (rs_sub d (k + 1) _).trans (outk_sub k L 0)
    · rw [if_neg hc]
      exact List.Sublist.refl _
/-- What stands at a place behind all steps is found backwards. -/
theorem rs_rank (m : Int) (h0 : 0 ≤ m) (hm : m ≤ 400) (d : Nat) (hd : 500 ≤ d) (i : Nat) (x : Int) (h : (rs d 2 (up 1 1 m))[i]? = some x) : x = nz (sq i 2) (i + 1) := by
  have hul := up_length m h0 hm
  obtain ⟨c, h1, h2⟩ := rs_sq d 2 (up 1 1 m) (by omega)
  obtain ⟨hi, hx⟩ := List.getElem?_eq_some_iff.1 h
  rw [h1] at h2 h hi
  have ha := sq_all2 c 2 (Int.le_refl _)
  have hn := cOut_nz (sq c 2) ha (up 1 1 m) (i + 1) (by omega) (by omega)
  have hb := cOut_back (sq c 2) ha (up 1 1 m) (i + 1) (by omega) (by omega)
  have hg := nz_ge (sq c 2) ha (i + 1) (by omega)
  rw [up_get m _ hm (by omega) (by omega), show ((i : Int) + 1 - 1).toNat = i from by omega, h] at hn
  have e : x = nz (sq c 2) (i + 1) := by injection hn
  rw [e]
  by_cases hc : i ≤ c
  · obtain ⟨b, rfl⟩ : ∃ b, c = i + b := ⟨c - i, by omega⟩
    rw [sq_add, nz_append, nz_far b _ _ (by omega) (by omega)]
  · omega
/-- A list counted out by its own numbers behind each of them. -/
def ow : Nat → Nat → List Int → List Int
  | 0, _, L => L
  | d + 1, i, L => if i < L.length then ow d (i + 1) (L.take (i + 1) ++ outk (L.getD i 0) 0 (L.drop (i + 1))) else L
theorem ow_succ (d i : Nat) (L : List Int) : ow (d + 1) i L = if i < L.length then ow d (i + 1) (L.take (i + 1) ++ outk (L.getD i 0) 0 (L.drop (i + 1))) else L := rfl
theorem ow_part (k : Int) (i : Nat) (L : List Int) : (L.take (i + 1) ++ outk k 0 (L.drop (i + 1))).Sublist L := by
  have h := (List.Sublist.refl (L.take (i + 1))).append (outk_sub k (L.drop (i + 1)) 0)
  rw [List.take_append_drop] at h
  exact h
theorem ow_sub : ∀ (d i : Nat) (L : List Int), (ow d i L).Sublist L
  | 0, _, _ => List.Sublist.refl _
  | d + 1, i, L => by
    rw [ow_succ]
    by_cases hc : i < L.length
    · rw [if_pos hc]
      exact (ow_sub d (i + 1) _).trans (ow_part _ i L)
    · rw [if_neg hc]
      exact List.Sublist.refl _
theorem ow_head : ∀ (d i : Nat) (x : Int) (L : List Int), ∃ T, ow d i (x :: L) = x :: T
  | 0, _, x, L => ⟨L, rfl⟩
  | d + 1, i, x, L => by
    rw [ow_succ]
    by_cases hc : i < (x :: L).length
    · rw [if_pos hc]
      exact ow_head d (i + 1) x _
    · rw [if_neg hc]
      exact ⟨L, rfl⟩
theorem ow_past (n : Int) (A : List Int) : ∀ (d i : Nat) (L : List Int), Bgn n A L → A.length ≤ i → Bgn n A (ow d i L)
  | 0, _, _, h, _ => h
  | d + 1, i, L, h, hi => by
    rw [ow_succ]
    by_cases hc : i < L.length
    · rw [if_pos hc]
      refine ow_past n A d (i + 1) _ ?_ (by omega)
      obtain ⟨B, rfl, hB⟩ := h
      generalize (A ++ B).getD i 0 = k
      rw [List.take_append, List.take_of_length_le (by omega), List.append_assoc]
      refine ⟨_, rfl, fun x hx => ?_⟩
      rcases List.mem_append.1 hx with hx | hx
      · exact hB x (List.mem_of_mem_take hx)
      · have hx := (outk_sub k _ 0).subset hx
        rw [List.drop_append, List.drop_of_length_le (by omega), List.nil_append] at hx
        exact hB x (List.mem_of_mem_drop hx)
    · rw [if_neg hc]
      exact h
theorem ow_bgn (n : Int) : ∀ (d i : Nat) (A L : List Int), Bgn n A L → A.length ≤ d + i → Bgn n (ow d i A) (ow d i L)
  | 0, _, _, _, h, _ => h
  | d + 1, i, A, L, h, hd => by
    by_cases hc : i < A.length
    · have hl := h.len
      rw [ow_succ, ow_succ, if_pos hc, if_pos (by omega)]
      have e : L.getD i 0 = A.getD i 0 := by
        have h1 := h.get i hc
        rw [getD_some L i (by omega), getD_some A i hc] at h1
        injection h1
      rw [e]
      generalize A.getD i 0 = k
      have hs := (ow_part k i A).length_le
      refine ow_bgn n d (i + 1) _ _ ?_ (by omega)
      obtain ⟨B, rfl, hB⟩ := h
      rw [List.take_append_of_le_length (by omega), List.drop_append_of_le_length (by omega), outk_append, ← List.append_assoc]
      exact ⟨_, rfl, fun x hx => hB x ((outk_sub k B _).subset hx)⟩
    · rw [show ow (d + 1) i A = A from if_neg hc]
      exact ow_past n A (d + 1) i L h (by omega)
/-- The order around the circle. -/
def cz (k : Int) : Nat → List Int → Int → List Int
  | 0, _, _ => []
  | d + 1, L, at_ => L.getD ((at_ + k - 1) % L.length).toNat 0 :: cz k d (L.eraseIdx ((at_ + k - 1) % L.length).toNat) ((at_ + k - 1) % L.length)
/-- Where the last one stands, of so many. -/
def jz (k : Int) : Nat → Int
  | 0 => 0
  | 1 => 0
  | d + 2 => (jz k (d + 1) + k) % ((d + 2 : Nat) : Int)
theorem jz_range (k : Int) : ∀ d : Nat, 0 ≤ jz k (d + 1) ∧ jz k (d + 1) < ((d + 1 : Nat) : Int)
  | 0 => by unfold jz; omega
  | d + 1 => by
    show 0 ≤ (jz k (d + 1) + k) % ((d + 2 : Nat) : Int) ∧ (jz k (d + 1) + k) % ((d + 2 : Nat) : Int) < ((d + 1 + 1 : Nat) : Int)
    have h1 := Int.emod_nonneg (jz k (d + 1) + k) (show ((d + 2 : Nat) : Int) ≠ 0 by omega)
    have h2 := Int.emod_lt_of_pos (jz k (d + 1) + k) (show 0 < ((d + 2 : Nat) : Int) by omega)
    omega
theorem cz_perm (k : Int) : ∀ (d : Nat) (L : List Int) (at_ : Int), L.length = d → (cz k d L at_).Perm L
  | 0, L, _, h => by
    rw [List.length_eq_zero_iff.1 h]
    exact List.Perm.refl _
  | d + 1, L, at_, h => by
    have h0 := Int.emod_nonneg (at_ + k - 1) (show (L.length : Int) ≠ 0 by omega)
    have h1 := Int.emod_lt_of_pos (at_ + k - 1) (show 0 < (L.length : Int) by omega)
    unfold cz
    generalize (at_ + k - 1) % (L.length : Int) = i at h0 h1 ⊢
    have hlt : i.toNat < L.length := by omega
    have hl := List.length_eraseIdx_of_lt hlt
    have ih := cz_perm k d (L.eraseIdx i.toNat) i (by omega)
    rw [show L.getD i.toNat 0 = L[i.toNat] from by simp [List.getD, hlt]]
    refine (ih.cons _).trans ?_
    rw [List.eraseIdx_eq_take_drop_succ]
    refine List.perm_middle.symm.trans ?_
    rw [← List.drop_eq_getElem_cons hlt, List.take_append_drop]
/-- Of two numbers that leave the same rest of n, both from 0 on and less than n. -/
theorem emod_add_self (a n : Int) : (a + n) % n = a % n := Int.add_emod_right a n
theorem erase_rot (L : List Int) (i : Int) (t : Int) (n : Int) (h0 : 0 ≤ i) (h1 : i ≤ n) (t0 : 0 ≤ t) (t1 : t < n) :
    (L.eraseIdx i.toNat)[((i + t) % n).toNat]? = L[((i + 1 + t) % (n + 1)).toNat]? := by
  rw [List.getElem?_eraseIdx]
  by_cases hc : i + t < n
  · rw [Int.emod_eq_of_lt (by omega) hc, Int.emod_eq_of_lt (by omega) (by omega), if_neg (by omega)]
    congr 1
    omega
  · rw [show i + t = (i + t - n) + n from by omega, Int.add_emod_right, Int.emod_eq_of_lt (by omega) (by omega), show i + 1 + t = (i + t - n) + (n + 1) from by omega, Int.add_emod_right, Int.emod_eq_of_lt (by omega) (by omega), if_pos (by omega)]
theorem cz_last (k : Int) : ∀ (d : Nat) (L : List Int) (at_ : Int), L.length = d + 1 → (cz k (d + 1) L at_)[d]? = L[((at_ + jz k (d + 1)) % ((d + 1 : Nat) : Int)).toNat]?
  | 0, L, at_, h => by
    obtain ⟨x, rfl⟩ := List.length_eq_one_iff.1 h
    have e : ∀ z : Int, z % ((0 + 1 : Nat) : Int) = 0 := fun z => by omega
    have e2 : (at_ + k - 1) % (([x] : List Int).length : Int) = 0 := e _
    unfold cz
    rw [e, e2]
    simp
  | d + 1, L, at_, h => by
    have h0 := Int.emod_nonneg (at_ + k - 1) (show (L.length : Int) ≠ 0 by omega)
    have h1 := Int.emod_lt_of_pos (at_ + k - 1) (show 0 < (L.length : Int) by omega)
    obtain ⟨j0, j1⟩ := jz_range k d
    have hj : jz k (d + 1 + 1) = (jz k (d + 1) + k) % ((d + 2 : Nat) : Int) := rfl
    rw [hj]
    unfold cz
    rw [List.getElem?_cons_succ]
    have hi : (at_ + k - 1) % (L.length : Int) = (at_ + k - 1) % ((d + 2 : Nat) : Int) := by rw [h]
    obtain ⟨i, hie⟩ : ∃ i, i = (at_ + k - 1) % (L.length : Int) := ⟨_, rfl⟩
    rw [← hie] at h0 h1 hi ⊢
    have hlt : i.toNat < L.length := by omega
    have hl := List.length_eraseIdx_of_lt hlt
    rw [cz_last k d (L.eraseIdx i.toNat) i (by omega), erase_rot L i _ ((d + 1 : Nat) : Int) h0 (by omega) j0 j1]
    congr 2
    have e : ((d + 1 : Nat) : Int) + 1 = ((d + 2 : Nat) : Int) := by omega
    have e3 : ((d + 1 + 1 : Nat) : Int) = ((d + 2 : Nat) : Int) := rfl
    rw [e, e3, hi]
    generalize ((d + 2 : Nat) : Int) = n
    generalize jz k (d + 1) = j
    rw [show (at_ + k - 1) % n + 1 + j = (at_ + k - 1) % n + (1 + j) from by omega, Int.emod_add_emod, Int.add_emod_emod]
    congr 1
    omega
theorem cz_succ (k : Int) (d : Nat) (L : List Int) (at_ : Int) : cz k (d + 1) L at_ = L.getD ((at_ + k - 1) % L.length).toNat 0 :: cz k d (L.eraseIdx ((at_ + k - 1) % L.length).toNat) ((at_ + k - 1) % L.length) := rfl
theorem own_first : ow 500 0 (up 2 1 25) = [2, 3, 5, 7, 11, 13, 17, 23, 25] := by decide
def leftV (L : List Int) (n : Int) : List Int × Bool := if goodS L = true ∧ (0 ≤ n ∧ n ≤ 400) then (cOut (up 1 1 n) L, true) else ([], false)
theorem left_at (L : List Int) (n : Int) (hg : goodS L = true) (hr : 0 ≤ n ∧ n ≤ 400) (K : Nat) (hK : 20100 < K) : impl_LeftByCounting.f K L n = some (cOut (up 1 1 n) L, true) := by
  obtain ⟨K, rfl⟩ : ∃ k, K = k + 1 := ⟨K - 1, by omega⟩
  have hul := up_len 1 1 n
  unfold impl_LeftByCounting.f
  rw [areSteps_at, isAnew_at, hg, decide_eq_true hr]
  simp only [Option.bind_some, impl_LeftByCounting.j0]
  rw [if_pos trivial, if_neg (show ¬ ((!true) = true) by simp), upTo_at 1 1 n (by omega) (by omega) (by omega) (by omega) K (by omega)]
  simp only [Option.bind_some]
  rw [countedOut_at L hg (up 1 1 n) (by omega) K (by omega)]
  rfl
theorem rd_eq (L : List Int) (a : Nat) : rd L (a : Int) = L.getD a 0 := by simp [rd]
theorem lk_l0 : ∀ (d a : Nat) (L st : List Int), L.length + 1 ≤ d + a → L.length ≤ 2000 → st.length ≤ a → a ≤ 3000 → (∀ x ∈ L, 1 ≤ x) → ∀ K, 10001 + d < K →
    spec_cnOwn.l0 K L a st = some ((lk d a L).1, st ++ (lk d a L).2) ∧ impl_luckyFrom.l0 K L st a = some ((lk d a L).1, st ++ (lk d a L).2) := by
  intro d
  induction d with
  | zero =>
    intro a L st hd hL hs ha hm K hK
    obtain ⟨K, rfl⟩ : ∃ k, K = k + 1 := ⟨K - 1, by omega⟩
    have hc : ¬ (a : Int) < (L.length : Int) := by omega
    have e1 : (lk 0 a L).1 = L := rfl
    have e2 : (lk 0 a L).2 = [] := rfl
    simp only [spec_cnOwn.l0, impl_luckyFrom.l0]
    rw [if_neg hc, if_neg hc, e1, e2, List.append_nil]
    exact ⟨rfl, rfl⟩
  | succ d ih =>
    intro a L st hd hL hs ha hm K hK
    obtain ⟨K, rfl⟩ : ∃ k, K = k + 1 := ⟨K - 1, by omega⟩
    simp only [spec_cnOwn.l0, impl_luckyFrom.l0]
    by_cases hc : a < L.length
    · have hc' : (a : Int) < (L.length : Int) := by omega
      have h0 : (0 : Int) ≤ (a : Int) := by omega
      have hk := hm _ (rd_mem L a hc)
      rw [if_pos hc', if_pos hc', if_pos h0, if_pos h0]
      by_cases hx : rd L (a : Int) ≤ (L.length : Int)
      · have hst := lk_step d a L ⟨hc, by rw [← rd_eq]; exact hx⟩
        rw [← rd_eq] at hst
        have hl := outk_len (rd L (a : Int)) L 0
        have h := ih (a + 1) (outk (rd L (a : Int)) 0 L) (st ++ [rd L (a : Int)]) (by omega) (by omega) (by rw [List.length_append, List.length_singleton]; omega) (by omega) (fun x hx => hm x (outk_mem _ _ _ _ hx)) K (by omega)
        rw [show ((a + 1 : Nat) : Int) = (a : Int) + 1 from by omega, List.append_assoc] at h
        have h3 : st.length < 17592186044416 := by omega
        rw [if_pos hx, if_pos hx, if_pos h3, if_pos h3, cnOut_at _ (by omega) L (by omega) K (by omega), without_at _ (by omega) L (by omega) K (by omega), w64 (by omega) (by omega), hst]
        exact h
      · have hst := lk_stop d a L (fun hh => hx (by rw [rd_eq]; exact hh.2))
        rw [if_neg hx, if_neg hx, hst, List.append_nil]
        exact ⟨rfl, rfl⟩
    · have hc' : ¬ (a : Int) < (L.length : Int) := by omega
      have hst := lk_stop d a L (fun hh => hc hh.1)
      rw [if_neg hc', if_neg hc', hst, List.append_nil]
      exact ⟨rfl, rfl⟩
def lkz (L : List Int) : List Int × List Int := lk 1010 1 L
theorem lkz_at (L : List Int) (hL : L.length ≤ 1000) (hm : ∀ x ∈ L, 1 ≤ x) (K : Nat) (hK : 20000 < K) : spec_cnOwn.f K L 1 = some (lkz L) ∧ impl_luckyFrom.f K L = some (lkz L) := by
  have h := lk_l0 1010 1 L [] (by omega) (by omega) (by simp) (by omega) hm K (by omega)
  rw [List.nil_append] at h
  exact h
theorem up_ge1 (a s n : Int) (ha : 1 ≤ a) (hs : 1 ≤ s) : ∀ x ∈ up a s n, 1 ≤ x := fun x hx => by
  have := upn_mem n s hs 1000 a x hx
  omega
theorem lkz_none (n : Int) (h0 : 0 ≤ n) (h2 : n < 2) : (lkz (up 1 2 n)).2 = [] := by
  by_cases h3 : n = 0
  · subst h3; decide
  · obtain rfl : n = 1 := by omega
    decide
def stepsOf (n : Int) : List Int := if n ≥ 2 then 2 :: (lkz (up 1 2 n)).2 else (lkz (up 1 2 n)).2
theorem sub_len {A B : List Int} (h : A.Sublist B) (n : Nat) (hB : B.length ≤ n) : A.length ≤ n := Nat.le_trans h.length_le hB
theorem lkz_len (L : List Int) : (lkz L).1.length ≤ L.length := (lk_sub 1010 1 L).length_le
theorem lkz_steps_len (L : List Int) (hg : Gap L) : (lkz L).2.length ≤ L.length := by
  by_cases h : (lkz L).2.length = 0
  · omega
  · have hlt : (lkz L).2.length - 1 < (lkz L).2.length := by omega
    have h1 := lk_steps 1010 1 L hg (by omega) ((lkz L).2.length - 1) _ (List.getElem?_eq_getElem hlt)
    obtain ⟨h2, _⟩ := List.getElem?_eq_some_iff.1 h1
    have h3 := lkz_len L
    have h4 : 1 + ((lkz L).2.length - 1) < (lkz L).1.length := h2
    omega
theorem luckyI_at (n : Int) (h0 : 0 ≤ n) (hn : n ≤ 400) (K : Nat) (hK : 20000 < K) : impl_lucky.f K n = some ((lkz (up 1 2 n)).1, stepsOf n) := by
  have h := lkz_at (up 1 2 n) (up_len 1 2 n) (up_ge1 1 2 n (by omega) (by omega)) K hK
  have hl := lkz_steps_len (up 1 2 n) (upn_gap n 1000 1 (by omega))
  have hu := up_len 1 2 n
  unfold impl_lucky.f stepsOf
  rw [upTo_at 1 2 n (by omega) (by omega) (by omega) (by omega) K (by omega)]
  simp only [Option.bind_some]
  rw [h.2]
  simp only [Option.bind_some]
  have hb : ([2] : List Int).length + (lkz (up 1 2 n)).2.length < 17592186044416 := by rw [List.length_singleton]; omega
  by_cases h2 : n ≥ 2
  · rw [if_pos h2, if_pos h2, if_pos hb]; rfl
  · rw [if_neg h2, if_neg h2]
def inA (n : Int) : Prop := 0 ≤ n ∧ n ≤ 400
instance (n : Int) : Decidable (inA n) := inferInstanceAs (Decidable (0 ≤ n ∧ n ≤ 400))
def luckyV (n : Int) : List Int × Bool := if 0 ≤ n ∧ n ≤ 400 then ((lkz (up 1 2 n)).1, true) else ([], false)
def stepsV (n : Int) : List Int × Bool := if 0 ≤ n ∧ n ≤ 400 then (stepsOf n, true) else ([], false)
def evenV (n : Int) : List Int × Bool := if 0 ≤ n ∧ n ≤ 400 then ((lkz (up 2 2 n)).1, true) else ([], false)
def riseV (n : Int) : List Int × Bool := if 0 ≤ n ∧ n ≤ 400 then (rs 1010 2 (up 1 1 n), true) else ([], false)
theorem lucky_at (n : Int) (K : Nat) (hK : 20000 < K) : spec_Lucky.f K n = some (luckyV n) ∧ impl_Lucky.f K n = some (luckyV n) := by
  unfold spec_Lucky.f impl_Lucky.f luckyV
  rw [cnMost_at, isAnew_at]
  by_cases hr : 0 ≤ n ∧ n ≤ 400
  · have h := lkz_at (up 1 2 n) (up_len 1 2 n) (up_ge1 1 2 n (by omega) (by omega)) K hK
    rw [decide_eq_true hr, if_pos hr, cnUp_at 1 2 n (by omega) (by omega) (by omega) (by omega) K (by omega), luckyI_at n hr.1 hr.2 K hK]
    simp only [Option.bind_some]
    rw [if_pos trivial, if_pos trivial, h.1]
    exact ⟨rfl, rfl⟩
  · rw [if_neg hr, decide_eq_false hr]
    exact ⟨rfl, rfl⟩
theorem steps_at (n : Int) (K : Nat) (hK : 20000 < K) : spec_LuckySteps.f K n = some (stepsV n) ∧ impl_LuckySteps.f K n = some (stepsV n) := by
  unfold spec_LuckySteps.f impl_LuckySteps.f stepsV
  rw [cnMost_at, isAnew_at]
  by_cases hr : 0 ≤ n ∧ n ≤ 400
  · have h := lkz_at (up 1 2 n) (up_len 1 2 n) (up_ge1 1 2 n (by omega) (by omega)) K hK
    have hl := lkz_steps_len (up 1 2 n) (upn_gap n 1000 1 (by omega))
    have hu := up_len 1 2 n
    rw [decide_eq_true hr, if_pos hr, cnUp_at 1 2 n (by omega) (by omega) (by omega) (by omega) K (by omega), luckyI_at n hr.1 hr.2 K hK]
    simp only [Option.bind_some]
    rw [if_pos trivial, if_pos trivial, h.1]
    simp only [Option.bind_some]
    refine ⟨?_, by first | rfl | trivial⟩
    have hb : ([2] : List Int).length + (lkz (up 1 2 n)).2.length < 17592186044416 := by rw [List.length_singleton]; omega
    unfold stepsOf
    by_cases h2 : n < 2
    · rw [if_pos h2, if_neg (by omega), lkz_none n hr.1 h2]
    · rw [if_neg h2, if_pos hb, if_pos (show n ≥ 2 by omega)]; rfl
  · rw [if_neg hr, decide_eq_false hr]
    exact ⟨rfl, rfl⟩
theorem even_at (n : Int) (K : Nat) (hK : 20000 < K) : spec_EvenLucky.f K n = some (evenV n) ∧ impl_EvenLucky.f K n = some (evenV n) := by
  unfold spec_EvenLucky.f impl_EvenLucky.f evenV
  rw [cnMost_at, isAnew_at]
  by_cases hr : 0 ≤ n ∧ n ≤ 400
  · have h := lkz_at (up 2 2 n) (up_len 2 2 n) (up_ge1 2 2 n (by omega) (by omega)) K hK
    rw [decide_eq_true hr, if_pos hr, cnUp_at 2 2 n (by omega) (by omega) (by omega) (by omega) K (by omega), upTo_at 2 2 n (by omega) (by omega) (by omega) (by omega) K (by omega)]
    simp only [Option.bind_some]
    rw [if_pos trivial, if_pos trivial, h.1, h.2]
    exact ⟨rfl, rfl⟩
  · rw [if_neg hr, decide_eq_false hr]
    exact ⟨rfl, rfl⟩
theorem rise_l0 : ∀ (d : Nat) (L : List Int) (k : Int), 2 ≤ k → k ≤ 6000 → L.length + 1 ≤ d + k → L.length ≤ 5000 → ∀ K, 10001 + d < K →
    spec_cnRising.l0 K L k = some (rs d k L) ∧ impl_RisingSieve.l0 K L k = some (rs d k L, true) := by
  intro d
  induction d with
  | zero =>
    intro L k hk hk2 hd hL K hK
    obtain ⟨K, rfl⟩ : ∃ k, K = k + 1 := ⟨K - 1, by omega⟩
    have hc : ¬ k ≤ (L.length : Int) := by omega
    simp only [spec_cnRising.l0, impl_RisingSieve.l0]
    rw [if_neg hc, if_neg hc]
    exact ⟨rfl, rfl⟩
  | succ d ih =>
    intro L k hk hk2 hd hL K hK
    obtain ⟨K, rfl⟩ : ∃ k, K = k + 1 := ⟨K - 1, by omega⟩
    simp only [spec_cnRising.l0, impl_RisingSieve.l0]
    rw [rs_succ]
    by_cases hc : k ≤ (L.length : Int)
    · have hl := outk_len k L 0
      have h := ih (outk k 0 L) (k + 1) (by omega) (by omega) (by omega) (by omega) K (by omega)
      rw [if_pos hc, if_pos hc, if_pos hc, cnOut_at k (by omega) L hL K (by omega), without_at k (by omega) L hL K (by omega), w64 (by omega) (by omega)]
      exact h
    · rw [if_neg hc, if_neg hc, if_neg hc]
      exact ⟨rfl, rfl⟩
theorem rise_at (n : Int) (K : Nat) (hK : 20000 < K) : spec_RisingSieve.f K n = some (riseV n) ∧ impl_RisingSieve.f K n = some (riseV n) := by
  unfold spec_RisingSieve.f impl_RisingSieve.f spec_cnRising.f riseV
  rw [cnMost_at, isAnew_at]
  by_cases hr : 0 ≤ n ∧ n ≤ 400
  · have hul := up_len 1 1 n
    have h := rise_l0 1010 (up 1 1 n) 2 (by omega) (by omega) (by omega) (by omega) K (by omega)
    rw [decide_eq_true hr, if_pos hr, upTo_at 1 1 n (by omega) (by omega) (by omega) (by omega) K (by omega), cnUp_at 1 1 n (by omega) (by omega) (by omega) (by omega) K (by omega)]
    simp only [Option.bind_some]
    rw [if_pos trivial, if_pos trivial, h.1]
    exact ⟨rfl, h.2⟩
  · rw [if_neg hr, decide_eq_false hr]
    exact ⟨rfl, rfl⟩
theorem has_l0 (n : Int) (L : List Int) (hL : L.length ≤ 5000) : ∀ (d i : Nat), i + d = L.length → ∃ b : Int, -1 ≤ b ∧ (b ≥ 0 ↔ n ∈ L.drop i) ∧ ∀ K, d < K → slices_Index_int_int.l0 K L n L.length i = some b ∧ spec_l1Has.l0 K n L L.length i = some (decide (b ≥ 0)) := by
  intro d
  induction d with
  | zero =>
    intro i hi
    refine ⟨-1, by omega, by rw [List.drop_of_length_le (by omega)]; simp, fun K hK => ?_⟩
    obtain ⟨K, rfl⟩ : ∃ k, K = k + 1 := ⟨K - 1, by omega⟩
    have hc : ¬ (i : Int) < (L.length : Int) := by omega
    simp only [slices_Index_int_int.l0, spec_l1Has.l0]
    rw [if_neg hc, if_neg hc]
    exact ⟨rfl, rfl⟩
  | succ d ih =>
    intro i hi
    have hlt : (i : Int) < (L.length : Int) := by omega
    have hi0 : (0 : Int) ≤ (i : Int) := by omega
    by_cases he : rd L (i : Int) = n
    · refine ⟨i, by omega, ?_, fun K hK => ?_⟩
      · rw [drop_rd L i (by omega), he]; simp
      obtain ⟨K, rfl⟩ : ∃ k, K = k + 1 := ⟨K - 1, by omega⟩
      simp only [slices_Index_int_int.l0, spec_l1Has.l0]
      rw [if_pos hlt, if_pos hlt, if_pos hi0, if_pos hi0, if_pos hlt, if_pos hlt, if_pos he, if_pos he.symm]
      exact ⟨rfl, by simp⟩
    · obtain ⟨b, hb, hm, hv⟩ := ih (i + 1) (by omega)
      refine ⟨b, hb, ?_, fun K hK => ?_⟩
      · rw [hm, drop_rd L i (by omega), List.mem_cons]
        exact ⟨.inr, fun h => h.resolve_left (fun h => he h.symm)⟩
      obtain ⟨K, rfl⟩ : ∃ k, K = k + 1 := ⟨K - 1, by omega⟩
      have h := hv K (by omega)
      rw [show ((i + 1 : Nat) : Int) = (i : Int) + 1 from by omega] at h
      simp only [slices_Index_int_int.l0, spec_l1Has.l0]
      rw [if_pos hlt, if_pos hlt, if_pos hi0, if_pos hi0, if_pos hlt, if_pos hlt, if_neg he, if_neg (fun x => he x.symm), w64 (by omega) (by omega)]
      exact h
def isV (n : Int) : Bool × Bool := if 1 ≤ n ∧ n ≤ 400 then (decide (n ∈ (lkz (up 1 2 n)).1), true) else (false, false)
theorem is_at (n : Int) (K : Nat) (hK : 20100 < K) : spec_IsLucky.f K n = some (isV n) ∧ impl_IsLucky.f K n = some (isV n) := by
  obtain ⟨K, rfl⟩ : ∃ k, K = k + 1 := ⟨K - 1, by omega⟩
  unfold spec_IsLucky.f impl_IsLucky.f isV
  rw [l1In_at]
  simp only [Option.bind_some, impl_IsLucky.j0]
  by_cases hr : 1 ≤ n ∧ n ≤ 400
  · have hul := up_len 1 2 n
    have hll := lkz_len (up 1 2 n)
    obtain ⟨b, hb, hm, hh⟩ := has_l0 n (lkz (up 1 2 n)).1 (by omega) (lkz (up 1 2 n)).1.length 0 (by omega)
    have h1 := lkz_at (up 1 2 n) hul (up_ge1 1 2 n (by omega) (by omega)) (K + 1) (by omega)
    have h2 := luckyI_at n (by omega) hr.2 K (by omega)
    have h3 : spec_l1Has.l0 (K + 1) n (lkz (up 1 2 n)).1 (lkz (up 1 2 n)).1.length 0 = _ := (hh (K + 1) (by omega)).2
    have h4 : slices_Index_int_int.l0 K (lkz (up 1 2 n)).1 n (lkz (up 1 2 n)).1.length 0 = _ := (hh K (by omega)).1
    have e : decide (b ≥ 0) = decide (n ∈ (lkz (up 1 2 n)).1) := by rw [List.drop_zero] at hm; exact decide_eq_decide.2 hm
    rw [decide_eq_true hr, if_pos rfl, if_pos hr, cnUp_at 1 2 n (by omega) (by omega) (by omega) (by omega) _ (by omega), if_neg (show ¬ n < 1 by omega), decide_eq_false (show ¬ n > 400 by omega), if_neg (show ¬ (false = true) by simp)]
    simp only [Option.bind_some]
    rw [h1.1, h2]
    simp only [Option.bind_some, spec_l1Has.f, slices_Contains_int_int.f, slices_Index_int_int.f]
    rw [h3, h4, ← e]
    exact ⟨rfl, rfl⟩
  · rw [if_neg hr, decide_eq_false hr, if_neg (show ¬ (false = true) by simp)]
    refine ⟨rfl, ?_⟩
    by_cases h1 : n < 1
    · rw [if_pos h1, if_pos trivial]
    · rw [if_neg h1, decide_eq_true (show n > 400 by omega), if_pos rfl]
def rrV (r : Int) : Int × Bool := if 0 ≤ r ∧ r ≤ 30 then (nz (sq r.toNat 2) (r + 1), true) else (0, false)
theorem gz_grow (s q : Int) (hs : 2 ≤ s) (hq : 1 ≤ q) : q ≤ gz s q ∧ gz s q ≤ 2 * q := by
  have h1 : (q - 1) / (s - 1) ≤ q - 1 := Int.ediv_le_self _ (by omega)
  have h0 : 0 ≤ (q - 1) / (s - 1) := Int.ediv_nonneg (by omega) (by omega)
  unfold gz
  omega
theorem sq_snoc : ∀ (c : Nat) (k : Int), sq (c + 1) k = sq c k ++ [k + c]
  | 0, k => by simp [sq]
  | c + 1, k => by
    show k :: sq (c + 1) (k + 1) = k :: sq c (k + 1) ++ [k + ((c + 1 : Nat) : Int)]
    rw [sq_snoc c (k + 1), show k + 1 + (c : Int) = k + ((c + 1 : Nat) : Int) from by omega]
    rfl
def pw2 : Nat → Int
  | 0 => 1
  | d + 1 => 2 * pw2 d
theorem pw2_pos : ∀ d, 1 ≤ pw2 d
  | 0 => by simp [pw2]
  | d + 1 => by have := pw2_pos d; unfold pw2; omega
theorem rank_l0 : ∀ (c : Nat) (q : Int), 1 ≤ q → q * pw2 c ≤ 1000000000000 → c ≤ 40 → ∀ K, c < K →
    spec_RisingOfRank.l0 K q (c + 1) = some (nz (sq c 2) q, true) ∧ impl_RisingOfRank.l0 K q (c + 1) = some (nz (sq c 2) q, true) := by
  intro c
  induction c with
  | zero =>
    intro q hq hb hc K hK
    obtain ⟨K, rfl⟩ : ∃ k, K = k + 1 := ⟨K - 1, by omega⟩
    have n1 : ¬ (((0 : Nat) : Int) + 1 ≥ 2) := by omega
    simp only [spec_RisingOfRank.l0, impl_RisingOfRank.l0]
    rw [if_neg n1, if_neg n1]
    exact ⟨rfl, rfl⟩
  | succ c ih =>
    intro q hq hb hc K hK
    obtain ⟨K, rfl⟩ : ∃ k, K = k + 1 := ⟨K - 1, by omega⟩
    have hp := pw2_pos c
    have hg := gz_grow (c + 2) q (by omega) hq
    have hqb : q ≤ 1000000000000 := by
      have := Int.mul_le_mul_of_nonneg_left (show 1 ≤ pw2 (c + 1) from pw2_pos _) (by omega : 0 ≤ q)
      omega
    have hb2 : gz (c + 2) q * pw2 c ≤ 1000000000000 := by
      have h1 := Int.mul_le_mul_of_nonneg_right hg.2 (by omega : 0 ≤ pw2 c)
      have h2 : 2 * q * pw2 c = q * pw2 (c + 1) := by
        show 2 * q * pw2 c = q * (2 * pw2 c)
        rw [Int.mul_comm 2 q, Int.mul_assoc]
      omega
    have h := ih (gz (c + 2) q) (by omega) hb2 (by omega) K (by omega)
    have p1 : ((c + 1 : Nat) : Int) + 1 ≥ 2 := by omega
    have e1 : wrap64 (((c + 1 : Nat) : Int) + 1 - 1) = (c : Int) + 1 := by rw [w64 (by omega) (by omega)]; omega
    have n1 : ¬ ((c : Int) + 1 = 0) := by omega
    have hd : Int.tdiv (q - 1) ((c : Int) + 1) = (q - 1) / ((c : Int) + 1) := Int.tdiv_eq_ediv_of_nonneg (by omega)
    have hdl : (q - 1) / ((c : Int) + 1) ≤ q - 1 := Int.ediv_le_self _ (by omega)
    have hd0 : 0 ≤ (q - 1) / ((c : Int) + 1) := Int.ediv_nonneg (by omega) (by omega)
    have e2 : q + (q - 1) / ((c : Int) + 1) = gz (c + 2) q := by unfold gz; rw [show (c : Int) + 2 - 1 = (c : Int) + 1 from by omega]
    simp only [spec_RisingOfRank.l0, impl_RisingOfRank.l0]
    rw [if_pos p1, if_pos p1, e1, if_neg n1, if_neg n1, w64 (x := q - 1) (by omega) (by omega), hd, w64 (x := (q - 1) / ((c : Int) + 1)) (by omega) (by omega), w64 (x := q + (q - 1) / ((c : Int) + 1)) (by omega) (by omega), e2, sq_snoc, nz_append, show (2 : Int) + (c : Int) = (c : Int) + 2 from by omega]
    exact h
theorem rr_at (r : Int) (K : Nat) (hK : 1000 < K) : spec_RisingOfRank.f K r = some (rrV r) ∧ impl_RisingOfRank.f K r = some (rrV r) := by
  obtain ⟨K, rfl⟩ : ∃ k, K = k + 1 := ⟨K - 1, by omega⟩
  unfold spec_RisingOfRank.f impl_RisingOfRank.f rrV
  rw [l1In_at]
  simp only [Option.bind_some, impl_RisingOfRank.j0]
  by_cases hr : 0 ≤ r ∧ r ≤ 30
  · obtain ⟨c, rfl⟩ : ∃ c : Nat, r = c := ⟨r.toNat, by omega⟩
    have hp : ((c : Int) + 1) * pw2 (c + 1) ≤ 1000000000000 := by
      have h32 : pw2 (c + 1) ≤ pw2 31 := by
        have mono : ∀ a b : Nat, a ≤ b → pw2 a ≤ pw2 b := by
          intro a b hab
          induction b with
          | zero => obtain rfl : a = 0 := by omega
                    exact Int.le_refl _
          | succ b ihb =>
            by_cases h1 : a = b + 1
            · subst h1; exact Int.le_refl _
            · have h2 := ihb (by omega)
              have h3 := pw2_pos b
              show pw2 a ≤ 2 * pw2 b
              omega
        exact mono _ _ (by omega)
      have h31 : pw2 31 = 2147483648 := by decide
      have h1 := Int.mul_le_mul (show (c : Int) + 1 ≤ 31 by omega) (show pw2 (c + 1) ≤ 2147483648 by omega) (by have := pw2_pos (c + 1); omega) (by omega)
      omega
    have hp2 : ((c : Int) + 1) * pw2 c ≤ 1000000000000 := by
      have := Int.mul_le_mul_of_nonneg_left (show pw2 c ≤ pw2 (c + 1) by have := pw2_pos c; show pw2 c ≤ 2 * pw2 c; omega) (show 0 ≤ (c : Int) + 1 by omega)
      omega
    have h1 := (rank_l0 (c + 1) (c + 1) (by omega) hp (by omega) (K + 1) (by omega)).1
    have h2 := (rank_l0 c (c + 1) (by omega) hp2 (by omega) K (by omega)).2
    rw [sq_snoc, nz_append, show nz [(2 : Int) + (c : Int)] ((c : Int) + 1) = (c : Int) + 1 from gz_far (2 + (c : Int)) ((c : Int) + 1) (by omega) (by omega)] at h1
    rw [decide_eq_true hr, if_pos rfl, if_pos hr, if_neg (show ¬ (c : Int) < 0 by omega), decide_eq_false (show ¬ (c : Int) > 30 by omega), if_neg (show ¬ (false = true) by simp), w64 (x := (c : Int) + 1) (by omega) (by omega), w64 (x := (c : Int) + 2) (by omega) (by omega), Int.toNat_natCast]
    exact ⟨h1, h2⟩
  · rw [if_neg hr, decide_eq_false hr, if_neg (show ¬ (false = true) by simp)]
    refine ⟨rfl, ?_⟩
    by_cases h1 : r < 0
    · rw [if_pos h1, if_pos trivial]
    · rw [if_neg h1, decide_eq_true (show r > 30 by omega), if_pos rfl]
theorem own_l0 : ∀ (d i : Nat) (L : List Int), L.length ≤ d + i → L.length ≤ 1000 → (∀ x ∈ L, x ≠ 0) → ∀ K, 10001 + d < K →
    spec_OwnSteps.l0 K L i = some (ow d i L, true) ∧ impl_OwnSteps.l0 K L i = some (ow d i L, true) := by
  intro d
  induction d with
  | zero =>
    intro i L hi hL hm K hK
    obtain ⟨K, rfl⟩ : ∃ k, K = k + 1 := ⟨K - 1, by omega⟩
    have hc : ¬ (i : Int) < (L.length : Int) := by omega
    simp only [spec_OwnSteps.l0, impl_OwnSteps.l0]
    rw [if_neg hc, if_neg hc]
    exact ⟨rfl, rfl⟩
  | succ d ih =>
    intro i L hi hL hm K hK
    obtain ⟨K, rfl⟩ : ∃ k, K = k + 1 := ⟨K - 1, by omega⟩
    rw [ow_succ]
    by_cases hlt : i < L.length
    · have hne := hm _ (rd_mem L i hlt)
      have hdl : (L.drop (i + 1)).length ≤ 5000 := by rw [List.length_drop]; omega
      have hlen := (ow_part (rd L (i : Int)) i L).length_le
      have h := ih (i + 1) (L.take (i + 1) ++ outk (rd L (i : Int)) 0 (L.drop (i + 1))) (by omega) (by omega) (fun x hx => hm x ((ow_part _ i L).subset hx)) K (by omega)
      rw [show ((i + 1 : Nat) : Int) = (i : Int) + 1 from by omega] at h
      have hc : (i : Int) < (L.length : Int) := by omega
      have hi0 : (0 : Int) ≤ (i : Int) := by omega
      have hq : wrap64 ((i : Int) + 1) = (i : Int) + 1 := w64 (by omega) (by omega)
      have q1 : (0 : Int) ≤ (i : Int) + 1 := by omega
      have q2 : (i : Int) + 1 ≤ (L.length : Int) := by omega
      have q3 : ((i : Int) + 1).toNat = i + 1 := by omega
      have s1 := without_at (rd L (i : Int)) hne (L.drop (i + 1)) hdl K (by omega)
      have s2 := cnOut_at (rd L (i : Int)) hne (L.drop (i + 1)) hdl K (by omega)
      have big : 1000 < 17592186044416 := by decide
      have p4 : (L.take (i + 1)).length < 17592186044416 := Nat.lt_of_le_of_lt (Nat.le_trans (List.length_take_le' (i + 1) L) hL) big
      have p5 : (L.take (i + 1)).length + (outk (rd L (i : Int)) 0 (L.drop (i + 1))).length < 17592186044416 := by
        rw [List.length_append] at hlen
        exact Nat.lt_of_le_of_lt (Nat.le_trans hlen hL) big
      rw [if_pos hlt, ← rd_eq]
      clear ih hm hlen hdl hL hi
      simp only [spec_OwnSteps.l0, impl_OwnSteps.l0, spec_l1Own.f]
      rw [if_pos hc, if_pos hc, hq, if_pos q1, if_pos q2, if_pos hi0, if_pos hi0, q3, Int.toNat_natCast, s1, s2]
      simp only [Option.bind_some, List.nil_append, List.length_nil, Nat.zero_add]
      rw [if_pos p4]
      simp only [Option.bind_some]
      rw [if_pos p5, if_pos p5]
      exact h
    · have hc : ¬ (i : Int) < (L.length : Int) := by omega
      rw [if_neg hlt]
      simp only [spec_OwnSteps.l0, impl_OwnSteps.l0]
      rw [if_neg hc, if_neg hc]
      exact ⟨rfl, rfl⟩
def ownV (a m : Int) : List Int × Bool := if (2 ≤ a ∧ a ≤ 20) ∧ (0 ≤ m ∧ m ≤ 400) then (ow 1000 0 (up a 1 m), true) else ([], false)
theorem own_at (a m : Int) (K : Nat) (hK : 20000 < K) : spec_OwnSteps.f K a m = some (ownV a m) ∧ impl_OwnSteps.f K a m = some (ownV a m) := by
  obtain ⟨K, rfl⟩ : ∃ k, K = k + 1 := ⟨K - 1, by omega⟩
  unfold spec_OwnSteps.f impl_OwnSteps.f ownV
  by_cases hn : 2 ≤ a ∧ a ≤ 20
  · by_cases hk : 0 ≤ m ∧ m ≤ 400
    · have hul := up_len a 1 m
      have h := own_l0 1000 0 (up a 1 m) (by omega) (by omega) (by
        intro x hx
        have := upn_mem m 1 (by omega) 1000 a x hx
        omega) K (by omega)
      rw [if_pos ⟨hn, hk⟩, l1In_at, cnMost_at, isAnew_at, decide_eq_true hn, decide_eq_true hk, if_neg (show ¬ a < 2 by omega), if_neg (show ¬ a > 20 by omega)]
      simp only [Option.bind_some, spec_OwnSteps.j0, impl_OwnSteps.j0]
      rw [if_pos trivial, if_neg (show ¬ ((!true) = true) by simp), if_neg (show ¬ ((!true) = true) by simp), upTo_at a 1 m (by omega) (by omega) (by omega) (by omega) K (by omega), cnUp_at a 1 m (by omega) (by omega) (by omega) (by omega) K (by omega)]
      exact h
    · rw [if_neg (fun h => hk h.2), l1In_at, cnMost_at, isAnew_at, decide_eq_true hn, decide_eq_false hk, if_neg (show ¬ a < 2 by omega), if_neg (show ¬ a > 20 by omega)]
      simp [spec_OwnSteps.j0, impl_OwnSteps.j0]
  · rw [if_neg (fun h => hn h.1), l1In_at, decide_eq_false hn]
    simp only [Option.bind_some, spec_OwnSteps.j0, impl_OwnSteps.j0]
    refine ⟨by simp, ?_⟩
    by_cases h1 : a < 2
    · simp [h1]
    · have h2 : a > 20 := by omega
      simp [h1, h2]
theorem erase_take (L : List Int) (i : Nat) : L.take i ++ L.drop (i + 1) = L.eraseIdx i := (List.eraseIdx_eq_take_drop_succ ..).symm
theorem circ_l0 (k : Int) (hk : 1 ≤ k) (hk2 : k ≤ 1000) : ∀ (d : Nat) (L out : List Int) (at_ : Int), L.length = d → d ≤ 5000 → out.length + d ≤ 10000 → 0 ≤ at_ → at_ ≤ 5000 → ∀ K, d < K →
    spec_CircleOut.l0 K k L out at_ = some (out ++ cz k d L at_, true) ∧ impl_CircleOut.l0 K k L out at_ = some (out ++ cz k d L at_, true) := by
  intro d
  induction d with
  | zero =>
    intro L out at_ hL hd ho h0 h1 K hK
    obtain ⟨K, rfl⟩ : ∃ k, K = k + 1 := ⟨K - 1, by omega⟩
    have hc : ¬ ((L.length : Int) > 0) := by omega
    have e : cz k 0 L at_ = [] := rfl
    simp only [spec_CircleOut.l0, impl_CircleOut.l0]
    rw [if_neg hc, if_neg hc, e, List.append_nil]
    exact ⟨rfl, rfl⟩
  | succ d ih =>
    intro L out at_ hL hd ho h0 h1 K hK
    have hc : (L.length : Int) > 0 := by omega
    have hz : ¬ ((L.length : Int) = 0) := by omega
    have hte : Int.tmod (at_ + k - 1) (L.length : Int) = (at_ + k - 1) % (L.length : Int) := Int.tmod_eq_emod_of_nonneg (by omega)
    have hr0 : 0 ≤ (at_ + k - 1) % (L.length : Int) := Int.emod_nonneg _ (by omega)
    have hr1 : (at_ + k - 1) % (L.length : Int) < (L.length : Int) := Int.emod_lt_of_pos _ (by omega)
    rw [cz_succ]
    obtain ⟨i, hi⟩ : ∃ i : Nat, (at_ + k - 1) % (L.length : Int) = (i : Int) := ⟨((at_ + k - 1) % (L.length : Int)).toNat, by omega⟩
    rw [hi, Int.toNat_natCast, ← rd_eq]
    rw [hi] at hr0 hr1 hte
    have hle := List.length_eraseIdx_of_lt (show i < L.length by omega)
    have h := ih (L.eraseIdx i) (out ++ [rd L (i : Int)]) i (by omega) (by omega) (by rw [List.length_append, List.length_singleton]; omega) (by omega) (by omega)
    obtain ⟨K, rfl⟩ : ∃ k, K = k + 1 := ⟨K - 1, by omega⟩
    replace h := h K (by omega)
    rw [List.append_assoc] at h
    have hw1 : wrap64 (wrap64 (at_ + k) - 1) = at_ + k - 1 := by rw [w64 (x := at_ + k) (by omega) (by omega), w64 (by omega) (by omega)]
    have hL5 : L.length ≤ 5000 := by omega
    have ho5 : out.length ≤ 10000 := by omega
    clear ho hd ih h0 h1 hz hc hle
    have hc : (L.length : Int) > 0 := by omega
    have hz : ¬ ((L.length : Int) = 0) := by omega
    have p1 : (i : Int) ≤ (L.length : Int) := by omega
    have p2 : (0 : Int) ≤ ((i + 1 : Nat) : Int) := by omega
    have p3 : ((i + 1 : Nat) : Int) ≤ (L.length : Int) := by omega
    have hw2 : wrap64 ((i : Int) + 1) = (i : Int) + 1 := w64 (by omega) (by omega)
    have hq : (i : Int) + 1 = ((i + 1 : Nat) : Int) := by omega
    have big : 10000 < 17592186044416 := by decide
    have ho2 : out.length < 17592186044416 := Nat.lt_of_le_of_lt ho5 big
    have p4 : (L.take i).length < 17592186044416 := Nat.lt_of_le_of_lt (Nat.le_trans (List.length_take_le' i L) (Nat.le_trans hL5 (by decide))) big
    have p5 : (L.take i).length + (L.drop (i + 1)).length < 17592186044416 := Nat.lt_of_le_of_lt (Nat.add_le_add (Nat.le_trans (List.length_take_le' i L) hL5) (Nat.le_trans (by rw [List.length_drop]; exact Nat.sub_le _ _) hL5)) big
    simp only [spec_CircleOut.l0, impl_CircleOut.l0, spec_l1Own.f, slices_Delete_int_int.f]
    rw [if_pos hc, if_pos hc, if_neg hz, if_neg hz, hw1, hte, if_pos hr0, if_pos hr0, if_pos hr1, if_pos hr1, if_pos ho2, if_pos ho2, hw2, hq]
    simp only [Option.bind_some, List.nil_append, List.length_nil, Nat.zero_add, Int.toNat_natCast]
    rw [if_pos p1, if_pos p4]
    simp only [Option.bind_some]
    rw [if_pos p2, if_pos p3, if_pos p5, if_pos trivial, if_pos p3, erase_take]
    exact h
def circV (n k : Int) : List Int × Bool := if (1 ≤ n ∧ n ≤ 100) ∧ (1 ≤ k ∧ k ≤ 1000) then (cz k n.toNat (up 1 1 n) 0, true) else ([], false)
theorem up_lenN (n : Int) (h0 : 0 ≤ n) (h : n ≤ 400) : (up 1 1 n).length = n.toNat := by
  have := up_length n h0 h
  omega
theorem circ_at (n k : Int) (K : Nat) (hK : 20000 < K) : spec_CircleOut.f K n k = some (circV n k) ∧ impl_CircleOut.f K n k = some (circV n k) := by
  obtain ⟨K, rfl⟩ : ∃ k, K = k + 1 := ⟨K - 1, by omega⟩
  unfold spec_CircleOut.f impl_CircleOut.f circV
  by_cases hn : 1 ≤ n ∧ n ≤ 100
  · by_cases hk : 1 ≤ k ∧ k ≤ 1000
    · have hul := up_lenN n (by omega) (by omega)
      have h := circ_l0 k hk.1 hk.2 n.toNat (up 1 1 n) [] 0 hul (by omega) (by rw [List.length_nil]; omega) (by omega) (by omega) K (by omega)
      rw [List.nil_append] at h
      rw [if_pos ⟨hn, hk⟩, l1In_at, l1In_at, decide_eq_true hn, decide_eq_true hk, if_neg (show ¬ n < 1 by omega), if_neg (show ¬ n > 100 by omega), if_neg (show ¬ k < 1 by omega), decide_eq_false (show ¬ k > 1000 by omega)]
      simp only [Option.bind_some, spec_CircleOut.j0, impl_CircleOut.j0]
      rw [if_pos trivial, if_neg (show ¬ ((!true) = true) by simp), if_neg (show ¬ (false = true) by simp), upTo_at 1 1 n (by omega) (by omega) (by omega) (by omega) K (by omega), cnUp_at 1 1 n (by omega) (by omega) (by omega) (by omega) K (by omega)]
      exact h
    · rw [if_neg (fun h => hk h.2), l1In_at, l1In_at, decide_eq_true hn, decide_eq_false hk, if_neg (show ¬ n < 1 by omega), if_neg (show ¬ n > 100 by omega)]
      simp only [Option.bind_some, spec_CircleOut.j0, impl_CircleOut.j0]
      refine ⟨by simp, ?_⟩
      by_cases h1 : k < 1
      · simp [h1]
      · have h2 : k > 1000 := by omega
        simp [h1, h2]
  · rw [if_neg (fun h => hn h.1), l1In_at, decide_eq_false hn]
    simp only [Option.bind_some, spec_CircleOut.j0, impl_CircleOut.j0]
    refine ⟨by simp, ?_⟩
    by_cases h1 : n < 1
    · simp [h1]
    · have h2 : n > 100 := by omega
      simp [h1, h2]
def lastV (n k : Int) : Int × Bool := if (1 ≤ n ∧ n ≤ 100) ∧ (1 ≤ k ∧ k ≤ 1000) then (jz k n.toNat + 1, true) else (0, false)
theorem last_l0 (k : Int) (hk : 1 ≤ k) (hk2 : k ≤ 1000) (n : Int) (hn : n ≤ 100) : ∀ (d : Nat) (m : Nat), 1 ≤ m → (m : Int) + d = n → ∀ K, d < K →
    spec_LastOfCircle.l0 K n k (jz k m) ((m : Int) + 1) = some (jz k n.toNat + 1, true) ∧ impl_LastOfCircle.l0 K n k (jz k m) ((m : Int) + 1) = some (jz k n.toNat + 1, true) := by
  intro d
  induction d with
  | zero =>
    intro m hm he K hK
    obtain ⟨K, rfl⟩ : ∃ k, K = k + 1 := ⟨K - 1, by omega⟩
    obtain ⟨m, rfl⟩ : ∃ q, m = q + 1 := ⟨m - 1, by omega⟩
    obtain ⟨j0, j1⟩ := jz_range k m
    have hc : ¬ (((m + 1 : Nat) : Int) + 1 ≤ n) := by omega
    have e : n.toNat = m + 1 := by omega
    simp only [spec_LastOfCircle.l0, impl_LastOfCircle.l0]
    rw [if_neg hc, if_neg hc, e, w64 (by omega) (by omega)]
    exact ⟨rfl, rfl⟩
  | succ d ih =>
    intro m hm he K hK
    obtain ⟨K, rfl⟩ : ∃ k, K = k + 1 := ⟨K - 1, by omega⟩
    obtain ⟨m, rfl⟩ : ∃ q, m = q + 1 := ⟨m - 1, by omega⟩
    obtain ⟨j0, j1⟩ := jz_range k m
    have hc : ((m + 1 : Nat) : Int) + 1 ≤ n := by omega
    have hz : ¬ (((m + 1 : Nat) : Int) + 1 = 0) := by omega
    have h := ih (m + 1 + 1) (by omega) (by omega) K (by omega)
    have e : Int.tmod (jz k (m + 1) + k) (((m + 1 : Nat) : Int) + 1) = jz k (m + 1 + 1) := by
      rw [Int.tmod_eq_emod_of_nonneg (by omega)]
      rfl
    have e2 : ((m + 1 : Nat) : Int) + 1 + 1 = ((m + 1 + 1 : Nat) : Int) + 1 := by omega
    simp only [spec_LastOfCircle.l0, impl_LastOfCircle.l0]
    rw [if_pos hc, if_pos hc, if_neg hz, if_neg hz, w64 (x := jz k (m + 1) + k) (by omega) (by omega), e, w64 (x := ((m + 1 : Nat) : Int) + 1 + 1) (by omega) (by omega), e2]
    exact h
theorem last_at (n k : Int) (K : Nat) (hK : 1000 < K) : spec_LastOfCircle.f K n k = some (lastV n k) ∧ impl_LastOfCircle.f K n k = some (lastV n k) := by
  obtain ⟨K, rfl⟩ : ∃ k, K = k + 1 := ⟨K - 1, by omega⟩
  unfold spec_LastOfCircle.f impl_LastOfCircle.f lastV
  by_cases hn : 1 ≤ n ∧ n ≤ 100
  · by_cases hk : 1 ≤ k ∧ k ≤ 1000
    · have h := last_l0 k hk.1 hk.2 n hn.2 (n.toNat - 1) 1 (by omega) (by omega) K (by omega)
      rw [if_pos ⟨hn, hk⟩, l1In_at, l1In_at, decide_eq_true hn, decide_eq_true hk, if_neg (show ¬ n < 1 by omega), if_neg (show ¬ n > 100 by omega), if_neg (show ¬ k < 1 by omega), decide_eq_false (show ¬ k > 1000 by omega)]
      simp only [Option.bind_some, spec_LastOfCircle.j0, impl_LastOfCircle.j0]
      rw [if_pos trivial, if_neg (show ¬ ((!true) = true) by simp), if_neg (show ¬ (false = true) by simp)]
      exact h
    · rw [if_neg (fun h => hk h.2), l1In_at, l1In_at, decide_eq_true hn, decide_eq_false hk, if_neg (show ¬ n < 1 by omega), if_neg (show ¬ n > 100 by omega)]
      simp only [Option.bind_some, spec_LastOfCircle.j0, impl_LastOfCircle.j0]
      refine ⟨by simp, ?_⟩
      by_cases h1 : k < 1
      · simp [h1]
      · have h2 : k > 1000 := by omega
        simp [h1, h2]
  · rw [if_neg (fun h => hn h.1), l1In_at, decide_eq_false hn]
    simp only [Option.bind_some, spec_LastOfCircle.j0, impl_LastOfCircle.j0]
    refine ⟨by simp, ?_⟩
    by_cases h1 : n < 1
    · simp [h1]
    · have h2 : n > 100 := by omega
      simp [h1, h2]
theorem upn_par (hi : Int) : ∀ (d : Nat) (a x : Int), x ∈ upn hi 2 d a → (x - a) % 2 = 0
  | 0, _, _, h => by cases h
  | d + 1, a, x, h => by
    rw [upn_succ] at h
    split at h
    · rcases List.mem_cons.1 h with rfl | h
      · omega
      · have := upn_par hi d (a + 2) x h
        omega
    · cases h
theorem lucky_mem {n x : Int} (h : x ∈ (lkz (up 1 2 n)).1) : 1 ≤ x ∧ x ≤ n ∧ x % 2 = 1 := by
  have h1 := (lk_sub 1010 1 (up 1 2 n)).subset h
  have h2 := upn_mem n 2 (by omega) 1000 1 x h1
  have h3 := upn_par n 1000 1 x h1
  omega
theorem even_mem {n x : Int} (h : x ∈ (lkz (up 2 2 n)).1) : 2 ≤ x ∧ x ≤ n ∧ x % 2 = 0 := by
  have h1 := (lk_sub 1010 1 (up 2 2 n)).subset h
  have h2 := upn_mem n 2 (by omega) 1000 2 x h1
  have h3 := upn_par n 1000 2 x h1
  omega
theorem rise_mem {n x : Int} (h : x ∈ rs 1010 2 (up 1 1 n)) : 1 ≤ x ∧ x ≤ n :=
  upn_mem n 1 (by omega) 1000 1 x ((rs_sub 1010 2 _).subset h)
theorem is_own {n x : Int} (hn : n ≤ 400) (h : x ∈ (lkz (up 1 2 n)).1) : x ∈ (lkz (up 1 2 x)).1 := by
  obtain ⟨h1, h2, _⟩ := lucky_mem h
  have hb := lk_bgn x 1010 1 (up 1 2 x) (up 1 2 n) (upn_gap n 1000 1 (by omega)) (upn_gap x 1000 1 (by omega)) (by omega) (upn_bgn x n 2 (by omega) h2 1000 1) (by have := up_len 1 2 x; omega)
  exact hb.mem h (Int.le_refl _)
theorem step_in {n : Int} {j : Nat} {x : Int} (h : (lkz (up 1 2 n)).2[j]? = some x) : x ∈ (lkz (up 1 2 n)).1 ∧ 3 ≤ x := by
  have h1 := lk_steps 1010 1 (up 1 2 n) (upn_gap n 1000 1 (by omega)) (by omega) j x h
  have hg : Gap (lkz (up 1 2 n)).1 := ⟨(upn_gap n 1000 1 (by omega)).1.sublist (lk_sub 1010 1 _), fun y hy => (lucky_mem hy).1⟩
  have h2 := gap_get hg.1 hg.2 (1 + j) x h1
  exact ⟨List.mem_of_getElem? h1, by omega⟩
theorem steps_mem {n x : Int} (h : x ∈ stepsOf n) : 2 ≤ x ∧ (x = 2 ∨ x ∈ (lkz (up 1 2 n)).1) := by
  have key : x ∈ (lkz (up 1 2 n)).2 → 2 ≤ x ∧ (x = 2 ∨ x ∈ (lkz (up 1 2 n)).1) := fun hx => by
    obtain ⟨j, hj⟩ := List.mem_iff_getElem?.1 hx
    have := step_in hj
    exact ⟨by omega, .inr this.1⟩
  unfold stepsOf at h
  split at h
  · rcases List.mem_cons.1 h with rfl | h
    · exact ⟨Int.le_refl _, .inl rfl⟩
    · exact key h
  · exact key h
theorem steps_good {n : Int} (hn : n ≤ 400) (h : (stepsOf n).length ≤ 12) : goodS (stepsOf n) = true := by
  unfold goodS
  simp only [Bool.and_eq_true, decide_eq_true_eq, List.all_eq_true]
  refine ⟨h, fun x hx => ?_⟩
  obtain ⟨h1, h2⟩ := steps_mem hx
  rcases h2 with rfl | h2
  · omega
  · have := lucky_mem h2
    omega
theorem steps_left {n : Int} (h0 : 0 ≤ n) (hn : n ≤ 400) : cOut (up 1 1 n) (stepsOf n) = (lkz (up 1 2 n)).1 := by
  unfold stepsOf
  by_cases h2 : n ≥ 2
  · rw [if_pos h2]
    show cOut (outk 2 0 (up 1 1 n)) (lkz (up 1 2 n)).2 = _
    rw [show outk 2 0 (up 1 1 n) = up 1 2 n from outk_two n 1000 1 0 (Int.le_refl _) rfl (by omega)]
    exact lk_cOut 1010 1 (up 1 2 n)
  · rw [if_neg h2]
    by_cases h3 : n = 0
    · subst h3; decide
    · obtain rfl : n = 1 := by omega
      decide
theorem own_first_k : ow 1000 0 (up 2 1 25) = [2, 3, 5, 7, 11, 13, 17, 23, 25] := by decide
theorem own_told (t : Int) (i : Nat) (x : Int) (h : ([2, 3, 5, 7, 11, 13, 17, 23, 25] : List Int)[i]? = some x) (hx : x ≤ t) : (ow 1000 0 (up 2 1 t))[i]? = some x := by
  by_cases ht : t ≤ 25
  · have hb := ow_bgn t 1000 0 (up 2 1 t) (up 2 1 25) (upn_bgn t 25 1 (by omega) ht 1000 2) (by have := up_len 2 1 t; omega)
    rw [own_first_k] at hb
    by_cases hi : i < (ow 1000 0 (up 2 1 t)).length
    · rw [← hb.get i hi]; exact h
    · obtain ⟨B, hB, hB2⟩ := hb
      rw [hB, List.getElem?_append_right (by omega)] at h
      have := hB2 x (List.mem_of_getElem? h)
      omega
  · have hb := ow_bgn 25 1000 0 (up 2 1 25) (up 2 1 t) (upn_bgn 25 t 1 (by omega) (by omega) 1000 2) (by have := up_len 2 1 25; omega)
    rw [own_first_k] at hb
    obtain ⟨hi, _⟩ := List.getElem?_eq_some_iff.1 h
    rw [hb.get i hi]
    exact h
theorem rd_some {L : List Int} {i : Nat} {x : Int} (h : L[i]? = some x) : i < L.length ∧ rd L (i : Int) = x := by
  obtain ⟨h1, h2⟩ := List.getElem?_eq_some_iff.1 h
  exact ⟨h1, by rw [rd_get L i h1, h2]⟩
theorem some_rd {L : List Int} {i : Nat} (h : i < L.length) : L[i]? = some (rd L (i : Int)) := by
  rw [rd_get L i h, List.getElem?_eq_getElem h]
theorem up_head (a n : Int) (h : a ≤ n) : ∃ T, up a 1 n = a :: T := ⟨_, if_pos h⟩
theorem up_rises (a n s : Int) (hs : 1 ≤ s) : (up a s n).Pairwise (· < ·) := upn_rises n s hs 1000 a
def okB (l : List Int) : Prop := l.length ≤ 1048576 ∧ ∀ x ∈ l, 0 ≤ x ∧ x ≤ 255
theorem okB_of (l : List Int) (h : l.length ≤ 1048576) (hw : ∀ x ∈ l, (Lit.int .u8 x).wf = true) : okB l := by
  refine ⟨h, fun x hx => ?_⟩
  have := hw x hx
  simp [Lit.wf, IntKind.min, IntKind.max, IntKind.bits, IntKind.signed] at this
  omega
theorem and255 (x : Int) : 0 ≤ Go.bits .and .u64 x 255 ∧ Go.bits .and .u64 x 255 ≤ 255 := by
  unfold Go.bits
  have h : (BitVec.ofInt IntKind.u64.bits x &&& BitVec.ofInt IntKind.u64.bits 255).toNat ≤ 255 := by
    rw [BitVec.toNat_and]
    exact Nat.le_trans Nat.and_le_right (by decide)
  simp only []
  generalize (BitVec.ofInt IntKind.u64.bits x &&& BitVec.ofInt IntKind.u64.bits 255).toNat = n at h
  simp [IntKind.wrap, IntKind.bits, IntKind.signed]
  omega
theorem rd_in {l : List Int} {i : Int} (h0 : 0 ≤ i) (h1 : i < (l.length : Int)) : rd l i ∈ l := by
  obtain ⟨n, rfl⟩ : ∃ n : Nat, i = n := ⟨i.toNat, by omega⟩
  have hn : n < l.length := by omega
  simp [rd, List.getD, hn]
def curOk (a a' : Int) (n : Int) : Prop := 0 ≤ a' ∧ a' ≤ a + n
theorem next_ok {l : List Int} (hl : okB l) {a : Int} (s : Int) (h0 : 0 ≤ a) (h1 : a ≤ 1000000000000) : ∃ x a' s', spec_l1Cur_next.f l a s = some (x, a', s') ∧ (0 ≤ x ∧ x ≤ 255) ∧ curOk a a' 1 := by
  obtain ⟨h2, hb⟩ := hl
  have hw : wrap64 (a + 1) = a + 1 := w64 (by omega) (by omega)
  have hc : curOk a (wrap64 (a + 1)) 1 := by rw [hw]; exact ⟨by omega, by omega⟩
  unfold spec_l1Cur_next.f
  by_cases c1 : a < (l.length : Int)
  · have hr := hb _ (rd_in h0 c1)
    have hw1 : wrap64 (rd l a) = rd l a := w64 (by omega) (by omega)
    rw [if_pos c1, if_pos h0]
    by_cases c2 : wrap64 (a + 1) ≤ (l.length : Int)
    · rw [if_pos c2]
      exact ⟨_, _, _, rfl, by rw [hw1]; exact hr, hc⟩
    · rw [if_neg c2]
      refine ⟨_, _, _, rfl, ?_, hc⟩
      generalize hz : IntKind.u64.wrap _ / 1099511627776 = z
      have := and255 z
      rw [w64 (by omega) (by omega)]
      exact this
  · rw [if_neg c1]
    by_cases c2 : wrap64 (a + 1) ≤ (l.length : Int)
    · rw [if_pos c2]
      exact ⟨_, _, _, rfl, ⟨by omega, by omega⟩, hc⟩
    · rw [if_neg c2]
      refine ⟨_, _, _, rfl, ?_, hc⟩
      generalize hz : IntKind.u64.wrap _ / 1099511627776 = z
      have := and255 z
      rw [w64 (by omega) (by omega)]
      exact this
theorem pick_ok {l : List Int} (hl : okB l) {a : Int} (s n : Int) (h0 : 0 ≤ a) (h1 : a ≤ 1000000000) : ∃ x a' s', spec_l1Cur_pick.f l a s n = some (x, a', s') ∧ 0 ≤ x ∧ (1 ≤ n → x < n) ∧ curOk a a' 2 := by
  unfold spec_l1Cur_pick.f
  by_cases c1 : n ≤ 1
  · rw [if_pos c1]
    exact ⟨_, _, _, rfl, by omega, by omega, by omega, by omega⟩
  · have n0 : ¬ n = 0 := by omega
    have n1 : 0 < n := by omega
    obtain ⟨x, a1, s1, e1, ⟨hx0, hx1⟩, ha0, ha1⟩ := next_ok hl s h0 (by omega)
    rw [if_neg c1, e1]
    simp only [Option.bind_some]
    by_cases c2 : n > 200
    · obtain ⟨y, a2, s2, e2, ⟨hy0, hy1⟩, hb0, hb1⟩ := next_ok hl s1 ha0 (by omega)
      rw [if_pos c2, e2]
      simp only [Option.bind_some]
      rw [if_neg n0, w64 (x := x * 256) (by omega) (by omega), w64 (by omega) (by omega)]
      exact ⟨_, _, _, rfl, Int.tmod_nonneg _ (by omega), fun _ => Int.tmod_lt_of_pos _ n1, by omega, by omega⟩
    · rw [if_neg c2, if_neg n0]
      exact ⟨_, _, _, rfl, Int.tmod_nonneg _ hx0, fun _ => Int.tmod_lt_of_pos _ n1, by omega, by omega⟩
theorem one_ok {l : List Int} (hl : okB l) {a : Int} (s n : Int) (h0 : 0 ≤ a) (h1 : a ≤ 1000000000) : ∃ (b : Bool) (a' s' : Int), spec_l1Cur_one.f l a s n = some (b, a', s') ∧ curOk a a' 2 := by
  obtain ⟨x, a', s', e, _, _, hc⟩ := pick_ok hl s n h0 h1
  unfold spec_l1Cur_one.f
  rw [e]
  exact ⟨_, _, _, rfl, hc⟩
theorem among_ok {l : List Int} (hl : okB l) {a : Int} (s : Int) (L : List Int) (hL : 1 ≤ L.length) (h0 : 0 ≤ a) (h1 : a ≤ 1000000000) : ∃ x a' s', spec_l1Cur_among.f l a s L = some (x, a', s') ∧ x ∈ L ∧ curOk a a' 2 := by
  obtain ⟨x, a', s', e, h2, h3, hc⟩ := pick_ok hl s (L.length : Int) h0 h1
  have h4 := h3 (by omega)
  unfold spec_l1Cur_among.f
  rw [e]
  simp only [Option.bind_some]
  rw [if_pos h2, if_pos h4]
  exact ⟨_, _, _, rfl, rd_in h2 h4, hc⟩
theorem big_at (l0 l1 : List Int) (h1 : l1.length ≤ maxLen) : ∃ b, laws_big.f l0 l1 = some b ∧ (b = false → l0.length ≤ 1048576 ∧ l1.length ≤ 1048576) := by
  unfold laws_big.f
  by_cases h : (l0.length : Int) > 1048576
  · rw [if_pos h]; exact ⟨true, rfl, fun h => by cases h⟩
  · rw [if_neg h, w64 (by omega) (by omega)]
    refine ⟨_, rfl, fun h => ?_⟩
    have := of_decide_eq_false h
    omega
theorem anew_ok {l : List Int} (hl : okB l) {a : Int} (s : Int) (h0 : 0 ≤ a) (h1 : a ≤ 100000000) : ∃ x a' s', spec_l1Cur_anew.f l a s = some (x, a', s') := by
  unfold spec_l1Cur_anew.f
  obtain ⟨b, a1, s1, e1, c1, d1⟩ := one_ok hl s 12 h0 (by omega)
  rw [e1]
  simp only [Option.bind_some]
  cases b with
  | true =>
    obtain ⟨x, a2, s2, e2, _⟩ := among_ok hl s1 [(-1), 0, 1, 2, 400, 401, 4611686018427387904] (by simp) c1 (by omega)
    rw [if_pos rfl, e2]
    exact ⟨_, _, _, rfl⟩
  | false =>
    obtain ⟨x, a2, s2, e2, _⟩ := pick_ok hl s1 100 c1 (by omega)
    rw [if_neg (by simp), e2]
    exact ⟨_, _, _, rfl⟩
theorem drawLucky (l : List Int) (hl : okB l) : ∃ v, spec_DrawLucky.f l = some v := by
  unfold spec_DrawLucky.f
  obtain ⟨x, a2, s2, e2⟩ := anew_ok hl 0 (Int.le_refl 0) (by omega)
  rw [e2]
  exact ⟨_, rfl⟩
theorem drawIsLucky (l : List Int) (hl : okB l) : ∃ v, spec_DrawIsLucky.f l = some v := by
  unfold spec_DrawIsLucky.f
  obtain ⟨b, a1, s1, e1, c1, d1⟩ := one_ok hl 0 12 (Int.le_refl 0) (by omega)
  rw [e1]
  simp only [Option.bind_some]
  cases b with
  | true =>
    obtain ⟨x, a2, s2, e2, _⟩ := among_ok hl s1 [(-1), 0, 400, 401] (by simp) c1 (by omega)
    rw [if_pos rfl, e2]
    exact ⟨_, rfl⟩
  | false =>
    obtain ⟨x, a2, s2, e2, _⟩ := pick_ok hl s1 120 c1 (by omega)
    rw [if_neg (by simp), e2]
    exact ⟨_, rfl⟩
theorem drawRising (l : List Int) (hl : okB l) : ∃ v, spec_DrawRisingOfRank.f l = some v := by
  unfold spec_DrawRisingOfRank.f
  obtain ⟨b, a1, s1, e1, c1, d1⟩ := one_ok hl 0 12 (Int.le_refl 0) (by omega)
  rw [e1]
  simp only [Option.bind_some]
  cases b with
  | true =>
    obtain ⟨x, a2, s2, e2, _⟩ := among_ok hl s1 [(-1), 30, 31] (by simp) c1 (by omega)
    rw [if_pos rfl, e2]
    exact ⟨_, rfl⟩
  | false =>
    obtain ⟨x, a2, s2, e2, _⟩ := pick_ok hl s1 12 c1 (by omega)
    rw [if_neg (by simp), e2]
    exact ⟨_, rfl⟩
theorem drawOwn (l : List Int) (hl : okB l) : ∃ v, spec_DrawOwnSteps.f l = some v := by
  unfold spec_DrawOwnSteps.f
  obtain ⟨b, a1, s1, e1, _, c1, d1⟩ := among_ok hl 0 [2, 3, 4, 5, 7, 20, 21, 1] (by simp) (Int.le_refl 0) (by omega)
  rw [e1]
  simp only [Option.bind_some]
  obtain ⟨x, a2, s2, e2⟩ := anew_ok hl s1 c1 (by omega)
  rw [e2]
  exact ⟨_, rfl⟩
theorem drawCircle (l : List Int) (hl : okB l) : ∃ v, spec_DrawCircleOut.f l = some v := by
  unfold spec_DrawCircleOut.f
  obtain ⟨b, a1, s1, e1, c1, d1⟩ := one_ok hl 0 12 (Int.le_refl 0) (by omega)
  rw [e1]
  simp only [Option.bind_some]
  cases b with
  | true =>
    obtain ⟨x, a2, s2, e2, _, c2, d2⟩ := among_ok hl s1 [0, 1, 100, 101] (by simp) c1 (by omega)
    rw [if_pos rfl, e2]
    simp only [Option.bind_some]
    obtain ⟨y, a3, s3, e3, _⟩ := among_ok hl s2 [0, 1, 1000, 1001] (by simp) c2 (by omega)
    rw [e3]
    exact ⟨_, rfl⟩
  | false =>
    obtain ⟨x, a2, s2, e2, _, _, c2, d2⟩ := pick_ok hl s1 20 c1 (by omega)
    rw [if_neg (by simp), e2]
    simp only [Option.bind_some]
    obtain ⟨y, a3, s3, e3, _⟩ := pick_ok hl s2 9 c2 (by omega)
    rw [e3]
    exact ⟨_, rfl⟩
theorem l5_at (m : Int) (hm : m ≤ 100) (g : List Int) (hg : g.length ≤ 10000) (ha : ∀ y, 1 ≤ y → y ≤ m → y ∈ g) : ∀ (d : Nat) (x : Int), 1 ≤ x → m + 1 - x ≤ d → ∀ K, 10010 + d < K → laws_FnLuckyNumbers.l5 K m g x = some true := by
  intro d
  induction d with
  | zero =>
    intro x h1 h2 K hK
    obtain ⟨K, rfl⟩ : ∃ k, K = k + 1 := ⟨K - 1, by omega⟩
    have hc : ¬ x ≤ m := by omega
    simp only [laws_FnLuckyNumbers.l5]
    rw [if_neg hc]
  | succ d ih =>
    intro x h1 h2 K hK
    obtain ⟨K, rfl⟩ : ∃ k, K = k + 1 := ⟨K - 1, by omega⟩
    simp only [laws_FnLuckyNumbers.l5]
    by_cases hc : x ≤ m
    · rw [if_pos hc, tHas_at g x hg K (by omega), decide_eq_true (ha x h1 hc), w64 (x := x + 1) (by omega) (by omega)]
      simp only [Option.bind_some]
      rw [if_pos trivial]
      exact ih (x + 1) (by omega) (by omega) K (by omega)
    · rw [if_neg hc]
theorem j12_at (m k : Int) (K : Nat) (hK : 10300 < K) : laws_FnLuckyNumbers.j9 K m k (circV m k).1 (circV m k).2 (lastV m k).1 = some true := by
  obtain ⟨K, rfl⟩ : ∃ k, K = k + 1 := ⟨K - 1, by omega⟩
  unfold circV lastV
  simp only [laws_FnLuckyNumbers.j9]
  by_cases h : (1 ≤ m ∧ m ≤ 100) ∧ (1 ≤ k ∧ k ≤ 1000)
  · rw [if_pos h, if_pos h]
    simp only []
    obtain ⟨⟨h1, h2⟩, h3, h4⟩ := h
    have hul := up_lenN m (by omega) (by omega)
    have hp := cz_perm k m.toNat (up 1 1 m) 0 hul
    have hlen := hp.length_eq
    obtain ⟨d, hd⟩ : ∃ d : Nat, m.toNat = d + 1 := ⟨m.toNat - 1, by omega⟩
    have hlast := cz_last k d (up 1 1 m) 0 (by omega)
    rw [hd] at hp hlen ⊢
    obtain ⟨j0, j1⟩ := jz_range k d
    have hz : (0 + jz k (d + 1)) % ((d + 1 : Nat) : Int) = jz k (d + 1) := by rw [Int.zero_add]; exact Int.emod_eq_of_lt j0 j1
    rw [hz] at hlast
    have hug := up_get m (jz k (d + 1) + 1) (by omega) (by omega) (by omega)
    rw [show jz k (d + 1) + 1 - 1 = jz k (d + 1) from by omega] at hug
    rw [hug] at hlast
    have hr1 := (rd_some hlast).2
    have hfirst : rd (cz k (d + 1) (up 1 1 m) 0) 0 = Int.tmod (k - 1) m + 1 := by
      rw [cz_succ]
      have e : (0 + k - 1) % ((up 1 1 m).length : Int) = Int.tmod (k - 1) m := by
        rw [Int.tmod_eq_emod_of_nonneg (by omega), show ((up 1 1 m).length : Int) = m from by omega, show 0 + k - 1 = k - 1 from by omega]
      rw [e]
      have t0 : 0 ≤ Int.tmod (k - 1) m := Int.tmod_nonneg _ (by omega)
      have t1 : Int.tmod (k - 1) m < m := Int.tmod_lt_of_pos _ (by omega)
      have hg := up_get m (Int.tmod (k - 1) m + 1) (by omega) (by omega) (by omega)
      rw [show Int.tmod (k - 1) m + 1 - 1 = Int.tmod (k - 1) m from by omega] at hg
      have hlt := (List.getElem?_eq_some_iff.1 hg).1
      rw [getD_some _ _ hlt] at hg
      show (up 1 1 m).getD _ 0 = _
      injection hg
    have q1 : (((cz k (d + 1) (up 1 1 m) 0).length : Nat) : Int) = m := by omega
    have q2 : wrap64 (m - 1) = (d : Int) := by rw [w64 (by omega) (by omega)]; omega
    have q3 : (0 : Int) ≤ (d : Int) := by omega
    have q4 : (d : Int) < m := by omega
    have q5 : (0 : Int) < m := by omega
    have q6 : ¬ m = 0 := by omega
    have t0 : 0 ≤ Int.tmod (k - 1) m := Int.tmod_nonneg _ (by omega)
    have t1 : Int.tmod (k - 1) m < m := Int.tmod_lt_of_pos _ (by omega)
    have q7 : wrap64 (Int.tmod (wrap64 (k - 1)) m + 1) = Int.tmod (k - 1) m + 1 := by
      rw [w64 (x := k - 1) (by omega) (by omega), w64 (by omega) (by omega)]
    have hall : ∀ y, 1 ≤ y → y ≤ m → y ∈ cz k (d + 1) (up 1 1 m) 0 := fun y y1 y2 => hp.symm.subset (List.mem_of_getElem? (up_get m y (by omega) y1 y2))
    have hl5 := l5_at m h2 (cz k (d + 1) (up 1 1 m) 0) (by omega) hall 100 1 (by omega) (by omega) K (by omega)
    rw [if_pos trivial, q1, if_pos rfl, q2, if_pos q3, if_pos q4, hr1, if_pos rfl, if_pos q5, if_neg q6, q7, hfirst, if_pos rfl]
    exact hl5
  · rw [if_neg h, if_neg h]
    simp only []
    rw [if_neg (by simp)]
theorem l4_at (t m k : Int) (g : List Int) (hg : g.length ≤ 10000) (ht : ∀ (i : Nat) (x : Int), ([2, 3, 5, 7, 11, 13, 17, 23, 25] : List Int)[i]? = some x → x ≤ t → g[i]? = some x) : ∀ (d i : Nat), i + d = 9 → ∀ K, 10400 + d < K →
    laws_FnLuckyNumbers.l4 K t g m k (circV m k).1 (circV m k).2 (lastV m k).1 [2, 3, 5, 7, 11, 13, 17, 23, 25] 9 i = some true := by
  intro d
  induction d with
  | zero =>
    intro i hi K hK
    obtain ⟨K, rfl⟩ : ∃ k, K = k + 1 := ⟨K - 1, by omega⟩
    have hc : ¬ (i : Int) < 9 := by omega
    simp only [laws_FnLuckyNumbers.l4]
    rw [if_neg hc]
    exact j12_at m k K (by omega)
  | succ d ih =>
    intro i hi K hK
    obtain ⟨K, rfl⟩ : ∃ k, K = k + 1 := ⟨K - 1, by omega⟩
    have hc : (i : Int) < 9 := by omega
    have h0 : (0 : Int) ≤ (i : Int) := by omega
    have hlen : ([2, 3, 5, 7, 11, 13, 17, 23, 25] : List Int).length = 9 := rfl
    have hs := some_rd (L := ([2, 3, 5, 7, 11, 13, 17, 23, 25] : List Int)) (i := i) (by omega)
    have hcl : (i : Int) < (([2, 3, 5, 7, 11, 13, 17, 23, 25] : List Int).length : Int) := by omega
    have h := ih (i + 1) (by omega) K (by omega)
    rw [show ((i + 1 : Nat) : Int) = (i : Int) + 1 from by omega] at h
    have hw : wrap64 ((i : Int) + 1) = (i : Int) + 1 := w64 (by omega) (by omega)
    simp only [laws_FnLuckyNumbers.l4]
    rw [if_pos hc, if_pos h0, if_pos hcl]
    by_cases hx : rd [2, 3, 5, 7, 11, 13, 17, 23, 25] (i : Int) ≤ t
    · obtain ⟨r1, r2⟩ := rd_some (ht i _ hs hx)
      have n1 : ¬ (i : Int) ≥ (g.length : Int) := by omega
      have n2 : (i : Int) < (g.length : Int) := by omega
      rw [if_pos hx, if_neg n1, if_pos n2, if_pos r2, hw]
      exact h
    · rw [if_neg hx, hw]
      exact h
theorem j10_at (t m k : Int) (g : List Int) (hg : g.length ≤ 10000) (b : Bool) (ht : b = true → ∀ (i : Nat) (x : Int), ([2, 3, 5, 7, 11, 13, 17, 23, 25] : List Int)[i]? = some x → x ≤ t → g[i]? = some x) (K : Nat) (hK : 10420 < K) :
    laws_FnLuckyNumbers.j7 K t g m k (circV m k).1 (circV m k).2 (lastV m k).1 b = some true := by
  obtain ⟨K, rfl⟩ : ∃ k, K = k + 1 := ⟨K - 1, by omega⟩
  simp only [laws_FnLuckyNumbers.j7]
  cases b with
  | true =>
    rw [if_pos rfl]
    simp only [Option.bind_some]
    exact l4_at t m k g hg (ht rfl) 9 0 (by omega) K (by omega)
  | false =>
    rw [if_neg (by simp)]
    exact j12_at m k K (by omega)
theorem own_lenV (a t : Int) : (ownV a t).1.length ≤ 10000 := by
  unfold ownV
  have := (ow_sub 1000 0 (up a 1 t)).length_le
  have := up_len a 1 t
  split
  · show (ow 1000 0 (up a 1 t)).length ≤ _; omega
  · simp
theorem circ_lenV (m k : Int) : (circV m k).1.length ≤ 10000 := by
  unfold circV
  split
  · rename_i h
    have hul := up_lenN m (by omega) (by omega)
    have := (cz_perm k m.toNat (up 1 1 m) 0 hul).length_eq
    show (cz k m.toNat (up 1 1 m) 0).length ≤ _
    omega
  · simp
theorem lcV (m k : Int) : (lastV m k).2 = (circV m k).2 := by
  unfold lastV circV
  split <;> rfl
theorem j7_at (l1 : List Int) (hl1 : okB l1) (K : Nat) (hK : 20440 < K) : laws_FnLuckyNumbers.j5 K l1 = some true := by
  obtain ⟨K, rfl⟩ : ∃ k, K = k + 1 := ⟨K - 1, by omega⟩
  obtain ⟨K, rfl⟩ : ∃ k, K = k + 1 := ⟨K - 1, by omega⟩
  simp only [laws_FnLuckyNumbers.j5]
  obtain ⟨n, dn⟩ := drawIsLucky l1 hl1
  obtain ⟨r, dr⟩ := drawRising l1 hl1
  obtain ⟨⟨a, t⟩, da⟩ := drawOwn l1 hl1
  obtain ⟨⟨m, k⟩, dm⟩ := drawCircle l1 hl1
  simp only [dn, dr, da, dm, Option.bind_some]
  rw [(is_at n (K + 1) (by omega)).1, (is_at n (K + 1) (by omega)).2, (rr_at r (K + 1) (by omega)).1, (rr_at r (K + 1) (by omega)).2, (own_at a t (K + 1) (by omega)).1, (own_at a t (K + 1) (by omega)).2, (circ_at m k (K + 1) (by omega)).1, (circ_at m k (K + 1) (by omega)).2, (last_at m k (K + 1) (by omega)).1, (last_at m k (K + 1) (by omega)).2]
  simp only [Option.bind_some, bne_self_eq_false]
  rw [if_neg (by simp), if_neg (by simp), if_neg (by simp), if_pos trivial, if_neg (by simp), tSame_at _ (own_lenV a t) (K + 1) (by omega)]
  simp only [Option.bind_some]
  rw [if_pos trivial, if_neg (by simp), tSame_at _ (circ_lenV m k) (K + 1) (by omega)]
  simp only [Option.bind_some]
  rw [if_pos trivial, if_neg (by simp), if_pos trivial, lcV, bne_self_eq_false, if_neg (by simp)]
  by_cases h : (2 ≤ a ∧ a ≤ 20) ∧ (0 ≤ t ∧ t ≤ 400)
  · have e : ownV a t = (ow 1000 0 (up a 1 t), true) := by unfold ownV; rw [if_pos h]
    rw [e]
    simp only []
    have hs := ow_sub 1000 0 (up a 1 t)
    have hul := up_len a 1 t
    have hl := hs.length_le
    have hr := tRises_l0 (ow 1000 0 (up a 1 t)) a t (by omega) ((up_rises a t 1 (by omega)).sublist hs) (fun x hx => upn_mem t 1 (by omega) 1000 a x (hs.subset hx)) _ 0 (Nat.zero_add _) (K + 1) (by omega)
    have hr' : laws_tRises.f (K + 1) (ow 1000 0 (up a 1 t)) a t = some true := hr
    have fin : ∀ b : Bool, b = false → laws_FnLuckyNumbers.j6 (K + 1) a t (ow 1000 0 (up a 1 t)) true m k (circV m k).1 (circV m k).2 (lastV m k).1 b = some true := by
      rintro b rfl
      simp only [laws_FnLuckyNumbers.j6]
      rw [if_neg (by simp), if_pos trivial]
      refine j10_at t m k _ (by omega) _ (fun h2 i x hi hx => ?_) K (by omega)
      obtain rfl : a = 2 := by simpa using h2
      exact own_told t i x hi hx
    rw [if_pos trivial, hr']
    simp only [Option.bind_some]
    rw [if_pos trivial]
    by_cases hat : a ≤ t
    · obtain ⟨T, hT⟩ := up_head a t hat
      obtain ⟨T2, hT2⟩ := ow_head 1000 0 a T
      rw [← hT] at hT2
      have n1 : ¬ (((ow 1000 0 (up a 1 t)).length : Nat) : Int) = 0 := by rw [hT2, List.length_cons]; omega
      have n2 : (0 : Int) < (((ow 1000 0 (up a 1 t)).length : Nat) : Int) := by omega
      have n3 : (rd (ow 1000 0 (up a 1 t)) 0 != a) = false := by rw [hT2]; simp [rd]
      rw [if_pos hat, if_neg n1, if_pos n2]
      exact fin _ n3
    · rw [if_neg hat]
      exact fin _ rfl
  · have e : ownV a t = ([], false) := by unfold ownV; rw [if_neg h]
    rw [e]
    simp only [laws_FnLuckyNumbers.j6]
    rw [if_neg (by simp), if_neg (by simp), if_neg (by simp)]
    exact j10_at t m k [] (by simp) false (fun h => by cases h) K (by omega)
theorem l3_at (l1 : List Int) (hl1 : okB l1) (o : Int) (h0 : 0 ≤ o) (ho : o ≤ 400) : ∀ (d i : Nat), i + d = (rs 1010 2 (up 1 1 o)).length → ∀ K, 20450 + d < K →
    laws_FnLuckyNumbers.l3 K l1 (rs 1010 2 (up 1 1 o)) (rs 1010 2 (up 1 1 o)).length i = some true := by
  have hl := (rs_sub 1010 2 (up 1 1 o)).length_le
  have hul := up_len 1 1 o
  intro d
  induction d with
  | zero =>
    intro i hi K hK
    obtain ⟨K, rfl⟩ : ∃ k, K = k + 1 := ⟨K - 1, by omega⟩
    have hc : ¬ (i : Int) < ((rs 1010 2 (up 1 1 o)).length : Int) := by omega
    simp only [laws_FnLuckyNumbers.l3]
    rw [if_neg hc]
    exact j7_at l1 hl1 K (by omega)
  | succ d ih =>
    intro i hi K hK
    obtain ⟨K, rfl⟩ : ∃ k, K = k + 1 := ⟨K - 1, by omega⟩
    have hlt : i < (rs 1010 2 (up 1 1 o)).length := by omega
    have hc : (i : Int) < ((rs 1010 2 (up 1 1 o)).length : Int) := by omega
    have hi0 : (0 : Int) ≤ (i : Int) := by omega
    have h := ih (i + 1) (by omega) K (by omega)
    rw [show ((i + 1 : Nat) : Int) = (i : Int) + 1 from by omega] at h
    simp only [laws_FnLuckyNumbers.l3]
    rw [if_pos hc, if_pos hi0, if_pos hc]
    by_cases h30 : (i : Int) > 30
    · rw [if_pos h30]
      exact j7_at l1 hl1 K (by omega)
    · have hv : rrV (i : Int) = (rd (rs 1010 2 (up 1 1 o)) (i : Int), true) := by
        unfold rrV
        rw [if_pos ⟨hi0, by omega⟩, Int.toNat_natCast, ← rs_rank o h0 ho 1010 (by omega) i _ (some_rd hlt)]
      rw [if_neg h30, (rr_at (i : Int) K (by omega)).2, hv]
      simp only [Option.bind_some]
      rw [if_pos trivial, if_pos trivial, w64 (by omega) (by omega)]
      exact h
theorem l2_at (l1 : List Int) (hl1 : okB l1) (o : Int) (h0 : 0 ≤ o) (ho : o ≤ 400) : ∀ (d i : Nat), i + d = (lkz (up 2 2 o)).1.length → ∀ K, 30000 + d < K →
    laws_FnLuckyNumbers.l2 K l1 (rs 1010 2 (up 1 1 o)) (lkz (up 2 2 o)).1 (lkz (up 2 2 o)).1.length i = some true := by
  have hl := lkz_len (up 2 2 o)
  have hul := up_len 2 2 o
  intro d
  induction d with
  | zero =>
    intro i hi K hK
    obtain ⟨K, rfl⟩ : ∃ k, K = k + 1 := ⟨K - 1, by omega⟩
    have hc : ¬ (i : Int) < ((lkz (up 2 2 o)).1.length : Int) := by omega
    have hl2 := (rs_sub 1010 2 (up 1 1 o)).length_le
    have hul2 := up_len 1 1 o
    simp only [laws_FnLuckyNumbers.l2]
    rw [if_neg hc]
    exact l3_at l1 hl1 o h0 ho _ 0 (Nat.zero_add _) K (by omega)
  | succ d ih =>
    intro i hi K hK
    obtain ⟨K, rfl⟩ : ∃ k, K = k + 1 := ⟨K - 1, by omega⟩
    have hc : (i : Int) < ((lkz (up 2 2 o)).1.length : Int) := by omega
    have hi0 : (0 : Int) ≤ (i : Int) := by omega
    have h := ih (i + 1) (by omega) K (by omega)
    rw [show ((i + 1 : Nat) : Int) = (i : Int) + 1 from by omega] at h
    have hme := even_mem (rd_mem (lkz (up 2 2 o)).1 i (by omega))
    have he : Int.tmod (rd (lkz (up 2 2 o)).1 (i : Int)) 2 = 0 := by rw [Int.tmod_eq_emod_of_nonneg (by omega)]; omega
    simp only [laws_FnLuckyNumbers.l2]
    rw [if_pos hc, if_pos hi0, if_pos hc, if_pos he, w64 (by omega) (by omega)]
    exact h
theorem l1_at (l1 : List Int) (hl1 : okB l1) (o : Int) (h0 : 0 ≤ o) (ho : o ≤ 400) : ∀ (d i : Nat), i + d = (lkz (up 1 2 o)).1.length → ∀ K, 40000 + d < K →
    laws_FnLuckyNumbers.l1 K l1 (lkz (up 2 2 o)).1 (rs 1010 2 (up 1 1 o)) (lkz (up 1 2 o)).1 (lkz (up 1 2 o)).1.length i = some true := by
  have hl := lkz_len (up 1 2 o)
  have hul := up_len 1 2 o
  intro d
  induction d with
  | zero =>
    intro i hi K hK
    obtain ⟨K, rfl⟩ : ∃ k, K = k + 1 := ⟨K - 1, by omega⟩
    have hc : ¬ (i : Int) < ((lkz (up 1 2 o)).1.length : Int) := by omega
    have hl2 := lkz_len (up 2 2 o)
    have hul2 := up_len 2 2 o
    simp only [laws_FnLuckyNumbers.l1]
    rw [if_neg hc]
    exact l2_at l1 hl1 o h0 ho _ 0 (Nat.zero_add _) K (by omega)
  | succ d ih =>
    intro i hi K hK
    obtain ⟨K, rfl⟩ : ∃ k, K = k + 1 := ⟨K - 1, by omega⟩
    have hc : (i : Int) < ((lkz (up 1 2 o)).1.length : Int) := by omega
    have hi0 : (0 : Int) ≤ (i : Int) := by omega
    have h := ih (i + 1) (by omega) K (by omega)
    rw [show ((i + 1 : Nat) : Int) = (i : Int) + 1 from by omega] at h
    have hrm := rd_mem (lkz (up 1 2 o)).1 i (by omega)
    have hme := lucky_mem hrm
    have hio := is_own ho hrm
    have hw : wrap64 ((i : Int) + 1) = (i : Int) + 1 := w64 (by omega) (by omega)
    have hv : isV (rd (lkz (up 1 2 o)).1 (i : Int)) = (true, true) := by
      unfold isV
      rw [if_pos ⟨hme.1, by omega⟩, decide_eq_true hio]
    have he : ¬ Int.tmod (rd (lkz (up 1 2 o)).1 (i : Int)) 2 = 0 := by rw [Int.tmod_eq_emod_of_nonneg (by omega)]; omega
    simp only [laws_FnLuckyNumbers.l1]
    rw [if_pos hc, if_pos hi0, if_pos hc, (is_at _ K (by omega)).2, hv]
    simp only [Option.bind_some]
    rw [if_pos trivial, if_pos trivial, if_neg he, hw]
    exact h
theorem stepsOf_len (o : Int) : (stepsOf o).length ≤ 1001 := by
  have hl := lkz_steps_len (up 1 2 o) (upn_gap o 1000 1 (by omega))
  have hul := up_len 1 2 o
  unfold stepsOf
  split
  · rw [List.length_cons]; omega
  · omega
theorem l0_at (l1 : List Int) (hl1 : okB l1) (o : Int) (h0 : 0 ≤ o) (ho : o ≤ 400) : ∀ (d i : Nat), i + d = (stepsOf o).length → ∀ K, 50000 + d < K →
    laws_FnLuckyNumbers.l0 K l1 (lkz (up 1 2 o)).1 (lkz (up 2 2 o)).1 (rs 1010 2 (up 1 1 o)) (stepsOf o) (stepsOf o).length i = some true := by
  have hl := stepsOf_len o
  have hl2 := lkz_len (up 1 2 o)
  have hul2 := up_len 1 2 o
  intro d
  induction d with
  | zero =>
    intro i hi K hK
    obtain ⟨K, rfl⟩ : ∃ k, K = k + 1 := ⟨K - 1, by omega⟩
    have hc : ¬ (i : Int) < ((stepsOf o).length : Int) := by omega
    simp only [laws_FnLuckyNumbers.l0]
    rw [if_neg hc]
    exact l1_at l1 hl1 o h0 ho _ 0 (Nat.zero_add _) K (by omega)
  | succ d ih =>
    intro i hi K hK
    obtain ⟨K, rfl⟩ : ∃ k, K = k + 1 := ⟨K - 1, by omega⟩
    have hlt : i < (stepsOf o).length := by omega
    have hc : (i : Int) < ((stepsOf o).length : Int) := by omega
    have hi0 : (0 : Int) ≤ (i : Int) := by omega
    have h := ih (i + 1) (by omega) K (by omega)
    rw [show ((i + 1 : Nat) : Int) = (i : Int) + 1 from by omega] at h
    have hw : wrap64 ((i : Int) + 1) = (i : Int) + 1 := w64 (by omega) (by omega)
    have h2 : o ≥ 2 := by
      by_cases h2 : o ≥ 2
      · exact h2
      · exfalso
        unfold stepsOf at hlt
        rw [if_neg h2, lkz_none o h0 (by omega)] at hlt
        exact Nat.not_lt_zero _ hlt
    have hs := some_rd hlt
    have hst : stepsOf o = 2 :: (lkz (up 1 2 o)).2 := if_pos h2
    simp only [laws_FnLuckyNumbers.l0]
    rw [if_pos hc, if_pos hi0, if_pos hc]
    cases i with
    | zero =>
      have hr : rd (stepsOf o) ((0 : Nat) : Int) = 2 := by
        rw [hst] at hs ⊢
        rfl
      have n0 : ¬ (((0 : Nat) : Int) > 0) := by omega
      have e0 : ((0 : Nat) : Int) = 0 := rfl
      rw [if_neg n0, if_pos e0, if_pos hr, hw]
      exact h
    | succ j =>
      have hm : rd (stepsOf o) ((j + 1 : Nat) : Int) ∈ (lkz (up 1 2 o)).1 := by
        rw [hst] at hs ⊢
        rw [List.getElem?_cons_succ] at hs
        exact (step_in hs).1
      have p0 : ((j + 1 : Nat) : Int) > 0 := by omega
      have n0 : ¬ (((j + 1 : Nat) : Int) = 0) := by omega
      rw [if_pos p0, tHas_at _ _ (by omega) K (by omega), decide_eq_true hm]
      simp only [Option.bind_some]
      rw [if_pos trivial, if_neg n0, hw]
      exact h
theorem rises_at (xs : List Int) (a b : Int) (hl : xs.length ≤ 2000) (hp : xs.Pairwise (· < ·)) (hm : ∀ x ∈ xs, a ≤ x ∧ x ≤ b) (K : Nat) (hK : 10000 < K) : laws_tRises.f K xs a b = some true :=
  tRises_l0 xs a b (by omega) hp hm xs.length 0 (Nat.zero_add _) K (by omega)
theorem lucky_lenV (o : Int) : (luckyV o).1.length ≤ 10000 ∧ (stepsV o).1.length ≤ 10000 ∧ (evenV o).1.length ≤ 10000 ∧ (riseV o).1.length ≤ 10000 := by
  have l1 := lkz_len (up 1 2 o)
  have l2 := lkz_len (up 2 2 o)
  have l3 := (rs_sub 1010 2 (up 1 1 o)).length_le
  have u1 := up_len 1 2 o
  have u2 := up_len 2 2 o
  have u3 := up_len 1 1 o
  have u4 := stepsOf_len o
  unfold luckyV stepsV evenV riseV
  by_cases h : 0 ≤ o ∧ o ≤ 400
  · rw [if_pos h, if_pos h, if_pos h, if_pos h]
    exact ⟨by show (lkz (up 1 2 o)).1.length ≤ _; omega, by show (stepsOf o).length ≤ _; omega, by show (lkz (up 2 2 o)).1.length ≤ _; omega, by show (rs 1010 2 (up 1 1 o)).length ≤ _; omega⟩
  · rw [if_neg h, if_neg h, if_neg h, if_neg h]
    exact ⟨by simp, by simp, by simp, by simp⟩
theorem all_one (o : Int) : (stepsV o).2 = (luckyV o).2 ∧ (evenV o).2 = (luckyV o).2 ∧ (riseV o).2 = (luckyV o).2 := by
  unfold luckyV stepsV evenV riseV
  split <;> exact ⟨rfl, rfl, rfl⟩
theorem f_at (l0 l1 : List Int) (m1 : l1.length ≤ maxLen) (wf0 : ∀ x ∈ l0, (Lit.int .u8 x).wf = true) (wf1 : ∀ x ∈ l1, (Lit.int .u8 x).wf = true) (K : Nat) (hK : 60030 < K) : laws_FnLuckyNumbers.f K l0 l1 = some true := by
  obtain ⟨K, rfl⟩ : ∃ k, K = k + 1 := ⟨K - 1, by omega⟩
  unfold laws_FnLuckyNumbers.f
  obtain ⟨bb, hbb, hbs⟩ := big_at l0 l1 m1
  rw [hbb]
  simp only [Option.bind_some]
  cases bb with
  | true => rw [if_pos rfl]
  | false =>
  have hl0 := okB_of l0 (hbs rfl).1 wf0
  have hl1 := okB_of l1 (hbs rfl).2 wf1
  obtain ⟨o, ho_⟩ := drawLucky l0 hl0
  rw [if_neg (by simp), ho_]
  simp only [Option.bind_some]
  obtain ⟨b1, b2, b3, b4⟩ := lucky_lenV o
  obtain ⟨o1, o2, o3⟩ := all_one o
  rw [(lucky_at o (K + 1) (by omega)).1, (lucky_at o (K + 1) (by omega)).2, (steps_at o (K + 1) (by omega)).1, (steps_at o (K + 1) (by omega)).2, (even_at o (K + 1) (by omega)).1, (even_at o (K + 1) (by omega)).2, (rise_at o (K + 1) (by omega)).1, (rise_at o (K + 1) (by omega)).2]
  simp only [Option.bind_some, bne_self_eq_false]
  rw [if_neg (by simp), tSame_at _ b1 (K + 1) (by omega)]
  simp only [Option.bind_some]
  rw [if_pos trivial, if_neg (by simp), tSame_at _ b2 (K + 1) (by omega)]
  simp only [Option.bind_some]
  rw [if_pos trivial, if_neg (by simp), tSame_at _ b3 (K + 1) (by omega)]
  simp only [Option.bind_some]
  rw [if_pos trivial, if_neg (by simp), tSame_at _ b4 (K + 1) (by omega)]
  simp only [Option.bind_some]
  rw [if_pos trivial, o1, o2, o3, bne_self_eq_false, if_neg (by simp), if_neg (by simp), if_neg (by simp)]
  by_cases h : 0 ≤ o ∧ o ≤ 400
  · have e1 : luckyV o = ((lkz (up 1 2 o)).1, true) := if_pos h
    have e2 : stepsV o = (stepsOf o, true) := if_pos h
    have e3 : evenV o = ((lkz (up 2 2 o)).1, true) := if_pos h
    have e4 : riseV o = (rs 1010 2 (up 1 1 o), true) := if_pos h
    have s1 := lk_sub 1010 1 (up 1 2 o)
    have s2 := lk_sub 1010 1 (up 2 2 o)
    have s3 := rs_sub 1010 2 (up 1 1 o)
    have u1 := up_len 1 2 o
    have u2 := up_len 2 2 o
    have u3 := up_len 1 1 o
    rw [e1, e2, e3, e4]
    simp only []
    rw [if_pos trivial, rises_at (lkz (up 1 2 o)).1 1 o (by have := s1.length_le; show (lk 1010 1 (up 1 2 o)).1.length ≤ _; omega) ((up_rises 1 o 2 (by omega)).sublist s1) (fun x hx => ⟨(lucky_mem hx).1, (lucky_mem hx).2.1⟩) (K + 1) (by omega)]
    simp only [Option.bind_some]
    rw [if_pos trivial, rises_at (lkz (up 2 2 o)).1 2 o (by have := s2.length_le; show (lk 1010 1 (up 2 2 o)).1.length ≤ _; omega) ((up_rises 2 o 2 (by omega)).sublist s2) (fun x hx => ⟨(even_mem hx).1, (even_mem hx).2.1⟩) (K + 1) (by omega)]
    simp only [Option.bind_some]
    rw [if_pos trivial, rises_at (rs 1010 2 (up 1 1 o)) 1 o (by have := s3.length_le; omega) ((up_rises 1 o 1 (by omega)).sublist s3) (fun x hx => rise_mem hx) (K + 1) (by omega)]
    simp only [Option.bind_some]
    rw [if_pos trivial]
    have hl := stepsOf_len o
    have hl2 := lkz_len (up 1 2 o)
    have hul2 := up_len 1 2 o
    have hj : laws_FnLuckyNumbers.j0 (K + 1) l1 (lkz (up 1 2 o)).1 (stepsOf o) (lkz (up 2 2 o)).1 (rs 1010 2 (up 1 1 o)) = some true := by
      simp only [laws_FnLuckyNumbers.j0]
      exact l0_at l1 hl1 o h.1 h.2 _ 0 (Nat.zero_add _) K (by omega)
    by_cases h12 : ((stepsOf o).length : Int) ≤ 12
    · rw [if_pos h12, left_at (stepsOf o) o (steps_good h.2 (by omega)) h (K + 1) (by omega), steps_left h.1 h.2]
      simp only [Option.bind_some]
      rw [if_pos trivial, tSame_at _ (by omega) (K + 1) (by omega)]
      simp only [Option.bind_some]
      rw [if_pos trivial]
      exact hj
    · rw [if_neg h12]
      exact hj
  · have e1 : luckyV o = ([], false) := if_neg h
    rw [e1]
    simp only []
    rw [if_neg (by simp)]
    exact j7_at l1 hl1 (K + 1) (by omega)
theorem done : laws_FnLuckyNumbers.Pure := by
  intro l0 l1 h0 _ w0 h1 _ w1
  exact ⟨1000000000, f_at l0 l1 h1 w0 w1 1000000000 (by omega)⟩
end OwnFnLuckyNumbers
theorem FnLuckyNumbers : laws_FnLuckyNumbers.Pure := OwnFnLuckyNumbers.done
end Go.Proofs.Ytnhlhfkpkpbekaa.Pure
