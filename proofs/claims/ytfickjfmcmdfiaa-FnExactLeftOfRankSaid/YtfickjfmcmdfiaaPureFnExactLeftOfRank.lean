/- LeftOfRank of the program and of the reference answer alike at all rules and numbers: no condition. -/
import Derived.Test.YtfickjfmcmdfiaaPFnExactLeftOfRankx3
namespace Go.Proofs.Ytfickjfmcmdfiaa.Pure
open Go.RowKit Go.Proofs.Ytfickjfmcmdfiaa.PFnExactLeftOfRank Go.Proofs.YtfickjfmcmdfiaaW.PrintWords Go.Proofs.YtfickjfmcmdfiaaW.PrintLast Go.Proofs.YtfickjfmcmdfiaaW.PrintMore
set_option linter.unusedVariables false
set_option linter.unusedSimpArgs false
namespace OwnFnExactLeftOfRank
theorem w64 {x : Int} (h0 : -9223372036854775808 ≤ x) (h1 : x ≤ 9223372036854775807) : wrap64 x = x := by unfold wrap64; omega
theorem l1In_at (n a b : Int) : spec_l1In.f n a b = some (decide (a ≤ n ∧ n ≤ b)) := by
  unfold spec_l1In.f
  by_cases h : a ≤ n
  · rw [if_pos (by omega)]; simp [h]
  · rw [if_neg (by omega)]; simp [h]
/-- What a rule is. -/
def ruleB (e r : Int) : Bool := decide (2 ≤ e ∧ e ≤ 60 ∧ 0 ≤ r ∧ r < e)
theorem isRule_at (e r : Int) : impl_isRule.f e r = some (ruleB e r) := by
  unfold impl_isRule.f ruleB
  by_cases h1 : e ≥ 2
  · rw [if_pos h1]
    by_cases h2 : e ≤ 60
    · rw [if_pos h2]
      by_cases h3 : r ≥ 0
      · rw [if_pos h3]
        congr 1
        rw [decide_eq_decide]
        omega
      · rw [if_neg h3, decide_eq_false (by omega)]
    · rw [if_neg h2, decide_eq_false (by omega)]
  · rw [if_neg h1, decide_eq_false (by omega)]
theorem siRule_at (e r : Int) : spec_siRule.f e r = some (ruleB e r) := by
  unfold spec_siRule.f ruleB
  rw [l1In_at]
  simp only [Option.bind_some]
  by_cases h1 : 2 ≤ e ∧ e ≤ 60
  · rw [decide_eq_true h1, if_pos rfl, w64 (by omega) (by omega), l1In_at]
    simp only [Option.bind_some]
    congr 1
    rw [decide_eq_decide]
    omega
  · rw [decide_eq_false h1, if_neg (by simp), decide_eq_false (by omega)]
theorem drop_rdT (xs : List S53) (i : Nat) (h : i < xs.length) : xs.drop i = rd_T53 xs (i : Int) :: xs.drop (i + 1) := by
  rw [List.drop_eq_getElem_cons h]
  simp [rd_T53, List.getD, h]
def conv (x : S59) : S53 := ⟨x.f0, x.f1⟩
theorem take_set_succ {α : Type} (xs : List α) (i : Nat) (v : α) (h : i < xs.length) : (xs.set i v).take (i + 1) = xs.take i ++ [v] := by
  rw [List.take_succ_eq_append_getElem (by simpa using h)]
  simp [List.take_set_of_le]
theorem toRuleS_l0 (xs : List S59) (hx : xs.length ≤ 100000000) : ∀ (d i : Nat) (ys : List S53), i + d = xs.length → ys.length = xs.length → ys.take i = (xs.take i).map conv → ∀ K, d < K → laws_toRuleS.l0 K xs ys i = some (xs.map conv) := by
  intro d
  induction d with
  | zero =>
    intro i ys hi hl ht K hK
    obtain ⟨K, rfl⟩ : ∃ k, K = k + 1 := ⟨K - 1, by omega⟩
    simp only [laws_toRuleS.l0]
    rw [if_neg (by omega)]
    rw [List.take_of_length_le (by omega), List.take_of_length_le (by omega)] at ht
    rw [ht]
  | succ d ih =>
    intro i ys hi hl ht K hK
    obtain ⟨K, rfl⟩ : ∃ k, K = k + 1 := ⟨K - 1, by omega⟩
    simp only [laws_toRuleS.l0, laws_toRule.f, Option.bind_some]
    rw [if_pos (by omega), if_pos (by omega), if_pos (by omega), w64 (by omega) (by omega)]
    refine ih (i + 1) _ (by omega) (by simpa using hl) ?_ K (by omega)
    rw [Int.toNat_natCast, take_set_succ _ _ _ (by omega), ht, List.take_succ_eq_append_getElem (by omega)]
    have e : rd_T59 xs (i : Int) = xs[i]'(by omega) := by
      have hi' : i < xs.length := by omega
      simp [rd_T59, List.getD, hi']
    rw [e, List.map_append]
    rfl
theorem toRuleS_at (xs : List S59) (hx : xs.length ≤ 100000000) (K : Nat) (hK : 100000000 < K) : laws_toRuleS.f K xs = some (xs.map conv) := by
  unfold laws_toRuleS.f
  rw [if_pos (by omega), if_pos (by omega)]
  refine toRuleS_l0 xs hx xs.length 0 _ (by omega) (by simp) rfl K (by omega)
theorem szRuleS_at (xs : List S59) (hx : xs.length ≤ 100000000) : laws_szRuleS.f xs 1048576 = some (if xs.length ≤ 1048576 then (1048576 : Int) - (xs.length : Int) else (-1 : Int)) := by
  unfold laws_szRuleS.f
  rw [w64 (by omega) (by omega)]
  by_cases h : xs.length ≤ 1048576
  · rw [if_neg (by omega), if_pos h]
  · rw [if_pos (by omega), if_neg h]
theorem szRuleS_big (xs : List S59) (h1 : xs.length ≤ maxLen) (hx : ¬ xs.length ≤ 1048576) : laws_szRuleS.f xs 1048576 = some (-1) := by
  unfold maxLen at h1
  unfold laws_szRuleS.f
  rw [w64 (by omega) (by omega), if_pos (by omega)]
theorem eqRuleS_l0 (xs : List S53) (hx : xs.length ≤ 100000000) : ∀ (d i : Nat), i + d = xs.length → ∀ K, d < K → laws_eqRuleS.l0 K xs xs i = some true := by
  intro d
  induction d with
  | zero =>
    intro i hi K hK
    obtain ⟨K, rfl⟩ : ∃ k, K = k + 1 := ⟨K - 1, by omega⟩
    simp only [laws_eqRuleS.l0]
    rw [if_neg (by omega)]
  | succ d ih =>
    intro i hi K hK
    obtain ⟨K, rfl⟩ : ∃ k, K = k + 1 := ⟨K - 1, by omega⟩
    have hlt : (i : Int) < (xs.length : Int) := by omega
    simp only [laws_eqRuleS.l0, laws_eqRule.f]
    rw [if_pos hlt, if_pos (by omega), if_pos hlt, w64 (by omega) (by omega)]
    simp only [if_true, Option.bind_some]
    exact ih (i + 1) (by omega) K (by omega)
theorem eqRuleS_at (xs : List S53) (hx : xs.length ≤ 100000000) (K : Nat) (hK : 100000000 < K) : laws_eqRuleS.f K xs xs = some true := by
  unfold laws_eqRuleS.f
  rw [if_pos rfl]
  exact eqRuleS_l0 xs hx xs.length 0 (by omega) K (by omega)
/-- What a list of rules is. -/
def goodB (L : List S53) : Bool := decide (L.length ≤ 12) && L.all (fun x => ruleB x.f0 x.f1)
theorem areAny_at : ∀ L : List S53, impl_areRules.any L = some (!(L.all fun x => ruleB x.f0 x.f1))
  | [] => rfl
  | x :: xs => by
    simp only [impl_areRules.any, isRule_at, Option.bind_some, List.all_cons]
    rw [areAny_at xs]
    cases ruleB x.f0 x.f1 <;> simp
theorem areRules_at (L : List S53) : impl_areRules.f L = some (goodB L) := by
  unfold impl_areRules.f goodB
  rw [areAny_at]
  by_cases h : L.length ≤ 12
  · rw [if_pos (by omega)]; simp [h]
  · rw [if_neg (by omega)]; simp [h]
theorem siGood_l0 (L : List S53) (hL : L.length ≤ 12) : ∀ (d i : Nat), i + d = L.length → ∀ K, d < K → spec_siGood.l0 K L L.length i = some ((L.drop i).all fun x => ruleB x.f0 x.f1) := by
  intro d
  induction d with
  | zero =>
    intro i hi K hK
    obtain ⟨K, rfl⟩ : ∃ k, K = k + 1 := ⟨K - 1, by omega⟩
    simp only [spec_siGood.l0]
    rw [if_neg (by omega), List.drop_of_length_le (by omega)]
    rfl
  | succ d ih =>
    intro i hi K hK
    obtain ⟨K, rfl⟩ : ∃ k, K = k + 1 := ⟨K - 1, by omega⟩
    have hlt : (i : Int) < (L.length : Int) := by omega
    have h := ih (i + 1) (by omega) K (by omega)
    simp only [spec_siGood.l0]
    rw [if_pos hlt, if_pos (by omega), if_pos hlt, siRule_at, w64 (by omega) (by omega), drop_rdT L i (by omega)]
    simp only [Option.bind_some, List.all_cons]
    rw [show (i : Int) + 1 = ((i + 1 : Nat) : Int) from by omega, h]
    cases ruleB (rd_T53 L (i : Int)).f0 (rd_T53 L (i : Int)).f1 <;> simp
theorem siGood_at (L : List S53) (K : Nat) (hK : 100 < K) : spec_siGood.f K L = some (goodB L) := by
  unfold spec_siGood.f goodB
  by_cases h : L.length ≤ 12
  · have h0 := siGood_l0 L h L.length 0 (by omega) K (by omega)
    have h0' : spec_siGood.l0 K L L.length 0 = _ := h0
    rw [if_neg (by omega), h0']; simp [h]
  · rw [if_pos (by omega)]; simp [h]
theorem good_len {L : List S53} (h : goodB L = true) : L.length ≤ 12 := by
  unfold goodB at h
  simp at h
  exact h.1
theorem good_mem {L : List S53} (h : goodB L = true) (x : S53) (hx : x ∈ L) : 2 ≤ x.f0 ∧ x.f0 ≤ 60 ∧ 0 ≤ x.f1 ∧ x.f1 < x.f0 := by
  unfold goodB at h
  simp at h
  have := h.2 x hx
  unfold ruleB at this
  simpa using this
/-- The remainder, as both texts reckon it. -/
def modZ (n e : Int) : Int := Int.tmod (wrap64 (Int.tmod n e + e)) e
theorem mod_at (n e : Int) (h : e ≠ 0) : impl_mod.f n e = some (modZ n e) := by
  unfold impl_mod.f modZ; rw [if_neg h]
theorem siRest_at (n e : Int) (h : e ≠ 0) : spec_siRest.f n e = some (modZ n e) := by
  unfold spec_siRest.f modZ; rw [if_neg h]
/-- The first rule that crosses a number out, from index i on; -1 for none. -/
def firstZ (n : Int) : Int → List S53 → Int
  | _, [] => -1
  | i, x :: xs => if modZ n x.f0 = x.f1 then i else firstZ n (i + 1) xs
theorem firstRule_go (n : Int) : ∀ (L : List S53) (i : Int), (∀ x ∈ L, x.f0 ≠ 0) → impl_firstRule.go n i L = some (firstZ n i L)
  | [], _, _ => rfl
  | x :: xs, i, h => by
    simp only [impl_firstRule.go, firstZ]
    rw [mod_at n _ (h x (by simp)), firstRule_go n xs (i + 1) (fun y hy => h y (by simp [hy]))]
    simp only [Option.bind_some]
    split <;> rfl
theorem firstRule_at (n : Int) (L : List S53) (h : goodB L = true) : impl_firstRule.f L n = some (firstZ n 0 L) :=
  firstRule_go n L 0 (fun x hx => by have := good_mem h x hx; omega)
theorem siFirst_l0 (n : Int) (L : List S53) (hL : L.length ≤ 12) (h0 : ∀ x ∈ L, x.f0 ≠ 0) : ∀ (d i : Nat), i + d = L.length → ∀ K, d < K → spec_siFirst.l0 K n L L.length i = some (firstZ n i (L.drop i)) := by
  intro d
  induction d with
  | zero =>
    intro i hi K hK
    obtain ⟨K, rfl⟩ : ∃ k, K = k + 1 := ⟨K - 1, by omega⟩
    simp only [spec_siFirst.l0]
    rw [if_neg (by omega), List.drop_of_length_le (by omega)]
    rfl
  | succ d ih =>
    intro i hi K hK
    obtain ⟨K, rfl⟩ : ∃ k, K = k + 1 := ⟨K - 1, by omega⟩
    have hlt : (i : Int) < (L.length : Int) := by omega
    have h := ih (i + 1) (by omega) K (by omega)
    have hd := drop_rdT L i (by omega)
    have hm : rd_T53 L (i : Int) ∈ L := List.mem_of_mem_drop (i := i) (by rw [hd]; simp)
    simp only [spec_siFirst.l0]
    rw [if_pos hlt, if_pos (by omega), if_pos hlt, siRest_at _ _ (h0 _ hm), w64 (by omega) (by omega), hd]
    simp only [Option.bind_some, firstZ]
    rw [show (i : Int) + 1 = ((i + 1 : Nat) : Int) from by omega, h]
    split <;> rfl
theorem siFirst_at (n : Int) (L : List S53) (h : goodB L = true) (K : Nat) (hK : 100 < K) : spec_siFirst.f K L n = some (firstZ n 0 L) :=
  siFirst_l0 n L (good_len h) (fun x hx => by have := good_mem h x hx; omega) L.length 0 (by omega) K (by have := good_len h; omega)
/-- Is a number left? -/
def leftB (L : List S53) (n : Int) : Bool := decide (firstZ n 0 L < 0)
theorem isLeft_at (n : Int) (L : List S53) (h : goodB L = true) : impl_isLeft.f L n = some (leftB L n) := by
  unfold impl_isLeft.f; rw [firstRule_at n L h]; rfl
theorem siLeft_at (n : Int) (L : List S53) (h : goodB L = true) (K : Nat) (hK : 100 < K) : spec_siLeft.f K L n = some (leftB L n) := by
  unfold spec_siLeft.f; rw [siFirst_at n L h K hK]; rfl
/-- Those of d numbers from n on that a test lets in. -/
def ff (p : Int → Bool) : Nat → Int → List Int
  | 0, _ => []
  | d + 1, n => if p n = true then n :: ff p d (n + 1) else ff p d (n + 1)
theorem ff_len (p : Int → Bool) : ∀ (d : Nat) (n : Int), (ff p d n).length ≤ d
  | 0, _ => Nat.le_refl _
  | d + 1, n => by
    unfold ff
    have := ff_len p d (n + 1)
    split
    · simp; omega
    · omega
theorem leftBetween_l0 (L : List S53) (hL : goodB L = true) (hi : Int) (hh : hi ≤ 1000000) : ∀ (d : Nat) (n : Int) (acc : List Int), -1000000 ≤ n → hi + 1 - n ≤ d → acc.length + d ≤ 4000000 →
    ∀ K, d < K → impl_leftBetween.l0 K L hi acc n = some (acc ++ ff (leftB L) (hi + 1 - n).toNat n) := by
  intro d
  induction d with
  | zero =>
    intro n acc h0 h1 h3 K hK
    obtain ⟨K, rfl⟩ : ∃ k, K = k + 1 := ⟨K - 1, by omega⟩
    simp only [impl_leftBetween.l0]
    rw [if_neg (by omega), show (hi + 1 - n).toNat = 0 from by omega]
    simp [ff]
  | succ d ih =>
    intro n acc h0 h1 h3 K hK
    obtain ⟨K, rfl⟩ : ∃ k, K = k + 1 := ⟨K - 1, by omega⟩
    simp only [impl_leftBetween.l0]
    by_cases hc : n ≤ hi
    · rw [if_pos hc, isLeft_at n L hL, w64 (by omega) (by omega)]
      simp only [Option.bind_some]
      rw [show (hi + 1 - n).toNat = (hi + 1 - (n + 1)).toNat + 1 from by omega]
      unfold ff
      by_cases hp : leftB L n = true
      · rw [if_pos hp, if_pos hp, if_pos (by omega), ih (n + 1) (acc ++ [n]) (by omega) (by omega) (by simp; omega) K (by omega)]
        simp
      · rw [if_neg hp, if_neg hp, ih (n + 1) acc (by omega) (by omega) (by omega) K (by omega)]
    · rw [if_neg hc, show (hi + 1 - n).toNat = 0 from by omega]
      simp [ff]
theorem leftBetween_at (L : List S53) (hL : goodB L = true) (lo hi : Int) (h0 : 0 ≤ lo) (h1 : lo ≤ 1000) (hh : hi ≤ 200000) (K : Nat) (hK : 1000000 < K) : impl_leftBetween.f K L lo hi = some (ff (leftB L) (hi + 1 - lo).toNat lo) := by
  unfold impl_leftBetween.f
  rw [leftBetween_l0 L hL hi (by omega) 300000 lo [] (by omega) (by omega) (by simp) K (by omega)]
  simp
theorem siList_l0 (L : List S53) (hL : goodB L = true) (hi : Int) (hh : hi ≤ 1000000) : ∀ (d : Nat) (n : Int) (acc : List Int), -1000000 ≤ n → hi + 1 - n ≤ d → acc.length + d ≤ 4000000 →
    ∀ K, 100 + d < K → spec_siList.l0 K L hi acc n = some (acc ++ ff (leftB L) (hi + 1 - n).toNat n) := by
  intro d
  induction d with
  | zero =>
    intro n acc h0 h1 h3 K hK
    obtain ⟨K, rfl⟩ : ∃ k, K = k + 1 := ⟨K - 1, by omega⟩
    simp only [spec_siList.l0]
    rw [if_neg (by omega), show (hi + 1 - n).toNat = 0 from by omega]
    simp [ff]
  | succ d ih =>
    intro n acc h0 h1 h3 K hK
    obtain ⟨K, rfl⟩ : ∃ k, K = k + 1 := ⟨K - 1, by omega⟩
    simp only [spec_siList.l0]
    by_cases hc : n ≤ hi
    · rw [if_pos hc, siLeft_at n L hL K (by omega), w64 (by omega) (by omega)]
      simp only [Option.bind_some]
      rw [show (hi + 1 - n).toNat = (hi + 1 - (n + 1)).toNat + 1 from by omega]
      unfold ff
      by_cases hp : leftB L n = true
      · rw [if_pos hp, if_pos hp, if_pos (by omega), ih (n + 1) (acc ++ [n]) (by omega) (by omega) (by simp; omega) K (by omega)]
        simp
      · rw [if_neg hp, if_neg hp, ih (n + 1) acc (by omega) (by omega) (by omega) K (by omega)]
    · rw [if_neg hc, show (hi + 1 - n).toNat = 0 from by omega]
      simp [ff]
theorem siList_at (L : List S53) (hL : goodB L = true) (hi : Int) (hh : hi ≤ 1000) (K : Nat) (hK : 1000000 < K) : spec_siList.f K L hi = some (ff (leftB L) hi.toNat 1) := by
  unfold spec_siList.f
  rw [siList_l0 L hL hi (by omega) 300000 1 [] (by omega) (by omega) (by simp) K (by omega), show hi + 1 - 1 = hi from by omega]
  simp
theorem both (L : List S53) (r : Int) : ∃ v, spec_LeftOfRank.f 1000000000 L r = some v ∧ impl_LeftOfRank.f 1000000000 L r = some v := by
  unfold spec_LeftOfRank.f impl_LeftOfRank.f
  rw [siGood_at L _ (by omega), areRules_at]
  simp only [Option.bind_some, spec_LeftOfRank.j0, impl_LeftOfRank.j0]
  by_cases hg : goodB L = true
  · have hb := leftBetween_at L hg 1 600 (by omega) (by omega) (by omega) 999999999 (by omega)
    have hs := siList_at L hg 600 (by omega) 999999999 (by omega)
    rw [hb, hs, hg]
    simp only [Option.bind_some]
    rw [show (600 + 1 - 1 : Int).toNat = (600 : Int).toNat from rfl]
    generalize ff (leftB L) (600 : Int).toNat 1 = g
    by_cases hr : r < 0
    · exact ⟨(0, false), by simp [hr], by simp [hr]⟩
    · have hr0 : 0 ≤ r := by omega
      rw [decide_eq_false hr]
      by_cases hx : r ≥ (g.length : Int)
      · exact ⟨(0, false), by simp [hx], by simp [hx]⟩
      · have hx' : r < (g.length : Int) := by omega
        exact ⟨(rd g r, true), by simp [hx, hr0, hx'], by simp [hx, hr0, hx']⟩
  · exact ⟨(0, false), by simp [hg], by simp [hg]⟩

theorem done : laws_FnExactLeftOfRank.Pure := by
  intro l0 r hm hb hw _
  by_cases hl : l0.length ≤ 1048576
  · refine ⟨1000000000, ?_⟩
    obtain ⟨L, hL⟩ : ∃ L, L = l0.map conv := ⟨_, rfl⟩
    have hlen : L.length ≤ 100000000 := by rw [hL, List.length_map]; omega
    obtain ⟨v, hs, hi⟩ := both L r
    unfold laws_FnExactLeftOfRank.f
    rw [szRuleS_at l0 (by omega), if_pos hl]
    have n3 : ¬ ((1048576 : Int) - (l0.length : Int) < 0) := by omega
    have hT1 : laws_toRuleS.f 1000000000 l0 = some L := by rw [hL]; exact toRuleS_at l0 (by omega) _ (by omega)
    have hT2 : laws_toRuleS.f 999999999 l0 = some L := by rw [hL]; exact toRuleS_at l0 (by omega) _ (by omega)
    have hE1 := eqRuleS_at L hlen 1000000000 (by omega)
    have hE2 := eqRuleS_at L hlen 999999999 (by omega)
    simp only [Option.bind_some]
    rw [if_neg n3]
    simp only [Option.bind_some, hT1, hs, hi, laws_FnExactLeftOfRank.j0, hT2, hE1, hE2]
    simp
  · refine ⟨1, ?_⟩
    unfold laws_FnExactLeftOfRank.f
    rw [szRuleS_big l0 hm hl]
    rfl
end OwnFnExactLeftOfRank
theorem FnExactLeftOfRank : laws_FnExactLeftOfRank.Pure := OwnFnExactLeftOfRank.done
end Go.Proofs.Ytfickjfmcmdfiaa.Pure
