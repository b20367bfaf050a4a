/- RulesText of the program and of the reference answer alike at every list of rules, whatever their numbers: no condition. -/
import Derived.Test.YtnfbdaffbpaagaaDoorPFnExactRulesTextx4
namespace Go.Proofs.YtnfbdaffbpaagaaDoor.Pure
open Go.RowKit Go.Proofs.YtnfbdaffbpaagaaDoor.PFnExactRulesText Go.Proofs.YtnfbdaffbpaagaaDoorW.PrintWords Go.Proofs.YtnfbdaffbpaagaaDoorW.PrintLast Go.Proofs.YtnfbdaffbpaagaaDoorW.PrintMore
set_option linter.unusedVariables false
set_option linter.unusedSimpArgs false
namespace OwnFnExactRulesText
theorem w64 {x : Int} (h0 : -9223372036854775808 ≤ x) (h1 : x ≤ 9223372036854775807) : wrap64 x = x := by unfold wrap64; omega
theorem l1In_at (n a b : Int) : spec_l1In.f n a b = some (decide (a ≤ n ∧ n ≤ b)) := by
  unfold spec_l1In.f
  by_cases h : a ≤ n
  · rw [if_pos (by omega)]; simp [h]
  · rw [if_neg (by omega)]; simp [h]
/-- What a rule is. -/
def ruleB (e r : Int) : Bool := decide (2 ≤ e ∧ e ≤ 60 ∧ 0 ≤ r ∧ r < e)
theorem isRule_at (e r : Int) : impl_isRule.f e r = some (ruleB e r) := by
  unfold impl_isRule.f ruleB
  by_cases h1 : e ≥ 2
  · rw [if_pos h1]
    by_cases h2 : e ≤ 60
    · rw [if_pos h2]
      by_cases h3 : r ≥ 0
      · rw [if_pos h3]
        congr 1
        rw [decide_eq_decide]
        omega
      · rw [if_neg h3, decide_eq_false (by omega)]
    · rw [if_neg h2, decide_eq_false (by omega)]
  · rw [if_neg h1, decide_eq_false (by omega)]
theorem siRule_at (e r : Int) : spec_siRule.f e r = some (ruleB e r) := by
  unfold spec_siRule.f ruleB
  rw [l1In_at]
  simp only [Option.bind_some]
  by_cases h1 : 2 ≤ e ∧ e ≤ 60
  · rw [decide_eq_true h1, if_pos rfl, w64 (by omega) (by omega), l1In_at]
    simp only [Option.bind_some]
    congr 1
    rw [decide_eq_decide]
    omega
  · rw [decide_eq_false h1, if_neg (by simp), decide_eq_false (by omega)]
theorem drop_rdT (xs : List S43) (i : Nat) (h : i < xs.length) : xs.drop i = rd_T43 xs (i : Int) :: xs.drop (i + 1) := by
  rw [List.drop_eq_getElem_cons h]
  simp [rd_T43, List.getD, h]
def conv (x : S48) : S43 := ⟨x.f0, x.f1⟩
theorem take_set_succ {α : Type} (xs : List α) (i : Nat) (v : α) (h : i < xs.length) : (xs.set i v).take (i + 1) = xs.take i ++ [v] := by
  rw [List.take_succ_eq_append_getElem (by simpa using h)]
  simp [List.take_set_of_le]
theorem toRuleS_l0 (xs : List S48) (hx : xs.length ≤ 100000000) : ∀ (d i : Nat) (ys : List S43), i + d = xs.length → ys.length = xs.length → ys.take i = (xs.take i).map conv → ∀ K, d < K → laws_toRuleS.l0 K xs ys i = some (xs.map conv) := by
  intro d
  induction d with
  | zero =>
    intro i ys hi hl ht K hK
    obtain ⟨K, rfl⟩ : ∃ k, K = k + 1 := ⟨K - 1, by omega⟩
    simp only [laws_toRuleS.l0]
    rw [if_neg (by omega)]
    rw [List.take_of_length_le (by omega), List.take_of_length_le (by omega)] at ht
    rw [ht]
  | succ d ih =>
    intro i ys hi hl ht K hK
    obtain ⟨K, rfl⟩ : ∃ k, K = k + 1 := ⟨K - 1, by omega⟩
    simp only [laws_toRuleS.l0, laws_toRule.f, Option.bind_some]
    rw [if_pos (by omega), if_pos (by omega), if_pos (by omega), w64 (by omega) (by omega)]
    refine ih (i + 1) _ (by omega) (by simpa using hl) ?_ K (by omega)
    rw [Int.toNat_natCast, take_set_succ _ _ _ (by omega), ht, List.take_succ_eq_append_getElem (by omega)]
    have e : rd_T48 xs (i : Int) = xs[i]'(by omega) := by
      have hi' : i < xs.length := by omega
      simp [rd_T48, List.getD, hi']
    rw [e, List.map_append]
    rfl
theorem toRuleS_at (xs : List S48) (hx : xs.length ≤ 100000000) (K : Nat) (hK : 100000000 < K) : laws_toRuleS.f K xs = some (xs.map conv) := by
  unfold laws_toRuleS.f
  rw [if_pos (by omega), if_pos (by omega)]
  refine toRuleS_l0 xs hx xs.length 0 _ (by omega) (by simp) rfl K (by omega)
theorem szRuleS_at (xs : List S48) (hx : xs.length ≤ 100000000) : laws_szRuleS.f xs 1048576 = some (if xs.length ≤ 1048576 then (1048576 : Int) - (xs.length : Int) else (-1 : Int)) := by
  unfold laws_szRuleS.f
  rw [w64 (by omega) (by omega)]
  by_cases h : xs.length ≤ 1048576
  · rw [if_neg (by omega), if_pos h]
  · rw [if_pos (by omega), if_neg h]
theorem szRuleS_big (xs : List S48) (h1 : xs.length ≤ maxLen) (hx : ¬ xs.length ≤ 1048576) : laws_szRuleS.f xs 1048576 = some (-1) := by
  unfold maxLen at h1
  unfold laws_szRuleS.f
  rw [w64 (by omega) (by omega), if_pos (by omega)]
theorem eqRuleS_l0 (xs : List S43) (hx : xs.length ≤ 100000000) : ∀ (d i : Nat), i + d = xs.length → ∀ K, d < K → laws_eqRuleS.l0 K xs xs i = some true := by
  intro d
  induction d with
  | zero =>
    intro i hi K hK
    obtain ⟨K, rfl⟩ : ∃ k, K = k + 1 := ⟨K - 1, by omega⟩
    simp only [laws_eqRuleS.l0]
    rw [if_neg (by omega)]
  | succ d ih =>
    intro i hi K hK
    obtain ⟨K, rfl⟩ : ∃ k, K = k + 1 := ⟨K - 1, by omega⟩
    have hlt : (i : Int) < (xs.length : Int) := by omega
    simp only [laws_eqRuleS.l0, laws_eqRule.f]
    rw [if_pos hlt, if_pos (by omega), if_pos hlt, w64 (by omega) (by omega)]
    simp only [if_true, Option.bind_some]
    exact ih (i + 1) (by omega) K (by omega)
theorem eqRuleS_at (xs : List S43) (hx : xs.length ≤ 100000000) (K : Nat) (hK : 100000000 < K) : laws_eqRuleS.f K xs xs = some true := by
  unfold laws_eqRuleS.f
  rw [if_pos rfl]
  exact eqRuleS_l0 xs hx xs.length 0 (by omega) K (by omega)
/-- What a list of rules is. -/
def goodB (L : List S43) : Bool := decide (L.length ≤ 12) && L.all (fun x => ruleB x.f0 x.f1)
theorem areAny_at : ∀ L : List S43, impl_areRules.any L = some (!(L.all fun x => ruleB x.f0 x.f1))
  | [] => rfl
  | x :: xs => by
    simp only [impl_areRules.any, isRule_at, Option.bind_some, List.all_cons]
    rw [areAny_at xs]
    cases ruleB x.f0 x.f1 <;> simp
theorem areRules_at (L : List S43) : impl_areRules.f L = some (goodB L) := by
  unfold impl_areRules.f goodB
  rw [areAny_at]
  by_cases h : L.length ≤ 12
  · rw [if_pos (by omega)]; simp [h]
  · rw [if_neg (by omega)]; simp [h]
theorem siGood_l0 (L : List S43) (hL : L.length ≤ 12) : ∀ (d i : Nat), i + d = L.length → ∀ K, d < K → spec_siGood.l0 K L L.length i = some ((L.drop i).all fun x => ruleB x.f0 x.f1) := by
  intro d
  induction d with
  | zero =>
    intro i hi K hK
    obtain ⟨K, rfl⟩ : ∃ k, K = k + 1 := ⟨K - 1, by omega⟩
    simp only [spec_siGood.l0]
    rw [if_neg (by omega), List.drop_of_length_le (by omega)]
    rfl
  | succ d ih =>
    intro i hi K hK
    obtain ⟨K, rfl⟩ : ∃ k, K = k + 1 := ⟨K - 1, by omega⟩
    have hlt : (i : Int) < (L.length : Int) := by omega
    have h := ih (i + 1) (by omega) K (by omega)
    simp only [spec_siGood.l0]
    rw [if_pos hlt, if_pos (by omega), if_pos hlt, siRule_at, w64 (by omega) (by omega), drop_rdT L i (by omega)]
    simp only [Option.bind_some, List.all_cons]
    rw [show (i : Int) + 1 = ((i + 1 : Nat) : Int) from by omega, h]
    cases ruleB (rd_T43 L (i : Int)).f0 (rd_T43 L (i : Int)).f1 <;> simp
theorem siGood_at (L : List S43) (K : Nat) (hK : 100 < K) : spec_siGood.f K L = some (goodB L) := by
  unfold spec_siGood.f goodB
  by_cases h : L.length ≤ 12
  · have h0 := siGood_l0 L h L.length 0 (by omega) K (by omega)
    have h0' : spec_siGood.l0 K L L.length 0 = _ := h0
    rw [if_neg (by omega), h0']; simp [h]
  · rw [if_pos (by omega)]; simp [h]
theorem good_len {L : List S43} (h : goodB L = true) : L.length ≤ 12 := by
  unfold goodB at h
  simp at h
  exact h.1
theorem good_mem {L : List S43} (h : goodB L = true) (x : S43) (hx : x ∈ L) : 2 ≤ x.f0 ∧ x.f0 ≤ 60 ∧ 0 ≤ x.f1 ∧ x.f1 < x.f0 := by
  unfold goodB at h
  simp at h
  have := h.2 x hx
  unfold ruleB at this
  simpa using this
theorem bl_app (a b : ByteArray) : (a ++ b).data.toList = a.data.toList ++ b.data.toList := by simp
theorem bl_ext {a b : ByteArray} (h : a.data.toList = b.data.toList) : a = b := by
  cases a; cases b
  simp only [ByteArray.mk.injEq]
  exact Array.toList_inj.1 h
theorem bl_size (a : ByteArray) : a.size = a.data.toList.length := by rw [Array.length_toList]; rfl
def mkB (l : List UInt8) : ByteArray := ⟨l.toArray⟩
theorem bl_mk (l : List UInt8) : (mkB l).data.toList = l := rfl
theorem mk_bl (a : ByteArray) : mkB a.data.toList = a := bl_ext rfl
theorem mk_app (a b : List UInt8) : mkB a ++ mkB b = mkB (a ++ b) := bl_ext (by rw [bl_app]; rfl)
theorem mk_size (l : List UInt8) : (mkB l).size = l.length := by rw [bl_size]; rfl
theorem dd_one {n : Nat} (h : n < 10) : Lib.decDigits n = [UInt8.ofNat (48 + n)] := by rw [Lib.decDigits, dif_pos h]
theorem dd_two {n : Nat} (h : ¬ n < 10) : Lib.decDigits n = Lib.decDigits (n / 10) ++ [UInt8.ofNat (48 + n % 10)] := by rw [Lib.decDigits, dif_neg h]
theorem dd_len {n : Nat} (h : n < 100) : 1 ≤ (Lib.decDigits n).length ∧ (Lib.decDigits n).length ≤ 2 := by
  by_cases h1 : n < 10
  · rw [dd_one h1]; simp
  · rw [dd_two h1, dd_one (by omega)]; simp
theorem itoa_at (n : Int) (h0 : 0 ≤ n) (h1 : n < 100) : strconv_Itoa.f n = some (mkB (Lib.decDigits n.toNat)) := by
  unfold strconv_Itoa.f
  rw [if_pos h0, if_pos h1]; rfl
theorem one_byte (n : Int) (h0 : 0 ≤ n) (h1 : n < 10) : strOfNums [(wrap64 (48 + n)) % 256] = mkB [UInt8.ofNat (48 + n.toNat)] := by
  rw [w64 (by omega) (by omega)]
  obtain ⟨m, rfl⟩ : ∃ m : Nat, n = m := ⟨n.toNat, by omega⟩
  have hm : m < 10 := by omega
  rcases m with _ | _ | _ | _ | _ | _ | _ | _ | _ | _ | m
  all_goals first | rfl | omega
theorem l1Num_at (n : Int) (h0 : 0 ≤ n) (h1 : n < 100) (K : Nat) (hK : 10 < K) : spec_l1Num.f K n = some (mkB (Lib.decDigits n.toNat)) := by
  obtain ⟨K, rfl⟩ : ∃ k, K = k + 1 := ⟨K - 1, by omega⟩
  obtain ⟨K, rfl⟩ : ∃ k, K = k + 1 := ⟨K - 1, by omega⟩
  by_cases h : n < 10
  · rw [spec_l1Num.f, if_pos h, one_byte n h0 h, dd_one (by omega)]
  · have hd : Int.tdiv n 10 = n / 10 := Int.tdiv_eq_ediv_of_nonneg h0
    have hm : Int.tmod n 10 = n % 10 := Int.tmod_eq_emod_of_nonneg h0
    have e1 : (n / 10).toNat = n.toNat / 10 := by omega
    have e2 : (n % 10).toNat = n.toNat % 10 := by omega
    rw [spec_l1Num.f, if_neg h, hd, hm, w64 (x := n / 10) (by omega) (by omega), spec_l1Num.f, if_pos (by omega), one_byte (n / 10) (by omega) (by omega)]
    simp only [Option.bind_some]
    rw [one_byte (n % 10) (by omega) (by omega), if_pos (by rw [mk_size, mk_size]; simp), mk_app, e1, e2, dd_two (n := n.toNat) (by omega), dd_one (n := n.toNat / 10) (by omega)]
def oneL (x : S43) : List UInt8 := Lib.decDigits x.f0.toNat ++ 58 :: Lib.decDigits x.f1.toNat
def tailL : List S43 → List UInt8
  | [] => []
  | x :: xs => 44 :: (oneL x ++ tailL xs)
/-- The text of rules. -/
def textL : List S43 → List UInt8
  | [] => [45]
  | x :: xs => oneL x ++ tailL xs
theorem one_len {x : S43} (h : 2 ≤ x.f0 ∧ x.f0 ≤ 60 ∧ 0 ≤ x.f1 ∧ x.f1 < x.f0) : 3 ≤ (oneL x).length ∧ (oneL x).length ≤ 5 := by
  have h1 := dd_len (n := x.f0.toNat) (by omega)
  have h2 := dd_len (n := x.f1.toNat) (by omega)
  unfold oneL
  rw [List.length_append, List.length_cons]
  omega
theorem tail_len : ∀ (L : List S43), (∀ x ∈ L, 2 ≤ x.f0 ∧ x.f0 ≤ 60 ∧ 0 ≤ x.f1 ∧ x.f1 < x.f0) → (tailL L).length ≤ 6 * L.length
  | [], _ => by simp [tailL]
  | x :: xs, h => by
    have h1 := one_len (h x (by simp))
    have h2 := tail_len xs (fun y hy => h y (by simp [hy]))
    unfold tailL
    rw [List.length_cons, List.length_append, List.length_cons]
    omega
theorem tail_join : ∀ (L : List S43), Lib.joinTail [44] (L.map oneL) = tailL L
  | [] => rfl
  | x :: xs => by
    have ih := tail_join xs
    unfold Lib.joinTail at ih ⊢
    rw [List.map_cons, List.map_cons, List.flatten_cons, ih]
    rfl
theorem text_join (x : S43) (L : List S43) : Lib.join ((x :: L).map oneL) [44] = textL (x :: L) := by
  rw [List.map_cons, Lib.join_cons, tail_join]; rfl
def words (L : List S43) : List ByteArray := L.map fun x => mkB (oneL x)
theorem words_bl (L : List S43) : (words L).map (·.data.toList) = L.map oneL := by
  unfold words
  rw [List.map_map]; rfl
theorem take_rdT (L : List S43) (i : Nat) (h : i < L.length) : L.take (i + 1) = L.take i ++ [rd_T43 L (i : Int)] := by
  rw [List.take_succ_eq_append_getElem h]
  congr 2
  simp [rd_T43, List.getD, h]
theorem rdT_in (L : List S43) (i : Nat) (h : i < L.length) : rd_T43 L (i : Int) ∈ L := by
  simp [rd_T43, List.getD, h]
theorem rules_l0 (L : List S43) (hg : goodB L = true) : ∀ (d i : Nat), i + d = L.length → ∀ K, d < K → impl_rulesText.l0 K (words (L.take i)) L L.length i = some (mkB (textL L)) := by
  have hl := good_len hg
  have hm := good_mem hg
  intro d
  induction d with
  | zero =>
    intro i hi K hK
    obtain ⟨K, rfl⟩ : ∃ k, K = k + 1 := ⟨K - 1, by omega⟩
    have hc : ¬ (i : Int) < (L.length : Int) := by omega
    simp only [impl_rulesText.l0]
    rw [if_neg hc, List.take_of_length_le (by omega)]
    cases L with
    | nil => rfl
    | cons x L =>
      have hb := tail_len L (fun y hy => hm y (by simp [hy]))
      have h1 := one_len (hm x (by simp))
      have ht := text_join x L
      have hlen : (textL (x :: L)).length ≤ 100 := by
        show (oneL x ++ tailL L).length ≤ 100
        rw [List.length_append]
        simp only [List.length_cons] at hl
        omega
      have hw : (words (x :: L)).length = L.length + 1 := by simp [words]
      rw [if_neg (by rw [hw]; omega)]
      unfold strings_Join.f
      rw [words_bl, show (ByteArray.mk #[44]).data.toList = [44] from rfl, ht, if_pos (by omega), if_pos (by rw [hw]; simp only [List.length_cons] at hl; omega)]
      rfl
  | succ d ih =>
    intro i hi K hK
    obtain ⟨K, rfl⟩ : ∃ k, K = k + 1 := ⟨K - 1, by omega⟩
    have hc : (i : Int) < (L.length : Int) := by omega
    have hi0 : (0 : Int) ≤ (i : Int) := by omega
    have h := ih (i + 1) (by omega) K (by omega)
    rw [show ((i + 1 : Nat) : Int) = (i : Int) + 1 from by omega, take_rdT L i (by omega)] at h
    have hx := hm _ (rdT_in L i (by omega))
    have hw : (words (L.take i)).length ≤ 12 := by
      unfold words
      rw [List.length_map]
      have := List.length_take_le i L
      omega
    have h1 := dd_len (n := (rd_T43 L (i : Int)).f0.toNat) (by omega)
    have h2 := dd_len (n := (rd_T43 L (i : Int)).f1.toNat) (by omega)
    have e58 : (⟨#[58]⟩ : ByteArray) = mkB [58] := rfl
    simp only [impl_rulesText.l0]
    rw [if_pos hc, if_pos hi0, if_pos hc, itoa_at _ (by omega) (by omega), itoa_at _ (by omega) (by omega)]
    simp only [Option.bind_some]
    rw [e58, mk_app, mk_app, mk_size, mk_size, mk_size, if_pos (by omega), if_pos (by rw [List.length_append]; simp; omega), if_pos (by omega), w64 (by omega) (by omega)]
    have hwd : words (L.take i ++ [rd_T43 L (i : Int)]) = words (L.take i) ++ [mkB (Lib.decDigits (rd_T43 L (i : Int)).f0.toNat ++ [58] ++ Lib.decDigits (rd_T43 L (i : Int)).f1.toNat)] := by
      unfold words
      rw [List.map_append]
      unfold oneL
      simp
    rw [← hwd]
    exact h
theorem rulesText_at (L : List S43) (hg : goodB L = true) (K : Nat) (hK : 100 < K) : impl_rulesText.f K L = some (mkB (textL L)) :=
  rules_l0 L hg L.length 0 (Nat.zero_add _) K (by have := good_len hg; omega)
def preL : List S43 → List UInt8
  | [] => []
  | x :: xs => oneL x ++ tailL xs
theorem tail_snoc (x : S43) : ∀ (L : List S43), tailL (L ++ [x]) = tailL L ++ 44 :: oneL x
  | [] => by simp [tailL]
  | y :: L => by
    have ih := tail_snoc x L
    show 44 :: (oneL y ++ tailL (L ++ [x])) = 44 :: (oneL y ++ tailL L) ++ 44 :: oneL x
    rw [ih]
    simp
theorem pre_snoc (x : S43) (L : List S43) (h : L ≠ []) : preL (L ++ [x]) = preL L ++ 44 :: oneL x := by
  cases L with
  | nil => exact absurd rfl h
  | cons y L =>
    show oneL y ++ tailL (L ++ [x]) = oneL y ++ tailL L ++ 44 :: oneL x
    rw [tail_snoc]
    simp
theorem pre_len (L : List S43) (hm : ∀ x ∈ L, 2 ≤ x.f0 ∧ x.f0 ≤ 60 ∧ 0 ≤ x.f1 ∧ x.f1 < x.f0) : (preL L).length ≤ 6 * L.length := by
  cases L with
  | nil => simp [preL]
  | cons y L =>
    have h1 := one_len (hm y (by simp))
    have h2 := tail_len L (fun x hx => hm x (by simp [hx]))
    show (oneL y ++ tailL L).length ≤ _
    rw [List.length_append, List.length_cons]
    omega
theorem siText_l0 (L : List S43) (hg : goodB L = true) : ∀ (d i : Nat), i + d = L.length → ∀ K, 20 + d < K → spec_siText.l0 K (mkB (preL (L.take i))) L L.length i = some (mkB (preL L)) := by
  have hl := good_len hg
  have hm := good_mem hg
  intro d
  induction d with
  | zero =>
    intro i hi K hK
    obtain ⟨K, rfl⟩ : ∃ k, K = k + 1 := ⟨K - 1, by omega⟩
    have hc : ¬ (i : Int) < (L.length : Int) := by omega
    simp only [spec_siText.l0]
    rw [if_neg hc, List.take_of_length_le (by omega)]
  | succ d ih =>
    intro i hi K hK
    obtain ⟨K, rfl⟩ : ∃ k, K = k + 1 := ⟨K - 1, by omega⟩
    have hc : (i : Int) < (L.length : Int) := by omega
    have hi0 : (0 : Int) ≤ (i : Int) := by omega
    have h := ih (i + 1) (by omega) K (by omega)
    rw [show ((i + 1 : Nat) : Int) = (i : Int) + 1 from by omega, take_rdT L i (by omega)] at h
    have hx := hm _ (rdT_in L i (by omega))
    have hp := pre_len (L.take i) (fun x hx => hm x (List.mem_of_mem_take hx))
    have htl := List.length_take_le i L
    have h1 := dd_len (n := (rd_T43 L (i : Int)).f0.toNat) (by omega)
    have h2 := dd_len (n := (rd_T43 L (i : Int)).f1.toNat) (by omega)
    have e58 : (⟨#[58]⟩ : ByteArray) = mkB [58] := rfl
    have e44 : (⟨#[44]⟩ : ByteArray) = mkB [44] := rfl
    have hone : Lib.decDigits (rd_T43 L (i : Int)).f0.toNat ++ [58] ++ Lib.decDigits (rd_T43 L (i : Int)).f1.toNat = oneL (rd_T43 L (i : Int)) := by
      unfold oneL; simp
    have h3 := one_len hx
    simp only [spec_siText.l0]
    rw [if_pos hc, if_pos hi0, if_pos hc, l1Num_at _ (by omega) (by omega) K (by omega), l1Num_at _ (by omega) (by omega) K (by omega)]
    simp only [Option.bind_some]
    rw [e58, e44, mk_app, mk_app, mk_app, mk_app, mk_app, hone, mk_size, mk_size, mk_size, mk_size, mk_size, mk_size]
    rw [w64 (by omega) (by omega)]
    cases i with
    | zero =>
      have e : preL (L.take 0) ++ oneL (rd_T43 L ((0 : Nat) : Int)) = preL (L.take 0 ++ [rd_T43 L ((0 : Nat) : Int)]) := by
        simp [preL, tailL]
      rw [if_neg (by omega), if_pos (by first | omega | (simp only [List.length_append, List.length_cons, List.length_nil]; omega)), if_pos (by first | omega | (simp only [List.length_append, List.length_cons, List.length_nil]; omega)), if_pos (by first | omega | (simp only [List.length_append, List.length_cons, List.length_nil]; omega)), e]
      exact h
    | succ j =>
      have hne : L.take (j + 1) ≠ [] := by
        intro hh
        have : (L.take (j + 1)).length = 0 := by rw [hh]; rfl
        rw [List.length_take] at this
        omega
      have e := pre_snoc (rd_T43 L ((j + 1 : Nat) : Int)) (L.take (j + 1)) hne
      rw [if_pos (by omega), if_pos (by first | omega | (simp only [List.length_append, List.length_cons, List.length_nil]; omega)), if_pos (by first | omega | (simp only [List.length_append, List.length_cons, List.length_nil]; omega)), if_pos (by first | omega | (simp only [List.length_append, List.length_cons, List.length_nil]; omega)), if_pos (by first | omega | (simp only [List.length_append, List.length_cons, List.length_nil]; omega)), List.append_assoc, List.singleton_append, ← e]
      exact h
theorem siText_at (L : List S43) (hg : goodB L = true) (K : Nat) (hK : 100 < K) : spec_siText.f K L = some (mkB (textL L)) := by
  unfold spec_siText.f
  cases L with
  | nil => rfl
  | cons x L =>
    rw [if_neg (by simp only [List.length_cons]; omega)]
    have h := siText_l0 (x :: L) hg (x :: L).length 0 (Nat.zero_add _) K (by have := good_len hg; omega)
    exact h
def rtV (L : List S43) : ByteArray × Bool := if goodB L = true then (mkB (textL L), true) else (⟨#[]⟩, false)
theorem rt_at (L : List S43) (K : Nat) (hK : 200 < K) : spec_RulesText.f K L = some (rtV L) ∧ impl_RulesText.f K L = some (rtV L) := by
  unfold spec_RulesText.f impl_RulesText.f rtV
  rw [siGood_at L K (by omega), areRules_at]
  simp only [Option.bind_some]
  by_cases hg : goodB L = true
  · rw [if_pos hg, if_pos hg, if_pos hg, siText_at L hg K (by omega), rulesText_at L hg K (by omega)]
    exact ⟨rfl, rfl⟩
  · rw [if_neg hg, if_neg hg, if_neg hg]
    exact ⟨rfl, rfl⟩

theorem done : laws_FnExactRulesText.Pure := by
  intro l0 hm hb hw
  refine ⟨1000000000, ?_⟩
  unfold laws_FnExactRulesText.f
  by_cases hl : l0.length ≤ 1048576
  · rw [szRuleS_at l0 (by omega), if_pos hl]
    simp only [Option.bind_some]
    rw [if_neg (by omega), toRuleS_at l0 (by omega) _ (by omega)]
    simp only [Option.bind_some]
    rw [(rt_at (l0.map conv) 1000000000 (by omega)).1, (rt_at (l0.map conv) 1000000000 (by omega)).2]
    simp only [Option.bind_some, bne_self_eq_false]
    rw [if_pos trivial]
    show laws_FnExactRulesText.j0 (999999999 + 1) l0 (l0.map conv) false = some true
    simp only [laws_FnExactRulesText.j0]
    rw [if_neg (by simp), toRuleS_at l0 (by omega) _ (by omega)]
    simp only [Option.bind_some]
    rw [eqRuleS_at _ (by simpa using (by omega : l0.length ≤ 100000000)) _ (by omega)]
    rfl
  · rw [szRuleS_big l0 hm hl]
    simp only [Option.bind_some]
    rw [if_pos (by omega)]
end OwnFnExactRulesText
theorem FnExactRulesText : laws_FnExactRulesText.Pure := OwnFnExactRulesText.done
end Go.Proofs.YtnfbdaffbpaagaaDoor.Pure
