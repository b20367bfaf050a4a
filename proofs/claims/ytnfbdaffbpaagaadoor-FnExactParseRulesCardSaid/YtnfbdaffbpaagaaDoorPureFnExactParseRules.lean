/- ParseRules of the program and of the reference answer alike at every string, and hand back memory of their own: no condition. -/
import Derived.Test.YtnfbdaffbpaagaaDoorPFnExactParseRulesx6
namespace Go.Proofs.YtnfbdaffbpaagaaDoor.Pure
open Go.RowKit Go.Proofs.YtnfbdaffbpaagaaDoor.PFnExactParseRules Go.Proofs.YtnfbdaffbpaagaaDoorW.PrintWords Go.Proofs.YtnfbdaffbpaagaaDoorW.PrintLast Go.Proofs.YtnfbdaffbpaagaaDoorW.PrintMore
set_option linter.unusedVariables false
set_option linter.unusedSimpArgs false
namespace OwnFnExactParseRules
theorem w64 {x : Int} (h0 : -9223372036854775808 ≤ x) (h1 : x ≤ 9223372036854775807) : wrap64 x = x := by unfold wrap64; omega
theorem l1In_at (n a b : Int) : spec_l1In.f n a b = some (decide (a ≤ n ∧ n ≤ b)) := by
  unfold spec_l1In.f
  by_cases h : a ≤ n
  · rw [if_pos (by omega)]; simp [h]
  · rw [if_neg (by omega)]; simp [h]
/-- What a rule is. -/
def ruleB (e r : Int) : Bool := decide (2 ≤ e ∧ e ≤ 60 ∧ 0 ≤ r ∧ r < e)
theorem isRule_at (e r : Int) : impl_isRule.f e r = some (ruleB e r) := by
  unfold impl_isRule.f ruleB
  by_cases h1 : e ≥ 2
  · rw [if_pos h1]
    by_cases h2 : e ≤ 60
    · rw [if_pos h2]
      by_cases h3 : r ≥ 0
      · rw [if_pos h3]
        congr 1
        rw [decide_eq_decide]
        omega
      · rw [if_neg h3, decide_eq_false (by omega)]
    · rw [if_neg h2, decide_eq_false (by omega)]
  · rw [if_neg h1, decide_eq_false (by omega)]
theorem siRule_at (e r : Int) : spec_siRule.f e r = some (ruleB e r) := by
  unfold spec_siRule.f ruleB
  rw [l1In_at]
  simp only [Option.bind_some]
  by_cases h1 : 2 ≤ e ∧ e ≤ 60
  · rw [decide_eq_true h1, if_pos rfl, w64 (by omega) (by omega), l1In_at]
    simp only [Option.bind_some]
    congr 1
    rw [decide_eq_decide]
    omega
  · rw [decide_eq_false h1, if_neg (by simp), decide_eq_false (by omega)]
theorem drop_rdT (xs : List S43) (i : Nat) (h : i < xs.length) : xs.drop i = rd_T43 xs (i : Int) :: xs.drop (i + 1) := by
  rw [List.drop_eq_getElem_cons h]
  simp [rd_T43, List.getD, h]
theorem take_set_succ {α : Type} (xs : List α) (i : Nat) (v : α) (h : i < xs.length) : (xs.set i v).take (i + 1) = xs.take i ++ [v] := by
  rw [List.take_succ_eq_append_getElem (by simpa using h)]
  simp [List.take_set_of_le]
theorem eqRuleS_l0 (xs : List S43) (hx : xs.length ≤ 100000000) : ∀ (d i : Nat), i + d = xs.length → ∀ K, d < K → laws_eqRuleS.l0 K xs xs i = some true := by
  intro d
  induction d with
  | zero =>
    intro i hi K hK
    obtain ⟨K, rfl⟩ : ∃ k, K = k + 1 := ⟨K - 1, by omega⟩
    simp only [laws_eqRuleS.l0]
    rw [if_neg (by omega)]
  | succ d ih =>
    intro i hi K hK
    obtain ⟨K, rfl⟩ : ∃ k, K = k + 1 := ⟨K - 1, by omega⟩
    have hlt : (i : Int) < (xs.length : Int) := by omega
    simp only [laws_eqRuleS.l0, laws_eqRule.f]
    rw [if_pos hlt, if_pos (by omega), if_pos hlt, w64 (by omega) (by omega)]
    simp only [if_true, Option.bind_some]
    exact ih (i + 1) (by omega) K (by omega)
theorem eqRuleS_at (xs : List S43) (hx : xs.length ≤ 100000000) (K : Nat) (hK : 100000000 < K) : laws_eqRuleS.f K xs xs = some true := by
  unfold laws_eqRuleS.f
  rw [if_pos rfl]
  exact eqRuleS_l0 xs hx xs.length 0 (by omega) K (by omega)
/-- What a list of rules is. -/
def goodB (L : List S43) : Bool := decide (L.length ≤ 12) && L.all (fun x => ruleB x.f0 x.f1)
theorem areAny_at : ∀ L : List S43, impl_areRules.any L = some (!(L.all fun x => ruleB x.f0 x.f1))
  | [] => rfl
  | x :: xs => by
    simp only [impl_areRules.any, isRule_at, Option.bind_some, List.all_cons]
    rw [areAny_at xs]
    cases ruleB x.f0 x.f1 <;> simp
theorem areRules_at (L : List S43) : impl_areRules.f L = some (goodB L) := by
  unfold impl_areRules.f goodB
  rw [areAny_at]
  by_cases h : L.length ≤ 12
  · rw [if_pos (by omega)]; simp [h]
  · rw [if_neg (by omega)]; simp [h]
theorem siGood_l0 (L : List S43) (hL : L.length ≤ 12) : ∀ (d i : Nat), i + d = L.length → ∀ K, d < K → spec_siGood.l0 K L L.length i = some ((L.drop i).all fun x => ruleB x.f0 x.f1) := by
  intro d
  induction d with
  | zero =>
    intro i hi K hK
    obtain ⟨K, rfl⟩ : ∃ k, K = k + 1 := ⟨K - 1, by omega⟩
    simp only [spec_siGood.l0]
    rw [if_neg (by omega), List.drop_of_length_le (by omega)]
    rfl
  | succ d ih =>
    intro i hi K hK
    obtain ⟨K, rfl⟩ : ∃ k, K = k + 1 := ⟨K - 1, by omega⟩
    have hlt : (i : Int) < (L.length : Int) := by omega
    have h := ih (i + 1) (by omega) K (by omega)
    simp only [spec_siGood.l0]
    rw [if_pos hlt, if_pos (by omega), if_pos hlt, siRule_at, w64 (by omega) (by omega), drop_rdT L i (by omega)]
    simp only [Option.bind_some, List.all_cons]
    rw [show (i : Int) + 1 = ((i + 1 : Nat) : Int) from by omega, h]
    cases ruleB (rd_T43 L (i : Int)).f0 (rd_T43 L (i : Int)).f1 <;> simp
theorem siGood_at (L : List S43) (K : Nat) (hK : 100 < K) : spec_siGood.f K L = some (goodB L) := by
  unfold spec_siGood.f goodB
  by_cases h : L.length ≤ 12
  · have h0 := siGood_l0 L h L.length 0 (by omega) K (by omega)
    have h0' : spec_siGood.l0 K L L.length 0 = _ := h0
    rw [if_neg (by omega), h0']; simp [h]
  · rw [if_pos (by omega)]; simp [h]
theorem good_len {L : List S43} (h : goodB L = true) : L.length ≤ 12 := by
  unfold goodB at h
  simp at h
  exact h.1
theorem good_mem {L : List S43} (h : goodB L = true) (x : S43) (hx : x ∈ L) : 2 ≤ x.f0 ∧ x.f0 ≤ 60 ∧ 0 ≤ x.f1 ∧ x.f1 < x.f0 := by
  unfold goodB at h
  simp at h
  have := h.2 x hx
  unfold ruleB at this
  simpa using this
theorem bl_app (a b : ByteArray) : (a ++ b).data.toList = a.data.toList ++ b.data.toList := by simp
theorem bl_ext {a b : ByteArray} (h : a.data.toList = b.data.toList) : a = b := by
  cases a; cases b
  simp only [ByteArray.mk.injEq]
  exact Array.toList_inj.1 h
theorem bl_size (a : ByteArray) : a.size = a.data.toList.length := by rw [Array.length_toList]; rfl
def mkB (l : List UInt8) : ByteArray := ⟨l.toArray⟩
theorem bl_mk (l : List UInt8) : (mkB l).data.toList = l := rfl
theorem mk_bl (a : ByteArray) : mkB a.data.toList = a := bl_ext rfl
theorem mk_app (a b : List UInt8) : mkB a ++ mkB b = mkB (a ++ b) := bl_ext (by rw [bl_app]; rfl)
theorem mk_size (l : List UInt8) : (mkB l).size = l.length := by rw [bl_size]; rfl
theorem dd_one {n : Nat} (h : n < 10) : Lib.decDigits n = [UInt8.ofNat (48 + n)] := by rw [Lib.decDigits, dif_pos h]
theorem dd_two {n : Nat} (h : ¬ n < 10) : Lib.decDigits n = Lib.decDigits (n / 10) ++ [UInt8.ofNat (48 + n % 10)] := by rw [Lib.decDigits, dif_neg h]
theorem dd_len {n : Nat} (h : n < 100) : 1 ≤ (Lib.decDigits n).length ∧ (Lib.decDigits n).length ≤ 2 := by
  by_cases h1 : n < 10
  · rw [dd_one h1]; simp
  · rw [dd_two h1, dd_one (by omega)]; simp
theorem itoa_at (n : Int) (h0 : 0 ≤ n) (h1 : n < 100) : strconv_Itoa.f n = some (mkB (Lib.decDigits n.toNat)) := by
  unfold strconv_Itoa.f
  rw [if_pos h0, if_pos h1]; rfl
theorem one_byte (n : Int) (h0 : 0 ≤ n) (h1 : n < 10) : strOfNums [(wrap64 (48 + n)) % 256] = mkB [UInt8.ofNat (48 + n.toNat)] := by
  rw [w64 (by omega) (by omega)]
  obtain ⟨m, rfl⟩ : ∃ m : Nat, n = m := ⟨n.toNat, by omega⟩
  have hm : m < 10 := by omega
  rcases m with _ | _ | _ | _ | _ | _ | _ | _ | _ | _ | m
  all_goals first | rfl | omega
theorem l1Num_at (n : Int) (h0 : 0 ≤ n) (h1 : n < 100) (K : Nat) (hK : 10 < K) : spec_l1Num.f K n = some (mkB (Lib.decDigits n.toNat)) := by
  obtain ⟨K, rfl⟩ : ∃ k, K = k + 1 := ⟨K - 1, by omega⟩
  obtain ⟨K, rfl⟩ : ∃ k, K = k + 1 := ⟨K - 1, by omega⟩
  by_cases h : n < 10
  · rw [spec_l1Num.f, if_pos h, one_byte n h0 h, dd_one (by omega)]
  · have hd : Int.tdiv n 10 = n / 10 := Int.tdiv_eq_ediv_of_nonneg h0
    have hm : Int.tmod n 10 = n % 10 := Int.tmod_eq_emod_of_nonneg h0
    have e1 : (n / 10).toNat = n.toNat / 10 := by omega
    have e2 : (n % 10).toNat = n.toNat % 10 := by omega
    rw [spec_l1Num.f, if_neg h, hd, hm, w64 (x := n / 10) (by omega) (by omega), spec_l1Num.f, if_pos (by omega), one_byte (n / 10) (by omega) (by omega)]
    simp only [Option.bind_some]
    rw [one_byte (n % 10) (by omega) (by omega), if_pos (by rw [mk_size, mk_size]; simp), mk_app, e1, e2, dd_two (n := n.toNat) (by omega), dd_one (n := n.toNat / 10) (by omega)]
def oneL (x : S43) : List UInt8 := Lib.decDigits x.f0.toNat ++ 58 :: Lib.decDigits x.f1.toNat
def tailL : List S43 → List UInt8
  | [] => []
  | x :: xs => 44 :: (oneL x ++ tailL xs)
/-- The text of rules. -/
def textL : List S43 → List UInt8
  | [] => [45]
  | x :: xs => oneL x ++ tailL xs
theorem one_len {x : S43} (h : 2 ≤ x.f0 ∧ x.f0 ≤ 60 ∧ 0 ≤ x.f1 ∧ x.f1 < x.f0) : 3 ≤ (oneL x).length ∧ (oneL x).length ≤ 5 := by
  have h1 := dd_len (n := x.f0.toNat) (by omega)
  have h2 := dd_len (n := x.f1.toNat) (by omega)
  unfold oneL
  rw [List.length_append, List.length_cons]
  omega
theorem tail_len : ∀ (L : List S43), (∀ x ∈ L, 2 ≤ x.f0 ∧ x.f0 ≤ 60 ∧ 0 ≤ x.f1 ∧ x.f1 < x.f0) → (tailL L).length ≤ 6 * L.length
  | [], _ => by simp [tailL]
  | x :: xs, h => by
    have h1 := one_len (h x (by simp))
    have h2 := tail_len xs (fun y hy => h y (by simp [hy]))
    unfold tailL
    rw [List.length_cons, List.length_append, List.length_cons]
    omega
theorem tail_join : ∀ (L : List S43), Lib.joinTail [44] (L.map oneL) = tailL L
  | [] => rfl
  | x :: xs => by
    have ih := tail_join xs
    unfold Lib.joinTail at ih ⊢
    rw [List.map_cons, List.map_cons, List.flatten_cons, ih]
    rfl
theorem text_join (x : S43) (L : List S43) : Lib.join ((x :: L).map oneL) [44] = textL (x :: L) := by
  rw [List.map_cons, Lib.join_cons, tail_join]; rfl
def words (L : List S43) : List ByteArray := L.map fun x => mkB (oneL x)
theorem words_bl (L : List S43) : (words L).map (·.data.toList) = L.map oneL := by
  unfold words
  rw [List.map_map]; rfl
theorem take_rdT (L : List S43) (i : Nat) (h : i < L.length) : L.take (i + 1) = L.take i ++ [rd_T43 L (i : Int)] := by
  rw [List.take_succ_eq_append_getElem h]
  congr 2
  simp [rd_T43, List.getD, h]
theorem rdT_in (L : List S43) (i : Nat) (h : i < L.length) : rd_T43 L (i : Int) ∈ L := by
  simp [rd_T43, List.getD, h]
theorem rules_l0 (L : List S43) (hg : goodB L = true) : ∀ (d i : Nat), i + d = L.length → ∀ K, d < K → impl_rulesText.l0 K (words (L.take i)) L L.length i = some (mkB (textL L)) := by
  have hl := good_len hg
  have hm := good_mem hg
  intro d
  induction d with
  | zero =>
    intro i hi K hK
    obtain ⟨K, rfl⟩ : ∃ k, K = k + 1 := ⟨K - 1, by omega⟩
    have hc : ¬ (i : Int) < (L.length : Int) := by omega
    simp only [impl_rulesText.l0]
    rw [if_neg hc, List.take_of_length_le (by omega)]
    cases L with
    | nil => rfl
    | cons x L =>
      have hb := tail_len L (fun y hy => hm y (by simp [hy]))
      have h1 := one_len (hm x (by simp))
      have ht := text_join x L
      have hlen : (textL (x :: L)).length ≤ 100 := by
        show (oneL x ++ tailL L).length ≤ 100
        rw [List.length_append]
        simp only [List.length_cons] at hl
        omega
      have hw : (words (x :: L)).length = L.length + 1 := by simp [words]
      rw [if_neg (by rw [hw]; omega)]
      unfold strings_Join.f
      rw [words_bl, show (ByteArray.mk #[44]).data.toList = [44] from rfl, ht, if_pos (by omega), if_pos (by rw [hw]; simp only [List.length_cons] at hl; omega)]
      rfl
  | succ d ih =>
    intro i hi K hK
    obtain ⟨K, rfl⟩ : ∃ k, K = k + 1 := ⟨K - 1, by omega⟩
    have hc : (i : Int) < (L.length : Int) := by omega
    have hi0 : (0 : Int) ≤ (i : Int) := by omega
    have h := ih (i + 1) (by omega) K (by omega)
    rw [show ((i + 1 : Nat) : Int) = (i : Int) + 1 from by omega, take_rdT L i (by omega)] at h
    have hx := hm _ (rdT_in L i (by omega))
    have hw : (words (L.take i)).length ≤ 12 := by
      unfold words
      rw [List.length_map]
      have := List.length_take_le i L
      omega
    have h1 := dd_len (n := (rd_T43 L (i : Int)).f0.toNat) (by omega)
    have h2 := dd_len (n := (rd_T43 L (i : Int)).f1.toNat) (by omega)
    have e58 : (⟨#[58]⟩ : ByteArray) = mkB [58] := rfl
    simp only [impl_rulesText.l0]
    rw [if_pos hc, if_pos hi0, if_pos hc, itoa_at _ (by omega) (by omega), itoa_at _ (by omega) (by omega)]
    simp only [Option.bind_some]
    rw [e58, mk_app, mk_app, mk_size, mk_size, mk_size, if_pos (by omega), if_pos (by rw [List.length_append]; simp; omega), if_pos (by omega), w64 (by omega) (by omega)]
    have hwd : words (L.take i ++ [rd_T43 L (i : Int)]) = words (L.take i) ++ [mkB (Lib.decDigits (rd_T43 L (i : Int)).f0.toNat ++ [58] ++ Lib.decDigits (rd_T43 L (i : Int)).f1.toNat)] := by
      unfold words
      rw [List.map_append]
      unfold oneL
      simp
    rw [← hwd]
    exact h
theorem rulesText_at (L : List S43) (hg : goodB L = true) (K : Nat) (hK : 100 < K) : impl_rulesText.f K L = some (mkB (textL L)) :=
  rules_l0 L hg L.length 0 (Nat.zero_add _) K (by have := good_len hg; omega)
def preL : List S43 → List UInt8
  | [] => []
  | x :: xs => oneL x ++ tailL xs
theorem tail_snoc (x : S43) : ∀ (L : List S43), tailL (L ++ [x]) = tailL L ++ 44 :: oneL x
  | [] => by simp [tailL]
  | y :: L => by
    have ih := tail_snoc x L
    show 44 :: (oneL y ++ tailL (L ++ [x])) = 44 :: (oneL y ++ tailL L) ++ 44 :: oneL x
    rw [ih]
    simp
theorem pre_snoc (x : S43) (L : List S43) (h : L ≠ []) : preL (L ++ [x]) = preL L ++ 44 :: oneL x := by
  cases L with
  | nil => exact absurd rfl h
  | cons y L =>
    show oneL y ++ tailL (L ++ [x]) = oneL y ++ tailL L ++ 44 :: oneL x
    rw [tail_snoc]
    simp
theorem pre_len (L : List S43) (hm : ∀ x ∈ L, 2 ≤ x.f0 ∧ x.f0 ≤ 60 ∧ 0 ≤ x.f1 ∧ x.f1 < x.f0) : (preL L).length ≤ 6 * L.length := by
  cases L with
  | nil => simp [preL]
  | cons y L =>
    have h1 := one_len (hm y (by simp))
    have h2 := tail_len L (fun x hx => hm x (by simp [hx]))
    show (oneL y ++ tailL L).length ≤ _
    rw [List.length_append, List.length_cons]
    omega
theorem siText_l0 (L : List S43) (hg : goodB L = true) : ∀ (d i : Nat), i + d = L.length → ∀ K, 20 + d < K → spec_siText.l0 K (mkB (preL (L.take i))) L L.length i = some (mkB (preL L)) := by
  have hl := good_len hg
  have hm := good_mem hg
  intro d
  induction d with
  | zero =>
    intro i hi K hK
    obtain ⟨K, rfl⟩ : ∃ k, K = k + 1 := ⟨K - 1, by omega⟩
    have hc : ¬ (i : Int) < (L.length : Int) := by omega
    simp only [spec_siText.l0]
    rw [if_neg hc, List.take_of_length_le (by omega)]
  | succ d ih =>
    intro i hi K hK
    obtain ⟨K, rfl⟩ : ∃ k, K = k + 1 := ⟨K - 1, by omega⟩
    have hc : (i : Int) < (L.length : Int) := by omega
    have hi0 : (0 : Int) ≤ (i : Int) := by omega
    have h := ih (i + 1) (by omega) K (by omega)
    rw [show ((i + 1 : Nat) : Int) = (i : Int) + 1 from by omega, take_rdT L i (by omega)] at h
    have hx := hm _ (rdT_in L i (by omega))
    have hp := pre_len (L.take i) (fun x hx => hm x (List.mem_of_mem_take hx))
    have htl := List.length_take_le i L
    have h1 := dd_len (n := (rd_T43 L (i : Int)).f0.toNat) (by omega)
    have h2 := dd_len (n := (rd_T43 L (i : Int)).f1.toNat) (by omega)
    have e58 : (⟨#[58]⟩ : ByteArray) = mkB [58] := rfl
    have e44 : (⟨#[44]⟩ : ByteArray) = mkB [44] := rfl
    have hone : Lib.decDigits (rd_T43 L (i : Int)).f0.toNat ++ [58] ++ Lib.decDigits (rd_T43 L (i : Int)).f1.toNat = oneL (rd_T43 L (i : Int)) := by
      unfold oneL; simp
    have h3 := one_len hx
    simp only [spec_siText.l0]
    rw [if_pos hc, if_pos hi0, if_pos hc, l1Num_at _ (by omega) (by omega) K (by omega), l1Num_at _ (by omega) (by omega) K (by omega)]
    simp only [Option.bind_some]
    rw [e58, e44, mk_app, mk_app, mk_app, mk_app, mk_app, hone, mk_size, mk_size, mk_size, mk_size, mk_size, mk_size]
    rw [w64 (by omega) (by omega)]
    cases i with
    | zero =>
      have e : preL (L.take 0) ++ oneL (rd_T43 L ((0 : Nat) : Int)) = preL (L.take 0 ++ [rd_T43 L ((0 : Nat) : Int)]) := by
        simp [preL, tailL]
      rw [if_neg (by omega), if_pos (by first | omega | (simp only [List.length_append, List.length_cons, List.length_nil]; omega)), if_pos (by first | omega | (simp only [List.length_append, List.length_cons, List.length_nil]; omega)), if_pos (by first | omega | (simp only [List.length_append, List.length_cons, List.length_nil]; omega)), e]
      exact h
    | succ j =>
      have hne : L.take (j + 1) ≠ [] := by
        intro hh
        have : (L.take (j + 1)).length = 0 := by rw [hh]; rfl
        rw [List.length_take] at this
        omega
      have e := pre_snoc (rd_T43 L ((j + 1 : Nat) : Int)) (L.take (j + 1)) hne
      rw [if_pos (by omega), if_pos (by first | omega | (simp only [List.length_append, List.length_cons, List.length_nil]; omega)), if_pos (by first | omega | (simp only [List.length_append, List.length_cons, List.length_nil]; omega)), if_pos (by first | omega | (simp only [List.length_append, List.length_cons, List.length_nil]; omega)), if_pos (by first | omega | (simp only [List.length_append, List.length_cons, List.length_nil]; omega)), List.append_assoc, List.singleton_append, ← e]
      exact h
theorem siText_at (L : List S43) (hg : goodB L = true) (K : Nat) (hK : 100 < K) : spec_siText.f K L = some (mkB (textL L)) := by
  unfold spec_siText.f
  cases L with
  | nil => rfl
  | cons x L =>
    rw [if_neg (by simp only [List.length_cons]; omega)]
    have h := siText_l0 (x :: L) hg (x :: L).length 0 (Nat.zero_add _) K (by have := good_len hg; omega)
    exact h
theorem tl_data (a : ByteArray) : a.toList = a.data.toList := Lib.toList_data a
theorem idx_app (c : UInt8) : ∀ (A B : List UInt8), c ∉ A → Lib.index (A ++ c :: B) [c] = A.length
  | [], B, _ => by simp [Lib.index, List.isPrefixOf]
  | a :: A, B, h => by
    have h1 : c ≠ a := fun e => h (by simp [e])
    have ih := idx_app c A B (fun hh => h (by simp [hh]))
    rw [List.cons_append, Lib.index, ih]
    rw [if_neg (by simp [List.isPrefixOf, h1]), if_neg (by first | (simp; done) | (simp; omega)), List.length_cons]
    omega
theorem idx_none (c : UInt8) : ∀ (A : List UInt8), c ∉ A → Lib.index A [c] = -1
  | [], _ => rfl
  | a :: A, h => by
    have h1 : c ≠ a := fun e => h (by simp [e])
    have ih := idx_none c A (fun hh => h (by simp [hh]))
    rw [Lib.index, ih, if_neg (by simp [List.isPrefixOf, h1])]
    rfl
theorem dig_toNat {n : Nat} (h : n < 10) : (UInt8.ofNat (48 + n)).toNat = 48 + n := by
  simp; omega
theorem dd_mem {n : Nat} (h : n < 100) (b : UInt8) (hb : b ∈ Lib.decDigits n) : 48 ≤ b.toNat ∧ b.toNat ≤ 57 := by
  by_cases h1 : n < 10
  · rw [dd_one h1] at hb
    rw [List.mem_singleton.1 hb, dig_toNat h1]; omega
  · rw [dd_two h1, dd_one (by omega)] at hb
    rcases List.mem_append.1 hb with hb | hb
    · rw [List.mem_singleton.1 hb, dig_toNat (by omega)]; omega
    · rw [List.mem_singleton.1 hb, dig_toNat (by omega)]; omega
theorem not_in {c b : UInt8} {n : Nat} (h : n < 100) (hc : ¬ (48 ≤ c.toNat ∧ c.toNat ≤ 57)) : c ∉ Lib.decDigits n := fun hb => hc (dd_mem h c hb)
def okR (x : S43) : Prop := 2 ≤ x.f0 ∧ x.f0 ≤ 60 ∧ 0 ≤ x.f1 ∧ x.f1 < x.f0
theorem one_no (c : UInt8) (h1 : ¬ (48 ≤ c.toNat ∧ c.toNat ≤ 57)) (h2 : c ≠ 58) {x : S43} (hx : okR x) : c ∉ oneL x := by
  obtain ⟨a1, a2, a3, a4⟩ := hx
  unfold oneL
  intro h
  rcases List.mem_append.1 h with h | h
  · exact not_in (b := c) (by omega) h1 h
  · rcases List.mem_cons.1 h with h | h
    · exact h2 h
    · exact not_in (b := c) (by omega) h1 h
theorem split_tail : ∀ (L : List S43) (w : List UInt8), 44 ∉ w → (∀ x ∈ L, okR x) → Lib.splitK [44] 0 L.length (w ++ tailL L) = w :: L.map oneL
  | [], w, _, _ => by simp [Lib.splitK, tailL]
  | x :: L, w, hw, h => by
    have hx := one_no 44 (by decide) (by decide) (h x (by simp))
    have ih := split_tail L (oneL x) hx (fun y hy => h y (by simp [hy]))
    have hi := idx_app 44 w (oneL x ++ tailL L) hw
    rw [List.length_cons, show tailL (x :: L) = 44 :: (oneL x ++ tailL L) from rfl, Lib.splitK, hi, if_neg (by first | (simp; done) | (simp; omega))]
    rw [show ((w.length : Int)).toNat = w.length from Int.toNat_natCast _, Nat.add_zero, List.take_left, show w.length + ([44] : List UInt8).length = (w ++ [44]).length from by simp, show w ++ 44 :: (oneL x ++ tailL L) = (w ++ [44]) ++ (oneL x ++ tailL L) from by simp, List.drop_left, ih]
    rfl
theorem count_tail : ∀ (L : List S43) (w : List UInt8), 44 ∉ w → (∀ x ∈ L, okR x) → (w ++ tailL L).count 44 = L.length
  | [], w, hw, _ => by simp [tailL, List.count_eq_zero.2 hw]
  | x :: L, w, hw, h => by
    have hx := one_no 44 (by decide) (by decide) (h x (by simp))
    have ih := count_tail L (oneL x) hx (fun y hy => h y (by simp [hy]))
    rw [show tailL (x :: L) = 44 :: (oneL x ++ tailL L) from rfl, List.count_append, List.count_cons_self, ih, List.count_eq_zero.2 hw, List.length_cons]
    omega
theorem split_text (s : ByteArray) (x : S43) (L : List S43) (hs : s.data.toList = textL (x :: L)) (h : ∀ y ∈ x :: L, okR y) : (Lib.splitB ⟨#[44]⟩ 0 (Lib.countB s ⟨#[44]⟩) s).map (·.data.toList) = (x :: L).map oneL := by
  have h1 := one_no 44 (by decide) (by decide) (h x (by simp))
  have hc : Lib.countB s ⟨#[44]⟩ = L.length := by
    show Lib.count s.data.toList [44] = L.length
    rw [Lib.count_one, hs]
    exact count_tail L (oneL x) h1 (fun y hy => h y (by simp [hy]))
  rw [Lib.splitB_data, hc, hs]
  exact split_tail L (oneL x) h1 (fun y hy => h y (by simp [hy]))
theorem cut_one {x : S43} (hx : okR x) : Lib.cut (oneL x) [58] = (Lib.decDigits x.f0.toNat, Lib.decDigits x.f1.toNat, true) := by
  obtain ⟨a1, a2, a3, a4⟩ := hx
  have hn : (58 : UInt8) ∉ Lib.decDigits x.f0.toNat := not_in (b := 58) (by omega) (by decide)
  have hi := idx_app 58 (Lib.decDigits x.f0.toNat) (Lib.decDigits x.f1.toNat) hn
  unfold Lib.cut oneL
  rw [hi, if_pos (by omega), Int.toNat_natCast, List.take_left, show (Lib.decDigits x.f0.toNat).length + ([58] : List UInt8).length = (Lib.decDigits x.f0.toNat ++ [58]).length from by simp, show Lib.decDigits x.f0.toNat ++ 58 :: Lib.decDigits x.f1.toNat = (Lib.decDigits x.f0.toNat ++ [58]) ++ Lib.decDigits x.f1.toNat from by simp, List.drop_left]
theorem atoi_one : ∀ a : Fin 10, Lib.atoiAll [UInt8.ofNat (48 + a.val)] = .ok (a.val : Int) := by decide
theorem atoi_two : ∀ a b : Fin 10, Lib.atoiAll [UInt8.ofNat (48 + a.val), UInt8.ofNat (48 + b.val)] = .ok ((10 * a.val + b.val : Nat) : Int) := by decide
theorem atoi_dd {n : Nat} (h : n < 100) : Lib.atoiAll (Lib.decDigits n) = .ok (n : Int) := by
  by_cases h1 : n < 10
  · rw [dd_one h1]; exact atoi_one ⟨n, h1⟩
  · rw [dd_two h1, dd_one (by omega)]
    have := atoi_two ⟨n / 10, by omega⟩ ⟨n % 10, by omega⟩
    rw [show 10 * (n / 10) + n % 10 = n from by omega] at this
    exact this
/-- The numbers of a word of the program's parse, if it has them. -/
def wordZ (w : List UInt8) : Option S43 :=
  match Lib.atoiAll (Lib.cut w [58]).1, Lib.atoiAll (Lib.cut w [58]).2.1 with
  | .ok a, .ok b => some ⟨a, b⟩
  | _, _ => none
def wordsZ : List (List UInt8) → List S43 → Option (List S43)
  | [], acc => some acc
  | w :: ws, acc => match wordZ w with
    | some x => wordsZ ws (acc ++ [x])
    | none => none
theorem wordZ_one {x : S43} (hx : okR x) : wordZ (oneL x) = some x := by
  unfold wordZ
  obtain ⟨a1, a2, a3, a4⟩ := hx
  rw [cut_one ⟨a1, a2, a3, a4⟩]
  simp only []
  rw [atoi_dd (by omega), atoi_dd (by omega)]
  simp only []
  rw [show ((x.f0.toNat : Nat) : Int) = x.f0 from by omega, show ((x.f1.toNat : Nat) : Int) = x.f1 from by omega]
theorem wordsZ_all : ∀ (L acc : List S43), (∀ x ∈ L, okR x) → wordsZ (L.map oneL) acc = some (acc ++ L)
  | [], acc, _ => by simp [wordsZ]
  | x :: L, acc, h => by
    rw [List.map_cons, wordsZ, wordZ_one (h x (by simp))]
    simp only []
    rw [wordsZ_all L (acc ++ [x]) (fun y hy => h y (by simp [hy]))]
    simp
theorem index_room1 (w : List UInt8) : (Lib.cut w [58]).1.length ≤ w.length ∧ (Lib.cut w [58]).2.1.length ≤ w.length := by
  unfold Lib.cut
  split
  · exact ⟨by rw [List.length_take]; omega, by rw [List.length_drop]; omega⟩
  · exact ⟨Nat.le_refl _, by simp⟩
def ansZ (s : List UInt8) (R : Option (List S43)) : List S43 × Bool :=
  match R with
  | some R => if goodB R = true ∧ textL R = s then (R, true) else ([], false)
  | none => ([], false)
theorem pj1_at (s : ByteArray) (R : List S43) (K : Nat) (hK : 200 < K) : impl_ParseRules.j1 K s R = some (ansZ s.data.toList (some R)) := by
  obtain ⟨K, rfl⟩ : ∃ k, K = k + 1 := ⟨K - 1, by omega⟩
  unfold ansZ
  simp only [impl_ParseRules.j1]
  rw [areRules_at]
  simp only [Option.bind_some]
  by_cases hg : goodB R = true
  · rw [if_pos hg, rulesText_at R hg K (by omega)]
    simp only [Option.bind_some]
    rw [tl_data, tl_data, bl_mk]
    by_cases he : textL R = s.data.toList
    · rw [if_pos he, if_pos ⟨hg, he⟩]
    · rw [if_neg he, if_neg (fun h => he h.2)]
  · rw [if_neg hg, if_neg (fun h => hg h.1)]
theorem drop_rdS (xs : List ByteArray) (i : Nat) (h : i < xs.length) : xs.drop i = rdOf ByteArray.empty xs (i : Int) :: xs.drop (i + 1) := by
  rw [List.drop_eq_getElem_cons h]
  simp [rdOf, List.getD, h]
theorem pl0_at (s : ByteArray) (W : List ByteArray) (hW : W.length ≤ 2000000) (hw : ∀ w ∈ W, w.size ≤ 2000000) : ∀ (d i : Nat) (acc : List S43), i + d = W.length → acc.length ≤ i → ∀ K, 300 + d < K →
    impl_ParseRules.l0 K s acc W W.length i = some (ansZ s.data.toList (wordsZ ((W.drop i).map (·.data.toList)) acc)) := by
  intro d
  induction d with
  | zero =>
    intro i acc hi ha K hK
    obtain ⟨K, rfl⟩ : ∃ k, K = k + 1 := ⟨K - 1, by omega⟩
    have hc : ¬ (i : Int) < (W.length : Int) := by omega
    simp only [impl_ParseRules.l0]
    rw [if_neg hc, List.drop_of_length_le (by omega), pj1_at s acc K (by omega)]
    rfl
  | succ d ih =>
    intro i acc hi ha K hK
    obtain ⟨K, rfl⟩ : ∃ k, K = k + 1 := ⟨K - 1, by omega⟩
    have hc : (i : Int) < (W.length : Int) := by omega
    have hi0 : (0 : Int) ≤ (i : Int) := by omega
    have hwm : rdOf ByteArray.empty W (i : Int) ∈ W := by
      have hlt : i < W.length := by omega
      simp [rdOf, List.getD, hlt]
    have hsz := hw _ hwm
    obtain ⟨w, hwe⟩ : ∃ w, w = rdOf ByteArray.empty W (i : Int) := ⟨_, rfl⟩
    rw [drop_rdS W i (by omega), ← hwe, List.map_cons, wordsZ]
    rw [← hwe] at hsz
    obtain ⟨r1, r2⟩ := index_room1 w.data.toList
    rw [bl_size] at hsz
    simp only [impl_ParseRules.l0]
    rw [if_pos hc, if_pos hi0, if_pos hc, ← hwe]
    unfold strings_Cut.f
    rw [show (ByteArray.mk #[58]).data.toList = [58] from rfl, if_pos (by rw [bl_size]; omega)]
    simp only [Option.bind_some]
    have m1 : (ByteArray.mk (Lib.cut w.data.toList [58]).1.toArray) = mkB (Lib.cut w.data.toList [58]).1 := rfl
    have m2 : (ByteArray.mk (Lib.cut w.data.toList [58]).2.1.toArray) = mkB (Lib.cut w.data.toList [58]).2.1 := rfl
    rw [m1, m2]
    unfold strconv_Atoi.f wordZ
    rw [mk_size, mk_size, bl_mk, bl_mk, if_pos (by omega), if_pos (by omega)]
    have hacc : acc.length < 8796093022208 := by omega
    have hw1 : wrap64 ((i : Int) + 1) = ((i + 1 : Nat) : Int) := by rw [w64 (by omega) (by omega)]; omega
    cases h1 : Lib.atoiAll (Lib.cut w.data.toList [58]).1 with
    | ok a =>
      simp only [Option.bind_some]
      cases h2 : Lib.atoiAll (Lib.cut w.data.toList [58]).2.1 with
      | ok b =>
        simp only [Option.bind_some]
        rw [if_pos (by rfl), if_pos (by rfl), if_pos hacc, hw1]
        exact ih (i + 1) (acc ++ [⟨a, b⟩]) (by omega) (by rw [List.length_append, List.length_singleton]; omega) K (by omega)
      | _ =>
        simp only [Option.bind_some]
        rw [if_pos (by rfl), if_neg (by simp)]
        rfl
    | _ =>
      cases h2 : Lib.atoiAll (Lib.cut w.data.toList [58]).2.1 <;>
      · simp only [Option.bind_some]
        rw [if_neg (by simp)]
        rfl
theorem splitB_sizes (sep : ByteArray) (save : Nat) (hs : save = 0) : ∀ (k : Nat) (s w : ByteArray), w ∈ Lib.splitB sep save k s → w.size ≤ s.size
  | 0, s, w, h => by
    rw [Lib.splitB_zero] at h
    rw [List.mem_singleton.1 h]
    exact Nat.le_refl _
  | k + 1, s, w, h => by
    unfold Lib.splitB at h
    split at h
    · rw [List.mem_singleton.1 h]
      exact Nat.le_refl _
    · rcases List.mem_cons.1 h with rfl | h
      · rw [bl_size, bl_size, Lib.extract_from_zero, List.length_take]; omega
      · have := splitB_sizes sep save hs k _ w h
        rw [bl_size (s.extract _ _), Lib.extract_to_end, List.length_drop] at this
        rw [bl_size s]
        omega
/-- What the program's parse answers. -/
def implZ (s : ByteArray) : List S43 × Bool :=
  if s.data.toList = [45] then ([], true) else ansZ s.data.toList (wordsZ ((Lib.splitB ⟨#[44]⟩ 0 (Lib.countB s ⟨#[44]⟩) s).map (·.data.toList)) [])
theorem implZ_at (s : ByteArray) (hs : s.size ≤ 1048576) (K : Nat) (hK : 2000000 < K) : impl_ParseRules.f K s = some (implZ s) := by
  unfold impl_ParseRules.f implZ
  simp only [Option.bind_some]
  rw [tl_data]
  by_cases h : s.data.toList = [45]
  · rw [if_pos h, if_pos h, pj1_at s [] K (by omega), h]
    rfl
  · have hc := Lib.countB_le ⟨#[44]⟩ (by decide) _ s (Nat.le_refl _)
    have hl := Lib.splitB_length_le ⟨#[44]⟩ 0 (Lib.countB s ⟨#[44]⟩) s
    rw [if_neg h, if_neg h]
    unfold strings_Split.f
    rw [if_pos (by omega), if_pos (by decide)]
    simp only [Option.bind_some]
    have hp := pl0_at s (Lib.splitB ⟨#[44]⟩ 0 (Lib.countB s ⟨#[44]⟩) s) (by omega) (fun w hw => by have := splitB_sizes ⟨#[44]⟩ 0 rfl _ s w hw; omega) _ 0 [] (Nat.zero_add _) (by simp) K (by omega)
    rw [List.drop_zero] at hp
    exact hp
theorem good_ok {R : List S43} (hg : goodB R = true) : ∀ x ∈ R, okR x := fun x hx => good_mem hg x hx
theorem implZ_yes (s : ByteArray) (R : List S43) (hg : goodB R = true) (h : textL R = s.data.toList) : implZ s = (R, true) := by
  unfold implZ
  cases R with
  | nil => exact if_pos h.symm
  | cons x R =>
    have hok := good_ok hg
    have hl := one_len (hok x (by simp))
    rw [if_neg (by
      intro e
      rw [← h] at e
      have := congrArg List.length e
      rw [show textL (x :: R) = oneL x ++ tailL R from rfl, List.length_append, List.length_singleton] at this
      omega), split_text s x R h.symm hok, wordsZ_all _ _ hok, List.nil_append]
    unfold ansZ
    simp only []
    rw [if_pos ⟨hg, h⟩]
/-- The reference's parse: what it has, the number read, the number ahead of a colon. -/
def spZ : List UInt8 → List S43 → Int → Int → List S43
  | [], out, n, e => out ++ [⟨e, n⟩]
  | b :: bs, out, n, e => if b.toNat = 44 then spZ bs (out ++ [⟨e, n⟩]) 0 0 else if b.toNat = 58 then spZ bs out 0 n else if 48 ≤ b.toNat ∧ b.toNat ≤ 57 then spZ bs out (if 1000 < 10 * n + ((b.toNat : Int) - 48) then 1000 else 10 * n + ((b.toNat : Int) - 48)) e else spZ bs out n e
theorem spZ_digit (b : UInt8) (h : 48 ≤ b.toNat ∧ b.toNat ≤ 57) (bs : List UInt8) (out : List S43) (n e : Int) (hn : 10 * n + ((b.toNat : Int) - 48) ≤ 1000) : spZ (b :: bs) out n e = spZ bs out (10 * n + ((b.toNat : Int) - 48)) e := by
  rw [spZ, if_neg (by omega), if_neg (by omega), if_pos h, if_neg (by omega)]
theorem spZ_dd {k : Nat} (h : k < 100) (T : List UInt8) (out : List S43) (e : Int) : spZ (Lib.decDigits k ++ T) out 0 e = spZ T out k e := by
  by_cases h1 : k < 10
  · rw [dd_one h1, List.singleton_append, spZ_digit _ (by rw [dig_toNat h1]; omega) _ _ _ _ (by rw [dig_toNat h1]; omega), dig_toNat h1]
    congr 1
    omega
  · have d1 : k / 10 < 10 := by omega
    have d2 : k % 10 < 10 := by omega
    rw [dd_two h1, dd_one d1, List.append_assoc, List.singleton_append, List.singleton_append, spZ_digit _ (by rw [dig_toNat d1]; omega) _ _ _ _ (by rw [dig_toNat d1]; omega), dig_toNat d1, spZ_digit _ (by rw [dig_toNat d2]; omega) _ _ _ _ (by rw [dig_toNat d2]; omega), dig_toNat d2]
    congr 1
    omega
theorem spZ_one {x : S43} (hx : okR x) (T : List UInt8) (out : List S43) : spZ (oneL x ++ T) out 0 0 = spZ T out x.f1 x.f0 := by
  obtain ⟨a1, a2, a3, a4⟩ := hx
  unfold oneL
  rw [List.append_assoc, spZ_dd (by omega), List.cons_append, spZ, if_neg (by decide), if_pos (by decide), spZ_dd (by omega)]
  congr 1 <;> omega
theorem spZ_tail : ∀ (L : List S43) (x : S43) (out : List S43), okR x → (∀ y ∈ L, okR y) → spZ (oneL x ++ tailL L) out 0 0 = out ++ x :: L
  | [], x, out, hx, _ => by
    rw [spZ_one hx]
    rfl
  | y :: L, x, out, hx, h => by
    rw [spZ_one hx, show tailL (y :: L) = 44 :: (oneL y ++ tailL L) from rfl, spZ, if_pos (by decide), spZ_tail L y _ (h y (by simp)) (fun z hz => h z (by simp [hz]))]
    simp
def specZ (s : ByteArray) : List S43 × Bool :=
  if s.data.toList = [45] then ([], true) else if 72 < s.size then ([], false) else ansZ s.data.toList (some (spZ s.data.toList [] 0 0))
theorem text_len {R : List S43} (hg : goodB R = true) : (textL R).length ≤ 72 := by
  have hl := good_len hg
  have hok := good_ok hg
  cases R with
  | nil => decide
  | cons x R =>
    have h1 := one_len (hok x (by simp))
    have h2 := tail_len R (fun y hy => hok y (by simp [hy]))
    rw [show textL (x :: R) = oneL x ++ tailL R from rfl, List.length_append]
    rw [List.length_cons] at hl
    omega
theorem specZ_yes (s : ByteArray) (R : List S43) (hg : goodB R = true) (h : textL R = s.data.toList) : specZ s = (R, true) := by
  unfold specZ
  have htl := text_len hg
  rw [h, ← bl_size] at htl
  cases R with
  | nil => exact if_pos h.symm
  | cons x R =>
    have hok := good_ok hg
    have hl := one_len (hok x (by simp))
    rw [if_neg (by
      intro e
      rw [← h] at e
      have := congrArg List.length e
      rw [show textL (x :: R) = oneL x ++ tailL R from rfl, List.length_append, List.length_singleton] at this
      omega), if_neg (by omega), ← h, show textL (x :: R) = oneL x ++ tailL R from rfl, spZ_tail R x [] (hok x (by simp)) (fun y hy => hok y (by simp [hy])), List.nil_append]
    unfold ansZ
    simp only []
    rw [if_pos ⟨hg, rfl⟩]
theorem ansZ_yes {s : List UInt8} {R : Option (List S43)} {Q : List S43} (h : ansZ s R = (Q, true)) : goodB Q = true ∧ textL Q = s := by
  unfold ansZ at h
  split at h
  · split at h
    · rename_i hh
      simp only [Prod.mk.injEq] at h
      rw [← h.1]
      exact hh
    · simp at h
  · simp at h
theorem ansZ_no {s : List UInt8} {R : Option (List S43)} {Q : List S43} (h : ansZ s R = (Q, false)) : Q = [] := by
  unfold ansZ at h
  split at h
  · split at h
    · simp at h
    · simp only [Prod.mk.injEq] at h
      exact h.1.symm
  · simp only [Prod.mk.injEq] at h
    exact h.1.symm
theorem implZ_inv (s : ByteArray) (Q : List S43) (h : implZ s = (Q, true)) : goodB Q = true ∧ textL Q = s.data.toList := by
  unfold implZ at h
  split at h
  · rename_i hs
    simp only [Prod.mk.injEq] at h
    rw [← h.1, hs]
    exact ⟨by decide, rfl⟩
  · exact ansZ_yes h
theorem specZ_inv (s : ByteArray) (Q : List S43) (h : specZ s = (Q, true)) : goodB Q = true ∧ textL Q = s.data.toList := by
  unfold specZ at h
  split at h
  · rename_i hs
    simp only [Prod.mk.injEq] at h
    rw [← h.1, hs]
    exact ⟨by decide, rfl⟩
  · split at h
    · simp at h
    · exact ansZ_yes h
theorem parse_same (s : ByteArray) : implZ s = specZ s := by
  cases hi : implZ s with
  | mk Q b =>
    cases b with
    | true =>
      obtain ⟨h1, h2⟩ := implZ_inv s Q hi
      rw [specZ_yes s Q h1 h2]
    | false =>
      have hq : Q = [] := by
        unfold implZ at hi
        split at hi
        · simp at hi
        · exact ansZ_no hi
      cases hs : specZ s with
      | mk Q2 b2 =>
        cases b2 with
        | true =>
          obtain ⟨h1, h2⟩ := specZ_inv s Q2 hs
          rw [implZ_yes s Q2 h1 h2] at hi
          simp at hi
        | false =>
          have hq2 : Q2 = [] := by
            unfold specZ at hs
            split at hs
            · simp at hs
            · split at hs
              · simp only [Prod.mk.injEq] at hs
                exact hs.1.symm
              · exact ansZ_no hs
          rw [hq, hq2]
theorem bt_at_ (s : ByteArray) (i : Nat) (h : i < s.data.toList.length) : bt s (i : Int) = ((s.data.toList[i]).toNat : Int) := by
  have h2 : i < s.size := by rw [bl_size]; exact h
  unfold bt
  rw [dif_pos (by simpa using h2)]
  rfl
theorem least_at (m : Int) : spec_l1Least.f 1000 m = some (if 1000 < m then 1000 else m) := by
  unfold spec_l1Least.f
  split <;> rfl
theorem sp_l0 (s : ByteArray) (hs : s.size ≤ 72) : ∀ (d i : Nat) (out : List S43) (n e : Int), i + d = s.size → out.length ≤ i → 0 ≤ n → n ≤ 1000 → 0 ≤ e → e ≤ 1000 → ∀ K, 400 + 2 * d < K →
    spec_siParse.l0 K s out n e i = some (spZ (s.data.toList.drop i) out n e, decide (goodB (spZ (s.data.toList.drop i) out n e) = true ∧ textL (spZ (s.data.toList.drop i) out n e) = s.data.toList)) := by
  intro d
  induction d with
  | zero =>
    intro i out n e hi ho h0 h1 h2 h3 K hK
    obtain ⟨K, rfl⟩ : ∃ k, K = k + 1 := ⟨K - 1, by omega⟩
    obtain ⟨K, rfl⟩ : ∃ k, K = k + 1 := ⟨K - 1, by omega⟩
    obtain ⟨K, rfl⟩ : ∃ k, K = k + 1 := ⟨K - 1, by omega⟩
    have c1 : (i : Int) ≤ (s.size : Int) := by omega
    have c2 : (i : Int) = (s.size : Int) := by omega
    have c3 : ¬ (wrap64 ((i : Int) + 1) ≤ (s.size : Int)) := by rw [w64 (by omega) (by omega)]; omega
    have c4 : out.length < 8796093022208 := by omega
    have hd : s.data.toList.drop i = [] := List.drop_of_length_le (by rw [← bl_size]; omega)
    rw [hd]
    simp only [spec_siParse.l0, spec_siParse.j1]
    rw [if_pos c1, if_pos c2, if_pos trivial, if_pos c4, if_neg c3, siGood_at _ K (by omega)]
    simp only [Option.bind_some]
    show _ = some (out ++ [⟨e, n⟩], decide (goodB (out ++ [⟨e, n⟩]) = true ∧ textL (out ++ [⟨e, n⟩]) = s.data.toList))
    by_cases hg : goodB (out ++ [⟨e, n⟩]) = true
    · rw [if_pos hg, siText_at _ hg K (by omega)]
      simp only [Option.bind_some]
      rw [tl_data, tl_data, bl_mk]
      by_cases ht : textL (out ++ [⟨e, n⟩]) = s.data.toList
      · rw [ht]; simp [hg]
      · simp [hg, ht]
    · rw [if_neg hg]; simp [hg]
  | succ d ih =>
    intro i out n e hi ho h0 h1 h2 h3 K hK
    obtain ⟨K, rfl⟩ : ∃ k, K = k + 1 := ⟨K - 1, by omega⟩
    obtain ⟨K, rfl⟩ : ∃ k, K = k + 1 := ⟨K - 1, by omega⟩
    have c1 : (i : Int) ≤ (s.size : Int) := by omega
    have c2 : ¬ (i : Int) = (s.size : Int) := by omega
    have c0 : (0 : Int) ≤ (i : Int) := by omega
    have c5 : (i : Int) < (s.size : Int) := by omega
    have c4 : out.length < 8796093022208 := by omega
    have hlt : i < s.data.toList.length := by rw [← bl_size]; omega
    have hw : wrap64 ((i : Int) + 1) = ((i + 1 : Nat) : Int) := by rw [w64 (by omega) (by omega)]; omega
    have hb := bt_at_ s i hlt
    have hd := List.drop_eq_getElem_cons hlt
    obtain ⟨b, hbe⟩ : ∃ b, b = s.data.toList[i] := ⟨_, rfl⟩
    rw [← hbe] at hb hd
    have hbl : b.toNat < 256 := b.toNat_lt
    rw [hd]
    simp only [spec_siParse.l0, spec_siParse.j1]
    rw [if_pos c1, if_neg c2, if_pos c0, if_pos c5, if_pos c0, if_pos c5, hb, hw]
    by_cases b44 : b.toNat = 44
    · have e1 : spZ (b :: s.data.toList.drop (i + 1)) out n e = spZ (s.data.toList.drop (i + 1)) (out ++ [⟨e, n⟩]) 0 0 := by rw [spZ, if_pos b44]
      rw [if_pos (by rw [b44]; rfl), if_pos c4, e1]
      exact ih (i + 1) (out ++ [⟨e, n⟩]) 0 0 (by omega) (by rw [List.length_append, List.length_singleton]; omega) (by omega) (by omega) (by omega) (by omega) K (by omega)
    · have n44 : ¬ (((b.toNat : Int) == 44) = true) := by simp; omega
      rw [if_neg n44]
      by_cases b58 : b.toNat = 58
      · have e1 : spZ (b :: s.data.toList.drop (i + 1)) out n e = spZ (s.data.toList.drop (i + 1)) out 0 n := by rw [spZ, if_neg b44, if_pos b58]
        rw [if_pos (by omega), e1]
        exact ih (i + 1) out 0 n (by omega) (by omega) (by omega) (by omega) (by omega) (by omega) K (by omega)
      · rw [if_neg (by omega)]
        by_cases bd : 48 ≤ b.toNat ∧ b.toNat ≤ 57
        · have e1 : spZ (b :: s.data.toList.drop (i + 1)) out n e = spZ (s.data.toList.drop (i + 1)) out (if 1000 < 10 * n + ((b.toNat : Int) - 48) then 1000 else 10 * n + ((b.toNat : Int) - 48)) e := by rw [spZ, if_neg b44, if_neg b58, if_pos bd]
          have e2 : ((b.toNat : Int) - 48) % 256 = (b.toNat : Int) - 48 := by omega
          rw [if_pos (by omega), if_pos (by omega), e2, w64 (x := 10 * n) (by omega) (by omega), w64 (by omega) (by omega), least_at, e1]
          simp only [Option.bind_some]
          exact ih (i + 1) out _ e (by omega) (by omega) (by split <;> omega) (by split <;> omega) (by omega) (by omega) K (by omega)
        · have e1 : spZ (b :: s.data.toList.drop (i + 1)) out n e = spZ (s.data.toList.drop (i + 1)) out n e := by rw [spZ, if_neg b44, if_neg b58, if_neg bd]
          have hr := ih (i + 1) out n e (by omega) (by omega) h0 h1 h2 h3 K (by omega)
          rw [e1]
          by_cases b48 : (b.toNat : Int) ≥ 48
          · rw [if_pos b48, if_neg (by omega)]
            exact hr
          · rw [if_neg b48]
            exact hr
theorem specZ_at (s : ByteArray) (K : Nat) (hK : 1000 < K) : spec_ParseRules.f K s = some (specZ s) := by
  unfold spec_ParseRules.f spec_siParse.f specZ
  rw [tl_data]
  by_cases h : s.data.toList = [45]
  · rw [if_pos h, if_pos h]; rfl
  · rw [if_neg h, if_neg h]
    by_cases h72 : 72 < s.size
    · rw [if_pos (by omega), if_pos h72]; rfl
    · have hp := sp_l0 s (by omega) s.size 0 [] 0 0 (Nat.zero_add _) (by simp) (by omega) (by omega) (by omega) (by omega) K (by omega)
      have hp' : spec_siParse.l0 K s [] 0 0 0 = _ := hp
      rw [if_neg (by omega), if_neg h72, hp', List.drop_zero]
      simp only [Option.bind_some]
      unfold ansZ
      simp only []
      by_cases hh : goodB (spZ s.data.toList [] 0 0) = true ∧ textL (spZ s.data.toList [] 0 0) = s.data.toList
      · rw [decide_eq_true hh, if_pos rfl, if_pos hh]
      · rw [decide_eq_false hh, if_neg (by simp), if_neg hh]
theorem parse_at (s : ByteArray) (hs : s.size ≤ 1048576) (K : Nat) (hK : 2000000 < K) : spec_ParseRules.f K s = some (specZ s) ∧ impl_ParseRules.f K s = some (specZ s) :=
  ⟨specZ_at s K (by omega), by rw [implZ_at s hs K hK, parse_same]⟩
theorem rdT_set (xs : List S43) (i : Nat) (v : S43) (h : i < xs.length) : rd_T43 (xs.set i v) (i : Int) = v := by
  simp [rd_T43, List.getD, h]
/-- Marked rules. -/
def upr : Nat → List S43
  | 0 => []
  | n + 1 => upr n ++ [⟨1 + 2 * n, 1 + 2 * n + 1⟩]
theorem upr_len : ∀ n, (upr n).length = n
  | 0 => rfl
  | n + 1 => by simp [upr, upr_len n]
theorem upr_get : ∀ (n i : Nat), i < n → (upr n)[i]? = some ⟨1 + 2 * i, 1 + 2 * i + 1⟩
  | n + 1, i, h => by
    unfold upr
    by_cases e : i = n
    · subst e
      rw [List.getElem?_append_right (by rw [upr_len]; exact Nat.le_refl _), upr_len]
      simp
    · rw [List.getElem?_append_left (by rw [upr_len]; omega)]
      exact upr_get n i (by omega)
theorem markRuleS_l0 : ∀ (d i : Nat) (xs : List S43), i + d = xs.length → xs.length ≤ 100000000 → xs.take i = upr i → ∀ K, d < K → laws_markRuleS.l0 K xs (1 + 2 * i) i = some (1 + 2 * (xs.length : Int), upr xs.length) := by
  intro d
  induction d with
  | zero =>
    intro i xs hi hx ht K hK
    obtain ⟨K, rfl⟩ : ∃ k, K = k + 1 := ⟨K - 1, by omega⟩
    simp only [laws_markRuleS.l0]
    rw [if_neg (by omega)]
    obtain rfl : i = xs.length := by omega
    rw [List.take_length] at ht
    rw [← ht]
  | succ d ih =>
    intro i xs hi hx ht K hK
    obtain ⟨K, rfl⟩ : ∃ k, K = k + 1 := ⟨K - 1, by omega⟩
    simp only [laws_markRuleS.l0, Option.bind_some, Int.toNat_natCast]
    rw [if_pos (by omega), if_pos (by omega), w64 (x := (i : Int) + 1) (by omega) (by omega), w64 (x := 1 + 2 * (i : Int) + 1) (by omega) (by omega), w64 (x := 1 + 2 * (i : Int) + 1 + 1) (by omega) (by omega), rdT_set xs i _ (by omega), List.set_set]
    have h := ih (i + 1) (xs.set i ⟨1 + 2 * i, 1 + 2 * i + 1⟩) (by simp; omega) (by simpa using hx) (by rw [take_set_succ _ _ _ (by omega), ht]; rfl) K (by omega)
    simp only [List.length_set] at h
    rw [show (1 : Int) + 2 * (i : Int) + 1 + 1 = 1 + 2 * ((i + 1 : Nat) : Int) from by omega, show (i : Int) + 1 = ((i + 1 : Nat) : Int) from by omega]
    exact h
theorem markRuleS_at (xs : List S43) (hx : xs.length ≤ 100000000) (K : Nat) (hK : 100000000 < K) : laws_markRuleS.f K xs 1 = some (1 + 2 * (xs.length : Int), upr xs.length) :=
  markRuleS_l0 xs.length 0 xs (by omega) hx rfl K (by omega)
theorem heldRuleS_l0 (n : Nat) (hn : n ≤ 100000000) : ∀ (d i : Nat), i + d = n → ∀ K, d < K → laws_heldRuleS.l0 K (upr n) (1 + 2 * i) i = some (1 + 2 * (n : Int)) := by
  intro d
  induction d with
  | zero =>
    intro i hi K hK
    obtain ⟨K, rfl⟩ : ∃ k, K = k + 1 := ⟨K - 1, by omega⟩
    simp only [laws_heldRuleS.l0, upr_len]
    rw [if_neg (by omega)]
    obtain rfl : i = n := by omega
    rfl
  | succ d ih =>
    intro i hi K hK
    obtain ⟨K, rfl⟩ : ∃ k, K = k + 1 := ⟨K - 1, by omega⟩
    simp only [laws_heldRuleS.l0, upr_len]
    have hr : rd_T43 (upr n) (i : Int) = ⟨1 + 2 * i, 1 + 2 * i + 1⟩ := by
      unfold rd_T43
      rw [List.getD_eq_getElem?_getD, Int.toNat_natCast, upr_get n i (by omega)]
      rfl
    rw [if_pos (by omega), if_pos (by omega), hr]
    simp only
    rw [if_pos trivial, w64 (x := 1 + 2 * (i : Int) + 1) (by omega) (by omega), if_pos rfl, w64 (x := 1 + 2 * (i : Int) + 1 + 1) (by omega) (by omega), w64 (x := (i : Int) + 1) (by omega) (by omega)]
    have h := ih (i + 1) (by omega) K (by omega)
    rw [show (1 : Int) + 2 * (i : Int) + 1 + 1 = 1 + 2 * ((i + 1 : Nat) : Int) from by omega, show (i : Int) + 1 = ((i + 1 : Nat) : Int) from by omega]
    exact h
theorem heldRuleS_at (n : Nat) (hn : n ≤ 100000000) (K : Nat) (hK : 100000000 < K) : laws_heldRuleS.f K (upr n) 1 = some (1 + 2 * (n : Int)) :=
  heldRuleS_l0 n hn n 0 (by omega) K (by omega)
theorem spec_len (s : ByteArray) : (specZ s).1.length ≤ 100 := by
  cases h : specZ s with
  | mk Q b =>
    cases b with
    | true =>
      have := good_len (specZ_inv s Q h).1
      show Q.length ≤ 100
      omega
    | false =>
      unfold specZ at h
      split at h
      · simp at h
      · split at h
        · simp only [Prod.mk.injEq] at h; rw [← h.1]; simp
        · rw [ansZ_no h]; simp

theorem done : laws_FnExactParseRules.Pure := by
  intro s hs
  refine ⟨1000000000, ?_⟩
  unfold laws_FnExactParseRules.f
  by_cases hl : (s.size : Int) > 1048576
  · rw [if_pos hl]
  · obtain ⟨g, ok, hg⟩ : ∃ g ok, specZ s = (g, ok) := ⟨_, _, rfl⟩
    have hlen := spec_len s
    have hp := parse_at s (by omega)
    rw [hg] at hlen hp
    have hlen2 : g.length ≤ 100 := hlen
    have n1 : ¬ ((1 : Int) + 2 * (g.length : Int) < 0) := by omega
    rw [if_neg hl, (hp 1000000000 (by omega)).1, (hp 1000000000 (by omega)).2]
    simp only [Option.bind_some]
    rw [eqRuleS_at g (by omega) _ (by omega)]
    simp only [Option.bind_some, bne_self_eq_false]
    rw [if_pos trivial]
    show laws_FnExactParseRules.j0 (999999999 + 1) s g ok g false = some true
    simp only [laws_FnExactParseRules.j0]
    rw [if_neg (by simp), markRuleS_at g (by omega) _ (by omega)]
    simp only [Option.bind_some]
    rw [heldRuleS_at g.length (by omega) _ (by omega)]
    simp only [Option.bind_some]
    rw [if_neg n1, if_pos trivial, (hp 999999999 (by omega)).2]
    simp only [Option.bind_some]
    rw [eqRuleS_at g (by omega) _ (by omega)]
    simp only [Option.bind_some, bne_self_eq_false]
    rw [if_pos trivial]
    show laws_FnExactParseRules.j1 (999999998 + 1) (upr g.length) (1 + 2 * (g.length : Int)) false = some true
    simp only [laws_FnExactParseRules.j1]
    rw [if_neg (by simp), heldRuleS_at g.length (by omega) _ (by omega)]
    simp only [Option.bind_some]
    rw [if_neg n1, if_pos trivial]
end OwnFnExactParseRules
theorem FnExactParseRules : laws_FnExactParseRules.Pure := OwnFnExactParseRules.done
end Go.Proofs.YtnfbdaffbpaagaaDoor.Pure
