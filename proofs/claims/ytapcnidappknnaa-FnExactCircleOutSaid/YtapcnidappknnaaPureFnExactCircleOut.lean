/- CircleOut of the program and of the reference answer alike at all numbers, and hand back memory of their own: no condition. -/
import Derived.Test.YtapcnidappknnaaPFnExactCircleOutx3
namespace Go.Proofs.Ytapcnidappknnaa.Pure
open Go.RowKit Go.Proofs.Ytapcnidappknnaa.PFnExactCircleOut Go.Proofs.YtapcnidappknnaaW.PrintWords Go.Proofs.YtapcnidappknnaaW.PrintLast Go.Proofs.YtapcnidappknnaaW.PrintMore
set_option linter.unusedVariables false
set_option linter.unusedSimpArgs false
namespace OwnFnExactCircleOut
theorem w64 {x : Int} (h0 : -9223372036854775808 ≤ x) (h1 : x ≤ 9223372036854775807) : wrap64 x = x := by unfold wrap64; omega
theorem l1In_at (n a b : Int) : spec_l1In.f n a b = some (decide (a ≤ n ∧ n ≤ b)) := by
  unfold spec_l1In.f
  by_cases h : a ≤ n
  · rw [if_pos (by omega)]; simp [h]
  · rw [if_neg (by omega)]; simp [h]
theorem drop_rd (xs : List Int) (i : Nat) (h : i < xs.length) : xs.drop i = rd xs (i : Int) :: xs.drop (i + 1) := by
  rw [List.drop_eq_getElem_cons h]
  simp [rd, List.getD, h]
theorem eqIntS_l0 (xs : List Int) (hx : xs.length ≤ 1000000000000) : ∀ (d i : Nat), i + d = xs.length → ∀ K, d < K → laws_eqIntS.l0 K xs xs i = some true := by
  intro d
  induction d with
  | zero =>
    intro i hi K hK
    obtain ⟨K, rfl⟩ : ∃ k, K = k + 1 := ⟨K - 1, by omega⟩
    simp only [laws_eqIntS.l0]
    rw [if_neg (by omega)]
  | succ d ih =>
    intro i hi K hK
    obtain ⟨K, rfl⟩ : ∃ k, K = k + 1 := ⟨K - 1, by omega⟩
    have hlt : (i : Int) < (xs.length : Int) := by omega
    simp only [laws_eqIntS.l0]
    rw [if_pos hlt, if_pos (by omega), if_pos hlt, if_pos trivial, w64 (by omega) (by omega)]
    exact ih (i + 1) (by omega) K (by omega)
theorem eqIntS_at (xs : List Int) (hx : xs.length ≤ 100000000) (K : Nat) (hK : 100000000 < K) : laws_eqIntS.f K xs xs = some true := by
  unfold laws_eqIntS.f
  rw [if_pos rfl]
  exact eqIntS_l0 xs (by omega) xs.length 0 (by omega) K (by omega)
theorem take_set_succ {α : Type} (xs : List α) (i : Nat) (v : α) (h : i < xs.length) : (xs.set i v).take (i + 1) = xs.take i ++ [v] := by
  rw [List.take_succ_eq_append_getElem (by simpa using h)]
  simp [List.take_set_of_le]
/-- So many numbers in a row, from v on. -/
def upw : Nat → Int → List Int
  | 0, _ => []
  | n + 1, v => upw n v ++ [v + n]
theorem upw_len : ∀ n v, (upw n v).length = n
  | 0, _ => rfl
  | n + 1, v => by simp [upw, upw_len n v]
theorem upw_get : ∀ (n : Nat) (v : Int) (i : Nat), i < n → (upw n v)[i]? = some (v + i)
  | n + 1, v, i, h => by
    unfold upw
    by_cases e : i = n
    · subst e
      rw [List.getElem?_append_right (by rw [upw_len]; exact Nat.le_refl _), upw_len]
      simp
    · rw [List.getElem?_append_left (by rw [upw_len]; omega)]
      exact upw_get n v i (by omega)
theorem markIntS_l0 : ∀ (d i : Nat) (xs : List Int), i + d = xs.length → xs.length ≤ 100000000 → xs.take i = upw i 1 → ∀ K, d < K → laws_markIntS.l0 K xs (1 + i) i = some (1 + (xs.length : Int), upw xs.length 1) := by
  intro d
  induction d with
  | zero =>
    intro i xs hi hx ht K hK
    obtain ⟨K, rfl⟩ : ∃ k, K = k + 1 := ⟨K - 1, by omega⟩
    simp only [laws_markIntS.l0]
    rw [if_neg (by omega)]
    obtain rfl : i = xs.length := by omega
    rw [List.take_length] at ht
    rw [← ht]
  | succ d ih =>
    intro i xs hi hx ht K hK
    obtain ⟨K, rfl⟩ : ∃ k, K = k + 1 := ⟨K - 1, by omega⟩
    simp only [laws_markIntS.l0]
    rw [if_pos (by omega), if_pos (by omega), w64 (by omega) (by omega), w64 (by omega) (by omega)]
    have h := ih (i + 1) (xs.set i (1 + i)) (by simp; omega) (by simpa using hx) (by rw [take_set_succ _ _ _ (by omega), ht]; rfl) K (by omega)
    simp only [List.length_set, Int.toNat_natCast] at h ⊢
    rw [show (1 : Int) + (i : Int) + 1 = 1 + ((i + 1 : Nat) : Int) from by omega, show (i : Int) + 1 = ((i + 1 : Nat) : Int) from by omega]
    exact h
theorem markIntS_at (xs : List Int) (hx : xs.length ≤ 100000000) (K : Nat) (hK : 100000000 < K) : laws_markIntS.f K xs 1 = some (1 + (xs.length : Int), upw xs.length 1) :=
  markIntS_l0 xs.length 0 xs (by omega) hx rfl K (by omega)
theorem heldIntS_l0 (n : Nat) (hn : n ≤ 100000000) : ∀ (d i : Nat), i + d = n → ∀ K, d < K → laws_heldIntS.l0 K (upw n 1) (1 + i) i = some (1 + (n : Int)) := by
  intro d
  induction d with
  | zero =>
    intro i hi K hK
    obtain ⟨K, rfl⟩ : ∃ k, K = k + 1 := ⟨K - 1, by omega⟩
    simp only [laws_heldIntS.l0, upw_len]
    rw [if_neg (by omega)]
    obtain rfl : i = n := by omega
    rfl
  | succ d ih =>
    intro i hi K hK
    obtain ⟨K, rfl⟩ : ∃ k, K = k + 1 := ⟨K - 1, by omega⟩
    simp only [laws_heldIntS.l0, upw_len]
    have hr : rd (upw n 1) (i : Int) = 1 + i := by
      unfold rd
      rw [List.getD_eq_getElem?_getD, Int.toNat_natCast, upw_get n 1 i (by omega)]
      rfl
    rw [if_pos (by omega), if_pos (by omega), if_pos hr, w64 (by omega) (by omega), w64 (by omega) (by omega)]
    have h := ih (i + 1) (by omega) K (by omega)
    rw [show (1 : Int) + (i : Int) + 1 = 1 + ((i + 1 : Nat) : Int) from by omega, show (i : Int) + 1 = ((i + 1 : Nat) : Int) from by omega]
    exact h
theorem heldIntS_at (n : Nat) (hn : n ≤ 100000000) (K : Nat) (hK : 100000000 < K) : laws_heldIntS.f K (upw n 1) 1 = some (1 + (n : Int)) :=
  heldIntS_l0 n hn n 0 (by omega) K (by omega)
/-- The numbers from n on up to hi by s, d at most. -/
def upn (hi s : Int) : Nat → Int → List Int
  | 0, _ => []
  | d + 1, n => if n ≤ hi then n :: upn hi s d (n + s) else []
theorem upn_len (hi s : Int) : ∀ (d : Nat) (n : Int), (upn hi s d n).length ≤ d
  | 0, _ => Nat.le_refl _
  | d + 1, n => by
    unfold upn
    have := upn_len hi s d (n + s)
    split
    · simp; omega
    · simp
theorem upn_mem (hi s : Int) (hs : 1 ≤ s) : ∀ (d : Nat) (n x : Int), x ∈ upn hi s d n → n ≤ x ∧ x ≤ hi
  | 0, n, x, h => by cases h
  | d + 1, n, x, h => by
    unfold upn at h
    split at h
    · rcases List.mem_cons.1 h with rfl | h
      · omega
      · have := upn_mem hi s hs d (n + s) x h
        omega
    · cases h
/-- The list of 0 to 400 numbers from a on. -/
def up (a s hi : Int) : List Int := upn hi s 1000 a
theorem up_len (a s hi : Int) : (up a s hi).length ≤ 1000 := upn_len hi s 1000 a
theorem upTo_l0 (hi s : Int) (hs : 1 ≤ s) (hs2 : s ≤ 2) (hh : hi ≤ 400) : ∀ (d : Nat) (n : Int) (acc : List Int), 0 ≤ n → hi + 1 - n ≤ d → acc.length + d ≤ 2000000 →
    ∀ K, d < K → impl_upTo.l0 K hi s acc n = some (acc ++ upn hi s d n) := by
  intro d
  induction d with
  | zero =>
    intro n acc h0 h1 h2 K hK
    obtain ⟨K, rfl⟩ : ∃ k, K = k + 1 := ⟨K - 1, by omega⟩
    have hc : ¬ n ≤ hi := by omega
    simp only [impl_upTo.l0]
    rw [if_neg hc]
    simp [upn]
  | succ d ih =>
    intro n acc h0 h1 h2 K hK
    obtain ⟨K, rfl⟩ : ∃ k, K = k + 1 := ⟨K - 1, by omega⟩
    simp only [impl_upTo.l0]
    unfold upn
    by_cases hc : n ≤ hi
    · have hl : acc.length < 17592186044416 := by omega
      have h := ih (n + s) (acc ++ [n]) (by omega) (by omega) (by simp; omega) K (by omega)
      rw [if_pos hc, if_pos hc, if_pos hl, w64 (x := n + s) (by omega) (by omega), h]
      simp
    · rw [if_neg hc, if_neg hc]
      simp
theorem upTo_at (a s hi : Int) (ha : 0 ≤ a) (hs : 1 ≤ s) (hs2 : s ≤ 2) (hh : hi ≤ 400) (K : Nat) (hK : 10000 < K) : impl_upTo.f K a hi s = some (up a s hi) := by
  have h := upTo_l0 hi s hs hs2 hh 1000 a [] ha (by omega) (by simp) K (by omega)
  unfold impl_upTo.f up
  rw [h]; rfl
theorem cnUp_l0 (hi s : Int) (hs : 1 ≤ s) (hs2 : s ≤ 2) (hh : hi ≤ 400) : ∀ (d : Nat) (n : Int) (acc : List Int), 0 ≤ n → hi + 1 - n ≤ d → acc.length + d ≤ 2000000 →
    ∀ K, d < K → spec_cnUp.l0 K s hi acc n = some (acc ++ upn hi s d n) := by
  intro d
  induction d with
  | zero =>
    intro n acc h0 h1 h2 K hK
    obtain ⟨K, rfl⟩ : ∃ k, K = k + 1 := ⟨K - 1, by omega⟩
    have hc : ¬ n ≤ hi := by omega
    simp only [spec_cnUp.l0]
    rw [if_neg hc]
    simp [upn]
  | succ d ih =>
    intro n acc h0 h1 h2 K hK
    obtain ⟨K, rfl⟩ : ∃ k, K = k + 1 := ⟨K - 1, by omega⟩
    simp only [spec_cnUp.l0]
    unfold upn
    by_cases hc : n ≤ hi
    · have hl : acc.length < 17592186044416 := by omega
      have h := ih (n + s) (acc ++ [n]) (by omega) (by omega) (by simp; omega) K (by omega)
      rw [if_pos hc, if_pos hc, if_pos hl, w64 (x := n + s) (by omega) (by omega), h]
      simp
    · rw [if_neg hc, if_neg hc]
      simp
theorem cnUp_at (a s hi : Int) (ha : 0 ≤ a) (hs : 1 ≤ s) (hs2 : s ≤ 2) (hh : hi ≤ 400) (K : Nat) (hK : 10000 < K) : spec_cnUp.f K a s hi = some (up a s hi) := by
  have h := cnUp_l0 hi s hs hs2 hh 1000 a [] ha (by omega) (by simp) K (by omega)
  unfold spec_cnUp.f up
  rw [h]; rfl
theorem erase_take (L : List Int) (i : Nat) : L.take i ++ L.drop (i + 1) = L.eraseIdx i := (List.eraseIdx_eq_take_drop_succ ..).symm
theorem circ_l0 (k : Int) (hk : 1 ≤ k) (hk2 : k ≤ 1000) : ∀ (d : Nat) (L out : List Int) (at_ : Int), L.length = d → d ≤ 5000 → out.length + d ≤ 10000 → 0 ≤ at_ → at_ ≤ 5000 →
    ∃ g : List Int, g.length ≤ 10000 ∧ ∀ K, d < K → spec_CircleOut.l0 K k L out at_ = some (g, true) ∧ impl_CircleOut.l0 K k L out at_ = some (g, true) := by
  intro d
  induction d with
  | zero =>
    intro L out at_ hL hd ho h0 h1
    refine ⟨out, by omega, fun K hK => ?_⟩
    obtain ⟨K, rfl⟩ : ∃ k, K = k + 1 := ⟨K - 1, by omega⟩
    have hc : ¬ ((L.length : Int) > 0) := by omega
    simp only [spec_CircleOut.l0, impl_CircleOut.l0]
    rw [if_neg hc, if_neg hc]
    exact ⟨rfl, rfl⟩
  | succ d ih =>
    intro L out at_ hL hd ho h0 h1
    have hc : (L.length : Int) > 0 := by omega
    have hz : ¬ ((L.length : Int) = 0) := by omega
    have hr0 : 0 ≤ Int.tmod (at_ + k - 1) (L.length : Int) := Int.tmod_nonneg _ (by omega)
    have hr1 : Int.tmod (at_ + k - 1) (L.length : Int) < (L.length : Int) := Int.tmod_lt_of_pos _ (by omega)
    obtain ⟨i, hi⟩ : ∃ i : Nat, Int.tmod (at_ + k - 1) (L.length : Int) = (i : Int) := ⟨(Int.tmod (at_ + k - 1) (L.length : Int)).toNat, by omega⟩
    rw [hi] at hr0 hr1
    have hle := List.length_eraseIdx_of_lt (show i < L.length by omega)
    obtain ⟨g, hg, hv⟩ := ih (L.eraseIdx i) (out ++ [rd L (i : Int)]) i (by omega) (by omega) (by rw [List.length_append, List.length_singleton]; omega) (by omega) (by omega)
    refine ⟨g, hg, fun K hK => ?_⟩
    obtain ⟨K, rfl⟩ : ∃ k, K = k + 1 := ⟨K - 1, by omega⟩
    have h := hv K (by omega)
    have hw1 : wrap64 (wrap64 (at_ + k) - 1) = at_ + k - 1 := by rw [w64 (x := at_ + k) (by omega) (by omega), w64 (by omega) (by omega)]
    have hL5 : L.length ≤ 5000 := by omega
    have ho5 : out.length ≤ 10000 := by omega
    clear ho hd hg hv ih h0 h1 hz hc hle
    have hc : (L.length : Int) > 0 := by omega
    have hz : ¬ ((L.length : Int) = 0) := by omega
    have p1 : (i : Int) ≤ (L.length : Int) := by omega
    have p2 : (0 : Int) ≤ ((i + 1 : Nat) : Int) := by omega
    have p3 : ((i + 1 : Nat) : Int) ≤ (L.length : Int) := by omega
    have hw2 : wrap64 ((i : Int) + 1) = (i : Int) + 1 := w64 (by omega) (by omega)
    have hq : (i : Int) + 1 = ((i + 1 : Nat) : Int) := by omega
    have big : 10000 < 17592186044416 := by decide
    have ho2 : out.length < 17592186044416 := Nat.lt_of_le_of_lt ho5 big
    have p4 : (L.take i).length < 17592186044416 := Nat.lt_of_le_of_lt (Nat.le_trans (List.length_take_le' i L) (Nat.le_trans hL5 (by decide))) big
    have p5 : (L.take i).length + (L.drop (i + 1)).length < 17592186044416 := Nat.lt_of_le_of_lt (Nat.add_le_add (Nat.le_trans (List.length_take_le' i L) hL5) (Nat.le_trans (by rw [List.length_drop]; exact Nat.sub_le _ _) hL5)) big
    simp only [spec_CircleOut.l0, impl_CircleOut.l0, spec_l1Own.f, slices_Delete_int_int.f]
    rw [if_pos hc, if_pos hc, if_neg hz, if_neg hz, hw1, hi, if_pos hr0, if_pos hr0, if_pos hr1, if_pos hr1, if_pos ho2, if_pos ho2, hw2, hq]
    simp only [Option.bind_some, List.nil_append, List.length_nil, Nat.zero_add, Int.toNat_natCast]
    rw [if_pos p1, if_pos p4]
    simp only [Option.bind_some]
    rw [if_pos p2, if_pos p3, if_pos p5, if_pos trivial, if_pos p3, erase_take]
    exact h
theorem both (n k : Int) : ∃ (g : List Int) (ok : Bool), g.length ≤ 1000000 ∧ ∀ K, 100000000 < K → spec_CircleOut.f K n k = some (g, ok) ∧ impl_CircleOut.f K n k = some (g, ok) := by
  unfold spec_CircleOut.f impl_CircleOut.f
  by_cases hn : 1 ≤ n ∧ n ≤ 100
  · by_cases hk : 1 ≤ k ∧ k ≤ 1000
    · have hul := up_len 1 1 n
      obtain ⟨g, hg, hv⟩ := circ_l0 k hk.1 hk.2 (up 1 1 n).length (up 1 1 n) [] 0 rfl (by omega) (by rw [List.length_nil]; omega) (by omega) (by omega)
      refine ⟨g, true, by omega, fun K hK => ?_⟩
      obtain ⟨K, rfl⟩ : ∃ k, K = k + 1 := ⟨K - 1, by omega⟩
      have h := hv K (by omega)
      rw [l1In_at, l1In_at, decide_eq_true hn, decide_eq_true hk, if_neg (show ¬ n < 1 by omega), if_neg (show ¬ n > 100 by omega), if_neg (show ¬ k < 1 by omega), decide_eq_false (show ¬ k > 1000 by omega)]
      simp only [Option.bind_some, spec_CircleOut.j0, impl_CircleOut.j0]
      rw [if_pos trivial, if_neg (show ¬ ((!true) = true) by simp), if_neg (show ¬ (false = true) by simp), upTo_at 1 1 n (by omega) (by omega) (by omega) (by omega) K (by omega), cnUp_at 1 1 n (by omega) (by omega) (by omega) (by omega) K (by omega)]
      exact h
    · refine ⟨[], false, by simp, fun K hK => ?_⟩
      obtain ⟨K, rfl⟩ : ∃ k, K = k + 1 := ⟨K - 1, by omega⟩
      rw [l1In_at, l1In_at, decide_eq_true hn, decide_eq_false hk, if_neg (show ¬ n < 1 by omega), if_neg (show ¬ n > 100 by omega)]
      simp only [Option.bind_some, spec_CircleOut.j0, impl_CircleOut.j0]
      refine ⟨by simp, ?_⟩
      by_cases h1 : k < 1
      · simp [h1]
      · have h2 : k > 1000 := by omega
        simp [h1, h2]
  · refine ⟨[], false, by simp, fun K hK => ?_⟩
    obtain ⟨K, rfl⟩ : ∃ k, K = k + 1 := ⟨K - 1, by omega⟩
    rw [l1In_at, decide_eq_false hn]
    simp only [Option.bind_some, spec_CircleOut.j0, impl_CircleOut.j0]
    refine ⟨by simp, ?_⟩
    by_cases h1 : n < 1
    · simp [h1]
    · have h2 : n > 100 := by omega
      simp [h1, h2]

theorem done : laws_FnExactCircleOut.Pure := by
  intro n k  _ _
  refine ⟨1000000000, ?_⟩
  obtain ⟨g, ok, hg, hsi⟩ := both n k
  have hs := fun K hK => (hsi K hK).1
  have hi := fun K hK => (hsi K hK).2
  have hEg := eqIntS_at g (by omega)
  have hMg := markIntS_at g (by omega)
  have hHg := heldIntS_at g.length (by omega)
  have n2 : ¬ ((1 : Int) + (g.length : Int) < 0) := by omega
  unfold laws_FnExactCircleOut.f
  rw [hs _ (by omega)]
  simp only [Option.bind_some]
  rw [hi _ (by omega)]
  simp only [Option.bind_some]
  rw [hEg _ (by omega)]
  simp only [Option.bind_some]
  rw [if_pos trivial, bne_self_eq_false]
  simp only [laws_FnExactCircleOut.j0]
  rw [if_neg (by simp), hMg _ (by omega)]
  simp only [Option.bind_some]
  rw [hHg _ (by omega)]
  simp only [Option.bind_some]
  rw [if_neg n2, if_pos trivial, hi _ (by omega)]
  simp only [Option.bind_some]
  rw [hEg _ (by omega)]
  simp only [Option.bind_some]
  rw [if_pos trivial, bne_self_eq_false]
  simp only [laws_FnExactCircleOut.j1]
  rw [if_neg (by simp), hHg _ (by omega)]
  simp only [Option.bind_some]
  rw [if_neg n2, if_pos trivial]
end OwnFnExactCircleOut
theorem FnExactCircleOut : laws_FnExactCircleOut.Pure := OwnFnExactCircleOut.done
end Go.Proofs.Ytapcnidappknnaa.Pure
