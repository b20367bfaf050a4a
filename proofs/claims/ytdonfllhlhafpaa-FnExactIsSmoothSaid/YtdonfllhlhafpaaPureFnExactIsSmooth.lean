/- IsSmooth of the program and of the reference answer alike at all whole numbers: no condition. -/
import Derived.Test.YtdonfllhlhafpaaPFnExactIsSmoothx2
namespace Go.Proofs.Ytdonfllhlhafpaa.Pure
open Go.RowKit Go.Proofs.Ytdonfllhlhafpaa.PFnExactIsSmooth Go.Proofs.YtdonfllhlhafpaaW.PrintWords Go.Proofs.YtdonfllhlhafpaaW.PrintLast
set_option linter.unusedVariables false
set_option linter.unusedSimpArgs false
namespace OwnIsSmooth
theorem w64 {x : Int} (h0 : -9223372036854775808 ≤ x) (h1 : x ≤ 9223372036854775807) : wrap64 x = x := by unfold wrap64; omega
/-- The least factor of n from d on, with fuel. -/
def lfF : Nat → Int → Int → Int
  | 0, n, _ => n
  | k + 1, n, d => if d * d ≤ n then (if Int.tmod n d = 0 then d else lfF k n (d + 1)) else n
theorem sq_bd {d : Int} (h0 : 0 ≤ d) (h : d ≤ 32000) : 0 ≤ d * d ∧ d * d ≤ 1024000000 :=
  ⟨Int.mul_nonneg h0 h0, by have := Int.mul_le_mul h h h0 (by omega : (0 : Int) ≤ 32000); omega⟩
theorem sq_lt {d n : Int} (hn : n ≤ 1000000000) (h : d * d ≤ n) : d < 32000 := by
  have h1 : ¬ (32000 ≤ d) := fun h2 => by
    have := Int.mul_le_mul h2 h2 (by omega : (0 : Int) ≤ 32000) (by omega : (0 : Int) ≤ d)
    omega
  omega
theorem leastFactor_l0 (n : Int) (hn : n ≤ 1000000000) : ∀ (k : Nat) (d : Int), 2 ≤ d → 32000 ≤ d + k → d ≤ 32000 → ∀ K, k < K → impl_leastFactor.l0 K n d = some (lfF k n d) := by
  intro k
  induction k with
  | zero =>
    intro d h2 h3 h4 K hK
    obtain ⟨K, rfl⟩ : ∃ m, K = m + 1 := ⟨K - 1, by omega⟩
    obtain rfl : d = 32000 := by omega
    simp only [impl_leastFactor.l0, lfF]
    rw [w64 (by omega) (by omega), if_neg (by omega)]
  | succ k ih =>
    intro d h2 h3 h4 K hK
    obtain ⟨K, rfl⟩ : ∃ m, K = m + 1 := ⟨K - 1, by omega⟩
    have hb := sq_bd (by omega : 0 ≤ d) h4
    simp only [impl_leastFactor.l0, lfF]
    rw [w64 (by omega) (by omega)]
    by_cases hc : d * d ≤ n
    · have := sq_lt hn hc
      rw [if_pos hc, if_pos hc, if_neg (by omega)]
      by_cases hm : Int.tmod n d = 0
      · rw [if_pos hm, if_pos hm]
      · rw [if_neg hm, if_neg hm, w64 (by omega) (by omega)]
        exact ih (d + 1) (by omega) (by omega) (by omega) K (by omega)
    · rw [if_neg hc, if_neg hc]
theorem prLeast_l0 : ∀ (K : Nat) (n d : Int), spec_prLeast.l0 K n d = impl_leastFactor.l0 K n d := by
  intro K
  induction K with
  | zero => intro n d; rfl
  | succ K ih => intro n d; simp only [spec_prLeast.l0, impl_leastFactor.l0, ih]
/-- The least factor. -/
def lf (n : Int) : Int := lfF 32000 n 2
theorem leastFactor_at (n : Int) (hn : n ≤ 1000000000) (K : Nat) (hK : 32000 < K) : impl_leastFactor.f K n = some (lf n) :=
  leastFactor_l0 n hn 32000 2 (by omega) (by omega) (by omega) K hK
theorem prLeast_at (n : Int) (hn : n ≤ 1000000000) (K : Nat) (hK : 32000 < K) : spec_prLeast.f K n = some (lf n) := by
  unfold spec_prLeast.f; rw [prLeast_l0]; exact leastFactor_at n hn K hK
theorem l1In_at (n a b : Int) : spec_l1In.f n a b = some (decide (a ≤ n ∧ n ≤ b)) := by
  unfold spec_l1In.f
  by_cases h : a ≤ n
  · rw [if_pos (by omega)]; simp [h]
  · rw [if_neg (by omega)]; simp [h]
theorem lfF_spec (n : Int) (hn : 2 ≤ n) (hn1 : n ≤ 1000000000) : ∀ (k : Nat) (d : Int), 2 ≤ d → d ≤ n → 32000 ≤ d + k → (∀ c, 2 ≤ c → c < d → ¬ c ∣ n) →
    2 ≤ lfF k n d ∧ lfF k n d ≤ n ∧ lfF k n d ∣ n ∧ ∀ c, 2 ≤ c → c < lfF k n d → ¬ c ∣ n := by
  have big : ∀ d : Int, 2 ≤ d → n < d * d → (∀ c, 2 ≤ c → c < d → ¬ c ∣ n) → ∀ c, 2 ≤ c → c < n → ¬ c ∣ n := by
    rintro d h2 hd hc c hc2 hcn ⟨q, hq⟩
    have hq2 : 2 ≤ q := by
      by_cases h0 : q ≤ 0
      · have := Int.mul_nonpos_of_nonneg_of_nonpos (by omega : 0 ≤ c) h0
        omega
      · by_cases h1 : q = 1
        · subst h1; omega
        · omega
    by_cases h : c < d
    · exact hc c hc2 h ⟨q, hq⟩
    · by_cases h' : q < d
      · exact hc q hq2 h' ⟨c, by rw [hq, Int.mul_comm]⟩
      · have := Int.mul_le_mul (by omega : d ≤ c) (by omega : d ≤ q) (by omega) (by omega)
        omega
  intro k
  induction k with
  | zero =>
    intro d h2 hd hk hc
    have h := Int.mul_le_mul (by omega : (32000 : Int) ≤ d) (by omega : (32000 : Int) ≤ d) (by omega) (by omega)
    refine ⟨hn, Int.le_refl _, Int.dvd_refl _, ?_⟩
    exact big d h2 (by omega) hc
  | succ k ih =>
    intro d h2 hd hk hc
    unfold lfF
    by_cases h : d * d ≤ n
    · rw [if_pos h]
      by_cases hm : Int.tmod n d = 0
      · rw [if_pos hm]
        refine ⟨h2, hd, Int.dvd_of_tmod_eq_zero hm, hc⟩
      · rw [if_neg hm]
        have hdn : d + 1 ≤ n := by
          have := Int.mul_le_mul (Int.le_refl d) h2 (by omega) (by omega)
          omega
        refine ih (d + 1) (by omega) hdn (by omega) (fun c h1 h3 => ?_)
        by_cases e : c = d
        · subst e; exact fun hd => hm (Int.tmod_eq_zero_of_dvd hd)
        · exact hc c h1 (by omega)
    · rw [if_neg h]
      exact ⟨hn, Int.le_refl _, Int.dvd_refl _, big d h2 (by omega) hc⟩
theorem lf_spec (n : Int) (hn : 2 ≤ n) (hn1 : n ≤ 1000000000) : 2 ≤ lf n ∧ lf n ≤ n ∧ lf n ∣ n ∧ ∀ c, 2 ≤ c → c < lf n → ¬ c ∣ n :=
  lfF_spec n hn hn1 32000 2 (by omega) hn (by omega) (fun c h1 h2 => by omega)
theorem factors_same : ∀ (K : Nat), (∀ n acc, spec_prFactors.l0 K n acc = impl_factors.l0 K n acc) ∧ (∀ n acc p e, spec_prFactors.l1 K n acc p e = impl_factors.l1 K n acc p e) := by
  intro K
  induction K with
  | zero => exact ⟨fun _ _ => rfl, fun _ _ _ _ => rfl⟩
  | succ K ih =>
    refine ⟨fun n acc => ?_, fun n acc p e => ?_⟩
    · simp only [spec_prFactors.l0, impl_factors.l0, ih.2, spec_prLeast.f, impl_leastFactor.f, prLeast_l0]
    · simp only [spec_prFactors.l1, impl_factors.l1, ih.1, ih.2]
def Fact (m : Int) (L : List (List Int)) : Prop := (∀ f ∈ L, f.length = 2 ∧ m < rd f 0) ∧ L.Pairwise (fun a b => rd a 0 < rd b 0)
theorem dvd_div {n p c : Int} (hp : p ∣ n) (h : c ∣ n / p) : c ∣ n := by
  obtain ⟨q, hq⟩ := h
  have := Int.mul_ediv_cancel' hp
  exact ⟨p * q, by rw [← this, hq, ← Int.mul_assoc, ← Int.mul_assoc, Int.mul_comm p c]⟩
theorem div_half {n p : Int} (hn : 1 ≤ n) (hp : 2 ≤ p) (h : p ∣ n) : 1 ≤ n / p ∧ 2 * (n / p) ≤ n := by
  have e := Int.mul_ediv_cancel' h
  have h1 : 1 ≤ n / p := by
    by_cases h0 : n / p ≤ 0
    · have := Int.mul_nonpos_of_nonneg_of_nonpos (by omega : 0 ≤ p) h0
      omega
    · omega
  have := Int.mul_le_mul hp (Int.le_refl (n / p)) (by omega) (by omega)
  exact ⟨h1, by omega⟩
theorem factors_l0 : ∀ (B : Nat) (n : Int), 1 ≤ n → n ≤ B → n ≤ 1000000000 → ∀ (m : Int), 1 ≤ m →
    (∀ acc : List (List Int), (∀ c, 2 ≤ c → c ≤ m → ¬ c ∣ n) → acc.length + n ≤ 1000000000000 → ∃ L : List (List Int), (Fact m L ∧ (L.length : Int) ≤ n - 1) ∧ ∀ K : Nat, 32001 + 3 * n < K → impl_factors.l0 K n acc = some (acc ++ L)) ∧
    (∀ (acc : List (List Int)) (e : Int), 2 ≤ m → (∀ c, 2 ≤ c → c < m → ¬ c ∣ n) → acc.length + n ≤ 999999999999 → ∃ L : List (List Int), (Fact (m - 1) L ∧ (L.length : Int) ≤ n) ∧ ∀ K : Nat, 32002 + 3 * n < K → impl_factors.l1 K n acc m e = some (acc ++ L)) := by
  intro B
  induction B with
  | zero => intro n h1 h2; omega
  | succ B ih =>
    intro n h1 hB hn m hm
    have one : ∀ acc : List (List Int), (∀ c, 2 ≤ c → c ≤ m → ¬ c ∣ n) → acc.length + n ≤ 1000000000000 → ∃ L : List (List Int), (Fact m L ∧ (L.length : Int) ≤ n - 1) ∧ ∀ K : Nat, 32001 + 3 * n < K → impl_factors.l0 K n acc = some (acc ++ L) := by
      intro acc hc hl
      by_cases hgt : n > 1
      · obtain ⟨p2, pn, pd, pm⟩ := lf_spec n (by omega) hn
        have hh := div_half h1 p2 pd
        have hpm : m < lf n := by
          by_cases h : lf n ≤ m
          · exact absurd pd (hc _ p2 h)
          · omega
        obtain ⟨L, ⟨hL, hlen⟩, hK⟩ := (ih (n / lf n) hh.1 (by omega) (by omega) (lf n) (by omega)).2 acc (wrap64 (0 + 1)) p2 (fun c h2 h3 hd => pm c h2 h3 (dvd_div pd hd)) (by omega)
        refine ⟨L, ⟨⟨fun f hf => ⟨(hL.1 f hf).1, by have := (hL.1 f hf).2; omega⟩, hL.2⟩, by omega⟩, fun K hk => ?_⟩
        obtain ⟨K, rfl⟩ : ∃ k, K = k + 2 := ⟨K - 2, by omega⟩
        simp only [impl_factors.l0]
        rw [if_pos hgt, leastFactor_at n hn _ (by omega)]
        simp only [Option.bind_some, impl_factors.l1]
        rw [if_neg (by omega), if_pos (Int.tmod_eq_zero_of_dvd pd), Int.tdiv_eq_ediv_of_nonneg (by omega), w64 (x := n / lf n) (by omega) (by omega)]
        exact hK K (by omega)
      · refine ⟨[], ⟨⟨(fun f hf => by cases hf), List.Pairwise.nil⟩, by simp; omega⟩, fun K hk => ?_⟩
        obtain ⟨K, rfl⟩ : ∃ k, K = k + 1 := ⟨K - 1, by omega⟩
        simp only [impl_factors.l0]
        rw [if_neg hgt]
        simp
    refine ⟨one, ?_⟩
    intro acc e hm2 hc hl
    by_cases hd : m ∣ n
    · have hh := div_half h1 hm2 hd
      obtain ⟨L, ⟨hL, hlen⟩, hK⟩ := (ih (n / m) hh.1 (by omega) (by omega) m hm).2 acc (wrap64 (e + 1)) hm2 (fun c h2 h3 hx => hc c h2 h3 (dvd_div hd hx)) (by omega)
      refine ⟨L, ⟨hL, by omega⟩, fun K hk => ?_⟩
      obtain ⟨K, rfl⟩ : ∃ k, K = k + 1 := ⟨K - 1, by omega⟩
      simp only [impl_factors.l1]
      rw [if_neg (by omega), if_pos (Int.tmod_eq_zero_of_dvd hd), Int.tdiv_eq_ediv_of_nonneg (by omega), w64 (x := n / m) (by omega) (by omega)]
      exact hK K (by omega)
    · obtain ⟨L, ⟨hL, hlen⟩, hK⟩ := one (acc ++ [[m, e]]) (fun c h2 h3 => by
        by_cases h : c = m
        · subst h; exact hd
        · exact hc c h2 (by omega)) (by simp; omega)
      refine ⟨[m, e] :: L, ⟨⟨fun f hf => ?_, List.Pairwise.cons (fun f hf => (hL.1 f hf).2) hL.2⟩, by simp; omega⟩, fun K hk => ?_⟩
      · rcases List.mem_cons.1 hf with rfl | hf
        · exact ⟨rfl, by show m - 1 < m; omega⟩
        · exact ⟨(hL.1 f hf).1, by have := (hL.1 f hf).2; omega⟩
      obtain ⟨K, rfl⟩ : ∃ k, K = k + 1 := ⟨K - 1, by omega⟩
      simp only [impl_factors.l1]
      rw [if_neg (by omega), if_neg (fun h => hd (Int.dvd_of_tmod_eq_zero h)), if_pos (by omega), hK K (by omega)]
      simp
theorem factors_at (n : Int) (h1 : 1 ≤ n) (hn : n ≤ 1000000000) : ∃ L : List (List Int), Fact 1 L ∧ L.length ≤ 1000000000 ∧ ∀ K : Nat, 4000000000 < K → impl_factors.f K n = some L ∧ spec_prFactors.f K n = some L := by
  obtain ⟨L, ⟨hL, hlen⟩, hK⟩ := (factors_l0 1000000000 n h1 (by omega) hn 1 (by omega)).1 [] (fun c h2 h3 => by omega) (by simp; omega)
  refine ⟨L, hL, by omega, fun K hk => ?_⟩
  have h := hK K (by omega)
  refine ⟨h, ?_⟩
  unfold spec_prFactors.f
  rw [(factors_same K).1]
  exact h
theorem drop_rdL (xs : List (List Int)) (i : Nat) (h : i < xs.length) : xs.drop i = rd_L1 xs (i : Int) :: xs.drop (i + 1) := by
  rw [List.drop_eq_getElem_cons h]
  simp [rd_L1, List.getD, h]
theorem smooth_l0 (b : Int) (L : List (List Int)) (hL : ∀ f ∈ L, f.length = 2) (hlen : L.length ≤ 1000000000) : ∀ (d i : Nat), i + d = L.length → ∀ K, d < K → spec_prSmooth.l0 K b L L.length i = some ((L.drop i).all fun f => decide (rd f 0 ≤ b)) := by
  intro d
  induction d with
  | zero =>
    intro i hi K hK
    obtain ⟨K, rfl⟩ : ∃ k, K = k + 1 := ⟨K - 1, by omega⟩
    simp only [spec_prSmooth.l0]
    rw [if_neg (by omega), List.drop_of_length_le (by omega)]
    rfl
  | succ d ih =>
    intro i hi K hK
    obtain ⟨K, rfl⟩ : ∃ k, K = k + 1 := ⟨K - 1, by omega⟩
    have hlt : (i : Int) < (L.length : Int) := by omega
    have hi0 : (0 : Int) ≤ (i : Int) := by omega
    have hd := drop_rdL L i (by omega)
    have hm : rd_L1 L i ∈ L := List.mem_of_mem_drop (i := i) (by rw [hd]; simp)
    have h2 := hL _ hm
    simp only [spec_prSmooth.l0]
    rw [if_pos hlt, if_pos hi0, if_pos hlt, if_pos (by omega), w64 (x := (i : Int) + 1) (by omega) (by omega), hd]
    by_cases hb : rd (rd_L1 L i) 0 > b
    · rw [if_pos hb]
      have : ¬ rd (rd_L1 L i) 0 ≤ b := by omega
      simp [this]
    · rw [if_neg hb]
      have := ih (i + 1) (by omega) K (by omega)
      rw [show ((i + 1 : Nat) : Int) = (i : Int) + 1 from by omega] at this
      rw [this]
      have : rd (rd_L1 L i) 0 ≤ b := by omega
      simp [this]
theorem last_most (b : Int) (L : List (List Int)) (h : L.Pairwise (fun a b => rd a 0 < rd b 0)) (hne : L ≠ []) : (L.all fun f => decide (rd f 0 ≤ b)) = decide (rd (rd_L1 L ((L.length : Int) - 1)) 0 ≤ b) := by
  have e := List.dropLast_concat_getLast hne
  have el : rd_L1 L ((L.length : Int) - 1) = L.getLast hne := by
    have hl : 0 < L.length := List.length_pos_iff.2 hne
    unfold rd_L1
    rw [show ((L.length : Int) - 1).toNat = L.length - 1 from by omega, List.getD_eq_getElem?_getD, List.getElem?_eq_getElem (by omega), List.getLast_eq_getElem]
    rfl
  rw [el]
  rw [← e] at h
  have hp := (List.pairwise_append.1 h).2.2
  rw [Bool.eq_iff_iff, List.all_eq_true]
  constructor
  · intro ha
    exact ha _ (List.getLast_mem hne)
  · intro hb f hf
    rw [← e] at hf
    rcases List.mem_append.1 hf with hf | hf
    · have h1 := hp f hf (L.getLast hne) (by simp)
      have h2 := of_decide_eq_true hb
      exact decide_eq_true (by omega)
    · rw [List.mem_singleton] at hf
      subst hf
      exact hb

theorem done : laws_FnExactIsSmooth.Pure := by
  intro n b _ _
  by_cases h1 : 1 ≤ n ∧ n ≤ 1000000000
  · obtain ⟨L, ⟨hL1, hL2⟩, hlen, hK⟩ := factors_at n h1.1 h1.2
    have hk := hK 6000000000 (by omega)
    refine ⟨6000000000, ?_⟩
    unfold laws_FnExactIsSmooth.f spec_IsSmooth.f impl_IsSmooth.f spec_prFactored.f impl_isFactored.f spec_prSmooth.f impl_isSmooth.f
    rw [l1In_at, decide_eq_true h1, if_pos (show n ≥ 1 from h1.1), decide_eq_true h1.2, hk.1, hk.2]
    simp only [Option.bind_some]
    rw [if_pos trivial, if_pos trivial]
    by_cases hb : b < 1
    · rw [if_pos hb, if_pos hb]; rfl
    · rw [if_neg hb, if_neg hb]
      have hs := smooth_l0 b L (fun f hf => (hL1 f hf).1) hlen L.length 0 (by omega) 6000000000 (by omega)
      have hs' : spec_prSmooth.l0 6000000000 b L L.length 0 = _ := hs
      rw [hs', List.drop_zero]
      by_cases hne : L = []
      · subst hne
        simp
      · have hl : 0 < L.length := List.length_pos_iff.2 hne
        have hm : rd_L1 L ((L.length : Int) - 1) ∈ L := by
          have hd := drop_rdL L (L.length - 1) (by omega)
          rw [show ((L.length - 1 : Nat) : Int) = (L.length : Int) - 1 from by omega] at hd
          exact List.mem_of_mem_drop (i := L.length - 1) (by rw [hd]; simp)
        have h2 := (hL1 _ hm).1
        rw [w64 (x := (L.length : Int) - 1) (by omega) (by omega), if_neg (by omega), if_pos (by omega), if_pos (by omega), if_pos (by omega), last_most b L hL2 hne]
        simp
  · refine ⟨1, ?_⟩
    unfold laws_FnExactIsSmooth.f spec_IsSmooth.f impl_IsSmooth.f spec_prFactored.f impl_isFactored.f
    rw [l1In_at, decide_eq_false h1]
    simp only [Option.bind_some]
    rw [if_neg (by simp)]
    by_cases h2 : n ≥ 1
    · rw [if_pos h2, decide_eq_false (by omega)]; rfl
    · rw [if_neg h2]; rfl
end OwnIsSmooth
theorem FnExactIsSmooth : laws_FnExactIsSmooth.Pure := OwnIsSmooth.done
end Go.Proofs.Ytdonfllhlhafpaa.Pure
