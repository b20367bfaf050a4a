-- Written by a turned copy of the printer, for this claim
import Derived.Test.YtnfbdaffbpaagaaDoorRows
import Derived.Test.YtnfbdaffbpaagaaDoorPFnExactRulesTextx4
import Derived.Test.YtnfbdaffbpaagaaDoorPureFnExactRulesText
import Derived.Test.YtnfbdaffbpaagaaDoorTie
import Derived.Test.YtnfbdaffbpaagaaDoorCards
import Derived.SevenTiedAt
import Derived.LaidMore
import Derived.Stop.Joined
import Derived.WalkKit
import Derived.ProofKit
import Derived.OpenShut
import Derived.ShutString
import Derived.ChangeOld
import Derived.Below
import Derived.SizedLaws
import Derived.Test.YtnfbdaffbpaagaaDoorWSized
import Derived.Test.YtnfbdaffbpaagaaDoorHRow
import Derived.Lib.SmallJoins
namespace Go.Proofs.YtnfbdaffbpaagaaDoor.fnExactRulesText
open Go.ChangeShapes Go.WideShapes Go.ChangeAt Go.RowKit
open Go.ChangeMaps (open_string shut_string)
set_option linter.unusedVariables false
theorem own : ownKnob Tryd.prog.godebug = none := by kernel_rfl
theorem laidOut : laidOutB Tryd.prog = true := by kernel_rfl
def IsRow (k : IntKind) (w : World) (a : Option Addr) (len cap : Nat) (zs : List Int) : Prop :=
  (a = none ∧ len = 0 ∧ cap = 0 ∧ zs = []) ∨
  ∃ x, a = some x ∧ len ≤ cap ∧ cap ≤ maxLen ∧ zs.length = cap ∧ (∀ i, i < zs.length → w.cell? (x.add i) = some (.int k (zs.getD i 0))) ∧ ∀ n ∈ zs, (Lit.int k n).wf = true
theorem door_met (os : Os) (args : Array Value) : laidMetH Tryd.prog Rows.fnExactRulesTextRow.laid ((World.doorLaid Tryd.prog 72 os).forCall (fun _ _ => 0) ⟨#[], args, []⟩).memory :=
  laidMetH_of_parts3 (fuel := 8) (laidMet_of_run' 8 (by kernel_rfl) (by kernel_rfl)) (by kernel_rfl) (by kernel_rfl)
set_option maxRecDepth 100000 in
theorem lifted (os : Os) (started : os.Started) (H : Type) (enc : TypeId × Value → H) :
    ReturnsInHanded {} Tryd.checked os 4 .any (fun w args => (Rows.fnExactRulesTextSpec.pre enc Tryd.prog Tryd.f4 Rows.fnExactRulesTextRow.domain false w args ∧ laidMetH Tryd.prog Rows.fnExactRulesTextRow.laid w) ∧ sizedMet enc Tryd.prog Tryd.f4 (OpenSpec.ofChange Rows.fnExactRulesTextSpec) false w args) (Rows.fnExactRulesTextSpec.post enc Tryd.prog Tryd.f4 false true false false) := by
  refine returnsInHanded_of_change_and (C := Tryd.checked) (X := fun w _ => laidMetH Tryd.prog Rows.fnExactRulesTextRow.laid w) (fun _ _ _ hh h => h.of_heap hh) own started (by kernel_rfl) Tryd.func4
    (ChangeSpec.witness_shaped (enc := enc) (C := Tryd.checked) (os := os) (X := fun w _ => laidMetH Tryd.prog Rows.fnExactRulesTextRow.laid w) false (World.doorLaid Tryd.prog 72 os) #[.slice none 0 0] 8 rfl (World.shaped_of_RefB (by kernel_rfl) (by kernel_rfl)) (by kernel_rfl) (by kernel_rfl) (by kernel_rfl) (door_met os _)) ?_
  intro W base args ds gs before hval0 hW hcnd hsz0 hL hsh
  have hsz : (DataW.weightsEach Tryd.prog (Tryd.f4.params.toList ++ Rows.fnExactRulesTextSpec.plain.varTypes Tryd.prog) (ds ++ gs)).all (· ≤ reachBytes) = true := hsz0
  have hval : ∀ (j : Nat) t v, Tryd.f4.params[j]? = some t → args[j]? = some v → Value.okWide Tryd.prog W .any base t v := hval0
  have hW' := hW
  obtain ⟨p, q, hA0, hV, rfl, hfz, hnd⟩ := hW
  have hA : DataW.TrodAll enc Tryd.prog W 0 (fun _ => true) true Tryd.f4.params.toList args.toList ds p := hA0
  rw [Tryd.params4] at hA hval hsz
  obtain ⟨v0, vs0, d0, ds0, p0, q0, hargs, rfl, rfl, h0, r0⟩ := trodAll_cons hA
  obtain ⟨rfl, rfl, rfl⟩ := trodAll_nil r0
  obtain rfl : args = #[v0] := by cases args; simp_all
  obtain ⟨rfl, rfl⟩ := trodVars_none hV
  obtain ⟨a0, len0, cap0, rfl⟩ := okWide_slice Tryd.underlying28 (hval 0 28 v0 rfl rfl)
  have k0 := h0
  have lt0 : ∀ x ∈ p0, x.block < W.heap.size := by obtain ⟨m, hm⟩ := k0; exact DataW.trod_lt m _ _ _ hm
  obtain ⟨z0, w0⟩ : ∃ l : List PFnExactRulesText.S48, l.length = len0 ∧ len0 ≤ cap0 ∧ cap0 ≤ maxLen ∧ Go.Proofs.YtnfbdaffbpaagaaDoorW.PrintWords.Kd.C PFnExactRulesText.k48 W a0 len0 l ∧ (∀ x ∈ l, (Lit.int .i64 x.f0).wf = true ∧ (Lit.int .i64 x.f1).wf = true) ∧ len0 * 16 ≤ 140737488351232 := by
    obtain ⟨l, e1, e2, e3, e4, e5, e6⟩ := Go.Proofs.YtnfbdaffbpaagaaDoorH.open_pairs (fun x y => (x, y)) hsz (j := 0) (t := 28) rfl rfl Tryd.underlying28 Tryd.underlying48 (by kernel_rfl) (by kernel_rfl) Tryd.underlying3 Tryd.underlying3 (by kernel_rfl) h0
    refine ⟨l.map (fun x : Int × Int => (⟨x.1, x.2⟩ : PFnExactRulesText.S48)), by simpa using e1, e2, e3, Go.Proofs.YtnfbdaffbpaagaaDoorH.C_map (f := fun x : PFnExactRulesText.S48 => (x.f0, x.f1)) (fun x : Int × Int => (⟨x.1, x.2⟩ : PFnExactRulesText.S48)) (fun _ => rfl) e4, ?_, e6⟩
    intro x hx
    obtain ⟨q, hq, rfl⟩ := List.mem_map.1 hx
    exact e5 q hq
  clear hA0 hval0 hsz0 hsz
  refine (PFnExactRulesText.laws_FnExactRulesText.walk Pure.FnExactRulesText a0 len0 cap0 z0 W w0).mono fun e W' ⟨he, bel⟩ => ?_
  subst he
  exact ⟨_, rfl, _, _, _, [], _, [], hW', trodAll_mk1 (shut_bool Tryd.underlying4 _), (trodAll_cons_mk (Below.trod laidOut (by kernel_rfl) (of_decide_eq_true (by kernel_rfl)) k0 bel lt0) trodAll_mk0), rfl, bel.frame _, fun h => by cases h⟩
theorem over : Rows.fnExactRulesTextRow.holds Tryd.pinned (OpenSpec.ofChange Rows.fnExactRulesTextSpec) :=
  OpenClaim.holds_of_wide 4 Tryd.f4 rfl rfl rfl rfl rfl rfl rfl ⟨rfl, rfl, rfl, rfl, rfl⟩ rfl rfl rfl rfl rfl (by kernel_rfl) Tryd.func4 (by kernel_rfl)
    (of_decide_eq_true (by kernel_rfl)) (by unfold Func.isWrapper; first | (rw [if_pos (by decide +kernel)]; kernel_rfl) | (rw [if_neg (by decide +kernel)]; exact ⟨rfl, rfl⟩))
    (fun os started H enc _ => lifted os started H enc)
theorem row_said : Rows.FnExactRulesTextSaid := over
theorem proved : Rows.FnExactRulesTextCardSaid :=
  Claim7.holds_tied_plain_at .later [] [.data, .data, .data] true (true, "a1eda9ab4bf7e469c729ab3a357bc38cefc966841740e55a1f4b6bc2cd328c5b") true
    row_said (fun _ h => by cases h) (by kernel_rfl) (fun _ h => by cases h) fnExactRulesText_row_tie rfl ⟨rfl, rfl⟩ (by kernel_rfl) rfl
    (fun f fn hf hfn => by
      obtain rfl : f = 4 := Option.some.inj ((show Tryd.prog.funcNamed "loop.example/g01235/laws.FnExactRulesText" = some 4 by kernel_rfl).symm.trans hf) |>.symm
      obtain rfl : fn = Tryd.f4 := (Option.some.inj (Tryd.func4.symm.trans hfn)).symm
      exact ⟨by kernel_rfl, fun j t ht => by
        rw [Tryd.params4] at ht
        have hall : ∀ (j : Nat) (t : TypeId), (#[28] : Array TypeId)[j]? = some t → Tryd.prog.wantsStandIn t = false := by
          intro j t ht
          rcases j with _ | j
          · simp at ht; subst ht; exact (show Tryd.prog.wantsStandIn 28 = false by kernel_rfl)
          · simp at ht
        exact hall j t ht⟩)
    (by kernel_rfl)
#print axioms proved
end Go.Proofs.YtnfbdaffbpaagaaDoor.fnExactRulesText
namespace Go.Proofs.YtnfbdaffbpaagaaDoor
/-- The row, under a short name, for the claim. -/
theorem fnExactRulesText_holds : Rows.FnExactRulesTextCardSaid := fnExactRulesText.proved
end Go.Proofs.YtnfbdaffbpaagaaDoor
