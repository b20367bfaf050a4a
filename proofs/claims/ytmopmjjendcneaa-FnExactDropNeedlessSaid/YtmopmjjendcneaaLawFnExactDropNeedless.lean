-- Written by a turned copy of the printer, for this claim
import Derived.Test.YtmopmjjendcneaaRows
import Derived.Test.YtmopmjjendcneaaPFnExactDropNeedlessx5
import Derived.Test.YtmopmjjendcneaaPureFnExactDropNeedless
import Derived.WalkKit
import Derived.ProofKit
import Derived.OpenShut
import Derived.ShutString
import Derived.ChangeOld
import Derived.Below
import Derived.SizedLaws
import Derived.Test.YtmopmjjendcneaaWSized
import Derived.Test.YtmopmjjendcneaaHRow
import Derived.Lib.SmallJoins
namespace Go.Proofs.Ytmopmjjendcneaa.fnExactDropNeedless
open Go.ChangeShapes Go.WideShapes Go.ChangeAt Go.RowKit
open Go.ChangeMaps (open_string shut_string)
set_option linter.unusedVariables false
theorem own : ownKnob Try.prog.godebug = none := by kernel_rfl
theorem laidOut : laidOutB Try.prog = true := by kernel_rfl
def IsRow (k : IntKind) (w : World) (a : Option Addr) (len cap : Nat) (zs : List Int) : Prop :=
  (a = none ∧ len = 0 ∧ cap = 0 ∧ zs = []) ∨
  ∃ x, a = some x ∧ len ≤ cap ∧ cap ≤ maxLen ∧ zs.length = cap ∧ (∀ i, i < zs.length → w.cell? (x.add i) = some (.int k (zs.getD i 0))) ∧ ∀ n ∈ zs, (Lit.int k n).wf = true
set_option maxRecDepth 100000 in
theorem lifted (os : Os) (started : os.Started) (H : Type) (enc : TypeId × Value → H) :
    ReturnsInHanded {} Try.checked os 6 .any (Rows.fnExactDropNeedlessSpec.pre6 enc Try.prog Try.f6 Rows.fnExactDropNeedlessRow.domain false) (Rows.fnExactDropNeedlessSpec.post enc Try.prog Try.f6 false true false false) := by
  refine returnsInHanded_of_change_sized (C := Try.checked) own started (by kernel_rfl) Try.func6
    (ChangeSpec.witness6 (enc := enc) (C := Try.checked) false ⟨#[], #[.slice none 0 0], []⟩ 8 (by kernel_rfl) (by kernel_rfl) (by kernel_rfl) (by kernel_rfl)) ?_
  intro W base args ds gs before hval0 hW hcnd hsz0 _
  have hsz : (DataW.weightsEach Try.prog (Try.f6.params.toList ++ Rows.fnExactDropNeedlessSpec.plain.varTypes Try.prog) (ds ++ gs)).all (· ≤ reachBytes) = true := hsz0
  have hval : ∀ (j : Nat) t v, Try.f6.params[j]? = some t → args[j]? = some v → Value.okWide Try.prog W .any base t v := hval0
  have hW' := hW
  obtain ⟨p, q, hA0, hV, rfl, hfz, hnd⟩ := hW
  have hA : DataW.TrodAll enc Try.prog W 0 (fun _ => true) true Try.f6.params.toList args.toList ds p := hA0
  rw [Try.params6] at hA hval hsz
  obtain ⟨v0, vs0, d0, ds0, p0, q0, hargs, rfl, rfl, h0, r0⟩ := trodAll_cons hA
  obtain ⟨rfl, rfl, rfl⟩ := trodAll_nil r0
  obtain rfl : args = #[v0] := by cases args; simp_all
  obtain ⟨rfl, rfl⟩ := trodVars_none hV
  obtain ⟨a0, len0, cap0, rfl⟩ := okWide_slice Try.underlying22 (hval 0 22 v0 rfl rfl)
  have k0 := h0
  have lt0 : ∀ x ∈ p0, x.block < W.heap.size := by obtain ⟨m, hm⟩ := k0; exact DataW.trod_lt m _ _ _ hm
  obtain ⟨z0, w0⟩ : ∃ l : List PFnExactDropNeedless.S46, l.length = len0 ∧ len0 ≤ cap0 ∧ cap0 ≤ maxLen ∧ Go.Proofs.YtmopmjjendcneaaW.PrintWords.Kd.C PFnExactDropNeedless.k46 W a0 len0 l ∧ (∀ x ∈ l, (Lit.int .i64 x.f0).wf = true ∧ (Lit.int .i64 x.f1).wf = true) ∧ len0 * 16 ≤ 140737488351232 := by
    obtain ⟨l, e1, e2, e3, e4, e5, e6⟩ := Go.Proofs.YtmopmjjendcneaaH.open_pairs (fun x y => (x, y)) hsz (j := 0) (t := 22) rfl rfl Try.underlying22 Try.underlying46 (by kernel_rfl) (by kernel_rfl) Try.underlying3 Try.underlying3 (by kernel_rfl) h0
    refine ⟨l.map (fun x : Int × Int => (⟨x.1, x.2⟩ : PFnExactDropNeedless.S46)), by simpa using e1, e2, e3, Go.Proofs.YtmopmjjendcneaaH.C_map (f := fun x : PFnExactDropNeedless.S46 => (x.f0, x.f1)) (fun x : Int × Int => (⟨x.1, x.2⟩ : PFnExactDropNeedless.S46)) (fun _ => rfl) e4, ?_, e6⟩
    intro x hx
    obtain ⟨q, hq, rfl⟩ := List.mem_map.1 hx
    exact e5 q hq
  clear hA0 hval0 hsz0 hsz
  refine (PFnExactDropNeedless.laws_FnExactDropNeedless.walk Pure.FnExactDropNeedless a0 len0 cap0 z0 W w0).mono fun e W' ⟨he, bel⟩ => ?_
  subst he
  exact ⟨_, rfl, _, _, _, [], _, [], hW', trodAll_mk1 (shut_bool Try.underlying4 _), (trodAll_cons_mk (Below.trod laidOut (by kernel_rfl) (of_decide_eq_true (by kernel_rfl)) k0 bel lt0) trodAll_mk0), rfl, bel.frame _, fun h => by cases h⟩
theorem over : Rows.fnExactDropNeedlessRow.holds Try.pinned (OpenSpec.ofChange Rows.fnExactDropNeedlessSpec) :=
  OpenClaim.holds_of_wide 6 Try.f6 rfl rfl rfl rfl rfl rfl rfl ⟨rfl, rfl, rfl, rfl, rfl⟩ rfl rfl rfl rfl rfl (by kernel_rfl) Try.func6 (by kernel_rfl)
    (of_decide_eq_true (by kernel_rfl)) (by unfold Func.isWrapper; first | (rw [if_pos (by decide +kernel)]; kernel_rfl) | (rw [if_neg (by decide +kernel)]; exact ⟨rfl, rfl⟩))
    (fun os started H enc _ => lifted os started H enc)
theorem proved : Rows.FnExactDropNeedlessSaid := over
#print axioms proved
end Go.Proofs.Ytmopmjjendcneaa.fnExactDropNeedless
namespace Go.Proofs.Ytmopmjjendcneaa
/-- The row, under a short name, for the claim. -/
theorem fnExactDropNeedless_holds : Rows.FnExactDropNeedlessSaid := fnExactDropNeedless.proved
end Go.Proofs.Ytmopmjjendcneaa
