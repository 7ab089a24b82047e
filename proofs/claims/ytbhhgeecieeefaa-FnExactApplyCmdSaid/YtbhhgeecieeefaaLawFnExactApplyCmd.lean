/- Written by a program of this session (wip/mk.py) over the kit's print: Lean checks it. The row of the law FnExactApplyCmd, for every input: out of its pure statement and the walk. -/
import Derived.Test.YtbhhgeecieeefaaRows
import Derived.Test.YtbhhgeecieeefaaQFnExactApplyCmdx6
import Derived.Test.YtbhhgeecieeefaaQFnExactApplyCmdx7
import Derived.Test.YtbhhgeecieeefaaOpens
import Derived.Test.YtbhhgeecieeefaaPureFnExactApplyCmd
import Derived.WalkKit
import Derived.ProofKit
import Derived.OpenShut
import Derived.ShutString
import Derived.ChangeOld
import Derived.Below
import Derived.SizedLaws
namespace Go.Proofs.Ytbhhgeecieeefaa.fnExactApplyCmd
open Go.ChangeShapes Go.WideShapes Go.ChangeAt Go.RowKit Go.Proofs.Ytbhhgeecieeefaa.Opens Go.Proofs.Ytbhhgeecieeefaa.QFnExactApplyCmd Go.Proofs.YtbhhgeecieeefaaW.PrintWords
open Go.ChangeMaps (open_string shut_string)
set_option linter.unusedVariables false
theorem own : ownKnob Try.prog.godebug = none := by kernel_rfl
theorem laidOut : laidOutB Try.prog = true := by kernel_rfl
theorem op3 : Opens Try.prog 3 (Kd.int .i64) (fun x => (Lit.int .i64 x).wf = true) := opens_int Try.underlying3
theorem op24 : Opens Try.prog 24 (Kd.slice 3 (Kd.int .i64)) (fun x => (x.length ≤ 9223372036854775807 ∧ ∀ y ∈ x, (Lit.int .i64 y).wf = true)) := opens_slice Try.underlying24 (by kernel_rfl) op3
set_option maxRecDepth 100000 in
theorem op23 : Opens Try.prog 23 k23 (fun x => q23 x) := Opens.imp (opens_struct (fun x : S23 => (x.f0, x.f1, x.f2, x.f3, x.f4)) (fun a => ⟨a.1, a.2.1, a.2.2.1, a.2.2.2.1, a.2.2.2.2⟩) (fun _ => rfl) Try.underlying23 (by kernel_rfl) (opensF_cons (by rfl) (by kernel_rfl) op3 (opensF_cons (by rfl) (by kernel_rfl) op3 (opensF_cons (by rfl) (by kernel_rfl) op3 (opensF_cons (by rfl) (by kernel_rfl) op3 (opensF_one (by rfl) (by kernel_rfl) op3)))))) (fun x h => by simpa only [q23] using h)
set_option maxRecDepth 100000 in
set_option maxHeartbeats 1000000 in
theorem lifted (os : Os) (started : os.Started) (H : Type) (enc : TypeId × Value → H) :
    ReturnsInHanded {} Try.checked os 5 .any (Rows.fnExactApplyCmdSpec.pre6 enc Try.prog Try.f5 Rows.fnExactApplyCmdRow.domain false) (Rows.fnExactApplyCmdSpec.post enc Try.prog Try.f5 false true false false) := by
  refine returnsInHanded_of_change_sized (C := Try.checked) own started (by kernel_rfl) Try.func5
    (ChangeSpec.witness6 (enc := enc) (C := Try.checked) false ⟨#[], #[.slice none 0 0, .agg #[.int .i64 0, .int .i64 0, .int .i64 0, .int .i64 0, .int .i64 0]], []⟩ 8 (by kernel_rfl) (by kernel_rfl) (by kernel_rfl) (by kernel_rfl)) ?_
  intro W base args ds gs before hval0 hW hcnd _ _
  have hval : ∀ (j : Nat) t v, Try.f5.params[j]? = some t → args[j]? = some v → Value.okWide Try.prog W .any base t v := hval0
  have hW' := hW
  obtain ⟨p, q, hA0, hV, rfl, hfz, hnd⟩ := hW
  have hA : DataW.TrodAll enc Try.prog W 0 (fun _ => true) true Try.f5.params.toList args.toList ds p := hA0
  rw [Try.params5] at hA hval
  obtain ⟨v0, vs0, d0, ds0, p0, q0, hargs, rfl, rfl, h0, r0⟩ := trodAll_cons hA
  obtain ⟨v1, vs1, d1, ds1, p1, q1, rfl, rfl, rfl, h1, r1⟩ := trodAll_cons r0
  obtain ⟨rfl, rfl, rfl⟩ := trodAll_nil r1
  obtain rfl : args = #[v0, v1] := by cases args; simp_all
  obtain ⟨rfl, rfl⟩ := trodVars_none hV
  have k0 := h0
  have lt0 : ∀ x ∈ p0, x.block < W.heap.size := by obtain ⟨m, hm⟩ := k0; exact DataW.trod_lt m _ _ _ hm
  obtain ⟨fuel0, hf0⟩ := h0
  obtain ⟨A0, len0, c0, rfl⟩ := okWide_slice Try.underlying24 (hval 0 24 v0 rfl rfl)
  obtain ⟨l0, hK0, hq0⟩ := op24.out enc W 0 _ _ fuel0 _ _ hf0
  obtain ⟨A0', c0', hcs0, hc0, hr0⟩ := hK0
  simp [Value.cells] at hcs0
  obtain ⟨rfl, rfl, rfl⟩ := hcs0
  have k1 := h1
  have lt1 : ∀ x ∈ p1, x.block < W.heap.size := by obtain ⟨m, hm⟩ := k1; exact DataW.trod_lt m _ _ _ hm
  obtain ⟨fuel1, hf1⟩ := h1
  obtain ⟨cs1, rfl, hz1⟩ := agg_of Try.underlying23 (hval 1 23 v1 rfl rfl)
  obtain ⟨x1, hK1, hq1⟩ := op23.out enc W 0 _ _ fuel1 _ _ hf1
  obtain hcs1 := k23_open hK1
  obtain rfl : cs1 = #[.int .i64 x1.f0, .int .i64 x1.f1, .int .i64 x1.f2, .int .i64 x1.f3, .int .i64 x1.f4] := by rw [hz1] at hcs1; rw [← hcs1]
  clear hA0 hval0
  obtain ⟨k, h⟩ := Pure.FnExactApplyCmd l0 x1 hq0 hq1
  refine (laws_FnExactApplyCmd.calls k _ _ l0 x1.f0 x1.f1 x1.f2 x1.f3 x1.f4 true W hr0 hc0 h).mono fun e W' ⟨he, bel0⟩ => ?_
  have bel : Below W.heap.size W W' := bel0
  subst he
  exact ⟨_, rfl, _, _, _, [], _, [], hW', trodAll_mk1 (shut_bool Try.underlying4 _), (trodAll_cons_mk (Below.trod laidOut (by kernel_rfl) (of_decide_eq_true (by kernel_rfl)) k0 bel lt0) (trodAll_cons_mk (Below.trod laidOut (by kernel_rfl) (of_decide_eq_true (by kernel_rfl)) k1 bel lt1) trodAll_mk0)), rfl, bel.frame _, fun h => by cases h⟩
theorem over : Rows.fnExactApplyCmdRow.holds Try.pinned (OpenSpec.ofChange Rows.fnExactApplyCmdSpec) :=
  OpenClaim.holds_of_wide 5 Try.f5 rfl rfl rfl rfl rfl rfl rfl ⟨rfl, rfl, rfl, rfl, rfl⟩ rfl rfl rfl rfl rfl (by kernel_rfl) Try.func5 (by kernel_rfl)
    (of_decide_eq_true (by kernel_rfl)) (by unfold Func.isWrapper; first | (rw [if_pos (by decide +kernel)]; kernel_rfl) | (rw [if_neg (by decide +kernel)]; exact ⟨rfl, rfl⟩))
    (fun os started H enc _ => lifted os started H enc)
theorem proved : Rows.FnExactApplyCmdSaid := over
#print axioms proved
end Go.Proofs.Ytbhhgeecieeefaa.fnExactApplyCmd
namespace Go.Proofs.Ytbhhgeecieeefaa
/-- The row, under a short name, for the claim. -/
theorem fnExactApplyCmd_holds : Rows.FnExactApplyCmdSaid := fnExactApplyCmd.proved
end Go.Proofs.Ytbhhgeecieeefaa
