/- Written by a program of this session (wip/mk.py) over the kit's print: Lean checks it. The row of the law FnExactGoodCmd, for every input: out of its pure statement and the walk. -/
import Derived.Test.YtjecngfaadejcaaRows
import Derived.Test.YtjecngfaadejcaaQFnExactGoodCmdx2
import Derived.Test.YtjecngfaadejcaaQFnExactGoodCmdx2
import Derived.Test.YtjecngfaadejcaaOpens
import Derived.Test.YtjecngfaadejcaaPureFnExactGoodCmd
import Derived.WalkKit
import Derived.ProofKit
import Derived.OpenShut
import Derived.ShutString
import Derived.ChangeOld
import Derived.Below
import Derived.SizedLaws
namespace Go.Proofs.Ytjecngfaadejcaa.fnExactGoodCmd
open Go.ChangeShapes Go.WideShapes Go.ChangeAt Go.RowKit Go.Proofs.Ytjecngfaadejcaa.Opens Go.Proofs.Ytjecngfaadejcaa.QFnExactGoodCmd Go.Proofs.YtjecngfaadejcaaW.PrintWords
open Go.ChangeMaps (open_string shut_string)
set_option linter.unusedVariables false
theorem own : ownKnob Try.prog.godebug = none := by kernel_rfl
theorem laidOut : laidOutB Try.prog = true := by kernel_rfl
theorem op3 : Opens Try.prog 3 (Kd.int .i64) (fun x => (Lit.int .i64 x).wf = true) := opens_int Try.underlying3
set_option maxRecDepth 100000 in
theorem op32 : Opens Try.prog 32 k32 (fun x => q32 x) := Opens.imp (opens_struct (fun x : S32 => (x.f0, x.f1, x.f2, x.f3, x.f4)) (fun a => ⟨a.1, a.2.1, a.2.2.1, a.2.2.2.1, a.2.2.2.2⟩) (fun _ => rfl) Try.underlying32 (by kernel_rfl) (opensF_cons (by rfl) (by kernel_rfl) op3 (opensF_cons (by rfl) (by kernel_rfl) op3 (opensF_cons (by rfl) (by kernel_rfl) op3 (opensF_cons (by rfl) (by kernel_rfl) op3 (opensF_one (by rfl) (by kernel_rfl) op3)))))) (fun x h => by simpa only [q32] using h)
set_option maxRecDepth 100000 in
set_option maxHeartbeats 1000000 in
theorem lifted (os : Os) (started : os.Started) (H : Type) (enc : TypeId × Value → H) :
    ReturnsInHanded {} Try.checked os 8 .any (Rows.fnExactGoodCmdSpec.pre6 enc Try.prog Try.f8 Rows.fnExactGoodCmdRow.domain false) (Rows.fnExactGoodCmdSpec.post enc Try.prog Try.f8 false true false false) := by
  refine returnsInHanded_of_change_sized (C := Try.checked) own started (by kernel_rfl) Try.func8
    (ChangeSpec.witness6 (enc := enc) (C := Try.checked) false ⟨#[], #[.agg #[.int .i64 0, .int .i64 0, .int .i64 0, .int .i64 0, .int .i64 0]], []⟩ 8 (by kernel_rfl) (by kernel_rfl) (by kernel_rfl) (by kernel_rfl)) ?_
  intro W base args ds gs before hval0 hW hcnd _ _
  have hval : ∀ (j : Nat) t v, Try.f8.params[j]? = some t → args[j]? = some v → Value.okWide Try.prog W .any base t v := hval0
  have hW' := hW
  obtain ⟨p, q, hA0, hV, rfl, hfz, hnd⟩ := hW
  have hA : DataW.TrodAll enc Try.prog W 0 (fun _ => true) true Try.f8.params.toList args.toList ds p := hA0
  rw [Try.params8] at hA hval
  obtain ⟨v0, vs0, d0, ds0, p0, q0, hargs, rfl, rfl, h0, r0⟩ := trodAll_cons hA
  obtain ⟨rfl, rfl, rfl⟩ := trodAll_nil r0
  obtain rfl : args = #[v0] := by cases args; simp_all
  obtain ⟨rfl, rfl⟩ := trodVars_none hV
  have k0 := h0
  have lt0 : ∀ x ∈ p0, x.block < W.heap.size := by obtain ⟨m, hm⟩ := k0; exact DataW.trod_lt m _ _ _ hm
  obtain ⟨fuel0, hf0⟩ := h0
  obtain ⟨cs0, rfl, hz0⟩ := agg_of Try.underlying32 (hval 0 32 v0 rfl rfl)
  obtain ⟨x0, hK0, hq0⟩ := op32.out enc W 0 _ _ fuel0 _ _ hf0
  obtain hcs0 := k32_open hK0
  obtain rfl : cs0 = #[.int .i64 x0.f0, .int .i64 x0.f1, .int .i64 x0.f2, .int .i64 x0.f3, .int .i64 x0.f4] := by rw [hz0] at hcs0; rw [← hcs0]
  clear hA0 hval0
  have h := Pure.FnExactGoodCmd x0 hq0
  refine (laws_FnExactGoodCmd.calls x0.f0 x0.f1 x0.f2 x0.f3 x0.f4 true W  h).mono fun e W' ⟨he, bel0⟩ => ?_
  have bel : Below W.heap.size W W' := bel0
  subst he
  exact ⟨_, rfl, _, _, _, [], _, [], hW', trodAll_mk1 (shut_bool Try.underlying4 _), (trodAll_cons_mk (Below.trod laidOut (by kernel_rfl) (of_decide_eq_true (by kernel_rfl)) k0 bel lt0) trodAll_mk0), rfl, bel.frame _, fun h => by cases h⟩
theorem over : Rows.fnExactGoodCmdRow.holds Try.pinned (OpenSpec.ofChange Rows.fnExactGoodCmdSpec) :=
  OpenClaim.holds_of_wide 8 Try.f8 rfl rfl rfl rfl rfl rfl rfl ⟨rfl, rfl, rfl, rfl, rfl⟩ rfl rfl rfl rfl rfl (by kernel_rfl) Try.func8 (by kernel_rfl)
    (of_decide_eq_true (by kernel_rfl)) (by unfold Func.isWrapper; first | (rw [if_pos (by decide +kernel)]; kernel_rfl) | (rw [if_neg (by decide +kernel)]; exact ⟨rfl, rfl⟩))
    (fun os started H enc _ => lifted os started H enc)
theorem proved : Rows.FnExactGoodCmdSaid := over
#print axioms proved
end Go.Proofs.Ytjecngfaadejcaa.fnExactGoodCmd
namespace Go.Proofs.Ytjecngfaadejcaa
/-- The row, under a short name, for the claim. -/
theorem fnExactGoodCmd_holds : Rows.FnExactGoodCmdSaid := fnExactGoodCmd.proved
end Go.Proofs.Ytjecngfaadejcaa
