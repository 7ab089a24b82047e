/- Written by a program of this session (wip/mk.py) over the kit's print: Lean checks it. The row of the law FnExactSameMsg, for every input: out of its pure statement and the walk. -/
import Derived.Test.YtphjjidoniideaaRows
import Derived.Test.YtphjjidoniideaaQFnExactSameMsgx4
import Derived.Test.YtphjjidoniideaaQFnExactSameMsgx4
import Derived.Test.YtphjjidoniideaaOpens
import Derived.Test.YtphjjidoniideaaPureFnExactSameMsg
import Derived.WalkKit
import Derived.ProofKit
import Derived.OpenShut
import Derived.ShutString
import Derived.ChangeOld
import Derived.Below
import Derived.SizedLaws
namespace Go.Proofs.Ytphjjidoniideaa.fnExactSameMsg
open Go.ChangeShapes Go.WideShapes Go.ChangeAt Go.RowKit Go.Proofs.Ytphjjidoniideaa.Opens Go.Proofs.Ytphjjidoniideaa.QFnExactSameMsg Go.Proofs.YtphjjidoniideaaW.PrintWords
open Go.ChangeMaps (open_string shut_string)
set_option linter.unusedVariables false
theorem own : ownKnob Try.prog.godebug = none := by kernel_rfl
theorem laidOut : laidOutB Try.prog = true := by kernel_rfl
theorem op3 : Opens Try.prog 3 (Kd.int .i64) (fun x => (Lit.int .i64 x).wf = true) := opens_int Try.underlying3
set_option maxRecDepth 100000 in
theorem op58 : Opens Try.prog 58 k58 (fun x => q58 x) := Opens.imp (opens_struct (fun x : S58 => (x.f0, x.f1, x.f2, x.f3, x.f4)) (fun a => ⟨a.1, a.2.1, a.2.2.1, a.2.2.2.1, a.2.2.2.2⟩) (fun _ => rfl) Try.underlying58 (by kernel_rfl) (opensF_cons (by rfl) (by kernel_rfl) op3 (opensF_cons (by rfl) (by kernel_rfl) op3 (opensF_cons (by rfl) (by kernel_rfl) op3 (opensF_cons (by rfl) (by kernel_rfl) op3 (opensF_one (by rfl) (by kernel_rfl) op3)))))) (fun x h => by simpa only [q58] using h)
theorem op37 : Opens Try.prog 37 (Kd.slice 3 (Kd.int .i64)) (fun x => (x.length ≤ 9223372036854775807 ∧ ∀ y ∈ x, (Lit.int .i64 y).wf = true)) := opens_slice Try.underlying37 (by kernel_rfl) op3
set_option maxRecDepth 100000 in
theorem op60 : Opens Try.prog 60 k60 (fun x => q60 x) := Opens.imp (opens_struct (fun x : S60 => (x.f0, x.f1)) (fun a => ⟨a.1, a.2⟩) (fun _ => rfl) Try.underlying60 (by kernel_rfl) (opensF_cons (by rfl) (by kernel_rfl) op3 (opensF_one (by rfl) (by kernel_rfl) op37))) (fun x h => by simpa only [q60] using h)
set_option maxRecDepth 100000 in
theorem op62 : Opens Try.prog 62 k62 (fun x => q62 x) := Opens.imp (opens_struct (fun x : S62 => (x.f0, x.f1, x.f2, x.f3, x.f4, x.f5, x.f6, x.f7, x.f8, x.f9)) (fun a => ⟨a.1, a.2.1, a.2.2.1, a.2.2.2.1, a.2.2.2.2.1, a.2.2.2.2.2.1, a.2.2.2.2.2.2.1, a.2.2.2.2.2.2.2.1, a.2.2.2.2.2.2.2.2.1, a.2.2.2.2.2.2.2.2.2⟩) (fun _ => rfl) Try.underlying62 (by kernel_rfl) (opensF_cons (by rfl) (by kernel_rfl) op3 (opensF_cons (by rfl) (by kernel_rfl) op3 (opensF_cons (by rfl) (by kernel_rfl) op3 (opensF_cons (by rfl) (by kernel_rfl) op3 (opensF_cons (by rfl) (by kernel_rfl) op3 (opensF_cons (by rfl) (by kernel_rfl) op3 (opensF_cons (by rfl) (by kernel_rfl) op3 (opensF_cons (by rfl) (by kernel_rfl) op3 (opensF_cons (by rfl) (by kernel_rfl) op58 (opensF_one (by rfl) (by kernel_rfl) op60))))))))))) (fun x h => by simpa only [q62] using h)
set_option maxRecDepth 100000 in
set_option maxHeartbeats 1000000 in
theorem lifted (os : Os) (started : os.Started) (H : Type) (enc : TypeId × Value → H) :
    ReturnsInHanded {} Try.checked os 6 .any (Rows.fnExactSameMsgSpec.pre6 enc Try.prog Try.f6 Rows.fnExactSameMsgRow.domain false) (Rows.fnExactSameMsgSpec.post enc Try.prog Try.f6 false true false false) := by
  refine returnsInHanded_of_change_sized (C := Try.checked) own started (by kernel_rfl) Try.func6
    (ChangeSpec.witness6 (enc := enc) (C := Try.checked) false ⟨#[], #[.agg #[.int .i64 0, .int .i64 0, .int .i64 0, .int .i64 0, .int .i64 0, .int .i64 0, .int .i64 0, .int .i64 0, .int .i64 0, .int .i64 0, .int .i64 0, .int .i64 0, .int .i64 0, .int .i64 0, .slice none 0 0], .agg #[.int .i64 0, .int .i64 0, .int .i64 0, .int .i64 0, .int .i64 0, .int .i64 0, .int .i64 0, .int .i64 0, .int .i64 0, .int .i64 0, .int .i64 0, .int .i64 0, .int .i64 0, .int .i64 0, .slice none 0 0]], []⟩ 8 (by kernel_rfl) (by kernel_rfl) (by kernel_rfl) (by kernel_rfl)) ?_
  intro W base args ds gs before hval0 hW hcnd _ _
  have hval : ∀ (j : Nat) t v, Try.f6.params[j]? = some t → args[j]? = some v → Value.okWide Try.prog W .any base t v := hval0
  have hW' := hW
  obtain ⟨p, q, hA0, hV, rfl, hfz, hnd⟩ := hW
  have hA : DataW.TrodAll enc Try.prog W 0 (fun _ => true) true Try.f6.params.toList args.toList ds p := hA0
  rw [Try.params6] at hA hval
  obtain ⟨v0, vs0, d0, ds0, p0, q0, hargs, rfl, rfl, h0, r0⟩ := trodAll_cons hA
  obtain ⟨v1, vs1, d1, ds1, p1, q1, rfl, rfl, rfl, h1, r1⟩ := trodAll_cons r0
  obtain ⟨rfl, rfl, rfl⟩ := trodAll_nil r1
  obtain rfl : args = #[v0, v1] := by cases args; simp_all
  obtain ⟨rfl, rfl⟩ := trodVars_none hV
  have k0 := h0
  have lt0 : ∀ x ∈ p0, x.block < W.heap.size := by obtain ⟨m, hm⟩ := k0; exact DataW.trod_lt m _ _ _ hm
  obtain ⟨fuel0, hf0⟩ := h0
  obtain ⟨cs0, rfl, hz0⟩ := agg_of Try.underlying62 (hval 0 62 v0 rfl rfl)
  obtain ⟨x0, hK0, hq0⟩ := op62.out enc W 0 _ _ fuel0 _ _ hf0
  obtain ⟨A0_14, c0_14, hcs0, hc0_14, hr0_14⟩ := k62_open hK0
  obtain rfl : cs0 = #[.int .i64 x0.f0, .int .i64 x0.f1, .int .i64 x0.f2, .int .i64 x0.f3, .int .i64 x0.f4, .int .i64 x0.f5, .int .i64 x0.f6, .int .i64 x0.f7, .int .i64 x0.f8.f0, .int .i64 x0.f8.f1, .int .i64 x0.f8.f2, .int .i64 x0.f8.f3, .int .i64 x0.f8.f4, .int .i64 x0.f9.f0, .slice A0_14 x0.f9.f1.length c0_14] := by rw [hz0] at hcs0; rw [← hcs0]
  have k1 := h1
  have lt1 : ∀ x ∈ p1, x.block < W.heap.size := by obtain ⟨m, hm⟩ := k1; exact DataW.trod_lt m _ _ _ hm
  obtain ⟨fuel1, hf1⟩ := h1
  obtain ⟨cs1, rfl, hz1⟩ := agg_of Try.underlying62 (hval 1 62 v1 rfl rfl)
  obtain ⟨x1, hK1, hq1⟩ := op62.out enc W 0 _ _ fuel1 _ _ hf1
  obtain ⟨A1_14, c1_14, hcs1, hc1_14, hr1_14⟩ := k62_open hK1
  obtain rfl : cs1 = #[.int .i64 x1.f0, .int .i64 x1.f1, .int .i64 x1.f2, .int .i64 x1.f3, .int .i64 x1.f4, .int .i64 x1.f5, .int .i64 x1.f6, .int .i64 x1.f7, .int .i64 x1.f8.f0, .int .i64 x1.f8.f1, .int .i64 x1.f8.f2, .int .i64 x1.f8.f3, .int .i64 x1.f8.f4, .int .i64 x1.f9.f0, .slice A1_14 x1.f9.f1.length c1_14] := by rw [hz1] at hcs1; rw [← hcs1]
  clear hA0 hval0
  have h := Pure.FnExactSameMsg x0 x1 hq0 hq1
  refine (laws_FnExactSameMsg.calls x0.f0 x0.f1 x0.f2 x0.f3 x0.f4 x0.f5 x0.f6 x0.f7 x0.f8.f0 x0.f8.f1 x0.f8.f2 x0.f8.f3 x0.f8.f4 x0.f9.f0 _ _ x0.f9.f1 x1.f0 x1.f1 x1.f2 x1.f3 x1.f4 x1.f5 x1.f6 x1.f7 x1.f8.f0 x1.f8.f1 x1.f8.f2 x1.f8.f3 x1.f8.f4 x1.f9.f0 _ _ x1.f9.f1 W hr0_14 hc0_14 hr1_14 hc1_14 h).mono fun e W' ⟨he, bel0⟩ => ?_
  have bel : Below W.heap.size W W' := bel0
  subst he
  exact ⟨_, rfl, _, _, _, [], _, [], hW', trodAll_mk1 (shut_bool Try.underlying4 _), (trodAll_cons_mk (Below.trod laidOut (by kernel_rfl) (of_decide_eq_true (by kernel_rfl)) k0 bel lt0) (trodAll_cons_mk (Below.trod laidOut (by kernel_rfl) (of_decide_eq_true (by kernel_rfl)) k1 bel lt1) trodAll_mk0)), rfl, bel.frame _, fun h => by cases h⟩
theorem over : Rows.fnExactSameMsgRow.holds Try.pinned (OpenSpec.ofChange Rows.fnExactSameMsgSpec) :=
  OpenClaim.holds_of_wide 6 Try.f6 rfl rfl rfl rfl rfl rfl rfl ⟨rfl, rfl, rfl, rfl, rfl⟩ rfl rfl rfl rfl rfl (by kernel_rfl) Try.func6 (by kernel_rfl)
    (of_decide_eq_true (by kernel_rfl)) (by unfold Func.isWrapper; first | (rw [if_pos (by decide +kernel)]; kernel_rfl) | (rw [if_neg (by decide +kernel)]; exact ⟨rfl, rfl⟩))
    (fun os started H enc _ => lifted os started H enc)
theorem proved : Rows.FnExactSameMsgSaid := over
#print axioms proved
end Go.Proofs.Ytphjjidoniideaa.fnExactSameMsg
namespace Go.Proofs.Ytphjjidoniideaa
/-- The row, under a short name, for the claim. -/
theorem fnExactSameMsg_holds : Rows.FnExactSameMsgSaid := fnExactSameMsg.proved
end Go.Proofs.Ytphjjidoniideaa
