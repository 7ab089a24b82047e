/- Written by a program of this session (wip/mk.py) over the kit's print: Lean checks it. The row of the law FnExactJoinAttr, for every input: out of its pure statement and the walk. -/
import Derived.Test.YtnkdplemnikkhaaRows
import Derived.Test.YtnkdplemnikkhaaQFnExactJoinAttrx4
import Derived.Test.YtnkdplemnikkhaaQFnExactJoinAttrx5
import Derived.Test.YtnkdplemnikkhaaOpens
import Derived.Test.YtnkdplemnikkhaaPureFnExactJoinAttr
import Derived.WalkKit
import Derived.ProofKit
import Derived.OpenShut
import Derived.ShutString
import Derived.ChangeOld
import Derived.Below
import Derived.SizedLaws
namespace Go.Proofs.Ytnkdplemnikkhaa.fnExactJoinAttr
open Go.ChangeShapes Go.WideShapes Go.ChangeAt Go.RowKit Go.Proofs.Ytnkdplemnikkhaa.Opens Go.Proofs.Ytnkdplemnikkhaa.QFnExactJoinAttr Go.Proofs.YtnkdplemnikkhaaW.PrintWords
open Go.ChangeMaps (open_string shut_string)
set_option linter.unusedVariables false
theorem own : ownKnob Try.prog.godebug = none := by kernel_rfl
theorem laidOut : laidOutB Try.prog = true := by kernel_rfl
theorem op3 : Opens Try.prog 3 (Kd.int .i64) (fun x => (Lit.int .i64 x).wf = true) := opens_int Try.underlying3
theorem op22 : Opens Try.prog 22 (Kd.slice 3 (Kd.int .i64)) (fun x => (x.length ≤ 9223372036854775807 ∧ ∀ y ∈ x, (Lit.int .i64 y).wf = true)) := opens_slice Try.underlying22 (by kernel_rfl) op3
set_option maxRecDepth 100000 in
theorem op24 : Opens Try.prog 24 k24 (fun x => q24 x) := Opens.imp (opens_struct (fun x : S24 => (x.f0, x.f1)) (fun a => ⟨a.1, a.2⟩) (fun _ => rfl) Try.underlying24 (by kernel_rfl) (opensF_cons (by rfl) (by kernel_rfl) op3 (opensF_one (by rfl) (by kernel_rfl) op22))) (fun x h => by simpa only [q24] using h)
set_option maxRecDepth 100000 in
set_option maxHeartbeats 1000000 in
theorem lifted (os : Os) (started : os.Started) (H : Type) (enc : TypeId × Value → H) :
    ReturnsInHanded {} Try.checked os 4 .any (Rows.fnExactJoinAttrSpec.pre6 enc Try.prog Try.f4 Rows.fnExactJoinAttrRow.domain false) (Rows.fnExactJoinAttrSpec.post enc Try.prog Try.f4 false true false false) := by
  refine returnsInHanded_of_change_sized (C := Try.checked) own started (by kernel_rfl) Try.func4
    (ChangeSpec.witness6 (enc := enc) (C := Try.checked) false ⟨#[], #[.int .i64 0, .agg #[.int .i64 0, .slice none 0 0], .agg #[.int .i64 0, .slice none 0 0]], []⟩ 8 (by kernel_rfl) (by kernel_rfl) (by kernel_rfl) (by kernel_rfl)) ?_
  intro W base args ds gs before hval0 hW hcnd _ _
  have hval : ∀ (j : Nat) t v, Try.f4.params[j]? = some t → args[j]? = some v → Value.okWide Try.prog W .any base t v := hval0
  have hW' := hW
  obtain ⟨p, q, hA0, hV, rfl, hfz, hnd⟩ := hW
  have hA : DataW.TrodAll enc Try.prog W 0 (fun _ => true) true Try.f4.params.toList args.toList ds p := hA0
  rw [Try.params4] at hA hval
  obtain ⟨v0, vs0, d0, ds0, p0, q0, hargs, rfl, rfl, h0, r0⟩ := trodAll_cons hA
  obtain ⟨v1, vs1, d1, ds1, p1, q1, rfl, rfl, rfl, h1, r1⟩ := trodAll_cons r0
  obtain ⟨v2, vs2, d2, ds2, p2, q2, rfl, rfl, rfl, h2, r2⟩ := trodAll_cons r1
  obtain ⟨rfl, rfl, rfl⟩ := trodAll_nil r2
  obtain rfl : args = #[v0, v1, v2] := by cases args; simp_all
  obtain ⟨rfl, rfl⟩ := trodVars_none hV
  obtain ⟨a0, rfl, rfl, rfl, w0⟩ := open_int Try.underlying3 (hval 0 3 v0 rfl rfl) h0
  have k1 := h1
  have lt1 : ∀ x ∈ p1, x.block < W.heap.size := by obtain ⟨m, hm⟩ := k1; exact DataW.trod_lt m _ _ _ hm
  obtain ⟨fuel1, hf1⟩ := h1
  obtain ⟨cs1, rfl, hz1⟩ := agg_of Try.underlying24 (hval 1 24 v1 rfl rfl)
  obtain ⟨x1, hK1, hq1⟩ := op24.out enc W 0 _ _ fuel1 _ _ hf1
  obtain ⟨A1_1, c1_1, hcs1, hc1_1, hr1_1⟩ := k24_open hK1
  obtain rfl : cs1 = #[.int .i64 x1.f0, .slice A1_1 x1.f1.length c1_1] := by rw [hz1] at hcs1; rw [← hcs1]
  have k2 := h2
  have lt2 : ∀ x ∈ p2, x.block < W.heap.size := by obtain ⟨m, hm⟩ := k2; exact DataW.trod_lt m _ _ _ hm
  obtain ⟨fuel2, hf2⟩ := h2
  obtain ⟨cs2, rfl, hz2⟩ := agg_of Try.underlying24 (hval 2 24 v2 rfl rfl)
  obtain ⟨x2, hK2, hq2⟩ := op24.out enc W 0 _ _ fuel2 _ _ hf2
  obtain ⟨A2_1, c2_1, hcs2, hc2_1, hr2_1⟩ := k24_open hK2
  obtain rfl : cs2 = #[.int .i64 x2.f0, .slice A2_1 x2.f1.length c2_1] := by rw [hz2] at hcs2; rw [← hcs2]
  clear hA0 hval0
  have h := Pure.FnExactJoinAttr a0 x1 x2 w0 hq1 hq2
  refine (laws_FnExactJoinAttr.calls a0 x1.f0 _ _ x1.f1 x2.f0 _ _ x2.f1 W hr1_1 hc1_1 hr2_1 hc2_1 h).mono fun e W' ⟨he, bel0⟩ => ?_
  have bel : Below W.heap.size W W' := bel0
  subst he
  exact ⟨_, rfl, _, _, _, [], _, [], hW', trodAll_mk1 (shut_bool Try.underlying4 _), (trodAll_cons_mk (shut_int Try.underlying3 w0) (trodAll_cons_mk (Below.trod laidOut (by kernel_rfl) (of_decide_eq_true (by kernel_rfl)) k1 bel lt1) (trodAll_cons_mk (Below.trod laidOut (by kernel_rfl) (of_decide_eq_true (by kernel_rfl)) k2 bel lt2) trodAll_mk0))), rfl, bel.frame _, fun h => by cases h⟩
theorem over : Rows.fnExactJoinAttrRow.holds Try.pinned (OpenSpec.ofChange Rows.fnExactJoinAttrSpec) :=
  OpenClaim.holds_of_wide 4 Try.f4 rfl rfl rfl rfl rfl rfl rfl ⟨rfl, rfl, rfl, rfl, rfl⟩ rfl rfl rfl rfl rfl (by kernel_rfl) Try.func4 (by kernel_rfl)
    (of_decide_eq_true (by kernel_rfl)) (by unfold Func.isWrapper; first | (rw [if_pos (by decide +kernel)]; kernel_rfl) | (rw [if_neg (by decide +kernel)]; exact ⟨rfl, rfl⟩))
    (fun os started H enc _ => lifted os started H enc)
theorem proved : Rows.FnExactJoinAttrSaid := over
#print axioms proved
end Go.Proofs.Ytnkdplemnikkhaa.fnExactJoinAttr
namespace Go.Proofs.Ytnkdplemnikkhaa
/-- The row, under a short name, for the claim. -/
theorem fnExactJoinAttr_holds : Rows.FnExactJoinAttrSaid := fnExactJoinAttr.proved
end Go.Proofs.Ytnkdplemnikkhaa
