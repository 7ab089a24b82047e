/- Written by a program of this session (wip/mk.py) over the kit's print: Lean checks it. The row of the law FnExactGoodReplica, for every input: out of its pure statement and the walk. -/
import Derived.Test.YtilmcfdhijdhpaaRows
import Derived.Test.YtilmcfdhijdhpaaQFnExactGoodReplicax15
import Derived.Test.YtilmcfdhijdhpaaQFnExactGoodReplicax16
import Derived.Test.YtilmcfdhijdhpaaOFnExactGoodReplica
import Derived.Test.YtilmcfdhijdhpaaPureFnExactGoodReplica
import Derived.WalkKit
import Derived.ProofKit
import Derived.OpenShut
import Derived.ShutString
import Derived.ChangeOld
import Derived.Below
import Derived.SizedLaws
namespace Go.Proofs.Ytilmcfdhijdhpaa.fnExactGoodReplica
open Go.ChangeShapes Go.WideShapes Go.ChangeAt Go.RowKit Go.Proofs.Ytilmcfdhijdhpaa.Opens Go.Proofs.Ytilmcfdhijdhpaa.QFnExactGoodReplica Go.Proofs.YtilmcfdhijdhpaaW.PrintWords
open Go.ChangeMaps (open_string shut_string)
set_option linter.unusedVariables false
theorem own : ownKnob Try.prog.godebug = none := by kernel_rfl
theorem laidOut : laidOutB Try.prog = true := by kernel_rfl
theorem op3 : Opens Try.prog 3 (Kd.int .i64) (fun x => (Lit.int .i64 x).wf = true) := opens_int Try.underlying3
set_option maxRecDepth 100000 in
theorem op104 : Opens Try.prog 104 k104 (fun x => q104 x) := Opens.imp (opens_struct (fun x : S104 => (x.f0, x.f1, x.f2, x.f3, x.f4)) (fun a => ⟨a.1, a.2.1, a.2.2.1, a.2.2.2.1, a.2.2.2.2⟩) (fun _ => rfl) Try.underlying104 (by kernel_rfl) (opensF_cons (by rfl) (by kernel_rfl) op3 (opensF_cons (by rfl) (by kernel_rfl) op3 (opensF_cons (by rfl) (by kernel_rfl) op3 (opensF_cons (by rfl) (by kernel_rfl) op3 (opensF_one (by rfl) (by kernel_rfl) op3)))))) (fun x h => by simpa only [q104] using h)
theorem op31 : Opens Try.prog 31 (Kd.slice 3 (Kd.int .i64)) (fun x => (x.length ≤ 9223372036854775807 ∧ ∀ y ∈ x, (Lit.int .i64 y).wf = true)) := opens_slice Try.underlying31 (by kernel_rfl) op3
set_option maxRecDepth 100000 in
theorem op105 : Opens Try.prog 105 k105 (fun x => q105 x) := Opens.imp (opens_struct (fun x : S105 => (x.f0, x.f1)) (fun a => ⟨a.1, a.2⟩) (fun _ => rfl) Try.underlying105 (by kernel_rfl) (opensF_cons (by rfl) (by kernel_rfl) op3 (opensF_one (by rfl) (by kernel_rfl) op31))) (fun x h => by simpa only [q105] using h)
set_option maxRecDepth 100000 in
theorem op132 : Opens Try.prog 132 k132 (fun x => q132 x) := Opens.imp (opens_struct (fun x : S132 => (x.f0, x.f1, x.f2, x.f3, x.f4)) (fun a => ⟨a.1, a.2.1, a.2.2.1, a.2.2.2.1, a.2.2.2.2⟩) (fun _ => rfl) Try.underlying132 (by kernel_rfl) (opensF_cons (by rfl) (by kernel_rfl) op3 (opensF_cons (by rfl) (by kernel_rfl) op3 (opensF_cons (by rfl) (by kernel_rfl) op3 (opensF_cons (by rfl) (by kernel_rfl) op104 (opensF_one (by rfl) (by kernel_rfl) op105)))))) (fun x h => by simpa only [q132] using h)
theorem op106 : Opens Try.prog 106 (Kd.slice 132 k132) (fun x => (x.length ≤ 9223372036854775807 ∧ ∀ y ∈ x, q132 y)) := opens_slice Try.underlying106 (by kernel_rfl) op132
theorem op43 : Opens Try.prog 43 (Kd.slice 106 (Kd.slice 132 k132)) (fun x => (x.length ≤ 9223372036854775807 ∧ ∀ y ∈ x, (y.length ≤ 9223372036854775807 ∧ ∀ yy ∈ y, q132 yy))) := opens_slice Try.underlying43 (by kernel_rfl) op106
set_option maxRecDepth 100000 in
theorem op45 : Opens Try.prog 45 k45 (fun x => q45 x) := Opens.imp (opens_struct (fun x : S45 => (x.f0, x.f1)) (fun a => ⟨a.1, a.2⟩) (fun _ => rfl) Try.underlying45 (by kernel_rfl) (opensF_cons (by rfl) (by kernel_rfl) op3 (opensF_one (by rfl) (by kernel_rfl) op43))) (fun x h => by simpa only [q45] using h)
theorem op4 : Opens Try.prog 4 Kd.bool (fun x => True) := opens_bool Try.underlying4
set_option maxRecDepth 100000 in
theorem op108 : Opens Try.prog 108 k108 (fun x => q108 x) := Opens.imp (opens_struct (fun x : S108 => (x.f0, x.f1, x.f2, x.f3, x.f4, x.f5, x.f6, x.f7, x.f8, x.f9)) (fun a => ⟨a.1, a.2.1, a.2.2.1, a.2.2.2.1, a.2.2.2.2.1, a.2.2.2.2.2.1, a.2.2.2.2.2.2.1, a.2.2.2.2.2.2.2.1, a.2.2.2.2.2.2.2.2.1, a.2.2.2.2.2.2.2.2.2⟩) (fun _ => rfl) Try.underlying108 (by kernel_rfl) (opensF_cons (by rfl) (by kernel_rfl) op3 (opensF_cons (by rfl) (by kernel_rfl) op3 (opensF_cons (by rfl) (by kernel_rfl) op3 (opensF_cons (by rfl) (by kernel_rfl) op3 (opensF_cons (by rfl) (by kernel_rfl) op104 (opensF_cons (by rfl) (by kernel_rfl) op105 (opensF_cons (by rfl) (by kernel_rfl) op105 (opensF_cons (by rfl) (by kernel_rfl) op4 (opensF_cons (by rfl) (by kernel_rfl) op31 (opensF_one (by rfl) (by kernel_rfl) op106))))))))))) (fun x h => by simpa only [q108] using h)
theorem op46 : Opens Try.prog 46 (Kd.slice 108 k108) (fun x => (x.length ≤ 9223372036854775807 ∧ ∀ y ∈ x, q108 y)) := opens_slice Try.underlying46 (by kernel_rfl) op108
set_option maxRecDepth 100000 in
theorem op48 : Opens Try.prog 48 k48 (fun x => q48 x) := Opens.imp (opens_struct (fun x : S48 => (x.f0, x.f1, x.f2)) (fun a => ⟨a.1, a.2.1, a.2.2⟩) (fun _ => rfl) Try.underlying48 (by kernel_rfl) (opensF_cons (by rfl) (by kernel_rfl) op3 (opensF_cons (by rfl) (by kernel_rfl) op45 (opensF_one (by rfl) (by kernel_rfl) op46)))) (fun x h => by simpa only [q48] using h)
set_option maxRecDepth 100000 in
set_option maxHeartbeats 1000000 in
theorem lifted (os : Os) (started : os.Started) (H : Type) (enc : TypeId × Value → H) :
    ReturnsInHanded {} Try.checked os 4 .any (Rows.fnExactGoodReplicaSpec.pre6 enc Try.prog Try.f4 Rows.fnExactGoodReplicaRow.domain false) (Rows.fnExactGoodReplicaSpec.post enc Try.prog Try.f4 false true false false) := by
  refine returnsInHanded_of_change_sized (C := Try.checked) own started (by kernel_rfl) Try.func4
    (ChangeSpec.witness6 (enc := enc) (C := Try.checked) false ⟨#[], #[.agg #[.int .i64 0, .int .i64 0, .slice none 0 0, .slice none 0 0]], []⟩ 8 (by kernel_rfl) (by kernel_rfl) (by kernel_rfl) (by kernel_rfl)) ?_
  intro W base args ds gs before hval0 hW hcnd _ _
  have hval : ∀ (j : Nat) t v, Try.f4.params[j]? = some t → args[j]? = some v → Value.okWide Try.prog W .any base t v := hval0
  have hW' := hW
  obtain ⟨p, q, hA0, hV, rfl, hfz, hnd⟩ := hW
  have hA : DataW.TrodAll enc Try.prog W 0 (fun _ => true) true Try.f4.params.toList args.toList ds p := hA0
  rw [Try.params4] at hA hval
  obtain ⟨v0, vs0, d0, ds0, p0, q0, hargs, rfl, rfl, h0, r0⟩ := trodAll_cons hA
  obtain ⟨rfl, rfl, rfl⟩ := trodAll_nil r0
  obtain rfl : args = #[v0] := by cases args; simp_all
  obtain ⟨rfl, rfl⟩ := trodVars_none hV
  have k0 := h0
  have lt0 : ∀ x ∈ p0, x.block < W.heap.size := by obtain ⟨m, hm⟩ := k0; exact DataW.trod_lt m _ _ _ hm
  obtain ⟨fuel0, hf0⟩ := h0
  obtain ⟨cs0, rfl, hz0⟩ := agg_of Try.underlying48 (hval 0 48 v0 rfl rfl)
  obtain ⟨x0, hK0, hq0⟩ := op48.out enc W 0 _ _ fuel0 _ _ hf0
  obtain ⟨A0_2, c0_2, A0_3, c0_3, hcs0, hc0_2, hr0_2, hc0_3, hr0_3⟩ := k48_open hK0
  obtain rfl : cs0 = #[.int .i64 x0.f0, .int .i64 x0.f1.f0, .slice A0_2 x0.f1.f1.length c0_2, .slice A0_3 x0.f2.length c0_3] := by rw [hz0] at hcs0; rw [← hcs0]
  clear hA0 hval0
  have h := Pure.FnExactGoodReplica x0 hq0
  refine (laws_FnExactGoodReplica.calls x0.f0 x0.f1.f0 _ _ x0.f1.f1 _ _ x0.f2 W hr0_2 hc0_2 hr0_3 hc0_3 h).mono fun e W' ⟨he, bel0⟩ => ?_
  have bel : Below W.heap.size W W' := bel0
  subst he
  exact ⟨_, rfl, _, _, _, [], _, [], hW', trodAll_mk1 (shut_bool Try.underlying4 _), (trodAll_cons_mk (Below.trod laidOut (by kernel_rfl) (of_decide_eq_true (by kernel_rfl)) k0 bel lt0) trodAll_mk0), rfl, bel.frame _, fun h => by cases h⟩
theorem over : Rows.fnExactGoodReplicaRow.holds Try.pinned (OpenSpec.ofChange Rows.fnExactGoodReplicaSpec) :=
  OpenClaim.holds_of_wide 4 Try.f4 rfl rfl rfl rfl rfl rfl rfl ⟨rfl, rfl, rfl, rfl, rfl⟩ rfl rfl rfl rfl rfl (by kernel_rfl) Try.func4 (by kernel_rfl)
    (of_decide_eq_true (by kernel_rfl)) (by unfold Func.isWrapper; first | (rw [if_pos (by decide +kernel)]; kernel_rfl) | (rw [if_neg (by decide +kernel)]; exact ⟨rfl, rfl⟩))
    (fun os started H enc _ => lifted os started H enc)
theorem proved : Rows.FnExactGoodReplicaSaid := over
#print axioms proved
end Go.Proofs.Ytilmcfdhijdhpaa.fnExactGoodReplica
namespace Go.Proofs.Ytilmcfdhijdhpaa
/-- The row, under a short name, for the claim. -/
theorem fnExactGoodReplica_holds : Rows.FnExactGoodReplicaSaid := fnExactGoodReplica.proved
end Go.Proofs.Ytilmcfdhijdhpaa
