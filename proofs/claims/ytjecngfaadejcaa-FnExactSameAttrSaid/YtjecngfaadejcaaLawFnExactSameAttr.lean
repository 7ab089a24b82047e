/- Written by a program of this session (wip/mk.py) over the kit's print: Lean checks it. The row of the law FnExactSameAttr, for every input: out of its pure statement and the walk. -/
import Derived.Test.YtjecngfaadejcaaRows
import Derived.Test.YtjecngfaadejcaaQFnExactSameAttrx2
import Derived.Test.YtjecngfaadejcaaQFnExactSameAttrx3
import Derived.Test.YtjecngfaadejcaaOpens
import Derived.Test.YtjecngfaadejcaaPureFnExactSameAttr
import Derived.WalkKit
import Derived.ProofKit
import Derived.OpenShut
import Derived.ShutString
import Derived.ChangeOld
import Derived.Below
import Derived.SizedLaws
namespace Go.Proofs.Ytjecngfaadejcaa.fnExactSameAttr
open Go.ChangeShapes Go.WideShapes Go.ChangeAt Go.RowKit Go.Proofs.Ytjecngfaadejcaa.Opens Go.Proofs.Ytjecngfaadejcaa.QFnExactSameAttr Go.Proofs.YtjecngfaadejcaaW.PrintWords
open Go.ChangeMaps (open_string shut_string)
set_option linter.unusedVariables false
theorem own : ownKnob Try.prog.godebug = none := by kernel_rfl
theorem laidOut : laidOutB Try.prog = true := by kernel_rfl
theorem op3 : Opens Try.prog 3 (Kd.int .i64) (fun x => (Lit.int .i64 x).wf = true) := opens_int Try.underlying3
theorem op37 : Opens Try.prog 37 (Kd.slice 3 (Kd.int .i64)) (fun x => (x.length ≤ 9223372036854775807 ∧ ∀ y ∈ x, (Lit.int .i64 y).wf = true)) := opens_slice Try.underlying37 (by kernel_rfl) op3
set_option maxRecDepth 100000 in
theorem op48 : Opens Try.prog 48 k48 (fun x => q48 x) := Opens.imp (opens_struct (fun x : S48 => (x.f0, x.f1)) (fun a => ⟨a.1, a.2⟩) (fun _ => rfl) Try.underlying48 (by kernel_rfl) (opensF_cons (by rfl) (by kernel_rfl) op3 (opensF_one (by rfl) (by kernel_rfl) op37))) (fun x h => by simpa only [q48] using h)
set_option maxRecDepth 100000 in
set_option maxHeartbeats 1000000 in
theorem lifted (os : Os) (started : os.Started) (H : Type) (enc : TypeId × Value → H) :
    ReturnsInHanded {} Try.checked os 12 .any (Rows.fnExactSameAttrSpec.pre6 enc Try.prog Try.f12 Rows.fnExactSameAttrRow.domain false) (Rows.fnExactSameAttrSpec.post enc Try.prog Try.f12 false true false false) := by
  refine returnsInHanded_of_change_sized (C := Try.checked) own started (by kernel_rfl) Try.func12
    (ChangeSpec.witness6 (enc := enc) (C := Try.checked) false ⟨#[], #[.agg #[.int .i64 0, .slice none 0 0], .agg #[.int .i64 0, .slice none 0 0]], []⟩ 8 (by kernel_rfl) (by kernel_rfl) (by kernel_rfl) (by kernel_rfl)) ?_
  intro W base args ds gs before hval0 hW hcnd _ _
  have hval : ∀ (j : Nat) t v, Try.f12.params[j]? = some t → args[j]? = some v → Value.okWide Try.prog W .any base t v := hval0
  have hW' := hW
  obtain ⟨p, q, hA0, hV, rfl, hfz, hnd⟩ := hW
  have hA : DataW.TrodAll enc Try.prog W 0 (fun _ => true) true Try.f12.params.toList args.toList ds p := hA0
  rw [Try.params12] at hA hval
  obtain ⟨v0, vs0, d0, ds0, p0, q0, hargs, rfl, rfl, h0, r0⟩ := trodAll_cons hA
  obtain ⟨v1, vs1, d1, ds1, p1, q1, rfl, rfl, rfl, h1, r1⟩ := trodAll_cons r0
  obtain ⟨rfl, rfl, rfl⟩ := trodAll_nil r1
  obtain rfl : args = #[v0, v1] := by cases args; simp_all
  obtain ⟨rfl, rfl⟩ := trodVars_none hV
  have k0 := h0
  have lt0 : ∀ x ∈ p0, x.block < W.heap.size := by obtain ⟨m, hm⟩ := k0; exact DataW.trod_lt m _ _ _ hm
  obtain ⟨fuel0, hf0⟩ := h0
  obtain ⟨cs0, rfl, hz0⟩ := agg_of Try.underlying48 (hval 0 48 v0 rfl rfl)
  obtain ⟨x0, hK0, hq0⟩ := op48.out enc W 0 _ _ fuel0 _ _ hf0
  obtain ⟨A0_1, c0_1, hcs0, hc0_1, hr0_1⟩ := k48_open hK0
  obtain rfl : cs0 = #[.int .i64 x0.f0, .slice A0_1 x0.f1.length c0_1] := by rw [hz0] at hcs0; rw [← hcs0]
  have k1 := h1
  have lt1 : ∀ x ∈ p1, x.block < W.heap.size := by obtain ⟨m, hm⟩ := k1; exact DataW.trod_lt m _ _ _ hm
  obtain ⟨fuel1, hf1⟩ := h1
  obtain ⟨cs1, rfl, hz1⟩ := agg_of Try.underlying48 (hval 1 48 v1 rfl rfl)
  obtain ⟨x1, hK1, hq1⟩ := op48.out enc W 0 _ _ fuel1 _ _ hf1
  obtain ⟨A1_1, c1_1, hcs1, hc1_1, hr1_1⟩ := k48_open hK1
  obtain rfl : cs1 = #[.int .i64 x1.f0, .slice A1_1 x1.f1.length c1_1] := by rw [hz1] at hcs1; rw [← hcs1]
  clear hA0 hval0
  obtain ⟨k, h⟩ := Pure.FnExactSameAttr x0 x1 hq0 hq1
  refine (laws_FnExactSameAttr.calls k x0.f0 _ _ x0.f1 x1.f0 _ _ x1.f1 true W hr0_1 hc0_1 hr1_1 hc1_1 h).mono fun e W' ⟨he, bel0⟩ => ?_
  have bel : Below W.heap.size W W' := bel0
  subst he
  exact ⟨_, rfl, _, _, _, [], _, [], hW', trodAll_mk1 (shut_bool Try.underlying4 _), (trodAll_cons_mk (Below.trod laidOut (by kernel_rfl) (of_decide_eq_true (by kernel_rfl)) k0 bel lt0) (trodAll_cons_mk (Below.trod laidOut (by kernel_rfl) (of_decide_eq_true (by kernel_rfl)) k1 bel lt1) trodAll_mk0)), rfl, bel.frame _, fun h => by cases h⟩
theorem over : Rows.fnExactSameAttrRow.holds Try.pinned (OpenSpec.ofChange Rows.fnExactSameAttrSpec) :=
  OpenClaim.holds_of_wide 12 Try.f12 rfl rfl rfl rfl rfl rfl rfl ⟨rfl, rfl, rfl, rfl, rfl⟩ rfl rfl rfl rfl rfl (by kernel_rfl) Try.func12 (by kernel_rfl)
    (of_decide_eq_true (by kernel_rfl)) (by unfold Func.isWrapper; first | (rw [if_pos (by decide +kernel)]; kernel_rfl) | (rw [if_neg (by decide +kernel)]; exact ⟨rfl, rfl⟩))
    (fun os started H enc _ => lifted os started H enc)
theorem proved : Rows.FnExactSameAttrSaid := over
#print axioms proved
end Go.Proofs.Ytjecngfaadejcaa.fnExactSameAttr
namespace Go.Proofs.Ytjecngfaadejcaa
/-- The row, under a short name, for the claim. -/
theorem fnExactSameAttr_holds : Rows.FnExactSameAttrSaid := fnExactSameAttr.proved
end Go.Proofs.Ytjecngfaadejcaa
