/- Written by a program of this session (wip/mk.py) over the kit's print: Lean checks it. The row of the law FnExactAttrFor, for every input: out of its pure statement and the walk. -/
import Derived.Test.YtacpjifbgnlppaaRows
import Derived.Test.YtacpjifbgnlppaaQFnExactAttrForx15
import Derived.Test.YtacpjifbgnlppaaQFnExactAttrForx16
import Derived.Test.YtacpjifbgnlppaaOFnExactAttrFor
import Derived.Test.YtacpjifbgnlppaaPureFnExactAttrFor
import Derived.WalkKit
import Derived.ProofKit
import Derived.OpenShut
import Derived.ShutString
import Derived.ChangeOld
import Derived.Below
import Derived.SizedLaws
namespace Go.Proofs.Ytacpjifbgnlppaa.fnExactAttrFor
open Go.ChangeShapes Go.WideShapes Go.ChangeAt Go.RowKit Go.Proofs.Ytacpjifbgnlppaa.Opens Go.Proofs.Ytacpjifbgnlppaa.QFnExactAttrFor Go.Proofs.YtacpjifbgnlppaaW.PrintWords
open Go.ChangeMaps (open_string shut_string)
set_option linter.unusedVariables false
theorem own : ownKnob Try.prog.godebug = none := by kernel_rfl
theorem laidOut : laidOutB Try.prog = true := by kernel_rfl
theorem op3 : Opens Try.prog 3 (Kd.int .i64) (fun x => (Lit.int .i64 x).wf = true) := opens_int Try.underlying3
set_option maxRecDepth 100000 in
theorem op43 : Opens Try.prog 43 k43 (fun x => q43 x) := Opens.imp (opens_struct (fun x : S43 => (x.f0, x.f1, x.f2, x.f3, x.f4)) (fun a => ⟨a.1, a.2.1, a.2.2.1, a.2.2.2.1, a.2.2.2.2⟩) (fun _ => rfl) Try.underlying43 (by kernel_rfl) (opensF_cons (by rfl) (by kernel_rfl) op3 (opensF_cons (by rfl) (by kernel_rfl) op3 (opensF_cons (by rfl) (by kernel_rfl) op3 (opensF_cons (by rfl) (by kernel_rfl) op3 (opensF_one (by rfl) (by kernel_rfl) op3)))))) (fun x h => by simpa only [q43] using h)
theorem op44 : Opens Try.prog 44 (Kd.slice 3 (Kd.int .i64)) (fun x => (x.length ≤ 9223372036854775807 ∧ ∀ y ∈ x, (Lit.int .i64 y).wf = true)) := opens_slice Try.underlying44 (by kernel_rfl) op3
set_option maxRecDepth 100000 in
theorem op115 : Opens Try.prog 115 k115 (fun x => q115 x) := Opens.imp (opens_struct (fun x : S115 => (x.f0, x.f1)) (fun a => ⟨a.1, a.2⟩) (fun _ => rfl) Try.underlying115 (by kernel_rfl) (opensF_cons (by rfl) (by kernel_rfl) op3 (opensF_one (by rfl) (by kernel_rfl) op44))) (fun x h => by simpa only [q115] using h)
set_option maxRecDepth 100000 in
theorem op125 : Opens Try.prog 125 k125 (fun x => q125 x) := Opens.imp (opens_struct (fun x : S125 => (x.f0, x.f1, x.f2, x.f3, x.f4)) (fun a => ⟨a.1, a.2.1, a.2.2.1, a.2.2.2.1, a.2.2.2.2⟩) (fun _ => rfl) Try.underlying125 (by kernel_rfl) (opensF_cons (by rfl) (by kernel_rfl) op3 (opensF_cons (by rfl) (by kernel_rfl) op3 (opensF_cons (by rfl) (by kernel_rfl) op3 (opensF_cons (by rfl) (by kernel_rfl) op43 (opensF_one (by rfl) (by kernel_rfl) op115)))))) (fun x h => by simpa only [q125] using h)
theorem op101 : Opens Try.prog 101 (Kd.slice 125 k125) (fun x => (x.length ≤ 9223372036854775807 ∧ ∀ y ∈ x, q125 y)) := opens_slice Try.underlying101 (by kernel_rfl) op125
theorem op22 : Opens Try.prog 22 (Kd.slice 101 (Kd.slice 125 k125)) (fun x => (x.length ≤ 9223372036854775807 ∧ ∀ y ∈ x, (y.length ≤ 9223372036854775807 ∧ ∀ yy ∈ y, q125 yy))) := opens_slice Try.underlying22 (by kernel_rfl) op101
set_option maxRecDepth 100000 in
theorem op24 : Opens Try.prog 24 k24 (fun x => q24 x) := Opens.imp (opens_struct (fun x : S24 => (x.f0, x.f1)) (fun a => ⟨a.1, a.2⟩) (fun _ => rfl) Try.underlying24 (by kernel_rfl) (opensF_cons (by rfl) (by kernel_rfl) op3 (opensF_one (by rfl) (by kernel_rfl) op22))) (fun x h => by simpa only [q24] using h)
set_option maxRecDepth 100000 in
set_option maxHeartbeats 1000000 in
theorem lifted (os : Os) (started : os.Started) (H : Type) (enc : TypeId × Value → H) :
    ReturnsInHanded {} Try.checked os 6 .any (Rows.fnExactAttrForSpec.pre6 enc Try.prog Try.f6 Rows.fnExactAttrForRow.domain false) (Rows.fnExactAttrForSpec.post enc Try.prog Try.f6 false true false false) := by
  refine returnsInHanded_of_change_sized (C := Try.checked) own started (by kernel_rfl) Try.func6
    (ChangeSpec.witness6 (enc := enc) (C := Try.checked) false ⟨#[], #[.agg #[.int .i64 0, .slice none 0 0], .agg #[.int .i64 0, .int .i64 0, .int .i64 0, .int .i64 0, .int .i64 0], .int .i64 0, .int .i64 0], []⟩ 8 (by kernel_rfl) (by kernel_rfl) (by kernel_rfl) (by kernel_rfl)) ?_
  intro W base args ds gs before hval0 hW hcnd _ _
  have hval : ∀ (j : Nat) t v, Try.f6.params[j]? = some t → args[j]? = some v → Value.okWide Try.prog W .any base t v := hval0
  have hW' := hW
  obtain ⟨p, q, hA0, hV, rfl, hfz, hnd⟩ := hW
  have hA : DataW.TrodAll enc Try.prog W 0 (fun _ => true) true Try.f6.params.toList args.toList ds p := hA0
  rw [Try.params6] at hA hval
  obtain ⟨v0, vs0, d0, ds0, p0, q0, hargs, rfl, rfl, h0, r0⟩ := trodAll_cons hA
  obtain ⟨v1, vs1, d1, ds1, p1, q1, rfl, rfl, rfl, h1, r1⟩ := trodAll_cons r0
  obtain ⟨v2, vs2, d2, ds2, p2, q2, rfl, rfl, rfl, h2, r2⟩ := trodAll_cons r1
  obtain ⟨v3, vs3, d3, ds3, p3, q3, rfl, rfl, rfl, h3, r3⟩ := trodAll_cons r2
  obtain ⟨rfl, rfl, rfl⟩ := trodAll_nil r3
  obtain rfl : args = #[v0, v1, v2, v3] := by cases args; simp_all
  obtain ⟨rfl, rfl⟩ := trodVars_none hV
  have k0 := h0
  have lt0 : ∀ x ∈ p0, x.block < W.heap.size := by obtain ⟨m, hm⟩ := k0; exact DataW.trod_lt m _ _ _ hm
  obtain ⟨fuel0, hf0⟩ := h0
  obtain ⟨cs0, rfl, hz0⟩ := agg_of Try.underlying24 (hval 0 24 v0 rfl rfl)
  obtain ⟨x0, hK0, hq0⟩ := op24.out enc W 0 _ _ fuel0 _ _ hf0
  obtain ⟨A0_1, c0_1, hcs0, hc0_1, hr0_1⟩ := k24_open hK0
  obtain rfl : cs0 = #[.int .i64 x0.f0, .slice A0_1 x0.f1.length c0_1] := by rw [hz0] at hcs0; rw [← hcs0]
  have k1 := h1
  have lt1 : ∀ x ∈ p1, x.block < W.heap.size := by obtain ⟨m, hm⟩ := k1; exact DataW.trod_lt m _ _ _ hm
  obtain ⟨fuel1, hf1⟩ := h1
  obtain ⟨cs1, rfl, hz1⟩ := agg_of Try.underlying43 (hval 1 43 v1 rfl rfl)
  obtain ⟨x1, hK1, hq1⟩ := op43.out enc W 0 _ _ fuel1 _ _ hf1
  obtain hcs1 := k43_open hK1
  obtain rfl : cs1 = #[.int .i64 x1.f0, .int .i64 x1.f1, .int .i64 x1.f2, .int .i64 x1.f3, .int .i64 x1.f4] := by rw [hz1] at hcs1; rw [← hcs1]
  obtain ⟨a2, rfl, rfl, rfl, w2⟩ := open_int Try.underlying3 (hval 2 3 v2 rfl rfl) h2
  obtain ⟨a3, rfl, rfl, rfl, w3⟩ := open_int Try.underlying3 (hval 3 3 v3 rfl rfl) h3
  clear hA0 hval0
  have h := Pure.FnExactAttrFor x0 x1 a2 a3 hq0 hq1 w2 w3
  refine (laws_FnExactAttrFor.calls x0.f0 _ _ x0.f1 x1.f0 x1.f1 x1.f2 x1.f3 x1.f4 a2 a3 W hr0_1 hc0_1 h).mono fun e W' ⟨he, bel0⟩ => ?_
  have bel : Below W.heap.size W W' := bel0
  subst he
  exact ⟨_, rfl, _, _, _, [], _, [], hW', trodAll_mk1 (shut_bool Try.underlying4 _), (trodAll_cons_mk (Below.trod laidOut (by kernel_rfl) (of_decide_eq_true (by kernel_rfl)) k0 bel lt0) (trodAll_cons_mk (Below.trod laidOut (by kernel_rfl) (of_decide_eq_true (by kernel_rfl)) k1 bel lt1) (trodAll_cons_mk (shut_int Try.underlying3 w2) (trodAll_cons_mk (shut_int Try.underlying3 w3) trodAll_mk0)))), rfl, bel.frame _, fun h => by cases h⟩
theorem over : Rows.fnExactAttrForRow.holds Try.pinned (OpenSpec.ofChange Rows.fnExactAttrForSpec) :=
  OpenClaim.holds_of_wide 6 Try.f6 rfl rfl rfl rfl rfl rfl rfl ⟨rfl, rfl, rfl, rfl, rfl⟩ rfl rfl rfl rfl rfl (by kernel_rfl) Try.func6 (by kernel_rfl)
    (of_decide_eq_true (by kernel_rfl)) (by unfold Func.isWrapper; first | (rw [if_pos (by decide +kernel)]; kernel_rfl) | (rw [if_neg (by decide +kernel)]; exact ⟨rfl, rfl⟩))
    (fun os started H enc _ => lifted os started H enc)
theorem proved : Rows.FnExactAttrForSaid := over
#print axioms proved
end Go.Proofs.Ytacpjifbgnlppaa.fnExactAttrFor
namespace Go.Proofs.Ytacpjifbgnlppaa
/-- The row, under a short name, for the claim. -/
theorem fnExactAttrFor_holds : Rows.FnExactAttrForSaid := fnExactAttrFor.proved
end Go.Proofs.Ytacpjifbgnlppaa
