-- Written by a program of this session (wip/mk.py) over the kit's print: Lean checks it.
import Derived.Test.YteecmbfebenjjaaQFnExactComponentsOfx0
import Derived.Test.YteecmbfebenjjaaQFnExactComponentsOfx1
import Derived.Test.YteecmbfebenjjaaQFnExactComponentsOfx3
import Derived.Test.YteecmbfebenjjaaQFnExactComponentsOfx6
namespace Go.Proofs.Yteecmbfebenjjaa.QFnExactComponentsOf
open Go.RowKit Go.Proofs.YteecmbfebenjjaaW.PrintWords Go.Proofs.YteecmbfebenjjaaW.PrintLast Go.Proofs.YteecmbfebenjjaaW.PrintMore
attribute [local go_sem] max2_int min2_int max_two min_two max_three min_three max_four min_four   -- for this text's walks alone
set_option linter.unusedVariables false
set_option linter.unusedSimpArgs false

/-! ### laws_FnExactComponentsOf: function 6 -/
section
open Go.RowKit
/-- A struct's variable is loaded whole. -/
theorem load_run {P : Program} {o : Oper} {a : Act} {W : World} {g : Nat} {cs : Array Value} {t : TypeId} (hg : W.heap[g]? = some (.cells cs t (0, 0))) (n : Nat) (hn : cs.size = n) (ty : TypeId) (x : Operand) (ho : o.op = .load ty x)
    (hx : a.eval x = .pointer (some ⟨g, 0, none⟩)) (d : TypeDesc) (hu : P.underlying ty = some d) (hd : (match d with | .struct _ | .array _ _ => true | _ => false) = true) (hi : (P.info? ty).map (·.size) = some n) :
    (execOp a.eval o).run P W = .ok (.value (.agg cs)) W := by
  subst hn
  unfold execOp
  simp only [ho, hx, Instr.loadAt, Instr.sureAddr, Sem.run_bind, Sem.run_pure, Result.andThen_ok, run_loadVar_row W g t ty cs (0, 0) d hg hu hd hi]

theorem store_run {P : Program} {o : Oper} {a : Act} {W : World} {g : Nat} {cs cs' : Array Value} {t : TypeId} (hg : W.heap[g]? = some (.cells cs t (0, 0))) (n : Nat) (hn : cs.size = n) (hn' : cs'.size = n) (ty : TypeId) (x y : Operand) (ho : o.op = .store ty x y)
    (hx : a.eval x = .pointer (some ⟨g, 0, none⟩)) (hy : a.eval y = .agg cs') (hi : (P.info? ty).map (·.size) = some n) (h1 : cs'.all (·.oneCell') = true) :
    (execOp a.eval o).run P W = .ok .skip (W.setRow g cs') := by
  unfold execOp
  simp only [ho, hx, hy, Instr.storeAt, Instr.sureAddr, Sem.run_bind, Sem.run_pure, Result.andThen_ok, run_storeVar_row W g t ty cs cs' hg (by rw [hn']; exact hi) (by rw [hn, hn']) h1]
theorem kept_setRow (W : World) (g : Nat) (cs : Array Value) : Kept W (W.setRow g cs) (fun k => k = g) := ⟨by simp, fun i _ hi => setRow_other W g i cs hi⟩
theorem below_setRow_ {B g : Nat} {w0 w : World} (hb : Below B w0 w) (hBg : B ≤ g) (cs : Array Value) : Below B w0 (w.setRow g cs) :=
  ⟨hb.os, hb.tape, hb.output, by simpa using hb.size, fun k hk => (setRow_other w g k cs (by omega)).trans (hb.block k hk)⟩
end
/-- What the law's calls answer. -/
def laws_FnExactComponentsOf.Facts (l0 : List (List Int)) : Prop :=
  ∃ z1 : Int, (∃ K, laws_szIntSS.f K l0 1048576 = some z1) ∧ (z1 < 0 ∨ (0 ≤ z1 ∧ (∃ K, laws_toIntSS.f K l0 = some l0) ∧ ∃ r2 : List (List Int), ∃ r3 : Bool, (∃ K, spec_ComponentsOf.f K l0 = some (r2, r3)) ∧ (∃ K, impl_ComponentsOf.f K l0 = some (r2, r3)) ∧ (∃ K, laws_eqIntSS.f K r2 r2 = some true) ∧ (∃ K, laws_eqIntSS.f K l0 l0 = some true) ∧ ∃ m4 : Int, ∃ rm4 : List (List Int), (∃ K, 0 ≤ m4 ∧ laws_markIntSS.f K l0 1 = some (m4, rm4)) ∧ ∃ m5 : Int, ∃ rm5 : List (List Int), (∃ K, 0 ≤ m5 ∧ laws_markIntSS.f K r2 1 = some (m5, rm5)) ∧ (∃ K, laws_heldIntSS.f K rm5 1 = some m5) ∧ True))
set_option maxHeartbeats 8000000 in
set_option maxRecDepth 100000 in
theorem laws_FnExactComponentsOf.calls (A0 : Option Addr) (c0 : Nat) (l0 : List (List Int)) (w : World) (hr0 : Kd.C (Kd.slice 3 (Kd.int .i64)) w A0 l0.length l0) (hc0 : l0.length ≤ c0) (h : laws_FnExactComponentsOf.Facts l0) :
    Calls Try.prog 6 #[.slice A0 l0.length c0] w fun e w' => e = .returned (.bool true) ∧ Below w.heap.size w w' := by
  unfold laws_FnExactComponentsOf.Facts at h
  have HR0 := Aside0.mk hr0
  have HC0 := Aside0.mk hc0
  clear hr0 hc0
  have HF := Aside0.mk h
  clear h
  have HB := Aside0.mk (Below.refl w.heap.size w)
  obtain ⟨z1, ⟨Kz1, hs⟩, hF⟩ := HF.out
  clear HF
  have HF := Aside0.mk hF
  clear hF
  have HSz1 := Aside0.mk hs
  clear hs
  go_enter Try.func6, Try.ntmps6
  go_wp2_with fail
  (refine (laws_szIntSS.calls Kz1 A0 c0 l0 1048576 z1 w (Kd.C_below HR0.out HB.out) HC0.out HSz1.out).mono ?_)
  rintro e w1 ⟨rfl, hd⟩
  have hb := hd.below
  clear hd
  have Z1 : Aside0 (w.heap.size ≤ w1.heap.size) := ⟨hb.size⟩
  replace HB := Aside0.mk (below_then HB.out HB.out.size hb)
  clear hb
  rcases HF.out with hneg | ⟨hpos, hF⟩
  · clear HF
    go_wp2
    go_ret
    exact ⟨rfl, HB.out⟩
  clear HF
  have HF := Aside0.mk hF
  clear hF
  obtain ⟨⟨K1, h1⟩, hF⟩ := HF.out
  clear HF
  have HF := Aside0.mk hF
  clear hF
  have H1 := Aside0.mk h1
  clear h1
  go_wp2_with fail
  (refine (laws_toIntSS.calls K1 A0 c0 l0 l0 w1 (Kd.C_below HR0.out HB.out) HC0.out H1.out).mono ?_)
  rintro e w2 ⟨v0_, rfl, hS0, hb⟩
  have X1 : Aside0 (Kd.S (Kd.slice 3 (Kd.int .i64)) 24 w2 w.heap.size (fun k => w1.heap.size ≤ k ∧ k < w2.heap.size) v0_ l0) := ⟨Kd.S_mono (Kd.S_lower (Kd.S_bound hS0) HB.out.size) (fun k hk => ⟨hk.2.1, hk.2.2.1⟩)⟩
  have Z2 : Aside0 (w1.heap.size ≤ w2.heap.size) := ⟨hb.size⟩
  replace HB := Aside0.mk (below_then HB.out HB.out.size hb)
  clear hb hS0
  obtain ⟨A1_, c1_, rfl⟩ := Kd.S_slice X1.out
  obtain ⟨r2, r3, ⟨K2, h2⟩, hF⟩ := HF.out
  clear HF
  have HF := Aside0.mk hF
  clear hF
  have H2 := Aside0.mk h2
  clear h2
  go_wp2_with fail
  (refine (spec_ComponentsOf.calls K2 A1_ c1_ l0 r2 r3 w2 (Kd.S_reads' X1.out).2.2 (Kd.S_reads' X1.out).2.1 H2.out).mono ?_)
  rintro e w3 ⟨v0_, rfl, hS0, hb⟩
  have X2 : Aside0 (Kd.S (Kd.slice 3 (Kd.int .i64)) 24 w3 w.heap.size (fun k => w2.heap.size ≤ k ∧ k < w3.heap.size) v0_ r2) := ⟨Kd.S_mono (Kd.S_lower (Kd.S_bound hS0) HB.out.size) (fun k hk => ⟨hk.2.1, hk.2.2.1⟩)⟩
  have Z3 : Aside0 (w2.heap.size ≤ w3.heap.size) := ⟨hb.size⟩
  replace X1 := Aside0.mk (Kd.S_below X1.out hb)
  replace HB := Aside0.mk (below_then HB.out HB.out.size hb)
  clear hb hS0
  obtain ⟨A2_, c2_, rfl⟩ := Kd.S_slice X2.out
  go_wp2_with fail
  (refine (laws_toIntSS.calls K1 A0 c0 l0 l0 w3 (Kd.C_below HR0.out HB.out) HC0.out H1.out).mono ?_)
  rintro e w4 ⟨v0_, rfl, hS0, hb⟩
  have X3 : Aside0 (Kd.S (Kd.slice 3 (Kd.int .i64)) 24 w4 w.heap.size (fun k => w3.heap.size ≤ k ∧ k < w4.heap.size) v0_ l0) := ⟨Kd.S_mono (Kd.S_lower (Kd.S_bound hS0) HB.out.size) (fun k hk => ⟨hk.2.1, hk.2.2.1⟩)⟩
  have Z4 : Aside0 (w3.heap.size ≤ w4.heap.size) := ⟨hb.size⟩
  replace X1 := Aside0.mk (Kd.S_below X1.out hb)
  replace X2 := Aside0.mk (Kd.S_below X2.out hb)
  replace HB := Aside0.mk (below_then HB.out HB.out.size hb)
  clear hb hS0
  obtain ⟨A3_, c3_, rfl⟩ := Kd.S_slice X3.out
  obtain ⟨⟨K3, h3⟩, hF⟩ := HF.out
  clear HF
  have HF := Aside0.mk hF
  clear hF
  have H3 := Aside0.mk h3
  clear h3
  go_wp2_with fail
  (refine (impl_ComponentsOf.calls K3 A3_ c3_ l0 r2 r3 w4 (Kd.S_reads' X3.out).2.2 (Kd.S_reads' X3.out).2.1 H3.out).mono ?_)
  rintro e w5 ⟨v0_, rfl, hS0, hb⟩
  have X4 : Aside0 (Kd.S (Kd.slice 3 (Kd.int .i64)) 24 w5 w.heap.size (fun k => w4.heap.size ≤ k ∧ k < w5.heap.size) v0_ r2) := ⟨Kd.S_mono (Kd.S_lower (Kd.S_bound hS0) HB.out.size) (fun k hk => ⟨hk.2.1, hk.2.2.1⟩)⟩
  have Z5 : Aside0 (w4.heap.size ≤ w5.heap.size) := ⟨hb.size⟩
  replace X1 := Aside0.mk (Kd.S_below X1.out hb)
  replace X2 := Aside0.mk (Kd.S_below X2.out hb)
  replace X3 := Aside0.mk (Kd.S_below X3.out hb)
  replace HB := Aside0.mk (below_then HB.out HB.out.size hb)
  clear hb hS0
  obtain ⟨A4_, c4_, rfl⟩ := Kd.S_slice X4.out
  obtain ⟨⟨K4, h4⟩, hF⟩ := HF.out
  clear HF
  have HF := Aside0.mk hF
  clear hF
  have H4 := Aside0.mk h4
  clear h4
  go_wp2_with fail
  (refine (laws_eqIntSS.calls K4 A4_ c4_ r2 A2_ c2_ r2 true w5 (Kd.S_reads' X4.out).2.2 (Kd.S_reads' X4.out).2.1 (Kd.S_reads' X2.out).2.2 (Kd.S_reads' X2.out).2.1 H4.out).mono ?_)
  rintro e w6 ⟨rfl, hd⟩
  have hb := hd.below
  clear hd
  have Z6 : Aside0 (w5.heap.size ≤ w6.heap.size) := ⟨hb.size⟩
  replace X1 := Aside0.mk (Kd.S_below X1.out hb)
  replace X2 := Aside0.mk (Kd.S_below X2.out hb)
  replace X3 := Aside0.mk (Kd.S_below X3.out hb)
  replace X4 := Aside0.mk (Kd.S_below X4.out hb)
  replace HB := Aside0.mk (below_then HB.out HB.out.size hb)
  clear hb
  go_wp2_with fail
  (refine (laws_toIntSS.calls K1 A0 c0 l0 l0 w6 (Kd.C_below HR0.out HB.out) HC0.out H1.out).mono ?_)
  rintro e w7 ⟨v0_, rfl, hS0, hb⟩
  have X5 : Aside0 (Kd.S (Kd.slice 3 (Kd.int .i64)) 24 w7 w.heap.size (fun k => w6.heap.size ≤ k ∧ k < w7.heap.size) v0_ l0) := ⟨Kd.S_mono (Kd.S_lower (Kd.S_bound hS0) HB.out.size) (fun k hk => ⟨hk.2.1, hk.2.2.1⟩)⟩
  have Z7 : Aside0 (w6.heap.size ≤ w7.heap.size) := ⟨hb.size⟩
  replace X1 := Aside0.mk (Kd.S_below X1.out hb)
  replace X2 := Aside0.mk (Kd.S_below X2.out hb)
  replace X3 := Aside0.mk (Kd.S_below X3.out hb)
  replace X4 := Aside0.mk (Kd.S_below X4.out hb)
  replace HB := Aside0.mk (below_then HB.out HB.out.size hb)
  clear hb hS0
  obtain ⟨A5_, c5_, rfl⟩ := Kd.S_slice X5.out
  obtain ⟨⟨K5, h5⟩, hF⟩ := HF.out
  clear HF
  have HF := Aside0.mk hF
  clear hF
  have H5 := Aside0.mk h5
  clear h5
  go_wp2_with fail
  (refine (laws_eqIntSS.calls K5 A3_ c3_ l0 A5_ c5_ l0 true w7 (Kd.S_reads' X3.out).2.2 (Kd.S_reads' X3.out).2.1 (Kd.S_reads' X5.out).2.2 (Kd.S_reads' X5.out).2.1 H5.out).mono ?_)
  rintro e w8 ⟨rfl, hd⟩
  have hb := hd.below
  clear hd
  have Z8 : Aside0 (w7.heap.size ≤ w8.heap.size) := ⟨hb.size⟩
  replace X1 := Aside0.mk (Kd.S_below X1.out hb)
  replace X2 := Aside0.mk (Kd.S_below X2.out hb)
  replace X3 := Aside0.mk (Kd.S_below X3.out hb)
  replace X4 := Aside0.mk (Kd.S_below X4.out hb)
  replace X5 := Aside0.mk (Kd.S_below X5.out hb)
  replace HB := Aside0.mk (below_then HB.out HB.out.size hb)
  clear hb
  obtain ⟨m4, rm4, ⟨K6, h6⟩, hF⟩ := HF.out
  clear HF
  have HF := Aside0.mk hF
  clear hF
  have H6 := Aside0.mk h6
  clear h6
  go_wp2_with fail
  (refine (laws_markIntSS.calls K6 (fun k => w3.heap.size ≤ k ∧ k < w4.heap.size) _ l0 1 m4 rm4 w w8 HB.out X3.out H6.out.2).mono ?_)
  rintro e w9 ⟨rfl, hS, hb, hk⟩
  have hm4 := H6.out.1
  have Z9 : Aside0 (w8.heap.size ≤ w9.heap.size) := ⟨hk.1⟩
  replace X1 := Aside0.mk (Kd.S_kept X1.out hk (fun k h1_ h2_ => by have := Z1.out; have := Z2.out; have := Z3.out; have := Z4.out; have := Z5.out; have := Z6.out; have := Z7.out; have := Z8.out; (try dsimp only at h1_ h2_); omega))
  replace X2 := Aside0.mk (Kd.S_kept X2.out hk (fun k h1_ h2_ => by have := Z1.out; have := Z2.out; have := Z3.out; have := Z4.out; have := Z5.out; have := Z6.out; have := Z7.out; have := Z8.out; (try dsimp only at h1_ h2_); omega))
  replace X4 := Aside0.mk (Kd.S_kept X4.out hk (fun k h1_ h2_ => by have := Z1.out; have := Z2.out; have := Z3.out; have := Z4.out; have := Z5.out; have := Z6.out; have := Z7.out; have := Z8.out; (try dsimp only at h1_ h2_); omega))
  replace X5 := Aside0.mk (Kd.S_kept X5.out hk (fun k h1_ h2_ => by have := Z1.out; have := Z2.out; have := Z3.out; have := Z4.out; have := Z5.out; have := Z6.out; have := Z7.out; have := Z8.out; (try dsimp only at h1_ h2_); omega))
  replace X3 := Aside0.mk (hS)
  replace HB := Aside0.mk (hb)
  clear hS hb hk
  go_wp2_with fail
  (refine (laws_eqIntSS.calls K4 A4_ c4_ r2 A2_ c2_ r2 true w9 (Kd.S_reads' X4.out).2.2 (Kd.S_reads' X4.out).2.1 (Kd.S_reads' X2.out).2.2 (Kd.S_reads' X2.out).2.1 H4.out).mono ?_)
  rintro e w10 ⟨rfl, hd⟩
  have hb := hd.below
  clear hd
  have Z10 : Aside0 (w9.heap.size ≤ w10.heap.size) := ⟨hb.size⟩
  replace X1 := Aside0.mk (Kd.S_below X1.out hb)
  replace X2 := Aside0.mk (Kd.S_below X2.out hb)
  replace X3 := Aside0.mk (Kd.S_below X3.out hb)
  replace X4 := Aside0.mk (Kd.S_below X4.out hb)
  replace X5 := Aside0.mk (Kd.S_below X5.out hb)
  replace HB := Aside0.mk (below_then HB.out HB.out.size hb)
  clear hb
  obtain ⟨m5, rm5, ⟨K7, h7⟩, hF⟩ := HF.out
  clear HF
  have HF := Aside0.mk hF
  clear hF
  have H7 := Aside0.mk h7
  clear h7
  go_wp2_with fail
  (refine (laws_markIntSS.calls K7 (fun k => w4.heap.size ≤ k ∧ k < w5.heap.size) _ r2 1 m5 rm5 w w10 HB.out X4.out H7.out.2).mono ?_)
  rintro e w11 ⟨rfl, hS, hb, hk⟩
  have hm5 := H7.out.1
  have Z11 : Aside0 (w10.heap.size ≤ w11.heap.size) := ⟨hk.1⟩
  replace X1 := Aside0.mk (Kd.S_kept X1.out hk (fun k h1_ h2_ => by have := Z1.out; have := Z2.out; have := Z3.out; have := Z4.out; have := Z5.out; have := Z6.out; have := Z7.out; have := Z8.out; have := Z9.out; have := Z10.out; (try dsimp only at h1_ h2_); omega))
  replace X2 := Aside0.mk (Kd.S_kept X2.out hk (fun k h1_ h2_ => by have := Z1.out; have := Z2.out; have := Z3.out; have := Z4.out; have := Z5.out; have := Z6.out; have := Z7.out; have := Z8.out; have := Z9.out; have := Z10.out; (try dsimp only at h1_ h2_); omega))
  replace X3 := Aside0.mk (Kd.S_kept X3.out hk (fun k h1_ h2_ => by have := Z1.out; have := Z2.out; have := Z3.out; have := Z4.out; have := Z5.out; have := Z6.out; have := Z7.out; have := Z8.out; have := Z9.out; have := Z10.out; (try dsimp only at h1_ h2_); omega))
  replace X5 := Aside0.mk (Kd.S_kept X5.out hk (fun k h1_ h2_ => by have := Z1.out; have := Z2.out; have := Z3.out; have := Z4.out; have := Z5.out; have := Z6.out; have := Z7.out; have := Z8.out; have := Z9.out; have := Z10.out; (try dsimp only at h1_ h2_); omega))
  replace X4 := Aside0.mk (hS)
  replace HB := Aside0.mk (hb)
  clear hS hb hk
  obtain ⟨⟨K8, h8⟩, hF⟩ := HF.out
  clear HF
  have HF := Aside0.mk hF
  clear hF
  have H8 := Aside0.mk h8
  clear h8
  go_wp2_with fail
  have hc_ := laws_heldIntSS.calls K8 A4_ c4_ rm5 1 m5 w11 (Kd.S_reads' X4.out).2.2 (Nat.le_trans (Nat.le_of_eq (Kd.S_reads' X4.out).1.symm) (Kd.S_reads' X4.out).2.1) H8.out
  rw [← (Kd.S_reads' X4.out).1] at hc_
  (refine (hc_).mono ?_)
  clear hc_
  rintro e w12 ⟨rfl, hd⟩
  have hb := hd.below
  clear hd
  have Z12 : Aside0 (w11.heap.size ≤ w12.heap.size) := ⟨hb.size⟩
  replace X1 := Aside0.mk (Kd.S_below X1.out hb)
  replace X2 := Aside0.mk (Kd.S_below X2.out hb)
  replace X3 := Aside0.mk (Kd.S_below X3.out hb)
  replace X4 := Aside0.mk (Kd.S_below X4.out hb)
  replace X5 := Aside0.mk (Kd.S_below X5.out hb)
  replace HB := Aside0.mk (below_then HB.out HB.out.size hb)
  clear hb
  go_wp2_with fail
  (refine (laws_toIntSS.calls K1 A0 c0 l0 l0 w12 (Kd.C_below HR0.out HB.out) HC0.out H1.out).mono ?_)
  rintro e w13 ⟨v0_, rfl, hS0, hb⟩
  have X6 : Aside0 (Kd.S (Kd.slice 3 (Kd.int .i64)) 24 w13 w.heap.size (fun k => w12.heap.size ≤ k ∧ k < w13.heap.size) v0_ l0) := ⟨Kd.S_mono (Kd.S_lower (Kd.S_bound hS0) HB.out.size) (fun k hk => ⟨hk.2.1, hk.2.2.1⟩)⟩
  have Z13 : Aside0 (w12.heap.size ≤ w13.heap.size) := ⟨hb.size⟩
  replace X1 := Aside0.mk (Kd.S_below X1.out hb)
  replace X2 := Aside0.mk (Kd.S_below X2.out hb)
  replace X3 := Aside0.mk (Kd.S_below X3.out hb)
  replace X4 := Aside0.mk (Kd.S_below X4.out hb)
  replace X5 := Aside0.mk (Kd.S_below X5.out hb)
  replace HB := Aside0.mk (below_then HB.out HB.out.size hb)
  clear hb hS0
  obtain ⟨A6_, c6_, rfl⟩ := Kd.S_slice X6.out
  go_wp2_with fail
  (refine (impl_ComponentsOf.calls K3 A6_ c6_ l0 r2 r3 w13 (Kd.S_reads' X6.out).2.2 (Kd.S_reads' X6.out).2.1 H3.out).mono ?_)
  rintro e w14 ⟨v0_, rfl, hS0, hb⟩
  have X7 : Aside0 (Kd.S (Kd.slice 3 (Kd.int .i64)) 24 w14 w.heap.size (fun k => w13.heap.size ≤ k ∧ k < w14.heap.size) v0_ r2) := ⟨Kd.S_mono (Kd.S_lower (Kd.S_bound hS0) HB.out.size) (fun k hk => ⟨hk.2.1, hk.2.2.1⟩)⟩
  have Z14 : Aside0 (w13.heap.size ≤ w14.heap.size) := ⟨hb.size⟩
  replace X1 := Aside0.mk (Kd.S_below X1.out hb)
  replace X2 := Aside0.mk (Kd.S_below X2.out hb)
  replace X3 := Aside0.mk (Kd.S_below X3.out hb)
  replace X4 := Aside0.mk (Kd.S_below X4.out hb)
  replace X5 := Aside0.mk (Kd.S_below X5.out hb)
  replace X6 := Aside0.mk (Kd.S_below X6.out hb)
  replace HB := Aside0.mk (below_then HB.out HB.out.size hb)
  clear hb hS0
  obtain ⟨A7_, c7_, rfl⟩ := Kd.S_slice X7.out
  go_wp2_with fail
  (refine (laws_eqIntSS.calls K4 A7_ c7_ r2 A2_ c2_ r2 true w14 (Kd.S_reads' X7.out).2.2 (Kd.S_reads' X7.out).2.1 (Kd.S_reads' X2.out).2.2 (Kd.S_reads' X2.out).2.1 H4.out).mono ?_)
  rintro e w15 ⟨rfl, hd⟩
  have hb := hd.below
  clear hd
  have Z15 : Aside0 (w14.heap.size ≤ w15.heap.size) := ⟨hb.size⟩
  replace X1 := Aside0.mk (Kd.S_below X1.out hb)
  replace X2 := Aside0.mk (Kd.S_below X2.out hb)
  replace X3 := Aside0.mk (Kd.S_below X3.out hb)
  replace X4 := Aside0.mk (Kd.S_below X4.out hb)
  replace X5 := Aside0.mk (Kd.S_below X5.out hb)
  replace X6 := Aside0.mk (Kd.S_below X6.out hb)
  replace X7 := Aside0.mk (Kd.S_below X7.out hb)
  replace HB := Aside0.mk (below_then HB.out HB.out.size hb)
  clear hb
  go_wp2_with fail
  have hc_ := laws_heldIntSS.calls K8 A4_ c4_ rm5 1 m5 w15 (Kd.S_reads' X4.out).2.2 (Nat.le_trans (Nat.le_of_eq (Kd.S_reads' X4.out).1.symm) (Kd.S_reads' X4.out).2.1) H8.out
  rw [← (Kd.S_reads' X4.out).1] at hc_
  (refine (hc_).mono ?_)
  clear hc_
  rintro e w16 ⟨rfl, hd⟩
  have hb := hd.below
  clear hd
  have Z16 : Aside0 (w15.heap.size ≤ w16.heap.size) := ⟨hb.size⟩
  replace X1 := Aside0.mk (Kd.S_below X1.out hb)
  replace X2 := Aside0.mk (Kd.S_below X2.out hb)
  replace X3 := Aside0.mk (Kd.S_below X3.out hb)
  replace X4 := Aside0.mk (Kd.S_below X4.out hb)
  replace X5 := Aside0.mk (Kd.S_below X5.out hb)
  replace X6 := Aside0.mk (Kd.S_below X6.out hb)
  replace X7 := Aside0.mk (Kd.S_below X7.out hb)
  replace HB := Aside0.mk (below_then HB.out HB.out.size hb)
  clear hb
  go_wp2
  go_ret
  exact ⟨rfl, HB.out⟩

/-- THE ONE PURE STATEMENT of laws_FnExactComponentsOf. -/
def laws_FnExactComponentsOf.Pure : Prop := ∀ (l0 : List (List Int)), (l0.length ≤ 9223372036854775807 ∧ ∀ y ∈ l0, (y.length ≤ 9223372036854775807 ∧ ∀ yy ∈ y, (Lit.int .i64 yy).wf = true)) → laws_FnExactComponentsOf.Facts l0

end Go.Proofs.Yteecmbfebenjjaa.QFnExactComponentsOf
