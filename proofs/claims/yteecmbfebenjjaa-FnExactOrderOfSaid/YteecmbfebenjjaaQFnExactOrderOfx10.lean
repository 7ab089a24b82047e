-- Written by a program of this session (wip/mk.py) over the kit's print: Lean checks it.
import Derived.Test.YteecmbfebenjjaaQFnExactOrderOfx0
import Derived.Test.YteecmbfebenjjaaQFnExactOrderOfx1
import Derived.Test.YteecmbfebenjjaaQFnExactOrderOfx2
import Derived.Test.YteecmbfebenjjaaQFnExactOrderOfx5
import Derived.Test.YteecmbfebenjjaaQFnExactOrderOfx9
namespace Go.Proofs.Yteecmbfebenjjaa.QFnExactOrderOf
open Go.Proofs.YteecmbfebenjjaaW.PrintWords.Aside0 renaming mk → Am
open Go.Proofs.YteecmbfebenjjaaW.PrintWords renaming Aside0 → Ad
open Go.RowKit Go.Proofs.YteecmbfebenjjaaW.PrintWords Go.Proofs.YteecmbfebenjjaaW.PrintLast Go.Proofs.YteecmbfebenjjaaW.PrintMore
attribute [local go_sem] max2_int min2_int max_two min_two max_three min_three max_four min_four   -- for this text's walks alone
set_option linter.unusedVariables false
set_option linter.unusedSimpArgs false
section
open Go.RowKit
theorem load_run {P : Program} {o : Oper} {a : Act} {W : World} {g : Nat} {cs : Array Value} {t : TypeId} (hg : W.heap[g]? = some (.cells cs t (0, 0))) (n : Nat) (hn : cs.size = n) (ty : TypeId) (x : Operand) (ho : o.op = .load ty x)
  (hx : a.eval x = .pointer (some ⟨g, 0, none⟩)) (d : TypeDesc) (hu : P.underlying ty = some d) (hd : (match d with | .struct _ | .array _ _ => true | _ => false) = true) (hi : (P.info? ty).map (·.size) = some n) :
  (execOp a.eval o).run P W = .ok (.value (.agg cs)) W := by
 subst hn
 unfold execOp
 simp only [ho, hx, Instr.loadAt, Instr.sureAddr, Sem.run_bind, Sem.run_pure, Result.andThen_ok, run_loadVar_row W g t ty cs (0, 0) d hg hu hd hi]
theorem store_run {P : Program} {o : Oper} {a : Act} {W : World} {g : Nat} {cs cs' : Array Value} {t : TypeId} (hg : W.heap[g]? = some (.cells cs t (0, 0))) (n : Nat) (hn : cs.size = n) (hn' : cs'.size = n) (ty : TypeId) (x y : Operand) (ho : o.op = .store ty x y)
  (hx : a.eval x = .pointer (some ⟨g, 0, none⟩)) (hy : a.eval y = .agg cs') (hi : (P.info? ty).map (·.size) = some n) (h1 : cs'.all (·.oneCell') = true) :
  (execOp a.eval o).run P W = .ok .skip (W.setRow g cs') := by
 unfold execOp
 simp only [ho, hx, hy, Instr.storeAt, Instr.sureAddr, Sem.run_bind, Sem.run_pure, Result.andThen_ok, run_storeVar_row W g t ty cs cs' hg (by rw [hn']; exact hi) (by rw [hn, hn']) h1]
theorem kept_setRow (W : World) (g : Nat) (cs : Array Value) : Kept W (W.setRow g cs) (fun k => k = g) := ⟨by simp, fun i _ hi => setRow_other W g i cs hi⟩
theorem below_setRow_ {B g : Nat} {w0 w : World} (hb : Below B w0 w) (hBg : B ≤ g) (cs : Array Value) : Below B w0 (w.setRow g cs) :=
 ⟨hb.os, hb.tape, hb.output, by simpa using hb.size, fun k hk => (setRow_other w g k cs (by omega)).trans (hb.block k hk)⟩
end
def laws_FnExactOrderOf.Facts (l0 : List (List Int)) (l1 : List Int) : Prop :=
 1048576 < (l1.length : Int) ∨ ((l1.length : Int) ≤ 1048576 ∧ ∃ z1 : Int, (∃ K, laws_szIntSS.f K l0 1048576 = some z1) ∧ (z1 < 0 ∨ (0 ≤ z1 ∧ (∃ K, laws_toIntSS.f K l0 = some l0) ∧ (∃ K, laws_toIntS.f K l1 = some l1) ∧ ∃ r2 : List Int, ∃ r3 : Bool, (∃ K, spec_OrderOf.f K l0 l1 = some (r2, r3)) ∧ (∃ K, impl_OrderOf.f K l0 l1 = some (r2, r3)) ∧ (∃ K, laws_eqIntS.f K r2 r2 = some true) ∧ (∃ K, laws_eqIntSS.f K l0 l0 = some true) ∧ (∃ K, laws_eqIntS.f K l1 l1 = some true) ∧ ∃ m4 : Int, ∃ rm4 : List (List Int), (∃ K, 0 ≤ m4 ∧ laws_markIntSS.f K l0 1 = some (m4, rm4)) ∧ ∃ m5 : Int, ∃ rm5 : List Int, (∃ K, 0 ≤ m5 ∧ laws_markIntS.f K l1 m4 = some (m5, rm5)) ∧ ∃ m6 : Int, ∃ rm6 : List Int, (∃ K, 0 ≤ m6 ∧ laws_markIntS.f K r2 1 = some (m6, rm6)) ∧ (∃ K, laws_heldIntS.f K rm6 1 = some m6) ∧ True)))
set_option maxHeartbeats 8000000 in
set_option maxRecDepth 100000 in
theorem laws_FnExactOrderOf.calls (A0 : Option Addr) (c0 : Nat) (l0 : List (List Int)) (A1 : Option Addr) (c1 : Nat) (l1 : List Int) (w : World) (hr0 : Kd.C (Kd.slice 3 (Kd.int .i64)) w A0 l0.length l0) (hc0 : l0.length ≤ c0) (hr1 : Kd.C (Kd.int .i64) w A1 l1.length l1) (hc1 : l1.length ≤ c1) (h : laws_FnExactOrderOf.Facts l0 l1) :
  Calls Try.prog 8 #[.slice A0 l0.length c0, .slice A1 l1.length c1] w fun e w' => e = .returned (.bool true) ∧ Below w.heap.size w w' := by
 unfold laws_FnExactOrderOf.Facts at h
 have HR0 := Am hr0
 have HC0 := Am hc0
 clear hr0 hc0
 have HR1 := Am hr1
 have HC1 := Am hc1
 clear hr1 hc1
 have HF := Am h
 clear h
 have HB := Am (Below.refl w.heap.size w)
 rcases HF.out with hbig | ⟨hsmall, hF⟩
 ·clear HF
  go_enter Try.func8, Try.ntmps8
  go_wp2
  go_ret
  exact ⟨rfl, HB.out⟩
 clear HF
 have HF := Am hF
 clear hF
 obtain ⟨z1, ⟨Kz1, hs⟩, hF⟩ := HF.out
 clear HF
 have HF := Am hF
 clear hF
 have HSz1 := Am hs
 clear hs
 go_enter Try.func8, Try.ntmps8
 go_wp2_with fail
 (refine (laws_szIntSS.calls Kz1 A0 c0 l0 1048576 z1 w (Kd.C_below HR0.out HB.out) HC0.out HSz1.out).mono ?_)
 rintro e w1 ⟨rfl, hd⟩
 have hb := hd.below
 clear hd
 have Z1 : Ad (w.heap.size ≤ w1.heap.size) := ⟨hb.size⟩
 replace HB := Am (below_then HB.out HB.out.size hb)
 clear hb
 rcases HF.out with hneg | ⟨hpos, hF⟩
 ·clear HF
  go_wp2
  go_ret
  exact ⟨rfl, HB.out⟩
 clear HF
 have HF := Am hF
 clear hF
 obtain ⟨⟨K1, h1⟩, hF⟩ := HF.out
 clear HF
 have HF := Am hF
 clear hF
 have H1 := Am h1
 clear h1
 go_wp2_with fail
 (refine (laws_toIntSS.calls K1 A0 c0 l0 l0 w1 (Kd.C_below HR0.out HB.out) HC0.out H1.out).mono ?_)
 rintro e w2 ⟨v0_, rfl, hS0, hb⟩
 have X1 : Ad (Kd.S (Kd.slice 3 (Kd.int .i64)) 24 w2 w.heap.size (fun k => w1.heap.size ≤ k ∧ k < w2.heap.size) v0_ l0) := ⟨Kd.S_mono (Kd.S_lower (Kd.S_bound hS0) HB.out.size) (fun k hk => ⟨hk.2.1, hk.2.2.1⟩)⟩
 have Z2 : Ad (w1.heap.size ≤ w2.heap.size) := ⟨hb.size⟩
 replace HB := Am (below_then HB.out HB.out.size hb)
 clear hb hS0
 obtain ⟨A1_, c1_, rfl⟩ := Kd.S_slice X1.out
 obtain ⟨⟨K2, h2⟩, hF⟩ := HF.out
 clear HF
 have HF := Am hF
 clear hF
 have H2 := Am h2
 clear h2
 go_wp2_with fail
 (refine (laws_toIntS.calls K2 A1 c1 l1 l1 w2 (Kd.C_below HR1.out HB.out) HC1.out H2.out).mono ?_)
 rintro e w3 ⟨v0_, rfl, hS0, hb⟩
 have X2 : Ad (Kd.R (Kd.int .i64) 3 w3 w.heap.size (fun k => w2.heap.size ≤ k ∧ k < w3.heap.size) v0_ l1) := ⟨Kd.R_mono (Kd.R_lower (Kd.R_bound hS0) HB.out.size) (fun k hk => ⟨hk.2.1, hk.2.2.1⟩)⟩
 have Z3 : Ad (w2.heap.size ≤ w3.heap.size) := ⟨hb.size⟩
 replace X1 := Am (Kd.S_below X1.out hb)
 replace HB := Am (below_then HB.out HB.out.size hb)
 clear hb hS0
 obtain ⟨A2_, c2_, rfl⟩ := Kd.R_slice X2.out
 obtain ⟨r2, r3, ⟨K3, h3⟩, hF⟩ := HF.out
 clear HF
 have HF := Am hF
 clear hF
 have H3 := Am h3
 clear h3
 go_wp2_with fail
 (refine (spec_OrderOf.calls K3 A1_ c1_ l0 A2_ c2_ l1 r2 r3 w3 (Kd.S_reads' X1.out).2.2 (Kd.S_reads' X1.out).2.1 (Kd.R_reads' X2.out).2.2 (Kd.R_reads' X2.out).2.1 H3.out).mono ?_)
 rintro e w4 ⟨v0_, rfl, hS0, hb⟩
 have X3 : Ad (Kd.R (Kd.int .i64) 3 w4 w.heap.size (fun k => w3.heap.size ≤ k ∧ k < w4.heap.size) v0_ r2) := ⟨Kd.R_mono (Kd.R_lower (Kd.R_bound hS0) HB.out.size) (fun k hk => ⟨hk.2.1, hk.2.2.1⟩)⟩
 have Z4 : Ad (w3.heap.size ≤ w4.heap.size) := ⟨hb.size⟩
 replace X1 := Am (Kd.S_below X1.out hb)
 replace X2 := Am (Kd.R_below X2.out hb)
 replace HB := Am (below_then HB.out HB.out.size hb)
 clear hb hS0
 obtain ⟨A3_, c3_, rfl⟩ := Kd.R_slice X3.out
 go_wp2_with fail
 (refine (laws_toIntSS.calls K1 A0 c0 l0 l0 w4 (Kd.C_below HR0.out HB.out) HC0.out H1.out).mono ?_)
 rintro e w5 ⟨v0_, rfl, hS0, hb⟩
 have X4 : Ad (Kd.S (Kd.slice 3 (Kd.int .i64)) 24 w5 w.heap.size (fun k => w4.heap.size ≤ k ∧ k < w5.heap.size) v0_ l0) := ⟨Kd.S_mono (Kd.S_lower (Kd.S_bound hS0) HB.out.size) (fun k hk => ⟨hk.2.1, hk.2.2.1⟩)⟩
 have Z5 : Ad (w4.heap.size ≤ w5.heap.size) := ⟨hb.size⟩
 replace X1 := Am (Kd.S_below X1.out hb)
 replace X2 := Am (Kd.R_below X2.out hb)
 replace X3 := Am (Kd.R_below X3.out hb)
 replace HB := Am (below_then HB.out HB.out.size hb)
 clear hb hS0
 obtain ⟨A4_, c4_, rfl⟩ := Kd.S_slice X4.out
 go_wp2_with fail
 (refine (laws_toIntS.calls K2 A1 c1 l1 l1 w5 (Kd.C_below HR1.out HB.out) HC1.out H2.out).mono ?_)
 rintro e w6 ⟨v0_, rfl, hS0, hb⟩
 have X5 : Ad (Kd.R (Kd.int .i64) 3 w6 w.heap.size (fun k => w5.heap.size ≤ k ∧ k < w6.heap.size) v0_ l1) := ⟨Kd.R_mono (Kd.R_lower (Kd.R_bound hS0) HB.out.size) (fun k hk => ⟨hk.2.1, hk.2.2.1⟩)⟩
 have Z6 : Ad (w5.heap.size ≤ w6.heap.size) := ⟨hb.size⟩
 replace X1 := Am (Kd.S_below X1.out hb)
 replace X2 := Am (Kd.R_below X2.out hb)
 replace X3 := Am (Kd.R_below X3.out hb)
 replace X4 := Am (Kd.S_below X4.out hb)
 replace HB := Am (below_then HB.out HB.out.size hb)
 clear hb hS0
 obtain ⟨A5_, c5_, rfl⟩ := Kd.R_slice X5.out
 obtain ⟨⟨K4, h4⟩, hF⟩ := HF.out
 clear HF
 have HF := Am hF
 clear hF
 have H4 := Am h4
 clear h4
 go_wp2_with fail
 (refine (impl_OrderOf.calls K4 A4_ c4_ l0 A5_ c5_ l1 r2 r3 w6 (Kd.S_reads' X4.out).2.2 (Kd.S_reads' X4.out).2.1 (Kd.R_reads' X5.out).2.2 (Kd.R_reads' X5.out).2.1 H4.out).mono ?_)
 rintro e w7 ⟨v0_, rfl, hS0, hb⟩
 have X6 : Ad (Kd.R (Kd.int .i64) 3 w7 w.heap.size (fun k => w6.heap.size ≤ k ∧ k < w7.heap.size) v0_ r2) := ⟨Kd.R_mono (Kd.R_lower (Kd.R_bound hS0) HB.out.size) (fun k hk => ⟨hk.2.1, hk.2.2.1⟩)⟩
 have Z7 : Ad (w6.heap.size ≤ w7.heap.size) := ⟨hb.size⟩
 replace X1 := Am (Kd.S_below X1.out hb)
 replace X2 := Am (Kd.R_below X2.out hb)
 replace X3 := Am (Kd.R_below X3.out hb)
 replace X4 := Am (Kd.S_below X4.out hb)
 replace X5 := Am (Kd.R_below X5.out hb)
 replace HB := Am (below_then HB.out HB.out.size hb)
 clear hb hS0
 obtain ⟨A6_, c6_, rfl⟩ := Kd.R_slice X6.out
 obtain ⟨⟨K5, h5⟩, hF⟩ := HF.out
 clear HF
 have HF := Am hF
 clear hF
 have H5 := Am h5
 clear h5
 go_wp2_with fail
 (refine (laws_eqIntS.calls K5 A6_ c6_ r2 A3_ c3_ r2 true w7 (Kd.R_reads' X6.out).2.2 (Kd.R_reads' X6.out).2.1 (Kd.R_reads' X3.out).2.2 (Kd.R_reads' X3.out).2.1 H5.out).mono ?_)
 rintro e w8 ⟨rfl, hd⟩
 have hb := hd.below
 clear hd
 have Z8 : Ad (w7.heap.size ≤ w8.heap.size) := ⟨hb.size⟩
 replace X1 := Am (Kd.S_below X1.out hb)
 replace X2 := Am (Kd.R_below X2.out hb)
 replace X3 := Am (Kd.R_below X3.out hb)
 replace X4 := Am (Kd.S_below X4.out hb)
 replace X5 := Am (Kd.R_below X5.out hb)
 replace X6 := Am (Kd.R_below X6.out hb)
 replace HB := Am (below_then HB.out HB.out.size hb)
 clear hb
 go_wp2_with fail
 (refine (laws_toIntSS.calls K1 A0 c0 l0 l0 w8 (Kd.C_below HR0.out HB.out) HC0.out H1.out).mono ?_)
 rintro e w9 ⟨v0_, rfl, hS0, hb⟩
 have X7 : Ad (Kd.S (Kd.slice 3 (Kd.int .i64)) 24 w9 w.heap.size (fun k => w8.heap.size ≤ k ∧ k < w9.heap.size) v0_ l0) := ⟨Kd.S_mono (Kd.S_lower (Kd.S_bound hS0) HB.out.size) (fun k hk => ⟨hk.2.1, hk.2.2.1⟩)⟩
 have Z9 : Ad (w8.heap.size ≤ w9.heap.size) := ⟨hb.size⟩
 replace X1 := Am (Kd.S_below X1.out hb)
 replace X2 := Am (Kd.R_below X2.out hb)
 replace X3 := Am (Kd.R_below X3.out hb)
 replace X4 := Am (Kd.S_below X4.out hb)
 replace X5 := Am (Kd.R_below X5.out hb)
 replace X6 := Am (Kd.R_below X6.out hb)
 replace HB := Am (below_then HB.out HB.out.size hb)
 clear hb hS0
 obtain ⟨A7_, c7_, rfl⟩ := Kd.S_slice X7.out
 obtain ⟨⟨K6, h6⟩, hF⟩ := HF.out
 clear HF
 have HF := Am hF
 clear hF
 have H6 := Am h6
 clear h6
 go_wp2_with fail
 (refine (laws_eqIntSS.calls K6 A4_ c4_ l0 A7_ c7_ l0 true w9 (Kd.S_reads' X4.out).2.2 (Kd.S_reads' X4.out).2.1 (Kd.S_reads' X7.out).2.2 (Kd.S_reads' X7.out).2.1 H6.out).mono ?_)
 rintro e w10 ⟨rfl, hd⟩
 have hb := hd.below
 clear hd
 have Z10 : Ad (w9.heap.size ≤ w10.heap.size) := ⟨hb.size⟩
 replace X1 := Am (Kd.S_below X1.out hb)
 replace X2 := Am (Kd.R_below X2.out hb)
 replace X3 := Am (Kd.R_below X3.out hb)
 replace X4 := Am (Kd.S_below X4.out hb)
 replace X5 := Am (Kd.R_below X5.out hb)
 replace X6 := Am (Kd.R_below X6.out hb)
 replace X7 := Am (Kd.S_below X7.out hb)
 replace HB := Am (below_then HB.out HB.out.size hb)
 clear hb
 go_wp2_with fail
 (refine (laws_toIntS.calls K2 A1 c1 l1 l1 w10 (Kd.C_below HR1.out HB.out) HC1.out H2.out).mono ?_)
 rintro e w11 ⟨v0_, rfl, hS0, hb⟩
 have X8 : Ad (Kd.R (Kd.int .i64) 3 w11 w.heap.size (fun k => w10.heap.size ≤ k ∧ k < w11.heap.size) v0_ l1) := ⟨Kd.R_mono (Kd.R_lower (Kd.R_bound hS0) HB.out.size) (fun k hk => ⟨hk.2.1, hk.2.2.1⟩)⟩
 have Z11 : Ad (w10.heap.size ≤ w11.heap.size) := ⟨hb.size⟩
 replace X1 := Am (Kd.S_below X1.out hb)
 replace X2 := Am (Kd.R_below X2.out hb)
 replace X3 := Am (Kd.R_below X3.out hb)
 replace X4 := Am (Kd.S_below X4.out hb)
 replace X5 := Am (Kd.R_below X5.out hb)
 replace X6 := Am (Kd.R_below X6.out hb)
 replace X7 := Am (Kd.S_below X7.out hb)
 replace HB := Am (below_then HB.out HB.out.size hb)
 clear hb hS0
 obtain ⟨A8_, c8_, rfl⟩ := Kd.R_slice X8.out
 obtain ⟨⟨K7, h7⟩, hF⟩ := HF.out
 clear HF
 have HF := Am hF
 clear hF
 have H7 := Am h7
 clear h7
 go_wp2_with fail
 (refine (laws_eqIntS.calls K7 A5_ c5_ l1 A8_ c8_ l1 true w11 (Kd.R_reads' X5.out).2.2 (Kd.R_reads' X5.out).2.1 (Kd.R_reads' X8.out).2.2 (Kd.R_reads' X8.out).2.1 H7.out).mono ?_)
 rintro e w12 ⟨rfl, hd⟩
 have hb := hd.below
 clear hd
 have Z12 : Ad (w11.heap.size ≤ w12.heap.size) := ⟨hb.size⟩
 replace X1 := Am (Kd.S_below X1.out hb)
 replace X2 := Am (Kd.R_below X2.out hb)
 replace X3 := Am (Kd.R_below X3.out hb)
 replace X4 := Am (Kd.S_below X4.out hb)
 replace X5 := Am (Kd.R_below X5.out hb)
 replace X6 := Am (Kd.R_below X6.out hb)
 replace X7 := Am (Kd.S_below X7.out hb)
 replace X8 := Am (Kd.R_below X8.out hb)
 replace HB := Am (below_then HB.out HB.out.size hb)
 clear hb
 obtain ⟨m4, rm4, ⟨K8, h8⟩, hF⟩ := HF.out
 clear HF
 have HF := Am hF
 clear hF
 have H8 := Am h8
 clear h8
 go_wp2_with fail
 (refine (laws_markIntSS.calls K8 (fun k => w4.heap.size ≤ k ∧ k < w5.heap.size) _ l0 1 m4 rm4 w w12 HB.out X4.out H8.out.2).mono ?_)
 rintro e w13 ⟨rfl, hS, hb, hk⟩
 have hm4 := H8.out.1
 have Z13 : Ad (w12.heap.size ≤ w13.heap.size) := ⟨hk.1⟩
 replace X1 := Am (Kd.S_kept X1.out hk (fun k h1_ h2_ => by have := Z1.out; have := Z2.out; have := Z3.out; have := Z4.out; have := Z5.out; have := Z6.out; have := Z7.out; have := Z8.out; have := Z9.out; have := Z10.out; have := Z11.out; have := Z12.out; (try dsimp only at h1_ h2_); omega))
 replace X2 := Am (Kd.R_kept X2.out hk (fun k h1_ h2_ => by have := Z1.out; have := Z2.out; have := Z3.out; have := Z4.out; have := Z5.out; have := Z6.out; have := Z7.out; have := Z8.out; have := Z9.out; have := Z10.out; have := Z11.out; have := Z12.out; (try dsimp only at h1_ h2_); omega))
 replace X3 := Am (Kd.R_kept X3.out hk (fun k h1_ h2_ => by have := Z1.out; have := Z2.out; have := Z3.out; have := Z4.out; have := Z5.out; have := Z6.out; have := Z7.out; have := Z8.out; have := Z9.out; have := Z10.out; have := Z11.out; have := Z12.out; (try dsimp only at h1_ h2_); omega))
 replace X5 := Am (Kd.R_kept X5.out hk (fun k h1_ h2_ => by have := Z1.out; have := Z2.out; have := Z3.out; have := Z4.out; have := Z5.out; have := Z6.out; have := Z7.out; have := Z8.out; have := Z9.out; have := Z10.out; have := Z11.out; have := Z12.out; (try dsimp only at h1_ h2_); omega))
 replace X6 := Am (Kd.R_kept X6.out hk (fun k h1_ h2_ => by have := Z1.out; have := Z2.out; have := Z3.out; have := Z4.out; have := Z5.out; have := Z6.out; have := Z7.out; have := Z8.out; have := Z9.out; have := Z10.out; have := Z11.out; have := Z12.out; (try dsimp only at h1_ h2_); omega))
 replace X7 := Am (Kd.S_kept X7.out hk (fun k h1_ h2_ => by have := Z1.out; have := Z2.out; have := Z3.out; have := Z4.out; have := Z5.out; have := Z6.out; have := Z7.out; have := Z8.out; have := Z9.out; have := Z10.out; have := Z11.out; have := Z12.out; (try dsimp only at h1_ h2_); omega))
 replace X8 := Am (Kd.R_kept X8.out hk (fun k h1_ h2_ => by have := Z1.out; have := Z2.out; have := Z3.out; have := Z4.out; have := Z5.out; have := Z6.out; have := Z7.out; have := Z8.out; have := Z9.out; have := Z10.out; have := Z11.out; have := Z12.out; (try dsimp only at h1_ h2_); omega))
 replace X4 := Am (hS)
 replace HB := Am (hb)
 clear hS hb hk
 obtain ⟨m5, rm5, ⟨K9, h9⟩, hF⟩ := HF.out
 clear HF
 have HF := Am hF
 clear hF
 have H9 := Am h9
 clear h9
 go_wp2_with fail
 (refine (laws_markIntS.calls K9 (fun k => some k = (Value.slice A5_ (l1.length) c5_).ownBlock) _ l1 m4 m5 rm5 w w13 HB.out (Kd.R_tight rfl X5.out) H9.out.2).mono ?_)
 rintro e w14 ⟨rfl, hS, hb, hk⟩
 have hm5 := H9.out.1
 have Z14 : Ad (w13.heap.size ≤ w14.heap.size) := ⟨hk.1⟩
 replace X1 := Am (Kd.S_kept X1.out hk (fun k h1_ h2_ => by have h3_ := X5.out.1 k h2_.symm; have := Z1.out; have := Z2.out; have := Z3.out; have := Z4.out; have := Z5.out; have := Z6.out; have := Z7.out; have := Z8.out; have := Z9.out; have := Z10.out; have := Z11.out; have := Z12.out; have := Z13.out; (try dsimp only at h1_ h3_); omega))
 replace X2 := Am (Kd.R_kept X2.out hk (fun k h1_ h2_ => by have h3_ := X5.out.1 k h2_.symm; have := Z1.out; have := Z2.out; have := Z3.out; have := Z4.out; have := Z5.out; have := Z6.out; have := Z7.out; have := Z8.out; have := Z9.out; have := Z10.out; have := Z11.out; have := Z12.out; have := Z13.out; (try dsimp only at h1_ h3_); omega))
 replace X3 := Am (Kd.R_kept X3.out hk (fun k h1_ h2_ => by have h3_ := X5.out.1 k h2_.symm; have := Z1.out; have := Z2.out; have := Z3.out; have := Z4.out; have := Z5.out; have := Z6.out; have := Z7.out; have := Z8.out; have := Z9.out; have := Z10.out; have := Z11.out; have := Z12.out; have := Z13.out; (try dsimp only at h1_ h3_); omega))
 replace X4 := Am (Kd.S_kept X4.out hk (fun k h1_ h2_ => by have h3_ := X5.out.1 k h2_.symm; have := Z1.out; have := Z2.out; have := Z3.out; have := Z4.out; have := Z5.out; have := Z6.out; have := Z7.out; have := Z8.out; have := Z9.out; have := Z10.out; have := Z11.out; have := Z12.out; have := Z13.out; (try dsimp only at h1_ h3_); omega))
 replace X6 := Am (Kd.R_kept X6.out hk (fun k h1_ h2_ => by have h3_ := X5.out.1 k h2_.symm; have := Z1.out; have := Z2.out; have := Z3.out; have := Z4.out; have := Z5.out; have := Z6.out; have := Z7.out; have := Z8.out; have := Z9.out; have := Z10.out; have := Z11.out; have := Z12.out; have := Z13.out; (try dsimp only at h1_ h3_); omega))
 replace X7 := Am (Kd.S_kept X7.out hk (fun k h1_ h2_ => by have h3_ := X5.out.1 k h2_.symm; have := Z1.out; have := Z2.out; have := Z3.out; have := Z4.out; have := Z5.out; have := Z6.out; have := Z7.out; have := Z8.out; have := Z9.out; have := Z10.out; have := Z11.out; have := Z12.out; have := Z13.out; (try dsimp only at h1_ h3_); omega))
 replace X8 := Am (Kd.R_kept X8.out hk (fun k h1_ h2_ => by have h3_ := X5.out.1 k h2_.symm; have := Z1.out; have := Z2.out; have := Z3.out; have := Z4.out; have := Z5.out; have := Z6.out; have := Z7.out; have := Z8.out; have := Z9.out; have := Z10.out; have := Z11.out; have := Z12.out; have := Z13.out; (try dsimp only at h1_ h3_); omega))
 replace X5 := Am (Kd.R_reok rfl hS (fun k hk => X5.out.1 k hk))
 replace HB := Am (hb)
 clear hS hb hk
 go_wp2_with fail
 (refine (laws_eqIntS.calls K5 A6_ c6_ r2 A3_ c3_ r2 true w14 (Kd.R_reads' X6.out).2.2 (Kd.R_reads' X6.out).2.1 (Kd.R_reads' X3.out).2.2 (Kd.R_reads' X3.out).2.1 H5.out).mono ?_)
 rintro e w15 ⟨rfl, hd⟩
 have hb := hd.below
 clear hd
 have Z15 : Ad (w14.heap.size ≤ w15.heap.size) := ⟨hb.size⟩
 replace X1 := Am (Kd.S_below X1.out hb)
 replace X2 := Am (Kd.R_below X2.out hb)
 replace X3 := Am (Kd.R_below X3.out hb)
 replace X4 := Am (Kd.S_below X4.out hb)
 replace X5 := Am (Kd.R_below X5.out hb)
 replace X6 := Am (Kd.R_below X6.out hb)
 replace X7 := Am (Kd.S_below X7.out hb)
 replace X8 := Am (Kd.R_below X8.out hb)
 replace HB := Am (below_then HB.out HB.out.size hb)
 clear hb
 obtain ⟨m6, rm6, ⟨K10, h10⟩, hF⟩ := HF.out
 clear HF
 have HF := Am hF
 clear hF
 have H10 := Am h10
 clear h10
 go_wp2_with fail
 (refine (laws_markIntS.calls K10 (fun k => some k = (Value.slice A6_ (r2.length) c6_).ownBlock) _ r2 1 m6 rm6 w w15 HB.out (Kd.R_tight rfl X6.out) H10.out.2).mono ?_)
 rintro e w16 ⟨rfl, hS, hb, hk⟩
 have hm6 := H10.out.1
 have Z16 : Ad (w15.heap.size ≤ w16.heap.size) := ⟨hk.1⟩
 replace X1 := Am (Kd.S_kept X1.out hk (fun k h1_ h2_ => by have h3_ := X6.out.1 k h2_.symm; have := Z1.out; have := Z2.out; have := Z3.out; have := Z4.out; have := Z5.out; have := Z6.out; have := Z7.out; have := Z8.out; have := Z9.out; have := Z10.out; have := Z11.out; have := Z12.out; have := Z13.out; have := Z14.out; have := Z15.out; (try dsimp only at h1_ h3_); omega))
 replace X2 := Am (Kd.R_kept X2.out hk (fun k h1_ h2_ => by have h3_ := X6.out.1 k h2_.symm; have := Z1.out; have := Z2.out; have := Z3.out; have := Z4.out; have := Z5.out; have := Z6.out; have := Z7.out; have := Z8.out; have := Z9.out; have := Z10.out; have := Z11.out; have := Z12.out; have := Z13.out; have := Z14.out; have := Z15.out; (try dsimp only at h1_ h3_); omega))
 replace X3 := Am (Kd.R_kept X3.out hk (fun k h1_ h2_ => by have h3_ := X6.out.1 k h2_.symm; have := Z1.out; have := Z2.out; have := Z3.out; have := Z4.out; have := Z5.out; have := Z6.out; have := Z7.out; have := Z8.out; have := Z9.out; have := Z10.out; have := Z11.out; have := Z12.out; have := Z13.out; have := Z14.out; have := Z15.out; (try dsimp only at h1_ h3_); omega))
 replace X4 := Am (Kd.S_kept X4.out hk (fun k h1_ h2_ => by have h3_ := X6.out.1 k h2_.symm; have := Z1.out; have := Z2.out; have := Z3.out; have := Z4.out; have := Z5.out; have := Z6.out; have := Z7.out; have := Z8.out; have := Z9.out; have := Z10.out; have := Z11.out; have := Z12.out; have := Z13.out; have := Z14.out; have := Z15.out; (try dsimp only at h1_ h3_); omega))
 replace X5 := Am (Kd.R_kept X5.out hk (fun k h1_ h2_ => by have h3_ := X6.out.1 k h2_.symm; have := Z1.out; have := Z2.out; have := Z3.out; have := Z4.out; have := Z5.out; have := Z6.out; have := Z7.out; have := Z8.out; have := Z9.out; have := Z10.out; have := Z11.out; have := Z12.out; have := Z13.out; have := Z14.out; have := Z15.out; (try dsimp only at h1_ h3_); omega))
 replace X7 := Am (Kd.S_kept X7.out hk (fun k h1_ h2_ => by have h3_ := X6.out.1 k h2_.symm; have := Z1.out; have := Z2.out; have := Z3.out; have := Z4.out; have := Z5.out; have := Z6.out; have := Z7.out; have := Z8.out; have := Z9.out; have := Z10.out; have := Z11.out; have := Z12.out; have := Z13.out; have := Z14.out; have := Z15.out; (try dsimp only at h1_ h3_); omega))
 replace X8 := Am (Kd.R_kept X8.out hk (fun k h1_ h2_ => by have h3_ := X6.out.1 k h2_.symm; have := Z1.out; have := Z2.out; have := Z3.out; have := Z4.out; have := Z5.out; have := Z6.out; have := Z7.out; have := Z8.out; have := Z9.out; have := Z10.out; have := Z11.out; have := Z12.out; have := Z13.out; have := Z14.out; have := Z15.out; (try dsimp only at h1_ h3_); omega))
 replace X6 := Am (Kd.R_reok rfl hS (fun k hk => X6.out.1 k hk))
 replace HB := Am (hb)
 clear hS hb hk
 obtain ⟨⟨K11, h11⟩, hF⟩ := HF.out
 clear HF
 have HF := Am hF
 clear hF
 have H11 := Am h11
 clear h11
 go_wp2_with fail
 have hc_ := laws_heldIntS.calls K11 A6_ c6_ rm6 1 m6 w16 (Kd.R_reads' X6.out).2.2 (Nat.le_trans (Nat.le_of_eq (Kd.R_reads' X6.out).1.symm) (Kd.R_reads' X6.out).2.1) H11.out
 rw [← (Kd.R_reads' X6.out).1] at hc_
 (refine (hc_).mono ?_)
 clear hc_
 rintro e w17 ⟨rfl, hd⟩
 have hb := hd.below
 clear hd
 have Z17 : Ad (w16.heap.size ≤ w17.heap.size) := ⟨hb.size⟩
 replace X1 := Am (Kd.S_below X1.out hb)
 replace X2 := Am (Kd.R_below X2.out hb)
 replace X3 := Am (Kd.R_below X3.out hb)
 replace X4 := Am (Kd.S_below X4.out hb)
 replace X5 := Am (Kd.R_below X5.out hb)
 replace X6 := Am (Kd.R_below X6.out hb)
 replace X7 := Am (Kd.S_below X7.out hb)
 replace X8 := Am (Kd.R_below X8.out hb)
 replace HB := Am (below_then HB.out HB.out.size hb)
 clear hb
 go_wp2_with fail
 (refine (laws_toIntSS.calls K1 A0 c0 l0 l0 w17 (Kd.C_below HR0.out HB.out) HC0.out H1.out).mono ?_)
 rintro e w18 ⟨v0_, rfl, hS0, hb⟩
 have X9 : Ad (Kd.S (Kd.slice 3 (Kd.int .i64)) 24 w18 w.heap.size (fun k => w17.heap.size ≤ k ∧ k < w18.heap.size) v0_ l0) := ⟨Kd.S_mono (Kd.S_lower (Kd.S_bound hS0) HB.out.size) (fun k hk => ⟨hk.2.1, hk.2.2.1⟩)⟩
 have Z18 : Ad (w17.heap.size ≤ w18.heap.size) := ⟨hb.size⟩
 replace X1 := Am (Kd.S_below X1.out hb)
 replace X2 := Am (Kd.R_below X2.out hb)
 replace X3 := Am (Kd.R_below X3.out hb)
 replace X4 := Am (Kd.S_below X4.out hb)
 replace X5 := Am (Kd.R_below X5.out hb)
 replace X6 := Am (Kd.R_below X6.out hb)
 replace X7 := Am (Kd.S_below X7.out hb)
 replace X8 := Am (Kd.R_below X8.out hb)
 replace HB := Am (below_then HB.out HB.out.size hb)
 clear hb hS0
 obtain ⟨A9_, c9_, rfl⟩ := Kd.S_slice X9.out
 go_wp2_with fail
 (refine (laws_toIntS.calls K2 A1 c1 l1 l1 w18 (Kd.C_below HR1.out HB.out) HC1.out H2.out).mono ?_)
 rintro e w19 ⟨v0_, rfl, hS0, hb⟩
 have X10 : Ad (Kd.R (Kd.int .i64) 3 w19 w.heap.size (fun k => w18.heap.size ≤ k ∧ k < w19.heap.size) v0_ l1) := ⟨Kd.R_mono (Kd.R_lower (Kd.R_bound hS0) HB.out.size) (fun k hk => ⟨hk.2.1, hk.2.2.1⟩)⟩
 have Z19 : Ad (w18.heap.size ≤ w19.heap.size) := ⟨hb.size⟩
 replace X1 := Am (Kd.S_below X1.out hb)
 replace X2 := Am (Kd.R_below X2.out hb)
 replace X3 := Am (Kd.R_below X3.out hb)
 replace X4 := Am (Kd.S_below X4.out hb)
 replace X5 := Am (Kd.R_below X5.out hb)
 replace X6 := Am (Kd.R_below X6.out hb)
 replace X7 := Am (Kd.S_below X7.out hb)
 replace X8 := Am (Kd.R_below X8.out hb)
 replace X9 := Am (Kd.S_below X9.out hb)
 replace HB := Am (below_then HB.out HB.out.size hb)
 clear hb hS0
 obtain ⟨A10_, c10_, rfl⟩ := Kd.R_slice X10.out
 go_wp2_with fail
 (refine (impl_OrderOf.calls K4 A9_ c9_ l0 A10_ c10_ l1 r2 r3 w19 (Kd.S_reads' X9.out).2.2 (Kd.S_reads' X9.out).2.1 (Kd.R_reads' X10.out).2.2 (Kd.R_reads' X10.out).2.1 H4.out).mono ?_)
 rintro e w20 ⟨v0_, rfl, hS0, hb⟩
 have X11 : Ad (Kd.R (Kd.int .i64) 3 w20 w.heap.size (fun k => w19.heap.size ≤ k ∧ k < w20.heap.size) v0_ r2) := ⟨Kd.R_mono (Kd.R_lower (Kd.R_bound hS0) HB.out.size) (fun k hk => ⟨hk.2.1, hk.2.2.1⟩)⟩
 have Z20 : Ad (w19.heap.size ≤ w20.heap.size) := ⟨hb.size⟩
 replace X1 := Am (Kd.S_below X1.out hb)
 replace X2 := Am (Kd.R_below X2.out hb)
 replace X3 := Am (Kd.R_below X3.out hb)
 replace X4 := Am (Kd.S_below X4.out hb)
 replace X5 := Am (Kd.R_below X5.out hb)
 replace X6 := Am (Kd.R_below X6.out hb)
 replace X7 := Am (Kd.S_below X7.out hb)
 replace X8 := Am (Kd.R_below X8.out hb)
 replace X9 := Am (Kd.S_below X9.out hb)
 replace X10 := Am (Kd.R_below X10.out hb)
 replace HB := Am (below_then HB.out HB.out.size hb)
 clear hb hS0
 obtain ⟨A11_, c11_, rfl⟩ := Kd.R_slice X11.out
 go_wp2_with fail
 (refine (laws_eqIntS.calls K5 A11_ c11_ r2 A3_ c3_ r2 true w20 (Kd.R_reads' X11.out).2.2 (Kd.R_reads' X11.out).2.1 (Kd.R_reads' X3.out).2.2 (Kd.R_reads' X3.out).2.1 H5.out).mono ?_)
 rintro e w21 ⟨rfl, hd⟩
 have hb := hd.below
 clear hd
 have Z21 : Ad (w20.heap.size ≤ w21.heap.size) := ⟨hb.size⟩
 replace X1 := Am (Kd.S_below X1.out hb)
 replace X2 := Am (Kd.R_below X2.out hb)
 replace X3 := Am (Kd.R_below X3.out hb)
 replace X4 := Am (Kd.S_below X4.out hb)
 replace X5 := Am (Kd.R_below X5.out hb)
 replace X6 := Am (Kd.R_below X6.out hb)
 replace X7 := Am (Kd.S_below X7.out hb)
 replace X8 := Am (Kd.R_below X8.out hb)
 replace X9 := Am (Kd.S_below X9.out hb)
 replace X10 := Am (Kd.R_below X10.out hb)
 replace X11 := Am (Kd.R_below X11.out hb)
 replace HB := Am (below_then HB.out HB.out.size hb)
 clear hb
 go_wp2_with fail
 have hc_ := laws_heldIntS.calls K11 A6_ c6_ rm6 1 m6 w21 (Kd.R_reads' X6.out).2.2 (Nat.le_trans (Nat.le_of_eq (Kd.R_reads' X6.out).1.symm) (Kd.R_reads' X6.out).2.1) H11.out
 rw [← (Kd.R_reads' X6.out).1] at hc_
 (refine (hc_).mono ?_)
 clear hc_
 rintro e w22 ⟨rfl, hd⟩
 have hb := hd.below
 clear hd
 have Z22 : Ad (w21.heap.size ≤ w22.heap.size) := ⟨hb.size⟩
 replace X1 := Am (Kd.S_below X1.out hb)
 replace X2 := Am (Kd.R_below X2.out hb)
 replace X3 := Am (Kd.R_below X3.out hb)
 replace X4 := Am (Kd.S_below X4.out hb)
 replace X5 := Am (Kd.R_below X5.out hb)
 replace X6 := Am (Kd.R_below X6.out hb)
 replace X7 := Am (Kd.S_below X7.out hb)
 replace X8 := Am (Kd.R_below X8.out hb)
 replace X9 := Am (Kd.S_below X9.out hb)
 replace X10 := Am (Kd.R_below X10.out hb)
 replace X11 := Am (Kd.R_below X11.out hb)
 replace HB := Am (below_then HB.out HB.out.size hb)
 clear hb
 go_wp2
 go_ret
 exact ⟨rfl, HB.out⟩
def laws_FnExactOrderOf.Pure : Prop := ∀ (l0 : List (List Int)) (l1 : List Int), (l0.length ≤ 9223372036854775807 ∧ ∀ y ∈ l0, (y.length ≤ 9223372036854775807 ∧ ∀ yy ∈ y, (Lit.int .i64 yy).wf = true)) → (l1.length ≤ 9223372036854775807 ∧ ∀ y ∈ l1, (Lit.int .i64 y).wf = true) → laws_FnExactOrderOf.Facts l0 l1
end Go.Proofs.Yteecmbfebenjjaa.QFnExactOrderOf
