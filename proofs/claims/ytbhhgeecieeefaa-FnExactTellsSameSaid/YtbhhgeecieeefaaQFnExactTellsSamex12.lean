-- Written by a program of this session (wip/mk.py) over the kit's print: Lean checks it.
import Derived.Test.YtbhhgeecieeefaaQFnExactTellsSamex0
import Derived.Test.YtbhhgeecieeefaaQFnExactTellsSamex3
import Derived.Test.YtbhhgeecieeefaaQFnExactTellsSamex7
import Derived.Test.YtbhhgeecieeefaaQFnExactTellsSamex11
namespace Go.Proofs.Ytbhhgeecieeefaa.QFnExactTellsSame
open Go.RowKit Go.Proofs.YtbhhgeecieeefaaW.PrintWords Go.Proofs.YtbhhgeecieeefaaW.PrintLast Go.Proofs.YtbhhgeecieeefaaW.PrintMore
attribute [local go_sem] max2_int min2_int max_two min_two max_three min_three max_four min_four   -- for this text's walks alone
set_option linter.unusedVariables false
set_option linter.unusedSimpArgs false

/-! ### laws_FnExactTellsSame: function 7 -/
/-- What the law's calls answer. -/
def laws_FnExactTellsSame.Facts (l0 : List (S23)) (l1 : List (S23)) : Prop :=
  ∃ z1 : Int, (laws_szCmdS.f l0 1048576 = some z1) ∧ (z1 < 0 ∨ (0 ≤ z1 ∧ ∃ z2 : Int, (laws_szCmdS.f l1 z1 = some z2) ∧ (z2 < 0 ∨ (0 ≤ z2 ∧ ∃ r3 : List (S27), (∃ K, laws_toCmdS.f K l0 = some r3) ∧ ∃ r4 : List (S27), (∃ K, laws_toCmdS.f K l1 = some r4) ∧ ∃ r5 : Bool, ∃ r6 : Bool, (∃ K, spec_TellsSame.f K r3 r4 = some (r5, r6)) ∧ (∃ K, impl_TellsSame.f K r3 r4 = some (r5, r6)) ∧ (∃ K, laws_eqCmdS.f K r3 r3 = some true) ∧ (∃ K, laws_eqCmdS.f K r4 r4 = some true) ∧ True))))
set_option maxHeartbeats 8000000 in
set_option maxRecDepth 100000 in
theorem laws_FnExactTellsSame.calls (A0 : Option Addr) (c0 : Nat) (l0 : List (S23)) (A1 : Option Addr) (c1 : Nat) (l1 : List (S23)) (w : World) (hr0 : Kd.C k23 w A0 l0.length l0) (hc0 : l0.length ≤ c0) (hr1 : Kd.C k23 w A1 l1.length l1) (hc1 : l1.length ≤ c1) (h : laws_FnExactTellsSame.Facts l0 l1) :
    Calls Try.prog 7 #[.slice A0 l0.length c0, .slice A1 l1.length c1] w fun e w' => e = .returned (.bool true) ∧ Below w.heap.size w w' := by
  unfold laws_FnExactTellsSame.Facts at h
  have HR0 := Aside0.mk hr0
  have HC0 := Aside0.mk hc0
  clear hr0 hc0
  have HR1 := Aside0.mk hr1
  have HC1 := Aside0.mk hc1
  clear hr1 hc1
  have HF := Aside0.mk h
  clear h
  have HB := Aside0.mk (Below.refl w.heap.size w)
  obtain ⟨z1, hs, hF⟩ := HF.out
  clear HF
  have HF := Aside0.mk hF
  clear hF
  have HSz1 := Aside0.mk hs
  clear hs
  go_enter Try.func7, Try.ntmps7
  go_wp2_with fail
  (refine (laws_szCmdS.calls A0 c0 l0 1048576 z1 w (Kd.C_below HR0.out HB.out) HC0.out HSz1.out).mono ?_)
  rintro e w1 ⟨rfl, hd⟩
  have hb := hd.below
  clear hd
  have Z1 : Aside0 (w.heap.size ≤ w1.heap.size) := ⟨hb.size⟩
  have hb_ := Aside0.mk (below_then HB.out HB.out.size hb)
  clear HB
  have HB := hb_
  clear hb_
  clear hb
  rcases HF.out with hneg | ⟨hpos, hF⟩
  · clear HF
    go_wp2
    go_ret
    exact ⟨rfl, HB.out⟩
  clear HF
  have HF := Aside0.mk hF
  clear hF
  obtain ⟨z2, hs, hF⟩ := HF.out
  clear HF
  have HF := Aside0.mk hF
  clear hF
  have HSz2 := Aside0.mk hs
  clear hs
  go_wp2_with fail
  (refine (laws_szCmdS.calls A1 c1 l1 z1 z2 w1 (Kd.C_below HR1.out HB.out) HC1.out HSz2.out).mono ?_)
  rintro e w2 ⟨rfl, hd⟩
  have hb := hd.below
  clear hd
  have Z2 : Aside0 (w1.heap.size ≤ w2.heap.size) := ⟨hb.size⟩
  have hb_ := Aside0.mk (below_then HB.out HB.out.size hb)
  clear HB
  have HB := hb_
  clear hb_
  clear hb
  rcases HF.out with hneg | ⟨hpos, hF⟩
  · clear HF
    go_wp2
    go_ret
    exact ⟨rfl, HB.out⟩
  clear HF
  have HF := Aside0.mk hF
  clear hF
  obtain ⟨r3, ⟨K1, h1⟩, hF⟩ := HF.out
  clear HF
  have HF := Aside0.mk hF
  clear hF
  have H1 := Aside0.mk h1
  clear h1
  go_wp2_with fail
  (refine (laws_toCmdS.calls K1 A0 c0 l0 r3 w2 (Kd.C_below HR0.out HB.out) HC0.out H1.out).mono ?_)
  rintro e w3 ⟨v0_, rfl, hS0, hb⟩
  have X1 : Aside0 (Kd.R k27 27 w3 w.heap.size (fun k => w2.heap.size ≤ k ∧ k < w3.heap.size) v0_ r3) := ⟨Kd.R_mono (Kd.R_lower (Kd.R_bound hS0) HB.out.size) (fun k hk => ⟨hk.2.1, hk.2.2.1⟩)⟩
  have Z3 : Aside0 (w2.heap.size ≤ w3.heap.size) := ⟨hb.size⟩
  have hb_ := Aside0.mk (below_then HB.out HB.out.size hb)
  clear HB
  have HB := hb_
  clear hb_
  clear hb hS0
  obtain ⟨A1_, c1_, rfl⟩ := Kd.R_slice X1.out
  obtain ⟨r4, ⟨K2, h2⟩, hF⟩ := HF.out
  clear HF
  have HF := Aside0.mk hF
  clear hF
  have H2 := Aside0.mk h2
  clear h2
  go_wp2_with fail
  (refine (laws_toCmdS.calls K2 A1 c1 l1 r4 w3 (Kd.C_below HR1.out HB.out) HC1.out H2.out).mono ?_)
  rintro e w4 ⟨v0_, rfl, hS0, hb⟩
  have X2 : Aside0 (Kd.R k27 27 w4 w.heap.size (fun k => w3.heap.size ≤ k ∧ k < w4.heap.size) v0_ r4) := ⟨Kd.R_mono (Kd.R_lower (Kd.R_bound hS0) HB.out.size) (fun k hk => ⟨hk.2.1, hk.2.2.1⟩)⟩
  have Z4 : Aside0 (w3.heap.size ≤ w4.heap.size) := ⟨hb.size⟩
  have n0_ := Aside0.mk (Kd.R_below X1.out hb)
  have hb_ := Aside0.mk (below_then HB.out HB.out.size hb)
  clear X1
  have X1 := n0_
  clear n0_
  clear HB
  have HB := hb_
  clear hb_
  clear hb hS0
  obtain ⟨A2_, c2_, rfl⟩ := Kd.R_slice X2.out
  obtain ⟨r5, r6, ⟨K3, h3⟩, hF⟩ := HF.out
  clear HF
  have HF := Aside0.mk hF
  clear hF
  have H3 := Aside0.mk h3
  clear h3
  go_wp2_with fail
  (refine (spec_TellsSame.calls K3 A1_ c1_ r3 A2_ c2_ r4 r5 r6 w4 (Kd.R_reads' X1.out).2.2 (Kd.R_reads' X1.out).2.1 (Kd.R_reads' X2.out).2.2 (Kd.R_reads' X2.out).2.1 H3.out).mono ?_)
  rintro e w5 ⟨rfl, hb⟩
  have Z5 : Aside0 (w4.heap.size ≤ w5.heap.size) := ⟨hb.size⟩
  have n0_ := Aside0.mk (Kd.R_below X1.out hb)
  have n1_ := Aside0.mk (Kd.R_below X2.out hb)
  have hb_ := Aside0.mk (below_then HB.out HB.out.size hb)
  clear X1 X2
  have X1 := n0_
  have X2 := n1_
  clear n0_ n1_
  clear HB
  have HB := hb_
  clear hb_
  clear hb
  go_wp2_with fail
  (refine (laws_toCmdS.calls K1 A0 c0 l0 r3 w5 (Kd.C_below HR0.out HB.out) HC0.out H1.out).mono ?_)
  rintro e w6 ⟨v0_, rfl, hS0, hb⟩
  have X3 : Aside0 (Kd.R k27 27 w6 w.heap.size (fun k => w5.heap.size ≤ k ∧ k < w6.heap.size) v0_ r3) := ⟨Kd.R_mono (Kd.R_lower (Kd.R_bound hS0) HB.out.size) (fun k hk => ⟨hk.2.1, hk.2.2.1⟩)⟩
  have Z6 : Aside0 (w5.heap.size ≤ w6.heap.size) := ⟨hb.size⟩
  have n0_ := Aside0.mk (Kd.R_below X1.out hb)
  have n1_ := Aside0.mk (Kd.R_below X2.out hb)
  have hb_ := Aside0.mk (below_then HB.out HB.out.size hb)
  clear X1 X2
  have X1 := n0_
  have X2 := n1_
  clear n0_ n1_
  clear HB
  have HB := hb_
  clear hb_
  clear hb hS0
  obtain ⟨A3_, c3_, rfl⟩ := Kd.R_slice X3.out
  go_wp2_with fail
  (refine (laws_toCmdS.calls K2 A1 c1 l1 r4 w6 (Kd.C_below HR1.out HB.out) HC1.out H2.out).mono ?_)
  rintro e w7 ⟨v0_, rfl, hS0, hb⟩
  have X4 : Aside0 (Kd.R k27 27 w7 w.heap.size (fun k => w6.heap.size ≤ k ∧ k < w7.heap.size) v0_ r4) := ⟨Kd.R_mono (Kd.R_lower (Kd.R_bound hS0) HB.out.size) (fun k hk => ⟨hk.2.1, hk.2.2.1⟩)⟩
  have Z7 : Aside0 (w6.heap.size ≤ w7.heap.size) := ⟨hb.size⟩
  have n0_ := Aside0.mk (Kd.R_below X1.out hb)
  have n1_ := Aside0.mk (Kd.R_below X2.out hb)
  have n2_ := Aside0.mk (Kd.R_below X3.out hb)
  have hb_ := Aside0.mk (below_then HB.out HB.out.size hb)
  clear X1 X2 X3
  have X1 := n0_
  have X2 := n1_
  have X3 := n2_
  clear n0_ n1_ n2_
  clear HB
  have HB := hb_
  clear hb_
  clear hb hS0
  obtain ⟨A4_, c4_, rfl⟩ := Kd.R_slice X4.out
  obtain ⟨⟨K4, h4⟩, hF⟩ := HF.out
  clear HF
  have HF := Aside0.mk hF
  clear hF
  have H4 := Aside0.mk h4
  clear h4
  go_wp2_with fail
  (refine (impl_TellsSame.calls K4 A3_ c3_ r3 A4_ c4_ r4 r5 r6 w7 (Kd.R_reads' X3.out).2.2 (Kd.R_reads' X3.out).2.1 (Kd.R_reads' X4.out).2.2 (Kd.R_reads' X4.out).2.1 H4.out).mono ?_)
  rintro e w8 ⟨rfl, hb⟩
  have Z8 : Aside0 (w7.heap.size ≤ w8.heap.size) := ⟨hb.size⟩
  have n0_ := Aside0.mk (Kd.R_below X1.out hb)
  have n1_ := Aside0.mk (Kd.R_below X2.out hb)
  have n2_ := Aside0.mk (Kd.R_below X3.out hb)
  have n3_ := Aside0.mk (Kd.R_below X4.out hb)
  have hb_ := Aside0.mk (below_then HB.out HB.out.size hb)
  clear X1 X2 X3 X4
  have X1 := n0_
  have X2 := n1_
  have X3 := n2_
  have X4 := n3_
  clear n0_ n1_ n2_ n3_
  clear HB
  have HB := hb_
  clear hb_
  clear hb
  go_wp2_with fail
  (refine (laws_toCmdS.calls K1 A0 c0 l0 r3 w8 (Kd.C_below HR0.out HB.out) HC0.out H1.out).mono ?_)
  rintro e w9 ⟨v0_, rfl, hS0, hb⟩
  have X5 : Aside0 (Kd.R k27 27 w9 w.heap.size (fun k => w8.heap.size ≤ k ∧ k < w9.heap.size) v0_ r3) := ⟨Kd.R_mono (Kd.R_lower (Kd.R_bound hS0) HB.out.size) (fun k hk => ⟨hk.2.1, hk.2.2.1⟩)⟩
  have Z9 : Aside0 (w8.heap.size ≤ w9.heap.size) := ⟨hb.size⟩
  have n0_ := Aside0.mk (Kd.R_below X1.out hb)
  have n1_ := Aside0.mk (Kd.R_below X2.out hb)
  have n2_ := Aside0.mk (Kd.R_below X3.out hb)
  have n3_ := Aside0.mk (Kd.R_below X4.out hb)
  have hb_ := Aside0.mk (below_then HB.out HB.out.size hb)
  clear X1 X2 X3 X4
  have X1 := n0_
  have X2 := n1_
  have X3 := n2_
  have X4 := n3_
  clear n0_ n1_ n2_ n3_
  clear HB
  have HB := hb_
  clear hb_
  clear hb hS0
  obtain ⟨A5_, c5_, rfl⟩ := Kd.R_slice X5.out
  obtain ⟨⟨K5, h5⟩, hF⟩ := HF.out
  clear HF
  have HF := Aside0.mk hF
  clear hF
  have H5 := Aside0.mk h5
  clear h5
  go_wp2_with fail
  (refine (laws_eqCmdS.calls K5 A3_ c3_ r3 A5_ c5_ r3 true w9 (Kd.R_reads' X3.out).2.2 (Kd.R_reads' X3.out).2.1 (Kd.R_reads' X5.out).2.2 (Kd.R_reads' X5.out).2.1 H5.out).mono ?_)
  rintro e w10 ⟨rfl, hb⟩
  have Z10 : Aside0 (w9.heap.size ≤ w10.heap.size) := ⟨hb.size⟩
  have n0_ := Aside0.mk (Kd.R_below X1.out hb)
  have n1_ := Aside0.mk (Kd.R_below X2.out hb)
  have n2_ := Aside0.mk (Kd.R_below X3.out hb)
  have n3_ := Aside0.mk (Kd.R_below X4.out hb)
  have n4_ := Aside0.mk (Kd.R_below X5.out hb)
  have hb_ := Aside0.mk (below_then HB.out HB.out.size hb)
  clear X1 X2 X3 X4 X5
  have X1 := n0_
  have X2 := n1_
  have X3 := n2_
  have X4 := n3_
  have X5 := n4_
  clear n0_ n1_ n2_ n3_ n4_
  clear HB
  have HB := hb_
  clear hb_
  clear hb
  go_wp2_with fail
  (refine (laws_toCmdS.calls K2 A1 c1 l1 r4 w10 (Kd.C_below HR1.out HB.out) HC1.out H2.out).mono ?_)
  rintro e w11 ⟨v0_, rfl, hS0, hb⟩
  have X6 : Aside0 (Kd.R k27 27 w11 w.heap.size (fun k => w10.heap.size ≤ k ∧ k < w11.heap.size) v0_ r4) := ⟨Kd.R_mono (Kd.R_lower (Kd.R_bound hS0) HB.out.size) (fun k hk => ⟨hk.2.1, hk.2.2.1⟩)⟩
  have Z11 : Aside0 (w10.heap.size ≤ w11.heap.size) := ⟨hb.size⟩
  have n0_ := Aside0.mk (Kd.R_below X1.out hb)
  have n1_ := Aside0.mk (Kd.R_below X2.out hb)
  have n2_ := Aside0.mk (Kd.R_below X3.out hb)
  have n3_ := Aside0.mk (Kd.R_below X4.out hb)
  have n4_ := Aside0.mk (Kd.R_below X5.out hb)
  have hb_ := Aside0.mk (below_then HB.out HB.out.size hb)
  clear X1 X2 X3 X4 X5
  have X1 := n0_
  have X2 := n1_
  have X3 := n2_
  have X4 := n3_
  have X5 := n4_
  clear n0_ n1_ n2_ n3_ n4_
  clear HB
  have HB := hb_
  clear hb_
  clear hb hS0
  obtain ⟨A6_, c6_, rfl⟩ := Kd.R_slice X6.out
  obtain ⟨⟨K6, h6⟩, hF⟩ := HF.out
  clear HF
  have HF := Aside0.mk hF
  clear hF
  have H6 := Aside0.mk h6
  clear h6
  go_wp2_with fail
  (refine (laws_eqCmdS.calls K6 A4_ c4_ r4 A6_ c6_ r4 true w11 (Kd.R_reads' X4.out).2.2 (Kd.R_reads' X4.out).2.1 (Kd.R_reads' X6.out).2.2 (Kd.R_reads' X6.out).2.1 H6.out).mono ?_)
  rintro e w12 ⟨rfl, hb⟩
  have Z12 : Aside0 (w11.heap.size ≤ w12.heap.size) := ⟨hb.size⟩
  have n0_ := Aside0.mk (Kd.R_below X1.out hb)
  have n1_ := Aside0.mk (Kd.R_below X2.out hb)
  have n2_ := Aside0.mk (Kd.R_below X3.out hb)
  have n3_ := Aside0.mk (Kd.R_below X4.out hb)
  have n4_ := Aside0.mk (Kd.R_below X5.out hb)
  have n5_ := Aside0.mk (Kd.R_below X6.out hb)
  have hb_ := Aside0.mk (below_then HB.out HB.out.size hb)
  clear X1 X2 X3 X4 X5 X6
  have X1 := n0_
  have X2 := n1_
  have X3 := n2_
  have X4 := n3_
  have X5 := n4_
  have X6 := n5_
  clear n0_ n1_ n2_ n3_ n4_ n5_
  clear HB
  have HB := hb_
  clear hb_
  clear hb
  go_wp2
  go_ret
  exact ⟨rfl, HB.out⟩

def q23 (x : S23) : Prop := (Lit.int .i64 x.f0).wf = true ∧ (Lit.int .i64 x.f1).wf = true ∧ (Lit.int .i64 x.f2).wf = true ∧ (Lit.int .i64 x.f3).wf = true ∧ (Lit.int .i64 x.f4).wf = true
/-- THE ONE PURE STATEMENT of laws_FnExactTellsSame. -/
def laws_FnExactTellsSame.Pure : Prop := ∀ (l0 : List (S23)) (l1 : List (S23)), (l0.length ≤ 9223372036854775807 ∧ ∀ y ∈ l0, q23 y) → (l1.length ≤ 9223372036854775807 ∧ ∀ y ∈ l1, q23 y) → laws_FnExactTellsSame.Facts l0 l1

end Go.Proofs.Ytbhhgeecieeefaa.QFnExactTellsSame
