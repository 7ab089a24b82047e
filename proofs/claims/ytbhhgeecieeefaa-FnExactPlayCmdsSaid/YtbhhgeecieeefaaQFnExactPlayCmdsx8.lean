-- Written by a program of this session (wip/mk.py) over the kit's print: Lean checks it.
import Derived.Test.YtbhhgeecieeefaaQFnExactPlayCmdsx0
import Derived.Test.YtbhhgeecieeefaaQFnExactPlayCmdsx2
import Derived.Test.YtbhhgeecieeefaaQFnExactPlayCmdsx4
import Derived.Test.YtbhhgeecieeefaaQFnExactPlayCmdsx5
import Derived.Test.YtbhhgeecieeefaaQFnExactPlayCmdsx6
import Derived.Test.YtbhhgeecieeefaaQFnExactPlayCmdsx7
namespace Go.Proofs.Ytbhhgeecieeefaa.QFnExactPlayCmds
open Go.RowKit Go.Proofs.YtbhhgeecieeefaaW.PrintWords Go.Proofs.YtbhhgeecieeefaaW.PrintLast Go.Proofs.YtbhhgeecieeefaaW.PrintMore
attribute [local go_sem] max2_int min2_int max_two min_two max_three min_three max_four min_four   -- for this text's walks alone
set_option linter.unusedVariables false
set_option linter.unusedSimpArgs false

/-! ### laws_FnExactPlayCmds: function 6 -/
/-- What the law's calls answer. -/
def laws_FnExactPlayCmds.Facts (l0 : List (S23)) : Prop :=
  ∃ z1 : Int, (laws_szCmdS.f l0 1048576 = some z1) ∧ (z1 < 0 ∨ (0 ≤ z1 ∧ ∃ r2 : List (S27), (∃ K, laws_toCmdS.f K l0 = some r2) ∧ ∃ r3 : List Int, ∃ r4 : List (S36), ∃ r5 : Bool, (∃ K, spec_PlayCmds.f K r2 = some (r3, r4, r5)) ∧ (∃ K, impl_PlayCmds.f K r2 = some (r3, r4, r5)) ∧ (∃ K, laws_eqIntS.f K r3 r3 = some true) ∧ (∃ K, laws_eqToldS.f K r4 r4 = some true) ∧ (∃ K, laws_eqCmdS.f K r2 r2 = some true) ∧ ∃ m6 : Int, ∃ rm6 : List (S27), (∃ K, 0 ≤ m6 ∧ laws_markCmdS.f K r2 1 = some (m6, rm6)) ∧ ∃ m7 : Int, ∃ rm7 : List Int, (∃ K, 0 ≤ m7 ∧ laws_markIntS.f K r3 1 = some (m7, rm7)) ∧ ∃ m8 : Int, ∃ rm8 : List (S36), (∃ K, 0 ≤ m8 ∧ laws_markToldS.f K r4 m7 = some (m8, rm8)) ∧ (∃ K, laws_heldIntS.f K rm7 1 = some m7) ∧ (∃ K, laws_heldToldS.f K rm8 m7 = some m8) ∧ True))
set_option maxHeartbeats 8000000 in
set_option maxRecDepth 100000 in
theorem laws_FnExactPlayCmds.calls (A0 : Option Addr) (c0 : Nat) (l0 : List (S23)) (w : World) (hr0 : Kd.C k23 w A0 l0.length l0) (hc0 : l0.length ≤ c0) (h : laws_FnExactPlayCmds.Facts l0) :
    Calls Try.prog 6 #[.slice A0 l0.length c0] w fun e w' => e = .returned (.bool true) ∧ Below w.heap.size w w' := by
  unfold laws_FnExactPlayCmds.Facts at h
  have HR0 := Aside0.mk hr0
  have HC0 := Aside0.mk hc0
  clear hr0 hc0
  have HF := Aside0.mk h
  clear h
  have HB := Aside0.mk (Below.refl w.heap.size w)
  obtain ⟨z1, hs, hF⟩ := HF.out
  clear HF
  have HF := Aside0.mk hF
  clear hF
  have HSz1 := Aside0.mk hs
  clear hs
  go_enter Try.func6, Try.ntmps6
  go_wp2_with fail
  (refine (laws_szCmdS.calls A0 c0 l0 1048576 z1 w (Kd.C_below HR0.out HB.out) HC0.out HSz1.out).mono ?_)
  rintro e w1 ⟨rfl, hd⟩
  have hb := hd.below
  clear hd
  have Z1 : Aside0 (w.heap.size ≤ w1.heap.size) := ⟨hb.size⟩
  have hb_ := Aside0.mk (below_then HB.out HB.out.size hb)
  clear HB
  have HB := hb_
  clear hb_
  clear hb
  rcases HF.out with hneg | ⟨hpos, hF⟩
  · clear HF
    go_wp2
    go_ret
    exact ⟨rfl, HB.out⟩
  clear HF
  have HF := Aside0.mk hF
  clear hF
  obtain ⟨r2, ⟨K1, h1⟩, hF⟩ := HF.out
  clear HF
  have HF := Aside0.mk hF
  clear hF
  have H1 := Aside0.mk h1
  clear h1
  go_wp2_with fail
  (refine (laws_toCmdS.calls K1 A0 c0 l0 r2 w1 (Kd.C_below HR0.out HB.out) HC0.out H1.out).mono ?_)
  rintro e w2 ⟨v0_, rfl, hS0, hb⟩
  have X1 : Aside0 (Kd.R k27 27 w2 w.heap.size (fun k => w1.heap.size ≤ k ∧ k < w2.heap.size) v0_ r2) := ⟨Kd.R_mono (Kd.R_lower (Kd.R_bound hS0) HB.out.size) (fun k hk => ⟨hk.2.1, hk.2.2.1⟩)⟩
  have Z2 : Aside0 (w1.heap.size ≤ w2.heap.size) := ⟨hb.size⟩
  have hb_ := Aside0.mk (below_then HB.out HB.out.size hb)
  clear HB
  have HB := hb_
  clear hb_
  clear hb hS0
  obtain ⟨A1_, c1_, rfl⟩ := Kd.R_slice X1.out
  obtain ⟨r3, r4, r5, ⟨K2, h2⟩, hF⟩ := HF.out
  clear HF
  have HF := Aside0.mk hF
  clear hF
  have H2 := Aside0.mk h2
  clear h2
  go_wp2_with fail
  (refine (spec_PlayCmds.calls K2 A1_ c1_ r2 r3 r4 r5 w2 (Kd.R_reads' X1.out).2.2 (Kd.R_reads' X1.out).2.1 H2.out).mono ?_)
  rintro e w3 ⟨v0_, v1_, rfl, hS0, hS1, hb⟩
  have X2 : Aside0 (Kd.R (Kd.int .i64) 3 w3 w.heap.size (fun k => w2.heap.size ≤ k ∧ k < w3.heap.size) v0_ r3) := ⟨Kd.R_mono (Kd.R_lower (Kd.R_bound hS0) HB.out.size) (fun k hk => ⟨hk.2.1, hk.2.2.1⟩)⟩
  have X3 : Aside0 (Kd.R k36 36 w3 w.heap.size (fun k => w2.heap.size ≤ k ∧ k < w3.heap.size) v1_ r4) := ⟨Kd.R_mono (Kd.R_lower (Kd.R_bound hS1) HB.out.size) (fun k hk => ⟨hk.2.1, hk.2.2.1⟩)⟩
  have Z3 : Aside0 (w2.heap.size ≤ w3.heap.size) := ⟨hb.size⟩
  have n0_ := Aside0.mk (Kd.R_below X1.out hb)
  have hb_ := Aside0.mk (below_then HB.out HB.out.size hb)
  clear X1
  have X1 := n0_
  clear n0_
  clear HB
  have HB := hb_
  clear hb_
  clear hb hS0 hS1
  obtain ⟨A2_, c2_, rfl⟩ := Kd.R_slice X2.out
  obtain ⟨A3_, c3_, rfl⟩ := Kd.R_slice X3.out
  go_wp2_with fail
  (refine (laws_toCmdS.calls K1 A0 c0 l0 r2 w3 (Kd.C_below HR0.out HB.out) HC0.out H1.out).mono ?_)
  rintro e w4 ⟨v0_, rfl, hS0, hb⟩
  have X4 : Aside0 (Kd.R k27 27 w4 w.heap.size (fun k => w3.heap.size ≤ k ∧ k < w4.heap.size) v0_ r2) := ⟨Kd.R_mono (Kd.R_lower (Kd.R_bound hS0) HB.out.size) (fun k hk => ⟨hk.2.1, hk.2.2.1⟩)⟩
  have Z4 : Aside0 (w3.heap.size ≤ w4.heap.size) := ⟨hb.size⟩
  have n0_ := Aside0.mk (Kd.R_below X1.out hb)
  have n1_ := Aside0.mk (Kd.R_below X2.out hb)
  have n2_ := Aside0.mk (Kd.R_below X3.out hb)
  have hb_ := Aside0.mk (below_then HB.out HB.out.size hb)
  clear X1 X2 X3
  have X1 := n0_
  have X2 := n1_
  have X3 := n2_
  clear n0_ n1_ n2_
  clear HB
  have HB := hb_
  clear hb_
  clear hb hS0
  obtain ⟨A4_, c4_, rfl⟩ := Kd.R_slice X4.out
  obtain ⟨⟨K3, h3⟩, hF⟩ := HF.out
  clear HF
  have HF := Aside0.mk hF
  clear hF
  have H3 := Aside0.mk h3
  clear h3
  go_wp2_with fail
  (refine (impl_PlayCmds.calls K3 A4_ c4_ r2 r3 r4 r5 w4 (Kd.R_reads' X4.out).2.2 (Kd.R_reads' X4.out).2.1 H3.out).mono ?_)
  rintro e w5 ⟨v0_, v1_, rfl, hS0, hS1, hb⟩
  have X5 : Aside0 (Kd.R (Kd.int .i64) 3 w5 w.heap.size (fun k => w4.heap.size ≤ k ∧ k < w5.heap.size) v0_ r3) := ⟨Kd.R_mono (Kd.R_lower (Kd.R_bound hS0) HB.out.size) (fun k hk => ⟨hk.2.1, hk.2.2.1⟩)⟩
  have X6 : Aside0 (Kd.R k36 36 w5 w.heap.size (fun k => w4.heap.size ≤ k ∧ k < w5.heap.size) v1_ r4) := ⟨Kd.R_mono (Kd.R_lower (Kd.R_bound hS1) HB.out.size) (fun k hk => ⟨hk.2.1, hk.2.2.1⟩)⟩
  have Z5 : Aside0 (w4.heap.size ≤ w5.heap.size) := ⟨hb.size⟩
  have n0_ := Aside0.mk (Kd.R_below X1.out hb)
  have n1_ := Aside0.mk (Kd.R_below X2.out hb)
  have n2_ := Aside0.mk (Kd.R_below X3.out hb)
  have n3_ := Aside0.mk (Kd.R_below X4.out hb)
  have hb_ := Aside0.mk (below_then HB.out HB.out.size hb)
  clear X1 X2 X3 X4
  have X1 := n0_
  have X2 := n1_
  have X3 := n2_
  have X4 := n3_
  clear n0_ n1_ n2_ n3_
  clear HB
  have HB := hb_
  clear hb_
  clear hb hS0 hS1
  obtain ⟨A5_, c5_, rfl⟩ := Kd.R_slice X5.out
  obtain ⟨A6_, c6_, rfl⟩ := Kd.R_slice X6.out
  obtain ⟨⟨K4, h4⟩, hF⟩ := HF.out
  clear HF
  have HF := Aside0.mk hF
  clear hF
  have H4 := Aside0.mk h4
  clear h4
  go_wp2_with fail
  (refine (laws_eqIntS.calls K4 A5_ c5_ r3 A2_ c2_ r3 true w5 (Kd.R_reads' X5.out).2.2 (Kd.R_reads' X5.out).2.1 (Kd.R_reads' X2.out).2.2 (Kd.R_reads' X2.out).2.1 H4.out).mono ?_)
  rintro e w6 ⟨rfl, hd⟩
  have hb := hd.below
  clear hd
  have Z6 : Aside0 (w5.heap.size ≤ w6.heap.size) := ⟨hb.size⟩
  have n0_ := Aside0.mk (Kd.R_below X1.out hb)
  have n1_ := Aside0.mk (Kd.R_below X2.out hb)
  have n2_ := Aside0.mk (Kd.R_below X3.out hb)
  have n3_ := Aside0.mk (Kd.R_below X4.out hb)
  have n4_ := Aside0.mk (Kd.R_below X5.out hb)
  have n5_ := Aside0.mk (Kd.R_below X6.out hb)
  have hb_ := Aside0.mk (below_then HB.out HB.out.size hb)
  clear X1 X2 X3 X4 X5 X6
  have X1 := n0_
  have X2 := n1_
  have X3 := n2_
  have X4 := n3_
  have X5 := n4_
  have X6 := n5_
  clear n0_ n1_ n2_ n3_ n4_ n5_
  clear HB
  have HB := hb_
  clear hb_
  clear hb
  obtain ⟨⟨K5, h5⟩, hF⟩ := HF.out
  clear HF
  have HF := Aside0.mk hF
  clear hF
  have H5 := Aside0.mk h5
  clear h5
  go_wp2_with fail
  (refine (laws_eqToldS.calls K5 A6_ c6_ r4 A3_ c3_ r4 true w6 (Kd.R_reads' X6.out).2.2 (Kd.R_reads' X6.out).2.1 (Kd.R_reads' X3.out).2.2 (Kd.R_reads' X3.out).2.1 H5.out).mono ?_)
  rintro e w7 ⟨rfl, hb⟩
  have Z7 : Aside0 (w6.heap.size ≤ w7.heap.size) := ⟨hb.size⟩
  have n0_ := Aside0.mk (Kd.R_below X1.out hb)
  have n1_ := Aside0.mk (Kd.R_below X2.out hb)
  have n2_ := Aside0.mk (Kd.R_below X3.out hb)
  have n3_ := Aside0.mk (Kd.R_below X4.out hb)
  have n4_ := Aside0.mk (Kd.R_below X5.out hb)
  have n5_ := Aside0.mk (Kd.R_below X6.out hb)
  have hb_ := Aside0.mk (below_then HB.out HB.out.size hb)
  clear X1 X2 X3 X4 X5 X6
  have X1 := n0_
  have X2 := n1_
  have X3 := n2_
  have X4 := n3_
  have X5 := n4_
  have X6 := n5_
  clear n0_ n1_ n2_ n3_ n4_ n5_
  clear HB
  have HB := hb_
  clear hb_
  clear hb
  go_wp2_with fail
  (refine (laws_toCmdS.calls K1 A0 c0 l0 r2 w7 (Kd.C_below HR0.out HB.out) HC0.out H1.out).mono ?_)
  rintro e w8 ⟨v0_, rfl, hS0, hb⟩
  have X7 : Aside0 (Kd.R k27 27 w8 w.heap.size (fun k => w7.heap.size ≤ k ∧ k < w8.heap.size) v0_ r2) := ⟨Kd.R_mono (Kd.R_lower (Kd.R_bound hS0) HB.out.size) (fun k hk => ⟨hk.2.1, hk.2.2.1⟩)⟩
  have Z8 : Aside0 (w7.heap.size ≤ w8.heap.size) := ⟨hb.size⟩
  have n0_ := Aside0.mk (Kd.R_below X1.out hb)
  have n1_ := Aside0.mk (Kd.R_below X2.out hb)
  have n2_ := Aside0.mk (Kd.R_below X3.out hb)
  have n3_ := Aside0.mk (Kd.R_below X4.out hb)
  have n4_ := Aside0.mk (Kd.R_below X5.out hb)
  have n5_ := Aside0.mk (Kd.R_below X6.out hb)
  have hb_ := Aside0.mk (below_then HB.out HB.out.size hb)
  clear X1 X2 X3 X4 X5 X6
  have X1 := n0_
  have X2 := n1_
  have X3 := n2_
  have X4 := n3_
  have X5 := n4_
  have X6 := n5_
  clear n0_ n1_ n2_ n3_ n4_ n5_
  clear HB
  have HB := hb_
  clear hb_
  clear hb hS0
  obtain ⟨A7_, c7_, rfl⟩ := Kd.R_slice X7.out
  obtain ⟨⟨K6, h6⟩, hF⟩ := HF.out
  clear HF
  have HF := Aside0.mk hF
  clear hF
  have H6 := Aside0.mk h6
  clear h6
  go_wp2_with fail
  (refine (laws_eqCmdS.calls K6 A4_ c4_ r2 A7_ c7_ r2 true w8 (Kd.R_reads' X4.out).2.2 (Kd.R_reads' X4.out).2.1 (Kd.R_reads' X7.out).2.2 (Kd.R_reads' X7.out).2.1 H6.out).mono ?_)
  rintro e w9 ⟨rfl, hb⟩
  have Z9 : Aside0 (w8.heap.size ≤ w9.heap.size) := ⟨hb.size⟩
  have n0_ := Aside0.mk (Kd.R_below X1.out hb)
  have n1_ := Aside0.mk (Kd.R_below X2.out hb)
  have n2_ := Aside0.mk (Kd.R_below X3.out hb)
  have n3_ := Aside0.mk (Kd.R_below X4.out hb)
  have n4_ := Aside0.mk (Kd.R_below X5.out hb)
  have n5_ := Aside0.mk (Kd.R_below X6.out hb)
  have n6_ := Aside0.mk (Kd.R_below X7.out hb)
  have hb_ := Aside0.mk (below_then HB.out HB.out.size hb)
  clear X1 X2 X3 X4 X5 X6 X7
  have X1 := n0_
  have X2 := n1_
  have X3 := n2_
  have X4 := n3_
  have X5 := n4_
  have X6 := n5_
  have X7 := n6_
  clear n0_ n1_ n2_ n3_ n4_ n5_ n6_
  clear HB
  have HB := hb_
  clear hb_
  clear hb
  obtain ⟨m6, rm6, ⟨K7, h7⟩, hF⟩ := HF.out
  clear HF
  have HF := Aside0.mk hF
  clear hF
  have H7 := Aside0.mk h7
  clear h7
  go_wp2_with fail
  (refine (laws_markCmdS.calls K7 (fun k => some k = (Value.slice A4_ (r2.length) c4_).ownBlock) _ r2 1 m6 rm6 w w9 HB.out (Kd.R_tight rfl X4.out) H7.out.2).mono ?_)
  rintro e w10 ⟨rfl, hS, hb, hk⟩
  have hm6 := H7.out.1
  have Z10 : Aside0 (w9.heap.size ≤ w10.heap.size) := ⟨hk.1⟩
  have n0_ := Aside0.mk (Kd.R_kept X1.out hk (fun k h1_ h2_ => by have h3_ := X4.out.1 k h2_.symm; have := Z1.out; have := Z2.out; have := Z3.out; have := Z4.out; have := Z5.out; have := Z6.out; have := Z7.out; have := Z8.out; have := Z9.out; (try dsimp only at h1_ h3_); omega))
  have n1_ := Aside0.mk (Kd.R_kept X2.out hk (fun k h1_ h2_ => by have h3_ := X4.out.1 k h2_.symm; have := Z1.out; have := Z2.out; have := Z3.out; have := Z4.out; have := Z5.out; have := Z6.out; have := Z7.out; have := Z8.out; have := Z9.out; (try dsimp only at h1_ h3_); omega))
  have n2_ := Aside0.mk (Kd.R_kept X3.out hk (fun k h1_ h2_ => by have h3_ := X4.out.1 k h2_.symm; have := Z1.out; have := Z2.out; have := Z3.out; have := Z4.out; have := Z5.out; have := Z6.out; have := Z7.out; have := Z8.out; have := Z9.out; (try dsimp only at h1_ h3_); omega))
  have n3_ := Aside0.mk (Kd.R_reok rfl hS (fun k hk => X4.out.1 k hk))
  have n4_ := Aside0.mk (Kd.R_kept X5.out hk (fun k h1_ h2_ => by have h3_ := X4.out.1 k h2_.symm; have := Z1.out; have := Z2.out; have := Z3.out; have := Z4.out; have := Z5.out; have := Z6.out; have := Z7.out; have := Z8.out; have := Z9.out; (try dsimp only at h1_ h3_); omega))
  have n5_ := Aside0.mk (Kd.R_kept X6.out hk (fun k h1_ h2_ => by have h3_ := X4.out.1 k h2_.symm; have := Z1.out; have := Z2.out; have := Z3.out; have := Z4.out; have := Z5.out; have := Z6.out; have := Z7.out; have := Z8.out; have := Z9.out; (try dsimp only at h1_ h3_); omega))
  have n6_ := Aside0.mk (Kd.R_kept X7.out hk (fun k h1_ h2_ => by have h3_ := X4.out.1 k h2_.symm; have := Z1.out; have := Z2.out; have := Z3.out; have := Z4.out; have := Z5.out; have := Z6.out; have := Z7.out; have := Z8.out; have := Z9.out; (try dsimp only at h1_ h3_); omega))
  have hb_ := Aside0.mk (hb)
  clear X1 X2 X3 X4 X5 X6 X7
  have X1 := n0_
  have X2 := n1_
  have X3 := n2_
  have X4 := n3_
  have X5 := n4_
  have X6 := n5_
  have X7 := n6_
  clear n0_ n1_ n2_ n3_ n4_ n5_ n6_
  clear HB
  have HB := hb_
  clear hb_
  clear hS hb hk
  go_wp2_with fail
  (refine (laws_eqIntS.calls K4 A5_ c5_ r3 A2_ c2_ r3 true w10 (Kd.R_reads' X5.out).2.2 (Kd.R_reads' X5.out).2.1 (Kd.R_reads' X2.out).2.2 (Kd.R_reads' X2.out).2.1 H4.out).mono ?_)
  rintro e w11 ⟨rfl, hd⟩
  have hb := hd.below
  clear hd
  have Z11 : Aside0 (w10.heap.size ≤ w11.heap.size) := ⟨hb.size⟩
  have n0_ := Aside0.mk (Kd.R_below X1.out hb)
  have n1_ := Aside0.mk (Kd.R_below X2.out hb)
  have n2_ := Aside0.mk (Kd.R_below X3.out hb)
  have n3_ := Aside0.mk (Kd.R_below X4.out hb)
  have n4_ := Aside0.mk (Kd.R_below X5.out hb)
  have n5_ := Aside0.mk (Kd.R_below X6.out hb)
  have n6_ := Aside0.mk (Kd.R_below X7.out hb)
  have hb_ := Aside0.mk (below_then HB.out HB.out.size hb)
  clear X1 X2 X3 X4 X5 X6 X7
  have X1 := n0_
  have X2 := n1_
  have X3 := n2_
  have X4 := n3_
  have X5 := n4_
  have X6 := n5_
  have X7 := n6_
  clear n0_ n1_ n2_ n3_ n4_ n5_ n6_
  clear HB
  have HB := hb_
  clear hb_
  clear hb
  go_wp2_with fail
  (refine (laws_eqToldS.calls K5 A6_ c6_ r4 A3_ c3_ r4 true w11 (Kd.R_reads' X6.out).2.2 (Kd.R_reads' X6.out).2.1 (Kd.R_reads' X3.out).2.2 (Kd.R_reads' X3.out).2.1 H5.out).mono ?_)
  rintro e w12 ⟨rfl, hb⟩
  have Z12 : Aside0 (w11.heap.size ≤ w12.heap.size) := ⟨hb.size⟩
  have n0_ := Aside0.mk (Kd.R_below X1.out hb)
  have n1_ := Aside0.mk (Kd.R_below X2.out hb)
  have n2_ := Aside0.mk (Kd.R_below X3.out hb)
  have n3_ := Aside0.mk (Kd.R_below X4.out hb)
  have n4_ := Aside0.mk (Kd.R_below X5.out hb)
  have n5_ := Aside0.mk (Kd.R_below X6.out hb)
  have n6_ := Aside0.mk (Kd.R_below X7.out hb)
  have hb_ := Aside0.mk (below_then HB.out HB.out.size hb)
  clear X1 X2 X3 X4 X5 X6 X7
  have X1 := n0_
  have X2 := n1_
  have X3 := n2_
  have X4 := n3_
  have X5 := n4_
  have X6 := n5_
  have X7 := n6_
  clear n0_ n1_ n2_ n3_ n4_ n5_ n6_
  clear HB
  have HB := hb_
  clear hb_
  clear hb
  obtain ⟨m7, rm7, ⟨K8, h8⟩, hF⟩ := HF.out
  clear HF
  have HF := Aside0.mk hF
  clear hF
  have H8 := Aside0.mk h8
  clear h8
  go_wp2_with fail
  (refine (laws_markIntS.calls K8 (fun k => some k = (Value.slice A5_ (r3.length) c5_).ownBlock) _ r3 1 m7 rm7 w w12 HB.out (Kd.R_tight rfl X5.out) H8.out.2).mono ?_)
  rintro e w13 ⟨rfl, hS, hb, hk⟩
  have hm7 := H8.out.1
  have Z13 : Aside0 (w12.heap.size ≤ w13.heap.size) := ⟨hk.1⟩
  have n0_ := Aside0.mk (Kd.R_kept X1.out hk (fun k h1_ h2_ => by have h3_ := X5.out.1 k h2_.symm; have := Z1.out; have := Z2.out; have := Z3.out; have := Z4.out; have := Z5.out; have := Z6.out; have := Z7.out; have := Z8.out; have := Z9.out; have := Z10.out; have := Z11.out; have := Z12.out; (try dsimp only at h1_ h3_); omega))
  have n1_ := Aside0.mk (Kd.R_kept X2.out hk (fun k h1_ h2_ => by have h3_ := X5.out.1 k h2_.symm; have := Z1.out; have := Z2.out; have := Z3.out; have := Z4.out; have := Z5.out; have := Z6.out; have := Z7.out; have := Z8.out; have := Z9.out; have := Z10.out; have := Z11.out; have := Z12.out; (try dsimp only at h1_ h3_); omega))
  have n2_ := Aside0.mk (Kd.R_kept X3.out hk (fun k h1_ h2_ => by have h3_ := X5.out.1 k h2_.symm; have := Z1.out; have := Z2.out; have := Z3.out; have := Z4.out; have := Z5.out; have := Z6.out; have := Z7.out; have := Z8.out; have := Z9.out; have := Z10.out; have := Z11.out; have := Z12.out; (try dsimp only at h1_ h3_); omega))
  have n3_ := Aside0.mk (Kd.R_kept X4.out hk (fun k h1_ h2_ => by have h3_ := X5.out.1 k h2_.symm; have := Z1.out; have := Z2.out; have := Z3.out; have := Z4.out; have := Z5.out; have := Z6.out; have := Z7.out; have := Z8.out; have := Z9.out; have := Z10.out; have := Z11.out; have := Z12.out; (try dsimp only at h1_ h3_); omega))
  have n4_ := Aside0.mk (Kd.R_reok rfl hS (fun k hk => X5.out.1 k hk))
  have n5_ := Aside0.mk (Kd.R_mono (Kd.R_kept (Kd.R_apart' X6.out (Kd.R_typed X5.out) (by decide)) hk (fun k h1_ h2_ => h1_.2 h2_)) (fun k h1_ => h1_.1))
  have n6_ := Aside0.mk (Kd.R_kept X7.out hk (fun k h1_ h2_ => by have h3_ := X5.out.1 k h2_.symm; have := Z1.out; have := Z2.out; have := Z3.out; have := Z4.out; have := Z5.out; have := Z6.out; have := Z7.out; have := Z8.out; have := Z9.out; have := Z10.out; have := Z11.out; have := Z12.out; (try dsimp only at h1_ h3_); omega))
  have hb_ := Aside0.mk (hb)
  clear X1 X2 X3 X4 X5 X6 X7
  have X1 := n0_
  have X2 := n1_
  have X3 := n2_
  have X4 := n3_
  have X5 := n4_
  have X6 := n5_
  have X7 := n6_
  clear n0_ n1_ n2_ n3_ n4_ n5_ n6_
  clear HB
  have HB := hb_
  clear hb_
  clear hS hb hk
  obtain ⟨m8, rm8, ⟨K9, h9⟩, hF⟩ := HF.out
  clear HF
  have HF := Aside0.mk hF
  clear hF
  have H9 := Aside0.mk h9
  clear h9
  go_wp2_with fail
  (refine (laws_markToldS.calls K9 (fun k => some k = (Value.slice A6_ (r4.length) c6_).ownBlock) _ r4 m7 m8 rm8 w w13 HB.out (Kd.R_tight rfl X6.out) H9.out.2).mono ?_)
  rintro e w14 ⟨rfl, hS, hb, hk⟩
  have hm8 := H9.out.1
  have Z14 : Aside0 (w13.heap.size ≤ w14.heap.size) := ⟨hk.1⟩
  have n0_ := Aside0.mk (Kd.R_kept X1.out hk (fun k h1_ h2_ => by have h3_ := X6.out.1 k h2_.symm; have := Z1.out; have := Z2.out; have := Z3.out; have := Z4.out; have := Z5.out; have := Z6.out; have := Z7.out; have := Z8.out; have := Z9.out; have := Z10.out; have := Z11.out; have := Z12.out; have := Z13.out; (try dsimp only at h1_ h3_); omega))
  have n1_ := Aside0.mk (Kd.R_kept X2.out hk (fun k h1_ h2_ => by have h3_ := X6.out.1 k h2_.symm; have := Z1.out; have := Z2.out; have := Z3.out; have := Z4.out; have := Z5.out; have := Z6.out; have := Z7.out; have := Z8.out; have := Z9.out; have := Z10.out; have := Z11.out; have := Z12.out; have := Z13.out; (try dsimp only at h1_ h3_); omega))
  have n2_ := Aside0.mk (Kd.R_kept X3.out hk (fun k h1_ h2_ => by have h3_ := X6.out.1 k h2_.symm; have := Z1.out; have := Z2.out; have := Z3.out; have := Z4.out; have := Z5.out; have := Z6.out; have := Z7.out; have := Z8.out; have := Z9.out; have := Z10.out; have := Z11.out; have := Z12.out; have := Z13.out; (try dsimp only at h1_ h3_); omega))
  have n3_ := Aside0.mk (Kd.R_kept X4.out hk (fun k h1_ h2_ => by have h3_ := X6.out.1 k h2_.symm; have := Z1.out; have := Z2.out; have := Z3.out; have := Z4.out; have := Z5.out; have := Z6.out; have := Z7.out; have := Z8.out; have := Z9.out; have := Z10.out; have := Z11.out; have := Z12.out; have := Z13.out; (try dsimp only at h1_ h3_); omega))
  have n4_ := Aside0.mk (Kd.R_mono (Kd.R_kept (Kd.R_apart' X5.out (Kd.R_typed X6.out) (by decide)) hk (fun k h1_ h2_ => h1_.2 h2_)) (fun k h1_ => h1_.1))
  have n5_ := Aside0.mk (Kd.R_reok rfl hS (fun k hk => X6.out.1 k hk))
  have n6_ := Aside0.mk (Kd.R_kept X7.out hk (fun k h1_ h2_ => by have h3_ := X6.out.1 k h2_.symm; have := Z1.out; have := Z2.out; have := Z3.out; have := Z4.out; have := Z5.out; have := Z6.out; have := Z7.out; have := Z8.out; have := Z9.out; have := Z10.out; have := Z11.out; have := Z12.out; have := Z13.out; (try dsimp only at h1_ h3_); omega))
  have hb_ := Aside0.mk (hb)
  clear X1 X2 X3 X4 X5 X6 X7
  have X1 := n0_
  have X2 := n1_
  have X3 := n2_
  have X4 := n3_
  have X5 := n4_
  have X6 := n5_
  have X7 := n6_
  clear n0_ n1_ n2_ n3_ n4_ n5_ n6_
  clear HB
  have HB := hb_
  clear hb_
  clear hS hb hk
  obtain ⟨⟨K10, h10⟩, hF⟩ := HF.out
  clear HF
  have HF := Aside0.mk hF
  clear hF
  have H10 := Aside0.mk h10
  clear h10
  go_wp2_with fail
  have hc_ := laws_heldIntS.calls K10 A5_ c5_ rm7 1 m7 w14 (Kd.R_reads' X5.out).2.2 (Nat.le_trans (Nat.le_of_eq (Kd.R_reads' X5.out).1.symm) (Kd.R_reads' X5.out).2.1) H10.out
  rw [← (Kd.R_reads' X5.out).1] at hc_
  (refine (hc_).mono ?_)
  clear hc_
  rintro e w15 ⟨rfl, hd⟩
  have hb := hd.below
  clear hd
  have Z15 : Aside0 (w14.heap.size ≤ w15.heap.size) := ⟨hb.size⟩
  have n0_ := Aside0.mk (Kd.R_below X1.out hb)
  have n1_ := Aside0.mk (Kd.R_below X2.out hb)
  have n2_ := Aside0.mk (Kd.R_below X3.out hb)
  have n3_ := Aside0.mk (Kd.R_below X4.out hb)
  have n4_ := Aside0.mk (Kd.R_below X5.out hb)
  have n5_ := Aside0.mk (Kd.R_below X6.out hb)
  have n6_ := Aside0.mk (Kd.R_below X7.out hb)
  have hb_ := Aside0.mk (below_then HB.out HB.out.size hb)
  clear X1 X2 X3 X4 X5 X6 X7
  have X1 := n0_
  have X2 := n1_
  have X3 := n2_
  have X4 := n3_
  have X5 := n4_
  have X6 := n5_
  have X7 := n6_
  clear n0_ n1_ n2_ n3_ n4_ n5_ n6_
  clear HB
  have HB := hb_
  clear hb_
  clear hb
  obtain ⟨⟨K11, h11⟩, hF⟩ := HF.out
  clear HF
  have HF := Aside0.mk hF
  clear hF
  have H11 := Aside0.mk h11
  clear h11
  go_wp2_with fail
  have hc_ := laws_heldToldS.calls K11 A6_ c6_ rm8 m7 m8 w15 (Kd.R_reads' X6.out).2.2 (Nat.le_trans (Nat.le_of_eq (Kd.R_reads' X6.out).1.symm) (Kd.R_reads' X6.out).2.1) H11.out
  rw [← (Kd.R_reads' X6.out).1] at hc_
  (refine (hc_).mono ?_)
  clear hc_
  rintro e w16 ⟨rfl, hd⟩
  have hb := hd.below
  clear hd
  have Z16 : Aside0 (w15.heap.size ≤ w16.heap.size) := ⟨hb.size⟩
  have n0_ := Aside0.mk (Kd.R_below X1.out hb)
  have n1_ := Aside0.mk (Kd.R_below X2.out hb)
  have n2_ := Aside0.mk (Kd.R_below X3.out hb)
  have n3_ := Aside0.mk (Kd.R_below X4.out hb)
  have n4_ := Aside0.mk (Kd.R_below X5.out hb)
  have n5_ := Aside0.mk (Kd.R_below X6.out hb)
  have n6_ := Aside0.mk (Kd.R_below X7.out hb)
  have hb_ := Aside0.mk (below_then HB.out HB.out.size hb)
  clear X1 X2 X3 X4 X5 X6 X7
  have X1 := n0_
  have X2 := n1_
  have X3 := n2_
  have X4 := n3_
  have X5 := n4_
  have X6 := n5_
  have X7 := n6_
  clear n0_ n1_ n2_ n3_ n4_ n5_ n6_
  clear HB
  have HB := hb_
  clear hb_
  clear hb
  go_wp2_with fail
  (refine (laws_toCmdS.calls K1 A0 c0 l0 r2 w16 (Kd.C_below HR0.out HB.out) HC0.out H1.out).mono ?_)
  rintro e w17 ⟨v0_, rfl, hS0, hb⟩
  have X8 : Aside0 (Kd.R k27 27 w17 w.heap.size (fun k => w16.heap.size ≤ k ∧ k < w17.heap.size) v0_ r2) := ⟨Kd.R_mono (Kd.R_lower (Kd.R_bound hS0) HB.out.size) (fun k hk => ⟨hk.2.1, hk.2.2.1⟩)⟩
  have Z17 : Aside0 (w16.heap.size ≤ w17.heap.size) := ⟨hb.size⟩
  have n0_ := Aside0.mk (Kd.R_below X1.out hb)
  have n1_ := Aside0.mk (Kd.R_below X2.out hb)
  have n2_ := Aside0.mk (Kd.R_below X3.out hb)
  have n3_ := Aside0.mk (Kd.R_below X4.out hb)
  have n4_ := Aside0.mk (Kd.R_below X5.out hb)
  have n5_ := Aside0.mk (Kd.R_below X6.out hb)
  have n6_ := Aside0.mk (Kd.R_below X7.out hb)
  have hb_ := Aside0.mk (below_then HB.out HB.out.size hb)
  clear X1 X2 X3 X4 X5 X6 X7
  have X1 := n0_
  have X2 := n1_
  have X3 := n2_
  have X4 := n3_
  have X5 := n4_
  have X6 := n5_
  have X7 := n6_
  clear n0_ n1_ n2_ n3_ n4_ n5_ n6_
  clear HB
  have HB := hb_
  clear hb_
  clear hb hS0
  obtain ⟨A8_, c8_, rfl⟩ := Kd.R_slice X8.out
  go_wp2_with fail
  (refine (impl_PlayCmds.calls K3 A8_ c8_ r2 r3 r4 r5 w17 (Kd.R_reads' X8.out).2.2 (Kd.R_reads' X8.out).2.1 H3.out).mono ?_)
  rintro e w18 ⟨v0_, v1_, rfl, hS0, hS1, hb⟩
  have X9 : Aside0 (Kd.R (Kd.int .i64) 3 w18 w.heap.size (fun k => w17.heap.size ≤ k ∧ k < w18.heap.size) v0_ r3) := ⟨Kd.R_mono (Kd.R_lower (Kd.R_bound hS0) HB.out.size) (fun k hk => ⟨hk.2.1, hk.2.2.1⟩)⟩
  have X10 : Aside0 (Kd.R k36 36 w18 w.heap.size (fun k => w17.heap.size ≤ k ∧ k < w18.heap.size) v1_ r4) := ⟨Kd.R_mono (Kd.R_lower (Kd.R_bound hS1) HB.out.size) (fun k hk => ⟨hk.2.1, hk.2.2.1⟩)⟩
  have Z18 : Aside0 (w17.heap.size ≤ w18.heap.size) := ⟨hb.size⟩
  have n0_ := Aside0.mk (Kd.R_below X1.out hb)
  have n1_ := Aside0.mk (Kd.R_below X2.out hb)
  have n2_ := Aside0.mk (Kd.R_below X3.out hb)
  have n3_ := Aside0.mk (Kd.R_below X4.out hb)
  have n4_ := Aside0.mk (Kd.R_below X5.out hb)
  have n5_ := Aside0.mk (Kd.R_below X6.out hb)
  have n6_ := Aside0.mk (Kd.R_below X7.out hb)
  have n7_ := Aside0.mk (Kd.R_below X8.out hb)
  have hb_ := Aside0.mk (below_then HB.out HB.out.size hb)
  clear X1 X2 X3 X4 X5 X6 X7 X8
  have X1 := n0_
  have X2 := n1_
  have X3 := n2_
  have X4 := n3_
  have X5 := n4_
  have X6 := n5_
  have X7 := n6_
  have X8 := n7_
  clear n0_ n1_ n2_ n3_ n4_ n5_ n6_ n7_
  clear HB
  have HB := hb_
  clear hb_
  clear hb hS0 hS1
  obtain ⟨A9_, c9_, rfl⟩ := Kd.R_slice X9.out
  obtain ⟨A10_, c10_, rfl⟩ := Kd.R_slice X10.out
  go_wp2_with fail
  (refine (laws_eqIntS.calls K4 A9_ c9_ r3 A2_ c2_ r3 true w18 (Kd.R_reads' X9.out).2.2 (Kd.R_reads' X9.out).2.1 (Kd.R_reads' X2.out).2.2 (Kd.R_reads' X2.out).2.1 H4.out).mono ?_)
  rintro e w19 ⟨rfl, hd⟩
  have hb := hd.below
  clear hd
  have Z19 : Aside0 (w18.heap.size ≤ w19.heap.size) := ⟨hb.size⟩
  have n0_ := Aside0.mk (Kd.R_below X1.out hb)
  have n1_ := Aside0.mk (Kd.R_below X2.out hb)
  have n2_ := Aside0.mk (Kd.R_below X3.out hb)
  have n3_ := Aside0.mk (Kd.R_below X4.out hb)
  have n4_ := Aside0.mk (Kd.R_below X5.out hb)
  have n5_ := Aside0.mk (Kd.R_below X6.out hb)
  have n6_ := Aside0.mk (Kd.R_below X7.out hb)
  have n7_ := Aside0.mk (Kd.R_below X8.out hb)
  have n8_ := Aside0.mk (Kd.R_below X9.out hb)
  have n9_ := Aside0.mk (Kd.R_below X10.out hb)
  have hb_ := Aside0.mk (below_then HB.out HB.out.size hb)
  clear X1 X2 X3 X4 X5 X6 X7 X8 X9 X10
  have X1 := n0_
  have X2 := n1_
  have X3 := n2_
  have X4 := n3_
  have X5 := n4_
  have X6 := n5_
  have X7 := n6_
  have X8 := n7_
  have X9 := n8_
  have X10 := n9_
  clear n0_ n1_ n2_ n3_ n4_ n5_ n6_ n7_ n8_ n9_
  clear HB
  have HB := hb_
  clear hb_
  clear hb
  go_wp2_with fail
  (refine (laws_eqToldS.calls K5 A10_ c10_ r4 A3_ c3_ r4 true w19 (Kd.R_reads' X10.out).2.2 (Kd.R_reads' X10.out).2.1 (Kd.R_reads' X3.out).2.2 (Kd.R_reads' X3.out).2.1 H5.out).mono ?_)
  rintro e w20 ⟨rfl, hb⟩
  have Z20 : Aside0 (w19.heap.size ≤ w20.heap.size) := ⟨hb.size⟩
  have n0_ := Aside0.mk (Kd.R_below X1.out hb)
  have n1_ := Aside0.mk (Kd.R_below X2.out hb)
  have n2_ := Aside0.mk (Kd.R_below X3.out hb)
  have n3_ := Aside0.mk (Kd.R_below X4.out hb)
  have n4_ := Aside0.mk (Kd.R_below X5.out hb)
  have n5_ := Aside0.mk (Kd.R_below X6.out hb)
  have n6_ := Aside0.mk (Kd.R_below X7.out hb)
  have n7_ := Aside0.mk (Kd.R_below X8.out hb)
  have n8_ := Aside0.mk (Kd.R_below X9.out hb)
  have n9_ := Aside0.mk (Kd.R_below X10.out hb)
  have hb_ := Aside0.mk (below_then HB.out HB.out.size hb)
  clear X1 X2 X3 X4 X5 X6 X7 X8 X9 X10
  have X1 := n0_
  have X2 := n1_
  have X3 := n2_
  have X4 := n3_
  have X5 := n4_
  have X6 := n5_
  have X7 := n6_
  have X8 := n7_
  have X9 := n8_
  have X10 := n9_
  clear n0_ n1_ n2_ n3_ n4_ n5_ n6_ n7_ n8_ n9_
  clear HB
  have HB := hb_
  clear hb_
  clear hb
  go_wp2_with fail
  have hc_ := laws_heldIntS.calls K10 A5_ c5_ rm7 1 m7 w20 (Kd.R_reads' X5.out).2.2 (Nat.le_trans (Nat.le_of_eq (Kd.R_reads' X5.out).1.symm) (Kd.R_reads' X5.out).2.1) H10.out
  rw [← (Kd.R_reads' X5.out).1] at hc_
  (refine (hc_).mono ?_)
  clear hc_
  rintro e w21 ⟨rfl, hd⟩
  have hb := hd.below
  clear hd
  have Z21 : Aside0 (w20.heap.size ≤ w21.heap.size) := ⟨hb.size⟩
  have n0_ := Aside0.mk (Kd.R_below X1.out hb)
  have n1_ := Aside0.mk (Kd.R_below X2.out hb)
  have n2_ := Aside0.mk (Kd.R_below X3.out hb)
  have n3_ := Aside0.mk (Kd.R_below X4.out hb)
  have n4_ := Aside0.mk (Kd.R_below X5.out hb)
  have n5_ := Aside0.mk (Kd.R_below X6.out hb)
  have n6_ := Aside0.mk (Kd.R_below X7.out hb)
  have n7_ := Aside0.mk (Kd.R_below X8.out hb)
  have n8_ := Aside0.mk (Kd.R_below X9.out hb)
  have n9_ := Aside0.mk (Kd.R_below X10.out hb)
  have hb_ := Aside0.mk (below_then HB.out HB.out.size hb)
  clear X1 X2 X3 X4 X5 X6 X7 X8 X9 X10
  have X1 := n0_
  have X2 := n1_
  have X3 := n2_
  have X4 := n3_
  have X5 := n4_
  have X6 := n5_
  have X7 := n6_
  have X8 := n7_
  have X9 := n8_
  have X10 := n9_
  clear n0_ n1_ n2_ n3_ n4_ n5_ n6_ n7_ n8_ n9_
  clear HB
  have HB := hb_
  clear hb_
  clear hb
  go_wp2_with fail
  have hc_ := laws_heldToldS.calls K11 A6_ c6_ rm8 m7 m8 w21 (Kd.R_reads' X6.out).2.2 (Nat.le_trans (Nat.le_of_eq (Kd.R_reads' X6.out).1.symm) (Kd.R_reads' X6.out).2.1) H11.out
  rw [← (Kd.R_reads' X6.out).1] at hc_
  (refine (hc_).mono ?_)
  clear hc_
  rintro e w22 ⟨rfl, hd⟩
  have hb := hd.below
  clear hd
  have Z22 : Aside0 (w21.heap.size ≤ w22.heap.size) := ⟨hb.size⟩
  have n0_ := Aside0.mk (Kd.R_below X1.out hb)
  have n1_ := Aside0.mk (Kd.R_below X2.out hb)
  have n2_ := Aside0.mk (Kd.R_below X3.out hb)
  have n3_ := Aside0.mk (Kd.R_below X4.out hb)
  have n4_ := Aside0.mk (Kd.R_below X5.out hb)
  have n5_ := Aside0.mk (Kd.R_below X6.out hb)
  have n6_ := Aside0.mk (Kd.R_below X7.out hb)
  have n7_ := Aside0.mk (Kd.R_below X8.out hb)
  have n8_ := Aside0.mk (Kd.R_below X9.out hb)
  have n9_ := Aside0.mk (Kd.R_below X10.out hb)
  have hb_ := Aside0.mk (below_then HB.out HB.out.size hb)
  clear X1 X2 X3 X4 X5 X6 X7 X8 X9 X10
  have X1 := n0_
  have X2 := n1_
  have X3 := n2_
  have X4 := n3_
  have X5 := n4_
  have X6 := n5_
  have X7 := n6_
  have X8 := n7_
  have X9 := n8_
  have X10 := n9_
  clear n0_ n1_ n2_ n3_ n4_ n5_ n6_ n7_ n8_ n9_
  clear HB
  have HB := hb_
  clear hb_
  clear hb
  go_wp2
  go_ret
  exact ⟨rfl, HB.out⟩

def q23 (x : S23) : Prop := (Lit.int .i64 x.f0).wf = true ∧ (Lit.int .i64 x.f1).wf = true ∧ (Lit.int .i64 x.f2).wf = true ∧ (Lit.int .i64 x.f3).wf = true ∧ (Lit.int .i64 x.f4).wf = true
/-- THE ONE PURE STATEMENT of laws_FnExactPlayCmds. -/
def laws_FnExactPlayCmds.Pure : Prop := ∀ (l0 : List (S23)), (l0.length ≤ 9223372036854775807 ∧ ∀ y ∈ l0, q23 y) → laws_FnExactPlayCmds.Facts l0

end Go.Proofs.Ytbhhgeecieeefaa.QFnExactPlayCmds
