-- Written by a program of this session (wip/mk.py) over the kit's print: Lean checks it.
import Derived.Test.YtbhdhcflkamieaaQFnExactAccountOfx0
import Derived.Test.YtbhdhcflkamieaaQFnExactAccountOfx2
import Derived.Test.YtbhdhcflkamieaaQFnExactAccountOfx4
import Derived.Test.YtbhdhcflkamieaaQFnExactAccountOfx5
import Derived.Test.YtbhdhcflkamieaaQFnExactAccountOfx6
namespace Go.Proofs.Ytbhdhcflkamieaa.QFnExactAccountOf
open Go.RowKit Go.Proofs.YtbhdhcflkamieaaW.PrintWords Go.Proofs.YtbhdhcflkamieaaW.PrintLast Go.Proofs.YtbhdhcflkamieaaW.PrintMore
attribute [local go_sem] max2_int min2_int max_two min_two max_three min_three max_four min_four   -- for this text's walks alone
set_option linter.unusedVariables false
set_option linter.unusedSimpArgs false

/-! ### laws_FnExactAccountOf: function 4 -/
section
open Go.RowKit
/-- A struct's variable is loaded whole. -/
theorem load_run {P : Program} {o : Oper} {a : Act} {W : World} {g : Nat} {cs : Array Value} {t : TypeId} (hg : W.heap[g]? = some (.cells cs t (0, 0))) (n : Nat) (hn : cs.size = n) (ty : TypeId) (x : Operand) (ho : o.op = .load ty x)
    (hx : a.eval x = .pointer (some ⟨g, 0, none⟩)) (d : TypeDesc) (hu : P.underlying ty = some d) (hd : (match d with | .struct _ | .array _ _ => true | _ => false) = true) (hi : (P.info? ty).map (·.size) = some n) :
    (execOp a.eval o).run P W = .ok (.value (.agg cs)) W := by
  subst hn
  unfold execOp
  simp only [ho, hx, Instr.loadAt, Instr.sureAddr, Sem.run_bind, Sem.run_pure, Result.andThen_ok, run_loadVar_row W g t ty cs (0, 0) d hg hu hd hi]

theorem store_run {P : Program} {o : Oper} {a : Act} {W : World} {g : Nat} {cs cs' : Array Value} {t : TypeId} (hg : W.heap[g]? = some (.cells cs t (0, 0))) (n : Nat) (hn : cs.size = n) (hn' : cs'.size = n) (ty : TypeId) (x y : Operand) (ho : o.op = .store ty x y)
    (hx : a.eval x = .pointer (some ⟨g, 0, none⟩)) (hy : a.eval y = .agg cs') (hi : (P.info? ty).map (·.size) = some n) (h1 : cs'.all (·.oneCell') = true) :
    (execOp a.eval o).run P W = .ok .skip (W.setRow g cs') := by
  unfold execOp
  simp only [ho, hx, hy, Instr.storeAt, Instr.sureAddr, Sem.run_bind, Sem.run_pure, Result.andThen_ok, run_storeVar_row W g t ty cs cs' hg (by rw [hn']; exact hi) (by rw [hn, hn']) h1]
theorem kept_setRow (W : World) (g : Nat) (cs : Array Value) : Kept W (W.setRow g cs) (fun k => k = g) := ⟨by simp, fun i _ hi => setRow_other W g i cs hi⟩
theorem below_setRow_ {B g : Nat} {w0 w : World} (hb : Below B w0 w) (hBg : B ≤ g) (cs : Array Value) : Below B w0 (w.setRow g cs) :=
  ⟨hb.os, hb.tape, hb.output, by simpa using hb.size, fun k hk => (setRow_other w g k cs (by omega)).trans (hb.block k hk)⟩
end
/-- What the law's calls answer. -/
def laws_FnExactAccountOf.Facts (l0 : List (S54)) (a1 : Int) : Prop :=
  ∃ z1 : Int, (laws_szEntryS.f l0 1048576 = some z1) ∧ (z1 < 0 ∨ (0 ≤ z1 ∧ ∃ r2 : List (S49), (∃ K, laws_toEntryS.f K l0 = some r2) ∧ ∃ r3 : List (S49), ∃ r4 : Bool, (∃ K, spec_AccountOf.f K r2 a1 = some (r3, r4)) ∧ (∃ K, impl_AccountOf.f K r2 a1 = some (r3, r4)) ∧ (∃ K, laws_eqEntryS.f K r3 r3 = some true) ∧ (∃ K, laws_eqEntryS.f K r2 r2 = some true) ∧ ∃ m5 : Int, ∃ rm5 : List (S49), (∃ K, 0 ≤ m5 ∧ laws_markEntryS.f K r2 1 = some (m5, rm5)) ∧ ∃ m6 : Int, ∃ rm6 : List (S49), (∃ K, 0 ≤ m6 ∧ laws_markEntryS.f K r3 1 = some (m6, rm6)) ∧ (∃ K, laws_heldEntryS.f K rm6 1 = some m6) ∧ True))
set_option maxHeartbeats 8000000 in
set_option maxRecDepth 100000 in
theorem laws_FnExactAccountOf.calls (A0 : Option Addr) (c0 : Nat) (l0 : List (S54)) (a1 : Int) (w : World) (hr0 : Kd.C k54 w A0 l0.length l0) (hc0 : l0.length ≤ c0) (h : laws_FnExactAccountOf.Facts l0 a1) :
    Calls Try.prog 4 #[.slice A0 l0.length c0, .int .i64 a1] w fun e w' => e = .returned (.bool true) ∧ Below w.heap.size w w' := by
  unfold laws_FnExactAccountOf.Facts at h
  have HR0 := Aside0.mk hr0
  have HC0 := Aside0.mk hc0
  clear hr0 hc0
  have HF := Aside0.mk h
  clear h
  have HB := Aside0.mk (Below.refl w.heap.size w)
  obtain ⟨z1, hs, hF⟩ := HF.out
  clear HF
  have HF := Aside0.mk hF
  clear hF
  have HSz1 := Aside0.mk hs
  clear hs
  go_enter Try.func4, Try.ntmps4
  go_wp2_with fail
  (refine (laws_szEntryS.calls A0 c0 l0 1048576 z1 w (Kd.C_below HR0.out HB.out) HC0.out HSz1.out).mono ?_)
  rintro e w1 ⟨rfl, hd⟩
  have hb := hd.below
  clear hd
  have Z1 : Aside0 (w.heap.size ≤ w1.heap.size) := ⟨hb.size⟩
  have hb_ := Aside0.mk (below_then HB.out HB.out.size hb)
  clear HB
  have HB := hb_
  clear hb_
  clear hb
  rcases HF.out with hneg | ⟨hpos, hF⟩
  · clear HF
    go_wp2
    go_ret
    exact ⟨rfl, HB.out⟩
  clear HF
  have HF := Aside0.mk hF
  clear hF
  obtain ⟨r2, ⟨K1, h1⟩, hF⟩ := HF.out
  clear HF
  have HF := Aside0.mk hF
  clear hF
  have H1 := Aside0.mk h1
  clear h1
  go_wp2_with fail
  (refine (laws_toEntryS.calls K1 A0 c0 l0 r2 w1 (Kd.C_below HR0.out HB.out) HC0.out H1.out).mono ?_)
  rintro e w2 ⟨v0_, rfl, hS0, hb⟩
  have X1 : Aside0 (Kd.R k49 49 w2 w.heap.size (fun k => w1.heap.size ≤ k ∧ k < w2.heap.size) v0_ r2) := ⟨Kd.R_mono (Kd.R_lower (Kd.R_bound hS0) HB.out.size) (fun k hk => ⟨hk.2.1, hk.2.2.1⟩)⟩
  have Z2 : Aside0 (w1.heap.size ≤ w2.heap.size) := ⟨hb.size⟩
  have hb_ := Aside0.mk (below_then HB.out HB.out.size hb)
  clear HB
  have HB := hb_
  clear hb_
  clear hb hS0
  obtain ⟨A1_, c1_, rfl⟩ := Kd.R_slice X1.out
  obtain ⟨r3, r4, ⟨K2, h2⟩, hF⟩ := HF.out
  clear HF
  have HF := Aside0.mk hF
  clear hF
  have H2 := Aside0.mk h2
  clear h2
  go_wp2_with fail
  (refine (spec_AccountOf.calls K2 A1_ c1_ r2 a1 r3 r4 w2 (Kd.R_reads' X1.out).2.2 (Kd.R_reads' X1.out).2.1 H2.out).mono ?_)
  rintro e w3 ⟨v0_, rfl, hS0, hb⟩
  have X2 : Aside0 (Kd.R k49 49 w3 w.heap.size (fun k => w2.heap.size ≤ k ∧ k < w3.heap.size) v0_ r3) := ⟨Kd.R_mono (Kd.R_lower (Kd.R_bound hS0) HB.out.size) (fun k hk => ⟨hk.2.1, hk.2.2.1⟩)⟩
  have Z3 : Aside0 (w2.heap.size ≤ w3.heap.size) := ⟨hb.size⟩
  have n0_ := Aside0.mk (Kd.R_below X1.out hb)
  have hb_ := Aside0.mk (below_then HB.out HB.out.size hb)
  clear X1
  have X1 := n0_
  clear n0_
  clear HB
  have HB := hb_
  clear hb_
  clear hb hS0
  obtain ⟨A2_, c2_, rfl⟩ := Kd.R_slice X2.out
  go_wp2_with fail
  (refine (laws_toEntryS.calls K1 A0 c0 l0 r2 w3 (Kd.C_below HR0.out HB.out) HC0.out H1.out).mono ?_)
  rintro e w4 ⟨v0_, rfl, hS0, hb⟩
  have X3 : Aside0 (Kd.R k49 49 w4 w.heap.size (fun k => w3.heap.size ≤ k ∧ k < w4.heap.size) v0_ r2) := ⟨Kd.R_mono (Kd.R_lower (Kd.R_bound hS0) HB.out.size) (fun k hk => ⟨hk.2.1, hk.2.2.1⟩)⟩
  have Z4 : Aside0 (w3.heap.size ≤ w4.heap.size) := ⟨hb.size⟩
  have n0_ := Aside0.mk (Kd.R_below X1.out hb)
  have n1_ := Aside0.mk (Kd.R_below X2.out hb)
  have hb_ := Aside0.mk (below_then HB.out HB.out.size hb)
  clear X1 X2
  have X1 := n0_
  have X2 := n1_
  clear n0_ n1_
  clear HB
  have HB := hb_
  clear hb_
  clear hb hS0
  obtain ⟨A3_, c3_, rfl⟩ := Kd.R_slice X3.out
  obtain ⟨⟨K3, h3⟩, hF⟩ := HF.out
  clear HF
  have HF := Aside0.mk hF
  clear hF
  have H3 := Aside0.mk h3
  clear h3
  go_wp2_with fail
  (refine (impl_AccountOf.calls K3 A3_ c3_ r2 a1 r3 r4 w4 (Kd.R_reads' X3.out).2.2 (Kd.R_reads' X3.out).2.1 H3.out).mono ?_)
  rintro e w5 ⟨v0_, rfl, hS0, hb⟩
  have X4 : Aside0 (Kd.R k49 49 w5 w.heap.size (fun k => w4.heap.size ≤ k ∧ k < w5.heap.size) v0_ r3) := ⟨Kd.R_mono (Kd.R_lower (Kd.R_bound hS0) HB.out.size) (fun k hk => ⟨hk.2.1, hk.2.2.1⟩)⟩
  have Z5 : Aside0 (w4.heap.size ≤ w5.heap.size) := ⟨hb.size⟩
  have n0_ := Aside0.mk (Kd.R_below X1.out hb)
  have n1_ := Aside0.mk (Kd.R_below X2.out hb)
  have n2_ := Aside0.mk (Kd.R_below X3.out hb)
  have hb_ := Aside0.mk (below_then HB.out HB.out.size hb)
  clear X1 X2 X3
  have X1 := n0_
  have X2 := n1_
  have X3 := n2_
  clear n0_ n1_ n2_
  clear HB
  have HB := hb_
  clear hb_
  clear hb hS0
  obtain ⟨A4_, c4_, rfl⟩ := Kd.R_slice X4.out
  obtain ⟨⟨K4, h4⟩, hF⟩ := HF.out
  clear HF
  have HF := Aside0.mk hF
  clear hF
  have H4 := Aside0.mk h4
  clear h4
  go_wp2_with fail
  (refine (laws_eqEntryS.calls K4 A4_ c4_ r3 A2_ c2_ r3 true w5 (Kd.R_reads' X4.out).2.2 (Kd.R_reads' X4.out).2.1 (Kd.R_reads' X2.out).2.2 (Kd.R_reads' X2.out).2.1 H4.out).mono ?_)
  rintro e w6 ⟨rfl, hb⟩
  have Z6 : Aside0 (w5.heap.size ≤ w6.heap.size) := ⟨hb.size⟩
  have n0_ := Aside0.mk (Kd.R_below X1.out hb)
  have n1_ := Aside0.mk (Kd.R_below X2.out hb)
  have n2_ := Aside0.mk (Kd.R_below X3.out hb)
  have n3_ := Aside0.mk (Kd.R_below X4.out hb)
  have hb_ := Aside0.mk (below_then HB.out HB.out.size hb)
  clear X1 X2 X3 X4
  have X1 := n0_
  have X2 := n1_
  have X3 := n2_
  have X4 := n3_
  clear n0_ n1_ n2_ n3_
  clear HB
  have HB := hb_
  clear hb_
  clear hb
  go_wp2_with fail
  (refine (laws_toEntryS.calls K1 A0 c0 l0 r2 w6 (Kd.C_below HR0.out HB.out) HC0.out H1.out).mono ?_)
  rintro e w7 ⟨v0_, rfl, hS0, hb⟩
  have X5 : Aside0 (Kd.R k49 49 w7 w.heap.size (fun k => w6.heap.size ≤ k ∧ k < w7.heap.size) v0_ r2) := ⟨Kd.R_mono (Kd.R_lower (Kd.R_bound hS0) HB.out.size) (fun k hk => ⟨hk.2.1, hk.2.2.1⟩)⟩
  have Z7 : Aside0 (w6.heap.size ≤ w7.heap.size) := ⟨hb.size⟩
  have n0_ := Aside0.mk (Kd.R_below X1.out hb)
  have n1_ := Aside0.mk (Kd.R_below X2.out hb)
  have n2_ := Aside0.mk (Kd.R_below X3.out hb)
  have n3_ := Aside0.mk (Kd.R_below X4.out hb)
  have hb_ := Aside0.mk (below_then HB.out HB.out.size hb)
  clear X1 X2 X3 X4
  have X1 := n0_
  have X2 := n1_
  have X3 := n2_
  have X4 := n3_
  clear n0_ n1_ n2_ n3_
  clear HB
  have HB := hb_
  clear hb_
  clear hb hS0
  obtain ⟨A5_, c5_, rfl⟩ := Kd.R_slice X5.out
  obtain ⟨⟨K5, h5⟩, hF⟩ := HF.out
  clear HF
  have HF := Aside0.mk hF
  clear hF
  have H5 := Aside0.mk h5
  clear h5
  go_wp2_with fail
  (refine (laws_eqEntryS.calls K5 A3_ c3_ r2 A5_ c5_ r2 true w7 (Kd.R_reads' X3.out).2.2 (Kd.R_reads' X3.out).2.1 (Kd.R_reads' X5.out).2.2 (Kd.R_reads' X5.out).2.1 H5.out).mono ?_)
  rintro e w8 ⟨rfl, hb⟩
  have Z8 : Aside0 (w7.heap.size ≤ w8.heap.size) := ⟨hb.size⟩
  have n0_ := Aside0.mk (Kd.R_below X1.out hb)
  have n1_ := Aside0.mk (Kd.R_below X2.out hb)
  have n2_ := Aside0.mk (Kd.R_below X3.out hb)
  have n3_ := Aside0.mk (Kd.R_below X4.out hb)
  have n4_ := Aside0.mk (Kd.R_below X5.out hb)
  have hb_ := Aside0.mk (below_then HB.out HB.out.size hb)
  clear X1 X2 X3 X4 X5
  have X1 := n0_
  have X2 := n1_
  have X3 := n2_
  have X4 := n3_
  have X5 := n4_
  clear n0_ n1_ n2_ n3_ n4_
  clear HB
  have HB := hb_
  clear hb_
  clear hb
  obtain ⟨m5, rm5, ⟨K6, h6⟩, hF⟩ := HF.out
  clear HF
  have HF := Aside0.mk hF
  clear hF
  have H6 := Aside0.mk h6
  clear h6
  go_wp2_with fail
  (refine (laws_markEntryS.calls K6 (fun k => some k = (Value.slice A3_ (r2.length) c3_).ownBlock) _ r2 1 m5 rm5 w w8 HB.out (Kd.R_tight rfl X3.out) H6.out.2).mono ?_)
  rintro e w9 ⟨rfl, hS, hb, hk⟩
  have hm5 := H6.out.1
  have Z9 : Aside0 (w8.heap.size ≤ w9.heap.size) := ⟨hk.1⟩
  have n0_ := Aside0.mk (Kd.R_kept X1.out hk (fun k h1_ h2_ => by have h3_ := X3.out.1 k h2_.symm; have := Z1.out; have := Z2.out; have := Z3.out; have := Z4.out; have := Z5.out; have := Z6.out; have := Z7.out; have := Z8.out; (try dsimp only at h1_ h3_); omega))
  have n1_ := Aside0.mk (Kd.R_kept X2.out hk (fun k h1_ h2_ => by have h3_ := X3.out.1 k h2_.symm; have := Z1.out; have := Z2.out; have := Z3.out; have := Z4.out; have := Z5.out; have := Z6.out; have := Z7.out; have := Z8.out; (try dsimp only at h1_ h3_); omega))
  have n2_ := Aside0.mk (Kd.R_reok rfl hS (fun k hk => X3.out.1 k hk))
  have n3_ := Aside0.mk (Kd.R_kept X4.out hk (fun k h1_ h2_ => by have h3_ := X3.out.1 k h2_.symm; have := Z1.out; have := Z2.out; have := Z3.out; have := Z4.out; have := Z5.out; have := Z6.out; have := Z7.out; have := Z8.out; (try dsimp only at h1_ h3_); omega))
  have n4_ := Aside0.mk (Kd.R_kept X5.out hk (fun k h1_ h2_ => by have h3_ := X3.out.1 k h2_.symm; have := Z1.out; have := Z2.out; have := Z3.out; have := Z4.out; have := Z5.out; have := Z6.out; have := Z7.out; have := Z8.out; (try dsimp only at h1_ h3_); omega))
  have hb_ := Aside0.mk (hb)
  clear X1 X2 X3 X4 X5
  have X1 := n0_
  have X2 := n1_
  have X3 := n2_
  have X4 := n3_
  have X5 := n4_
  clear n0_ n1_ n2_ n3_ n4_
  clear HB
  have HB := hb_
  clear hb_
  clear hS hb hk
  go_wp2_with fail
  (refine (laws_eqEntryS.calls K4 A4_ c4_ r3 A2_ c2_ r3 true w9 (Kd.R_reads' X4.out).2.2 (Kd.R_reads' X4.out).2.1 (Kd.R_reads' X2.out).2.2 (Kd.R_reads' X2.out).2.1 H4.out).mono ?_)
  rintro e w10 ⟨rfl, hb⟩
  have Z10 : Aside0 (w9.heap.size ≤ w10.heap.size) := ⟨hb.size⟩
  have n0_ := Aside0.mk (Kd.R_below X1.out hb)
  have n1_ := Aside0.mk (Kd.R_below X2.out hb)
  have n2_ := Aside0.mk (Kd.R_below X3.out hb)
  have n3_ := Aside0.mk (Kd.R_below X4.out hb)
  have n4_ := Aside0.mk (Kd.R_below X5.out hb)
  have hb_ := Aside0.mk (below_then HB.out HB.out.size hb)
  clear X1 X2 X3 X4 X5
  have X1 := n0_
  have X2 := n1_
  have X3 := n2_
  have X4 := n3_
  have X5 := n4_
  clear n0_ n1_ n2_ n3_ n4_
  clear HB
  have HB := hb_
  clear hb_
  clear hb
  obtain ⟨m6, rm6, ⟨K7, h7⟩, hF⟩ := HF.out
  clear HF
  have HF := Aside0.mk hF
  clear hF
  have H7 := Aside0.mk h7
  clear h7
  go_wp2_with fail
  (refine (laws_markEntryS.calls K7 (fun k => some k = (Value.slice A4_ (r3.length) c4_).ownBlock) _ r3 1 m6 rm6 w w10 HB.out (Kd.R_tight rfl X4.out) H7.out.2).mono ?_)
  rintro e w11 ⟨rfl, hS, hb, hk⟩
  have hm6 := H7.out.1
  have Z11 : Aside0 (w10.heap.size ≤ w11.heap.size) := ⟨hk.1⟩
  have n0_ := Aside0.mk (Kd.R_kept X1.out hk (fun k h1_ h2_ => by have h3_ := X4.out.1 k h2_.symm; have := Z1.out; have := Z2.out; have := Z3.out; have := Z4.out; have := Z5.out; have := Z6.out; have := Z7.out; have := Z8.out; have := Z9.out; have := Z10.out; (try dsimp only at h1_ h3_); omega))
  have n1_ := Aside0.mk (Kd.R_kept X2.out hk (fun k h1_ h2_ => by have h3_ := X4.out.1 k h2_.symm; have := Z1.out; have := Z2.out; have := Z3.out; have := Z4.out; have := Z5.out; have := Z6.out; have := Z7.out; have := Z8.out; have := Z9.out; have := Z10.out; (try dsimp only at h1_ h3_); omega))
  have n2_ := Aside0.mk (Kd.R_kept X3.out hk (fun k h1_ h2_ => by have h3_ := X4.out.1 k h2_.symm; have := Z1.out; have := Z2.out; have := Z3.out; have := Z4.out; have := Z5.out; have := Z6.out; have := Z7.out; have := Z8.out; have := Z9.out; have := Z10.out; (try dsimp only at h1_ h3_); omega))
  have n3_ := Aside0.mk (Kd.R_reok rfl hS (fun k hk => X4.out.1 k hk))
  have n4_ := Aside0.mk (Kd.R_kept X5.out hk (fun k h1_ h2_ => by have h3_ := X4.out.1 k h2_.symm; have := Z1.out; have := Z2.out; have := Z3.out; have := Z4.out; have := Z5.out; have := Z6.out; have := Z7.out; have := Z8.out; have := Z9.out; have := Z10.out; (try dsimp only at h1_ h3_); omega))
  have hb_ := Aside0.mk (hb)
  clear X1 X2 X3 X4 X5
  have X1 := n0_
  have X2 := n1_
  have X3 := n2_
  have X4 := n3_
  have X5 := n4_
  clear n0_ n1_ n2_ n3_ n4_
  clear HB
  have HB := hb_
  clear hb_
  clear hS hb hk
  obtain ⟨⟨K8, h8⟩, hF⟩ := HF.out
  clear HF
  have HF := Aside0.mk hF
  clear hF
  have H8 := Aside0.mk h8
  clear h8
  go_wp2_with fail
  have hc_ := laws_heldEntryS.calls K8 A4_ c4_ rm6 1 m6 w11 (Kd.R_reads' X4.out).2.2 (Nat.le_trans (Nat.le_of_eq (Kd.R_reads' X4.out).1.symm) (Kd.R_reads' X4.out).2.1) H8.out
  rw [← (Kd.R_reads' X4.out).1] at hc_
  (refine (hc_).mono ?_)
  clear hc_
  rintro e w12 ⟨rfl, hd⟩
  have hb := hd.below
  clear hd
  have Z12 : Aside0 (w11.heap.size ≤ w12.heap.size) := ⟨hb.size⟩
  have n0_ := Aside0.mk (Kd.R_below X1.out hb)
  have n1_ := Aside0.mk (Kd.R_below X2.out hb)
  have n2_ := Aside0.mk (Kd.R_below X3.out hb)
  have n3_ := Aside0.mk (Kd.R_below X4.out hb)
  have n4_ := Aside0.mk (Kd.R_below X5.out hb)
  have hb_ := Aside0.mk (below_then HB.out HB.out.size hb)
  clear X1 X2 X3 X4 X5
  have X1 := n0_
  have X2 := n1_
  have X3 := n2_
  have X4 := n3_
  have X5 := n4_
  clear n0_ n1_ n2_ n3_ n4_
  clear HB
  have HB := hb_
  clear hb_
  clear hb
  go_wp2_with fail
  (refine (laws_toEntryS.calls K1 A0 c0 l0 r2 w12 (Kd.C_below HR0.out HB.out) HC0.out H1.out).mono ?_)
  rintro e w13 ⟨v0_, rfl, hS0, hb⟩
  have X6 : Aside0 (Kd.R k49 49 w13 w.heap.size (fun k => w12.heap.size ≤ k ∧ k < w13.heap.size) v0_ r2) := ⟨Kd.R_mono (Kd.R_lower (Kd.R_bound hS0) HB.out.size) (fun k hk => ⟨hk.2.1, hk.2.2.1⟩)⟩
  have Z13 : Aside0 (w12.heap.size ≤ w13.heap.size) := ⟨hb.size⟩
  have n0_ := Aside0.mk (Kd.R_below X1.out hb)
  have n1_ := Aside0.mk (Kd.R_below X2.out hb)
  have n2_ := Aside0.mk (Kd.R_below X3.out hb)
  have n3_ := Aside0.mk (Kd.R_below X4.out hb)
  have n4_ := Aside0.mk (Kd.R_below X5.out hb)
  have hb_ := Aside0.mk (below_then HB.out HB.out.size hb)
  clear X1 X2 X3 X4 X5
  have X1 := n0_
  have X2 := n1_
  have X3 := n2_
  have X4 := n3_
  have X5 := n4_
  clear n0_ n1_ n2_ n3_ n4_
  clear HB
  have HB := hb_
  clear hb_
  clear hb hS0
  obtain ⟨A6_, c6_, rfl⟩ := Kd.R_slice X6.out
  go_wp2_with fail
  (refine (impl_AccountOf.calls K3 A6_ c6_ r2 a1 r3 r4 w13 (Kd.R_reads' X6.out).2.2 (Kd.R_reads' X6.out).2.1 H3.out).mono ?_)
  rintro e w14 ⟨v0_, rfl, hS0, hb⟩
  have X7 : Aside0 (Kd.R k49 49 w14 w.heap.size (fun k => w13.heap.size ≤ k ∧ k < w14.heap.size) v0_ r3) := ⟨Kd.R_mono (Kd.R_lower (Kd.R_bound hS0) HB.out.size) (fun k hk => ⟨hk.2.1, hk.2.2.1⟩)⟩
  have Z14 : Aside0 (w13.heap.size ≤ w14.heap.size) := ⟨hb.size⟩
  have n0_ := Aside0.mk (Kd.R_below X1.out hb)
  have n1_ := Aside0.mk (Kd.R_below X2.out hb)
  have n2_ := Aside0.mk (Kd.R_below X3.out hb)
  have n3_ := Aside0.mk (Kd.R_below X4.out hb)
  have n4_ := Aside0.mk (Kd.R_below X5.out hb)
  have n5_ := Aside0.mk (Kd.R_below X6.out hb)
  have hb_ := Aside0.mk (below_then HB.out HB.out.size hb)
  clear X1 X2 X3 X4 X5 X6
  have X1 := n0_
  have X2 := n1_
  have X3 := n2_
  have X4 := n3_
  have X5 := n4_
  have X6 := n5_
  clear n0_ n1_ n2_ n3_ n4_ n5_
  clear HB
  have HB := hb_
  clear hb_
  clear hb hS0
  obtain ⟨A7_, c7_, rfl⟩ := Kd.R_slice X7.out
  go_wp2_with fail
  (refine (laws_eqEntryS.calls K4 A7_ c7_ r3 A2_ c2_ r3 true w14 (Kd.R_reads' X7.out).2.2 (Kd.R_reads' X7.out).2.1 (Kd.R_reads' X2.out).2.2 (Kd.R_reads' X2.out).2.1 H4.out).mono ?_)
  rintro e w15 ⟨rfl, hb⟩
  have Z15 : Aside0 (w14.heap.size ≤ w15.heap.size) := ⟨hb.size⟩
  have n0_ := Aside0.mk (Kd.R_below X1.out hb)
  have n1_ := Aside0.mk (Kd.R_below X2.out hb)
  have n2_ := Aside0.mk (Kd.R_below X3.out hb)
  have n3_ := Aside0.mk (Kd.R_below X4.out hb)
  have n4_ := Aside0.mk (Kd.R_below X5.out hb)
  have n5_ := Aside0.mk (Kd.R_below X6.out hb)
  have n6_ := Aside0.mk (Kd.R_below X7.out hb)
  have hb_ := Aside0.mk (below_then HB.out HB.out.size hb)
  clear X1 X2 X3 X4 X5 X6 X7
  have X1 := n0_
  have X2 := n1_
  have X3 := n2_
  have X4 := n3_
  have X5 := n4_
  have X6 := n5_
  have X7 := n6_
  clear n0_ n1_ n2_ n3_ n4_ n5_ n6_
  clear HB
  have HB := hb_
  clear hb_
  clear hb
  go_wp2_with fail
  have hc_ := laws_heldEntryS.calls K8 A4_ c4_ rm6 1 m6 w15 (Kd.R_reads' X4.out).2.2 (Nat.le_trans (Nat.le_of_eq (Kd.R_reads' X4.out).1.symm) (Kd.R_reads' X4.out).2.1) H8.out
  rw [← (Kd.R_reads' X4.out).1] at hc_
  (refine (hc_).mono ?_)
  clear hc_
  rintro e w16 ⟨rfl, hd⟩
  have hb := hd.below
  clear hd
  have Z16 : Aside0 (w15.heap.size ≤ w16.heap.size) := ⟨hb.size⟩
  have n0_ := Aside0.mk (Kd.R_below X1.out hb)
  have n1_ := Aside0.mk (Kd.R_below X2.out hb)
  have n2_ := Aside0.mk (Kd.R_below X3.out hb)
  have n3_ := Aside0.mk (Kd.R_below X4.out hb)
  have n4_ := Aside0.mk (Kd.R_below X5.out hb)
  have n5_ := Aside0.mk (Kd.R_below X6.out hb)
  have n6_ := Aside0.mk (Kd.R_below X7.out hb)
  have hb_ := Aside0.mk (below_then HB.out HB.out.size hb)
  clear X1 X2 X3 X4 X5 X6 X7
  have X1 := n0_
  have X2 := n1_
  have X3 := n2_
  have X4 := n3_
  have X5 := n4_
  have X6 := n5_
  have X7 := n6_
  clear n0_ n1_ n2_ n3_ n4_ n5_ n6_
  clear HB
  have HB := hb_
  clear hb_
  clear hb
  go_wp2
  go_ret
  exact ⟨rfl, HB.out⟩

def q51 (x : S51) : Prop := (Lit.int .i64 x.f0).wf = true ∧ (Lit.int .i64 x.f1).wf = true ∧ (Lit.int .i64 x.f2).wf = true ∧ (Lit.int .i64 x.f3).wf = true ∧ (Lit.int .i64 x.f4).wf = true
def q52 (x : S52) : Prop := (Lit.int .i64 x.f0).wf = true ∧ (Lit.int .i64 x.f1).wf = true
def q54 (x : S54) : Prop := (Lit.int .i64 x.f0).wf = true ∧ (Lit.int .i64 x.f1).wf = true ∧ q51 x.f2 ∧ q52 x.f3
/-- THE ONE PURE STATEMENT of laws_FnExactAccountOf. -/
def laws_FnExactAccountOf.Pure : Prop := ∀ (l0 : List (S54)) (a1 : Int), (l0.length ≤ 9223372036854775807 ∧ ∀ y ∈ l0, q54 y) → (Lit.int .i64 a1).wf = true → laws_FnExactAccountOf.Facts l0 a1

end Go.Proofs.Ytbhdhcflkamieaa.QFnExactAccountOf
