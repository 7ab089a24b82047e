-- Written by a program of this session (wip/mk.py) over the kit's print: Lean checks it.
import Derived.Test.YtacpjifbgnlppaaQFnExactNewTablex0
import Derived.Test.YtacpjifbgnlppaaQFnExactNewTablex1
namespace Go.Proofs.Ytacpjifbgnlppaa.QFnExactNewTable
open Go.RowKit Go.Proofs.YtacpjifbgnlppaaW.PrintWords Go.Proofs.YtacpjifbgnlppaaW.PrintLast Go.Proofs.YtacpjifbgnlppaaW.PrintMore
attribute [local go_sem] max2_int min2_int max_two min_two max_three min_three max_four min_four   -- for this text's walks alone
set_option linter.unusedVariables false
set_option linter.unusedSimpArgs false

/-! ### laws_FnExactNewTable: function 4 -/
section
open Go.RowKit
/-- A struct's variable is loaded whole. -/
theorem load_run {P : Program} {o : Oper} {a : Act} {W : World} {g : Nat} {cs : Array Value} {t : TypeId} (hg : W.heap[g]? = some (.cells cs t (0, 0))) (n : Nat) (hn : cs.size = n) (ty : TypeId) (x : Operand) (ho : o.op = .load ty x)
    (hx : a.eval x = .pointer (some ⟨g, 0, none⟩)) (d : TypeDesc) (hu : P.underlying ty = some d) (hd : (match d with | .struct _ | .array _ _ => true | _ => false) = true) (hi : (P.info? ty).map (·.size) = some n) :
    (execOp a.eval o).run P W = .ok (.value (.agg cs)) W := by
  subst hn
  unfold execOp
  simp only [ho, hx, Instr.loadAt, Instr.sureAddr, Sem.run_bind, Sem.run_pure, Result.andThen_ok, run_loadVar_row W g t ty cs (0, 0) d hg hu hd hi]

theorem store_run {P : Program} {o : Oper} {a : Act} {W : World} {g : Nat} {cs cs' : Array Value} {t : TypeId} (hg : W.heap[g]? = some (.cells cs t (0, 0))) (n : Nat) (hn : cs.size = n) (hn' : cs'.size = n) (ty : TypeId) (x y : Operand) (ho : o.op = .store ty x y)
    (hx : a.eval x = .pointer (some ⟨g, 0, none⟩)) (hy : a.eval y = .agg cs') (hi : (P.info? ty).map (·.size) = some n) (h1 : cs'.all (·.oneCell') = true) :
    (execOp a.eval o).run P W = .ok .skip (W.setRow g cs') := by
  unfold execOp
  simp only [ho, hx, hy, Instr.storeAt, Instr.sureAddr, Sem.run_bind, Sem.run_pure, Result.andThen_ok, run_storeVar_row W g t ty cs cs' hg (by rw [hn']; exact hi) (by rw [hn, hn']) h1]
theorem kept_setRow (W : World) (g : Nat) (cs : Array Value) : Kept W (W.setRow g cs) (fun k => k = g) := ⟨by simp, fun i _ hi => setRow_other W g i cs hi⟩
theorem below_setRow_ {B g : Nat} {w0 w : World} (hb : Below B w0 w) (hBg : B ≤ g) (cs : Array Value) : Below B w0 (w.setRow g cs) :=
  ⟨hb.os, hb.tape, hb.output, by simpa using hb.size, fun k hk => (setRow_other w g k cs (by omega)).trans (hb.block k hk)⟩
end
/-- What the law's calls answer. -/
def laws_FnExactNewTable.Facts (a0 : Int) : Prop :=
  ∃ r1 : Int, ∃ r2 : List (List (S72)), ∃ r3 : Bool, (spec_NewTable.f a0 = some (r1, r2, r3)) ∧ (impl_NewTable.f a0 = some (r1, r2, r3)) ∧ (∃ K, laws_eqTable.f K r1 r2 r1 r2 = some true) ∧ (∃ K, laws_markTable.f K r1 r2 1 = some 1) ∧ (∃ K, laws_heldTable.f K r1 r2 1 = some 1) ∧ True
set_option maxHeartbeats 8000000 in
set_option maxRecDepth 100000 in
theorem laws_FnExactNewTable.calls (a0 : Int) (w : World)  (h : laws_FnExactNewTable.Facts a0) :
    Calls Try.prog 4 #[.int .i64 a0] w fun e w' => e = .returned (.bool true) ∧ Below w.heap.size w w' := by
  unfold laws_FnExactNewTable.Facts at h
  have HF := Aside0.mk h
  clear h
  have HB := Aside0.mk (Below.refl w.heap.size w)
  obtain ⟨r1, r2, r3, h1, hF⟩ := HF.out
  clear HF
  have HF := Aside0.mk hF
  clear hF
  have H1 := Aside0.mk h1
  clear h1
  go_enter Try.func4, Try.ntmps4
  go_wp2_with fail
  (refine (spec_NewTable.calls a0 r1 r2 r3 w H1.out).mono ?_)
  rintro e w1 ⟨v1_, rfl, hS0, hb⟩
  have X1 : Aside0 (Kd.R (Kd.slice 72 k72) 70 w1 w.heap.size (fun k => w.heap.size ≤ k ∧ k < w1.heap.size) v1_ r2) := ⟨Kd.R_mono (Kd.R_lower (Kd.R_bound hS0) HB.out.size) (fun k hk => ⟨hk.2.1, hk.2.2.1⟩)⟩
  have Z1 : Aside0 (w.heap.size ≤ w1.heap.size) := ⟨hb.size⟩
  have hb_ := Aside0.mk (below_then HB.out HB.out.size hb)
  clear HB
  have HB := hb_
  clear hb_
  clear hb hS0
  obtain ⟨A1_, c1_, rfl⟩ := Kd.R_slice X1.out
  obtain ⟨h2, hF⟩ := HF.out
  clear HF
  have HF := Aside0.mk hF
  clear hF
  have H2 := Aside0.mk h2
  clear h2
  go_upto_region 2 with (fail)
  refine letC (fun W_ => Below w1.heap.size w1 W_ ∧ W_.heap[w1.heap.size]? = some (.cells #[.int .i64 r1, .slice A1_ r2.length c1_] 29 (0, 0))) ?_ ?_
  · refine ⟨?_, ?_⟩
    · repeat (first | exact Below.refl _ _ | apply below_alloc | refine below_set ?_ (by first | exact Nat.le_refl _ | omega | (simp; done)))
    · exact blk_new w1 (.cells #[.int .i64 r1, .slice A1_ r2.length c1_] 29)
  intro w2 hq_
  obtain ⟨hb, hx0_⟩ := hq_
  have Z2 : Aside0 (w1.heap.size ≤ w2.heap.size) := ⟨hb.size⟩
  have n0_ := Aside0.mk (Kd.R_below X1.out hb)
  have hb_ := Aside0.mk (below_then HB.out HB.out.size hb)
  clear X1
  have X1 := n0_
  clear n0_
  clear HB
  have HB := hb_
  clear hb_
  clear hb
  have BX1 : Aside0 (w2.heap[w1.heap.size]? = some (.cells #[.int .i64 r1, .slice A1_ r2.length c1_] 29 (0, 0))) := ⟨hx0_⟩
  clear hx0_
  have GBX1 : Aside0 (w1.heap.size < w2.heap.size) := ⟨blk_lt BX1.out⟩
  go_wp2_with fail
  (refine (impl_NewTable.calls a0 r1 r2 r3 w2 H2.out).mono ?_)
  rintro e w3 ⟨v1_, rfl, hS0, hb⟩
  have X2 : Aside0 (Kd.R (Kd.slice 72 k72) 70 w3 w.heap.size (fun k => w2.heap.size ≤ k ∧ k < w3.heap.size) v1_ r2) := ⟨Kd.R_mono (Kd.R_lower (Kd.R_bound hS0) HB.out.size) (fun k hk => ⟨hk.2.1, hk.2.2.1⟩)⟩
  have Z3 : Aside0 (w2.heap.size ≤ w3.heap.size) := ⟨hb.size⟩
  have n0_ := Aside0.mk (Kd.R_below X1.out hb)
  have n1_ := Aside0.mk (blk_below BX1.out hb)
  have hb_ := Aside0.mk (below_then HB.out HB.out.size hb)
  clear X1 BX1
  have X1 := n0_
  have BX1 := n1_
  clear n0_ n1_
  clear HB
  have HB := hb_
  clear hb_
  clear hb hS0
  obtain ⟨A2_, c2_, rfl⟩ := Kd.R_slice X2.out
  obtain ⟨⟨K3, h3⟩, hF⟩ := HF.out
  clear HF
  have HF := Aside0.mk hF
  clear hF
  have H3 := Aside0.mk h3
  clear h3
  go_upto_region 3 with (first | ((with_reducible refine gate_dst (N := 21) rfl ?_); first | refine Kd.event_run rfl (load_run BX1.out 2 rfl 29 _ (by rfl) (by rfl) _ Try.underlying29 rfl (by kernel_rfl)) ?_) | ((with_reducible refine gate_dst (N := 22) rfl ?_); first | refine Kd.event_run rfl (load_run BX1.out 2 rfl 29 _ (by rfl) (by rfl) _ Try.underlying29 rfl (by kernel_rfl)) ?_) | ((with_reducible refine gate_dst (N := 30) rfl ?_); first | refine Kd.event_run rfl (load_run BX1.out 2 rfl 29 _ (by rfl) (by rfl) _ Try.underlying29 rfl (by kernel_rfl)) ?_) | ((with_reducible refine gate_dst (N := 33) rfl ?_); first | refine Kd.event_run rfl (load_run BX1.out 2 rfl 29 _ (by rfl) (by rfl) _ Try.underlying29 rfl (by kernel_rfl)) ?_) | ((with_reducible refine gate_dst (N := 46) rfl ?_); first | refine Kd.event_run rfl (load_run BX1.out 2 rfl 29 _ (by rfl) (by rfl) _ Try.underlying29 rfl (by kernel_rfl)) ?_) | ((with_reducible refine gate_dst (N := 47) rfl ?_); first | refine Kd.event_run rfl (load_run BX1.out 2 rfl 29 _ (by rfl) (by rfl) _ Try.underlying29 rfl (by kernel_rfl)) ?_) | ((with_reducible refine gate_dst (N := 55) rfl ?_); first | refine Kd.event_run rfl (load_run BX1.out 2 rfl 29 _ (by rfl) (by rfl) _ Try.underlying29 rfl (by kernel_rfl)) ?_))
  refine letC (fun W_ => Below w3.heap.size w3 W_ ∧ W_.heap[w3.heap.size]? = some (.cells #[.int .i64 r1, .slice A2_ r2.length c2_] 29 (0, 0))) ?_ ?_
  · refine ⟨?_, ?_⟩
    · repeat (first | exact Below.refl _ _ | apply below_alloc | refine below_set ?_ (by first | exact Nat.le_refl _ | omega | (simp; done)))
    · exact blk_new w3 (.cells #[.int .i64 r1, .slice A2_ r2.length c2_] 29)
  intro w4 hq_
  obtain ⟨hb, hx0_⟩ := hq_
  have Z4 : Aside0 (w3.heap.size ≤ w4.heap.size) := ⟨hb.size⟩
  have n0_ := Aside0.mk (Kd.R_below X1.out hb)
  have n1_ := Aside0.mk (Kd.R_below X2.out hb)
  have n2_ := Aside0.mk (blk_below BX1.out hb)
  have hb_ := Aside0.mk (below_then HB.out HB.out.size hb)
  clear X1 X2 BX1
  have X1 := n0_
  have X2 := n1_
  have BX1 := n2_
  clear n0_ n1_ n2_
  clear HB
  have HB := hb_
  clear hb_
  clear hb
  have BX2 : Aside0 (w4.heap[w3.heap.size]? = some (.cells #[.int .i64 r1, .slice A2_ r2.length c2_] 29 (0, 0))) := ⟨hx0_⟩
  clear hx0_
  have GBX2 : Aside0 (w3.heap.size < w4.heap.size) := ⟨blk_lt BX2.out⟩
  go_wp2_with (first | ((with_reducible refine gate_dst (N := 21) rfl ?_); first | refine Kd.event_run rfl (load_run BX1.out 2 rfl 29 _ (by rfl) (by rfl) _ Try.underlying29 rfl (by kernel_rfl)) ?_ | refine Kd.event_run rfl (load_run BX2.out 2 rfl 29 _ (by rfl) (by rfl) _ Try.underlying29 rfl (by kernel_rfl)) ?_) | ((with_reducible refine gate_dst (N := 22) rfl ?_); first | refine Kd.event_run rfl (load_run BX1.out 2 rfl 29 _ (by rfl) (by rfl) _ Try.underlying29 rfl (by kernel_rfl)) ?_ | refine Kd.event_run rfl (load_run BX2.out 2 rfl 29 _ (by rfl) (by rfl) _ Try.underlying29 rfl (by kernel_rfl)) ?_) | ((with_reducible refine gate_dst (N := 30) rfl ?_); first | refine Kd.event_run rfl (load_run BX1.out 2 rfl 29 _ (by rfl) (by rfl) _ Try.underlying29 rfl (by kernel_rfl)) ?_ | refine Kd.event_run rfl (load_run BX2.out 2 rfl 29 _ (by rfl) (by rfl) _ Try.underlying29 rfl (by kernel_rfl)) ?_) | ((with_reducible refine gate_dst (N := 33) rfl ?_); first | refine Kd.event_run rfl (load_run BX1.out 2 rfl 29 _ (by rfl) (by rfl) _ Try.underlying29 rfl (by kernel_rfl)) ?_ | refine Kd.event_run rfl (load_run BX2.out 2 rfl 29 _ (by rfl) (by rfl) _ Try.underlying29 rfl (by kernel_rfl)) ?_) | ((with_reducible refine gate_dst (N := 46) rfl ?_); first | refine Kd.event_run rfl (load_run BX1.out 2 rfl 29 _ (by rfl) (by rfl) _ Try.underlying29 rfl (by kernel_rfl)) ?_ | refine Kd.event_run rfl (load_run BX2.out 2 rfl 29 _ (by rfl) (by rfl) _ Try.underlying29 rfl (by kernel_rfl)) ?_) | ((with_reducible refine gate_dst (N := 47) rfl ?_); first | refine Kd.event_run rfl (load_run BX1.out 2 rfl 29 _ (by rfl) (by rfl) _ Try.underlying29 rfl (by kernel_rfl)) ?_ | refine Kd.event_run rfl (load_run BX2.out 2 rfl 29 _ (by rfl) (by rfl) _ Try.underlying29 rfl (by kernel_rfl)) ?_) | ((with_reducible refine gate_dst (N := 55) rfl ?_); first | refine Kd.event_run rfl (load_run BX1.out 2 rfl 29 _ (by rfl) (by rfl) _ Try.underlying29 rfl (by kernel_rfl)) ?_ | refine Kd.event_run rfl (load_run BX2.out 2 rfl 29 _ (by rfl) (by rfl) _ Try.underlying29 rfl (by kernel_rfl)) ?_))
  (refine (laws_eqTable.calls K3 r1 A2_ c2_ r2 r1 A1_ c1_ r2 true w4 (Kd.R_reads' X2.out).2.2 (Kd.R_reads' X2.out).2.1 (Kd.R_reads' X1.out).2.2 (Kd.R_reads' X1.out).2.1 H3.out).mono ?_)
  rintro e w5 ⟨rfl, hb⟩
  have Z5 : Aside0 (w4.heap.size ≤ w5.heap.size) := ⟨hb.size⟩
  have n0_ := Aside0.mk (Kd.R_below X1.out hb)
  have n1_ := Aside0.mk (Kd.R_below X2.out hb)
  have n2_ := Aside0.mk (blk_below BX1.out hb)
  have n3_ := Aside0.mk (blk_below BX2.out hb)
  have hb_ := Aside0.mk (below_then HB.out HB.out.size hb)
  clear X1 X2 BX1 BX2
  have X1 := n0_
  have X2 := n1_
  have BX1 := n2_
  have BX2 := n3_
  clear n0_ n1_ n2_ n3_
  clear HB
  have HB := hb_
  clear hb_
  clear hb
  obtain ⟨⟨K4, h4⟩, hF⟩ := HF.out
  clear HF
  have HF := Aside0.mk hF
  clear hF
  have H4 := Aside0.mk h4
  clear h4
  go_wp2_with (first | ((with_reducible refine gate_dst (N := 21) rfl ?_); first | refine Kd.event_run rfl (load_run BX2.out 2 rfl 29 _ (by rfl) (by rfl) _ Try.underlying29 rfl (by kernel_rfl)) ?_) | ((with_reducible refine gate_dst (N := 22) rfl ?_); first | refine Kd.event_run rfl (load_run BX2.out 2 rfl 29 _ (by rfl) (by rfl) _ Try.underlying29 rfl (by kernel_rfl)) ?_) | ((with_reducible refine gate_dst (N := 30) rfl ?_); first | refine Kd.event_run rfl (load_run BX2.out 2 rfl 29 _ (by rfl) (by rfl) _ Try.underlying29 rfl (by kernel_rfl)) ?_) | ((with_reducible refine gate_dst (N := 33) rfl ?_); first | refine Kd.event_run rfl (load_run BX2.out 2 rfl 29 _ (by rfl) (by rfl) _ Try.underlying29 rfl (by kernel_rfl)) ?_) | ((with_reducible refine gate_dst (N := 46) rfl ?_); first | refine Kd.event_run rfl (load_run BX2.out 2 rfl 29 _ (by rfl) (by rfl) _ Try.underlying29 rfl (by kernel_rfl)) ?_) | ((with_reducible refine gate_dst (N := 47) rfl ?_); first | refine Kd.event_run rfl (load_run BX2.out 2 rfl 29 _ (by rfl) (by rfl) _ Try.underlying29 rfl (by kernel_rfl)) ?_) | ((with_reducible refine gate_dst (N := 55) rfl ?_); first | refine Kd.event_run rfl (load_run BX2.out 2 rfl 29 _ (by rfl) (by rfl) _ Try.underlying29 rfl (by kernel_rfl)) ?_))
  (refine (laws_markTable.calls K4 r1 A2_ c2_ r2 1 1 w5 (Kd.R_reads' X2.out).2.2 (Kd.R_reads' X2.out).2.1 H4.out).mono ?_)
  rintro e w6 ⟨rfl, hb⟩
  have Z6 : Aside0 (w5.heap.size ≤ w6.heap.size) := ⟨hb.size⟩
  have n0_ := Aside0.mk (Kd.R_below X1.out hb)
  have n1_ := Aside0.mk (Kd.R_below X2.out hb)
  have n2_ := Aside0.mk (blk_below BX1.out hb)
  have n3_ := Aside0.mk (blk_below BX2.out hb)
  have hb_ := Aside0.mk (below_then HB.out HB.out.size hb)
  clear X1 X2 BX1 BX2
  have X1 := n0_
  have X2 := n1_
  have BX1 := n2_
  have BX2 := n3_
  clear n0_ n1_ n2_ n3_
  clear HB
  have HB := hb_
  clear hb_
  clear hb
  obtain ⟨⟨K5, h5⟩, hF⟩ := HF.out
  clear HF
  have HF := Aside0.mk hF
  clear hF
  have H5 := Aside0.mk h5
  clear h5
  go_wp2_with (first | ((with_reducible refine gate_dst (N := 21) rfl ?_); first | refine Kd.event_run rfl (load_run BX2.out 2 rfl 29 _ (by rfl) (by rfl) _ Try.underlying29 rfl (by kernel_rfl)) ?_) | ((with_reducible refine gate_dst (N := 22) rfl ?_); first | refine Kd.event_run rfl (load_run BX2.out 2 rfl 29 _ (by rfl) (by rfl) _ Try.underlying29 rfl (by kernel_rfl)) ?_) | ((with_reducible refine gate_dst (N := 30) rfl ?_); first | refine Kd.event_run rfl (load_run BX2.out 2 rfl 29 _ (by rfl) (by rfl) _ Try.underlying29 rfl (by kernel_rfl)) ?_) | ((with_reducible refine gate_dst (N := 33) rfl ?_); first | refine Kd.event_run rfl (load_run BX2.out 2 rfl 29 _ (by rfl) (by rfl) _ Try.underlying29 rfl (by kernel_rfl)) ?_) | ((with_reducible refine gate_dst (N := 46) rfl ?_); first | refine Kd.event_run rfl (load_run BX2.out 2 rfl 29 _ (by rfl) (by rfl) _ Try.underlying29 rfl (by kernel_rfl)) ?_) | ((with_reducible refine gate_dst (N := 47) rfl ?_); first | refine Kd.event_run rfl (load_run BX2.out 2 rfl 29 _ (by rfl) (by rfl) _ Try.underlying29 rfl (by kernel_rfl)) ?_) | ((with_reducible refine gate_dst (N := 55) rfl ?_); first | refine Kd.event_run rfl (load_run BX2.out 2 rfl 29 _ (by rfl) (by rfl) _ Try.underlying29 rfl (by kernel_rfl)) ?_))
  (refine (laws_heldTable.calls K5 r1 A2_ c2_ r2 1 1 w6 (Kd.R_reads' X2.out).2.2 (Kd.R_reads' X2.out).2.1 H5.out).mono ?_)
  rintro e w7 ⟨rfl, hb⟩
  have Z7 : Aside0 (w6.heap.size ≤ w7.heap.size) := ⟨hb.size⟩
  have n0_ := Aside0.mk (Kd.R_below X1.out hb)
  have n1_ := Aside0.mk (Kd.R_below X2.out hb)
  have n2_ := Aside0.mk (blk_below BX1.out hb)
  have n3_ := Aside0.mk (blk_below BX2.out hb)
  have hb_ := Aside0.mk (below_then HB.out HB.out.size hb)
  clear X1 X2 BX1 BX2
  have X1 := n0_
  have X2 := n1_
  have BX1 := n2_
  have BX2 := n3_
  clear n0_ n1_ n2_ n3_
  clear HB
  have HB := hb_
  clear hb_
  clear hb
  go_wp2_with fail
  (refine (impl_NewTable.calls a0 r1 r2 r3 w7 H2.out).mono ?_)
  rintro e w8 ⟨v1_, rfl, hS0, hb⟩
  have X3 : Aside0 (Kd.R (Kd.slice 72 k72) 70 w8 w.heap.size (fun k => w7.heap.size ≤ k ∧ k < w8.heap.size) v1_ r2) := ⟨Kd.R_mono (Kd.R_lower (Kd.R_bound hS0) HB.out.size) (fun k hk => ⟨hk.2.1, hk.2.2.1⟩)⟩
  have Z8 : Aside0 (w7.heap.size ≤ w8.heap.size) := ⟨hb.size⟩
  have n0_ := Aside0.mk (Kd.R_below X1.out hb)
  have n1_ := Aside0.mk (Kd.R_below X2.out hb)
  have n2_ := Aside0.mk (blk_below BX1.out hb)
  have n3_ := Aside0.mk (blk_below BX2.out hb)
  have hb_ := Aside0.mk (below_then HB.out HB.out.size hb)
  clear X1 X2 BX1 BX2
  have X1 := n0_
  have X2 := n1_
  have BX1 := n2_
  have BX2 := n3_
  clear n0_ n1_ n2_ n3_
  clear HB
  have HB := hb_
  clear hb_
  clear hb hS0
  obtain ⟨A3_, c3_, rfl⟩ := Kd.R_slice X3.out
  go_upto_region 14 with (first | ((with_reducible refine gate_dst (N := 21) rfl ?_); first | refine Kd.event_run rfl (load_run BX1.out 2 rfl 29 _ (by rfl) (by rfl) _ Try.underlying29 rfl (by kernel_rfl)) ?_) | ((with_reducible refine gate_dst (N := 22) rfl ?_); first | refine Kd.event_run rfl (load_run BX1.out 2 rfl 29 _ (by rfl) (by rfl) _ Try.underlying29 rfl (by kernel_rfl)) ?_) | ((with_reducible refine gate_dst (N := 30) rfl ?_); first | refine Kd.event_run rfl (load_run BX1.out 2 rfl 29 _ (by rfl) (by rfl) _ Try.underlying29 rfl (by kernel_rfl)) ?_) | ((with_reducible refine gate_dst (N := 33) rfl ?_); first | refine Kd.event_run rfl (load_run BX1.out 2 rfl 29 _ (by rfl) (by rfl) _ Try.underlying29 rfl (by kernel_rfl)) ?_) | ((with_reducible refine gate_dst (N := 46) rfl ?_); first | refine Kd.event_run rfl (load_run BX1.out 2 rfl 29 _ (by rfl) (by rfl) _ Try.underlying29 rfl (by kernel_rfl)) ?_) | ((with_reducible refine gate_dst (N := 47) rfl ?_); first | refine Kd.event_run rfl (load_run BX1.out 2 rfl 29 _ (by rfl) (by rfl) _ Try.underlying29 rfl (by kernel_rfl)) ?_) | ((with_reducible refine gate_dst (N := 55) rfl ?_); first | refine Kd.event_run rfl (load_run BX1.out 2 rfl 29 _ (by rfl) (by rfl) _ Try.underlying29 rfl (by kernel_rfl)) ?_))
  refine letC (fun W_ => Below w8.heap.size w8 W_ ∧ W_.heap[w8.heap.size]? = some (.cells #[.int .i64 r1, .slice A3_ r2.length c3_] 29 (0, 0))) ?_ ?_
  · refine ⟨?_, ?_⟩
    · repeat (first | exact Below.refl _ _ | apply below_alloc | refine below_set ?_ (by first | exact Nat.le_refl _ | omega | (simp; done)))
    · exact blk_new w8 (.cells #[.int .i64 r1, .slice A3_ r2.length c3_] 29)
  intro w9 hq_
  obtain ⟨hb, hx0_⟩ := hq_
  have Z9 : Aside0 (w8.heap.size ≤ w9.heap.size) := ⟨hb.size⟩
  have n0_ := Aside0.mk (Kd.R_below X1.out hb)
  have n1_ := Aside0.mk (Kd.R_below X2.out hb)
  have n2_ := Aside0.mk (Kd.R_below X3.out hb)
  have n3_ := Aside0.mk (blk_below BX1.out hb)
  have n4_ := Aside0.mk (blk_below BX2.out hb)
  have hb_ := Aside0.mk (below_then HB.out HB.out.size hb)
  clear X1 X2 X3 BX1 BX2
  have X1 := n0_
  have X2 := n1_
  have X3 := n2_
  have BX1 := n3_
  have BX2 := n4_
  clear n0_ n1_ n2_ n3_ n4_
  clear HB
  have HB := hb_
  clear hb_
  clear hb
  have BX3 : Aside0 (w9.heap[w8.heap.size]? = some (.cells #[.int .i64 r1, .slice A3_ r2.length c3_] 29 (0, 0))) := ⟨hx0_⟩
  clear hx0_
  have GBX3 : Aside0 (w8.heap.size < w9.heap.size) := ⟨blk_lt BX3.out⟩
  go_wp2_with (first | ((with_reducible refine gate_dst (N := 21) rfl ?_); first | refine Kd.event_run rfl (load_run BX1.out 2 rfl 29 _ (by rfl) (by rfl) _ Try.underlying29 rfl (by kernel_rfl)) ?_ | refine Kd.event_run rfl (load_run BX3.out 2 rfl 29 _ (by rfl) (by rfl) _ Try.underlying29 rfl (by kernel_rfl)) ?_) | ((with_reducible refine gate_dst (N := 22) rfl ?_); first | refine Kd.event_run rfl (load_run BX1.out 2 rfl 29 _ (by rfl) (by rfl) _ Try.underlying29 rfl (by kernel_rfl)) ?_ | refine Kd.event_run rfl (load_run BX3.out 2 rfl 29 _ (by rfl) (by rfl) _ Try.underlying29 rfl (by kernel_rfl)) ?_) | ((with_reducible refine gate_dst (N := 30) rfl ?_); first | refine Kd.event_run rfl (load_run BX1.out 2 rfl 29 _ (by rfl) (by rfl) _ Try.underlying29 rfl (by kernel_rfl)) ?_ | refine Kd.event_run rfl (load_run BX3.out 2 rfl 29 _ (by rfl) (by rfl) _ Try.underlying29 rfl (by kernel_rfl)) ?_) | ((with_reducible refine gate_dst (N := 33) rfl ?_); first | refine Kd.event_run rfl (load_run BX1.out 2 rfl 29 _ (by rfl) (by rfl) _ Try.underlying29 rfl (by kernel_rfl)) ?_ | refine Kd.event_run rfl (load_run BX3.out 2 rfl 29 _ (by rfl) (by rfl) _ Try.underlying29 rfl (by kernel_rfl)) ?_) | ((with_reducible refine gate_dst (N := 46) rfl ?_); first | refine Kd.event_run rfl (load_run BX1.out 2 rfl 29 _ (by rfl) (by rfl) _ Try.underlying29 rfl (by kernel_rfl)) ?_ | refine Kd.event_run rfl (load_run BX3.out 2 rfl 29 _ (by rfl) (by rfl) _ Try.underlying29 rfl (by kernel_rfl)) ?_) | ((with_reducible refine gate_dst (N := 47) rfl ?_); first | refine Kd.event_run rfl (load_run BX1.out 2 rfl 29 _ (by rfl) (by rfl) _ Try.underlying29 rfl (by kernel_rfl)) ?_ | refine Kd.event_run rfl (load_run BX3.out 2 rfl 29 _ (by rfl) (by rfl) _ Try.underlying29 rfl (by kernel_rfl)) ?_) | ((with_reducible refine gate_dst (N := 55) rfl ?_); first | refine Kd.event_run rfl (load_run BX1.out 2 rfl 29 _ (by rfl) (by rfl) _ Try.underlying29 rfl (by kernel_rfl)) ?_ | refine Kd.event_run rfl (load_run BX3.out 2 rfl 29 _ (by rfl) (by rfl) _ Try.underlying29 rfl (by kernel_rfl)) ?_))
  (refine (laws_eqTable.calls K3 r1 A3_ c3_ r2 r1 A1_ c1_ r2 true w9 (Kd.R_reads' X3.out).2.2 (Kd.R_reads' X3.out).2.1 (Kd.R_reads' X1.out).2.2 (Kd.R_reads' X1.out).2.1 H3.out).mono ?_)
  rintro e w10 ⟨rfl, hb⟩
  have Z10 : Aside0 (w9.heap.size ≤ w10.heap.size) := ⟨hb.size⟩
  have n0_ := Aside0.mk (Kd.R_below X1.out hb)
  have n1_ := Aside0.mk (Kd.R_below X2.out hb)
  have n2_ := Aside0.mk (Kd.R_below X3.out hb)
  have n3_ := Aside0.mk (blk_below BX1.out hb)
  have n4_ := Aside0.mk (blk_below BX2.out hb)
  have n5_ := Aside0.mk (blk_below BX3.out hb)
  have hb_ := Aside0.mk (below_then HB.out HB.out.size hb)
  clear X1 X2 X3 BX1 BX2 BX3
  have X1 := n0_
  have X2 := n1_
  have X3 := n2_
  have BX1 := n3_
  have BX2 := n4_
  have BX3 := n5_
  clear n0_ n1_ n2_ n3_ n4_ n5_
  clear HB
  have HB := hb_
  clear hb_
  clear hb
  go_wp2_with (first | ((with_reducible refine gate_dst (N := 21) rfl ?_); first | refine Kd.event_run rfl (load_run BX2.out 2 rfl 29 _ (by rfl) (by rfl) _ Try.underlying29 rfl (by kernel_rfl)) ?_) | ((with_reducible refine gate_dst (N := 22) rfl ?_); first | refine Kd.event_run rfl (load_run BX2.out 2 rfl 29 _ (by rfl) (by rfl) _ Try.underlying29 rfl (by kernel_rfl)) ?_) | ((with_reducible refine gate_dst (N := 30) rfl ?_); first | refine Kd.event_run rfl (load_run BX2.out 2 rfl 29 _ (by rfl) (by rfl) _ Try.underlying29 rfl (by kernel_rfl)) ?_) | ((with_reducible refine gate_dst (N := 33) rfl ?_); first | refine Kd.event_run rfl (load_run BX2.out 2 rfl 29 _ (by rfl) (by rfl) _ Try.underlying29 rfl (by kernel_rfl)) ?_) | ((with_reducible refine gate_dst (N := 46) rfl ?_); first | refine Kd.event_run rfl (load_run BX2.out 2 rfl 29 _ (by rfl) (by rfl) _ Try.underlying29 rfl (by kernel_rfl)) ?_) | ((with_reducible refine gate_dst (N := 47) rfl ?_); first | refine Kd.event_run rfl (load_run BX2.out 2 rfl 29 _ (by rfl) (by rfl) _ Try.underlying29 rfl (by kernel_rfl)) ?_) | ((with_reducible refine gate_dst (N := 55) rfl ?_); first | refine Kd.event_run rfl (load_run BX2.out 2 rfl 29 _ (by rfl) (by rfl) _ Try.underlying29 rfl (by kernel_rfl)) ?_))
  (refine (laws_heldTable.calls K5 r1 A2_ c2_ r2 1 1 w10 (Kd.R_reads' X2.out).2.2 (Kd.R_reads' X2.out).2.1 H5.out).mono ?_)
  rintro e w11 ⟨rfl, hb⟩
  have Z11 : Aside0 (w10.heap.size ≤ w11.heap.size) := ⟨hb.size⟩
  have n0_ := Aside0.mk (Kd.R_below X1.out hb)
  have n1_ := Aside0.mk (Kd.R_below X2.out hb)
  have n2_ := Aside0.mk (Kd.R_below X3.out hb)
  have n3_ := Aside0.mk (blk_below BX1.out hb)
  have n4_ := Aside0.mk (blk_below BX2.out hb)
  have n5_ := Aside0.mk (blk_below BX3.out hb)
  have hb_ := Aside0.mk (below_then HB.out HB.out.size hb)
  clear X1 X2 X3 BX1 BX2 BX3
  have X1 := n0_
  have X2 := n1_
  have X3 := n2_
  have BX1 := n3_
  have BX2 := n4_
  have BX3 := n5_
  clear n0_ n1_ n2_ n3_ n4_ n5_
  clear HB
  have HB := hb_
  clear hb_
  clear hb
  go_wp2
  go_ret
  exact ⟨rfl, HB.out⟩

/-- THE ONE PURE STATEMENT of laws_FnExactNewTable. -/
def laws_FnExactNewTable.Pure : Prop := ∀ (a0 : Int), (Lit.int .i64 a0).wf = true → laws_FnExactNewTable.Facts a0

end Go.Proofs.Ytacpjifbgnlppaa.QFnExactNewTable
