-- Written by a program of this session (wip/mk.py) over the kit's print: Lean checks it.
import Derived.Test.YtnkdplemnikkhaaQFnExactJoinAttrx0
import Derived.Test.YtnkdplemnikkhaaQFnExactJoinAttrx1
import Derived.Test.YtnkdplemnikkhaaQFnExactJoinAttrx2
import Derived.Test.YtnkdplemnikkhaaQFnExactJoinAttrx3
namespace Go.Proofs.Ytnkdplemnikkhaa.QFnExactJoinAttr
open Go.RowKit Go.Proofs.YtnkdplemnikkhaaW.PrintWords Go.Proofs.YtnkdplemnikkhaaW.PrintLast Go.Proofs.YtnkdplemnikkhaaW.PrintMore
attribute [local go_sem] max2_int min2_int max_two min_two max_three min_three max_four min_four   -- for this text's walks alone
set_option linter.unusedVariables false
set_option linter.unusedSimpArgs false

/-! ### laws_FnExactJoinAttr: function 4 -/
section
open Go.RowKit
/-- A struct's variable is loaded whole. -/
theorem load_run {P : Program} {o : Oper} {a : Act} {W : World} {g : Nat} {cs : Array Value} {t : TypeId} (hg : W.heap[g]? = some (.cells cs t (0, 0))) (n : Nat) (hn : cs.size = n) (ty : TypeId) (x : Operand) (ho : o.op = .load ty x)
    (hx : a.eval x = .pointer (some ⟨g, 0, none⟩)) (d : TypeDesc) (hu : P.underlying ty = some d) (hd : (match d with | .struct _ | .array _ _ => true | _ => false) = true) (hi : (P.info? ty).map (·.size) = some n) :
    (execOp a.eval o).run P W = .ok (.value (.agg cs)) W := by
  subst hn
  unfold execOp
  simp only [ho, hx, Instr.loadAt, Instr.sureAddr, Sem.run_bind, Sem.run_pure, Result.andThen_ok, run_loadVar_row W g t ty cs (0, 0) d hg hu hd hi]

theorem store_run {P : Program} {o : Oper} {a : Act} {W : World} {g : Nat} {cs cs' : Array Value} {t : TypeId} (hg : W.heap[g]? = some (.cells cs t (0, 0))) (n : Nat) (hn : cs.size = n) (hn' : cs'.size = n) (ty : TypeId) (x y : Operand) (ho : o.op = .store ty x y)
    (hx : a.eval x = .pointer (some ⟨g, 0, none⟩)) (hy : a.eval y = .agg cs') (hi : (P.info? ty).map (·.size) = some n) (h1 : cs'.all (·.oneCell') = true) :
    (execOp a.eval o).run P W = .ok .skip (W.setRow g cs') := by
  unfold execOp
  simp only [ho, hx, hy, Instr.storeAt, Instr.sureAddr, Sem.run_bind, Sem.run_pure, Result.andThen_ok, run_storeVar_row W g t ty cs cs' hg (by rw [hn']; exact hi) (by rw [hn, hn']) h1]
theorem kept_setRow (W : World) (g : Nat) (cs : Array Value) : Kept W (W.setRow g cs) (fun k => k = g) := ⟨by simp, fun i _ hi => setRow_other W g i cs hi⟩
theorem below_setRow_ {B g : Nat} {w0 w : World} (hb : Below B w0 w) (hBg : B ≤ g) (cs : Array Value) : Below B w0 (w.setRow g cs) :=
  ⟨hb.os, hb.tape, hb.output, by simpa using hb.size, fun k hk => (setRow_other w g k cs (by omega)).trans (hb.block k hk)⟩
end
/-- What the law's calls answer. -/
def laws_FnExactJoinAttr.Facts (a0 : Int) (a1_0 : Int) (l1_1 : List Int) (a2_0 : Int) (l2_1 : List Int) : Prop :=
  ∃ z1 : Int, (laws_szAttr.f a1_0 l1_1 1048576 = some z1) ∧ (z1 < 0 ∨ (0 ≤ z1 ∧ ∃ z2 : Int, (laws_szAttr.f a2_0 l2_1 z1 = some z2) ∧ (z2 < 0 ∨ (0 ≤ z2 ∧ (∃ K, laws_toAttr.f K a1_0 l1_1 = some (a1_0, l1_1)) ∧ (∃ K, laws_toAttr.f K a2_0 l2_1 = some (a2_0, l2_1)) ∧ ∃ r3 : Int, ∃ r4 : List Int, ∃ r5 : Bool, (∃ K, spec_JoinAttr.f K a0 a1_0 l1_1 a2_0 l2_1 = some (r3, r4, r5)) ∧ (∃ K, impl_JoinAttr.f K a0 a1_0 l1_1 a2_0 l2_1 = some (r3, r4, r5)) ∧ (∃ K, laws_eqAttr.f K r3 r4 r3 r4 = some true) ∧ (∃ K, laws_eqAttr.f K a1_0 l1_1 a1_0 l1_1 = some true) ∧ (∃ K, laws_eqAttr.f K a2_0 l2_1 a2_0 l2_1 = some true) ∧ ∃ m6 : Int, ∃ rm6 : List Int, (∃ K, 0 ≤ m6 ∧ laws_markAttr.f K a1_0 l1_1 1 = some (m6, rm6)) ∧ ∃ m7 : Int, ∃ rm7 : List Int, (∃ K, 0 ≤ m7 ∧ laws_markAttr.f K a2_0 l2_1 m6 = some (m7, rm7)) ∧ ∃ m8 : Int, ∃ rm8 : List Int, (∃ K, 0 ≤ m8 ∧ laws_markAttr.f K r3 r4 1 = some (m8, rm8)) ∧ (∃ K, laws_heldAttr.f K r3 rm8 1 = some m8) ∧ True))))
set_option maxHeartbeats 8000000 in
set_option maxRecDepth 100000 in
theorem laws_FnExactJoinAttr.calls (a0 : Int) (a1_0 : Int) (A1_1 : Option Addr) (c1_1 : Nat) (l1_1 : List Int) (a2_0 : Int) (A2_1 : Option Addr) (c2_1 : Nat) (l2_1 : List Int) (w : World) (hr1_1 : Kd.C (Kd.int .i64) w A1_1 l1_1.length l1_1) (hc1_1 : l1_1.length ≤ c1_1) (hr2_1 : Kd.C (Kd.int .i64) w A2_1 l2_1.length l2_1) (hc2_1 : l2_1.length ≤ c2_1) (h : laws_FnExactJoinAttr.Facts a0 a1_0 l1_1 a2_0 l2_1) :
    Calls Try.prog 4 #[.int .i64 a0, .agg #[.int .i64 a1_0, .slice A1_1 l1_1.length c1_1], .agg #[.int .i64 a2_0, .slice A2_1 l2_1.length c2_1]] w fun e w' => e = .returned (.bool true) ∧ Below w.heap.size w w' := by
  unfold laws_FnExactJoinAttr.Facts at h
  have HR1_1 := Aside0.mk hr1_1
  have HC1_1 := Aside0.mk hc1_1
  clear hr1_1 hc1_1
  have HR2_1 := Aside0.mk hr2_1
  have HC2_1 := Aside0.mk hc2_1
  clear hr2_1 hc2_1
  have HF := Aside0.mk h
  clear h
  have HB := Aside0.mk (Below.refl w.heap.size w)
  obtain ⟨z1, hs, hF⟩ := HF.out
  clear HF
  have HF := Aside0.mk hF
  clear hF
  have HSz1 := Aside0.mk hs
  clear hs
  go_enter Try.func4, Try.ntmps4
  go_upto_region 2 with (fail)
  refine letC (fun W_ => Below w.heap.size w W_ ∧ W_.heap[w.heap.size]? = some (.cells #[.int .i64 a1_0, .slice A1_1 l1_1.length c1_1] 24 (0, 0)) ∧ W_.heap[w.heap.size + 1]? = some (.cells #[.int .i64 a2_0, .slice A2_1 l2_1.length c2_1] 24 (0, 0))) ?_ ?_
  · refine ⟨?_, ?_, ?_⟩
    · repeat (first | exact Below.refl _ _ | apply below_alloc | refine below_set ?_ (by first | exact Nat.le_refl _ | omega | (simp; done)))
    · simpa using blk_alloc (blk_new w (.cells #[.int .i64 a1_0, .slice A1_1 l1_1.length c1_1] 24)) (.cells #[.int .i64 a2_0, .slice A2_1 l2_1.length c2_1] 24)
    · simpa using blk_new (w.alloc (.cells #[.int .i64 a1_0, .slice A1_1 l1_1.length c1_1] 24)) (.cells #[.int .i64 a2_0, .slice A2_1 l2_1.length c2_1] 24)
  intro w1 hq_
  obtain ⟨hb, hx0_, hx1_⟩ := hq_
  have Z1 : Aside0 (w.heap.size ≤ w1.heap.size) := ⟨hb.size⟩
  have hb_ := Aside0.mk (below_then HB.out HB.out.size hb)
  clear HB
  have HB := hb_
  clear hb_
  clear hb
  have BX1 : Aside0 (w1.heap[w.heap.size]? = some (.cells #[.int .i64 a1_0, .slice A1_1 l1_1.length c1_1] 24 (0, 0))) := ⟨hx0_⟩
  clear hx0_
  have GBX1 : Aside0 (w.heap.size < w1.heap.size) := ⟨blk_lt BX1.out⟩
  have BX2 : Aside0 (w1.heap[w.heap.size + 1]? = some (.cells #[.int .i64 a2_0, .slice A2_1 l2_1.length c2_1] 24 (0, 0))) := ⟨hx1_⟩
  clear hx1_
  have GBX2 : Aside0 (w.heap.size + 1 < w1.heap.size) := ⟨blk_lt BX2.out⟩
  go_wp2_with (first | ((with_reducible refine gate_dst (N := 19) rfl ?_); first | refine Kd.event_run rfl (load_run BX1.out 2 rfl 24 _ (by rfl) (by rfl) _ Try.underlying24 rfl (by kernel_rfl)) ?_) | ((with_reducible refine gate_dst (N := 24) rfl ?_); first | refine Kd.event_run rfl (load_run BX1.out 2 rfl 24 _ (by rfl) (by rfl) _ Try.underlying24 rfl (by kernel_rfl)) ?_) | ((with_reducible refine gate_dst (N := 31) rfl ?_); first | refine Kd.event_run rfl (load_run BX1.out 2 rfl 24 _ (by rfl) (by rfl) _ Try.underlying24 rfl (by kernel_rfl)) ?_) | ((with_reducible refine gate_dst (N := 33) rfl ?_); first | refine Kd.event_run rfl (load_run BX1.out 2 rfl 24 _ (by rfl) (by rfl) _ Try.underlying24 rfl (by kernel_rfl)) ?_) | ((with_reducible refine gate_dst (N := 38) rfl ?_); first | refine Kd.event_run rfl (load_run BX1.out 2 rfl 24 _ (by rfl) (by rfl) _ Try.underlying24 rfl (by kernel_rfl)) ?_) | ((with_reducible refine gate_dst (N := 40) rfl ?_); first | refine Kd.event_run rfl (load_run BX1.out 2 rfl 24 _ (by rfl) (by rfl) _ Try.underlying24 rfl (by kernel_rfl)) ?_) | ((with_reducible refine gate_dst (N := 44) rfl ?_); first | refine Kd.event_run rfl (load_run BX1.out 2 rfl 24 _ (by rfl) (by rfl) _ Try.underlying24 rfl (by kernel_rfl)) ?_) | ((with_reducible refine gate_dst (N := 45) rfl ?_); first | refine Kd.event_run rfl (load_run BX1.out 2 rfl 24 _ (by rfl) (by rfl) _ Try.underlying24 rfl (by kernel_rfl)) ?_) | ((with_reducible refine gate_dst (N := 49) rfl ?_); first | refine Kd.event_run rfl (load_run BX1.out 2 rfl 24 _ (by rfl) (by rfl) _ Try.underlying24 rfl (by kernel_rfl)) ?_) | ((with_reducible refine gate_dst (N := 50) rfl ?_); first | refine Kd.event_run rfl (load_run BX1.out 2 rfl 24 _ (by rfl) (by rfl) _ Try.underlying24 rfl (by kernel_rfl)) ?_) | ((with_reducible refine gate_dst (N := 58) rfl ?_); first | refine Kd.event_run rfl (load_run BX1.out 2 rfl 24 _ (by rfl) (by rfl) _ Try.underlying24 rfl (by kernel_rfl)) ?_) | ((with_reducible refine gate_dst (N := 59) rfl ?_); first | refine Kd.event_run rfl (load_run BX1.out 2 rfl 24 _ (by rfl) (by rfl) _ Try.underlying24 rfl (by kernel_rfl)) ?_) | ((with_reducible refine gate_dst (N := 63) rfl ?_); first | refine Kd.event_run rfl (load_run BX1.out 2 rfl 24 _ (by rfl) (by rfl) _ Try.underlying24 rfl (by kernel_rfl)) ?_) | ((with_reducible refine gate_dst (N := 64) rfl ?_); first | refine Kd.event_run rfl (load_run BX1.out 2 rfl 24 _ (by rfl) (by rfl) _ Try.underlying24 rfl (by kernel_rfl)) ?_) | ((with_reducible refine gate_dst (N := 68) rfl ?_); first | refine Kd.event_run rfl (load_run BX1.out 2 rfl 24 _ (by rfl) (by rfl) _ Try.underlying24 rfl (by kernel_rfl)) ?_) | ((with_reducible refine gate_dst (N := 71) rfl ?_); first | refine Kd.event_run rfl (load_run BX1.out 2 rfl 24 _ (by rfl) (by rfl) _ Try.underlying24 rfl (by kernel_rfl)) ?_) | ((with_reducible refine gate_dst (N := 77) rfl ?_); first | refine Kd.event_run rfl (load_run BX1.out 2 rfl 24 _ (by rfl) (by rfl) _ Try.underlying24 rfl (by kernel_rfl)) ?_) | ((with_reducible refine gate_dst (N := 78) rfl ?_); first | refine Kd.event_run rfl (load_run BX1.out 2 rfl 24 _ (by rfl) (by rfl) _ Try.underlying24 rfl (by kernel_rfl)) ?_) | ((with_reducible refine gate_dst (N := 87) rfl ?_); first | refine Kd.event_run rfl (load_run BX1.out 2 rfl 24 _ (by rfl) (by rfl) _ Try.underlying24 rfl (by kernel_rfl)) ?_) | ((with_reducible refine gate_dst (N := 90) rfl ?_); first | refine Kd.event_run rfl (load_run BX1.out 2 rfl 24 _ (by rfl) (by rfl) _ Try.underlying24 rfl (by kernel_rfl)) ?_) | ((with_reducible refine gate_dst (N := 100) rfl ?_); first | refine Kd.event_run rfl (load_run BX1.out 2 rfl 24 _ (by rfl) (by rfl) _ Try.underlying24 rfl (by kernel_rfl)) ?_) | ((with_reducible refine gate_dst (N := 102) rfl ?_); first | refine Kd.event_run rfl (load_run BX1.out 2 rfl 24 _ (by rfl) (by rfl) _ Try.underlying24 rfl (by kernel_rfl)) ?_) | ((with_reducible refine gate_dst (N := 107) rfl ?_); first | refine Kd.event_run rfl (load_run BX1.out 2 rfl 24 _ (by rfl) (by rfl) _ Try.underlying24 rfl (by kernel_rfl)) ?_) | ((with_reducible refine gate_dst (N := 108) rfl ?_); first | refine Kd.event_run rfl (load_run BX1.out 2 rfl 24 _ (by rfl) (by rfl) _ Try.underlying24 rfl (by kernel_rfl)) ?_) | ((with_reducible refine gate_dst (N := 116) rfl ?_); first | refine Kd.event_run rfl (load_run BX1.out 2 rfl 24 _ (by rfl) (by rfl) _ Try.underlying24 rfl (by kernel_rfl)) ?_))
  (refine (laws_szAttr.calls a1_0 A1_1 c1_1 l1_1 1048576 z1 w1 (Kd.C_below HR1_1.out HB.out) HC1_1.out HSz1.out).mono ?_)
  rintro e w2 ⟨rfl, hb⟩
  have Z2 : Aside0 (w1.heap.size ≤ w2.heap.size) := ⟨hb.size⟩
  have n0_ := Aside0.mk (blk_below BX1.out hb)
  have n1_ := Aside0.mk (blk_below BX2.out hb)
  have hb_ := Aside0.mk (below_then HB.out HB.out.size hb)
  clear BX1 BX2
  have BX1 := n0_
  have BX2 := n1_
  clear n0_ n1_
  clear HB
  have HB := hb_
  clear hb_
  clear hb
  rcases HF.out with hneg | ⟨hpos, hF⟩
  · clear HF
    go_wp2
    go_ret
    exact ⟨rfl, HB.out⟩
  clear HF
  have HF := Aside0.mk hF
  clear hF
  obtain ⟨z2, hs, hF⟩ := HF.out
  clear HF
  have HF := Aside0.mk hF
  clear hF
  have HSz2 := Aside0.mk hs
  clear hs
  go_wp2_with (first | ((with_reducible refine gate_dst (N := 19) rfl ?_); first | refine Kd.event_run rfl (load_run BX2.out 2 rfl 24 _ (by rfl) (by rfl) _ Try.underlying24 rfl (by kernel_rfl)) ?_) | ((with_reducible refine gate_dst (N := 24) rfl ?_); first | refine Kd.event_run rfl (load_run BX2.out 2 rfl 24 _ (by rfl) (by rfl) _ Try.underlying24 rfl (by kernel_rfl)) ?_) | ((with_reducible refine gate_dst (N := 31) rfl ?_); first | refine Kd.event_run rfl (load_run BX2.out 2 rfl 24 _ (by rfl) (by rfl) _ Try.underlying24 rfl (by kernel_rfl)) ?_) | ((with_reducible refine gate_dst (N := 33) rfl ?_); first | refine Kd.event_run rfl (load_run BX2.out 2 rfl 24 _ (by rfl) (by rfl) _ Try.underlying24 rfl (by kernel_rfl)) ?_) | ((with_reducible refine gate_dst (N := 38) rfl ?_); first | refine Kd.event_run rfl (load_run BX2.out 2 rfl 24 _ (by rfl) (by rfl) _ Try.underlying24 rfl (by kernel_rfl)) ?_) | ((with_reducible refine gate_dst (N := 40) rfl ?_); first | refine Kd.event_run rfl (load_run BX2.out 2 rfl 24 _ (by rfl) (by rfl) _ Try.underlying24 rfl (by kernel_rfl)) ?_) | ((with_reducible refine gate_dst (N := 44) rfl ?_); first | refine Kd.event_run rfl (load_run BX2.out 2 rfl 24 _ (by rfl) (by rfl) _ Try.underlying24 rfl (by kernel_rfl)) ?_) | ((with_reducible refine gate_dst (N := 45) rfl ?_); first | refine Kd.event_run rfl (load_run BX2.out 2 rfl 24 _ (by rfl) (by rfl) _ Try.underlying24 rfl (by kernel_rfl)) ?_) | ((with_reducible refine gate_dst (N := 49) rfl ?_); first | refine Kd.event_run rfl (load_run BX2.out 2 rfl 24 _ (by rfl) (by rfl) _ Try.underlying24 rfl (by kernel_rfl)) ?_) | ((with_reducible refine gate_dst (N := 50) rfl ?_); first | refine Kd.event_run rfl (load_run BX2.out 2 rfl 24 _ (by rfl) (by rfl) _ Try.underlying24 rfl (by kernel_rfl)) ?_) | ((with_reducible refine gate_dst (N := 58) rfl ?_); first | refine Kd.event_run rfl (load_run BX2.out 2 rfl 24 _ (by rfl) (by rfl) _ Try.underlying24 rfl (by kernel_rfl)) ?_) | ((with_reducible refine gate_dst (N := 59) rfl ?_); first | refine Kd.event_run rfl (load_run BX2.out 2 rfl 24 _ (by rfl) (by rfl) _ Try.underlying24 rfl (by kernel_rfl)) ?_) | ((with_reducible refine gate_dst (N := 63) rfl ?_); first | refine Kd.event_run rfl (load_run BX2.out 2 rfl 24 _ (by rfl) (by rfl) _ Try.underlying24 rfl (by kernel_rfl)) ?_) | ((with_reducible refine gate_dst (N := 64) rfl ?_); first | refine Kd.event_run rfl (load_run BX2.out 2 rfl 24 _ (by rfl) (by rfl) _ Try.underlying24 rfl (by kernel_rfl)) ?_) | ((with_reducible refine gate_dst (N := 68) rfl ?_); first | refine Kd.event_run rfl (load_run BX2.out 2 rfl 24 _ (by rfl) (by rfl) _ Try.underlying24 rfl (by kernel_rfl)) ?_) | ((with_reducible refine gate_dst (N := 71) rfl ?_); first | refine Kd.event_run rfl (load_run BX2.out 2 rfl 24 _ (by rfl) (by rfl) _ Try.underlying24 rfl (by kernel_rfl)) ?_) | ((with_reducible refine gate_dst (N := 77) rfl ?_); first | refine Kd.event_run rfl (load_run BX2.out 2 rfl 24 _ (by rfl) (by rfl) _ Try.underlying24 rfl (by kernel_rfl)) ?_) | ((with_reducible refine gate_dst (N := 78) rfl ?_); first | refine Kd.event_run rfl (load_run BX2.out 2 rfl 24 _ (by rfl) (by rfl) _ Try.underlying24 rfl (by kernel_rfl)) ?_) | ((with_reducible refine gate_dst (N := 87) rfl ?_); first | refine Kd.event_run rfl (load_run BX2.out 2 rfl 24 _ (by rfl) (by rfl) _ Try.underlying24 rfl (by kernel_rfl)) ?_) | ((with_reducible refine gate_dst (N := 90) rfl ?_); first | refine Kd.event_run rfl (load_run BX2.out 2 rfl 24 _ (by rfl) (by rfl) _ Try.underlying24 rfl (by kernel_rfl)) ?_) | ((with_reducible refine gate_dst (N := 100) rfl ?_); first | refine Kd.event_run rfl (load_run BX2.out 2 rfl 24 _ (by rfl) (by rfl) _ Try.underlying24 rfl (by kernel_rfl)) ?_) | ((with_reducible refine gate_dst (N := 102) rfl ?_); first | refine Kd.event_run rfl (load_run BX2.out 2 rfl 24 _ (by rfl) (by rfl) _ Try.underlying24 rfl (by kernel_rfl)) ?_) | ((with_reducible refine gate_dst (N := 107) rfl ?_); first | refine Kd.event_run rfl (load_run BX2.out 2 rfl 24 _ (by rfl) (by rfl) _ Try.underlying24 rfl (by kernel_rfl)) ?_) | ((with_reducible refine gate_dst (N := 108) rfl ?_); first | refine Kd.event_run rfl (load_run BX2.out 2 rfl 24 _ (by rfl) (by rfl) _ Try.underlying24 rfl (by kernel_rfl)) ?_) | ((with_reducible refine gate_dst (N := 116) rfl ?_); first | refine Kd.event_run rfl (load_run BX2.out 2 rfl 24 _ (by rfl) (by rfl) _ Try.underlying24 rfl (by kernel_rfl)) ?_))
  (refine (laws_szAttr.calls a2_0 A2_1 c2_1 l2_1 z1 z2 w2 (Kd.C_below HR2_1.out HB.out) HC2_1.out HSz2.out).mono ?_)
  rintro e w3 ⟨rfl, hb⟩
  have Z3 : Aside0 (w2.heap.size ≤ w3.heap.size) := ⟨hb.size⟩
  have n0_ := Aside0.mk (blk_below BX1.out hb)
  have n1_ := Aside0.mk (blk_below BX2.out hb)
  have hb_ := Aside0.mk (below_then HB.out HB.out.size hb)
  clear BX1 BX2
  have BX1 := n0_
  have BX2 := n1_
  clear n0_ n1_
  clear HB
  have HB := hb_
  clear hb_
  clear hb
  rcases HF.out with hneg | ⟨hpos, hF⟩
  · clear HF
    go_wp2
    go_ret
    exact ⟨rfl, HB.out⟩
  clear HF
  have HF := Aside0.mk hF
  clear hF
  go_wp2_with (first | ((with_reducible refine gate_dst (N := 19) rfl ?_); first | refine Kd.event_run rfl (load_run BX1.out 2 rfl 24 _ (by rfl) (by rfl) _ Try.underlying24 rfl (by kernel_rfl)) ?_ | refine Kd.event_run rfl (load_run BX2.out 2 rfl 24 _ (by rfl) (by rfl) _ Try.underlying24 rfl (by kernel_rfl)) ?_) | ((with_reducible refine gate_dst (N := 24) rfl ?_); first | refine Kd.event_run rfl (load_run BX1.out 2 rfl 24 _ (by rfl) (by rfl) _ Try.underlying24 rfl (by kernel_rfl)) ?_ | refine Kd.event_run rfl (load_run BX2.out 2 rfl 24 _ (by rfl) (by rfl) _ Try.underlying24 rfl (by kernel_rfl)) ?_) | ((with_reducible refine gate_dst (N := 31) rfl ?_); first | refine Kd.event_run rfl (load_run BX1.out 2 rfl 24 _ (by rfl) (by rfl) _ Try.underlying24 rfl (by kernel_rfl)) ?_ | refine Kd.event_run rfl (load_run BX2.out 2 rfl 24 _ (by rfl) (by rfl) _ Try.underlying24 rfl (by kernel_rfl)) ?_) | ((with_reducible refine gate_dst (N := 33) rfl ?_); first | refine Kd.event_run rfl (load_run BX1.out 2 rfl 24 _ (by rfl) (by rfl) _ Try.underlying24 rfl (by kernel_rfl)) ?_ | refine Kd.event_run rfl (load_run BX2.out 2 rfl 24 _ (by rfl) (by rfl) _ Try.underlying24 rfl (by kernel_rfl)) ?_) | ((with_reducible refine gate_dst (N := 38) rfl ?_); first | refine Kd.event_run rfl (load_run BX1.out 2 rfl 24 _ (by rfl) (by rfl) _ Try.underlying24 rfl (by kernel_rfl)) ?_ | refine Kd.event_run rfl (load_run BX2.out 2 rfl 24 _ (by rfl) (by rfl) _ Try.underlying24 rfl (by kernel_rfl)) ?_) | ((with_reducible refine gate_dst (N := 40) rfl ?_); first | refine Kd.event_run rfl (load_run BX1.out 2 rfl 24 _ (by rfl) (by rfl) _ Try.underlying24 rfl (by kernel_rfl)) ?_ | refine Kd.event_run rfl (load_run BX2.out 2 rfl 24 _ (by rfl) (by rfl) _ Try.underlying24 rfl (by kernel_rfl)) ?_) | ((with_reducible refine gate_dst (N := 44) rfl ?_); first | refine Kd.event_run rfl (load_run BX1.out 2 rfl 24 _ (by rfl) (by rfl) _ Try.underlying24 rfl (by kernel_rfl)) ?_ | refine Kd.event_run rfl (load_run BX2.out 2 rfl 24 _ (by rfl) (by rfl) _ Try.underlying24 rfl (by kernel_rfl)) ?_) | ((with_reducible refine gate_dst (N := 45) rfl ?_); first | refine Kd.event_run rfl (load_run BX1.out 2 rfl 24 _ (by rfl) (by rfl) _ Try.underlying24 rfl (by kernel_rfl)) ?_ | refine Kd.event_run rfl (load_run BX2.out 2 rfl 24 _ (by rfl) (by rfl) _ Try.underlying24 rfl (by kernel_rfl)) ?_) | ((with_reducible refine gate_dst (N := 49) rfl ?_); first | refine Kd.event_run rfl (load_run BX1.out 2 rfl 24 _ (by rfl) (by rfl) _ Try.underlying24 rfl (by kernel_rfl)) ?_ | refine Kd.event_run rfl (load_run BX2.out 2 rfl 24 _ (by rfl) (by rfl) _ Try.underlying24 rfl (by kernel_rfl)) ?_) | ((with_reducible refine gate_dst (N := 50) rfl ?_); first | refine Kd.event_run rfl (load_run BX1.out 2 rfl 24 _ (by rfl) (by rfl) _ Try.underlying24 rfl (by kernel_rfl)) ?_ | refine Kd.event_run rfl (load_run BX2.out 2 rfl 24 _ (by rfl) (by rfl) _ Try.underlying24 rfl (by kernel_rfl)) ?_) | ((with_reducible refine gate_dst (N := 58) rfl ?_); first | refine Kd.event_run rfl (load_run BX1.out 2 rfl 24 _ (by rfl) (by rfl) _ Try.underlying24 rfl (by kernel_rfl)) ?_ | refine Kd.event_run rfl (load_run BX2.out 2 rfl 24 _ (by rfl) (by rfl) _ Try.underlying24 rfl (by kernel_rfl)) ?_) | ((with_reducible refine gate_dst (N := 59) rfl ?_); first | refine Kd.event_run rfl (load_run BX1.out 2 rfl 24 _ (by rfl) (by rfl) _ Try.underlying24 rfl (by kernel_rfl)) ?_ | refine Kd.event_run rfl (load_run BX2.out 2 rfl 24 _ (by rfl) (by rfl) _ Try.underlying24 rfl (by kernel_rfl)) ?_) | ((with_reducible refine gate_dst (N := 63) rfl ?_); first | refine Kd.event_run rfl (load_run BX1.out 2 rfl 24 _ (by rfl) (by rfl) _ Try.underlying24 rfl (by kernel_rfl)) ?_ | refine Kd.event_run rfl (load_run BX2.out 2 rfl 24 _ (by rfl) (by rfl) _ Try.underlying24 rfl (by kernel_rfl)) ?_) | ((with_reducible refine gate_dst (N := 64) rfl ?_); first | refine Kd.event_run rfl (load_run BX1.out 2 rfl 24 _ (by rfl) (by rfl) _ Try.underlying24 rfl (by kernel_rfl)) ?_ | refine Kd.event_run rfl (load_run BX2.out 2 rfl 24 _ (by rfl) (by rfl) _ Try.underlying24 rfl (by kernel_rfl)) ?_) | ((with_reducible refine gate_dst (N := 68) rfl ?_); first | refine Kd.event_run rfl (load_run BX1.out 2 rfl 24 _ (by rfl) (by rfl) _ Try.underlying24 rfl (by kernel_rfl)) ?_ | refine Kd.event_run rfl (load_run BX2.out 2 rfl 24 _ (by rfl) (by rfl) _ Try.underlying24 rfl (by kernel_rfl)) ?_) | ((with_reducible refine gate_dst (N := 71) rfl ?_); first | refine Kd.event_run rfl (load_run BX1.out 2 rfl 24 _ (by rfl) (by rfl) _ Try.underlying24 rfl (by kernel_rfl)) ?_ | refine Kd.event_run rfl (load_run BX2.out 2 rfl 24 _ (by rfl) (by rfl) _ Try.underlying24 rfl (by kernel_rfl)) ?_) | ((with_reducible refine gate_dst (N := 77) rfl ?_); first | refine Kd.event_run rfl (load_run BX1.out 2 rfl 24 _ (by rfl) (by rfl) _ Try.underlying24 rfl (by kernel_rfl)) ?_ | refine Kd.event_run rfl (load_run BX2.out 2 rfl 24 _ (by rfl) (by rfl) _ Try.underlying24 rfl (by kernel_rfl)) ?_) | ((with_reducible refine gate_dst (N := 78) rfl ?_); first | refine Kd.event_run rfl (load_run BX1.out 2 rfl 24 _ (by rfl) (by rfl) _ Try.underlying24 rfl (by kernel_rfl)) ?_ | refine Kd.event_run rfl (load_run BX2.out 2 rfl 24 _ (by rfl) (by rfl) _ Try.underlying24 rfl (by kernel_rfl)) ?_) | ((with_reducible refine gate_dst (N := 87) rfl ?_); first | refine Kd.event_run rfl (load_run BX1.out 2 rfl 24 _ (by rfl) (by rfl) _ Try.underlying24 rfl (by kernel_rfl)) ?_ | refine Kd.event_run rfl (load_run BX2.out 2 rfl 24 _ (by rfl) (by rfl) _ Try.underlying24 rfl (by kernel_rfl)) ?_) | ((with_reducible refine gate_dst (N := 90) rfl ?_); first | refine Kd.event_run rfl (load_run BX1.out 2 rfl 24 _ (by rfl) (by rfl) _ Try.underlying24 rfl (by kernel_rfl)) ?_ | refine Kd.event_run rfl (load_run BX2.out 2 rfl 24 _ (by rfl) (by rfl) _ Try.underlying24 rfl (by kernel_rfl)) ?_) | ((with_reducible refine gate_dst (N := 100) rfl ?_); first | refine Kd.event_run rfl (load_run BX1.out 2 rfl 24 _ (by rfl) (by rfl) _ Try.underlying24 rfl (by kernel_rfl)) ?_ | refine Kd.event_run rfl (load_run BX2.out 2 rfl 24 _ (by rfl) (by rfl) _ Try.underlying24 rfl (by kernel_rfl)) ?_) | ((with_reducible refine gate_dst (N := 102) rfl ?_); first | refine Kd.event_run rfl (load_run BX1.out 2 rfl 24 _ (by rfl) (by rfl) _ Try.underlying24 rfl (by kernel_rfl)) ?_ | refine Kd.event_run rfl (load_run BX2.out 2 rfl 24 _ (by rfl) (by rfl) _ Try.underlying24 rfl (by kernel_rfl)) ?_) | ((with_reducible refine gate_dst (N := 107) rfl ?_); first | refine Kd.event_run rfl (load_run BX1.out 2 rfl 24 _ (by rfl) (by rfl) _ Try.underlying24 rfl (by kernel_rfl)) ?_ | refine Kd.event_run rfl (load_run BX2.out 2 rfl 24 _ (by rfl) (by rfl) _ Try.underlying24 rfl (by kernel_rfl)) ?_) | ((with_reducible refine gate_dst (N := 108) rfl ?_); first | refine Kd.event_run rfl (load_run BX1.out 2 rfl 24 _ (by rfl) (by rfl) _ Try.underlying24 rfl (by kernel_rfl)) ?_ | refine Kd.event_run rfl (load_run BX2.out 2 rfl 24 _ (by rfl) (by rfl) _ Try.underlying24 rfl (by kernel_rfl)) ?_) | ((with_reducible refine gate_dst (N := 116) rfl ?_); first | refine Kd.event_run rfl (load_run BX1.out 2 rfl 24 _ (by rfl) (by rfl) _ Try.underlying24 rfl (by kernel_rfl)) ?_ | refine Kd.event_run rfl (load_run BX2.out 2 rfl 24 _ (by rfl) (by rfl) _ Try.underlying24 rfl (by kernel_rfl)) ?_))
  refine start_ (n := 12) (S := fun w' => w'.heap[w.heap.size]? = some (.cells #[.int .i64 a1_0, .slice A1_1 l1_1.length c1_1] 24 (0, 0)) ∧ w'.heap[w.heap.size + 1]? = some (.cells #[.int .i64 a2_0, .slice A2_1 l2_1.length c2_1] 24 (0, 0))) (ds := []) #[false, false, false, false, false, false, false, false, false, false, false, false] (by kernel_rfl) rfl rfl ⟨BX1.out, BX2.out⟩ (fun hHeld => ?_)
  have hb : Below w3.heap.size w3 w3.drew := below_drew (Below.refl _ _)
  generalize w3.drew = w4 at hb hHeld ⊢
  have Z4 : Aside0 (w3.heap.size ≤ w4.heap.size) := ⟨hb.size⟩
  have n0_ := Aside0.mk (blk_below BX1.out hb)
  have n1_ := Aside0.mk (blk_below BX2.out hb)
  have hb_ := Aside0.mk (below_then HB.out HB.out.size hb)
  clear BX1 BX2
  have BX1 := n0_
  have BX2 := n1_
  clear n0_ n1_
  clear HB
  have HB := hb_
  clear hb_
  clear hb
  refine pure_ (i := 0) (N := some 30) (v := ?_) (a' := ?_) #[true, false, false, false, false, false, false, false, false, false, false, false] rfl rfl (by kernel_rfl) (fun _ _ _ h => h) (Or.inl ⟨by rfl, ?_⟩) ?_ ?_
  rotate_left
  · intro w'
    go_simp
    with_reducible rfl
  rotate_left
  · simp only [Act.put, List.setIfInBounds_toArray, List.set_cons_zero, List.set_cons_succ, i64_w, i32_w]
    rfl
  refine take_ (i := 1) (N := some 31) (v := ?_) (a' := ?_) #[true, true, false, false, false, false, false, false, false, false, false, false] rfl rfl (by kernel_rfl) (fun _ _ _ h => h) (Or.inl ⟨by rfl, ?_⟩) hHeld ?_ ?_
  rotate_left
  · rintro w' ⟨s0, s1⟩
    first | (refine Eq.trans (load_run s0 2 rfl 24 _ (by rfl) (by rfl) _ Try.underlying24 rfl (by kernel_rfl)) ?_; with_reducible rfl) | (refine Eq.trans (load_run s1 2 rfl 24 _ (by rfl) (by rfl) _ Try.underlying24 rfl (by kernel_rfl)) ?_; with_reducible rfl)
  rotate_left
  · simp only [Act.put, List.setIfInBounds_toArray, List.set_cons_zero, List.set_cons_succ, i64_w, i32_w]
    rfl
  refine take_ (i := 3) (N := some 33) (v := ?_) (a' := ?_) #[true, true, false, true, false, false, false, false, false, false, false, false] rfl rfl (by kernel_rfl) (fun _ _ _ h => h) (Or.inl ⟨by rfl, ?_⟩) hHeld ?_ ?_
  rotate_left
  · rintro w' ⟨s0, s1⟩
    first | (refine Eq.trans (load_run s0 2 rfl 24 _ (by rfl) (by rfl) _ Try.underlying24 rfl (by kernel_rfl)) ?_; with_reducible rfl) | (refine Eq.trans (load_run s1 2 rfl 24 _ (by rfl) (by rfl) _ Try.underlying24 rfl (by kernel_rfl)) ?_; with_reducible rfl)
  rotate_left
  · simp only [Act.put, List.setIfInBounds_toArray, List.set_cons_zero, List.set_cons_succ, i64_w, i32_w]
    rfl
  have HBr := Aside0.mk (Below.refl w4.heap.size w4)
  obtain ⟨⟨K1, h1⟩, hF⟩ := HF.out
  clear HF
  have HF := Aside0.mk hF
  clear hF
  have H1 := Aside0.mk h1
  clear h1
  obtain ⟨⟨K2, h2⟩, hF⟩ := HF.out
  clear HF
  have HF := Aside0.mk hF
  clear hF
  have H2 := Aside0.mk h2
  clear h2
  obtain ⟨r3, r4, r5, ⟨K3, h3⟩, hF⟩ := HF.out
  clear HF
  have HF := Aside0.mk hF
  clear hF
  have H3 := Aside0.mk h3
  clear h3
  refine join_ (σ := Value × Value × Value × Nat) 2 #[true, true, true, true, true, true, true, true, true, true, false, false] (fun s_ => [(32, .agg #[.int .i64 a1_0, s_.1]), (34, .agg #[.int .i64 a2_0, s_.2.1]), (35, .tuple #[.agg #[.int .i64 r3, s_.2.2.1], .bool r5]), (8, .pointer (some ⟨s_.2.2.2, 0, none⟩)), (29, .tuple #[.agg #[.int .i64 r3, s_.2.2.1], .bool r5]), (36, .agg #[.int .i64 r3, s_.2.2.1]), (37, .bool r5)]) (fun s_ w' => (w'.heap[w.heap.size]? = some (.cells #[.int .i64 a1_0, .slice A1_1 l1_1.length c1_1] 24 (0, 0)) ∧ w'.heap[w.heap.size + 1]? = some (.cells #[.int .i64 a2_0, .slice A2_1 l2_1.length c2_1] 24 (0, 0))) ∧ Below w4.heap.size w4 w' ∧ Kd.R (Kd.int .i64) 3 w' w.heap.size (fun k => w4.heap.size ≤ k ∧ k < w'.heap.size) s_.2.2.1 r4 ∧ w'.heap[s_.2.2.2]? = some (.cells #[.int .i64 0, .slice none 0 0] 28 (0, 0)) ∧ w4.heap.size ≤ s_.2.2.2) ?_ ?_
  rotate_left
  · intro hCont
    refine two_ (i := 2) (j := 9) (Ni := some 32) (Nj := some 8) #[true, true, true, true, false, false, false, false, false, false, false, false] #[true, true, false, true, false, false, false, false, false, true, false, false] rfl rfl rfl rfl (by kernel_rfl) (by decide) (by decide) (fun K hK => ?_) (fun K hK => ?_)
    · skip
      refine goes_ Try.func14 (by kernel_rfl) rfl #[.agg #[.int .i64 a1_0, .slice A1_1 l1_1.length c1_1]] (by rfl) rfl rfl (by (try simp only [List.map_toArray, List.map_cons, List.map_nil]); first | done | rfl) ?_
      (refine (laws_toAttr.calls K1 a1_0 A1_1 c1_1 l1_1 a1_0 l1_1 w4 (Kd.C_below HR1_1.out HB.out) HC1_1.out H1.out).mono ?_)
      rintro e w5 ⟨v1_, rfl, hS0, hb⟩
      refine ⟨_, rfl, ?_⟩
      have X1 : Aside0 (Kd.R (Kd.int .i64) 3 w5 w.heap.size (fun k => w4.heap.size ≤ k ∧ k < w5.heap.size) v1_ l1_1) := ⟨Kd.R_mono (Kd.R_lower (Kd.R_bound hS0) HB.out.size) (fun k hk => ⟨hk.2.1, hk.2.2.1⟩)⟩
      have Z5 : Aside0 (w4.heap.size ≤ w5.heap.size) := ⟨hb.size⟩
      have n0_ := Aside0.mk (blk_below BX1.out hb)
      have n1_ := Aside0.mk (blk_below BX2.out hb)
      have hb_ := Aside0.mk (below_then HB.out HB.out.size hb)
      clear BX1 BX2
      have BX1 := n0_
      have BX2 := n1_
      clear n0_ n1_
      clear HB
      have HB := hb_
      clear hb_
      have hb_ := Aside0.mk (below_then HBr.out HBr.out.size hb)
      clear HBr
      have HBr := hb_
      clear hb_
      clear hb hS0
      obtain ⟨A1_, c1_, rfl⟩ := Kd.R_slice X1.out
      refine hK.out _ _ ⟨BX1.out, BX2.out⟩ (fun hHeld => ?_)
      clear hK K
      refine norm_ (a' := ?_) ?_ ?_
      rotate_left
      · show Act.put _ (some 32) _ = _
        simp only [Act.put, List.setIfInBounds_toArray, List.set_cons_zero, List.set_cons_succ, i64_w, i32_w]
        rfl
      refine two_ (i := 4) (j := 9) (Ni := some 34) (Nj := some 8) #[true, true, true, true, true, false, false, false, false, false, false, false] #[true, true, true, true, false, false, false, false, false, true, false, false] rfl rfl rfl rfl (by kernel_rfl) (by decide) (by decide) (fun K hK => ?_) (fun K hK => ?_)
      · skip
        refine goes_ Try.func14 (by kernel_rfl) rfl #[.agg #[.int .i64 a2_0, .slice A2_1 l2_1.length c2_1]] (by rfl) rfl rfl (by (try simp only [List.map_toArray, List.map_cons, List.map_nil]); first | done | rfl) ?_
        (refine (laws_toAttr.calls K2 a2_0 A2_1 c2_1 l2_1 a2_0 l2_1 w5 (Kd.C_below HR2_1.out HB.out) HC2_1.out H2.out).mono ?_)
        rintro e w6 ⟨v1_, rfl, hS0, hb⟩
        refine ⟨_, rfl, ?_⟩
        have X2 : Aside0 (Kd.R (Kd.int .i64) 3 w6 w.heap.size (fun k => w5.heap.size ≤ k ∧ k < w6.heap.size) v1_ l2_1) := ⟨Kd.R_mono (Kd.R_lower (Kd.R_bound hS0) HB.out.size) (fun k hk => ⟨hk.2.1, hk.2.2.1⟩)⟩
        have Z6 : Aside0 (w5.heap.size ≤ w6.heap.size) := ⟨hb.size⟩
        have n0_ := Aside0.mk (Kd.R_below X1.out hb)
        have n1_ := Aside0.mk (blk_below BX1.out hb)
        have n2_ := Aside0.mk (blk_below BX2.out hb)
        have hb_ := Aside0.mk (below_then HB.out HB.out.size hb)
        clear X1 BX1 BX2
        have X1 := n0_
        have BX1 := n1_
        have BX2 := n2_
        clear n0_ n1_ n2_
        clear HB
        have HB := hb_
        clear hb_
        have hb_ := Aside0.mk (below_then HBr.out HBr.out.size hb)
        clear HBr
        have HBr := hb_
        clear hb_
        clear hb hS0
        obtain ⟨A2_, c2_, rfl⟩ := Kd.R_slice X2.out
        refine hK.out _ _ ⟨BX1.out, BX2.out⟩ (fun hHeld => ?_)
        clear hK K
        refine norm_ (a' := ?_) ?_ ?_
        rotate_left
        · show Act.put _ (some 34) _ = _
          simp only [Act.put, List.setIfInBounds_toArray, List.set_cons_zero, List.set_cons_succ, i64_w, i32_w]
          rfl
        refine two_ (i := 5) (j := 9) (Ni := some 35) (Nj := some 8) #[true, true, true, true, true, true, false, false, false, false, false, false] #[true, true, true, true, true, false, false, false, false, true, false, false] rfl rfl rfl rfl (by kernel_rfl) (by decide) (by decide) (fun K hK => ?_) (fun K hK => ?_)
        · skip
          refine goes_ Try.func17 (by kernel_rfl) rfl #[.int .i64 a0, .agg #[.int .i64 a1_0, .slice A1_ l1_1.length c1_], .agg #[.int .i64 a2_0, .slice A2_ l2_1.length c2_]] (by rfl) rfl rfl (by (try simp only [List.map_toArray, List.map_cons, List.map_nil]); first | done | rfl) ?_
          (refine (spec_JoinAttr.calls K3 a0 a1_0 A1_ c1_ l1_1 a2_0 A2_ c2_ l2_1 r3 r4 r5 w6 (Kd.R_reads' X1.out).2.2 (Kd.R_reads' X1.out).2.1 (Kd.R_reads' X2.out).2.2 (Kd.R_reads' X2.out).2.1 H3.out).mono ?_)
          rintro e w7 ⟨v1_, rfl, hS0, hb⟩
          refine ⟨_, rfl, ?_⟩
          have X3 : Aside0 (Kd.R (Kd.int .i64) 3 w7 w.heap.size (fun k => w6.heap.size ≤ k ∧ k < w7.heap.size) v1_ r4) := ⟨Kd.R_mono (Kd.R_lower (Kd.R_bound hS0) HB.out.size) (fun k hk => ⟨hk.2.1, hk.2.2.1⟩)⟩
          have Z7 : Aside0 (w6.heap.size ≤ w7.heap.size) := ⟨hb.size⟩
          have n0_ := Aside0.mk (Kd.R_below X1.out hb)
          have n1_ := Aside0.mk (Kd.R_below X2.out hb)
          have n2_ := Aside0.mk (blk_below BX1.out hb)
          have n3_ := Aside0.mk (blk_below BX2.out hb)
          have hb_ := Aside0.mk (below_then HB.out HB.out.size hb)
          clear X1 X2 BX1 BX2
          have X1 := n0_
          have X2 := n1_
          have BX1 := n2_
          have BX2 := n3_
          clear n0_ n1_ n2_ n3_
          clear HB
          have HB := hb_
          clear hb_
          have hb_ := Aside0.mk (below_then HBr.out HBr.out.size hb)
          clear HBr
          have HBr := hb_
          clear hb_
          clear hb hS0
          obtain ⟨A3_, c3_, rfl⟩ := Kd.R_slice X3.out
          refine hK.out _ _ ⟨BX1.out, BX2.out⟩ (fun hHeld => ?_)
          clear hK K
          refine norm_ (a' := ?_) ?_ ?_
          rotate_left
          · show Act.put _ (some 35) _ = _
            simp only [Act.put, List.setIfInBounds_toArray, List.set_cons_zero, List.set_cons_succ, i64_w, i32_w]
            rfl
          refine pure_ (i := 6) (N := some 29) (v := ?_) (a' := ?_) #[true, true, true, true, true, true, true, false, false, false, false, false] rfl rfl (by kernel_rfl) (fun _ _ _ h => h) (Or.inl ⟨by rfl, ?_⟩) ?_ ?_
          rotate_left
          · intro w'
            go_simp
            with_reducible rfl
          rotate_left
          · simp only [Act.put, List.setIfInBounds_toArray, List.set_cons_zero, List.set_cons_succ, i64_w, i32_w]
            rfl
          refine pure_ (i := 7) (N := some 36) (v := ?_) (a' := ?_) #[true, true, true, true, true, true, true, true, false, false, false, false] rfl rfl (by kernel_rfl) (fun _ _ _ h => h) (Or.inl ⟨by rfl, ?_⟩) ?_ ?_
          rotate_left
          · intro w'
            go_simp
            with_reducible rfl
          rotate_left
          · simp only [Act.put, List.setIfInBounds_toArray, List.set_cons_zero, List.set_cons_succ, i64_w, i32_w]
            rfl
          refine pure_ (i := 8) (N := some 37) (v := ?_) (a' := ?_) #[true, true, true, true, true, true, true, true, true, false, false, false] rfl rfl (by kernel_rfl) (fun _ _ _ h => h) (Or.inl ⟨by rfl, ?_⟩) ?_ ?_
          rotate_left
          · intro w'
            go_simp
            with_reducible rfl
          rotate_left
          · simp only [Act.put, List.setIfInBounds_toArray, List.set_cons_zero, List.set_cons_succ, i64_w, i32_w]
            rfl
          refine one_ (i := 9) (N := some 8) #[true, true, true, true, true, true, true, true, true, true, false, false] rfl rfl (by kernel_rfl) (by decide) (fun K hK => ?_)
          refine box_step ?hg (N := 8) ?hd (cs := #[.int .i64 0, .slice none 0 0]) (t := 28) ?hr ?_; (case hd => rfl); (case hg => rfl); (case hr => first | (go_simp; done) | (go_simp; rfl))
          intro gb7 hg w8 hbox hb
          have GW_ : Aside0 (w4.heap.size ≤ gb7) := ⟨by rw [hg]; exact HBr.out.size⟩
          have Z8 : Aside0 (w7.heap.size ≤ w8.heap.size) := ⟨hb.size⟩
          have n0_ := Aside0.mk (Kd.R_below X1.out hb)
          have n1_ := Aside0.mk (Kd.R_below X2.out hb)
          have n2_ := Aside0.mk (Kd.R_below X3.out hb)
          have n3_ := Aside0.mk (blk_below BX1.out hb)
          have n4_ := Aside0.mk (blk_below BX2.out hb)
          have hb_ := Aside0.mk (below_then HB.out HB.out.size hb)
          clear X1 X2 X3 BX1 BX2
          have X1 := n0_
          have X2 := n1_
          have X3 := n2_
          have BX1 := n3_
          have BX2 := n4_
          clear n0_ n1_ n2_ n3_ n4_
          clear HB
          have HB := hb_
          clear hb_
          have hb_ := Aside0.mk (below_then HBr.out HBr.out.size hb)
          clear HBr
          have HBr := hb_
          clear hb_
          have BXz : Aside0 (w8.heap[gb7]? = some (.cells #[.int .i64 0, .slice none 0 0] 28 (0, 0))) := ⟨hbox⟩
          clear hg hb hbox
          refine hK.out _ _ ⟨BX1.out, BX2.out⟩ (fun hHeld => ?_)
          clear hK K
          refine norm_ (a' := ?_) ?_ ?_
          rotate_left
          · show Act.put _ (some 8) _ = _
            simp only [Act.put, List.setIfInBounds_toArray, List.set_cons_zero, List.set_cons_succ, i64_w, i32_w]
            rfl
          exact norm_ (by simp only [putAll, Act.put, List.setIfInBounds_toArray, List.set_cons_zero, List.set_cons_succ]) (hCont (.slice A1_ l1_1.length c1_, .slice A2_ l2_1.length c2_, .slice A3_ r4.length c3_, gb7) _ ⟨⟨BX1.out, BX2.out⟩, HBr.out, Kd.R_mono (Kd.R_bound X3.out) (fun k hk => ⟨by have := Z1.out; have := GBX1.out; have := GBX2.out; have := Z2.out; have := Z3.out; have := Z4.out; have := Z5.out; have := Z6.out; have := Z7.out; have := Z8.out; have h3_ := hk.1; (try dsimp only at h3_); omega, hk.2.2.1⟩), BXz.out, GW_.out⟩)
        · skip
          refine box_step ?hg (N := 8) ?hd (cs := #[.int .i64 0, .slice none 0 0]) (t := 28) ?hr ?_; (case hd => rfl); (case hg => rfl); (case hr => first | (go_simp; done) | (go_simp; rfl))
          intro gb8 hg w9 hbox hb
          have GW_ : Aside0 (w4.heap.size ≤ gb8) := ⟨by rw [hg]; exact HBr.out.size⟩
          have Z9 : Aside0 (w6.heap.size ≤ w9.heap.size) := ⟨hb.size⟩
          have n0_ := Aside0.mk (Kd.R_below X1.out hb)
          have n1_ := Aside0.mk (Kd.R_below X2.out hb)
          have n2_ := Aside0.mk (blk_below BX1.out hb)
          have n3_ := Aside0.mk (blk_below BX2.out hb)
          have hb_ := Aside0.mk (below_then HB.out HB.out.size hb)
          clear X1 X2 BX1 BX2
          have X1 := n0_
          have X2 := n1_
          have BX1 := n2_
          have BX2 := n3_
          clear n0_ n1_ n2_ n3_
          clear HB
          have HB := hb_
          clear hb_
          have hb_ := Aside0.mk (below_then HBr.out HBr.out.size hb)
          clear HBr
          have HBr := hb_
          clear hb_
          have BXz : Aside0 (w9.heap[gb8]? = some (.cells #[.int .i64 0, .slice none 0 0] 28 (0, 0))) := ⟨hbox⟩
          clear hg hb hbox
          refine hK.out _ _ ⟨BX1.out, BX2.out⟩ (fun hHeld => ?_)
          clear hK K
          refine norm_ (a' := ?_) ?_ ?_
          rotate_left
          · show Act.put _ (some 8) _ = _
            simp only [Act.put, List.setIfInBounds_toArray, List.set_cons_zero, List.set_cons_succ, i64_w, i32_w]
            rfl
          refine one_ (i := 5) (N := some 35) #[true, true, true, true, true, true, false, false, false, true, false, false] rfl rfl (by kernel_rfl) (by decide) (fun K hK => ?_)
          refine goes_ Try.func17 (by kernel_rfl) rfl #[.int .i64 a0, .agg #[.int .i64 a1_0, .slice A1_ l1_1.length c1_], .agg #[.int .i64 a2_0, .slice A2_ l2_1.length c2_]] (by rfl) rfl rfl (by (try simp only [List.map_toArray, List.map_cons, List.map_nil]); first | done | rfl) ?_
          (refine (spec_JoinAttr.calls K3 a0 a1_0 A1_ c1_ l1_1 a2_0 A2_ c2_ l2_1 r3 r4 r5 w9 (Kd.R_reads' X1.out).2.2 (Kd.R_reads' X1.out).2.1 (Kd.R_reads' X2.out).2.2 (Kd.R_reads' X2.out).2.1 H3.out).mono ?_)
          rintro e w10 ⟨v1_, rfl, hS0, hb⟩
          refine ⟨_, rfl, ?_⟩
          have X4 : Aside0 (Kd.R (Kd.int .i64) 3 w10 w.heap.size (fun k => w9.heap.size ≤ k ∧ k < w10.heap.size) v1_ r4) := ⟨Kd.R_mono (Kd.R_lower (Kd.R_bound hS0) HB.out.size) (fun k hk => ⟨hk.2.1, hk.2.2.1⟩)⟩
          have Z10 : Aside0 (w9.heap.size ≤ w10.heap.size) := ⟨hb.size⟩
          have n0_ := Aside0.mk (Kd.R_below X1.out hb)
          have n1_ := Aside0.mk (Kd.R_below X2.out hb)
          have n2_ := Aside0.mk (blk_below BX1.out hb)
          have n3_ := Aside0.mk (blk_below BX2.out hb)
          have n4_ := Aside0.mk (blk_below BXz.out hb)
          have hb_ := Aside0.mk (below_then HB.out HB.out.size hb)
          clear X1 X2 BX1 BX2 BXz
          have X1 := n0_
          have X2 := n1_
          have BX1 := n2_
          have BX2 := n3_
          have BXz := n4_
          clear n0_ n1_ n2_ n3_ n4_
          clear HB
          have HB := hb_
          clear hb_
          have hb_ := Aside0.mk (below_then HBr.out HBr.out.size hb)
          clear HBr
          have HBr := hb_
          clear hb_
          clear hb hS0
          obtain ⟨A4_, c4_, rfl⟩ := Kd.R_slice X4.out
          refine hK.out _ _ ⟨BX1.out, BX2.out⟩ (fun hHeld => ?_)
          clear hK K
          refine norm_ (a' := ?_) ?_ ?_
          rotate_left
          · show Act.put _ (some 35) _ = _
            simp only [Act.put, List.setIfInBounds_toArray, List.set_cons_zero, List.set_cons_succ, i64_w, i32_w]
            rfl
          refine pure_ (i := 6) (N := some 29) (v := ?_) (a' := ?_) #[true, true, true, true, true, true, true, false, false, true, false, false] rfl rfl (by kernel_rfl) (fun _ _ _ h => h) (Or.inl ⟨by rfl, ?_⟩) ?_ ?_
          rotate_left
          · intro w'
            go_simp
            with_reducible rfl
          rotate_left
          · simp only [Act.put, List.setIfInBounds_toArray, List.set_cons_zero, List.set_cons_succ, i64_w, i32_w]
            rfl
          refine pure_ (i := 7) (N := some 36) (v := ?_) (a' := ?_) #[true, true, true, true, true, true, true, true, false, true, false, false] rfl rfl (by kernel_rfl) (fun _ _ _ h => h) (Or.inl ⟨by rfl, ?_⟩) ?_ ?_
          rotate_left
          · intro w'
            go_simp
            with_reducible rfl
          rotate_left
          · simp only [Act.put, List.setIfInBounds_toArray, List.set_cons_zero, List.set_cons_succ, i64_w, i32_w]
            rfl
          refine pure_ (i := 8) (N := some 37) (v := ?_) (a' := ?_) #[true, true, true, true, true, true, true, true, true, true, false, false] rfl rfl (by kernel_rfl) (fun _ _ _ h => h) (Or.inl ⟨by rfl, ?_⟩) ?_ ?_
          rotate_left
          · intro w'
            go_simp
            with_reducible rfl
          rotate_left
          · simp only [Act.put, List.setIfInBounds_toArray, List.set_cons_zero, List.set_cons_succ, i64_w, i32_w]
            rfl
          exact norm_ (by simp only [putAll, Act.put, List.setIfInBounds_toArray, List.set_cons_zero, List.set_cons_succ]) (hCont (.slice A1_ l1_1.length c1_, .slice A2_ l2_1.length c2_, .slice A4_ r4.length c4_, gb8) _ ⟨⟨BX1.out, BX2.out⟩, HBr.out, Kd.R_mono (Kd.R_bound X4.out) (fun k hk => ⟨by have := Z1.out; have := GBX1.out; have := GBX2.out; have := Z2.out; have := Z3.out; have := Z4.out; have := Z5.out; have := Z6.out; have := Z9.out; have := Z10.out; have h3_ := hk.1; (try dsimp only at h3_); omega, hk.2.2.1⟩), BXz.out, GW_.out⟩)
      · skip
        refine box_step ?hg (N := 8) ?hd (cs := #[.int .i64 0, .slice none 0 0]) (t := 28) ?hr ?_; (case hd => rfl); (case hg => rfl); (case hr => first | (go_simp; done) | (go_simp; rfl))
        intro gb10 hg w11 hbox hb
        have GW_ : Aside0 (w4.heap.size ≤ gb10) := ⟨by rw [hg]; exact HBr.out.size⟩
        have Z11 : Aside0 (w5.heap.size ≤ w11.heap.size) := ⟨hb.size⟩
        have n0_ := Aside0.mk (Kd.R_below X1.out hb)
        have n1_ := Aside0.mk (blk_below BX1.out hb)
        have n2_ := Aside0.mk (blk_below BX2.out hb)
        have hb_ := Aside0.mk (below_then HB.out HB.out.size hb)
        clear X1 BX1 BX2
        have X1 := n0_
        have BX1 := n1_
        have BX2 := n2_
        clear n0_ n1_ n2_
        clear HB
        have HB := hb_
        clear hb_
        have hb_ := Aside0.mk (below_then HBr.out HBr.out.size hb)
        clear HBr
        have HBr := hb_
        clear hb_
        have BXz : Aside0 (w11.heap[gb10]? = some (.cells #[.int .i64 0, .slice none 0 0] 28 (0, 0))) := ⟨hbox⟩
        clear hg hb hbox
        refine hK.out _ _ ⟨BX1.out, BX2.out⟩ (fun hHeld => ?_)
        clear hK K
        refine norm_ (a' := ?_) ?_ ?_
        rotate_left
        · show Act.put _ (some 8) _ = _
          simp only [Act.put, List.setIfInBounds_toArray, List.set_cons_zero, List.set_cons_succ, i64_w, i32_w]
          rfl
        refine one_ (i := 4) (N := some 34) #[true, true, true, true, true, false, false, false, false, true, false, false] rfl rfl (by kernel_rfl) (by decide) (fun K hK => ?_)
        refine goes_ Try.func14 (by kernel_rfl) rfl #[.agg #[.int .i64 a2_0, .slice A2_1 l2_1.length c2_1]] (by rfl) rfl rfl (by (try simp only [List.map_toArray, List.map_cons, List.map_nil]); first | done | rfl) ?_
        (refine (laws_toAttr.calls K2 a2_0 A2_1 c2_1 l2_1 a2_0 l2_1 w11 (Kd.C_below HR2_1.out HB.out) HC2_1.out H2.out).mono ?_)
        rintro e w12 ⟨v1_, rfl, hS0, hb⟩
        refine ⟨_, rfl, ?_⟩
        have X5 : Aside0 (Kd.R (Kd.int .i64) 3 w12 w.heap.size (fun k => w11.heap.size ≤ k ∧ k < w12.heap.size) v1_ l2_1) := ⟨Kd.R_mono (Kd.R_lower (Kd.R_bound hS0) HB.out.size) (fun k hk => ⟨hk.2.1, hk.2.2.1⟩)⟩
        have Z12 : Aside0 (w11.heap.size ≤ w12.heap.size) := ⟨hb.size⟩
        have n0_ := Aside0.mk (Kd.R_below X1.out hb)
        have n1_ := Aside0.mk (blk_below BX1.out hb)
        have n2_ := Aside0.mk (blk_below BX2.out hb)
        have n3_ := Aside0.mk (blk_below BXz.out hb)
        have hb_ := Aside0.mk (below_then HB.out HB.out.size hb)
        clear X1 BX1 BX2 BXz
        have X1 := n0_
        have BX1 := n1_
        have BX2 := n2_
        have BXz := n3_
        clear n0_ n1_ n2_ n3_
        clear HB
        have HB := hb_
        clear hb_
        have hb_ := Aside0.mk (below_then HBr.out HBr.out.size hb)
        clear HBr
        have HBr := hb_
        clear hb_
        clear hb hS0
        obtain ⟨A5_, c5_, rfl⟩ := Kd.R_slice X5.out
        refine hK.out _ _ ⟨BX1.out, BX2.out⟩ (fun hHeld => ?_)
        clear hK K
        refine norm_ (a' := ?_) ?_ ?_
        rotate_left
        · show Act.put _ (some 34) _ = _
          simp only [Act.put, List.setIfInBounds_toArray, List.set_cons_zero, List.set_cons_succ, i64_w, i32_w]
          rfl
        refine one_ (i := 5) (N := some 35) #[true, true, true, true, true, true, false, false, false, true, false, false] rfl rfl (by kernel_rfl) (by decide) (fun K hK => ?_)
        refine goes_ Try.func17 (by kernel_rfl) rfl #[.int .i64 a0, .agg #[.int .i64 a1_0, .slice A1_ l1_1.length c1_], .agg #[.int .i64 a2_0, .slice A5_ l2_1.length c5_]] (by rfl) rfl rfl (by (try simp only [List.map_toArray, List.map_cons, List.map_nil]); first | done | rfl) ?_
        (refine (spec_JoinAttr.calls K3 a0 a1_0 A1_ c1_ l1_1 a2_0 A5_ c5_ l2_1 r3 r4 r5 w12 (Kd.R_reads' X1.out).2.2 (Kd.R_reads' X1.out).2.1 (Kd.R_reads' X5.out).2.2 (Kd.R_reads' X5.out).2.1 H3.out).mono ?_)
        rintro e w13 ⟨v1_, rfl, hS0, hb⟩
        refine ⟨_, rfl, ?_⟩
        have X6 : Aside0 (Kd.R (Kd.int .i64) 3 w13 w.heap.size (fun k => w12.heap.size ≤ k ∧ k < w13.heap.size) v1_ r4) := ⟨Kd.R_mono (Kd.R_lower (Kd.R_bound hS0) HB.out.size) (fun k hk => ⟨hk.2.1, hk.2.2.1⟩)⟩
        have Z13 : Aside0 (w12.heap.size ≤ w13.heap.size) := ⟨hb.size⟩
        have n0_ := Aside0.mk (Kd.R_below X1.out hb)
        have n1_ := Aside0.mk (Kd.R_below X5.out hb)
        have n2_ := Aside0.mk (blk_below BX1.out hb)
        have n3_ := Aside0.mk (blk_below BX2.out hb)
        have n4_ := Aside0.mk (blk_below BXz.out hb)
        have hb_ := Aside0.mk (below_then HB.out HB.out.size hb)
        clear X1 X5 BX1 BX2 BXz
        have X1 := n0_
        have X5 := n1_
        have BX1 := n2_
        have BX2 := n3_
        have BXz := n4_
        clear n0_ n1_ n2_ n3_ n4_
        clear HB
        have HB := hb_
        clear hb_
        have hb_ := Aside0.mk (below_then HBr.out HBr.out.size hb)
        clear HBr
        have HBr := hb_
        clear hb_
        clear hb hS0
        obtain ⟨A6_, c6_, rfl⟩ := Kd.R_slice X6.out
        refine hK.out _ _ ⟨BX1.out, BX2.out⟩ (fun hHeld => ?_)
        clear hK K
        refine norm_ (a' := ?_) ?_ ?_
        rotate_left
        · show Act.put _ (some 35) _ = _
          simp only [Act.put, List.setIfInBounds_toArray, List.set_cons_zero, List.set_cons_succ, i64_w, i32_w]
          rfl
        refine pure_ (i := 6) (N := some 29) (v := ?_) (a' := ?_) #[true, true, true, true, true, true, true, false, false, true, false, false] rfl rfl (by kernel_rfl) (fun _ _ _ h => h) (Or.inl ⟨by rfl, ?_⟩) ?_ ?_
        rotate_left
        · intro w'
          go_simp
          with_reducible rfl
        rotate_left
        · simp only [Act.put, List.setIfInBounds_toArray, List.set_cons_zero, List.set_cons_succ, i64_w, i32_w]
          rfl
        refine pure_ (i := 7) (N := some 36) (v := ?_) (a' := ?_) #[true, true, true, true, true, true, true, true, false, true, false, false] rfl rfl (by kernel_rfl) (fun _ _ _ h => h) (Or.inl ⟨by rfl, ?_⟩) ?_ ?_
        rotate_left
        · intro w'
          go_simp
          with_reducible rfl
        rotate_left
        · simp only [Act.put, List.setIfInBounds_toArray, List.set_cons_zero, List.set_cons_succ, i64_w, i32_w]
          rfl
        refine pure_ (i := 8) (N := some 37) (v := ?_) (a' := ?_) #[true, true, true, true, true, true, true, true, true, true, false, false] rfl rfl (by kernel_rfl) (fun _ _ _ h => h) (Or.inl ⟨by rfl, ?_⟩) ?_ ?_
        rotate_left
        · intro w'
          go_simp
          with_reducible rfl
        rotate_left
        · simp only [Act.put, List.setIfInBounds_toArray, List.set_cons_zero, List.set_cons_succ, i64_w, i32_w]
          rfl
        exact norm_ (by simp only [putAll, Act.put, List.setIfInBounds_toArray, List.set_cons_zero, List.set_cons_succ]) (hCont (.slice A1_ l1_1.length c1_, .slice A5_ l2_1.length c5_, .slice A6_ r4.length c6_, gb10) _ ⟨⟨BX1.out, BX2.out⟩, HBr.out, Kd.R_mono (Kd.R_bound X6.out) (fun k hk => ⟨by have := Z1.out; have := GBX1.out; have := GBX2.out; have := Z2.out; have := Z3.out; have := Z4.out; have := Z5.out; have := Z11.out; have := Z12.out; have := Z13.out; have h3_ := hk.1; (try dsimp only at h3_); omega, hk.2.2.1⟩), BXz.out, GW_.out⟩)
    · skip
      refine box_step ?hg (N := 8) ?hd (cs := #[.int .i64 0, .slice none 0 0]) (t := 28) ?hr ?_; (case hd => rfl); (case hg => rfl); (case hr => first | (go_simp; done) | (go_simp; rfl))
      intro gb13 hg w14 hbox hb
      have GW_ : Aside0 (w4.heap.size ≤ gb13) := ⟨by rw [hg]; exact HBr.out.size⟩
      have Z14 : Aside0 (w4.heap.size ≤ w14.heap.size) := ⟨hb.size⟩
      have n0_ := Aside0.mk (blk_below BX1.out hb)
      have n1_ := Aside0.mk (blk_below BX2.out hb)
      have hb_ := Aside0.mk (below_then HB.out HB.out.size hb)
      clear BX1 BX2
      have BX1 := n0_
      have BX2 := n1_
      clear n0_ n1_
      clear HB
      have HB := hb_
      clear hb_
      have hb_ := Aside0.mk (below_then HBr.out HBr.out.size hb)
      clear HBr
      have HBr := hb_
      clear hb_
      have BXz : Aside0 (w14.heap[gb13]? = some (.cells #[.int .i64 0, .slice none 0 0] 28 (0, 0))) := ⟨hbox⟩
      clear hg hb hbox
      refine hK.out _ _ ⟨BX1.out, BX2.out⟩ (fun hHeld => ?_)
      clear hK K
      refine norm_ (a' := ?_) ?_ ?_
      rotate_left
      · show Act.put _ (some 8) _ = _
        simp only [Act.put, List.setIfInBounds_toArray, List.set_cons_zero, List.set_cons_succ, i64_w, i32_w]
        rfl
      refine one_ (i := 2) (N := some 32) #[true, true, true, true, false, false, false, false, false, true, false, false] rfl rfl (by kernel_rfl) (by decide) (fun K hK => ?_)
      refine goes_ Try.func14 (by kernel_rfl) rfl #[.agg #[.int .i64 a1_0, .slice A1_1 l1_1.length c1_1]] (by rfl) rfl rfl (by (try simp only [List.map_toArray, List.map_cons, List.map_nil]); first | done | rfl) ?_
      (refine (laws_toAttr.calls K1 a1_0 A1_1 c1_1 l1_1 a1_0 l1_1 w14 (Kd.C_below HR1_1.out HB.out) HC1_1.out H1.out).mono ?_)
      rintro e w15 ⟨v1_, rfl, hS0, hb⟩
      refine ⟨_, rfl, ?_⟩
      have X7 : Aside0 (Kd.R (Kd.int .i64) 3 w15 w.heap.size (fun k => w14.heap.size ≤ k ∧ k < w15.heap.size) v1_ l1_1) := ⟨Kd.R_mono (Kd.R_lower (Kd.R_bound hS0) HB.out.size) (fun k hk => ⟨hk.2.1, hk.2.2.1⟩)⟩
      have Z15 : Aside0 (w14.heap.size ≤ w15.heap.size) := ⟨hb.size⟩
      have n0_ := Aside0.mk (blk_below BX1.out hb)
      have n1_ := Aside0.mk (blk_below BX2.out hb)
      have n2_ := Aside0.mk (blk_below BXz.out hb)
      have hb_ := Aside0.mk (below_then HB.out HB.out.size hb)
      clear BX1 BX2 BXz
      have BX1 := n0_
      have BX2 := n1_
      have BXz := n2_
      clear n0_ n1_ n2_
      clear HB
      have HB := hb_
      clear hb_
      have hb_ := Aside0.mk (below_then HBr.out HBr.out.size hb)
      clear HBr
      have HBr := hb_
      clear hb_
      clear hb hS0
      obtain ⟨A7_, c7_, rfl⟩ := Kd.R_slice X7.out
      refine hK.out _ _ ⟨BX1.out, BX2.out⟩ (fun hHeld => ?_)
      clear hK K
      refine norm_ (a' := ?_) ?_ ?_
      rotate_left
      · show Act.put _ (some 32) _ = _
        simp only [Act.put, List.setIfInBounds_toArray, List.set_cons_zero, List.set_cons_succ, i64_w, i32_w]
        rfl
      refine one_ (i := 4) (N := some 34) #[true, true, true, true, true, false, false, false, false, true, false, false] rfl rfl (by kernel_rfl) (by decide) (fun K hK => ?_)
      refine goes_ Try.func14 (by kernel_rfl) rfl #[.agg #[.int .i64 a2_0, .slice A2_1 l2_1.length c2_1]] (by rfl) rfl rfl (by (try simp only [List.map_toArray, List.map_cons, List.map_nil]); first | done | rfl) ?_
      (refine (laws_toAttr.calls K2 a2_0 A2_1 c2_1 l2_1 a2_0 l2_1 w15 (Kd.C_below HR2_1.out HB.out) HC2_1.out H2.out).mono ?_)
      rintro e w16 ⟨v1_, rfl, hS0, hb⟩
      refine ⟨_, rfl, ?_⟩
      have X8 : Aside0 (Kd.R (Kd.int .i64) 3 w16 w.heap.size (fun k => w15.heap.size ≤ k ∧ k < w16.heap.size) v1_ l2_1) := ⟨Kd.R_mono (Kd.R_lower (Kd.R_bound hS0) HB.out.size) (fun k hk => ⟨hk.2.1, hk.2.2.1⟩)⟩
      have Z16 : Aside0 (w15.heap.size ≤ w16.heap.size) := ⟨hb.size⟩
      have n0_ := Aside0.mk (Kd.R_below X7.out hb)
      have n1_ := Aside0.mk (blk_below BX1.out hb)
      have n2_ := Aside0.mk (blk_below BX2.out hb)
      have n3_ := Aside0.mk (blk_below BXz.out hb)
      have hb_ := Aside0.mk (below_then HB.out HB.out.size hb)
      clear X7 BX1 BX2 BXz
      have X7 := n0_
      have BX1 := n1_
      have BX2 := n2_
      have BXz := n3_
      clear n0_ n1_ n2_ n3_
      clear HB
      have HB := hb_
      clear hb_
      have hb_ := Aside0.mk (below_then HBr.out HBr.out.size hb)
      clear HBr
      have HBr := hb_
      clear hb_
      clear hb hS0
      obtain ⟨A8_, c8_, rfl⟩ := Kd.R_slice X8.out
      refine hK.out _ _ ⟨BX1.out, BX2.out⟩ (fun hHeld => ?_)
      clear hK K
      refine norm_ (a' := ?_) ?_ ?_
      rotate_left
      · show Act.put _ (some 34) _ = _
        simp only [Act.put, List.setIfInBounds_toArray, List.set_cons_zero, List.set_cons_succ, i64_w, i32_w]
        rfl
      refine one_ (i := 5) (N := some 35) #[true, true, true, true, true, true, false, false, false, true, false, false] rfl rfl (by kernel_rfl) (by decide) (fun K hK => ?_)
      refine goes_ Try.func17 (by kernel_rfl) rfl #[.int .i64 a0, .agg #[.int .i64 a1_0, .slice A7_ l1_1.length c7_], .agg #[.int .i64 a2_0, .slice A8_ l2_1.length c8_]] (by rfl) rfl rfl (by (try simp only [List.map_toArray, List.map_cons, List.map_nil]); first | done | rfl) ?_
      (refine (spec_JoinAttr.calls K3 a0 a1_0 A7_ c7_ l1_1 a2_0 A8_ c8_ l2_1 r3 r4 r5 w16 (Kd.R_reads' X7.out).2.2 (Kd.R_reads' X7.out).2.1 (Kd.R_reads' X8.out).2.2 (Kd.R_reads' X8.out).2.1 H3.out).mono ?_)
      rintro e w17 ⟨v1_, rfl, hS0, hb⟩
      refine ⟨_, rfl, ?_⟩
      have X9 : Aside0 (Kd.R (Kd.int .i64) 3 w17 w.heap.size (fun k => w16.heap.size ≤ k ∧ k < w17.heap.size) v1_ r4) := ⟨Kd.R_mono (Kd.R_lower (Kd.R_bound hS0) HB.out.size) (fun k hk => ⟨hk.2.1, hk.2.2.1⟩)⟩
      have Z17 : Aside0 (w16.heap.size ≤ w17.heap.size) := ⟨hb.size⟩
      have n0_ := Aside0.mk (Kd.R_below X7.out hb)
      have n1_ := Aside0.mk (Kd.R_below X8.out hb)
      have n2_ := Aside0.mk (blk_below BX1.out hb)
      have n3_ := Aside0.mk (blk_below BX2.out hb)
      have n4_ := Aside0.mk (blk_below BXz.out hb)
      have hb_ := Aside0.mk (below_then HB.out HB.out.size hb)
      clear X7 X8 BX1 BX2 BXz
      have X7 := n0_
      have X8 := n1_
      have BX1 := n2_
      have BX2 := n3_
      have BXz := n4_
      clear n0_ n1_ n2_ n3_ n4_
      clear HB
      have HB := hb_
      clear hb_
      have hb_ := Aside0.mk (below_then HBr.out HBr.out.size hb)
      clear HBr
      have HBr := hb_
      clear hb_
      clear hb hS0
      obtain ⟨A9_, c9_, rfl⟩ := Kd.R_slice X9.out
      refine hK.out _ _ ⟨BX1.out, BX2.out⟩ (fun hHeld => ?_)
      clear hK K
      refine norm_ (a' := ?_) ?_ ?_
      rotate_left
      · show Act.put _ (some 35) _ = _
        simp only [Act.put, List.setIfInBounds_toArray, List.set_cons_zero, List.set_cons_succ, i64_w, i32_w]
        rfl
      refine pure_ (i := 6) (N := some 29) (v := ?_) (a' := ?_) #[true, true, true, true, true, true, true, false, false, true, false, false] rfl rfl (by kernel_rfl) (fun _ _ _ h => h) (Or.inl ⟨by rfl, ?_⟩) ?_ ?_
      rotate_left
      · intro w'
        go_simp
        with_reducible rfl
      rotate_left
      · simp only [Act.put, List.setIfInBounds_toArray, List.set_cons_zero, List.set_cons_succ, i64_w, i32_w]
        rfl
      refine pure_ (i := 7) (N := some 36) (v := ?_) (a' := ?_) #[true, true, true, true, true, true, true, true, false, true, false, false] rfl rfl (by kernel_rfl) (fun _ _ _ h => h) (Or.inl ⟨by rfl, ?_⟩) ?_ ?_
      rotate_left
      · intro w'
        go_simp
        with_reducible rfl
      rotate_left
      · simp only [Act.put, List.setIfInBounds_toArray, List.set_cons_zero, List.set_cons_succ, i64_w, i32_w]
        rfl
      refine pure_ (i := 8) (N := some 37) (v := ?_) (a' := ?_) #[true, true, true, true, true, true, true, true, true, true, false, false] rfl rfl (by kernel_rfl) (fun _ _ _ h => h) (Or.inl ⟨by rfl, ?_⟩) ?_ ?_
      rotate_left
      · intro w'
        go_simp
        with_reducible rfl
      rotate_left
      · simp only [Act.put, List.setIfInBounds_toArray, List.set_cons_zero, List.set_cons_succ, i64_w, i32_w]
        rfl
      exact norm_ (by simp only [putAll, Act.put, List.setIfInBounds_toArray, List.set_cons_zero, List.set_cons_succ]) (hCont (.slice A7_ l1_1.length c7_, .slice A8_ l2_1.length c8_, .slice A9_ r4.length c9_, gb13) _ ⟨⟨BX1.out, BX2.out⟩, HBr.out, Kd.R_mono (Kd.R_bound X9.out) (fun k hk => ⟨by have := Z1.out; have := GBX1.out; have := GBX2.out; have := Z2.out; have := Z3.out; have := Z4.out; have := Z14.out; have := Z15.out; have := Z16.out; have := Z17.out; have h3_ := hk.1; (try dsimp only at h3_); omega, hk.2.2.1⟩), BXz.out, GW_.out⟩)
  clear HBr
  rintro ⟨v17_0, v17_1, v17_2, gb17⟩ w18 ⟨hHeld, hb, hS0, hbox, hge⟩
  have Z18 : Aside0 (w4.heap.size ≤ w18.heap.size) := ⟨hb.size⟩
  have n0_ := Aside0.mk (blk_below BX1.out hb)
  have n1_ := Aside0.mk (blk_below BX2.out hb)
  have hb_ := Aside0.mk (below_then HB.out HB.out.size hb)
  clear BX1 BX2
  have BX1 := n0_
  have BX2 := n1_
  clear n0_ n1_
  clear HB
  have HB := hb_
  clear hb_
  clear hb
  have X10 : Aside0 (Kd.R (Kd.int .i64) 3 w18 w.heap.size (fun k => w4.heap.size ≤ k ∧ k < w18.heap.size) v17_2 r4) := ⟨hS0⟩
  obtain ⟨A10_, c10_, rfl⟩ := Kd.R_slice X10.out
  clear hS0
  have GEBX3 : Aside0 (w4.heap.size ≤ gb17) := ⟨hge⟩
  have BX3 := Aside0.mk hbox
  clear hge hbox
  have GLBX3 : Aside0 (gb17 < w18.heap.size) := ⟨blk_lt BX3.out⟩
  refine norm_ (a' := ?_) ?_ ?_
  rotate_left
  · simp only [putAll, Act.put, List.setIfInBounds_toArray, List.set_cons_zero, List.set_cons_succ]
    rfl
  refine one_ (i := 10) (N := none) #[true, true, true, true, true, true, true, true, true, true, true, false] rfl rfl (by kernel_rfl) (by decide) (fun K hK => ?_)
  refine skip_ (by rfl) rfl (store_run (cs' := #[.int .i64 r3, .slice A10_ r4.length c10_]) BX3.out 2 rfl rfl 28 _ _ (by rfl) (by rfl) (by rfl) (by kernel_rfl) (by first | (simp [Value.oneCell']; done) | kernel_rfl)) ?_
  have hk := kept_setRow w18 gb17 #[.int .i64 r3, .slice A10_ r4.length c10_]
  have hbx := setRow_heap w18 gb17 _ #[.int .i64 r3, .slice A10_ r4.length c10_] _ _ BX3.out
  have hb := below_setRow_ HB.out (g := gb17) (by have h3_ := GEBX3.out; have := Z1.out; have := GBX1.out; have := GBX2.out; have := Z2.out; have := Z3.out; have := Z4.out; have := Z18.out; have := GEBX3.out; have := GLBX3.out; omega) #[.int .i64 r3, .slice A10_ r4.length c10_]
  generalize w18.setRow gb17 #[.int .i64 r3, .slice A10_ r4.length c10_] = w19 at hk hbx hb ⊢
  have Z19 : Aside0 (w18.heap.size ≤ w19.heap.size) := ⟨hk.1⟩
  have n0_ := Aside0.mk (Kd.R_mono (Kd.R_kept (Kd.R_types X10.out BX3.out (by decide)) hk (fun k h1_ h2_ => h1_.2 h2_)) (fun k h1_ => h1_.1))
  have n1_ := Aside0.mk (blk_kept BX1.out hk (fun h1_ => by have := Z1.out; have := GBX1.out; have := GBX2.out; have := Z2.out; have := Z3.out; have := Z4.out; have := Z18.out; have := GEBX3.out; have := GLBX3.out; (try dsimp only at h1_); omega))
  have n2_ := Aside0.mk (blk_kept BX2.out hk (fun h1_ => by have := Z1.out; have := GBX1.out; have := GBX2.out; have := Z2.out; have := Z3.out; have := Z4.out; have := Z18.out; have := GEBX3.out; have := GLBX3.out; (try dsimp only at h1_); omega))
  have n3_ := Aside0.mk (hb)
  clear X10 BX1 BX2 HB BX3
  have X10 := n0_
  have BX1 := n1_
  have BX2 := n2_
  have HB := n3_
  clear n0_ n1_ n2_ n3_
  have BX3 : Aside0 (w19.heap[gb17]? = some (.cells #[.int .i64 r3, .slice A10_ r4.length c10_] 28 (0, 0))) := ⟨hbx⟩
  clear hbx hb hk
  refine hK.out _ _ ⟨BX1.out, BX2.out⟩ (fun hHeld => ?_)
  clear hK K
  refine pure_ (i := 11) (N := some 9) (v := ?_) (a' := ?_) #[true, true, true, true, true, true, true, true, true, true, true, true] rfl rfl (by kernel_rfl) (fun _ _ _ h => h) (Or.inl ⟨by rfl, ?_⟩) ?_ ?_
  rotate_left
  · intro w'
    go_simp
    with_reducible rfl
  rotate_left
  · simp only [Act.put, List.setIfInBounds_toArray, List.set_cons_zero, List.set_cons_succ, i64_w, i32_w]
    rfl
  refine done_ (by kernel_rfl) ?_
  go_wp2_with (first | ((with_reducible refine gate_dst (N := 19) rfl ?_); first | refine Kd.event_run rfl (load_run BX1.out 2 rfl 24 _ (by rfl) (by rfl) _ Try.underlying24 rfl (by kernel_rfl)) ?_) | ((with_reducible refine gate_dst (N := 24) rfl ?_); first | refine Kd.event_run rfl (load_run BX1.out 2 rfl 24 _ (by rfl) (by rfl) _ Try.underlying24 rfl (by kernel_rfl)) ?_) | ((with_reducible refine gate_dst (N := 31) rfl ?_); first | refine Kd.event_run rfl (load_run BX1.out 2 rfl 24 _ (by rfl) (by rfl) _ Try.underlying24 rfl (by kernel_rfl)) ?_) | ((with_reducible refine gate_dst (N := 33) rfl ?_); first | refine Kd.event_run rfl (load_run BX1.out 2 rfl 24 _ (by rfl) (by rfl) _ Try.underlying24 rfl (by kernel_rfl)) ?_) | ((with_reducible refine gate_dst (N := 38) rfl ?_); first | refine Kd.event_run rfl (load_run BX1.out 2 rfl 24 _ (by rfl) (by rfl) _ Try.underlying24 rfl (by kernel_rfl)) ?_) | ((with_reducible refine gate_dst (N := 40) rfl ?_); first | refine Kd.event_run rfl (load_run BX1.out 2 rfl 24 _ (by rfl) (by rfl) _ Try.underlying24 rfl (by kernel_rfl)) ?_) | ((with_reducible refine gate_dst (N := 44) rfl ?_); first | refine Kd.event_run rfl (load_run BX1.out 2 rfl 24 _ (by rfl) (by rfl) _ Try.underlying24 rfl (by kernel_rfl)) ?_) | ((with_reducible refine gate_dst (N := 45) rfl ?_); first | refine Kd.event_run rfl (load_run BX1.out 2 rfl 24 _ (by rfl) (by rfl) _ Try.underlying24 rfl (by kernel_rfl)) ?_) | ((with_reducible refine gate_dst (N := 49) rfl ?_); first | refine Kd.event_run rfl (load_run BX1.out 2 rfl 24 _ (by rfl) (by rfl) _ Try.underlying24 rfl (by kernel_rfl)) ?_) | ((with_reducible refine gate_dst (N := 50) rfl ?_); first | refine Kd.event_run rfl (load_run BX1.out 2 rfl 24 _ (by rfl) (by rfl) _ Try.underlying24 rfl (by kernel_rfl)) ?_) | ((with_reducible refine gate_dst (N := 58) rfl ?_); first | refine Kd.event_run rfl (load_run BX1.out 2 rfl 24 _ (by rfl) (by rfl) _ Try.underlying24 rfl (by kernel_rfl)) ?_) | ((with_reducible refine gate_dst (N := 59) rfl ?_); first | refine Kd.event_run rfl (load_run BX1.out 2 rfl 24 _ (by rfl) (by rfl) _ Try.underlying24 rfl (by kernel_rfl)) ?_) | ((with_reducible refine gate_dst (N := 63) rfl ?_); first | refine Kd.event_run rfl (load_run BX1.out 2 rfl 24 _ (by rfl) (by rfl) _ Try.underlying24 rfl (by kernel_rfl)) ?_) | ((with_reducible refine gate_dst (N := 64) rfl ?_); first | refine Kd.event_run rfl (load_run BX1.out 2 rfl 24 _ (by rfl) (by rfl) _ Try.underlying24 rfl (by kernel_rfl)) ?_) | ((with_reducible refine gate_dst (N := 68) rfl ?_); first | refine Kd.event_run rfl (load_run BX1.out 2 rfl 24 _ (by rfl) (by rfl) _ Try.underlying24 rfl (by kernel_rfl)) ?_) | ((with_reducible refine gate_dst (N := 71) rfl ?_); first | refine Kd.event_run rfl (load_run BX1.out 2 rfl 24 _ (by rfl) (by rfl) _ Try.underlying24 rfl (by kernel_rfl)) ?_) | ((with_reducible refine gate_dst (N := 77) rfl ?_); first | refine Kd.event_run rfl (load_run BX1.out 2 rfl 24 _ (by rfl) (by rfl) _ Try.underlying24 rfl (by kernel_rfl)) ?_) | ((with_reducible refine gate_dst (N := 78) rfl ?_); first | refine Kd.event_run rfl (load_run BX1.out 2 rfl 24 _ (by rfl) (by rfl) _ Try.underlying24 rfl (by kernel_rfl)) ?_) | ((with_reducible refine gate_dst (N := 87) rfl ?_); first | refine Kd.event_run rfl (load_run BX1.out 2 rfl 24 _ (by rfl) (by rfl) _ Try.underlying24 rfl (by kernel_rfl)) ?_) | ((with_reducible refine gate_dst (N := 90) rfl ?_); first | refine Kd.event_run rfl (load_run BX1.out 2 rfl 24 _ (by rfl) (by rfl) _ Try.underlying24 rfl (by kernel_rfl)) ?_) | ((with_reducible refine gate_dst (N := 100) rfl ?_); first | refine Kd.event_run rfl (load_run BX1.out 2 rfl 24 _ (by rfl) (by rfl) _ Try.underlying24 rfl (by kernel_rfl)) ?_) | ((with_reducible refine gate_dst (N := 102) rfl ?_); first | refine Kd.event_run rfl (load_run BX1.out 2 rfl 24 _ (by rfl) (by rfl) _ Try.underlying24 rfl (by kernel_rfl)) ?_) | ((with_reducible refine gate_dst (N := 107) rfl ?_); first | refine Kd.event_run rfl (load_run BX1.out 2 rfl 24 _ (by rfl) (by rfl) _ Try.underlying24 rfl (by kernel_rfl)) ?_) | ((with_reducible refine gate_dst (N := 108) rfl ?_); first | refine Kd.event_run rfl (load_run BX1.out 2 rfl 24 _ (by rfl) (by rfl) _ Try.underlying24 rfl (by kernel_rfl)) ?_) | ((with_reducible refine gate_dst (N := 116) rfl ?_); first | refine Kd.event_run rfl (load_run BX1.out 2 rfl 24 _ (by rfl) (by rfl) _ Try.underlying24 rfl (by kernel_rfl)) ?_))
  (refine (laws_toAttr.calls K1 a1_0 A1_1 c1_1 l1_1 a1_0 l1_1 w19 (Kd.C_below HR1_1.out HB.out) HC1_1.out H1.out).mono ?_)
  rintro e w20 ⟨v1_, rfl, hS0, hb⟩
  have X11 : Aside0 (Kd.R (Kd.int .i64) 3 w20 w.heap.size (fun k => w19.heap.size ≤ k ∧ k < w20.heap.size) v1_ l1_1) := ⟨Kd.R_mono (Kd.R_lower (Kd.R_bound hS0) HB.out.size) (fun k hk => ⟨hk.2.1, hk.2.2.1⟩)⟩
  have Z20 : Aside0 (w19.heap.size ≤ w20.heap.size) := ⟨hb.size⟩
  have n0_ := Aside0.mk (Kd.R_below X10.out hb)
  have n1_ := Aside0.mk (blk_below BX1.out hb)
  have n2_ := Aside0.mk (blk_below BX2.out hb)
  have n3_ := Aside0.mk (blk_below BX3.out hb)
  have hb_ := Aside0.mk (below_then HB.out HB.out.size hb)
  clear X10 BX1 BX2 BX3
  have X10 := n0_
  have BX1 := n1_
  have BX2 := n2_
  have BX3 := n3_
  clear n0_ n1_ n2_ n3_
  clear HB
  have HB := hb_
  clear hb_
  clear hb hS0
  obtain ⟨A11_, c11_, rfl⟩ := Kd.R_slice X11.out
  go_upto_region 10 with (first | ((with_reducible refine gate_dst (N := 19) rfl ?_); first | refine Kd.event_run rfl (load_run BX2.out 2 rfl 24 _ (by rfl) (by rfl) _ Try.underlying24 rfl (by kernel_rfl)) ?_) | ((with_reducible refine gate_dst (N := 24) rfl ?_); first | refine Kd.event_run rfl (load_run BX2.out 2 rfl 24 _ (by rfl) (by rfl) _ Try.underlying24 rfl (by kernel_rfl)) ?_) | ((with_reducible refine gate_dst (N := 31) rfl ?_); first | refine Kd.event_run rfl (load_run BX2.out 2 rfl 24 _ (by rfl) (by rfl) _ Try.underlying24 rfl (by kernel_rfl)) ?_) | ((with_reducible refine gate_dst (N := 33) rfl ?_); first | refine Kd.event_run rfl (load_run BX2.out 2 rfl 24 _ (by rfl) (by rfl) _ Try.underlying24 rfl (by kernel_rfl)) ?_) | ((with_reducible refine gate_dst (N := 38) rfl ?_); first | refine Kd.event_run rfl (load_run BX2.out 2 rfl 24 _ (by rfl) (by rfl) _ Try.underlying24 rfl (by kernel_rfl)) ?_) | ((with_reducible refine gate_dst (N := 40) rfl ?_); first | refine Kd.event_run rfl (load_run BX2.out 2 rfl 24 _ (by rfl) (by rfl) _ Try.underlying24 rfl (by kernel_rfl)) ?_) | ((with_reducible refine gate_dst (N := 44) rfl ?_); first | refine Kd.event_run rfl (load_run BX2.out 2 rfl 24 _ (by rfl) (by rfl) _ Try.underlying24 rfl (by kernel_rfl)) ?_) | ((with_reducible refine gate_dst (N := 45) rfl ?_); first | refine Kd.event_run rfl (load_run BX2.out 2 rfl 24 _ (by rfl) (by rfl) _ Try.underlying24 rfl (by kernel_rfl)) ?_) | ((with_reducible refine gate_dst (N := 49) rfl ?_); first | refine Kd.event_run rfl (load_run BX2.out 2 rfl 24 _ (by rfl) (by rfl) _ Try.underlying24 rfl (by kernel_rfl)) ?_) | ((with_reducible refine gate_dst (N := 50) rfl ?_); first | refine Kd.event_run rfl (load_run BX2.out 2 rfl 24 _ (by rfl) (by rfl) _ Try.underlying24 rfl (by kernel_rfl)) ?_) | ((with_reducible refine gate_dst (N := 58) rfl ?_); first | refine Kd.event_run rfl (load_run BX2.out 2 rfl 24 _ (by rfl) (by rfl) _ Try.underlying24 rfl (by kernel_rfl)) ?_) | ((with_reducible refine gate_dst (N := 59) rfl ?_); first | refine Kd.event_run rfl (load_run BX2.out 2 rfl 24 _ (by rfl) (by rfl) _ Try.underlying24 rfl (by kernel_rfl)) ?_) | ((with_reducible refine gate_dst (N := 63) rfl ?_); first | refine Kd.event_run rfl (load_run BX2.out 2 rfl 24 _ (by rfl) (by rfl) _ Try.underlying24 rfl (by kernel_rfl)) ?_) | ((with_reducible refine gate_dst (N := 64) rfl ?_); first | refine Kd.event_run rfl (load_run BX2.out 2 rfl 24 _ (by rfl) (by rfl) _ Try.underlying24 rfl (by kernel_rfl)) ?_) | ((with_reducible refine gate_dst (N := 68) rfl ?_); first | refine Kd.event_run rfl (load_run BX2.out 2 rfl 24 _ (by rfl) (by rfl) _ Try.underlying24 rfl (by kernel_rfl)) ?_) | ((with_reducible refine gate_dst (N := 71) rfl ?_); first | refine Kd.event_run rfl (load_run BX2.out 2 rfl 24 _ (by rfl) (by rfl) _ Try.underlying24 rfl (by kernel_rfl)) ?_) | ((with_reducible refine gate_dst (N := 77) rfl ?_); first | refine Kd.event_run rfl (load_run BX2.out 2 rfl 24 _ (by rfl) (by rfl) _ Try.underlying24 rfl (by kernel_rfl)) ?_) | ((with_reducible refine gate_dst (N := 78) rfl ?_); first | refine Kd.event_run rfl (load_run BX2.out 2 rfl 24 _ (by rfl) (by rfl) _ Try.underlying24 rfl (by kernel_rfl)) ?_) | ((with_reducible refine gate_dst (N := 87) rfl ?_); first | refine Kd.event_run rfl (load_run BX2.out 2 rfl 24 _ (by rfl) (by rfl) _ Try.underlying24 rfl (by kernel_rfl)) ?_) | ((with_reducible refine gate_dst (N := 90) rfl ?_); first | refine Kd.event_run rfl (load_run BX2.out 2 rfl 24 _ (by rfl) (by rfl) _ Try.underlying24 rfl (by kernel_rfl)) ?_) | ((with_reducible refine gate_dst (N := 100) rfl ?_); first | refine Kd.event_run rfl (load_run BX2.out 2 rfl 24 _ (by rfl) (by rfl) _ Try.underlying24 rfl (by kernel_rfl)) ?_) | ((with_reducible refine gate_dst (N := 102) rfl ?_); first | refine Kd.event_run rfl (load_run BX2.out 2 rfl 24 _ (by rfl) (by rfl) _ Try.underlying24 rfl (by kernel_rfl)) ?_) | ((with_reducible refine gate_dst (N := 107) rfl ?_); first | refine Kd.event_run rfl (load_run BX2.out 2 rfl 24 _ (by rfl) (by rfl) _ Try.underlying24 rfl (by kernel_rfl)) ?_) | ((with_reducible refine gate_dst (N := 108) rfl ?_); first | refine Kd.event_run rfl (load_run BX2.out 2 rfl 24 _ (by rfl) (by rfl) _ Try.underlying24 rfl (by kernel_rfl)) ?_) | ((with_reducible refine gate_dst (N := 116) rfl ?_); first | refine Kd.event_run rfl (load_run BX2.out 2 rfl 24 _ (by rfl) (by rfl) _ Try.underlying24 rfl (by kernel_rfl)) ?_))
  refine letC (fun W_ => Below w20.heap.size w20 W_ ∧ W_.heap[w20.heap.size]? = some (.cells #[.int .i64 a1_0, .slice A11_ l1_1.length c11_] 28 (0, 0))) ?_ ?_
  · refine ⟨?_, ?_⟩
    · repeat (first | exact Below.refl _ _ | apply below_alloc | refine below_set ?_ (by first | exact Nat.le_refl _ | omega | (simp; done)))
    · exact blk_new w20 (.cells #[.int .i64 a1_0, .slice A11_ l1_1.length c11_] 28)
  intro w21 hq_
  obtain ⟨hb, hx0_⟩ := hq_
  have Z21 : Aside0 (w20.heap.size ≤ w21.heap.size) := ⟨hb.size⟩
  have n0_ := Aside0.mk (Kd.R_below X10.out hb)
  have n1_ := Aside0.mk (Kd.R_below X11.out hb)
  have n2_ := Aside0.mk (blk_below BX1.out hb)
  have n3_ := Aside0.mk (blk_below BX2.out hb)
  have n4_ := Aside0.mk (blk_below BX3.out hb)
  have hb_ := Aside0.mk (below_then HB.out HB.out.size hb)
  clear X10 X11 BX1 BX2 BX3
  have X10 := n0_
  have X11 := n1_
  have BX1 := n2_
  have BX2 := n3_
  have BX3 := n4_
  clear n0_ n1_ n2_ n3_ n4_
  clear HB
  have HB := hb_
  clear hb_
  clear hb
  have BX4 : Aside0 (w21.heap[w20.heap.size]? = some (.cells #[.int .i64 a1_0, .slice A11_ l1_1.length c11_] 28 (0, 0))) := ⟨hx0_⟩
  clear hx0_
  have GBX4 : Aside0 (w20.heap.size < w21.heap.size) := ⟨blk_lt BX4.out⟩
  go_wp2_with (first | ((with_reducible refine gate_dst (N := 19) rfl ?_); first | refine Kd.event_run rfl (load_run BX2.out 2 rfl 24 _ (by rfl) (by rfl) _ Try.underlying24 rfl (by kernel_rfl)) ?_) | ((with_reducible refine gate_dst (N := 24) rfl ?_); first | refine Kd.event_run rfl (load_run BX2.out 2 rfl 24 _ (by rfl) (by rfl) _ Try.underlying24 rfl (by kernel_rfl)) ?_) | ((with_reducible refine gate_dst (N := 31) rfl ?_); first | refine Kd.event_run rfl (load_run BX2.out 2 rfl 24 _ (by rfl) (by rfl) _ Try.underlying24 rfl (by kernel_rfl)) ?_) | ((with_reducible refine gate_dst (N := 33) rfl ?_); first | refine Kd.event_run rfl (load_run BX2.out 2 rfl 24 _ (by rfl) (by rfl) _ Try.underlying24 rfl (by kernel_rfl)) ?_) | ((with_reducible refine gate_dst (N := 38) rfl ?_); first | refine Kd.event_run rfl (load_run BX2.out 2 rfl 24 _ (by rfl) (by rfl) _ Try.underlying24 rfl (by kernel_rfl)) ?_) | ((with_reducible refine gate_dst (N := 40) rfl ?_); first | refine Kd.event_run rfl (load_run BX2.out 2 rfl 24 _ (by rfl) (by rfl) _ Try.underlying24 rfl (by kernel_rfl)) ?_) | ((with_reducible refine gate_dst (N := 44) rfl ?_); first | refine Kd.event_run rfl (load_run BX2.out 2 rfl 24 _ (by rfl) (by rfl) _ Try.underlying24 rfl (by kernel_rfl)) ?_) | ((with_reducible refine gate_dst (N := 45) rfl ?_); first | refine Kd.event_run rfl (load_run BX2.out 2 rfl 24 _ (by rfl) (by rfl) _ Try.underlying24 rfl (by kernel_rfl)) ?_) | ((with_reducible refine gate_dst (N := 49) rfl ?_); first | refine Kd.event_run rfl (load_run BX2.out 2 rfl 24 _ (by rfl) (by rfl) _ Try.underlying24 rfl (by kernel_rfl)) ?_) | ((with_reducible refine gate_dst (N := 50) rfl ?_); first | refine Kd.event_run rfl (load_run BX2.out 2 rfl 24 _ (by rfl) (by rfl) _ Try.underlying24 rfl (by kernel_rfl)) ?_) | ((with_reducible refine gate_dst (N := 58) rfl ?_); first | refine Kd.event_run rfl (load_run BX2.out 2 rfl 24 _ (by rfl) (by rfl) _ Try.underlying24 rfl (by kernel_rfl)) ?_) | ((with_reducible refine gate_dst (N := 59) rfl ?_); first | refine Kd.event_run rfl (load_run BX2.out 2 rfl 24 _ (by rfl) (by rfl) _ Try.underlying24 rfl (by kernel_rfl)) ?_) | ((with_reducible refine gate_dst (N := 63) rfl ?_); first | refine Kd.event_run rfl (load_run BX2.out 2 rfl 24 _ (by rfl) (by rfl) _ Try.underlying24 rfl (by kernel_rfl)) ?_) | ((with_reducible refine gate_dst (N := 64) rfl ?_); first | refine Kd.event_run rfl (load_run BX2.out 2 rfl 24 _ (by rfl) (by rfl) _ Try.underlying24 rfl (by kernel_rfl)) ?_) | ((with_reducible refine gate_dst (N := 68) rfl ?_); first | refine Kd.event_run rfl (load_run BX2.out 2 rfl 24 _ (by rfl) (by rfl) _ Try.underlying24 rfl (by kernel_rfl)) ?_) | ((with_reducible refine gate_dst (N := 71) rfl ?_); first | refine Kd.event_run rfl (load_run BX2.out 2 rfl 24 _ (by rfl) (by rfl) _ Try.underlying24 rfl (by kernel_rfl)) ?_) | ((with_reducible refine gate_dst (N := 77) rfl ?_); first | refine Kd.event_run rfl (load_run BX2.out 2 rfl 24 _ (by rfl) (by rfl) _ Try.underlying24 rfl (by kernel_rfl)) ?_) | ((with_reducible refine gate_dst (N := 78) rfl ?_); first | refine Kd.event_run rfl (load_run BX2.out 2 rfl 24 _ (by rfl) (by rfl) _ Try.underlying24 rfl (by kernel_rfl)) ?_) | ((with_reducible refine gate_dst (N := 87) rfl ?_); first | refine Kd.event_run rfl (load_run BX2.out 2 rfl 24 _ (by rfl) (by rfl) _ Try.underlying24 rfl (by kernel_rfl)) ?_) | ((with_reducible refine gate_dst (N := 90) rfl ?_); first | refine Kd.event_run rfl (load_run BX2.out 2 rfl 24 _ (by rfl) (by rfl) _ Try.underlying24 rfl (by kernel_rfl)) ?_) | ((with_reducible refine gate_dst (N := 100) rfl ?_); first | refine Kd.event_run rfl (load_run BX2.out 2 rfl 24 _ (by rfl) (by rfl) _ Try.underlying24 rfl (by kernel_rfl)) ?_) | ((with_reducible refine gate_dst (N := 102) rfl ?_); first | refine Kd.event_run rfl (load_run BX2.out 2 rfl 24 _ (by rfl) (by rfl) _ Try.underlying24 rfl (by kernel_rfl)) ?_) | ((with_reducible refine gate_dst (N := 107) rfl ?_); first | refine Kd.event_run rfl (load_run BX2.out 2 rfl 24 _ (by rfl) (by rfl) _ Try.underlying24 rfl (by kernel_rfl)) ?_) | ((with_reducible refine gate_dst (N := 108) rfl ?_); first | refine Kd.event_run rfl (load_run BX2.out 2 rfl 24 _ (by rfl) (by rfl) _ Try.underlying24 rfl (by kernel_rfl)) ?_) | ((with_reducible refine gate_dst (N := 116) rfl ?_); first | refine Kd.event_run rfl (load_run BX2.out 2 rfl 24 _ (by rfl) (by rfl) _ Try.underlying24 rfl (by kernel_rfl)) ?_))
  (refine (laws_toAttr.calls K2 a2_0 A2_1 c2_1 l2_1 a2_0 l2_1 w21 (Kd.C_below HR2_1.out HB.out) HC2_1.out H2.out).mono ?_)
  rintro e w22 ⟨v1_, rfl, hS0, hb⟩
  have X12 : Aside0 (Kd.R (Kd.int .i64) 3 w22 w.heap.size (fun k => w21.heap.size ≤ k ∧ k < w22.heap.size) v1_ l2_1) := ⟨Kd.R_mono (Kd.R_lower (Kd.R_bound hS0) HB.out.size) (fun k hk => ⟨hk.2.1, hk.2.2.1⟩)⟩
  have Z22 : Aside0 (w21.heap.size ≤ w22.heap.size) := ⟨hb.size⟩
  have n0_ := Aside0.mk (Kd.R_below X10.out hb)
  have n1_ := Aside0.mk (Kd.R_below X11.out hb)
  have n2_ := Aside0.mk (blk_below BX1.out hb)
  have n3_ := Aside0.mk (blk_below BX2.out hb)
  have n4_ := Aside0.mk (blk_below BX3.out hb)
  have n5_ := Aside0.mk (blk_below BX4.out hb)
  have hb_ := Aside0.mk (below_then HB.out HB.out.size hb)
  clear X10 X11 BX1 BX2 BX3 BX4
  have X10 := n0_
  have X11 := n1_
  have BX1 := n2_
  have BX2 := n3_
  have BX3 := n4_
  have BX4 := n5_
  clear n0_ n1_ n2_ n3_ n4_ n5_
  clear HB
  have HB := hb_
  clear hb_
  clear hb hS0
  obtain ⟨A12_, c12_, rfl⟩ := Kd.R_slice X12.out
  obtain ⟨⟨K4, h4⟩, hF⟩ := HF.out
  clear HF
  have HF := Aside0.mk hF
  clear hF
  have H4 := Aside0.mk h4
  clear h4
  go_upto_region 11 with (first | ((with_reducible refine gate_dst (N := 19) rfl ?_); first | refine Kd.event_run rfl (load_run BX4.out 2 rfl 28 _ (by rfl) (by rfl) _ Try.underlying28 rfl (by kernel_rfl)) ?_) | ((with_reducible refine gate_dst (N := 24) rfl ?_); first | refine Kd.event_run rfl (load_run BX4.out 2 rfl 28 _ (by rfl) (by rfl) _ Try.underlying28 rfl (by kernel_rfl)) ?_) | ((with_reducible refine gate_dst (N := 31) rfl ?_); first | refine Kd.event_run rfl (load_run BX4.out 2 rfl 28 _ (by rfl) (by rfl) _ Try.underlying28 rfl (by kernel_rfl)) ?_) | ((with_reducible refine gate_dst (N := 33) rfl ?_); first | refine Kd.event_run rfl (load_run BX4.out 2 rfl 28 _ (by rfl) (by rfl) _ Try.underlying28 rfl (by kernel_rfl)) ?_) | ((with_reducible refine gate_dst (N := 38) rfl ?_); first | refine Kd.event_run rfl (load_run BX4.out 2 rfl 28 _ (by rfl) (by rfl) _ Try.underlying28 rfl (by kernel_rfl)) ?_) | ((with_reducible refine gate_dst (N := 40) rfl ?_); first | refine Kd.event_run rfl (load_run BX4.out 2 rfl 28 _ (by rfl) (by rfl) _ Try.underlying28 rfl (by kernel_rfl)) ?_) | ((with_reducible refine gate_dst (N := 44) rfl ?_); first | refine Kd.event_run rfl (load_run BX4.out 2 rfl 28 _ (by rfl) (by rfl) _ Try.underlying28 rfl (by kernel_rfl)) ?_) | ((with_reducible refine gate_dst (N := 45) rfl ?_); first | refine Kd.event_run rfl (load_run BX4.out 2 rfl 28 _ (by rfl) (by rfl) _ Try.underlying28 rfl (by kernel_rfl)) ?_) | ((with_reducible refine gate_dst (N := 49) rfl ?_); first | refine Kd.event_run rfl (load_run BX4.out 2 rfl 28 _ (by rfl) (by rfl) _ Try.underlying28 rfl (by kernel_rfl)) ?_) | ((with_reducible refine gate_dst (N := 50) rfl ?_); first | refine Kd.event_run rfl (load_run BX4.out 2 rfl 28 _ (by rfl) (by rfl) _ Try.underlying28 rfl (by kernel_rfl)) ?_) | ((with_reducible refine gate_dst (N := 58) rfl ?_); first | refine Kd.event_run rfl (load_run BX4.out 2 rfl 28 _ (by rfl) (by rfl) _ Try.underlying28 rfl (by kernel_rfl)) ?_) | ((with_reducible refine gate_dst (N := 59) rfl ?_); first | refine Kd.event_run rfl (load_run BX4.out 2 rfl 28 _ (by rfl) (by rfl) _ Try.underlying28 rfl (by kernel_rfl)) ?_) | ((with_reducible refine gate_dst (N := 63) rfl ?_); first | refine Kd.event_run rfl (load_run BX4.out 2 rfl 28 _ (by rfl) (by rfl) _ Try.underlying28 rfl (by kernel_rfl)) ?_) | ((with_reducible refine gate_dst (N := 64) rfl ?_); first | refine Kd.event_run rfl (load_run BX4.out 2 rfl 28 _ (by rfl) (by rfl) _ Try.underlying28 rfl (by kernel_rfl)) ?_) | ((with_reducible refine gate_dst (N := 68) rfl ?_); first | refine Kd.event_run rfl (load_run BX4.out 2 rfl 28 _ (by rfl) (by rfl) _ Try.underlying28 rfl (by kernel_rfl)) ?_) | ((with_reducible refine gate_dst (N := 71) rfl ?_); first | refine Kd.event_run rfl (load_run BX4.out 2 rfl 28 _ (by rfl) (by rfl) _ Try.underlying28 rfl (by kernel_rfl)) ?_) | ((with_reducible refine gate_dst (N := 77) rfl ?_); first | refine Kd.event_run rfl (load_run BX4.out 2 rfl 28 _ (by rfl) (by rfl) _ Try.underlying28 rfl (by kernel_rfl)) ?_) | ((with_reducible refine gate_dst (N := 78) rfl ?_); first | refine Kd.event_run rfl (load_run BX4.out 2 rfl 28 _ (by rfl) (by rfl) _ Try.underlying28 rfl (by kernel_rfl)) ?_) | ((with_reducible refine gate_dst (N := 87) rfl ?_); first | refine Kd.event_run rfl (load_run BX4.out 2 rfl 28 _ (by rfl) (by rfl) _ Try.underlying28 rfl (by kernel_rfl)) ?_) | ((with_reducible refine gate_dst (N := 90) rfl ?_); first | refine Kd.event_run rfl (load_run BX4.out 2 rfl 28 _ (by rfl) (by rfl) _ Try.underlying28 rfl (by kernel_rfl)) ?_) | ((with_reducible refine gate_dst (N := 100) rfl ?_); first | refine Kd.event_run rfl (load_run BX4.out 2 rfl 28 _ (by rfl) (by rfl) _ Try.underlying28 rfl (by kernel_rfl)) ?_) | ((with_reducible refine gate_dst (N := 102) rfl ?_); first | refine Kd.event_run rfl (load_run BX4.out 2 rfl 28 _ (by rfl) (by rfl) _ Try.underlying28 rfl (by kernel_rfl)) ?_) | ((with_reducible refine gate_dst (N := 107) rfl ?_); first | refine Kd.event_run rfl (load_run BX4.out 2 rfl 28 _ (by rfl) (by rfl) _ Try.underlying28 rfl (by kernel_rfl)) ?_) | ((with_reducible refine gate_dst (N := 108) rfl ?_); first | refine Kd.event_run rfl (load_run BX4.out 2 rfl 28 _ (by rfl) (by rfl) _ Try.underlying28 rfl (by kernel_rfl)) ?_) | ((with_reducible refine gate_dst (N := 116) rfl ?_); first | refine Kd.event_run rfl (load_run BX4.out 2 rfl 28 _ (by rfl) (by rfl) _ Try.underlying28 rfl (by kernel_rfl)) ?_))
  refine letC (fun W_ => Below w22.heap.size w22 W_ ∧ W_.heap[w22.heap.size]? = some (.cells #[.int .i64 a2_0, .slice A12_ l2_1.length c12_] 28 (0, 0))) ?_ ?_
  · refine ⟨?_, ?_⟩
    · repeat (first | exact Below.refl _ _ | apply below_alloc | refine below_set ?_ (by first | exact Nat.le_refl _ | omega | (simp; done)))
    · exact blk_new w22 (.cells #[.int .i64 a2_0, .slice A12_ l2_1.length c12_] 28)
  intro w23 hq_
  obtain ⟨hb, hx0_⟩ := hq_
  have Z23 : Aside0 (w22.heap.size ≤ w23.heap.size) := ⟨hb.size⟩
  have n0_ := Aside0.mk (Kd.R_below X10.out hb)
  have n1_ := Aside0.mk (Kd.R_below X11.out hb)
  have n2_ := Aside0.mk (Kd.R_below X12.out hb)
  have n3_ := Aside0.mk (blk_below BX1.out hb)
  have n4_ := Aside0.mk (blk_below BX2.out hb)
  have n5_ := Aside0.mk (blk_below BX3.out hb)
  have n6_ := Aside0.mk (blk_below BX4.out hb)
  have hb_ := Aside0.mk (below_then HB.out HB.out.size hb)
  clear X10 X11 X12 BX1 BX2 BX3 BX4
  have X10 := n0_
  have X11 := n1_
  have X12 := n2_
  have BX1 := n3_
  have BX2 := n4_
  have BX3 := n5_
  have BX4 := n6_
  clear n0_ n1_ n2_ n3_ n4_ n5_ n6_
  clear HB
  have HB := hb_
  clear hb_
  clear hb
  have BX5 : Aside0 (w23.heap[w22.heap.size]? = some (.cells #[.int .i64 a2_0, .slice A12_ l2_1.length c12_] 28 (0, 0))) := ⟨hx0_⟩
  clear hx0_
  have GBX5 : Aside0 (w22.heap.size < w23.heap.size) := ⟨blk_lt BX5.out⟩
  go_wp2_with (first | ((with_reducible refine gate_dst (N := 19) rfl ?_); first | refine Kd.event_run rfl (load_run BX4.out 2 rfl 28 _ (by rfl) (by rfl) _ Try.underlying28 rfl (by kernel_rfl)) ?_ | refine Kd.event_run rfl (load_run BX5.out 2 rfl 28 _ (by rfl) (by rfl) _ Try.underlying28 rfl (by kernel_rfl)) ?_) | ((with_reducible refine gate_dst (N := 24) rfl ?_); first | refine Kd.event_run rfl (load_run BX4.out 2 rfl 28 _ (by rfl) (by rfl) _ Try.underlying28 rfl (by kernel_rfl)) ?_ | refine Kd.event_run rfl (load_run BX5.out 2 rfl 28 _ (by rfl) (by rfl) _ Try.underlying28 rfl (by kernel_rfl)) ?_) | ((with_reducible refine gate_dst (N := 31) rfl ?_); first | refine Kd.event_run rfl (load_run BX4.out 2 rfl 28 _ (by rfl) (by rfl) _ Try.underlying28 rfl (by kernel_rfl)) ?_ | refine Kd.event_run rfl (load_run BX5.out 2 rfl 28 _ (by rfl) (by rfl) _ Try.underlying28 rfl (by kernel_rfl)) ?_) | ((with_reducible refine gate_dst (N := 33) rfl ?_); first | refine Kd.event_run rfl (load_run BX4.out 2 rfl 28 _ (by rfl) (by rfl) _ Try.underlying28 rfl (by kernel_rfl)) ?_ | refine Kd.event_run rfl (load_run BX5.out 2 rfl 28 _ (by rfl) (by rfl) _ Try.underlying28 rfl (by kernel_rfl)) ?_) | ((with_reducible refine gate_dst (N := 38) rfl ?_); first | refine Kd.event_run rfl (load_run BX4.out 2 rfl 28 _ (by rfl) (by rfl) _ Try.underlying28 rfl (by kernel_rfl)) ?_ | refine Kd.event_run rfl (load_run BX5.out 2 rfl 28 _ (by rfl) (by rfl) _ Try.underlying28 rfl (by kernel_rfl)) ?_) | ((with_reducible refine gate_dst (N := 40) rfl ?_); first | refine Kd.event_run rfl (load_run BX4.out 2 rfl 28 _ (by rfl) (by rfl) _ Try.underlying28 rfl (by kernel_rfl)) ?_ | refine Kd.event_run rfl (load_run BX5.out 2 rfl 28 _ (by rfl) (by rfl) _ Try.underlying28 rfl (by kernel_rfl)) ?_) | ((with_reducible refine gate_dst (N := 44) rfl ?_); first | refine Kd.event_run rfl (load_run BX4.out 2 rfl 28 _ (by rfl) (by rfl) _ Try.underlying28 rfl (by kernel_rfl)) ?_ | refine Kd.event_run rfl (load_run BX5.out 2 rfl 28 _ (by rfl) (by rfl) _ Try.underlying28 rfl (by kernel_rfl)) ?_) | ((with_reducible refine gate_dst (N := 45) rfl ?_); first | refine Kd.event_run rfl (load_run BX4.out 2 rfl 28 _ (by rfl) (by rfl) _ Try.underlying28 rfl (by kernel_rfl)) ?_ | refine Kd.event_run rfl (load_run BX5.out 2 rfl 28 _ (by rfl) (by rfl) _ Try.underlying28 rfl (by kernel_rfl)) ?_) | ((with_reducible refine gate_dst (N := 49) rfl ?_); first | refine Kd.event_run rfl (load_run BX4.out 2 rfl 28 _ (by rfl) (by rfl) _ Try.underlying28 rfl (by kernel_rfl)) ?_ | refine Kd.event_run rfl (load_run BX5.out 2 rfl 28 _ (by rfl) (by rfl) _ Try.underlying28 rfl (by kernel_rfl)) ?_) | ((with_reducible refine gate_dst (N := 50) rfl ?_); first | refine Kd.event_run rfl (load_run BX4.out 2 rfl 28 _ (by rfl) (by rfl) _ Try.underlying28 rfl (by kernel_rfl)) ?_ | refine Kd.event_run rfl (load_run BX5.out 2 rfl 28 _ (by rfl) (by rfl) _ Try.underlying28 rfl (by kernel_rfl)) ?_) | ((with_reducible refine gate_dst (N := 58) rfl ?_); first | refine Kd.event_run rfl (load_run BX4.out 2 rfl 28 _ (by rfl) (by rfl) _ Try.underlying28 rfl (by kernel_rfl)) ?_ | refine Kd.event_run rfl (load_run BX5.out 2 rfl 28 _ (by rfl) (by rfl) _ Try.underlying28 rfl (by kernel_rfl)) ?_) | ((with_reducible refine gate_dst (N := 59) rfl ?_); first | refine Kd.event_run rfl (load_run BX4.out 2 rfl 28 _ (by rfl) (by rfl) _ Try.underlying28 rfl (by kernel_rfl)) ?_ | refine Kd.event_run rfl (load_run BX5.out 2 rfl 28 _ (by rfl) (by rfl) _ Try.underlying28 rfl (by kernel_rfl)) ?_) | ((with_reducible refine gate_dst (N := 63) rfl ?_); first | refine Kd.event_run rfl (load_run BX4.out 2 rfl 28 _ (by rfl) (by rfl) _ Try.underlying28 rfl (by kernel_rfl)) ?_ | refine Kd.event_run rfl (load_run BX5.out 2 rfl 28 _ (by rfl) (by rfl) _ Try.underlying28 rfl (by kernel_rfl)) ?_) | ((with_reducible refine gate_dst (N := 64) rfl ?_); first | refine Kd.event_run rfl (load_run BX4.out 2 rfl 28 _ (by rfl) (by rfl) _ Try.underlying28 rfl (by kernel_rfl)) ?_ | refine Kd.event_run rfl (load_run BX5.out 2 rfl 28 _ (by rfl) (by rfl) _ Try.underlying28 rfl (by kernel_rfl)) ?_) | ((with_reducible refine gate_dst (N := 68) rfl ?_); first | refine Kd.event_run rfl (load_run BX4.out 2 rfl 28 _ (by rfl) (by rfl) _ Try.underlying28 rfl (by kernel_rfl)) ?_ | refine Kd.event_run rfl (load_run BX5.out 2 rfl 28 _ (by rfl) (by rfl) _ Try.underlying28 rfl (by kernel_rfl)) ?_) | ((with_reducible refine gate_dst (N := 71) rfl ?_); first | refine Kd.event_run rfl (load_run BX4.out 2 rfl 28 _ (by rfl) (by rfl) _ Try.underlying28 rfl (by kernel_rfl)) ?_ | refine Kd.event_run rfl (load_run BX5.out 2 rfl 28 _ (by rfl) (by rfl) _ Try.underlying28 rfl (by kernel_rfl)) ?_) | ((with_reducible refine gate_dst (N := 77) rfl ?_); first | refine Kd.event_run rfl (load_run BX4.out 2 rfl 28 _ (by rfl) (by rfl) _ Try.underlying28 rfl (by kernel_rfl)) ?_ | refine Kd.event_run rfl (load_run BX5.out 2 rfl 28 _ (by rfl) (by rfl) _ Try.underlying28 rfl (by kernel_rfl)) ?_) | ((with_reducible refine gate_dst (N := 78) rfl ?_); first | refine Kd.event_run rfl (load_run BX4.out 2 rfl 28 _ (by rfl) (by rfl) _ Try.underlying28 rfl (by kernel_rfl)) ?_ | refine Kd.event_run rfl (load_run BX5.out 2 rfl 28 _ (by rfl) (by rfl) _ Try.underlying28 rfl (by kernel_rfl)) ?_) | ((with_reducible refine gate_dst (N := 87) rfl ?_); first | refine Kd.event_run rfl (load_run BX4.out 2 rfl 28 _ (by rfl) (by rfl) _ Try.underlying28 rfl (by kernel_rfl)) ?_ | refine Kd.event_run rfl (load_run BX5.out 2 rfl 28 _ (by rfl) (by rfl) _ Try.underlying28 rfl (by kernel_rfl)) ?_) | ((with_reducible refine gate_dst (N := 90) rfl ?_); first | refine Kd.event_run rfl (load_run BX4.out 2 rfl 28 _ (by rfl) (by rfl) _ Try.underlying28 rfl (by kernel_rfl)) ?_ | refine Kd.event_run rfl (load_run BX5.out 2 rfl 28 _ (by rfl) (by rfl) _ Try.underlying28 rfl (by kernel_rfl)) ?_) | ((with_reducible refine gate_dst (N := 100) rfl ?_); first | refine Kd.event_run rfl (load_run BX4.out 2 rfl 28 _ (by rfl) (by rfl) _ Try.underlying28 rfl (by kernel_rfl)) ?_ | refine Kd.event_run rfl (load_run BX5.out 2 rfl 28 _ (by rfl) (by rfl) _ Try.underlying28 rfl (by kernel_rfl)) ?_) | ((with_reducible refine gate_dst (N := 102) rfl ?_); first | refine Kd.event_run rfl (load_run BX4.out 2 rfl 28 _ (by rfl) (by rfl) _ Try.underlying28 rfl (by kernel_rfl)) ?_ | refine Kd.event_run rfl (load_run BX5.out 2 rfl 28 _ (by rfl) (by rfl) _ Try.underlying28 rfl (by kernel_rfl)) ?_) | ((with_reducible refine gate_dst (N := 107) rfl ?_); first | refine Kd.event_run rfl (load_run BX4.out 2 rfl 28 _ (by rfl) (by rfl) _ Try.underlying28 rfl (by kernel_rfl)) ?_ | refine Kd.event_run rfl (load_run BX5.out 2 rfl 28 _ (by rfl) (by rfl) _ Try.underlying28 rfl (by kernel_rfl)) ?_) | ((with_reducible refine gate_dst (N := 108) rfl ?_); first | refine Kd.event_run rfl (load_run BX4.out 2 rfl 28 _ (by rfl) (by rfl) _ Try.underlying28 rfl (by kernel_rfl)) ?_ | refine Kd.event_run rfl (load_run BX5.out 2 rfl 28 _ (by rfl) (by rfl) _ Try.underlying28 rfl (by kernel_rfl)) ?_) | ((with_reducible refine gate_dst (N := 116) rfl ?_); first | refine Kd.event_run rfl (load_run BX4.out 2 rfl 28 _ (by rfl) (by rfl) _ Try.underlying28 rfl (by kernel_rfl)) ?_ | refine Kd.event_run rfl (load_run BX5.out 2 rfl 28 _ (by rfl) (by rfl) _ Try.underlying28 rfl (by kernel_rfl)) ?_))
  (refine (impl_JoinAttr.calls K4 a0 a1_0 A11_ c11_ l1_1 a2_0 A12_ c12_ l2_1 r3 r4 r5 w23 (Kd.R_reads' X11.out).2.2 (Kd.R_reads' X11.out).2.1 (Kd.R_reads' X12.out).2.2 (Kd.R_reads' X12.out).2.1 H4.out).mono ?_)
  rintro e w24 ⟨v1_, rfl, hS0, hb⟩
  have X13 : Aside0 (Kd.R (Kd.int .i64) 3 w24 w.heap.size (fun k => w23.heap.size ≤ k ∧ k < w24.heap.size) v1_ r4) := ⟨Kd.R_mono (Kd.R_lower (Kd.R_bound hS0) HB.out.size) (fun k hk => ⟨hk.2.1, hk.2.2.1⟩)⟩
  have Z24 : Aside0 (w23.heap.size ≤ w24.heap.size) := ⟨hb.size⟩
  have n0_ := Aside0.mk (Kd.R_below X10.out hb)
  have n1_ := Aside0.mk (Kd.R_below X11.out hb)
  have n2_ := Aside0.mk (Kd.R_below X12.out hb)
  have n3_ := Aside0.mk (blk_below BX1.out hb)
  have n4_ := Aside0.mk (blk_below BX2.out hb)
  have n5_ := Aside0.mk (blk_below BX3.out hb)
  have n6_ := Aside0.mk (blk_below BX4.out hb)
  have n7_ := Aside0.mk (blk_below BX5.out hb)
  have hb_ := Aside0.mk (below_then HB.out HB.out.size hb)
  clear X10 X11 X12 BX1 BX2 BX3 BX4 BX5
  have X10 := n0_
  have X11 := n1_
  have X12 := n2_
  have BX1 := n3_
  have BX2 := n4_
  have BX3 := n5_
  have BX4 := n6_
  have BX5 := n7_
  clear n0_ n1_ n2_ n3_ n4_ n5_ n6_ n7_
  clear HB
  have HB := hb_
  clear hb_
  clear hb hS0
  obtain ⟨A13_, c13_, rfl⟩ := Kd.R_slice X13.out
  obtain ⟨⟨K5, h5⟩, hF⟩ := HF.out
  clear HF
  have HF := Aside0.mk hF
  clear hF
  have H5 := Aside0.mk h5
  clear h5
  go_upto_region 12 with (first | ((with_reducible refine gate_dst (N := 19) rfl ?_); first | refine Kd.event_run rfl (load_run BX3.out 2 rfl 28 _ (by rfl) (by rfl) _ Try.underlying28 rfl (by kernel_rfl)) ?_) | ((with_reducible refine gate_dst (N := 24) rfl ?_); first | refine Kd.event_run rfl (load_run BX3.out 2 rfl 28 _ (by rfl) (by rfl) _ Try.underlying28 rfl (by kernel_rfl)) ?_) | ((with_reducible refine gate_dst (N := 31) rfl ?_); first | refine Kd.event_run rfl (load_run BX3.out 2 rfl 28 _ (by rfl) (by rfl) _ Try.underlying28 rfl (by kernel_rfl)) ?_) | ((with_reducible refine gate_dst (N := 33) rfl ?_); first | refine Kd.event_run rfl (load_run BX3.out 2 rfl 28 _ (by rfl) (by rfl) _ Try.underlying28 rfl (by kernel_rfl)) ?_) | ((with_reducible refine gate_dst (N := 38) rfl ?_); first | refine Kd.event_run rfl (load_run BX3.out 2 rfl 28 _ (by rfl) (by rfl) _ Try.underlying28 rfl (by kernel_rfl)) ?_) | ((with_reducible refine gate_dst (N := 40) rfl ?_); first | refine Kd.event_run rfl (load_run BX3.out 2 rfl 28 _ (by rfl) (by rfl) _ Try.underlying28 rfl (by kernel_rfl)) ?_) | ((with_reducible refine gate_dst (N := 44) rfl ?_); first | refine Kd.event_run rfl (load_run BX3.out 2 rfl 28 _ (by rfl) (by rfl) _ Try.underlying28 rfl (by kernel_rfl)) ?_) | ((with_reducible refine gate_dst (N := 45) rfl ?_); first | refine Kd.event_run rfl (load_run BX3.out 2 rfl 28 _ (by rfl) (by rfl) _ Try.underlying28 rfl (by kernel_rfl)) ?_) | ((with_reducible refine gate_dst (N := 49) rfl ?_); first | refine Kd.event_run rfl (load_run BX3.out 2 rfl 28 _ (by rfl) (by rfl) _ Try.underlying28 rfl (by kernel_rfl)) ?_) | ((with_reducible refine gate_dst (N := 50) rfl ?_); first | refine Kd.event_run rfl (load_run BX3.out 2 rfl 28 _ (by rfl) (by rfl) _ Try.underlying28 rfl (by kernel_rfl)) ?_) | ((with_reducible refine gate_dst (N := 58) rfl ?_); first | refine Kd.event_run rfl (load_run BX3.out 2 rfl 28 _ (by rfl) (by rfl) _ Try.underlying28 rfl (by kernel_rfl)) ?_) | ((with_reducible refine gate_dst (N := 59) rfl ?_); first | refine Kd.event_run rfl (load_run BX3.out 2 rfl 28 _ (by rfl) (by rfl) _ Try.underlying28 rfl (by kernel_rfl)) ?_) | ((with_reducible refine gate_dst (N := 63) rfl ?_); first | refine Kd.event_run rfl (load_run BX3.out 2 rfl 28 _ (by rfl) (by rfl) _ Try.underlying28 rfl (by kernel_rfl)) ?_) | ((with_reducible refine gate_dst (N := 64) rfl ?_); first | refine Kd.event_run rfl (load_run BX3.out 2 rfl 28 _ (by rfl) (by rfl) _ Try.underlying28 rfl (by kernel_rfl)) ?_) | ((with_reducible refine gate_dst (N := 68) rfl ?_); first | refine Kd.event_run rfl (load_run BX3.out 2 rfl 28 _ (by rfl) (by rfl) _ Try.underlying28 rfl (by kernel_rfl)) ?_) | ((with_reducible refine gate_dst (N := 71) rfl ?_); first | refine Kd.event_run rfl (load_run BX3.out 2 rfl 28 _ (by rfl) (by rfl) _ Try.underlying28 rfl (by kernel_rfl)) ?_) | ((with_reducible refine gate_dst (N := 77) rfl ?_); first | refine Kd.event_run rfl (load_run BX3.out 2 rfl 28 _ (by rfl) (by rfl) _ Try.underlying28 rfl (by kernel_rfl)) ?_) | ((with_reducible refine gate_dst (N := 78) rfl ?_); first | refine Kd.event_run rfl (load_run BX3.out 2 rfl 28 _ (by rfl) (by rfl) _ Try.underlying28 rfl (by kernel_rfl)) ?_) | ((with_reducible refine gate_dst (N := 87) rfl ?_); first | refine Kd.event_run rfl (load_run BX3.out 2 rfl 28 _ (by rfl) (by rfl) _ Try.underlying28 rfl (by kernel_rfl)) ?_) | ((with_reducible refine gate_dst (N := 90) rfl ?_); first | refine Kd.event_run rfl (load_run BX3.out 2 rfl 28 _ (by rfl) (by rfl) _ Try.underlying28 rfl (by kernel_rfl)) ?_) | ((with_reducible refine gate_dst (N := 100) rfl ?_); first | refine Kd.event_run rfl (load_run BX3.out 2 rfl 28 _ (by rfl) (by rfl) _ Try.underlying28 rfl (by kernel_rfl)) ?_) | ((with_reducible refine gate_dst (N := 102) rfl ?_); first | refine Kd.event_run rfl (load_run BX3.out 2 rfl 28 _ (by rfl) (by rfl) _ Try.underlying28 rfl (by kernel_rfl)) ?_) | ((with_reducible refine gate_dst (N := 107) rfl ?_); first | refine Kd.event_run rfl (load_run BX3.out 2 rfl 28 _ (by rfl) (by rfl) _ Try.underlying28 rfl (by kernel_rfl)) ?_) | ((with_reducible refine gate_dst (N := 108) rfl ?_); first | refine Kd.event_run rfl (load_run BX3.out 2 rfl 28 _ (by rfl) (by rfl) _ Try.underlying28 rfl (by kernel_rfl)) ?_) | ((with_reducible refine gate_dst (N := 116) rfl ?_); first | refine Kd.event_run rfl (load_run BX3.out 2 rfl 28 _ (by rfl) (by rfl) _ Try.underlying28 rfl (by kernel_rfl)) ?_))
  refine letC (fun W_ => Below w24.heap.size w24 W_ ∧ W_.heap[w24.heap.size]? = some (.cells #[.int .i64 r3, .slice A13_ r4.length c13_] 28 (0, 0))) ?_ ?_
  · refine ⟨?_, ?_⟩
    · repeat (first | exact Below.refl _ _ | apply below_alloc | refine below_set ?_ (by first | exact Nat.le_refl _ | omega | (simp; done)))
    · exact blk_new w24 (.cells #[.int .i64 r3, .slice A13_ r4.length c13_] 28)
  intro w25 hq_
  obtain ⟨hb, hx0_⟩ := hq_
  have Z25 : Aside0 (w24.heap.size ≤ w25.heap.size) := ⟨hb.size⟩
  have n0_ := Aside0.mk (Kd.R_below X10.out hb)
  have n1_ := Aside0.mk (Kd.R_below X11.out hb)
  have n2_ := Aside0.mk (Kd.R_below X12.out hb)
  have n3_ := Aside0.mk (Kd.R_below X13.out hb)
  have n4_ := Aside0.mk (blk_below BX1.out hb)
  have n5_ := Aside0.mk (blk_below BX2.out hb)
  have n6_ := Aside0.mk (blk_below BX3.out hb)
  have n7_ := Aside0.mk (blk_below BX4.out hb)
  have n8_ := Aside0.mk (blk_below BX5.out hb)
  have hb_ := Aside0.mk (below_then HB.out HB.out.size hb)
  clear X10 X11 X12 X13 BX1 BX2 BX3 BX4 BX5
  have X10 := n0_
  have X11 := n1_
  have X12 := n2_
  have X13 := n3_
  have BX1 := n4_
  have BX2 := n5_
  have BX3 := n6_
  have BX4 := n7_
  have BX5 := n8_
  clear n0_ n1_ n2_ n3_ n4_ n5_ n6_ n7_ n8_
  clear HB
  have HB := hb_
  clear hb_
  clear hb
  have BX6 : Aside0 (w25.heap[w24.heap.size]? = some (.cells #[.int .i64 r3, .slice A13_ r4.length c13_] 28 (0, 0))) := ⟨hx0_⟩
  clear hx0_
  have GBX6 : Aside0 (w24.heap.size < w25.heap.size) := ⟨blk_lt BX6.out⟩
  go_wp2_with (first | ((with_reducible refine gate_dst (N := 19) rfl ?_); first | refine Kd.event_run rfl (load_run BX3.out 2 rfl 28 _ (by rfl) (by rfl) _ Try.underlying28 rfl (by kernel_rfl)) ?_ | refine Kd.event_run rfl (load_run BX6.out 2 rfl 28 _ (by rfl) (by rfl) _ Try.underlying28 rfl (by kernel_rfl)) ?_) | ((with_reducible refine gate_dst (N := 24) rfl ?_); first | refine Kd.event_run rfl (load_run BX3.out 2 rfl 28 _ (by rfl) (by rfl) _ Try.underlying28 rfl (by kernel_rfl)) ?_ | refine Kd.event_run rfl (load_run BX6.out 2 rfl 28 _ (by rfl) (by rfl) _ Try.underlying28 rfl (by kernel_rfl)) ?_) | ((with_reducible refine gate_dst (N := 31) rfl ?_); first | refine Kd.event_run rfl (load_run BX3.out 2 rfl 28 _ (by rfl) (by rfl) _ Try.underlying28 rfl (by kernel_rfl)) ?_ | refine Kd.event_run rfl (load_run BX6.out 2 rfl 28 _ (by rfl) (by rfl) _ Try.underlying28 rfl (by kernel_rfl)) ?_) | ((with_reducible refine gate_dst (N := 33) rfl ?_); first | refine Kd.event_run rfl (load_run BX3.out 2 rfl 28 _ (by rfl) (by rfl) _ Try.underlying28 rfl (by kernel_rfl)) ?_ | refine Kd.event_run rfl (load_run BX6.out 2 rfl 28 _ (by rfl) (by rfl) _ Try.underlying28 rfl (by kernel_rfl)) ?_) | ((with_reducible refine gate_dst (N := 38) rfl ?_); first | refine Kd.event_run rfl (load_run BX3.out 2 rfl 28 _ (by rfl) (by rfl) _ Try.underlying28 rfl (by kernel_rfl)) ?_ | refine Kd.event_run rfl (load_run BX6.out 2 rfl 28 _ (by rfl) (by rfl) _ Try.underlying28 rfl (by kernel_rfl)) ?_) | ((with_reducible refine gate_dst (N := 40) rfl ?_); first | refine Kd.event_run rfl (load_run BX3.out 2 rfl 28 _ (by rfl) (by rfl) _ Try.underlying28 rfl (by kernel_rfl)) ?_ | refine Kd.event_run rfl (load_run BX6.out 2 rfl 28 _ (by rfl) (by rfl) _ Try.underlying28 rfl (by kernel_rfl)) ?_) | ((with_reducible refine gate_dst (N := 44) rfl ?_); first | refine Kd.event_run rfl (load_run BX3.out 2 rfl 28 _ (by rfl) (by rfl) _ Try.underlying28 rfl (by kernel_rfl)) ?_ | refine Kd.event_run rfl (load_run BX6.out 2 rfl 28 _ (by rfl) (by rfl) _ Try.underlying28 rfl (by kernel_rfl)) ?_) | ((with_reducible refine gate_dst (N := 45) rfl ?_); first | refine Kd.event_run rfl (load_run BX3.out 2 rfl 28 _ (by rfl) (by rfl) _ Try.underlying28 rfl (by kernel_rfl)) ?_ | refine Kd.event_run rfl (load_run BX6.out 2 rfl 28 _ (by rfl) (by rfl) _ Try.underlying28 rfl (by kernel_rfl)) ?_) | ((with_reducible refine gate_dst (N := 49) rfl ?_); first | refine Kd.event_run rfl (load_run BX3.out 2 rfl 28 _ (by rfl) (by rfl) _ Try.underlying28 rfl (by kernel_rfl)) ?_ | refine Kd.event_run rfl (load_run BX6.out 2 rfl 28 _ (by rfl) (by rfl) _ Try.underlying28 rfl (by kernel_rfl)) ?_) | ((with_reducible refine gate_dst (N := 50) rfl ?_); first | refine Kd.event_run rfl (load_run BX3.out 2 rfl 28 _ (by rfl) (by rfl) _ Try.underlying28 rfl (by kernel_rfl)) ?_ | refine Kd.event_run rfl (load_run BX6.out 2 rfl 28 _ (by rfl) (by rfl) _ Try.underlying28 rfl (by kernel_rfl)) ?_) | ((with_reducible refine gate_dst (N := 58) rfl ?_); first | refine Kd.event_run rfl (load_run BX3.out 2 rfl 28 _ (by rfl) (by rfl) _ Try.underlying28 rfl (by kernel_rfl)) ?_ | refine Kd.event_run rfl (load_run BX6.out 2 rfl 28 _ (by rfl) (by rfl) _ Try.underlying28 rfl (by kernel_rfl)) ?_) | ((with_reducible refine gate_dst (N := 59) rfl ?_); first | refine Kd.event_run rfl (load_run BX3.out 2 rfl 28 _ (by rfl) (by rfl) _ Try.underlying28 rfl (by kernel_rfl)) ?_ | refine Kd.event_run rfl (load_run BX6.out 2 rfl 28 _ (by rfl) (by rfl) _ Try.underlying28 rfl (by kernel_rfl)) ?_) | ((with_reducible refine gate_dst (N := 63) rfl ?_); first | refine Kd.event_run rfl (load_run BX3.out 2 rfl 28 _ (by rfl) (by rfl) _ Try.underlying28 rfl (by kernel_rfl)) ?_ | refine Kd.event_run rfl (load_run BX6.out 2 rfl 28 _ (by rfl) (by rfl) _ Try.underlying28 rfl (by kernel_rfl)) ?_) | ((with_reducible refine gate_dst (N := 64) rfl ?_); first | refine Kd.event_run rfl (load_run BX3.out 2 rfl 28 _ (by rfl) (by rfl) _ Try.underlying28 rfl (by kernel_rfl)) ?_ | refine Kd.event_run rfl (load_run BX6.out 2 rfl 28 _ (by rfl) (by rfl) _ Try.underlying28 rfl (by kernel_rfl)) ?_) | ((with_reducible refine gate_dst (N := 68) rfl ?_); first | refine Kd.event_run rfl (load_run BX3.out 2 rfl 28 _ (by rfl) (by rfl) _ Try.underlying28 rfl (by kernel_rfl)) ?_ | refine Kd.event_run rfl (load_run BX6.out 2 rfl 28 _ (by rfl) (by rfl) _ Try.underlying28 rfl (by kernel_rfl)) ?_) | ((with_reducible refine gate_dst (N := 71) rfl ?_); first | refine Kd.event_run rfl (load_run BX3.out 2 rfl 28 _ (by rfl) (by rfl) _ Try.underlying28 rfl (by kernel_rfl)) ?_ | refine Kd.event_run rfl (load_run BX6.out 2 rfl 28 _ (by rfl) (by rfl) _ Try.underlying28 rfl (by kernel_rfl)) ?_) | ((with_reducible refine gate_dst (N := 77) rfl ?_); first | refine Kd.event_run rfl (load_run BX3.out 2 rfl 28 _ (by rfl) (by rfl) _ Try.underlying28 rfl (by kernel_rfl)) ?_ | refine Kd.event_run rfl (load_run BX6.out 2 rfl 28 _ (by rfl) (by rfl) _ Try.underlying28 rfl (by kernel_rfl)) ?_) | ((with_reducible refine gate_dst (N := 78) rfl ?_); first | refine Kd.event_run rfl (load_run BX3.out 2 rfl 28 _ (by rfl) (by rfl) _ Try.underlying28 rfl (by kernel_rfl)) ?_ | refine Kd.event_run rfl (load_run BX6.out 2 rfl 28 _ (by rfl) (by rfl) _ Try.underlying28 rfl (by kernel_rfl)) ?_) | ((with_reducible refine gate_dst (N := 87) rfl ?_); first | refine Kd.event_run rfl (load_run BX3.out 2 rfl 28 _ (by rfl) (by rfl) _ Try.underlying28 rfl (by kernel_rfl)) ?_ | refine Kd.event_run rfl (load_run BX6.out 2 rfl 28 _ (by rfl) (by rfl) _ Try.underlying28 rfl (by kernel_rfl)) ?_) | ((with_reducible refine gate_dst (N := 90) rfl ?_); first | refine Kd.event_run rfl (load_run BX3.out 2 rfl 28 _ (by rfl) (by rfl) _ Try.underlying28 rfl (by kernel_rfl)) ?_ | refine Kd.event_run rfl (load_run BX6.out 2 rfl 28 _ (by rfl) (by rfl) _ Try.underlying28 rfl (by kernel_rfl)) ?_) | ((with_reducible refine gate_dst (N := 100) rfl ?_); first | refine Kd.event_run rfl (load_run BX3.out 2 rfl 28 _ (by rfl) (by rfl) _ Try.underlying28 rfl (by kernel_rfl)) ?_ | refine Kd.event_run rfl (load_run BX6.out 2 rfl 28 _ (by rfl) (by rfl) _ Try.underlying28 rfl (by kernel_rfl)) ?_) | ((with_reducible refine gate_dst (N := 102) rfl ?_); first | refine Kd.event_run rfl (load_run BX3.out 2 rfl 28 _ (by rfl) (by rfl) _ Try.underlying28 rfl (by kernel_rfl)) ?_ | refine Kd.event_run rfl (load_run BX6.out 2 rfl 28 _ (by rfl) (by rfl) _ Try.underlying28 rfl (by kernel_rfl)) ?_) | ((with_reducible refine gate_dst (N := 107) rfl ?_); first | refine Kd.event_run rfl (load_run BX3.out 2 rfl 28 _ (by rfl) (by rfl) _ Try.underlying28 rfl (by kernel_rfl)) ?_ | refine Kd.event_run rfl (load_run BX6.out 2 rfl 28 _ (by rfl) (by rfl) _ Try.underlying28 rfl (by kernel_rfl)) ?_) | ((with_reducible refine gate_dst (N := 108) rfl ?_); first | refine Kd.event_run rfl (load_run BX3.out 2 rfl 28 _ (by rfl) (by rfl) _ Try.underlying28 rfl (by kernel_rfl)) ?_ | refine Kd.event_run rfl (load_run BX6.out 2 rfl 28 _ (by rfl) (by rfl) _ Try.underlying28 rfl (by kernel_rfl)) ?_) | ((with_reducible refine gate_dst (N := 116) rfl ?_); first | refine Kd.event_run rfl (load_run BX3.out 2 rfl 28 _ (by rfl) (by rfl) _ Try.underlying28 rfl (by kernel_rfl)) ?_ | refine Kd.event_run rfl (load_run BX6.out 2 rfl 28 _ (by rfl) (by rfl) _ Try.underlying28 rfl (by kernel_rfl)) ?_))
  (refine (laws_eqAttr.calls K5 r3 A13_ c13_ r4 r3 A10_ c10_ r4 true w25 (Kd.R_reads' X13.out).2.2 (Kd.R_reads' X13.out).2.1 (Kd.R_reads' X10.out).2.2 (Kd.R_reads' X10.out).2.1 H5.out).mono ?_)
  rintro e w26 ⟨rfl, hb⟩
  have Z26 : Aside0 (w25.heap.size ≤ w26.heap.size) := ⟨hb.size⟩
  have n0_ := Aside0.mk (Kd.R_below X10.out hb)
  have n1_ := Aside0.mk (Kd.R_below X11.out hb)
  have n2_ := Aside0.mk (Kd.R_below X12.out hb)
  have n3_ := Aside0.mk (Kd.R_below X13.out hb)
  have n4_ := Aside0.mk (blk_below BX1.out hb)
  have n5_ := Aside0.mk (blk_below BX2.out hb)
  have n6_ := Aside0.mk (blk_below BX3.out hb)
  have n7_ := Aside0.mk (blk_below BX4.out hb)
  have n8_ := Aside0.mk (blk_below BX5.out hb)
  have n9_ := Aside0.mk (blk_below BX6.out hb)
  have hb_ := Aside0.mk (below_then HB.out HB.out.size hb)
  clear X10 X11 X12 X13 BX1 BX2 BX3 BX4 BX5 BX6
  have X10 := n0_
  have X11 := n1_
  have X12 := n2_
  have X13 := n3_
  have BX1 := n4_
  have BX2 := n5_
  have BX3 := n6_
  have BX4 := n7_
  have BX5 := n8_
  have BX6 := n9_
  clear n0_ n1_ n2_ n3_ n4_ n5_ n6_ n7_ n8_ n9_
  clear HB
  have HB := hb_
  clear hb_
  clear hb
  go_wp2_with (first | ((with_reducible refine gate_dst (N := 19) rfl ?_); first | refine Kd.event_run rfl (load_run BX1.out 2 rfl 24 _ (by rfl) (by rfl) _ Try.underlying24 rfl (by kernel_rfl)) ?_ | refine Kd.event_run rfl (load_run BX4.out 2 rfl 28 _ (by rfl) (by rfl) _ Try.underlying28 rfl (by kernel_rfl)) ?_) | ((with_reducible refine gate_dst (N := 24) rfl ?_); first | refine Kd.event_run rfl (load_run BX1.out 2 rfl 24 _ (by rfl) (by rfl) _ Try.underlying24 rfl (by kernel_rfl)) ?_ | refine Kd.event_run rfl (load_run BX4.out 2 rfl 28 _ (by rfl) (by rfl) _ Try.underlying28 rfl (by kernel_rfl)) ?_) | ((with_reducible refine gate_dst (N := 31) rfl ?_); first | refine Kd.event_run rfl (load_run BX1.out 2 rfl 24 _ (by rfl) (by rfl) _ Try.underlying24 rfl (by kernel_rfl)) ?_ | refine Kd.event_run rfl (load_run BX4.out 2 rfl 28 _ (by rfl) (by rfl) _ Try.underlying28 rfl (by kernel_rfl)) ?_) | ((with_reducible refine gate_dst (N := 33) rfl ?_); first | refine Kd.event_run rfl (load_run BX1.out 2 rfl 24 _ (by rfl) (by rfl) _ Try.underlying24 rfl (by kernel_rfl)) ?_ | refine Kd.event_run rfl (load_run BX4.out 2 rfl 28 _ (by rfl) (by rfl) _ Try.underlying28 rfl (by kernel_rfl)) ?_) | ((with_reducible refine gate_dst (N := 38) rfl ?_); first | refine Kd.event_run rfl (load_run BX1.out 2 rfl 24 _ (by rfl) (by rfl) _ Try.underlying24 rfl (by kernel_rfl)) ?_ | refine Kd.event_run rfl (load_run BX4.out 2 rfl 28 _ (by rfl) (by rfl) _ Try.underlying28 rfl (by kernel_rfl)) ?_) | ((with_reducible refine gate_dst (N := 40) rfl ?_); first | refine Kd.event_run rfl (load_run BX1.out 2 rfl 24 _ (by rfl) (by rfl) _ Try.underlying24 rfl (by kernel_rfl)) ?_ | refine Kd.event_run rfl (load_run BX4.out 2 rfl 28 _ (by rfl) (by rfl) _ Try.underlying28 rfl (by kernel_rfl)) ?_) | ((with_reducible refine gate_dst (N := 44) rfl ?_); first | refine Kd.event_run rfl (load_run BX1.out 2 rfl 24 _ (by rfl) (by rfl) _ Try.underlying24 rfl (by kernel_rfl)) ?_ | refine Kd.event_run rfl (load_run BX4.out 2 rfl 28 _ (by rfl) (by rfl) _ Try.underlying28 rfl (by kernel_rfl)) ?_) | ((with_reducible refine gate_dst (N := 45) rfl ?_); first | refine Kd.event_run rfl (load_run BX1.out 2 rfl 24 _ (by rfl) (by rfl) _ Try.underlying24 rfl (by kernel_rfl)) ?_ | refine Kd.event_run rfl (load_run BX4.out 2 rfl 28 _ (by rfl) (by rfl) _ Try.underlying28 rfl (by kernel_rfl)) ?_) | ((with_reducible refine gate_dst (N := 49) rfl ?_); first | refine Kd.event_run rfl (load_run BX1.out 2 rfl 24 _ (by rfl) (by rfl) _ Try.underlying24 rfl (by kernel_rfl)) ?_ | refine Kd.event_run rfl (load_run BX4.out 2 rfl 28 _ (by rfl) (by rfl) _ Try.underlying28 rfl (by kernel_rfl)) ?_) | ((with_reducible refine gate_dst (N := 50) rfl ?_); first | refine Kd.event_run rfl (load_run BX1.out 2 rfl 24 _ (by rfl) (by rfl) _ Try.underlying24 rfl (by kernel_rfl)) ?_ | refine Kd.event_run rfl (load_run BX4.out 2 rfl 28 _ (by rfl) (by rfl) _ Try.underlying28 rfl (by kernel_rfl)) ?_) | ((with_reducible refine gate_dst (N := 58) rfl ?_); first | refine Kd.event_run rfl (load_run BX1.out 2 rfl 24 _ (by rfl) (by rfl) _ Try.underlying24 rfl (by kernel_rfl)) ?_ | refine Kd.event_run rfl (load_run BX4.out 2 rfl 28 _ (by rfl) (by rfl) _ Try.underlying28 rfl (by kernel_rfl)) ?_) | ((with_reducible refine gate_dst (N := 59) rfl ?_); first | refine Kd.event_run rfl (load_run BX1.out 2 rfl 24 _ (by rfl) (by rfl) _ Try.underlying24 rfl (by kernel_rfl)) ?_ | refine Kd.event_run rfl (load_run BX4.out 2 rfl 28 _ (by rfl) (by rfl) _ Try.underlying28 rfl (by kernel_rfl)) ?_) | ((with_reducible refine gate_dst (N := 63) rfl ?_); first | refine Kd.event_run rfl (load_run BX1.out 2 rfl 24 _ (by rfl) (by rfl) _ Try.underlying24 rfl (by kernel_rfl)) ?_ | refine Kd.event_run rfl (load_run BX4.out 2 rfl 28 _ (by rfl) (by rfl) _ Try.underlying28 rfl (by kernel_rfl)) ?_) | ((with_reducible refine gate_dst (N := 64) rfl ?_); first | refine Kd.event_run rfl (load_run BX1.out 2 rfl 24 _ (by rfl) (by rfl) _ Try.underlying24 rfl (by kernel_rfl)) ?_ | refine Kd.event_run rfl (load_run BX4.out 2 rfl 28 _ (by rfl) (by rfl) _ Try.underlying28 rfl (by kernel_rfl)) ?_) | ((with_reducible refine gate_dst (N := 68) rfl ?_); first | refine Kd.event_run rfl (load_run BX1.out 2 rfl 24 _ (by rfl) (by rfl) _ Try.underlying24 rfl (by kernel_rfl)) ?_ | refine Kd.event_run rfl (load_run BX4.out 2 rfl 28 _ (by rfl) (by rfl) _ Try.underlying28 rfl (by kernel_rfl)) ?_) | ((with_reducible refine gate_dst (N := 71) rfl ?_); first | refine Kd.event_run rfl (load_run BX1.out 2 rfl 24 _ (by rfl) (by rfl) _ Try.underlying24 rfl (by kernel_rfl)) ?_ | refine Kd.event_run rfl (load_run BX4.out 2 rfl 28 _ (by rfl) (by rfl) _ Try.underlying28 rfl (by kernel_rfl)) ?_) | ((with_reducible refine gate_dst (N := 77) rfl ?_); first | refine Kd.event_run rfl (load_run BX1.out 2 rfl 24 _ (by rfl) (by rfl) _ Try.underlying24 rfl (by kernel_rfl)) ?_ | refine Kd.event_run rfl (load_run BX4.out 2 rfl 28 _ (by rfl) (by rfl) _ Try.underlying28 rfl (by kernel_rfl)) ?_) | ((with_reducible refine gate_dst (N := 78) rfl ?_); first | refine Kd.event_run rfl (load_run BX1.out 2 rfl 24 _ (by rfl) (by rfl) _ Try.underlying24 rfl (by kernel_rfl)) ?_ | refine Kd.event_run rfl (load_run BX4.out 2 rfl 28 _ (by rfl) (by rfl) _ Try.underlying28 rfl (by kernel_rfl)) ?_) | ((with_reducible refine gate_dst (N := 87) rfl ?_); first | refine Kd.event_run rfl (load_run BX1.out 2 rfl 24 _ (by rfl) (by rfl) _ Try.underlying24 rfl (by kernel_rfl)) ?_ | refine Kd.event_run rfl (load_run BX4.out 2 rfl 28 _ (by rfl) (by rfl) _ Try.underlying28 rfl (by kernel_rfl)) ?_) | ((with_reducible refine gate_dst (N := 90) rfl ?_); first | refine Kd.event_run rfl (load_run BX1.out 2 rfl 24 _ (by rfl) (by rfl) _ Try.underlying24 rfl (by kernel_rfl)) ?_ | refine Kd.event_run rfl (load_run BX4.out 2 rfl 28 _ (by rfl) (by rfl) _ Try.underlying28 rfl (by kernel_rfl)) ?_) | ((with_reducible refine gate_dst (N := 100) rfl ?_); first | refine Kd.event_run rfl (load_run BX1.out 2 rfl 24 _ (by rfl) (by rfl) _ Try.underlying24 rfl (by kernel_rfl)) ?_ | refine Kd.event_run rfl (load_run BX4.out 2 rfl 28 _ (by rfl) (by rfl) _ Try.underlying28 rfl (by kernel_rfl)) ?_) | ((with_reducible refine gate_dst (N := 102) rfl ?_); first | refine Kd.event_run rfl (load_run BX1.out 2 rfl 24 _ (by rfl) (by rfl) _ Try.underlying24 rfl (by kernel_rfl)) ?_ | refine Kd.event_run rfl (load_run BX4.out 2 rfl 28 _ (by rfl) (by rfl) _ Try.underlying28 rfl (by kernel_rfl)) ?_) | ((with_reducible refine gate_dst (N := 107) rfl ?_); first | refine Kd.event_run rfl (load_run BX1.out 2 rfl 24 _ (by rfl) (by rfl) _ Try.underlying24 rfl (by kernel_rfl)) ?_ | refine Kd.event_run rfl (load_run BX4.out 2 rfl 28 _ (by rfl) (by rfl) _ Try.underlying28 rfl (by kernel_rfl)) ?_) | ((with_reducible refine gate_dst (N := 108) rfl ?_); first | refine Kd.event_run rfl (load_run BX1.out 2 rfl 24 _ (by rfl) (by rfl) _ Try.underlying24 rfl (by kernel_rfl)) ?_ | refine Kd.event_run rfl (load_run BX4.out 2 rfl 28 _ (by rfl) (by rfl) _ Try.underlying28 rfl (by kernel_rfl)) ?_) | ((with_reducible refine gate_dst (N := 116) rfl ?_); first | refine Kd.event_run rfl (load_run BX1.out 2 rfl 24 _ (by rfl) (by rfl) _ Try.underlying24 rfl (by kernel_rfl)) ?_ | refine Kd.event_run rfl (load_run BX4.out 2 rfl 28 _ (by rfl) (by rfl) _ Try.underlying28 rfl (by kernel_rfl)) ?_))
  refine start_ (n := 5) (S := fun w' => w'.heap[w.heap.size]? = some (.cells #[.int .i64 a1_0, .slice A1_1 l1_1.length c1_1] 24 (0, 0)) ∧ w'.heap[w20.heap.size]? = some (.cells #[.int .i64 a1_0, .slice A11_ l1_1.length c11_] 28 (0, 0))) (ds := []) #[false, false, false, false, false] (by kernel_rfl) rfl rfl ⟨BX1.out, BX4.out⟩ (fun hHeld => ?_)
  have hb : Below w26.heap.size w26 w26.drew := below_drew (Below.refl _ _)
  generalize w26.drew = w27 at hb hHeld ⊢
  have Z27 : Aside0 (w26.heap.size ≤ w27.heap.size) := ⟨hb.size⟩
  have n0_ := Aside0.mk (Kd.R_below X10.out hb)
  have n1_ := Aside0.mk (Kd.R_below X11.out hb)
  have n2_ := Aside0.mk (Kd.R_below X12.out hb)
  have n3_ := Aside0.mk (Kd.R_below X13.out hb)
  have n4_ := Aside0.mk (blk_below BX1.out hb)
  have n5_ := Aside0.mk (blk_below BX2.out hb)
  have n6_ := Aside0.mk (blk_below BX3.out hb)
  have n7_ := Aside0.mk (blk_below BX4.out hb)
  have n8_ := Aside0.mk (blk_below BX5.out hb)
  have n9_ := Aside0.mk (blk_below BX6.out hb)
  have hb_ := Aside0.mk (below_then HB.out HB.out.size hb)
  clear X10 X11 X12 X13 BX1 BX2 BX3 BX4 BX5 BX6
  have X10 := n0_
  have X11 := n1_
  have X12 := n2_
  have X13 := n3_
  have BX1 := n4_
  have BX2 := n5_
  have BX3 := n6_
  have BX4 := n7_
  have BX5 := n8_
  have BX6 := n9_
  clear n0_ n1_ n2_ n3_ n4_ n5_ n6_ n7_ n8_ n9_
  clear HB
  have HB := hb_
  clear hb_
  clear hb
  refine take_ (i := 0) (N := some 58) (v := ?_) (a' := ?_) #[true, false, false, false, false] rfl rfl (by kernel_rfl) (fun _ _ _ h => h) (Or.inl ⟨by rfl, ?_⟩) hHeld ?_ ?_
  rotate_left
  · rintro w' ⟨s0, s1⟩
    first | (refine Eq.trans (load_run s0 2 rfl 24 _ (by rfl) (by rfl) _ Try.underlying24 rfl (by kernel_rfl)) ?_; with_reducible rfl) | (refine Eq.trans (load_run s1 2 rfl 28 _ (by rfl) (by rfl) _ Try.underlying28 rfl (by kernel_rfl)) ?_; with_reducible rfl)
  rotate_left
  · simp only [Act.put, List.setIfInBounds_toArray, List.set_cons_zero, List.set_cons_succ, i64_w, i32_w]
    rfl
  refine take_ (i := 1) (N := some 59) (v := ?_) (a' := ?_) #[true, true, false, false, false] rfl rfl (by kernel_rfl) (fun _ _ _ h => h) (Or.inl ⟨by rfl, ?_⟩) hHeld ?_ ?_
  rotate_left
  · rintro w' ⟨s0, s1⟩
    first | (refine Eq.trans (load_run s0 2 rfl 24 _ (by rfl) (by rfl) _ Try.underlying24 rfl (by kernel_rfl)) ?_; with_reducible rfl) | (refine Eq.trans (load_run s1 2 rfl 28 _ (by rfl) (by rfl) _ Try.underlying28 rfl (by kernel_rfl)) ?_; with_reducible rfl)
  rotate_left
  · simp only [Act.put, List.setIfInBounds_toArray, List.set_cons_zero, List.set_cons_succ, i64_w, i32_w]
    rfl
  refine one_ (i := 2) (N := some 60) #[true, true, true, false, false] rfl rfl (by kernel_rfl) (by decide) (fun K hK => ?_)
  refine goes_ Try.func14 (by kernel_rfl) rfl #[.agg #[.int .i64 a1_0, .slice A1_1 l1_1.length c1_1]] (by rfl) rfl rfl (by (try simp only [List.map_toArray, List.map_cons, List.map_nil]); first | done | rfl) ?_
  (refine (laws_toAttr.calls K1 a1_0 A1_1 c1_1 l1_1 a1_0 l1_1 w27 (Kd.C_below HR1_1.out HB.out) HC1_1.out H1.out).mono ?_)
  rintro e w28 ⟨v1_, rfl, hS0, hb⟩
  refine ⟨_, rfl, ?_⟩
  have X14 : Aside0 (Kd.R (Kd.int .i64) 3 w28 w.heap.size (fun k => w27.heap.size ≤ k ∧ k < w28.heap.size) v1_ l1_1) := ⟨Kd.R_mono (Kd.R_lower (Kd.R_bound hS0) HB.out.size) (fun k hk => ⟨hk.2.1, hk.2.2.1⟩)⟩
  have Z28 : Aside0 (w27.heap.size ≤ w28.heap.size) := ⟨hb.size⟩
  have n0_ := Aside0.mk (Kd.R_below X10.out hb)
  have n1_ := Aside0.mk (Kd.R_below X11.out hb)
  have n2_ := Aside0.mk (Kd.R_below X12.out hb)
  have n3_ := Aside0.mk (Kd.R_below X13.out hb)
  have n4_ := Aside0.mk (blk_below BX1.out hb)
  have n5_ := Aside0.mk (blk_below BX2.out hb)
  have n6_ := Aside0.mk (blk_below BX3.out hb)
  have n7_ := Aside0.mk (blk_below BX4.out hb)
  have n8_ := Aside0.mk (blk_below BX5.out hb)
  have n9_ := Aside0.mk (blk_below BX6.out hb)
  have hb_ := Aside0.mk (below_then HB.out HB.out.size hb)
  clear X10 X11 X12 X13 BX1 BX2 BX3 BX4 BX5 BX6
  have X10 := n0_
  have X11 := n1_
  have X12 := n2_
  have X13 := n3_
  have BX1 := n4_
  have BX2 := n5_
  have BX3 := n6_
  have BX4 := n7_
  have BX5 := n8_
  have BX6 := n9_
  clear n0_ n1_ n2_ n3_ n4_ n5_ n6_ n7_ n8_ n9_
  clear HB
  have HB := hb_
  clear hb_
  clear hb hS0
  obtain ⟨A14_, c14_, rfl⟩ := Kd.R_slice X14.out
  refine hK.out _ _ ⟨BX1.out, BX4.out⟩ (fun hHeld => ?_)
  clear hK K
  refine norm_ (a' := ?_) ?_ ?_
  rotate_left
  · show Act.put _ (some 60) _ = _
    simp only [Act.put, List.setIfInBounds_toArray, List.set_cons_zero, List.set_cons_succ, i64_w, i32_w]
    rfl
  obtain ⟨⟨K6, h6⟩, hF⟩ := HF.out
  clear HF
  have HF := Aside0.mk hF
  clear hF
  have H6 := Aside0.mk h6
  clear h6
  refine one_ (i := 3) (N := some 61) #[true, true, true, true, false] rfl rfl (by kernel_rfl) (by decide) (fun K hK => ?_)
  refine goes_ Try.func16 (by kernel_rfl) rfl #[.agg #[.int .i64 a1_0, .slice A11_ l1_1.length c11_], .agg #[.int .i64 a1_0, .slice A14_ l1_1.length c14_]] (by rfl) rfl rfl (by (try simp only [List.map_toArray, List.map_cons, List.map_nil]); first | done | rfl) ?_
  (refine (laws_eqAttr.calls K6 a1_0 A11_ c11_ l1_1 a1_0 A14_ c14_ l1_1 true w28 (Kd.R_reads' X11.out).2.2 (Kd.R_reads' X11.out).2.1 (Kd.R_reads' X14.out).2.2 (Kd.R_reads' X14.out).2.1 H6.out).mono ?_)
  rintro e w29 ⟨rfl, hb⟩
  refine ⟨_, rfl, ?_⟩
  have Z29 : Aside0 (w28.heap.size ≤ w29.heap.size) := ⟨hb.size⟩
  have n0_ := Aside0.mk (Kd.R_below X10.out hb)
  have n1_ := Aside0.mk (Kd.R_below X11.out hb)
  have n2_ := Aside0.mk (Kd.R_below X12.out hb)
  have n3_ := Aside0.mk (Kd.R_below X13.out hb)
  have n4_ := Aside0.mk (Kd.R_below X14.out hb)
  have n5_ := Aside0.mk (blk_below BX1.out hb)
  have n6_ := Aside0.mk (blk_below BX2.out hb)
  have n7_ := Aside0.mk (blk_below BX3.out hb)
  have n8_ := Aside0.mk (blk_below BX4.out hb)
  have n9_ := Aside0.mk (blk_below BX5.out hb)
  have n10_ := Aside0.mk (blk_below BX6.out hb)
  have hb_ := Aside0.mk (below_then HB.out HB.out.size hb)
  clear X10 X11 X12 X13 X14 BX1 BX2 BX3 BX4 BX5 BX6
  have X10 := n0_
  have X11 := n1_
  have X12 := n2_
  have X13 := n3_
  have X14 := n4_
  have BX1 := n5_
  have BX2 := n6_
  have BX3 := n7_
  have BX4 := n8_
  have BX5 := n9_
  have BX6 := n10_
  clear n0_ n1_ n2_ n3_ n4_ n5_ n6_ n7_ n8_ n9_ n10_
  clear HB
  have HB := hb_
  clear hb_
  clear hb
  refine hK.out _ _ ⟨BX1.out, BX4.out⟩ (fun hHeld => ?_)
  clear hK K
  refine norm_ (a' := ?_) ?_ ?_
  rotate_left
  · show Act.put _ (some 61) _ = _
    simp only [Act.put, List.setIfInBounds_toArray, List.set_cons_zero, List.set_cons_succ, i64_w, i32_w]
    rfl
  refine pure_ (i := 4) (N := some 62) (v := ?_) (a' := ?_) #[true, true, true, true, true] rfl rfl (by kernel_rfl) (fun _ _ _ h => h) (Or.inl ⟨by rfl, ?_⟩) ?_ ?_
  rotate_left
  · intro w'
    go_simp
    with_reducible rfl
  rotate_left
  · simp only [Act.put, List.setIfInBounds_toArray, List.set_cons_zero, List.set_cons_succ, i64_w, i32_w]
    rfl
  refine done_ (by kernel_rfl) ?_
  go_wp2_with (first | ((with_reducible refine gate_dst (N := 19) rfl ?_); first | refine Kd.event_run rfl (load_run BX2.out 2 rfl 24 _ (by rfl) (by rfl) _ Try.underlying24 rfl (by kernel_rfl)) ?_ | refine Kd.event_run rfl (load_run BX5.out 2 rfl 28 _ (by rfl) (by rfl) _ Try.underlying28 rfl (by kernel_rfl)) ?_) | ((with_reducible refine gate_dst (N := 24) rfl ?_); first | refine Kd.event_run rfl (load_run BX2.out 2 rfl 24 _ (by rfl) (by rfl) _ Try.underlying24 rfl (by kernel_rfl)) ?_ | refine Kd.event_run rfl (load_run BX5.out 2 rfl 28 _ (by rfl) (by rfl) _ Try.underlying28 rfl (by kernel_rfl)) ?_) | ((with_reducible refine gate_dst (N := 31) rfl ?_); first | refine Kd.event_run rfl (load_run BX2.out 2 rfl 24 _ (by rfl) (by rfl) _ Try.underlying24 rfl (by kernel_rfl)) ?_ | refine Kd.event_run rfl (load_run BX5.out 2 rfl 28 _ (by rfl) (by rfl) _ Try.underlying28 rfl (by kernel_rfl)) ?_) | ((with_reducible refine gate_dst (N := 33) rfl ?_); first | refine Kd.event_run rfl (load_run BX2.out 2 rfl 24 _ (by rfl) (by rfl) _ Try.underlying24 rfl (by kernel_rfl)) ?_ | refine Kd.event_run rfl (load_run BX5.out 2 rfl 28 _ (by rfl) (by rfl) _ Try.underlying28 rfl (by kernel_rfl)) ?_) | ((with_reducible refine gate_dst (N := 38) rfl ?_); first | refine Kd.event_run rfl (load_run BX2.out 2 rfl 24 _ (by rfl) (by rfl) _ Try.underlying24 rfl (by kernel_rfl)) ?_ | refine Kd.event_run rfl (load_run BX5.out 2 rfl 28 _ (by rfl) (by rfl) _ Try.underlying28 rfl (by kernel_rfl)) ?_) | ((with_reducible refine gate_dst (N := 40) rfl ?_); first | refine Kd.event_run rfl (load_run BX2.out 2 rfl 24 _ (by rfl) (by rfl) _ Try.underlying24 rfl (by kernel_rfl)) ?_ | refine Kd.event_run rfl (load_run BX5.out 2 rfl 28 _ (by rfl) (by rfl) _ Try.underlying28 rfl (by kernel_rfl)) ?_) | ((with_reducible refine gate_dst (N := 44) rfl ?_); first | refine Kd.event_run rfl (load_run BX2.out 2 rfl 24 _ (by rfl) (by rfl) _ Try.underlying24 rfl (by kernel_rfl)) ?_ | refine Kd.event_run rfl (load_run BX5.out 2 rfl 28 _ (by rfl) (by rfl) _ Try.underlying28 rfl (by kernel_rfl)) ?_) | ((with_reducible refine gate_dst (N := 45) rfl ?_); first | refine Kd.event_run rfl (load_run BX2.out 2 rfl 24 _ (by rfl) (by rfl) _ Try.underlying24 rfl (by kernel_rfl)) ?_ | refine Kd.event_run rfl (load_run BX5.out 2 rfl 28 _ (by rfl) (by rfl) _ Try.underlying28 rfl (by kernel_rfl)) ?_) | ((with_reducible refine gate_dst (N := 49) rfl ?_); first | refine Kd.event_run rfl (load_run BX2.out 2 rfl 24 _ (by rfl) (by rfl) _ Try.underlying24 rfl (by kernel_rfl)) ?_ | refine Kd.event_run rfl (load_run BX5.out 2 rfl 28 _ (by rfl) (by rfl) _ Try.underlying28 rfl (by kernel_rfl)) ?_) | ((with_reducible refine gate_dst (N := 50) rfl ?_); first | refine Kd.event_run rfl (load_run BX2.out 2 rfl 24 _ (by rfl) (by rfl) _ Try.underlying24 rfl (by kernel_rfl)) ?_ | refine Kd.event_run rfl (load_run BX5.out 2 rfl 28 _ (by rfl) (by rfl) _ Try.underlying28 rfl (by kernel_rfl)) ?_) | ((with_reducible refine gate_dst (N := 58) rfl ?_); first | refine Kd.event_run rfl (load_run BX2.out 2 rfl 24 _ (by rfl) (by rfl) _ Try.underlying24 rfl (by kernel_rfl)) ?_ | refine Kd.event_run rfl (load_run BX5.out 2 rfl 28 _ (by rfl) (by rfl) _ Try.underlying28 rfl (by kernel_rfl)) ?_) | ((with_reducible refine gate_dst (N := 59) rfl ?_); first | refine Kd.event_run rfl (load_run BX2.out 2 rfl 24 _ (by rfl) (by rfl) _ Try.underlying24 rfl (by kernel_rfl)) ?_ | refine Kd.event_run rfl (load_run BX5.out 2 rfl 28 _ (by rfl) (by rfl) _ Try.underlying28 rfl (by kernel_rfl)) ?_) | ((with_reducible refine gate_dst (N := 63) rfl ?_); first | refine Kd.event_run rfl (load_run BX2.out 2 rfl 24 _ (by rfl) (by rfl) _ Try.underlying24 rfl (by kernel_rfl)) ?_ | refine Kd.event_run rfl (load_run BX5.out 2 rfl 28 _ (by rfl) (by rfl) _ Try.underlying28 rfl (by kernel_rfl)) ?_) | ((with_reducible refine gate_dst (N := 64) rfl ?_); first | refine Kd.event_run rfl (load_run BX2.out 2 rfl 24 _ (by rfl) (by rfl) _ Try.underlying24 rfl (by kernel_rfl)) ?_ | refine Kd.event_run rfl (load_run BX5.out 2 rfl 28 _ (by rfl) (by rfl) _ Try.underlying28 rfl (by kernel_rfl)) ?_) | ((with_reducible refine gate_dst (N := 68) rfl ?_); first | refine Kd.event_run rfl (load_run BX2.out 2 rfl 24 _ (by rfl) (by rfl) _ Try.underlying24 rfl (by kernel_rfl)) ?_ | refine Kd.event_run rfl (load_run BX5.out 2 rfl 28 _ (by rfl) (by rfl) _ Try.underlying28 rfl (by kernel_rfl)) ?_) | ((with_reducible refine gate_dst (N := 71) rfl ?_); first | refine Kd.event_run rfl (load_run BX2.out 2 rfl 24 _ (by rfl) (by rfl) _ Try.underlying24 rfl (by kernel_rfl)) ?_ | refine Kd.event_run rfl (load_run BX5.out 2 rfl 28 _ (by rfl) (by rfl) _ Try.underlying28 rfl (by kernel_rfl)) ?_) | ((with_reducible refine gate_dst (N := 77) rfl ?_); first | refine Kd.event_run rfl (load_run BX2.out 2 rfl 24 _ (by rfl) (by rfl) _ Try.underlying24 rfl (by kernel_rfl)) ?_ | refine Kd.event_run rfl (load_run BX5.out 2 rfl 28 _ (by rfl) (by rfl) _ Try.underlying28 rfl (by kernel_rfl)) ?_) | ((with_reducible refine gate_dst (N := 78) rfl ?_); first | refine Kd.event_run rfl (load_run BX2.out 2 rfl 24 _ (by rfl) (by rfl) _ Try.underlying24 rfl (by kernel_rfl)) ?_ | refine Kd.event_run rfl (load_run BX5.out 2 rfl 28 _ (by rfl) (by rfl) _ Try.underlying28 rfl (by kernel_rfl)) ?_) | ((with_reducible refine gate_dst (N := 87) rfl ?_); first | refine Kd.event_run rfl (load_run BX2.out 2 rfl 24 _ (by rfl) (by rfl) _ Try.underlying24 rfl (by kernel_rfl)) ?_ | refine Kd.event_run rfl (load_run BX5.out 2 rfl 28 _ (by rfl) (by rfl) _ Try.underlying28 rfl (by kernel_rfl)) ?_) | ((with_reducible refine gate_dst (N := 90) rfl ?_); first | refine Kd.event_run rfl (load_run BX2.out 2 rfl 24 _ (by rfl) (by rfl) _ Try.underlying24 rfl (by kernel_rfl)) ?_ | refine Kd.event_run rfl (load_run BX5.out 2 rfl 28 _ (by rfl) (by rfl) _ Try.underlying28 rfl (by kernel_rfl)) ?_) | ((with_reducible refine gate_dst (N := 100) rfl ?_); first | refine Kd.event_run rfl (load_run BX2.out 2 rfl 24 _ (by rfl) (by rfl) _ Try.underlying24 rfl (by kernel_rfl)) ?_ | refine Kd.event_run rfl (load_run BX5.out 2 rfl 28 _ (by rfl) (by rfl) _ Try.underlying28 rfl (by kernel_rfl)) ?_) | ((with_reducible refine gate_dst (N := 102) rfl ?_); first | refine Kd.event_run rfl (load_run BX2.out 2 rfl 24 _ (by rfl) (by rfl) _ Try.underlying24 rfl (by kernel_rfl)) ?_ | refine Kd.event_run rfl (load_run BX5.out 2 rfl 28 _ (by rfl) (by rfl) _ Try.underlying28 rfl (by kernel_rfl)) ?_) | ((with_reducible refine gate_dst (N := 107) rfl ?_); first | refine Kd.event_run rfl (load_run BX2.out 2 rfl 24 _ (by rfl) (by rfl) _ Try.underlying24 rfl (by kernel_rfl)) ?_ | refine Kd.event_run rfl (load_run BX5.out 2 rfl 28 _ (by rfl) (by rfl) _ Try.underlying28 rfl (by kernel_rfl)) ?_) | ((with_reducible refine gate_dst (N := 108) rfl ?_); first | refine Kd.event_run rfl (load_run BX2.out 2 rfl 24 _ (by rfl) (by rfl) _ Try.underlying24 rfl (by kernel_rfl)) ?_ | refine Kd.event_run rfl (load_run BX5.out 2 rfl 28 _ (by rfl) (by rfl) _ Try.underlying28 rfl (by kernel_rfl)) ?_) | ((with_reducible refine gate_dst (N := 116) rfl ?_); first | refine Kd.event_run rfl (load_run BX2.out 2 rfl 24 _ (by rfl) (by rfl) _ Try.underlying24 rfl (by kernel_rfl)) ?_ | refine Kd.event_run rfl (load_run BX5.out 2 rfl 28 _ (by rfl) (by rfl) _ Try.underlying28 rfl (by kernel_rfl)) ?_))
  refine start_ (n := 5) (S := fun w' => w'.heap[w.heap.size + 1]? = some (.cells #[.int .i64 a2_0, .slice A2_1 l2_1.length c2_1] 24 (0, 0)) ∧ w'.heap[w22.heap.size]? = some (.cells #[.int .i64 a2_0, .slice A12_ l2_1.length c12_] 28 (0, 0))) (ds := []) #[false, false, false, false, false] (by kernel_rfl) rfl rfl ⟨BX2.out, BX5.out⟩ (fun hHeld => ?_)
  have hb : Below w29.heap.size w29 w29.drew := below_drew (Below.refl _ _)
  generalize w29.drew = w30 at hb hHeld ⊢
  have Z30 : Aside0 (w29.heap.size ≤ w30.heap.size) := ⟨hb.size⟩
  have n0_ := Aside0.mk (Kd.R_below X10.out hb)
  have n1_ := Aside0.mk (Kd.R_below X11.out hb)
  have n2_ := Aside0.mk (Kd.R_below X12.out hb)
  have n3_ := Aside0.mk (Kd.R_below X13.out hb)
  have n4_ := Aside0.mk (Kd.R_below X14.out hb)
  have n5_ := Aside0.mk (blk_below BX1.out hb)
  have n6_ := Aside0.mk (blk_below BX2.out hb)
  have n7_ := Aside0.mk (blk_below BX3.out hb)
  have n8_ := Aside0.mk (blk_below BX4.out hb)
  have n9_ := Aside0.mk (blk_below BX5.out hb)
  have n10_ := Aside0.mk (blk_below BX6.out hb)
  have hb_ := Aside0.mk (below_then HB.out HB.out.size hb)
  clear X10 X11 X12 X13 X14 BX1 BX2 BX3 BX4 BX5 BX6
  have X10 := n0_
  have X11 := n1_
  have X12 := n2_
  have X13 := n3_
  have X14 := n4_
  have BX1 := n5_
  have BX2 := n6_
  have BX3 := n7_
  have BX4 := n8_
  have BX5 := n9_
  have BX6 := n10_
  clear n0_ n1_ n2_ n3_ n4_ n5_ n6_ n7_ n8_ n9_ n10_
  clear HB
  have HB := hb_
  clear hb_
  clear hb
  refine take_ (i := 0) (N := some 63) (v := ?_) (a' := ?_) #[true, false, false, false, false] rfl rfl (by kernel_rfl) (fun _ _ _ h => h) (Or.inl ⟨by rfl, ?_⟩) hHeld ?_ ?_
  rotate_left
  · rintro w' ⟨s0, s1⟩
    first | (refine Eq.trans (load_run s0 2 rfl 24 _ (by rfl) (by rfl) _ Try.underlying24 rfl (by kernel_rfl)) ?_; with_reducible rfl) | (refine Eq.trans (load_run s1 2 rfl 28 _ (by rfl) (by rfl) _ Try.underlying28 rfl (by kernel_rfl)) ?_; with_reducible rfl)
  rotate_left
  · simp only [Act.put, List.setIfInBounds_toArray, List.set_cons_zero, List.set_cons_succ, i64_w, i32_w]
    rfl
  refine take_ (i := 1) (N := some 64) (v := ?_) (a' := ?_) #[true, true, false, false, false] rfl rfl (by kernel_rfl) (fun _ _ _ h => h) (Or.inl ⟨by rfl, ?_⟩) hHeld ?_ ?_
  rotate_left
  · rintro w' ⟨s0, s1⟩
    first | (refine Eq.trans (load_run s0 2 rfl 24 _ (by rfl) (by rfl) _ Try.underlying24 rfl (by kernel_rfl)) ?_; with_reducible rfl) | (refine Eq.trans (load_run s1 2 rfl 28 _ (by rfl) (by rfl) _ Try.underlying28 rfl (by kernel_rfl)) ?_; with_reducible rfl)
  rotate_left
  · simp only [Act.put, List.setIfInBounds_toArray, List.set_cons_zero, List.set_cons_succ, i64_w, i32_w]
    rfl
  refine one_ (i := 2) (N := some 65) #[true, true, true, false, false] rfl rfl (by kernel_rfl) (by decide) (fun K hK => ?_)
  refine goes_ Try.func14 (by kernel_rfl) rfl #[.agg #[.int .i64 a2_0, .slice A2_1 l2_1.length c2_1]] (by rfl) rfl rfl (by (try simp only [List.map_toArray, List.map_cons, List.map_nil]); first | done | rfl) ?_
  (refine (laws_toAttr.calls K2 a2_0 A2_1 c2_1 l2_1 a2_0 l2_1 w30 (Kd.C_below HR2_1.out HB.out) HC2_1.out H2.out).mono ?_)
  rintro e w31 ⟨v1_, rfl, hS0, hb⟩
  refine ⟨_, rfl, ?_⟩
  have X15 : Aside0 (Kd.R (Kd.int .i64) 3 w31 w.heap.size (fun k => w30.heap.size ≤ k ∧ k < w31.heap.size) v1_ l2_1) := ⟨Kd.R_mono (Kd.R_lower (Kd.R_bound hS0) HB.out.size) (fun k hk => ⟨hk.2.1, hk.2.2.1⟩)⟩
  have Z31 : Aside0 (w30.heap.size ≤ w31.heap.size) := ⟨hb.size⟩
  have n0_ := Aside0.mk (Kd.R_below X10.out hb)
  have n1_ := Aside0.mk (Kd.R_below X11.out hb)
  have n2_ := Aside0.mk (Kd.R_below X12.out hb)
  have n3_ := Aside0.mk (Kd.R_below X13.out hb)
  have n4_ := Aside0.mk (Kd.R_below X14.out hb)
  have n5_ := Aside0.mk (blk_below BX1.out hb)
  have n6_ := Aside0.mk (blk_below BX2.out hb)
  have n7_ := Aside0.mk (blk_below BX3.out hb)
  have n8_ := Aside0.mk (blk_below BX4.out hb)
  have n9_ := Aside0.mk (blk_below BX5.out hb)
  have n10_ := Aside0.mk (blk_below BX6.out hb)
  have hb_ := Aside0.mk (below_then HB.out HB.out.size hb)
  clear X10 X11 X12 X13 X14 BX1 BX2 BX3 BX4 BX5 BX6
  have X10 := n0_
  have X11 := n1_
  have X12 := n2_
  have X13 := n3_
  have X14 := n4_
  have BX1 := n5_
  have BX2 := n6_
  have BX3 := n7_
  have BX4 := n8_
  have BX5 := n9_
  have BX6 := n10_
  clear n0_ n1_ n2_ n3_ n4_ n5_ n6_ n7_ n8_ n9_ n10_
  clear HB
  have HB := hb_
  clear hb_
  clear hb hS0
  obtain ⟨A15_, c15_, rfl⟩ := Kd.R_slice X15.out
  refine hK.out _ _ ⟨BX2.out, BX5.out⟩ (fun hHeld => ?_)
  clear hK K
  refine norm_ (a' := ?_) ?_ ?_
  rotate_left
  · show Act.put _ (some 65) _ = _
    simp only [Act.put, List.setIfInBounds_toArray, List.set_cons_zero, List.set_cons_succ, i64_w, i32_w]
    rfl
  obtain ⟨⟨K7, h7⟩, hF⟩ := HF.out
  clear HF
  have HF := Aside0.mk hF
  clear hF
  have H7 := Aside0.mk h7
  clear h7
  refine one_ (i := 3) (N := some 66) #[true, true, true, true, false] rfl rfl (by kernel_rfl) (by decide) (fun K hK => ?_)
  refine goes_ Try.func16 (by kernel_rfl) rfl #[.agg #[.int .i64 a2_0, .slice A12_ l2_1.length c12_], .agg #[.int .i64 a2_0, .slice A15_ l2_1.length c15_]] (by rfl) rfl rfl (by (try simp only [List.map_toArray, List.map_cons, List.map_nil]); first | done | rfl) ?_
  (refine (laws_eqAttr.calls K7 a2_0 A12_ c12_ l2_1 a2_0 A15_ c15_ l2_1 true w31 (Kd.R_reads' X12.out).2.2 (Kd.R_reads' X12.out).2.1 (Kd.R_reads' X15.out).2.2 (Kd.R_reads' X15.out).2.1 H7.out).mono ?_)
  rintro e w32 ⟨rfl, hb⟩
  refine ⟨_, rfl, ?_⟩
  have Z32 : Aside0 (w31.heap.size ≤ w32.heap.size) := ⟨hb.size⟩
  have n0_ := Aside0.mk (Kd.R_below X10.out hb)
  have n1_ := Aside0.mk (Kd.R_below X11.out hb)
  have n2_ := Aside0.mk (Kd.R_below X12.out hb)
  have n3_ := Aside0.mk (Kd.R_below X13.out hb)
  have n4_ := Aside0.mk (Kd.R_below X14.out hb)
  have n5_ := Aside0.mk (Kd.R_below X15.out hb)
  have n6_ := Aside0.mk (blk_below BX1.out hb)
  have n7_ := Aside0.mk (blk_below BX2.out hb)
  have n8_ := Aside0.mk (blk_below BX3.out hb)
  have n9_ := Aside0.mk (blk_below BX4.out hb)
  have n10_ := Aside0.mk (blk_below BX5.out hb)
  have n11_ := Aside0.mk (blk_below BX6.out hb)
  have hb_ := Aside0.mk (below_then HB.out HB.out.size hb)
  clear X10 X11 X12 X13 X14 X15 BX1 BX2 BX3 BX4 BX5 BX6
  have X10 := n0_
  have X11 := n1_
  have X12 := n2_
  have X13 := n3_
  have X14 := n4_
  have X15 := n5_
  have BX1 := n6_
  have BX2 := n7_
  have BX3 := n8_
  have BX4 := n9_
  have BX5 := n10_
  have BX6 := n11_
  clear n0_ n1_ n2_ n3_ n4_ n5_ n6_ n7_ n8_ n9_ n10_ n11_
  clear HB
  have HB := hb_
  clear hb_
  clear hb
  refine hK.out _ _ ⟨BX2.out, BX5.out⟩ (fun hHeld => ?_)
  clear hK K
  refine norm_ (a' := ?_) ?_ ?_
  rotate_left
  · show Act.put _ (some 66) _ = _
    simp only [Act.put, List.setIfInBounds_toArray, List.set_cons_zero, List.set_cons_succ, i64_w, i32_w]
    rfl
  refine pure_ (i := 4) (N := some 67) (v := ?_) (a' := ?_) #[true, true, true, true, true] rfl rfl (by kernel_rfl) (fun _ _ _ h => h) (Or.inl ⟨by rfl, ?_⟩) ?_ ?_
  rotate_left
  · intro w'
    go_simp
    with_reducible rfl
  rotate_left
  · simp only [Act.put, List.setIfInBounds_toArray, List.set_cons_zero, List.set_cons_succ, i64_w, i32_w]
    rfl
  refine done_ (by kernel_rfl) ?_
  obtain ⟨m6, rm6, ⟨K8, h8⟩, hF⟩ := HF.out
  clear HF
  have HF := Aside0.mk hF
  clear hF
  have H8 := Aside0.mk h8
  clear h8
  go_wp2_with (first | ((with_reducible refine gate_dst (N := 19) rfl ?_); first | refine Kd.event_run rfl (load_run BX4.out 2 rfl 28 _ (by rfl) (by rfl) _ Try.underlying28 rfl (by kernel_rfl)) ?_) | ((with_reducible refine gate_dst (N := 24) rfl ?_); first | refine Kd.event_run rfl (load_run BX4.out 2 rfl 28 _ (by rfl) (by rfl) _ Try.underlying28 rfl (by kernel_rfl)) ?_) | ((with_reducible refine gate_dst (N := 31) rfl ?_); first | refine Kd.event_run rfl (load_run BX4.out 2 rfl 28 _ (by rfl) (by rfl) _ Try.underlying28 rfl (by kernel_rfl)) ?_) | ((with_reducible refine gate_dst (N := 33) rfl ?_); first | refine Kd.event_run rfl (load_run BX4.out 2 rfl 28 _ (by rfl) (by rfl) _ Try.underlying28 rfl (by kernel_rfl)) ?_) | ((with_reducible refine gate_dst (N := 38) rfl ?_); first | refine Kd.event_run rfl (load_run BX4.out 2 rfl 28 _ (by rfl) (by rfl) _ Try.underlying28 rfl (by kernel_rfl)) ?_) | ((with_reducible refine gate_dst (N := 40) rfl ?_); first | refine Kd.event_run rfl (load_run BX4.out 2 rfl 28 _ (by rfl) (by rfl) _ Try.underlying28 rfl (by kernel_rfl)) ?_) | ((with_reducible refine gate_dst (N := 44) rfl ?_); first | refine Kd.event_run rfl (load_run BX4.out 2 rfl 28 _ (by rfl) (by rfl) _ Try.underlying28 rfl (by kernel_rfl)) ?_) | ((with_reducible refine gate_dst (N := 45) rfl ?_); first | refine Kd.event_run rfl (load_run BX4.out 2 rfl 28 _ (by rfl) (by rfl) _ Try.underlying28 rfl (by kernel_rfl)) ?_) | ((with_reducible refine gate_dst (N := 49) rfl ?_); first | refine Kd.event_run rfl (load_run BX4.out 2 rfl 28 _ (by rfl) (by rfl) _ Try.underlying28 rfl (by kernel_rfl)) ?_) | ((with_reducible refine gate_dst (N := 50) rfl ?_); first | refine Kd.event_run rfl (load_run BX4.out 2 rfl 28 _ (by rfl) (by rfl) _ Try.underlying28 rfl (by kernel_rfl)) ?_) | ((with_reducible refine gate_dst (N := 58) rfl ?_); first | refine Kd.event_run rfl (load_run BX4.out 2 rfl 28 _ (by rfl) (by rfl) _ Try.underlying28 rfl (by kernel_rfl)) ?_) | ((with_reducible refine gate_dst (N := 59) rfl ?_); first | refine Kd.event_run rfl (load_run BX4.out 2 rfl 28 _ (by rfl) (by rfl) _ Try.underlying28 rfl (by kernel_rfl)) ?_) | ((with_reducible refine gate_dst (N := 63) rfl ?_); first | refine Kd.event_run rfl (load_run BX4.out 2 rfl 28 _ (by rfl) (by rfl) _ Try.underlying28 rfl (by kernel_rfl)) ?_) | ((with_reducible refine gate_dst (N := 64) rfl ?_); first | refine Kd.event_run rfl (load_run BX4.out 2 rfl 28 _ (by rfl) (by rfl) _ Try.underlying28 rfl (by kernel_rfl)) ?_) | ((with_reducible refine gate_dst (N := 68) rfl ?_); first | refine Kd.event_run rfl (load_run BX4.out 2 rfl 28 _ (by rfl) (by rfl) _ Try.underlying28 rfl (by kernel_rfl)) ?_) | ((with_reducible refine gate_dst (N := 71) rfl ?_); first | refine Kd.event_run rfl (load_run BX4.out 2 rfl 28 _ (by rfl) (by rfl) _ Try.underlying28 rfl (by kernel_rfl)) ?_) | ((with_reducible refine gate_dst (N := 77) rfl ?_); first | refine Kd.event_run rfl (load_run BX4.out 2 rfl 28 _ (by rfl) (by rfl) _ Try.underlying28 rfl (by kernel_rfl)) ?_) | ((with_reducible refine gate_dst (N := 78) rfl ?_); first | refine Kd.event_run rfl (load_run BX4.out 2 rfl 28 _ (by rfl) (by rfl) _ Try.underlying28 rfl (by kernel_rfl)) ?_) | ((with_reducible refine gate_dst (N := 87) rfl ?_); first | refine Kd.event_run rfl (load_run BX4.out 2 rfl 28 _ (by rfl) (by rfl) _ Try.underlying28 rfl (by kernel_rfl)) ?_) | ((with_reducible refine gate_dst (N := 90) rfl ?_); first | refine Kd.event_run rfl (load_run BX4.out 2 rfl 28 _ (by rfl) (by rfl) _ Try.underlying28 rfl (by kernel_rfl)) ?_) | ((with_reducible refine gate_dst (N := 100) rfl ?_); first | refine Kd.event_run rfl (load_run BX4.out 2 rfl 28 _ (by rfl) (by rfl) _ Try.underlying28 rfl (by kernel_rfl)) ?_) | ((with_reducible refine gate_dst (N := 102) rfl ?_); first | refine Kd.event_run rfl (load_run BX4.out 2 rfl 28 _ (by rfl) (by rfl) _ Try.underlying28 rfl (by kernel_rfl)) ?_) | ((with_reducible refine gate_dst (N := 107) rfl ?_); first | refine Kd.event_run rfl (load_run BX4.out 2 rfl 28 _ (by rfl) (by rfl) _ Try.underlying28 rfl (by kernel_rfl)) ?_) | ((with_reducible refine gate_dst (N := 108) rfl ?_); first | refine Kd.event_run rfl (load_run BX4.out 2 rfl 28 _ (by rfl) (by rfl) _ Try.underlying28 rfl (by kernel_rfl)) ?_) | ((with_reducible refine gate_dst (N := 116) rfl ?_); first | refine Kd.event_run rfl (load_run BX4.out 2 rfl 28 _ (by rfl) (by rfl) _ Try.underlying28 rfl (by kernel_rfl)) ?_))
  (refine (laws_markAttr.calls K8 a1_0 (fun k => some k = (Value.slice A11_ (l1_1.length) c11_).ownBlock) _ l1_1 1 m6 rm6 w w32 HB.out (Kd.R_tight rfl X11.out) H8.out.2).mono ?_)
  rintro e w33 ⟨rfl, hS, hb, hk⟩
  have hm6 := H8.out.1
  have Z33 : Aside0 (w32.heap.size ≤ w33.heap.size) := ⟨hk.1⟩
  have n0_ := Aside0.mk (Kd.R_kept X10.out hk (fun k h1_ h2_ => by have h3_ := X11.out.1 k h2_.symm; have := Z1.out; have := GBX1.out; have := GBX2.out; have := Z2.out; have := Z3.out; have := Z4.out; have := Z18.out; have := GEBX3.out; have := GLBX3.out; have := Z19.out; have := Z20.out; have := Z21.out; have := GBX4.out; have := Z22.out; have := Z23.out; have := GBX5.out; have := Z24.out; have := Z25.out; have := GBX6.out; have := Z26.out; have := Z27.out; have := Z28.out; have := Z29.out; have := Z30.out; have := Z31.out; have := Z32.out; (try dsimp only at h1_ h3_); omega))
  have n1_ := Aside0.mk (Kd.R_reok rfl hS (fun k hk => X11.out.1 k hk))
  have n2_ := Aside0.mk (Kd.R_kept X12.out hk (fun k h1_ h2_ => by have h3_ := X11.out.1 k h2_.symm; have := Z1.out; have := GBX1.out; have := GBX2.out; have := Z2.out; have := Z3.out; have := Z4.out; have := Z18.out; have := GEBX3.out; have := GLBX3.out; have := Z19.out; have := Z20.out; have := Z21.out; have := GBX4.out; have := Z22.out; have := Z23.out; have := GBX5.out; have := Z24.out; have := Z25.out; have := GBX6.out; have := Z26.out; have := Z27.out; have := Z28.out; have := Z29.out; have := Z30.out; have := Z31.out; have := Z32.out; (try dsimp only at h1_ h3_); omega))
  have n3_ := Aside0.mk (Kd.R_kept X13.out hk (fun k h1_ h2_ => by have h3_ := X11.out.1 k h2_.symm; have := Z1.out; have := GBX1.out; have := GBX2.out; have := Z2.out; have := Z3.out; have := Z4.out; have := Z18.out; have := GEBX3.out; have := GLBX3.out; have := Z19.out; have := Z20.out; have := Z21.out; have := GBX4.out; have := Z22.out; have := Z23.out; have := GBX5.out; have := Z24.out; have := Z25.out; have := GBX6.out; have := Z26.out; have := Z27.out; have := Z28.out; have := Z29.out; have := Z30.out; have := Z31.out; have := Z32.out; (try dsimp only at h1_ h3_); omega))
  have n4_ := Aside0.mk (Kd.R_kept X14.out hk (fun k h1_ h2_ => by have h3_ := X11.out.1 k h2_.symm; have := Z1.out; have := GBX1.out; have := GBX2.out; have := Z2.out; have := Z3.out; have := Z4.out; have := Z18.out; have := GEBX3.out; have := GLBX3.out; have := Z19.out; have := Z20.out; have := Z21.out; have := GBX4.out; have := Z22.out; have := Z23.out; have := GBX5.out; have := Z24.out; have := Z25.out; have := GBX6.out; have := Z26.out; have := Z27.out; have := Z28.out; have := Z29.out; have := Z30.out; have := Z31.out; have := Z32.out; (try dsimp only at h1_ h3_); omega))
  have n5_ := Aside0.mk (Kd.R_kept X15.out hk (fun k h1_ h2_ => by have h3_ := X11.out.1 k h2_.symm; have := Z1.out; have := GBX1.out; have := GBX2.out; have := Z2.out; have := Z3.out; have := Z4.out; have := Z18.out; have := GEBX3.out; have := GLBX3.out; have := Z19.out; have := Z20.out; have := Z21.out; have := GBX4.out; have := Z22.out; have := Z23.out; have := GBX5.out; have := Z24.out; have := Z25.out; have := GBX6.out; have := Z26.out; have := Z27.out; have := Z28.out; have := Z29.out; have := Z30.out; have := Z31.out; have := Z32.out; (try dsimp only at h1_ h3_); omega))
  have n6_ := Aside0.mk (blk_kept BX1.out hk (fun h1_ => by have h1_ := X11.out.1 _ h1_.symm; have := Z1.out; have := GBX1.out; have := GBX2.out; have := Z2.out; have := Z3.out; have := Z4.out; have := Z18.out; have := GEBX3.out; have := GLBX3.out; have := Z19.out; have := Z20.out; have := Z21.out; have := GBX4.out; have := Z22.out; have := Z23.out; have := GBX5.out; have := Z24.out; have := Z25.out; have := GBX6.out; have := Z26.out; have := Z27.out; have := Z28.out; have := Z29.out; have := Z30.out; have := Z31.out; have := Z32.out; (try dsimp only at h1_); omega))
  have n7_ := Aside0.mk (blk_kept BX2.out hk (fun h1_ => by have h1_ := X11.out.1 _ h1_.symm; have := Z1.out; have := GBX1.out; have := GBX2.out; have := Z2.out; have := Z3.out; have := Z4.out; have := Z18.out; have := GEBX3.out; have := GLBX3.out; have := Z19.out; have := Z20.out; have := Z21.out; have := GBX4.out; have := Z22.out; have := Z23.out; have := GBX5.out; have := Z24.out; have := Z25.out; have := GBX6.out; have := Z26.out; have := Z27.out; have := Z28.out; have := Z29.out; have := Z30.out; have := Z31.out; have := Z32.out; (try dsimp only at h1_); omega))
  have n8_ := Aside0.mk (blk_kept BX3.out hk (fun h1_ => by have h1_ := X11.out.1 _ h1_.symm; have := Z1.out; have := GBX1.out; have := GBX2.out; have := Z2.out; have := Z3.out; have := Z4.out; have := Z18.out; have := GEBX3.out; have := GLBX3.out; have := Z19.out; have := Z20.out; have := Z21.out; have := GBX4.out; have := Z22.out; have := Z23.out; have := GBX5.out; have := Z24.out; have := Z25.out; have := GBX6.out; have := Z26.out; have := Z27.out; have := Z28.out; have := Z29.out; have := Z30.out; have := Z31.out; have := Z32.out; (try dsimp only at h1_); omega))
  have n9_ := Aside0.mk (blk_kept BX4.out hk (fun h1_ => by have h1_ := X11.out.1 _ h1_.symm; have := Z1.out; have := GBX1.out; have := GBX2.out; have := Z2.out; have := Z3.out; have := Z4.out; have := Z18.out; have := GEBX3.out; have := GLBX3.out; have := Z19.out; have := Z20.out; have := Z21.out; have := GBX4.out; have := Z22.out; have := Z23.out; have := GBX5.out; have := Z24.out; have := Z25.out; have := GBX6.out; have := Z26.out; have := Z27.out; have := Z28.out; have := Z29.out; have := Z30.out; have := Z31.out; have := Z32.out; (try dsimp only at h1_); omega))
  have n10_ := Aside0.mk (blk_kept BX5.out hk (fun h1_ => by have h1_ := X11.out.1 _ h1_.symm; have := Z1.out; have := GBX1.out; have := GBX2.out; have := Z2.out; have := Z3.out; have := Z4.out; have := Z18.out; have := GEBX3.out; have := GLBX3.out; have := Z19.out; have := Z20.out; have := Z21.out; have := GBX4.out; have := Z22.out; have := Z23.out; have := GBX5.out; have := Z24.out; have := Z25.out; have := GBX6.out; have := Z26.out; have := Z27.out; have := Z28.out; have := Z29.out; have := Z30.out; have := Z31.out; have := Z32.out; (try dsimp only at h1_); omega))
  have n11_ := Aside0.mk (blk_kept BX6.out hk (fun h1_ => by have h1_ := X11.out.1 _ h1_.symm; have := Z1.out; have := GBX1.out; have := GBX2.out; have := Z2.out; have := Z3.out; have := Z4.out; have := Z18.out; have := GEBX3.out; have := GLBX3.out; have := Z19.out; have := Z20.out; have := Z21.out; have := GBX4.out; have := Z22.out; have := Z23.out; have := GBX5.out; have := Z24.out; have := Z25.out; have := GBX6.out; have := Z26.out; have := Z27.out; have := Z28.out; have := Z29.out; have := Z30.out; have := Z31.out; have := Z32.out; (try dsimp only at h1_); omega))
  have hb_ := Aside0.mk (hb)
  clear X10 X11 X12 X13 X14 X15 BX1 BX2 BX3 BX4 BX5 BX6
  have X10 := n0_
  have X11 := n1_
  have X12 := n2_
  have X13 := n3_
  have X14 := n4_
  have X15 := n5_
  have BX1 := n6_
  have BX2 := n7_
  have BX3 := n8_
  have BX4 := n9_
  have BX5 := n10_
  have BX6 := n11_
  clear n0_ n1_ n2_ n3_ n4_ n5_ n6_ n7_ n8_ n9_ n10_ n11_
  clear HB
  have HB := hb_
  clear hb_
  clear hS hb hk
  obtain ⟨m7, rm7, ⟨K9, h9⟩, hF⟩ := HF.out
  clear HF
  have HF := Aside0.mk hF
  clear hF
  have H9 := Aside0.mk h9
  clear h9
  go_wp2_with (first | ((with_reducible refine gate_dst (N := 19) rfl ?_); first | refine Kd.event_run rfl (load_run BX5.out 2 rfl 28 _ (by rfl) (by rfl) _ Try.underlying28 rfl (by kernel_rfl)) ?_) | ((with_reducible refine gate_dst (N := 24) rfl ?_); first | refine Kd.event_run rfl (load_run BX5.out 2 rfl 28 _ (by rfl) (by rfl) _ Try.underlying28 rfl (by kernel_rfl)) ?_) | ((with_reducible refine gate_dst (N := 31) rfl ?_); first | refine Kd.event_run rfl (load_run BX5.out 2 rfl 28 _ (by rfl) (by rfl) _ Try.underlying28 rfl (by kernel_rfl)) ?_) | ((with_reducible refine gate_dst (N := 33) rfl ?_); first | refine Kd.event_run rfl (load_run BX5.out 2 rfl 28 _ (by rfl) (by rfl) _ Try.underlying28 rfl (by kernel_rfl)) ?_) | ((with_reducible refine gate_dst (N := 38) rfl ?_); first | refine Kd.event_run rfl (load_run BX5.out 2 rfl 28 _ (by rfl) (by rfl) _ Try.underlying28 rfl (by kernel_rfl)) ?_) | ((with_reducible refine gate_dst (N := 40) rfl ?_); first | refine Kd.event_run rfl (load_run BX5.out 2 rfl 28 _ (by rfl) (by rfl) _ Try.underlying28 rfl (by kernel_rfl)) ?_) | ((with_reducible refine gate_dst (N := 44) rfl ?_); first | refine Kd.event_run rfl (load_run BX5.out 2 rfl 28 _ (by rfl) (by rfl) _ Try.underlying28 rfl (by kernel_rfl)) ?_) | ((with_reducible refine gate_dst (N := 45) rfl ?_); first | refine Kd.event_run rfl (load_run BX5.out 2 rfl 28 _ (by rfl) (by rfl) _ Try.underlying28 rfl (by kernel_rfl)) ?_) | ((with_reducible refine gate_dst (N := 49) rfl ?_); first | refine Kd.event_run rfl (load_run BX5.out 2 rfl 28 _ (by rfl) (by rfl) _ Try.underlying28 rfl (by kernel_rfl)) ?_) | ((with_reducible refine gate_dst (N := 50) rfl ?_); first | refine Kd.event_run rfl (load_run BX5.out 2 rfl 28 _ (by rfl) (by rfl) _ Try.underlying28 rfl (by kernel_rfl)) ?_) | ((with_reducible refine gate_dst (N := 58) rfl ?_); first | refine Kd.event_run rfl (load_run BX5.out 2 rfl 28 _ (by rfl) (by rfl) _ Try.underlying28 rfl (by kernel_rfl)) ?_) | ((with_reducible refine gate_dst (N := 59) rfl ?_); first | refine Kd.event_run rfl (load_run BX5.out 2 rfl 28 _ (by rfl) (by rfl) _ Try.underlying28 rfl (by kernel_rfl)) ?_) | ((with_reducible refine gate_dst (N := 63) rfl ?_); first | refine Kd.event_run rfl (load_run BX5.out 2 rfl 28 _ (by rfl) (by rfl) _ Try.underlying28 rfl (by kernel_rfl)) ?_) | ((with_reducible refine gate_dst (N := 64) rfl ?_); first | refine Kd.event_run rfl (load_run BX5.out 2 rfl 28 _ (by rfl) (by rfl) _ Try.underlying28 rfl (by kernel_rfl)) ?_) | ((with_reducible refine gate_dst (N := 68) rfl ?_); first | refine Kd.event_run rfl (load_run BX5.out 2 rfl 28 _ (by rfl) (by rfl) _ Try.underlying28 rfl (by kernel_rfl)) ?_) | ((with_reducible refine gate_dst (N := 71) rfl ?_); first | refine Kd.event_run rfl (load_run BX5.out 2 rfl 28 _ (by rfl) (by rfl) _ Try.underlying28 rfl (by kernel_rfl)) ?_) | ((with_reducible refine gate_dst (N := 77) rfl ?_); first | refine Kd.event_run rfl (load_run BX5.out 2 rfl 28 _ (by rfl) (by rfl) _ Try.underlying28 rfl (by kernel_rfl)) ?_) | ((with_reducible refine gate_dst (N := 78) rfl ?_); first | refine Kd.event_run rfl (load_run BX5.out 2 rfl 28 _ (by rfl) (by rfl) _ Try.underlying28 rfl (by kernel_rfl)) ?_) | ((with_reducible refine gate_dst (N := 87) rfl ?_); first | refine Kd.event_run rfl (load_run BX5.out 2 rfl 28 _ (by rfl) (by rfl) _ Try.underlying28 rfl (by kernel_rfl)) ?_) | ((with_reducible refine gate_dst (N := 90) rfl ?_); first | refine Kd.event_run rfl (load_run BX5.out 2 rfl 28 _ (by rfl) (by rfl) _ Try.underlying28 rfl (by kernel_rfl)) ?_) | ((with_reducible refine gate_dst (N := 100) rfl ?_); first | refine Kd.event_run rfl (load_run BX5.out 2 rfl 28 _ (by rfl) (by rfl) _ Try.underlying28 rfl (by kernel_rfl)) ?_) | ((with_reducible refine gate_dst (N := 102) rfl ?_); first | refine Kd.event_run rfl (load_run BX5.out 2 rfl 28 _ (by rfl) (by rfl) _ Try.underlying28 rfl (by kernel_rfl)) ?_) | ((with_reducible refine gate_dst (N := 107) rfl ?_); first | refine Kd.event_run rfl (load_run BX5.out 2 rfl 28 _ (by rfl) (by rfl) _ Try.underlying28 rfl (by kernel_rfl)) ?_) | ((with_reducible refine gate_dst (N := 108) rfl ?_); first | refine Kd.event_run rfl (load_run BX5.out 2 rfl 28 _ (by rfl) (by rfl) _ Try.underlying28 rfl (by kernel_rfl)) ?_) | ((with_reducible refine gate_dst (N := 116) rfl ?_); first | refine Kd.event_run rfl (load_run BX5.out 2 rfl 28 _ (by rfl) (by rfl) _ Try.underlying28 rfl (by kernel_rfl)) ?_))
  (refine (laws_markAttr.calls K9 a2_0 (fun k => some k = (Value.slice A12_ (l2_1.length) c12_).ownBlock) _ l2_1 m6 m7 rm7 w w33 HB.out (Kd.R_tight rfl X12.out) H9.out.2).mono ?_)
  rintro e w34 ⟨rfl, hS, hb, hk⟩
  have hm7 := H9.out.1
  have Z34 : Aside0 (w33.heap.size ≤ w34.heap.size) := ⟨hk.1⟩
  have n0_ := Aside0.mk (Kd.R_kept X10.out hk (fun k h1_ h2_ => by have h3_ := X12.out.1 k h2_.symm; have := Z1.out; have := GBX1.out; have := GBX2.out; have := Z2.out; have := Z3.out; have := Z4.out; have := Z18.out; have := GEBX3.out; have := GLBX3.out; have := Z19.out; have := Z20.out; have := Z21.out; have := GBX4.out; have := Z22.out; have := Z23.out; have := GBX5.out; have := Z24.out; have := Z25.out; have := GBX6.out; have := Z26.out; have := Z27.out; have := Z28.out; have := Z29.out; have := Z30.out; have := Z31.out; have := Z32.out; have := Z33.out; (try dsimp only at h1_ h3_); omega))
  have n1_ := Aside0.mk (Kd.R_kept X11.out hk (fun k h1_ h2_ => by have h3_ := X12.out.1 k h2_.symm; have := Z1.out; have := GBX1.out; have := GBX2.out; have := Z2.out; have := Z3.out; have := Z4.out; have := Z18.out; have := GEBX3.out; have := GLBX3.out; have := Z19.out; have := Z20.out; have := Z21.out; have := GBX4.out; have := Z22.out; have := Z23.out; have := GBX5.out; have := Z24.out; have := Z25.out; have := GBX6.out; have := Z26.out; have := Z27.out; have := Z28.out; have := Z29.out; have := Z30.out; have := Z31.out; have := Z32.out; have := Z33.out; (try dsimp only at h1_ h3_); omega))
  have n2_ := Aside0.mk (Kd.R_reok rfl hS (fun k hk => X12.out.1 k hk))
  have n3_ := Aside0.mk (Kd.R_kept X13.out hk (fun k h1_ h2_ => by have h3_ := X12.out.1 k h2_.symm; have := Z1.out; have := GBX1.out; have := GBX2.out; have := Z2.out; have := Z3.out; have := Z4.out; have := Z18.out; have := GEBX3.out; have := GLBX3.out; have := Z19.out; have := Z20.out; have := Z21.out; have := GBX4.out; have := Z22.out; have := Z23.out; have := GBX5.out; have := Z24.out; have := Z25.out; have := GBX6.out; have := Z26.out; have := Z27.out; have := Z28.out; have := Z29.out; have := Z30.out; have := Z31.out; have := Z32.out; have := Z33.out; (try dsimp only at h1_ h3_); omega))
  have n4_ := Aside0.mk (Kd.R_kept X14.out hk (fun k h1_ h2_ => by have h3_ := X12.out.1 k h2_.symm; have := Z1.out; have := GBX1.out; have := GBX2.out; have := Z2.out; have := Z3.out; have := Z4.out; have := Z18.out; have := GEBX3.out; have := GLBX3.out; have := Z19.out; have := Z20.out; have := Z21.out; have := GBX4.out; have := Z22.out; have := Z23.out; have := GBX5.out; have := Z24.out; have := Z25.out; have := GBX6.out; have := Z26.out; have := Z27.out; have := Z28.out; have := Z29.out; have := Z30.out; have := Z31.out; have := Z32.out; have := Z33.out; (try dsimp only at h1_ h3_); omega))
  have n5_ := Aside0.mk (Kd.R_kept X15.out hk (fun k h1_ h2_ => by have h3_ := X12.out.1 k h2_.symm; have := Z1.out; have := GBX1.out; have := GBX2.out; have := Z2.out; have := Z3.out; have := Z4.out; have := Z18.out; have := GEBX3.out; have := GLBX3.out; have := Z19.out; have := Z20.out; have := Z21.out; have := GBX4.out; have := Z22.out; have := Z23.out; have := GBX5.out; have := Z24.out; have := Z25.out; have := GBX6.out; have := Z26.out; have := Z27.out; have := Z28.out; have := Z29.out; have := Z30.out; have := Z31.out; have := Z32.out; have := Z33.out; (try dsimp only at h1_ h3_); omega))
  have n6_ := Aside0.mk (blk_kept BX1.out hk (fun h1_ => by have h1_ := X12.out.1 _ h1_.symm; have := Z1.out; have := GBX1.out; have := GBX2.out; have := Z2.out; have := Z3.out; have := Z4.out; have := Z18.out; have := GEBX3.out; have := GLBX3.out; have := Z19.out; have := Z20.out; have := Z21.out; have := GBX4.out; have := Z22.out; have := Z23.out; have := GBX5.out; have := Z24.out; have := Z25.out; have := GBX6.out; have := Z26.out; have := Z27.out; have := Z28.out; have := Z29.out; have := Z30.out; have := Z31.out; have := Z32.out; have := Z33.out; (try dsimp only at h1_); omega))
  have n7_ := Aside0.mk (blk_kept BX2.out hk (fun h1_ => by have h1_ := X12.out.1 _ h1_.symm; have := Z1.out; have := GBX1.out; have := GBX2.out; have := Z2.out; have := Z3.out; have := Z4.out; have := Z18.out; have := GEBX3.out; have := GLBX3.out; have := Z19.out; have := Z20.out; have := Z21.out; have := GBX4.out; have := Z22.out; have := Z23.out; have := GBX5.out; have := Z24.out; have := Z25.out; have := GBX6.out; have := Z26.out; have := Z27.out; have := Z28.out; have := Z29.out; have := Z30.out; have := Z31.out; have := Z32.out; have := Z33.out; (try dsimp only at h1_); omega))
  have n8_ := Aside0.mk (blk_kept BX3.out hk (fun h1_ => by have h1_ := X12.out.1 _ h1_.symm; have := Z1.out; have := GBX1.out; have := GBX2.out; have := Z2.out; have := Z3.out; have := Z4.out; have := Z18.out; have := GEBX3.out; have := GLBX3.out; have := Z19.out; have := Z20.out; have := Z21.out; have := GBX4.out; have := Z22.out; have := Z23.out; have := GBX5.out; have := Z24.out; have := Z25.out; have := GBX6.out; have := Z26.out; have := Z27.out; have := Z28.out; have := Z29.out; have := Z30.out; have := Z31.out; have := Z32.out; have := Z33.out; (try dsimp only at h1_); omega))
  have n9_ := Aside0.mk (blk_kept BX4.out hk (fun h1_ => by have h1_ := X12.out.1 _ h1_.symm; have := Z1.out; have := GBX1.out; have := GBX2.out; have := Z2.out; have := Z3.out; have := Z4.out; have := Z18.out; have := GEBX3.out; have := GLBX3.out; have := Z19.out; have := Z20.out; have := Z21.out; have := GBX4.out; have := Z22.out; have := Z23.out; have := GBX5.out; have := Z24.out; have := Z25.out; have := GBX6.out; have := Z26.out; have := Z27.out; have := Z28.out; have := Z29.out; have := Z30.out; have := Z31.out; have := Z32.out; have := Z33.out; (try dsimp only at h1_); omega))
  have n10_ := Aside0.mk (blk_kept BX5.out hk (fun h1_ => by have h1_ := X12.out.1 _ h1_.symm; have := Z1.out; have := GBX1.out; have := GBX2.out; have := Z2.out; have := Z3.out; have := Z4.out; have := Z18.out; have := GEBX3.out; have := GLBX3.out; have := Z19.out; have := Z20.out; have := Z21.out; have := GBX4.out; have := Z22.out; have := Z23.out; have := GBX5.out; have := Z24.out; have := Z25.out; have := GBX6.out; have := Z26.out; have := Z27.out; have := Z28.out; have := Z29.out; have := Z30.out; have := Z31.out; have := Z32.out; have := Z33.out; (try dsimp only at h1_); omega))
  have n11_ := Aside0.mk (blk_kept BX6.out hk (fun h1_ => by have h1_ := X12.out.1 _ h1_.symm; have := Z1.out; have := GBX1.out; have := GBX2.out; have := Z2.out; have := Z3.out; have := Z4.out; have := Z18.out; have := GEBX3.out; have := GLBX3.out; have := Z19.out; have := Z20.out; have := Z21.out; have := GBX4.out; have := Z22.out; have := Z23.out; have := GBX5.out; have := Z24.out; have := Z25.out; have := GBX6.out; have := Z26.out; have := Z27.out; have := Z28.out; have := Z29.out; have := Z30.out; have := Z31.out; have := Z32.out; have := Z33.out; (try dsimp only at h1_); omega))
  have hb_ := Aside0.mk (hb)
  clear X10 X11 X12 X13 X14 X15 BX1 BX2 BX3 BX4 BX5 BX6
  have X10 := n0_
  have X11 := n1_
  have X12 := n2_
  have X13 := n3_
  have X14 := n4_
  have X15 := n5_
  have BX1 := n6_
  have BX2 := n7_
  have BX3 := n8_
  have BX4 := n9_
  have BX5 := n10_
  have BX6 := n11_
  clear n0_ n1_ n2_ n3_ n4_ n5_ n6_ n7_ n8_ n9_ n10_ n11_
  clear HB
  have HB := hb_
  clear hb_
  clear hS hb hk
  have qBX3_0 : w34.cell? ⟨gb17, 0, none⟩ = some (.int .i64 r3) := (blk_cell BX3.out 0).trans rfl
  have qBX3_1 : w34.cell? ⟨gb17, 1, none⟩ = some (.slice A10_ r4.length c10_) := (blk_cell BX3.out 1).trans rfl
  have qBX6_0 : w34.cell? ⟨w24.heap.size, 0, none⟩ = some (.int .i64 r3) := (blk_cell BX6.out 0).trans rfl
  have qBX6_1 : w34.cell? ⟨w24.heap.size, 1, none⟩ = some (.slice A13_ r4.length c13_) := (blk_cell BX6.out 1).trans rfl
  go_wp2_with (first | ((with_reducible refine gate_dst (N := 19) rfl ?_); first | refine Kd.event_run rfl (load_run BX3.out 2 rfl 28 _ (by rfl) (by rfl) _ Try.underlying28 rfl (by kernel_rfl)) ?_ | refine Kd.event_run rfl (load_run BX6.out 2 rfl 28 _ (by rfl) (by rfl) _ Try.underlying28 rfl (by kernel_rfl)) ?_) | ((with_reducible refine gate_dst (N := 24) rfl ?_); first | refine Kd.event_run rfl (load_run BX3.out 2 rfl 28 _ (by rfl) (by rfl) _ Try.underlying28 rfl (by kernel_rfl)) ?_ | refine Kd.event_run rfl (load_run BX6.out 2 rfl 28 _ (by rfl) (by rfl) _ Try.underlying28 rfl (by kernel_rfl)) ?_) | ((with_reducible refine gate_dst (N := 31) rfl ?_); first | refine Kd.event_run rfl (load_run BX3.out 2 rfl 28 _ (by rfl) (by rfl) _ Try.underlying28 rfl (by kernel_rfl)) ?_ | refine Kd.event_run rfl (load_run BX6.out 2 rfl 28 _ (by rfl) (by rfl) _ Try.underlying28 rfl (by kernel_rfl)) ?_) | ((with_reducible refine gate_dst (N := 33) rfl ?_); first | refine Kd.event_run rfl (load_run BX3.out 2 rfl 28 _ (by rfl) (by rfl) _ Try.underlying28 rfl (by kernel_rfl)) ?_ | refine Kd.event_run rfl (load_run BX6.out 2 rfl 28 _ (by rfl) (by rfl) _ Try.underlying28 rfl (by kernel_rfl)) ?_) | ((with_reducible refine gate_dst (N := 38) rfl ?_); first | refine Kd.event_run rfl (load_run BX3.out 2 rfl 28 _ (by rfl) (by rfl) _ Try.underlying28 rfl (by kernel_rfl)) ?_ | refine Kd.event_run rfl (load_run BX6.out 2 rfl 28 _ (by rfl) (by rfl) _ Try.underlying28 rfl (by kernel_rfl)) ?_) | ((with_reducible refine gate_dst (N := 40) rfl ?_); first | refine Kd.event_run rfl (load_run BX3.out 2 rfl 28 _ (by rfl) (by rfl) _ Try.underlying28 rfl (by kernel_rfl)) ?_ | refine Kd.event_run rfl (load_run BX6.out 2 rfl 28 _ (by rfl) (by rfl) _ Try.underlying28 rfl (by kernel_rfl)) ?_) | ((with_reducible refine gate_dst (N := 44) rfl ?_); first | refine Kd.event_run rfl (load_run BX3.out 2 rfl 28 _ (by rfl) (by rfl) _ Try.underlying28 rfl (by kernel_rfl)) ?_ | refine Kd.event_run rfl (load_run BX6.out 2 rfl 28 _ (by rfl) (by rfl) _ Try.underlying28 rfl (by kernel_rfl)) ?_) | ((with_reducible refine gate_dst (N := 45) rfl ?_); first | refine Kd.event_run rfl (load_run BX3.out 2 rfl 28 _ (by rfl) (by rfl) _ Try.underlying28 rfl (by kernel_rfl)) ?_ | refine Kd.event_run rfl (load_run BX6.out 2 rfl 28 _ (by rfl) (by rfl) _ Try.underlying28 rfl (by kernel_rfl)) ?_) | ((with_reducible refine gate_dst (N := 49) rfl ?_); first | refine Kd.event_run rfl (load_run BX3.out 2 rfl 28 _ (by rfl) (by rfl) _ Try.underlying28 rfl (by kernel_rfl)) ?_ | refine Kd.event_run rfl (load_run BX6.out 2 rfl 28 _ (by rfl) (by rfl) _ Try.underlying28 rfl (by kernel_rfl)) ?_) | ((with_reducible refine gate_dst (N := 50) rfl ?_); first | refine Kd.event_run rfl (load_run BX3.out 2 rfl 28 _ (by rfl) (by rfl) _ Try.underlying28 rfl (by kernel_rfl)) ?_ | refine Kd.event_run rfl (load_run BX6.out 2 rfl 28 _ (by rfl) (by rfl) _ Try.underlying28 rfl (by kernel_rfl)) ?_) | ((with_reducible refine gate_dst (N := 58) rfl ?_); first | refine Kd.event_run rfl (load_run BX3.out 2 rfl 28 _ (by rfl) (by rfl) _ Try.underlying28 rfl (by kernel_rfl)) ?_ | refine Kd.event_run rfl (load_run BX6.out 2 rfl 28 _ (by rfl) (by rfl) _ Try.underlying28 rfl (by kernel_rfl)) ?_) | ((with_reducible refine gate_dst (N := 59) rfl ?_); first | refine Kd.event_run rfl (load_run BX3.out 2 rfl 28 _ (by rfl) (by rfl) _ Try.underlying28 rfl (by kernel_rfl)) ?_ | refine Kd.event_run rfl (load_run BX6.out 2 rfl 28 _ (by rfl) (by rfl) _ Try.underlying28 rfl (by kernel_rfl)) ?_) | ((with_reducible refine gate_dst (N := 63) rfl ?_); first | refine Kd.event_run rfl (load_run BX3.out 2 rfl 28 _ (by rfl) (by rfl) _ Try.underlying28 rfl (by kernel_rfl)) ?_ | refine Kd.event_run rfl (load_run BX6.out 2 rfl 28 _ (by rfl) (by rfl) _ Try.underlying28 rfl (by kernel_rfl)) ?_) | ((with_reducible refine gate_dst (N := 64) rfl ?_); first | refine Kd.event_run rfl (load_run BX3.out 2 rfl 28 _ (by rfl) (by rfl) _ Try.underlying28 rfl (by kernel_rfl)) ?_ | refine Kd.event_run rfl (load_run BX6.out 2 rfl 28 _ (by rfl) (by rfl) _ Try.underlying28 rfl (by kernel_rfl)) ?_) | ((with_reducible refine gate_dst (N := 68) rfl ?_); first | refine Kd.event_run rfl (load_run BX3.out 2 rfl 28 _ (by rfl) (by rfl) _ Try.underlying28 rfl (by kernel_rfl)) ?_ | refine Kd.event_run rfl (load_run BX6.out 2 rfl 28 _ (by rfl) (by rfl) _ Try.underlying28 rfl (by kernel_rfl)) ?_) | ((with_reducible refine gate_dst (N := 71) rfl ?_); first | refine Kd.event_run rfl (load_run BX3.out 2 rfl 28 _ (by rfl) (by rfl) _ Try.underlying28 rfl (by kernel_rfl)) ?_ | refine Kd.event_run rfl (load_run BX6.out 2 rfl 28 _ (by rfl) (by rfl) _ Try.underlying28 rfl (by kernel_rfl)) ?_) | ((with_reducible refine gate_dst (N := 77) rfl ?_); first | refine Kd.event_run rfl (load_run BX3.out 2 rfl 28 _ (by rfl) (by rfl) _ Try.underlying28 rfl (by kernel_rfl)) ?_ | refine Kd.event_run rfl (load_run BX6.out 2 rfl 28 _ (by rfl) (by rfl) _ Try.underlying28 rfl (by kernel_rfl)) ?_) | ((with_reducible refine gate_dst (N := 78) rfl ?_); first | refine Kd.event_run rfl (load_run BX3.out 2 rfl 28 _ (by rfl) (by rfl) _ Try.underlying28 rfl (by kernel_rfl)) ?_ | refine Kd.event_run rfl (load_run BX6.out 2 rfl 28 _ (by rfl) (by rfl) _ Try.underlying28 rfl (by kernel_rfl)) ?_) | ((with_reducible refine gate_dst (N := 87) rfl ?_); first | refine Kd.event_run rfl (load_run BX3.out 2 rfl 28 _ (by rfl) (by rfl) _ Try.underlying28 rfl (by kernel_rfl)) ?_ | refine Kd.event_run rfl (load_run BX6.out 2 rfl 28 _ (by rfl) (by rfl) _ Try.underlying28 rfl (by kernel_rfl)) ?_) | ((with_reducible refine gate_dst (N := 90) rfl ?_); first | refine Kd.event_run rfl (load_run BX3.out 2 rfl 28 _ (by rfl) (by rfl) _ Try.underlying28 rfl (by kernel_rfl)) ?_ | refine Kd.event_run rfl (load_run BX6.out 2 rfl 28 _ (by rfl) (by rfl) _ Try.underlying28 rfl (by kernel_rfl)) ?_) | ((with_reducible refine gate_dst (N := 100) rfl ?_); first | refine Kd.event_run rfl (load_run BX3.out 2 rfl 28 _ (by rfl) (by rfl) _ Try.underlying28 rfl (by kernel_rfl)) ?_ | refine Kd.event_run rfl (load_run BX6.out 2 rfl 28 _ (by rfl) (by rfl) _ Try.underlying28 rfl (by kernel_rfl)) ?_) | ((with_reducible refine gate_dst (N := 102) rfl ?_); first | refine Kd.event_run rfl (load_run BX3.out 2 rfl 28 _ (by rfl) (by rfl) _ Try.underlying28 rfl (by kernel_rfl)) ?_ | refine Kd.event_run rfl (load_run BX6.out 2 rfl 28 _ (by rfl) (by rfl) _ Try.underlying28 rfl (by kernel_rfl)) ?_) | ((with_reducible refine gate_dst (N := 107) rfl ?_); first | refine Kd.event_run rfl (load_run BX3.out 2 rfl 28 _ (by rfl) (by rfl) _ Try.underlying28 rfl (by kernel_rfl)) ?_ | refine Kd.event_run rfl (load_run BX6.out 2 rfl 28 _ (by rfl) (by rfl) _ Try.underlying28 rfl (by kernel_rfl)) ?_) | ((with_reducible refine gate_dst (N := 108) rfl ?_); first | refine Kd.event_run rfl (load_run BX3.out 2 rfl 28 _ (by rfl) (by rfl) _ Try.underlying28 rfl (by kernel_rfl)) ?_ | refine Kd.event_run rfl (load_run BX6.out 2 rfl 28 _ (by rfl) (by rfl) _ Try.underlying28 rfl (by kernel_rfl)) ?_) | ((with_reducible refine gate_dst (N := 116) rfl ?_); first | refine Kd.event_run rfl (load_run BX3.out 2 rfl 28 _ (by rfl) (by rfl) _ Try.underlying28 rfl (by kernel_rfl)) ?_ | refine Kd.event_run rfl (load_run BX6.out 2 rfl 28 _ (by rfl) (by rfl) _ Try.underlying28 rfl (by kernel_rfl)) ?_))
  clear qBX3_0 qBX3_1 qBX6_0 qBX6_1
  (refine (laws_eqAttr.calls K5 r3 A13_ c13_ r4 r3 A10_ c10_ r4 true w34 (Kd.R_reads' X13.out).2.2 (Kd.R_reads' X13.out).2.1 (Kd.R_reads' X10.out).2.2 (Kd.R_reads' X10.out).2.1 H5.out).mono ?_)
  rintro e w35 ⟨rfl, hb⟩
  have Z35 : Aside0 (w34.heap.size ≤ w35.heap.size) := ⟨hb.size⟩
  have n0_ := Aside0.mk (Kd.R_below X10.out hb)
  have n1_ := Aside0.mk (Kd.R_below X11.out hb)
  have n2_ := Aside0.mk (Kd.R_below X12.out hb)
  have n3_ := Aside0.mk (Kd.R_below X13.out hb)
  have n4_ := Aside0.mk (Kd.R_below X14.out hb)
  have n5_ := Aside0.mk (Kd.R_below X15.out hb)
  have n6_ := Aside0.mk (blk_below BX1.out hb)
  have n7_ := Aside0.mk (blk_below BX2.out hb)
  have n8_ := Aside0.mk (blk_below BX3.out hb)
  have n9_ := Aside0.mk (blk_below BX4.out hb)
  have n10_ := Aside0.mk (blk_below BX5.out hb)
  have n11_ := Aside0.mk (blk_below BX6.out hb)
  have hb_ := Aside0.mk (below_then HB.out HB.out.size hb)
  clear X10 X11 X12 X13 X14 X15 BX1 BX2 BX3 BX4 BX5 BX6
  have X10 := n0_
  have X11 := n1_
  have X12 := n2_
  have X13 := n3_
  have X14 := n4_
  have X15 := n5_
  have BX1 := n6_
  have BX2 := n7_
  have BX3 := n8_
  have BX4 := n9_
  have BX5 := n10_
  have BX6 := n11_
  clear n0_ n1_ n2_ n3_ n4_ n5_ n6_ n7_ n8_ n9_ n10_ n11_
  clear HB
  have HB := hb_
  clear hb_
  clear hb
  obtain ⟨m8, rm8, ⟨K10, h10⟩, hF⟩ := HF.out
  clear HF
  have HF := Aside0.mk hF
  clear hF
  have H10 := Aside0.mk h10
  clear h10
  go_wp2_with (first | ((with_reducible refine gate_dst (N := 19) rfl ?_); first | refine Kd.event_run rfl (load_run BX6.out 2 rfl 28 _ (by rfl) (by rfl) _ Try.underlying28 rfl (by kernel_rfl)) ?_) | ((with_reducible refine gate_dst (N := 24) rfl ?_); first | refine Kd.event_run rfl (load_run BX6.out 2 rfl 28 _ (by rfl) (by rfl) _ Try.underlying28 rfl (by kernel_rfl)) ?_) | ((with_reducible refine gate_dst (N := 31) rfl ?_); first | refine Kd.event_run rfl (load_run BX6.out 2 rfl 28 _ (by rfl) (by rfl) _ Try.underlying28 rfl (by kernel_rfl)) ?_) | ((with_reducible refine gate_dst (N := 33) rfl ?_); first | refine Kd.event_run rfl (load_run BX6.out 2 rfl 28 _ (by rfl) (by rfl) _ Try.underlying28 rfl (by kernel_rfl)) ?_) | ((with_reducible refine gate_dst (N := 38) rfl ?_); first | refine Kd.event_run rfl (load_run BX6.out 2 rfl 28 _ (by rfl) (by rfl) _ Try.underlying28 rfl (by kernel_rfl)) ?_) | ((with_reducible refine gate_dst (N := 40) rfl ?_); first | refine Kd.event_run rfl (load_run BX6.out 2 rfl 28 _ (by rfl) (by rfl) _ Try.underlying28 rfl (by kernel_rfl)) ?_) | ((with_reducible refine gate_dst (N := 44) rfl ?_); first | refine Kd.event_run rfl (load_run BX6.out 2 rfl 28 _ (by rfl) (by rfl) _ Try.underlying28 rfl (by kernel_rfl)) ?_) | ((with_reducible refine gate_dst (N := 45) rfl ?_); first | refine Kd.event_run rfl (load_run BX6.out 2 rfl 28 _ (by rfl) (by rfl) _ Try.underlying28 rfl (by kernel_rfl)) ?_) | ((with_reducible refine gate_dst (N := 49) rfl ?_); first | refine Kd.event_run rfl (load_run BX6.out 2 rfl 28 _ (by rfl) (by rfl) _ Try.underlying28 rfl (by kernel_rfl)) ?_) | ((with_reducible refine gate_dst (N := 50) rfl ?_); first | refine Kd.event_run rfl (load_run BX6.out 2 rfl 28 _ (by rfl) (by rfl) _ Try.underlying28 rfl (by kernel_rfl)) ?_) | ((with_reducible refine gate_dst (N := 58) rfl ?_); first | refine Kd.event_run rfl (load_run BX6.out 2 rfl 28 _ (by rfl) (by rfl) _ Try.underlying28 rfl (by kernel_rfl)) ?_) | ((with_reducible refine gate_dst (N := 59) rfl ?_); first | refine Kd.event_run rfl (load_run BX6.out 2 rfl 28 _ (by rfl) (by rfl) _ Try.underlying28 rfl (by kernel_rfl)) ?_) | ((with_reducible refine gate_dst (N := 63) rfl ?_); first | refine Kd.event_run rfl (load_run BX6.out 2 rfl 28 _ (by rfl) (by rfl) _ Try.underlying28 rfl (by kernel_rfl)) ?_) | ((with_reducible refine gate_dst (N := 64) rfl ?_); first | refine Kd.event_run rfl (load_run BX6.out 2 rfl 28 _ (by rfl) (by rfl) _ Try.underlying28 rfl (by kernel_rfl)) ?_) | ((with_reducible refine gate_dst (N := 68) rfl ?_); first | refine Kd.event_run rfl (load_run BX6.out 2 rfl 28 _ (by rfl) (by rfl) _ Try.underlying28 rfl (by kernel_rfl)) ?_) | ((with_reducible refine gate_dst (N := 71) rfl ?_); first | refine Kd.event_run rfl (load_run BX6.out 2 rfl 28 _ (by rfl) (by rfl) _ Try.underlying28 rfl (by kernel_rfl)) ?_) | ((with_reducible refine gate_dst (N := 77) rfl ?_); first | refine Kd.event_run rfl (load_run BX6.out 2 rfl 28 _ (by rfl) (by rfl) _ Try.underlying28 rfl (by kernel_rfl)) ?_) | ((with_reducible refine gate_dst (N := 78) rfl ?_); first | refine Kd.event_run rfl (load_run BX6.out 2 rfl 28 _ (by rfl) (by rfl) _ Try.underlying28 rfl (by kernel_rfl)) ?_) | ((with_reducible refine gate_dst (N := 87) rfl ?_); first | refine Kd.event_run rfl (load_run BX6.out 2 rfl 28 _ (by rfl) (by rfl) _ Try.underlying28 rfl (by kernel_rfl)) ?_) | ((with_reducible refine gate_dst (N := 90) rfl ?_); first | refine Kd.event_run rfl (load_run BX6.out 2 rfl 28 _ (by rfl) (by rfl) _ Try.underlying28 rfl (by kernel_rfl)) ?_) | ((with_reducible refine gate_dst (N := 100) rfl ?_); first | refine Kd.event_run rfl (load_run BX6.out 2 rfl 28 _ (by rfl) (by rfl) _ Try.underlying28 rfl (by kernel_rfl)) ?_) | ((with_reducible refine gate_dst (N := 102) rfl ?_); first | refine Kd.event_run rfl (load_run BX6.out 2 rfl 28 _ (by rfl) (by rfl) _ Try.underlying28 rfl (by kernel_rfl)) ?_) | ((with_reducible refine gate_dst (N := 107) rfl ?_); first | refine Kd.event_run rfl (load_run BX6.out 2 rfl 28 _ (by rfl) (by rfl) _ Try.underlying28 rfl (by kernel_rfl)) ?_) | ((with_reducible refine gate_dst (N := 108) rfl ?_); first | refine Kd.event_run rfl (load_run BX6.out 2 rfl 28 _ (by rfl) (by rfl) _ Try.underlying28 rfl (by kernel_rfl)) ?_) | ((with_reducible refine gate_dst (N := 116) rfl ?_); first | refine Kd.event_run rfl (load_run BX6.out 2 rfl 28 _ (by rfl) (by rfl) _ Try.underlying28 rfl (by kernel_rfl)) ?_))
  (refine (laws_markAttr.calls K10 r3 (fun k => some k = (Value.slice A13_ (r4.length) c13_).ownBlock) _ r4 1 m8 rm8 w w35 HB.out (Kd.R_tight rfl X13.out) H10.out.2).mono ?_)
  rintro e w36 ⟨rfl, hS, hb, hk⟩
  have hm8 := H10.out.1
  have Z36 : Aside0 (w35.heap.size ≤ w36.heap.size) := ⟨hk.1⟩
  have n0_ := Aside0.mk (Kd.R_kept X10.out hk (fun k h1_ h2_ => by have h3_ := X13.out.1 k h2_.symm; have := Z1.out; have := GBX1.out; have := GBX2.out; have := Z2.out; have := Z3.out; have := Z4.out; have := Z18.out; have := GEBX3.out; have := GLBX3.out; have := Z19.out; have := Z20.out; have := Z21.out; have := GBX4.out; have := Z22.out; have := Z23.out; have := GBX5.out; have := Z24.out; have := Z25.out; have := GBX6.out; have := Z26.out; have := Z27.out; have := Z28.out; have := Z29.out; have := Z30.out; have := Z31.out; have := Z32.out; have := Z33.out; have := Z34.out; have := Z35.out; (try dsimp only at h1_ h3_); omega))
  have n1_ := Aside0.mk (Kd.R_kept X11.out hk (fun k h1_ h2_ => by have h3_ := X13.out.1 k h2_.symm; have := Z1.out; have := GBX1.out; have := GBX2.out; have := Z2.out; have := Z3.out; have := Z4.out; have := Z18.out; have := GEBX3.out; have := GLBX3.out; have := Z19.out; have := Z20.out; have := Z21.out; have := GBX4.out; have := Z22.out; have := Z23.out; have := GBX5.out; have := Z24.out; have := Z25.out; have := GBX6.out; have := Z26.out; have := Z27.out; have := Z28.out; have := Z29.out; have := Z30.out; have := Z31.out; have := Z32.out; have := Z33.out; have := Z34.out; have := Z35.out; (try dsimp only at h1_ h3_); omega))
  have n2_ := Aside0.mk (Kd.R_kept X12.out hk (fun k h1_ h2_ => by have h3_ := X13.out.1 k h2_.symm; have := Z1.out; have := GBX1.out; have := GBX2.out; have := Z2.out; have := Z3.out; have := Z4.out; have := Z18.out; have := GEBX3.out; have := GLBX3.out; have := Z19.out; have := Z20.out; have := Z21.out; have := GBX4.out; have := Z22.out; have := Z23.out; have := GBX5.out; have := Z24.out; have := Z25.out; have := GBX6.out; have := Z26.out; have := Z27.out; have := Z28.out; have := Z29.out; have := Z30.out; have := Z31.out; have := Z32.out; have := Z33.out; have := Z34.out; have := Z35.out; (try dsimp only at h1_ h3_); omega))
  have n3_ := Aside0.mk (Kd.R_reok rfl hS (fun k hk => X13.out.1 k hk))
  have n4_ := Aside0.mk (Kd.R_kept X14.out hk (fun k h1_ h2_ => by have h3_ := X13.out.1 k h2_.symm; have := Z1.out; have := GBX1.out; have := GBX2.out; have := Z2.out; have := Z3.out; have := Z4.out; have := Z18.out; have := GEBX3.out; have := GLBX3.out; have := Z19.out; have := Z20.out; have := Z21.out; have := GBX4.out; have := Z22.out; have := Z23.out; have := GBX5.out; have := Z24.out; have := Z25.out; have := GBX6.out; have := Z26.out; have := Z27.out; have := Z28.out; have := Z29.out; have := Z30.out; have := Z31.out; have := Z32.out; have := Z33.out; have := Z34.out; have := Z35.out; (try dsimp only at h1_ h3_); omega))
  have n5_ := Aside0.mk (Kd.R_kept X15.out hk (fun k h1_ h2_ => by have h3_ := X13.out.1 k h2_.symm; have := Z1.out; have := GBX1.out; have := GBX2.out; have := Z2.out; have := Z3.out; have := Z4.out; have := Z18.out; have := GEBX3.out; have := GLBX3.out; have := Z19.out; have := Z20.out; have := Z21.out; have := GBX4.out; have := Z22.out; have := Z23.out; have := GBX5.out; have := Z24.out; have := Z25.out; have := GBX6.out; have := Z26.out; have := Z27.out; have := Z28.out; have := Z29.out; have := Z30.out; have := Z31.out; have := Z32.out; have := Z33.out; have := Z34.out; have := Z35.out; (try dsimp only at h1_ h3_); omega))
  have n6_ := Aside0.mk (blk_kept BX1.out hk (fun h1_ => by have h1_ := X13.out.1 _ h1_.symm; have := Z1.out; have := GBX1.out; have := GBX2.out; have := Z2.out; have := Z3.out; have := Z4.out; have := Z18.out; have := GEBX3.out; have := GLBX3.out; have := Z19.out; have := Z20.out; have := Z21.out; have := GBX4.out; have := Z22.out; have := Z23.out; have := GBX5.out; have := Z24.out; have := Z25.out; have := GBX6.out; have := Z26.out; have := Z27.out; have := Z28.out; have := Z29.out; have := Z30.out; have := Z31.out; have := Z32.out; have := Z33.out; have := Z34.out; have := Z35.out; (try dsimp only at h1_); omega))
  have n7_ := Aside0.mk (blk_kept BX2.out hk (fun h1_ => by have h1_ := X13.out.1 _ h1_.symm; have := Z1.out; have := GBX1.out; have := GBX2.out; have := Z2.out; have := Z3.out; have := Z4.out; have := Z18.out; have := GEBX3.out; have := GLBX3.out; have := Z19.out; have := Z20.out; have := Z21.out; have := GBX4.out; have := Z22.out; have := Z23.out; have := GBX5.out; have := Z24.out; have := Z25.out; have := GBX6.out; have := Z26.out; have := Z27.out; have := Z28.out; have := Z29.out; have := Z30.out; have := Z31.out; have := Z32.out; have := Z33.out; have := Z34.out; have := Z35.out; (try dsimp only at h1_); omega))
  have n8_ := Aside0.mk (blk_kept BX3.out hk (fun h1_ => by have h1_ := X13.out.1 _ h1_.symm; have := Z1.out; have := GBX1.out; have := GBX2.out; have := Z2.out; have := Z3.out; have := Z4.out; have := Z18.out; have := GEBX3.out; have := GLBX3.out; have := Z19.out; have := Z20.out; have := Z21.out; have := GBX4.out; have := Z22.out; have := Z23.out; have := GBX5.out; have := Z24.out; have := Z25.out; have := GBX6.out; have := Z26.out; have := Z27.out; have := Z28.out; have := Z29.out; have := Z30.out; have := Z31.out; have := Z32.out; have := Z33.out; have := Z34.out; have := Z35.out; (try dsimp only at h1_); omega))
  have n9_ := Aside0.mk (blk_kept BX4.out hk (fun h1_ => by have h1_ := X13.out.1 _ h1_.symm; have := Z1.out; have := GBX1.out; have := GBX2.out; have := Z2.out; have := Z3.out; have := Z4.out; have := Z18.out; have := GEBX3.out; have := GLBX3.out; have := Z19.out; have := Z20.out; have := Z21.out; have := GBX4.out; have := Z22.out; have := Z23.out; have := GBX5.out; have := Z24.out; have := Z25.out; have := GBX6.out; have := Z26.out; have := Z27.out; have := Z28.out; have := Z29.out; have := Z30.out; have := Z31.out; have := Z32.out; have := Z33.out; have := Z34.out; have := Z35.out; (try dsimp only at h1_); omega))
  have n10_ := Aside0.mk (blk_kept BX5.out hk (fun h1_ => by have h1_ := X13.out.1 _ h1_.symm; have := Z1.out; have := GBX1.out; have := GBX2.out; have := Z2.out; have := Z3.out; have := Z4.out; have := Z18.out; have := GEBX3.out; have := GLBX3.out; have := Z19.out; have := Z20.out; have := Z21.out; have := GBX4.out; have := Z22.out; have := Z23.out; have := GBX5.out; have := Z24.out; have := Z25.out; have := GBX6.out; have := Z26.out; have := Z27.out; have := Z28.out; have := Z29.out; have := Z30.out; have := Z31.out; have := Z32.out; have := Z33.out; have := Z34.out; have := Z35.out; (try dsimp only at h1_); omega))
  have n11_ := Aside0.mk (blk_kept BX6.out hk (fun h1_ => by have h1_ := X13.out.1 _ h1_.symm; have := Z1.out; have := GBX1.out; have := GBX2.out; have := Z2.out; have := Z3.out; have := Z4.out; have := Z18.out; have := GEBX3.out; have := GLBX3.out; have := Z19.out; have := Z20.out; have := Z21.out; have := GBX4.out; have := Z22.out; have := Z23.out; have := GBX5.out; have := Z24.out; have := Z25.out; have := GBX6.out; have := Z26.out; have := Z27.out; have := Z28.out; have := Z29.out; have := Z30.out; have := Z31.out; have := Z32.out; have := Z33.out; have := Z34.out; have := Z35.out; (try dsimp only at h1_); omega))
  have hb_ := Aside0.mk (hb)
  clear X10 X11 X12 X13 X14 X15 BX1 BX2 BX3 BX4 BX5 BX6
  have X10 := n0_
  have X11 := n1_
  have X12 := n2_
  have X13 := n3_
  have X14 := n4_
  have X15 := n5_
  have BX1 := n6_
  have BX2 := n7_
  have BX3 := n8_
  have BX4 := n9_
  have BX5 := n10_
  have BX6 := n11_
  clear n0_ n1_ n2_ n3_ n4_ n5_ n6_ n7_ n8_ n9_ n10_ n11_
  clear HB
  have HB := hb_
  clear hb_
  clear hS hb hk
  obtain ⟨⟨K11, h11⟩, hF⟩ := HF.out
  clear HF
  have HF := Aside0.mk hF
  clear hF
  have H11 := Aside0.mk h11
  clear h11
  go_wp2_with (first | ((with_reducible refine gate_dst (N := 19) rfl ?_); first | refine Kd.event_run rfl (load_run BX6.out 2 rfl 28 _ (by rfl) (by rfl) _ Try.underlying28 rfl (by kernel_rfl)) ?_) | ((with_reducible refine gate_dst (N := 24) rfl ?_); first | refine Kd.event_run rfl (load_run BX6.out 2 rfl 28 _ (by rfl) (by rfl) _ Try.underlying28 rfl (by kernel_rfl)) ?_) | ((with_reducible refine gate_dst (N := 31) rfl ?_); first | refine Kd.event_run rfl (load_run BX6.out 2 rfl 28 _ (by rfl) (by rfl) _ Try.underlying28 rfl (by kernel_rfl)) ?_) | ((with_reducible refine gate_dst (N := 33) rfl ?_); first | refine Kd.event_run rfl (load_run BX6.out 2 rfl 28 _ (by rfl) (by rfl) _ Try.underlying28 rfl (by kernel_rfl)) ?_) | ((with_reducible refine gate_dst (N := 38) rfl ?_); first | refine Kd.event_run rfl (load_run BX6.out 2 rfl 28 _ (by rfl) (by rfl) _ Try.underlying28 rfl (by kernel_rfl)) ?_) | ((with_reducible refine gate_dst (N := 40) rfl ?_); first | refine Kd.event_run rfl (load_run BX6.out 2 rfl 28 _ (by rfl) (by rfl) _ Try.underlying28 rfl (by kernel_rfl)) ?_) | ((with_reducible refine gate_dst (N := 44) rfl ?_); first | refine Kd.event_run rfl (load_run BX6.out 2 rfl 28 _ (by rfl) (by rfl) _ Try.underlying28 rfl (by kernel_rfl)) ?_) | ((with_reducible refine gate_dst (N := 45) rfl ?_); first | refine Kd.event_run rfl (load_run BX6.out 2 rfl 28 _ (by rfl) (by rfl) _ Try.underlying28 rfl (by kernel_rfl)) ?_) | ((with_reducible refine gate_dst (N := 49) rfl ?_); first | refine Kd.event_run rfl (load_run BX6.out 2 rfl 28 _ (by rfl) (by rfl) _ Try.underlying28 rfl (by kernel_rfl)) ?_) | ((with_reducible refine gate_dst (N := 50) rfl ?_); first | refine Kd.event_run rfl (load_run BX6.out 2 rfl 28 _ (by rfl) (by rfl) _ Try.underlying28 rfl (by kernel_rfl)) ?_) | ((with_reducible refine gate_dst (N := 58) rfl ?_); first | refine Kd.event_run rfl (load_run BX6.out 2 rfl 28 _ (by rfl) (by rfl) _ Try.underlying28 rfl (by kernel_rfl)) ?_) | ((with_reducible refine gate_dst (N := 59) rfl ?_); first | refine Kd.event_run rfl (load_run BX6.out 2 rfl 28 _ (by rfl) (by rfl) _ Try.underlying28 rfl (by kernel_rfl)) ?_) | ((with_reducible refine gate_dst (N := 63) rfl ?_); first | refine Kd.event_run rfl (load_run BX6.out 2 rfl 28 _ (by rfl) (by rfl) _ Try.underlying28 rfl (by kernel_rfl)) ?_) | ((with_reducible refine gate_dst (N := 64) rfl ?_); first | refine Kd.event_run rfl (load_run BX6.out 2 rfl 28 _ (by rfl) (by rfl) _ Try.underlying28 rfl (by kernel_rfl)) ?_) | ((with_reducible refine gate_dst (N := 68) rfl ?_); first | refine Kd.event_run rfl (load_run BX6.out 2 rfl 28 _ (by rfl) (by rfl) _ Try.underlying28 rfl (by kernel_rfl)) ?_) | ((with_reducible refine gate_dst (N := 71) rfl ?_); first | refine Kd.event_run rfl (load_run BX6.out 2 rfl 28 _ (by rfl) (by rfl) _ Try.underlying28 rfl (by kernel_rfl)) ?_) | ((with_reducible refine gate_dst (N := 77) rfl ?_); first | refine Kd.event_run rfl (load_run BX6.out 2 rfl 28 _ (by rfl) (by rfl) _ Try.underlying28 rfl (by kernel_rfl)) ?_) | ((with_reducible refine gate_dst (N := 78) rfl ?_); first | refine Kd.event_run rfl (load_run BX6.out 2 rfl 28 _ (by rfl) (by rfl) _ Try.underlying28 rfl (by kernel_rfl)) ?_) | ((with_reducible refine gate_dst (N := 87) rfl ?_); first | refine Kd.event_run rfl (load_run BX6.out 2 rfl 28 _ (by rfl) (by rfl) _ Try.underlying28 rfl (by kernel_rfl)) ?_) | ((with_reducible refine gate_dst (N := 90) rfl ?_); first | refine Kd.event_run rfl (load_run BX6.out 2 rfl 28 _ (by rfl) (by rfl) _ Try.underlying28 rfl (by kernel_rfl)) ?_) | ((with_reducible refine gate_dst (N := 100) rfl ?_); first | refine Kd.event_run rfl (load_run BX6.out 2 rfl 28 _ (by rfl) (by rfl) _ Try.underlying28 rfl (by kernel_rfl)) ?_) | ((with_reducible refine gate_dst (N := 102) rfl ?_); first | refine Kd.event_run rfl (load_run BX6.out 2 rfl 28 _ (by rfl) (by rfl) _ Try.underlying28 rfl (by kernel_rfl)) ?_) | ((with_reducible refine gate_dst (N := 107) rfl ?_); first | refine Kd.event_run rfl (load_run BX6.out 2 rfl 28 _ (by rfl) (by rfl) _ Try.underlying28 rfl (by kernel_rfl)) ?_) | ((with_reducible refine gate_dst (N := 108) rfl ?_); first | refine Kd.event_run rfl (load_run BX6.out 2 rfl 28 _ (by rfl) (by rfl) _ Try.underlying28 rfl (by kernel_rfl)) ?_) | ((with_reducible refine gate_dst (N := 116) rfl ?_); first | refine Kd.event_run rfl (load_run BX6.out 2 rfl 28 _ (by rfl) (by rfl) _ Try.underlying28 rfl (by kernel_rfl)) ?_))
  have hc_ := laws_heldAttr.calls K11 r3 A13_ c13_ rm8 1 m8 w36 (Kd.R_reads' X13.out).2.2 (Nat.le_trans (Nat.le_of_eq (Kd.R_reads' X13.out).1.symm) (Kd.R_reads' X13.out).2.1) H11.out
  rw [← (Kd.R_reads' X13.out).1] at hc_
  (refine (hc_).mono ?_)
  clear hc_
  rintro e w37 ⟨rfl, hb⟩
  have Z37 : Aside0 (w36.heap.size ≤ w37.heap.size) := ⟨hb.size⟩
  have n0_ := Aside0.mk (Kd.R_below X10.out hb)
  have n1_ := Aside0.mk (Kd.R_below X11.out hb)
  have n2_ := Aside0.mk (Kd.R_below X12.out hb)
  have n3_ := Aside0.mk (Kd.R_below X13.out hb)
  have n4_ := Aside0.mk (Kd.R_below X14.out hb)
  have n5_ := Aside0.mk (Kd.R_below X15.out hb)
  have n6_ := Aside0.mk (blk_below BX1.out hb)
  have n7_ := Aside0.mk (blk_below BX2.out hb)
  have n8_ := Aside0.mk (blk_below BX3.out hb)
  have n9_ := Aside0.mk (blk_below BX4.out hb)
  have n10_ := Aside0.mk (blk_below BX5.out hb)
  have n11_ := Aside0.mk (blk_below BX6.out hb)
  have hb_ := Aside0.mk (below_then HB.out HB.out.size hb)
  clear X10 X11 X12 X13 X14 X15 BX1 BX2 BX3 BX4 BX5 BX6
  have X10 := n0_
  have X11 := n1_
  have X12 := n2_
  have X13 := n3_
  have X14 := n4_
  have X15 := n5_
  have BX1 := n6_
  have BX2 := n7_
  have BX3 := n8_
  have BX4 := n9_
  have BX5 := n10_
  have BX6 := n11_
  clear n0_ n1_ n2_ n3_ n4_ n5_ n6_ n7_ n8_ n9_ n10_ n11_
  clear HB
  have HB := hb_
  clear hb_
  clear hb
  go_wp2_with (first | ((with_reducible refine gate_dst (N := 19) rfl ?_); first | refine Kd.event_run rfl (load_run BX1.out 2 rfl 24 _ (by rfl) (by rfl) _ Try.underlying24 rfl (by kernel_rfl)) ?_ | refine Kd.event_run rfl (load_run BX2.out 2 rfl 24 _ (by rfl) (by rfl) _ Try.underlying24 rfl (by kernel_rfl)) ?_) | ((with_reducible refine gate_dst (N := 24) rfl ?_); first | refine Kd.event_run rfl (load_run BX1.out 2 rfl 24 _ (by rfl) (by rfl) _ Try.underlying24 rfl (by kernel_rfl)) ?_ | refine Kd.event_run rfl (load_run BX2.out 2 rfl 24 _ (by rfl) (by rfl) _ Try.underlying24 rfl (by kernel_rfl)) ?_) | ((with_reducible refine gate_dst (N := 31) rfl ?_); first | refine Kd.event_run rfl (load_run BX1.out 2 rfl 24 _ (by rfl) (by rfl) _ Try.underlying24 rfl (by kernel_rfl)) ?_ | refine Kd.event_run rfl (load_run BX2.out 2 rfl 24 _ (by rfl) (by rfl) _ Try.underlying24 rfl (by kernel_rfl)) ?_) | ((with_reducible refine gate_dst (N := 33) rfl ?_); first | refine Kd.event_run rfl (load_run BX1.out 2 rfl 24 _ (by rfl) (by rfl) _ Try.underlying24 rfl (by kernel_rfl)) ?_ | refine Kd.event_run rfl (load_run BX2.out 2 rfl 24 _ (by rfl) (by rfl) _ Try.underlying24 rfl (by kernel_rfl)) ?_) | ((with_reducible refine gate_dst (N := 38) rfl ?_); first | refine Kd.event_run rfl (load_run BX1.out 2 rfl 24 _ (by rfl) (by rfl) _ Try.underlying24 rfl (by kernel_rfl)) ?_ | refine Kd.event_run rfl (load_run BX2.out 2 rfl 24 _ (by rfl) (by rfl) _ Try.underlying24 rfl (by kernel_rfl)) ?_) | ((with_reducible refine gate_dst (N := 40) rfl ?_); first | refine Kd.event_run rfl (load_run BX1.out 2 rfl 24 _ (by rfl) (by rfl) _ Try.underlying24 rfl (by kernel_rfl)) ?_ | refine Kd.event_run rfl (load_run BX2.out 2 rfl 24 _ (by rfl) (by rfl) _ Try.underlying24 rfl (by kernel_rfl)) ?_) | ((with_reducible refine gate_dst (N := 44) rfl ?_); first | refine Kd.event_run rfl (load_run BX1.out 2 rfl 24 _ (by rfl) (by rfl) _ Try.underlying24 rfl (by kernel_rfl)) ?_ | refine Kd.event_run rfl (load_run BX2.out 2 rfl 24 _ (by rfl) (by rfl) _ Try.underlying24 rfl (by kernel_rfl)) ?_) | ((with_reducible refine gate_dst (N := 45) rfl ?_); first | refine Kd.event_run rfl (load_run BX1.out 2 rfl 24 _ (by rfl) (by rfl) _ Try.underlying24 rfl (by kernel_rfl)) ?_ | refine Kd.event_run rfl (load_run BX2.out 2 rfl 24 _ (by rfl) (by rfl) _ Try.underlying24 rfl (by kernel_rfl)) ?_) | ((with_reducible refine gate_dst (N := 49) rfl ?_); first | refine Kd.event_run rfl (load_run BX1.out 2 rfl 24 _ (by rfl) (by rfl) _ Try.underlying24 rfl (by kernel_rfl)) ?_ | refine Kd.event_run rfl (load_run BX2.out 2 rfl 24 _ (by rfl) (by rfl) _ Try.underlying24 rfl (by kernel_rfl)) ?_) | ((with_reducible refine gate_dst (N := 50) rfl ?_); first | refine Kd.event_run rfl (load_run BX1.out 2 rfl 24 _ (by rfl) (by rfl) _ Try.underlying24 rfl (by kernel_rfl)) ?_ | refine Kd.event_run rfl (load_run BX2.out 2 rfl 24 _ (by rfl) (by rfl) _ Try.underlying24 rfl (by kernel_rfl)) ?_) | ((with_reducible refine gate_dst (N := 58) rfl ?_); first | refine Kd.event_run rfl (load_run BX1.out 2 rfl 24 _ (by rfl) (by rfl) _ Try.underlying24 rfl (by kernel_rfl)) ?_ | refine Kd.event_run rfl (load_run BX2.out 2 rfl 24 _ (by rfl) (by rfl) _ Try.underlying24 rfl (by kernel_rfl)) ?_) | ((with_reducible refine gate_dst (N := 59) rfl ?_); first | refine Kd.event_run rfl (load_run BX1.out 2 rfl 24 _ (by rfl) (by rfl) _ Try.underlying24 rfl (by kernel_rfl)) ?_ | refine Kd.event_run rfl (load_run BX2.out 2 rfl 24 _ (by rfl) (by rfl) _ Try.underlying24 rfl (by kernel_rfl)) ?_) | ((with_reducible refine gate_dst (N := 63) rfl ?_); first | refine Kd.event_run rfl (load_run BX1.out 2 rfl 24 _ (by rfl) (by rfl) _ Try.underlying24 rfl (by kernel_rfl)) ?_ | refine Kd.event_run rfl (load_run BX2.out 2 rfl 24 _ (by rfl) (by rfl) _ Try.underlying24 rfl (by kernel_rfl)) ?_) | ((with_reducible refine gate_dst (N := 64) rfl ?_); first | refine Kd.event_run rfl (load_run BX1.out 2 rfl 24 _ (by rfl) (by rfl) _ Try.underlying24 rfl (by kernel_rfl)) ?_ | refine Kd.event_run rfl (load_run BX2.out 2 rfl 24 _ (by rfl) (by rfl) _ Try.underlying24 rfl (by kernel_rfl)) ?_) | ((with_reducible refine gate_dst (N := 68) rfl ?_); first | refine Kd.event_run rfl (load_run BX1.out 2 rfl 24 _ (by rfl) (by rfl) _ Try.underlying24 rfl (by kernel_rfl)) ?_ | refine Kd.event_run rfl (load_run BX2.out 2 rfl 24 _ (by rfl) (by rfl) _ Try.underlying24 rfl (by kernel_rfl)) ?_) | ((with_reducible refine gate_dst (N := 71) rfl ?_); first | refine Kd.event_run rfl (load_run BX1.out 2 rfl 24 _ (by rfl) (by rfl) _ Try.underlying24 rfl (by kernel_rfl)) ?_ | refine Kd.event_run rfl (load_run BX2.out 2 rfl 24 _ (by rfl) (by rfl) _ Try.underlying24 rfl (by kernel_rfl)) ?_) | ((with_reducible refine gate_dst (N := 77) rfl ?_); first | refine Kd.event_run rfl (load_run BX1.out 2 rfl 24 _ (by rfl) (by rfl) _ Try.underlying24 rfl (by kernel_rfl)) ?_ | refine Kd.event_run rfl (load_run BX2.out 2 rfl 24 _ (by rfl) (by rfl) _ Try.underlying24 rfl (by kernel_rfl)) ?_) | ((with_reducible refine gate_dst (N := 78) rfl ?_); first | refine Kd.event_run rfl (load_run BX1.out 2 rfl 24 _ (by rfl) (by rfl) _ Try.underlying24 rfl (by kernel_rfl)) ?_ | refine Kd.event_run rfl (load_run BX2.out 2 rfl 24 _ (by rfl) (by rfl) _ Try.underlying24 rfl (by kernel_rfl)) ?_) | ((with_reducible refine gate_dst (N := 87) rfl ?_); first | refine Kd.event_run rfl (load_run BX1.out 2 rfl 24 _ (by rfl) (by rfl) _ Try.underlying24 rfl (by kernel_rfl)) ?_ | refine Kd.event_run rfl (load_run BX2.out 2 rfl 24 _ (by rfl) (by rfl) _ Try.underlying24 rfl (by kernel_rfl)) ?_) | ((with_reducible refine gate_dst (N := 90) rfl ?_); first | refine Kd.event_run rfl (load_run BX1.out 2 rfl 24 _ (by rfl) (by rfl) _ Try.underlying24 rfl (by kernel_rfl)) ?_ | refine Kd.event_run rfl (load_run BX2.out 2 rfl 24 _ (by rfl) (by rfl) _ Try.underlying24 rfl (by kernel_rfl)) ?_) | ((with_reducible refine gate_dst (N := 100) rfl ?_); first | refine Kd.event_run rfl (load_run BX1.out 2 rfl 24 _ (by rfl) (by rfl) _ Try.underlying24 rfl (by kernel_rfl)) ?_ | refine Kd.event_run rfl (load_run BX2.out 2 rfl 24 _ (by rfl) (by rfl) _ Try.underlying24 rfl (by kernel_rfl)) ?_) | ((with_reducible refine gate_dst (N := 102) rfl ?_); first | refine Kd.event_run rfl (load_run BX1.out 2 rfl 24 _ (by rfl) (by rfl) _ Try.underlying24 rfl (by kernel_rfl)) ?_ | refine Kd.event_run rfl (load_run BX2.out 2 rfl 24 _ (by rfl) (by rfl) _ Try.underlying24 rfl (by kernel_rfl)) ?_) | ((with_reducible refine gate_dst (N := 107) rfl ?_); first | refine Kd.event_run rfl (load_run BX1.out 2 rfl 24 _ (by rfl) (by rfl) _ Try.underlying24 rfl (by kernel_rfl)) ?_ | refine Kd.event_run rfl (load_run BX2.out 2 rfl 24 _ (by rfl) (by rfl) _ Try.underlying24 rfl (by kernel_rfl)) ?_) | ((with_reducible refine gate_dst (N := 108) rfl ?_); first | refine Kd.event_run rfl (load_run BX1.out 2 rfl 24 _ (by rfl) (by rfl) _ Try.underlying24 rfl (by kernel_rfl)) ?_ | refine Kd.event_run rfl (load_run BX2.out 2 rfl 24 _ (by rfl) (by rfl) _ Try.underlying24 rfl (by kernel_rfl)) ?_) | ((with_reducible refine gate_dst (N := 116) rfl ?_); first | refine Kd.event_run rfl (load_run BX1.out 2 rfl 24 _ (by rfl) (by rfl) _ Try.underlying24 rfl (by kernel_rfl)) ?_ | refine Kd.event_run rfl (load_run BX2.out 2 rfl 24 _ (by rfl) (by rfl) _ Try.underlying24 rfl (by kernel_rfl)) ?_))
  refine start_ (n := 12) (S := fun w' => w'.heap[w.heap.size]? = some (.cells #[.int .i64 a1_0, .slice A1_1 l1_1.length c1_1] 24 (0, 0)) ∧ w'.heap[w.heap.size + 1]? = some (.cells #[.int .i64 a2_0, .slice A2_1 l2_1.length c2_1] 24 (0, 0))) (ds := []) #[false, false, false, false, false, false, false, false, false, false, false, false] (by kernel_rfl) rfl rfl ⟨BX1.out, BX2.out⟩ (fun hHeld => ?_)
  have hb : Below w37.heap.size w37 w37.drew := below_drew (Below.refl _ _)
  generalize w37.drew = w38 at hb hHeld ⊢
  have Z38 : Aside0 (w37.heap.size ≤ w38.heap.size) := ⟨hb.size⟩
  have n0_ := Aside0.mk (Kd.R_below X10.out hb)
  have n1_ := Aside0.mk (Kd.R_below X11.out hb)
  have n2_ := Aside0.mk (Kd.R_below X12.out hb)
  have n3_ := Aside0.mk (Kd.R_below X13.out hb)
  have n4_ := Aside0.mk (Kd.R_below X14.out hb)
  have n5_ := Aside0.mk (Kd.R_below X15.out hb)
  have n6_ := Aside0.mk (blk_below BX1.out hb)
  have n7_ := Aside0.mk (blk_below BX2.out hb)
  have n8_ := Aside0.mk (blk_below BX3.out hb)
  have n9_ := Aside0.mk (blk_below BX4.out hb)
  have n10_ := Aside0.mk (blk_below BX5.out hb)
  have n11_ := Aside0.mk (blk_below BX6.out hb)
  have hb_ := Aside0.mk (below_then HB.out HB.out.size hb)
  clear X10 X11 X12 X13 X14 X15 BX1 BX2 BX3 BX4 BX5 BX6
  have X10 := n0_
  have X11 := n1_
  have X12 := n2_
  have X13 := n3_
  have X14 := n4_
  have X15 := n5_
  have BX1 := n6_
  have BX2 := n7_
  have BX3 := n8_
  have BX4 := n9_
  have BX5 := n10_
  have BX6 := n11_
  clear n0_ n1_ n2_ n3_ n4_ n5_ n6_ n7_ n8_ n9_ n10_ n11_
  clear HB
  have HB := hb_
  clear hb_
  clear hb
  refine pure_ (i := 0) (N := some 99) (v := ?_) (a' := ?_) #[true, false, false, false, false, false, false, false, false, false, false, false] rfl rfl (by kernel_rfl) (fun _ _ _ h => h) (Or.inl ⟨by rfl, ?_⟩) ?_ ?_
  rotate_left
  · intro w'
    go_simp
    with_reducible rfl
  rotate_left
  · simp only [Act.put, List.setIfInBounds_toArray, List.set_cons_zero, List.set_cons_succ, i64_w, i32_w]
    rfl
  refine take_ (i := 1) (N := some 100) (v := ?_) (a' := ?_) #[true, true, false, false, false, false, false, false, false, false, false, false] rfl rfl (by kernel_rfl) (fun _ _ _ h => h) (Or.inl ⟨by rfl, ?_⟩) hHeld ?_ ?_
  rotate_left
  · rintro w' ⟨s0, s1⟩
    first | (refine Eq.trans (load_run s0 2 rfl 24 _ (by rfl) (by rfl) _ Try.underlying24 rfl (by kernel_rfl)) ?_; with_reducible rfl) | (refine Eq.trans (load_run s1 2 rfl 24 _ (by rfl) (by rfl) _ Try.underlying24 rfl (by kernel_rfl)) ?_; with_reducible rfl)
  rotate_left
  · simp only [Act.put, List.setIfInBounds_toArray, List.set_cons_zero, List.set_cons_succ, i64_w, i32_w]
    rfl
  refine take_ (i := 3) (N := some 102) (v := ?_) (a' := ?_) #[true, true, false, true, false, false, false, false, false, false, false, false] rfl rfl (by kernel_rfl) (fun _ _ _ h => h) (Or.inl ⟨by rfl, ?_⟩) hHeld ?_ ?_
  rotate_left
  · rintro w' ⟨s0, s1⟩
    first | (refine Eq.trans (load_run s0 2 rfl 24 _ (by rfl) (by rfl) _ Try.underlying24 rfl (by kernel_rfl)) ?_; with_reducible rfl) | (refine Eq.trans (load_run s1 2 rfl 24 _ (by rfl) (by rfl) _ Try.underlying24 rfl (by kernel_rfl)) ?_; with_reducible rfl)
  rotate_left
  · simp only [Act.put, List.setIfInBounds_toArray, List.set_cons_zero, List.set_cons_succ, i64_w, i32_w]
    rfl
  have HBr := Aside0.mk (Below.refl w38.heap.size w38)
  refine join_ (σ := Value × Value × Value × Nat) 2 #[true, true, true, true, true, true, true, true, true, true, false, false] (fun s_ => [(101, .agg #[.int .i64 a1_0, s_.1]), (103, .agg #[.int .i64 a2_0, s_.2.1]), (104, .tuple #[.agg #[.int .i64 r3, s_.2.2.1], .bool r5]), (17, .pointer (some ⟨s_.2.2.2, 0, none⟩)), (98, .tuple #[.agg #[.int .i64 r3, s_.2.2.1], .bool r5]), (105, .agg #[.int .i64 r3, s_.2.2.1]), (106, .bool r5)]) (fun s_ w' => (w'.heap[w.heap.size]? = some (.cells #[.int .i64 a1_0, .slice A1_1 l1_1.length c1_1] 24 (0, 0)) ∧ w'.heap[w.heap.size + 1]? = some (.cells #[.int .i64 a2_0, .slice A2_1 l2_1.length c2_1] 24 (0, 0))) ∧ Below w38.heap.size w38 w' ∧ Kd.R (Kd.int .i64) 3 w' w.heap.size (fun k => w38.heap.size ≤ k ∧ k < w'.heap.size) s_.2.2.1 r4 ∧ w'.heap[s_.2.2.2]? = some (.cells #[.int .i64 0, .slice none 0 0] 28 (0, 0)) ∧ w38.heap.size ≤ s_.2.2.2) ?_ ?_
  rotate_left
  · intro hCont
    refine two_ (i := 2) (j := 9) (Ni := some 101) (Nj := some 17) #[true, true, true, true, false, false, false, false, false, false, false, false] #[true, true, false, true, false, false, false, false, false, true, false, false] rfl rfl rfl rfl (by kernel_rfl) (by decide) (by decide) (fun K hK => ?_) (fun K hK => ?_)
    · skip
      refine goes_ Try.func14 (by kernel_rfl) rfl #[.agg #[.int .i64 a1_0, .slice A1_1 l1_1.length c1_1]] (by rfl) rfl rfl (by (try simp only [List.map_toArray, List.map_cons, List.map_nil]); first | done | rfl) ?_
      (refine (laws_toAttr.calls K1 a1_0 A1_1 c1_1 l1_1 a1_0 l1_1 w38 (Kd.C_below HR1_1.out HB.out) HC1_1.out H1.out).mono ?_)
      rintro e w39 ⟨v1_, rfl, hS0, hb⟩
      refine ⟨_, rfl, ?_⟩
      have X16 : Aside0 (Kd.R (Kd.int .i64) 3 w39 w.heap.size (fun k => w38.heap.size ≤ k ∧ k < w39.heap.size) v1_ l1_1) := ⟨Kd.R_mono (Kd.R_lower (Kd.R_bound hS0) HB.out.size) (fun k hk => ⟨hk.2.1, hk.2.2.1⟩)⟩
      have Z39 : Aside0 (w38.heap.size ≤ w39.heap.size) := ⟨hb.size⟩
      have n0_ := Aside0.mk (Kd.R_below X10.out hb)
      have n1_ := Aside0.mk (Kd.R_below X11.out hb)
      have n2_ := Aside0.mk (Kd.R_below X12.out hb)
      have n3_ := Aside0.mk (Kd.R_below X13.out hb)
      have n4_ := Aside0.mk (Kd.R_below X14.out hb)
      have n5_ := Aside0.mk (Kd.R_below X15.out hb)
      have n6_ := Aside0.mk (blk_below BX1.out hb)
      have n7_ := Aside0.mk (blk_below BX2.out hb)
      have n8_ := Aside0.mk (blk_below BX3.out hb)
      have n9_ := Aside0.mk (blk_below BX4.out hb)
      have n10_ := Aside0.mk (blk_below BX5.out hb)
      have n11_ := Aside0.mk (blk_below BX6.out hb)
      have hb_ := Aside0.mk (below_then HB.out HB.out.size hb)
      clear X10 X11 X12 X13 X14 X15 BX1 BX2 BX3 BX4 BX5 BX6
      have X10 := n0_
      have X11 := n1_
      have X12 := n2_
      have X13 := n3_
      have X14 := n4_
      have X15 := n5_
      have BX1 := n6_
      have BX2 := n7_
      have BX3 := n8_
      have BX4 := n9_
      have BX5 := n10_
      have BX6 := n11_
      clear n0_ n1_ n2_ n3_ n4_ n5_ n6_ n7_ n8_ n9_ n10_ n11_
      clear HB
      have HB := hb_
      clear hb_
      have hb_ := Aside0.mk (below_then HBr.out HBr.out.size hb)
      clear HBr
      have HBr := hb_
      clear hb_
      clear hb hS0
      obtain ⟨A16_, c16_, rfl⟩ := Kd.R_slice X16.out
      refine hK.out _ _ ⟨BX1.out, BX2.out⟩ (fun hHeld => ?_)
      clear hK K
      refine norm_ (a' := ?_) ?_ ?_
      rotate_left
      · show Act.put _ (some 101) _ = _
        simp only [Act.put, List.setIfInBounds_toArray, List.set_cons_zero, List.set_cons_succ, i64_w, i32_w]
        rfl
      refine two_ (i := 4) (j := 9) (Ni := some 103) (Nj := some 17) #[true, true, true, true, true, false, false, false, false, false, false, false] #[true, true, true, true, false, false, false, false, false, true, false, false] rfl rfl rfl rfl (by kernel_rfl) (by decide) (by decide) (fun K hK => ?_) (fun K hK => ?_)
      · skip
        refine goes_ Try.func14 (by kernel_rfl) rfl #[.agg #[.int .i64 a2_0, .slice A2_1 l2_1.length c2_1]] (by rfl) rfl rfl (by (try simp only [List.map_toArray, List.map_cons, List.map_nil]); first | done | rfl) ?_
        (refine (laws_toAttr.calls K2 a2_0 A2_1 c2_1 l2_1 a2_0 l2_1 w39 (Kd.C_below HR2_1.out HB.out) HC2_1.out H2.out).mono ?_)
        rintro e w40 ⟨v1_, rfl, hS0, hb⟩
        refine ⟨_, rfl, ?_⟩
        have X17 : Aside0 (Kd.R (Kd.int .i64) 3 w40 w.heap.size (fun k => w39.heap.size ≤ k ∧ k < w40.heap.size) v1_ l2_1) := ⟨Kd.R_mono (Kd.R_lower (Kd.R_bound hS0) HB.out.size) (fun k hk => ⟨hk.2.1, hk.2.2.1⟩)⟩
        have Z40 : Aside0 (w39.heap.size ≤ w40.heap.size) := ⟨hb.size⟩
        have n0_ := Aside0.mk (Kd.R_below X10.out hb)
        have n1_ := Aside0.mk (Kd.R_below X11.out hb)
        have n2_ := Aside0.mk (Kd.R_below X12.out hb)
        have n3_ := Aside0.mk (Kd.R_below X13.out hb)
        have n4_ := Aside0.mk (Kd.R_below X14.out hb)
        have n5_ := Aside0.mk (Kd.R_below X15.out hb)
        have n6_ := Aside0.mk (Kd.R_below X16.out hb)
        have n7_ := Aside0.mk (blk_below BX1.out hb)
        have n8_ := Aside0.mk (blk_below BX2.out hb)
        have n9_ := Aside0.mk (blk_below BX3.out hb)
        have n10_ := Aside0.mk (blk_below BX4.out hb)
        have n11_ := Aside0.mk (blk_below BX5.out hb)
        have n12_ := Aside0.mk (blk_below BX6.out hb)
        have hb_ := Aside0.mk (below_then HB.out HB.out.size hb)
        clear X10 X11 X12 X13 X14 X15 X16 BX1 BX2 BX3 BX4 BX5 BX6
        have X10 := n0_
        have X11 := n1_
        have X12 := n2_
        have X13 := n3_
        have X14 := n4_
        have X15 := n5_
        have X16 := n6_
        have BX1 := n7_
        have BX2 := n8_
        have BX3 := n9_
        have BX4 := n10_
        have BX5 := n11_
        have BX6 := n12_
        clear n0_ n1_ n2_ n3_ n4_ n5_ n6_ n7_ n8_ n9_ n10_ n11_ n12_
        clear HB
        have HB := hb_
        clear hb_
        have hb_ := Aside0.mk (below_then HBr.out HBr.out.size hb)
        clear HBr
        have HBr := hb_
        clear hb_
        clear hb hS0
        obtain ⟨A17_, c17_, rfl⟩ := Kd.R_slice X17.out
        refine hK.out _ _ ⟨BX1.out, BX2.out⟩ (fun hHeld => ?_)
        clear hK K
        refine norm_ (a' := ?_) ?_ ?_
        rotate_left
        · show Act.put _ (some 103) _ = _
          simp only [Act.put, List.setIfInBounds_toArray, List.set_cons_zero, List.set_cons_succ, i64_w, i32_w]
          rfl
        refine two_ (i := 5) (j := 9) (Ni := some 104) (Nj := some 17) #[true, true, true, true, true, true, false, false, false, false, false, false] #[true, true, true, true, true, false, false, false, false, true, false, false] rfl rfl rfl rfl (by kernel_rfl) (by decide) (by decide) (fun K hK => ?_) (fun K hK => ?_)
        · skip
          refine goes_ Try.func18 (by kernel_rfl) rfl #[.int .i64 a0, .agg #[.int .i64 a1_0, .slice A16_ l1_1.length c16_], .agg #[.int .i64 a2_0, .slice A17_ l2_1.length c17_]] (by rfl) rfl rfl (by (try simp only [List.map_toArray, List.map_cons, List.map_nil]); first | done | rfl) ?_
          (refine (impl_JoinAttr.calls K4 a0 a1_0 A16_ c16_ l1_1 a2_0 A17_ c17_ l2_1 r3 r4 r5 w40 (Kd.R_reads' X16.out).2.2 (Kd.R_reads' X16.out).2.1 (Kd.R_reads' X17.out).2.2 (Kd.R_reads' X17.out).2.1 H4.out).mono ?_)
          rintro e w41 ⟨v1_, rfl, hS0, hb⟩
          refine ⟨_, rfl, ?_⟩
          have X18 : Aside0 (Kd.R (Kd.int .i64) 3 w41 w.heap.size (fun k => w40.heap.size ≤ k ∧ k < w41.heap.size) v1_ r4) := ⟨Kd.R_mono (Kd.R_lower (Kd.R_bound hS0) HB.out.size) (fun k hk => ⟨hk.2.1, hk.2.2.1⟩)⟩
          have Z41 : Aside0 (w40.heap.size ≤ w41.heap.size) := ⟨hb.size⟩
          have n0_ := Aside0.mk (Kd.R_below X10.out hb)
          have n1_ := Aside0.mk (Kd.R_below X11.out hb)
          have n2_ := Aside0.mk (Kd.R_below X12.out hb)
          have n3_ := Aside0.mk (Kd.R_below X13.out hb)
          have n4_ := Aside0.mk (Kd.R_below X14.out hb)
          have n5_ := Aside0.mk (Kd.R_below X15.out hb)
          have n6_ := Aside0.mk (Kd.R_below X16.out hb)
          have n7_ := Aside0.mk (Kd.R_below X17.out hb)
          have n8_ := Aside0.mk (blk_below BX1.out hb)
          have n9_ := Aside0.mk (blk_below BX2.out hb)
          have n10_ := Aside0.mk (blk_below BX3.out hb)
          have n11_ := Aside0.mk (blk_below BX4.out hb)
          have n12_ := Aside0.mk (blk_below BX5.out hb)
          have n13_ := Aside0.mk (blk_below BX6.out hb)
          have hb_ := Aside0.mk (below_then HB.out HB.out.size hb)
          clear X10 X11 X12 X13 X14 X15 X16 X17 BX1 BX2 BX3 BX4 BX5 BX6
          have X10 := n0_
          have X11 := n1_
          have X12 := n2_
          have X13 := n3_
          have X14 := n4_
          have X15 := n5_
          have X16 := n6_
          have X17 := n7_
          have BX1 := n8_
          have BX2 := n9_
          have BX3 := n10_
          have BX4 := n11_
          have BX5 := n12_
          have BX6 := n13_
          clear n0_ n1_ n2_ n3_ n4_ n5_ n6_ n7_ n8_ n9_ n10_ n11_ n12_ n13_
          clear HB
          have HB := hb_
          clear hb_
          have hb_ := Aside0.mk (below_then HBr.out HBr.out.size hb)
          clear HBr
          have HBr := hb_
          clear hb_
          clear hb hS0
          obtain ⟨A18_, c18_, rfl⟩ := Kd.R_slice X18.out
          refine hK.out _ _ ⟨BX1.out, BX2.out⟩ (fun hHeld => ?_)
          clear hK K
          refine norm_ (a' := ?_) ?_ ?_
          rotate_left
          · show Act.put _ (some 104) _ = _
            simp only [Act.put, List.setIfInBounds_toArray, List.set_cons_zero, List.set_cons_succ, i64_w, i32_w]
            rfl
          refine pure_ (i := 6) (N := some 98) (v := ?_) (a' := ?_) #[true, true, true, true, true, true, true, false, false, false, false, false] rfl rfl (by kernel_rfl) (fun _ _ _ h => h) (Or.inl ⟨by rfl, ?_⟩) ?_ ?_
          rotate_left
          · intro w'
            go_simp
            with_reducible rfl
          rotate_left
          · simp only [Act.put, List.setIfInBounds_toArray, List.set_cons_zero, List.set_cons_succ, i64_w, i32_w]
            rfl
          refine pure_ (i := 7) (N := some 105) (v := ?_) (a' := ?_) #[true, true, true, true, true, true, true, true, false, false, false, false] rfl rfl (by kernel_rfl) (fun _ _ _ h => h) (Or.inl ⟨by rfl, ?_⟩) ?_ ?_
          rotate_left
          · intro w'
            go_simp
            with_reducible rfl
          rotate_left
          · simp only [Act.put, List.setIfInBounds_toArray, List.set_cons_zero, List.set_cons_succ, i64_w, i32_w]
            rfl
          refine pure_ (i := 8) (N := some 106) (v := ?_) (a' := ?_) #[true, true, true, true, true, true, true, true, true, false, false, false] rfl rfl (by kernel_rfl) (fun _ _ _ h => h) (Or.inl ⟨by rfl, ?_⟩) ?_ ?_
          rotate_left
          · intro w'
            go_simp
            with_reducible rfl
          rotate_left
          · simp only [Act.put, List.setIfInBounds_toArray, List.set_cons_zero, List.set_cons_succ, i64_w, i32_w]
            rfl
          refine one_ (i := 9) (N := some 17) #[true, true, true, true, true, true, true, true, true, true, false, false] rfl rfl (by kernel_rfl) (by decide) (fun K hK => ?_)
          refine box_step ?hg (N := 17) ?hd (cs := #[.int .i64 0, .slice none 0 0]) (t := 28) ?hr ?_; (case hd => rfl); (case hg => rfl); (case hr => first | (go_simp; done) | (go_simp; rfl))
          intro gb41 hg w42 hbox hb
          have GW_ : Aside0 (w38.heap.size ≤ gb41) := ⟨by rw [hg]; exact HBr.out.size⟩
          have Z42 : Aside0 (w41.heap.size ≤ w42.heap.size) := ⟨hb.size⟩
          have n0_ := Aside0.mk (Kd.R_below X10.out hb)
          have n1_ := Aside0.mk (Kd.R_below X11.out hb)
          have n2_ := Aside0.mk (Kd.R_below X12.out hb)
          have n3_ := Aside0.mk (Kd.R_below X13.out hb)
          have n4_ := Aside0.mk (Kd.R_below X14.out hb)
          have n5_ := Aside0.mk (Kd.R_below X15.out hb)
          have n6_ := Aside0.mk (Kd.R_below X16.out hb)
          have n7_ := Aside0.mk (Kd.R_below X17.out hb)
          have n8_ := Aside0.mk (Kd.R_below X18.out hb)
          have n9_ := Aside0.mk (blk_below BX1.out hb)
          have n10_ := Aside0.mk (blk_below BX2.out hb)
          have n11_ := Aside0.mk (blk_below BX3.out hb)
          have n12_ := Aside0.mk (blk_below BX4.out hb)
          have n13_ := Aside0.mk (blk_below BX5.out hb)
          have n14_ := Aside0.mk (blk_below BX6.out hb)
          have hb_ := Aside0.mk (below_then HB.out HB.out.size hb)
          clear X10 X11 X12 X13 X14 X15 X16 X17 X18 BX1 BX2 BX3 BX4 BX5 BX6
          have X10 := n0_
          have X11 := n1_
          have X12 := n2_
          have X13 := n3_
          have X14 := n4_
          have X15 := n5_
          have X16 := n6_
          have X17 := n7_
          have X18 := n8_
          have BX1 := n9_
          have BX2 := n10_
          have BX3 := n11_
          have BX4 := n12_
          have BX5 := n13_
          have BX6 := n14_
          clear n0_ n1_ n2_ n3_ n4_ n5_ n6_ n7_ n8_ n9_ n10_ n11_ n12_ n13_ n14_
          clear HB
          have HB := hb_
          clear hb_
          have hb_ := Aside0.mk (below_then HBr.out HBr.out.size hb)
          clear HBr
          have HBr := hb_
          clear hb_
          have BXz : Aside0 (w42.heap[gb41]? = some (.cells #[.int .i64 0, .slice none 0 0] 28 (0, 0))) := ⟨hbox⟩
          clear hg hb hbox
          refine hK.out _ _ ⟨BX1.out, BX2.out⟩ (fun hHeld => ?_)
          clear hK K
          refine norm_ (a' := ?_) ?_ ?_
          rotate_left
          · show Act.put _ (some 17) _ = _
            simp only [Act.put, List.setIfInBounds_toArray, List.set_cons_zero, List.set_cons_succ, i64_w, i32_w]
            rfl
          exact norm_ (by simp only [putAll, Act.put, List.setIfInBounds_toArray, List.set_cons_zero, List.set_cons_succ]) (hCont (.slice A16_ l1_1.length c16_, .slice A17_ l2_1.length c17_, .slice A18_ r4.length c18_, gb41) _ ⟨⟨BX1.out, BX2.out⟩, HBr.out, Kd.R_mono (Kd.R_bound X18.out) (fun k hk => ⟨by have := Z1.out; have := GBX1.out; have := GBX2.out; have := Z2.out; have := Z3.out; have := Z4.out; have := Z18.out; have := GEBX3.out; have := GLBX3.out; have := Z19.out; have := Z20.out; have := Z21.out; have := GBX4.out; have := Z22.out; have := Z23.out; have := GBX5.out; have := Z24.out; have := Z25.out; have := GBX6.out; have := Z26.out; have := Z27.out; have := Z28.out; have := Z29.out; have := Z30.out; have := Z31.out; have := Z32.out; have := Z33.out; have := Z34.out; have := Z35.out; have := Z36.out; have := Z37.out; have := Z38.out; have := Z39.out; have := Z40.out; have := Z41.out; have := Z42.out; have h3_ := hk.1; (try dsimp only at h3_); omega, hk.2.2.1⟩), BXz.out, GW_.out⟩)
        · skip
          refine box_step ?hg (N := 17) ?hd (cs := #[.int .i64 0, .slice none 0 0]) (t := 28) ?hr ?_; (case hd => rfl); (case hg => rfl); (case hr => first | (go_simp; done) | (go_simp; rfl))
          intro gb42 hg w43 hbox hb
          have GW_ : Aside0 (w38.heap.size ≤ gb42) := ⟨by rw [hg]; exact HBr.out.size⟩
          have Z43 : Aside0 (w40.heap.size ≤ w43.heap.size) := ⟨hb.size⟩
          have n0_ := Aside0.mk (Kd.R_below X10.out hb)
          have n1_ := Aside0.mk (Kd.R_below X11.out hb)
          have n2_ := Aside0.mk (Kd.R_below X12.out hb)
          have n3_ := Aside0.mk (Kd.R_below X13.out hb)
          have n4_ := Aside0.mk (Kd.R_below X14.out hb)
          have n5_ := Aside0.mk (Kd.R_below X15.out hb)
          have n6_ := Aside0.mk (Kd.R_below X16.out hb)
          have n7_ := Aside0.mk (Kd.R_below X17.out hb)
          have n8_ := Aside0.mk (blk_below BX1.out hb)
          have n9_ := Aside0.mk (blk_below BX2.out hb)
          have n10_ := Aside0.mk (blk_below BX3.out hb)
          have n11_ := Aside0.mk (blk_below BX4.out hb)
          have n12_ := Aside0.mk (blk_below BX5.out hb)
          have n13_ := Aside0.mk (blk_below BX6.out hb)
          have hb_ := Aside0.mk (below_then HB.out HB.out.size hb)
          clear X10 X11 X12 X13 X14 X15 X16 X17 BX1 BX2 BX3 BX4 BX5 BX6
          have X10 := n0_
          have X11 := n1_
          have X12 := n2_
          have X13 := n3_
          have X14 := n4_
          have X15 := n5_
          have X16 := n6_
          have X17 := n7_
          have BX1 := n8_
          have BX2 := n9_
          have BX3 := n10_
          have BX4 := n11_
          have BX5 := n12_
          have BX6 := n13_
          clear n0_ n1_ n2_ n3_ n4_ n5_ n6_ n7_ n8_ n9_ n10_ n11_ n12_ n13_
          clear HB
          have HB := hb_
          clear hb_
          have hb_ := Aside0.mk (below_then HBr.out HBr.out.size hb)
          clear HBr
          have HBr := hb_
          clear hb_
          have BXz : Aside0 (w43.heap[gb42]? = some (.cells #[.int .i64 0, .slice none 0 0] 28 (0, 0))) := ⟨hbox⟩
          clear hg hb hbox
          refine hK.out _ _ ⟨BX1.out, BX2.out⟩ (fun hHeld => ?_)
          clear hK K
          refine norm_ (a' := ?_) ?_ ?_
          rotate_left
          · show Act.put _ (some 17) _ = _
            simp only [Act.put, List.setIfInBounds_toArray, List.set_cons_zero, List.set_cons_succ, i64_w, i32_w]
            rfl
          refine one_ (i := 5) (N := some 104) #[true, true, true, true, true, true, false, false, false, true, false, false] rfl rfl (by kernel_rfl) (by decide) (fun K hK => ?_)
          refine goes_ Try.func18 (by kernel_rfl) rfl #[.int .i64 a0, .agg #[.int .i64 a1_0, .slice A16_ l1_1.length c16_], .agg #[.int .i64 a2_0, .slice A17_ l2_1.length c17_]] (by rfl) rfl rfl (by (try simp only [List.map_toArray, List.map_cons, List.map_nil]); first | done | rfl) ?_
          (refine (impl_JoinAttr.calls K4 a0 a1_0 A16_ c16_ l1_1 a2_0 A17_ c17_ l2_1 r3 r4 r5 w43 (Kd.R_reads' X16.out).2.2 (Kd.R_reads' X16.out).2.1 (Kd.R_reads' X17.out).2.2 (Kd.R_reads' X17.out).2.1 H4.out).mono ?_)
          rintro e w44 ⟨v1_, rfl, hS0, hb⟩
          refine ⟨_, rfl, ?_⟩
          have X19 : Aside0 (Kd.R (Kd.int .i64) 3 w44 w.heap.size (fun k => w43.heap.size ≤ k ∧ k < w44.heap.size) v1_ r4) := ⟨Kd.R_mono (Kd.R_lower (Kd.R_bound hS0) HB.out.size) (fun k hk => ⟨hk.2.1, hk.2.2.1⟩)⟩
          have Z44 : Aside0 (w43.heap.size ≤ w44.heap.size) := ⟨hb.size⟩
          have n0_ := Aside0.mk (Kd.R_below X10.out hb)
          have n1_ := Aside0.mk (Kd.R_below X11.out hb)
          have n2_ := Aside0.mk (Kd.R_below X12.out hb)
          have n3_ := Aside0.mk (Kd.R_below X13.out hb)
          have n4_ := Aside0.mk (Kd.R_below X14.out hb)
          have n5_ := Aside0.mk (Kd.R_below X15.out hb)
          have n6_ := Aside0.mk (Kd.R_below X16.out hb)
          have n7_ := Aside0.mk (Kd.R_below X17.out hb)
          have n8_ := Aside0.mk (blk_below BX1.out hb)
          have n9_ := Aside0.mk (blk_below BX2.out hb)
          have n10_ := Aside0.mk (blk_below BX3.out hb)
          have n11_ := Aside0.mk (blk_below BX4.out hb)
          have n12_ := Aside0.mk (blk_below BX5.out hb)
          have n13_ := Aside0.mk (blk_below BX6.out hb)
          have n14_ := Aside0.mk (blk_below BXz.out hb)
          have hb_ := Aside0.mk (below_then HB.out HB.out.size hb)
          clear X10 X11 X12 X13 X14 X15 X16 X17 BX1 BX2 BX3 BX4 BX5 BX6 BXz
          have X10 := n0_
          have X11 := n1_
          have X12 := n2_
          have X13 := n3_
          have X14 := n4_
          have X15 := n5_
          have X16 := n6_
          have X17 := n7_
          have BX1 := n8_
          have BX2 := n9_
          have BX3 := n10_
          have BX4 := n11_
          have BX5 := n12_
          have BX6 := n13_
          have BXz := n14_
          clear n0_ n1_ n2_ n3_ n4_ n5_ n6_ n7_ n8_ n9_ n10_ n11_ n12_ n13_ n14_
          clear HB
          have HB := hb_
          clear hb_
          have hb_ := Aside0.mk (below_then HBr.out HBr.out.size hb)
          clear HBr
          have HBr := hb_
          clear hb_
          clear hb hS0
          obtain ⟨A19_, c19_, rfl⟩ := Kd.R_slice X19.out
          refine hK.out _ _ ⟨BX1.out, BX2.out⟩ (fun hHeld => ?_)
          clear hK K
          refine norm_ (a' := ?_) ?_ ?_
          rotate_left
          · show Act.put _ (some 104) _ = _
            simp only [Act.put, List.setIfInBounds_toArray, List.set_cons_zero, List.set_cons_succ, i64_w, i32_w]
            rfl
          refine pure_ (i := 6) (N := some 98) (v := ?_) (a' := ?_) #[true, true, true, true, true, true, true, false, false, true, false, false] rfl rfl (by kernel_rfl) (fun _ _ _ h => h) (Or.inl ⟨by rfl, ?_⟩) ?_ ?_
          rotate_left
          · intro w'
            go_simp
            with_reducible rfl
          rotate_left
          · simp only [Act.put, List.setIfInBounds_toArray, List.set_cons_zero, List.set_cons_succ, i64_w, i32_w]
            rfl
          refine pure_ (i := 7) (N := some 105) (v := ?_) (a' := ?_) #[true, true, true, true, true, true, true, true, false, true, false, false] rfl rfl (by kernel_rfl) (fun _ _ _ h => h) (Or.inl ⟨by rfl, ?_⟩) ?_ ?_
          rotate_left
          · intro w'
            go_simp
            with_reducible rfl
          rotate_left
          · simp only [Act.put, List.setIfInBounds_toArray, List.set_cons_zero, List.set_cons_succ, i64_w, i32_w]
            rfl
          refine pure_ (i := 8) (N := some 106) (v := ?_) (a' := ?_) #[true, true, true, true, true, true, true, true, true, true, false, false] rfl rfl (by kernel_rfl) (fun _ _ _ h => h) (Or.inl ⟨by rfl, ?_⟩) ?_ ?_
          rotate_left
          · intro w'
            go_simp
            with_reducible rfl
          rotate_left
          · simp only [Act.put, List.setIfInBounds_toArray, List.set_cons_zero, List.set_cons_succ, i64_w, i32_w]
            rfl
          exact norm_ (by simp only [putAll, Act.put, List.setIfInBounds_toArray, List.set_cons_zero, List.set_cons_succ]) (hCont (.slice A16_ l1_1.length c16_, .slice A17_ l2_1.length c17_, .slice A19_ r4.length c19_, gb42) _ ⟨⟨BX1.out, BX2.out⟩, HBr.out, Kd.R_mono (Kd.R_bound X19.out) (fun k hk => ⟨by have := Z1.out; have := GBX1.out; have := GBX2.out; have := Z2.out; have := Z3.out; have := Z4.out; have := Z18.out; have := GEBX3.out; have := GLBX3.out; have := Z19.out; have := Z20.out; have := Z21.out; have := GBX4.out; have := Z22.out; have := Z23.out; have := GBX5.out; have := Z24.out; have := Z25.out; have := GBX6.out; have := Z26.out; have := Z27.out; have := Z28.out; have := Z29.out; have := Z30.out; have := Z31.out; have := Z32.out; have := Z33.out; have := Z34.out; have := Z35.out; have := Z36.out; have := Z37.out; have := Z38.out; have := Z39.out; have := Z40.out; have := Z43.out; have := Z44.out; have h3_ := hk.1; (try dsimp only at h3_); omega, hk.2.2.1⟩), BXz.out, GW_.out⟩)
      · skip
        refine box_step ?hg (N := 17) ?hd (cs := #[.int .i64 0, .slice none 0 0]) (t := 28) ?hr ?_; (case hd => rfl); (case hg => rfl); (case hr => first | (go_simp; done) | (go_simp; rfl))
        intro gb44 hg w45 hbox hb
        have GW_ : Aside0 (w38.heap.size ≤ gb44) := ⟨by rw [hg]; exact HBr.out.size⟩
        have Z45 : Aside0 (w39.heap.size ≤ w45.heap.size) := ⟨hb.size⟩
        have n0_ := Aside0.mk (Kd.R_below X10.out hb)
        have n1_ := Aside0.mk (Kd.R_below X11.out hb)
        have n2_ := Aside0.mk (Kd.R_below X12.out hb)
        have n3_ := Aside0.mk (Kd.R_below X13.out hb)
        have n4_ := Aside0.mk (Kd.R_below X14.out hb)
        have n5_ := Aside0.mk (Kd.R_below X15.out hb)
        have n6_ := Aside0.mk (Kd.R_below X16.out hb)
        have n7_ := Aside0.mk (blk_below BX1.out hb)
        have n8_ := Aside0.mk (blk_below BX2.out hb)
        have n9_ := Aside0.mk (blk_below BX3.out hb)
        have n10_ := Aside0.mk (blk_below BX4.out hb)
        have n11_ := Aside0.mk (blk_below BX5.out hb)
        have n12_ := Aside0.mk (blk_below BX6.out hb)
        have hb_ := Aside0.mk (below_then HB.out HB.out.size hb)
        clear X10 X11 X12 X13 X14 X15 X16 BX1 BX2 BX3 BX4 BX5 BX6
        have X10 := n0_
        have X11 := n1_
        have X12 := n2_
        have X13 := n3_
        have X14 := n4_
        have X15 := n5_
        have X16 := n6_
        have BX1 := n7_
        have BX2 := n8_
        have BX3 := n9_
        have BX4 := n10_
        have BX5 := n11_
        have BX6 := n12_
        clear n0_ n1_ n2_ n3_ n4_ n5_ n6_ n7_ n8_ n9_ n10_ n11_ n12_
        clear HB
        have HB := hb_
        clear hb_
        have hb_ := Aside0.mk (below_then HBr.out HBr.out.size hb)
        clear HBr
        have HBr := hb_
        clear hb_
        have BXz : Aside0 (w45.heap[gb44]? = some (.cells #[.int .i64 0, .slice none 0 0] 28 (0, 0))) := ⟨hbox⟩
        clear hg hb hbox
        refine hK.out _ _ ⟨BX1.out, BX2.out⟩ (fun hHeld => ?_)
        clear hK K
        refine norm_ (a' := ?_) ?_ ?_
        rotate_left
        · show Act.put _ (some 17) _ = _
          simp only [Act.put, List.setIfInBounds_toArray, List.set_cons_zero, List.set_cons_succ, i64_w, i32_w]
          rfl
        refine one_ (i := 4) (N := some 103) #[true, true, true, true, true, false, false, false, false, true, false, false] rfl rfl (by kernel_rfl) (by decide) (fun K hK => ?_)
        refine goes_ Try.func14 (by kernel_rfl) rfl #[.agg #[.int .i64 a2_0, .slice A2_1 l2_1.length c2_1]] (by rfl) rfl rfl (by (try simp only [List.map_toArray, List.map_cons, List.map_nil]); first | done | rfl) ?_
        (refine (laws_toAttr.calls K2 a2_0 A2_1 c2_1 l2_1 a2_0 l2_1 w45 (Kd.C_below HR2_1.out HB.out) HC2_1.out H2.out).mono ?_)
        rintro e w46 ⟨v1_, rfl, hS0, hb⟩
        refine ⟨_, rfl, ?_⟩
        have X20 : Aside0 (Kd.R (Kd.int .i64) 3 w46 w.heap.size (fun k => w45.heap.size ≤ k ∧ k < w46.heap.size) v1_ l2_1) := ⟨Kd.R_mono (Kd.R_lower (Kd.R_bound hS0) HB.out.size) (fun k hk => ⟨hk.2.1, hk.2.2.1⟩)⟩
        have Z46 : Aside0 (w45.heap.size ≤ w46.heap.size) := ⟨hb.size⟩
        have n0_ := Aside0.mk (Kd.R_below X10.out hb)
        have n1_ := Aside0.mk (Kd.R_below X11.out hb)
        have n2_ := Aside0.mk (Kd.R_below X12.out hb)
        have n3_ := Aside0.mk (Kd.R_below X13.out hb)
        have n4_ := Aside0.mk (Kd.R_below X14.out hb)
        have n5_ := Aside0.mk (Kd.R_below X15.out hb)
        have n6_ := Aside0.mk (Kd.R_below X16.out hb)
        have n7_ := Aside0.mk (blk_below BX1.out hb)
        have n8_ := Aside0.mk (blk_below BX2.out hb)
        have n9_ := Aside0.mk (blk_below BX3.out hb)
        have n10_ := Aside0.mk (blk_below BX4.out hb)
        have n11_ := Aside0.mk (blk_below BX5.out hb)
        have n12_ := Aside0.mk (blk_below BX6.out hb)
        have n13_ := Aside0.mk (blk_below BXz.out hb)
        have hb_ := Aside0.mk (below_then HB.out HB.out.size hb)
        clear X10 X11 X12 X13 X14 X15 X16 BX1 BX2 BX3 BX4 BX5 BX6 BXz
        have X10 := n0_
        have X11 := n1_
        have X12 := n2_
        have X13 := n3_
        have X14 := n4_
        have X15 := n5_
        have X16 := n6_
        have BX1 := n7_
        have BX2 := n8_
        have BX3 := n9_
        have BX4 := n10_
        have BX5 := n11_
        have BX6 := n12_
        have BXz := n13_
        clear n0_ n1_ n2_ n3_ n4_ n5_ n6_ n7_ n8_ n9_ n10_ n11_ n12_ n13_
        clear HB
        have HB := hb_
        clear hb_
        have hb_ := Aside0.mk (below_then HBr.out HBr.out.size hb)
        clear HBr
        have HBr := hb_
        clear hb_
        clear hb hS0
        obtain ⟨A20_, c20_, rfl⟩ := Kd.R_slice X20.out
        refine hK.out _ _ ⟨BX1.out, BX2.out⟩ (fun hHeld => ?_)
        clear hK K
        refine norm_ (a' := ?_) ?_ ?_
        rotate_left
        · show Act.put _ (some 103) _ = _
          simp only [Act.put, List.setIfInBounds_toArray, List.set_cons_zero, List.set_cons_succ, i64_w, i32_w]
          rfl
        refine one_ (i := 5) (N := some 104) #[true, true, true, true, true, true, false, false, false, true, false, false] rfl rfl (by kernel_rfl) (by decide) (fun K hK => ?_)
        refine goes_ Try.func18 (by kernel_rfl) rfl #[.int .i64 a0, .agg #[.int .i64 a1_0, .slice A16_ l1_1.length c16_], .agg #[.int .i64 a2_0, .slice A20_ l2_1.length c20_]] (by rfl) rfl rfl (by (try simp only [List.map_toArray, List.map_cons, List.map_nil]); first | done | rfl) ?_
        (refine (impl_JoinAttr.calls K4 a0 a1_0 A16_ c16_ l1_1 a2_0 A20_ c20_ l2_1 r3 r4 r5 w46 (Kd.R_reads' X16.out).2.2 (Kd.R_reads' X16.out).2.1 (Kd.R_reads' X20.out).2.2 (Kd.R_reads' X20.out).2.1 H4.out).mono ?_)
        rintro e w47 ⟨v1_, rfl, hS0, hb⟩
        refine ⟨_, rfl, ?_⟩
        have X21 : Aside0 (Kd.R (Kd.int .i64) 3 w47 w.heap.size (fun k => w46.heap.size ≤ k ∧ k < w47.heap.size) v1_ r4) := ⟨Kd.R_mono (Kd.R_lower (Kd.R_bound hS0) HB.out.size) (fun k hk => ⟨hk.2.1, hk.2.2.1⟩)⟩
        have Z47 : Aside0 (w46.heap.size ≤ w47.heap.size) := ⟨hb.size⟩
        have n0_ := Aside0.mk (Kd.R_below X10.out hb)
        have n1_ := Aside0.mk (Kd.R_below X11.out hb)
        have n2_ := Aside0.mk (Kd.R_below X12.out hb)
        have n3_ := Aside0.mk (Kd.R_below X13.out hb)
        have n4_ := Aside0.mk (Kd.R_below X14.out hb)
        have n5_ := Aside0.mk (Kd.R_below X15.out hb)
        have n6_ := Aside0.mk (Kd.R_below X16.out hb)
        have n7_ := Aside0.mk (Kd.R_below X20.out hb)
        have n8_ := Aside0.mk (blk_below BX1.out hb)
        have n9_ := Aside0.mk (blk_below BX2.out hb)
        have n10_ := Aside0.mk (blk_below BX3.out hb)
        have n11_ := Aside0.mk (blk_below BX4.out hb)
        have n12_ := Aside0.mk (blk_below BX5.out hb)
        have n13_ := Aside0.mk (blk_below BX6.out hb)
        have n14_ := Aside0.mk (blk_below BXz.out hb)
        have hb_ := Aside0.mk (below_then HB.out HB.out.size hb)
        clear X10 X11 X12 X13 X14 X15 X16 X20 BX1 BX2 BX3 BX4 BX5 BX6 BXz
        have X10 := n0_
        have X11 := n1_
        have X12 := n2_
        have X13 := n3_
        have X14 := n4_
        have X15 := n5_
        have X16 := n6_
        have X20 := n7_
        have BX1 := n8_
        have BX2 := n9_
        have BX3 := n10_
        have BX4 := n11_
        have BX5 := n12_
        have BX6 := n13_
        have BXz := n14_
        clear n0_ n1_ n2_ n3_ n4_ n5_ n6_ n7_ n8_ n9_ n10_ n11_ n12_ n13_ n14_
        clear HB
        have HB := hb_
        clear hb_
        have hb_ := Aside0.mk (below_then HBr.out HBr.out.size hb)
        clear HBr
        have HBr := hb_
        clear hb_
        clear hb hS0
        obtain ⟨A21_, c21_, rfl⟩ := Kd.R_slice X21.out
        refine hK.out _ _ ⟨BX1.out, BX2.out⟩ (fun hHeld => ?_)
        clear hK K
        refine norm_ (a' := ?_) ?_ ?_
        rotate_left
        · show Act.put _ (some 104) _ = _
          simp only [Act.put, List.setIfInBounds_toArray, List.set_cons_zero, List.set_cons_succ, i64_w, i32_w]
          rfl
        refine pure_ (i := 6) (N := some 98) (v := ?_) (a' := ?_) #[true, true, true, true, true, true, true, false, false, true, false, false] rfl rfl (by kernel_rfl) (fun _ _ _ h => h) (Or.inl ⟨by rfl, ?_⟩) ?_ ?_
        rotate_left
        · intro w'
          go_simp
          with_reducible rfl
        rotate_left
        · simp only [Act.put, List.setIfInBounds_toArray, List.set_cons_zero, List.set_cons_succ, i64_w, i32_w]
          rfl
        refine pure_ (i := 7) (N := some 105) (v := ?_) (a' := ?_) #[true, true, true, true, true, true, true, true, false, true, false, false] rfl rfl (by kernel_rfl) (fun _ _ _ h => h) (Or.inl ⟨by rfl, ?_⟩) ?_ ?_
        rotate_left
        · intro w'
          go_simp
          with_reducible rfl
        rotate_left
        · simp only [Act.put, List.setIfInBounds_toArray, List.set_cons_zero, List.set_cons_succ, i64_w, i32_w]
          rfl
        refine pure_ (i := 8) (N := some 106) (v := ?_) (a' := ?_) #[true, true, true, true, true, true, true, true, true, true, false, false] rfl rfl (by kernel_rfl) (fun _ _ _ h => h) (Or.inl ⟨by rfl, ?_⟩) ?_ ?_
        rotate_left
        · intro w'
          go_simp
          with_reducible rfl
        rotate_left
        · simp only [Act.put, List.setIfInBounds_toArray, List.set_cons_zero, List.set_cons_succ, i64_w, i32_w]
          rfl
        exact norm_ (by simp only [putAll, Act.put, List.setIfInBounds_toArray, List.set_cons_zero, List.set_cons_succ]) (hCont (.slice A16_ l1_1.length c16_, .slice A20_ l2_1.length c20_, .slice A21_ r4.length c21_, gb44) _ ⟨⟨BX1.out, BX2.out⟩, HBr.out, Kd.R_mono (Kd.R_bound X21.out) (fun k hk => ⟨by have := Z1.out; have := GBX1.out; have := GBX2.out; have := Z2.out; have := Z3.out; have := Z4.out; have := Z18.out; have := GEBX3.out; have := GLBX3.out; have := Z19.out; have := Z20.out; have := Z21.out; have := GBX4.out; have := Z22.out; have := Z23.out; have := GBX5.out; have := Z24.out; have := Z25.out; have := GBX6.out; have := Z26.out; have := Z27.out; have := Z28.out; have := Z29.out; have := Z30.out; have := Z31.out; have := Z32.out; have := Z33.out; have := Z34.out; have := Z35.out; have := Z36.out; have := Z37.out; have := Z38.out; have := Z39.out; have := Z45.out; have := Z46.out; have := Z47.out; have h3_ := hk.1; (try dsimp only at h3_); omega, hk.2.2.1⟩), BXz.out, GW_.out⟩)
    · skip
      refine box_step ?hg (N := 17) ?hd (cs := #[.int .i64 0, .slice none 0 0]) (t := 28) ?hr ?_; (case hd => rfl); (case hg => rfl); (case hr => first | (go_simp; done) | (go_simp; rfl))
      intro gb47 hg w48 hbox hb
      have GW_ : Aside0 (w38.heap.size ≤ gb47) := ⟨by rw [hg]; exact HBr.out.size⟩
      have Z48 : Aside0 (w38.heap.size ≤ w48.heap.size) := ⟨hb.size⟩
      have n0_ := Aside0.mk (Kd.R_below X10.out hb)
      have n1_ := Aside0.mk (Kd.R_below X11.out hb)
      have n2_ := Aside0.mk (Kd.R_below X12.out hb)
      have n3_ := Aside0.mk (Kd.R_below X13.out hb)
      have n4_ := Aside0.mk (Kd.R_below X14.out hb)
      have n5_ := Aside0.mk (Kd.R_below X15.out hb)
      have n6_ := Aside0.mk (blk_below BX1.out hb)
      have n7_ := Aside0.mk (blk_below BX2.out hb)
      have n8_ := Aside0.mk (blk_below BX3.out hb)
      have n9_ := Aside0.mk (blk_below BX4.out hb)
      have n10_ := Aside0.mk (blk_below BX5.out hb)
      have n11_ := Aside0.mk (blk_below BX6.out hb)
      have hb_ := Aside0.mk (below_then HB.out HB.out.size hb)
      clear X10 X11 X12 X13 X14 X15 BX1 BX2 BX3 BX4 BX5 BX6
      have X10 := n0_
      have X11 := n1_
      have X12 := n2_
      have X13 := n3_
      have X14 := n4_
      have X15 := n5_
      have BX1 := n6_
      have BX2 := n7_
      have BX3 := n8_
      have BX4 := n9_
      have BX5 := n10_
      have BX6 := n11_
      clear n0_ n1_ n2_ n3_ n4_ n5_ n6_ n7_ n8_ n9_ n10_ n11_
      clear HB
      have HB := hb_
      clear hb_
      have hb_ := Aside0.mk (below_then HBr.out HBr.out.size hb)
      clear HBr
      have HBr := hb_
      clear hb_
      have BXz : Aside0 (w48.heap[gb47]? = some (.cells #[.int .i64 0, .slice none 0 0] 28 (0, 0))) := ⟨hbox⟩
      clear hg hb hbox
      refine hK.out _ _ ⟨BX1.out, BX2.out⟩ (fun hHeld => ?_)
      clear hK K
      refine norm_ (a' := ?_) ?_ ?_
      rotate_left
      · show Act.put _ (some 17) _ = _
        simp only [Act.put, List.setIfInBounds_toArray, List.set_cons_zero, List.set_cons_succ, i64_w, i32_w]
        rfl
      refine one_ (i := 2) (N := some 101) #[true, true, true, true, false, false, false, false, false, true, false, false] rfl rfl (by kernel_rfl) (by decide) (fun K hK => ?_)
      refine goes_ Try.func14 (by kernel_rfl) rfl #[.agg #[.int .i64 a1_0, .slice A1_1 l1_1.length c1_1]] (by rfl) rfl rfl (by (try simp only [List.map_toArray, List.map_cons, List.map_nil]); first | done | rfl) ?_
      (refine (laws_toAttr.calls K1 a1_0 A1_1 c1_1 l1_1 a1_0 l1_1 w48 (Kd.C_below HR1_1.out HB.out) HC1_1.out H1.out).mono ?_)
      rintro e w49 ⟨v1_, rfl, hS0, hb⟩
      refine ⟨_, rfl, ?_⟩
      have X22 : Aside0 (Kd.R (Kd.int .i64) 3 w49 w.heap.size (fun k => w48.heap.size ≤ k ∧ k < w49.heap.size) v1_ l1_1) := ⟨Kd.R_mono (Kd.R_lower (Kd.R_bound hS0) HB.out.size) (fun k hk => ⟨hk.2.1, hk.2.2.1⟩)⟩
      have Z49 : Aside0 (w48.heap.size ≤ w49.heap.size) := ⟨hb.size⟩
      have n0_ := Aside0.mk (Kd.R_below X10.out hb)
      have n1_ := Aside0.mk (Kd.R_below X11.out hb)
      have n2_ := Aside0.mk (Kd.R_below X12.out hb)
      have n3_ := Aside0.mk (Kd.R_below X13.out hb)
      have n4_ := Aside0.mk (Kd.R_below X14.out hb)
      have n5_ := Aside0.mk (Kd.R_below X15.out hb)
      have n6_ := Aside0.mk (blk_below BX1.out hb)
      have n7_ := Aside0.mk (blk_below BX2.out hb)
      have n8_ := Aside0.mk (blk_below BX3.out hb)
      have n9_ := Aside0.mk (blk_below BX4.out hb)
      have n10_ := Aside0.mk (blk_below BX5.out hb)
      have n11_ := Aside0.mk (blk_below BX6.out hb)
      have n12_ := Aside0.mk (blk_below BXz.out hb)
      have hb_ := Aside0.mk (below_then HB.out HB.out.size hb)
      clear X10 X11 X12 X13 X14 X15 BX1 BX2 BX3 BX4 BX5 BX6 BXz
      have X10 := n0_
      have X11 := n1_
      have X12 := n2_
      have X13 := n3_
      have X14 := n4_
      have X15 := n5_
      have BX1 := n6_
      have BX2 := n7_
      have BX3 := n8_
      have BX4 := n9_
      have BX5 := n10_
      have BX6 := n11_
      have BXz := n12_
      clear n0_ n1_ n2_ n3_ n4_ n5_ n6_ n7_ n8_ n9_ n10_ n11_ n12_
      clear HB
      have HB := hb_
      clear hb_
      have hb_ := Aside0.mk (below_then HBr.out HBr.out.size hb)
      clear HBr
      have HBr := hb_
      clear hb_
      clear hb hS0
      obtain ⟨A22_, c22_, rfl⟩ := Kd.R_slice X22.out
      refine hK.out _ _ ⟨BX1.out, BX2.out⟩ (fun hHeld => ?_)
      clear hK K
      refine norm_ (a' := ?_) ?_ ?_
      rotate_left
      · show Act.put _ (some 101) _ = _
        simp only [Act.put, List.setIfInBounds_toArray, List.set_cons_zero, List.set_cons_succ, i64_w, i32_w]
        rfl
      refine one_ (i := 4) (N := some 103) #[true, true, true, true, true, false, false, false, false, true, false, false] rfl rfl (by kernel_rfl) (by decide) (fun K hK => ?_)
      refine goes_ Try.func14 (by kernel_rfl) rfl #[.agg #[.int .i64 a2_0, .slice A2_1 l2_1.length c2_1]] (by rfl) rfl rfl (by (try simp only [List.map_toArray, List.map_cons, List.map_nil]); first | done | rfl) ?_
      (refine (laws_toAttr.calls K2 a2_0 A2_1 c2_1 l2_1 a2_0 l2_1 w49 (Kd.C_below HR2_1.out HB.out) HC2_1.out H2.out).mono ?_)
      rintro e w50 ⟨v1_, rfl, hS0, hb⟩
      refine ⟨_, rfl, ?_⟩
      have X23 : Aside0 (Kd.R (Kd.int .i64) 3 w50 w.heap.size (fun k => w49.heap.size ≤ k ∧ k < w50.heap.size) v1_ l2_1) := ⟨Kd.R_mono (Kd.R_lower (Kd.R_bound hS0) HB.out.size) (fun k hk => ⟨hk.2.1, hk.2.2.1⟩)⟩
      have Z50 : Aside0 (w49.heap.size ≤ w50.heap.size) := ⟨hb.size⟩
      have n0_ := Aside0.mk (Kd.R_below X10.out hb)
      have n1_ := Aside0.mk (Kd.R_below X11.out hb)
      have n2_ := Aside0.mk (Kd.R_below X12.out hb)
      have n3_ := Aside0.mk (Kd.R_below X13.out hb)
      have n4_ := Aside0.mk (Kd.R_below X14.out hb)
      have n5_ := Aside0.mk (Kd.R_below X15.out hb)
      have n6_ := Aside0.mk (Kd.R_below X22.out hb)
      have n7_ := Aside0.mk (blk_below BX1.out hb)
      have n8_ := Aside0.mk (blk_below BX2.out hb)
      have n9_ := Aside0.mk (blk_below BX3.out hb)
      have n10_ := Aside0.mk (blk_below BX4.out hb)
      have n11_ := Aside0.mk (blk_below BX5.out hb)
      have n12_ := Aside0.mk (blk_below BX6.out hb)
      have n13_ := Aside0.mk (blk_below BXz.out hb)
      have hb_ := Aside0.mk (below_then HB.out HB.out.size hb)
      clear X10 X11 X12 X13 X14 X15 X22 BX1 BX2 BX3 BX4 BX5 BX6 BXz
      have X10 := n0_
      have X11 := n1_
      have X12 := n2_
      have X13 := n3_
      have X14 := n4_
      have X15 := n5_
      have X22 := n6_
      have BX1 := n7_
      have BX2 := n8_
      have BX3 := n9_
      have BX4 := n10_
      have BX5 := n11_
      have BX6 := n12_
      have BXz := n13_
      clear n0_ n1_ n2_ n3_ n4_ n5_ n6_ n7_ n8_ n9_ n10_ n11_ n12_ n13_
      clear HB
      have HB := hb_
      clear hb_
      have hb_ := Aside0.mk (below_then HBr.out HBr.out.size hb)
      clear HBr
      have HBr := hb_
      clear hb_
      clear hb hS0
      obtain ⟨A23_, c23_, rfl⟩ := Kd.R_slice X23.out
      refine hK.out _ _ ⟨BX1.out, BX2.out⟩ (fun hHeld => ?_)
      clear hK K
      refine norm_ (a' := ?_) ?_ ?_
      rotate_left
      · show Act.put _ (some 103) _ = _
        simp only [Act.put, List.setIfInBounds_toArray, List.set_cons_zero, List.set_cons_succ, i64_w, i32_w]
        rfl
      refine one_ (i := 5) (N := some 104) #[true, true, true, true, true, true, false, false, false, true, false, false] rfl rfl (by kernel_rfl) (by decide) (fun K hK => ?_)
      refine goes_ Try.func18 (by kernel_rfl) rfl #[.int .i64 a0, .agg #[.int .i64 a1_0, .slice A22_ l1_1.length c22_], .agg #[.int .i64 a2_0, .slice A23_ l2_1.length c23_]] (by rfl) rfl rfl (by (try simp only [List.map_toArray, List.map_cons, List.map_nil]); first | done | rfl) ?_
      (refine (impl_JoinAttr.calls K4 a0 a1_0 A22_ c22_ l1_1 a2_0 A23_ c23_ l2_1 r3 r4 r5 w50 (Kd.R_reads' X22.out).2.2 (Kd.R_reads' X22.out).2.1 (Kd.R_reads' X23.out).2.2 (Kd.R_reads' X23.out).2.1 H4.out).mono ?_)
      rintro e w51 ⟨v1_, rfl, hS0, hb⟩
      refine ⟨_, rfl, ?_⟩
      have X24 : Aside0 (Kd.R (Kd.int .i64) 3 w51 w.heap.size (fun k => w50.heap.size ≤ k ∧ k < w51.heap.size) v1_ r4) := ⟨Kd.R_mono (Kd.R_lower (Kd.R_bound hS0) HB.out.size) (fun k hk => ⟨hk.2.1, hk.2.2.1⟩)⟩
      have Z51 : Aside0 (w50.heap.size ≤ w51.heap.size) := ⟨hb.size⟩
      have n0_ := Aside0.mk (Kd.R_below X10.out hb)
      have n1_ := Aside0.mk (Kd.R_below X11.out hb)
      have n2_ := Aside0.mk (Kd.R_below X12.out hb)
      have n3_ := Aside0.mk (Kd.R_below X13.out hb)
      have n4_ := Aside0.mk (Kd.R_below X14.out hb)
      have n5_ := Aside0.mk (Kd.R_below X15.out hb)
      have n6_ := Aside0.mk (Kd.R_below X22.out hb)
      have n7_ := Aside0.mk (Kd.R_below X23.out hb)
      have n8_ := Aside0.mk (blk_below BX1.out hb)
      have n9_ := Aside0.mk (blk_below BX2.out hb)
      have n10_ := Aside0.mk (blk_below BX3.out hb)
      have n11_ := Aside0.mk (blk_below BX4.out hb)
      have n12_ := Aside0.mk (blk_below BX5.out hb)
      have n13_ := Aside0.mk (blk_below BX6.out hb)
      have n14_ := Aside0.mk (blk_below BXz.out hb)
      have hb_ := Aside0.mk (below_then HB.out HB.out.size hb)
      clear X10 X11 X12 X13 X14 X15 X22 X23 BX1 BX2 BX3 BX4 BX5 BX6 BXz
      have X10 := n0_
      have X11 := n1_
      have X12 := n2_
      have X13 := n3_
      have X14 := n4_
      have X15 := n5_
      have X22 := n6_
      have X23 := n7_
      have BX1 := n8_
      have BX2 := n9_
      have BX3 := n10_
      have BX4 := n11_
      have BX5 := n12_
      have BX6 := n13_
      have BXz := n14_
      clear n0_ n1_ n2_ n3_ n4_ n5_ n6_ n7_ n8_ n9_ n10_ n11_ n12_ n13_ n14_
      clear HB
      have HB := hb_
      clear hb_
      have hb_ := Aside0.mk (below_then HBr.out HBr.out.size hb)
      clear HBr
      have HBr := hb_
      clear hb_
      clear hb hS0
      obtain ⟨A24_, c24_, rfl⟩ := Kd.R_slice X24.out
      refine hK.out _ _ ⟨BX1.out, BX2.out⟩ (fun hHeld => ?_)
      clear hK K
      refine norm_ (a' := ?_) ?_ ?_
      rotate_left
      · show Act.put _ (some 104) _ = _
        simp only [Act.put, List.setIfInBounds_toArray, List.set_cons_zero, List.set_cons_succ, i64_w, i32_w]
        rfl
      refine pure_ (i := 6) (N := some 98) (v := ?_) (a' := ?_) #[true, true, true, true, true, true, true, false, false, true, false, false] rfl rfl (by kernel_rfl) (fun _ _ _ h => h) (Or.inl ⟨by rfl, ?_⟩) ?_ ?_
      rotate_left
      · intro w'
        go_simp
        with_reducible rfl
      rotate_left
      · simp only [Act.put, List.setIfInBounds_toArray, List.set_cons_zero, List.set_cons_succ, i64_w, i32_w]
        rfl
      refine pure_ (i := 7) (N := some 105) (v := ?_) (a' := ?_) #[true, true, true, true, true, true, true, true, false, true, false, false] rfl rfl (by kernel_rfl) (fun _ _ _ h => h) (Or.inl ⟨by rfl, ?_⟩) ?_ ?_
      rotate_left
      · intro w'
        go_simp
        with_reducible rfl
      rotate_left
      · simp only [Act.put, List.setIfInBounds_toArray, List.set_cons_zero, List.set_cons_succ, i64_w, i32_w]
        rfl
      refine pure_ (i := 8) (N := some 106) (v := ?_) (a' := ?_) #[true, true, true, true, true, true, true, true, true, true, false, false] rfl rfl (by kernel_rfl) (fun _ _ _ h => h) (Or.inl ⟨by rfl, ?_⟩) ?_ ?_
      rotate_left
      · intro w'
        go_simp
        with_reducible rfl
      rotate_left
      · simp only [Act.put, List.setIfInBounds_toArray, List.set_cons_zero, List.set_cons_succ, i64_w, i32_w]
        rfl
      exact norm_ (by simp only [putAll, Act.put, List.setIfInBounds_toArray, List.set_cons_zero, List.set_cons_succ]) (hCont (.slice A22_ l1_1.length c22_, .slice A23_ l2_1.length c23_, .slice A24_ r4.length c24_, gb47) _ ⟨⟨BX1.out, BX2.out⟩, HBr.out, Kd.R_mono (Kd.R_bound X24.out) (fun k hk => ⟨by have := Z1.out; have := GBX1.out; have := GBX2.out; have := Z2.out; have := Z3.out; have := Z4.out; have := Z18.out; have := GEBX3.out; have := GLBX3.out; have := Z19.out; have := Z20.out; have := Z21.out; have := GBX4.out; have := Z22.out; have := Z23.out; have := GBX5.out; have := Z24.out; have := Z25.out; have := GBX6.out; have := Z26.out; have := Z27.out; have := Z28.out; have := Z29.out; have := Z30.out; have := Z31.out; have := Z32.out; have := Z33.out; have := Z34.out; have := Z35.out; have := Z36.out; have := Z37.out; have := Z38.out; have := Z48.out; have := Z49.out; have := Z50.out; have := Z51.out; have h3_ := hk.1; (try dsimp only at h3_); omega, hk.2.2.1⟩), BXz.out, GW_.out⟩)
  clear HBr
  rintro ⟨v51_0, v51_1, v51_2, gb51⟩ w52 ⟨hHeld, hb, hS0, hbox, hge⟩
  have Z52 : Aside0 (w38.heap.size ≤ w52.heap.size) := ⟨hb.size⟩
  have n0_ := Aside0.mk (Kd.R_below X10.out hb)
  have n1_ := Aside0.mk (Kd.R_below X11.out hb)
  have n2_ := Aside0.mk (Kd.R_below X12.out hb)
  have n3_ := Aside0.mk (Kd.R_below X13.out hb)
  have n4_ := Aside0.mk (Kd.R_below X14.out hb)
  have n5_ := Aside0.mk (Kd.R_below X15.out hb)
  have n6_ := Aside0.mk (blk_below BX1.out hb)
  have n7_ := Aside0.mk (blk_below BX2.out hb)
  have n8_ := Aside0.mk (blk_below BX3.out hb)
  have n9_ := Aside0.mk (blk_below BX4.out hb)
  have n10_ := Aside0.mk (blk_below BX5.out hb)
  have n11_ := Aside0.mk (blk_below BX6.out hb)
  have hb_ := Aside0.mk (below_then HB.out HB.out.size hb)
  clear X10 X11 X12 X13 X14 X15 BX1 BX2 BX3 BX4 BX5 BX6
  have X10 := n0_
  have X11 := n1_
  have X12 := n2_
  have X13 := n3_
  have X14 := n4_
  have X15 := n5_
  have BX1 := n6_
  have BX2 := n7_
  have BX3 := n8_
  have BX4 := n9_
  have BX5 := n10_
  have BX6 := n11_
  clear n0_ n1_ n2_ n3_ n4_ n5_ n6_ n7_ n8_ n9_ n10_ n11_
  clear HB
  have HB := hb_
  clear hb_
  clear hb
  have X25 : Aside0 (Kd.R (Kd.int .i64) 3 w52 w.heap.size (fun k => w38.heap.size ≤ k ∧ k < w52.heap.size) v51_2 r4) := ⟨hS0⟩
  obtain ⟨A25_, c25_, rfl⟩ := Kd.R_slice X25.out
  clear hS0
  have GEBX7 : Aside0 (w38.heap.size ≤ gb51) := ⟨hge⟩
  have BX7 := Aside0.mk hbox
  clear hge hbox
  have GLBX7 : Aside0 (gb51 < w52.heap.size) := ⟨blk_lt BX7.out⟩
  refine norm_ (a' := ?_) ?_ ?_
  rotate_left
  · simp only [putAll, Act.put, List.setIfInBounds_toArray, List.set_cons_zero, List.set_cons_succ]
    rfl
  refine one_ (i := 10) (N := none) #[true, true, true, true, true, true, true, true, true, true, true, false] rfl rfl (by kernel_rfl) (by decide) (fun K hK => ?_)
  refine skip_ (by rfl) rfl (store_run (cs' := #[.int .i64 r3, .slice A25_ r4.length c25_]) BX7.out 2 rfl rfl 28 _ _ (by rfl) (by rfl) (by rfl) (by kernel_rfl) (by first | (simp [Value.oneCell']; done) | kernel_rfl)) ?_
  have hk := kept_setRow w52 gb51 #[.int .i64 r3, .slice A25_ r4.length c25_]
  have hbx := setRow_heap w52 gb51 _ #[.int .i64 r3, .slice A25_ r4.length c25_] _ _ BX7.out
  have hb := below_setRow_ HB.out (g := gb51) (by have h3_ := GEBX7.out; have := Z1.out; have := GBX1.out; have := GBX2.out; have := Z2.out; have := Z3.out; have := Z4.out; have := Z18.out; have := GEBX3.out; have := GLBX3.out; have := Z19.out; have := Z20.out; have := Z21.out; have := GBX4.out; have := Z22.out; have := Z23.out; have := GBX5.out; have := Z24.out; have := Z25.out; have := GBX6.out; have := Z26.out; have := Z27.out; have := Z28.out; have := Z29.out; have := Z30.out; have := Z31.out; have := Z32.out; have := Z33.out; have := Z34.out; have := Z35.out; have := Z36.out; have := Z37.out; have := Z38.out; have := Z52.out; have := GEBX7.out; have := GLBX7.out; omega) #[.int .i64 r3, .slice A25_ r4.length c25_]
  generalize w52.setRow gb51 #[.int .i64 r3, .slice A25_ r4.length c25_] = w53 at hk hbx hb ⊢
  have Z53 : Aside0 (w52.heap.size ≤ w53.heap.size) := ⟨hk.1⟩
  have n0_ := Aside0.mk (Kd.R_kept X10.out hk (fun k h1_ h2_ => by have := Z1.out; have := GBX1.out; have := GBX2.out; have := Z2.out; have := Z3.out; have := Z4.out; have := Z18.out; have := GEBX3.out; have := GLBX3.out; have := Z19.out; have := Z20.out; have := Z21.out; have := GBX4.out; have := Z22.out; have := Z23.out; have := GBX5.out; have := Z24.out; have := Z25.out; have := GBX6.out; have := Z26.out; have := Z27.out; have := Z28.out; have := Z29.out; have := Z30.out; have := Z31.out; have := Z32.out; have := Z33.out; have := Z34.out; have := Z35.out; have := Z36.out; have := Z37.out; have := Z38.out; have := Z52.out; have := GEBX7.out; have := GLBX7.out; (try dsimp only at h1_ h2_); omega))
  have n1_ := Aside0.mk (Kd.R_kept X11.out hk (fun k h1_ h2_ => by have := Z1.out; have := GBX1.out; have := GBX2.out; have := Z2.out; have := Z3.out; have := Z4.out; have := Z18.out; have := GEBX3.out; have := GLBX3.out; have := Z19.out; have := Z20.out; have := Z21.out; have := GBX4.out; have := Z22.out; have := Z23.out; have := GBX5.out; have := Z24.out; have := Z25.out; have := GBX6.out; have := Z26.out; have := Z27.out; have := Z28.out; have := Z29.out; have := Z30.out; have := Z31.out; have := Z32.out; have := Z33.out; have := Z34.out; have := Z35.out; have := Z36.out; have := Z37.out; have := Z38.out; have := Z52.out; have := GEBX7.out; have := GLBX7.out; (try dsimp only at h1_ h2_); omega))
  have n2_ := Aside0.mk (Kd.R_kept X12.out hk (fun k h1_ h2_ => by have := Z1.out; have := GBX1.out; have := GBX2.out; have := Z2.out; have := Z3.out; have := Z4.out; have := Z18.out; have := GEBX3.out; have := GLBX3.out; have := Z19.out; have := Z20.out; have := Z21.out; have := GBX4.out; have := Z22.out; have := Z23.out; have := GBX5.out; have := Z24.out; have := Z25.out; have := GBX6.out; have := Z26.out; have := Z27.out; have := Z28.out; have := Z29.out; have := Z30.out; have := Z31.out; have := Z32.out; have := Z33.out; have := Z34.out; have := Z35.out; have := Z36.out; have := Z37.out; have := Z38.out; have := Z52.out; have := GEBX7.out; have := GLBX7.out; (try dsimp only at h1_ h2_); omega))
  have n3_ := Aside0.mk (Kd.R_kept X13.out hk (fun k h1_ h2_ => by have := Z1.out; have := GBX1.out; have := GBX2.out; have := Z2.out; have := Z3.out; have := Z4.out; have := Z18.out; have := GEBX3.out; have := GLBX3.out; have := Z19.out; have := Z20.out; have := Z21.out; have := GBX4.out; have := Z22.out; have := Z23.out; have := GBX5.out; have := Z24.out; have := Z25.out; have := GBX6.out; have := Z26.out; have := Z27.out; have := Z28.out; have := Z29.out; have := Z30.out; have := Z31.out; have := Z32.out; have := Z33.out; have := Z34.out; have := Z35.out; have := Z36.out; have := Z37.out; have := Z38.out; have := Z52.out; have := GEBX7.out; have := GLBX7.out; (try dsimp only at h1_ h2_); omega))
  have n4_ := Aside0.mk (Kd.R_kept X14.out hk (fun k h1_ h2_ => by have := Z1.out; have := GBX1.out; have := GBX2.out; have := Z2.out; have := Z3.out; have := Z4.out; have := Z18.out; have := GEBX3.out; have := GLBX3.out; have := Z19.out; have := Z20.out; have := Z21.out; have := GBX4.out; have := Z22.out; have := Z23.out; have := GBX5.out; have := Z24.out; have := Z25.out; have := GBX6.out; have := Z26.out; have := Z27.out; have := Z28.out; have := Z29.out; have := Z30.out; have := Z31.out; have := Z32.out; have := Z33.out; have := Z34.out; have := Z35.out; have := Z36.out; have := Z37.out; have := Z38.out; have := Z52.out; have := GEBX7.out; have := GLBX7.out; (try dsimp only at h1_ h2_); omega))
  have n5_ := Aside0.mk (Kd.R_kept X15.out hk (fun k h1_ h2_ => by have := Z1.out; have := GBX1.out; have := GBX2.out; have := Z2.out; have := Z3.out; have := Z4.out; have := Z18.out; have := GEBX3.out; have := GLBX3.out; have := Z19.out; have := Z20.out; have := Z21.out; have := GBX4.out; have := Z22.out; have := Z23.out; have := GBX5.out; have := Z24.out; have := Z25.out; have := GBX6.out; have := Z26.out; have := Z27.out; have := Z28.out; have := Z29.out; have := Z30.out; have := Z31.out; have := Z32.out; have := Z33.out; have := Z34.out; have := Z35.out; have := Z36.out; have := Z37.out; have := Z38.out; have := Z52.out; have := GEBX7.out; have := GLBX7.out; (try dsimp only at h1_ h2_); omega))
  have n6_ := Aside0.mk (Kd.R_mono (Kd.R_kept (Kd.R_types X25.out BX7.out (by decide)) hk (fun k h1_ h2_ => h1_.2 h2_)) (fun k h1_ => h1_.1))
  have n7_ := Aside0.mk (blk_kept BX1.out hk (fun h1_ => by have := Z1.out; have := GBX1.out; have := GBX2.out; have := Z2.out; have := Z3.out; have := Z4.out; have := Z18.out; have := GEBX3.out; have := GLBX3.out; have := Z19.out; have := Z20.out; have := Z21.out; have := GBX4.out; have := Z22.out; have := Z23.out; have := GBX5.out; have := Z24.out; have := Z25.out; have := GBX6.out; have := Z26.out; have := Z27.out; have := Z28.out; have := Z29.out; have := Z30.out; have := Z31.out; have := Z32.out; have := Z33.out; have := Z34.out; have := Z35.out; have := Z36.out; have := Z37.out; have := Z38.out; have := Z52.out; have := GEBX7.out; have := GLBX7.out; (try dsimp only at h1_); omega))
  have n8_ := Aside0.mk (blk_kept BX2.out hk (fun h1_ => by have := Z1.out; have := GBX1.out; have := GBX2.out; have := Z2.out; have := Z3.out; have := Z4.out; have := Z18.out; have := GEBX3.out; have := GLBX3.out; have := Z19.out; have := Z20.out; have := Z21.out; have := GBX4.out; have := Z22.out; have := Z23.out; have := GBX5.out; have := Z24.out; have := Z25.out; have := GBX6.out; have := Z26.out; have := Z27.out; have := Z28.out; have := Z29.out; have := Z30.out; have := Z31.out; have := Z32.out; have := Z33.out; have := Z34.out; have := Z35.out; have := Z36.out; have := Z37.out; have := Z38.out; have := Z52.out; have := GEBX7.out; have := GLBX7.out; (try dsimp only at h1_); omega))
  have n9_ := Aside0.mk (blk_kept BX3.out hk (fun h1_ => by have := Z1.out; have := GBX1.out; have := GBX2.out; have := Z2.out; have := Z3.out; have := Z4.out; have := Z18.out; have := GEBX3.out; have := GLBX3.out; have := Z19.out; have := Z20.out; have := Z21.out; have := GBX4.out; have := Z22.out; have := Z23.out; have := GBX5.out; have := Z24.out; have := Z25.out; have := GBX6.out; have := Z26.out; have := Z27.out; have := Z28.out; have := Z29.out; have := Z30.out; have := Z31.out; have := Z32.out; have := Z33.out; have := Z34.out; have := Z35.out; have := Z36.out; have := Z37.out; have := Z38.out; have := Z52.out; have := GEBX7.out; have := GLBX7.out; (try dsimp only at h1_); omega))
  have n10_ := Aside0.mk (blk_kept BX4.out hk (fun h1_ => by have := Z1.out; have := GBX1.out; have := GBX2.out; have := Z2.out; have := Z3.out; have := Z4.out; have := Z18.out; have := GEBX3.out; have := GLBX3.out; have := Z19.out; have := Z20.out; have := Z21.out; have := GBX4.out; have := Z22.out; have := Z23.out; have := GBX5.out; have := Z24.out; have := Z25.out; have := GBX6.out; have := Z26.out; have := Z27.out; have := Z28.out; have := Z29.out; have := Z30.out; have := Z31.out; have := Z32.out; have := Z33.out; have := Z34.out; have := Z35.out; have := Z36.out; have := Z37.out; have := Z38.out; have := Z52.out; have := GEBX7.out; have := GLBX7.out; (try dsimp only at h1_); omega))
  have n11_ := Aside0.mk (blk_kept BX5.out hk (fun h1_ => by have := Z1.out; have := GBX1.out; have := GBX2.out; have := Z2.out; have := Z3.out; have := Z4.out; have := Z18.out; have := GEBX3.out; have := GLBX3.out; have := Z19.out; have := Z20.out; have := Z21.out; have := GBX4.out; have := Z22.out; have := Z23.out; have := GBX5.out; have := Z24.out; have := Z25.out; have := GBX6.out; have := Z26.out; have := Z27.out; have := Z28.out; have := Z29.out; have := Z30.out; have := Z31.out; have := Z32.out; have := Z33.out; have := Z34.out; have := Z35.out; have := Z36.out; have := Z37.out; have := Z38.out; have := Z52.out; have := GEBX7.out; have := GLBX7.out; (try dsimp only at h1_); omega))
  have n12_ := Aside0.mk (blk_kept BX6.out hk (fun h1_ => by have := Z1.out; have := GBX1.out; have := GBX2.out; have := Z2.out; have := Z3.out; have := Z4.out; have := Z18.out; have := GEBX3.out; have := GLBX3.out; have := Z19.out; have := Z20.out; have := Z21.out; have := GBX4.out; have := Z22.out; have := Z23.out; have := GBX5.out; have := Z24.out; have := Z25.out; have := GBX6.out; have := Z26.out; have := Z27.out; have := Z28.out; have := Z29.out; have := Z30.out; have := Z31.out; have := Z32.out; have := Z33.out; have := Z34.out; have := Z35.out; have := Z36.out; have := Z37.out; have := Z38.out; have := Z52.out; have := GEBX7.out; have := GLBX7.out; (try dsimp only at h1_); omega))
  have n13_ := Aside0.mk (hb)
  clear X10 X11 X12 X13 X14 X15 X25 BX1 BX2 BX3 BX4 BX5 BX6 HB BX7
  have X10 := n0_
  have X11 := n1_
  have X12 := n2_
  have X13 := n3_
  have X14 := n4_
  have X15 := n5_
  have X25 := n6_
  have BX1 := n7_
  have BX2 := n8_
  have BX3 := n9_
  have BX4 := n10_
  have BX5 := n11_
  have BX6 := n12_
  have HB := n13_
  clear n0_ n1_ n2_ n3_ n4_ n5_ n6_ n7_ n8_ n9_ n10_ n11_ n12_ n13_
  have BX7 : Aside0 (w53.heap[gb51]? = some (.cells #[.int .i64 r3, .slice A25_ r4.length c25_] 28 (0, 0))) := ⟨hbx⟩
  clear hbx hb hk
  refine hK.out _ _ ⟨BX1.out, BX2.out⟩ (fun hHeld => ?_)
  clear hK K
  refine pure_ (i := 11) (N := some 18) (v := ?_) (a' := ?_) #[true, true, true, true, true, true, true, true, true, true, true, true] rfl rfl (by kernel_rfl) (fun _ _ _ h => h) (Or.inl ⟨by rfl, ?_⟩) ?_ ?_
  rotate_left
  · intro w'
    go_simp
    with_reducible rfl
  rotate_left
  · simp only [Act.put, List.setIfInBounds_toArray, List.set_cons_zero, List.set_cons_succ, i64_w, i32_w]
    rfl
  refine done_ (by kernel_rfl) ?_
  go_wp2_with (first | ((with_reducible refine gate_dst (N := 19) rfl ?_); first | refine Kd.event_run rfl (load_run BX3.out 2 rfl 28 _ (by rfl) (by rfl) _ Try.underlying28 rfl (by kernel_rfl)) ?_ | refine Kd.event_run rfl (load_run BX7.out 2 rfl 28 _ (by rfl) (by rfl) _ Try.underlying28 rfl (by kernel_rfl)) ?_) | ((with_reducible refine gate_dst (N := 24) rfl ?_); first | refine Kd.event_run rfl (load_run BX3.out 2 rfl 28 _ (by rfl) (by rfl) _ Try.underlying28 rfl (by kernel_rfl)) ?_ | refine Kd.event_run rfl (load_run BX7.out 2 rfl 28 _ (by rfl) (by rfl) _ Try.underlying28 rfl (by kernel_rfl)) ?_) | ((with_reducible refine gate_dst (N := 31) rfl ?_); first | refine Kd.event_run rfl (load_run BX3.out 2 rfl 28 _ (by rfl) (by rfl) _ Try.underlying28 rfl (by kernel_rfl)) ?_ | refine Kd.event_run rfl (load_run BX7.out 2 rfl 28 _ (by rfl) (by rfl) _ Try.underlying28 rfl (by kernel_rfl)) ?_) | ((with_reducible refine gate_dst (N := 33) rfl ?_); first | refine Kd.event_run rfl (load_run BX3.out 2 rfl 28 _ (by rfl) (by rfl) _ Try.underlying28 rfl (by kernel_rfl)) ?_ | refine Kd.event_run rfl (load_run BX7.out 2 rfl 28 _ (by rfl) (by rfl) _ Try.underlying28 rfl (by kernel_rfl)) ?_) | ((with_reducible refine gate_dst (N := 38) rfl ?_); first | refine Kd.event_run rfl (load_run BX3.out 2 rfl 28 _ (by rfl) (by rfl) _ Try.underlying28 rfl (by kernel_rfl)) ?_ | refine Kd.event_run rfl (load_run BX7.out 2 rfl 28 _ (by rfl) (by rfl) _ Try.underlying28 rfl (by kernel_rfl)) ?_) | ((with_reducible refine gate_dst (N := 40) rfl ?_); first | refine Kd.event_run rfl (load_run BX3.out 2 rfl 28 _ (by rfl) (by rfl) _ Try.underlying28 rfl (by kernel_rfl)) ?_ | refine Kd.event_run rfl (load_run BX7.out 2 rfl 28 _ (by rfl) (by rfl) _ Try.underlying28 rfl (by kernel_rfl)) ?_) | ((with_reducible refine gate_dst (N := 44) rfl ?_); first | refine Kd.event_run rfl (load_run BX3.out 2 rfl 28 _ (by rfl) (by rfl) _ Try.underlying28 rfl (by kernel_rfl)) ?_ | refine Kd.event_run rfl (load_run BX7.out 2 rfl 28 _ (by rfl) (by rfl) _ Try.underlying28 rfl (by kernel_rfl)) ?_) | ((with_reducible refine gate_dst (N := 45) rfl ?_); first | refine Kd.event_run rfl (load_run BX3.out 2 rfl 28 _ (by rfl) (by rfl) _ Try.underlying28 rfl (by kernel_rfl)) ?_ | refine Kd.event_run rfl (load_run BX7.out 2 rfl 28 _ (by rfl) (by rfl) _ Try.underlying28 rfl (by kernel_rfl)) ?_) | ((with_reducible refine gate_dst (N := 49) rfl ?_); first | refine Kd.event_run rfl (load_run BX3.out 2 rfl 28 _ (by rfl) (by rfl) _ Try.underlying28 rfl (by kernel_rfl)) ?_ | refine Kd.event_run rfl (load_run BX7.out 2 rfl 28 _ (by rfl) (by rfl) _ Try.underlying28 rfl (by kernel_rfl)) ?_) | ((with_reducible refine gate_dst (N := 50) rfl ?_); first | refine Kd.event_run rfl (load_run BX3.out 2 rfl 28 _ (by rfl) (by rfl) _ Try.underlying28 rfl (by kernel_rfl)) ?_ | refine Kd.event_run rfl (load_run BX7.out 2 rfl 28 _ (by rfl) (by rfl) _ Try.underlying28 rfl (by kernel_rfl)) ?_) | ((with_reducible refine gate_dst (N := 58) rfl ?_); first | refine Kd.event_run rfl (load_run BX3.out 2 rfl 28 _ (by rfl) (by rfl) _ Try.underlying28 rfl (by kernel_rfl)) ?_ | refine Kd.event_run rfl (load_run BX7.out 2 rfl 28 _ (by rfl) (by rfl) _ Try.underlying28 rfl (by kernel_rfl)) ?_) | ((with_reducible refine gate_dst (N := 59) rfl ?_); first | refine Kd.event_run rfl (load_run BX3.out 2 rfl 28 _ (by rfl) (by rfl) _ Try.underlying28 rfl (by kernel_rfl)) ?_ | refine Kd.event_run rfl (load_run BX7.out 2 rfl 28 _ (by rfl) (by rfl) _ Try.underlying28 rfl (by kernel_rfl)) ?_) | ((with_reducible refine gate_dst (N := 63) rfl ?_); first | refine Kd.event_run rfl (load_run BX3.out 2 rfl 28 _ (by rfl) (by rfl) _ Try.underlying28 rfl (by kernel_rfl)) ?_ | refine Kd.event_run rfl (load_run BX7.out 2 rfl 28 _ (by rfl) (by rfl) _ Try.underlying28 rfl (by kernel_rfl)) ?_) | ((with_reducible refine gate_dst (N := 64) rfl ?_); first | refine Kd.event_run rfl (load_run BX3.out 2 rfl 28 _ (by rfl) (by rfl) _ Try.underlying28 rfl (by kernel_rfl)) ?_ | refine Kd.event_run rfl (load_run BX7.out 2 rfl 28 _ (by rfl) (by rfl) _ Try.underlying28 rfl (by kernel_rfl)) ?_) | ((with_reducible refine gate_dst (N := 68) rfl ?_); first | refine Kd.event_run rfl (load_run BX3.out 2 rfl 28 _ (by rfl) (by rfl) _ Try.underlying28 rfl (by kernel_rfl)) ?_ | refine Kd.event_run rfl (load_run BX7.out 2 rfl 28 _ (by rfl) (by rfl) _ Try.underlying28 rfl (by kernel_rfl)) ?_) | ((with_reducible refine gate_dst (N := 71) rfl ?_); first | refine Kd.event_run rfl (load_run BX3.out 2 rfl 28 _ (by rfl) (by rfl) _ Try.underlying28 rfl (by kernel_rfl)) ?_ | refine Kd.event_run rfl (load_run BX7.out 2 rfl 28 _ (by rfl) (by rfl) _ Try.underlying28 rfl (by kernel_rfl)) ?_) | ((with_reducible refine gate_dst (N := 77) rfl ?_); first | refine Kd.event_run rfl (load_run BX3.out 2 rfl 28 _ (by rfl) (by rfl) _ Try.underlying28 rfl (by kernel_rfl)) ?_ | refine Kd.event_run rfl (load_run BX7.out 2 rfl 28 _ (by rfl) (by rfl) _ Try.underlying28 rfl (by kernel_rfl)) ?_) | ((with_reducible refine gate_dst (N := 78) rfl ?_); first | refine Kd.event_run rfl (load_run BX3.out 2 rfl 28 _ (by rfl) (by rfl) _ Try.underlying28 rfl (by kernel_rfl)) ?_ | refine Kd.event_run rfl (load_run BX7.out 2 rfl 28 _ (by rfl) (by rfl) _ Try.underlying28 rfl (by kernel_rfl)) ?_) | ((with_reducible refine gate_dst (N := 87) rfl ?_); first | refine Kd.event_run rfl (load_run BX3.out 2 rfl 28 _ (by rfl) (by rfl) _ Try.underlying28 rfl (by kernel_rfl)) ?_ | refine Kd.event_run rfl (load_run BX7.out 2 rfl 28 _ (by rfl) (by rfl) _ Try.underlying28 rfl (by kernel_rfl)) ?_) | ((with_reducible refine gate_dst (N := 90) rfl ?_); first | refine Kd.event_run rfl (load_run BX3.out 2 rfl 28 _ (by rfl) (by rfl) _ Try.underlying28 rfl (by kernel_rfl)) ?_ | refine Kd.event_run rfl (load_run BX7.out 2 rfl 28 _ (by rfl) (by rfl) _ Try.underlying28 rfl (by kernel_rfl)) ?_) | ((with_reducible refine gate_dst (N := 100) rfl ?_); first | refine Kd.event_run rfl (load_run BX3.out 2 rfl 28 _ (by rfl) (by rfl) _ Try.underlying28 rfl (by kernel_rfl)) ?_ | refine Kd.event_run rfl (load_run BX7.out 2 rfl 28 _ (by rfl) (by rfl) _ Try.underlying28 rfl (by kernel_rfl)) ?_) | ((with_reducible refine gate_dst (N := 102) rfl ?_); first | refine Kd.event_run rfl (load_run BX3.out 2 rfl 28 _ (by rfl) (by rfl) _ Try.underlying28 rfl (by kernel_rfl)) ?_ | refine Kd.event_run rfl (load_run BX7.out 2 rfl 28 _ (by rfl) (by rfl) _ Try.underlying28 rfl (by kernel_rfl)) ?_) | ((with_reducible refine gate_dst (N := 107) rfl ?_); first | refine Kd.event_run rfl (load_run BX3.out 2 rfl 28 _ (by rfl) (by rfl) _ Try.underlying28 rfl (by kernel_rfl)) ?_ | refine Kd.event_run rfl (load_run BX7.out 2 rfl 28 _ (by rfl) (by rfl) _ Try.underlying28 rfl (by kernel_rfl)) ?_) | ((with_reducible refine gate_dst (N := 108) rfl ?_); first | refine Kd.event_run rfl (load_run BX3.out 2 rfl 28 _ (by rfl) (by rfl) _ Try.underlying28 rfl (by kernel_rfl)) ?_ | refine Kd.event_run rfl (load_run BX7.out 2 rfl 28 _ (by rfl) (by rfl) _ Try.underlying28 rfl (by kernel_rfl)) ?_) | ((with_reducible refine gate_dst (N := 116) rfl ?_); first | refine Kd.event_run rfl (load_run BX3.out 2 rfl 28 _ (by rfl) (by rfl) _ Try.underlying28 rfl (by kernel_rfl)) ?_ | refine Kd.event_run rfl (load_run BX7.out 2 rfl 28 _ (by rfl) (by rfl) _ Try.underlying28 rfl (by kernel_rfl)) ?_))
  (refine (laws_eqAttr.calls K5 r3 A25_ c25_ r4 r3 A10_ c10_ r4 true w53 (Kd.R_reads' X25.out).2.2 (Kd.R_reads' X25.out).2.1 (Kd.R_reads' X10.out).2.2 (Kd.R_reads' X10.out).2.1 H5.out).mono ?_)
  rintro e w54 ⟨rfl, hb⟩
  have Z54 : Aside0 (w53.heap.size ≤ w54.heap.size) := ⟨hb.size⟩
  have n0_ := Aside0.mk (Kd.R_below X10.out hb)
  have n1_ := Aside0.mk (Kd.R_below X11.out hb)
  have n2_ := Aside0.mk (Kd.R_below X12.out hb)
  have n3_ := Aside0.mk (Kd.R_below X13.out hb)
  have n4_ := Aside0.mk (Kd.R_below X14.out hb)
  have n5_ := Aside0.mk (Kd.R_below X15.out hb)
  have n6_ := Aside0.mk (Kd.R_below X25.out hb)
  have n7_ := Aside0.mk (blk_below BX1.out hb)
  have n8_ := Aside0.mk (blk_below BX2.out hb)
  have n9_ := Aside0.mk (blk_below BX3.out hb)
  have n10_ := Aside0.mk (blk_below BX4.out hb)
  have n11_ := Aside0.mk (blk_below BX5.out hb)
  have n12_ := Aside0.mk (blk_below BX6.out hb)
  have n13_ := Aside0.mk (blk_below BX7.out hb)
  have hb_ := Aside0.mk (below_then HB.out HB.out.size hb)
  clear X10 X11 X12 X13 X14 X15 X25 BX1 BX2 BX3 BX4 BX5 BX6 BX7
  have X10 := n0_
  have X11 := n1_
  have X12 := n2_
  have X13 := n3_
  have X14 := n4_
  have X15 := n5_
  have X25 := n6_
  have BX1 := n7_
  have BX2 := n8_
  have BX3 := n9_
  have BX4 := n10_
  have BX5 := n11_
  have BX6 := n12_
  have BX7 := n13_
  clear n0_ n1_ n2_ n3_ n4_ n5_ n6_ n7_ n8_ n9_ n10_ n11_ n12_ n13_
  clear HB
  have HB := hb_
  clear hb_
  clear hb
  go_wp2_with (first | ((with_reducible refine gate_dst (N := 19) rfl ?_); first | refine Kd.event_run rfl (load_run BX6.out 2 rfl 28 _ (by rfl) (by rfl) _ Try.underlying28 rfl (by kernel_rfl)) ?_) | ((with_reducible refine gate_dst (N := 24) rfl ?_); first | refine Kd.event_run rfl (load_run BX6.out 2 rfl 28 _ (by rfl) (by rfl) _ Try.underlying28 rfl (by kernel_rfl)) ?_) | ((with_reducible refine gate_dst (N := 31) rfl ?_); first | refine Kd.event_run rfl (load_run BX6.out 2 rfl 28 _ (by rfl) (by rfl) _ Try.underlying28 rfl (by kernel_rfl)) ?_) | ((with_reducible refine gate_dst (N := 33) rfl ?_); first | refine Kd.event_run rfl (load_run BX6.out 2 rfl 28 _ (by rfl) (by rfl) _ Try.underlying28 rfl (by kernel_rfl)) ?_) | ((with_reducible refine gate_dst (N := 38) rfl ?_); first | refine Kd.event_run rfl (load_run BX6.out 2 rfl 28 _ (by rfl) (by rfl) _ Try.underlying28 rfl (by kernel_rfl)) ?_) | ((with_reducible refine gate_dst (N := 40) rfl ?_); first | refine Kd.event_run rfl (load_run BX6.out 2 rfl 28 _ (by rfl) (by rfl) _ Try.underlying28 rfl (by kernel_rfl)) ?_) | ((with_reducible refine gate_dst (N := 44) rfl ?_); first | refine Kd.event_run rfl (load_run BX6.out 2 rfl 28 _ (by rfl) (by rfl) _ Try.underlying28 rfl (by kernel_rfl)) ?_) | ((with_reducible refine gate_dst (N := 45) rfl ?_); first | refine Kd.event_run rfl (load_run BX6.out 2 rfl 28 _ (by rfl) (by rfl) _ Try.underlying28 rfl (by kernel_rfl)) ?_) | ((with_reducible refine gate_dst (N := 49) rfl ?_); first | refine Kd.event_run rfl (load_run BX6.out 2 rfl 28 _ (by rfl) (by rfl) _ Try.underlying28 rfl (by kernel_rfl)) ?_) | ((with_reducible refine gate_dst (N := 50) rfl ?_); first | refine Kd.event_run rfl (load_run BX6.out 2 rfl 28 _ (by rfl) (by rfl) _ Try.underlying28 rfl (by kernel_rfl)) ?_) | ((with_reducible refine gate_dst (N := 58) rfl ?_); first | refine Kd.event_run rfl (load_run BX6.out 2 rfl 28 _ (by rfl) (by rfl) _ Try.underlying28 rfl (by kernel_rfl)) ?_) | ((with_reducible refine gate_dst (N := 59) rfl ?_); first | refine Kd.event_run rfl (load_run BX6.out 2 rfl 28 _ (by rfl) (by rfl) _ Try.underlying28 rfl (by kernel_rfl)) ?_) | ((with_reducible refine gate_dst (N := 63) rfl ?_); first | refine Kd.event_run rfl (load_run BX6.out 2 rfl 28 _ (by rfl) (by rfl) _ Try.underlying28 rfl (by kernel_rfl)) ?_) | ((with_reducible refine gate_dst (N := 64) rfl ?_); first | refine Kd.event_run rfl (load_run BX6.out 2 rfl 28 _ (by rfl) (by rfl) _ Try.underlying28 rfl (by kernel_rfl)) ?_) | ((with_reducible refine gate_dst (N := 68) rfl ?_); first | refine Kd.event_run rfl (load_run BX6.out 2 rfl 28 _ (by rfl) (by rfl) _ Try.underlying28 rfl (by kernel_rfl)) ?_) | ((with_reducible refine gate_dst (N := 71) rfl ?_); first | refine Kd.event_run rfl (load_run BX6.out 2 rfl 28 _ (by rfl) (by rfl) _ Try.underlying28 rfl (by kernel_rfl)) ?_) | ((with_reducible refine gate_dst (N := 77) rfl ?_); first | refine Kd.event_run rfl (load_run BX6.out 2 rfl 28 _ (by rfl) (by rfl) _ Try.underlying28 rfl (by kernel_rfl)) ?_) | ((with_reducible refine gate_dst (N := 78) rfl ?_); first | refine Kd.event_run rfl (load_run BX6.out 2 rfl 28 _ (by rfl) (by rfl) _ Try.underlying28 rfl (by kernel_rfl)) ?_) | ((with_reducible refine gate_dst (N := 87) rfl ?_); first | refine Kd.event_run rfl (load_run BX6.out 2 rfl 28 _ (by rfl) (by rfl) _ Try.underlying28 rfl (by kernel_rfl)) ?_) | ((with_reducible refine gate_dst (N := 90) rfl ?_); first | refine Kd.event_run rfl (load_run BX6.out 2 rfl 28 _ (by rfl) (by rfl) _ Try.underlying28 rfl (by kernel_rfl)) ?_) | ((with_reducible refine gate_dst (N := 100) rfl ?_); first | refine Kd.event_run rfl (load_run BX6.out 2 rfl 28 _ (by rfl) (by rfl) _ Try.underlying28 rfl (by kernel_rfl)) ?_) | ((with_reducible refine gate_dst (N := 102) rfl ?_); first | refine Kd.event_run rfl (load_run BX6.out 2 rfl 28 _ (by rfl) (by rfl) _ Try.underlying28 rfl (by kernel_rfl)) ?_) | ((with_reducible refine gate_dst (N := 107) rfl ?_); first | refine Kd.event_run rfl (load_run BX6.out 2 rfl 28 _ (by rfl) (by rfl) _ Try.underlying28 rfl (by kernel_rfl)) ?_) | ((with_reducible refine gate_dst (N := 108) rfl ?_); first | refine Kd.event_run rfl (load_run BX6.out 2 rfl 28 _ (by rfl) (by rfl) _ Try.underlying28 rfl (by kernel_rfl)) ?_) | ((with_reducible refine gate_dst (N := 116) rfl ?_); first | refine Kd.event_run rfl (load_run BX6.out 2 rfl 28 _ (by rfl) (by rfl) _ Try.underlying28 rfl (by kernel_rfl)) ?_))
  have hc_ := laws_heldAttr.calls K11 r3 A13_ c13_ rm8 1 m8 w54 (Kd.R_reads' X13.out).2.2 (Nat.le_trans (Nat.le_of_eq (Kd.R_reads' X13.out).1.symm) (Kd.R_reads' X13.out).2.1) H11.out
  rw [← (Kd.R_reads' X13.out).1] at hc_
  (refine (hc_).mono ?_)
  clear hc_
  rintro e w55 ⟨rfl, hb⟩
  have Z55 : Aside0 (w54.heap.size ≤ w55.heap.size) := ⟨hb.size⟩
  have n0_ := Aside0.mk (Kd.R_below X10.out hb)
  have n1_ := Aside0.mk (Kd.R_below X11.out hb)
  have n2_ := Aside0.mk (Kd.R_below X12.out hb)
  have n3_ := Aside0.mk (Kd.R_below X13.out hb)
  have n4_ := Aside0.mk (Kd.R_below X14.out hb)
  have n5_ := Aside0.mk (Kd.R_below X15.out hb)
  have n6_ := Aside0.mk (Kd.R_below X25.out hb)
  have n7_ := Aside0.mk (blk_below BX1.out hb)
  have n8_ := Aside0.mk (blk_below BX2.out hb)
  have n9_ := Aside0.mk (blk_below BX3.out hb)
  have n10_ := Aside0.mk (blk_below BX4.out hb)
  have n11_ := Aside0.mk (blk_below BX5.out hb)
  have n12_ := Aside0.mk (blk_below BX6.out hb)
  have n13_ := Aside0.mk (blk_below BX7.out hb)
  have hb_ := Aside0.mk (below_then HB.out HB.out.size hb)
  clear X10 X11 X12 X13 X14 X15 X25 BX1 BX2 BX3 BX4 BX5 BX6 BX7
  have X10 := n0_
  have X11 := n1_
  have X12 := n2_
  have X13 := n3_
  have X14 := n4_
  have X15 := n5_
  have X25 := n6_
  have BX1 := n7_
  have BX2 := n8_
  have BX3 := n9_
  have BX4 := n10_
  have BX5 := n11_
  have BX6 := n12_
  have BX7 := n13_
  clear n0_ n1_ n2_ n3_ n4_ n5_ n6_ n7_ n8_ n9_ n10_ n11_ n12_ n13_
  clear HB
  have HB := hb_
  clear hb_
  clear hb
  go_wp2
  go_ret
  exact ⟨rfl, HB.out⟩

end Go.Proofs.Ytnkdplemnikkhaa.QFnExactJoinAttr
