-- Written by a program of this session (wip/mk.py) over the kit's print: Lean checks it.
import Derived.Test.YteecmbfebenjjaaQFnSumsx0
import Derived.Test.YteecmbfebenjjaaQFnSumsx3
import Derived.Test.YteecmbfebenjjaaQFnSumsx5
import Derived.Test.YteecmbfebenjjaaQFnSumsx6
import Derived.Test.YteecmbfebenjjaaQFnSumsx7
import Derived.Test.YteecmbfebenjjaaQFnSumsx8
import Derived.Test.YteecmbfebenjjaaQFnSumsx9
import Derived.Test.YteecmbfebenjjaaQFnSumsx10
namespace Go.Proofs.Yteecmbfebenjjaa.QFnSums
open Go.Proofs.YteecmbfebenjjaaW.PrintWords renaming below_alloc → Ba, below_set → Bs, gate_dst → Gd, blk_below → Kb, blk_cell → Kc
open Go.Proofs.YteecmbfebenjjaaW.PrintWords.Aside0 renaming mk → Am
open Go.Proofs.YteecmbfebenjjaaW.PrintWords renaming Aside0 → Ad
open Go.RowKit Go.Proofs.YteecmbfebenjjaaW.PrintWords Go.Proofs.YteecmbfebenjjaaW.PrintLast Go.Proofs.YteecmbfebenjjaaW.PrintMore
attribute [local go_sem] max2_int min2_int max_two min_two max_three min_three max_four min_four   -- for this text's walks alone
set_option linter.unusedVariables false
set_option linter.unusedSimpArgs false
section
open Go.RowKit
theorem load_run {P : Program} {o : Oper} {a : Act} {W : World} {g : Nat} {cs : Array Value} {t : TypeId} (hg : W.heap[g]? = some (.cells cs t (0, 0))) (n : Nat) (hn : cs.size = n) (ty : TypeId) (x : Operand) (ho : o.op = .load ty x)
  (hx : a.eval x = .pointer (some ⟨g, 0, none⟩)) (d : TypeDesc) (hu : P.underlying ty = some d) (hd : (match d with | .struct _ | .array _ _ => true | _ => false) = true) (hi : (P.info? ty).map (·.size) = some n) :
  (execOp a.eval o).run P W = .ok (.value (.agg cs)) W := by
 subst hn
 unfold execOp
 simp only [ho, hx, Instr.loadAt, Instr.sureAddr, Sem.run_bind, Sem.run_pure, Result.andThen_ok, run_loadVar_row W g t ty cs (0, 0) d hg hu hd hi]
theorem store_run {P : Program} {o : Oper} {a : Act} {W : World} {g : Nat} {cs cs' : Array Value} {t : TypeId} (hg : W.heap[g]? = some (.cells cs t (0, 0))) (n : Nat) (hn : cs.size = n) (hn' : cs'.size = n) (ty : TypeId) (x y : Operand) (ho : o.op = .store ty x y)
  (hx : a.eval x = .pointer (some ⟨g, 0, none⟩)) (hy : a.eval y = .agg cs') (hi : (P.info? ty).map (·.size) = some n) (h1 : cs'.all (·.oneCell') = true) :
  (execOp a.eval o).run P W = .ok .skip (W.setRow g cs') := by
 unfold execOp
 simp only [ho, hx, hy, Instr.storeAt, Instr.sureAddr, Sem.run_bind, Sem.run_pure, Result.andThen_ok, run_storeVar_row W g t ty cs cs' hg (by rw [hn']; exact hi) (by rw [hn, hn']) h1]
theorem kept_setRow (W : World) (g : Nat) (cs : Array Value) : Kept W (W.setRow g cs) (fun k => k = g) := ⟨by simp, fun i _ hi => setRow_other W g i cs hi⟩
theorem below_setRow_ {B g : Nat} {w0 w : World} (hb : Below B w0 w) (hBg : B ≤ g) (cs : Array Value) : Below B w0 (w.setRow g cs) :=
 ⟨hb.os, hb.tape, hb.output, by simpa using hb.size, fun k hk => (setRow_other w g k cs (by omega)).trans (hb.block k hk)⟩
end
def laws_FnSums.Facts (l0 : List Int) (l1 : List Int) : Prop :=
 ((laws_big.f l0 l1 = some true) ∧ True) ∨ ((laws_big.f l0 l1 = some false) ∧ (∃ r1 : List Int, ∃ r2 : Int, ∃ r3 : Int, ∃ r4 : Int, ∃ r5 : Int, ∃ r6 : Int, (∃ K, spec_DrawApplyCmd.f K l0 = some (r1, r2, r3, r4, r5, r6)) ∧ ((∃ r7 : List Int, ∃ r8 : Int, ∃ r9 : Int, (∃ K, impl_ApplyCmd.f K r1 r2 r3 r4 r5 r6 = some (r7, r8, r9, true)) ∧ ((∃ K, spec_ApplyCmd.f K r1 r2 r3 r4 r5 r6 = some (r7, r8, r9, true)) ∧ ((∃ K, laws_sameInts.f K r7 r7 = some true) ∧ ((∃ K, impl_GoodSums.f K r1 = some true) ∧ ((∃ K, spec_GoodSums.f K r1 = some true) ∧ (∃ r10 : List Int, (impl_NewSums.f = some r10) ∧ ((∃ K, spec_NewSums.f K  = some r10) ∧ ((∃ K, laws_sameInts.f K r10 r10 = some true) ∧ (∃ r11 : List Int, ∃ r12 : Int, ∃ r13 : Int, ∃ r14 : Int, ∃ r15 : Int, ∃ r16 : Int, (∃ K, spec_DrawApplyCmd.f K l1 = some (r11, r12, r13, r14, r15, r16)) ∧ (∃ r17 : Int, (∃ K, impl_TotalOf.f K r1 = some (r17, true)) ∧ ((∃ K, impl_TotalOf.f K r7 = some (r17, true)) ∧ ((∃ K, impl_GoodSums.f K r7 = some true) ∧ (((∃ K, impl_Interfere.f K r2 r3 r4 r5 r6 r12 r13 r14 r15 r16 = some (false, true)) ∧ ∃ r18 : List Int, ∃ r19 : Int, ∃ r20 : Int, (∃ K, impl_ApplyCmd.f K r7 r12 r13 r14 r15 r16 = some (r18, r19, r20, true)) ∧ ∃ r21 : List Int, (∃ K, impl_ApplyCmd.f K r1 r12 r13 r14 r15 r16 = some (r21, r19, r20, true)) ∧ (∃ K, impl_ApplyCmd.f K r21 r2 r3 r4 r5 r6 = some (r18, r8, r9, true)) ∧ (∃ K, laws_sameInts.f K r18 r18 = some true) ∧ ∃ r22 : List (S26), (∃ K, spec_DrawPlayCmds.f K l1 = some r22) ∧ ∃ r23 : List Int, ∃ r24 : List (S30), ∃ r25 : Bool, (∃ K, impl_PlayCmds.f K r22 = some (r23, r24, r25)) ∧ (∃ K, spec_PlayCmds.f K r22 = some (r23, r24, r25)) ∧ ∃ r26 : List Int, (∃ K, spec_DrawTotalOf.f K l1 = some r26) ∧ ∃ r27 : Int, ∃ r28 : Bool, (∃ K, impl_TotalOf.f K r26 = some (r27, r28)) ∧ (∃ K, spec_TotalOf.f K r26 = some (r27, r28)) ∧ (∃ K, laws_sameInts.f K r23 r23 = some true) ∧ (∃ K, laws_sameTolds.f K r24 r24 = some true) ∧ True) ∨ ((∃ K, impl_Interfere.f K r2 r3 r4 r5 r6 r12 r13 r14 r15 r16 = some (true, true)) ∧ ∃ r29 : List (S26), (∃ K, spec_DrawPlayCmds.f K l1 = some r29) ∧ ∃ r30 : List Int, ∃ r31 : List (S30), ∃ r32 : Bool, (∃ K, impl_PlayCmds.f K r29 = some (r30, r31, r32)) ∧ (∃ K, spec_PlayCmds.f K r29 = some (r30, r31, r32)) ∧ ∃ r33 : List Int, (∃ K, spec_DrawTotalOf.f K l1 = some r33) ∧ ∃ r34 : Int, ∃ r35 : Bool, (∃ K, impl_TotalOf.f K r33 = some (r34, r35)) ∧ (∃ K, spec_TotalOf.f K r33 = some (r34, r35)) ∧ (∃ K, laws_sameInts.f K r30 r30 = some true) ∧ (∃ K, laws_sameTolds.f K r31 r31 = some true) ∧ True) ∨ ((∃ K, impl_Interfere.f K r2 r3 r4 r5 r6 r12 r13 r14 r15 r16 = some (false, false)) ∧ ∃ r36 : List (S26), (∃ K, spec_DrawPlayCmds.f K l1 = some r36) ∧ ∃ r37 : List Int, ∃ r38 : List (S30), ∃ r39 : Bool, (∃ K, impl_PlayCmds.f K r36 = some (r37, r38, r39)) ∧ (∃ K, spec_PlayCmds.f K r36 = some (r37, r38, r39)) ∧ ∃ r40 : List Int, (∃ K, spec_DrawTotalOf.f K l1 = some r40) ∧ ∃ r41 : Int, ∃ r42 : Bool, (∃ K, impl_TotalOf.f K r40 = some (r41, r42)) ∧ (∃ K, spec_TotalOf.f K r40 = some (r41, r42)) ∧ (∃ K, laws_sameInts.f K r37 r37 = some true) ∧ (∃ K, laws_sameTolds.f K r38 r38 = some true) ∧ True)))))))))))))) ∨ (∃ r43 : List Int, ∃ r44 : Int, ∃ r45 : Int, (∃ K, impl_ApplyCmd.f K r1 r2 r3 r4 r5 r6 = some (r43, r44, r45, false)) ∧ (∃ K, spec_ApplyCmd.f K r1 r2 r3 r4 r5 r6 = some (r43, r44, r45, false)) ∧ (∃ K, laws_sameInts.f K r43 r43 = some true) ∧ ∃ r46 : Bool, (∃ K, impl_GoodSums.f K r1 = some r46) ∧ (∃ K, spec_GoodSums.f K r1 = some r46) ∧ ∃ r47 : List Int, (impl_NewSums.f = some r47) ∧ (∃ K, spec_NewSums.f K  = some r47) ∧ (∃ K, laws_sameInts.f K r47 r47 = some true) ∧ ∃ r48 : List (S26), (∃ K, spec_DrawPlayCmds.f K l1 = some r48) ∧ ∃ r49 : List Int, ∃ r50 : List (S30), ∃ r51 : Bool, (∃ K, impl_PlayCmds.f K r48 = some (r49, r50, r51)) ∧ (∃ K, spec_PlayCmds.f K r48 = some (r49, r50, r51)) ∧ ∃ r52 : List Int, (∃ K, spec_DrawTotalOf.f K l1 = some r52) ∧ ∃ r53 : Int, ∃ r54 : Bool, (∃ K, impl_TotalOf.f K r52 = some (r53, r54)) ∧ (∃ K, spec_TotalOf.f K r52 = some (r53, r54)) ∧ (∃ K, laws_sameInts.f K r49 r49 = some true) ∧ (∃ K, laws_sameTolds.f K r50 r50 = some true) ∧ True))))
set_option maxHeartbeats 8000000 in
set_option maxRecDepth 100000 in
theorem laws_FnSums.calls (A0 : Option Addr) (c0 : Nat) (l0 : List Int) (A1 : Option Addr) (c1 : Nat) (l1 : List Int) (w : World) (hr0 : Kd.C (Kd.int .u8) w A0 l0.length l0) (hc0 : l0.length ≤ c0) (hr1 : Kd.C (Kd.int .u8) w A1 l1.length l1) (hc1 : l1.length ≤ c1) (h : laws_FnSums.Facts l0 l1) :
  Calls Try.prog 3 #[.slice A0 l0.length c0, .slice A1 l1.length c1] w fun e w' => e = .returned (.bool true) ∧ Below w.heap.size w w' := by
 unfold laws_FnSums.Facts at h
 have HR0 := Am hr0
 have HC0 := Am hc0
 clear hr0 hc0
 have HR1 := Am hr1
 have HC1 := Am hc1
 clear hr1 hc1
 have HF := Am h
 clear h
 have HB := Am (Below.refl w.heap.size w)
 rcases HF.out with hF | hF
 ·clear HF
  have HF := Am hF
  clear hF
  obtain ⟨h1, hF⟩ := HF.out
  clear HF
  have HF := Am hF
  clear hF
  have H1 := Am h1
  clear h1
  go_enter Try.func3, Try.ntmps3
  go_wp2_with fail
  (refine (laws_big.calls A0 c0 l0 A1 c1 l1 true w (Kd.C_below HR0.out HB.out) HC0.out (Kd.C_below HR1.out HB.out) HC1.out H1.out).mono ?_)
  rintro e w1 ⟨rfl, hd⟩
  have hb := hd.below
  clear hd
  have Z1 : Ad (w.heap.size ≤ w1.heap.size) := ⟨hb.size⟩
  replace HB := Am (below_then HB.out HB.out.size hb)
  clear hb
  go_wp2
  go_ret
  exact ⟨rfl, HB.out⟩
 ·clear HF
  have HF := Am hF
  clear hF
  obtain ⟨h2, hF⟩ := HF.out
  clear HF
  have HF := Am hF
  clear hF
  have H2 := Am h2
  clear h2
  go_enter Try.func3, Try.ntmps3
  go_wp2_with fail
  (refine (laws_big.calls A0 c0 l0 A1 c1 l1 false w (Kd.C_below HR0.out HB.out) HC0.out (Kd.C_below HR1.out HB.out) HC1.out H2.out).mono ?_)
  rintro e w2 ⟨rfl, hd⟩
  have hb := hd.below
  clear hd
  have Z2 : Ad (w.heap.size ≤ w2.heap.size) := ⟨hb.size⟩
  replace HB := Am (below_then HB.out HB.out.size hb)
  clear hb
  obtain ⟨r1, r2, r3, r4, r5, r6, ⟨K3, h3⟩, hF⟩ := HF.out
  clear HF
  have HF := Am hF
  clear hF
  have H3 := Am h3
  clear h3
  go_wp2_with fail
  (refine (spec_DrawApplyCmd.calls K3 A0 c0 l0 r1 r2 r3 r4 r5 r6 w2 (Kd.C_below HR0.out HB.out) HC0.out H3.out).mono ?_)
  rintro e w3 ⟨v0_, rfl, hS0, hb⟩
  have X1 : Ad (Kd.R (Kd.int .i64) 3 w3 w.heap.size (fun k => w2.heap.size ≤ k ∧ k < w3.heap.size) v0_ r1) := ⟨Kd.R_mono (Kd.R_lower (Kd.R_bound hS0) HB.out.size) (fun k hk => ⟨hk.2.1, hk.2.2.1⟩)⟩
  have Z3 : Ad (w2.heap.size ≤ w3.heap.size) := ⟨hb.size⟩
  replace HB := Am (below_then HB.out HB.out.size hb)
  clear hb hS0
  obtain ⟨A1_, c1_, rfl⟩ := Kd.R_slice X1.out
  rcases HF.out with hF | hF
  ·clear HF
   have HF := Am hF
   clear hF
   obtain ⟨r7, r8, r9, ⟨K4, h4⟩, hF⟩ := HF.out
   clear HF
   have HF := Am hF
   clear hF
   have H4 := Am h4
   clear h4
   go_upto_region 4 with (fail)
   refine letC (fun W_ => Below w3.heap.size w3 W_ ∧ W_.heap[w3.heap.size]? = some (.cells #[.int .i64 r2, .int .i64 r3, .int .i64 r4, .int .i64 r5, .int .i64 r6] 26 (0, 0))) ?_ ?_
   ·refine ⟨?_, ?_⟩
    ·repeat (first | exact Below.refl _ _ | apply Ba | refine Bs ?_ (by first | exact Nat.le_refl _ | omega | (simp; done)))
    ·exact blk_new w3 (.cells #[.int .i64 r2, .int .i64 r3, .int .i64 r4, .int .i64 r5, .int .i64 r6] 26)
   intro w4 hq_
   obtain ⟨hb, hx0_⟩ := hq_
   have Z4 : Ad (w3.heap.size ≤ w4.heap.size) := ⟨hb.size⟩
   replace X1 := Am (Kd.R_below X1.out hb)
   replace HB := Am (below_then HB.out HB.out.size hb)
   clear hb
   have BX1 : Ad (w4.heap[w3.heap.size]? = some (.cells #[.int .i64 r2, .int .i64 r3, .int .i64 r4, .int .i64 r5, .int .i64 r6] 26 (0, 0))) := ⟨hx0_⟩
   clear hx0_
   have GBX1 : Ad (w3.heap.size < w4.heap.size) := ⟨blk_lt BX1.out⟩
   go_wp2_with (first | ((refine Gd (N := 52) rfl ?_); first | refine Kd.event_run rfl (load_run BX1.out 5 rfl 26 _ (by rfl) (by rfl) _ Try.underlying26 rfl (by kernel_rfl)) ?_) | ((refine Gd (N := 59) rfl ?_); first | refine Kd.event_run rfl (load_run BX1.out 5 rfl 26 _ (by rfl) (by rfl) _ Try.underlying26 rfl (by kernel_rfl)) ?_) | ((refine Gd (N := 124) rfl ?_); first | refine Kd.event_run rfl (load_run BX1.out 5 rfl 26 _ (by rfl) (by rfl) _ Try.underlying26 rfl (by kernel_rfl)) ?_) | ((refine Gd (N := 125) rfl ?_); first | refine Kd.event_run rfl (load_run BX1.out 5 rfl 26 _ (by rfl) (by rfl) _ Try.underlying26 rfl (by kernel_rfl)) ?_) | ((refine Gd (N := 136) rfl ?_); first | refine Kd.event_run rfl (load_run BX1.out 5 rfl 26 _ (by rfl) (by rfl) _ Try.underlying26 rfl (by kernel_rfl)) ?_) | ((refine Gd (N := 143) rfl ?_); first | refine Kd.event_run rfl (load_run BX1.out 5 rfl 26 _ (by rfl) (by rfl) _ Try.underlying26 rfl (by kernel_rfl)) ?_) | ((refine Gd (N := 150) rfl ?_); first | refine Kd.event_run rfl (load_run BX1.out 5 rfl 26 _ (by rfl) (by rfl) _ Try.underlying26 rfl (by kernel_rfl)) ?_))
   (refine (impl_ApplyCmd.calls K4 A1_ c1_ r1 r2 r3 r4 r5 r6 r7 r8 r9 true w4 (Kd.R_reads' X1.out).2.2 (Kd.R_reads' X1.out).2.1 H4.out).mono ?_)
   rintro e w5 ⟨v0_, rfl, hS0, hb⟩
   have X2 : Ad (Kd.R (Kd.int .i64) 3 w5 w.heap.size (fun k => w4.heap.size ≤ k ∧ k < w5.heap.size) v0_ r7) := ⟨Kd.R_mono (Kd.R_lower (Kd.R_bound hS0) HB.out.size) (fun k hk => ⟨hk.2.1, hk.2.2.1⟩)⟩
   have Z5 : Ad (w4.heap.size ≤ w5.heap.size) := ⟨hb.size⟩
   replace X1 := Am (Kd.R_below X1.out hb)
   replace BX1 := Am (Kb BX1.out hb)
   replace HB := Am (below_then HB.out HB.out.size hb)
   clear hb hS0
   obtain ⟨A2_, c2_, rfl⟩ := Kd.R_slice X2.out
   obtain ⟨⟨K5, h5⟩, hF⟩ := HF.out
   clear HF
   have HF := Am hF
   clear hF
   have H5 := Am h5
   clear h5
   go_upto_region 5 with (first | ((refine Gd (N := 52) rfl ?_); first | refine Kd.event_run rfl (load_run BX1.out 5 rfl 26 _ (by rfl) (by rfl) _ Try.underlying26 rfl (by kernel_rfl)) ?_) | ((refine Gd (N := 59) rfl ?_); first | refine Kd.event_run rfl (load_run BX1.out 5 rfl 26 _ (by rfl) (by rfl) _ Try.underlying26 rfl (by kernel_rfl)) ?_) | ((refine Gd (N := 124) rfl ?_); first | refine Kd.event_run rfl (load_run BX1.out 5 rfl 26 _ (by rfl) (by rfl) _ Try.underlying26 rfl (by kernel_rfl)) ?_) | ((refine Gd (N := 125) rfl ?_); first | refine Kd.event_run rfl (load_run BX1.out 5 rfl 26 _ (by rfl) (by rfl) _ Try.underlying26 rfl (by kernel_rfl)) ?_) | ((refine Gd (N := 136) rfl ?_); first | refine Kd.event_run rfl (load_run BX1.out 5 rfl 26 _ (by rfl) (by rfl) _ Try.underlying26 rfl (by kernel_rfl)) ?_) | ((refine Gd (N := 143) rfl ?_); first | refine Kd.event_run rfl (load_run BX1.out 5 rfl 26 _ (by rfl) (by rfl) _ Try.underlying26 rfl (by kernel_rfl)) ?_) | ((refine Gd (N := 150) rfl ?_); first | refine Kd.event_run rfl (load_run BX1.out 5 rfl 26 _ (by rfl) (by rfl) _ Try.underlying26 rfl (by kernel_rfl)) ?_))
   refine letC (fun W_ => Below w5.heap.size w5 W_ ∧ W_.heap[w5.heap.size]? = some (.cells #[.int .i64 r8, .int .i64 r9] 30 (0, 0))) ?_ ?_
   ·refine ⟨?_, ?_⟩
    ·repeat (first | exact Below.refl _ _ | apply Ba | refine Bs ?_ (by first | exact Nat.le_refl _ | omega | (simp; done)))
    ·exact blk_new w5 (.cells #[.int .i64 r8, .int .i64 r9] 30)
   intro w6 hq_
   obtain ⟨hb, hx0_⟩ := hq_
   have Z6 : Ad (w5.heap.size ≤ w6.heap.size) := ⟨hb.size⟩
   replace X1 := Am (Kd.R_below X1.out hb)
   replace X2 := Am (Kd.R_below X2.out hb)
   replace BX1 := Am (Kb BX1.out hb)
   replace HB := Am (below_then HB.out HB.out.size hb)
   clear hb
   have BX2 : Ad (w6.heap[w5.heap.size]? = some (.cells #[.int .i64 r8, .int .i64 r9] 30 (0, 0))) := ⟨hx0_⟩
   clear hx0_
   have GBX2 : Ad (w5.heap.size < w6.heap.size) := ⟨blk_lt BX2.out⟩
   go_wp2_with (first | ((refine Gd (N := 52) rfl ?_); first | refine Kd.event_run rfl (load_run BX1.out 5 rfl 26 _ (by rfl) (by rfl) _ Try.underlying26 rfl (by kernel_rfl)) ?_) | ((refine Gd (N := 59) rfl ?_); first | refine Kd.event_run rfl (load_run BX1.out 5 rfl 26 _ (by rfl) (by rfl) _ Try.underlying26 rfl (by kernel_rfl)) ?_) | ((refine Gd (N := 124) rfl ?_); first | refine Kd.event_run rfl (load_run BX1.out 5 rfl 26 _ (by rfl) (by rfl) _ Try.underlying26 rfl (by kernel_rfl)) ?_) | ((refine Gd (N := 125) rfl ?_); first | refine Kd.event_run rfl (load_run BX1.out 5 rfl 26 _ (by rfl) (by rfl) _ Try.underlying26 rfl (by kernel_rfl)) ?_) | ((refine Gd (N := 136) rfl ?_); first | refine Kd.event_run rfl (load_run BX1.out 5 rfl 26 _ (by rfl) (by rfl) _ Try.underlying26 rfl (by kernel_rfl)) ?_) | ((refine Gd (N := 143) rfl ?_); first | refine Kd.event_run rfl (load_run BX1.out 5 rfl 26 _ (by rfl) (by rfl) _ Try.underlying26 rfl (by kernel_rfl)) ?_) | ((refine Gd (N := 150) rfl ?_); first | refine Kd.event_run rfl (load_run BX1.out 5 rfl 26 _ (by rfl) (by rfl) _ Try.underlying26 rfl (by kernel_rfl)) ?_))
   (refine (spec_ApplyCmd.calls K5 A1_ c1_ r1 r2 r3 r4 r5 r6 r7 r8 r9 true w6 (Kd.R_reads' X1.out).2.2 (Kd.R_reads' X1.out).2.1 H5.out).mono ?_)
   rintro e w7 ⟨v0_, rfl, hS0, hb⟩
   have X3 : Ad (Kd.R (Kd.int .i64) 3 w7 w.heap.size (fun k => w6.heap.size ≤ k ∧ k < w7.heap.size) v0_ r7) := ⟨Kd.R_mono (Kd.R_lower (Kd.R_bound hS0) HB.out.size) (fun k hk => ⟨hk.2.1, hk.2.2.1⟩)⟩
   have Z7 : Ad (w6.heap.size ≤ w7.heap.size) := ⟨hb.size⟩
   replace X1 := Am (Kd.R_below X1.out hb)
   replace X2 := Am (Kd.R_below X2.out hb)
   replace BX1 := Am (Kb BX1.out hb)
   replace BX2 := Am (Kb BX2.out hb)
   replace HB := Am (below_then HB.out HB.out.size hb)
   clear hb hS0
   obtain ⟨A3_, c3_, rfl⟩ := Kd.R_slice X3.out
   obtain ⟨⟨K6, h6⟩, hF⟩ := HF.out
   clear HF
   have HF := Am hF
   clear hF
   have H6 := Am h6
   clear h6
   go_upto_region 6 with (fail)
   refine letC (fun W_ => Below w7.heap.size w7 W_ ∧ W_.heap[w7.heap.size]? = some (.cells #[.int .i64 r8, .int .i64 r9] 30 (0, 0))) ?_ ?_
   ·refine ⟨?_, ?_⟩
    ·repeat (first | exact Below.refl _ _ | apply Ba | refine Bs ?_ (by first | exact Nat.le_refl _ | omega | (simp; done)))
    ·exact blk_new w7 (.cells #[.int .i64 r8, .int .i64 r9] 30)
   intro w8 hq_
   obtain ⟨hb, hx0_⟩ := hq_
   have Z8 : Ad (w7.heap.size ≤ w8.heap.size) := ⟨hb.size⟩
   replace X1 := Am (Kd.R_below X1.out hb)
   replace X2 := Am (Kd.R_below X2.out hb)
   replace X3 := Am (Kd.R_below X3.out hb)
   replace BX1 := Am (Kb BX1.out hb)
   replace BX2 := Am (Kb BX2.out hb)
   replace HB := Am (below_then HB.out HB.out.size hb)
   clear hb
   have BX3 : Ad (w8.heap[w7.heap.size]? = some (.cells #[.int .i64 r8, .int .i64 r9] 30 (0, 0))) := ⟨hx0_⟩
   clear hx0_
   have GBX3 : Ad (w7.heap.size < w8.heap.size) := ⟨blk_lt BX3.out⟩
   go_wp2_with fail
   (refine (laws_sameInts.calls K6 A2_ c2_ r7 A3_ c3_ r7 true w8 (Kd.R_reads' X2.out).2.2 (Kd.R_reads' X2.out).2.1 (Kd.R_reads' X3.out).2.2 (Kd.R_reads' X3.out).2.1 H6.out).mono ?_)
   rintro e w9 ⟨rfl, hd⟩
   have hb := hd.below
   clear hd
   have Z9 : Ad (w8.heap.size ≤ w9.heap.size) := ⟨hb.size⟩
   replace X1 := Am (Kd.R_below X1.out hb)
   replace X2 := Am (Kd.R_below X2.out hb)
   replace X3 := Am (Kd.R_below X3.out hb)
   replace BX1 := Am (Kb BX1.out hb)
   replace BX2 := Am (Kb BX2.out hb)
   replace BX3 := Am (Kb BX3.out hb)
   replace HB := Am (below_then HB.out HB.out.size hb)
   clear hb
   obtain ⟨⟨K7, h7⟩, hF⟩ := HF.out
   clear HF
   have HF := Am hF
   clear hF
   have H7 := Am h7
   clear h7
   have qBX2_0 : w9.cell? ⟨w5.heap.size, 0, none⟩ = some (.int .i64 r8) := (Kc BX2.out 0).trans rfl
   have qBX2_1 : w9.cell? ⟨w5.heap.size, 1, none⟩ = some (.int .i64 r9) := (Kc BX2.out 1).trans rfl
   have qBX3_0 : w9.cell? ⟨w7.heap.size, 0, none⟩ = some (.int .i64 r8) := (Kc BX3.out 0).trans rfl
   have qBX3_1 : w9.cell? ⟨w7.heap.size, 1, none⟩ = some (.int .i64 r9) := (Kc BX3.out 1).trans rfl
   go_wp2_with (first | ((refine Gd (N := 74) rfl ?_); first | refine Kd.event_run rfl (load_run BX2.out 2 rfl 30 _ (by rfl) (by rfl) _ Try.underlying30 rfl (by kernel_rfl)) ?_ | refine Kd.event_run rfl (load_run BX3.out 2 rfl 30 _ (by rfl) (by rfl) _ Try.underlying30 rfl (by kernel_rfl)) ?_) | ((refine Gd (N := 75) rfl ?_); first | refine Kd.event_run rfl (load_run BX2.out 2 rfl 30 _ (by rfl) (by rfl) _ Try.underlying30 rfl (by kernel_rfl)) ?_ | refine Kd.event_run rfl (load_run BX3.out 2 rfl 30 _ (by rfl) (by rfl) _ Try.underlying30 rfl (by kernel_rfl)) ?_) | ((refine Gd (N := 172) rfl ?_); first | refine Kd.event_run rfl (load_run BX2.out 2 rfl 30 _ (by rfl) (by rfl) _ Try.underlying30 rfl (by kernel_rfl)) ?_ | refine Kd.event_run rfl (load_run BX3.out 2 rfl 30 _ (by rfl) (by rfl) _ Try.underlying30 rfl (by kernel_rfl)) ?_) | ((refine Gd (N := 173) rfl ?_); first | refine Kd.event_run rfl (load_run BX2.out 2 rfl 30 _ (by rfl) (by rfl) _ Try.underlying30 rfl (by kernel_rfl)) ?_ | refine Kd.event_run rfl (load_run BX3.out 2 rfl 30 _ (by rfl) (by rfl) _ Try.underlying30 rfl (by kernel_rfl)) ?_) | ((refine Gd (N := 177) rfl ?_); first | refine Kd.event_run rfl (load_run BX2.out 2 rfl 30 _ (by rfl) (by rfl) _ Try.underlying30 rfl (by kernel_rfl)) ?_ | refine Kd.event_run rfl (load_run BX3.out 2 rfl 30 _ (by rfl) (by rfl) _ Try.underlying30 rfl (by kernel_rfl)) ?_) | ((refine Gd (N := 178) rfl ?_); first | refine Kd.event_run rfl (load_run BX2.out 2 rfl 30 _ (by rfl) (by rfl) _ Try.underlying30 rfl (by kernel_rfl)) ?_ | refine Kd.event_run rfl (load_run BX3.out 2 rfl 30 _ (by rfl) (by rfl) _ Try.underlying30 rfl (by kernel_rfl)) ?_))
   clear qBX2_0 qBX2_1 qBX3_0 qBX3_1
   (refine (impl_GoodSums.calls K7 A1_ c1_ r1 true w9 (Kd.R_reads' X1.out).2.2 (Kd.R_reads' X1.out).2.1 H7.out).mono ?_)
   rintro e w10 ⟨rfl, hb⟩
   have Z10 : Ad (w9.heap.size ≤ w10.heap.size) := ⟨hb.size⟩
   replace X1 := Am (Kd.R_below X1.out hb)
   replace X2 := Am (Kd.R_below X2.out hb)
   replace X3 := Am (Kd.R_below X3.out hb)
   replace BX1 := Am (Kb BX1.out hb)
   replace BX2 := Am (Kb BX2.out hb)
   replace BX3 := Am (Kb BX3.out hb)
   replace HB := Am (below_then HB.out HB.out.size hb)
   clear hb
   obtain ⟨⟨K8, h8⟩, hF⟩ := HF.out
   clear HF
   have HF := Am hF
   clear hF
   have H8 := Am h8
   clear h8
   go_wp2_with fail
   (refine (spec_GoodSums.calls K8 A1_ c1_ r1 true w10 (Kd.R_reads' X1.out).2.2 (Kd.R_reads' X1.out).2.1 H8.out).mono ?_)
   rintro e w11 ⟨rfl, hd⟩
   have hb := hd.below
   clear hd
   have Z11 : Ad (w10.heap.size ≤ w11.heap.size) := ⟨hb.size⟩
   replace X1 := Am (Kd.R_below X1.out hb)
   replace X2 := Am (Kd.R_below X2.out hb)
   replace X3 := Am (Kd.R_below X3.out hb)
   replace BX1 := Am (Kb BX1.out hb)
   replace BX2 := Am (Kb BX2.out hb)
   replace BX3 := Am (Kb BX3.out hb)
   replace HB := Am (below_then HB.out HB.out.size hb)
   clear hb
   obtain ⟨r10, h9, hF⟩ := HF.out
   clear HF
   have HF := Am hF
   clear hF
   have H9 := Am h9
   clear h9
   go_wp2_with fail
   (refine (impl_NewSums.calls r10 w11 H9.out).mono ?_)
   rintro e w12 ⟨v0_, rfl, hS0, hb⟩
   have X4 : Ad (Kd.R (Kd.int .i64) 3 w12 w.heap.size (fun k => w11.heap.size ≤ k ∧ k < w12.heap.size) v0_ r10) := ⟨Kd.R_mono (Kd.R_lower (Kd.R_bound hS0) HB.out.size) (fun k hk => ⟨hk.2.1, hk.2.2.1⟩)⟩
   have Z12 : Ad (w11.heap.size ≤ w12.heap.size) := ⟨hb.size⟩
   replace X1 := Am (Kd.R_below X1.out hb)
   replace X2 := Am (Kd.R_below X2.out hb)
   replace X3 := Am (Kd.R_below X3.out hb)
   replace BX1 := Am (Kb BX1.out hb)
   replace BX2 := Am (Kb BX2.out hb)
   replace BX3 := Am (Kb BX3.out hb)
   replace HB := Am (below_then HB.out HB.out.size hb)
   clear hb hS0
   obtain ⟨A4_, c4_, rfl⟩ := Kd.R_slice X4.out
   obtain ⟨⟨K10, h10⟩, hF⟩ := HF.out
   clear HF
   have HF := Am hF
   clear hF
   have H10 := Am h10
   clear h10
   go_wp2_with fail
   (refine (spec_NewSums.calls K10 r10 w12 H10.out).mono ?_)
   rintro e w13 ⟨v0_, rfl, hS0, hb⟩
   have X5 : Ad (Kd.R (Kd.int .i64) 3 w13 w.heap.size (fun k => w12.heap.size ≤ k ∧ k < w13.heap.size) v0_ r10) := ⟨Kd.R_mono (Kd.R_lower (Kd.R_bound hS0) HB.out.size) (fun k hk => ⟨hk.2.1, hk.2.2.1⟩)⟩
   have Z13 : Ad (w12.heap.size ≤ w13.heap.size) := ⟨hb.size⟩
   replace X1 := Am (Kd.R_below X1.out hb)
   replace X2 := Am (Kd.R_below X2.out hb)
   replace X3 := Am (Kd.R_below X3.out hb)
   replace X4 := Am (Kd.R_below X4.out hb)
   replace BX1 := Am (Kb BX1.out hb)
   replace BX2 := Am (Kb BX2.out hb)
   replace BX3 := Am (Kb BX3.out hb)
   replace HB := Am (below_then HB.out HB.out.size hb)
   clear hb hS0
   obtain ⟨A5_, c5_, rfl⟩ := Kd.R_slice X5.out
   obtain ⟨⟨K11, h11⟩, hF⟩ := HF.out
   clear HF
   have HF := Am hF
   clear hF
   have H11 := Am h11
   clear h11
   go_wp2_with fail
   (refine (laws_sameInts.calls K11 A4_ c4_ r10 A5_ c5_ r10 true w13 (Kd.R_reads' X4.out).2.2 (Kd.R_reads' X4.out).2.1 (Kd.R_reads' X5.out).2.2 (Kd.R_reads' X5.out).2.1 H11.out).mono ?_)
   rintro e w14 ⟨rfl, hd⟩
   have hb := hd.below
   clear hd
   have Z14 : Ad (w13.heap.size ≤ w14.heap.size) := ⟨hb.size⟩
   replace X1 := Am (Kd.R_below X1.out hb)
   replace X2 := Am (Kd.R_below X2.out hb)
   replace X3 := Am (Kd.R_below X3.out hb)
   replace X4 := Am (Kd.R_below X4.out hb)
   replace X5 := Am (Kd.R_below X5.out hb)
   replace BX1 := Am (Kb BX1.out hb)
   replace BX2 := Am (Kb BX2.out hb)
   replace BX3 := Am (Kb BX3.out hb)
   replace HB := Am (below_then HB.out HB.out.size hb)
   clear hb
   obtain ⟨r11, r12, r13, r14, r15, r16, ⟨K12, h12⟩, hF⟩ := HF.out
   clear HF
   have HF := Am hF
   clear hF
   have H12 := Am h12
   clear h12
   go_wp2_with fail
   (refine (spec_DrawApplyCmd.calls K12 A1 c1 l1 r11 r12 r13 r14 r15 r16 w14 (Kd.C_below HR1.out HB.out) HC1.out H12.out).mono ?_)
   rintro e w15 ⟨v0_, rfl, hS0, hb⟩
   have X6 : Ad (Kd.R (Kd.int .i64) 3 w15 w.heap.size (fun k => w14.heap.size ≤ k ∧ k < w15.heap.size) v0_ r11) := ⟨Kd.R_mono (Kd.R_lower (Kd.R_bound hS0) HB.out.size) (fun k hk => ⟨hk.2.1, hk.2.2.1⟩)⟩
   have Z15 : Ad (w14.heap.size ≤ w15.heap.size) := ⟨hb.size⟩
   replace X1 := Am (Kd.R_below X1.out hb)
   replace X2 := Am (Kd.R_below X2.out hb)
   replace X3 := Am (Kd.R_below X3.out hb)
   replace X4 := Am (Kd.R_below X4.out hb)
   replace X5 := Am (Kd.R_below X5.out hb)
   replace BX1 := Am (Kb BX1.out hb)
   replace BX2 := Am (Kb BX2.out hb)
   replace BX3 := Am (Kb BX3.out hb)
   replace HB := Am (below_then HB.out HB.out.size hb)
   clear hb hS0
   obtain ⟨A6_, c6_, rfl⟩ := Kd.R_slice X6.out
   obtain ⟨r17, ⟨K13, h13⟩, hF⟩ := HF.out
   clear HF
   have HF := Am hF
   clear hF
   have H13 := Am h13
   clear h13
   go_upto_region 10 with (fail)
   refine letC (fun W_ => Below w15.heap.size w15 W_ ∧ W_.heap[w15.heap.size]? = some (.cells #[.int .i64 r12, .int .i64 r13, .int .i64 r14, .int .i64 r15, .int .i64 r16] 26 (0, 0))) ?_ ?_
   ·refine ⟨?_, ?_⟩
    ·repeat (first | exact Below.refl _ _ | apply Ba | refine Bs ?_ (by first | exact Nat.le_refl _ | omega | (simp; done)))
    ·exact blk_new w15 (.cells #[.int .i64 r12, .int .i64 r13, .int .i64 r14, .int .i64 r15, .int .i64 r16] 26)
   intro w16 hq_
   obtain ⟨hb, hx0_⟩ := hq_
   have Z16 : Ad (w15.heap.size ≤ w16.heap.size) := ⟨hb.size⟩
   replace X1 := Am (Kd.R_below X1.out hb)
   replace X2 := Am (Kd.R_below X2.out hb)
   replace X3 := Am (Kd.R_below X3.out hb)
   replace X4 := Am (Kd.R_below X4.out hb)
   replace X5 := Am (Kd.R_below X5.out hb)
   replace X6 := Am (Kd.R_below X6.out hb)
   replace BX1 := Am (Kb BX1.out hb)
   replace BX2 := Am (Kb BX2.out hb)
   replace BX3 := Am (Kb BX3.out hb)
   replace HB := Am (below_then HB.out HB.out.size hb)
   clear hb
   have BX4 : Ad (w16.heap[w15.heap.size]? = some (.cells #[.int .i64 r12, .int .i64 r13, .int .i64 r14, .int .i64 r15, .int .i64 r16] 26 (0, 0))) := ⟨hx0_⟩
   clear hx0_
   have GBX4 : Ad (w15.heap.size < w16.heap.size) := ⟨blk_lt BX4.out⟩
   go_wp2_with fail
   (refine (impl_TotalOf.calls K13 A1_ c1_ r1 r17 true w16 (Kd.R_reads' X1.out).2.2 (Kd.R_reads' X1.out).2.1 H13.out).mono ?_)
   rintro e w17 ⟨rfl, hb⟩
   have Z17 : Ad (w16.heap.size ≤ w17.heap.size) := ⟨hb.size⟩
   replace X1 := Am (Kd.R_below X1.out hb)
   replace X2 := Am (Kd.R_below X2.out hb)
   replace X3 := Am (Kd.R_below X3.out hb)
   replace X4 := Am (Kd.R_below X4.out hb)
   replace X5 := Am (Kd.R_below X5.out hb)
   replace X6 := Am (Kd.R_below X6.out hb)
   replace BX1 := Am (Kb BX1.out hb)
   replace BX2 := Am (Kb BX2.out hb)
   replace BX3 := Am (Kb BX3.out hb)
   replace BX4 := Am (Kb BX4.out hb)
   replace HB := Am (below_then HB.out HB.out.size hb)
   clear hb
   obtain ⟨⟨K14, h14⟩, hF⟩ := HF.out
   clear HF
   have HF := Am hF
   clear hF
   have H14 := Am h14
   clear h14
   go_wp2_with fail
   (refine (impl_TotalOf.calls K14 A2_ c2_ r7 r17 true w17 (Kd.R_reads' X2.out).2.2 (Kd.R_reads' X2.out).2.1 H14.out).mono ?_)
   rintro e w18 ⟨rfl, hb⟩
   have Z18 : Ad (w17.heap.size ≤ w18.heap.size) := ⟨hb.size⟩
   replace X1 := Am (Kd.R_below X1.out hb)
   replace X2 := Am (Kd.R_below X2.out hb)
   replace X3 := Am (Kd.R_below X3.out hb)
   replace X4 := Am (Kd.R_below X4.out hb)
   replace X5 := Am (Kd.R_below X5.out hb)
   replace X6 := Am (Kd.R_below X6.out hb)
   replace BX1 := Am (Kb BX1.out hb)
   replace BX2 := Am (Kb BX2.out hb)
   replace BX3 := Am (Kb BX3.out hb)
   replace BX4 := Am (Kb BX4.out hb)
   replace HB := Am (below_then HB.out HB.out.size hb)
   clear hb
   obtain ⟨⟨K15, h15⟩, hF⟩ := HF.out
   clear HF
   have HF := Am hF
   clear hF
   have H15 := Am h15
   clear h15
   go_wp2_with fail
   (refine (impl_GoodSums.calls K15 A2_ c2_ r7 true w18 (Kd.R_reads' X2.out).2.2 (Kd.R_reads' X2.out).2.1 H15.out).mono ?_)
   rintro e w19 ⟨rfl, hb⟩
   have Z19 : Ad (w18.heap.size ≤ w19.heap.size) := ⟨hb.size⟩
   replace X1 := Am (Kd.R_below X1.out hb)
   replace X2 := Am (Kd.R_below X2.out hb)
   replace X3 := Am (Kd.R_below X3.out hb)
   replace X4 := Am (Kd.R_below X4.out hb)
   replace X5 := Am (Kd.R_below X5.out hb)
   replace X6 := Am (Kd.R_below X6.out hb)
   replace BX1 := Am (Kb BX1.out hb)
   replace BX2 := Am (Kb BX2.out hb)
   replace BX3 := Am (Kb BX3.out hb)
   replace BX4 := Am (Kb BX4.out hb)
   replace HB := Am (below_then HB.out HB.out.size hb)
   clear hb
   rcases HF.out with hF | hF | hF
   ·clear HF
    have HF := Am hF
    clear hF
    obtain ⟨⟨K16, h16⟩, hF⟩ := HF.out
    clear HF
    have HF := Am hF
    clear hF
    have H16 := Am h16
    clear h16
    go_wp2_with (first | ((refine Gd (N := 52) rfl ?_); first | refine Kd.event_run rfl (load_run BX1.out 5 rfl 26 _ (by rfl) (by rfl) _ Try.underlying26 rfl (by kernel_rfl)) ?_ | refine Kd.event_run rfl (load_run BX4.out 5 rfl 26 _ (by rfl) (by rfl) _ Try.underlying26 rfl (by kernel_rfl)) ?_) | ((refine Gd (N := 59) rfl ?_); first | refine Kd.event_run rfl (load_run BX1.out 5 rfl 26 _ (by rfl) (by rfl) _ Try.underlying26 rfl (by kernel_rfl)) ?_ | refine Kd.event_run rfl (load_run BX4.out 5 rfl 26 _ (by rfl) (by rfl) _ Try.underlying26 rfl (by kernel_rfl)) ?_) | ((refine Gd (N := 124) rfl ?_); first | refine Kd.event_run rfl (load_run BX1.out 5 rfl 26 _ (by rfl) (by rfl) _ Try.underlying26 rfl (by kernel_rfl)) ?_ | refine Kd.event_run rfl (load_run BX4.out 5 rfl 26 _ (by rfl) (by rfl) _ Try.underlying26 rfl (by kernel_rfl)) ?_) | ((refine Gd (N := 125) rfl ?_); first | refine Kd.event_run rfl (load_run BX1.out 5 rfl 26 _ (by rfl) (by rfl) _ Try.underlying26 rfl (by kernel_rfl)) ?_ | refine Kd.event_run rfl (load_run BX4.out 5 rfl 26 _ (by rfl) (by rfl) _ Try.underlying26 rfl (by kernel_rfl)) ?_) | ((refine Gd (N := 136) rfl ?_); first | refine Kd.event_run rfl (load_run BX1.out 5 rfl 26 _ (by rfl) (by rfl) _ Try.underlying26 rfl (by kernel_rfl)) ?_ | refine Kd.event_run rfl (load_run BX4.out 5 rfl 26 _ (by rfl) (by rfl) _ Try.underlying26 rfl (by kernel_rfl)) ?_) | ((refine Gd (N := 143) rfl ?_); first | refine Kd.event_run rfl (load_run BX1.out 5 rfl 26 _ (by rfl) (by rfl) _ Try.underlying26 rfl (by kernel_rfl)) ?_ | refine Kd.event_run rfl (load_run BX4.out 5 rfl 26 _ (by rfl) (by rfl) _ Try.underlying26 rfl (by kernel_rfl)) ?_) | ((refine Gd (N := 150) rfl ?_); first | refine Kd.event_run rfl (load_run BX1.out 5 rfl 26 _ (by rfl) (by rfl) _ Try.underlying26 rfl (by kernel_rfl)) ?_ | refine Kd.event_run rfl (load_run BX4.out 5 rfl 26 _ (by rfl) (by rfl) _ Try.underlying26 rfl (by kernel_rfl)) ?_))
    (refine (impl_Interfere.calls K16 r2 r3 r4 r5 r6 r12 r13 r14 r15 r16 false true w19 H16.out).mono ?_)
    rintro e w20 ⟨rfl, hb⟩
    have Z20 : Ad (w19.heap.size ≤ w20.heap.size) := ⟨hb.size⟩
    replace X1 := Am (Kd.R_below X1.out hb)
    replace X2 := Am (Kd.R_below X2.out hb)
    replace X3 := Am (Kd.R_below X3.out hb)
    replace X4 := Am (Kd.R_below X4.out hb)
    replace X5 := Am (Kd.R_below X5.out hb)
    replace X6 := Am (Kd.R_below X6.out hb)
    replace BX1 := Am (Kb BX1.out hb)
    replace BX2 := Am (Kb BX2.out hb)
    replace BX3 := Am (Kb BX3.out hb)
    replace BX4 := Am (Kb BX4.out hb)
    replace HB := Am (below_then HB.out HB.out.size hb)
    clear hb
    obtain ⟨r18, r19, r20, ⟨K17, h17⟩, hF⟩ := HF.out
    clear HF
    have HF := Am hF
    clear hF
    have H17 := Am h17
    clear h17
    go_wp2_with (first | ((refine Gd (N := 52) rfl ?_); first | refine Kd.event_run rfl (load_run BX4.out 5 rfl 26 _ (by rfl) (by rfl) _ Try.underlying26 rfl (by kernel_rfl)) ?_) | ((refine Gd (N := 59) rfl ?_); first | refine Kd.event_run rfl (load_run BX4.out 5 rfl 26 _ (by rfl) (by rfl) _ Try.underlying26 rfl (by kernel_rfl)) ?_) | ((refine Gd (N := 124) rfl ?_); first | refine Kd.event_run rfl (load_run BX4.out 5 rfl 26 _ (by rfl) (by rfl) _ Try.underlying26 rfl (by kernel_rfl)) ?_) | ((refine Gd (N := 125) rfl ?_); first | refine Kd.event_run rfl (load_run BX4.out 5 rfl 26 _ (by rfl) (by rfl) _ Try.underlying26 rfl (by kernel_rfl)) ?_) | ((refine Gd (N := 136) rfl ?_); first | refine Kd.event_run rfl (load_run BX4.out 5 rfl 26 _ (by rfl) (by rfl) _ Try.underlying26 rfl (by kernel_rfl)) ?_) | ((refine Gd (N := 143) rfl ?_); first | refine Kd.event_run rfl (load_run BX4.out 5 rfl 26 _ (by rfl) (by rfl) _ Try.underlying26 rfl (by kernel_rfl)) ?_) | ((refine Gd (N := 150) rfl ?_); first | refine Kd.event_run rfl (load_run BX4.out 5 rfl 26 _ (by rfl) (by rfl) _ Try.underlying26 rfl (by kernel_rfl)) ?_))
    (refine (impl_ApplyCmd.calls K17 A2_ c2_ r7 r12 r13 r14 r15 r16 r18 r19 r20 true w20 (Kd.R_reads' X2.out).2.2 (Kd.R_reads' X2.out).2.1 H17.out).mono ?_)
    rintro e w21 ⟨v0_, rfl, hS0, hb⟩
    have X7 : Ad (Kd.R (Kd.int .i64) 3 w21 w.heap.size (fun k => w20.heap.size ≤ k ∧ k < w21.heap.size) v0_ r18) := ⟨Kd.R_mono (Kd.R_lower (Kd.R_bound hS0) HB.out.size) (fun k hk => ⟨hk.2.1, hk.2.2.1⟩)⟩
    have Z21 : Ad (w20.heap.size ≤ w21.heap.size) := ⟨hb.size⟩
    replace X1 := Am (Kd.R_below X1.out hb)
    replace X2 := Am (Kd.R_below X2.out hb)
    replace X3 := Am (Kd.R_below X3.out hb)
    replace X4 := Am (Kd.R_below X4.out hb)
    replace X5 := Am (Kd.R_below X5.out hb)
    replace X6 := Am (Kd.R_below X6.out hb)
    replace BX1 := Am (Kb BX1.out hb)
    replace BX2 := Am (Kb BX2.out hb)
    replace BX3 := Am (Kb BX3.out hb)
    replace BX4 := Am (Kb BX4.out hb)
    replace HB := Am (below_then HB.out HB.out.size hb)
    clear hb hS0
    obtain ⟨A7_, c7_, rfl⟩ := Kd.R_slice X7.out
    obtain ⟨r21, ⟨K18, h18⟩, hF⟩ := HF.out
    clear HF
    have HF := Am hF
    clear hF
    have H18 := Am h18
    clear h18
    go_upto_region 17 with (first | ((refine Gd (N := 52) rfl ?_); first | refine Kd.event_run rfl (load_run BX4.out 5 rfl 26 _ (by rfl) (by rfl) _ Try.underlying26 rfl (by kernel_rfl)) ?_) | ((refine Gd (N := 59) rfl ?_); first | refine Kd.event_run rfl (load_run BX4.out 5 rfl 26 _ (by rfl) (by rfl) _ Try.underlying26 rfl (by kernel_rfl)) ?_) | ((refine Gd (N := 124) rfl ?_); first | refine Kd.event_run rfl (load_run BX4.out 5 rfl 26 _ (by rfl) (by rfl) _ Try.underlying26 rfl (by kernel_rfl)) ?_) | ((refine Gd (N := 125) rfl ?_); first | refine Kd.event_run rfl (load_run BX4.out 5 rfl 26 _ (by rfl) (by rfl) _ Try.underlying26 rfl (by kernel_rfl)) ?_) | ((refine Gd (N := 136) rfl ?_); first | refine Kd.event_run rfl (load_run BX4.out 5 rfl 26 _ (by rfl) (by rfl) _ Try.underlying26 rfl (by kernel_rfl)) ?_) | ((refine Gd (N := 143) rfl ?_); first | refine Kd.event_run rfl (load_run BX4.out 5 rfl 26 _ (by rfl) (by rfl) _ Try.underlying26 rfl (by kernel_rfl)) ?_) | ((refine Gd (N := 150) rfl ?_); first | refine Kd.event_run rfl (load_run BX4.out 5 rfl 26 _ (by rfl) (by rfl) _ Try.underlying26 rfl (by kernel_rfl)) ?_))
    refine letC (fun W_ => Below w21.heap.size w21 W_ ∧ W_.heap[w21.heap.size]? = some (.cells #[.int .i64 r19, .int .i64 r20] 30 (0, 0))) ?_ ?_
    ·refine ⟨?_, ?_⟩
     ·repeat (first | exact Below.refl _ _ | apply Ba | refine Bs ?_ (by first | exact Nat.le_refl _ | omega | (simp; done)))
     ·exact blk_new w21 (.cells #[.int .i64 r19, .int .i64 r20] 30)
    intro w22 hq_
    obtain ⟨hb, hx0_⟩ := hq_
    have Z22 : Ad (w21.heap.size ≤ w22.heap.size) := ⟨hb.size⟩
    replace X1 := Am (Kd.R_below X1.out hb)
    replace X2 := Am (Kd.R_below X2.out hb)
    replace X3 := Am (Kd.R_below X3.out hb)
    replace X4 := Am (Kd.R_below X4.out hb)
    replace X5 := Am (Kd.R_below X5.out hb)
    replace X6 := Am (Kd.R_below X6.out hb)
    replace X7 := Am (Kd.R_below X7.out hb)
    replace BX1 := Am (Kb BX1.out hb)
    replace BX2 := Am (Kb BX2.out hb)
    replace BX3 := Am (Kb BX3.out hb)
    replace BX4 := Am (Kb BX4.out hb)
    replace HB := Am (below_then HB.out HB.out.size hb)
    clear hb
    have BX5 : Ad (w22.heap[w21.heap.size]? = some (.cells #[.int .i64 r19, .int .i64 r20] 30 (0, 0))) := ⟨hx0_⟩
    clear hx0_
    have GBX5 : Ad (w21.heap.size < w22.heap.size) := ⟨blk_lt BX5.out⟩
    go_wp2_with (first | ((refine Gd (N := 52) rfl ?_); first | refine Kd.event_run rfl (load_run BX4.out 5 rfl 26 _ (by rfl) (by rfl) _ Try.underlying26 rfl (by kernel_rfl)) ?_) | ((refine Gd (N := 59) rfl ?_); first | refine Kd.event_run rfl (load_run BX4.out 5 rfl 26 _ (by rfl) (by rfl) _ Try.underlying26 rfl (by kernel_rfl)) ?_) | ((refine Gd (N := 124) rfl ?_); first | refine Kd.event_run rfl (load_run BX4.out 5 rfl 26 _ (by rfl) (by rfl) _ Try.underlying26 rfl (by kernel_rfl)) ?_) | ((refine Gd (N := 125) rfl ?_); first | refine Kd.event_run rfl (load_run BX4.out 5 rfl 26 _ (by rfl) (by rfl) _ Try.underlying26 rfl (by kernel_rfl)) ?_) | ((refine Gd (N := 136) rfl ?_); first | refine Kd.event_run rfl (load_run BX4.out 5 rfl 26 _ (by rfl) (by rfl) _ Try.underlying26 rfl (by kernel_rfl)) ?_) | ((refine Gd (N := 143) rfl ?_); first | refine Kd.event_run rfl (load_run BX4.out 5 rfl 26 _ (by rfl) (by rfl) _ Try.underlying26 rfl (by kernel_rfl)) ?_) | ((refine Gd (N := 150) rfl ?_); first | refine Kd.event_run rfl (load_run BX4.out 5 rfl 26 _ (by rfl) (by rfl) _ Try.underlying26 rfl (by kernel_rfl)) ?_))
    (refine (impl_ApplyCmd.calls K18 A1_ c1_ r1 r12 r13 r14 r15 r16 r21 r19 r20 true w22 (Kd.R_reads' X1.out).2.2 (Kd.R_reads' X1.out).2.1 H18.out).mono ?_)
    rintro e w23 ⟨v0_, rfl, hS0, hb⟩
    have X8 : Ad (Kd.R (Kd.int .i64) 3 w23 w.heap.size (fun k => w22.heap.size ≤ k ∧ k < w23.heap.size) v0_ r21) := ⟨Kd.R_mono (Kd.R_lower (Kd.R_bound hS0) HB.out.size) (fun k hk => ⟨hk.2.1, hk.2.2.1⟩)⟩
    have Z23 : Ad (w22.heap.size ≤ w23.heap.size) := ⟨hb.size⟩
    replace X1 := Am (Kd.R_below X1.out hb)
    replace X2 := Am (Kd.R_below X2.out hb)
    replace X3 := Am (Kd.R_below X3.out hb)
    replace X4 := Am (Kd.R_below X4.out hb)
    replace X5 := Am (Kd.R_below X5.out hb)
    replace X6 := Am (Kd.R_below X6.out hb)
    replace X7 := Am (Kd.R_below X7.out hb)
    replace BX1 := Am (Kb BX1.out hb)
    replace BX2 := Am (Kb BX2.out hb)
    replace BX3 := Am (Kb BX3.out hb)
    replace BX4 := Am (Kb BX4.out hb)
    replace BX5 := Am (Kb BX5.out hb)
    replace HB := Am (below_then HB.out HB.out.size hb)
    clear hb hS0
    obtain ⟨A8_, c8_, rfl⟩ := Kd.R_slice X8.out
    obtain ⟨⟨K19, h19⟩, hF⟩ := HF.out
    clear HF
    have HF := Am hF
    clear hF
    have H19 := Am h19
    clear h19
    go_upto_region 18 with (first | ((refine Gd (N := 52) rfl ?_); first | refine Kd.event_run rfl (load_run BX1.out 5 rfl 26 _ (by rfl) (by rfl) _ Try.underlying26 rfl (by kernel_rfl)) ?_) | ((refine Gd (N := 59) rfl ?_); first | refine Kd.event_run rfl (load_run BX1.out 5 rfl 26 _ (by rfl) (by rfl) _ Try.underlying26 rfl (by kernel_rfl)) ?_) | ((refine Gd (N := 124) rfl ?_); first | refine Kd.event_run rfl (load_run BX1.out 5 rfl 26 _ (by rfl) (by rfl) _ Try.underlying26 rfl (by kernel_rfl)) ?_) | ((refine Gd (N := 125) rfl ?_); first | refine Kd.event_run rfl (load_run BX1.out 5 rfl 26 _ (by rfl) (by rfl) _ Try.underlying26 rfl (by kernel_rfl)) ?_) | ((refine Gd (N := 136) rfl ?_); first | refine Kd.event_run rfl (load_run BX1.out 5 rfl 26 _ (by rfl) (by rfl) _ Try.underlying26 rfl (by kernel_rfl)) ?_) | ((refine Gd (N := 143) rfl ?_); first | refine Kd.event_run rfl (load_run BX1.out 5 rfl 26 _ (by rfl) (by rfl) _ Try.underlying26 rfl (by kernel_rfl)) ?_) | ((refine Gd (N := 150) rfl ?_); first | refine Kd.event_run rfl (load_run BX1.out 5 rfl 26 _ (by rfl) (by rfl) _ Try.underlying26 rfl (by kernel_rfl)) ?_))
    refine letC (fun W_ => Below w23.heap.size w23 W_ ∧ W_.heap[w23.heap.size]? = some (.cells #[.int .i64 r19, .int .i64 r20] 30 (0, 0))) ?_ ?_
    ·refine ⟨?_, ?_⟩
     ·repeat (first | exact Below.refl _ _ | apply Ba | refine Bs ?_ (by first | exact Nat.le_refl _ | omega | (simp; done)))
     ·exact blk_new w23 (.cells #[.int .i64 r19, .int .i64 r20] 30)
    intro w24 hq_
    obtain ⟨hb, hx0_⟩ := hq_
    have Z24 : Ad (w23.heap.size ≤ w24.heap.size) := ⟨hb.size⟩
    replace X1 := Am (Kd.R_below X1.out hb)
    replace X2 := Am (Kd.R_below X2.out hb)
    replace X3 := Am (Kd.R_below X3.out hb)
    replace X4 := Am (Kd.R_below X4.out hb)
    replace X5 := Am (Kd.R_below X5.out hb)
    replace X6 := Am (Kd.R_below X6.out hb)
    replace X7 := Am (Kd.R_below X7.out hb)
    replace X8 := Am (Kd.R_below X8.out hb)
    replace BX1 := Am (Kb BX1.out hb)
    replace BX2 := Am (Kb BX2.out hb)
    replace BX3 := Am (Kb BX3.out hb)
    replace BX4 := Am (Kb BX4.out hb)
    replace BX5 := Am (Kb BX5.out hb)
    replace HB := Am (below_then HB.out HB.out.size hb)
    clear hb
    have BX6 : Ad (w24.heap[w23.heap.size]? = some (.cells #[.int .i64 r19, .int .i64 r20] 30 (0, 0))) := ⟨hx0_⟩
    clear hx0_
    have GBX6 : Ad (w23.heap.size < w24.heap.size) := ⟨blk_lt BX6.out⟩
    go_wp2_with (first | ((refine Gd (N := 52) rfl ?_); first | refine Kd.event_run rfl (load_run BX1.out 5 rfl 26 _ (by rfl) (by rfl) _ Try.underlying26 rfl (by kernel_rfl)) ?_) | ((refine Gd (N := 59) rfl ?_); first | refine Kd.event_run rfl (load_run BX1.out 5 rfl 26 _ (by rfl) (by rfl) _ Try.underlying26 rfl (by kernel_rfl)) ?_) | ((refine Gd (N := 124) rfl ?_); first | refine Kd.event_run rfl (load_run BX1.out 5 rfl 26 _ (by rfl) (by rfl) _ Try.underlying26 rfl (by kernel_rfl)) ?_) | ((refine Gd (N := 125) rfl ?_); first | refine Kd.event_run rfl (load_run BX1.out 5 rfl 26 _ (by rfl) (by rfl) _ Try.underlying26 rfl (by kernel_rfl)) ?_) | ((refine Gd (N := 136) rfl ?_); first | refine Kd.event_run rfl (load_run BX1.out 5 rfl 26 _ (by rfl) (by rfl) _ Try.underlying26 rfl (by kernel_rfl)) ?_) | ((refine Gd (N := 143) rfl ?_); first | refine Kd.event_run rfl (load_run BX1.out 5 rfl 26 _ (by rfl) (by rfl) _ Try.underlying26 rfl (by kernel_rfl)) ?_) | ((refine Gd (N := 150) rfl ?_); first | refine Kd.event_run rfl (load_run BX1.out 5 rfl 26 _ (by rfl) (by rfl) _ Try.underlying26 rfl (by kernel_rfl)) ?_))
    (refine (impl_ApplyCmd.calls K19 A8_ c8_ r21 r2 r3 r4 r5 r6 r18 r8 r9 true w24 (Kd.R_reads' X8.out).2.2 (Kd.R_reads' X8.out).2.1 H19.out).mono ?_)
    rintro e w25 ⟨v0_, rfl, hS0, hb⟩
    have X9 : Ad (Kd.R (Kd.int .i64) 3 w25 w.heap.size (fun k => w24.heap.size ≤ k ∧ k < w25.heap.size) v0_ r18) := ⟨Kd.R_mono (Kd.R_lower (Kd.R_bound hS0) HB.out.size) (fun k hk => ⟨hk.2.1, hk.2.2.1⟩)⟩
    have Z25 : Ad (w24.heap.size ≤ w25.heap.size) := ⟨hb.size⟩
    replace X1 := Am (Kd.R_below X1.out hb)
    replace X2 := Am (Kd.R_below X2.out hb)
    replace X3 := Am (Kd.R_below X3.out hb)
    replace X4 := Am (Kd.R_below X4.out hb)
    replace X5 := Am (Kd.R_below X5.out hb)
    replace X6 := Am (Kd.R_below X6.out hb)
    replace X7 := Am (Kd.R_below X7.out hb)
    replace X8 := Am (Kd.R_below X8.out hb)
    replace BX1 := Am (Kb BX1.out hb)
    replace BX2 := Am (Kb BX2.out hb)
    replace BX3 := Am (Kb BX3.out hb)
    replace BX4 := Am (Kb BX4.out hb)
    replace BX5 := Am (Kb BX5.out hb)
    replace BX6 := Am (Kb BX6.out hb)
    replace HB := Am (below_then HB.out HB.out.size hb)
    clear hb hS0
    obtain ⟨A9_, c9_, rfl⟩ := Kd.R_slice X9.out
    obtain ⟨⟨K20, h20⟩, hF⟩ := HF.out
    clear HF
    have HF := Am hF
    clear hF
    have H20 := Am h20
    clear h20
    go_upto_region 19 with (fail)
    refine letC (fun W_ => Below w25.heap.size w25 W_ ∧ W_.heap[w25.heap.size]? = some (.cells #[.int .i64 r8, .int .i64 r9] 30 (0, 0))) ?_ ?_
    ·refine ⟨?_, ?_⟩
     ·repeat (first | exact Below.refl _ _ | apply Ba | refine Bs ?_ (by first | exact Nat.le_refl _ | omega | (simp; done)))
     ·exact blk_new w25 (.cells #[.int .i64 r8, .int .i64 r9] 30)
    intro w26 hq_
    obtain ⟨hb, hx0_⟩ := hq_
    have Z26 : Ad (w25.heap.size ≤ w26.heap.size) := ⟨hb.size⟩
    replace X1 := Am (Kd.R_below X1.out hb)
    replace X2 := Am (Kd.R_below X2.out hb)
    replace X3 := Am (Kd.R_below X3.out hb)
    replace X4 := Am (Kd.R_below X4.out hb)
    replace X5 := Am (Kd.R_below X5.out hb)
    replace X6 := Am (Kd.R_below X6.out hb)
    replace X7 := Am (Kd.R_below X7.out hb)
    replace X8 := Am (Kd.R_below X8.out hb)
    replace X9 := Am (Kd.R_below X9.out hb)
    replace BX1 := Am (Kb BX1.out hb)
    replace BX2 := Am (Kb BX2.out hb)
    replace BX3 := Am (Kb BX3.out hb)
    replace BX4 := Am (Kb BX4.out hb)
    replace BX5 := Am (Kb BX5.out hb)
    replace BX6 := Am (Kb BX6.out hb)
    replace HB := Am (below_then HB.out HB.out.size hb)
    clear hb
    have BX7 : Ad (w26.heap[w25.heap.size]? = some (.cells #[.int .i64 r8, .int .i64 r9] 30 (0, 0))) := ⟨hx0_⟩
    clear hx0_
    have GBX7 : Ad (w25.heap.size < w26.heap.size) := ⟨blk_lt BX7.out⟩
    go_wp2_with fail
    (refine (laws_sameInts.calls K20 A7_ c7_ r18 A9_ c9_ r18 true w26 (Kd.R_reads' X7.out).2.2 (Kd.R_reads' X7.out).2.1 (Kd.R_reads' X9.out).2.2 (Kd.R_reads' X9.out).2.1 H20.out).mono ?_)
    rintro e w27 ⟨rfl, hd⟩
    have hb := hd.below
    clear hd
    have Z27 : Ad (w26.heap.size ≤ w27.heap.size) := ⟨hb.size⟩
    replace X1 := Am (Kd.R_below X1.out hb)
    replace X2 := Am (Kd.R_below X2.out hb)
    replace X3 := Am (Kd.R_below X3.out hb)
    replace X4 := Am (Kd.R_below X4.out hb)
    replace X5 := Am (Kd.R_below X5.out hb)
    replace X6 := Am (Kd.R_below X6.out hb)
    replace X7 := Am (Kd.R_below X7.out hb)
    replace X8 := Am (Kd.R_below X8.out hb)
    replace X9 := Am (Kd.R_below X9.out hb)
    replace BX1 := Am (Kb BX1.out hb)
    replace BX2 := Am (Kb BX2.out hb)
    replace BX3 := Am (Kb BX3.out hb)
    replace BX4 := Am (Kb BX4.out hb)
    replace BX5 := Am (Kb BX5.out hb)
    replace BX6 := Am (Kb BX6.out hb)
    replace BX7 := Am (Kb BX7.out hb)
    replace HB := Am (below_then HB.out HB.out.size hb)
    clear hb
    obtain ⟨r22, ⟨K21, h21⟩, hF⟩ := HF.out
    clear HF
    have HF := Am hF
    clear hF
    have H21 := Am h21
    clear h21
    have qBX2_0 : w27.cell? ⟨w5.heap.size, 0, none⟩ = some (.int .i64 r8) := (Kc BX2.out 0).trans rfl
    have qBX2_1 : w27.cell? ⟨w5.heap.size, 1, none⟩ = some (.int .i64 r9) := (Kc BX2.out 1).trans rfl
    have qBX5_0 : w27.cell? ⟨w21.heap.size, 0, none⟩ = some (.int .i64 r19) := (Kc BX5.out 0).trans rfl
    have qBX5_1 : w27.cell? ⟨w21.heap.size, 1, none⟩ = some (.int .i64 r20) := (Kc BX5.out 1).trans rfl
    have qBX6_0 : w27.cell? ⟨w23.heap.size, 0, none⟩ = some (.int .i64 r19) := (Kc BX6.out 0).trans rfl
    have qBX6_1 : w27.cell? ⟨w23.heap.size, 1, none⟩ = some (.int .i64 r20) := (Kc BX6.out 1).trans rfl
    have qBX7_0 : w27.cell? ⟨w25.heap.size, 0, none⟩ = some (.int .i64 r8) := (Kc BX7.out 0).trans rfl
    have qBX7_1 : w27.cell? ⟨w25.heap.size, 1, none⟩ = some (.int .i64 r9) := (Kc BX7.out 1).trans rfl
    go_wp2_with (first | ((refine Gd (N := 74) rfl ?_); first | refine Kd.event_run rfl (load_run BX2.out 2 rfl 30 _ (by rfl) (by rfl) _ Try.underlying30 rfl (by kernel_rfl)) ?_ | refine Kd.event_run rfl (load_run BX5.out 2 rfl 30 _ (by rfl) (by rfl) _ Try.underlying30 rfl (by kernel_rfl)) ?_ | refine Kd.event_run rfl (load_run BX6.out 2 rfl 30 _ (by rfl) (by rfl) _ Try.underlying30 rfl (by kernel_rfl)) ?_ | refine Kd.event_run rfl (load_run BX7.out 2 rfl 30 _ (by rfl) (by rfl) _ Try.underlying30 rfl (by kernel_rfl)) ?_) | ((refine Gd (N := 75) rfl ?_); first | refine Kd.event_run rfl (load_run BX2.out 2 rfl 30 _ (by rfl) (by rfl) _ Try.underlying30 rfl (by kernel_rfl)) ?_ | refine Kd.event_run rfl (load_run BX5.out 2 rfl 30 _ (by rfl) (by rfl) _ Try.underlying30 rfl (by kernel_rfl)) ?_ | refine Kd.event_run rfl (load_run BX6.out 2 rfl 30 _ (by rfl) (by rfl) _ Try.underlying30 rfl (by kernel_rfl)) ?_ | refine Kd.event_run rfl (load_run BX7.out 2 rfl 30 _ (by rfl) (by rfl) _ Try.underlying30 rfl (by kernel_rfl)) ?_) | ((refine Gd (N := 172) rfl ?_); first | refine Kd.event_run rfl (load_run BX2.out 2 rfl 30 _ (by rfl) (by rfl) _ Try.underlying30 rfl (by kernel_rfl)) ?_ | refine Kd.event_run rfl (load_run BX5.out 2 rfl 30 _ (by rfl) (by rfl) _ Try.underlying30 rfl (by kernel_rfl)) ?_ | refine Kd.event_run rfl (load_run BX6.out 2 rfl 30 _ (by rfl) (by rfl) _ Try.underlying30 rfl (by kernel_rfl)) ?_ | refine Kd.event_run rfl (load_run BX7.out 2 rfl 30 _ (by rfl) (by rfl) _ Try.underlying30 rfl (by kernel_rfl)) ?_) | ((refine Gd (N := 173) rfl ?_); first | refine Kd.event_run rfl (load_run BX2.out 2 rfl 30 _ (by rfl) (by rfl) _ Try.underlying30 rfl (by kernel_rfl)) ?_ | refine Kd.event_run rfl (load_run BX5.out 2 rfl 30 _ (by rfl) (by rfl) _ Try.underlying30 rfl (by kernel_rfl)) ?_ | refine Kd.event_run rfl (load_run BX6.out 2 rfl 30 _ (by rfl) (by rfl) _ Try.underlying30 rfl (by kernel_rfl)) ?_ | refine Kd.event_run rfl (load_run BX7.out 2 rfl 30 _ (by rfl) (by rfl) _ Try.underlying30 rfl (by kernel_rfl)) ?_) | ((refine Gd (N := 177) rfl ?_); first | refine Kd.event_run rfl (load_run BX2.out 2 rfl 30 _ (by rfl) (by rfl) _ Try.underlying30 rfl (by kernel_rfl)) ?_ | refine Kd.event_run rfl (load_run BX5.out 2 rfl 30 _ (by rfl) (by rfl) _ Try.underlying30 rfl (by kernel_rfl)) ?_ | refine Kd.event_run rfl (load_run BX6.out 2 rfl 30 _ (by rfl) (by rfl) _ Try.underlying30 rfl (by kernel_rfl)) ?_ | refine Kd.event_run rfl (load_run BX7.out 2 rfl 30 _ (by rfl) (by rfl) _ Try.underlying30 rfl (by kernel_rfl)) ?_) | ((refine Gd (N := 178) rfl ?_); first | refine Kd.event_run rfl (load_run BX2.out 2 rfl 30 _ (by rfl) (by rfl) _ Try.underlying30 rfl (by kernel_rfl)) ?_ | refine Kd.event_run rfl (load_run BX5.out 2 rfl 30 _ (by rfl) (by rfl) _ Try.underlying30 rfl (by kernel_rfl)) ?_ | refine Kd.event_run rfl (load_run BX6.out 2 rfl 30 _ (by rfl) (by rfl) _ Try.underlying30 rfl (by kernel_rfl)) ?_ | refine Kd.event_run rfl (load_run BX7.out 2 rfl 30 _ (by rfl) (by rfl) _ Try.underlying30 rfl (by kernel_rfl)) ?_))
    clear qBX2_0 qBX2_1 qBX5_0 qBX5_1 qBX6_0 qBX6_1 qBX7_0 qBX7_1
    (refine (spec_DrawPlayCmds.calls K21 A1 c1 l1 r22 w27 (Kd.C_below HR1.out HB.out) HC1.out H21.out).mono ?_)
    rintro e w28 ⟨v0_, rfl, hS0, hb⟩
    have X10 : Ad (Kd.R k26 26 w28 w.heap.size (fun k => w27.heap.size ≤ k ∧ k < w28.heap.size) v0_ r22) := ⟨Kd.R_mono (Kd.R_lower (Kd.R_bound hS0) HB.out.size) (fun k hk => ⟨hk.2.1, hk.2.2.1⟩)⟩
    have Z28 : Ad (w27.heap.size ≤ w28.heap.size) := ⟨hb.size⟩
    replace X1 := Am (Kd.R_below X1.out hb)
    replace X2 := Am (Kd.R_below X2.out hb)
    replace X3 := Am (Kd.R_below X3.out hb)
    replace X4 := Am (Kd.R_below X4.out hb)
    replace X5 := Am (Kd.R_below X5.out hb)
    replace X6 := Am (Kd.R_below X6.out hb)
    replace X7 := Am (Kd.R_below X7.out hb)
    replace X8 := Am (Kd.R_below X8.out hb)
    replace X9 := Am (Kd.R_below X9.out hb)
    replace BX1 := Am (Kb BX1.out hb)
    replace BX2 := Am (Kb BX2.out hb)
    replace BX3 := Am (Kb BX3.out hb)
    replace BX4 := Am (Kb BX4.out hb)
    replace BX5 := Am (Kb BX5.out hb)
    replace BX6 := Am (Kb BX6.out hb)
    replace BX7 := Am (Kb BX7.out hb)
    replace HB := Am (below_then HB.out HB.out.size hb)
    clear hb hS0
    obtain ⟨A10_, c10_, rfl⟩ := Kd.R_slice X10.out
    obtain ⟨r23, r24, r25, ⟨K22, h22⟩, hF⟩ := HF.out
    clear HF
    have HF := Am hF
    clear hF
    have H22 := Am h22
    clear h22
    go_wp2_with fail
    (refine (impl_PlayCmds.calls K22 A10_ c10_ r22 r23 r24 r25 w28 (Kd.R_reads' X10.out).2.2 (Kd.R_reads' X10.out).2.1 H22.out).mono ?_)
    rintro e w29 ⟨v0_, v1_, rfl, hS0, hS1, hb⟩
    have X11 : Ad (Kd.R (Kd.int .i64) 3 w29 w.heap.size (fun k => w28.heap.size ≤ k ∧ k < w29.heap.size) v0_ r23) := ⟨Kd.R_mono (Kd.R_lower (Kd.R_bound hS0) HB.out.size) (fun k hk => ⟨hk.2.1, hk.2.2.1⟩)⟩
    have X12 : Ad (Kd.R k30 30 w29 w.heap.size (fun k => w28.heap.size ≤ k ∧ k < w29.heap.size) v1_ r24) := ⟨Kd.R_mono (Kd.R_lower (Kd.R_bound hS1) HB.out.size) (fun k hk => ⟨hk.2.1, hk.2.2.1⟩)⟩
    have Z29 : Ad (w28.heap.size ≤ w29.heap.size) := ⟨hb.size⟩
    replace X1 := Am (Kd.R_below X1.out hb)
    replace X2 := Am (Kd.R_below X2.out hb)
    replace X3 := Am (Kd.R_below X3.out hb)
    replace X4 := Am (Kd.R_below X4.out hb)
    replace X5 := Am (Kd.R_below X5.out hb)
    replace X6 := Am (Kd.R_below X6.out hb)
    replace X7 := Am (Kd.R_below X7.out hb)
    replace X8 := Am (Kd.R_below X8.out hb)
    replace X9 := Am (Kd.R_below X9.out hb)
    replace X10 := Am (Kd.R_below X10.out hb)
    replace BX1 := Am (Kb BX1.out hb)
    replace BX2 := Am (Kb BX2.out hb)
    replace BX3 := Am (Kb BX3.out hb)
    replace BX4 := Am (Kb BX4.out hb)
    replace BX5 := Am (Kb BX5.out hb)
    replace BX6 := Am (Kb BX6.out hb)
    replace BX7 := Am (Kb BX7.out hb)
    replace HB := Am (below_then HB.out HB.out.size hb)
    clear hb hS0 hS1
    obtain ⟨A11_, c11_, rfl⟩ := Kd.R_slice X11.out
    obtain ⟨A12_, c12_, rfl⟩ := Kd.R_slice X12.out
    obtain ⟨⟨K23, h23⟩, hF⟩ := HF.out
    clear HF
    have HF := Am hF
    clear hF
    have H23 := Am h23
    clear h23
    go_wp2_with fail
    (refine (spec_PlayCmds.calls K23 A10_ c10_ r22 r23 r24 r25 w29 (Kd.R_reads' X10.out).2.2 (Kd.R_reads' X10.out).2.1 H23.out).mono ?_)
    rintro e w30 ⟨v0_, v1_, rfl, hS0, hS1, hb⟩
    have X13 : Ad (Kd.R (Kd.int .i64) 3 w30 w.heap.size (fun k => w29.heap.size ≤ k ∧ k < w30.heap.size) v0_ r23) := ⟨Kd.R_mono (Kd.R_lower (Kd.R_bound hS0) HB.out.size) (fun k hk => ⟨hk.2.1, hk.2.2.1⟩)⟩
    have X14 : Ad (Kd.R k30 30 w30 w.heap.size (fun k => w29.heap.size ≤ k ∧ k < w30.heap.size) v1_ r24) := ⟨Kd.R_mono (Kd.R_lower (Kd.R_bound hS1) HB.out.size) (fun k hk => ⟨hk.2.1, hk.2.2.1⟩)⟩
    have Z30 : Ad (w29.heap.size ≤ w30.heap.size) := ⟨hb.size⟩
    replace X1 := Am (Kd.R_below X1.out hb)
    replace X2 := Am (Kd.R_below X2.out hb)
    replace X3 := Am (Kd.R_below X3.out hb)
    replace X4 := Am (Kd.R_below X4.out hb)
    replace X5 := Am (Kd.R_below X5.out hb)
    replace X6 := Am (Kd.R_below X6.out hb)
    replace X7 := Am (Kd.R_below X7.out hb)
    replace X8 := Am (Kd.R_below X8.out hb)
    replace X9 := Am (Kd.R_below X9.out hb)
    replace X10 := Am (Kd.R_below X10.out hb)
    replace X11 := Am (Kd.R_below X11.out hb)
    replace X12 := Am (Kd.R_below X12.out hb)
    replace BX1 := Am (Kb BX1.out hb)
    replace BX2 := Am (Kb BX2.out hb)
    replace BX3 := Am (Kb BX3.out hb)
    replace BX4 := Am (Kb BX4.out hb)
    replace BX5 := Am (Kb BX5.out hb)
    replace BX6 := Am (Kb BX6.out hb)
    replace BX7 := Am (Kb BX7.out hb)
    replace HB := Am (below_then HB.out HB.out.size hb)
    clear hb hS0 hS1
    obtain ⟨A13_, c13_, rfl⟩ := Kd.R_slice X13.out
    obtain ⟨A14_, c14_, rfl⟩ := Kd.R_slice X14.out
    obtain ⟨r26, ⟨K24, h24⟩, hF⟩ := HF.out
    clear HF
    have HF := Am hF
    clear hF
    have H24 := Am h24
    clear h24
    go_wp2_with fail
    (refine (spec_DrawTotalOf.calls K24 A1 c1 l1 r26 w30 (Kd.C_below HR1.out HB.out) HC1.out H24.out).mono ?_)
    rintro e w31 ⟨v0_, rfl, hS0, hb⟩
    have X15 : Ad (Kd.R (Kd.int .i64) 3 w31 w.heap.size (fun k => w30.heap.size ≤ k ∧ k < w31.heap.size) v0_ r26) := ⟨Kd.R_mono (Kd.R_lower (Kd.R_bound hS0) HB.out.size) (fun k hk => ⟨hk.2.1, hk.2.2.1⟩)⟩
    have Z31 : Ad (w30.heap.size ≤ w31.heap.size) := ⟨hb.size⟩
    replace X1 := Am (Kd.R_below X1.out hb)
    replace X2 := Am (Kd.R_below X2.out hb)
    replace X3 := Am (Kd.R_below X3.out hb)
    replace X4 := Am (Kd.R_below X4.out hb)
    replace X5 := Am (Kd.R_below X5.out hb)
    replace X6 := Am (Kd.R_below X6.out hb)
    replace X7 := Am (Kd.R_below X7.out hb)
    replace X8 := Am (Kd.R_below X8.out hb)
    replace X9 := Am (Kd.R_below X9.out hb)
    replace X10 := Am (Kd.R_below X10.out hb)
    replace X11 := Am (Kd.R_below X11.out hb)
    replace X12 := Am (Kd.R_below X12.out hb)
    replace X13 := Am (Kd.R_below X13.out hb)
    replace X14 := Am (Kd.R_below X14.out hb)
    replace BX1 := Am (Kb BX1.out hb)
    replace BX2 := Am (Kb BX2.out hb)
    replace BX3 := Am (Kb BX3.out hb)
    replace BX4 := Am (Kb BX4.out hb)
    replace BX5 := Am (Kb BX5.out hb)
    replace BX6 := Am (Kb BX6.out hb)
    replace BX7 := Am (Kb BX7.out hb)
    replace HB := Am (below_then HB.out HB.out.size hb)
    clear hb hS0
    obtain ⟨A15_, c15_, rfl⟩ := Kd.R_slice X15.out
    obtain ⟨r27, r28, ⟨K25, h25⟩, hF⟩ := HF.out
    clear HF
    have HF := Am hF
    clear hF
    have H25 := Am h25
    clear h25
    go_wp2_with fail
    (refine (impl_TotalOf.calls K25 A15_ c15_ r26 r27 r28 w31 (Kd.R_reads' X15.out).2.2 (Kd.R_reads' X15.out).2.1 H25.out).mono ?_)
    rintro e w32 ⟨rfl, hb⟩
    have Z32 : Ad (w31.heap.size ≤ w32.heap.size) := ⟨hb.size⟩
    replace X1 := Am (Kd.R_below X1.out hb)
    replace X2 := Am (Kd.R_below X2.out hb)
    replace X3 := Am (Kd.R_below X3.out hb)
    replace X4 := Am (Kd.R_below X4.out hb)
    replace X5 := Am (Kd.R_below X5.out hb)
    replace X6 := Am (Kd.R_below X6.out hb)
    replace X7 := Am (Kd.R_below X7.out hb)
    replace X8 := Am (Kd.R_below X8.out hb)
    replace X9 := Am (Kd.R_below X9.out hb)
    replace X10 := Am (Kd.R_below X10.out hb)
    replace X11 := Am (Kd.R_below X11.out hb)
    replace X12 := Am (Kd.R_below X12.out hb)
    replace X13 := Am (Kd.R_below X13.out hb)
    replace X14 := Am (Kd.R_below X14.out hb)
    replace X15 := Am (Kd.R_below X15.out hb)
    replace BX1 := Am (Kb BX1.out hb)
    replace BX2 := Am (Kb BX2.out hb)
    replace BX3 := Am (Kb BX3.out hb)
    replace BX4 := Am (Kb BX4.out hb)
    replace BX5 := Am (Kb BX5.out hb)
    replace BX6 := Am (Kb BX6.out hb)
    replace BX7 := Am (Kb BX7.out hb)
    replace HB := Am (below_then HB.out HB.out.size hb)
    clear hb
    obtain ⟨⟨K26, h26⟩, hF⟩ := HF.out
    clear HF
    have HF := Am hF
    clear hF
    have H26 := Am h26
    clear h26
    go_wp2_with fail
    (refine (spec_TotalOf.calls K26 A15_ c15_ r26 r27 r28 w32 (Kd.R_reads' X15.out).2.2 (Kd.R_reads' X15.out).2.1 H26.out).mono ?_)
    rintro e w33 ⟨rfl, hd⟩
    have hb := hd.below
    clear hd
    have Z33 : Ad (w32.heap.size ≤ w33.heap.size) := ⟨hb.size⟩
    replace X1 := Am (Kd.R_below X1.out hb)
    replace X2 := Am (Kd.R_below X2.out hb)
    replace X3 := Am (Kd.R_below X3.out hb)
    replace X4 := Am (Kd.R_below X4.out hb)
    replace X5 := Am (Kd.R_below X5.out hb)
    replace X6 := Am (Kd.R_below X6.out hb)
    replace X7 := Am (Kd.R_below X7.out hb)
    replace X8 := Am (Kd.R_below X8.out hb)
    replace X9 := Am (Kd.R_below X9.out hb)
    replace X10 := Am (Kd.R_below X10.out hb)
    replace X11 := Am (Kd.R_below X11.out hb)
    replace X12 := Am (Kd.R_below X12.out hb)
    replace X13 := Am (Kd.R_below X13.out hb)
    replace X14 := Am (Kd.R_below X14.out hb)
    replace X15 := Am (Kd.R_below X15.out hb)
    replace BX1 := Am (Kb BX1.out hb)
    replace BX2 := Am (Kb BX2.out hb)
    replace BX3 := Am (Kb BX3.out hb)
    replace BX4 := Am (Kb BX4.out hb)
    replace BX5 := Am (Kb BX5.out hb)
    replace BX6 := Am (Kb BX6.out hb)
    replace BX7 := Am (Kb BX7.out hb)
    replace HB := Am (below_then HB.out HB.out.size hb)
    clear hb
    obtain ⟨⟨K27, h27⟩, hF⟩ := HF.out
    clear HF
    have HF := Am hF
    clear hF
    have H27 := Am h27
    clear h27
    go_wp2_with fail
    (refine (laws_sameInts.calls K27 A11_ c11_ r23 A13_ c13_ r23 true w33 (Kd.R_reads' X11.out).2.2 (Kd.R_reads' X11.out).2.1 (Kd.R_reads' X13.out).2.2 (Kd.R_reads' X13.out).2.1 H27.out).mono ?_)
    rintro e w34 ⟨rfl, hd⟩
    have hb := hd.below
    clear hd
    have Z34 : Ad (w33.heap.size ≤ w34.heap.size) := ⟨hb.size⟩
    replace X1 := Am (Kd.R_below X1.out hb)
    replace X2 := Am (Kd.R_below X2.out hb)
    replace X3 := Am (Kd.R_below X3.out hb)
    replace X4 := Am (Kd.R_below X4.out hb)
    replace X5 := Am (Kd.R_below X5.out hb)
    replace X6 := Am (Kd.R_below X6.out hb)
    replace X7 := Am (Kd.R_below X7.out hb)
    replace X8 := Am (Kd.R_below X8.out hb)
    replace X9 := Am (Kd.R_below X9.out hb)
    replace X10 := Am (Kd.R_below X10.out hb)
    replace X11 := Am (Kd.R_below X11.out hb)
    replace X12 := Am (Kd.R_below X12.out hb)
    replace X13 := Am (Kd.R_below X13.out hb)
    replace X14 := Am (Kd.R_below X14.out hb)
    replace X15 := Am (Kd.R_below X15.out hb)
    replace BX1 := Am (Kb BX1.out hb)
    replace BX2 := Am (Kb BX2.out hb)
    replace BX3 := Am (Kb BX3.out hb)
    replace BX4 := Am (Kb BX4.out hb)
    replace BX5 := Am (Kb BX5.out hb)
    replace BX6 := Am (Kb BX6.out hb)
    replace BX7 := Am (Kb BX7.out hb)
    replace HB := Am (below_then HB.out HB.out.size hb)
    clear hb
    obtain ⟨⟨K28, h28⟩, hF⟩ := HF.out
    clear HF
    have HF := Am hF
    clear hF
    have H28 := Am h28
    clear h28
    go_wp2_with fail
    (refine (laws_sameTolds.calls K28 A12_ c12_ r24 A14_ c14_ r24 true w34 (Kd.R_reads' X12.out).2.2 (Kd.R_reads' X12.out).2.1 (Kd.R_reads' X14.out).2.2 (Kd.R_reads' X14.out).2.1 H28.out).mono ?_)
    rintro e w35 ⟨rfl, hd⟩
    have hb := hd.below
    clear hd
    have Z35 : Ad (w34.heap.size ≤ w35.heap.size) := ⟨hb.size⟩
    replace X1 := Am (Kd.R_below X1.out hb)
    replace X2 := Am (Kd.R_below X2.out hb)
    replace X3 := Am (Kd.R_below X3.out hb)
    replace X4 := Am (Kd.R_below X4.out hb)
    replace X5 := Am (Kd.R_below X5.out hb)
    replace X6 := Am (Kd.R_below X6.out hb)
    replace X7 := Am (Kd.R_below X7.out hb)
    replace X8 := Am (Kd.R_below X8.out hb)
    replace X9 := Am (Kd.R_below X9.out hb)
    replace X10 := Am (Kd.R_below X10.out hb)
    replace X11 := Am (Kd.R_below X11.out hb)
    replace X12 := Am (Kd.R_below X12.out hb)
    replace X13 := Am (Kd.R_below X13.out hb)
    replace X14 := Am (Kd.R_below X14.out hb)
    replace X15 := Am (Kd.R_below X15.out hb)
    replace BX1 := Am (Kb BX1.out hb)
    replace BX2 := Am (Kb BX2.out hb)
    replace BX3 := Am (Kb BX3.out hb)
    replace BX4 := Am (Kb BX4.out hb)
    replace BX5 := Am (Kb BX5.out hb)
    replace BX6 := Am (Kb BX6.out hb)
    replace BX7 := Am (Kb BX7.out hb)
    replace HB := Am (below_then HB.out HB.out.size hb)
    clear hb
    go_wp2
    go_ret
    exact ⟨rfl, HB.out⟩
   ·clear HF
    have HF := Am hF
    clear hF
    obtain ⟨⟨K29, h29⟩, hF⟩ := HF.out
    clear HF
    have HF := Am hF
    clear hF
    have H29 := Am h29
    clear h29
    go_wp2_with (first | ((refine Gd (N := 52) rfl ?_); first | refine Kd.event_run rfl (load_run BX1.out 5 rfl 26 _ (by rfl) (by rfl) _ Try.underlying26 rfl (by kernel_rfl)) ?_ | refine Kd.event_run rfl (load_run BX4.out 5 rfl 26 _ (by rfl) (by rfl) _ Try.underlying26 rfl (by kernel_rfl)) ?_) | ((refine Gd (N := 59) rfl ?_); first | refine Kd.event_run rfl (load_run BX1.out 5 rfl 26 _ (by rfl) (by rfl) _ Try.underlying26 rfl (by kernel_rfl)) ?_ | refine Kd.event_run rfl (load_run BX4.out 5 rfl 26 _ (by rfl) (by rfl) _ Try.underlying26 rfl (by kernel_rfl)) ?_) | ((refine Gd (N := 124) rfl ?_); first | refine Kd.event_run rfl (load_run BX1.out 5 rfl 26 _ (by rfl) (by rfl) _ Try.underlying26 rfl (by kernel_rfl)) ?_ | refine Kd.event_run rfl (load_run BX4.out 5 rfl 26 _ (by rfl) (by rfl) _ Try.underlying26 rfl (by kernel_rfl)) ?_) | ((refine Gd (N := 125) rfl ?_); first | refine Kd.event_run rfl (load_run BX1.out 5 rfl 26 _ (by rfl) (by rfl) _ Try.underlying26 rfl (by kernel_rfl)) ?_ | refine Kd.event_run rfl (load_run BX4.out 5 rfl 26 _ (by rfl) (by rfl) _ Try.underlying26 rfl (by kernel_rfl)) ?_) | ((refine Gd (N := 136) rfl ?_); first | refine Kd.event_run rfl (load_run BX1.out 5 rfl 26 _ (by rfl) (by rfl) _ Try.underlying26 rfl (by kernel_rfl)) ?_ | refine Kd.event_run rfl (load_run BX4.out 5 rfl 26 _ (by rfl) (by rfl) _ Try.underlying26 rfl (by kernel_rfl)) ?_) | ((refine Gd (N := 143) rfl ?_); first | refine Kd.event_run rfl (load_run BX1.out 5 rfl 26 _ (by rfl) (by rfl) _ Try.underlying26 rfl (by kernel_rfl)) ?_ | refine Kd.event_run rfl (load_run BX4.out 5 rfl 26 _ (by rfl) (by rfl) _ Try.underlying26 rfl (by kernel_rfl)) ?_) | ((refine Gd (N := 150) rfl ?_); first | refine Kd.event_run rfl (load_run BX1.out 5 rfl 26 _ (by rfl) (by rfl) _ Try.underlying26 rfl (by kernel_rfl)) ?_ | refine Kd.event_run rfl (load_run BX4.out 5 rfl 26 _ (by rfl) (by rfl) _ Try.underlying26 rfl (by kernel_rfl)) ?_))
    (refine (impl_Interfere.calls K29 r2 r3 r4 r5 r6 r12 r13 r14 r15 r16 true true w19 H29.out).mono ?_)
    rintro e w36 ⟨rfl, hb⟩
    have Z36 : Ad (w19.heap.size ≤ w36.heap.size) := ⟨hb.size⟩
    replace X1 := Am (Kd.R_below X1.out hb)
    replace X2 := Am (Kd.R_below X2.out hb)
    replace X3 := Am (Kd.R_below X3.out hb)
    replace X4 := Am (Kd.R_below X4.out hb)
    replace X5 := Am (Kd.R_below X5.out hb)
    replace X6 := Am (Kd.R_below X6.out hb)
    replace BX1 := Am (Kb BX1.out hb)
    replace BX2 := Am (Kb BX2.out hb)
    replace BX3 := Am (Kb BX3.out hb)
    replace BX4 := Am (Kb BX4.out hb)
    replace HB := Am (below_then HB.out HB.out.size hb)
    clear hb
    obtain ⟨r29, ⟨K30, h30⟩, hF⟩ := HF.out
    clear HF
    have HF := Am hF
    clear hF
    have H30 := Am h30
    clear h30
    go_wp2_with fail
    (refine (spec_DrawPlayCmds.calls K30 A1 c1 l1 r29 w36 (Kd.C_below HR1.out HB.out) HC1.out H30.out).mono ?_)
    rintro e w37 ⟨v0_, rfl, hS0, hb⟩
    have X16 : Ad (Kd.R k26 26 w37 w.heap.size (fun k => w36.heap.size ≤ k ∧ k < w37.heap.size) v0_ r29) := ⟨Kd.R_mono (Kd.R_lower (Kd.R_bound hS0) HB.out.size) (fun k hk => ⟨hk.2.1, hk.2.2.1⟩)⟩
    have Z37 : Ad (w36.heap.size ≤ w37.heap.size) := ⟨hb.size⟩
    replace X1 := Am (Kd.R_below X1.out hb)
    replace X2 := Am (Kd.R_below X2.out hb)
    replace X3 := Am (Kd.R_below X3.out hb)
    replace X4 := Am (Kd.R_below X4.out hb)
    replace X5 := Am (Kd.R_below X5.out hb)
    replace X6 := Am (Kd.R_below X6.out hb)
    replace BX1 := Am (Kb BX1.out hb)
    replace BX2 := Am (Kb BX2.out hb)
    replace BX3 := Am (Kb BX3.out hb)
    replace BX4 := Am (Kb BX4.out hb)
    replace HB := Am (below_then HB.out HB.out.size hb)
    clear hb hS0
    obtain ⟨A16_, c16_, rfl⟩ := Kd.R_slice X16.out
    obtain ⟨r30, r31, r32, ⟨K31, h31⟩, hF⟩ := HF.out
    clear HF
    have HF := Am hF
    clear hF
    have H31 := Am h31
    clear h31
    go_wp2_with fail
    (refine (impl_PlayCmds.calls K31 A16_ c16_ r29 r30 r31 r32 w37 (Kd.R_reads' X16.out).2.2 (Kd.R_reads' X16.out).2.1 H31.out).mono ?_)
    rintro e w38 ⟨v0_, v1_, rfl, hS0, hS1, hb⟩
    have X17 : Ad (Kd.R (Kd.int .i64) 3 w38 w.heap.size (fun k => w37.heap.size ≤ k ∧ k < w38.heap.size) v0_ r30) := ⟨Kd.R_mono (Kd.R_lower (Kd.R_bound hS0) HB.out.size) (fun k hk => ⟨hk.2.1, hk.2.2.1⟩)⟩
    have X18 : Ad (Kd.R k30 30 w38 w.heap.size (fun k => w37.heap.size ≤ k ∧ k < w38.heap.size) v1_ r31) := ⟨Kd.R_mono (Kd.R_lower (Kd.R_bound hS1) HB.out.size) (fun k hk => ⟨hk.2.1, hk.2.2.1⟩)⟩
    have Z38 : Ad (w37.heap.size ≤ w38.heap.size) := ⟨hb.size⟩
    replace X1 := Am (Kd.R_below X1.out hb)
    replace X2 := Am (Kd.R_below X2.out hb)
    replace X3 := Am (Kd.R_below X3.out hb)
    replace X4 := Am (Kd.R_below X4.out hb)
    replace X5 := Am (Kd.R_below X5.out hb)
    replace X6 := Am (Kd.R_below X6.out hb)
    replace X16 := Am (Kd.R_below X16.out hb)
    replace BX1 := Am (Kb BX1.out hb)
    replace BX2 := Am (Kb BX2.out hb)
    replace BX3 := Am (Kb BX3.out hb)
    replace BX4 := Am (Kb BX4.out hb)
    replace HB := Am (below_then HB.out HB.out.size hb)
    clear hb hS0 hS1
    obtain ⟨A17_, c17_, rfl⟩ := Kd.R_slice X17.out
    obtain ⟨A18_, c18_, rfl⟩ := Kd.R_slice X18.out
    obtain ⟨⟨K32, h32⟩, hF⟩ := HF.out
    clear HF
    have HF := Am hF
    clear hF
    have H32 := Am h32
    clear h32
    go_wp2_with fail
    (refine (spec_PlayCmds.calls K32 A16_ c16_ r29 r30 r31 r32 w38 (Kd.R_reads' X16.out).2.2 (Kd.R_reads' X16.out).2.1 H32.out).mono ?_)
    rintro e w39 ⟨v0_, v1_, rfl, hS0, hS1, hb⟩
    have X19 : Ad (Kd.R (Kd.int .i64) 3 w39 w.heap.size (fun k => w38.heap.size ≤ k ∧ k < w39.heap.size) v0_ r30) := ⟨Kd.R_mono (Kd.R_lower (Kd.R_bound hS0) HB.out.size) (fun k hk => ⟨hk.2.1, hk.2.2.1⟩)⟩
    have X20 : Ad (Kd.R k30 30 w39 w.heap.size (fun k => w38.heap.size ≤ k ∧ k < w39.heap.size) v1_ r31) := ⟨Kd.R_mono (Kd.R_lower (Kd.R_bound hS1) HB.out.size) (fun k hk => ⟨hk.2.1, hk.2.2.1⟩)⟩
    have Z39 : Ad (w38.heap.size ≤ w39.heap.size) := ⟨hb.size⟩
    replace X1 := Am (Kd.R_below X1.out hb)
    replace X2 := Am (Kd.R_below X2.out hb)
    replace X3 := Am (Kd.R_below X3.out hb)
    replace X4 := Am (Kd.R_below X4.out hb)
    replace X5 := Am (Kd.R_below X5.out hb)
    replace X6 := Am (Kd.R_below X6.out hb)
    replace X16 := Am (Kd.R_below X16.out hb)
    replace X17 := Am (Kd.R_below X17.out hb)
    replace X18 := Am (Kd.R_below X18.out hb)
    replace BX1 := Am (Kb BX1.out hb)
    replace BX2 := Am (Kb BX2.out hb)
    replace BX3 := Am (Kb BX3.out hb)
    replace BX4 := Am (Kb BX4.out hb)
    replace HB := Am (below_then HB.out HB.out.size hb)
    clear hb hS0 hS1
    obtain ⟨A19_, c19_, rfl⟩ := Kd.R_slice X19.out
    obtain ⟨A20_, c20_, rfl⟩ := Kd.R_slice X20.out
    obtain ⟨r33, ⟨K33, h33⟩, hF⟩ := HF.out
    clear HF
    have HF := Am hF
    clear hF
    have H33 := Am h33
    clear h33
    go_wp2_with fail
    (refine (spec_DrawTotalOf.calls K33 A1 c1 l1 r33 w39 (Kd.C_below HR1.out HB.out) HC1.out H33.out).mono ?_)
    rintro e w40 ⟨v0_, rfl, hS0, hb⟩
    have X21 : Ad (Kd.R (Kd.int .i64) 3 w40 w.heap.size (fun k => w39.heap.size ≤ k ∧ k < w40.heap.size) v0_ r33) := ⟨Kd.R_mono (Kd.R_lower (Kd.R_bound hS0) HB.out.size) (fun k hk => ⟨hk.2.1, hk.2.2.1⟩)⟩
    have Z40 : Ad (w39.heap.size ≤ w40.heap.size) := ⟨hb.size⟩
    replace X1 := Am (Kd.R_below X1.out hb)
    replace X2 := Am (Kd.R_below X2.out hb)
    replace X3 := Am (Kd.R_below X3.out hb)
    replace X4 := Am (Kd.R_below X4.out hb)
    replace X5 := Am (Kd.R_below X5.out hb)
    replace X6 := Am (Kd.R_below X6.out hb)
    replace X16 := Am (Kd.R_below X16.out hb)
    replace X17 := Am (Kd.R_below X17.out hb)
    replace X18 := Am (Kd.R_below X18.out hb)
    replace X19 := Am (Kd.R_below X19.out hb)
    replace X20 := Am (Kd.R_below X20.out hb)
    replace BX1 := Am (Kb BX1.out hb)
    replace BX2 := Am (Kb BX2.out hb)
    replace BX3 := Am (Kb BX3.out hb)
    replace BX4 := Am (Kb BX4.out hb)
    replace HB := Am (below_then HB.out HB.out.size hb)
    clear hb hS0
    obtain ⟨A21_, c21_, rfl⟩ := Kd.R_slice X21.out
    obtain ⟨r34, r35, ⟨K34, h34⟩, hF⟩ := HF.out
    clear HF
    have HF := Am hF
    clear hF
    have H34 := Am h34
    clear h34
    go_wp2_with fail
    (refine (impl_TotalOf.calls K34 A21_ c21_ r33 r34 r35 w40 (Kd.R_reads' X21.out).2.2 (Kd.R_reads' X21.out).2.1 H34.out).mono ?_)
    rintro e w41 ⟨rfl, hb⟩
    have Z41 : Ad (w40.heap.size ≤ w41.heap.size) := ⟨hb.size⟩
    replace X1 := Am (Kd.R_below X1.out hb)
    replace X2 := Am (Kd.R_below X2.out hb)
    replace X3 := Am (Kd.R_below X3.out hb)
    replace X4 := Am (Kd.R_below X4.out hb)
    replace X5 := Am (Kd.R_below X5.out hb)
    replace X6 := Am (Kd.R_below X6.out hb)
    replace X16 := Am (Kd.R_below X16.out hb)
    replace X17 := Am (Kd.R_below X17.out hb)
    replace X18 := Am (Kd.R_below X18.out hb)
    replace X19 := Am (Kd.R_below X19.out hb)
    replace X20 := Am (Kd.R_below X20.out hb)
    replace X21 := Am (Kd.R_below X21.out hb)
    replace BX1 := Am (Kb BX1.out hb)
    replace BX2 := Am (Kb BX2.out hb)
    replace BX3 := Am (Kb BX3.out hb)
    replace BX4 := Am (Kb BX4.out hb)
    replace HB := Am (below_then HB.out HB.out.size hb)
    clear hb
    obtain ⟨⟨K35, h35⟩, hF⟩ := HF.out
    clear HF
    have HF := Am hF
    clear hF
    have H35 := Am h35
    clear h35
    go_wp2_with fail
    (refine (spec_TotalOf.calls K35 A21_ c21_ r33 r34 r35 w41 (Kd.R_reads' X21.out).2.2 (Kd.R_reads' X21.out).2.1 H35.out).mono ?_)
    rintro e w42 ⟨rfl, hd⟩
    have hb := hd.below
    clear hd
    have Z42 : Ad (w41.heap.size ≤ w42.heap.size) := ⟨hb.size⟩
    replace X1 := Am (Kd.R_below X1.out hb)
    replace X2 := Am (Kd.R_below X2.out hb)
    replace X3 := Am (Kd.R_below X3.out hb)
    replace X4 := Am (Kd.R_below X4.out hb)
    replace X5 := Am (Kd.R_below X5.out hb)
    replace X6 := Am (Kd.R_below X6.out hb)
    replace X16 := Am (Kd.R_below X16.out hb)
    replace X17 := Am (Kd.R_below X17.out hb)
    replace X18 := Am (Kd.R_below X18.out hb)
    replace X19 := Am (Kd.R_below X19.out hb)
    replace X20 := Am (Kd.R_below X20.out hb)
    replace X21 := Am (Kd.R_below X21.out hb)
    replace BX1 := Am (Kb BX1.out hb)
    replace BX2 := Am (Kb BX2.out hb)
    replace BX3 := Am (Kb BX3.out hb)
    replace BX4 := Am (Kb BX4.out hb)
    replace HB := Am (below_then HB.out HB.out.size hb)
    clear hb
    obtain ⟨⟨K36, h36⟩, hF⟩ := HF.out
    clear HF
    have HF := Am hF
    clear hF
    have H36 := Am h36
    clear h36
    go_wp2_with fail
    (refine (laws_sameInts.calls K36 A17_ c17_ r30 A19_ c19_ r30 true w42 (Kd.R_reads' X17.out).2.2 (Kd.R_reads' X17.out).2.1 (Kd.R_reads' X19.out).2.2 (Kd.R_reads' X19.out).2.1 H36.out).mono ?_)
    rintro e w43 ⟨rfl, hd⟩
    have hb := hd.below
    clear hd
    have Z43 : Ad (w42.heap.size ≤ w43.heap.size) := ⟨hb.size⟩
    replace X1 := Am (Kd.R_below X1.out hb)
    replace X2 := Am (Kd.R_below X2.out hb)
    replace X3 := Am (Kd.R_below X3.out hb)
    replace X4 := Am (Kd.R_below X4.out hb)
    replace X5 := Am (Kd.R_below X5.out hb)
    replace X6 := Am (Kd.R_below X6.out hb)
    replace X16 := Am (Kd.R_below X16.out hb)
    replace X17 := Am (Kd.R_below X17.out hb)
    replace X18 := Am (Kd.R_below X18.out hb)
    replace X19 := Am (Kd.R_below X19.out hb)
    replace X20 := Am (Kd.R_below X20.out hb)
    replace X21 := Am (Kd.R_below X21.out hb)
    replace BX1 := Am (Kb BX1.out hb)
    replace BX2 := Am (Kb BX2.out hb)
    replace BX3 := Am (Kb BX3.out hb)
    replace BX4 := Am (Kb BX4.out hb)
    replace HB := Am (below_then HB.out HB.out.size hb)
    clear hb
    obtain ⟨⟨K37, h37⟩, hF⟩ := HF.out
    clear HF
    have HF := Am hF
    clear hF
    have H37 := Am h37
    clear h37
    go_wp2_with fail
    (refine (laws_sameTolds.calls K37 A18_ c18_ r31 A20_ c20_ r31 true w43 (Kd.R_reads' X18.out).2.2 (Kd.R_reads' X18.out).2.1 (Kd.R_reads' X20.out).2.2 (Kd.R_reads' X20.out).2.1 H37.out).mono ?_)
    rintro e w44 ⟨rfl, hd⟩
    have hb := hd.below
    clear hd
    have Z44 : Ad (w43.heap.size ≤ w44.heap.size) := ⟨hb.size⟩
    replace X1 := Am (Kd.R_below X1.out hb)
    replace X2 := Am (Kd.R_below X2.out hb)
    replace X3 := Am (Kd.R_below X3.out hb)
    replace X4 := Am (Kd.R_below X4.out hb)
    replace X5 := Am (Kd.R_below X5.out hb)
    replace X6 := Am (Kd.R_below X6.out hb)
    replace X16 := Am (Kd.R_below X16.out hb)
    replace X17 := Am (Kd.R_below X17.out hb)
    replace X18 := Am (Kd.R_below X18.out hb)
    replace X19 := Am (Kd.R_below X19.out hb)
    replace X20 := Am (Kd.R_below X20.out hb)
    replace X21 := Am (Kd.R_below X21.out hb)
    replace BX1 := Am (Kb BX1.out hb)
    replace BX2 := Am (Kb BX2.out hb)
    replace BX3 := Am (Kb BX3.out hb)
    replace BX4 := Am (Kb BX4.out hb)
    replace HB := Am (below_then HB.out HB.out.size hb)
    clear hb
    go_wp2
    go_ret
    exact ⟨rfl, HB.out⟩
   ·clear HF
    have HF := Am hF
    clear hF
    obtain ⟨⟨K38, h38⟩, hF⟩ := HF.out
    clear HF
    have HF := Am hF
    clear hF
    have H38 := Am h38
    clear h38
    go_wp2_with (first | ((refine Gd (N := 52) rfl ?_); first | refine Kd.event_run rfl (load_run BX1.out 5 rfl 26 _ (by rfl) (by rfl) _ Try.underlying26 rfl (by kernel_rfl)) ?_ | refine Kd.event_run rfl (load_run BX4.out 5 rfl 26 _ (by rfl) (by rfl) _ Try.underlying26 rfl (by kernel_rfl)) ?_) | ((refine Gd (N := 59) rfl ?_); first | refine Kd.event_run rfl (load_run BX1.out 5 rfl 26 _ (by rfl) (by rfl) _ Try.underlying26 rfl (by kernel_rfl)) ?_ | refine Kd.event_run rfl (load_run BX4.out 5 rfl 26 _ (by rfl) (by rfl) _ Try.underlying26 rfl (by kernel_rfl)) ?_) | ((refine Gd (N := 124) rfl ?_); first | refine Kd.event_run rfl (load_run BX1.out 5 rfl 26 _ (by rfl) (by rfl) _ Try.underlying26 rfl (by kernel_rfl)) ?_ | refine Kd.event_run rfl (load_run BX4.out 5 rfl 26 _ (by rfl) (by rfl) _ Try.underlying26 rfl (by kernel_rfl)) ?_) | ((refine Gd (N := 125) rfl ?_); first | refine Kd.event_run rfl (load_run BX1.out 5 rfl 26 _ (by rfl) (by rfl) _ Try.underlying26 rfl (by kernel_rfl)) ?_ | refine Kd.event_run rfl (load_run BX4.out 5 rfl 26 _ (by rfl) (by rfl) _ Try.underlying26 rfl (by kernel_rfl)) ?_) | ((refine Gd (N := 136) rfl ?_); first | refine Kd.event_run rfl (load_run BX1.out 5 rfl 26 _ (by rfl) (by rfl) _ Try.underlying26 rfl (by kernel_rfl)) ?_ | refine Kd.event_run rfl (load_run BX4.out 5 rfl 26 _ (by rfl) (by rfl) _ Try.underlying26 rfl (by kernel_rfl)) ?_) | ((refine Gd (N := 143) rfl ?_); first | refine Kd.event_run rfl (load_run BX1.out 5 rfl 26 _ (by rfl) (by rfl) _ Try.underlying26 rfl (by kernel_rfl)) ?_ | refine Kd.event_run rfl (load_run BX4.out 5 rfl 26 _ (by rfl) (by rfl) _ Try.underlying26 rfl (by kernel_rfl)) ?_) | ((refine Gd (N := 150) rfl ?_); first | refine Kd.event_run rfl (load_run BX1.out 5 rfl 26 _ (by rfl) (by rfl) _ Try.underlying26 rfl (by kernel_rfl)) ?_ | refine Kd.event_run rfl (load_run BX4.out 5 rfl 26 _ (by rfl) (by rfl) _ Try.underlying26 rfl (by kernel_rfl)) ?_))
    (refine (impl_Interfere.calls K38 r2 r3 r4 r5 r6 r12 r13 r14 r15 r16 false false w19 H38.out).mono ?_)
    rintro e w45 ⟨rfl, hb⟩
    have Z45 : Ad (w19.heap.size ≤ w45.heap.size) := ⟨hb.size⟩
    replace X1 := Am (Kd.R_below X1.out hb)
    replace X2 := Am (Kd.R_below X2.out hb)
    replace X3 := Am (Kd.R_below X3.out hb)
    replace X4 := Am (Kd.R_below X4.out hb)
    replace X5 := Am (Kd.R_below X5.out hb)
    replace X6 := Am (Kd.R_below X6.out hb)
    replace BX1 := Am (Kb BX1.out hb)
    replace BX2 := Am (Kb BX2.out hb)
    replace BX3 := Am (Kb BX3.out hb)
    replace BX4 := Am (Kb BX4.out hb)
    replace HB := Am (below_then HB.out HB.out.size hb)
    clear hb
    obtain ⟨r36, ⟨K39, h39⟩, hF⟩ := HF.out
    clear HF
    have HF := Am hF
    clear hF
    have H39 := Am h39
    clear h39
    go_wp2_with fail
    (refine (spec_DrawPlayCmds.calls K39 A1 c1 l1 r36 w45 (Kd.C_below HR1.out HB.out) HC1.out H39.out).mono ?_)
    rintro e w46 ⟨v0_, rfl, hS0, hb⟩
    have X22 : Ad (Kd.R k26 26 w46 w.heap.size (fun k => w45.heap.size ≤ k ∧ k < w46.heap.size) v0_ r36) := ⟨Kd.R_mono (Kd.R_lower (Kd.R_bound hS0) HB.out.size) (fun k hk => ⟨hk.2.1, hk.2.2.1⟩)⟩
    have Z46 : Ad (w45.heap.size ≤ w46.heap.size) := ⟨hb.size⟩
    replace X1 := Am (Kd.R_below X1.out hb)
    replace X2 := Am (Kd.R_below X2.out hb)
    replace X3 := Am (Kd.R_below X3.out hb)
    replace X4 := Am (Kd.R_below X4.out hb)
    replace X5 := Am (Kd.R_below X5.out hb)
    replace X6 := Am (Kd.R_below X6.out hb)
    replace BX1 := Am (Kb BX1.out hb)
    replace BX2 := Am (Kb BX2.out hb)
    replace BX3 := Am (Kb BX3.out hb)
    replace BX4 := Am (Kb BX4.out hb)
    replace HB := Am (below_then HB.out HB.out.size hb)
    clear hb hS0
    obtain ⟨A22_, c22_, rfl⟩ := Kd.R_slice X22.out
    obtain ⟨r37, r38, r39, ⟨K40, h40⟩, hF⟩ := HF.out
    clear HF
    have HF := Am hF
    clear hF
    have H40 := Am h40
    clear h40
    go_wp2_with fail
    (refine (impl_PlayCmds.calls K40 A22_ c22_ r36 r37 r38 r39 w46 (Kd.R_reads' X22.out).2.2 (Kd.R_reads' X22.out).2.1 H40.out).mono ?_)
    rintro e w47 ⟨v0_, v1_, rfl, hS0, hS1, hb⟩
    have X23 : Ad (Kd.R (Kd.int .i64) 3 w47 w.heap.size (fun k => w46.heap.size ≤ k ∧ k < w47.heap.size) v0_ r37) := ⟨Kd.R_mono (Kd.R_lower (Kd.R_bound hS0) HB.out.size) (fun k hk => ⟨hk.2.1, hk.2.2.1⟩)⟩
    have X24 : Ad (Kd.R k30 30 w47 w.heap.size (fun k => w46.heap.size ≤ k ∧ k < w47.heap.size) v1_ r38) := ⟨Kd.R_mono (Kd.R_lower (Kd.R_bound hS1) HB.out.size) (fun k hk => ⟨hk.2.1, hk.2.2.1⟩)⟩
    have Z47 : Ad (w46.heap.size ≤ w47.heap.size) := ⟨hb.size⟩
    replace X1 := Am (Kd.R_below X1.out hb)
    replace X2 := Am (Kd.R_below X2.out hb)
    replace X3 := Am (Kd.R_below X3.out hb)
    replace X4 := Am (Kd.R_below X4.out hb)
    replace X5 := Am (Kd.R_below X5.out hb)
    replace X6 := Am (Kd.R_below X6.out hb)
    replace X22 := Am (Kd.R_below X22.out hb)
    replace BX1 := Am (Kb BX1.out hb)
    replace BX2 := Am (Kb BX2.out hb)
    replace BX3 := Am (Kb BX3.out hb)
    replace BX4 := Am (Kb BX4.out hb)
    replace HB := Am (below_then HB.out HB.out.size hb)
    clear hb hS0 hS1
    obtain ⟨A23_, c23_, rfl⟩ := Kd.R_slice X23.out
    obtain ⟨A24_, c24_, rfl⟩ := Kd.R_slice X24.out
    obtain ⟨⟨K41, h41⟩, hF⟩ := HF.out
    clear HF
    have HF := Am hF
    clear hF
    have H41 := Am h41
    clear h41
    go_wp2_with fail
    (refine (spec_PlayCmds.calls K41 A22_ c22_ r36 r37 r38 r39 w47 (Kd.R_reads' X22.out).2.2 (Kd.R_reads' X22.out).2.1 H41.out).mono ?_)
    rintro e w48 ⟨v0_, v1_, rfl, hS0, hS1, hb⟩
    have X25 : Ad (Kd.R (Kd.int .i64) 3 w48 w.heap.size (fun k => w47.heap.size ≤ k ∧ k < w48.heap.size) v0_ r37) := ⟨Kd.R_mono (Kd.R_lower (Kd.R_bound hS0) HB.out.size) (fun k hk => ⟨hk.2.1, hk.2.2.1⟩)⟩
    have X26 : Ad (Kd.R k30 30 w48 w.heap.size (fun k => w47.heap.size ≤ k ∧ k < w48.heap.size) v1_ r38) := ⟨Kd.R_mono (Kd.R_lower (Kd.R_bound hS1) HB.out.size) (fun k hk => ⟨hk.2.1, hk.2.2.1⟩)⟩
    have Z48 : Ad (w47.heap.size ≤ w48.heap.size) := ⟨hb.size⟩
    replace X1 := Am (Kd.R_below X1.out hb)
    replace X2 := Am (Kd.R_below X2.out hb)
    replace X3 := Am (Kd.R_below X3.out hb)
    replace X4 := Am (Kd.R_below X4.out hb)
    replace X5 := Am (Kd.R_below X5.out hb)
    replace X6 := Am (Kd.R_below X6.out hb)
    replace X22 := Am (Kd.R_below X22.out hb)
    replace X23 := Am (Kd.R_below X23.out hb)
    replace X24 := Am (Kd.R_below X24.out hb)
    replace BX1 := Am (Kb BX1.out hb)
    replace BX2 := Am (Kb BX2.out hb)
    replace BX3 := Am (Kb BX3.out hb)
    replace BX4 := Am (Kb BX4.out hb)
    replace HB := Am (below_then HB.out HB.out.size hb)
    clear hb hS0 hS1
    obtain ⟨A25_, c25_, rfl⟩ := Kd.R_slice X25.out
    obtain ⟨A26_, c26_, rfl⟩ := Kd.R_slice X26.out
    obtain ⟨r40, ⟨K42, h42⟩, hF⟩ := HF.out
    clear HF
    have HF := Am hF
    clear hF
    have H42 := Am h42
    clear h42
    go_wp2_with fail
    (refine (spec_DrawTotalOf.calls K42 A1 c1 l1 r40 w48 (Kd.C_below HR1.out HB.out) HC1.out H42.out).mono ?_)
    rintro e w49 ⟨v0_, rfl, hS0, hb⟩
    have X27 : Ad (Kd.R (Kd.int .i64) 3 w49 w.heap.size (fun k => w48.heap.size ≤ k ∧ k < w49.heap.size) v0_ r40) := ⟨Kd.R_mono (Kd.R_lower (Kd.R_bound hS0) HB.out.size) (fun k hk => ⟨hk.2.1, hk.2.2.1⟩)⟩
    have Z49 : Ad (w48.heap.size ≤ w49.heap.size) := ⟨hb.size⟩
    replace X1 := Am (Kd.R_below X1.out hb)
    replace X2 := Am (Kd.R_below X2.out hb)
    replace X3 := Am (Kd.R_below X3.out hb)
    replace X4 := Am (Kd.R_below X4.out hb)
    replace X5 := Am (Kd.R_below X5.out hb)
    replace X6 := Am (Kd.R_below X6.out hb)
    replace X22 := Am (Kd.R_below X22.out hb)
    replace X23 := Am (Kd.R_below X23.out hb)
    replace X24 := Am (Kd.R_below X24.out hb)
    replace X25 := Am (Kd.R_below X25.out hb)
    replace X26 := Am (Kd.R_below X26.out hb)
    replace BX1 := Am (Kb BX1.out hb)
    replace BX2 := Am (Kb BX2.out hb)
    replace BX3 := Am (Kb BX3.out hb)
    replace BX4 := Am (Kb BX4.out hb)
    replace HB := Am (below_then HB.out HB.out.size hb)
    clear hb hS0
    obtain ⟨A27_, c27_, rfl⟩ := Kd.R_slice X27.out
    obtain ⟨r41, r42, ⟨K43, h43⟩, hF⟩ := HF.out
    clear HF
    have HF := Am hF
    clear hF
    have H43 := Am h43
    clear h43
    go_wp2_with fail
    (refine (impl_TotalOf.calls K43 A27_ c27_ r40 r41 r42 w49 (Kd.R_reads' X27.out).2.2 (Kd.R_reads' X27.out).2.1 H43.out).mono ?_)
    rintro e w50 ⟨rfl, hb⟩
    have Z50 : Ad (w49.heap.size ≤ w50.heap.size) := ⟨hb.size⟩
    replace X1 := Am (Kd.R_below X1.out hb)
    replace X2 := Am (Kd.R_below X2.out hb)
    replace X3 := Am (Kd.R_below X3.out hb)
    replace X4 := Am (Kd.R_below X4.out hb)
    replace X5 := Am (Kd.R_below X5.out hb)
    replace X6 := Am (Kd.R_below X6.out hb)
    replace X22 := Am (Kd.R_below X22.out hb)
    replace X23 := Am (Kd.R_below X23.out hb)
    replace X24 := Am (Kd.R_below X24.out hb)
    replace X25 := Am (Kd.R_below X25.out hb)
    replace X26 := Am (Kd.R_below X26.out hb)
    replace X27 := Am (Kd.R_below X27.out hb)
    replace BX1 := Am (Kb BX1.out hb)
    replace BX2 := Am (Kb BX2.out hb)
    replace BX3 := Am (Kb BX3.out hb)
    replace BX4 := Am (Kb BX4.out hb)
    replace HB := Am (below_then HB.out HB.out.size hb)
    clear hb
    obtain ⟨⟨K44, h44⟩, hF⟩ := HF.out
    clear HF
    have HF := Am hF
    clear hF
    have H44 := Am h44
    clear h44
    go_wp2_with fail
    (refine (spec_TotalOf.calls K44 A27_ c27_ r40 r41 r42 w50 (Kd.R_reads' X27.out).2.2 (Kd.R_reads' X27.out).2.1 H44.out).mono ?_)
    rintro e w51 ⟨rfl, hd⟩
    have hb := hd.below
    clear hd
    have Z51 : Ad (w50.heap.size ≤ w51.heap.size) := ⟨hb.size⟩
    replace X1 := Am (Kd.R_below X1.out hb)
    replace X2 := Am (Kd.R_below X2.out hb)
    replace X3 := Am (Kd.R_below X3.out hb)
    replace X4 := Am (Kd.R_below X4.out hb)
    replace X5 := Am (Kd.R_below X5.out hb)
    replace X6 := Am (Kd.R_below X6.out hb)
    replace X22 := Am (Kd.R_below X22.out hb)
    replace X23 := Am (Kd.R_below X23.out hb)
    replace X24 := Am (Kd.R_below X24.out hb)
    replace X25 := Am (Kd.R_below X25.out hb)
    replace X26 := Am (Kd.R_below X26.out hb)
    replace X27 := Am (Kd.R_below X27.out hb)
    replace BX1 := Am (Kb BX1.out hb)
    replace BX2 := Am (Kb BX2.out hb)
    replace BX3 := Am (Kb BX3.out hb)
    replace BX4 := Am (Kb BX4.out hb)
    replace HB := Am (below_then HB.out HB.out.size hb)
    clear hb
    obtain ⟨⟨K45, h45⟩, hF⟩ := HF.out
    clear HF
    have HF := Am hF
    clear hF
    have H45 := Am h45
    clear h45
    go_wp2_with fail
    (refine (laws_sameInts.calls K45 A23_ c23_ r37 A25_ c25_ r37 true w51 (Kd.R_reads' X23.out).2.2 (Kd.R_reads' X23.out).2.1 (Kd.R_reads' X25.out).2.2 (Kd.R_reads' X25.out).2.1 H45.out).mono ?_)
    rintro e w52 ⟨rfl, hd⟩
    have hb := hd.below
    clear hd
    have Z52 : Ad (w51.heap.size ≤ w52.heap.size) := ⟨hb.size⟩
    replace X1 := Am (Kd.R_below X1.out hb)
    replace X2 := Am (Kd.R_below X2.out hb)
    replace X3 := Am (Kd.R_below X3.out hb)
    replace X4 := Am (Kd.R_below X4.out hb)
    replace X5 := Am (Kd.R_below X5.out hb)
    replace X6 := Am (Kd.R_below X6.out hb)
    replace X22 := Am (Kd.R_below X22.out hb)
    replace X23 := Am (Kd.R_below X23.out hb)
    replace X24 := Am (Kd.R_below X24.out hb)
    replace X25 := Am (Kd.R_below X25.out hb)
    replace X26 := Am (Kd.R_below X26.out hb)
    replace X27 := Am (Kd.R_below X27.out hb)
    replace BX1 := Am (Kb BX1.out hb)
    replace BX2 := Am (Kb BX2.out hb)
    replace BX3 := Am (Kb BX3.out hb)
    replace BX4 := Am (Kb BX4.out hb)
    replace HB := Am (below_then HB.out HB.out.size hb)
    clear hb
    obtain ⟨⟨K46, h46⟩, hF⟩ := HF.out
    clear HF
    have HF := Am hF
    clear hF
    have H46 := Am h46
    clear h46
    go_wp2_with fail
    (refine (laws_sameTolds.calls K46 A24_ c24_ r38 A26_ c26_ r38 true w52 (Kd.R_reads' X24.out).2.2 (Kd.R_reads' X24.out).2.1 (Kd.R_reads' X26.out).2.2 (Kd.R_reads' X26.out).2.1 H46.out).mono ?_)
    rintro e w53 ⟨rfl, hd⟩
    have hb := hd.below
    clear hd
    have Z53 : Ad (w52.heap.size ≤ w53.heap.size) := ⟨hb.size⟩
    replace X1 := Am (Kd.R_below X1.out hb)
    replace X2 := Am (Kd.R_below X2.out hb)
    replace X3 := Am (Kd.R_below X3.out hb)
    replace X4 := Am (Kd.R_below X4.out hb)
    replace X5 := Am (Kd.R_below X5.out hb)
    replace X6 := Am (Kd.R_below X6.out hb)
    replace X22 := Am (Kd.R_below X22.out hb)
    replace X23 := Am (Kd.R_below X23.out hb)
    replace X24 := Am (Kd.R_below X24.out hb)
    replace X25 := Am (Kd.R_below X25.out hb)
    replace X26 := Am (Kd.R_below X26.out hb)
    replace X27 := Am (Kd.R_below X27.out hb)
    replace BX1 := Am (Kb BX1.out hb)
    replace BX2 := Am (Kb BX2.out hb)
    replace BX3 := Am (Kb BX3.out hb)
    replace BX4 := Am (Kb BX4.out hb)
    replace HB := Am (below_then HB.out HB.out.size hb)
    clear hb
    go_wp2
    go_ret
    exact ⟨rfl, HB.out⟩
  ·clear HF
   have HF := Am hF
   clear hF
   obtain ⟨r43, r44, r45, ⟨K47, h47⟩, hF⟩ := HF.out
   clear HF
   have HF := Am hF
   clear hF
   have H47 := Am h47
   clear h47
   go_upto_region 4 with (fail)
   refine letC (fun W_ => Below w3.heap.size w3 W_ ∧ W_.heap[w3.heap.size]? = some (.cells #[.int .i64 r2, .int .i64 r3, .int .i64 r4, .int .i64 r5, .int .i64 r6] 26 (0, 0))) ?_ ?_
   ·refine ⟨?_, ?_⟩
    ·repeat (first | exact Below.refl _ _ | apply Ba | refine Bs ?_ (by first | exact Nat.le_refl _ | omega | (simp; done)))
    ·exact blk_new w3 (.cells #[.int .i64 r2, .int .i64 r3, .int .i64 r4, .int .i64 r5, .int .i64 r6] 26)
   intro w54 hq_
   obtain ⟨hb, hx0_⟩ := hq_
   have Z54 : Ad (w3.heap.size ≤ w54.heap.size) := ⟨hb.size⟩
   replace X1 := Am (Kd.R_below X1.out hb)
   replace HB := Am (below_then HB.out HB.out.size hb)
   clear hb
   have BX1 : Ad (w54.heap[w3.heap.size]? = some (.cells #[.int .i64 r2, .int .i64 r3, .int .i64 r4, .int .i64 r5, .int .i64 r6] 26 (0, 0))) := ⟨hx0_⟩
   clear hx0_
   have GBX1 : Ad (w3.heap.size < w54.heap.size) := ⟨blk_lt BX1.out⟩
   go_wp2_with (first | ((refine Gd (N := 52) rfl ?_); first | refine Kd.event_run rfl (load_run BX1.out 5 rfl 26 _ (by rfl) (by rfl) _ Try.underlying26 rfl (by kernel_rfl)) ?_) | ((refine Gd (N := 59) rfl ?_); first | refine Kd.event_run rfl (load_run BX1.out 5 rfl 26 _ (by rfl) (by rfl) _ Try.underlying26 rfl (by kernel_rfl)) ?_) | ((refine Gd (N := 124) rfl ?_); first | refine Kd.event_run rfl (load_run BX1.out 5 rfl 26 _ (by rfl) (by rfl) _ Try.underlying26 rfl (by kernel_rfl)) ?_) | ((refine Gd (N := 125) rfl ?_); first | refine Kd.event_run rfl (load_run BX1.out 5 rfl 26 _ (by rfl) (by rfl) _ Try.underlying26 rfl (by kernel_rfl)) ?_) | ((refine Gd (N := 136) rfl ?_); first | refine Kd.event_run rfl (load_run BX1.out 5 rfl 26 _ (by rfl) (by rfl) _ Try.underlying26 rfl (by kernel_rfl)) ?_) | ((refine Gd (N := 143) rfl ?_); first | refine Kd.event_run rfl (load_run BX1.out 5 rfl 26 _ (by rfl) (by rfl) _ Try.underlying26 rfl (by kernel_rfl)) ?_) | ((refine Gd (N := 150) rfl ?_); first | refine Kd.event_run rfl (load_run BX1.out 5 rfl 26 _ (by rfl) (by rfl) _ Try.underlying26 rfl (by kernel_rfl)) ?_))
   (refine (impl_ApplyCmd.calls K47 A1_ c1_ r1 r2 r3 r4 r5 r6 r43 r44 r45 false w54 (Kd.R_reads' X1.out).2.2 (Kd.R_reads' X1.out).2.1 H47.out).mono ?_)
   rintro e w55 ⟨v0_, rfl, hS0, hb⟩
   have X28 : Ad (Kd.R (Kd.int .i64) 3 w55 w.heap.size (fun k => w54.heap.size ≤ k ∧ k < w55.heap.size) v0_ r43) := ⟨Kd.R_mono (Kd.R_lower (Kd.R_bound hS0) HB.out.size) (fun k hk => ⟨hk.2.1, hk.2.2.1⟩)⟩
   have Z55 : Ad (w54.heap.size ≤ w55.heap.size) := ⟨hb.size⟩
   replace X1 := Am (Kd.R_below X1.out hb)
   replace BX1 := Am (Kb BX1.out hb)
   replace HB := Am (below_then HB.out HB.out.size hb)
   clear hb hS0
   obtain ⟨A28_, c28_, rfl⟩ := Kd.R_slice X28.out
   obtain ⟨⟨K48, h48⟩, hF⟩ := HF.out
   clear HF
   have HF := Am hF
   clear hF
   have H48 := Am h48
   clear h48
   go_upto_region 5 with (first | ((refine Gd (N := 52) rfl ?_); first | refine Kd.event_run rfl (load_run BX1.out 5 rfl 26 _ (by rfl) (by rfl) _ Try.underlying26 rfl (by kernel_rfl)) ?_) | ((refine Gd (N := 59) rfl ?_); first | refine Kd.event_run rfl (load_run BX1.out 5 rfl 26 _ (by rfl) (by rfl) _ Try.underlying26 rfl (by kernel_rfl)) ?_) | ((refine Gd (N := 124) rfl ?_); first | refine Kd.event_run rfl (load_run BX1.out 5 rfl 26 _ (by rfl) (by rfl) _ Try.underlying26 rfl (by kernel_rfl)) ?_) | ((refine Gd (N := 125) rfl ?_); first | refine Kd.event_run rfl (load_run BX1.out 5 rfl 26 _ (by rfl) (by rfl) _ Try.underlying26 rfl (by kernel_rfl)) ?_) | ((refine Gd (N := 136) rfl ?_); first | refine Kd.event_run rfl (load_run BX1.out 5 rfl 26 _ (by rfl) (by rfl) _ Try.underlying26 rfl (by kernel_rfl)) ?_) | ((refine Gd (N := 143) rfl ?_); first | refine Kd.event_run rfl (load_run BX1.out 5 rfl 26 _ (by rfl) (by rfl) _ Try.underlying26 rfl (by kernel_rfl)) ?_) | ((refine Gd (N := 150) rfl ?_); first | refine Kd.event_run rfl (load_run BX1.out 5 rfl 26 _ (by rfl) (by rfl) _ Try.underlying26 rfl (by kernel_rfl)) ?_))
   refine letC (fun W_ => Below w55.heap.size w55 W_ ∧ W_.heap[w55.heap.size]? = some (.cells #[.int .i64 r44, .int .i64 r45] 30 (0, 0))) ?_ ?_
   ·refine ⟨?_, ?_⟩
    ·repeat (first | exact Below.refl _ _ | apply Ba | refine Bs ?_ (by first | exact Nat.le_refl _ | omega | (simp; done)))
    ·exact blk_new w55 (.cells #[.int .i64 r44, .int .i64 r45] 30)
   intro w56 hq_
   obtain ⟨hb, hx0_⟩ := hq_
   have Z56 : Ad (w55.heap.size ≤ w56.heap.size) := ⟨hb.size⟩
   replace X1 := Am (Kd.R_below X1.out hb)
   replace X28 := Am (Kd.R_below X28.out hb)
   replace BX1 := Am (Kb BX1.out hb)
   replace HB := Am (below_then HB.out HB.out.size hb)
   clear hb
   have BX8 : Ad (w56.heap[w55.heap.size]? = some (.cells #[.int .i64 r44, .int .i64 r45] 30 (0, 0))) := ⟨hx0_⟩
   clear hx0_
   have GBX8 : Ad (w55.heap.size < w56.heap.size) := ⟨blk_lt BX8.out⟩
   go_wp2_with (first | ((refine Gd (N := 52) rfl ?_); first | refine Kd.event_run rfl (load_run BX1.out 5 rfl 26 _ (by rfl) (by rfl) _ Try.underlying26 rfl (by kernel_rfl)) ?_) | ((refine Gd (N := 59) rfl ?_); first | refine Kd.event_run rfl (load_run BX1.out 5 rfl 26 _ (by rfl) (by rfl) _ Try.underlying26 rfl (by kernel_rfl)) ?_) | ((refine Gd (N := 124) rfl ?_); first | refine Kd.event_run rfl (load_run BX1.out 5 rfl 26 _ (by rfl) (by rfl) _ Try.underlying26 rfl (by kernel_rfl)) ?_) | ((refine Gd (N := 125) rfl ?_); first | refine Kd.event_run rfl (load_run BX1.out 5 rfl 26 _ (by rfl) (by rfl) _ Try.underlying26 rfl (by kernel_rfl)) ?_) | ((refine Gd (N := 136) rfl ?_); first | refine Kd.event_run rfl (load_run BX1.out 5 rfl 26 _ (by rfl) (by rfl) _ Try.underlying26 rfl (by kernel_rfl)) ?_) | ((refine Gd (N := 143) rfl ?_); first | refine Kd.event_run rfl (load_run BX1.out 5 rfl 26 _ (by rfl) (by rfl) _ Try.underlying26 rfl (by kernel_rfl)) ?_) | ((refine Gd (N := 150) rfl ?_); first | refine Kd.event_run rfl (load_run BX1.out 5 rfl 26 _ (by rfl) (by rfl) _ Try.underlying26 rfl (by kernel_rfl)) ?_))
   (refine (spec_ApplyCmd.calls K48 A1_ c1_ r1 r2 r3 r4 r5 r6 r43 r44 r45 false w56 (Kd.R_reads' X1.out).2.2 (Kd.R_reads' X1.out).2.1 H48.out).mono ?_)
   rintro e w57 ⟨v0_, rfl, hS0, hb⟩
   have X29 : Ad (Kd.R (Kd.int .i64) 3 w57 w.heap.size (fun k => w56.heap.size ≤ k ∧ k < w57.heap.size) v0_ r43) := ⟨Kd.R_mono (Kd.R_lower (Kd.R_bound hS0) HB.out.size) (fun k hk => ⟨hk.2.1, hk.2.2.1⟩)⟩
   have Z57 : Ad (w56.heap.size ≤ w57.heap.size) := ⟨hb.size⟩
   replace X1 := Am (Kd.R_below X1.out hb)
   replace X28 := Am (Kd.R_below X28.out hb)
   replace BX1 := Am (Kb BX1.out hb)
   replace BX8 := Am (Kb BX8.out hb)
   replace HB := Am (below_then HB.out HB.out.size hb)
   clear hb hS0
   obtain ⟨A29_, c29_, rfl⟩ := Kd.R_slice X29.out
   obtain ⟨⟨K49, h49⟩, hF⟩ := HF.out
   clear HF
   have HF := Am hF
   clear hF
   have H49 := Am h49
   clear h49
   go_upto_region 6 with (fail)
   refine letC (fun W_ => Below w57.heap.size w57 W_ ∧ W_.heap[w57.heap.size]? = some (.cells #[.int .i64 r44, .int .i64 r45] 30 (0, 0))) ?_ ?_
   ·refine ⟨?_, ?_⟩
    ·repeat (first | exact Below.refl _ _ | apply Ba | refine Bs ?_ (by first | exact Nat.le_refl _ | omega | (simp; done)))
    ·exact blk_new w57 (.cells #[.int .i64 r44, .int .i64 r45] 30)
   intro w58 hq_
   obtain ⟨hb, hx0_⟩ := hq_
   have Z58 : Ad (w57.heap.size ≤ w58.heap.size) := ⟨hb.size⟩
   replace X1 := Am (Kd.R_below X1.out hb)
   replace X28 := Am (Kd.R_below X28.out hb)
   replace X29 := Am (Kd.R_below X29.out hb)
   replace BX1 := Am (Kb BX1.out hb)
   replace BX8 := Am (Kb BX8.out hb)
   replace HB := Am (below_then HB.out HB.out.size hb)
   clear hb
   have BX9 : Ad (w58.heap[w57.heap.size]? = some (.cells #[.int .i64 r44, .int .i64 r45] 30 (0, 0))) := ⟨hx0_⟩
   clear hx0_
   have GBX9 : Ad (w57.heap.size < w58.heap.size) := ⟨blk_lt BX9.out⟩
   go_wp2_with fail
   (refine (laws_sameInts.calls K49 A28_ c28_ r43 A29_ c29_ r43 true w58 (Kd.R_reads' X28.out).2.2 (Kd.R_reads' X28.out).2.1 (Kd.R_reads' X29.out).2.2 (Kd.R_reads' X29.out).2.1 H49.out).mono ?_)
   rintro e w59 ⟨rfl, hd⟩
   have hb := hd.below
   clear hd
   have Z59 : Ad (w58.heap.size ≤ w59.heap.size) := ⟨hb.size⟩
   replace X1 := Am (Kd.R_below X1.out hb)
   replace X28 := Am (Kd.R_below X28.out hb)
   replace X29 := Am (Kd.R_below X29.out hb)
   replace BX1 := Am (Kb BX1.out hb)
   replace BX8 := Am (Kb BX8.out hb)
   replace BX9 := Am (Kb BX9.out hb)
   replace HB := Am (below_then HB.out HB.out.size hb)
   clear hb
   obtain ⟨r46, ⟨K50, h50⟩, hF⟩ := HF.out
   clear HF
   have HF := Am hF
   clear hF
   have H50 := Am h50
   clear h50
   have qBX8_0 : w59.cell? ⟨w55.heap.size, 0, none⟩ = some (.int .i64 r44) := (Kc BX8.out 0).trans rfl
   have qBX8_1 : w59.cell? ⟨w55.heap.size, 1, none⟩ = some (.int .i64 r45) := (Kc BX8.out 1).trans rfl
   have qBX9_0 : w59.cell? ⟨w57.heap.size, 0, none⟩ = some (.int .i64 r44) := (Kc BX9.out 0).trans rfl
   have qBX9_1 : w59.cell? ⟨w57.heap.size, 1, none⟩ = some (.int .i64 r45) := (Kc BX9.out 1).trans rfl
   go_wp2_with (first | ((refine Gd (N := 74) rfl ?_); first | refine Kd.event_run rfl (load_run BX8.out 2 rfl 30 _ (by rfl) (by rfl) _ Try.underlying30 rfl (by kernel_rfl)) ?_ | refine Kd.event_run rfl (load_run BX9.out 2 rfl 30 _ (by rfl) (by rfl) _ Try.underlying30 rfl (by kernel_rfl)) ?_) | ((refine Gd (N := 75) rfl ?_); first | refine Kd.event_run rfl (load_run BX8.out 2 rfl 30 _ (by rfl) (by rfl) _ Try.underlying30 rfl (by kernel_rfl)) ?_ | refine Kd.event_run rfl (load_run BX9.out 2 rfl 30 _ (by rfl) (by rfl) _ Try.underlying30 rfl (by kernel_rfl)) ?_) | ((refine Gd (N := 172) rfl ?_); first | refine Kd.event_run rfl (load_run BX8.out 2 rfl 30 _ (by rfl) (by rfl) _ Try.underlying30 rfl (by kernel_rfl)) ?_ | refine Kd.event_run rfl (load_run BX9.out 2 rfl 30 _ (by rfl) (by rfl) _ Try.underlying30 rfl (by kernel_rfl)) ?_) | ((refine Gd (N := 173) rfl ?_); first | refine Kd.event_run rfl (load_run BX8.out 2 rfl 30 _ (by rfl) (by rfl) _ Try.underlying30 rfl (by kernel_rfl)) ?_ | refine Kd.event_run rfl (load_run BX9.out 2 rfl 30 _ (by rfl) (by rfl) _ Try.underlying30 rfl (by kernel_rfl)) ?_) | ((refine Gd (N := 177) rfl ?_); first | refine Kd.event_run rfl (load_run BX8.out 2 rfl 30 _ (by rfl) (by rfl) _ Try.underlying30 rfl (by kernel_rfl)) ?_ | refine Kd.event_run rfl (load_run BX9.out 2 rfl 30 _ (by rfl) (by rfl) _ Try.underlying30 rfl (by kernel_rfl)) ?_) | ((refine Gd (N := 178) rfl ?_); first | refine Kd.event_run rfl (load_run BX8.out 2 rfl 30 _ (by rfl) (by rfl) _ Try.underlying30 rfl (by kernel_rfl)) ?_ | refine Kd.event_run rfl (load_run BX9.out 2 rfl 30 _ (by rfl) (by rfl) _ Try.underlying30 rfl (by kernel_rfl)) ?_))
   clear qBX8_0 qBX8_1 qBX9_0 qBX9_1
   (refine (impl_GoodSums.calls K50 A1_ c1_ r1 r46 w59 (Kd.R_reads' X1.out).2.2 (Kd.R_reads' X1.out).2.1 H50.out).mono ?_)
   rintro e w60 ⟨rfl, hb⟩
   have Z60 : Ad (w59.heap.size ≤ w60.heap.size) := ⟨hb.size⟩
   replace X1 := Am (Kd.R_below X1.out hb)
   replace X28 := Am (Kd.R_below X28.out hb)
   replace X29 := Am (Kd.R_below X29.out hb)
   replace BX1 := Am (Kb BX1.out hb)
   replace BX8 := Am (Kb BX8.out hb)
   replace BX9 := Am (Kb BX9.out hb)
   replace HB := Am (below_then HB.out HB.out.size hb)
   clear hb
   obtain ⟨⟨K51, h51⟩, hF⟩ := HF.out
   clear HF
   have HF := Am hF
   clear hF
   have H51 := Am h51
   clear h51
   go_wp2_with fail
   (refine (spec_GoodSums.calls K51 A1_ c1_ r1 r46 w60 (Kd.R_reads' X1.out).2.2 (Kd.R_reads' X1.out).2.1 H51.out).mono ?_)
   rintro e w61 ⟨rfl, hd⟩
   have hb := hd.below
   clear hd
   have Z61 : Ad (w60.heap.size ≤ w61.heap.size) := ⟨hb.size⟩
   replace X1 := Am (Kd.R_below X1.out hb)
   replace X28 := Am (Kd.R_below X28.out hb)
   replace X29 := Am (Kd.R_below X29.out hb)
   replace BX1 := Am (Kb BX1.out hb)
   replace BX8 := Am (Kb BX8.out hb)
   replace BX9 := Am (Kb BX9.out hb)
   replace HB := Am (below_then HB.out HB.out.size hb)
   clear hb
   obtain ⟨r47, h52, hF⟩ := HF.out
   clear HF
   have HF := Am hF
   clear hF
   have H52 := Am h52
   clear h52
   go_wp2_with fail
   (refine (impl_NewSums.calls r47 w61 H52.out).mono ?_)
   rintro e w62 ⟨v0_, rfl, hS0, hb⟩
   have X30 : Ad (Kd.R (Kd.int .i64) 3 w62 w.heap.size (fun k => w61.heap.size ≤ k ∧ k < w62.heap.size) v0_ r47) := ⟨Kd.R_mono (Kd.R_lower (Kd.R_bound hS0) HB.out.size) (fun k hk => ⟨hk.2.1, hk.2.2.1⟩)⟩
   have Z62 : Ad (w61.heap.size ≤ w62.heap.size) := ⟨hb.size⟩
   replace X1 := Am (Kd.R_below X1.out hb)
   replace X28 := Am (Kd.R_below X28.out hb)
   replace X29 := Am (Kd.R_below X29.out hb)
   replace BX1 := Am (Kb BX1.out hb)
   replace BX8 := Am (Kb BX8.out hb)
   replace BX9 := Am (Kb BX9.out hb)
   replace HB := Am (below_then HB.out HB.out.size hb)
   clear hb hS0
   obtain ⟨A30_, c30_, rfl⟩ := Kd.R_slice X30.out
   obtain ⟨⟨K53, h53⟩, hF⟩ := HF.out
   clear HF
   have HF := Am hF
   clear hF
   have H53 := Am h53
   clear h53
   go_wp2_with fail
   (refine (spec_NewSums.calls K53 r47 w62 H53.out).mono ?_)
   rintro e w63 ⟨v0_, rfl, hS0, hb⟩
   have X31 : Ad (Kd.R (Kd.int .i64) 3 w63 w.heap.size (fun k => w62.heap.size ≤ k ∧ k < w63.heap.size) v0_ r47) := ⟨Kd.R_mono (Kd.R_lower (Kd.R_bound hS0) HB.out.size) (fun k hk => ⟨hk.2.1, hk.2.2.1⟩)⟩
   have Z63 : Ad (w62.heap.size ≤ w63.heap.size) := ⟨hb.size⟩
   replace X1 := Am (Kd.R_below X1.out hb)
   replace X28 := Am (Kd.R_below X28.out hb)
   replace X29 := Am (Kd.R_below X29.out hb)
   replace X30 := Am (Kd.R_below X30.out hb)
   replace BX1 := Am (Kb BX1.out hb)
   replace BX8 := Am (Kb BX8.out hb)
   replace BX9 := Am (Kb BX9.out hb)
   replace HB := Am (below_then HB.out HB.out.size hb)
   clear hb hS0
   obtain ⟨A31_, c31_, rfl⟩ := Kd.R_slice X31.out
   obtain ⟨⟨K54, h54⟩, hF⟩ := HF.out
   clear HF
   have HF := Am hF
   clear hF
   have H54 := Am h54
   clear h54
   go_wp2_with fail
   (refine (laws_sameInts.calls K54 A30_ c30_ r47 A31_ c31_ r47 true w63 (Kd.R_reads' X30.out).2.2 (Kd.R_reads' X30.out).2.1 (Kd.R_reads' X31.out).2.2 (Kd.R_reads' X31.out).2.1 H54.out).mono ?_)
   rintro e w64 ⟨rfl, hd⟩
   have hb := hd.below
   clear hd
   have Z64 : Ad (w63.heap.size ≤ w64.heap.size) := ⟨hb.size⟩
   replace X1 := Am (Kd.R_below X1.out hb)
   replace X28 := Am (Kd.R_below X28.out hb)
   replace X29 := Am (Kd.R_below X29.out hb)
   replace X30 := Am (Kd.R_below X30.out hb)
   replace X31 := Am (Kd.R_below X31.out hb)
   replace BX1 := Am (Kb BX1.out hb)
   replace BX8 := Am (Kb BX8.out hb)
   replace BX9 := Am (Kb BX9.out hb)
   replace HB := Am (below_then HB.out HB.out.size hb)
   clear hb
   obtain ⟨r48, ⟨K55, h55⟩, hF⟩ := HF.out
   clear HF
   have HF := Am hF
   clear hF
   have H55 := Am h55
   clear h55
   go_wp2_with fail
   (refine (spec_DrawPlayCmds.calls K55 A1 c1 l1 r48 w64 (Kd.C_below HR1.out HB.out) HC1.out H55.out).mono ?_)
   rintro e w65 ⟨v0_, rfl, hS0, hb⟩
   have X32 : Ad (Kd.R k26 26 w65 w.heap.size (fun k => w64.heap.size ≤ k ∧ k < w65.heap.size) v0_ r48) := ⟨Kd.R_mono (Kd.R_lower (Kd.R_bound hS0) HB.out.size) (fun k hk => ⟨hk.2.1, hk.2.2.1⟩)⟩
   have Z65 : Ad (w64.heap.size ≤ w65.heap.size) := ⟨hb.size⟩
   replace X1 := Am (Kd.R_below X1.out hb)
   replace X28 := Am (Kd.R_below X28.out hb)
   replace X29 := Am (Kd.R_below X29.out hb)
   replace X30 := Am (Kd.R_below X30.out hb)
   replace X31 := Am (Kd.R_below X31.out hb)
   replace BX1 := Am (Kb BX1.out hb)
   replace BX8 := Am (Kb BX8.out hb)
   replace BX9 := Am (Kb BX9.out hb)
   replace HB := Am (below_then HB.out HB.out.size hb)
   clear hb hS0
   obtain ⟨A32_, c32_, rfl⟩ := Kd.R_slice X32.out
   obtain ⟨r49, r50, r51, ⟨K56, h56⟩, hF⟩ := HF.out
   clear HF
   have HF := Am hF
   clear hF
   have H56 := Am h56
   clear h56
   go_wp2_with fail
   (refine (impl_PlayCmds.calls K56 A32_ c32_ r48 r49 r50 r51 w65 (Kd.R_reads' X32.out).2.2 (Kd.R_reads' X32.out).2.1 H56.out).mono ?_)
   rintro e w66 ⟨v0_, v1_, rfl, hS0, hS1, hb⟩
   have X33 : Ad (Kd.R (Kd.int .i64) 3 w66 w.heap.size (fun k => w65.heap.size ≤ k ∧ k < w66.heap.size) v0_ r49) := ⟨Kd.R_mono (Kd.R_lower (Kd.R_bound hS0) HB.out.size) (fun k hk => ⟨hk.2.1, hk.2.2.1⟩)⟩
   have X34 : Ad (Kd.R k30 30 w66 w.heap.size (fun k => w65.heap.size ≤ k ∧ k < w66.heap.size) v1_ r50) := ⟨Kd.R_mono (Kd.R_lower (Kd.R_bound hS1) HB.out.size) (fun k hk => ⟨hk.2.1, hk.2.2.1⟩)⟩
   have Z66 : Ad (w65.heap.size ≤ w66.heap.size) := ⟨hb.size⟩
   replace X1 := Am (Kd.R_below X1.out hb)
   replace X28 := Am (Kd.R_below X28.out hb)
   replace X29 := Am (Kd.R_below X29.out hb)
   replace X30 := Am (Kd.R_below X30.out hb)
   replace X31 := Am (Kd.R_below X31.out hb)
   replace X32 := Am (Kd.R_below X32.out hb)
   replace BX1 := Am (Kb BX1.out hb)
   replace BX8 := Am (Kb BX8.out hb)
   replace BX9 := Am (Kb BX9.out hb)
   replace HB := Am (below_then HB.out HB.out.size hb)
   clear hb hS0 hS1
   obtain ⟨A33_, c33_, rfl⟩ := Kd.R_slice X33.out
   obtain ⟨A34_, c34_, rfl⟩ := Kd.R_slice X34.out
   obtain ⟨⟨K57, h57⟩, hF⟩ := HF.out
   clear HF
   have HF := Am hF
   clear hF
   have H57 := Am h57
   clear h57
   go_wp2_with fail
   (refine (spec_PlayCmds.calls K57 A32_ c32_ r48 r49 r50 r51 w66 (Kd.R_reads' X32.out).2.2 (Kd.R_reads' X32.out).2.1 H57.out).mono ?_)
   rintro e w67 ⟨v0_, v1_, rfl, hS0, hS1, hb⟩
   have X35 : Ad (Kd.R (Kd.int .i64) 3 w67 w.heap.size (fun k => w66.heap.size ≤ k ∧ k < w67.heap.size) v0_ r49) := ⟨Kd.R_mono (Kd.R_lower (Kd.R_bound hS0) HB.out.size) (fun k hk => ⟨hk.2.1, hk.2.2.1⟩)⟩
   have X36 : Ad (Kd.R k30 30 w67 w.heap.size (fun k => w66.heap.size ≤ k ∧ k < w67.heap.size) v1_ r50) := ⟨Kd.R_mono (Kd.R_lower (Kd.R_bound hS1) HB.out.size) (fun k hk => ⟨hk.2.1, hk.2.2.1⟩)⟩
   have Z67 : Ad (w66.heap.size ≤ w67.heap.size) := ⟨hb.size⟩
   replace X1 := Am (Kd.R_below X1.out hb)
   replace X28 := Am (Kd.R_below X28.out hb)
   replace X29 := Am (Kd.R_below X29.out hb)
   replace X30 := Am (Kd.R_below X30.out hb)
   replace X31 := Am (Kd.R_below X31.out hb)
   replace X32 := Am (Kd.R_below X32.out hb)
   replace X33 := Am (Kd.R_below X33.out hb)
   replace X34 := Am (Kd.R_below X34.out hb)
   replace BX1 := Am (Kb BX1.out hb)
   replace BX8 := Am (Kb BX8.out hb)
   replace BX9 := Am (Kb BX9.out hb)
   replace HB := Am (below_then HB.out HB.out.size hb)
   clear hb hS0 hS1
   obtain ⟨A35_, c35_, rfl⟩ := Kd.R_slice X35.out
   obtain ⟨A36_, c36_, rfl⟩ := Kd.R_slice X36.out
   obtain ⟨r52, ⟨K58, h58⟩, hF⟩ := HF.out
   clear HF
   have HF := Am hF
   clear hF
   have H58 := Am h58
   clear h58
   go_wp2_with fail
   (refine (spec_DrawTotalOf.calls K58 A1 c1 l1 r52 w67 (Kd.C_below HR1.out HB.out) HC1.out H58.out).mono ?_)
   rintro e w68 ⟨v0_, rfl, hS0, hb⟩
   have X37 : Ad (Kd.R (Kd.int .i64) 3 w68 w.heap.size (fun k => w67.heap.size ≤ k ∧ k < w68.heap.size) v0_ r52) := ⟨Kd.R_mono (Kd.R_lower (Kd.R_bound hS0) HB.out.size) (fun k hk => ⟨hk.2.1, hk.2.2.1⟩)⟩
   have Z68 : Ad (w67.heap.size ≤ w68.heap.size) := ⟨hb.size⟩
   replace X1 := Am (Kd.R_below X1.out hb)
   replace X28 := Am (Kd.R_below X28.out hb)
   replace X29 := Am (Kd.R_below X29.out hb)
   replace X30 := Am (Kd.R_below X30.out hb)
   replace X31 := Am (Kd.R_below X31.out hb)
   replace X32 := Am (Kd.R_below X32.out hb)
   replace X33 := Am (Kd.R_below X33.out hb)
   replace X34 := Am (Kd.R_below X34.out hb)
   replace X35 := Am (Kd.R_below X35.out hb)
   replace X36 := Am (Kd.R_below X36.out hb)
   replace BX1 := Am (Kb BX1.out hb)
   replace BX8 := Am (Kb BX8.out hb)
   replace BX9 := Am (Kb BX9.out hb)
   replace HB := Am (below_then HB.out HB.out.size hb)
   clear hb hS0
   obtain ⟨A37_, c37_, rfl⟩ := Kd.R_slice X37.out
   obtain ⟨r53, r54, ⟨K59, h59⟩, hF⟩ := HF.out
   clear HF
   have HF := Am hF
   clear hF
   have H59 := Am h59
   clear h59
   go_wp2_with fail
   (refine (impl_TotalOf.calls K59 A37_ c37_ r52 r53 r54 w68 (Kd.R_reads' X37.out).2.2 (Kd.R_reads' X37.out).2.1 H59.out).mono ?_)
   rintro e w69 ⟨rfl, hb⟩
   have Z69 : Ad (w68.heap.size ≤ w69.heap.size) := ⟨hb.size⟩
   replace X1 := Am (Kd.R_below X1.out hb)
   replace X28 := Am (Kd.R_below X28.out hb)
   replace X29 := Am (Kd.R_below X29.out hb)
   replace X30 := Am (Kd.R_below X30.out hb)
   replace X31 := Am (Kd.R_below X31.out hb)
   replace X32 := Am (Kd.R_below X32.out hb)
   replace X33 := Am (Kd.R_below X33.out hb)
   replace X34 := Am (Kd.R_below X34.out hb)
   replace X35 := Am (Kd.R_below X35.out hb)
   replace X36 := Am (Kd.R_below X36.out hb)
   replace X37 := Am (Kd.R_below X37.out hb)
   replace BX1 := Am (Kb BX1.out hb)
   replace BX8 := Am (Kb BX8.out hb)
   replace BX9 := Am (Kb BX9.out hb)
   replace HB := Am (below_then HB.out HB.out.size hb)
   clear hb
   obtain ⟨⟨K60, h60⟩, hF⟩ := HF.out
   clear HF
   have HF := Am hF
   clear hF
   have H60 := Am h60
   clear h60
   go_wp2_with fail
   (refine (spec_TotalOf.calls K60 A37_ c37_ r52 r53 r54 w69 (Kd.R_reads' X37.out).2.2 (Kd.R_reads' X37.out).2.1 H60.out).mono ?_)
   rintro e w70 ⟨rfl, hd⟩
   have hb := hd.below
   clear hd
   have Z70 : Ad (w69.heap.size ≤ w70.heap.size) := ⟨hb.size⟩
   replace X1 := Am (Kd.R_below X1.out hb)
   replace X28 := Am (Kd.R_below X28.out hb)
   replace X29 := Am (Kd.R_below X29.out hb)
   replace X30 := Am (Kd.R_below X30.out hb)
   replace X31 := Am (Kd.R_below X31.out hb)
   replace X32 := Am (Kd.R_below X32.out hb)
   replace X33 := Am (Kd.R_below X33.out hb)
   replace X34 := Am (Kd.R_below X34.out hb)
   replace X35 := Am (Kd.R_below X35.out hb)
   replace X36 := Am (Kd.R_below X36.out hb)
   replace X37 := Am (Kd.R_below X37.out hb)
   replace BX1 := Am (Kb BX1.out hb)
   replace BX8 := Am (Kb BX8.out hb)
   replace BX9 := Am (Kb BX9.out hb)
   replace HB := Am (below_then HB.out HB.out.size hb)
   clear hb
   obtain ⟨⟨K61, h61⟩, hF⟩ := HF.out
   clear HF
   have HF := Am hF
   clear hF
   have H61 := Am h61
   clear h61
   go_wp2_with fail
   (refine (laws_sameInts.calls K61 A33_ c33_ r49 A35_ c35_ r49 true w70 (Kd.R_reads' X33.out).2.2 (Kd.R_reads' X33.out).2.1 (Kd.R_reads' X35.out).2.2 (Kd.R_reads' X35.out).2.1 H61.out).mono ?_)
   rintro e w71 ⟨rfl, hd⟩
   have hb := hd.below
   clear hd
   have Z71 : Ad (w70.heap.size ≤ w71.heap.size) := ⟨hb.size⟩
   replace X1 := Am (Kd.R_below X1.out hb)
   replace X28 := Am (Kd.R_below X28.out hb)
   replace X29 := Am (Kd.R_below X29.out hb)
   replace X30 := Am (Kd.R_below X30.out hb)
   replace X31 := Am (Kd.R_below X31.out hb)
   replace X32 := Am (Kd.R_below X32.out hb)
   replace X33 := Am (Kd.R_below X33.out hb)
   replace X34 := Am (Kd.R_below X34.out hb)
   replace X35 := Am (Kd.R_below X35.out hb)
   replace X36 := Am (Kd.R_below X36.out hb)
   replace X37 := Am (Kd.R_below X37.out hb)
   replace BX1 := Am (Kb BX1.out hb)
   replace BX8 := Am (Kb BX8.out hb)
   replace BX9 := Am (Kb BX9.out hb)
   replace HB := Am (below_then HB.out HB.out.size hb)
   clear hb
   obtain ⟨⟨K62, h62⟩, hF⟩ := HF.out
   clear HF
   have HF := Am hF
   clear hF
   have H62 := Am h62
   clear h62
   go_wp2_with fail
   (refine (laws_sameTolds.calls K62 A34_ c34_ r50 A36_ c36_ r50 true w71 (Kd.R_reads' X34.out).2.2 (Kd.R_reads' X34.out).2.1 (Kd.R_reads' X36.out).2.2 (Kd.R_reads' X36.out).2.1 H62.out).mono ?_)
   rintro e w72 ⟨rfl, hd⟩
   have hb := hd.below
   clear hd
   have Z72 : Ad (w71.heap.size ≤ w72.heap.size) := ⟨hb.size⟩
   replace X1 := Am (Kd.R_below X1.out hb)
   replace X28 := Am (Kd.R_below X28.out hb)
   replace X29 := Am (Kd.R_below X29.out hb)
   replace X30 := Am (Kd.R_below X30.out hb)
   replace X31 := Am (Kd.R_below X31.out hb)
   replace X32 := Am (Kd.R_below X32.out hb)
   replace X33 := Am (Kd.R_below X33.out hb)
   replace X34 := Am (Kd.R_below X34.out hb)
   replace X35 := Am (Kd.R_below X35.out hb)
   replace X36 := Am (Kd.R_below X36.out hb)
   replace X37 := Am (Kd.R_below X37.out hb)
   replace BX1 := Am (Kb BX1.out hb)
   replace BX8 := Am (Kb BX8.out hb)
   replace BX9 := Am (Kb BX9.out hb)
   replace HB := Am (below_then HB.out HB.out.size hb)
   clear hb
   go_wp2
   go_ret
   exact ⟨rfl, HB.out⟩
end Go.Proofs.Yteecmbfebenjjaa.QFnSums
