-- Written by a program of this session (wip/mk.py) over the kit's print: Lean checks it.
import Derived.Test.YtpchgihhlhbjhaaQFnGroupsx0
import Derived.Test.YtpchgihhlhbjhaaQFnGroupsx1
import Derived.Test.YtpchgihhlhbjhaaQFnGroupsx2
import Derived.Test.YtpchgihhlhbjhaaQFnGroupsx3
import Derived.Test.YtpchgihhlhbjhaaQFnGroupsx4
import Derived.Test.YtpchgihhlhbjhaaQFnGroupsx5
namespace Go.Proofs.Ytpchgihhlhbjhaa.QFnGroups
open Go.RowKit Go.Proofs.YtpchgihhlhbjhaaW.PrintWords Go.Proofs.YtpchgihhlhbjhaaW.PrintLast Go.Proofs.YtpchgihhlhbjhaaW.PrintMore
attribute [local go_sem] max2_int min2_int max_two min_two max_three min_three max_four min_four   -- for this text's walks alone
set_option linter.unusedVariables false
set_option linter.unusedSimpArgs false

/-! ### laws_FnGroups: function 3 -/
section
open Go.RowKit
/-- A struct's variable is loaded whole. -/
theorem load_run {P : Program} {o : Oper} {a : Act} {W : World} {g : Nat} {cs : Array Value} {t : TypeId} (hg : W.heap[g]? = some (.cells cs t (0, 0))) (n : Nat) (hn : cs.size = n) (ty : TypeId) (x : Operand) (ho : o.op = .load ty x)
    (hx : a.eval x = .pointer (some ⟨g, 0, none⟩)) (d : TypeDesc) (hu : P.underlying ty = some d) (hd : (match d with | .struct _ | .array _ _ => true | _ => false) = true) (hi : (P.info? ty).map (·.size) = some n) :
    (execOp a.eval o).run P W = .ok (.value (.agg cs)) W := by
  subst hn
  unfold execOp
  simp only [ho, hx, Instr.loadAt, Instr.sureAddr, Sem.run_bind, Sem.run_pure, Result.andThen_ok, run_loadVar_row W g t ty cs (0, 0) d hg hu hd hi]

theorem store_run {P : Program} {o : Oper} {a : Act} {W : World} {g : Nat} {cs cs' : Array Value} {t : TypeId} (hg : W.heap[g]? = some (.cells cs t (0, 0))) (n : Nat) (hn : cs.size = n) (hn' : cs'.size = n) (ty : TypeId) (x y : Operand) (ho : o.op = .store ty x y)
    (hx : a.eval x = .pointer (some ⟨g, 0, none⟩)) (hy : a.eval y = .agg cs') (hi : (P.info? ty).map (·.size) = some n) (h1 : cs'.all (·.oneCell') = true) :
    (execOp a.eval o).run P W = .ok .skip (W.setRow g cs') := by
  unfold execOp
  simp only [ho, hx, hy, Instr.storeAt, Instr.sureAddr, Sem.run_bind, Sem.run_pure, Result.andThen_ok, run_storeVar_row W g t ty cs cs' hg (by rw [hn']; exact hi) (by rw [hn, hn']) h1]
theorem kept_setRow (W : World) (g : Nat) (cs : Array Value) : Kept W (W.setRow g cs) (fun k => k = g) := ⟨by simp, fun i _ hi => setRow_other W g i cs hi⟩
theorem below_setRow_ {B g : Nat} {w0 w : World} (hb : Below B w0 w) (hBg : B ≤ g) (cs : Array Value) : Below B w0 (w.setRow g cs) :=
  ⟨hb.os, hb.tape, hb.output, by simpa using hb.size, fun k hk => (setRow_other w g k cs (by omega)).trans (hb.block k hk)⟩
end
/-- What the law's calls answer. -/
def laws_FnGroups.Facts (l0 : List Int) (l1 : List Int) : Prop :=
  ((laws_big.f l0 l1 = some true) ∧ True) ∨ ((laws_big.f l0 l1 = some false) ∧ (∃ r1 : Int, (spec_DrawMajority.f l0 = some r1) ∧ ((∃ r2 : Int, (impl_Majority.f r1 = some (r2, true)) ∧ (spec_Majority.f r1 = some (r2, true)) ∧ (∃ K, impl_LeastMeeting.f K r1 = some (r2, true)) ∧ (∃ K, spec_LeastMeeting.f K r1 = some (r2, true)) ∧ (impl_IsGroup.f r1 = some true) ∧ (spec_IsGroup.f r1 = some true) ∧ ∃ r3 : List (List Int), (∃ K, impl_SetsOf.f K r1 r2 = some (r3, true)) ∧ ∃ r4 : List (List Int), (∃ K, impl_SetsOf.f K r1 (wrap64 (r2 - 1)) = some (r4, true)) ∧ (∃ K, impl_AllMeet.f K r3 r3 = some (true, true)) ∧ (∃ K, impl_AllMeet.f K r4 r4 = some (false, true)) ∧ ∃ r5 : Int, ∃ r6 : Int, (spec_DrawSetsOf.f l1 = some (r5, r6)) ∧ ∃ r7 : List (List Int), ∃ r8 : Bool, (∃ K, impl_SetsOf.f K r5 r6 = some (r7, r8)) ∧ (∃ K, spec_SetsOf.f K r5 r6 = some (r7, r8)) ∧ ∃ r9 : List (List Int), ∃ r10 : List (List Int), (∃ K, spec_DrawAllMeet.f K l1 = some (r9, r10)) ∧ ∃ r11 : Bool, ∃ r12 : Bool, (∃ K, impl_AllMeet.f K r9 r10 = some (r11, r12)) ∧ (∃ K, spec_AllMeet.f K r9 r10 = some (r11, r12)) ∧ ∃ r13 : Int, ∃ r14 : List Int, (∃ K, spec_DrawWithoutOnes.f K l1 = some (r13, r14)) ∧ ∃ r15 : List Int, ∃ r16 : Bool, (∃ K, impl_WithoutOnes.f K r13 r14 = some (r15, r16)) ∧ (∃ K, spec_WithoutOnes.f K r13 r14 = some (r15, r16)) ∧ (∃ K, laws_sameLists.f K r7 r7 = some true) ∧ (∃ K, laws_sameInts.f K r15 r15 = some true) ∧ True) ∨ (∃ r17 : Int, (impl_Majority.f r1 = some (r17, false)) ∧ (spec_Majority.f r1 = some (r17, false)) ∧ ∃ r18 : Int, (∃ K, impl_LeastMeeting.f K r1 = some (r18, false)) ∧ (∃ K, spec_LeastMeeting.f K r1 = some (r18, false)) ∧ (impl_IsGroup.f r1 = some false) ∧ (spec_IsGroup.f r1 = some false) ∧ ∃ r19 : Int, ∃ r20 : Int, (spec_DrawSetsOf.f l1 = some (r19, r20)) ∧ ∃ r21 : List (List Int), ∃ r22 : Bool, (∃ K, impl_SetsOf.f K r19 r20 = some (r21, r22)) ∧ (∃ K, spec_SetsOf.f K r19 r20 = some (r21, r22)) ∧ ∃ r23 : List (List Int), ∃ r24 : List (List Int), (∃ K, spec_DrawAllMeet.f K l1 = some (r23, r24)) ∧ ∃ r25 : Bool, ∃ r26 : Bool, (∃ K, impl_AllMeet.f K r23 r24 = some (r25, r26)) ∧ (∃ K, spec_AllMeet.f K r23 r24 = some (r25, r26)) ∧ ∃ r27 : Int, ∃ r28 : List Int, (∃ K, spec_DrawWithoutOnes.f K l1 = some (r27, r28)) ∧ ∃ r29 : List Int, ∃ r30 : Bool, (∃ K, impl_WithoutOnes.f K r27 r28 = some (r29, r30)) ∧ (∃ K, spec_WithoutOnes.f K r27 r28 = some (r29, r30)) ∧ (∃ K, laws_sameLists.f K r21 r21 = some true) ∧ (∃ K, laws_sameInts.f K r29 r29 = some true) ∧ True))))
set_option maxHeartbeats 8000000 in
set_option maxRecDepth 100000 in
theorem laws_FnGroups.calls (A0 : Option Addr) (c0 : Nat) (l0 : List Int) (A1 : Option Addr) (c1 : Nat) (l1 : List Int) (w : World) (hr0 : Kd.C (Kd.int .u8) w A0 l0.length l0) (hc0 : l0.length ≤ c0) (hr1 : Kd.C (Kd.int .u8) w A1 l1.length l1) (hc1 : l1.length ≤ c1) (h : laws_FnGroups.Facts l0 l1) :
    Calls Try.prog 3 #[.slice A0 l0.length c0, .slice A1 l1.length c1] w fun e w' => e = .returned (.bool true) ∧ Below w.heap.size w w' := by
  unfold laws_FnGroups.Facts at h
  have HR0 := Aside0.mk hr0
  have HC0 := Aside0.mk hc0
  clear hr0 hc0
  have HR1 := Aside0.mk hr1
  have HC1 := Aside0.mk hc1
  clear hr1 hc1
  have HF := Aside0.mk h
  clear h
  have HB := Aside0.mk (Below.refl w.heap.size w)
  rcases HF.out with hF | hF
  · clear HF
    have HF := Aside0.mk hF
    clear hF
    obtain ⟨h1, hF⟩ := HF.out
    clear HF
    have HF := Aside0.mk hF
    clear hF
    have H1 := Aside0.mk h1
    clear h1
    go_enter Try.func3, Try.ntmps3
    go_wp2_with fail
    (refine (laws_big.calls A0 c0 l0 A1 c1 l1 true w (Kd.C_below HR0.out HB.out) HC0.out (Kd.C_below HR1.out HB.out) HC1.out H1.out).mono ?_)
    rintro e w1 ⟨rfl, hd⟩
    have hb := hd.below
    clear hd
    have Z1 : Aside0 (w.heap.size ≤ w1.heap.size) := ⟨hb.size⟩
    replace HB := Aside0.mk (below_then HB.out HB.out.size hb)
    clear hb
    go_wp2
    go_ret
    exact ⟨rfl, HB.out⟩
  · clear HF
    have HF := Aside0.mk hF
    clear hF
    obtain ⟨h2, hF⟩ := HF.out
    clear HF
    have HF := Aside0.mk hF
    clear hF
    have H2 := Aside0.mk h2
    clear h2
    go_enter Try.func3, Try.ntmps3
    go_wp2_with fail
    (refine (laws_big.calls A0 c0 l0 A1 c1 l1 false w (Kd.C_below HR0.out HB.out) HC0.out (Kd.C_below HR1.out HB.out) HC1.out H2.out).mono ?_)
    rintro e w2 ⟨rfl, hd⟩
    have hb := hd.below
    clear hd
    have Z2 : Aside0 (w.heap.size ≤ w2.heap.size) := ⟨hb.size⟩
    replace HB := Aside0.mk (below_then HB.out HB.out.size hb)
    clear hb
    obtain ⟨r1, h3, hF⟩ := HF.out
    clear HF
    have HF := Aside0.mk hF
    clear hF
    have H3 := Aside0.mk h3
    clear h3
    go_wp2_with fail
    (refine (spec_DrawMajority.calls A0 c0 l0 r1 w2 (Kd.C_below HR0.out HB.out) HC0.out H3.out).mono ?_)
    rintro e w3 ⟨rfl, hb⟩
    have Z3 : Aside0 (w2.heap.size ≤ w3.heap.size) := ⟨hb.size⟩
    replace HB := Aside0.mk (below_then HB.out HB.out.size hb)
    clear hb
    rcases HF.out with hF | hF
    · clear HF
      have HF := Aside0.mk hF
      clear hF
      obtain ⟨r2, h4, hF⟩ := HF.out
      clear HF
      have HF := Aside0.mk hF
      clear hF
      have H4 := Aside0.mk h4
      clear h4
      go_wp2_with fail
      (refine (impl_Majority.calls r1 r2 true w3 H4.out).mono ?_)
      rintro e w4 ⟨rfl, hd⟩
      have hb := hd.below
      clear hd
      have Z4 : Aside0 (w3.heap.size ≤ w4.heap.size) := ⟨hb.size⟩
      replace HB := Aside0.mk (below_then HB.out HB.out.size hb)
      clear hb
      obtain ⟨h5, hF⟩ := HF.out
      clear HF
      have HF := Aside0.mk hF
      clear hF
      have H5 := Aside0.mk h5
      clear h5
      go_wp2_with fail
      (refine (spec_Majority.calls r1 r2 true w4 H5.out).mono ?_)
      rintro e w5 ⟨rfl, hd⟩
      have hb := hd.below
      clear hd
      have Z5 : Aside0 (w4.heap.size ≤ w5.heap.size) := ⟨hb.size⟩
      replace HB := Aside0.mk (below_then HB.out HB.out.size hb)
      clear hb
      obtain ⟨⟨K6, h6⟩, hF⟩ := HF.out
      clear HF
      have HF := Aside0.mk hF
      clear hF
      have H6 := Aside0.mk h6
      clear h6
      go_wp2_with fail
      (refine (impl_LeastMeeting.calls K6 r1 r2 true w5 H6.out).mono ?_)
      rintro e w6 ⟨rfl, hb⟩
      have Z6 : Aside0 (w5.heap.size ≤ w6.heap.size) := ⟨hb.size⟩
      replace HB := Aside0.mk (below_then HB.out HB.out.size hb)
      clear hb
      obtain ⟨⟨K7, h7⟩, hF⟩ := HF.out
      clear HF
      have HF := Aside0.mk hF
      clear hF
      have H7 := Aside0.mk h7
      clear h7
      go_wp2_with fail
      (refine (spec_LeastMeeting.calls K7 r1 r2 true w6 H7.out).mono ?_)
      rintro e w7 ⟨rfl, hb⟩
      have Z7 : Aside0 (w6.heap.size ≤ w7.heap.size) := ⟨hb.size⟩
      replace HB := Aside0.mk (below_then HB.out HB.out.size hb)
      clear hb
      obtain ⟨h8, hF⟩ := HF.out
      clear HF
      have HF := Aside0.mk hF
      clear hF
      have H8 := Aside0.mk h8
      clear h8
      go_wp2_with fail
      (refine (impl_IsGroup.calls r1 true w7 H8.out).mono ?_)
      rintro e w8 ⟨rfl, hd⟩
      have hb := hd.below
      clear hd
      have Z8 : Aside0 (w7.heap.size ≤ w8.heap.size) := ⟨hb.size⟩
      replace HB := Aside0.mk (below_then HB.out HB.out.size hb)
      clear hb
      obtain ⟨h9, hF⟩ := HF.out
      clear HF
      have HF := Aside0.mk hF
      clear hF
      have H9 := Aside0.mk h9
      clear h9
      go_wp2_with fail
      (refine (spec_IsGroup.calls r1 true w8 H9.out).mono ?_)
      rintro e w9 ⟨rfl, hd⟩
      have hb := hd.below
      clear hd
      have Z9 : Aside0 (w8.heap.size ≤ w9.heap.size) := ⟨hb.size⟩
      replace HB := Aside0.mk (below_then HB.out HB.out.size hb)
      clear hb
      go_wp2_with fail
      (refine (impl_IsGroup.calls r1 true w9 H8.out).mono ?_)
      rintro e w10 ⟨rfl, hd⟩
      have hb := hd.below
      clear hd
      have Z10 : Aside0 (w9.heap.size ≤ w10.heap.size) := ⟨hb.size⟩
      replace HB := Aside0.mk (below_then HB.out HB.out.size hb)
      clear hb
      obtain ⟨r3, ⟨K10, h10⟩, hF⟩ := HF.out
      clear HF
      have HF := Aside0.mk hF
      clear hF
      have H10 := Aside0.mk h10
      clear h10
      go_wp2_with fail
      (refine (impl_SetsOf.calls K10 r1 r2 r3 true w10 H10.out).mono ?_)
      rintro e w11 ⟨v0_, rfl, hS0, hb⟩
      have X1 : Aside0 (Kd.S (Kd.slice 3 (Kd.int .i64)) 37 w11 w.heap.size (fun k => w10.heap.size ≤ k ∧ k < w11.heap.size) v0_ r3) := ⟨Kd.S_mono (Kd.S_lower (Kd.S_bound hS0) HB.out.size) (fun k hk => ⟨hk.2.1, hk.2.2.1⟩)⟩
      have Z11 : Aside0 (w10.heap.size ≤ w11.heap.size) := ⟨hb.size⟩
      replace HB := Aside0.mk (below_then HB.out HB.out.size hb)
      clear hb hS0
      obtain ⟨A1_, c1_, rfl⟩ := Kd.S_slice X1.out
      obtain ⟨r4, ⟨K11, h11⟩, hF⟩ := HF.out
      clear HF
      have HF := Aside0.mk hF
      clear hF
      have H11 := Aside0.mk h11
      clear h11
      go_wp2_with fail
      (refine (impl_SetsOf.calls K11 r1 (wrap64 (r2 - 1)) r4 true w11 H11.out).mono ?_)
      rintro e w12 ⟨v0_, rfl, hS0, hb⟩
      have X2 : Aside0 (Kd.S (Kd.slice 3 (Kd.int .i64)) 37 w12 w.heap.size (fun k => w11.heap.size ≤ k ∧ k < w12.heap.size) v0_ r4) := ⟨Kd.S_mono (Kd.S_lower (Kd.S_bound hS0) HB.out.size) (fun k hk => ⟨hk.2.1, hk.2.2.1⟩)⟩
      have Z12 : Aside0 (w11.heap.size ≤ w12.heap.size) := ⟨hb.size⟩
      replace X1 := Aside0.mk (Kd.S_below X1.out hb)
      replace HB := Aside0.mk (below_then HB.out HB.out.size hb)
      clear hb hS0
      obtain ⟨A2_, c2_, rfl⟩ := Kd.S_slice X2.out
      obtain ⟨⟨K12, h12⟩, hF⟩ := HF.out
      clear HF
      have HF := Aside0.mk hF
      clear hF
      have H12 := Aside0.mk h12
      clear h12
      go_wp2_with fail
      (refine (impl_AllMeet.calls K12 A1_ c1_ r3 A1_ c1_ r3 true true w12 (Kd.S_reads' X1.out).2.2 (Kd.S_reads' X1.out).2.1 (Kd.S_reads' X1.out).2.2 (Kd.S_reads' X1.out).2.1 H12.out).mono ?_)
      rintro e w13 ⟨rfl, hb⟩
      have Z13 : Aside0 (w12.heap.size ≤ w13.heap.size) := ⟨hb.size⟩
      replace X1 := Aside0.mk (Kd.S_below X1.out hb)
      replace X2 := Aside0.mk (Kd.S_below X2.out hb)
      replace HB := Aside0.mk (below_then HB.out HB.out.size hb)
      clear hb
      obtain ⟨⟨K13, h13⟩, hF⟩ := HF.out
      clear HF
      have HF := Aside0.mk hF
      clear hF
      have H13 := Aside0.mk h13
      clear h13
      go_wp2_with fail
      (refine (impl_AllMeet.calls K13 A2_ c2_ r4 A2_ c2_ r4 false true w13 (Kd.S_reads' X2.out).2.2 (Kd.S_reads' X2.out).2.1 (Kd.S_reads' X2.out).2.2 (Kd.S_reads' X2.out).2.1 H13.out).mono ?_)
      rintro e w14 ⟨rfl, hb⟩
      have Z14 : Aside0 (w13.heap.size ≤ w14.heap.size) := ⟨hb.size⟩
      replace X1 := Aside0.mk (Kd.S_below X1.out hb)
      replace X2 := Aside0.mk (Kd.S_below X2.out hb)
      replace HB := Aside0.mk (below_then HB.out HB.out.size hb)
      clear hb
      obtain ⟨r5, r6, h14, hF⟩ := HF.out
      clear HF
      have HF := Aside0.mk hF
      clear hF
      have H14 := Aside0.mk h14
      clear h14
      go_wp2_with fail
      (refine (spec_DrawSetsOf.calls A1 c1 l1 r5 r6 w14 (Kd.C_below HR1.out HB.out) HC1.out H14.out).mono ?_)
      rintro e w15 ⟨rfl, hb⟩
      have Z15 : Aside0 (w14.heap.size ≤ w15.heap.size) := ⟨hb.size⟩
      replace X1 := Aside0.mk (Kd.S_below X1.out hb)
      replace X2 := Aside0.mk (Kd.S_below X2.out hb)
      replace HB := Aside0.mk (below_then HB.out HB.out.size hb)
      clear hb
      obtain ⟨r7, r8, ⟨K15, h15⟩, hF⟩ := HF.out
      clear HF
      have HF := Aside0.mk hF
      clear hF
      have H15 := Aside0.mk h15
      clear h15
      go_wp2_with fail
      (refine (impl_SetsOf.calls K15 r5 r6 r7 r8 w15 H15.out).mono ?_)
      rintro e w16 ⟨v0_, rfl, hS0, hb⟩
      have X3 : Aside0 (Kd.S (Kd.slice 3 (Kd.int .i64)) 37 w16 w.heap.size (fun k => w15.heap.size ≤ k ∧ k < w16.heap.size) v0_ r7) := ⟨Kd.S_mono (Kd.S_lower (Kd.S_bound hS0) HB.out.size) (fun k hk => ⟨hk.2.1, hk.2.2.1⟩)⟩
      have Z16 : Aside0 (w15.heap.size ≤ w16.heap.size) := ⟨hb.size⟩
      replace X1 := Aside0.mk (Kd.S_below X1.out hb)
      replace X2 := Aside0.mk (Kd.S_below X2.out hb)
      replace HB := Aside0.mk (below_then HB.out HB.out.size hb)
      clear hb hS0
      obtain ⟨A3_, c3_, rfl⟩ := Kd.S_slice X3.out
      obtain ⟨⟨K16, h16⟩, hF⟩ := HF.out
      clear HF
      have HF := Aside0.mk hF
      clear hF
      have H16 := Aside0.mk h16
      clear h16
      go_wp2_with fail
      (refine (spec_SetsOf.calls K16 r5 r6 r7 r8 w16 H16.out).mono ?_)
      rintro e w17 ⟨v0_, rfl, hS0, hb⟩
      have X4 : Aside0 (Kd.S (Kd.slice 3 (Kd.int .i64)) 37 w17 w.heap.size (fun k => w16.heap.size ≤ k ∧ k < w17.heap.size) v0_ r7) := ⟨Kd.S_mono (Kd.S_lower (Kd.S_bound hS0) HB.out.size) (fun k hk => ⟨hk.2.1, hk.2.2.1⟩)⟩
      have Z17 : Aside0 (w16.heap.size ≤ w17.heap.size) := ⟨hb.size⟩
      replace X1 := Aside0.mk (Kd.S_below X1.out hb)
      replace X2 := Aside0.mk (Kd.S_below X2.out hb)
      replace X3 := Aside0.mk (Kd.S_below X3.out hb)
      replace HB := Aside0.mk (below_then HB.out HB.out.size hb)
      clear hb hS0
      obtain ⟨A4_, c4_, rfl⟩ := Kd.S_slice X4.out
      obtain ⟨r9, r10, ⟨K17, h17⟩, hF⟩ := HF.out
      clear HF
      have HF := Aside0.mk hF
      clear hF
      have H17 := Aside0.mk h17
      clear h17
      go_wp2_with fail
      (refine (spec_DrawAllMeet.calls K17 A1 c1 l1 r9 r10 w17 (Kd.C_below HR1.out HB.out) HC1.out H17.out).mono ?_)
      rintro e w18 ⟨v0_, v1_, rfl, hS0, hS1, hb⟩
      have X5 : Aside0 (Kd.S (Kd.slice 3 (Kd.int .i64)) 37 w18 w.heap.size (fun k => w17.heap.size ≤ k ∧ k < w18.heap.size) v0_ r9) := ⟨Kd.S_mono (Kd.S_lower (Kd.S_bound hS0) HB.out.size) (fun k hk => ⟨hk.2.1, hk.2.2.1⟩)⟩
      have X6 : Aside0 (Kd.S (Kd.slice 3 (Kd.int .i64)) 37 w18 w.heap.size (fun k => w17.heap.size ≤ k ∧ k < w18.heap.size) v1_ r10) := ⟨Kd.S_mono (Kd.S_lower (Kd.S_bound hS1) HB.out.size) (fun k hk => ⟨hk.2.1, hk.2.2.1⟩)⟩
      have Z18 : Aside0 (w17.heap.size ≤ w18.heap.size) := ⟨hb.size⟩
      replace X1 := Aside0.mk (Kd.S_below X1.out hb)
      replace X2 := Aside0.mk (Kd.S_below X2.out hb)
      replace X3 := Aside0.mk (Kd.S_below X3.out hb)
      replace X4 := Aside0.mk (Kd.S_below X4.out hb)
      replace HB := Aside0.mk (below_then HB.out HB.out.size hb)
      clear hb hS0 hS1
      obtain ⟨A5_, c5_, rfl⟩ := Kd.S_slice X5.out
      obtain ⟨A6_, c6_, rfl⟩ := Kd.S_slice X6.out
      obtain ⟨r11, r12, ⟨K18, h18⟩, hF⟩ := HF.out
      clear HF
      have HF := Aside0.mk hF
      clear hF
      have H18 := Aside0.mk h18
      clear h18
      go_wp2_with fail
      (refine (impl_AllMeet.calls K18 A5_ c5_ r9 A6_ c6_ r10 r11 r12 w18 (Kd.S_reads' X5.out).2.2 (Kd.S_reads' X5.out).2.1 (Kd.S_reads' X6.out).2.2 (Kd.S_reads' X6.out).2.1 H18.out).mono ?_)
      rintro e w19 ⟨rfl, hb⟩
      have Z19 : Aside0 (w18.heap.size ≤ w19.heap.size) := ⟨hb.size⟩
      replace X1 := Aside0.mk (Kd.S_below X1.out hb)
      replace X2 := Aside0.mk (Kd.S_below X2.out hb)
      replace X3 := Aside0.mk (Kd.S_below X3.out hb)
      replace X4 := Aside0.mk (Kd.S_below X4.out hb)
      replace X5 := Aside0.mk (Kd.S_below X5.out hb)
      replace X6 := Aside0.mk (Kd.S_below X6.out hb)
      replace HB := Aside0.mk (below_then HB.out HB.out.size hb)
      clear hb
      obtain ⟨⟨K19, h19⟩, hF⟩ := HF.out
      clear HF
      have HF := Aside0.mk hF
      clear hF
      have H19 := Aside0.mk h19
      clear h19
      go_wp2_with fail
      (refine (spec_AllMeet.calls K19 A5_ c5_ r9 A6_ c6_ r10 r11 r12 w19 (Kd.S_reads' X5.out).2.2 (Kd.S_reads' X5.out).2.1 (Kd.S_reads' X6.out).2.2 (Kd.S_reads' X6.out).2.1 H19.out).mono ?_)
      rintro e w20 ⟨rfl, hd⟩
      have hb := hd.below
      clear hd
      have Z20 : Aside0 (w19.heap.size ≤ w20.heap.size) := ⟨hb.size⟩
      replace X1 := Aside0.mk (Kd.S_below X1.out hb)
      replace X2 := Aside0.mk (Kd.S_below X2.out hb)
      replace X3 := Aside0.mk (Kd.S_below X3.out hb)
      replace X4 := Aside0.mk (Kd.S_below X4.out hb)
      replace X5 := Aside0.mk (Kd.S_below X5.out hb)
      replace X6 := Aside0.mk (Kd.S_below X6.out hb)
      replace HB := Aside0.mk (below_then HB.out HB.out.size hb)
      clear hb
      obtain ⟨r13, r14, ⟨K20, h20⟩, hF⟩ := HF.out
      clear HF
      have HF := Aside0.mk hF
      clear hF
      have H20 := Aside0.mk h20
      clear h20
      go_wp2_with fail
      (refine (spec_DrawWithoutOnes.calls K20 A1 c1 l1 r13 r14 w20 (Kd.C_below HR1.out HB.out) HC1.out H20.out).mono ?_)
      rintro e w21 ⟨v0_, rfl, hS0, hb⟩
      have X7 : Aside0 (Kd.R (Kd.int .i64) 3 w21 w.heap.size (fun k => w20.heap.size ≤ k ∧ k < w21.heap.size) v0_ r14) := ⟨Kd.R_mono (Kd.R_lower (Kd.R_bound hS0) HB.out.size) (fun k hk => ⟨hk.2.1, hk.2.2.1⟩)⟩
      have Z21 : Aside0 (w20.heap.size ≤ w21.heap.size) := ⟨hb.size⟩
      replace X1 := Aside0.mk (Kd.S_below X1.out hb)
      replace X2 := Aside0.mk (Kd.S_below X2.out hb)
      replace X3 := Aside0.mk (Kd.S_below X3.out hb)
      replace X4 := Aside0.mk (Kd.S_below X4.out hb)
      replace X5 := Aside0.mk (Kd.S_below X5.out hb)
      replace X6 := Aside0.mk (Kd.S_below X6.out hb)
      replace HB := Aside0.mk (below_then HB.out HB.out.size hb)
      clear hb hS0
      obtain ⟨A7_, c7_, rfl⟩ := Kd.R_slice X7.out
      obtain ⟨r15, r16, ⟨K21, h21⟩, hF⟩ := HF.out
      clear HF
      have HF := Aside0.mk hF
      clear hF
      have H21 := Aside0.mk h21
      clear h21
      go_wp2_with fail
      (refine (impl_WithoutOnes.calls K21 r13 A7_ c7_ r14 r15 r16 w21 (Kd.R_reads' X7.out).2.2 (Kd.R_reads' X7.out).2.1 H21.out).mono ?_)
      rintro e w22 ⟨v0_, rfl, hS0, hb⟩
      have X8 : Aside0 (Kd.R (Kd.int .i64) 3 w22 w.heap.size (fun k => w21.heap.size ≤ k ∧ k < w22.heap.size) v0_ r15) := ⟨Kd.R_mono (Kd.R_lower (Kd.R_bound hS0) HB.out.size) (fun k hk => ⟨hk.2.1, hk.2.2.1⟩)⟩
      have Z22 : Aside0 (w21.heap.size ≤ w22.heap.size) := ⟨hb.size⟩
      replace X1 := Aside0.mk (Kd.S_below X1.out hb)
      replace X2 := Aside0.mk (Kd.S_below X2.out hb)
      replace X3 := Aside0.mk (Kd.S_below X3.out hb)
      replace X4 := Aside0.mk (Kd.S_below X4.out hb)
      replace X5 := Aside0.mk (Kd.S_below X5.out hb)
      replace X6 := Aside0.mk (Kd.S_below X6.out hb)
      replace X7 := Aside0.mk (Kd.R_below X7.out hb)
      replace HB := Aside0.mk (below_then HB.out HB.out.size hb)
      clear hb hS0
      obtain ⟨A8_, c8_, rfl⟩ := Kd.R_slice X8.out
      obtain ⟨⟨K22, h22⟩, hF⟩ := HF.out
      clear HF
      have HF := Aside0.mk hF
      clear hF
      have H22 := Aside0.mk h22
      clear h22
      go_wp2_with fail
      (refine (spec_WithoutOnes.calls K22 r13 A7_ c7_ r14 r15 r16 w22 (Kd.R_reads' X7.out).2.2 (Kd.R_reads' X7.out).2.1 H22.out).mono ?_)
      rintro e w23 ⟨v0_, rfl, hS0, hb⟩
      have X9 : Aside0 (Kd.R (Kd.int .i64) 3 w23 w.heap.size (fun k => w22.heap.size ≤ k ∧ k < w23.heap.size) v0_ r15) := ⟨Kd.R_mono (Kd.R_lower (Kd.R_bound hS0) HB.out.size) (fun k hk => ⟨hk.2.1, hk.2.2.1⟩)⟩
      have Z23 : Aside0 (w22.heap.size ≤ w23.heap.size) := ⟨hb.size⟩
      replace X1 := Aside0.mk (Kd.S_below X1.out hb)
      replace X2 := Aside0.mk (Kd.S_below X2.out hb)
      replace X3 := Aside0.mk (Kd.S_below X3.out hb)
      replace X4 := Aside0.mk (Kd.S_below X4.out hb)
      replace X5 := Aside0.mk (Kd.S_below X5.out hb)
      replace X6 := Aside0.mk (Kd.S_below X6.out hb)
      replace X7 := Aside0.mk (Kd.R_below X7.out hb)
      replace X8 := Aside0.mk (Kd.R_below X8.out hb)
      replace HB := Aside0.mk (below_then HB.out HB.out.size hb)
      clear hb hS0
      obtain ⟨A9_, c9_, rfl⟩ := Kd.R_slice X9.out
      obtain ⟨⟨K23, h23⟩, hF⟩ := HF.out
      clear HF
      have HF := Aside0.mk hF
      clear hF
      have H23 := Aside0.mk h23
      clear h23
      go_wp2_with fail
      (refine (laws_sameLists.calls K23 A3_ c3_ r7 A4_ c4_ r7 true w23 (Kd.S_reads' X3.out).2.2 (Kd.S_reads' X3.out).2.1 (Kd.S_reads' X4.out).2.2 (Kd.S_reads' X4.out).2.1 H23.out).mono ?_)
      rintro e w24 ⟨rfl, hd⟩
      have hb := hd.below
      clear hd
      have Z24 : Aside0 (w23.heap.size ≤ w24.heap.size) := ⟨hb.size⟩
      replace X1 := Aside0.mk (Kd.S_below X1.out hb)
      replace X2 := Aside0.mk (Kd.S_below X2.out hb)
      replace X3 := Aside0.mk (Kd.S_below X3.out hb)
      replace X4 := Aside0.mk (Kd.S_below X4.out hb)
      replace X5 := Aside0.mk (Kd.S_below X5.out hb)
      replace X6 := Aside0.mk (Kd.S_below X6.out hb)
      replace X7 := Aside0.mk (Kd.R_below X7.out hb)
      replace X8 := Aside0.mk (Kd.R_below X8.out hb)
      replace X9 := Aside0.mk (Kd.R_below X9.out hb)
      replace HB := Aside0.mk (below_then HB.out HB.out.size hb)
      clear hb
      obtain ⟨⟨K24, h24⟩, hF⟩ := HF.out
      clear HF
      have HF := Aside0.mk hF
      clear hF
      have H24 := Aside0.mk h24
      clear h24
      go_wp2_with fail
      (refine (laws_sameInts.calls K24 A8_ c8_ r15 A9_ c9_ r15 true w24 (Kd.R_reads' X8.out).2.2 (Kd.R_reads' X8.out).2.1 (Kd.R_reads' X9.out).2.2 (Kd.R_reads' X9.out).2.1 H24.out).mono ?_)
      rintro e w25 ⟨rfl, hd⟩
      have hb := hd.below
      clear hd
      have Z25 : Aside0 (w24.heap.size ≤ w25.heap.size) := ⟨hb.size⟩
      replace X1 := Aside0.mk (Kd.S_below X1.out hb)
      replace X2 := Aside0.mk (Kd.S_below X2.out hb)
      replace X3 := Aside0.mk (Kd.S_below X3.out hb)
      replace X4 := Aside0.mk (Kd.S_below X4.out hb)
      replace X5 := Aside0.mk (Kd.S_below X5.out hb)
      replace X6 := Aside0.mk (Kd.S_below X6.out hb)
      replace X7 := Aside0.mk (Kd.R_below X7.out hb)
      replace X8 := Aside0.mk (Kd.R_below X8.out hb)
      replace X9 := Aside0.mk (Kd.R_below X9.out hb)
      replace HB := Aside0.mk (below_then HB.out HB.out.size hb)
      clear hb
      go_wp2
      go_ret
      exact ⟨rfl, HB.out⟩
    · clear HF
      have HF := Aside0.mk hF
      clear hF
      obtain ⟨r17, h25, hF⟩ := HF.out
      clear HF
      have HF := Aside0.mk hF
      clear hF
      have H25 := Aside0.mk h25
      clear h25
      go_wp2_with fail
      (refine (impl_Majority.calls r1 r17 false w3 H25.out).mono ?_)
      rintro e w26 ⟨rfl, hd⟩
      have hb := hd.below
      clear hd
      have Z26 : Aside0 (w3.heap.size ≤ w26.heap.size) := ⟨hb.size⟩
      replace HB := Aside0.mk (below_then HB.out HB.out.size hb)
      clear hb
      obtain ⟨h26, hF⟩ := HF.out
      clear HF
      have HF := Aside0.mk hF
      clear hF
      have H26 := Aside0.mk h26
      clear h26
      go_wp2_with fail
      (refine (spec_Majority.calls r1 r17 false w26 H26.out).mono ?_)
      rintro e w27 ⟨rfl, hd⟩
      have hb := hd.below
      clear hd
      have Z27 : Aside0 (w26.heap.size ≤ w27.heap.size) := ⟨hb.size⟩
      replace HB := Aside0.mk (below_then HB.out HB.out.size hb)
      clear hb
      obtain ⟨r18, ⟨K27, h27⟩, hF⟩ := HF.out
      clear HF
      have HF := Aside0.mk hF
      clear hF
      have H27 := Aside0.mk h27
      clear h27
      go_wp2_with fail
      (refine (impl_LeastMeeting.calls K27 r1 r18 false w27 H27.out).mono ?_)
      rintro e w28 ⟨rfl, hb⟩
      have Z28 : Aside0 (w27.heap.size ≤ w28.heap.size) := ⟨hb.size⟩
      replace HB := Aside0.mk (below_then HB.out HB.out.size hb)
      clear hb
      obtain ⟨⟨K28, h28⟩, hF⟩ := HF.out
      clear HF
      have HF := Aside0.mk hF
      clear hF
      have H28 := Aside0.mk h28
      clear h28
      go_wp2_with fail
      (refine (spec_LeastMeeting.calls K28 r1 r18 false w28 H28.out).mono ?_)
      rintro e w29 ⟨rfl, hb⟩
      have Z29 : Aside0 (w28.heap.size ≤ w29.heap.size) := ⟨hb.size⟩
      replace HB := Aside0.mk (below_then HB.out HB.out.size hb)
      clear hb
      obtain ⟨h29, hF⟩ := HF.out
      clear HF
      have HF := Aside0.mk hF
      clear hF
      have H29 := Aside0.mk h29
      clear h29
      go_wp2_with fail
      (refine (impl_IsGroup.calls r1 false w29 H29.out).mono ?_)
      rintro e w30 ⟨rfl, hd⟩
      have hb := hd.below
      clear hd
      have Z30 : Aside0 (w29.heap.size ≤ w30.heap.size) := ⟨hb.size⟩
      replace HB := Aside0.mk (below_then HB.out HB.out.size hb)
      clear hb
      obtain ⟨h30, hF⟩ := HF.out
      clear HF
      have HF := Aside0.mk hF
      clear hF
      have H30 := Aside0.mk h30
      clear h30
      go_wp2_with fail
      (refine (spec_IsGroup.calls r1 false w30 H30.out).mono ?_)
      rintro e w31 ⟨rfl, hd⟩
      have hb := hd.below
      clear hd
      have Z31 : Aside0 (w30.heap.size ≤ w31.heap.size) := ⟨hb.size⟩
      replace HB := Aside0.mk (below_then HB.out HB.out.size hb)
      clear hb
      go_wp2_with fail
      (refine (impl_IsGroup.calls r1 false w31 H29.out).mono ?_)
      rintro e w32 ⟨rfl, hd⟩
      have hb := hd.below
      clear hd
      have Z32 : Aside0 (w31.heap.size ≤ w32.heap.size) := ⟨hb.size⟩
      replace HB := Aside0.mk (below_then HB.out HB.out.size hb)
      clear hb
      obtain ⟨r19, r20, h31, hF⟩ := HF.out
      clear HF
      have HF := Aside0.mk hF
      clear hF
      have H31 := Aside0.mk h31
      clear h31
      go_wp2_with fail
      (refine (spec_DrawSetsOf.calls A1 c1 l1 r19 r20 w32 (Kd.C_below HR1.out HB.out) HC1.out H31.out).mono ?_)
      rintro e w33 ⟨rfl, hb⟩
      have Z33 : Aside0 (w32.heap.size ≤ w33.heap.size) := ⟨hb.size⟩
      replace HB := Aside0.mk (below_then HB.out HB.out.size hb)
      clear hb
      obtain ⟨r21, r22, ⟨K32, h32⟩, hF⟩ := HF.out
      clear HF
      have HF := Aside0.mk hF
      clear hF
      have H32 := Aside0.mk h32
      clear h32
      go_wp2_with fail
      (refine (impl_SetsOf.calls K32 r19 r20 r21 r22 w33 H32.out).mono ?_)
      rintro e w34 ⟨v0_, rfl, hS0, hb⟩
      have X10 : Aside0 (Kd.S (Kd.slice 3 (Kd.int .i64)) 37 w34 w.heap.size (fun k => w33.heap.size ≤ k ∧ k < w34.heap.size) v0_ r21) := ⟨Kd.S_mono (Kd.S_lower (Kd.S_bound hS0) HB.out.size) (fun k hk => ⟨hk.2.1, hk.2.2.1⟩)⟩
      have Z34 : Aside0 (w33.heap.size ≤ w34.heap.size) := ⟨hb.size⟩
      replace HB := Aside0.mk (below_then HB.out HB.out.size hb)
      clear hb hS0
      obtain ⟨A10_, c10_, rfl⟩ := Kd.S_slice X10.out
      obtain ⟨⟨K33, h33⟩, hF⟩ := HF.out
      clear HF
      have HF := Aside0.mk hF
      clear hF
      have H33 := Aside0.mk h33
      clear h33
      go_wp2_with fail
      (refine (spec_SetsOf.calls K33 r19 r20 r21 r22 w34 H33.out).mono ?_)
      rintro e w35 ⟨v0_, rfl, hS0, hb⟩
      have X11 : Aside0 (Kd.S (Kd.slice 3 (Kd.int .i64)) 37 w35 w.heap.size (fun k => w34.heap.size ≤ k ∧ k < w35.heap.size) v0_ r21) := ⟨Kd.S_mono (Kd.S_lower (Kd.S_bound hS0) HB.out.size) (fun k hk => ⟨hk.2.1, hk.2.2.1⟩)⟩
      have Z35 : Aside0 (w34.heap.size ≤ w35.heap.size) := ⟨hb.size⟩
      replace X10 := Aside0.mk (Kd.S_below X10.out hb)
      replace HB := Aside0.mk (below_then HB.out HB.out.size hb)
      clear hb hS0
      obtain ⟨A11_, c11_, rfl⟩ := Kd.S_slice X11.out
      obtain ⟨r23, r24, ⟨K34, h34⟩, hF⟩ := HF.out
      clear HF
      have HF := Aside0.mk hF
      clear hF
      have H34 := Aside0.mk h34
      clear h34
      go_wp2_with fail
      (refine (spec_DrawAllMeet.calls K34 A1 c1 l1 r23 r24 w35 (Kd.C_below HR1.out HB.out) HC1.out H34.out).mono ?_)
      rintro e w36 ⟨v0_, v1_, rfl, hS0, hS1, hb⟩
      have X12 : Aside0 (Kd.S (Kd.slice 3 (Kd.int .i64)) 37 w36 w.heap.size (fun k => w35.heap.size ≤ k ∧ k < w36.heap.size) v0_ r23) := ⟨Kd.S_mono (Kd.S_lower (Kd.S_bound hS0) HB.out.size) (fun k hk => ⟨hk.2.1, hk.2.2.1⟩)⟩
      have X13 : Aside0 (Kd.S (Kd.slice 3 (Kd.int .i64)) 37 w36 w.heap.size (fun k => w35.heap.size ≤ k ∧ k < w36.heap.size) v1_ r24) := ⟨Kd.S_mono (Kd.S_lower (Kd.S_bound hS1) HB.out.size) (fun k hk => ⟨hk.2.1, hk.2.2.1⟩)⟩
      have Z36 : Aside0 (w35.heap.size ≤ w36.heap.size) := ⟨hb.size⟩
      replace X10 := Aside0.mk (Kd.S_below X10.out hb)
      replace X11 := Aside0.mk (Kd.S_below X11.out hb)
      replace HB := Aside0.mk (below_then HB.out HB.out.size hb)
      clear hb hS0 hS1
      obtain ⟨A12_, c12_, rfl⟩ := Kd.S_slice X12.out
      obtain ⟨A13_, c13_, rfl⟩ := Kd.S_slice X13.out
      obtain ⟨r25, r26, ⟨K35, h35⟩, hF⟩ := HF.out
      clear HF
      have HF := Aside0.mk hF
      clear hF
      have H35 := Aside0.mk h35
      clear h35
      go_wp2_with fail
      (refine (impl_AllMeet.calls K35 A12_ c12_ r23 A13_ c13_ r24 r25 r26 w36 (Kd.S_reads' X12.out).2.2 (Kd.S_reads' X12.out).2.1 (Kd.S_reads' X13.out).2.2 (Kd.S_reads' X13.out).2.1 H35.out).mono ?_)
      rintro e w37 ⟨rfl, hb⟩
      have Z37 : Aside0 (w36.heap.size ≤ w37.heap.size) := ⟨hb.size⟩
      replace X10 := Aside0.mk (Kd.S_below X10.out hb)
      replace X11 := Aside0.mk (Kd.S_below X11.out hb)
      replace X12 := Aside0.mk (Kd.S_below X12.out hb)
      replace X13 := Aside0.mk (Kd.S_below X13.out hb)
      replace HB := Aside0.mk (below_then HB.out HB.out.size hb)
      clear hb
      obtain ⟨⟨K36, h36⟩, hF⟩ := HF.out
      clear HF
      have HF := Aside0.mk hF
      clear hF
      have H36 := Aside0.mk h36
      clear h36
      go_wp2_with fail
      (refine (spec_AllMeet.calls K36 A12_ c12_ r23 A13_ c13_ r24 r25 r26 w37 (Kd.S_reads' X12.out).2.2 (Kd.S_reads' X12.out).2.1 (Kd.S_reads' X13.out).2.2 (Kd.S_reads' X13.out).2.1 H36.out).mono ?_)
      rintro e w38 ⟨rfl, hd⟩
      have hb := hd.below
      clear hd
      have Z38 : Aside0 (w37.heap.size ≤ w38.heap.size) := ⟨hb.size⟩
      replace X10 := Aside0.mk (Kd.S_below X10.out hb)
      replace X11 := Aside0.mk (Kd.S_below X11.out hb)
      replace X12 := Aside0.mk (Kd.S_below X12.out hb)
      replace X13 := Aside0.mk (Kd.S_below X13.out hb)
      replace HB := Aside0.mk (below_then HB.out HB.out.size hb)
      clear hb
      obtain ⟨r27, r28, ⟨K37, h37⟩, hF⟩ := HF.out
      clear HF
      have HF := Aside0.mk hF
      clear hF
      have H37 := Aside0.mk h37
      clear h37
      go_wp2_with fail
      (refine (spec_DrawWithoutOnes.calls K37 A1 c1 l1 r27 r28 w38 (Kd.C_below HR1.out HB.out) HC1.out H37.out).mono ?_)
      rintro e w39 ⟨v0_, rfl, hS0, hb⟩
      have X14 : Aside0 (Kd.R (Kd.int .i64) 3 w39 w.heap.size (fun k => w38.heap.size ≤ k ∧ k < w39.heap.size) v0_ r28) := ⟨Kd.R_mono (Kd.R_lower (Kd.R_bound hS0) HB.out.size) (fun k hk => ⟨hk.2.1, hk.2.2.1⟩)⟩
      have Z39 : Aside0 (w38.heap.size ≤ w39.heap.size) := ⟨hb.size⟩
      replace X10 := Aside0.mk (Kd.S_below X10.out hb)
      replace X11 := Aside0.mk (Kd.S_below X11.out hb)
      replace X12 := Aside0.mk (Kd.S_below X12.out hb)
      replace X13 := Aside0.mk (Kd.S_below X13.out hb)
      replace HB := Aside0.mk (below_then HB.out HB.out.size hb)
      clear hb hS0
      obtain ⟨A14_, c14_, rfl⟩ := Kd.R_slice X14.out
      obtain ⟨r29, r30, ⟨K38, h38⟩, hF⟩ := HF.out
      clear HF
      have HF := Aside0.mk hF
      clear hF
      have H38 := Aside0.mk h38
      clear h38
      go_wp2_with fail
      (refine (impl_WithoutOnes.calls K38 r27 A14_ c14_ r28 r29 r30 w39 (Kd.R_reads' X14.out).2.2 (Kd.R_reads' X14.out).2.1 H38.out).mono ?_)
      rintro e w40 ⟨v0_, rfl, hS0, hb⟩
      have X15 : Aside0 (Kd.R (Kd.int .i64) 3 w40 w.heap.size (fun k => w39.heap.size ≤ k ∧ k < w40.heap.size) v0_ r29) := ⟨Kd.R_mono (Kd.R_lower (Kd.R_bound hS0) HB.out.size) (fun k hk => ⟨hk.2.1, hk.2.2.1⟩)⟩
      have Z40 : Aside0 (w39.heap.size ≤ w40.heap.size) := ⟨hb.size⟩
      replace X10 := Aside0.mk (Kd.S_below X10.out hb)
      replace X11 := Aside0.mk (Kd.S_below X11.out hb)
      replace X12 := Aside0.mk (Kd.S_below X12.out hb)
      replace X13 := Aside0.mk (Kd.S_below X13.out hb)
      replace X14 := Aside0.mk (Kd.R_below X14.out hb)
      replace HB := Aside0.mk (below_then HB.out HB.out.size hb)
      clear hb hS0
      obtain ⟨A15_, c15_, rfl⟩ := Kd.R_slice X15.out
      obtain ⟨⟨K39, h39⟩, hF⟩ := HF.out
      clear HF
      have HF := Aside0.mk hF
      clear hF
      have H39 := Aside0.mk h39
      clear h39
      go_wp2_with fail
      (refine (spec_WithoutOnes.calls K39 r27 A14_ c14_ r28 r29 r30 w40 (Kd.R_reads' X14.out).2.2 (Kd.R_reads' X14.out).2.1 H39.out).mono ?_)
      rintro e w41 ⟨v0_, rfl, hS0, hb⟩
      have X16 : Aside0 (Kd.R (Kd.int .i64) 3 w41 w.heap.size (fun k => w40.heap.size ≤ k ∧ k < w41.heap.size) v0_ r29) := ⟨Kd.R_mono (Kd.R_lower (Kd.R_bound hS0) HB.out.size) (fun k hk => ⟨hk.2.1, hk.2.2.1⟩)⟩
      have Z41 : Aside0 (w40.heap.size ≤ w41.heap.size) := ⟨hb.size⟩
      replace X10 := Aside0.mk (Kd.S_below X10.out hb)
      replace X11 := Aside0.mk (Kd.S_below X11.out hb)
      replace X12 := Aside0.mk (Kd.S_below X12.out hb)
      replace X13 := Aside0.mk (Kd.S_below X13.out hb)
      replace X14 := Aside0.mk (Kd.R_below X14.out hb)
      replace X15 := Aside0.mk (Kd.R_below X15.out hb)
      replace HB := Aside0.mk (below_then HB.out HB.out.size hb)
      clear hb hS0
      obtain ⟨A16_, c16_, rfl⟩ := Kd.R_slice X16.out
      obtain ⟨⟨K40, h40⟩, hF⟩ := HF.out
      clear HF
      have HF := Aside0.mk hF
      clear hF
      have H40 := Aside0.mk h40
      clear h40
      go_wp2_with fail
      (refine (laws_sameLists.calls K40 A10_ c10_ r21 A11_ c11_ r21 true w41 (Kd.S_reads' X10.out).2.2 (Kd.S_reads' X10.out).2.1 (Kd.S_reads' X11.out).2.2 (Kd.S_reads' X11.out).2.1 H40.out).mono ?_)
      rintro e w42 ⟨rfl, hd⟩
      have hb := hd.below
      clear hd
      have Z42 : Aside0 (w41.heap.size ≤ w42.heap.size) := ⟨hb.size⟩
      replace X10 := Aside0.mk (Kd.S_below X10.out hb)
      replace X11 := Aside0.mk (Kd.S_below X11.out hb)
      replace X12 := Aside0.mk (Kd.S_below X12.out hb)
      replace X13 := Aside0.mk (Kd.S_below X13.out hb)
      replace X14 := Aside0.mk (Kd.R_below X14.out hb)
      replace X15 := Aside0.mk (Kd.R_below X15.out hb)
      replace X16 := Aside0.mk (Kd.R_below X16.out hb)
      replace HB := Aside0.mk (below_then HB.out HB.out.size hb)
      clear hb
      obtain ⟨⟨K41, h41⟩, hF⟩ := HF.out
      clear HF
      have HF := Aside0.mk hF
      clear hF
      have H41 := Aside0.mk h41
      clear h41
      go_wp2_with fail
      (refine (laws_sameInts.calls K41 A15_ c15_ r29 A16_ c16_ r29 true w42 (Kd.R_reads' X15.out).2.2 (Kd.R_reads' X15.out).2.1 (Kd.R_reads' X16.out).2.2 (Kd.R_reads' X16.out).2.1 H41.out).mono ?_)
      rintro e w43 ⟨rfl, hd⟩
      have hb := hd.below
      clear hd
      have Z43 : Aside0 (w42.heap.size ≤ w43.heap.size) := ⟨hb.size⟩
      replace X10 := Aside0.mk (Kd.S_below X10.out hb)
      replace X11 := Aside0.mk (Kd.S_below X11.out hb)
      replace X12 := Aside0.mk (Kd.S_below X12.out hb)
      replace X13 := Aside0.mk (Kd.S_below X13.out hb)
      replace X14 := Aside0.mk (Kd.R_below X14.out hb)
      replace X15 := Aside0.mk (Kd.R_below X15.out hb)
      replace X16 := Aside0.mk (Kd.R_below X16.out hb)
      replace HB := Aside0.mk (below_then HB.out HB.out.size hb)
      clear hb
      go_wp2
      go_ret
      exact ⟨rfl, HB.out⟩

/-- THE ONE PURE STATEMENT of laws_FnGroups. -/
def laws_FnGroups.Pure : Prop := ∀ (l0 : List Int) (l1 : List Int), (l0.length ≤ 9223372036854775807 ∧ ∀ y ∈ l0, (Lit.int .u8 y).wf = true) → (l1.length ≤ 9223372036854775807 ∧ ∀ y ∈ l1, (Lit.int .u8 y).wf = true) → laws_FnGroups.Facts l0 l1

end Go.Proofs.Ytpchgihhlhbjhaa.QFnGroups
