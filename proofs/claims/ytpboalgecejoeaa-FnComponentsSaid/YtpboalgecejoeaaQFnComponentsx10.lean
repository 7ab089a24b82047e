-- Written by a program of this session (wip/mk.py) over the kit's print: Lean checks it.
import Derived.Test.YtpboalgecejoeaaQFnComponentsx0
import Derived.Test.YtpboalgecejoeaaQFnComponentsx1
import Derived.Test.YtpboalgecejoeaaQFnComponentsx2
import Derived.Test.YtpboalgecejoeaaQFnComponentsx3
import Derived.Test.YtpboalgecejoeaaQFnComponentsx4
import Derived.Test.YtpboalgecejoeaaQFnComponentsx6
import Derived.Test.YtpboalgecejoeaaQFnComponentsx7
import Derived.Test.YtpboalgecejoeaaQFnComponentsx8
import Derived.Test.YtpboalgecejoeaaQFnComponentsx9
namespace Go.Proofs.Ytpboalgecejoeaa.QFnComponents
open Go.Proofs.YtpboalgecejoeaaW.PrintWords.Kd renaming R_drewN → Rn
open Go.Proofs.YtpboalgecejoeaaW.PrintWords renaming below_alloc → Ba, pw_below_drewN → Bn, below_set → Bs
open Go.World renaming block_lt_of_cell? → bl_
open Go.Proofs.YtpboalgecejoeaaW.PrintWords.Aside0 renaming mk → Am
open Go.Proofs.YtpboalgecejoeaaW.PrintWords renaming Aside0 → Ad
open Go.RowKit Go.Proofs.YtpboalgecejoeaaW.PrintWords Go.Proofs.YtpboalgecejoeaaW.PrintLast Go.Proofs.YtpboalgecejoeaaW.PrintMore
attribute [local go_sem] max2_int min2_int max_two min_two max_three min_three max_four min_four   -- for this text's walks alone
set_option linter.unusedVariables false
set_option linter.unusedSimpArgs false
section
open Go.RowKit
theorem load_run {P : Program} {o : Oper} {a : Act} {W : World} {g : Nat} {cs : Array Value} {t : TypeId} (hg : W.heap[g]? = some (.cells cs t (0, 0))) (n : Nat) (hn : cs.size = n) (ty : TypeId) (x : Operand) (ho : o.op = .load ty x)
  (hx : a.eval x = .pointer (some ⟨g, 0, none⟩)) (d : TypeDesc) (hu : P.underlying ty = some d) (hd : (match d with | .struct _ | .array _ _ => true | _ => false) = true) (hi : (P.info? ty).map (·.size) = some n) :
  (execOp a.eval o).run P W = .ok (.value (.agg cs)) W := by
 subst hn
 unfold execOp
 simp only [ho, hx, Instr.loadAt, Instr.sureAddr, Sem.run_bind, Sem.run_pure, Result.andThen_ok, run_loadVar_row W g t ty cs (0, 0) d hg hu hd hi]
theorem store_run {P : Program} {o : Oper} {a : Act} {W : World} {g : Nat} {cs cs' : Array Value} {t : TypeId} (hg : W.heap[g]? = some (.cells cs t (0, 0))) (n : Nat) (hn : cs.size = n) (hn' : cs'.size = n) (ty : TypeId) (x y : Operand) (ho : o.op = .store ty x y)
  (hx : a.eval x = .pointer (some ⟨g, 0, none⟩)) (hy : a.eval y = .agg cs') (hi : (P.info? ty).map (·.size) = some n) (h1 : cs'.all (·.oneCell') = true) :
  (execOp a.eval o).run P W = .ok .skip (W.setRow g cs') := by
 unfold execOp
 simp only [ho, hx, hy, Instr.storeAt, Instr.sureAddr, Sem.run_bind, Sem.run_pure, Result.andThen_ok, run_storeVar_row W g t ty cs cs' hg (by rw [hn']; exact hi) (by rw [hn, hn']) h1]
theorem kept_setRow (W : World) (g : Nat) (cs : Array Value) : Kept W (W.setRow g cs) (fun k => k = g) := ⟨by simp, fun i _ hi => setRow_other W g i cs hi⟩
theorem below_setRow_ {B g : Nat} {w0 w : World} (hb : Below B w0 w) (hBg : B ≤ g) (cs : Array Value) : Below B w0 (w.setRow g cs) :=
 ⟨hb.os, hb.tape, hb.output, by simpa using hb.size, fun k hk => (setRow_other w g k cs (by omega)).trans (hb.block k hk)⟩
end
def laws_FnComponents.setG (k : Int) : List Int → List Int → List Int
 | pl, [] => pl
 | pl, p :: ps => laws_FnComponents.setG k (pl.set p.toNat k) ps
def laws_FnComponents.plF : List Int → Nat → List (List Int) → List Int
 | pl, _, [] => pl
 | pl, k, c :: cs => laws_FnComponents.plF (laws_FnComponents.setG (k : Int) pl c) (k + 1) cs
def laws_FnComponents.Facts (l0 : List Int) (l1 : List Int) : Prop :=
 ((laws_big.f l0 l1 = some true) ∧ True) ∨ ((laws_big.f l0 l1 = some false) ∧ (∃ r1 : List (List Int), (∃ K, spec_DrawComponentsOf.f K l0 = some r1) ∧ ((∃ r2 : List (List Int), (∃ K, impl_ComponentsOf.f K r1 = some (r2, true)) ∧ (∃ r3 : List (List Int), (∃ K, spec_ComponentsOf.f K r1 = some (r3, true)) ∧ ((∃ K, laws_sameLists.f K r2 r3 = some true) ∧ (∃ r4 : Bool, (impl_GoodGraph.f r1 = some r4) ∧ ((∃ K, spec_GoodGraph.f K r1 = some r4) ∧ ((((r1.length : Int) ≤ 10) ∧ (r2.length ≤ 1000 ∧ (∀ c ∈ r2, c.length ≤ 1000 ∧ ∀ p ∈ c, 0 ≤ p ∧ p < (r1.length : Int)) ∧ (r2.map List.length).sum = r1.length) ∧ ∃ RR : List (List Int), ((∀ p : Nat, p < r1.length → ∃ K, impl_ReachedFrom.f K r1 (p : Int) = some (RR.getD p [], true)) ∧ ∀ p q : Nat, p < r1.length → q < r1.length → ∃ K, ∃ x y : Bool, laws_has.f K (RR.getD p []) (q : Int) = some x ∧ laws_has.f K (RR.getD q []) (p : Int) = some y ∧ (x && y) = decide (rd (laws_FnComponents.plF (List.replicate r1.length 0) 0 r2) (p : Int) = rd (laws_FnComponents.plF (List.replicate r1.length 0) 0 r2) (q : Int)) ∧ (x = true → rd (laws_FnComponents.plF (List.replicate r1.length 0) 0 r2) (q : Int) ≤ rd (laws_FnComponents.plF (List.replicate r1.length 0) 0 r2) (p : Int))) ∧ ∃ r5 : List (List Int), ∃ r6 : Int, (∃ K, spec_DrawReachedFrom.f K l1 = some (r5, r6)) ∧ ∃ r7 : List Int, ∃ r8 : Bool, (∃ K, impl_ReachedFrom.f K r5 r6 = some (r7, r8)) ∧ ∃ r9 : List Int, (∃ K, spec_ReachedFrom.f K r5 r6 = some (r9, r8)) ∧ ∃ r10 : List (List Int), ∃ r11 : List Int, (∃ K, spec_DrawClosedIn.f K l1 = some (r10, r11)) ∧ ∃ r12 : List Int, ∃ r13 : Bool, (∃ K, impl_ClosedIn.f K r10 r11 = some (r12, r13)) ∧ ∃ r14 : List Int, (∃ K, spec_ClosedIn.f K r10 r11 = some (r14, r13)) ∧ (∃ K, laws_sameInts.f K r7 r9 = some true) ∧ (∃ K, laws_sameInts.f K r12 r14 = some true) ∧ True) ∨ ((10 < (r1.length : Int)) ∧ ∃ r15 : List (List Int), ∃ r16 : Int, (∃ K, spec_DrawReachedFrom.f K l1 = some (r15, r16)) ∧ ∃ r17 : List Int, ∃ r18 : Bool, (∃ K, impl_ReachedFrom.f K r15 r16 = some (r17, r18)) ∧ ∃ r19 : List Int, (∃ K, spec_ReachedFrom.f K r15 r16 = some (r19, r18)) ∧ ∃ r20 : List (List Int), ∃ r21 : List Int, (∃ K, spec_DrawClosedIn.f K l1 = some (r20, r21)) ∧ ∃ r22 : List Int, ∃ r23 : Bool, (∃ K, impl_ClosedIn.f K r20 r21 = some (r22, r23)) ∧ ∃ r24 : List Int, (∃ K, spec_ClosedIn.f K r20 r21 = some (r24, r23)) ∧ (∃ K, laws_sameInts.f K r17 r19 = some true) ∧ (∃ K, laws_sameInts.f K r22 r24 = some true) ∧ True))))))) ∨ (∃ r25 : List (List Int), (∃ K, impl_ComponentsOf.f K r1 = some (r25, false)) ∧ ∃ r26 : List (List Int), (∃ K, spec_ComponentsOf.f K r1 = some (r26, false)) ∧ (∃ K, laws_sameLists.f K r25 r26 = some true) ∧ ∃ r27 : Bool, (impl_GoodGraph.f r1 = some r27) ∧ (∃ K, spec_GoodGraph.f K r1 = some r27) ∧ ∃ r28 : List (List Int), ∃ r29 : Int, (∃ K, spec_DrawReachedFrom.f K l1 = some (r28, r29)) ∧ ∃ r30 : List Int, ∃ r31 : Bool, (∃ K, impl_ReachedFrom.f K r28 r29 = some (r30, r31)) ∧ ∃ r32 : List Int, (∃ K, spec_ReachedFrom.f K r28 r29 = some (r32, r31)) ∧ ∃ r33 : List (List Int), ∃ r34 : List Int, (∃ K, spec_DrawClosedIn.f K l1 = some (r33, r34)) ∧ ∃ r35 : List Int, ∃ r36 : Bool, (∃ K, impl_ClosedIn.f K r33 r34 = some (r35, r36)) ∧ ∃ r37 : List Int, (∃ K, spec_ClosedIn.f K r33 r34 = some (r37, r36)) ∧ (∃ K, laws_sameInts.f K r30 r32 = some true) ∧ (∃ K, laws_sameInts.f K r35 r37 = some true) ∧ True))))
set_option maxHeartbeats 8000000 in
set_option maxRecDepth 100000 in
theorem laws_FnComponents.calls (A0 : Option Addr) (c0 : Nat) (l0 : List Int) (A1 : Option Addr) (c1 : Nat) (l1 : List Int) (w : World) (hr0 : Kd.C (Kd.int .u8) w A0 l0.length l0) (hc0 : l0.length ≤ c0) (hr1 : Kd.C (Kd.int .u8) w A1 l1.length l1) (hc1 : l1.length ≤ c1) (h : laws_FnComponents.Facts l0 l1) :
  Calls Try.prog 5 #[.slice A0 l0.length c0, .slice A1 l1.length c1] w fun e w' => e = .returned (.bool true) ∧ Below w.heap.size w w' := by
 unfold laws_FnComponents.Facts at h
 have HR0 := Am hr0
 have HC0 := Am hc0
 clear hr0 hc0
 have HR1 := Am hr1
 have HC1 := Am hc1
 clear hr1 hc1
 have HF := Am h
 clear h
 have HB := Am (Below.refl w.heap.size w)
 rcases HF.out with hF | hF
 ·clear HF
  have HF := Am hF
  clear hF
  obtain ⟨h1, hF⟩ := HF.out
  clear HF
  have HF := Am hF
  clear hF
  have H1 := Am h1
  clear h1
  go_enter Try.func5, Try.ntmps5
  go_wp2_with fail
  (refine (laws_big.calls A0 c0 l0 A1 c1 l1 true w (Kd.C_below HR0.out HB.out) HC0.out (Kd.C_below HR1.out HB.out) HC1.out H1.out).mono ?_)
  rintro e w1 ⟨rfl, hd⟩
  have hb := hd.below
  clear hd
  have Z1 : Ad (w.heap.size ≤ w1.heap.size) := ⟨hb.size⟩
  replace HB := Am (below_then HB.out HB.out.size hb)
  clear hb
  go_wp2
  go_ret
  exact ⟨rfl, HB.out⟩
 ·clear HF
  have HF := Am hF
  clear hF
  obtain ⟨h2, hF⟩ := HF.out
  clear HF
  have HF := Am hF
  clear hF
  have H2 := Am h2
  clear h2
  go_enter Try.func5, Try.ntmps5
  go_wp2_with fail
  (refine (laws_big.calls A0 c0 l0 A1 c1 l1 false w (Kd.C_below HR0.out HB.out) HC0.out (Kd.C_below HR1.out HB.out) HC1.out H2.out).mono ?_)
  rintro e w2 ⟨rfl, hd⟩
  have hb := hd.below
  clear hd
  have Z2 : Ad (w.heap.size ≤ w2.heap.size) := ⟨hb.size⟩
  replace HB := Am (below_then HB.out HB.out.size hb)
  clear hb
  obtain ⟨r1, ⟨K3, h3⟩, hF⟩ := HF.out
  clear HF
  have HF := Am hF
  clear hF
  have H3 := Am h3
  clear h3
  go_wp2_with fail
  (refine (spec_DrawComponentsOf.calls K3 A0 c0 l0 r1 w2 (Kd.C_below HR0.out HB.out) HC0.out H3.out).mono ?_)
  rintro e w3 ⟨v0_, rfl, hS0, hb⟩
  have X1 : Ad (Kd.S (Kd.slice 3 (Kd.int .i64)) 23 w3 w.heap.size (fun k => w2.heap.size ≤ k ∧ k < w3.heap.size) v0_ r1) := ⟨Kd.S_mono (Kd.S_lower (Kd.S_bound hS0) HB.out.size) (fun k hk => ⟨hk.2.1, hk.2.2.1⟩)⟩
  have Z3 : Ad (w2.heap.size ≤ w3.heap.size) := ⟨hb.size⟩
  replace HB := Am (below_then HB.out HB.out.size hb)
  clear hb hS0
  obtain ⟨A1_, c1_, rfl⟩ := Kd.S_slice X1.out
  rcases HF.out with hF | hF
  ·as_aux_lemma =>
    clear HF
    have HF := Am hF
    clear hF
    obtain ⟨r2, ⟨K4, h4⟩, hF⟩ := HF.out
    clear HF
    have HF := Am hF
    clear hF
    have H4 := Am h4
    clear h4
    go_wp2_with fail
    (refine (impl_ComponentsOf.calls K4 A1_ c1_ r1 r2 true w3 (Kd.S_reads' X1.out).2.2 (Kd.S_reads' X1.out).2.1 H4.out).mono ?_)
    rintro e w4 ⟨v0_, rfl, hS0, hb⟩
    have X2 : Ad (Kd.S (Kd.slice 3 (Kd.int .i64)) 23 w4 w.heap.size (fun k => w3.heap.size ≤ k ∧ k < w4.heap.size) v0_ r2) := ⟨Kd.S_mono (Kd.S_lower (Kd.S_bound hS0) HB.out.size) (fun k hk => ⟨hk.2.1, hk.2.2.1⟩)⟩
    have Z4 : Ad (w3.heap.size ≤ w4.heap.size) := ⟨hb.size⟩
    replace X1 := Am (Kd.S_below X1.out hb)
    replace HB := Am (below_then HB.out HB.out.size hb)
    clear hb hS0
    obtain ⟨A2_, c2_, rfl⟩ := Kd.S_slice X2.out
    obtain ⟨r3, ⟨K5, h5⟩, hF⟩ := HF.out
    clear HF
    have HF := Am hF
    clear hF
    have H5 := Am h5
    clear h5
    go_wp2_with fail
    (refine (spec_ComponentsOf.calls K5 A1_ c1_ r1 r3 true w4 (Kd.S_reads' X1.out).2.2 (Kd.S_reads' X1.out).2.1 H5.out).mono ?_)
    rintro e w5 ⟨v0_, rfl, hS0, hb⟩
    have X3 : Ad (Kd.S (Kd.slice 3 (Kd.int .i64)) 23 w5 w.heap.size (fun k => w4.heap.size ≤ k ∧ k < w5.heap.size) v0_ r3) := ⟨Kd.S_mono (Kd.S_lower (Kd.S_bound hS0) HB.out.size) (fun k hk => ⟨hk.2.1, hk.2.2.1⟩)⟩
    have Z5 : Ad (w4.heap.size ≤ w5.heap.size) := ⟨hb.size⟩
    replace X1 := Am (Kd.S_below X1.out hb)
    replace X2 := Am (Kd.S_below X2.out hb)
    replace HB := Am (below_then HB.out HB.out.size hb)
    clear hb hS0
    obtain ⟨A3_, c3_, rfl⟩ := Kd.S_slice X3.out
    obtain ⟨⟨K6, h6⟩, hF⟩ := HF.out
    clear HF
    have HF := Am hF
    clear hF
    have H6 := Am h6
    clear h6
    go_wp2_with fail
    (refine (laws_sameLists.calls K6 A2_ c2_ r2 A3_ c3_ r3 true w5 (Kd.S_reads' X2.out).2.2 (Kd.S_reads' X2.out).2.1 (Kd.S_reads' X3.out).2.2 (Kd.S_reads' X3.out).2.1 H6.out).mono ?_)
    rintro e w6 ⟨rfl, hd⟩
    have hb := hd.below
    clear hd
    have Z6 : Ad (w5.heap.size ≤ w6.heap.size) := ⟨hb.size⟩
    replace X1 := Am (Kd.S_below X1.out hb)
    replace X2 := Am (Kd.S_below X2.out hb)
    replace X3 := Am (Kd.S_below X3.out hb)
    replace HB := Am (below_then HB.out HB.out.size hb)
    clear hb
    obtain ⟨r4, h7, hF⟩ := HF.out
    clear HF
    have HF := Am hF
    clear hF
    have H7 := Am h7
    clear h7
    go_wp2_with fail
    (refine (impl_GoodGraph.calls A1_ c1_ r1 r4 w6 (Kd.S_reads' X1.out).2.2 (Kd.S_reads' X1.out).2.1 H7.out).mono ?_)
    rintro e w7 ⟨rfl, hb⟩
    have Z7 : Ad (w6.heap.size ≤ w7.heap.size) := ⟨hb.size⟩
    replace X1 := Am (Kd.S_below X1.out hb)
    replace X2 := Am (Kd.S_below X2.out hb)
    replace X3 := Am (Kd.S_below X3.out hb)
    replace HB := Am (below_then HB.out HB.out.size hb)
    clear hb
    obtain ⟨⟨K8, h8⟩, hF⟩ := HF.out
    clear HF
    have HF := Am hF
    clear hF
    have H8 := Am h8
    clear h8
    go_wp2_with fail
    (refine (spec_GoodGraph.calls K8 A1_ c1_ r1 r4 w7 (Kd.S_reads' X1.out).2.2 (Kd.S_reads' X1.out).2.1 H8.out).mono ?_)
    rintro e w8 ⟨rfl, hd⟩
    have hb := hd.below
    clear hd
    have Z8 : Ad (w7.heap.size ≤ w8.heap.size) := ⟨hb.size⟩
    replace X1 := Am (Kd.S_below X1.out hb)
    replace X2 := Am (Kd.S_below X2.out hb)
    replace X3 := Am (Kd.S_below X3.out hb)
    replace HB := Am (below_then HB.out HB.out.size hb)
    clear hb
    rcases HF.out with hF | hF
    ·as_aux_lemma =>
      clear HF
      have HF := Am hF
      clear hF
      obtain ⟨h9, hF⟩ := HF.out
      clear HF
      have HF := Am hF
      clear hF
      have H9 := Am h9
      clear h9
      obtain ⟨h10, hF⟩ := HF.out
      clear HF
      have HF := Am hF
      clear hF
      have H10 := Am h10
      clear h10
      obtain ⟨RR, h11, hF⟩ := HF.out
      clear HF
      have HF := Am hF
      clear hF
      have H11 := Am h11
      clear h11
      have hl0_ : (r1.length : Int) ≤ 10 := H9.out
      have hmk := print_make_of (P := Try.prog) 23 3 (.int .i64 0) 8 Try.underlying23 info3 rfl (by decide) r1.length (by omega)
      have h0n_ : (0 : Int) ≤ (r1.length : Int) := by omega
      go_upto_region 10 with (fail)
      obtain ⟨ga, hga⟩ : ∃ ga, ga = w8.heap.size := ⟨_, rfl⟩
      refine letC (fun W_ => Below w8.heap.size w8 W_ ∧ Kd.R (Kd.int .i64) 3 W_ w8.heap.size (fun _ => True) (.slice (some ⟨ga, 0, none⟩) r1.length r1.length) (List.replicate r1.length 0)) ⟨Ba (Below.refl _ _) _, by rw [hga]; exact Kd.R_of_own (enc := Value.int .i64) (own_made_of' w8 w8.heap.size 3 r1.length (Nat.le_refl _) (by omega)) (fun _ _ => trivial)⟩ ?_
      rintro W0 ⟨hb, hh⟩
      have HBp := Am hb
      have HA := Am hh
      rw [← hga]
      clear hb hh hmk hga
      have HCL := Am H10.out.1
      have HCR := Am H10.out.2.1
      have HCS := Am H10.out.2.2
      go_wp2
      go_loopg [11, 76] r2.length (fun gg v11 v76 wr => ∃ (i m : Nat) (pl : List Int), i ≤ r2.length ∧ r2.length - i ≤ gg ∧ v76 = .int .i64 i ∧ v11 = .int .i64 m ∧ Ad (m ≤ 1000 * i) ∧ Ad (m + ((r2.drop i).map List.length).sum = r1.length) ∧ Ad (pl.length = r1.length) ∧ Ad (laws_FnComponents.plF pl i (r2.drop i) = (laws_FnComponents.plF (List.replicate r1.length 0) 0 r2)) ∧ Ad (Kd.R (Kd.int .i64) 3 wr w8.heap.size (fun _ => True) (.slice (some ⟨ga, 0, none⟩) r1.length r1.length) pl) ∧ Ad (Below w8.heap.size w8 wr))
      case atStart => exact ⟨0, 0, List.replicate r1.length 0, Nat.zero_le _, by omega, by first | rfl | simp, by first | rfl | simp, ⟨by omega⟩, ⟨by rw [List.drop_zero, Nat.zero_add]; exact HCS.out⟩, ⟨by simp⟩, ⟨by rw [List.drop_zero]⟩, HA, HBp⟩
      case round =>
       clear HA HBp
       obtain ⟨i, m, pl, hi, hgg, rfl, rfl, HM, HSU, HPL, HST, HA, HBp⟩ := hrel
       by_cases hlt : i < r2.length
       ·have hltz : (i : Int) < (r2.length : Int) := by omega
        have h0z : (0 : Int) ≤ (i : Int) := by omega
        obtain ⟨adc, A9, c9, e9, hx9, hl9, hr9⟩ := at_L2 (Kd.S_reads' X2.out).2.2 (i : Int) h0z hltz
        have hxi : rd_L2 r2 (i : Int) = r2.getD i [] := by unfold rd_L2; rw [Int.toNat_natCast]
        rw [hxi] at hx9 hl9 hr9
        rw [Int.toNat_natCast] at hx9
        obtain ⟨x, hx⟩ : ∃ x, x = r2.getD i [] := ⟨_, rfl⟩
        rw [← hx] at hx9 hl9 hr9
        have hdr : r2.drop i = x :: r2.drop (i + 1) := by rw [hx]; exact Mine.drop_at r2 [] i hlt
        have hxm : x ∈ r2 := by rw [hx]; exact Mine.getD_mem r2 [] i hlt
        have HXR := Am (HCR.out x hxm)
        have HS2 : Ad (m + (x.length + ((r2.drop (i + 1)).map List.length).sum) = r1.length) := ⟨by have h1 := HSU.out; rw [hdr, List.map_cons, List.sum_cons] at h1; exact h1⟩
        have HT2 : Ad (laws_FnComponents.plF (laws_FnComponents.setG (i : Int) pl x) (i + 1) (r2.drop (i + 1)) = (laws_FnComponents.plF (List.replicate r1.length 0) 0 r2)) := ⟨by have h1 := HST.out; rw [hdr] at h1; exact h1⟩
        have HR9 := Am hr9
        have hx9w := (HBp.out.cell (bl_ w8 _ hx9)).trans hx9
        have HML := Am HM.out
        have HCL2 := HCL.out
        clear hr9 hx hxm hxi hdr HSU HST hx9
        subst e9
        go_wp2
        clear hx9w
        go_loopg [11, 83] x.length (fun gg2 v11 v83 wr2 => ∃ (j : Nat) (pl2 : List Int), j ≤ x.length ∧ x.length - j ≤ gg2 ∧ v83 = .int .i64 j ∧ v11 = .int .i64 ((m + j : Nat) : Int) ∧ Ad (pl2.length = r1.length) ∧ Ad (laws_FnComponents.plF (laws_FnComponents.setG (i : Int) pl2 (x.drop j)) (i + 1) (r2.drop (i + 1)) = (laws_FnComponents.plF (List.replicate r1.length 0) 0 r2)) ∧ Ad (Kd.R (Kd.int .i64) 3 wr2 w8.heap.size (fun _ => True) (.slice (some ⟨ga, 0, none⟩) r1.length r1.length) pl2) ∧ Ad (Below w8.heap.size w8 wr2))
        case atStart => exact ⟨0, pl, Nat.zero_le _, by omega, by first | rfl | simp, by first | rfl | simp, HPL, HT2, HA, HBp⟩
        case round =>
         clear HPL HT2 HA HBp
         obtain ⟨j, pl2, hj, hgg2, rfl, rfl, HPL, HT2, HA, HBp⟩ := hrel
         by_cases hjt : j < x.length
         ·have hjz : (j : Int) < (x.length : Int) := by omega
          have hj0 : (0 : Int) ≤ (j : Int) := by omega
          obtain ⟨ad2, e2, hxj⟩ := Kd.at_int (Kd.C_below HR9.out HBp.out) (j : Int) hj0 hjz
          rw [Int.toNat_natCast] at hxj
          subst e2
          have hyr := HXR.out.2 (rd x (j : Int)) (Mine.getD_mem x 0 (j : Int).toNat (by rw [Int.toNat_natCast]; exact hjt))
          have HT3 : Ad (laws_FnComponents.plF (laws_FnComponents.setG (i : Int) (pl2.set (rd x (j : Int)).toNat (i : Int)) (x.drop (j + 1))) (i + 1) (r2.drop (i + 1)) = (laws_FnComponents.plF (List.replicate r1.length 0) 0 r2)) := ⟨by have h1 := HT2.out; rw [Mine.drop_at x 0 j hjt] at h1; exact h1⟩
          obtain ⟨hy0, hy1⟩ := hyr
          obtain ⟨hc9, hf9⟩ := Kd.R_celln (0 : Int) HA.out (rd x (j : Int)) hy0 hy1
          have hyn : ¬ rd x (j : Int) < 0 := by omega
          have hym : ¬ rd x (j : Int) ≥ (r1.length : Int) := by omega
          have hmb : m + j + 1 ≤ 3000000 := by have h1 := HML.out; have h2 := HXR.out.1; omega
          clear HT2
          go_upto_region 20 with (fail)
          refine letC (fun W_ => W_ = wr.setCell ⟨ga, (rd x (j : Int)).toNat, none⟩ (.int .i64 (i : Int))) (by first | rfl | simp) ?_
          rintro W3 hW3
          have hga2 : w8.heap.size ≤ ga := Kd.R_base HA.out ga rfl
          have HB3 : Ad (Below w8.heap.size w8 W3) := ⟨by rw [hW3]; exact Bs HBp.out hga2⟩
          have HA3 : Ad (Kd.R (Kd.int .i64) 3 W3 w8.heap.size (fun _ => True) (.slice (some ⟨ga, 0, none⟩) r1.length r1.length) (pl2.set (rd x (j : Int)).toNat (i : Int))) := ⟨by rw [hW3]; exact Kd.R_putn HA.out (rd x (j : Int)) (i : Int)⟩
          clear hW3 hga2 hc9 hf9 hxj HA HBp
          go_wp2
          go_roundg (x.length - (j + 1))
          case measure => omega
          case rel => exact ⟨j + 1, pl2.set (rd x (j : Int)).toNat (i : Int), by omega, by omega, by go_num, (by first | (simp; done) | (congr 1; omega) | (simp; omega) | (push_cast; congr 1; omega)), ⟨by rw [List.length_set]; exact HPL.out⟩, HT3, HA3, HB3⟩
         ·obtain rfl : j = x.length := by omega
          have hjz : ¬ (x.length : Int) < (x.length : Int) := by omega
          have HT3 : Ad (laws_FnComponents.plF pl2 (i + 1) (r2.drop (i + 1)) = (laws_FnComponents.plF (List.replicate r1.length 0) 0 r2)) := ⟨by have h1 := HT2.out; rw [List.drop_eq_nil_of_le (Nat.le_refl _)] at h1; exact h1⟩
          clear HT2
          go_wp2
          go_roundg (r2.length - (i + 1))
          case measure => omega
          case rel => exact ⟨i + 1, m + x.length, pl2, by omega, by omega, by go_num, by first | rfl | simp, ⟨by have h1 := HML.out; have h2 := HXR.out.1; omega⟩, ⟨by have h1 := HS2.out; omega⟩, HPL, HT3, HA, HBp⟩
       ·obtain rfl : i = r2.length := by omega
        have hltz : ¬ (r2.length : Int) < (r2.length : Int) := by omega
        have hmG : m = r1.length := by have h1 := HSU.out; rw [List.drop_eq_nil_of_le (Nat.le_refl _)] at h1; simpa using h1
        have hpl : pl = (laws_FnComponents.plF (List.replicate r1.length 0) 0 r2) := by have h1 := HST.out; rw [List.drop_eq_nil_of_le (Nat.le_refl _)] at h1; exact h1
        subst hmG
        rw [hpl] at HA
        clear HSU HST HPL HM hpl
        go_wp2
        go_loopg [109] r1.length (fun gg v109 wr => ∃ p : Nat, p ≤ r1.length ∧ r1.length - p ≤ gg ∧ v109 = .int .i64 p ∧ Ad (Kd.R (Kd.int .i64) 3 wr w8.heap.size (fun _ => True) (.slice (some ⟨ga, 0, none⟩) r1.length r1.length) ((laws_FnComponents.plF (List.replicate r1.length 0) 0 r2))) ∧ Ad (Below w8.heap.size w8 wr))
        case atStart => exact ⟨0, Nat.zero_le _, by omega, by first | rfl | simp, HA, HBp⟩
        case round =>
         clear HA HBp
         obtain ⟨p, hp, hgg, rfl, HA, HBp⟩ := hrel
         by_cases hpt : p < r1.length
         ·have hpz : (p : Int) < (r1.length : Int) := by omega
          have hp0 : (0 : Int) ≤ (p : Int) := by omega
          obtain ⟨K1, hf1⟩ := H11.out.1 p hpt
          obtain ⟨Rp, HRp⟩ : ∃ Rp, Ad (RR.getD p [] = Rp) := ⟨_, ⟨rfl⟩⟩
          rw [HRp.out] at hf1
          have HF1 := Am hf1
          clear hf1
          go_wp2_with fail
          refine (impl_ReachedFrom.calls K1 A1_ c1_ r1 (p : Int) Rp true wr (Kd.C_below (Kd.S_reads' X1.out).2.2 HBp.out) ((Kd.S_reads' X1.out).2.1) HF1.out).mono ?_
          rintro e w4 ⟨vr, rfl, hR, hb⟩
          have HA4 := Am (Kd.R_below HA.out hb)
          have HBp4 := Am (below_then HBp.out HBp.out.size hb)
          obtain ⟨Ar, cr, er⟩ := Kd.R_slice hR
          subst er
          have HC4 : Ad (Kd.C (Kd.int .i64) w4 Ar Rp.length Rp ∧ Rp.length ≤ cr) := ⟨(Kd.R_reads' hR).2.2, (Kd.R_reads' hR).2.1⟩
          clear hR hb HA HBp HF1
          go_wp2
          go_loopg [122] r1.length (fun gg2 v122 wr => ∃ q : Nat, q ≤ r1.length ∧ r1.length - q ≤ gg2 ∧ v122 = .int .i64 q ∧ Ad (Kd.R (Kd.int .i64) 3 wr w8.heap.size (fun _ => True) (.slice (some ⟨ga, 0, none⟩) r1.length r1.length) ((laws_FnComponents.plF (List.replicate r1.length 0) 0 r2))) ∧ Ad (Below w8.heap.size w8 wr) ∧ Ad (Kd.C (Kd.int .i64) wr Ar Rp.length Rp ∧ Rp.length ≤ cr))
          case atStart => exact ⟨0, Nat.zero_le _, by omega, by first | rfl | simp, HA4, HBp4, HC4⟩
          case round =>
           clear HA4 HBp4 HC4
           obtain ⟨q, hq, hgg2, rfl, HA, HBp, HC⟩ := hrel
           by_cases hqt : q < r1.length
           ·have hqz : (q : Int) < (r1.length : Int) := by omega
            have hq0 : (0 : Int) ≤ (q : Int) := by omega
            obtain ⟨K2, hf2⟩ := H11.out.1 q hqt
            obtain ⟨Rq, HRq⟩ : ∃ Rq, Ad (RR.getD q [] = Rq) := ⟨_, ⟨rfl⟩⟩
            rw [HRq.out] at hf2
            have HF2 := Am hf2
            clear hf2
            go_wp2_with fail
            refine (impl_ReachedFrom.calls K2 A1_ c1_ r1 (q : Int) Rq true wr (Kd.C_below (Kd.S_reads' X1.out).2.2 HBp.out) ((Kd.S_reads' X1.out).2.1) HF2.out).mono ?_
            rintro e w6 ⟨vs, rfl, hR, hb⟩
            have HA6 := Am (Kd.R_below HA.out hb)
            have HBp6 := Am (below_then HBp.out HBp.out.size hb)
            have HC6 := Am (Kd.C_below HC.out.1 hb)
            have HL6 := Am HC.out.2
            obtain ⟨As, cs, es⟩ := Kd.R_slice hR
            subst es
            have HD6 : Ad (Kd.C (Kd.int .i64) w6 As Rq.length Rq ∧ Rq.length ≤ cs) := ⟨(Kd.R_reads' hR).2.2, (Kd.R_reads' hR).2.1⟩
            obtain ⟨K3, x, y, hx, hy, hxy, hle⟩ := H11.out.2 p q hpt hqt
            rw [HRp.out] at hx
            rw [HRq.out] at hy
            have HX := Am hx
            have HY := Am hy
            obtain ⟨hcp, _⟩ := Kd.R_celln (0 : Int) HA6.out (p : Int) hp0 hpz
            obtain ⟨hcq, _⟩ := Kd.R_celln (0 : Int) HA6.out (q : Int) hq0 hqz
            rw [Int.toNat_natCast] at hcp hcq
            have hcp2 : w6.cell? ⟨ga, p, none⟩ = some (.int .i64 (rd ((laws_FnComponents.plF (List.replicate r1.length 0) 0 r2)) (p : Int))) := hcp
            have hcq2 : w6.cell? ⟨ga, q, none⟩ = some (.int .i64 (rd ((laws_FnComponents.plF (List.replicate r1.length 0) 0 r2)) (q : Int))) := hcq
            clear hcp hcq hR hb hx hy HA HBp HC HF2
            go_upto_region 35 with (fail)
            have HEND : ∀ nq, Ad (Kd.R (Kd.int .i64) 3 (w6.drewN nq) w8.heap.size (fun _ => True) (.slice (some ⟨ga, 0, none⟩) r1.length r1.length) ((laws_FnComponents.plF (List.replicate r1.length 0) 0 r2))) ∧ Ad (Below w8.heap.size w8 (w6.drewN nq)) ∧ Ad (Kd.C (Kd.int .i64) (w6.drewN nq) Ar Rp.length Rp ∧ Rp.length ≤ cr) := fun nq => ⟨⟨Rn HA6.out nq⟩, ⟨Bn HBp6.out nq⟩, ⟨Kd.C_drewN HC6.out nq, HL6.out⟩⟩
            generalize rd ((laws_FnComponents.plF (List.replicate r1.length 0) 0 r2)) (p : Int) = lp at hxy hle hcp2
            generalize rd ((laws_FnComponents.plF (List.replicate r1.length 0) 0 r2)) (q : Int) = lq at hxy hle hcq2
            cases x with
            | false =>
             have hne : ¬ lp = lq := by simpa using hxy
             have hneb : (lp == lq) = false := beq_eq_false_iff_ne.mpr hne
             clear hxy hle hne
             go_quiet (first | (go_at_call 30; (with_reducible refine Calls.quiet_of (v := .bool false) ((laws_has.calls K3 Ar cr Rp (q : Int) false _ (Kd.C_drewN HC6.out _) HL6.out HX.out).mono ?_)); rintro e w' ⟨rfl, hd⟩; exact ⟨rfl, hd.out⟩) | (go_at_call 30; (with_reducible refine Calls.quiet_of (v := .bool false) ((laws_has.calls K3 As cs Rq (p : Int) false _ (Kd.C_drewN HD6.out.1 _) HD6.out.2 HY.out).mono ?_)); rintro e w' ⟨rfl, hd⟩; exact ⟨rfl, hd.out⟩))
             go_wp2
             go_roundg (r1.length - (q + 1))
             case measure => omega
             case rel => exact ⟨q + 1, by omega, by omega, by go_num, HEND _⟩
            | true =>
             have hle2 : lq ≤ lp := hle rfl
             have hgt : decide (lp < lq) = false := decide_eq_false (by omega)
             have hgt2 : decide (lq > lp) = false := decide_eq_false (by omega)
             clear hle
             cases y with
             | false =>
              have hne : ¬ lp = lq := by simpa using hxy
              have hneb : (lp == lq) = false := beq_eq_false_iff_ne.mpr hne
              clear hxy hne hle2
              go_quiet (first | (go_at_call 30; (with_reducible refine Calls.quiet_of (v := .bool true) ((laws_has.calls K3 Ar cr Rp (q : Int) true _ (Kd.C_drewN HC6.out _) HL6.out HX.out).mono ?_)); rintro e w' ⟨rfl, hd⟩; exact ⟨rfl, hd.out⟩) | (go_at_call 30; (with_reducible refine Calls.quiet_of (v := .bool false) ((laws_has.calls K3 As cs Rq (p : Int) false _ (Kd.C_drewN HD6.out.1 _) HD6.out.2 HY.out).mono ?_)); rintro e w' ⟨rfl, hd⟩; exact ⟨rfl, hd.out⟩))
              go_wp2
              go_roundg (r1.length - (q + 1))
              case measure => omega
              case rel => exact ⟨q + 1, by omega, by omega, by go_num, HEND _⟩
             | true =>
              have hne : lp = lq := by simpa using hxy
              subst hne
              have hneb : (lp == lp) = true := by simp
              clear hxy hle2
              go_quiet (first | (go_at_call 30; (with_reducible refine Calls.quiet_of (v := .bool true) ((laws_has.calls K3 Ar cr Rp (q : Int) true _ (Kd.C_drewN HC6.out _) HL6.out HX.out).mono ?_)); rintro e w' ⟨rfl, hd⟩; exact ⟨rfl, hd.out⟩) | (go_at_call 30; (with_reducible refine Calls.quiet_of (v := .bool true) ((laws_has.calls K3 As cs Rq (p : Int) true _ (Kd.C_drewN HD6.out.1 _) HD6.out.2 HY.out).mono ?_)); rintro e w' ⟨rfl, hd⟩; exact ⟨rfl, hd.out⟩))
              go_wp2
              go_roundg (r1.length - (q + 1))
              case measure => omega
              case rel => exact ⟨q + 1, by omega, by omega, by go_num, HEND _⟩
           ·obtain rfl : q = r1.length := by omega
            have hqz : ¬ (r1.length : Int) < (r1.length : Int) := by omega
            go_wp2
            go_roundg (r1.length - (p + 1))
            case measure => omega
            case rel => exact ⟨p + 1, by omega, by omega, by go_num, HA, HBp⟩
         ·obtain rfl : p = r1.length := by omega
          have hpz : ¬ (r1.length : Int) < (r1.length : Int) := by omega
          have hb := HBp.out
          clear HA HBp
          have Z9 : Ad (w8.heap.size ≤ wr.heap.size) := ⟨hb.size⟩
          replace X1 := Am (Kd.S_below X1.out hb)
          replace X2 := Am (Kd.S_below X2.out hb)
          replace X3 := Am (Kd.S_below X3.out hb)
          replace HB := Am (below_then HB.out HB.out.size hb)
          clear hb
          obtain ⟨r5, r6, ⟨K12, h12⟩, hF⟩ := HF.out
          clear HF
          have HF := Am hF
          clear hF
          have H12 := Am h12
          clear h12
          go_wp2_with fail
          (refine (spec_DrawReachedFrom.calls K12 A1 c1 l1 r5 r6 wr (Kd.C_below HR1.out HB.out) HC1.out H12.out).mono ?_)
          rintro e w10 ⟨v0_, rfl, hS0, hb⟩
          have X4 : Ad (Kd.S (Kd.slice 3 (Kd.int .i64)) 23 w10 w.heap.size (fun k => wr.heap.size ≤ k ∧ k < w10.heap.size) v0_ r5) := ⟨Kd.S_mono (Kd.S_lower (Kd.S_bound hS0) HB.out.size) (fun k hk => ⟨hk.2.1, hk.2.2.1⟩)⟩
          have Z10 : Ad (wr.heap.size ≤ w10.heap.size) := ⟨hb.size⟩
          replace X1 := Am (Kd.S_below X1.out hb)
          replace X2 := Am (Kd.S_below X2.out hb)
          replace X3 := Am (Kd.S_below X3.out hb)
          replace HB := Am (below_then HB.out HB.out.size hb)
          clear hb hS0
          obtain ⟨A4_, c4_, rfl⟩ := Kd.S_slice X4.out
          obtain ⟨r7, r8, ⟨K13, h13⟩, hF⟩ := HF.out
          clear HF
          have HF := Am hF
          clear hF
          have H13 := Am h13
          clear h13
          go_wp2_with fail
          (refine (impl_ReachedFrom.calls K13 A4_ c4_ r5 r6 r7 r8 w10 (Kd.S_reads' X4.out).2.2 (Kd.S_reads' X4.out).2.1 H13.out).mono ?_)
          rintro e w11 ⟨v0_, rfl, hS0, hb⟩
          have X5 : Ad (Kd.R (Kd.int .i64) 3 w11 w.heap.size (fun k => w10.heap.size ≤ k ∧ k < w11.heap.size) v0_ r7) := ⟨Kd.R_mono (Kd.R_lower (Kd.R_bound hS0) HB.out.size) (fun k hk => ⟨hk.2.1, hk.2.2.1⟩)⟩
          have Z11 : Ad (w10.heap.size ≤ w11.heap.size) := ⟨hb.size⟩
          replace X1 := Am (Kd.S_below X1.out hb)
          replace X2 := Am (Kd.S_below X2.out hb)
          replace X3 := Am (Kd.S_below X3.out hb)
          replace X4 := Am (Kd.S_below X4.out hb)
          replace HB := Am (below_then HB.out HB.out.size hb)
          clear hb hS0
          obtain ⟨A5_, c5_, rfl⟩ := Kd.R_slice X5.out
          obtain ⟨r9, ⟨K14, h14⟩, hF⟩ := HF.out
          clear HF
          have HF := Am hF
          clear hF
          have H14 := Am h14
          clear h14
          go_wp2_with fail
          (refine (spec_ReachedFrom.calls K14 A4_ c4_ r5 r6 r9 r8 w11 (Kd.S_reads' X4.out).2.2 (Kd.S_reads' X4.out).2.1 H14.out).mono ?_)
          rintro e w12 ⟨v0_, rfl, hS0, hb⟩
          have X6 : Ad (Kd.R (Kd.int .i64) 3 w12 w.heap.size (fun k => w11.heap.size ≤ k ∧ k < w12.heap.size) v0_ r9) := ⟨Kd.R_mono (Kd.R_lower (Kd.R_bound hS0) HB.out.size) (fun k hk => ⟨hk.2.1, hk.2.2.1⟩)⟩
          have Z12 : Ad (w11.heap.size ≤ w12.heap.size) := ⟨hb.size⟩
          replace X1 := Am (Kd.S_below X1.out hb)
          replace X2 := Am (Kd.S_below X2.out hb)
          replace X3 := Am (Kd.S_below X3.out hb)
          replace X4 := Am (Kd.S_below X4.out hb)
          replace X5 := Am (Kd.R_below X5.out hb)
          replace HB := Am (below_then HB.out HB.out.size hb)
          clear hb hS0
          obtain ⟨A6_, c6_, rfl⟩ := Kd.R_slice X6.out
          obtain ⟨r10, r11, ⟨K15, h15⟩, hF⟩ := HF.out
          clear HF
          have HF := Am hF
          clear hF
          have H15 := Am h15
          clear h15
          go_wp2_with fail
          (refine (spec_DrawClosedIn.calls K15 A1 c1 l1 r10 r11 w12 (Kd.C_below HR1.out HB.out) HC1.out H15.out).mono ?_)
          rintro e w13 ⟨v0_, v1_, rfl, hS0, hS1, hb⟩
          have X7 : Ad (Kd.S (Kd.slice 3 (Kd.int .i64)) 23 w13 w.heap.size (fun k => w12.heap.size ≤ k ∧ k < w13.heap.size) v0_ r10) := ⟨Kd.S_mono (Kd.S_lower (Kd.S_bound hS0) HB.out.size) (fun k hk => ⟨hk.2.1, hk.2.2.1⟩)⟩
          have X8 : Ad (Kd.R (Kd.int .i64) 3 w13 w.heap.size (fun k => w12.heap.size ≤ k ∧ k < w13.heap.size) v1_ r11) := ⟨Kd.R_mono (Kd.R_lower (Kd.R_bound hS1) HB.out.size) (fun k hk => ⟨hk.2.1, hk.2.2.1⟩)⟩
          have Z13 : Ad (w12.heap.size ≤ w13.heap.size) := ⟨hb.size⟩
          replace X1 := Am (Kd.S_below X1.out hb)
          replace X2 := Am (Kd.S_below X2.out hb)
          replace X3 := Am (Kd.S_below X3.out hb)
          replace X4 := Am (Kd.S_below X4.out hb)
          replace X5 := Am (Kd.R_below X5.out hb)
          replace X6 := Am (Kd.R_below X6.out hb)
          replace HB := Am (below_then HB.out HB.out.size hb)
          clear hb hS0 hS1
          obtain ⟨A7_, c7_, rfl⟩ := Kd.S_slice X7.out
          obtain ⟨A8_, c8_, rfl⟩ := Kd.R_slice X8.out
          obtain ⟨r12, r13, ⟨K16, h16⟩, hF⟩ := HF.out
          clear HF
          have HF := Am hF
          clear hF
          have H16 := Am h16
          clear h16
          go_wp2_with fail
          (refine (impl_ClosedIn.calls K16 A7_ c7_ r10 A8_ c8_ r11 r12 r13 w13 (Kd.S_reads' X7.out).2.2 (Kd.S_reads' X7.out).2.1 (Kd.R_reads' X8.out).2.2 (Kd.R_reads' X8.out).2.1 H16.out).mono ?_)
          rintro e w14 ⟨v0_, rfl, hS0, hb⟩
          have X9 : Ad (Kd.R (Kd.int .i64) 3 w14 w.heap.size (fun k => w13.heap.size ≤ k ∧ k < w14.heap.size) v0_ r12) := ⟨Kd.R_mono (Kd.R_lower (Kd.R_bound hS0) HB.out.size) (fun k hk => ⟨hk.2.1, hk.2.2.1⟩)⟩
          have Z14 : Ad (w13.heap.size ≤ w14.heap.size) := ⟨hb.size⟩
          replace X1 := Am (Kd.S_below X1.out hb)
          replace X2 := Am (Kd.S_below X2.out hb)
          replace X3 := Am (Kd.S_below X3.out hb)
          replace X4 := Am (Kd.S_below X4.out hb)
          replace X5 := Am (Kd.R_below X5.out hb)
          replace X6 := Am (Kd.R_below X6.out hb)
          replace X7 := Am (Kd.S_below X7.out hb)
          replace X8 := Am (Kd.R_below X8.out hb)
          replace HB := Am (below_then HB.out HB.out.size hb)
          clear hb hS0
          obtain ⟨A9_, c9_, rfl⟩ := Kd.R_slice X9.out
          obtain ⟨r14, ⟨K17, h17⟩, hF⟩ := HF.out
          clear HF
          have HF := Am hF
          clear hF
          have H17 := Am h17
          clear h17
          go_wp2_with fail
          (refine (spec_ClosedIn.calls K17 A7_ c7_ r10 A8_ c8_ r11 r14 r13 w14 (Kd.S_reads' X7.out).2.2 (Kd.S_reads' X7.out).2.1 (Kd.R_reads' X8.out).2.2 (Kd.R_reads' X8.out).2.1 H17.out).mono ?_)
          rintro e w15 ⟨v0_, rfl, hS0, hb⟩
          have X10 : Ad (Kd.R (Kd.int .i64) 3 w15 w.heap.size (fun k => w14.heap.size ≤ k ∧ k < w15.heap.size) v0_ r14) := ⟨Kd.R_mono (Kd.R_lower (Kd.R_bound hS0) HB.out.size) (fun k hk => ⟨hk.2.1, hk.2.2.1⟩)⟩
          have Z15 : Ad (w14.heap.size ≤ w15.heap.size) := ⟨hb.size⟩
          replace X1 := Am (Kd.S_below X1.out hb)
          replace X2 := Am (Kd.S_below X2.out hb)
          replace X3 := Am (Kd.S_below X3.out hb)
          replace X4 := Am (Kd.S_below X4.out hb)
          replace X5 := Am (Kd.R_below X5.out hb)
          replace X6 := Am (Kd.R_below X6.out hb)
          replace X7 := Am (Kd.S_below X7.out hb)
          replace X8 := Am (Kd.R_below X8.out hb)
          replace X9 := Am (Kd.R_below X9.out hb)
          replace HB := Am (below_then HB.out HB.out.size hb)
          clear hb hS0
          obtain ⟨A10_, c10_, rfl⟩ := Kd.R_slice X10.out
          obtain ⟨⟨K18, h18⟩, hF⟩ := HF.out
          clear HF
          have HF := Am hF
          clear hF
          have H18 := Am h18
          clear h18
          go_wp2_with fail
          (refine (laws_sameInts.calls K18 A5_ c5_ r7 A6_ c6_ r9 true w15 (Kd.R_reads' X5.out).2.2 (Kd.R_reads' X5.out).2.1 (Kd.R_reads' X6.out).2.2 (Kd.R_reads' X6.out).2.1 H18.out).mono ?_)
          rintro e w16 ⟨rfl, hd⟩
          have hb := hd.below
          clear hd
          have Z16 : Ad (w15.heap.size ≤ w16.heap.size) := ⟨hb.size⟩
          replace X1 := Am (Kd.S_below X1.out hb)
          replace X2 := Am (Kd.S_below X2.out hb)
          replace X3 := Am (Kd.S_below X3.out hb)
          replace X4 := Am (Kd.S_below X4.out hb)
          replace X5 := Am (Kd.R_below X5.out hb)
          replace X6 := Am (Kd.R_below X6.out hb)
          replace X7 := Am (Kd.S_below X7.out hb)
          replace X8 := Am (Kd.R_below X8.out hb)
          replace X9 := Am (Kd.R_below X9.out hb)
          replace X10 := Am (Kd.R_below X10.out hb)
          replace HB := Am (below_then HB.out HB.out.size hb)
          clear hb
          obtain ⟨⟨K19, h19⟩, hF⟩ := HF.out
          clear HF
          have HF := Am hF
          clear hF
          have H19 := Am h19
          clear h19
          go_wp2_with fail
          (refine (laws_sameInts.calls K19 A9_ c9_ r12 A10_ c10_ r14 true w16 (Kd.R_reads' X9.out).2.2 (Kd.R_reads' X9.out).2.1 (Kd.R_reads' X10.out).2.2 (Kd.R_reads' X10.out).2.1 H19.out).mono ?_)
          rintro e w17 ⟨rfl, hd⟩
          have hb := hd.below
          clear hd
          have Z17 : Ad (w16.heap.size ≤ w17.heap.size) := ⟨hb.size⟩
          replace X1 := Am (Kd.S_below X1.out hb)
          replace X2 := Am (Kd.S_below X2.out hb)
          replace X3 := Am (Kd.S_below X3.out hb)
          replace X4 := Am (Kd.S_below X4.out hb)
          replace X5 := Am (Kd.R_below X5.out hb)
          replace X6 := Am (Kd.R_below X6.out hb)
          replace X7 := Am (Kd.S_below X7.out hb)
          replace X8 := Am (Kd.R_below X8.out hb)
          replace X9 := Am (Kd.R_below X9.out hb)
          replace X10 := Am (Kd.R_below X10.out hb)
          replace HB := Am (below_then HB.out HB.out.size hb)
          clear hb
          go_wp2
          go_ret
          exact ⟨rfl, HB.out⟩
    ·as_aux_lemma =>
      clear HF
      have HF := Am hF
      clear hF
      obtain ⟨h20, hF⟩ := HF.out
      clear HF
      have HF := Am hF
      clear hF
      have H20 := Am h20
      clear h20
      have hl0_ : ¬ (r1.length : Int) ≤ 10 := by have h9_ := H20.out; omega
      obtain ⟨r15, r16, ⟨K21, h21⟩, hF⟩ := HF.out
      clear HF
      have HF := Am hF
      clear hF
      have H21 := Am h21
      clear h21
      go_wp2_with fail
      (refine (spec_DrawReachedFrom.calls K21 A1 c1 l1 r15 r16 w8 (Kd.C_below HR1.out HB.out) HC1.out H21.out).mono ?_)
      rintro e w18 ⟨v0_, rfl, hS0, hb⟩
      have X11 : Ad (Kd.S (Kd.slice 3 (Kd.int .i64)) 23 w18 w.heap.size (fun k => w8.heap.size ≤ k ∧ k < w18.heap.size) v0_ r15) := ⟨Kd.S_mono (Kd.S_lower (Kd.S_bound hS0) HB.out.size) (fun k hk => ⟨hk.2.1, hk.2.2.1⟩)⟩
      have Z18 : Ad (w8.heap.size ≤ w18.heap.size) := ⟨hb.size⟩
      replace X1 := Am (Kd.S_below X1.out hb)
      replace X2 := Am (Kd.S_below X2.out hb)
      replace X3 := Am (Kd.S_below X3.out hb)
      replace HB := Am (below_then HB.out HB.out.size hb)
      clear hb hS0
      obtain ⟨A11_, c11_, rfl⟩ := Kd.S_slice X11.out
      obtain ⟨r17, r18, ⟨K22, h22⟩, hF⟩ := HF.out
      clear HF
      have HF := Am hF
      clear hF
      have H22 := Am h22
      clear h22
      go_wp2_with fail
      (refine (impl_ReachedFrom.calls K22 A11_ c11_ r15 r16 r17 r18 w18 (Kd.S_reads' X11.out).2.2 (Kd.S_reads' X11.out).2.1 H22.out).mono ?_)
      rintro e w19 ⟨v0_, rfl, hS0, hb⟩
      have X12 : Ad (Kd.R (Kd.int .i64) 3 w19 w.heap.size (fun k => w18.heap.size ≤ k ∧ k < w19.heap.size) v0_ r17) := ⟨Kd.R_mono (Kd.R_lower (Kd.R_bound hS0) HB.out.size) (fun k hk => ⟨hk.2.1, hk.2.2.1⟩)⟩
      have Z19 : Ad (w18.heap.size ≤ w19.heap.size) := ⟨hb.size⟩
      replace X1 := Am (Kd.S_below X1.out hb)
      replace X2 := Am (Kd.S_below X2.out hb)
      replace X3 := Am (Kd.S_below X3.out hb)
      replace X11 := Am (Kd.S_below X11.out hb)
      replace HB := Am (below_then HB.out HB.out.size hb)
      clear hb hS0
      obtain ⟨A12_, c12_, rfl⟩ := Kd.R_slice X12.out
      obtain ⟨r19, ⟨K23, h23⟩, hF⟩ := HF.out
      clear HF
      have HF := Am hF
      clear hF
      have H23 := Am h23
      clear h23
      go_wp2_with fail
      (refine (spec_ReachedFrom.calls K23 A11_ c11_ r15 r16 r19 r18 w19 (Kd.S_reads' X11.out).2.2 (Kd.S_reads' X11.out).2.1 H23.out).mono ?_)
      rintro e w20 ⟨v0_, rfl, hS0, hb⟩
      have X13 : Ad (Kd.R (Kd.int .i64) 3 w20 w.heap.size (fun k => w19.heap.size ≤ k ∧ k < w20.heap.size) v0_ r19) := ⟨Kd.R_mono (Kd.R_lower (Kd.R_bound hS0) HB.out.size) (fun k hk => ⟨hk.2.1, hk.2.2.1⟩)⟩
      have Z20 : Ad (w19.heap.size ≤ w20.heap.size) := ⟨hb.size⟩
      replace X1 := Am (Kd.S_below X1.out hb)
      replace X2 := Am (Kd.S_below X2.out hb)
      replace X3 := Am (Kd.S_below X3.out hb)
      replace X11 := Am (Kd.S_below X11.out hb)
      replace X12 := Am (Kd.R_below X12.out hb)
      replace HB := Am (below_then HB.out HB.out.size hb)
      clear hb hS0
      obtain ⟨A13_, c13_, rfl⟩ := Kd.R_slice X13.out
      obtain ⟨r20, r21, ⟨K24, h24⟩, hF⟩ := HF.out
      clear HF
      have HF := Am hF
      clear hF
      have H24 := Am h24
      clear h24
      go_wp2_with fail
      (refine (spec_DrawClosedIn.calls K24 A1 c1 l1 r20 r21 w20 (Kd.C_below HR1.out HB.out) HC1.out H24.out).mono ?_)
      rintro e w21 ⟨v0_, v1_, rfl, hS0, hS1, hb⟩
      have X14 : Ad (Kd.S (Kd.slice 3 (Kd.int .i64)) 23 w21 w.heap.size (fun k => w20.heap.size ≤ k ∧ k < w21.heap.size) v0_ r20) := ⟨Kd.S_mono (Kd.S_lower (Kd.S_bound hS0) HB.out.size) (fun k hk => ⟨hk.2.1, hk.2.2.1⟩)⟩
      have X15 : Ad (Kd.R (Kd.int .i64) 3 w21 w.heap.size (fun k => w20.heap.size ≤ k ∧ k < w21.heap.size) v1_ r21) := ⟨Kd.R_mono (Kd.R_lower (Kd.R_bound hS1) HB.out.size) (fun k hk => ⟨hk.2.1, hk.2.2.1⟩)⟩
      have Z21 : Ad (w20.heap.size ≤ w21.heap.size) := ⟨hb.size⟩
      replace X1 := Am (Kd.S_below X1.out hb)
      replace X2 := Am (Kd.S_below X2.out hb)
      replace X3 := Am (Kd.S_below X3.out hb)
      replace X11 := Am (Kd.S_below X11.out hb)
      replace X12 := Am (Kd.R_below X12.out hb)
      replace X13 := Am (Kd.R_below X13.out hb)
      replace HB := Am (below_then HB.out HB.out.size hb)
      clear hb hS0 hS1
      obtain ⟨A14_, c14_, rfl⟩ := Kd.S_slice X14.out
      obtain ⟨A15_, c15_, rfl⟩ := Kd.R_slice X15.out
      obtain ⟨r22, r23, ⟨K25, h25⟩, hF⟩ := HF.out
      clear HF
      have HF := Am hF
      clear hF
      have H25 := Am h25
      clear h25
      go_wp2_with fail
      (refine (impl_ClosedIn.calls K25 A14_ c14_ r20 A15_ c15_ r21 r22 r23 w21 (Kd.S_reads' X14.out).2.2 (Kd.S_reads' X14.out).2.1 (Kd.R_reads' X15.out).2.2 (Kd.R_reads' X15.out).2.1 H25.out).mono ?_)
      rintro e w22 ⟨v0_, rfl, hS0, hb⟩
      have X16 : Ad (Kd.R (Kd.int .i64) 3 w22 w.heap.size (fun k => w21.heap.size ≤ k ∧ k < w22.heap.size) v0_ r22) := ⟨Kd.R_mono (Kd.R_lower (Kd.R_bound hS0) HB.out.size) (fun k hk => ⟨hk.2.1, hk.2.2.1⟩)⟩
      have Z22 : Ad (w21.heap.size ≤ w22.heap.size) := ⟨hb.size⟩
      replace X1 := Am (Kd.S_below X1.out hb)
      replace X2 := Am (Kd.S_below X2.out hb)
      replace X3 := Am (Kd.S_below X3.out hb)
      replace X11 := Am (Kd.S_below X11.out hb)
      replace X12 := Am (Kd.R_below X12.out hb)
      replace X13 := Am (Kd.R_below X13.out hb)
      replace X14 := Am (Kd.S_below X14.out hb)
      replace X15 := Am (Kd.R_below X15.out hb)
      replace HB := Am (below_then HB.out HB.out.size hb)
      clear hb hS0
      obtain ⟨A16_, c16_, rfl⟩ := Kd.R_slice X16.out
      obtain ⟨r24, ⟨K26, h26⟩, hF⟩ := HF.out
      clear HF
      have HF := Am hF
      clear hF
      have H26 := Am h26
      clear h26
      go_wp2_with fail
      (refine (spec_ClosedIn.calls K26 A14_ c14_ r20 A15_ c15_ r21 r24 r23 w22 (Kd.S_reads' X14.out).2.2 (Kd.S_reads' X14.out).2.1 (Kd.R_reads' X15.out).2.2 (Kd.R_reads' X15.out).2.1 H26.out).mono ?_)
      rintro e w23 ⟨v0_, rfl, hS0, hb⟩
      have X17 : Ad (Kd.R (Kd.int .i64) 3 w23 w.heap.size (fun k => w22.heap.size ≤ k ∧ k < w23.heap.size) v0_ r24) := ⟨Kd.R_mono (Kd.R_lower (Kd.R_bound hS0) HB.out.size) (fun k hk => ⟨hk.2.1, hk.2.2.1⟩)⟩
      have Z23 : Ad (w22.heap.size ≤ w23.heap.size) := ⟨hb.size⟩
      replace X1 := Am (Kd.S_below X1.out hb)
      replace X2 := Am (Kd.S_below X2.out hb)
      replace X3 := Am (Kd.S_below X3.out hb)
      replace X11 := Am (Kd.S_below X11.out hb)
      replace X12 := Am (Kd.R_below X12.out hb)
      replace X13 := Am (Kd.R_below X13.out hb)
      replace X14 := Am (Kd.S_below X14.out hb)
      replace X15 := Am (Kd.R_below X15.out hb)
      replace X16 := Am (Kd.R_below X16.out hb)
      replace HB := Am (below_then HB.out HB.out.size hb)
      clear hb hS0
      obtain ⟨A17_, c17_, rfl⟩ := Kd.R_slice X17.out
      obtain ⟨⟨K27, h27⟩, hF⟩ := HF.out
      clear HF
      have HF := Am hF
      clear hF
      have H27 := Am h27
      clear h27
      go_wp2_with fail
      (refine (laws_sameInts.calls K27 A12_ c12_ r17 A13_ c13_ r19 true w23 (Kd.R_reads' X12.out).2.2 (Kd.R_reads' X12.out).2.1 (Kd.R_reads' X13.out).2.2 (Kd.R_reads' X13.out).2.1 H27.out).mono ?_)
      rintro e w24 ⟨rfl, hd⟩
      have hb := hd.below
      clear hd
      have Z24 : Ad (w23.heap.size ≤ w24.heap.size) := ⟨hb.size⟩
      replace X1 := Am (Kd.S_below X1.out hb)
      replace X2 := Am (Kd.S_below X2.out hb)
      replace X3 := Am (Kd.S_below X3.out hb)
      replace X11 := Am (Kd.S_below X11.out hb)
      replace X12 := Am (Kd.R_below X12.out hb)
      replace X13 := Am (Kd.R_below X13.out hb)
      replace X14 := Am (Kd.S_below X14.out hb)
      replace X15 := Am (Kd.R_below X15.out hb)
      replace X16 := Am (Kd.R_below X16.out hb)
      replace X17 := Am (Kd.R_below X17.out hb)
      replace HB := Am (below_then HB.out HB.out.size hb)
      clear hb
      obtain ⟨⟨K28, h28⟩, hF⟩ := HF.out
      clear HF
      have HF := Am hF
      clear hF
      have H28 := Am h28
      clear h28
      go_wp2_with fail
      (refine (laws_sameInts.calls K28 A16_ c16_ r22 A17_ c17_ r24 true w24 (Kd.R_reads' X16.out).2.2 (Kd.R_reads' X16.out).2.1 (Kd.R_reads' X17.out).2.2 (Kd.R_reads' X17.out).2.1 H28.out).mono ?_)
      rintro e w25 ⟨rfl, hd⟩
      have hb := hd.below
      clear hd
      have Z25 : Ad (w24.heap.size ≤ w25.heap.size) := ⟨hb.size⟩
      replace X1 := Am (Kd.S_below X1.out hb)
      replace X2 := Am (Kd.S_below X2.out hb)
      replace X3 := Am (Kd.S_below X3.out hb)
      replace X11 := Am (Kd.S_below X11.out hb)
      replace X12 := Am (Kd.R_below X12.out hb)
      replace X13 := Am (Kd.R_below X13.out hb)
      replace X14 := Am (Kd.S_below X14.out hb)
      replace X15 := Am (Kd.R_below X15.out hb)
      replace X16 := Am (Kd.R_below X16.out hb)
      replace X17 := Am (Kd.R_below X17.out hb)
      replace HB := Am (below_then HB.out HB.out.size hb)
      clear hb
      go_wp2
      go_ret
      exact ⟨rfl, HB.out⟩
  ·as_aux_lemma =>
    clear HF
    have HF := Am hF
    clear hF
    obtain ⟨r25, ⟨K29, h29⟩, hF⟩ := HF.out
    clear HF
    have HF := Am hF
    clear hF
    have H29 := Am h29
    clear h29
    go_wp2_with fail
    (refine (impl_ComponentsOf.calls K29 A1_ c1_ r1 r25 false w3 (Kd.S_reads' X1.out).2.2 (Kd.S_reads' X1.out).2.1 H29.out).mono ?_)
    rintro e w26 ⟨v0_, rfl, hS0, hb⟩
    have X18 : Ad (Kd.S (Kd.slice 3 (Kd.int .i64)) 23 w26 w.heap.size (fun k => w3.heap.size ≤ k ∧ k < w26.heap.size) v0_ r25) := ⟨Kd.S_mono (Kd.S_lower (Kd.S_bound hS0) HB.out.size) (fun k hk => ⟨hk.2.1, hk.2.2.1⟩)⟩
    have Z26 : Ad (w3.heap.size ≤ w26.heap.size) := ⟨hb.size⟩
    replace X1 := Am (Kd.S_below X1.out hb)
    replace HB := Am (below_then HB.out HB.out.size hb)
    clear hb hS0
    obtain ⟨A18_, c18_, rfl⟩ := Kd.S_slice X18.out
    obtain ⟨r26, ⟨K30, h30⟩, hF⟩ := HF.out
    clear HF
    have HF := Am hF
    clear hF
    have H30 := Am h30
    clear h30
    go_wp2_with fail
    (refine (spec_ComponentsOf.calls K30 A1_ c1_ r1 r26 false w26 (Kd.S_reads' X1.out).2.2 (Kd.S_reads' X1.out).2.1 H30.out).mono ?_)
    rintro e w27 ⟨v0_, rfl, hS0, hb⟩
    have X19 : Ad (Kd.S (Kd.slice 3 (Kd.int .i64)) 23 w27 w.heap.size (fun k => w26.heap.size ≤ k ∧ k < w27.heap.size) v0_ r26) := ⟨Kd.S_mono (Kd.S_lower (Kd.S_bound hS0) HB.out.size) (fun k hk => ⟨hk.2.1, hk.2.2.1⟩)⟩
    have Z27 : Ad (w26.heap.size ≤ w27.heap.size) := ⟨hb.size⟩
    replace X1 := Am (Kd.S_below X1.out hb)
    replace X18 := Am (Kd.S_below X18.out hb)
    replace HB := Am (below_then HB.out HB.out.size hb)
    clear hb hS0
    obtain ⟨A19_, c19_, rfl⟩ := Kd.S_slice X19.out
    obtain ⟨⟨K31, h31⟩, hF⟩ := HF.out
    clear HF
    have HF := Am hF
    clear hF
    have H31 := Am h31
    clear h31
    go_wp2_with fail
    (refine (laws_sameLists.calls K31 A18_ c18_ r25 A19_ c19_ r26 true w27 (Kd.S_reads' X18.out).2.2 (Kd.S_reads' X18.out).2.1 (Kd.S_reads' X19.out).2.2 (Kd.S_reads' X19.out).2.1 H31.out).mono ?_)
    rintro e w28 ⟨rfl, hd⟩
    have hb := hd.below
    clear hd
    have Z28 : Ad (w27.heap.size ≤ w28.heap.size) := ⟨hb.size⟩
    replace X1 := Am (Kd.S_below X1.out hb)
    replace X18 := Am (Kd.S_below X18.out hb)
    replace X19 := Am (Kd.S_below X19.out hb)
    replace HB := Am (below_then HB.out HB.out.size hb)
    clear hb
    obtain ⟨r27, h32, hF⟩ := HF.out
    clear HF
    have HF := Am hF
    clear hF
    have H32 := Am h32
    clear h32
    go_wp2_with fail
    (refine (impl_GoodGraph.calls A1_ c1_ r1 r27 w28 (Kd.S_reads' X1.out).2.2 (Kd.S_reads' X1.out).2.1 H32.out).mono ?_)
    rintro e w29 ⟨rfl, hb⟩
    have Z29 : Ad (w28.heap.size ≤ w29.heap.size) := ⟨hb.size⟩
    replace X1 := Am (Kd.S_below X1.out hb)
    replace X18 := Am (Kd.S_below X18.out hb)
    replace X19 := Am (Kd.S_below X19.out hb)
    replace HB := Am (below_then HB.out HB.out.size hb)
    clear hb
    obtain ⟨⟨K33, h33⟩, hF⟩ := HF.out
    clear HF
    have HF := Am hF
    clear hF
    have H33 := Am h33
    clear h33
    go_wp2_with fail
    (refine (spec_GoodGraph.calls K33 A1_ c1_ r1 r27 w29 (Kd.S_reads' X1.out).2.2 (Kd.S_reads' X1.out).2.1 H33.out).mono ?_)
    rintro e w30 ⟨rfl, hd⟩
    have hb := hd.below
    clear hd
    have Z30 : Ad (w29.heap.size ≤ w30.heap.size) := ⟨hb.size⟩
    replace X1 := Am (Kd.S_below X1.out hb)
    replace X18 := Am (Kd.S_below X18.out hb)
    replace X19 := Am (Kd.S_below X19.out hb)
    replace HB := Am (below_then HB.out HB.out.size hb)
    clear hb
    obtain ⟨r28, r29, ⟨K34, h34⟩, hF⟩ := HF.out
    clear HF
    have HF := Am hF
    clear hF
    have H34 := Am h34
    clear h34
    go_wp2_with fail
    (refine (spec_DrawReachedFrom.calls K34 A1 c1 l1 r28 r29 w30 (Kd.C_below HR1.out HB.out) HC1.out H34.out).mono ?_)
    rintro e w31 ⟨v0_, rfl, hS0, hb⟩
    have X20 : Ad (Kd.S (Kd.slice 3 (Kd.int .i64)) 23 w31 w.heap.size (fun k => w30.heap.size ≤ k ∧ k < w31.heap.size) v0_ r28) := ⟨Kd.S_mono (Kd.S_lower (Kd.S_bound hS0) HB.out.size) (fun k hk => ⟨hk.2.1, hk.2.2.1⟩)⟩
    have Z31 : Ad (w30.heap.size ≤ w31.heap.size) := ⟨hb.size⟩
    replace X1 := Am (Kd.S_below X1.out hb)
    replace X18 := Am (Kd.S_below X18.out hb)
    replace X19 := Am (Kd.S_below X19.out hb)
    replace HB := Am (below_then HB.out HB.out.size hb)
    clear hb hS0
    obtain ⟨A20_, c20_, rfl⟩ := Kd.S_slice X20.out
    obtain ⟨r30, r31, ⟨K35, h35⟩, hF⟩ := HF.out
    clear HF
    have HF := Am hF
    clear hF
    have H35 := Am h35
    clear h35
    go_wp2_with fail
    (refine (impl_ReachedFrom.calls K35 A20_ c20_ r28 r29 r30 r31 w31 (Kd.S_reads' X20.out).2.2 (Kd.S_reads' X20.out).2.1 H35.out).mono ?_)
    rintro e w32 ⟨v0_, rfl, hS0, hb⟩
    have X21 : Ad (Kd.R (Kd.int .i64) 3 w32 w.heap.size (fun k => w31.heap.size ≤ k ∧ k < w32.heap.size) v0_ r30) := ⟨Kd.R_mono (Kd.R_lower (Kd.R_bound hS0) HB.out.size) (fun k hk => ⟨hk.2.1, hk.2.2.1⟩)⟩
    have Z32 : Ad (w31.heap.size ≤ w32.heap.size) := ⟨hb.size⟩
    replace X1 := Am (Kd.S_below X1.out hb)
    replace X18 := Am (Kd.S_below X18.out hb)
    replace X19 := Am (Kd.S_below X19.out hb)
    replace X20 := Am (Kd.S_below X20.out hb)
    replace HB := Am (below_then HB.out HB.out.size hb)
    clear hb hS0
    obtain ⟨A21_, c21_, rfl⟩ := Kd.R_slice X21.out
    obtain ⟨r32, ⟨K36, h36⟩, hF⟩ := HF.out
    clear HF
    have HF := Am hF
    clear hF
    have H36 := Am h36
    clear h36
    go_wp2_with fail
    (refine (spec_ReachedFrom.calls K36 A20_ c20_ r28 r29 r32 r31 w32 (Kd.S_reads' X20.out).2.2 (Kd.S_reads' X20.out).2.1 H36.out).mono ?_)
    rintro e w33 ⟨v0_, rfl, hS0, hb⟩
    have X22 : Ad (Kd.R (Kd.int .i64) 3 w33 w.heap.size (fun k => w32.heap.size ≤ k ∧ k < w33.heap.size) v0_ r32) := ⟨Kd.R_mono (Kd.R_lower (Kd.R_bound hS0) HB.out.size) (fun k hk => ⟨hk.2.1, hk.2.2.1⟩)⟩
    have Z33 : Ad (w32.heap.size ≤ w33.heap.size) := ⟨hb.size⟩
    replace X1 := Am (Kd.S_below X1.out hb)
    replace X18 := Am (Kd.S_below X18.out hb)
    replace X19 := Am (Kd.S_below X19.out hb)
    replace X20 := Am (Kd.S_below X20.out hb)
    replace X21 := Am (Kd.R_below X21.out hb)
    replace HB := Am (below_then HB.out HB.out.size hb)
    clear hb hS0
    obtain ⟨A22_, c22_, rfl⟩ := Kd.R_slice X22.out
    obtain ⟨r33, r34, ⟨K37, h37⟩, hF⟩ := HF.out
    clear HF
    have HF := Am hF
    clear hF
    have H37 := Am h37
    clear h37
    go_wp2_with fail
    (refine (spec_DrawClosedIn.calls K37 A1 c1 l1 r33 r34 w33 (Kd.C_below HR1.out HB.out) HC1.out H37.out).mono ?_)
    rintro e w34 ⟨v0_, v1_, rfl, hS0, hS1, hb⟩
    have X23 : Ad (Kd.S (Kd.slice 3 (Kd.int .i64)) 23 w34 w.heap.size (fun k => w33.heap.size ≤ k ∧ k < w34.heap.size) v0_ r33) := ⟨Kd.S_mono (Kd.S_lower (Kd.S_bound hS0) HB.out.size) (fun k hk => ⟨hk.2.1, hk.2.2.1⟩)⟩
    have X24 : Ad (Kd.R (Kd.int .i64) 3 w34 w.heap.size (fun k => w33.heap.size ≤ k ∧ k < w34.heap.size) v1_ r34) := ⟨Kd.R_mono (Kd.R_lower (Kd.R_bound hS1) HB.out.size) (fun k hk => ⟨hk.2.1, hk.2.2.1⟩)⟩
    have Z34 : Ad (w33.heap.size ≤ w34.heap.size) := ⟨hb.size⟩
    replace X1 := Am (Kd.S_below X1.out hb)
    replace X18 := Am (Kd.S_below X18.out hb)
    replace X19 := Am (Kd.S_below X19.out hb)
    replace X20 := Am (Kd.S_below X20.out hb)
    replace X21 := Am (Kd.R_below X21.out hb)
    replace X22 := Am (Kd.R_below X22.out hb)
    replace HB := Am (below_then HB.out HB.out.size hb)
    clear hb hS0 hS1
    obtain ⟨A23_, c23_, rfl⟩ := Kd.S_slice X23.out
    obtain ⟨A24_, c24_, rfl⟩ := Kd.R_slice X24.out
    obtain ⟨r35, r36, ⟨K38, h38⟩, hF⟩ := HF.out
    clear HF
    have HF := Am hF
    clear hF
    have H38 := Am h38
    clear h38
    go_wp2_with fail
    (refine (impl_ClosedIn.calls K38 A23_ c23_ r33 A24_ c24_ r34 r35 r36 w34 (Kd.S_reads' X23.out).2.2 (Kd.S_reads' X23.out).2.1 (Kd.R_reads' X24.out).2.2 (Kd.R_reads' X24.out).2.1 H38.out).mono ?_)
    rintro e w35 ⟨v0_, rfl, hS0, hb⟩
    have X25 : Ad (Kd.R (Kd.int .i64) 3 w35 w.heap.size (fun k => w34.heap.size ≤ k ∧ k < w35.heap.size) v0_ r35) := ⟨Kd.R_mono (Kd.R_lower (Kd.R_bound hS0) HB.out.size) (fun k hk => ⟨hk.2.1, hk.2.2.1⟩)⟩
    have Z35 : Ad (w34.heap.size ≤ w35.heap.size) := ⟨hb.size⟩
    replace X1 := Am (Kd.S_below X1.out hb)
    replace X18 := Am (Kd.S_below X18.out hb)
    replace X19 := Am (Kd.S_below X19.out hb)
    replace X20 := Am (Kd.S_below X20.out hb)
    replace X21 := Am (Kd.R_below X21.out hb)
    replace X22 := Am (Kd.R_below X22.out hb)
    replace X23 := Am (Kd.S_below X23.out hb)
    replace X24 := Am (Kd.R_below X24.out hb)
    replace HB := Am (below_then HB.out HB.out.size hb)
    clear hb hS0
    obtain ⟨A25_, c25_, rfl⟩ := Kd.R_slice X25.out
    obtain ⟨r37, ⟨K39, h39⟩, hF⟩ := HF.out
    clear HF
    have HF := Am hF
    clear hF
    have H39 := Am h39
    clear h39
    go_wp2_with fail
    (refine (spec_ClosedIn.calls K39 A23_ c23_ r33 A24_ c24_ r34 r37 r36 w35 (Kd.S_reads' X23.out).2.2 (Kd.S_reads' X23.out).2.1 (Kd.R_reads' X24.out).2.2 (Kd.R_reads' X24.out).2.1 H39.out).mono ?_)
    rintro e w36 ⟨v0_, rfl, hS0, hb⟩
    have X26 : Ad (Kd.R (Kd.int .i64) 3 w36 w.heap.size (fun k => w35.heap.size ≤ k ∧ k < w36.heap.size) v0_ r37) := ⟨Kd.R_mono (Kd.R_lower (Kd.R_bound hS0) HB.out.size) (fun k hk => ⟨hk.2.1, hk.2.2.1⟩)⟩
    have Z36 : Ad (w35.heap.size ≤ w36.heap.size) := ⟨hb.size⟩
    replace X1 := Am (Kd.S_below X1.out hb)
    replace X18 := Am (Kd.S_below X18.out hb)
    replace X19 := Am (Kd.S_below X19.out hb)
    replace X20 := Am (Kd.S_below X20.out hb)
    replace X21 := Am (Kd.R_below X21.out hb)
    replace X22 := Am (Kd.R_below X22.out hb)
    replace X23 := Am (Kd.S_below X23.out hb)
    replace X24 := Am (Kd.R_below X24.out hb)
    replace X25 := Am (Kd.R_below X25.out hb)
    replace HB := Am (below_then HB.out HB.out.size hb)
    clear hb hS0
    obtain ⟨A26_, c26_, rfl⟩ := Kd.R_slice X26.out
    obtain ⟨⟨K40, h40⟩, hF⟩ := HF.out
    clear HF
    have HF := Am hF
    clear hF
    have H40 := Am h40
    clear h40
    go_wp2_with fail
    (refine (laws_sameInts.calls K40 A21_ c21_ r30 A22_ c22_ r32 true w36 (Kd.R_reads' X21.out).2.2 (Kd.R_reads' X21.out).2.1 (Kd.R_reads' X22.out).2.2 (Kd.R_reads' X22.out).2.1 H40.out).mono ?_)
    rintro e w37 ⟨rfl, hd⟩
    have hb := hd.below
    clear hd
    have Z37 : Ad (w36.heap.size ≤ w37.heap.size) := ⟨hb.size⟩
    replace X1 := Am (Kd.S_below X1.out hb)
    replace X18 := Am (Kd.S_below X18.out hb)
    replace X19 := Am (Kd.S_below X19.out hb)
    replace X20 := Am (Kd.S_below X20.out hb)
    replace X21 := Am (Kd.R_below X21.out hb)
    replace X22 := Am (Kd.R_below X22.out hb)
    replace X23 := Am (Kd.S_below X23.out hb)
    replace X24 := Am (Kd.R_below X24.out hb)
    replace X25 := Am (Kd.R_below X25.out hb)
    replace X26 := Am (Kd.R_below X26.out hb)
    replace HB := Am (below_then HB.out HB.out.size hb)
    clear hb
    obtain ⟨⟨K41, h41⟩, hF⟩ := HF.out
    clear HF
    have HF := Am hF
    clear hF
    have H41 := Am h41
    clear h41
    go_wp2_with fail
    (refine (laws_sameInts.calls K41 A25_ c25_ r35 A26_ c26_ r37 true w37 (Kd.R_reads' X25.out).2.2 (Kd.R_reads' X25.out).2.1 (Kd.R_reads' X26.out).2.2 (Kd.R_reads' X26.out).2.1 H41.out).mono ?_)
    rintro e w38 ⟨rfl, hd⟩
    have hb := hd.below
    clear hd
    have Z38 : Ad (w37.heap.size ≤ w38.heap.size) := ⟨hb.size⟩
    replace X1 := Am (Kd.S_below X1.out hb)
    replace X18 := Am (Kd.S_below X18.out hb)
    replace X19 := Am (Kd.S_below X19.out hb)
    replace X20 := Am (Kd.S_below X20.out hb)
    replace X21 := Am (Kd.R_below X21.out hb)
    replace X22 := Am (Kd.R_below X22.out hb)
    replace X23 := Am (Kd.S_below X23.out hb)
    replace X24 := Am (Kd.R_below X24.out hb)
    replace X25 := Am (Kd.R_below X25.out hb)
    replace X26 := Am (Kd.R_below X26.out hb)
    replace HB := Am (below_then HB.out HB.out.size hb)
    clear hb
    go_wp2
    go_ret
    exact ⟨rfl, HB.out⟩
end Go.Proofs.Ytpboalgecejoeaa.QFnComponents
