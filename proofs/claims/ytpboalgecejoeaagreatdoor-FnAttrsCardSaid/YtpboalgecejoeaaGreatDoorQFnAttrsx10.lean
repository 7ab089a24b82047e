-- Written by a program of this session (wip/mk.py) over the kit's print: Lean checks it.
import Derived.Test.YtpboalgecejoeaaGreatDoorQFnAttrsx0
import Derived.Test.YtpboalgecejoeaaGreatDoorQFnAttrsx1
import Derived.Test.YtpboalgecejoeaaGreatDoorQFnAttrsx2
import Derived.Test.YtpboalgecejoeaaGreatDoorQFnAttrsx3
import Derived.Test.YtpboalgecejoeaaGreatDoorQFnAttrsx4
import Derived.Test.YtpboalgecejoeaaGreatDoorQFnAttrsx5
import Derived.Test.YtpboalgecejoeaaGreatDoorQFnAttrsx6
import Derived.Test.YtpboalgecejoeaaGreatDoorQFnAttrsx7
import Derived.Test.YtpboalgecejoeaaGreatDoorQFnAttrsx8
import Derived.Test.YtpboalgecejoeaaGreatDoorQFnAttrsx9
namespace Go.Proofs.YtpboalgecejoeaaGreatDoor.QFnAttrs
open Go.Proofs.YtpboalgecejoeaaGreatDoorW.PrintWords renaming below_alloc → Ba, pw_below_drewN → Bn, below_drew1 → Bd, below_set → Bs, gate_dst → Gd, blk_alloc → Ka, blk_below → Kb, blk_cell → Kc
open List renaming setIfInBounds_toArray → Lt, set_cons_zero → Lz, set_cons_succ → Ls
open Go.Proofs.YtpboalgecejoeaaGreatDoorW.PrintWords.Aside0 renaming mk → Am
open Go.Proofs.YtpboalgecejoeaaGreatDoorW.PrintWords renaming Aside0 → Ad
open Go.RowKit Go.Proofs.YtpboalgecejoeaaGreatDoorW.PrintWords Go.Proofs.YtpboalgecejoeaaGreatDoorW.PrintLast Go.Proofs.YtpboalgecejoeaaGreatDoorW.PrintMore
attribute [local go_sem] max2_int min2_int max_two min_two max_three min_three max_four min_four   -- for this text's walks alone
open Go.Proofs.YtpboalgecejoeaaGreatDoorW.PrintWords.Kd renaming R_below → Rb, R_mono → Rm, R_bound → Ro, C_below → Cb, R_reads' → Rr, R_slice → Rs, event_run → Er
open Go.Proofs.YtpboalgecejoeaaGreatDoorW.PrintWords renaming below_then → Bh, blk_lt → Kl
set_option linter.unusedVariables false
set_option linter.unusedSimpArgs false
section
open Go.RowKit
theorem load_run {P : Program} {o : Oper} {a : Act} {W : World} {g : Nat} {cs : Array Value} {t : TypeId} (hg : W.heap[g]? = some (.cells cs t (0, 0))) (n : Nat) (hn : cs.size = n) (ty : TypeId) (x : Operand) (ho : o.op = .load ty x)
  (hx : a.eval x = .pointer (some ⟨g, 0, none⟩)) (d : TypeDesc) (hu : P.underlying ty = some d) (hd : (match d with | .struct _ | .array _ _ => true | _ => false) = true) (hi : (P.info? ty).map (·.size) = some n) :
  (execOp a.eval o).run P W = .ok (.value (.agg cs)) W := by
 subst hn
 unfold execOp
 simp only [ho, hx, Instr.loadAt, Instr.sureAddr, Sem.run_bind, Sem.run_pure, Result.andThen_ok, run_loadVar_row W g t ty cs (0, 0) d hg hu hd hi]
theorem store_run {P : Program} {o : Oper} {a : Act} {W : World} {g : Nat} {cs cs' : Array Value} {t : TypeId} (hg : W.heap[g]? = some (.cells cs t (0, 0))) (n : Nat) (hn : cs.size = n) (hn' : cs'.size = n) (ty : TypeId) (x y : Operand) (ho : o.op = .store ty x y)
  (hx : a.eval x = .pointer (some ⟨g, 0, none⟩)) (hy : a.eval y = .agg cs') (hi : (P.info? ty).map (·.size) = some n) (h1 : cs'.all (·.oneCell') = true) :
  (execOp a.eval o).run P W = .ok .skip (W.setRow g cs') := by
 unfold execOp
 simp only [ho, hx, hy, Instr.storeAt, Instr.sureAddr, Sem.run_bind, Sem.run_pure, Result.andThen_ok, run_storeVar_row W g t ty cs cs' hg (by rw [hn']; exact hi) (by rw [hn, hn']) h1]
theorem kept_setRow (W : World) (g : Nat) (cs : Array Value) : Kept W (W.setRow g cs) (fun k => k = g) := ⟨by simp, fun i _ hi => setRow_other W g i cs hi⟩
theorem below_setRow_ {B g : Nat} {w0 w : World} (hb : Below B w0 w) (hBg : B ≤ g) (cs : Array Value) : Below B w0 (w.setRow g cs) :=
 ⟨hb.os, hb.tape, hb.output, by simpa using hb.size, fun k hk => (setRow_other w g k cs (by omega)).trans (hb.block k hk)⟩
end
def laws_FnAttrs.Facts (l0 : List Int) (l1 : List Int) : Prop :=
 ((laws_big.f l0 l1 = some true) ∧ True) ∨ ((laws_big.f l0 l1 = some false) ∧ (∃ r1 : Int, ∃ r2 : Int, ∃ r3 : List Int, ∃ r4 : Int, ∃ r5 : List Int, (∃ K, spec_DrawJoinAttr.f K l0 = some (r1, r2, r3, r4, r5)) ∧ ((∃ r6 : Int, ∃ r7 : List Int, (∃ K, impl_JoinAttr.f K r1 r2 r3 r4 r5 = some (r6, r7, true)) ∧ ((∃ K, spec_JoinAttr.f K r1 r2 r3 r4 r5 = some (r6, r7, true)) ∧ ((∃ K, laws_sameAttr.f K r6 r7 r6 r7 = some true) ∧ (∃ r8 : Bool, (∃ K, impl_SameAttr.f K r2 r3 r4 r5 = some r8) ∧ ((∃ K, spec_SameAttr.f K r2 r3 r4 r5 = some r8) ∧ ((∃ K, laws_sameAttr.f K r2 r3 r4 r5 = some r8) ∧ ((∃ K, impl_JoinAttr.f K r1 r4 r5 r2 r3 = some (r6, r7, true)) ∧ ((∃ K, impl_JoinAttr.f K r1 r6 r7 r2 r3 = some (r6, r7, true)) ∧ ((0 ≤ r1 ∧ r1 ≤ 9) ∧ ((∀ i m : Nat, i < r1.toNat → 1 ≤ m → m ≤ 6 → ∃ x y : Bool, impl_HangsOn.f r1 r2 r3 (i : Int) (m : Int) = some (x, true) ∧ impl_HangsOn.f r1 r4 r5 (i : Int) (m : Int) = some (y, true) ∧ impl_HangsOn.f r1 r6 r7 (i : Int) (m : Int) = some (x || y, true)) ∧ (∃ r9 : Int, ∃ r10 : Int, ∃ r11 : List Int, (∃ K, spec_DrawAttrText.f K l1 = some (r9, r10, r11)) ∧ (∃ r12 : ByteArray, ∃ r13 : Bool, (∃ K, impl_AttrText.f K r9 r10 r11 = some (r12, r13)) ∧ ((∃ K, spec_AttrText.f K r9 r10 r11 = some (r12, r13)) ∧ (∃ r14 : Int, ∃ r15 : ByteArray, (∃ K, spec_DrawReadAttr.f K l1 = some (r14, r15)) ∧ (∃ r16 : Int, ∃ r17 : List Int, ∃ r18 : Bool, (∃ K, impl_ReadAttr.f K r14 r15 = some (r16, r17, r18)) ∧ ((∃ K, spec_ReadAttr.f K r14 r15 = some (r16, r17, r18)) ∧ (∃ r19 : Int, (spec_DrawNoneAttr.f l1 = some r19) ∧ (∃ r20 : Int, ∃ r21 : List Int, ∃ r22 : Bool, (impl_NoneAttr.f r19 = some (r20, r21, r22)) ∧ ((spec_NoneAttr.f r19 = some (r20, r21, r22)) ∧ (∃ r23 : Int, ∃ r24 : Int, ∃ r25 : List Int, ∃ r26 : Int, ∃ r27 : Int, (∃ K, spec_DrawHangsOn.f K l1 = some (r23, r24, r25, r26, r27)) ∧ (∃ r28 : Bool, ∃ r29 : Bool, (impl_HangsOn.f r23 r24 r25 r26 r27 = some (r28, r29)) ∧ ((∃ K, spec_HangsOn.f K r23 r24 r25 r26 r27 = some (r28, r29)) ∧ ((∃ K, laws_sameAttr.f K r16 r17 r16 r17 = some true) ∧ ((∃ K, laws_sameAttr.f K r20 r21 r20 r21 = some true) ∧ (∃ r30 : Bool, (impl_GoodAttr.f r9 r10 r11 = some r30) ∧ ((∃ K, spec_GoodAttr.f K r9 r10 r11 = some r30) ∧ (((r13 = true) ∧ (∃ K, impl_ReadAttr.f K r9 r12 = some (r10, r11, true)) ∧ (∃ K, laws_sameAttr.f K r10 r11 r10 r11 = some true) ∧ True) ∨ ((r13 = false) ∧ True)))))))))))))))))))))))))))) ∨ (∃ r31 : Int, ∃ r32 : List Int, (∃ K, impl_JoinAttr.f K r1 r2 r3 r4 r5 = some (r31, r32, false)) ∧ ((∃ K, spec_JoinAttr.f K r1 r2 r3 r4 r5 = some (r31, r32, false)) ∧ ((∃ K, laws_sameAttr.f K r31 r32 r31 r32 = some true) ∧ (∃ r33 : Bool, (∃ K, impl_SameAttr.f K r2 r3 r4 r5 = some r33) ∧ ((∃ K, spec_SameAttr.f K r2 r3 r4 r5 = some r33) ∧ ((∃ K, laws_sameAttr.f K r2 r3 r4 r5 = some r33) ∧ (∃ r34 : Int, ∃ r35 : Int, ∃ r36 : List Int, (∃ K, spec_DrawAttrText.f K l1 = some (r34, r35, r36)) ∧ (∃ r37 : ByteArray, ∃ r38 : Bool, (∃ K, impl_AttrText.f K r34 r35 r36 = some (r37, r38)) ∧ ((∃ K, spec_AttrText.f K r34 r35 r36 = some (r37, r38)) ∧ (∃ r39 : Int, ∃ r40 : ByteArray, (∃ K, spec_DrawReadAttr.f K l1 = some (r39, r40)) ∧ (∃ r41 : Int, ∃ r42 : List Int, ∃ r43 : Bool, (∃ K, impl_ReadAttr.f K r39 r40 = some (r41, r42, r43)) ∧ ((∃ K, spec_ReadAttr.f K r39 r40 = some (r41, r42, r43)) ∧ (∃ r44 : Int, (spec_DrawNoneAttr.f l1 = some r44) ∧ (∃ r45 : Int, ∃ r46 : List Int, ∃ r47 : Bool, (impl_NoneAttr.f r44 = some (r45, r46, r47)) ∧ ((spec_NoneAttr.f r44 = some (r45, r46, r47)) ∧ (∃ r48 : Int, ∃ r49 : Int, ∃ r50 : List Int, ∃ r51 : Int, ∃ r52 : Int, (∃ K, spec_DrawHangsOn.f K l1 = some (r48, r49, r50, r51, r52)) ∧ (∃ r53 : Bool, ∃ r54 : Bool, (impl_HangsOn.f r48 r49 r50 r51 r52 = some (r53, r54)) ∧ ((∃ K, spec_HangsOn.f K r48 r49 r50 r51 r52 = some (r53, r54)) ∧ ((∃ K, laws_sameAttr.f K r41 r42 r41 r42 = some true) ∧ ((∃ K, laws_sameAttr.f K r45 r46 r45 r46 = some true) ∧ (∃ r55 : Bool, (impl_GoodAttr.f r34 r35 r36 = some r55) ∧ ((∃ K, spec_GoodAttr.f K r34 r35 r36 = some r55) ∧ (((r38 = true) ∧ (∃ K, impl_ReadAttr.f K r34 r37 = some (r35, r36, true)) ∧ (∃ K, laws_sameAttr.f K r35 r36 r35 r36 = some true) ∧ True) ∨ ((r38 = false) ∧ True)))))))))))))))))))))))))))
set_option maxHeartbeats 8000000 in
set_option maxRecDepth 100000 in
theorem laws_FnAttrs.calls (A0 : Option Addr) (c0 : Nat) (l0 : List Int) (A1 : Option Addr) (c1 : Nat) (l1 : List Int) (w : World) (hr0 : Kd.C (Kd.int .u8) w A0 l0.length l0) (hc0 : l0.length ≤ c0) (hr1 : Kd.C (Kd.int .u8) w A1 l1.length l1) (hc1 : l1.length ≤ c1) (h : laws_FnAttrs.Facts l0 l1) (hM : EnvM 0 w) (hT : EnvT Tryz.prog w) :
  Calls Tryz.prog 3 #[.slice A0 l0.length c0, .slice A1 l1.length c1] w fun e w' => e = .returned (.bool true) ∧ Below w.heap.size w w' := by
 have HMw := Am hM
 clear hM
 have HTw := Am hT
 clear hT
 unfold laws_FnAttrs.Facts at h
 have HR0 := Am hr0
 have HC0 := Am hc0
 clear hr0 hc0
 have HR1 := Am hr1
 have HC1 := Am hc1
 clear hr1 hc1
 have HF := Am h
 clear h
 have HB := Am (Below.refl w.heap.size w)
 rcases HF.out with hF | hF
 ·clear HF
  have HF := Am hF
  clear hF
  obtain ⟨h1, hF⟩ := HF.out
  clear HF
  have HF := Am hF
  clear hF
  have H1 := Am h1
  clear h1
  go_enter Tryz.func3, Tryz.ntmps3
  go_wp2_with fail
  (refine (laws_big.calls A0 c0 l0 A1 c1 l1 true w (Cb HR0.out HB.out) HC0.out (Cb HR1.out HB.out) HC1.out H1.out).mono ?_)
  rintro e w1 ⟨rfl, hd⟩
  have hb := hd.below
  clear hd
  have Z1 : Ad (w.heap.size ≤ w1.heap.size) := ⟨hb.size⟩
  replace HB := Am (Bh HB.out HB.out.size hb)
  clear hb
  go_wp2
  go_ret
  exact ⟨rfl, HB.out⟩
 ·clear HF
  have HF := Am hF
  clear hF
  obtain ⟨h2, hF⟩ := HF.out
  clear HF
  have HF := Am hF
  clear hF
  have H2 := Am h2
  clear h2
  go_enter Tryz.func3, Tryz.ntmps3
  go_wp2_with fail
  (refine (laws_big.calls A0 c0 l0 A1 c1 l1 false w (Cb HR0.out HB.out) HC0.out (Cb HR1.out HB.out) HC1.out H2.out).mono ?_)
  rintro e w2 ⟨rfl, hd⟩
  have hb := hd.below
  clear hd
  have Z2 : Ad (w.heap.size ≤ w2.heap.size) := ⟨hb.size⟩
  replace HB := Am (Bh HB.out HB.out.size hb)
  clear hb
  obtain ⟨r1, r2, r3, r4, r5, ⟨K3, h3⟩, hF⟩ := HF.out
  clear HF
  have HF := Am hF
  clear hF
  have H3 := Am h3
  clear h3
  go_wp2_with fail
  (refine (spec_DrawJoinAttr.calls K3 A0 c0 l0 r1 r2 r3 r4 r5 w2 (Cb HR0.out HB.out) HC0.out H3.out).mono ?_)
  rintro e w3 ⟨v0_, v1_, rfl, hS0, hS1, hb⟩
  have X1 : Ad (Kd.R (Kd.int .i64) 3 w3 w.heap.size (fun k => w2.heap.size ≤ k ∧ k < w3.heap.size) v0_ r3) := ⟨Rm (Kd.R_lower (Ro hS0) HB.out.size) (fun k hk => ⟨hk.2.1, hk.2.2.1⟩)⟩
  have X2 : Ad (Kd.R (Kd.int .i64) 3 w3 w.heap.size (fun k => w2.heap.size ≤ k ∧ k < w3.heap.size) v1_ r5) := ⟨Rm (Kd.R_lower (Ro hS1) HB.out.size) (fun k hk => ⟨hk.2.1, hk.2.2.1⟩)⟩
  have Z3 : Ad (w2.heap.size ≤ w3.heap.size) := ⟨hb.size⟩
  replace HB := Am (Bh HB.out HB.out.size hb)
  clear hb hS0 hS1
  obtain ⟨A1_, c1_, rfl⟩ := Rs X1.out
  obtain ⟨A2_, c2_, rfl⟩ := Rs X2.out
  rcases HF.out with hF | hF
  ·as_aux_lemma =>
    clear HF
    have HF := Am hF
    clear hF
    obtain ⟨r6, r7, ⟨K4, h4⟩, hF⟩ := HF.out
    clear HF
    have HF := Am hF
    clear hF
    have H4 := Am h4
    clear h4
    go_upto_region 4 with (fail)
    refine letC (fun W_ => Below w3.heap.size w3 W_ ∧ W_.heap[w3.heap.size]? = some (.cells #[.int .i64 r2, .slice A1_ r3.length c1_] 26 (0, 0)) ∧ W_.heap[w3.heap.size + 1]? = some (.cells #[.int .i64 r4, .slice A2_ r5.length c2_] 26 (0, 0))) ?_ ?_
    ·refine ⟨?_, ?_, ?_⟩
     ·repeat (first | exact Below.refl _ _ | apply Ba | refine Bs ?_ (by first | exact Nat.le_refl _ | omega | (simp; done)))
     ·simpa using Ka (blk_new w3 (.cells #[.int .i64 r2, .slice A1_ r3.length c1_] 26)) (.cells #[.int .i64 r4, .slice A2_ r5.length c2_] 26)
     ·simpa using blk_new (w3.alloc (.cells #[.int .i64 r2, .slice A1_ r3.length c1_] 26)) (.cells #[.int .i64 r4, .slice A2_ r5.length c2_] 26)
    intro w4 hq_
    obtain ⟨hb, hx0_, hx1_⟩ := hq_
    have Z4 : Ad (w3.heap.size ≤ w4.heap.size) := ⟨hb.size⟩
    replace X1 := Am (Rb X1.out hb)
    replace X2 := Am (Rb X2.out hb)
    replace HB := Am (Bh HB.out HB.out.size hb)
    clear hb
    have BX1 : Ad (w4.heap[w3.heap.size]? = some (.cells #[.int .i64 r2, .slice A1_ r3.length c1_] 26 (0, 0))) := ⟨hx0_⟩
    clear hx0_
    have GBX1 : Ad (w3.heap.size < w4.heap.size) := ⟨Kl BX1.out⟩
    have BX2 : Ad (w4.heap[w3.heap.size + 1]? = some (.cells #[.int .i64 r4, .slice A2_ r5.length c2_] 26 (0, 0))) := ⟨hx1_⟩
    clear hx1_
    have GBX2 : Ad (w3.heap.size + 1 < w4.heap.size) := ⟨Kl BX2.out⟩
    go_wp2_with (first | ((refine Gd (N := 62) rfl ?_); first | refine Er rfl (load_run BX1.out 2 rfl 26 _ (by rfl) (by rfl) _ Tryz.underlying26 rfl (by kernel_rfl)) ?_ | refine Er rfl (load_run BX2.out 2 rfl 26 _ (by rfl) (by rfl) _ Tryz.underlying26 rfl (by kernel_rfl)) ?_) | ((refine Gd (N := 63) rfl ?_); first | refine Er rfl (load_run BX1.out 2 rfl 26 _ (by rfl) (by rfl) _ Tryz.underlying26 rfl (by kernel_rfl)) ?_ | refine Er rfl (load_run BX2.out 2 rfl 26 _ (by rfl) (by rfl) _ Tryz.underlying26 rfl (by kernel_rfl)) ?_))
    (refine (impl_JoinAttr.calls K4 r1 r2 A1_ c1_ r3 r4 A2_ c2_ r5 r6 r7 true w4 (Rr X1.out).2.2 (Rr X1.out).2.1 (Rr X2.out).2.2 (Rr X2.out).2.1 H4.out).mono ?_)
    rintro e w5 ⟨v1_, rfl, hS0, hb⟩
    have X3 : Ad (Kd.R (Kd.int .i64) 3 w5 w.heap.size (fun k => w4.heap.size ≤ k ∧ k < w5.heap.size) v1_ r7) := ⟨Rm (Kd.R_lower (Ro hS0) HB.out.size) (fun k hk => ⟨hk.2.1, hk.2.2.1⟩)⟩
    have Z5 : Ad (w4.heap.size ≤ w5.heap.size) := ⟨hb.size⟩
    replace X1 := Am (Rb X1.out hb)
    replace X2 := Am (Rb X2.out hb)
    replace BX1 := Am (Kb BX1.out hb)
    replace BX2 := Am (Kb BX2.out hb)
    replace HB := Am (Bh HB.out HB.out.size hb)
    clear hb hS0
    obtain ⟨A3_, c3_, rfl⟩ := Rs X3.out
    obtain ⟨⟨K5, h5⟩, hF⟩ := HF.out
    clear HF
    have HF := Am hF
    clear hF
    have H5 := Am h5
    clear h5
    go_upto_region 5 with (first | ((refine Gd (N := 69) rfl ?_); first | refine Er rfl (load_run BX1.out 2 rfl 26 _ (by rfl) (by rfl) _ Tryz.underlying26 rfl (by kernel_rfl)) ?_ | refine Er rfl (load_run BX2.out 2 rfl 26 _ (by rfl) (by rfl) _ Tryz.underlying26 rfl (by kernel_rfl)) ?_) | ((refine Gd (N := 70) rfl ?_); first | refine Er rfl (load_run BX1.out 2 rfl 26 _ (by rfl) (by rfl) _ Tryz.underlying26 rfl (by kernel_rfl)) ?_ | refine Er rfl (load_run BX2.out 2 rfl 26 _ (by rfl) (by rfl) _ Tryz.underlying26 rfl (by kernel_rfl)) ?_))
    refine letC (fun W_ => Below w5.heap.size w5 W_ ∧ W_.heap[w5.heap.size]? = some (.cells #[.int .i64 r6, .slice A3_ r7.length c3_] 26 (0, 0))) ?_ ?_
    ·refine ⟨?_, ?_⟩
     ·repeat (first | exact Below.refl _ _ | apply Ba | refine Bs ?_ (by first | exact Nat.le_refl _ | omega | (simp; done)))
     ·exact blk_new w5 (.cells #[.int .i64 r6, .slice A3_ r7.length c3_] 26)
    intro w6 hq_
    obtain ⟨hb, hx0_⟩ := hq_
    have Z6 : Ad (w5.heap.size ≤ w6.heap.size) := ⟨hb.size⟩
    replace X1 := Am (Rb X1.out hb)
    replace X2 := Am (Rb X2.out hb)
    replace X3 := Am (Rb X3.out hb)
    replace BX1 := Am (Kb BX1.out hb)
    replace BX2 := Am (Kb BX2.out hb)
    replace HB := Am (Bh HB.out HB.out.size hb)
    clear hb
    have BX3 : Ad (w6.heap[w5.heap.size]? = some (.cells #[.int .i64 r6, .slice A3_ r7.length c3_] 26 (0, 0))) := ⟨hx0_⟩
    clear hx0_
    have GBX3 : Ad (w5.heap.size < w6.heap.size) := ⟨Kl BX3.out⟩
    go_wp2_with (first | ((refine Gd (N := 69) rfl ?_); first | refine Er rfl (load_run BX1.out 2 rfl 26 _ (by rfl) (by rfl) _ Tryz.underlying26 rfl (by kernel_rfl)) ?_ | refine Er rfl (load_run BX2.out 2 rfl 26 _ (by rfl) (by rfl) _ Tryz.underlying26 rfl (by kernel_rfl)) ?_) | ((refine Gd (N := 70) rfl ?_); first | refine Er rfl (load_run BX1.out 2 rfl 26 _ (by rfl) (by rfl) _ Tryz.underlying26 rfl (by kernel_rfl)) ?_ | refine Er rfl (load_run BX2.out 2 rfl 26 _ (by rfl) (by rfl) _ Tryz.underlying26 rfl (by kernel_rfl)) ?_))
    (refine (spec_JoinAttr.calls K5 r1 r2 A1_ c1_ r3 r4 A2_ c2_ r5 r6 r7 true w6 (Rr X1.out).2.2 (Rr X1.out).2.1 (Rr X2.out).2.2 (Rr X2.out).2.1 H5.out).mono ?_)
    rintro e w7 ⟨v1_, rfl, hS0, hb⟩
    have X4 : Ad (Kd.R (Kd.int .i64) 3 w7 w.heap.size (fun k => w6.heap.size ≤ k ∧ k < w7.heap.size) v1_ r7) := ⟨Rm (Kd.R_lower (Ro hS0) HB.out.size) (fun k hk => ⟨hk.2.1, hk.2.2.1⟩)⟩
    have Z7 : Ad (w6.heap.size ≤ w7.heap.size) := ⟨hb.size⟩
    replace X1 := Am (Rb X1.out hb)
    replace X2 := Am (Rb X2.out hb)
    replace X3 := Am (Rb X3.out hb)
    replace BX1 := Am (Kb BX1.out hb)
    replace BX2 := Am (Kb BX2.out hb)
    replace BX3 := Am (Kb BX3.out hb)
    replace HB := Am (Bh HB.out HB.out.size hb)
    clear hb hS0
    obtain ⟨A4_, c4_, rfl⟩ := Rs X4.out
    obtain ⟨⟨K6, h6⟩, hF⟩ := HF.out
    clear HF
    have HF := Am hF
    clear hF
    have H6 := Am h6
    clear h6
    have qBX1_0 : w7.cell? ⟨w3.heap.size, 0, none⟩ = some (.int .i64 r2) := (Kc BX1.out 0).trans rfl
    have qBX1_1 : w7.cell? ⟨w3.heap.size, 1, none⟩ = some (.slice A1_ r3.length c1_) := (Kc BX1.out 1).trans rfl
    have qBX2_0 : w7.cell? ⟨w3.heap.size + 1, 0, none⟩ = some (.int .i64 r4) := (Kc BX2.out 0).trans rfl
    have qBX2_1 : w7.cell? ⟨w3.heap.size + 1, 1, none⟩ = some (.slice A2_ r5.length c2_) := (Kc BX2.out 1).trans rfl
    have qBX3_0 : w7.cell? ⟨w5.heap.size, 0, none⟩ = some (.int .i64 r6) := (Kc BX3.out 0).trans rfl
    have qBX3_1 : w7.cell? ⟨w5.heap.size, 1, none⟩ = some (.slice A3_ r7.length c3_) := (Kc BX3.out 1).trans rfl
    go_upto_region 6 with (first | ((refine Gd (N := 78) rfl ?_); first | refine Er rfl (load_run BX1.out 2 rfl 26 _ (by rfl) (by rfl) _ Tryz.underlying26 rfl (by kernel_rfl)) ?_ | refine Er rfl (load_run BX2.out 2 rfl 26 _ (by rfl) (by rfl) _ Tryz.underlying26 rfl (by kernel_rfl)) ?_ | refine Er rfl (load_run BX3.out 2 rfl 26 _ (by rfl) (by rfl) _ Tryz.underlying26 rfl (by kernel_rfl)) ?_) | ((refine Gd (N := 79) rfl ?_); first | refine Er rfl (load_run BX1.out 2 rfl 26 _ (by rfl) (by rfl) _ Tryz.underlying26 rfl (by kernel_rfl)) ?_ | refine Er rfl (load_run BX2.out 2 rfl 26 _ (by rfl) (by rfl) _ Tryz.underlying26 rfl (by kernel_rfl)) ?_ | refine Er rfl (load_run BX3.out 2 rfl 26 _ (by rfl) (by rfl) _ Tryz.underlying26 rfl (by kernel_rfl)) ?_))
    clear qBX1_0 qBX1_1 qBX2_0 qBX2_1 qBX3_0 qBX3_1
    refine letC (fun W_ => Below w7.heap.size w7 W_ ∧ W_.heap[w7.heap.size]? = some (.cells #[.int .i64 r6, .slice A4_ r7.length c4_] 26 (0, 0))) ?_ ?_
    ·refine ⟨?_, ?_⟩
     ·repeat (first | exact Below.refl _ _ | apply Ba | refine Bs ?_ (by first | exact Nat.le_refl _ | omega | (simp; done)))
     ·exact blk_new w7 (.cells #[.int .i64 r6, .slice A4_ r7.length c4_] 26)
    intro w8 hq_
    obtain ⟨hb, hx0_⟩ := hq_
    have Z8 : Ad (w7.heap.size ≤ w8.heap.size) := ⟨hb.size⟩
    replace X1 := Am (Rb X1.out hb)
    replace X2 := Am (Rb X2.out hb)
    replace X3 := Am (Rb X3.out hb)
    replace X4 := Am (Rb X4.out hb)
    replace BX1 := Am (Kb BX1.out hb)
    replace BX2 := Am (Kb BX2.out hb)
    replace BX3 := Am (Kb BX3.out hb)
    replace HB := Am (Bh HB.out HB.out.size hb)
    clear hb
    have BX4 : Ad (w8.heap[w7.heap.size]? = some (.cells #[.int .i64 r6, .slice A4_ r7.length c4_] 26 (0, 0))) := ⟨hx0_⟩
    clear hx0_
    have GBX4 : Ad (w7.heap.size < w8.heap.size) := ⟨Kl BX4.out⟩
    have qBX1_0 : w8.cell? ⟨w3.heap.size, 0, none⟩ = some (.int .i64 r2) := (Kc BX1.out 0).trans rfl
    have qBX1_1 : w8.cell? ⟨w3.heap.size, 1, none⟩ = some (.slice A1_ r3.length c1_) := (Kc BX1.out 1).trans rfl
    have qBX2_0 : w8.cell? ⟨w3.heap.size + 1, 0, none⟩ = some (.int .i64 r4) := (Kc BX2.out 0).trans rfl
    have qBX2_1 : w8.cell? ⟨w3.heap.size + 1, 1, none⟩ = some (.slice A2_ r5.length c2_) := (Kc BX2.out 1).trans rfl
    have qBX3_0 : w8.cell? ⟨w5.heap.size, 0, none⟩ = some (.int .i64 r6) := (Kc BX3.out 0).trans rfl
    have qBX3_1 : w8.cell? ⟨w5.heap.size, 1, none⟩ = some (.slice A3_ r7.length c3_) := (Kc BX3.out 1).trans rfl
    have qBX4_0 : w8.cell? ⟨w7.heap.size, 0, none⟩ = some (.int .i64 r6) := (Kc BX4.out 0).trans rfl
    have qBX4_1 : w8.cell? ⟨w7.heap.size, 1, none⟩ = some (.slice A4_ r7.length c4_) := (Kc BX4.out 1).trans rfl
    go_wp2_with (first | ((refine Gd (N := 78) rfl ?_); first | refine Er rfl (load_run BX1.out 2 rfl 26 _ (by rfl) (by rfl) _ Tryz.underlying26 rfl (by kernel_rfl)) ?_ | refine Er rfl (load_run BX2.out 2 rfl 26 _ (by rfl) (by rfl) _ Tryz.underlying26 rfl (by kernel_rfl)) ?_ | refine Er rfl (load_run BX3.out 2 rfl 26 _ (by rfl) (by rfl) _ Tryz.underlying26 rfl (by kernel_rfl)) ?_ | refine Er rfl (load_run BX4.out 2 rfl 26 _ (by rfl) (by rfl) _ Tryz.underlying26 rfl (by kernel_rfl)) ?_) | ((refine Gd (N := 79) rfl ?_); first | refine Er rfl (load_run BX1.out 2 rfl 26 _ (by rfl) (by rfl) _ Tryz.underlying26 rfl (by kernel_rfl)) ?_ | refine Er rfl (load_run BX2.out 2 rfl 26 _ (by rfl) (by rfl) _ Tryz.underlying26 rfl (by kernel_rfl)) ?_ | refine Er rfl (load_run BX3.out 2 rfl 26 _ (by rfl) (by rfl) _ Tryz.underlying26 rfl (by kernel_rfl)) ?_ | refine Er rfl (load_run BX4.out 2 rfl 26 _ (by rfl) (by rfl) _ Tryz.underlying26 rfl (by kernel_rfl)) ?_))
    clear qBX1_0 qBX1_1 qBX2_0 qBX2_1 qBX3_0 qBX3_1 qBX4_0 qBX4_1
    refine start_ (n := 27) (S := fun w' => w'.heap[w3.heap.size]? = some (.cells #[.int .i64 r2, .slice A1_ r3.length c1_] 26 (0, 0)) ∧ w'.heap[w3.heap.size + 1]? = some (.cells #[.int .i64 r4, .slice A2_ r5.length c2_] 26 (0, 0)) ∧ w'.heap[w5.heap.size]? = some (.cells #[.int .i64 r6, .slice A3_ r7.length c3_] 26 (0, 0)) ∧ w'.heap[w7.heap.size]? = some (.cells #[.int .i64 r6, .slice A4_ r7.length c4_] 26 (0, 0))) (ds := []) #[false, false, false, false, false, false, false, false, false, false, false, false, false, false, false, false, false, false, false, false, false, false, false, false, false, false, false] (by kernel_rfl) rfl rfl ⟨BX1.out, BX2.out, BX3.out, BX4.out⟩ (fun hHeld => ?_)
    have hb : Below w8.heap.size w8 w8.drew := below_drew (Below.refl _ _)
    generalize w8.drew = w9 at hb hHeld ⊢
    have Z9 : Ad (w8.heap.size ≤ w9.heap.size) := ⟨hb.size⟩
    replace X1 := Am (Rb X1.out hb)
    replace X2 := Am (Rb X2.out hb)
    replace X3 := Am (Rb X3.out hb)
    replace X4 := Am (Rb X4.out hb)
    replace BX1 := Am (Kb BX1.out hb)
    replace BX2 := Am (Kb BX2.out hb)
    replace BX3 := Am (Kb BX3.out hb)
    replace BX4 := Am (Kb BX4.out hb)
    replace HB := Am (Bh HB.out HB.out.size hb)
    clear hb
    refine pure_ (i := 0) (N := some 74) (v := ?_) (a' := ?_) #[true, false, false, false, false, false, false, false, false, false, false, false, false, false, false, false, false, false, false, false, false, false, false, false, false, false, false] rfl rfl (by kernel_rfl) (fun _ _ _ h => h) (Or.inl ⟨by rfl, ?_⟩) ?_ ?_
    rotate_left
    ·intro w'
     go_simp
     with_reducible rfl
    rotate_left
    ·simp only [Act.put, Lt, Lz, Ls, i64_w, i32_w]
     rfl
    refine pure_ (i := 1) (N := some 75) (v := ?_) (a' := ?_) #[true, true, false, false, false, false, false, false, false, false, false, false, false, false, false, false, false, false, false, false, false, false, false, false, false, false, false] rfl rfl (by kernel_rfl) (fun _ _ _ h => h) (Or.inl ⟨by rfl, ?_⟩) ?_ ?_
    rotate_left
    ·intro w'
     go_simp
     with_reducible rfl
    rotate_left
    ·simp only [Act.put, Lt, Lz, Ls, i64_w, i32_w]
     rfl
    refine pure_ (i := 2) (N := some 76) (v := ?_) (a' := ?_) #[true, true, true, false, false, false, false, false, false, false, false, false, false, false, false, false, false, false, false, false, false, false, false, false, false, false, false] rfl rfl (by kernel_rfl) (fun _ _ _ h => h) (Or.inl ⟨by rfl, ?_⟩) ?_ ?_
    rotate_left
    ·intro w'
     go_simp
     with_reducible rfl
    rotate_left
    ·simp only [Act.put, Lt, Lz, Ls, i64_w, i32_w]
     rfl
    refine pure_ (i := 3) (N := some 77) (v := ?_) (a' := ?_) #[true, true, true, true, false, false, false, false, false, false, false, false, false, false, false, false, false, false, false, false, false, false, false, false, false, false, false] rfl rfl (by kernel_rfl) (fun _ _ _ h => h) (Or.inl ⟨by rfl, ?_⟩) ?_ ?_
    rotate_left
    ·intro w'
     go_simp
     with_reducible rfl
    rotate_left
    ·simp only [Act.put, Lt, Lz, Ls, i64_w, i32_w]
     rfl
    refine take_ (i := 4) (N := some 78) (v := ?_) (a' := ?_) #[true, true, true, true, true, false, false, false, false, false, false, false, false, false, false, false, false, false, false, false, false, false, false, false, false, false, false] rfl rfl (by kernel_rfl) (fun _ _ _ h => h) (Or.inl ⟨by rfl, ?_⟩) hHeld ?_ ?_
    rotate_left
    ·rintro w' ⟨s0, s1, s2, s3⟩
     first | (refine Eq.trans (load_run s0 2 rfl 26 _ (by rfl) (by rfl) _ Tryz.underlying26 rfl (by kernel_rfl)) ?_; with_reducible rfl) | (refine Eq.trans (load_run s1 2 rfl 26 _ (by rfl) (by rfl) _ Tryz.underlying26 rfl (by kernel_rfl)) ?_; with_reducible rfl) | (refine Eq.trans (load_run s2 2 rfl 26 _ (by rfl) (by rfl) _ Tryz.underlying26 rfl (by kernel_rfl)) ?_; with_reducible rfl) | (refine Eq.trans (load_run s3 2 rfl 26 _ (by rfl) (by rfl) _ Tryz.underlying26 rfl (by kernel_rfl)) ?_; with_reducible rfl)
    rotate_left
    ·simp only [Act.put, Lt, Lz, Ls, i64_w, i32_w]
     rfl
    refine take_ (i := 5) (N := some 79) (v := ?_) (a' := ?_) #[true, true, true, true, true, true, false, false, false, false, false, false, false, false, false, false, false, false, false, false, false, false, false, false, false, false, false] rfl rfl (by kernel_rfl) (fun _ _ _ h => h) (Or.inl ⟨by rfl, ?_⟩) hHeld ?_ ?_
    rotate_left
    ·rintro w' ⟨s0, s1, s2, s3⟩
     first | (refine Eq.trans (load_run s0 2 rfl 26 _ (by rfl) (by rfl) _ Tryz.underlying26 rfl (by kernel_rfl)) ?_; with_reducible rfl) | (refine Eq.trans (load_run s1 2 rfl 26 _ (by rfl) (by rfl) _ Tryz.underlying26 rfl (by kernel_rfl)) ?_; with_reducible rfl) | (refine Eq.trans (load_run s2 2 rfl 26 _ (by rfl) (by rfl) _ Tryz.underlying26 rfl (by kernel_rfl)) ?_; with_reducible rfl) | (refine Eq.trans (load_run s3 2 rfl 26 _ (by rfl) (by rfl) _ Tryz.underlying26 rfl (by kernel_rfl)) ?_; with_reducible rfl)
    rotate_left
    ·simp only [Act.put, Lt, Lz, Ls, i64_w, i32_w]
     rfl
    refine one_ (i := 6) (N := some 80) #[true, true, true, true, true, true, true, false, false, false, false, false, false, false, false, false, false, false, false, false, false, false, false, false, false, false, false] rfl rfl (by kernel_rfl) (by decide) (fun K hK => ?_)
    refine goes_ Tryz.func8 (by kernel_rfl) rfl #[.agg #[.int .i64 r6, .slice A3_ r7.length c3_], .agg #[.int .i64 r6, .slice A4_ r7.length c4_]] (by rfl) rfl rfl (by (try simp only [List.map_toArray, List.map_cons, List.map_nil]); first | done | rfl) ?_
    (refine (laws_sameAttr.calls K6 r6 A3_ c3_ r7 r6 A4_ c4_ r7 true w9 (Rr X3.out).2.2 (Rr X3.out).2.1 (Rr X4.out).2.2 (Rr X4.out).2.1 H6.out).mono ?_)
    rintro e w10 ⟨rfl, hb⟩
    refine ⟨_, rfl, ?_⟩
    have Z10 : Ad (w9.heap.size ≤ w10.heap.size) := ⟨hb.size⟩
    replace X1 := Am (Rb X1.out hb)
    replace X2 := Am (Rb X2.out hb)
    replace X3 := Am (Rb X3.out hb)
    replace X4 := Am (Rb X4.out hb)
    replace BX1 := Am (Kb BX1.out hb)
    replace BX2 := Am (Kb BX2.out hb)
    replace BX3 := Am (Kb BX3.out hb)
    replace BX4 := Am (Kb BX4.out hb)
    replace HB := Am (Bh HB.out HB.out.size hb)
    clear hb
    refine hK.out _ _ ⟨BX1.out, BX2.out, BX3.out, BX4.out⟩ (fun hHeld => ?_)
    clear hK K
    refine norm_ (a' := ?_) ?_ ?_
    rotate_left
    ·show Act.put _ (some 80) _ = _
     simp only [Act.put, Lt, Lz, Ls, i64_w, i32_w]
     rfl
    obtain ⟨r8, ⟨K7, h7⟩, hF⟩ := HF.out
    clear HF
    have HF := Am hF
    clear hF
    have H7 := Am h7
    clear h7
    refine pure_ (i := 7) (N := some 81) (v := ?_) (a' := ?_) #[true, true, true, true, true, true, true, true, false, false, false, false, false, false, false, false, false, false, false, false, false, false, false, false, false, false, false] rfl rfl (by kernel_rfl) (fun _ _ _ h => h) (Or.inl ⟨by rfl, ?_⟩) ?_ ?_
    rotate_left
    ·intro w'
     go_simp
     with_reducible rfl
    rotate_left
    ·simp only [Act.put, Lt, Lz, Ls, i64_w, i32_w]
     rfl
    refine pure_ (i := 8) (N := some 82) (v := ?_) (a' := ?_) #[true, true, true, true, true, true, true, true, true, false, false, false, false, false, false, false, false, false, false, false, false, false, false, false, false, false, false] rfl rfl (by kernel_rfl) (fun _ _ _ h => h) (Or.inl ⟨by rfl, ?_⟩) ?_ ?_
    rotate_left
    ·intro w'
     go_simp
     with_reducible rfl
    rotate_left
    ·simp only [Act.put, Lt, Lz, Ls, i64_w, i32_w]
     rfl
    refine pure_ (i := 9) (N := some 83) (v := ?_) (a' := ?_) #[true, true, true, true, true, true, true, true, true, true, false, false, false, false, false, false, false, false, false, false, false, false, false, false, false, false, false] rfl rfl (by kernel_rfl) (fun _ _ _ h => h) (Or.inl ⟨by rfl, ?_⟩) ?_ ?_
    rotate_left
    ·intro w'
     go_simp
     with_reducible rfl
    rotate_left
    ·simp only [Act.put, Lt, Lz, Ls, i64_w, i32_w]
     rfl
    refine take_ (i := 10) (N := some 84) (v := ?_) (a' := ?_) #[true, true, true, true, true, true, true, true, true, true, true, false, false, false, false, false, false, false, false, false, false, false, false, false, false, false, false] rfl rfl (by kernel_rfl) (fun _ _ _ h => h) (Or.inl ⟨by rfl, ?_⟩) hHeld ?_ ?_
    rotate_left
    ·rintro w' ⟨s0, s1, s2, s3⟩
     first | (refine Eq.trans (load_run s0 2 rfl 26 _ (by rfl) (by rfl) _ Tryz.underlying26 rfl (by kernel_rfl)) ?_; with_reducible rfl) | (refine Eq.trans (load_run s1 2 rfl 26 _ (by rfl) (by rfl) _ Tryz.underlying26 rfl (by kernel_rfl)) ?_; with_reducible rfl) | (refine Eq.trans (load_run s2 2 rfl 26 _ (by rfl) (by rfl) _ Tryz.underlying26 rfl (by kernel_rfl)) ?_; with_reducible rfl) | (refine Eq.trans (load_run s3 2 rfl 26 _ (by rfl) (by rfl) _ Tryz.underlying26 rfl (by kernel_rfl)) ?_; with_reducible rfl)
    rotate_left
    ·simp only [Act.put, Lt, Lz, Ls, i64_w, i32_w]
     rfl
    refine take_ (i := 11) (N := some 85) (v := ?_) (a' := ?_) #[true, true, true, true, true, true, true, true, true, true, true, true, false, false, false, false, false, false, false, false, false, false, false, false, false, false, false] rfl rfl (by kernel_rfl) (fun _ _ _ h => h) (Or.inl ⟨by rfl, ?_⟩) hHeld ?_ ?_
    rotate_left
    ·rintro w' ⟨s0, s1, s2, s3⟩
     first | (refine Eq.trans (load_run s0 2 rfl 26 _ (by rfl) (by rfl) _ Tryz.underlying26 rfl (by kernel_rfl)) ?_; with_reducible rfl) | (refine Eq.trans (load_run s1 2 rfl 26 _ (by rfl) (by rfl) _ Tryz.underlying26 rfl (by kernel_rfl)) ?_; with_reducible rfl) | (refine Eq.trans (load_run s2 2 rfl 26 _ (by rfl) (by rfl) _ Tryz.underlying26 rfl (by kernel_rfl)) ?_; with_reducible rfl) | (refine Eq.trans (load_run s3 2 rfl 26 _ (by rfl) (by rfl) _ Tryz.underlying26 rfl (by kernel_rfl)) ?_; with_reducible rfl)
    rotate_left
    ·simp only [Act.put, Lt, Lz, Ls, i64_w, i32_w]
     rfl
    refine take_ (i := 13) (N := some 87) (v := ?_) (a' := ?_) #[true, true, true, true, true, true, true, true, true, true, true, true, false, true, false, false, false, false, false, false, false, false, false, false, false, false, false] rfl rfl (by kernel_rfl) (fun _ _ _ h => h) (Or.inl ⟨by rfl, ?_⟩) hHeld ?_ ?_
    rotate_left
    ·rintro w' ⟨s0, s1, s2, s3⟩
     first | (refine Eq.trans (load_run s0 2 rfl 26 _ (by rfl) (by rfl) _ Tryz.underlying26 rfl (by kernel_rfl)) ?_; with_reducible rfl) | (refine Eq.trans (load_run s1 2 rfl 26 _ (by rfl) (by rfl) _ Tryz.underlying26 rfl (by kernel_rfl)) ?_; with_reducible rfl) | (refine Eq.trans (load_run s2 2 rfl 26 _ (by rfl) (by rfl) _ Tryz.underlying26 rfl (by kernel_rfl)) ?_; with_reducible rfl) | (refine Eq.trans (load_run s3 2 rfl 26 _ (by rfl) (by rfl) _ Tryz.underlying26 rfl (by kernel_rfl)) ?_; with_reducible rfl)
    rotate_left
    ·simp only [Act.put, Lt, Lz, Ls, i64_w, i32_w]
     rfl
    refine take_ (i := 14) (N := some 88) (v := ?_) (a' := ?_) #[true, true, true, true, true, true, true, true, true, true, true, true, false, true, true, false, false, false, false, false, false, false, false, false, false, false, false] rfl rfl (by kernel_rfl) (fun _ _ _ h => h) (Or.inl ⟨by rfl, ?_⟩) hHeld ?_ ?_
    rotate_left
    ·rintro w' ⟨s0, s1, s2, s3⟩
     first | (refine Eq.trans (load_run s0 2 rfl 26 _ (by rfl) (by rfl) _ Tryz.underlying26 rfl (by kernel_rfl)) ?_; with_reducible rfl) | (refine Eq.trans (load_run s1 2 rfl 26 _ (by rfl) (by rfl) _ Tryz.underlying26 rfl (by kernel_rfl)) ?_; with_reducible rfl) | (refine Eq.trans (load_run s2 2 rfl 26 _ (by rfl) (by rfl) _ Tryz.underlying26 rfl (by kernel_rfl)) ?_; with_reducible rfl) | (refine Eq.trans (load_run s3 2 rfl 26 _ (by rfl) (by rfl) _ Tryz.underlying26 rfl (by kernel_rfl)) ?_; with_reducible rfl)
    rotate_left
    ·simp only [Act.put, Lt, Lz, Ls, i64_w, i32_w]
     rfl
    refine one_ (i := 12) (N := some 86) #[true, true, true, true, true, true, true, true, true, true, true, true, true, true, true, false, false, false, false, false, false, false, false, false, false, false, false] rfl rfl (by kernel_rfl) (by decide) (fun K hK => ?_)
    refine goes_ Tryz.func9 (by kernel_rfl) rfl #[.agg #[.int .i64 r2, .slice A1_ r3.length c1_], .agg #[.int .i64 r4, .slice A2_ r5.length c2_]] (by rfl) rfl rfl (by (try simp only [List.map_toArray, List.map_cons, List.map_nil]); first | done | rfl) ?_
    (refine (impl_SameAttr.calls K7 r2 A1_ c1_ r3 r4 A2_ c2_ r5 r8 w10 (Rr X1.out).2.2 (Rr X1.out).2.1 (Rr X2.out).2.2 (Rr X2.out).2.1 H7.out).mono ?_)
    rintro e w11 ⟨rfl, hb⟩
    refine ⟨_, rfl, ?_⟩
    have Z11 : Ad (w10.heap.size ≤ w11.heap.size) := ⟨hb.size⟩
    replace X1 := Am (Rb X1.out hb)
    replace X2 := Am (Rb X2.out hb)
    replace X3 := Am (Rb X3.out hb)
    replace X4 := Am (Rb X4.out hb)
    replace BX1 := Am (Kb BX1.out hb)
    replace BX2 := Am (Kb BX2.out hb)
    replace BX3 := Am (Kb BX3.out hb)
    replace BX4 := Am (Kb BX4.out hb)
    replace HB := Am (Bh HB.out HB.out.size hb)
    clear hb
    refine hK.out _ _ ⟨BX1.out, BX2.out, BX3.out, BX4.out⟩ (fun hHeld => ?_)
    clear hK K
    refine norm_ (a' := ?_) ?_ ?_
    rotate_left
    ·show Act.put _ (some 86) _ = _
     simp only [Act.put, Lt, Lz, Ls, i64_w, i32_w]
     rfl
    obtain ⟨⟨K8, h8⟩, hF⟩ := HF.out
    clear HF
    have HF := Am hF
    clear hF
    have H8 := Am h8
    clear h8
    refine one_ (i := 15) (N := some 89) #[true, true, true, true, true, true, true, true, true, true, true, true, true, true, true, true, false, false, false, false, false, false, false, false, false, false, false] rfl rfl (by kernel_rfl) (by decide) (fun K hK => ?_)
    refine goes_ Tryz.func10 (by kernel_rfl) rfl #[.agg #[.int .i64 r2, .slice A1_ r3.length c1_], .agg #[.int .i64 r4, .slice A2_ r5.length c2_]] (by rfl) rfl rfl (by (try simp only [List.map_toArray, List.map_cons, List.map_nil]); first | done | rfl) ?_
    (refine (spec_SameAttr.calls K8 r2 A1_ c1_ r3 r4 A2_ c2_ r5 r8 w11 (Rr X1.out).2.2 (Rr X1.out).2.1 (Rr X2.out).2.2 (Rr X2.out).2.1 H8.out).mono ?_)
    rintro e w12 ⟨rfl, hb⟩
    refine ⟨_, rfl, ?_⟩
    have Z12 : Ad (w11.heap.size ≤ w12.heap.size) := ⟨hb.size⟩
    replace X1 := Am (Rb X1.out hb)
    replace X2 := Am (Rb X2.out hb)
    replace X3 := Am (Rb X3.out hb)
    replace X4 := Am (Rb X4.out hb)
    replace BX1 := Am (Kb BX1.out hb)
    replace BX2 := Am (Kb BX2.out hb)
    replace BX3 := Am (Kb BX3.out hb)
    replace BX4 := Am (Kb BX4.out hb)
    replace HB := Am (Bh HB.out HB.out.size hb)
    clear hb
    refine hK.out _ _ ⟨BX1.out, BX2.out, BX3.out, BX4.out⟩ (fun hHeld => ?_)
    clear hK K
    refine norm_ (a' := ?_) ?_ ?_
    rotate_left
    ·show Act.put _ (some 89) _ = _
     simp only [Act.put, Lt, Lz, Ls, i64_w, i32_w]
     rfl
    refine pure_ (i := 16) (N := some 90) (v := ?_) (a' := ?_) #[true, true, true, true, true, true, true, true, true, true, true, true, true, true, true, true, true, false, false, false, false, false, false, false, false, false, false] rfl rfl (by kernel_rfl) (fun _ _ _ h => h) (Or.inl ⟨by rfl, ?_⟩) ?_ ?_
    rotate_left
    ·intro w'
     go_simp
     with_reducible rfl
    rotate_left
    ·simp only [Act.put, Lt, Lz, Ls, i64_w, i32_w]
     rfl
    refine pure_ (i := 17) (N := some 91) (v := ?_) (a' := ?_) #[true, true, true, true, true, true, true, true, true, true, true, true, true, true, true, true, true, true, false, false, false, false, false, false, false, false, false] rfl rfl (by kernel_rfl) (fun _ _ _ h => h) (Or.inl ⟨by rfl, ?_⟩) ?_ ?_
    rotate_left
    ·intro w'
     go_simp
     with_reducible rfl
    rotate_left
    ·simp only [Act.put, Lt, Lz, Ls, i64_w, i32_w]
     rfl
    refine pure_ (i := 18) (N := some 92) (v := ?_) (a' := ?_) #[true, true, true, true, true, true, true, true, true, true, true, true, true, true, true, true, true, true, true, false, false, false, false, false, false, false, false] rfl rfl (by kernel_rfl) (fun _ _ _ h => h) (Or.inl ⟨by rfl, ?_⟩) ?_ ?_
    rotate_left
    ·intro w'
     go_simp
     with_reducible rfl
    rotate_left
    ·simp only [Act.put, Lt, Lz, Ls, i64_w, i32_w]
     rfl
    refine take_ (i := 19) (N := some 93) (v := ?_) (a' := ?_) #[true, true, true, true, true, true, true, true, true, true, true, true, true, true, true, true, true, true, true, true, false, false, false, false, false, false, false] rfl rfl (by kernel_rfl) (fun _ _ _ h => h) (Or.inl ⟨by rfl, ?_⟩) hHeld ?_ ?_
    rotate_left
    ·rintro w' ⟨s0, s1, s2, s3⟩
     first | (refine Eq.trans (load_run s0 2 rfl 26 _ (by rfl) (by rfl) _ Tryz.underlying26 rfl (by kernel_rfl)) ?_; with_reducible rfl) | (refine Eq.trans (load_run s1 2 rfl 26 _ (by rfl) (by rfl) _ Tryz.underlying26 rfl (by kernel_rfl)) ?_; with_reducible rfl) | (refine Eq.trans (load_run s2 2 rfl 26 _ (by rfl) (by rfl) _ Tryz.underlying26 rfl (by kernel_rfl)) ?_; with_reducible rfl) | (refine Eq.trans (load_run s3 2 rfl 26 _ (by rfl) (by rfl) _ Tryz.underlying26 rfl (by kernel_rfl)) ?_; with_reducible rfl)
    rotate_left
    ·simp only [Act.put, Lt, Lz, Ls, i64_w, i32_w]
     rfl
    refine take_ (i := 20) (N := some 94) (v := ?_) (a' := ?_) #[true, true, true, true, true, true, true, true, true, true, true, true, true, true, true, true, true, true, true, true, true, false, false, false, false, false, false] rfl rfl (by kernel_rfl) (fun _ _ _ h => h) (Or.inl ⟨by rfl, ?_⟩) hHeld ?_ ?_
    rotate_left
    ·rintro w' ⟨s0, s1, s2, s3⟩
     first | (refine Eq.trans (load_run s0 2 rfl 26 _ (by rfl) (by rfl) _ Tryz.underlying26 rfl (by kernel_rfl)) ?_; with_reducible rfl) | (refine Eq.trans (load_run s1 2 rfl 26 _ (by rfl) (by rfl) _ Tryz.underlying26 rfl (by kernel_rfl)) ?_; with_reducible rfl) | (refine Eq.trans (load_run s2 2 rfl 26 _ (by rfl) (by rfl) _ Tryz.underlying26 rfl (by kernel_rfl)) ?_; with_reducible rfl) | (refine Eq.trans (load_run s3 2 rfl 26 _ (by rfl) (by rfl) _ Tryz.underlying26 rfl (by kernel_rfl)) ?_; with_reducible rfl)
    rotate_left
    ·simp only [Act.put, Lt, Lz, Ls, i64_w, i32_w]
     rfl
    refine take_ (i := 22) (N := some 96) (v := ?_) (a' := ?_) #[true, true, true, true, true, true, true, true, true, true, true, true, true, true, true, true, true, true, true, true, true, false, true, false, false, false, false] rfl rfl (by kernel_rfl) (fun _ _ _ h => h) (Or.inl ⟨by rfl, ?_⟩) hHeld ?_ ?_
    rotate_left
    ·rintro w' ⟨s0, s1, s2, s3⟩
     first | (refine Eq.trans (load_run s0 2 rfl 26 _ (by rfl) (by rfl) _ Tryz.underlying26 rfl (by kernel_rfl)) ?_; with_reducible rfl) | (refine Eq.trans (load_run s1 2 rfl 26 _ (by rfl) (by rfl) _ Tryz.underlying26 rfl (by kernel_rfl)) ?_; with_reducible rfl) | (refine Eq.trans (load_run s2 2 rfl 26 _ (by rfl) (by rfl) _ Tryz.underlying26 rfl (by kernel_rfl)) ?_; with_reducible rfl) | (refine Eq.trans (load_run s3 2 rfl 26 _ (by rfl) (by rfl) _ Tryz.underlying26 rfl (by kernel_rfl)) ?_; with_reducible rfl)
    rotate_left
    ·simp only [Act.put, Lt, Lz, Ls, i64_w, i32_w]
     rfl
    refine take_ (i := 23) (N := some 97) (v := ?_) (a' := ?_) #[true, true, true, true, true, true, true, true, true, true, true, true, true, true, true, true, true, true, true, true, true, false, true, true, false, false, false] rfl rfl (by kernel_rfl) (fun _ _ _ h => h) (Or.inl ⟨by rfl, ?_⟩) hHeld ?_ ?_
    rotate_left
    ·rintro w' ⟨s0, s1, s2, s3⟩
     first | (refine Eq.trans (load_run s0 2 rfl 26 _ (by rfl) (by rfl) _ Tryz.underlying26 rfl (by kernel_rfl)) ?_; with_reducible rfl) | (refine Eq.trans (load_run s1 2 rfl 26 _ (by rfl) (by rfl) _ Tryz.underlying26 rfl (by kernel_rfl)) ?_; with_reducible rfl) | (refine Eq.trans (load_run s2 2 rfl 26 _ (by rfl) (by rfl) _ Tryz.underlying26 rfl (by kernel_rfl)) ?_; with_reducible rfl) | (refine Eq.trans (load_run s3 2 rfl 26 _ (by rfl) (by rfl) _ Tryz.underlying26 rfl (by kernel_rfl)) ?_; with_reducible rfl)
    rotate_left
    ·simp only [Act.put, Lt, Lz, Ls, i64_w, i32_w]
     rfl
    refine one_ (i := 21) (N := some 95) #[true, true, true, true, true, true, true, true, true, true, true, true, true, true, true, true, true, true, true, true, true, true, true, true, false, false, false] rfl rfl (by kernel_rfl) (by decide) (fun K hK => ?_)
    refine goes_ Tryz.func9 (by kernel_rfl) rfl #[.agg #[.int .i64 r2, .slice A1_ r3.length c1_], .agg #[.int .i64 r4, .slice A2_ r5.length c2_]] (by rfl) rfl rfl (by (try simp only [List.map_toArray, List.map_cons, List.map_nil]); first | done | rfl) ?_
    (refine (impl_SameAttr.calls K7 r2 A1_ c1_ r3 r4 A2_ c2_ r5 r8 w12 (Rr X1.out).2.2 (Rr X1.out).2.1 (Rr X2.out).2.2 (Rr X2.out).2.1 H7.out).mono ?_)
    rintro e w13 ⟨rfl, hb⟩
    refine ⟨_, rfl, ?_⟩
    have Z13 : Ad (w12.heap.size ≤ w13.heap.size) := ⟨hb.size⟩
    replace X1 := Am (Rb X1.out hb)
    replace X2 := Am (Rb X2.out hb)
    replace X3 := Am (Rb X3.out hb)
    replace X4 := Am (Rb X4.out hb)
    replace BX1 := Am (Kb BX1.out hb)
    replace BX2 := Am (Kb BX2.out hb)
    replace BX3 := Am (Kb BX3.out hb)
    replace BX4 := Am (Kb BX4.out hb)
    replace HB := Am (Bh HB.out HB.out.size hb)
    clear hb
    refine hK.out _ _ ⟨BX1.out, BX2.out, BX3.out, BX4.out⟩ (fun hHeld => ?_)
    clear hK K
    refine norm_ (a' := ?_) ?_ ?_
    rotate_left
    ·show Act.put _ (some 95) _ = _
     simp only [Act.put, Lt, Lz, Ls, i64_w, i32_w]
     rfl
    obtain ⟨⟨K9, h9⟩, hF⟩ := HF.out
    clear HF
    have HF := Am hF
    clear hF
    have H9 := Am h9
    clear h9
    refine one_ (i := 24) (N := some 98) #[true, true, true, true, true, true, true, true, true, true, true, true, true, true, true, true, true, true, true, true, true, true, true, true, true, false, false] rfl rfl (by kernel_rfl) (by decide) (fun K hK => ?_)
    refine goes_ Tryz.func8 (by kernel_rfl) rfl #[.agg #[.int .i64 r2, .slice A1_ r3.length c1_], .agg #[.int .i64 r4, .slice A2_ r5.length c2_]] (by rfl) rfl rfl (by (try simp only [List.map_toArray, List.map_cons, List.map_nil]); first | done | rfl) ?_
    (refine (laws_sameAttr.calls K9 r2 A1_ c1_ r3 r4 A2_ c2_ r5 r8 w13 (Rr X1.out).2.2 (Rr X1.out).2.1 (Rr X2.out).2.2 (Rr X2.out).2.1 H9.out).mono ?_)
    rintro e w14 ⟨rfl, hb⟩
    refine ⟨_, rfl, ?_⟩
    have Z14 : Ad (w13.heap.size ≤ w14.heap.size) := ⟨hb.size⟩
    replace X1 := Am (Rb X1.out hb)
    replace X2 := Am (Rb X2.out hb)
    replace X3 := Am (Rb X3.out hb)
    replace X4 := Am (Rb X4.out hb)
    replace BX1 := Am (Kb BX1.out hb)
    replace BX2 := Am (Kb BX2.out hb)
    replace BX3 := Am (Kb BX3.out hb)
    replace BX4 := Am (Kb BX4.out hb)
    replace HB := Am (Bh HB.out HB.out.size hb)
    clear hb
    refine hK.out _ _ ⟨BX1.out, BX2.out, BX3.out, BX4.out⟩ (fun hHeld => ?_)
    clear hK K
    refine norm_ (a' := ?_) ?_ ?_
    rotate_left
    ·show Act.put _ (some 98) _ = _
     simp only [Act.put, Lt, Lz, Ls, i64_w, i32_w]
     rfl
    refine pure_ (i := 25) (N := some 99) (v := ?_) (a' := ?_) #[true, true, true, true, true, true, true, true, true, true, true, true, true, true, true, true, true, true, true, true, true, true, true, true, true, true, false] rfl rfl (by kernel_rfl) (fun _ _ _ h => h) (Or.inl ⟨by rfl, ?_⟩) ?_ ?_
    rotate_left
    ·intro w'
     go_simp
     with_reducible rfl
    rotate_left
    ·simp only [Act.put, Lt, Lz, Ls, i64_w, i32_w]
     rfl
    refine pure_ (i := 26) (N := some 100) (v := ?_) (a' := ?_) #[true, true, true, true, true, true, true, true, true, true, true, true, true, true, true, true, true, true, true, true, true, true, true, true, true, true, true] rfl rfl (by kernel_rfl) (fun _ _ _ h => h) (Or.inl ⟨by rfl, ?_⟩) ?_ ?_
    rotate_left
    ·intro w'
     go_simp
     with_reducible rfl
    rotate_left
    ·simp only [Act.put, Lt, Lz, Ls, i64_w, i32_w]
     rfl
    refine done_ (by kernel_rfl) ?_
    obtain ⟨⟨K10, h10⟩, hF⟩ := HF.out
    clear HF
    have HF := Am hF
    clear hF
    have H10 := Am h10
    clear h10
    go_wp2_with (first | ((refine Gd (N := 104) rfl ?_); first | refine Er rfl (load_run BX1.out 2 rfl 26 _ (by rfl) (by rfl) _ Tryz.underlying26 rfl (by kernel_rfl)) ?_ | refine Er rfl (load_run BX2.out 2 rfl 26 _ (by rfl) (by rfl) _ Tryz.underlying26 rfl (by kernel_rfl)) ?_) | ((refine Gd (N := 105) rfl ?_); first | refine Er rfl (load_run BX1.out 2 rfl 26 _ (by rfl) (by rfl) _ Tryz.underlying26 rfl (by kernel_rfl)) ?_ | refine Er rfl (load_run BX2.out 2 rfl 26 _ (by rfl) (by rfl) _ Tryz.underlying26 rfl (by kernel_rfl)) ?_))
    (refine (impl_JoinAttr.calls K10 r1 r4 A2_ c2_ r5 r2 A1_ c1_ r3 r6 r7 true w14 (Rr X2.out).2.2 (Rr X2.out).2.1 (Rr X1.out).2.2 (Rr X1.out).2.1 H10.out).mono ?_)
    rintro e w15 ⟨v1_, rfl, hS0, hb⟩
    have X5 : Ad (Kd.R (Kd.int .i64) 3 w15 w.heap.size (fun k => w14.heap.size ≤ k ∧ k < w15.heap.size) v1_ r7) := ⟨Rm (Kd.R_lower (Ro hS0) HB.out.size) (fun k hk => ⟨hk.2.1, hk.2.2.1⟩)⟩
    have Z15 : Ad (w14.heap.size ≤ w15.heap.size) := ⟨hb.size⟩
    replace X1 := Am (Rb X1.out hb)
    replace X2 := Am (Rb X2.out hb)
    replace X3 := Am (Rb X3.out hb)
    replace X4 := Am (Rb X4.out hb)
    replace BX1 := Am (Kb BX1.out hb)
    replace BX2 := Am (Kb BX2.out hb)
    replace BX3 := Am (Kb BX3.out hb)
    replace BX4 := Am (Kb BX4.out hb)
    replace HB := Am (Bh HB.out HB.out.size hb)
    clear hb hS0
    obtain ⟨A5_, c5_, rfl⟩ := Rs X5.out
    obtain ⟨⟨K11, h11⟩, hF⟩ := HF.out
    clear HF
    have HF := Am hF
    clear hF
    have H11 := Am h11
    clear h11
    go_upto_region 10 with (first | ((refine Gd (N := 111) rfl ?_); first | refine Er rfl (load_run BX1.out 2 rfl 26 _ (by rfl) (by rfl) _ Tryz.underlying26 rfl (by kernel_rfl)) ?_ | refine Er rfl (load_run BX3.out 2 rfl 26 _ (by rfl) (by rfl) _ Tryz.underlying26 rfl (by kernel_rfl)) ?_) | ((refine Gd (N := 112) rfl ?_); first | refine Er rfl (load_run BX1.out 2 rfl 26 _ (by rfl) (by rfl) _ Tryz.underlying26 rfl (by kernel_rfl)) ?_ | refine Er rfl (load_run BX3.out 2 rfl 26 _ (by rfl) (by rfl) _ Tryz.underlying26 rfl (by kernel_rfl)) ?_))
    refine letC (fun W_ => Below w15.heap.size w15 W_ ∧ W_.heap[w15.heap.size]? = some (.cells #[.int .i64 r6, .slice A5_ r7.length c5_] 26 (0, 0))) ?_ ?_
    ·refine ⟨?_, ?_⟩
     ·repeat (first | exact Below.refl _ _ | apply Ba | refine Bs ?_ (by first | exact Nat.le_refl _ | omega | (simp; done)))
     ·exact blk_new w15 (.cells #[.int .i64 r6, .slice A5_ r7.length c5_] 26)
    intro w16 hq_
    obtain ⟨hb, hx0_⟩ := hq_
    have Z16 : Ad (w15.heap.size ≤ w16.heap.size) := ⟨hb.size⟩
    replace X1 := Am (Rb X1.out hb)
    replace X2 := Am (Rb X2.out hb)
    replace X3 := Am (Rb X3.out hb)
    replace X4 := Am (Rb X4.out hb)
    replace X5 := Am (Rb X5.out hb)
    replace BX1 := Am (Kb BX1.out hb)
    replace BX2 := Am (Kb BX2.out hb)
    replace BX3 := Am (Kb BX3.out hb)
    replace BX4 := Am (Kb BX4.out hb)
    replace HB := Am (Bh HB.out HB.out.size hb)
    clear hb
    have BX5 : Ad (w16.heap[w15.heap.size]? = some (.cells #[.int .i64 r6, .slice A5_ r7.length c5_] 26 (0, 0))) := ⟨hx0_⟩
    clear hx0_
    have GBX5 : Ad (w15.heap.size < w16.heap.size) := ⟨Kl BX5.out⟩
    go_wp2_with (first | ((refine Gd (N := 111) rfl ?_); first | refine Er rfl (load_run BX1.out 2 rfl 26 _ (by rfl) (by rfl) _ Tryz.underlying26 rfl (by kernel_rfl)) ?_ | refine Er rfl (load_run BX3.out 2 rfl 26 _ (by rfl) (by rfl) _ Tryz.underlying26 rfl (by kernel_rfl)) ?_) | ((refine Gd (N := 112) rfl ?_); first | refine Er rfl (load_run BX1.out 2 rfl 26 _ (by rfl) (by rfl) _ Tryz.underlying26 rfl (by kernel_rfl)) ?_ | refine Er rfl (load_run BX3.out 2 rfl 26 _ (by rfl) (by rfl) _ Tryz.underlying26 rfl (by kernel_rfl)) ?_))
    (refine (impl_JoinAttr.calls K11 r1 r6 A3_ c3_ r7 r2 A1_ c1_ r3 r6 r7 true w16 (Rr X3.out).2.2 (Rr X3.out).2.1 (Rr X1.out).2.2 (Rr X1.out).2.1 H11.out).mono ?_)
    rintro e w17 ⟨v1_, rfl, hS0, hb⟩
    have X6 : Ad (Kd.R (Kd.int .i64) 3 w17 w.heap.size (fun k => w16.heap.size ≤ k ∧ k < w17.heap.size) v1_ r7) := ⟨Rm (Kd.R_lower (Ro hS0) HB.out.size) (fun k hk => ⟨hk.2.1, hk.2.2.1⟩)⟩
    have Z17 : Ad (w16.heap.size ≤ w17.heap.size) := ⟨hb.size⟩
    replace X1 := Am (Rb X1.out hb)
    replace X2 := Am (Rb X2.out hb)
    replace X3 := Am (Rb X3.out hb)
    replace X4 := Am (Rb X4.out hb)
    replace X5 := Am (Rb X5.out hb)
    replace BX1 := Am (Kb BX1.out hb)
    replace BX2 := Am (Kb BX2.out hb)
    replace BX3 := Am (Kb BX3.out hb)
    replace BX4 := Am (Kb BX4.out hb)
    replace BX5 := Am (Kb BX5.out hb)
    replace HB := Am (Bh HB.out HB.out.size hb)
    clear hb hS0
    obtain ⟨A6_, c6_, rfl⟩ := Rs X6.out
    have qBX3_0 : w17.cell? ⟨w5.heap.size, 0, none⟩ = some (.int .i64 r6) := (Kc BX3.out 0).trans rfl
    have qBX3_1 : w17.cell? ⟨w5.heap.size, 1, none⟩ = some (.slice A3_ r7.length c3_) := (Kc BX3.out 1).trans rfl
    have qBX5_0 : w17.cell? ⟨w15.heap.size, 0, none⟩ = some (.int .i64 r6) := (Kc BX5.out 0).trans rfl
    have qBX5_1 : w17.cell? ⟨w15.heap.size, 1, none⟩ = some (.slice A5_ r7.length c5_) := (Kc BX5.out 1).trans rfl
    go_upto_region 11 with (first | ((refine Gd (N := 123) rfl ?_); first | refine Er rfl (load_run BX3.out 2 rfl 26 _ (by rfl) (by rfl) _ Tryz.underlying26 rfl (by kernel_rfl)) ?_ | refine Er rfl (load_run BX5.out 2 rfl 26 _ (by rfl) (by rfl) _ Tryz.underlying26 rfl (by kernel_rfl)) ?_) | ((refine Gd (N := 124) rfl ?_); first | refine Er rfl (load_run BX3.out 2 rfl 26 _ (by rfl) (by rfl) _ Tryz.underlying26 rfl (by kernel_rfl)) ?_ | refine Er rfl (load_run BX5.out 2 rfl 26 _ (by rfl) (by rfl) _ Tryz.underlying26 rfl (by kernel_rfl)) ?_))
    clear qBX3_0 qBX3_1 qBX5_0 qBX5_1
    refine letC (fun W_ => Below w17.heap.size w17 W_ ∧ W_.heap[w17.heap.size]? = some (.cells #[.int .i64 r6, .slice A6_ r7.length c6_] 26 (0, 0))) ?_ ?_
    ·refine ⟨?_, ?_⟩
     ·repeat (first | exact Below.refl _ _ | apply Ba | refine Bs ?_ (by first | exact Nat.le_refl _ | omega | (simp; done)))
     ·exact blk_new w17 (.cells #[.int .i64 r6, .slice A6_ r7.length c6_] 26)
    intro w18 hq_
    obtain ⟨hb, hx0_⟩ := hq_
    have Z18 : Ad (w17.heap.size ≤ w18.heap.size) := ⟨hb.size⟩
    replace X1 := Am (Rb X1.out hb)
    replace X2 := Am (Rb X2.out hb)
    replace X3 := Am (Rb X3.out hb)
    replace X4 := Am (Rb X4.out hb)
    replace X5 := Am (Rb X5.out hb)
    replace X6 := Am (Rb X6.out hb)
    replace BX1 := Am (Kb BX1.out hb)
    replace BX2 := Am (Kb BX2.out hb)
    replace BX3 := Am (Kb BX3.out hb)
    replace BX4 := Am (Kb BX4.out hb)
    replace BX5 := Am (Kb BX5.out hb)
    replace HB := Am (Bh HB.out HB.out.size hb)
    clear hb
    have BX6 : Ad (w18.heap[w17.heap.size]? = some (.cells #[.int .i64 r6, .slice A6_ r7.length c6_] 26 (0, 0))) := ⟨hx0_⟩
    clear hx0_
    have GBX6 : Ad (w17.heap.size < w18.heap.size) := ⟨Kl BX6.out⟩
    have qBX3_0 : w18.cell? ⟨w5.heap.size, 0, none⟩ = some (.int .i64 r6) := (Kc BX3.out 0).trans rfl
    have qBX3_1 : w18.cell? ⟨w5.heap.size, 1, none⟩ = some (.slice A3_ r7.length c3_) := (Kc BX3.out 1).trans rfl
    have qBX5_0 : w18.cell? ⟨w15.heap.size, 0, none⟩ = some (.int .i64 r6) := (Kc BX5.out 0).trans rfl
    have qBX5_1 : w18.cell? ⟨w15.heap.size, 1, none⟩ = some (.slice A5_ r7.length c5_) := (Kc BX5.out 1).trans rfl
    have qBX6_0 : w18.cell? ⟨w17.heap.size, 0, none⟩ = some (.int .i64 r6) := (Kc BX6.out 0).trans rfl
    have qBX6_1 : w18.cell? ⟨w17.heap.size, 1, none⟩ = some (.slice A6_ r7.length c6_) := (Kc BX6.out 1).trans rfl
    go_wp2_with (first | ((refine Gd (N := 123) rfl ?_); first | refine Er rfl (load_run BX3.out 2 rfl 26 _ (by rfl) (by rfl) _ Tryz.underlying26 rfl (by kernel_rfl)) ?_ | refine Er rfl (load_run BX5.out 2 rfl 26 _ (by rfl) (by rfl) _ Tryz.underlying26 rfl (by kernel_rfl)) ?_ | refine Er rfl (load_run BX6.out 2 rfl 26 _ (by rfl) (by rfl) _ Tryz.underlying26 rfl (by kernel_rfl)) ?_) | ((refine Gd (N := 124) rfl ?_); first | refine Er rfl (load_run BX3.out 2 rfl 26 _ (by rfl) (by rfl) _ Tryz.underlying26 rfl (by kernel_rfl)) ?_ | refine Er rfl (load_run BX5.out 2 rfl 26 _ (by rfl) (by rfl) _ Tryz.underlying26 rfl (by kernel_rfl)) ?_ | refine Er rfl (load_run BX6.out 2 rfl 26 _ (by rfl) (by rfl) _ Tryz.underlying26 rfl (by kernel_rfl)) ?_))
    clear qBX3_0 qBX3_1 qBX5_0 qBX5_1 qBX6_0 qBX6_1
    (refine (laws_sameAttr.calls K6 r6 A5_ c5_ r7 r6 A3_ c3_ r7 true w18 (Rr X5.out).2.2 (Rr X5.out).2.1 (Rr X3.out).2.2 (Rr X3.out).2.1 H6.out).mono ?_)
    rintro e w19 ⟨rfl, hb⟩
    have Z19 : Ad (w18.heap.size ≤ w19.heap.size) := ⟨hb.size⟩
    replace X1 := Am (Rb X1.out hb)
    replace X2 := Am (Rb X2.out hb)
    replace X3 := Am (Rb X3.out hb)
    replace X4 := Am (Rb X4.out hb)
    replace X5 := Am (Rb X5.out hb)
    replace X6 := Am (Rb X6.out hb)
    replace BX1 := Am (Kb BX1.out hb)
    replace BX2 := Am (Kb BX2.out hb)
    replace BX3 := Am (Kb BX3.out hb)
    replace BX4 := Am (Kb BX4.out hb)
    replace BX5 := Am (Kb BX5.out hb)
    replace BX6 := Am (Kb BX6.out hb)
    replace HB := Am (Bh HB.out HB.out.size hb)
    clear hb
    have qBX3_0 : w19.cell? ⟨w5.heap.size, 0, none⟩ = some (.int .i64 r6) := (Kc BX3.out 0).trans rfl
    have qBX3_1 : w19.cell? ⟨w5.heap.size, 1, none⟩ = some (.slice A3_ r7.length c3_) := (Kc BX3.out 1).trans rfl
    have qBX5_0 : w19.cell? ⟨w15.heap.size, 0, none⟩ = some (.int .i64 r6) := (Kc BX5.out 0).trans rfl
    have qBX5_1 : w19.cell? ⟨w15.heap.size, 1, none⟩ = some (.slice A5_ r7.length c5_) := (Kc BX5.out 1).trans rfl
    have qBX6_0 : w19.cell? ⟨w17.heap.size, 0, none⟩ = some (.int .i64 r6) := (Kc BX6.out 0).trans rfl
    have qBX6_1 : w19.cell? ⟨w17.heap.size, 1, none⟩ = some (.slice A6_ r7.length c6_) := (Kc BX6.out 1).trans rfl
    go_wp2_with (first | ((refine Gd (N := 129) rfl ?_); first | refine Er rfl (load_run BX3.out 2 rfl 26 _ (by rfl) (by rfl) _ Tryz.underlying26 rfl (by kernel_rfl)) ?_ | refine Er rfl (load_run BX5.out 2 rfl 26 _ (by rfl) (by rfl) _ Tryz.underlying26 rfl (by kernel_rfl)) ?_ | refine Er rfl (load_run BX6.out 2 rfl 26 _ (by rfl) (by rfl) _ Tryz.underlying26 rfl (by kernel_rfl)) ?_) | ((refine Gd (N := 130) rfl ?_); first | refine Er rfl (load_run BX3.out 2 rfl 26 _ (by rfl) (by rfl) _ Tryz.underlying26 rfl (by kernel_rfl)) ?_ | refine Er rfl (load_run BX5.out 2 rfl 26 _ (by rfl) (by rfl) _ Tryz.underlying26 rfl (by kernel_rfl)) ?_ | refine Er rfl (load_run BX6.out 2 rfl 26 _ (by rfl) (by rfl) _ Tryz.underlying26 rfl (by kernel_rfl)) ?_))
    clear qBX3_0 qBX3_1 qBX5_0 qBX5_1 qBX6_0 qBX6_1
    (refine (laws_sameAttr.calls K6 r6 A6_ c6_ r7 r6 A3_ c3_ r7 true w19 (Rr X6.out).2.2 (Rr X6.out).2.1 (Rr X3.out).2.2 (Rr X3.out).2.1 H6.out).mono ?_)
    rintro e w20 ⟨rfl, hb⟩
    have Z20 : Ad (w19.heap.size ≤ w20.heap.size) := ⟨hb.size⟩
    replace X1 := Am (Rb X1.out hb)
    replace X2 := Am (Rb X2.out hb)
    replace X3 := Am (Rb X3.out hb)
    replace X4 := Am (Rb X4.out hb)
    replace X5 := Am (Rb X5.out hb)
    replace X6 := Am (Rb X6.out hb)
    replace BX1 := Am (Kb BX1.out hb)
    replace BX2 := Am (Kb BX2.out hb)
    replace BX3 := Am (Kb BX3.out hb)
    replace BX4 := Am (Kb BX4.out hb)
    replace BX5 := Am (Kb BX5.out hb)
    replace BX6 := Am (Kb BX6.out hb)
    replace HB := Am (Bh HB.out HB.out.size hb)
    clear hb
    obtain ⟨h12, hF⟩ := HF.out
    clear HF
    have HF := Am hF
    clear hF
    have H12 := Am h12
    clear h12
    obtain ⟨h13, hF⟩ := HF.out
    clear HF
    have HF := Am hF
    clear hF
    have H13 := Am h13
    clear h13
    go_wp2
    go_loopg [16] r1.toNat (fun gg v16 wr => ∃ i : Nat, i ≤ r1.toNat ∧ r1.toNat - i ≤ gg ∧ v16 = .int .i64 i ∧ Ad (Below w.heap.size w wr) ∧ Ad (wr.heap[w3.heap.size]? = some (.cells #[.int .i64 r2, .slice A1_ r3.length c1_] 26 (0, 0))) ∧ Ad (wr.heap[w3.heap.size + 1]? = some (.cells #[.int .i64 r4, .slice A2_ r5.length c2_] 26 (0, 0))) ∧ Ad (wr.heap[w5.heap.size]? = some (.cells #[.int .i64 r6, .slice A3_ r7.length c3_] 26 (0, 0))) ∧ Ad (Kd.R (Kd.int .i64) 3 wr w.heap.size (fun k => w2.heap.size ≤ k ∧ k < w3.heap.size) (.slice A1_ r3.length c1_) r3) ∧ Ad (Kd.R (Kd.int .i64) 3 wr w.heap.size (fun k => w2.heap.size ≤ k ∧ k < w3.heap.size) (.slice A2_ r5.length c2_) r5) ∧ Ad (Kd.R (Kd.int .i64) 3 wr w.heap.size (fun k => w4.heap.size ≤ k ∧ k < w5.heap.size) (.slice A3_ r7.length c3_) r7))
    case atStart => exact ⟨0, Nat.zero_le _, by omega, by first | rfl | simp, HB, BX1, BX2, BX3, X1, X2, X3⟩
    case round =>
     clear HB BX1 BX2 BX3 X1 X2 X3 Z2 Z3 Z4 GBX1 GBX2 Z5 Z6 GBX3 Z7 Z8 GBX4 Z9 Z10 Z11 Z12 Z13 Z14 Z15 Z16 GBX5 Z17 Z18 GBX6 Z19 Z20 BX4 BX5 BX6
     obtain ⟨i, hi, hgg, rfl, HB, BX1, BX2, BX3, X1, X2, X3⟩ := hrel
     have hn_ := H12.out
     by_cases hlt : i < r1.toNat
     ·have hltz : (i : Int) < r1 := by omega
      go_wp2
      go_loopg [17] 6 (fun gg2 v17 wr => ∃ m : Nat, 1 ≤ m ∧ m ≤ 7 ∧ 7 - m ≤ gg2 ∧ v17 = .int .i64 m ∧ Ad (Below w.heap.size w wr) ∧ Ad (wr.heap[w3.heap.size]? = some (.cells #[.int .i64 r2, .slice A1_ r3.length c1_] 26 (0, 0))) ∧ Ad (wr.heap[w3.heap.size + 1]? = some (.cells #[.int .i64 r4, .slice A2_ r5.length c2_] 26 (0, 0))) ∧ Ad (wr.heap[w5.heap.size]? = some (.cells #[.int .i64 r6, .slice A3_ r7.length c3_] 26 (0, 0))) ∧ Ad (Kd.R (Kd.int .i64) 3 wr w.heap.size (fun k => w2.heap.size ≤ k ∧ k < w3.heap.size) (.slice A1_ r3.length c1_) r3) ∧ Ad (Kd.R (Kd.int .i64) 3 wr w.heap.size (fun k => w2.heap.size ≤ k ∧ k < w3.heap.size) (.slice A2_ r5.length c2_) r5) ∧ Ad (Kd.R (Kd.int .i64) 3 wr w.heap.size (fun k => w4.heap.size ≤ k ∧ k < w5.heap.size) (.slice A3_ r7.length c3_) r7))
      case atStart => exact ⟨1, by omega, by omega, by omega, by first | rfl | simp, HB, BX1, BX2, BX3, X1, X2, X3⟩
      case round =>
       clear HB BX1 BX2 BX3 X1 X2 X3
       obtain ⟨m, hm1, hm7, hgg2, rfl, HB, BX1, BX2, BX3, X1, X2, X3⟩ := hrel
       by_cases hmt : m ≤ 6
       ·have hmz : (m : Int) ≤ 6 := by omega
        obtain ⟨x, y, hx_, hy_, hz_⟩ := H13.out i m hlt hm1 hmt
        have HXx := Am hx_
        have HXy := Am hy_
        have HXz := Am hz_
        clear hx_ hy_ hz_
        go_wp2_with (first | ((refine Gd (N := 145) rfl ?_); first | refine Er rfl (load_run BX1.out 2 rfl 26 _ (by rfl) (by rfl) _ Tryz.underlying26 rfl (by kernel_rfl)) ?_))
        (refine (impl_HangsOn.calls r1 r2 A1_ c1_ r3 (i : Int) (m : Int) x true wr (Rr X1.out).2.2 (Rr X1.out).2.1 HXx.out).mono ?_)
        rintro e w21 ⟨rfl, hb⟩
        have Z21 : Ad (wr.heap.size ≤ w21.heap.size) := ⟨hb.size⟩
        replace X1 := Am (Rb X1.out hb)
        replace X2 := Am (Rb X2.out hb)
        replace X3 := Am (Rb X3.out hb)
        replace BX1 := Am (Kb BX1.out hb)
        replace BX2 := Am (Kb BX2.out hb)
        replace BX3 := Am (Kb BX3.out hb)
        replace HB := Am (Bh HB.out HB.out.size hb)
        clear hb
        go_wp2_with (first | ((refine Gd (N := 153) rfl ?_); first | refine Er rfl (load_run BX2.out 2 rfl 26 _ (by rfl) (by rfl) _ Tryz.underlying26 rfl (by kernel_rfl)) ?_))
        (refine (impl_HangsOn.calls r1 r4 A2_ c2_ r5 (i : Int) (m : Int) y true w21 (Rr X2.out).2.2 (Rr X2.out).2.1 HXy.out).mono ?_)
        rintro e w22 ⟨rfl, hb⟩
        have Z22 : Ad (w21.heap.size ≤ w22.heap.size) := ⟨hb.size⟩
        replace X1 := Am (Rb X1.out hb)
        replace X2 := Am (Rb X2.out hb)
        replace X3 := Am (Rb X3.out hb)
        replace BX1 := Am (Kb BX1.out hb)
        replace BX2 := Am (Kb BX2.out hb)
        replace BX3 := Am (Kb BX3.out hb)
        replace HB := Am (Bh HB.out HB.out.size hb)
        clear hb
        go_wp2_with (first | ((refine Gd (N := 161) rfl ?_); first | refine Er rfl (load_run BX3.out 2 rfl 26 _ (by rfl) (by rfl) _ Tryz.underlying26 rfl (by kernel_rfl)) ?_))
        (refine (impl_HangsOn.calls r1 r6 A3_ c3_ r7 (i : Int) (m : Int) (x || y) true w22 (Rr X3.out).2.2 (Rr X3.out).2.1 HXz.out).mono ?_)
        rintro e w23 ⟨rfl, hb⟩
        have Z23 : Ad (w22.heap.size ≤ w23.heap.size) := ⟨hb.size⟩
        replace X1 := Am (Rb X1.out hb)
        replace X2 := Am (Rb X2.out hb)
        replace X3 := Am (Rb X3.out hb)
        replace BX1 := Am (Kb BX1.out hb)
        replace BX2 := Am (Kb BX2.out hb)
        replace BX3 := Am (Kb BX3.out hb)
        replace HB := Am (Bh HB.out HB.out.size hb)
        clear hb
        clear HXx HXy HXz
        cases x <;> cases y <;> (go_wp2; (go_roundg (7 - (m + 1))); (case measure => omega); (case rel => exact ⟨m + 1, by omega, by omega, by omega, by go_num, HB, BX1, BX2, BX3, X1, X2, X3⟩))
       ·have hmz : ¬ (m : Int) ≤ 6 := by omega
        go_wp2
        go_roundg (r1.toNat - (i + 1))
        case measure => omega
        case rel => exact ⟨i + 1, by omega, by omega, by go_num, HB, BX1, BX2, BX3, X1, X2, X3⟩
     ·have hltz : ¬ (i : Int) < r1 := by omega
      as_aux_lemma =>
       obtain ⟨r9, r10, r11, ⟨K14, h14⟩, hF⟩ := HF.out
       clear HF
       have HF := Am hF
       clear hF
       have H14 := Am h14
       clear h14
       go_wp2_with fail
       (refine (spec_DrawAttrText.calls K14 A1 c1 l1 r9 r10 r11 wr (Cb HR1.out HB.out) HC1.out H14.out).mono ?_)
       rintro e w24 ⟨v2_, rfl, hS0, hb⟩
       have X7 : Ad (Kd.R (Kd.int .i64) 3 w24 w.heap.size (fun k => wr.heap.size ≤ k ∧ k < w24.heap.size) v2_ r11) := ⟨Rm (Kd.R_lower (Ro hS0) HB.out.size) (fun k hk => ⟨hk.2.1, hk.2.2.1⟩)⟩
       have Z24 : Ad (wr.heap.size ≤ w24.heap.size) := ⟨hb.size⟩
       replace X1 := Am (Rb X1.out hb)
       replace X2 := Am (Rb X2.out hb)
       replace X3 := Am (Rb X3.out hb)
       replace BX1 := Am (Kb BX1.out hb)
       replace BX2 := Am (Kb BX2.out hb)
       replace BX3 := Am (Kb BX3.out hb)
       replace HB := Am (Bh HB.out HB.out.size hb)
       clear hb hS0
       obtain ⟨A7_, c7_, rfl⟩ := Rs X7.out
       obtain ⟨r12, r13, ⟨K15, h15⟩, hF⟩ := HF.out
       clear HF
       have HF := Am hF
       clear hF
       have H15 := Am h15
       clear h15
       go_upto_region 25 with (fail)
       refine letC (fun W_ => Below w24.heap.size w24 W_ ∧ W_.heap[w24.heap.size]? = some (.cells #[.int .i64 r10, .slice A7_ r11.length c7_] 26 (0, 0))) ?_ ?_
       ·refine ⟨?_, ?_⟩
        ·repeat (first | exact Below.refl _ _ | apply Ba | refine Bs ?_ (by first | exact Nat.le_refl _ | omega | (simp; done)))
        ·exact blk_new w24 (.cells #[.int .i64 r10, .slice A7_ r11.length c7_] 26)
       intro w25 hq_
       obtain ⟨hb, hx0_⟩ := hq_
       have Z25 : Ad (w24.heap.size ≤ w25.heap.size) := ⟨hb.size⟩
       replace X1 := Am (Rb X1.out hb)
       replace X2 := Am (Rb X2.out hb)
       replace X3 := Am (Rb X3.out hb)
       replace X7 := Am (Rb X7.out hb)
       replace BX1 := Am (Kb BX1.out hb)
       replace BX2 := Am (Kb BX2.out hb)
       replace BX3 := Am (Kb BX3.out hb)
       replace HB := Am (Bh HB.out HB.out.size hb)
       clear hb
       have BX7 : Ad (w25.heap[w24.heap.size]? = some (.cells #[.int .i64 r10, .slice A7_ r11.length c7_] 26 (0, 0))) := ⟨hx0_⟩
       clear hx0_
       have GBX7 : Ad (w24.heap.size < w25.heap.size) := ⟨Kl BX7.out⟩
       go_wp2_with (first | ((refine Gd (N := 192) rfl ?_); first | refine Er rfl (load_run BX7.out 2 rfl 26 _ (by rfl) (by rfl) _ Tryz.underlying26 rfl (by kernel_rfl)) ?_))
       (refine (impl_AttrText.calls K15 r9 r10 A7_ c7_ r11 r12 r13 w25 (Rr X7.out).2.2 (Rr X7.out).2.1 H15.out (EnvT.below HTw.out (by repeat (first | exact HB.out | apply Ba | apply Bn | apply Bd)))).mono ?_)
       rintro e w26 ⟨rfl, hb⟩
       have Z26 : Ad (w25.heap.size ≤ w26.heap.size) := ⟨hb.size⟩
       replace X1 := Am (Rb X1.out hb)
       replace X2 := Am (Rb X2.out hb)
       replace X3 := Am (Rb X3.out hb)
       replace X7 := Am (Rb X7.out hb)
       replace BX1 := Am (Kb BX1.out hb)
       replace BX2 := Am (Kb BX2.out hb)
       replace BX3 := Am (Kb BX3.out hb)
       replace BX7 := Am (Kb BX7.out hb)
       replace HB := Am (Bh HB.out HB.out.size hb)
       clear hb
       obtain ⟨⟨K16, h16⟩, hF⟩ := HF.out
       clear HF
       have HF := Am hF
       clear hF
       have H16 := Am h16
       clear h16
       go_wp2_with (first | ((refine Gd (N := 198) rfl ?_); first | refine Er rfl (load_run BX7.out 2 rfl 26 _ (by rfl) (by rfl) _ Tryz.underlying26 rfl (by kernel_rfl)) ?_))
       (refine (spec_AttrText.calls K16 r9 r10 A7_ c7_ r11 r12 r13 w26 (Rr X7.out).2.2 (Rr X7.out).2.1 H16.out).mono ?_)
       rintro e w27 ⟨rfl, hb⟩
       have Z27 : Ad (w26.heap.size ≤ w27.heap.size) := ⟨hb.size⟩
       replace X1 := Am (Rb X1.out hb)
       replace X2 := Am (Rb X2.out hb)
       replace X3 := Am (Rb X3.out hb)
       replace X7 := Am (Rb X7.out hb)
       replace BX1 := Am (Kb BX1.out hb)
       replace BX2 := Am (Kb BX2.out hb)
       replace BX3 := Am (Kb BX3.out hb)
       replace BX7 := Am (Kb BX7.out hb)
       replace HB := Am (Bh HB.out HB.out.size hb)
       clear hb
       obtain ⟨r14, r15, ⟨K17, h17⟩, hF⟩ := HF.out
       clear HF
       have HF := Am hF
       clear hF
       have H17 := Am h17
       clear h17
       go_wp2_with fail
       (refine (spec_DrawReadAttr.calls K17 A1 c1 l1 r14 r15 w27 (Cb HR1.out HB.out) HC1.out H17.out).mono ?_)
       rintro e w28 ⟨rfl, hb⟩
       have Z28 : Ad (w27.heap.size ≤ w28.heap.size) := ⟨hb.size⟩
       replace X1 := Am (Rb X1.out hb)
       replace X2 := Am (Rb X2.out hb)
       replace X3 := Am (Rb X3.out hb)
       replace X7 := Am (Rb X7.out hb)
       replace BX1 := Am (Kb BX1.out hb)
       replace BX2 := Am (Kb BX2.out hb)
       replace BX3 := Am (Kb BX3.out hb)
       replace BX7 := Am (Kb BX7.out hb)
       replace HB := Am (Bh HB.out HB.out.size hb)
       clear hb
       obtain ⟨r16, r17, r18, ⟨K18, h18⟩, hF⟩ := HF.out
       clear HF
       have HF := Am hF
       clear hF
       have H18 := Am h18
       clear h18
       go_wp2_with fail
       (refine (impl_ReadAttr.calls K18 r14 r15 r16 r17 r18 w28 H18.out (EnvM.below HMw.out (by repeat (first | exact HB.out | apply Ba | apply Bn | apply Bd)))).mono ?_)
       rintro e w29 ⟨v1_, rfl, hS0, hb⟩
       have X8 : Ad (Kd.R (Kd.int .i64) 3 w29 w.heap.size (fun k => w28.heap.size ≤ k ∧ k < w29.heap.size) v1_ r17) := ⟨Rm (Kd.R_lower (Ro hS0) HB.out.size) (fun k hk => ⟨hk.2.1, hk.2.2.1⟩)⟩
       have Z29 : Ad (w28.heap.size ≤ w29.heap.size) := ⟨hb.size⟩
       replace X1 := Am (Rb X1.out hb)
       replace X2 := Am (Rb X2.out hb)
       replace X3 := Am (Rb X3.out hb)
       replace X7 := Am (Rb X7.out hb)
       replace BX1 := Am (Kb BX1.out hb)
       replace BX2 := Am (Kb BX2.out hb)
       replace BX3 := Am (Kb BX3.out hb)
       replace BX7 := Am (Kb BX7.out hb)
       replace HB := Am (Bh HB.out HB.out.size hb)
       clear hb hS0
       obtain ⟨A8_, c8_, rfl⟩ := Rs X8.out
       obtain ⟨⟨K19, h19⟩, hF⟩ := HF.out
       clear HF
       have HF := Am hF
       clear hF
       have H19 := Am h19
       clear h19
       go_upto_region 29 with (fail)
       refine letC (fun W_ => Below w29.heap.size w29 W_ ∧ W_.heap[w29.heap.size]? = some (.cells #[.int .i64 r16, .slice A8_ r17.length c8_] 26 (0, 0))) ?_ ?_
       ·refine ⟨?_, ?_⟩
        ·repeat (first | exact Below.refl _ _ | apply Ba | refine Bs ?_ (by first | exact Nat.le_refl _ | omega | (simp; done)))
        ·exact blk_new w29 (.cells #[.int .i64 r16, .slice A8_ r17.length c8_] 26)
       intro w30 hq_
       obtain ⟨hb, hx0_⟩ := hq_
       have Z30 : Ad (w29.heap.size ≤ w30.heap.size) := ⟨hb.size⟩
       replace X1 := Am (Rb X1.out hb)
       replace X2 := Am (Rb X2.out hb)
       replace X3 := Am (Rb X3.out hb)
       replace X7 := Am (Rb X7.out hb)
       replace X8 := Am (Rb X8.out hb)
       replace BX1 := Am (Kb BX1.out hb)
       replace BX2 := Am (Kb BX2.out hb)
       replace BX3 := Am (Kb BX3.out hb)
       replace BX7 := Am (Kb BX7.out hb)
       replace HB := Am (Bh HB.out HB.out.size hb)
       clear hb
       have BX8 : Ad (w30.heap[w29.heap.size]? = some (.cells #[.int .i64 r16, .slice A8_ r17.length c8_] 26 (0, 0))) := ⟨hx0_⟩
       clear hx0_
       have GBX8 : Ad (w29.heap.size < w30.heap.size) := ⟨Kl BX8.out⟩
       go_wp2_with fail
       (refine (spec_ReadAttr.calls K19 r14 r15 r16 r17 r18 w30 H19.out).mono ?_)
       rintro e w31 ⟨v1_, rfl, hS0, hb⟩
       have X9 : Ad (Kd.R (Kd.int .i64) 3 w31 w.heap.size (fun k => w30.heap.size ≤ k ∧ k < w31.heap.size) v1_ r17) := ⟨Rm (Kd.R_lower (Ro hS0) HB.out.size) (fun k hk => ⟨hk.2.1, hk.2.2.1⟩)⟩
       have Z31 : Ad (w30.heap.size ≤ w31.heap.size) := ⟨hb.size⟩
       replace X1 := Am (Rb X1.out hb)
       replace X2 := Am (Rb X2.out hb)
       replace X3 := Am (Rb X3.out hb)
       replace X7 := Am (Rb X7.out hb)
       replace X8 := Am (Rb X8.out hb)
       replace BX1 := Am (Kb BX1.out hb)
       replace BX2 := Am (Kb BX2.out hb)
       replace BX3 := Am (Kb BX3.out hb)
       replace BX7 := Am (Kb BX7.out hb)
       replace BX8 := Am (Kb BX8.out hb)
       replace HB := Am (Bh HB.out HB.out.size hb)
       clear hb hS0
       obtain ⟨A9_, c9_, rfl⟩ := Rs X9.out
       obtain ⟨r19, h20, hF⟩ := HF.out
       clear HF
       have HF := Am hF
       clear hF
       have H20 := Am h20
       clear h20
       go_upto_region 30 with (fail)
       refine letC (fun W_ => Below w31.heap.size w31 W_ ∧ W_.heap[w31.heap.size]? = some (.cells #[.int .i64 r16, .slice A9_ r17.length c9_] 26 (0, 0))) ?_ ?_
       ·refine ⟨?_, ?_⟩
        ·repeat (first | exact Below.refl _ _ | apply Ba | refine Bs ?_ (by first | exact Nat.le_refl _ | omega | (simp; done)))
        ·exact blk_new w31 (.cells #[.int .i64 r16, .slice A9_ r17.length c9_] 26)
       intro w32 hq_
       obtain ⟨hb, hx0_⟩ := hq_
       have Z32 : Ad (w31.heap.size ≤ w32.heap.size) := ⟨hb.size⟩
       replace X1 := Am (Rb X1.out hb)
       replace X2 := Am (Rb X2.out hb)
       replace X3 := Am (Rb X3.out hb)
       replace X7 := Am (Rb X7.out hb)
       replace X8 := Am (Rb X8.out hb)
       replace X9 := Am (Rb X9.out hb)
       replace BX1 := Am (Kb BX1.out hb)
       replace BX2 := Am (Kb BX2.out hb)
       replace BX3 := Am (Kb BX3.out hb)
       replace BX7 := Am (Kb BX7.out hb)
       replace BX8 := Am (Kb BX8.out hb)
       replace HB := Am (Bh HB.out HB.out.size hb)
       clear hb
       have BX9 : Ad (w32.heap[w31.heap.size]? = some (.cells #[.int .i64 r16, .slice A9_ r17.length c9_] 26 (0, 0))) := ⟨hx0_⟩
       clear hx0_
       have GBX9 : Ad (w31.heap.size < w32.heap.size) := ⟨Kl BX9.out⟩
       go_wp2_with fail
       (refine (spec_DrawNoneAttr.calls A1 c1 l1 r19 w32 (Cb HR1.out HB.out) HC1.out H20.out).mono ?_)
       rintro e w33 ⟨rfl, hb⟩
       have Z33 : Ad (w32.heap.size ≤ w33.heap.size) := ⟨hb.size⟩
       replace X1 := Am (Rb X1.out hb)
       replace X2 := Am (Rb X2.out hb)
       replace X3 := Am (Rb X3.out hb)
       replace X7 := Am (Rb X7.out hb)
       replace X8 := Am (Rb X8.out hb)
       replace X9 := Am (Rb X9.out hb)
       replace BX1 := Am (Kb BX1.out hb)
       replace BX2 := Am (Kb BX2.out hb)
       replace BX3 := Am (Kb BX3.out hb)
       replace BX7 := Am (Kb BX7.out hb)
       replace BX8 := Am (Kb BX8.out hb)
       replace BX9 := Am (Kb BX9.out hb)
       replace HB := Am (Bh HB.out HB.out.size hb)
       clear hb
       obtain ⟨r20, r21, r22, h21, hF⟩ := HF.out
       clear HF
       have HF := Am hF
       clear hF
       have H21 := Am h21
       clear h21
       go_wp2_with fail
       (refine (impl_NoneAttr.calls r19 r20 r21 r22 w33 H21.out).mono ?_)
       rintro e w34 ⟨v1_, rfl, hS0, hb⟩
       have X10 : Ad (Kd.R (Kd.int .i64) 3 w34 w.heap.size (fun k => w33.heap.size ≤ k ∧ k < w34.heap.size) v1_ r21) := ⟨Rm (Kd.R_lower (Ro hS0) HB.out.size) (fun k hk => ⟨hk.2.1, hk.2.2.1⟩)⟩
       have Z34 : Ad (w33.heap.size ≤ w34.heap.size) := ⟨hb.size⟩
       replace X1 := Am (Rb X1.out hb)
       replace X2 := Am (Rb X2.out hb)
       replace X3 := Am (Rb X3.out hb)
       replace X7 := Am (Rb X7.out hb)
       replace X8 := Am (Rb X8.out hb)
       replace X9 := Am (Rb X9.out hb)
       replace BX1 := Am (Kb BX1.out hb)
       replace BX2 := Am (Kb BX2.out hb)
       replace BX3 := Am (Kb BX3.out hb)
       replace BX7 := Am (Kb BX7.out hb)
       replace BX8 := Am (Kb BX8.out hb)
       replace BX9 := Am (Kb BX9.out hb)
       replace HB := Am (Bh HB.out HB.out.size hb)
       clear hb hS0
       obtain ⟨A10_, c10_, rfl⟩ := Rs X10.out
       obtain ⟨h22, hF⟩ := HF.out
       clear HF
       have HF := Am hF
       clear hF
       have H22 := Am h22
       clear h22
       go_upto_region 32 with (fail)
       refine letC (fun W_ => Below w34.heap.size w34 W_ ∧ W_.heap[w34.heap.size]? = some (.cells #[.int .i64 r20, .slice A10_ r21.length c10_] 26 (0, 0))) ?_ ?_
       ·refine ⟨?_, ?_⟩
        ·repeat (first | exact Below.refl _ _ | apply Ba | refine Bs ?_ (by first | exact Nat.le_refl _ | omega | (simp; done)))
        ·exact blk_new w34 (.cells #[.int .i64 r20, .slice A10_ r21.length c10_] 26)
       intro w35 hq_
       obtain ⟨hb, hx0_⟩ := hq_
       have Z35 : Ad (w34.heap.size ≤ w35.heap.size) := ⟨hb.size⟩
       replace X1 := Am (Rb X1.out hb)
       replace X2 := Am (Rb X2.out hb)
       replace X3 := Am (Rb X3.out hb)
       replace X7 := Am (Rb X7.out hb)
       replace X8 := Am (Rb X8.out hb)
       replace X9 := Am (Rb X9.out hb)
       replace X10 := Am (Rb X10.out hb)
       replace BX1 := Am (Kb BX1.out hb)
       replace BX2 := Am (Kb BX2.out hb)
       replace BX3 := Am (Kb BX3.out hb)
       replace BX7 := Am (Kb BX7.out hb)
       replace BX8 := Am (Kb BX8.out hb)
       replace BX9 := Am (Kb BX9.out hb)
       replace HB := Am (Bh HB.out HB.out.size hb)
       clear hb
       have BX10 : Ad (w35.heap[w34.heap.size]? = some (.cells #[.int .i64 r20, .slice A10_ r21.length c10_] 26 (0, 0))) := ⟨hx0_⟩
       clear hx0_
       have GBX10 : Ad (w34.heap.size < w35.heap.size) := ⟨Kl BX10.out⟩
       go_wp2_with fail
       (refine (spec_NoneAttr.calls r19 r20 r21 r22 w35 H22.out).mono ?_)
       rintro e w36 ⟨v1_, rfl, hS0, hb⟩
       have X11 : Ad (Kd.R (Kd.int .i64) 3 w36 w.heap.size (fun k => w35.heap.size ≤ k ∧ k < w36.heap.size) v1_ r21) := ⟨Rm (Kd.R_lower (Ro hS0) HB.out.size) (fun k hk => ⟨hk.2.1, hk.2.2.1⟩)⟩
       have Z36 : Ad (w35.heap.size ≤ w36.heap.size) := ⟨hb.size⟩
       replace X1 := Am (Rb X1.out hb)
       replace X2 := Am (Rb X2.out hb)
       replace X3 := Am (Rb X3.out hb)
       replace X7 := Am (Rb X7.out hb)
       replace X8 := Am (Rb X8.out hb)
       replace X9 := Am (Rb X9.out hb)
       replace X10 := Am (Rb X10.out hb)
       replace BX1 := Am (Kb BX1.out hb)
       replace BX2 := Am (Kb BX2.out hb)
       replace BX3 := Am (Kb BX3.out hb)
       replace BX7 := Am (Kb BX7.out hb)
       replace BX8 := Am (Kb BX8.out hb)
       replace BX9 := Am (Kb BX9.out hb)
       replace BX10 := Am (Kb BX10.out hb)
       replace HB := Am (Bh HB.out HB.out.size hb)
       clear hb hS0
       obtain ⟨A11_, c11_, rfl⟩ := Rs X11.out
       obtain ⟨r23, r24, r25, r26, r27, ⟨K23, h23⟩, hF⟩ := HF.out
       clear HF
       have HF := Am hF
       clear hF
       have H23 := Am h23
       clear h23
       go_upto_region 33 with (fail)
       refine letC (fun W_ => Below w36.heap.size w36 W_ ∧ W_.heap[w36.heap.size]? = some (.cells #[.int .i64 r20, .slice A11_ r21.length c11_] 26 (0, 0))) ?_ ?_
       ·refine ⟨?_, ?_⟩
        ·repeat (first | exact Below.refl _ _ | apply Ba | refine Bs ?_ (by first | exact Nat.le_refl _ | omega | (simp; done)))
        ·exact blk_new w36 (.cells #[.int .i64 r20, .slice A11_ r21.length c11_] 26)
       intro w37 hq_
       obtain ⟨hb, hx0_⟩ := hq_
       have Z37 : Ad (w36.heap.size ≤ w37.heap.size) := ⟨hb.size⟩
       replace X1 := Am (Rb X1.out hb)
       replace X2 := Am (Rb X2.out hb)
       replace X3 := Am (Rb X3.out hb)
       replace X7 := Am (Rb X7.out hb)
       replace X8 := Am (Rb X8.out hb)
       replace X9 := Am (Rb X9.out hb)
       replace X10 := Am (Rb X10.out hb)
       replace X11 := Am (Rb X11.out hb)
       replace BX1 := Am (Kb BX1.out hb)
       replace BX2 := Am (Kb BX2.out hb)
       replace BX3 := Am (Kb BX3.out hb)
       replace BX7 := Am (Kb BX7.out hb)
       replace BX8 := Am (Kb BX8.out hb)
       replace BX9 := Am (Kb BX9.out hb)
       replace BX10 := Am (Kb BX10.out hb)
       replace HB := Am (Bh HB.out HB.out.size hb)
       clear hb
       have BX11 : Ad (w37.heap[w36.heap.size]? = some (.cells #[.int .i64 r20, .slice A11_ r21.length c11_] 26 (0, 0))) := ⟨hx0_⟩
       clear hx0_
       have GBX11 : Ad (w36.heap.size < w37.heap.size) := ⟨Kl BX11.out⟩
       go_wp2_with fail
       (refine (spec_DrawHangsOn.calls K23 A1 c1 l1 r23 r24 r25 r26 r27 w37 (Cb HR1.out HB.out) HC1.out H23.out).mono ?_)
       rintro e w38 ⟨v0_, rfl, hS0, hb⟩
       have X12 : Ad (Kd.R (Kd.int .i64) 3 w38 w.heap.size (fun k => w37.heap.size ≤ k ∧ k < w38.heap.size) v0_ r25) := ⟨Rm (Kd.R_lower (Ro hS0) HB.out.size) (fun k hk => ⟨hk.2.1, hk.2.2.1⟩)⟩
       have Z38 : Ad (w37.heap.size ≤ w38.heap.size) := ⟨hb.size⟩
       replace X1 := Am (Rb X1.out hb)
       replace X2 := Am (Rb X2.out hb)
       replace X3 := Am (Rb X3.out hb)
       replace X7 := Am (Rb X7.out hb)
       replace X8 := Am (Rb X8.out hb)
       replace X9 := Am (Rb X9.out hb)
       replace X10 := Am (Rb X10.out hb)
       replace X11 := Am (Rb X11.out hb)
       replace BX1 := Am (Kb BX1.out hb)
       replace BX2 := Am (Kb BX2.out hb)
       replace BX3 := Am (Kb BX3.out hb)
       replace BX7 := Am (Kb BX7.out hb)
       replace BX8 := Am (Kb BX8.out hb)
       replace BX9 := Am (Kb BX9.out hb)
       replace BX10 := Am (Kb BX10.out hb)
       replace BX11 := Am (Kb BX11.out hb)
       replace HB := Am (Bh HB.out HB.out.size hb)
       clear hb hS0
       obtain ⟨A12_, c12_, rfl⟩ := Rs X12.out
       obtain ⟨r28, r29, h24, hF⟩ := HF.out
       clear HF
       have HF := Am hF
       clear hF
       have H24 := Am h24
       clear h24
       go_upto_region 34 with (fail)
       refine letC (fun W_ => Below w38.heap.size w38 W_ ∧ W_.heap[w38.heap.size]? = some (.cells #[.int .i64 r24, .slice A12_ r25.length c12_] 26 (0, 0))) ?_ ?_
       ·refine ⟨?_, ?_⟩
        ·repeat (first | exact Below.refl _ _ | apply Ba | refine Bs ?_ (by first | exact Nat.le_refl _ | omega | (simp; done)))
        ·exact blk_new w38 (.cells #[.int .i64 r24, .slice A12_ r25.length c12_] 26)
       intro w39 hq_
       obtain ⟨hb, hx0_⟩ := hq_
       have Z39 : Ad (w38.heap.size ≤ w39.heap.size) := ⟨hb.size⟩
       replace X1 := Am (Rb X1.out hb)
       replace X2 := Am (Rb X2.out hb)
       replace X3 := Am (Rb X3.out hb)
       replace X7 := Am (Rb X7.out hb)
       replace X8 := Am (Rb X8.out hb)
       replace X9 := Am (Rb X9.out hb)
       replace X10 := Am (Rb X10.out hb)
       replace X11 := Am (Rb X11.out hb)
       replace X12 := Am (Rb X12.out hb)
       replace BX1 := Am (Kb BX1.out hb)
       replace BX2 := Am (Kb BX2.out hb)
       replace BX3 := Am (Kb BX3.out hb)
       replace BX7 := Am (Kb BX7.out hb)
       replace BX8 := Am (Kb BX8.out hb)
       replace BX9 := Am (Kb BX9.out hb)
       replace BX10 := Am (Kb BX10.out hb)
       replace BX11 := Am (Kb BX11.out hb)
       replace HB := Am (Bh HB.out HB.out.size hb)
       clear hb
       have BX12 : Ad (w39.heap[w38.heap.size]? = some (.cells #[.int .i64 r24, .slice A12_ r25.length c12_] 26 (0, 0))) := ⟨hx0_⟩
       clear hx0_
       have GBX12 : Ad (w38.heap.size < w39.heap.size) := ⟨Kl BX12.out⟩
       go_wp2_with (first | ((refine Gd (N := 240) rfl ?_); first | refine Er rfl (load_run BX12.out 2 rfl 26 _ (by rfl) (by rfl) _ Tryz.underlying26 rfl (by kernel_rfl)) ?_))
       (refine (impl_HangsOn.calls r23 r24 A12_ c12_ r25 r26 r27 r28 r29 w39 (Rr X12.out).2.2 (Rr X12.out).2.1 H24.out).mono ?_)
       rintro e w40 ⟨rfl, hb⟩
       have Z40 : Ad (w39.heap.size ≤ w40.heap.size) := ⟨hb.size⟩
       replace X1 := Am (Rb X1.out hb)
       replace X2 := Am (Rb X2.out hb)
       replace X3 := Am (Rb X3.out hb)
       replace X7 := Am (Rb X7.out hb)
       replace X8 := Am (Rb X8.out hb)
       replace X9 := Am (Rb X9.out hb)
       replace X10 := Am (Rb X10.out hb)
       replace X11 := Am (Rb X11.out hb)
       replace X12 := Am (Rb X12.out hb)
       replace BX1 := Am (Kb BX1.out hb)
       replace BX2 := Am (Kb BX2.out hb)
       replace BX3 := Am (Kb BX3.out hb)
       replace BX7 := Am (Kb BX7.out hb)
       replace BX8 := Am (Kb BX8.out hb)
       replace BX9 := Am (Kb BX9.out hb)
       replace BX10 := Am (Kb BX10.out hb)
       replace BX11 := Am (Kb BX11.out hb)
       replace BX12 := Am (Kb BX12.out hb)
       replace HB := Am (Bh HB.out HB.out.size hb)
       clear hb
       obtain ⟨⟨K25, h25⟩, hF⟩ := HF.out
       clear HF
       have HF := Am hF
       clear hF
       have H25 := Am h25
       clear h25
       go_wp2_with (first | ((refine Gd (N := 248) rfl ?_); first | refine Er rfl (load_run BX12.out 2 rfl 26 _ (by rfl) (by rfl) _ Tryz.underlying26 rfl (by kernel_rfl)) ?_))
       (refine (spec_HangsOn.calls K25 r23 r24 A12_ c12_ r25 r26 r27 r28 r29 w40 (Rr X12.out).2.2 (Rr X12.out).2.1 H25.out).mono ?_)
       rintro e w41 ⟨rfl, hb⟩
       have Z41 : Ad (w40.heap.size ≤ w41.heap.size) := ⟨hb.size⟩
       replace X1 := Am (Rb X1.out hb)
       replace X2 := Am (Rb X2.out hb)
       replace X3 := Am (Rb X3.out hb)
       replace X7 := Am (Rb X7.out hb)
       replace X8 := Am (Rb X8.out hb)
       replace X9 := Am (Rb X9.out hb)
       replace X10 := Am (Rb X10.out hb)
       replace X11 := Am (Rb X11.out hb)
       replace X12 := Am (Rb X12.out hb)
       replace BX1 := Am (Kb BX1.out hb)
       replace BX2 := Am (Kb BX2.out hb)
       replace BX3 := Am (Kb BX3.out hb)
       replace BX7 := Am (Kb BX7.out hb)
       replace BX8 := Am (Kb BX8.out hb)
       replace BX9 := Am (Kb BX9.out hb)
       replace BX10 := Am (Kb BX10.out hb)
       replace BX11 := Am (Kb BX11.out hb)
       replace BX12 := Am (Kb BX12.out hb)
       replace HB := Am (Bh HB.out HB.out.size hb)
       clear hb
       obtain ⟨⟨K26, h26⟩, hF⟩ := HF.out
       clear HF
       have HF := Am hF
       clear hF
       have H26 := Am h26
       clear h26
       have qBX7_0 : w41.cell? ⟨w24.heap.size, 0, none⟩ = some (.int .i64 r10) := (Kc BX7.out 0).trans rfl
       have qBX7_1 : w41.cell? ⟨w24.heap.size, 1, none⟩ = some (.slice A7_ r11.length c7_) := (Kc BX7.out 1).trans rfl
       have qBX8_0 : w41.cell? ⟨w29.heap.size, 0, none⟩ = some (.int .i64 r16) := (Kc BX8.out 0).trans rfl
       have qBX8_1 : w41.cell? ⟨w29.heap.size, 1, none⟩ = some (.slice A8_ r17.length c8_) := (Kc BX8.out 1).trans rfl
       have qBX9_0 : w41.cell? ⟨w31.heap.size, 0, none⟩ = some (.int .i64 r16) := (Kc BX9.out 0).trans rfl
       have qBX9_1 : w41.cell? ⟨w31.heap.size, 1, none⟩ = some (.slice A9_ r17.length c9_) := (Kc BX9.out 1).trans rfl
       have qBX10_0 : w41.cell? ⟨w34.heap.size, 0, none⟩ = some (.int .i64 r20) := (Kc BX10.out 0).trans rfl
       have qBX10_1 : w41.cell? ⟨w34.heap.size, 1, none⟩ = some (.slice A10_ r21.length c10_) := (Kc BX10.out 1).trans rfl
       have qBX11_0 : w41.cell? ⟨w36.heap.size, 0, none⟩ = some (.int .i64 r20) := (Kc BX11.out 0).trans rfl
       have qBX11_1 : w41.cell? ⟨w36.heap.size, 1, none⟩ = some (.slice A11_ r21.length c11_) := (Kc BX11.out 1).trans rfl
       go_wp2_with (first | ((refine Gd (N := 268) rfl ?_); first | refine Er rfl (load_run BX7.out 2 rfl 26 _ (by rfl) (by rfl) _ Tryz.underlying26 rfl (by kernel_rfl)) ?_ | refine Er rfl (load_run BX8.out 2 rfl 26 _ (by rfl) (by rfl) _ Tryz.underlying26 rfl (by kernel_rfl)) ?_ | refine Er rfl (load_run BX9.out 2 rfl 26 _ (by rfl) (by rfl) _ Tryz.underlying26 rfl (by kernel_rfl)) ?_ | refine Er rfl (load_run BX10.out 2 rfl 26 _ (by rfl) (by rfl) _ Tryz.underlying26 rfl (by kernel_rfl)) ?_ | refine Er rfl (load_run BX11.out 2 rfl 26 _ (by rfl) (by rfl) _ Tryz.underlying26 rfl (by kernel_rfl)) ?_) | ((refine Gd (N := 269) rfl ?_); first | refine Er rfl (load_run BX7.out 2 rfl 26 _ (by rfl) (by rfl) _ Tryz.underlying26 rfl (by kernel_rfl)) ?_ | refine Er rfl (load_run BX8.out 2 rfl 26 _ (by rfl) (by rfl) _ Tryz.underlying26 rfl (by kernel_rfl)) ?_ | refine Er rfl (load_run BX9.out 2 rfl 26 _ (by rfl) (by rfl) _ Tryz.underlying26 rfl (by kernel_rfl)) ?_ | refine Er rfl (load_run BX10.out 2 rfl 26 _ (by rfl) (by rfl) _ Tryz.underlying26 rfl (by kernel_rfl)) ?_ | refine Er rfl (load_run BX11.out 2 rfl 26 _ (by rfl) (by rfl) _ Tryz.underlying26 rfl (by kernel_rfl)) ?_))
       clear qBX7_0 qBX7_1 qBX8_0 qBX8_1 qBX9_0 qBX9_1 qBX10_0 qBX10_1 qBX11_0 qBX11_1
       refine start_ (n := 49) (S := fun w' => w'.heap[w24.heap.size]? = some (.cells #[.int .i64 r10, .slice A7_ r11.length c7_] 26 (0, 0)) ∧ w'.heap[w29.heap.size]? = some (.cells #[.int .i64 r16, .slice A8_ r17.length c8_] 26 (0, 0)) ∧ w'.heap[w31.heap.size]? = some (.cells #[.int .i64 r16, .slice A9_ r17.length c9_] 26 (0, 0)) ∧ w'.heap[w34.heap.size]? = some (.cells #[.int .i64 r20, .slice A10_ r21.length c10_] 26 (0, 0)) ∧ w'.heap[w36.heap.size]? = some (.cells #[.int .i64 r20, .slice A11_ r21.length c11_] 26 (0, 0))) (ds := []) #[false, false, false, false, false, false, false, false, false, false, false, false, false, false, false, false, false, false, false, false, false, false, false, false, false, false, false, false, false, false, false, false, false, false, false, false, false, false, false, false, false, false, false, false, false, false, false, false, false] (by kernel_rfl) rfl rfl ⟨BX7.out, BX8.out, BX9.out, BX10.out, BX11.out⟩ (fun hHeld => ?_)
       have hb : Below w41.heap.size w41 w41.drew := below_drew (Below.refl _ _)
       generalize w41.drew = w42 at hb hHeld ⊢
       have Z42 : Ad (w41.heap.size ≤ w42.heap.size) := ⟨hb.size⟩
       replace X1 := Am (Rb X1.out hb)
       replace X2 := Am (Rb X2.out hb)
       replace X3 := Am (Rb X3.out hb)
       replace X7 := Am (Rb X7.out hb)
       replace X8 := Am (Rb X8.out hb)
       replace X9 := Am (Rb X9.out hb)
       replace X10 := Am (Rb X10.out hb)
       replace X11 := Am (Rb X11.out hb)
       replace X12 := Am (Rb X12.out hb)
       replace BX1 := Am (Kb BX1.out hb)
       replace BX2 := Am (Kb BX2.out hb)
       replace BX3 := Am (Kb BX3.out hb)
       replace BX7 := Am (Kb BX7.out hb)
       replace BX8 := Am (Kb BX8.out hb)
       replace BX9 := Am (Kb BX9.out hb)
       replace BX10 := Am (Kb BX10.out hb)
       replace BX11 := Am (Kb BX11.out hb)
       replace BX12 := Am (Kb BX12.out hb)
       replace HB := Am (Bh HB.out HB.out.size hb)
       clear hb
       refine pure_ (i := 0) (N := some 254) (v := ?_) (a' := ?_) #[true, false, false, false, false, false, false, false, false, false, false, false, false, false, false, false, false, false, false, false, false, false, false, false, false, false, false, false, false, false, false, false, false, false, false, false, false, false, false, false, false, false, false, false, false, false, false, false, false] rfl rfl (by kernel_rfl) (fun _ _ _ h => h) (Or.inl ⟨by rfl, ?_⟩) ?_ ?_
       rotate_left
       ·intro w'
        go_simp
        with_reducible rfl
       rotate_left
       ·simp only [Act.put, Lt, Lz, Ls, i64_w, i32_w]
        rfl
       refine pure_ (i := 1) (N := some 255) (v := ?_) (a' := ?_) #[true, true, false, false, false, false, false, false, false, false, false, false, false, false, false, false, false, false, false, false, false, false, false, false, false, false, false, false, false, false, false, false, false, false, false, false, false, false, false, false, false, false, false, false, false, false, false, false, false] rfl rfl (by kernel_rfl) (fun _ _ _ h => h) (Or.inl ⟨by rfl, ?_⟩) ?_ ?_
       rotate_left
       ·intro w'
        go_simp
        with_reducible rfl
       rotate_left
       ·simp only [Act.put, Lt, Lz, Ls, i64_w, i32_w]
        rfl
       refine pure_ (i := 2) (N := some 256) (v := ?_) (a' := ?_) #[true, true, true, false, false, false, false, false, false, false, false, false, false, false, false, false, false, false, false, false, false, false, false, false, false, false, false, false, false, false, false, false, false, false, false, false, false, false, false, false, false, false, false, false, false, false, false, false, false] rfl rfl (by kernel_rfl) (fun _ _ _ h => h) (Or.inl ⟨by rfl, ?_⟩) ?_ ?_
       rotate_left
       ·intro w'
        go_simp
        with_reducible rfl
       rotate_left
       ·simp only [Act.put, Lt, Lz, Ls, i64_w, i32_w]
        rfl
       refine pure_ (i := 3) (N := some 257) (v := ?_) (a' := ?_) #[true, true, true, true, false, false, false, false, false, false, false, false, false, false, false, false, false, false, false, false, false, false, false, false, false, false, false, false, false, false, false, false, false, false, false, false, false, false, false, false, false, false, false, false, false, false, false, false, false] rfl rfl (by kernel_rfl) (fun _ _ _ h => h) (Or.inl ⟨by rfl, ?_⟩) ?_ ?_
       rotate_left
       ·intro w'
        go_simp
        with_reducible rfl
       rotate_left
       ·simp only [Act.put, Lt, Lz, Ls, i64_w, i32_w]
        rfl
       refine pure_ (i := 4) (N := some 258) (v := ?_) (a' := ?_) #[true, true, true, true, true, false, false, false, false, false, false, false, false, false, false, false, false, false, false, false, false, false, false, false, false, false, false, false, false, false, false, false, false, false, false, false, false, false, false, false, false, false, false, false, false, false, false, false, false] rfl rfl (by kernel_rfl) (fun _ _ _ h => h) (Or.inl ⟨by rfl, ?_⟩) ?_ ?_
       rotate_left
       ·intro w'
        go_simp
        with_reducible rfl
       rotate_left
       ·simp only [Act.put, Lt, Lz, Ls, i64_w, i32_w]
        rfl
       refine pure_ (i := 5) (N := some 259) (v := ?_) (a' := ?_) #[true, true, true, true, true, true, false, false, false, false, false, false, false, false, false, false, false, false, false, false, false, false, false, false, false, false, false, false, false, false, false, false, false, false, false, false, false, false, false, false, false, false, false, false, false, false, false, false, false] rfl rfl (by kernel_rfl) (fun _ _ _ h => h) (Or.inl ⟨by rfl, ?_⟩) ?_ ?_
       rotate_left
       ·intro w'
        go_simp
        with_reducible rfl
       rotate_left
       ·simp only [Act.put, Lt, Lz, Ls, i64_w, i32_w]
        rfl
       refine pure_ (i := 6) (N := some 260) (v := ?_) (a' := ?_) #[true, true, true, true, true, true, true, false, false, false, false, false, false, false, false, false, false, false, false, false, false, false, false, false, false, false, false, false, false, false, false, false, false, false, false, false, false, false, false, false, false, false, false, false, false, false, false, false, false] rfl rfl (by kernel_rfl) (fun _ _ _ h => h) (Or.inl ⟨by rfl, ?_⟩) ?_ ?_
       rotate_left
       ·intro w'
        go_simp
        with_reducible rfl
       rotate_left
       ·simp only [Act.put, Lt, Lz, Ls, i64_w, i32_w]
        rfl
       refine pure_ (i := 7) (N := some 261) (v := ?_) (a' := ?_) #[true, true, true, true, true, true, true, true, false, false, false, false, false, false, false, false, false, false, false, false, false, false, false, false, false, false, false, false, false, false, false, false, false, false, false, false, false, false, false, false, false, false, false, false, false, false, false, false, false] rfl rfl (by kernel_rfl) (fun _ _ _ h => h) (Or.inl ⟨by rfl, ?_⟩) ?_ ?_
       rotate_left
       ·intro w'
        go_simp
        with_reducible rfl
       rotate_left
       ·simp only [Act.put, Lt, Lz, Ls, i64_w, i32_w]
        rfl
       refine pure_ (i := 8) (N := some 262) (v := ?_) (a' := ?_) #[true, true, true, true, true, true, true, true, true, false, false, false, false, false, false, false, false, false, false, false, false, false, false, false, false, false, false, false, false, false, false, false, false, false, false, false, false, false, false, false, false, false, false, false, false, false, false, false, false] rfl rfl (by kernel_rfl) (fun _ _ _ h => h) (Or.inl ⟨by rfl, ?_⟩) ?_ ?_
       rotate_left
       ·intro w'
        go_simp
        with_reducible rfl
       rotate_left
       ·simp only [Act.put, Lt, Lz, Ls, i64_w, i32_w]
        rfl
       refine pure_ (i := 9) (N := some 263) (v := ?_) (a' := ?_) #[true, true, true, true, true, true, true, true, true, true, false, false, false, false, false, false, false, false, false, false, false, false, false, false, false, false, false, false, false, false, false, false, false, false, false, false, false, false, false, false, false, false, false, false, false, false, false, false, false] rfl rfl (by kernel_rfl) (fun _ _ _ h => h) (Or.inl ⟨by rfl, ?_⟩) ?_ ?_
       rotate_left
       ·intro w'
        go_simp
        with_reducible rfl
       rotate_left
       ·simp only [Act.put, Lt, Lz, Ls, i64_w, i32_w]
        rfl
       refine pure_ (i := 10) (N := some 264) (v := ?_) (a' := ?_) #[true, true, true, true, true, true, true, true, true, true, true, false, false, false, false, false, false, false, false, false, false, false, false, false, false, false, false, false, false, false, false, false, false, false, false, false, false, false, false, false, false, false, false, false, false, false, false, false, false] rfl rfl (by kernel_rfl) (fun _ _ _ h => h) (Or.inl ⟨by rfl, ?_⟩) ?_ ?_
       rotate_left
       ·intro w'
        go_simp
        with_reducible rfl
       rotate_left
       ·simp only [Act.put, Lt, Lz, Ls, i64_w, i32_w]
        rfl
       refine pure_ (i := 11) (N := some 265) (v := ?_) (a' := ?_) #[true, true, true, true, true, true, true, true, true, true, true, true, false, false, false, false, false, false, false, false, false, false, false, false, false, false, false, false, false, false, false, false, false, false, false, false, false, false, false, false, false, false, false, false, false, false, false, false, false] rfl rfl (by kernel_rfl) (fun _ _ _ h => h) (Or.inl ⟨by rfl, ?_⟩) ?_ ?_
       rotate_left
       ·intro w'
        go_simp
        with_reducible rfl
       rotate_left
       ·simp only [Act.put, Lt, Lz, Ls, i64_w, i32_w]
        rfl
       refine pure_ (i := 12) (N := some 266) (v := ?_) (a' := ?_) #[true, true, true, true, true, true, true, true, true, true, true, true, true, false, false, false, false, false, false, false, false, false, false, false, false, false, false, false, false, false, false, false, false, false, false, false, false, false, false, false, false, false, false, false, false, false, false, false, false] rfl rfl (by kernel_rfl) (fun _ _ _ h => h) (Or.inl ⟨by rfl, ?_⟩) ?_ ?_
       rotate_left
       ·intro w'
        go_simp
        with_reducible rfl
       rotate_left
       ·simp only [Act.put, Lt, Lz, Ls, i64_w, i32_w]
        rfl
       refine pure_ (i := 13) (N := some 267) (v := ?_) (a' := ?_) #[true, true, true, true, true, true, true, true, true, true, true, true, true, true, false, false, false, false, false, false, false, false, false, false, false, false, false, false, false, false, false, false, false, false, false, false, false, false, false, false, false, false, false, false, false, false, false, false, false] rfl rfl (by kernel_rfl) (fun _ _ _ h => h) (Or.inl ⟨by rfl, ?_⟩) ?_ ?_
       rotate_left
       ·intro w'
        go_simp
        with_reducible rfl
       rotate_left
       ·simp only [Act.put, Lt, Lz, Ls, i64_w, i32_w]
        rfl
       refine take_ (i := 14) (N := some 268) (v := ?_) (a' := ?_) #[true, true, true, true, true, true, true, true, true, true, true, true, true, true, true, false, false, false, false, false, false, false, false, false, false, false, false, false, false, false, false, false, false, false, false, false, false, false, false, false, false, false, false, false, false, false, false, false, false] rfl rfl (by kernel_rfl) (fun _ _ _ h => h) (Or.inl ⟨by rfl, ?_⟩) hHeld ?_ ?_
       rotate_left
       ·rintro w' ⟨s0, s1, s2, s3, s4⟩
        first | (refine Eq.trans (load_run s0 2 rfl 26 _ (by rfl) (by rfl) _ Tryz.underlying26 rfl (by kernel_rfl)) ?_; with_reducible rfl) | (refine Eq.trans (load_run s1 2 rfl 26 _ (by rfl) (by rfl) _ Tryz.underlying26 rfl (by kernel_rfl)) ?_; with_reducible rfl) | (refine Eq.trans (load_run s2 2 rfl 26 _ (by rfl) (by rfl) _ Tryz.underlying26 rfl (by kernel_rfl)) ?_; with_reducible rfl) | (refine Eq.trans (load_run s3 2 rfl 26 _ (by rfl) (by rfl) _ Tryz.underlying26 rfl (by kernel_rfl)) ?_; with_reducible rfl) | (refine Eq.trans (load_run s4 2 rfl 26 _ (by rfl) (by rfl) _ Tryz.underlying26 rfl (by kernel_rfl)) ?_; with_reducible rfl)
       rotate_left
       ·simp only [Act.put, Lt, Lz, Ls, i64_w, i32_w]
        rfl
       refine take_ (i := 15) (N := some 269) (v := ?_) (a' := ?_) #[true, true, true, true, true, true, true, true, true, true, true, true, true, true, true, true, false, false, false, false, false, false, false, false, false, false, false, false, false, false, false, false, false, false, false, false, false, false, false, false, false, false, false, false, false, false, false, false, false] rfl rfl (by kernel_rfl) (fun _ _ _ h => h) (Or.inl ⟨by rfl, ?_⟩) hHeld ?_ ?_
       rotate_left
       ·rintro w' ⟨s0, s1, s2, s3, s4⟩
        first | (refine Eq.trans (load_run s0 2 rfl 26 _ (by rfl) (by rfl) _ Tryz.underlying26 rfl (by kernel_rfl)) ?_; with_reducible rfl) | (refine Eq.trans (load_run s1 2 rfl 26 _ (by rfl) (by rfl) _ Tryz.underlying26 rfl (by kernel_rfl)) ?_; with_reducible rfl) | (refine Eq.trans (load_run s2 2 rfl 26 _ (by rfl) (by rfl) _ Tryz.underlying26 rfl (by kernel_rfl)) ?_; with_reducible rfl) | (refine Eq.trans (load_run s3 2 rfl 26 _ (by rfl) (by rfl) _ Tryz.underlying26 rfl (by kernel_rfl)) ?_; with_reducible rfl) | (refine Eq.trans (load_run s4 2 rfl 26 _ (by rfl) (by rfl) _ Tryz.underlying26 rfl (by kernel_rfl)) ?_; with_reducible rfl)
       rotate_left
       ·simp only [Act.put, Lt, Lz, Ls, i64_w, i32_w]
        rfl
       refine one_ (i := 16) (N := some 270) #[true, true, true, true, true, true, true, true, true, true, true, true, true, true, true, true, true, false, false, false, false, false, false, false, false, false, false, false, false, false, false, false, false, false, false, false, false, false, false, false, false, false, false, false, false, false, false, false, false] rfl rfl (by kernel_rfl) (by decide) (fun K hK => ?_)
       refine goes_ Tryz.func8 (by kernel_rfl) rfl #[.agg #[.int .i64 r16, .slice A8_ r17.length c8_], .agg #[.int .i64 r16, .slice A9_ r17.length c9_]] (by rfl) rfl rfl (by (try simp only [List.map_toArray, List.map_cons, List.map_nil]); first | done | rfl) ?_
       (refine (laws_sameAttr.calls K26 r16 A8_ c8_ r17 r16 A9_ c9_ r17 true w42 (Rr X8.out).2.2 (Rr X8.out).2.1 (Rr X9.out).2.2 (Rr X9.out).2.1 H26.out).mono ?_)
       rintro e w43 ⟨rfl, hb⟩
       refine ⟨_, rfl, ?_⟩
       have Z43 : Ad (w42.heap.size ≤ w43.heap.size) := ⟨hb.size⟩
       replace X1 := Am (Rb X1.out hb)
       replace X2 := Am (Rb X2.out hb)
       replace X3 := Am (Rb X3.out hb)
       replace X7 := Am (Rb X7.out hb)
       replace X8 := Am (Rb X8.out hb)
       replace X9 := Am (Rb X9.out hb)
       replace X10 := Am (Rb X10.out hb)
       replace X11 := Am (Rb X11.out hb)
       replace X12 := Am (Rb X12.out hb)
       replace BX1 := Am (Kb BX1.out hb)
       replace BX2 := Am (Kb BX2.out hb)
       replace BX3 := Am (Kb BX3.out hb)
       replace BX7 := Am (Kb BX7.out hb)
       replace BX8 := Am (Kb BX8.out hb)
       replace BX9 := Am (Kb BX9.out hb)
       replace BX10 := Am (Kb BX10.out hb)
       replace BX11 := Am (Kb BX11.out hb)
       replace BX12 := Am (Kb BX12.out hb)
       replace HB := Am (Bh HB.out HB.out.size hb)
       clear hb
       refine hK.out _ _ ⟨BX7.out, BX8.out, BX9.out, BX10.out, BX11.out⟩ (fun hHeld => ?_)
       clear hK K
       refine norm_ (a' := ?_) ?_ ?_
       rotate_left
       ·show Act.put _ (some 270) _ = _
        simp only [Act.put, Lt, Lz, Ls, i64_w, i32_w]
        rfl
       obtain ⟨⟨K27, h27⟩, hF⟩ := HF.out
       clear HF
       have HF := Am hF
       clear hF
       have H27 := Am h27
       clear h27
       refine pure_ (i := 17) (N := some 271) (v := ?_) (a' := ?_) #[true, true, true, true, true, true, true, true, true, true, true, true, true, true, true, true, true, true, false, false, false, false, false, false, false, false, false, false, false, false, false, false, false, false, false, false, false, false, false, false, false, false, false, false, false, false, false, false, false] rfl rfl (by kernel_rfl) (fun _ _ _ h => h) (Or.inl ⟨by rfl, ?_⟩) ?_ ?_
       rotate_left
       ·intro w'
        go_simp
        with_reducible rfl
       rotate_left
       ·simp only [Act.put, Lt, Lz, Ls, i64_w, i32_w]
        rfl
       refine pure_ (i := 18) (N := some 272) (v := ?_) (a' := ?_) #[true, true, true, true, true, true, true, true, true, true, true, true, true, true, true, true, true, true, true, false, false, false, false, false, false, false, false, false, false, false, false, false, false, false, false, false, false, false, false, false, false, false, false, false, false, false, false, false, false] rfl rfl (by kernel_rfl) (fun _ _ _ h => h) (Or.inl ⟨by rfl, ?_⟩) ?_ ?_
       rotate_left
       ·intro w'
        go_simp
        with_reducible rfl
       rotate_left
       ·simp only [Act.put, Lt, Lz, Ls, i64_w, i32_w]
        rfl
       refine pure_ (i := 19) (N := some 273) (v := ?_) (a' := ?_) #[true, true, true, true, true, true, true, true, true, true, true, true, true, true, true, true, true, true, true, true, false, false, false, false, false, false, false, false, false, false, false, false, false, false, false, false, false, false, false, false, false, false, false, false, false, false, false, false, false] rfl rfl (by kernel_rfl) (fun _ _ _ h => h) (Or.inl ⟨by rfl, ?_⟩) ?_ ?_
       rotate_left
       ·intro w'
        go_simp
        with_reducible rfl
       rotate_left
       ·simp only [Act.put, Lt, Lz, Ls, i64_w, i32_w]
        rfl
       refine pure_ (i := 20) (N := some 274) (v := ?_) (a' := ?_) #[true, true, true, true, true, true, true, true, true, true, true, true, true, true, true, true, true, true, true, true, true, false, false, false, false, false, false, false, false, false, false, false, false, false, false, false, false, false, false, false, false, false, false, false, false, false, false, false, false] rfl rfl (by kernel_rfl) (fun _ _ _ h => h) (Or.inl ⟨by rfl, ?_⟩) ?_ ?_
       rotate_left
       ·intro w'
        go_simp
        with_reducible rfl
       rotate_left
       ·simp only [Act.put, Lt, Lz, Ls, i64_w, i32_w]
        rfl
       refine pure_ (i := 21) (N := some 275) (v := ?_) (a' := ?_) #[true, true, true, true, true, true, true, true, true, true, true, true, true, true, true, true, true, true, true, true, true, true, false, false, false, false, false, false, false, false, false, false, false, false, false, false, false, false, false, false, false, false, false, false, false, false, false, false, false] rfl rfl (by kernel_rfl) (fun _ _ _ h => h) (Or.inl ⟨by rfl, ?_⟩) ?_ ?_
       rotate_left
       ·intro w'
        go_simp
        with_reducible rfl
       rotate_left
       ·simp only [Act.put, Lt, Lz, Ls, i64_w, i32_w]
        rfl
       refine pure_ (i := 22) (N := some 276) (v := ?_) (a' := ?_) #[true, true, true, true, true, true, true, true, true, true, true, true, true, true, true, true, true, true, true, true, true, true, true, false, false, false, false, false, false, false, false, false, false, false, false, false, false, false, false, false, false, false, false, false, false, false, false, false, false] rfl rfl (by kernel_rfl) (fun _ _ _ h => h) (Or.inl ⟨by rfl, ?_⟩) ?_ ?_
       rotate_left
       ·intro w'
        go_simp
        with_reducible rfl
       rotate_left
       ·simp only [Act.put, Lt, Lz, Ls, i64_w, i32_w]
        rfl
       refine pure_ (i := 23) (N := some 277) (v := ?_) (a' := ?_) #[true, true, true, true, true, true, true, true, true, true, true, true, true, true, true, true, true, true, true, true, true, true, true, true, false, false, false, false, false, false, false, false, false, false, false, false, false, false, false, false, false, false, false, false, false, false, false, false, false] rfl rfl (by kernel_rfl) (fun _ _ _ h => h) (Or.inl ⟨by rfl, ?_⟩) ?_ ?_
       rotate_left
       ·intro w'
        go_simp
        with_reducible rfl
       rotate_left
       ·simp only [Act.put, Lt, Lz, Ls, i64_w, i32_w]
        rfl
       refine pure_ (i := 24) (N := some 278) (v := ?_) (a' := ?_) #[true, true, true, true, true, true, true, true, true, true, true, true, true, true, true, true, true, true, true, true, true, true, true, true, true, false, false, false, false, false, false, false, false, false, false, false, false, false, false, false, false, false, false, false, false, false, false, false, false] rfl rfl (by kernel_rfl) (fun _ _ _ h => h) (Or.inl ⟨by rfl, ?_⟩) ?_ ?_
       rotate_left
       ·intro w'
        go_simp
        with_reducible rfl
       rotate_left
       ·simp only [Act.put, Lt, Lz, Ls, i64_w, i32_w]
        rfl
       refine take_ (i := 25) (N := some 279) (v := ?_) (a' := ?_) #[true, true, true, true, true, true, true, true, true, true, true, true, true, true, true, true, true, true, true, true, true, true, true, true, true, true, false, false, false, false, false, false, false, false, false, false, false, false, false, false, false, false, false, false, false, false, false, false, false] rfl rfl (by kernel_rfl) (fun _ _ _ h => h) (Or.inl ⟨by rfl, ?_⟩) hHeld ?_ ?_
       rotate_left
       ·rintro w' ⟨s0, s1, s2, s3, s4⟩
        first | (refine Eq.trans (load_run s0 2 rfl 26 _ (by rfl) (by rfl) _ Tryz.underlying26 rfl (by kernel_rfl)) ?_; with_reducible rfl) | (refine Eq.trans (load_run s1 2 rfl 26 _ (by rfl) (by rfl) _ Tryz.underlying26 rfl (by kernel_rfl)) ?_; with_reducible rfl) | (refine Eq.trans (load_run s2 2 rfl 26 _ (by rfl) (by rfl) _ Tryz.underlying26 rfl (by kernel_rfl)) ?_; with_reducible rfl) | (refine Eq.trans (load_run s3 2 rfl 26 _ (by rfl) (by rfl) _ Tryz.underlying26 rfl (by kernel_rfl)) ?_; with_reducible rfl) | (refine Eq.trans (load_run s4 2 rfl 26 _ (by rfl) (by rfl) _ Tryz.underlying26 rfl (by kernel_rfl)) ?_; with_reducible rfl)
       rotate_left
       ·simp only [Act.put, Lt, Lz, Ls, i64_w, i32_w]
        rfl
       refine take_ (i := 26) (N := some 280) (v := ?_) (a' := ?_) #[true, true, true, true, true, true, true, true, true, true, true, true, true, true, true, true, true, true, true, true, true, true, true, true, true, true, true, false, false, false, false, false, false, false, false, false, false, false, false, false, false, false, false, false, false, false, false, false, false] rfl rfl (by kernel_rfl) (fun _ _ _ h => h) (Or.inl ⟨by rfl, ?_⟩) hHeld ?_ ?_
       rotate_left
       ·rintro w' ⟨s0, s1, s2, s3, s4⟩
        first | (refine Eq.trans (load_run s0 2 rfl 26 _ (by rfl) (by rfl) _ Tryz.underlying26 rfl (by kernel_rfl)) ?_; with_reducible rfl) | (refine Eq.trans (load_run s1 2 rfl 26 _ (by rfl) (by rfl) _ Tryz.underlying26 rfl (by kernel_rfl)) ?_; with_reducible rfl) | (refine Eq.trans (load_run s2 2 rfl 26 _ (by rfl) (by rfl) _ Tryz.underlying26 rfl (by kernel_rfl)) ?_; with_reducible rfl) | (refine Eq.trans (load_run s3 2 rfl 26 _ (by rfl) (by rfl) _ Tryz.underlying26 rfl (by kernel_rfl)) ?_; with_reducible rfl) | (refine Eq.trans (load_run s4 2 rfl 26 _ (by rfl) (by rfl) _ Tryz.underlying26 rfl (by kernel_rfl)) ?_; with_reducible rfl)
       rotate_left
       ·simp only [Act.put, Lt, Lz, Ls, i64_w, i32_w]
        rfl
       refine one_ (i := 27) (N := some 281) #[true, true, true, true, true, true, true, true, true, true, true, true, true, true, true, true, true, true, true, true, true, true, true, true, true, true, true, true, false, false, false, false, false, false, false, false, false, false, false, false, false, false, false, false, false, false, false, false, false] rfl rfl (by kernel_rfl) (by decide) (fun K hK => ?_)
       refine goes_ Tryz.func8 (by kernel_rfl) rfl #[.agg #[.int .i64 r20, .slice A10_ r21.length c10_], .agg #[.int .i64 r20, .slice A11_ r21.length c11_]] (by rfl) rfl rfl (by (try simp only [List.map_toArray, List.map_cons, List.map_nil]); first | done | rfl) ?_
       (refine (laws_sameAttr.calls K27 r20 A10_ c10_ r21 r20 A11_ c11_ r21 true w43 (Rr X10.out).2.2 (Rr X10.out).2.1 (Rr X11.out).2.2 (Rr X11.out).2.1 H27.out).mono ?_)
       rintro e w44 ⟨rfl, hb⟩
       refine ⟨_, rfl, ?_⟩
       have Z44 : Ad (w43.heap.size ≤ w44.heap.size) := ⟨hb.size⟩
       replace X1 := Am (Rb X1.out hb)
       replace X2 := Am (Rb X2.out hb)
       replace X3 := Am (Rb X3.out hb)
       replace X7 := Am (Rb X7.out hb)
       replace X8 := Am (Rb X8.out hb)
       replace X9 := Am (Rb X9.out hb)
       replace X10 := Am (Rb X10.out hb)
       replace X11 := Am (Rb X11.out hb)
       replace X12 := Am (Rb X12.out hb)
       replace BX1 := Am (Kb BX1.out hb)
       replace BX2 := Am (Kb BX2.out hb)
       replace BX3 := Am (Kb BX3.out hb)
       replace BX7 := Am (Kb BX7.out hb)
       replace BX8 := Am (Kb BX8.out hb)
       replace BX9 := Am (Kb BX9.out hb)
       replace BX10 := Am (Kb BX10.out hb)
       replace BX11 := Am (Kb BX11.out hb)
       replace BX12 := Am (Kb BX12.out hb)
       replace HB := Am (Bh HB.out HB.out.size hb)
       clear hb
       refine hK.out _ _ ⟨BX7.out, BX8.out, BX9.out, BX10.out, BX11.out⟩ (fun hHeld => ?_)
       clear hK K
       refine norm_ (a' := ?_) ?_ ?_
       rotate_left
       ·show Act.put _ (some 281) _ = _
        simp only [Act.put, Lt, Lz, Ls, i64_w, i32_w]
        rfl
       obtain ⟨r30, h28, hF⟩ := HF.out
       clear HF
       have HF := Am hF
       clear hF
       have H28 := Am h28
       clear h28
       refine pure_ (i := 28) (N := some 282) (v := ?_) (a' := ?_) #[true, true, true, true, true, true, true, true, true, true, true, true, true, true, true, true, true, true, true, true, true, true, true, true, true, true, true, true, true, false, false, false, false, false, false, false, false, false, false, false, false, false, false, false, false, false, false, false, false] rfl rfl (by kernel_rfl) (fun _ _ _ h => h) (Or.inl ⟨by rfl, ?_⟩) ?_ ?_
       rotate_left
       ·intro w'
        go_simp
        with_reducible rfl
       rotate_left
       ·simp only [Act.put, Lt, Lz, Ls, i64_w, i32_w]
        rfl
       refine pure_ (i := 29) (N := some 283) (v := ?_) (a' := ?_) #[true, true, true, true, true, true, true, true, true, true, true, true, true, true, true, true, true, true, true, true, true, true, true, true, true, true, true, true, true, true, false, false, false, false, false, false, false, false, false, false, false, false, false, false, false, false, false, false, false] rfl rfl (by kernel_rfl) (fun _ _ _ h => h) (Or.inl ⟨by rfl, ?_⟩) ?_ ?_
       rotate_left
       ·intro w'
        go_simp
        with_reducible rfl
       rotate_left
       ·simp only [Act.put, Lt, Lz, Ls, i64_w, i32_w]
        rfl
       refine pure_ (i := 30) (N := some 284) (v := ?_) (a' := ?_) #[true, true, true, true, true, true, true, true, true, true, true, true, true, true, true, true, true, true, true, true, true, true, true, true, true, true, true, true, true, true, true, false, false, false, false, false, false, false, false, false, false, false, false, false, false, false, false, false, false] rfl rfl (by kernel_rfl) (fun _ _ _ h => h) (Or.inl ⟨by rfl, ?_⟩) ?_ ?_
       rotate_left
       ·intro w'
        go_simp
        with_reducible rfl
       rotate_left
       ·simp only [Act.put, Lt, Lz, Ls, i64_w, i32_w]
        rfl
       refine pure_ (i := 31) (N := some 285) (v := ?_) (a' := ?_) #[true, true, true, true, true, true, true, true, true, true, true, true, true, true, true, true, true, true, true, true, true, true, true, true, true, true, true, true, true, true, true, true, false, false, false, false, false, false, false, false, false, false, false, false, false, false, false, false, false] rfl rfl (by kernel_rfl) (fun _ _ _ h => h) (Or.inl ⟨by rfl, ?_⟩) ?_ ?_
       rotate_left
       ·intro w'
        go_simp
        with_reducible rfl
       rotate_left
       ·simp only [Act.put, Lt, Lz, Ls, i64_w, i32_w]
        rfl
       refine pure_ (i := 32) (N := some 286) (v := ?_) (a' := ?_) #[true, true, true, true, true, true, true, true, true, true, true, true, true, true, true, true, true, true, true, true, true, true, true, true, true, true, true, true, true, true, true, true, true, false, false, false, false, false, false, false, false, false, false, false, false, false, false, false, false] rfl rfl (by kernel_rfl) (fun _ _ _ h => h) (Or.inl ⟨by rfl, ?_⟩) ?_ ?_
       rotate_left
       ·intro w'
        go_simp
        with_reducible rfl
       rotate_left
       ·simp only [Act.put, Lt, Lz, Ls, i64_w, i32_w]
        rfl
       refine pure_ (i := 33) (N := some 287) (v := ?_) (a' := ?_) #[true, true, true, true, true, true, true, true, true, true, true, true, true, true, true, true, true, true, true, true, true, true, true, true, true, true, true, true, true, true, true, true, true, true, false, false, false, false, false, false, false, false, false, false, false, false, false, false, false] rfl rfl (by kernel_rfl) (fun _ _ _ h => h) (Or.inl ⟨by rfl, ?_⟩) ?_ ?_
       rotate_left
       ·intro w'
        go_simp
        with_reducible rfl
       rotate_left
       ·simp only [Act.put, Lt, Lz, Ls, i64_w, i32_w]
        rfl
       refine pure_ (i := 34) (N := some 288) (v := ?_) (a' := ?_) #[true, true, true, true, true, true, true, true, true, true, true, true, true, true, true, true, true, true, true, true, true, true, true, true, true, true, true, true, true, true, true, true, true, true, true, false, false, false, false, false, false, false, false, false, false, false, false, false, false] rfl rfl (by kernel_rfl) (fun _ _ _ h => h) (Or.inl ⟨by rfl, ?_⟩) ?_ ?_
       rotate_left
       ·intro w'
        go_simp
        with_reducible rfl
       rotate_left
       ·simp only [Act.put, Lt, Lz, Ls, i64_w, i32_w]
        rfl
       refine pure_ (i := 35) (N := some 289) (v := ?_) (a' := ?_) #[true, true, true, true, true, true, true, true, true, true, true, true, true, true, true, true, true, true, true, true, true, true, true, true, true, true, true, true, true, true, true, true, true, true, true, true, false, false, false, false, false, false, false, false, false, false, false, false, false] rfl rfl (by kernel_rfl) (fun _ _ _ h => h) (Or.inl ⟨by rfl, ?_⟩) ?_ ?_
       rotate_left
       ·intro w'
        go_simp
        with_reducible rfl
       rotate_left
       ·simp only [Act.put, Lt, Lz, Ls, i64_w, i32_w]
        rfl
       refine pure_ (i := 36) (N := some 290) (v := ?_) (a' := ?_) #[true, true, true, true, true, true, true, true, true, true, true, true, true, true, true, true, true, true, true, true, true, true, true, true, true, true, true, true, true, true, true, true, true, true, true, true, true, false, false, false, false, false, false, false, false, false, false, false, false] rfl rfl (by kernel_rfl) (fun _ _ _ h => h) (Or.inl ⟨by rfl, ?_⟩) ?_ ?_
       rotate_left
       ·intro w'
        go_simp
        with_reducible rfl
       rotate_left
       ·simp only [Act.put, Lt, Lz, Ls, i64_w, i32_w]
        rfl
       refine pure_ (i := 37) (N := some 291) (v := ?_) (a' := ?_) #[true, true, true, true, true, true, true, true, true, true, true, true, true, true, true, true, true, true, true, true, true, true, true, true, true, true, true, true, true, true, true, true, true, true, true, true, true, true, false, false, false, false, false, false, false, false, false, false, false] rfl rfl (by kernel_rfl) (fun _ _ _ h => h) (Or.inl ⟨by rfl, ?_⟩) ?_ ?_
       rotate_left
       ·intro w'
        go_simp
        with_reducible rfl
       rotate_left
       ·simp only [Act.put, Lt, Lz, Ls, i64_w, i32_w]
        rfl
       refine pure_ (i := 38) (N := some 292) (v := ?_) (a' := ?_) #[true, true, true, true, true, true, true, true, true, true, true, true, true, true, true, true, true, true, true, true, true, true, true, true, true, true, true, true, true, true, true, true, true, true, true, true, true, true, true, false, false, false, false, false, false, false, false, false, false] rfl rfl (by kernel_rfl) (fun _ _ _ h => h) (Or.inl ⟨by rfl, ?_⟩) ?_ ?_
       rotate_left
       ·intro w'
        go_simp
        with_reducible rfl
       rotate_left
       ·simp only [Act.put, Lt, Lz, Ls, i64_w, i32_w]
        rfl
       refine pure_ (i := 39) (N := some 293) (v := ?_) (a' := ?_) #[true, true, true, true, true, true, true, true, true, true, true, true, true, true, true, true, true, true, true, true, true, true, true, true, true, true, true, true, true, true, true, true, true, true, true, true, true, true, true, true, false, false, false, false, false, false, false, false, false] rfl rfl (by kernel_rfl) (fun _ _ _ h => h) (Or.inl ⟨by rfl, ?_⟩) ?_ ?_
       rotate_left
       ·intro w'
        go_simp
        with_reducible rfl
       rotate_left
       ·simp only [Act.put, Lt, Lz, Ls, i64_w, i32_w]
        rfl
       refine pure_ (i := 40) (N := some 294) (v := ?_) (a' := ?_) #[true, true, true, true, true, true, true, true, true, true, true, true, true, true, true, true, true, true, true, true, true, true, true, true, true, true, true, true, true, true, true, true, true, true, true, true, true, true, true, true, true, false, false, false, false, false, false, false, false] rfl rfl (by kernel_rfl) (fun _ _ _ h => h) (Or.inl ⟨by rfl, ?_⟩) ?_ ?_
       rotate_left
       ·intro w'
        go_simp
        with_reducible rfl
       rotate_left
       ·simp only [Act.put, Lt, Lz, Ls, i64_w, i32_w]
        rfl
       refine pure_ (i := 41) (N := some 295) (v := ?_) (a' := ?_) #[true, true, true, true, true, true, true, true, true, true, true, true, true, true, true, true, true, true, true, true, true, true, true, true, true, true, true, true, true, true, true, true, true, true, true, true, true, true, true, true, true, true, false, false, false, false, false, false, false] rfl rfl (by kernel_rfl) (fun _ _ _ h => h) (Or.inl ⟨by rfl, ?_⟩) ?_ ?_
       rotate_left
       ·intro w'
        go_simp
        with_reducible rfl
       rotate_left
       ·simp only [Act.put, Lt, Lz, Ls, i64_w, i32_w]
        rfl
       refine take_ (i := 42) (N := some 296) (v := ?_) (a' := ?_) #[true, true, true, true, true, true, true, true, true, true, true, true, true, true, true, true, true, true, true, true, true, true, true, true, true, true, true, true, true, true, true, true, true, true, true, true, true, true, true, true, true, true, true, false, false, false, false, false, false] rfl rfl (by kernel_rfl) (fun _ _ _ h => h) (Or.inl ⟨by rfl, ?_⟩) hHeld ?_ ?_
       rotate_left
       ·rintro w' ⟨s0, s1, s2, s3, s4⟩
        first | (refine Eq.trans (load_run s0 2 rfl 26 _ (by rfl) (by rfl) _ Tryz.underlying26 rfl (by kernel_rfl)) ?_; with_reducible rfl) | (refine Eq.trans (load_run s1 2 rfl 26 _ (by rfl) (by rfl) _ Tryz.underlying26 rfl (by kernel_rfl)) ?_; with_reducible rfl) | (refine Eq.trans (load_run s2 2 rfl 26 _ (by rfl) (by rfl) _ Tryz.underlying26 rfl (by kernel_rfl)) ?_; with_reducible rfl) | (refine Eq.trans (load_run s3 2 rfl 26 _ (by rfl) (by rfl) _ Tryz.underlying26 rfl (by kernel_rfl)) ?_; with_reducible rfl) | (refine Eq.trans (load_run s4 2 rfl 26 _ (by rfl) (by rfl) _ Tryz.underlying26 rfl (by kernel_rfl)) ?_; with_reducible rfl)
       rotate_left
       ·simp only [Act.put, Lt, Lz, Ls, i64_w, i32_w]
        rfl
       refine pure_ (i := 44) (N := some 298) (v := ?_) (a' := ?_) #[true, true, true, true, true, true, true, true, true, true, true, true, true, true, true, true, true, true, true, true, true, true, true, true, true, true, true, true, true, true, true, true, true, true, true, true, true, true, true, true, true, true, true, false, true, false, false, false, false] rfl rfl (by kernel_rfl) (fun _ _ _ h => h) (Or.inl ⟨by rfl, ?_⟩) ?_ ?_
       rotate_left
       ·intro w'
        go_simp
        with_reducible rfl
       rotate_left
       ·simp only [Act.put, Lt, Lz, Ls, i64_w, i32_w]
        rfl
       refine take_ (i := 45) (N := some 299) (v := ?_) (a' := ?_) #[true, true, true, true, true, true, true, true, true, true, true, true, true, true, true, true, true, true, true, true, true, true, true, true, true, true, true, true, true, true, true, true, true, true, true, true, true, true, true, true, true, true, true, false, true, true, false, false, false] rfl rfl (by kernel_rfl) (fun _ _ _ h => h) (Or.inl ⟨by rfl, ?_⟩) hHeld ?_ ?_
       rotate_left
       ·rintro w' ⟨s0, s1, s2, s3, s4⟩
        first | (refine Eq.trans (load_run s0 2 rfl 26 _ (by rfl) (by rfl) _ Tryz.underlying26 rfl (by kernel_rfl)) ?_; with_reducible rfl) | (refine Eq.trans (load_run s1 2 rfl 26 _ (by rfl) (by rfl) _ Tryz.underlying26 rfl (by kernel_rfl)) ?_; with_reducible rfl) | (refine Eq.trans (load_run s2 2 rfl 26 _ (by rfl) (by rfl) _ Tryz.underlying26 rfl (by kernel_rfl)) ?_; with_reducible rfl) | (refine Eq.trans (load_run s3 2 rfl 26 _ (by rfl) (by rfl) _ Tryz.underlying26 rfl (by kernel_rfl)) ?_; with_reducible rfl) | (refine Eq.trans (load_run s4 2 rfl 26 _ (by rfl) (by rfl) _ Tryz.underlying26 rfl (by kernel_rfl)) ?_; with_reducible rfl)
       rotate_left
       ·simp only [Act.put, Lt, Lz, Ls, i64_w, i32_w]
        rfl
       refine one_ (i := 43) (N := some 297) #[true, true, true, true, true, true, true, true, true, true, true, true, true, true, true, true, true, true, true, true, true, true, true, true, true, true, true, true, true, true, true, true, true, true, true, true, true, true, true, true, true, true, true, true, true, true, false, false, false] rfl rfl (by kernel_rfl) (by decide) (fun K hK => ?_)
       refine goes_ Tryz.func23 (by kernel_rfl) rfl #[.int .i64 r9, .agg #[.int .i64 r10, .slice A7_ r11.length c7_]] (by rfl) rfl rfl (by (try simp only [List.map_toArray, List.map_cons, List.map_nil]); first | done | rfl) ?_
       (refine (impl_GoodAttr.calls r9 r10 A7_ c7_ r11 r30 w44 (Rr X7.out).2.2 (Rr X7.out).2.1 H28.out).mono ?_)
       rintro e w45 ⟨rfl, hb⟩
       refine ⟨_, rfl, ?_⟩
       have Z45 : Ad (w44.heap.size ≤ w45.heap.size) := ⟨hb.size⟩
       replace X1 := Am (Rb X1.out hb)
       replace X2 := Am (Rb X2.out hb)
       replace X3 := Am (Rb X3.out hb)
       replace X7 := Am (Rb X7.out hb)
       replace X8 := Am (Rb X8.out hb)
       replace X9 := Am (Rb X9.out hb)
       replace X10 := Am (Rb X10.out hb)
       replace X11 := Am (Rb X11.out hb)
       replace X12 := Am (Rb X12.out hb)
       replace BX1 := Am (Kb BX1.out hb)
       replace BX2 := Am (Kb BX2.out hb)
       replace BX3 := Am (Kb BX3.out hb)
       replace BX7 := Am (Kb BX7.out hb)
       replace BX8 := Am (Kb BX8.out hb)
       replace BX9 := Am (Kb BX9.out hb)
       replace BX10 := Am (Kb BX10.out hb)
       replace BX11 := Am (Kb BX11.out hb)
       replace BX12 := Am (Kb BX12.out hb)
       replace HB := Am (Bh HB.out HB.out.size hb)
       clear hb
       refine hK.out _ _ ⟨BX7.out, BX8.out, BX9.out, BX10.out, BX11.out⟩ (fun hHeld => ?_)
       clear hK K
       refine norm_ (a' := ?_) ?_ ?_
       rotate_left
       ·show Act.put _ (some 297) _ = _
        simp only [Act.put, Lt, Lz, Ls, i64_w, i32_w]
        rfl
       obtain ⟨⟨K29, h29⟩, hF⟩ := HF.out
       clear HF
       have HF := Am hF
       clear hF
       have H29 := Am h29
       clear h29
       refine one_ (i := 46) (N := some 300) #[true, true, true, true, true, true, true, true, true, true, true, true, true, true, true, true, true, true, true, true, true, true, true, true, true, true, true, true, true, true, true, true, true, true, true, true, true, true, true, true, true, true, true, true, true, true, true, false, false] rfl rfl (by kernel_rfl) (by decide) (fun K hK => ?_)
       refine goes_ Tryz.func24 (by kernel_rfl) rfl #[.int .i64 r9, .agg #[.int .i64 r10, .slice A7_ r11.length c7_]] (by rfl) rfl rfl (by (try simp only [List.map_toArray, List.map_cons, List.map_nil]); first | done | rfl) ?_
       (refine (spec_GoodAttr.calls K29 r9 r10 A7_ c7_ r11 r30 w45 (Rr X7.out).2.2 (Rr X7.out).2.1 H29.out).mono ?_)
       rintro e w46 ⟨rfl, hb⟩
       refine ⟨_, rfl, ?_⟩
       have Z46 : Ad (w45.heap.size ≤ w46.heap.size) := ⟨hb.size⟩
       replace X1 := Am (Rb X1.out hb)
       replace X2 := Am (Rb X2.out hb)
       replace X3 := Am (Rb X3.out hb)
       replace X7 := Am (Rb X7.out hb)
       replace X8 := Am (Rb X8.out hb)
       replace X9 := Am (Rb X9.out hb)
       replace X10 := Am (Rb X10.out hb)
       replace X11 := Am (Rb X11.out hb)
       replace X12 := Am (Rb X12.out hb)
       replace BX1 := Am (Kb BX1.out hb)
       replace BX2 := Am (Kb BX2.out hb)
       replace BX3 := Am (Kb BX3.out hb)
       replace BX7 := Am (Kb BX7.out hb)
       replace BX8 := Am (Kb BX8.out hb)
       replace BX9 := Am (Kb BX9.out hb)
       replace BX10 := Am (Kb BX10.out hb)
       replace BX11 := Am (Kb BX11.out hb)
       replace BX12 := Am (Kb BX12.out hb)
       replace HB := Am (Bh HB.out HB.out.size hb)
       clear hb
       refine hK.out _ _ ⟨BX7.out, BX8.out, BX9.out, BX10.out, BX11.out⟩ (fun hHeld => ?_)
       clear hK K
       refine norm_ (a' := ?_) ?_ ?_
       rotate_left
       ·show Act.put _ (some 300) _ = _
        simp only [Act.put, Lt, Lz, Ls, i64_w, i32_w]
        rfl
       refine pure_ (i := 47) (N := some 301) (v := ?_) (a' := ?_) #[true, true, true, true, true, true, true, true, true, true, true, true, true, true, true, true, true, true, true, true, true, true, true, true, true, true, true, true, true, true, true, true, true, true, true, true, true, true, true, true, true, true, true, true, true, true, true, true, false] rfl rfl (by kernel_rfl) (fun _ _ _ h => h) (Or.inl ⟨by rfl, ?_⟩) ?_ ?_
       rotate_left
       ·intro w'
        go_simp
        with_reducible rfl
       rotate_left
       ·simp only [Act.put, Lt, Lz, Ls, i64_w, i32_w]
        rfl
       refine pure_ (i := 48) (N := some 302) (v := ?_) (a' := ?_) #[true, true, true, true, true, true, true, true, true, true, true, true, true, true, true, true, true, true, true, true, true, true, true, true, true, true, true, true, true, true, true, true, true, true, true, true, true, true, true, true, true, true, true, true, true, true, true, true, true] rfl rfl (by kernel_rfl) (fun _ _ _ h => h) (Or.inl ⟨by rfl, ?_⟩) ?_ ?_
       rotate_left
       ·intro w'
        go_simp
        with_reducible rfl
       rotate_left
       ·simp only [Act.put, Lt, Lz, Ls, i64_w, i32_w]
        rfl
       refine done_ (by kernel_rfl) ?_
       rcases HF.out with hF | hF
       ·as_aux_lemma =>
         clear HF
         have HF := Am hF
         clear hF
         obtain ⟨h30, hF⟩ := HF.out
         clear HF
         have HF := Am hF
         clear hF
         have H30 := Am h30
         clear h30
         have hb_ := H30.out
         clear H30
         subst hb_
         obtain ⟨⟨K31, h31⟩, hF⟩ := HF.out
         clear HF
         have HF := Am hF
         clear hF
         have H31 := Am h31
         clear h31
         go_wp2_with fail
         (refine (impl_ReadAttr.calls K31 r9 r12 r10 r11 true w46 H31.out (EnvM.below HMw.out (by repeat (first | exact HB.out | apply Ba | apply Bn | apply Bd)))).mono ?_)
         rintro e w47 ⟨v1_, rfl, hS0, hb⟩
         have X13 : Ad (Kd.R (Kd.int .i64) 3 w47 w.heap.size (fun k => w46.heap.size ≤ k ∧ k < w47.heap.size) v1_ r11) := ⟨Rm (Kd.R_lower (Ro hS0) HB.out.size) (fun k hk => ⟨hk.2.1, hk.2.2.1⟩)⟩
         have Z47 : Ad (w46.heap.size ≤ w47.heap.size) := ⟨hb.size⟩
         replace X1 := Am (Rb X1.out hb)
         replace X2 := Am (Rb X2.out hb)
         replace X3 := Am (Rb X3.out hb)
         replace X7 := Am (Rb X7.out hb)
         replace X8 := Am (Rb X8.out hb)
         replace X9 := Am (Rb X9.out hb)
         replace X10 := Am (Rb X10.out hb)
         replace X11 := Am (Rb X11.out hb)
         replace X12 := Am (Rb X12.out hb)
         replace BX1 := Am (Kb BX1.out hb)
         replace BX2 := Am (Kb BX2.out hb)
         replace BX3 := Am (Kb BX3.out hb)
         replace BX7 := Am (Kb BX7.out hb)
         replace BX8 := Am (Kb BX8.out hb)
         replace BX9 := Am (Kb BX9.out hb)
         replace BX10 := Am (Kb BX10.out hb)
         replace BX11 := Am (Kb BX11.out hb)
         replace BX12 := Am (Kb BX12.out hb)
         replace HB := Am (Bh HB.out HB.out.size hb)
         clear hb hS0
         obtain ⟨A13_, c13_, rfl⟩ := Rs X13.out
         obtain ⟨⟨K32, h32⟩, hF⟩ := HF.out
         clear HF
         have HF := Am hF
         clear hF
         have H32 := Am h32
         clear h32
         have qBX7_0 : w47.cell? ⟨w24.heap.size, 0, none⟩ = some (.int .i64 r10) := (Kc BX7.out 0).trans rfl
         have qBX7_1 : w47.cell? ⟨w24.heap.size, 1, none⟩ = some (.slice A7_ r11.length c7_) := (Kc BX7.out 1).trans rfl
         go_upto_region 40 with (first | ((refine Gd (N := 312) rfl ?_); first | refine Er rfl (load_run BX7.out 2 rfl 26 _ (by rfl) (by rfl) _ Tryz.underlying26 rfl (by kernel_rfl)) ?_) | ((refine Gd (N := 313) rfl ?_); first | refine Er rfl (load_run BX7.out 2 rfl 26 _ (by rfl) (by rfl) _ Tryz.underlying26 rfl (by kernel_rfl)) ?_))
         clear qBX7_0 qBX7_1
         refine letC (fun W_ => Below w47.heap.size w47 W_ ∧ W_.heap[w47.heap.size]? = some (.cells #[.int .i64 r10, .slice A13_ r11.length c13_] 26 (0, 0))) ?_ ?_
         ·refine ⟨?_, ?_⟩
          ·repeat (first | exact Below.refl _ _ | apply Ba | refine Bs ?_ (by first | exact Nat.le_refl _ | omega | (simp; done)))
          ·exact blk_new w47 (.cells #[.int .i64 r10, .slice A13_ r11.length c13_] 26)
         intro w48 hq_
         obtain ⟨hb, hx0_⟩ := hq_
         have Z48 : Ad (w47.heap.size ≤ w48.heap.size) := ⟨hb.size⟩
         replace X1 := Am (Rb X1.out hb)
         replace X2 := Am (Rb X2.out hb)
         replace X3 := Am (Rb X3.out hb)
         replace X7 := Am (Rb X7.out hb)
         replace X8 := Am (Rb X8.out hb)
         replace X9 := Am (Rb X9.out hb)
         replace X10 := Am (Rb X10.out hb)
         replace X11 := Am (Rb X11.out hb)
         replace X12 := Am (Rb X12.out hb)
         replace X13 := Am (Rb X13.out hb)
         replace BX1 := Am (Kb BX1.out hb)
         replace BX2 := Am (Kb BX2.out hb)
         replace BX3 := Am (Kb BX3.out hb)
         replace BX7 := Am (Kb BX7.out hb)
         replace BX8 := Am (Kb BX8.out hb)
         replace BX9 := Am (Kb BX9.out hb)
         replace BX10 := Am (Kb BX10.out hb)
         replace BX11 := Am (Kb BX11.out hb)
         replace BX12 := Am (Kb BX12.out hb)
         replace HB := Am (Bh HB.out HB.out.size hb)
         clear hb
         have BX13 : Ad (w48.heap[w47.heap.size]? = some (.cells #[.int .i64 r10, .slice A13_ r11.length c13_] 26 (0, 0))) := ⟨hx0_⟩
         clear hx0_
         have GBX13 : Ad (w47.heap.size < w48.heap.size) := ⟨Kl BX13.out⟩
         have qBX7_0 : w48.cell? ⟨w24.heap.size, 0, none⟩ = some (.int .i64 r10) := (Kc BX7.out 0).trans rfl
         have qBX7_1 : w48.cell? ⟨w24.heap.size, 1, none⟩ = some (.slice A7_ r11.length c7_) := (Kc BX7.out 1).trans rfl
         have qBX13_0 : w48.cell? ⟨w47.heap.size, 0, none⟩ = some (.int .i64 r10) := (Kc BX13.out 0).trans rfl
         have qBX13_1 : w48.cell? ⟨w47.heap.size, 1, none⟩ = some (.slice A13_ r11.length c13_) := (Kc BX13.out 1).trans rfl
         go_wp2_with (first | ((refine Gd (N := 312) rfl ?_); first | refine Er rfl (load_run BX7.out 2 rfl 26 _ (by rfl) (by rfl) _ Tryz.underlying26 rfl (by kernel_rfl)) ?_ | refine Er rfl (load_run BX13.out 2 rfl 26 _ (by rfl) (by rfl) _ Tryz.underlying26 rfl (by kernel_rfl)) ?_) | ((refine Gd (N := 313) rfl ?_); first | refine Er rfl (load_run BX7.out 2 rfl 26 _ (by rfl) (by rfl) _ Tryz.underlying26 rfl (by kernel_rfl)) ?_ | refine Er rfl (load_run BX13.out 2 rfl 26 _ (by rfl) (by rfl) _ Tryz.underlying26 rfl (by kernel_rfl)) ?_))
         clear qBX7_0 qBX7_1 qBX13_0 qBX13_1
         (refine (laws_sameAttr.calls K32 r10 A13_ c13_ r11 r10 A7_ c7_ r11 true w48 (Rr X13.out).2.2 (Rr X13.out).2.1 (Rr X7.out).2.2 (Rr X7.out).2.1 H32.out).mono ?_)
         rintro e w49 ⟨rfl, hb⟩
         have Z49 : Ad (w48.heap.size ≤ w49.heap.size) := ⟨hb.size⟩
         replace X1 := Am (Rb X1.out hb)
         replace X2 := Am (Rb X2.out hb)
         replace X3 := Am (Rb X3.out hb)
         replace X7 := Am (Rb X7.out hb)
         replace X8 := Am (Rb X8.out hb)
         replace X9 := Am (Rb X9.out hb)
         replace X10 := Am (Rb X10.out hb)
         replace X11 := Am (Rb X11.out hb)
         replace X12 := Am (Rb X12.out hb)
         replace X13 := Am (Rb X13.out hb)
         replace BX1 := Am (Kb BX1.out hb)
         replace BX2 := Am (Kb BX2.out hb)
         replace BX3 := Am (Kb BX3.out hb)
         replace BX7 := Am (Kb BX7.out hb)
         replace BX8 := Am (Kb BX8.out hb)
         replace BX9 := Am (Kb BX9.out hb)
         replace BX10 := Am (Kb BX10.out hb)
         replace BX11 := Am (Kb BX11.out hb)
         replace BX12 := Am (Kb BX12.out hb)
         replace BX13 := Am (Kb BX13.out hb)
         replace HB := Am (Bh HB.out HB.out.size hb)
         clear hb
         go_wp2
         go_ret
         exact ⟨rfl, HB.out⟩
       ·as_aux_lemma =>
         clear HF
         have HF := Am hF
         clear hF
         obtain ⟨h33, hF⟩ := HF.out
         clear HF
         have HF := Am hF
         clear hF
         have H33 := Am h33
         clear h33
         have hb_ := H33.out
         clear H33
         subst hb_
         go_wp2
         go_ret
         exact ⟨rfl, HB.out⟩
  ·as_aux_lemma =>
    clear HF
    have HF := Am hF
    clear hF
    obtain ⟨r31, r32, ⟨K34, h34⟩, hF⟩ := HF.out
    clear HF
    have HF := Am hF
    clear hF
    have H34 := Am h34
    clear h34
    go_upto_region 4 with (fail)
    refine letC (fun W_ => Below w3.heap.size w3 W_ ∧ W_.heap[w3.heap.size]? = some (.cells #[.int .i64 r2, .slice A1_ r3.length c1_] 26 (0, 0)) ∧ W_.heap[w3.heap.size + 1]? = some (.cells #[.int .i64 r4, .slice A2_ r5.length c2_] 26 (0, 0))) ?_ ?_
    ·refine ⟨?_, ?_, ?_⟩
     ·repeat (first | exact Below.refl _ _ | apply Ba | refine Bs ?_ (by first | exact Nat.le_refl _ | omega | (simp; done)))
     ·simpa using Ka (blk_new w3 (.cells #[.int .i64 r2, .slice A1_ r3.length c1_] 26)) (.cells #[.int .i64 r4, .slice A2_ r5.length c2_] 26)
     ·simpa using blk_new (w3.alloc (.cells #[.int .i64 r2, .slice A1_ r3.length c1_] 26)) (.cells #[.int .i64 r4, .slice A2_ r5.length c2_] 26)
    intro w50 hq_
    obtain ⟨hb, hx0_, hx1_⟩ := hq_
    have Z50 : Ad (w3.heap.size ≤ w50.heap.size) := ⟨hb.size⟩
    replace X1 := Am (Rb X1.out hb)
    replace X2 := Am (Rb X2.out hb)
    replace HB := Am (Bh HB.out HB.out.size hb)
    clear hb
    have BX1 : Ad (w50.heap[w3.heap.size]? = some (.cells #[.int .i64 r2, .slice A1_ r3.length c1_] 26 (0, 0))) := ⟨hx0_⟩
    clear hx0_
    have GBX1 : Ad (w3.heap.size < w50.heap.size) := ⟨Kl BX1.out⟩
    have BX2 : Ad (w50.heap[w3.heap.size + 1]? = some (.cells #[.int .i64 r4, .slice A2_ r5.length c2_] 26 (0, 0))) := ⟨hx1_⟩
    clear hx1_
    have GBX2 : Ad (w3.heap.size + 1 < w50.heap.size) := ⟨Kl BX2.out⟩
    go_wp2_with (first | ((refine Gd (N := 62) rfl ?_); first | refine Er rfl (load_run BX1.out 2 rfl 26 _ (by rfl) (by rfl) _ Tryz.underlying26 rfl (by kernel_rfl)) ?_ | refine Er rfl (load_run BX2.out 2 rfl 26 _ (by rfl) (by rfl) _ Tryz.underlying26 rfl (by kernel_rfl)) ?_) | ((refine Gd (N := 63) rfl ?_); first | refine Er rfl (load_run BX1.out 2 rfl 26 _ (by rfl) (by rfl) _ Tryz.underlying26 rfl (by kernel_rfl)) ?_ | refine Er rfl (load_run BX2.out 2 rfl 26 _ (by rfl) (by rfl) _ Tryz.underlying26 rfl (by kernel_rfl)) ?_))
    (refine (impl_JoinAttr.calls K34 r1 r2 A1_ c1_ r3 r4 A2_ c2_ r5 r31 r32 false w50 (Rr X1.out).2.2 (Rr X1.out).2.1 (Rr X2.out).2.2 (Rr X2.out).2.1 H34.out).mono ?_)
    rintro e w51 ⟨v1_, rfl, hS0, hb⟩
    have X14 : Ad (Kd.R (Kd.int .i64) 3 w51 w.heap.size (fun k => w50.heap.size ≤ k ∧ k < w51.heap.size) v1_ r32) := ⟨Rm (Kd.R_lower (Ro hS0) HB.out.size) (fun k hk => ⟨hk.2.1, hk.2.2.1⟩)⟩
    have Z51 : Ad (w50.heap.size ≤ w51.heap.size) := ⟨hb.size⟩
    replace X1 := Am (Rb X1.out hb)
    replace X2 := Am (Rb X2.out hb)
    replace BX1 := Am (Kb BX1.out hb)
    replace BX2 := Am (Kb BX2.out hb)
    replace HB := Am (Bh HB.out HB.out.size hb)
    clear hb hS0
    obtain ⟨A14_, c14_, rfl⟩ := Rs X14.out
    obtain ⟨⟨K35, h35⟩, hF⟩ := HF.out
    clear HF
    have HF := Am hF
    clear hF
    have H35 := Am h35
    clear h35
    go_upto_region 5 with (first | ((refine Gd (N := 69) rfl ?_); first | refine Er rfl (load_run BX1.out 2 rfl 26 _ (by rfl) (by rfl) _ Tryz.underlying26 rfl (by kernel_rfl)) ?_ | refine Er rfl (load_run BX2.out 2 rfl 26 _ (by rfl) (by rfl) _ Tryz.underlying26 rfl (by kernel_rfl)) ?_) | ((refine Gd (N := 70) rfl ?_); first | refine Er rfl (load_run BX1.out 2 rfl 26 _ (by rfl) (by rfl) _ Tryz.underlying26 rfl (by kernel_rfl)) ?_ | refine Er rfl (load_run BX2.out 2 rfl 26 _ (by rfl) (by rfl) _ Tryz.underlying26 rfl (by kernel_rfl)) ?_))
    refine letC (fun W_ => Below w51.heap.size w51 W_ ∧ W_.heap[w51.heap.size]? = some (.cells #[.int .i64 r31, .slice A14_ r32.length c14_] 26 (0, 0))) ?_ ?_
    ·refine ⟨?_, ?_⟩
     ·repeat (first | exact Below.refl _ _ | apply Ba | refine Bs ?_ (by first | exact Nat.le_refl _ | omega | (simp; done)))
     ·exact blk_new w51 (.cells #[.int .i64 r31, .slice A14_ r32.length c14_] 26)
    intro w52 hq_
    obtain ⟨hb, hx0_⟩ := hq_
    have Z52 : Ad (w51.heap.size ≤ w52.heap.size) := ⟨hb.size⟩
    replace X1 := Am (Rb X1.out hb)
    replace X2 := Am (Rb X2.out hb)
    replace X14 := Am (Rb X14.out hb)
    replace BX1 := Am (Kb BX1.out hb)
    replace BX2 := Am (Kb BX2.out hb)
    replace HB := Am (Bh HB.out HB.out.size hb)
    clear hb
    have BX14 : Ad (w52.heap[w51.heap.size]? = some (.cells #[.int .i64 r31, .slice A14_ r32.length c14_] 26 (0, 0))) := ⟨hx0_⟩
    clear hx0_
    have GBX14 : Ad (w51.heap.size < w52.heap.size) := ⟨Kl BX14.out⟩
    go_wp2_with (first | ((refine Gd (N := 69) rfl ?_); first | refine Er rfl (load_run BX1.out 2 rfl 26 _ (by rfl) (by rfl) _ Tryz.underlying26 rfl (by kernel_rfl)) ?_ | refine Er rfl (load_run BX2.out 2 rfl 26 _ (by rfl) (by rfl) _ Tryz.underlying26 rfl (by kernel_rfl)) ?_) | ((refine Gd (N := 70) rfl ?_); first | refine Er rfl (load_run BX1.out 2 rfl 26 _ (by rfl) (by rfl) _ Tryz.underlying26 rfl (by kernel_rfl)) ?_ | refine Er rfl (load_run BX2.out 2 rfl 26 _ (by rfl) (by rfl) _ Tryz.underlying26 rfl (by kernel_rfl)) ?_))
    (refine (spec_JoinAttr.calls K35 r1 r2 A1_ c1_ r3 r4 A2_ c2_ r5 r31 r32 false w52 (Rr X1.out).2.2 (Rr X1.out).2.1 (Rr X2.out).2.2 (Rr X2.out).2.1 H35.out).mono ?_)
    rintro e w53 ⟨v1_, rfl, hS0, hb⟩
    have X15 : Ad (Kd.R (Kd.int .i64) 3 w53 w.heap.size (fun k => w52.heap.size ≤ k ∧ k < w53.heap.size) v1_ r32) := ⟨Rm (Kd.R_lower (Ro hS0) HB.out.size) (fun k hk => ⟨hk.2.1, hk.2.2.1⟩)⟩
    have Z53 : Ad (w52.heap.size ≤ w53.heap.size) := ⟨hb.size⟩
    replace X1 := Am (Rb X1.out hb)
    replace X2 := Am (Rb X2.out hb)
    replace X14 := Am (Rb X14.out hb)
    replace BX1 := Am (Kb BX1.out hb)
    replace BX2 := Am (Kb BX2.out hb)
    replace BX14 := Am (Kb BX14.out hb)
    replace HB := Am (Bh HB.out HB.out.size hb)
    clear hb hS0
    obtain ⟨A15_, c15_, rfl⟩ := Rs X15.out
    obtain ⟨⟨K36, h36⟩, hF⟩ := HF.out
    clear HF
    have HF := Am hF
    clear hF
    have H36 := Am h36
    clear h36
    have qBX1_0 : w53.cell? ⟨w3.heap.size, 0, none⟩ = some (.int .i64 r2) := (Kc BX1.out 0).trans rfl
    have qBX1_1 : w53.cell? ⟨w3.heap.size, 1, none⟩ = some (.slice A1_ r3.length c1_) := (Kc BX1.out 1).trans rfl
    have qBX2_0 : w53.cell? ⟨w3.heap.size + 1, 0, none⟩ = some (.int .i64 r4) := (Kc BX2.out 0).trans rfl
    have qBX2_1 : w53.cell? ⟨w3.heap.size + 1, 1, none⟩ = some (.slice A2_ r5.length c2_) := (Kc BX2.out 1).trans rfl
    have qBX14_0 : w53.cell? ⟨w51.heap.size, 0, none⟩ = some (.int .i64 r31) := (Kc BX14.out 0).trans rfl
    have qBX14_1 : w53.cell? ⟨w51.heap.size, 1, none⟩ = some (.slice A14_ r32.length c14_) := (Kc BX14.out 1).trans rfl
    go_upto_region 6 with (first | ((refine Gd (N := 78) rfl ?_); first | refine Er rfl (load_run BX1.out 2 rfl 26 _ (by rfl) (by rfl) _ Tryz.underlying26 rfl (by kernel_rfl)) ?_ | refine Er rfl (load_run BX2.out 2 rfl 26 _ (by rfl) (by rfl) _ Tryz.underlying26 rfl (by kernel_rfl)) ?_ | refine Er rfl (load_run BX14.out 2 rfl 26 _ (by rfl) (by rfl) _ Tryz.underlying26 rfl (by kernel_rfl)) ?_) | ((refine Gd (N := 79) rfl ?_); first | refine Er rfl (load_run BX1.out 2 rfl 26 _ (by rfl) (by rfl) _ Tryz.underlying26 rfl (by kernel_rfl)) ?_ | refine Er rfl (load_run BX2.out 2 rfl 26 _ (by rfl) (by rfl) _ Tryz.underlying26 rfl (by kernel_rfl)) ?_ | refine Er rfl (load_run BX14.out 2 rfl 26 _ (by rfl) (by rfl) _ Tryz.underlying26 rfl (by kernel_rfl)) ?_))
    clear qBX1_0 qBX1_1 qBX2_0 qBX2_1 qBX14_0 qBX14_1
    refine letC (fun W_ => Below w53.heap.size w53 W_ ∧ W_.heap[w53.heap.size]? = some (.cells #[.int .i64 r31, .slice A15_ r32.length c15_] 26 (0, 0))) ?_ ?_
    ·refine ⟨?_, ?_⟩
     ·repeat (first | exact Below.refl _ _ | apply Ba | refine Bs ?_ (by first | exact Nat.le_refl _ | omega | (simp; done)))
     ·exact blk_new w53 (.cells #[.int .i64 r31, .slice A15_ r32.length c15_] 26)
    intro w54 hq_
    obtain ⟨hb, hx0_⟩ := hq_
    have Z54 : Ad (w53.heap.size ≤ w54.heap.size) := ⟨hb.size⟩
    replace X1 := Am (Rb X1.out hb)
    replace X2 := Am (Rb X2.out hb)
    replace X14 := Am (Rb X14.out hb)
    replace X15 := Am (Rb X15.out hb)
    replace BX1 := Am (Kb BX1.out hb)
    replace BX2 := Am (Kb BX2.out hb)
    replace BX14 := Am (Kb BX14.out hb)
    replace HB := Am (Bh HB.out HB.out.size hb)
    clear hb
    have BX15 : Ad (w54.heap[w53.heap.size]? = some (.cells #[.int .i64 r31, .slice A15_ r32.length c15_] 26 (0, 0))) := ⟨hx0_⟩
    clear hx0_
    have GBX15 : Ad (w53.heap.size < w54.heap.size) := ⟨Kl BX15.out⟩
    have qBX1_0 : w54.cell? ⟨w3.heap.size, 0, none⟩ = some (.int .i64 r2) := (Kc BX1.out 0).trans rfl
    have qBX1_1 : w54.cell? ⟨w3.heap.size, 1, none⟩ = some (.slice A1_ r3.length c1_) := (Kc BX1.out 1).trans rfl
    have qBX2_0 : w54.cell? ⟨w3.heap.size + 1, 0, none⟩ = some (.int .i64 r4) := (Kc BX2.out 0).trans rfl
    have qBX2_1 : w54.cell? ⟨w3.heap.size + 1, 1, none⟩ = some (.slice A2_ r5.length c2_) := (Kc BX2.out 1).trans rfl
    have qBX14_0 : w54.cell? ⟨w51.heap.size, 0, none⟩ = some (.int .i64 r31) := (Kc BX14.out 0).trans rfl
    have qBX14_1 : w54.cell? ⟨w51.heap.size, 1, none⟩ = some (.slice A14_ r32.length c14_) := (Kc BX14.out 1).trans rfl
    have qBX15_0 : w54.cell? ⟨w53.heap.size, 0, none⟩ = some (.int .i64 r31) := (Kc BX15.out 0).trans rfl
    have qBX15_1 : w54.cell? ⟨w53.heap.size, 1, none⟩ = some (.slice A15_ r32.length c15_) := (Kc BX15.out 1).trans rfl
    go_wp2_with (first | ((refine Gd (N := 78) rfl ?_); first | refine Er rfl (load_run BX1.out 2 rfl 26 _ (by rfl) (by rfl) _ Tryz.underlying26 rfl (by kernel_rfl)) ?_ | refine Er rfl (load_run BX2.out 2 rfl 26 _ (by rfl) (by rfl) _ Tryz.underlying26 rfl (by kernel_rfl)) ?_ | refine Er rfl (load_run BX14.out 2 rfl 26 _ (by rfl) (by rfl) _ Tryz.underlying26 rfl (by kernel_rfl)) ?_ | refine Er rfl (load_run BX15.out 2 rfl 26 _ (by rfl) (by rfl) _ Tryz.underlying26 rfl (by kernel_rfl)) ?_) | ((refine Gd (N := 79) rfl ?_); first | refine Er rfl (load_run BX1.out 2 rfl 26 _ (by rfl) (by rfl) _ Tryz.underlying26 rfl (by kernel_rfl)) ?_ | refine Er rfl (load_run BX2.out 2 rfl 26 _ (by rfl) (by rfl) _ Tryz.underlying26 rfl (by kernel_rfl)) ?_ | refine Er rfl (load_run BX14.out 2 rfl 26 _ (by rfl) (by rfl) _ Tryz.underlying26 rfl (by kernel_rfl)) ?_ | refine Er rfl (load_run BX15.out 2 rfl 26 _ (by rfl) (by rfl) _ Tryz.underlying26 rfl (by kernel_rfl)) ?_))
    clear qBX1_0 qBX1_1 qBX2_0 qBX2_1 qBX14_0 qBX14_1 qBX15_0 qBX15_1
    refine start_ (n := 27) (S := fun w' => w'.heap[w3.heap.size]? = some (.cells #[.int .i64 r2, .slice A1_ r3.length c1_] 26 (0, 0)) ∧ w'.heap[w3.heap.size + 1]? = some (.cells #[.int .i64 r4, .slice A2_ r5.length c2_] 26 (0, 0)) ∧ w'.heap[w51.heap.size]? = some (.cells #[.int .i64 r31, .slice A14_ r32.length c14_] 26 (0, 0)) ∧ w'.heap[w53.heap.size]? = some (.cells #[.int .i64 r31, .slice A15_ r32.length c15_] 26 (0, 0))) (ds := []) #[false, false, false, false, false, false, false, false, false, false, false, false, false, false, false, false, false, false, false, false, false, false, false, false, false, false, false] (by kernel_rfl) rfl rfl ⟨BX1.out, BX2.out, BX14.out, BX15.out⟩ (fun hHeld => ?_)
    have hb : Below w54.heap.size w54 w54.drew := below_drew (Below.refl _ _)
    generalize w54.drew = w55 at hb hHeld ⊢
    have Z55 : Ad (w54.heap.size ≤ w55.heap.size) := ⟨hb.size⟩
    replace X1 := Am (Rb X1.out hb)
    replace X2 := Am (Rb X2.out hb)
    replace X14 := Am (Rb X14.out hb)
    replace X15 := Am (Rb X15.out hb)
    replace BX1 := Am (Kb BX1.out hb)
    replace BX2 := Am (Kb BX2.out hb)
    replace BX14 := Am (Kb BX14.out hb)
    replace BX15 := Am (Kb BX15.out hb)
    replace HB := Am (Bh HB.out HB.out.size hb)
    clear hb
    refine pure_ (i := 0) (N := some 74) (v := ?_) (a' := ?_) #[true, false, false, false, false, false, false, false, false, false, false, false, false, false, false, false, false, false, false, false, false, false, false, false, false, false, false] rfl rfl (by kernel_rfl) (fun _ _ _ h => h) (Or.inl ⟨by rfl, ?_⟩) ?_ ?_
    rotate_left
    ·intro w'
     go_simp
     with_reducible rfl
    rotate_left
    ·simp only [Act.put, Lt, Lz, Ls, i64_w, i32_w]
     rfl
    refine pure_ (i := 1) (N := some 75) (v := ?_) (a' := ?_) #[true, true, false, false, false, false, false, false, false, false, false, false, false, false, false, false, false, false, false, false, false, false, false, false, false, false, false] rfl rfl (by kernel_rfl) (fun _ _ _ h => h) (Or.inl ⟨by rfl, ?_⟩) ?_ ?_
    rotate_left
    ·intro w'
     go_simp
     with_reducible rfl
    rotate_left
    ·simp only [Act.put, Lt, Lz, Ls, i64_w, i32_w]
     rfl
    refine pure_ (i := 2) (N := some 76) (v := ?_) (a' := ?_) #[true, true, true, false, false, false, false, false, false, false, false, false, false, false, false, false, false, false, false, false, false, false, false, false, false, false, false] rfl rfl (by kernel_rfl) (fun _ _ _ h => h) (Or.inl ⟨by rfl, ?_⟩) ?_ ?_
    rotate_left
    ·intro w'
     go_simp
     with_reducible rfl
    rotate_left
    ·simp only [Act.put, Lt, Lz, Ls, i64_w, i32_w]
     rfl
    refine pure_ (i := 3) (N := some 77) (v := ?_) (a' := ?_) #[true, true, true, true, false, false, false, false, false, false, false, false, false, false, false, false, false, false, false, false, false, false, false, false, false, false, false] rfl rfl (by kernel_rfl) (fun _ _ _ h => h) (Or.inl ⟨by rfl, ?_⟩) ?_ ?_
    rotate_left
    ·intro w'
     go_simp
     with_reducible rfl
    rotate_left
    ·simp only [Act.put, Lt, Lz, Ls, i64_w, i32_w]
     rfl
    refine take_ (i := 4) (N := some 78) (v := ?_) (a' := ?_) #[true, true, true, true, true, false, false, false, false, false, false, false, false, false, false, false, false, false, false, false, false, false, false, false, false, false, false] rfl rfl (by kernel_rfl) (fun _ _ _ h => h) (Or.inl ⟨by rfl, ?_⟩) hHeld ?_ ?_
    rotate_left
    ·rintro w' ⟨s0, s1, s2, s3⟩
     first | (refine Eq.trans (load_run s0 2 rfl 26 _ (by rfl) (by rfl) _ Tryz.underlying26 rfl (by kernel_rfl)) ?_; with_reducible rfl) | (refine Eq.trans (load_run s1 2 rfl 26 _ (by rfl) (by rfl) _ Tryz.underlying26 rfl (by kernel_rfl)) ?_; with_reducible rfl) | (refine Eq.trans (load_run s2 2 rfl 26 _ (by rfl) (by rfl) _ Tryz.underlying26 rfl (by kernel_rfl)) ?_; with_reducible rfl) | (refine Eq.trans (load_run s3 2 rfl 26 _ (by rfl) (by rfl) _ Tryz.underlying26 rfl (by kernel_rfl)) ?_; with_reducible rfl)
    rotate_left
    ·simp only [Act.put, Lt, Lz, Ls, i64_w, i32_w]
     rfl
    refine take_ (i := 5) (N := some 79) (v := ?_) (a' := ?_) #[true, true, true, true, true, true, false, false, false, false, false, false, false, false, false, false, false, false, false, false, false, false, false, false, false, false, false] rfl rfl (by kernel_rfl) (fun _ _ _ h => h) (Or.inl ⟨by rfl, ?_⟩) hHeld ?_ ?_
    rotate_left
    ·rintro w' ⟨s0, s1, s2, s3⟩
     first | (refine Eq.trans (load_run s0 2 rfl 26 _ (by rfl) (by rfl) _ Tryz.underlying26 rfl (by kernel_rfl)) ?_; with_reducible rfl) | (refine Eq.trans (load_run s1 2 rfl 26 _ (by rfl) (by rfl) _ Tryz.underlying26 rfl (by kernel_rfl)) ?_; with_reducible rfl) | (refine Eq.trans (load_run s2 2 rfl 26 _ (by rfl) (by rfl) _ Tryz.underlying26 rfl (by kernel_rfl)) ?_; with_reducible rfl) | (refine Eq.trans (load_run s3 2 rfl 26 _ (by rfl) (by rfl) _ Tryz.underlying26 rfl (by kernel_rfl)) ?_; with_reducible rfl)
    rotate_left
    ·simp only [Act.put, Lt, Lz, Ls, i64_w, i32_w]
     rfl
    refine one_ (i := 6) (N := some 80) #[true, true, true, true, true, true, true, false, false, false, false, false, false, false, false, false, false, false, false, false, false, false, false, false, false, false, false] rfl rfl (by kernel_rfl) (by decide) (fun K hK => ?_)
    refine goes_ Tryz.func8 (by kernel_rfl) rfl #[.agg #[.int .i64 r31, .slice A14_ r32.length c14_], .agg #[.int .i64 r31, .slice A15_ r32.length c15_]] (by rfl) rfl rfl (by (try simp only [List.map_toArray, List.map_cons, List.map_nil]); first | done | rfl) ?_
    (refine (laws_sameAttr.calls K36 r31 A14_ c14_ r32 r31 A15_ c15_ r32 true w55 (Rr X14.out).2.2 (Rr X14.out).2.1 (Rr X15.out).2.2 (Rr X15.out).2.1 H36.out).mono ?_)
    rintro e w56 ⟨rfl, hb⟩
    refine ⟨_, rfl, ?_⟩
    have Z56 : Ad (w55.heap.size ≤ w56.heap.size) := ⟨hb.size⟩
    replace X1 := Am (Rb X1.out hb)
    replace X2 := Am (Rb X2.out hb)
    replace X14 := Am (Rb X14.out hb)
    replace X15 := Am (Rb X15.out hb)
    replace BX1 := Am (Kb BX1.out hb)
    replace BX2 := Am (Kb BX2.out hb)
    replace BX14 := Am (Kb BX14.out hb)
    replace BX15 := Am (Kb BX15.out hb)
    replace HB := Am (Bh HB.out HB.out.size hb)
    clear hb
    refine hK.out _ _ ⟨BX1.out, BX2.out, BX14.out, BX15.out⟩ (fun hHeld => ?_)
    clear hK K
    refine norm_ (a' := ?_) ?_ ?_
    rotate_left
    ·show Act.put _ (some 80) _ = _
     simp only [Act.put, Lt, Lz, Ls, i64_w, i32_w]
     rfl
    obtain ⟨r33, ⟨K37, h37⟩, hF⟩ := HF.out
    clear HF
    have HF := Am hF
    clear hF
    have H37 := Am h37
    clear h37
    refine pure_ (i := 7) (N := some 81) (v := ?_) (a' := ?_) #[true, true, true, true, true, true, true, true, false, false, false, false, false, false, false, false, false, false, false, false, false, false, false, false, false, false, false] rfl rfl (by kernel_rfl) (fun _ _ _ h => h) (Or.inl ⟨by rfl, ?_⟩) ?_ ?_
    rotate_left
    ·intro w'
     go_simp
     with_reducible rfl
    rotate_left
    ·simp only [Act.put, Lt, Lz, Ls, i64_w, i32_w]
     rfl
    refine pure_ (i := 8) (N := some 82) (v := ?_) (a' := ?_) #[true, true, true, true, true, true, true, true, true, false, false, false, false, false, false, false, false, false, false, false, false, false, false, false, false, false, false] rfl rfl (by kernel_rfl) (fun _ _ _ h => h) (Or.inl ⟨by rfl, ?_⟩) ?_ ?_
    rotate_left
    ·intro w'
     go_simp
     with_reducible rfl
    rotate_left
    ·simp only [Act.put, Lt, Lz, Ls, i64_w, i32_w]
     rfl
    refine pure_ (i := 9) (N := some 83) (v := ?_) (a' := ?_) #[true, true, true, true, true, true, true, true, true, true, false, false, false, false, false, false, false, false, false, false, false, false, false, false, false, false, false] rfl rfl (by kernel_rfl) (fun _ _ _ h => h) (Or.inl ⟨by rfl, ?_⟩) ?_ ?_
    rotate_left
    ·intro w'
     go_simp
     with_reducible rfl
    rotate_left
    ·simp only [Act.put, Lt, Lz, Ls, i64_w, i32_w]
     rfl
    refine take_ (i := 10) (N := some 84) (v := ?_) (a' := ?_) #[true, true, true, true, true, true, true, true, true, true, true, false, false, false, false, false, false, false, false, false, false, false, false, false, false, false, false] rfl rfl (by kernel_rfl) (fun _ _ _ h => h) (Or.inl ⟨by rfl, ?_⟩) hHeld ?_ ?_
    rotate_left
    ·rintro w' ⟨s0, s1, s2, s3⟩
     first | (refine Eq.trans (load_run s0 2 rfl 26 _ (by rfl) (by rfl) _ Tryz.underlying26 rfl (by kernel_rfl)) ?_; with_reducible rfl) | (refine Eq.trans (load_run s1 2 rfl 26 _ (by rfl) (by rfl) _ Tryz.underlying26 rfl (by kernel_rfl)) ?_; with_reducible rfl) | (refine Eq.trans (load_run s2 2 rfl 26 _ (by rfl) (by rfl) _ Tryz.underlying26 rfl (by kernel_rfl)) ?_; with_reducible rfl) | (refine Eq.trans (load_run s3 2 rfl 26 _ (by rfl) (by rfl) _ Tryz.underlying26 rfl (by kernel_rfl)) ?_; with_reducible rfl)
    rotate_left
    ·simp only [Act.put, Lt, Lz, Ls, i64_w, i32_w]
     rfl
    refine take_ (i := 11) (N := some 85) (v := ?_) (a' := ?_) #[true, true, true, true, true, true, true, true, true, true, true, true, false, false, false, false, false, false, false, false, false, false, false, false, false, false, false] rfl rfl (by kernel_rfl) (fun _ _ _ h => h) (Or.inl ⟨by rfl, ?_⟩) hHeld ?_ ?_
    rotate_left
    ·rintro w' ⟨s0, s1, s2, s3⟩
     first | (refine Eq.trans (load_run s0 2 rfl 26 _ (by rfl) (by rfl) _ Tryz.underlying26 rfl (by kernel_rfl)) ?_; with_reducible rfl) | (refine Eq.trans (load_run s1 2 rfl 26 _ (by rfl) (by rfl) _ Tryz.underlying26 rfl (by kernel_rfl)) ?_; with_reducible rfl) | (refine Eq.trans (load_run s2 2 rfl 26 _ (by rfl) (by rfl) _ Tryz.underlying26 rfl (by kernel_rfl)) ?_; with_reducible rfl) | (refine Eq.trans (load_run s3 2 rfl 26 _ (by rfl) (by rfl) _ Tryz.underlying26 rfl (by kernel_rfl)) ?_; with_reducible rfl)
    rotate_left
    ·simp only [Act.put, Lt, Lz, Ls, i64_w, i32_w]
     rfl
    refine take_ (i := 13) (N := some 87) (v := ?_) (a' := ?_) #[true, true, true, true, true, true, true, true, true, true, true, true, false, true, false, false, false, false, false, false, false, false, false, false, false, false, false] rfl rfl (by kernel_rfl) (fun _ _ _ h => h) (Or.inl ⟨by rfl, ?_⟩) hHeld ?_ ?_
    rotate_left
    ·rintro w' ⟨s0, s1, s2, s3⟩
     first | (refine Eq.trans (load_run s0 2 rfl 26 _ (by rfl) (by rfl) _ Tryz.underlying26 rfl (by kernel_rfl)) ?_; with_reducible rfl) | (refine Eq.trans (load_run s1 2 rfl 26 _ (by rfl) (by rfl) _ Tryz.underlying26 rfl (by kernel_rfl)) ?_; with_reducible rfl) | (refine Eq.trans (load_run s2 2 rfl 26 _ (by rfl) (by rfl) _ Tryz.underlying26 rfl (by kernel_rfl)) ?_; with_reducible rfl) | (refine Eq.trans (load_run s3 2 rfl 26 _ (by rfl) (by rfl) _ Tryz.underlying26 rfl (by kernel_rfl)) ?_; with_reducible rfl)
    rotate_left
    ·simp only [Act.put, Lt, Lz, Ls, i64_w, i32_w]
     rfl
    refine take_ (i := 14) (N := some 88) (v := ?_) (a' := ?_) #[true, true, true, true, true, true, true, true, true, true, true, true, false, true, true, false, false, false, false, false, false, false, false, false, false, false, false] rfl rfl (by kernel_rfl) (fun _ _ _ h => h) (Or.inl ⟨by rfl, ?_⟩) hHeld ?_ ?_
    rotate_left
    ·rintro w' ⟨s0, s1, s2, s3⟩
     first | (refine Eq.trans (load_run s0 2 rfl 26 _ (by rfl) (by rfl) _ Tryz.underlying26 rfl (by kernel_rfl)) ?_; with_reducible rfl) | (refine Eq.trans (load_run s1 2 rfl 26 _ (by rfl) (by rfl) _ Tryz.underlying26 rfl (by kernel_rfl)) ?_; with_reducible rfl) | (refine Eq.trans (load_run s2 2 rfl 26 _ (by rfl) (by rfl) _ Tryz.underlying26 rfl (by kernel_rfl)) ?_; with_reducible rfl) | (refine Eq.trans (load_run s3 2 rfl 26 _ (by rfl) (by rfl) _ Tryz.underlying26 rfl (by kernel_rfl)) ?_; with_reducible rfl)
    rotate_left
    ·simp only [Act.put, Lt, Lz, Ls, i64_w, i32_w]
     rfl
    refine one_ (i := 12) (N := some 86) #[true, true, true, true, true, true, true, true, true, true, true, true, true, true, true, false, false, false, false, false, false, false, false, false, false, false, false] rfl rfl (by kernel_rfl) (by decide) (fun K hK => ?_)
    refine goes_ Tryz.func9 (by kernel_rfl) rfl #[.agg #[.int .i64 r2, .slice A1_ r3.length c1_], .agg #[.int .i64 r4, .slice A2_ r5.length c2_]] (by rfl) rfl rfl (by (try simp only [List.map_toArray, List.map_cons, List.map_nil]); first | done | rfl) ?_
    (refine (impl_SameAttr.calls K37 r2 A1_ c1_ r3 r4 A2_ c2_ r5 r33 w56 (Rr X1.out).2.2 (Rr X1.out).2.1 (Rr X2.out).2.2 (Rr X2.out).2.1 H37.out).mono ?_)
    rintro e w57 ⟨rfl, hb⟩
    refine ⟨_, rfl, ?_⟩
    have Z57 : Ad (w56.heap.size ≤ w57.heap.size) := ⟨hb.size⟩
    replace X1 := Am (Rb X1.out hb)
    replace X2 := Am (Rb X2.out hb)
    replace X14 := Am (Rb X14.out hb)
    replace X15 := Am (Rb X15.out hb)
    replace BX1 := Am (Kb BX1.out hb)
    replace BX2 := Am (Kb BX2.out hb)
    replace BX14 := Am (Kb BX14.out hb)
    replace BX15 := Am (Kb BX15.out hb)
    replace HB := Am (Bh HB.out HB.out.size hb)
    clear hb
    refine hK.out _ _ ⟨BX1.out, BX2.out, BX14.out, BX15.out⟩ (fun hHeld => ?_)
    clear hK K
    refine norm_ (a' := ?_) ?_ ?_
    rotate_left
    ·show Act.put _ (some 86) _ = _
     simp only [Act.put, Lt, Lz, Ls, i64_w, i32_w]
     rfl
    obtain ⟨⟨K38, h38⟩, hF⟩ := HF.out
    clear HF
    have HF := Am hF
    clear hF
    have H38 := Am h38
    clear h38
    refine one_ (i := 15) (N := some 89) #[true, true, true, true, true, true, true, true, true, true, true, true, true, true, true, true, false, false, false, false, false, false, false, false, false, false, false] rfl rfl (by kernel_rfl) (by decide) (fun K hK => ?_)
    refine goes_ Tryz.func10 (by kernel_rfl) rfl #[.agg #[.int .i64 r2, .slice A1_ r3.length c1_], .agg #[.int .i64 r4, .slice A2_ r5.length c2_]] (by rfl) rfl rfl (by (try simp only [List.map_toArray, List.map_cons, List.map_nil]); first | done | rfl) ?_
    (refine (spec_SameAttr.calls K38 r2 A1_ c1_ r3 r4 A2_ c2_ r5 r33 w57 (Rr X1.out).2.2 (Rr X1.out).2.1 (Rr X2.out).2.2 (Rr X2.out).2.1 H38.out).mono ?_)
    rintro e w58 ⟨rfl, hb⟩
    refine ⟨_, rfl, ?_⟩
    have Z58 : Ad (w57.heap.size ≤ w58.heap.size) := ⟨hb.size⟩
    replace X1 := Am (Rb X1.out hb)
    replace X2 := Am (Rb X2.out hb)
    replace X14 := Am (Rb X14.out hb)
    replace X15 := Am (Rb X15.out hb)
    replace BX1 := Am (Kb BX1.out hb)
    replace BX2 := Am (Kb BX2.out hb)
    replace BX14 := Am (Kb BX14.out hb)
    replace BX15 := Am (Kb BX15.out hb)
    replace HB := Am (Bh HB.out HB.out.size hb)
    clear hb
    refine hK.out _ _ ⟨BX1.out, BX2.out, BX14.out, BX15.out⟩ (fun hHeld => ?_)
    clear hK K
    refine norm_ (a' := ?_) ?_ ?_
    rotate_left
    ·show Act.put _ (some 89) _ = _
     simp only [Act.put, Lt, Lz, Ls, i64_w, i32_w]
     rfl
    refine pure_ (i := 16) (N := some 90) (v := ?_) (a' := ?_) #[true, true, true, true, true, true, true, true, true, true, true, true, true, true, true, true, true, false, false, false, false, false, false, false, false, false, false] rfl rfl (by kernel_rfl) (fun _ _ _ h => h) (Or.inl ⟨by rfl, ?_⟩) ?_ ?_
    rotate_left
    ·intro w'
     go_simp
     with_reducible rfl
    rotate_left
    ·simp only [Act.put, Lt, Lz, Ls, i64_w, i32_w]
     rfl
    refine pure_ (i := 17) (N := some 91) (v := ?_) (a' := ?_) #[true, true, true, true, true, true, true, true, true, true, true, true, true, true, true, true, true, true, false, false, false, false, false, false, false, false, false] rfl rfl (by kernel_rfl) (fun _ _ _ h => h) (Or.inl ⟨by rfl, ?_⟩) ?_ ?_
    rotate_left
    ·intro w'
     go_simp
     with_reducible rfl
    rotate_left
    ·simp only [Act.put, Lt, Lz, Ls, i64_w, i32_w]
     rfl
    refine pure_ (i := 18) (N := some 92) (v := ?_) (a' := ?_) #[true, true, true, true, true, true, true, true, true, true, true, true, true, true, true, true, true, true, true, false, false, false, false, false, false, false, false] rfl rfl (by kernel_rfl) (fun _ _ _ h => h) (Or.inl ⟨by rfl, ?_⟩) ?_ ?_
    rotate_left
    ·intro w'
     go_simp
     with_reducible rfl
    rotate_left
    ·simp only [Act.put, Lt, Lz, Ls, i64_w, i32_w]
     rfl
    refine take_ (i := 19) (N := some 93) (v := ?_) (a' := ?_) #[true, true, true, true, true, true, true, true, true, true, true, true, true, true, true, true, true, true, true, true, false, false, false, false, false, false, false] rfl rfl (by kernel_rfl) (fun _ _ _ h => h) (Or.inl ⟨by rfl, ?_⟩) hHeld ?_ ?_
    rotate_left
    ·rintro w' ⟨s0, s1, s2, s3⟩
     first | (refine Eq.trans (load_run s0 2 rfl 26 _ (by rfl) (by rfl) _ Tryz.underlying26 rfl (by kernel_rfl)) ?_; with_reducible rfl) | (refine Eq.trans (load_run s1 2 rfl 26 _ (by rfl) (by rfl) _ Tryz.underlying26 rfl (by kernel_rfl)) ?_; with_reducible rfl) | (refine Eq.trans (load_run s2 2 rfl 26 _ (by rfl) (by rfl) _ Tryz.underlying26 rfl (by kernel_rfl)) ?_; with_reducible rfl) | (refine Eq.trans (load_run s3 2 rfl 26 _ (by rfl) (by rfl) _ Tryz.underlying26 rfl (by kernel_rfl)) ?_; with_reducible rfl)
    rotate_left
    ·simp only [Act.put, Lt, Lz, Ls, i64_w, i32_w]
     rfl
    refine take_ (i := 20) (N := some 94) (v := ?_) (a' := ?_) #[true, true, true, true, true, true, true, true, true, true, true, true, true, true, true, true, true, true, true, true, true, false, false, false, false, false, false] rfl rfl (by kernel_rfl) (fun _ _ _ h => h) (Or.inl ⟨by rfl, ?_⟩) hHeld ?_ ?_
    rotate_left
    ·rintro w' ⟨s0, s1, s2, s3⟩
     first | (refine Eq.trans (load_run s0 2 rfl 26 _ (by rfl) (by rfl) _ Tryz.underlying26 rfl (by kernel_rfl)) ?_; with_reducible rfl) | (refine Eq.trans (load_run s1 2 rfl 26 _ (by rfl) (by rfl) _ Tryz.underlying26 rfl (by kernel_rfl)) ?_; with_reducible rfl) | (refine Eq.trans (load_run s2 2 rfl 26 _ (by rfl) (by rfl) _ Tryz.underlying26 rfl (by kernel_rfl)) ?_; with_reducible rfl) | (refine Eq.trans (load_run s3 2 rfl 26 _ (by rfl) (by rfl) _ Tryz.underlying26 rfl (by kernel_rfl)) ?_; with_reducible rfl)
    rotate_left
    ·simp only [Act.put, Lt, Lz, Ls, i64_w, i32_w]
     rfl
    refine take_ (i := 22) (N := some 96) (v := ?_) (a' := ?_) #[true, true, true, true, true, true, true, true, true, true, true, true, true, true, true, true, true, true, true, true, true, false, true, false, false, false, false] rfl rfl (by kernel_rfl) (fun _ _ _ h => h) (Or.inl ⟨by rfl, ?_⟩) hHeld ?_ ?_
    rotate_left
    ·rintro w' ⟨s0, s1, s2, s3⟩
     first | (refine Eq.trans (load_run s0 2 rfl 26 _ (by rfl) (by rfl) _ Tryz.underlying26 rfl (by kernel_rfl)) ?_; with_reducible rfl) | (refine Eq.trans (load_run s1 2 rfl 26 _ (by rfl) (by rfl) _ Tryz.underlying26 rfl (by kernel_rfl)) ?_; with_reducible rfl) | (refine Eq.trans (load_run s2 2 rfl 26 _ (by rfl) (by rfl) _ Tryz.underlying26 rfl (by kernel_rfl)) ?_; with_reducible rfl) | (refine Eq.trans (load_run s3 2 rfl 26 _ (by rfl) (by rfl) _ Tryz.underlying26 rfl (by kernel_rfl)) ?_; with_reducible rfl)
    rotate_left
    ·simp only [Act.put, Lt, Lz, Ls, i64_w, i32_w]
     rfl
    refine take_ (i := 23) (N := some 97) (v := ?_) (a' := ?_) #[true, true, true, true, true, true, true, true, true, true, true, true, true, true, true, true, true, true, true, true, true, false, true, true, false, false, false] rfl rfl (by kernel_rfl) (fun _ _ _ h => h) (Or.inl ⟨by rfl, ?_⟩) hHeld ?_ ?_
    rotate_left
    ·rintro w' ⟨s0, s1, s2, s3⟩
     first | (refine Eq.trans (load_run s0 2 rfl 26 _ (by rfl) (by rfl) _ Tryz.underlying26 rfl (by kernel_rfl)) ?_; with_reducible rfl) | (refine Eq.trans (load_run s1 2 rfl 26 _ (by rfl) (by rfl) _ Tryz.underlying26 rfl (by kernel_rfl)) ?_; with_reducible rfl) | (refine Eq.trans (load_run s2 2 rfl 26 _ (by rfl) (by rfl) _ Tryz.underlying26 rfl (by kernel_rfl)) ?_; with_reducible rfl) | (refine Eq.trans (load_run s3 2 rfl 26 _ (by rfl) (by rfl) _ Tryz.underlying26 rfl (by kernel_rfl)) ?_; with_reducible rfl)
    rotate_left
    ·simp only [Act.put, Lt, Lz, Ls, i64_w, i32_w]
     rfl
    refine one_ (i := 21) (N := some 95) #[true, true, true, true, true, true, true, true, true, true, true, true, true, true, true, true, true, true, true, true, true, true, true, true, false, false, false] rfl rfl (by kernel_rfl) (by decide) (fun K hK => ?_)
    refine goes_ Tryz.func9 (by kernel_rfl) rfl #[.agg #[.int .i64 r2, .slice A1_ r3.length c1_], .agg #[.int .i64 r4, .slice A2_ r5.length c2_]] (by rfl) rfl rfl (by (try simp only [List.map_toArray, List.map_cons, List.map_nil]); first | done | rfl) ?_
    (refine (impl_SameAttr.calls K37 r2 A1_ c1_ r3 r4 A2_ c2_ r5 r33 w58 (Rr X1.out).2.2 (Rr X1.out).2.1 (Rr X2.out).2.2 (Rr X2.out).2.1 H37.out).mono ?_)
    rintro e w59 ⟨rfl, hb⟩
    refine ⟨_, rfl, ?_⟩
    have Z59 : Ad (w58.heap.size ≤ w59.heap.size) := ⟨hb.size⟩
    replace X1 := Am (Rb X1.out hb)
    replace X2 := Am (Rb X2.out hb)
    replace X14 := Am (Rb X14.out hb)
    replace X15 := Am (Rb X15.out hb)
    replace BX1 := Am (Kb BX1.out hb)
    replace BX2 := Am (Kb BX2.out hb)
    replace BX14 := Am (Kb BX14.out hb)
    replace BX15 := Am (Kb BX15.out hb)
    replace HB := Am (Bh HB.out HB.out.size hb)
    clear hb
    refine hK.out _ _ ⟨BX1.out, BX2.out, BX14.out, BX15.out⟩ (fun hHeld => ?_)
    clear hK K
    refine norm_ (a' := ?_) ?_ ?_
    rotate_left
    ·show Act.put _ (some 95) _ = _
     simp only [Act.put, Lt, Lz, Ls, i64_w, i32_w]
     rfl
    obtain ⟨⟨K39, h39⟩, hF⟩ := HF.out
    clear HF
    have HF := Am hF
    clear hF
    have H39 := Am h39
    clear h39
    refine one_ (i := 24) (N := some 98) #[true, true, true, true, true, true, true, true, true, true, true, true, true, true, true, true, true, true, true, true, true, true, true, true, true, false, false] rfl rfl (by kernel_rfl) (by decide) (fun K hK => ?_)
    refine goes_ Tryz.func8 (by kernel_rfl) rfl #[.agg #[.int .i64 r2, .slice A1_ r3.length c1_], .agg #[.int .i64 r4, .slice A2_ r5.length c2_]] (by rfl) rfl rfl (by (try simp only [List.map_toArray, List.map_cons, List.map_nil]); first | done | rfl) ?_
    (refine (laws_sameAttr.calls K39 r2 A1_ c1_ r3 r4 A2_ c2_ r5 r33 w59 (Rr X1.out).2.2 (Rr X1.out).2.1 (Rr X2.out).2.2 (Rr X2.out).2.1 H39.out).mono ?_)
    rintro e w60 ⟨rfl, hb⟩
    refine ⟨_, rfl, ?_⟩
    have Z60 : Ad (w59.heap.size ≤ w60.heap.size) := ⟨hb.size⟩
    replace X1 := Am (Rb X1.out hb)
    replace X2 := Am (Rb X2.out hb)
    replace X14 := Am (Rb X14.out hb)
    replace X15 := Am (Rb X15.out hb)
    replace BX1 := Am (Kb BX1.out hb)
    replace BX2 := Am (Kb BX2.out hb)
    replace BX14 := Am (Kb BX14.out hb)
    replace BX15 := Am (Kb BX15.out hb)
    replace HB := Am (Bh HB.out HB.out.size hb)
    clear hb
    refine hK.out _ _ ⟨BX1.out, BX2.out, BX14.out, BX15.out⟩ (fun hHeld => ?_)
    clear hK K
    refine norm_ (a' := ?_) ?_ ?_
    rotate_left
    ·show Act.put _ (some 98) _ = _
     simp only [Act.put, Lt, Lz, Ls, i64_w, i32_w]
     rfl
    refine pure_ (i := 25) (N := some 99) (v := ?_) (a' := ?_) #[true, true, true, true, true, true, true, true, true, true, true, true, true, true, true, true, true, true, true, true, true, true, true, true, true, true, false] rfl rfl (by kernel_rfl) (fun _ _ _ h => h) (Or.inl ⟨by rfl, ?_⟩) ?_ ?_
    rotate_left
    ·intro w'
     go_simp
     with_reducible rfl
    rotate_left
    ·simp only [Act.put, Lt, Lz, Ls, i64_w, i32_w]
     rfl
    refine pure_ (i := 26) (N := some 100) (v := ?_) (a' := ?_) #[true, true, true, true, true, true, true, true, true, true, true, true, true, true, true, true, true, true, true, true, true, true, true, true, true, true, true] rfl rfl (by kernel_rfl) (fun _ _ _ h => h) (Or.inl ⟨by rfl, ?_⟩) ?_ ?_
    rotate_left
    ·intro w'
     go_simp
     with_reducible rfl
    rotate_left
    ·simp only [Act.put, Lt, Lz, Ls, i64_w, i32_w]
     rfl
    refine done_ (by kernel_rfl) ?_
    as_aux_lemma =>
     obtain ⟨r34, r35, r36, ⟨K40, h40⟩, hF⟩ := HF.out
     clear HF
     have HF := Am hF
     clear hF
     have H40 := Am h40
     clear h40
     go_wp2_with fail
     (refine (spec_DrawAttrText.calls K40 A1 c1 l1 r34 r35 r36 w60 (Cb HR1.out HB.out) HC1.out H40.out).mono ?_)
     rintro e w61 ⟨v2_, rfl, hS0, hb⟩
     have X16 : Ad (Kd.R (Kd.int .i64) 3 w61 w.heap.size (fun k => w60.heap.size ≤ k ∧ k < w61.heap.size) v2_ r36) := ⟨Rm (Kd.R_lower (Ro hS0) HB.out.size) (fun k hk => ⟨hk.2.1, hk.2.2.1⟩)⟩
     have Z61 : Ad (w60.heap.size ≤ w61.heap.size) := ⟨hb.size⟩
     replace X1 := Am (Rb X1.out hb)
     replace X2 := Am (Rb X2.out hb)
     replace X14 := Am (Rb X14.out hb)
     replace X15 := Am (Rb X15.out hb)
     replace BX1 := Am (Kb BX1.out hb)
     replace BX2 := Am (Kb BX2.out hb)
     replace BX14 := Am (Kb BX14.out hb)
     replace BX15 := Am (Kb BX15.out hb)
     replace HB := Am (Bh HB.out HB.out.size hb)
     clear hb hS0
     obtain ⟨A16_, c16_, rfl⟩ := Rs X16.out
     obtain ⟨r37, r38, ⟨K41, h41⟩, hF⟩ := HF.out
     clear HF
     have HF := Am hF
     clear hF
     have H41 := Am h41
     clear h41
     go_upto_region 25 with (fail)
     refine letC (fun W_ => Below w61.heap.size w61 W_ ∧ W_.heap[w61.heap.size]? = some (.cells #[.int .i64 r35, .slice A16_ r36.length c16_] 26 (0, 0))) ?_ ?_
     ·refine ⟨?_, ?_⟩
      ·repeat (first | exact Below.refl _ _ | apply Ba | refine Bs ?_ (by first | exact Nat.le_refl _ | omega | (simp; done)))
      ·exact blk_new w61 (.cells #[.int .i64 r35, .slice A16_ r36.length c16_] 26)
     intro w62 hq_
     obtain ⟨hb, hx0_⟩ := hq_
     have Z62 : Ad (w61.heap.size ≤ w62.heap.size) := ⟨hb.size⟩
     replace X1 := Am (Rb X1.out hb)
     replace X2 := Am (Rb X2.out hb)
     replace X14 := Am (Rb X14.out hb)
     replace X15 := Am (Rb X15.out hb)
     replace X16 := Am (Rb X16.out hb)
     replace BX1 := Am (Kb BX1.out hb)
     replace BX2 := Am (Kb BX2.out hb)
     replace BX14 := Am (Kb BX14.out hb)
     replace BX15 := Am (Kb BX15.out hb)
     replace HB := Am (Bh HB.out HB.out.size hb)
     clear hb
     have BX16 : Ad (w62.heap[w61.heap.size]? = some (.cells #[.int .i64 r35, .slice A16_ r36.length c16_] 26 (0, 0))) := ⟨hx0_⟩
     clear hx0_
     have GBX16 : Ad (w61.heap.size < w62.heap.size) := ⟨Kl BX16.out⟩
     go_wp2_with (first | ((refine Gd (N := 192) rfl ?_); first | refine Er rfl (load_run BX16.out 2 rfl 26 _ (by rfl) (by rfl) _ Tryz.underlying26 rfl (by kernel_rfl)) ?_))
     (refine (impl_AttrText.calls K41 r34 r35 A16_ c16_ r36 r37 r38 w62 (Rr X16.out).2.2 (Rr X16.out).2.1 H41.out (EnvT.below HTw.out (by repeat (first | exact HB.out | apply Ba | apply Bn | apply Bd)))).mono ?_)
     rintro e w63 ⟨rfl, hb⟩
     have Z63 : Ad (w62.heap.size ≤ w63.heap.size) := ⟨hb.size⟩
     replace X1 := Am (Rb X1.out hb)
     replace X2 := Am (Rb X2.out hb)
     replace X14 := Am (Rb X14.out hb)
     replace X15 := Am (Rb X15.out hb)
     replace X16 := Am (Rb X16.out hb)
     replace BX1 := Am (Kb BX1.out hb)
     replace BX2 := Am (Kb BX2.out hb)
     replace BX14 := Am (Kb BX14.out hb)
     replace BX15 := Am (Kb BX15.out hb)
     replace BX16 := Am (Kb BX16.out hb)
     replace HB := Am (Bh HB.out HB.out.size hb)
     clear hb
     obtain ⟨⟨K42, h42⟩, hF⟩ := HF.out
     clear HF
     have HF := Am hF
     clear hF
     have H42 := Am h42
     clear h42
     go_wp2_with (first | ((refine Gd (N := 198) rfl ?_); first | refine Er rfl (load_run BX16.out 2 rfl 26 _ (by rfl) (by rfl) _ Tryz.underlying26 rfl (by kernel_rfl)) ?_))
     (refine (spec_AttrText.calls K42 r34 r35 A16_ c16_ r36 r37 r38 w63 (Rr X16.out).2.2 (Rr X16.out).2.1 H42.out).mono ?_)
     rintro e w64 ⟨rfl, hb⟩
     have Z64 : Ad (w63.heap.size ≤ w64.heap.size) := ⟨hb.size⟩
     replace X1 := Am (Rb X1.out hb)
     replace X2 := Am (Rb X2.out hb)
     replace X14 := Am (Rb X14.out hb)
     replace X15 := Am (Rb X15.out hb)
     replace X16 := Am (Rb X16.out hb)
     replace BX1 := Am (Kb BX1.out hb)
     replace BX2 := Am (Kb BX2.out hb)
     replace BX14 := Am (Kb BX14.out hb)
     replace BX15 := Am (Kb BX15.out hb)
     replace BX16 := Am (Kb BX16.out hb)
     replace HB := Am (Bh HB.out HB.out.size hb)
     clear hb
     obtain ⟨r39, r40, ⟨K43, h43⟩, hF⟩ := HF.out
     clear HF
     have HF := Am hF
     clear hF
     have H43 := Am h43
     clear h43
     go_wp2_with fail
     (refine (spec_DrawReadAttr.calls K43 A1 c1 l1 r39 r40 w64 (Cb HR1.out HB.out) HC1.out H43.out).mono ?_)
     rintro e w65 ⟨rfl, hb⟩
     have Z65 : Ad (w64.heap.size ≤ w65.heap.size) := ⟨hb.size⟩
     replace X1 := Am (Rb X1.out hb)
     replace X2 := Am (Rb X2.out hb)
     replace X14 := Am (Rb X14.out hb)
     replace X15 := Am (Rb X15.out hb)
     replace X16 := Am (Rb X16.out hb)
     replace BX1 := Am (Kb BX1.out hb)
     replace BX2 := Am (Kb BX2.out hb)
     replace BX14 := Am (Kb BX14.out hb)
     replace BX15 := Am (Kb BX15.out hb)
     replace BX16 := Am (Kb BX16.out hb)
     replace HB := Am (Bh HB.out HB.out.size hb)
     clear hb
     obtain ⟨r41, r42, r43, ⟨K44, h44⟩, hF⟩ := HF.out
     clear HF
     have HF := Am hF
     clear hF
     have H44 := Am h44
     clear h44
     go_wp2_with fail
     (refine (impl_ReadAttr.calls K44 r39 r40 r41 r42 r43 w65 H44.out (EnvM.below HMw.out (by repeat (first | exact HB.out | apply Ba | apply Bn | apply Bd)))).mono ?_)
     rintro e w66 ⟨v1_, rfl, hS0, hb⟩
     have X17 : Ad (Kd.R (Kd.int .i64) 3 w66 w.heap.size (fun k => w65.heap.size ≤ k ∧ k < w66.heap.size) v1_ r42) := ⟨Rm (Kd.R_lower (Ro hS0) HB.out.size) (fun k hk => ⟨hk.2.1, hk.2.2.1⟩)⟩
     have Z66 : Ad (w65.heap.size ≤ w66.heap.size) := ⟨hb.size⟩
     replace X1 := Am (Rb X1.out hb)
     replace X2 := Am (Rb X2.out hb)
     replace X14 := Am (Rb X14.out hb)
     replace X15 := Am (Rb X15.out hb)
     replace X16 := Am (Rb X16.out hb)
     replace BX1 := Am (Kb BX1.out hb)
     replace BX2 := Am (Kb BX2.out hb)
     replace BX14 := Am (Kb BX14.out hb)
     replace BX15 := Am (Kb BX15.out hb)
     replace BX16 := Am (Kb BX16.out hb)
     replace HB := Am (Bh HB.out HB.out.size hb)
     clear hb hS0
     obtain ⟨A17_, c17_, rfl⟩ := Rs X17.out
     obtain ⟨⟨K45, h45⟩, hF⟩ := HF.out
     clear HF
     have HF := Am hF
     clear hF
     have H45 := Am h45
     clear h45
     go_upto_region 29 with (fail)
     refine letC (fun W_ => Below w66.heap.size w66 W_ ∧ W_.heap[w66.heap.size]? = some (.cells #[.int .i64 r41, .slice A17_ r42.length c17_] 26 (0, 0))) ?_ ?_
     ·refine ⟨?_, ?_⟩
      ·repeat (first | exact Below.refl _ _ | apply Ba | refine Bs ?_ (by first | exact Nat.le_refl _ | omega | (simp; done)))
      ·exact blk_new w66 (.cells #[.int .i64 r41, .slice A17_ r42.length c17_] 26)
     intro w67 hq_
     obtain ⟨hb, hx0_⟩ := hq_
     have Z67 : Ad (w66.heap.size ≤ w67.heap.size) := ⟨hb.size⟩
     replace X1 := Am (Rb X1.out hb)
     replace X2 := Am (Rb X2.out hb)
     replace X14 := Am (Rb X14.out hb)
     replace X15 := Am (Rb X15.out hb)
     replace X16 := Am (Rb X16.out hb)
     replace X17 := Am (Rb X17.out hb)
     replace BX1 := Am (Kb BX1.out hb)
     replace BX2 := Am (Kb BX2.out hb)
     replace BX14 := Am (Kb BX14.out hb)
     replace BX15 := Am (Kb BX15.out hb)
     replace BX16 := Am (Kb BX16.out hb)
     replace HB := Am (Bh HB.out HB.out.size hb)
     clear hb
     have BX17 : Ad (w67.heap[w66.heap.size]? = some (.cells #[.int .i64 r41, .slice A17_ r42.length c17_] 26 (0, 0))) := ⟨hx0_⟩
     clear hx0_
     have GBX17 : Ad (w66.heap.size < w67.heap.size) := ⟨Kl BX17.out⟩
     go_wp2_with fail
     (refine (spec_ReadAttr.calls K45 r39 r40 r41 r42 r43 w67 H45.out).mono ?_)
     rintro e w68 ⟨v1_, rfl, hS0, hb⟩
     have X18 : Ad (Kd.R (Kd.int .i64) 3 w68 w.heap.size (fun k => w67.heap.size ≤ k ∧ k < w68.heap.size) v1_ r42) := ⟨Rm (Kd.R_lower (Ro hS0) HB.out.size) (fun k hk => ⟨hk.2.1, hk.2.2.1⟩)⟩
     have Z68 : Ad (w67.heap.size ≤ w68.heap.size) := ⟨hb.size⟩
     replace X1 := Am (Rb X1.out hb)
     replace X2 := Am (Rb X2.out hb)
     replace X14 := Am (Rb X14.out hb)
     replace X15 := Am (Rb X15.out hb)
     replace X16 := Am (Rb X16.out hb)
     replace X17 := Am (Rb X17.out hb)
     replace BX1 := Am (Kb BX1.out hb)
     replace BX2 := Am (Kb BX2.out hb)
     replace BX14 := Am (Kb BX14.out hb)
     replace BX15 := Am (Kb BX15.out hb)
     replace BX16 := Am (Kb BX16.out hb)
     replace BX17 := Am (Kb BX17.out hb)
     replace HB := Am (Bh HB.out HB.out.size hb)
     clear hb hS0
     obtain ⟨A18_, c18_, rfl⟩ := Rs X18.out
     obtain ⟨r44, h46, hF⟩ := HF.out
     clear HF
     have HF := Am hF
     clear hF
     have H46 := Am h46
     clear h46
     go_upto_region 30 with (fail)
     refine letC (fun W_ => Below w68.heap.size w68 W_ ∧ W_.heap[w68.heap.size]? = some (.cells #[.int .i64 r41, .slice A18_ r42.length c18_] 26 (0, 0))) ?_ ?_
     ·refine ⟨?_, ?_⟩
      ·repeat (first | exact Below.refl _ _ | apply Ba | refine Bs ?_ (by first | exact Nat.le_refl _ | omega | (simp; done)))
      ·exact blk_new w68 (.cells #[.int .i64 r41, .slice A18_ r42.length c18_] 26)
     intro w69 hq_
     obtain ⟨hb, hx0_⟩ := hq_
     have Z69 : Ad (w68.heap.size ≤ w69.heap.size) := ⟨hb.size⟩
     replace X1 := Am (Rb X1.out hb)
     replace X2 := Am (Rb X2.out hb)
     replace X14 := Am (Rb X14.out hb)
     replace X15 := Am (Rb X15.out hb)
     replace X16 := Am (Rb X16.out hb)
     replace X17 := Am (Rb X17.out hb)
     replace X18 := Am (Rb X18.out hb)
     replace BX1 := Am (Kb BX1.out hb)
     replace BX2 := Am (Kb BX2.out hb)
     replace BX14 := Am (Kb BX14.out hb)
     replace BX15 := Am (Kb BX15.out hb)
     replace BX16 := Am (Kb BX16.out hb)
     replace BX17 := Am (Kb BX17.out hb)
     replace HB := Am (Bh HB.out HB.out.size hb)
     clear hb
     have BX18 : Ad (w69.heap[w68.heap.size]? = some (.cells #[.int .i64 r41, .slice A18_ r42.length c18_] 26 (0, 0))) := ⟨hx0_⟩
     clear hx0_
     have GBX18 : Ad (w68.heap.size < w69.heap.size) := ⟨Kl BX18.out⟩
     go_wp2_with fail
     (refine (spec_DrawNoneAttr.calls A1 c1 l1 r44 w69 (Cb HR1.out HB.out) HC1.out H46.out).mono ?_)
     rintro e w70 ⟨rfl, hb⟩
     have Z70 : Ad (w69.heap.size ≤ w70.heap.size) := ⟨hb.size⟩
     replace X1 := Am (Rb X1.out hb)
     replace X2 := Am (Rb X2.out hb)
     replace X14 := Am (Rb X14.out hb)
     replace X15 := Am (Rb X15.out hb)
     replace X16 := Am (Rb X16.out hb)
     replace X17 := Am (Rb X17.out hb)
     replace X18 := Am (Rb X18.out hb)
     replace BX1 := Am (Kb BX1.out hb)
     replace BX2 := Am (Kb BX2.out hb)
     replace BX14 := Am (Kb BX14.out hb)
     replace BX15 := Am (Kb BX15.out hb)
     replace BX16 := Am (Kb BX16.out hb)
     replace BX17 := Am (Kb BX17.out hb)
     replace BX18 := Am (Kb BX18.out hb)
     replace HB := Am (Bh HB.out HB.out.size hb)
     clear hb
     obtain ⟨r45, r46, r47, h47, hF⟩ := HF.out
     clear HF
     have HF := Am hF
     clear hF
     have H47 := Am h47
     clear h47
     go_wp2_with fail
     (refine (impl_NoneAttr.calls r44 r45 r46 r47 w70 H47.out).mono ?_)
     rintro e w71 ⟨v1_, rfl, hS0, hb⟩
     have X19 : Ad (Kd.R (Kd.int .i64) 3 w71 w.heap.size (fun k => w70.heap.size ≤ k ∧ k < w71.heap.size) v1_ r46) := ⟨Rm (Kd.R_lower (Ro hS0) HB.out.size) (fun k hk => ⟨hk.2.1, hk.2.2.1⟩)⟩
     have Z71 : Ad (w70.heap.size ≤ w71.heap.size) := ⟨hb.size⟩
     replace X1 := Am (Rb X1.out hb)
     replace X2 := Am (Rb X2.out hb)
     replace X14 := Am (Rb X14.out hb)
     replace X15 := Am (Rb X15.out hb)
     replace X16 := Am (Rb X16.out hb)
     replace X17 := Am (Rb X17.out hb)
     replace X18 := Am (Rb X18.out hb)
     replace BX1 := Am (Kb BX1.out hb)
     replace BX2 := Am (Kb BX2.out hb)
     replace BX14 := Am (Kb BX14.out hb)
     replace BX15 := Am (Kb BX15.out hb)
     replace BX16 := Am (Kb BX16.out hb)
     replace BX17 := Am (Kb BX17.out hb)
     replace BX18 := Am (Kb BX18.out hb)
     replace HB := Am (Bh HB.out HB.out.size hb)
     clear hb hS0
     obtain ⟨A19_, c19_, rfl⟩ := Rs X19.out
     obtain ⟨h48, hF⟩ := HF.out
     clear HF
     have HF := Am hF
     clear hF
     have H48 := Am h48
     clear h48
     go_upto_region 32 with (fail)
     refine letC (fun W_ => Below w71.heap.size w71 W_ ∧ W_.heap[w71.heap.size]? = some (.cells #[.int .i64 r45, .slice A19_ r46.length c19_] 26 (0, 0))) ?_ ?_
     ·refine ⟨?_, ?_⟩
      ·repeat (first | exact Below.refl _ _ | apply Ba | refine Bs ?_ (by first | exact Nat.le_refl _ | omega | (simp; done)))
      ·exact blk_new w71 (.cells #[.int .i64 r45, .slice A19_ r46.length c19_] 26)
     intro w72 hq_
     obtain ⟨hb, hx0_⟩ := hq_
     have Z72 : Ad (w71.heap.size ≤ w72.heap.size) := ⟨hb.size⟩
     replace X1 := Am (Rb X1.out hb)
     replace X2 := Am (Rb X2.out hb)
     replace X14 := Am (Rb X14.out hb)
     replace X15 := Am (Rb X15.out hb)
     replace X16 := Am (Rb X16.out hb)
     replace X17 := Am (Rb X17.out hb)
     replace X18 := Am (Rb X18.out hb)
     replace X19 := Am (Rb X19.out hb)
     replace BX1 := Am (Kb BX1.out hb)
     replace BX2 := Am (Kb BX2.out hb)
     replace BX14 := Am (Kb BX14.out hb)
     replace BX15 := Am (Kb BX15.out hb)
     replace BX16 := Am (Kb BX16.out hb)
     replace BX17 := Am (Kb BX17.out hb)
     replace BX18 := Am (Kb BX18.out hb)
     replace HB := Am (Bh HB.out HB.out.size hb)
     clear hb
     have BX19 : Ad (w72.heap[w71.heap.size]? = some (.cells #[.int .i64 r45, .slice A19_ r46.length c19_] 26 (0, 0))) := ⟨hx0_⟩
     clear hx0_
     have GBX19 : Ad (w71.heap.size < w72.heap.size) := ⟨Kl BX19.out⟩
     go_wp2_with fail
     (refine (spec_NoneAttr.calls r44 r45 r46 r47 w72 H48.out).mono ?_)
     rintro e w73 ⟨v1_, rfl, hS0, hb⟩
     have X20 : Ad (Kd.R (Kd.int .i64) 3 w73 w.heap.size (fun k => w72.heap.size ≤ k ∧ k < w73.heap.size) v1_ r46) := ⟨Rm (Kd.R_lower (Ro hS0) HB.out.size) (fun k hk => ⟨hk.2.1, hk.2.2.1⟩)⟩
     have Z73 : Ad (w72.heap.size ≤ w73.heap.size) := ⟨hb.size⟩
     replace X1 := Am (Rb X1.out hb)
     replace X2 := Am (Rb X2.out hb)
     replace X14 := Am (Rb X14.out hb)
     replace X15 := Am (Rb X15.out hb)
     replace X16 := Am (Rb X16.out hb)
     replace X17 := Am (Rb X17.out hb)
     replace X18 := Am (Rb X18.out hb)
     replace X19 := Am (Rb X19.out hb)
     replace BX1 := Am (Kb BX1.out hb)
     replace BX2 := Am (Kb BX2.out hb)
     replace BX14 := Am (Kb BX14.out hb)
     replace BX15 := Am (Kb BX15.out hb)
     replace BX16 := Am (Kb BX16.out hb)
     replace BX17 := Am (Kb BX17.out hb)
     replace BX18 := Am (Kb BX18.out hb)
     replace BX19 := Am (Kb BX19.out hb)
     replace HB := Am (Bh HB.out HB.out.size hb)
     clear hb hS0
     obtain ⟨A20_, c20_, rfl⟩ := Rs X20.out
     obtain ⟨r48, r49, r50, r51, r52, ⟨K49, h49⟩, hF⟩ := HF.out
     clear HF
     have HF := Am hF
     clear hF
     have H49 := Am h49
     clear h49
     go_upto_region 33 with (fail)
     refine letC (fun W_ => Below w73.heap.size w73 W_ ∧ W_.heap[w73.heap.size]? = some (.cells #[.int .i64 r45, .slice A20_ r46.length c20_] 26 (0, 0))) ?_ ?_
     ·refine ⟨?_, ?_⟩
      ·repeat (first | exact Below.refl _ _ | apply Ba | refine Bs ?_ (by first | exact Nat.le_refl _ | omega | (simp; done)))
      ·exact blk_new w73 (.cells #[.int .i64 r45, .slice A20_ r46.length c20_] 26)
     intro w74 hq_
     obtain ⟨hb, hx0_⟩ := hq_
     have Z74 : Ad (w73.heap.size ≤ w74.heap.size) := ⟨hb.size⟩
     replace X1 := Am (Rb X1.out hb)
     replace X2 := Am (Rb X2.out hb)
     replace X14 := Am (Rb X14.out hb)
     replace X15 := Am (Rb X15.out hb)
     replace X16 := Am (Rb X16.out hb)
     replace X17 := Am (Rb X17.out hb)
     replace X18 := Am (Rb X18.out hb)
     replace X19 := Am (Rb X19.out hb)
     replace X20 := Am (Rb X20.out hb)
     replace BX1 := Am (Kb BX1.out hb)
     replace BX2 := Am (Kb BX2.out hb)
     replace BX14 := Am (Kb BX14.out hb)
     replace BX15 := Am (Kb BX15.out hb)
     replace BX16 := Am (Kb BX16.out hb)
     replace BX17 := Am (Kb BX17.out hb)
     replace BX18 := Am (Kb BX18.out hb)
     replace BX19 := Am (Kb BX19.out hb)
     replace HB := Am (Bh HB.out HB.out.size hb)
     clear hb
     have BX20 : Ad (w74.heap[w73.heap.size]? = some (.cells #[.int .i64 r45, .slice A20_ r46.length c20_] 26 (0, 0))) := ⟨hx0_⟩
     clear hx0_
     have GBX20 : Ad (w73.heap.size < w74.heap.size) := ⟨Kl BX20.out⟩
     go_wp2_with fail
     (refine (spec_DrawHangsOn.calls K49 A1 c1 l1 r48 r49 r50 r51 r52 w74 (Cb HR1.out HB.out) HC1.out H49.out).mono ?_)
     rintro e w75 ⟨v0_, rfl, hS0, hb⟩
     have X21 : Ad (Kd.R (Kd.int .i64) 3 w75 w.heap.size (fun k => w74.heap.size ≤ k ∧ k < w75.heap.size) v0_ r50) := ⟨Rm (Kd.R_lower (Ro hS0) HB.out.size) (fun k hk => ⟨hk.2.1, hk.2.2.1⟩)⟩
     have Z75 : Ad (w74.heap.size ≤ w75.heap.size) := ⟨hb.size⟩
     replace X1 := Am (Rb X1.out hb)
     replace X2 := Am (Rb X2.out hb)
     replace X14 := Am (Rb X14.out hb)
     replace X15 := Am (Rb X15.out hb)
     replace X16 := Am (Rb X16.out hb)
     replace X17 := Am (Rb X17.out hb)
     replace X18 := Am (Rb X18.out hb)
     replace X19 := Am (Rb X19.out hb)
     replace X20 := Am (Rb X20.out hb)
     replace BX1 := Am (Kb BX1.out hb)
     replace BX2 := Am (Kb BX2.out hb)
     replace BX14 := Am (Kb BX14.out hb)
     replace BX15 := Am (Kb BX15.out hb)
     replace BX16 := Am (Kb BX16.out hb)
     replace BX17 := Am (Kb BX17.out hb)
     replace BX18 := Am (Kb BX18.out hb)
     replace BX19 := Am (Kb BX19.out hb)
     replace BX20 := Am (Kb BX20.out hb)
     replace HB := Am (Bh HB.out HB.out.size hb)
     clear hb hS0
     obtain ⟨A21_, c21_, rfl⟩ := Rs X21.out
     obtain ⟨r53, r54, h50, hF⟩ := HF.out
     clear HF
     have HF := Am hF
     clear hF
     have H50 := Am h50
     clear h50
     go_upto_region 34 with (fail)
     refine letC (fun W_ => Below w75.heap.size w75 W_ ∧ W_.heap[w75.heap.size]? = some (.cells #[.int .i64 r49, .slice A21_ r50.length c21_] 26 (0, 0))) ?_ ?_
     ·refine ⟨?_, ?_⟩
      ·repeat (first | exact Below.refl _ _ | apply Ba | refine Bs ?_ (by first | exact Nat.le_refl _ | omega | (simp; done)))
      ·exact blk_new w75 (.cells #[.int .i64 r49, .slice A21_ r50.length c21_] 26)
     intro w76 hq_
     obtain ⟨hb, hx0_⟩ := hq_
     have Z76 : Ad (w75.heap.size ≤ w76.heap.size) := ⟨hb.size⟩
     replace X1 := Am (Rb X1.out hb)
     replace X2 := Am (Rb X2.out hb)
     replace X14 := Am (Rb X14.out hb)
     replace X15 := Am (Rb X15.out hb)
     replace X16 := Am (Rb X16.out hb)
     replace X17 := Am (Rb X17.out hb)
     replace X18 := Am (Rb X18.out hb)
     replace X19 := Am (Rb X19.out hb)
     replace X20 := Am (Rb X20.out hb)
     replace X21 := Am (Rb X21.out hb)
     replace BX1 := Am (Kb BX1.out hb)
     replace BX2 := Am (Kb BX2.out hb)
     replace BX14 := Am (Kb BX14.out hb)
     replace BX15 := Am (Kb BX15.out hb)
     replace BX16 := Am (Kb BX16.out hb)
     replace BX17 := Am (Kb BX17.out hb)
     replace BX18 := Am (Kb BX18.out hb)
     replace BX19 := Am (Kb BX19.out hb)
     replace BX20 := Am (Kb BX20.out hb)
     replace HB := Am (Bh HB.out HB.out.size hb)
     clear hb
     have BX21 : Ad (w76.heap[w75.heap.size]? = some (.cells #[.int .i64 r49, .slice A21_ r50.length c21_] 26 (0, 0))) := ⟨hx0_⟩
     clear hx0_
     have GBX21 : Ad (w75.heap.size < w76.heap.size) := ⟨Kl BX21.out⟩
     go_wp2_with (first | ((refine Gd (N := 240) rfl ?_); first | refine Er rfl (load_run BX21.out 2 rfl 26 _ (by rfl) (by rfl) _ Tryz.underlying26 rfl (by kernel_rfl)) ?_))
     (refine (impl_HangsOn.calls r48 r49 A21_ c21_ r50 r51 r52 r53 r54 w76 (Rr X21.out).2.2 (Rr X21.out).2.1 H50.out).mono ?_)
     rintro e w77 ⟨rfl, hb⟩
     have Z77 : Ad (w76.heap.size ≤ w77.heap.size) := ⟨hb.size⟩
     replace X1 := Am (Rb X1.out hb)
     replace X2 := Am (Rb X2.out hb)
     replace X14 := Am (Rb X14.out hb)
     replace X15 := Am (Rb X15.out hb)
     replace X16 := Am (Rb X16.out hb)
     replace X17 := Am (Rb X17.out hb)
     replace X18 := Am (Rb X18.out hb)
     replace X19 := Am (Rb X19.out hb)
     replace X20 := Am (Rb X20.out hb)
     replace X21 := Am (Rb X21.out hb)
     replace BX1 := Am (Kb BX1.out hb)
     replace BX2 := Am (Kb BX2.out hb)
     replace BX14 := Am (Kb BX14.out hb)
     replace BX15 := Am (Kb BX15.out hb)
     replace BX16 := Am (Kb BX16.out hb)
     replace BX17 := Am (Kb BX17.out hb)
     replace BX18 := Am (Kb BX18.out hb)
     replace BX19 := Am (Kb BX19.out hb)
     replace BX20 := Am (Kb BX20.out hb)
     replace BX21 := Am (Kb BX21.out hb)
     replace HB := Am (Bh HB.out HB.out.size hb)
     clear hb
     obtain ⟨⟨K51, h51⟩, hF⟩ := HF.out
     clear HF
     have HF := Am hF
     clear hF
     have H51 := Am h51
     clear h51
     go_wp2_with (first | ((refine Gd (N := 248) rfl ?_); first | refine Er rfl (load_run BX21.out 2 rfl 26 _ (by rfl) (by rfl) _ Tryz.underlying26 rfl (by kernel_rfl)) ?_))
     (refine (spec_HangsOn.calls K51 r48 r49 A21_ c21_ r50 r51 r52 r53 r54 w77 (Rr X21.out).2.2 (Rr X21.out).2.1 H51.out).mono ?_)
     rintro e w78 ⟨rfl, hb⟩
     have Z78 : Ad (w77.heap.size ≤ w78.heap.size) := ⟨hb.size⟩
     replace X1 := Am (Rb X1.out hb)
     replace X2 := Am (Rb X2.out hb)
     replace X14 := Am (Rb X14.out hb)
     replace X15 := Am (Rb X15.out hb)
     replace X16 := Am (Rb X16.out hb)
     replace X17 := Am (Rb X17.out hb)
     replace X18 := Am (Rb X18.out hb)
     replace X19 := Am (Rb X19.out hb)
     replace X20 := Am (Rb X20.out hb)
     replace X21 := Am (Rb X21.out hb)
     replace BX1 := Am (Kb BX1.out hb)
     replace BX2 := Am (Kb BX2.out hb)
     replace BX14 := Am (Kb BX14.out hb)
     replace BX15 := Am (Kb BX15.out hb)
     replace BX16 := Am (Kb BX16.out hb)
     replace BX17 := Am (Kb BX17.out hb)
     replace BX18 := Am (Kb BX18.out hb)
     replace BX19 := Am (Kb BX19.out hb)
     replace BX20 := Am (Kb BX20.out hb)
     replace BX21 := Am (Kb BX21.out hb)
     replace HB := Am (Bh HB.out HB.out.size hb)
     clear hb
     obtain ⟨⟨K52, h52⟩, hF⟩ := HF.out
     clear HF
     have HF := Am hF
     clear hF
     have H52 := Am h52
     clear h52
     have qBX16_0 : w78.cell? ⟨w61.heap.size, 0, none⟩ = some (.int .i64 r35) := (Kc BX16.out 0).trans rfl
     have qBX16_1 : w78.cell? ⟨w61.heap.size, 1, none⟩ = some (.slice A16_ r36.length c16_) := (Kc BX16.out 1).trans rfl
     have qBX17_0 : w78.cell? ⟨w66.heap.size, 0, none⟩ = some (.int .i64 r41) := (Kc BX17.out 0).trans rfl
     have qBX17_1 : w78.cell? ⟨w66.heap.size, 1, none⟩ = some (.slice A17_ r42.length c17_) := (Kc BX17.out 1).trans rfl
     have qBX18_0 : w78.cell? ⟨w68.heap.size, 0, none⟩ = some (.int .i64 r41) := (Kc BX18.out 0).trans rfl
     have qBX18_1 : w78.cell? ⟨w68.heap.size, 1, none⟩ = some (.slice A18_ r42.length c18_) := (Kc BX18.out 1).trans rfl
     have qBX19_0 : w78.cell? ⟨w71.heap.size, 0, none⟩ = some (.int .i64 r45) := (Kc BX19.out 0).trans rfl
     have qBX19_1 : w78.cell? ⟨w71.heap.size, 1, none⟩ = some (.slice A19_ r46.length c19_) := (Kc BX19.out 1).trans rfl
     have qBX20_0 : w78.cell? ⟨w73.heap.size, 0, none⟩ = some (.int .i64 r45) := (Kc BX20.out 0).trans rfl
     have qBX20_1 : w78.cell? ⟨w73.heap.size, 1, none⟩ = some (.slice A20_ r46.length c20_) := (Kc BX20.out 1).trans rfl
     go_wp2_with (first | ((refine Gd (N := 268) rfl ?_); first | refine Er rfl (load_run BX16.out 2 rfl 26 _ (by rfl) (by rfl) _ Tryz.underlying26 rfl (by kernel_rfl)) ?_ | refine Er rfl (load_run BX17.out 2 rfl 26 _ (by rfl) (by rfl) _ Tryz.underlying26 rfl (by kernel_rfl)) ?_ | refine Er rfl (load_run BX18.out 2 rfl 26 _ (by rfl) (by rfl) _ Tryz.underlying26 rfl (by kernel_rfl)) ?_ | refine Er rfl (load_run BX19.out 2 rfl 26 _ (by rfl) (by rfl) _ Tryz.underlying26 rfl (by kernel_rfl)) ?_ | refine Er rfl (load_run BX20.out 2 rfl 26 _ (by rfl) (by rfl) _ Tryz.underlying26 rfl (by kernel_rfl)) ?_) | ((refine Gd (N := 269) rfl ?_); first | refine Er rfl (load_run BX16.out 2 rfl 26 _ (by rfl) (by rfl) _ Tryz.underlying26 rfl (by kernel_rfl)) ?_ | refine Er rfl (load_run BX17.out 2 rfl 26 _ (by rfl) (by rfl) _ Tryz.underlying26 rfl (by kernel_rfl)) ?_ | refine Er rfl (load_run BX18.out 2 rfl 26 _ (by rfl) (by rfl) _ Tryz.underlying26 rfl (by kernel_rfl)) ?_ | refine Er rfl (load_run BX19.out 2 rfl 26 _ (by rfl) (by rfl) _ Tryz.underlying26 rfl (by kernel_rfl)) ?_ | refine Er rfl (load_run BX20.out 2 rfl 26 _ (by rfl) (by rfl) _ Tryz.underlying26 rfl (by kernel_rfl)) ?_))
     clear qBX16_0 qBX16_1 qBX17_0 qBX17_1 qBX18_0 qBX18_1 qBX19_0 qBX19_1 qBX20_0 qBX20_1
     refine start_ (n := 49) (S := fun w' => w'.heap[w61.heap.size]? = some (.cells #[.int .i64 r35, .slice A16_ r36.length c16_] 26 (0, 0)) ∧ w'.heap[w66.heap.size]? = some (.cells #[.int .i64 r41, .slice A17_ r42.length c17_] 26 (0, 0)) ∧ w'.heap[w68.heap.size]? = some (.cells #[.int .i64 r41, .slice A18_ r42.length c18_] 26 (0, 0)) ∧ w'.heap[w71.heap.size]? = some (.cells #[.int .i64 r45, .slice A19_ r46.length c19_] 26 (0, 0)) ∧ w'.heap[w73.heap.size]? = some (.cells #[.int .i64 r45, .slice A20_ r46.length c20_] 26 (0, 0))) (ds := []) #[false, false, false, false, false, false, false, false, false, false, false, false, false, false, false, false, false, false, false, false, false, false, false, false, false, false, false, false, false, false, false, false, false, false, false, false, false, false, false, false, false, false, false, false, false, false, false, false, false] (by kernel_rfl) rfl rfl ⟨BX16.out, BX17.out, BX18.out, BX19.out, BX20.out⟩ (fun hHeld => ?_)
     have hb : Below w78.heap.size w78 w78.drew := below_drew (Below.refl _ _)
     generalize w78.drew = w79 at hb hHeld ⊢
     have Z79 : Ad (w78.heap.size ≤ w79.heap.size) := ⟨hb.size⟩
     replace X1 := Am (Rb X1.out hb)
     replace X2 := Am (Rb X2.out hb)
     replace X14 := Am (Rb X14.out hb)
     replace X15 := Am (Rb X15.out hb)
     replace X16 := Am (Rb X16.out hb)
     replace X17 := Am (Rb X17.out hb)
     replace X18 := Am (Rb X18.out hb)
     replace X19 := Am (Rb X19.out hb)
     replace X20 := Am (Rb X20.out hb)
     replace X21 := Am (Rb X21.out hb)
     replace BX1 := Am (Kb BX1.out hb)
     replace BX2 := Am (Kb BX2.out hb)
     replace BX14 := Am (Kb BX14.out hb)
     replace BX15 := Am (Kb BX15.out hb)
     replace BX16 := Am (Kb BX16.out hb)
     replace BX17 := Am (Kb BX17.out hb)
     replace BX18 := Am (Kb BX18.out hb)
     replace BX19 := Am (Kb BX19.out hb)
     replace BX20 := Am (Kb BX20.out hb)
     replace BX21 := Am (Kb BX21.out hb)
     replace HB := Am (Bh HB.out HB.out.size hb)
     clear hb
     refine pure_ (i := 0) (N := some 254) (v := ?_) (a' := ?_) #[true, false, false, false, false, false, false, false, false, false, false, false, false, false, false, false, false, false, false, false, false, false, false, false, false, false, false, false, false, false, false, false, false, false, false, false, false, false, false, false, false, false, false, false, false, false, false, false, false] rfl rfl (by kernel_rfl) (fun _ _ _ h => h) (Or.inl ⟨by rfl, ?_⟩) ?_ ?_
     rotate_left
     ·intro w'
      go_simp
      with_reducible rfl
     rotate_left
     ·simp only [Act.put, Lt, Lz, Ls, i64_w, i32_w]
      rfl
     refine pure_ (i := 1) (N := some 255) (v := ?_) (a' := ?_) #[true, true, false, false, false, false, false, false, false, false, false, false, false, false, false, false, false, false, false, false, false, false, false, false, false, false, false, false, false, false, false, false, false, false, false, false, false, false, false, false, false, false, false, false, false, false, false, false, false] rfl rfl (by kernel_rfl) (fun _ _ _ h => h) (Or.inl ⟨by rfl, ?_⟩) ?_ ?_
     rotate_left
     ·intro w'
      go_simp
      with_reducible rfl
     rotate_left
     ·simp only [Act.put, Lt, Lz, Ls, i64_w, i32_w]
      rfl
     refine pure_ (i := 2) (N := some 256) (v := ?_) (a' := ?_) #[true, true, true, false, false, false, false, false, false, false, false, false, false, false, false, false, false, false, false, false, false, false, false, false, false, false, false, false, false, false, false, false, false, false, false, false, false, false, false, false, false, false, false, false, false, false, false, false, false] rfl rfl (by kernel_rfl) (fun _ _ _ h => h) (Or.inl ⟨by rfl, ?_⟩) ?_ ?_
     rotate_left
     ·intro w'
      go_simp
      with_reducible rfl
     rotate_left
     ·simp only [Act.put, Lt, Lz, Ls, i64_w, i32_w]
      rfl
     refine pure_ (i := 3) (N := some 257) (v := ?_) (a' := ?_) #[true, true, true, true, false, false, false, false, false, false, false, false, false, false, false, false, false, false, false, false, false, false, false, false, false, false, false, false, false, false, false, false, false, false, false, false, false, false, false, false, false, false, false, false, false, false, false, false, false] rfl rfl (by kernel_rfl) (fun _ _ _ h => h) (Or.inl ⟨by rfl, ?_⟩) ?_ ?_
     rotate_left
     ·intro w'
      go_simp
      with_reducible rfl
     rotate_left
     ·simp only [Act.put, Lt, Lz, Ls, i64_w, i32_w]
      rfl
     refine pure_ (i := 4) (N := some 258) (v := ?_) (a' := ?_) #[true, true, true, true, true, false, false, false, false, false, false, false, false, false, false, false, false, false, false, false, false, false, false, false, false, false, false, false, false, false, false, false, false, false, false, false, false, false, false, false, false, false, false, false, false, false, false, false, false] rfl rfl (by kernel_rfl) (fun _ _ _ h => h) (Or.inl ⟨by rfl, ?_⟩) ?_ ?_
     rotate_left
     ·intro w'
      go_simp
      with_reducible rfl
     rotate_left
     ·simp only [Act.put, Lt, Lz, Ls, i64_w, i32_w]
      rfl
     refine pure_ (i := 5) (N := some 259) (v := ?_) (a' := ?_) #[true, true, true, true, true, true, false, false, false, false, false, false, false, false, false, false, false, false, false, false, false, false, false, false, false, false, false, false, false, false, false, false, false, false, false, false, false, false, false, false, false, false, false, false, false, false, false, false, false] rfl rfl (by kernel_rfl) (fun _ _ _ h => h) (Or.inl ⟨by rfl, ?_⟩) ?_ ?_
     rotate_left
     ·intro w'
      go_simp
      with_reducible rfl
     rotate_left
     ·simp only [Act.put, Lt, Lz, Ls, i64_w, i32_w]
      rfl
     refine pure_ (i := 6) (N := some 260) (v := ?_) (a' := ?_) #[true, true, true, true, true, true, true, false, false, false, false, false, false, false, false, false, false, false, false, false, false, false, false, false, false, false, false, false, false, false, false, false, false, false, false, false, false, false, false, false, false, false, false, false, false, false, false, false, false] rfl rfl (by kernel_rfl) (fun _ _ _ h => h) (Or.inl ⟨by rfl, ?_⟩) ?_ ?_
     rotate_left
     ·intro w'
      go_simp
      with_reducible rfl
     rotate_left
     ·simp only [Act.put, Lt, Lz, Ls, i64_w, i32_w]
      rfl
     refine pure_ (i := 7) (N := some 261) (v := ?_) (a' := ?_) #[true, true, true, true, true, true, true, true, false, false, false, false, false, false, false, false, false, false, false, false, false, false, false, false, false, false, false, false, false, false, false, false, false, false, false, false, false, false, false, false, false, false, false, false, false, false, false, false, false] rfl rfl (by kernel_rfl) (fun _ _ _ h => h) (Or.inl ⟨by rfl, ?_⟩) ?_ ?_
     rotate_left
     ·intro w'
      go_simp
      with_reducible rfl
     rotate_left
     ·simp only [Act.put, Lt, Lz, Ls, i64_w, i32_w]
      rfl
     refine pure_ (i := 8) (N := some 262) (v := ?_) (a' := ?_) #[true, true, true, true, true, true, true, true, true, false, false, false, false, false, false, false, false, false, false, false, false, false, false, false, false, false, false, false, false, false, false, false, false, false, false, false, false, false, false, false, false, false, false, false, false, false, false, false, false] rfl rfl (by kernel_rfl) (fun _ _ _ h => h) (Or.inl ⟨by rfl, ?_⟩) ?_ ?_
     rotate_left
     ·intro w'
      go_simp
      with_reducible rfl
     rotate_left
     ·simp only [Act.put, Lt, Lz, Ls, i64_w, i32_w]
      rfl
     refine pure_ (i := 9) (N := some 263) (v := ?_) (a' := ?_) #[true, true, true, true, true, true, true, true, true, true, false, false, false, false, false, false, false, false, false, false, false, false, false, false, false, false, false, false, false, false, false, false, false, false, false, false, false, false, false, false, false, false, false, false, false, false, false, false, false] rfl rfl (by kernel_rfl) (fun _ _ _ h => h) (Or.inl ⟨by rfl, ?_⟩) ?_ ?_
     rotate_left
     ·intro w'
      go_simp
      with_reducible rfl
     rotate_left
     ·simp only [Act.put, Lt, Lz, Ls, i64_w, i32_w]
      rfl
     refine pure_ (i := 10) (N := some 264) (v := ?_) (a' := ?_) #[true, true, true, true, true, true, true, true, true, true, true, false, false, false, false, false, false, false, false, false, false, false, false, false, false, false, false, false, false, false, false, false, false, false, false, false, false, false, false, false, false, false, false, false, false, false, false, false, false] rfl rfl (by kernel_rfl) (fun _ _ _ h => h) (Or.inl ⟨by rfl, ?_⟩) ?_ ?_
     rotate_left
     ·intro w'
      go_simp
      with_reducible rfl
     rotate_left
     ·simp only [Act.put, Lt, Lz, Ls, i64_w, i32_w]
      rfl
     refine pure_ (i := 11) (N := some 265) (v := ?_) (a' := ?_) #[true, true, true, true, true, true, true, true, true, true, true, true, false, false, false, false, false, false, false, false, false, false, false, false, false, false, false, false, false, false, false, false, false, false, false, false, false, false, false, false, false, false, false, false, false, false, false, false, false] rfl rfl (by kernel_rfl) (fun _ _ _ h => h) (Or.inl ⟨by rfl, ?_⟩) ?_ ?_
     rotate_left
     ·intro w'
      go_simp
      with_reducible rfl
     rotate_left
     ·simp only [Act.put, Lt, Lz, Ls, i64_w, i32_w]
      rfl
     refine pure_ (i := 12) (N := some 266) (v := ?_) (a' := ?_) #[true, true, true, true, true, true, true, true, true, true, true, true, true, false, false, false, false, false, false, false, false, false, false, false, false, false, false, false, false, false, false, false, false, false, false, false, false, false, false, false, false, false, false, false, false, false, false, false, false] rfl rfl (by kernel_rfl) (fun _ _ _ h => h) (Or.inl ⟨by rfl, ?_⟩) ?_ ?_
     rotate_left
     ·intro w'
      go_simp
      with_reducible rfl
     rotate_left
     ·simp only [Act.put, Lt, Lz, Ls, i64_w, i32_w]
      rfl
     refine pure_ (i := 13) (N := some 267) (v := ?_) (a' := ?_) #[true, true, true, true, true, true, true, true, true, true, true, true, true, true, false, false, false, false, false, false, false, false, false, false, false, false, false, false, false, false, false, false, false, false, false, false, false, false, false, false, false, false, false, false, false, false, false, false, false] rfl rfl (by kernel_rfl) (fun _ _ _ h => h) (Or.inl ⟨by rfl, ?_⟩) ?_ ?_
     rotate_left
     ·intro w'
      go_simp
      with_reducible rfl
     rotate_left
     ·simp only [Act.put, Lt, Lz, Ls, i64_w, i32_w]
      rfl
     refine take_ (i := 14) (N := some 268) (v := ?_) (a' := ?_) #[true, true, true, true, true, true, true, true, true, true, true, true, true, true, true, false, false, false, false, false, false, false, false, false, false, false, false, false, false, false, false, false, false, false, false, false, false, false, false, false, false, false, false, false, false, false, false, false, false] rfl rfl (by kernel_rfl) (fun _ _ _ h => h) (Or.inl ⟨by rfl, ?_⟩) hHeld ?_ ?_
     rotate_left
     ·rintro w' ⟨s0, s1, s2, s3, s4⟩
      first | (refine Eq.trans (load_run s0 2 rfl 26 _ (by rfl) (by rfl) _ Tryz.underlying26 rfl (by kernel_rfl)) ?_; with_reducible rfl) | (refine Eq.trans (load_run s1 2 rfl 26 _ (by rfl) (by rfl) _ Tryz.underlying26 rfl (by kernel_rfl)) ?_; with_reducible rfl) | (refine Eq.trans (load_run s2 2 rfl 26 _ (by rfl) (by rfl) _ Tryz.underlying26 rfl (by kernel_rfl)) ?_; with_reducible rfl) | (refine Eq.trans (load_run s3 2 rfl 26 _ (by rfl) (by rfl) _ Tryz.underlying26 rfl (by kernel_rfl)) ?_; with_reducible rfl) | (refine Eq.trans (load_run s4 2 rfl 26 _ (by rfl) (by rfl) _ Tryz.underlying26 rfl (by kernel_rfl)) ?_; with_reducible rfl)
     rotate_left
     ·simp only [Act.put, Lt, Lz, Ls, i64_w, i32_w]
      rfl
     refine take_ (i := 15) (N := some 269) (v := ?_) (a' := ?_) #[true, true, true, true, true, true, true, true, true, true, true, true, true, true, true, true, false, false, false, false, false, false, false, false, false, false, false, false, false, false, false, false, false, false, false, false, false, false, false, false, false, false, false, false, false, false, false, false, false] rfl rfl (by kernel_rfl) (fun _ _ _ h => h) (Or.inl ⟨by rfl, ?_⟩) hHeld ?_ ?_
     rotate_left
     ·rintro w' ⟨s0, s1, s2, s3, s4⟩
      first | (refine Eq.trans (load_run s0 2 rfl 26 _ (by rfl) (by rfl) _ Tryz.underlying26 rfl (by kernel_rfl)) ?_; with_reducible rfl) | (refine Eq.trans (load_run s1 2 rfl 26 _ (by rfl) (by rfl) _ Tryz.underlying26 rfl (by kernel_rfl)) ?_; with_reducible rfl) | (refine Eq.trans (load_run s2 2 rfl 26 _ (by rfl) (by rfl) _ Tryz.underlying26 rfl (by kernel_rfl)) ?_; with_reducible rfl) | (refine Eq.trans (load_run s3 2 rfl 26 _ (by rfl) (by rfl) _ Tryz.underlying26 rfl (by kernel_rfl)) ?_; with_reducible rfl) | (refine Eq.trans (load_run s4 2 rfl 26 _ (by rfl) (by rfl) _ Tryz.underlying26 rfl (by kernel_rfl)) ?_; with_reducible rfl)
     rotate_left
     ·simp only [Act.put, Lt, Lz, Ls, i64_w, i32_w]
      rfl
     refine one_ (i := 16) (N := some 270) #[true, true, true, true, true, true, true, true, true, true, true, true, true, true, true, true, true, false, false, false, false, false, false, false, false, false, false, false, false, false, false, false, false, false, false, false, false, false, false, false, false, false, false, false, false, false, false, false, false] rfl rfl (by kernel_rfl) (by decide) (fun K hK => ?_)
     refine goes_ Tryz.func8 (by kernel_rfl) rfl #[.agg #[.int .i64 r41, .slice A17_ r42.length c17_], .agg #[.int .i64 r41, .slice A18_ r42.length c18_]] (by rfl) rfl rfl (by (try simp only [List.map_toArray, List.map_cons, List.map_nil]); first | done | rfl) ?_
     (refine (laws_sameAttr.calls K52 r41 A17_ c17_ r42 r41 A18_ c18_ r42 true w79 (Rr X17.out).2.2 (Rr X17.out).2.1 (Rr X18.out).2.2 (Rr X18.out).2.1 H52.out).mono ?_)
     rintro e w80 ⟨rfl, hb⟩
     refine ⟨_, rfl, ?_⟩
     have Z80 : Ad (w79.heap.size ≤ w80.heap.size) := ⟨hb.size⟩
     replace X1 := Am (Rb X1.out hb)
     replace X2 := Am (Rb X2.out hb)
     replace X14 := Am (Rb X14.out hb)
     replace X15 := Am (Rb X15.out hb)
     replace X16 := Am (Rb X16.out hb)
     replace X17 := Am (Rb X17.out hb)
     replace X18 := Am (Rb X18.out hb)
     replace X19 := Am (Rb X19.out hb)
     replace X20 := Am (Rb X20.out hb)
     replace X21 := Am (Rb X21.out hb)
     replace BX1 := Am (Kb BX1.out hb)
     replace BX2 := Am (Kb BX2.out hb)
     replace BX14 := Am (Kb BX14.out hb)
     replace BX15 := Am (Kb BX15.out hb)
     replace BX16 := Am (Kb BX16.out hb)
     replace BX17 := Am (Kb BX17.out hb)
     replace BX18 := Am (Kb BX18.out hb)
     replace BX19 := Am (Kb BX19.out hb)
     replace BX20 := Am (Kb BX20.out hb)
     replace BX21 := Am (Kb BX21.out hb)
     replace HB := Am (Bh HB.out HB.out.size hb)
     clear hb
     refine hK.out _ _ ⟨BX16.out, BX17.out, BX18.out, BX19.out, BX20.out⟩ (fun hHeld => ?_)
     clear hK K
     refine norm_ (a' := ?_) ?_ ?_
     rotate_left
     ·show Act.put _ (some 270) _ = _
      simp only [Act.put, Lt, Lz, Ls, i64_w, i32_w]
      rfl
     obtain ⟨⟨K53, h53⟩, hF⟩ := HF.out
     clear HF
     have HF := Am hF
     clear hF
     have H53 := Am h53
     clear h53
     refine pure_ (i := 17) (N := some 271) (v := ?_) (a' := ?_) #[true, true, true, true, true, true, true, true, true, true, true, true, true, true, true, true, true, true, false, false, false, false, false, false, false, false, false, false, false, false, false, false, false, false, false, false, false, false, false, false, false, false, false, false, false, false, false, false, false] rfl rfl (by kernel_rfl) (fun _ _ _ h => h) (Or.inl ⟨by rfl, ?_⟩) ?_ ?_
     rotate_left
     ·intro w'
      go_simp
      with_reducible rfl
     rotate_left
     ·simp only [Act.put, Lt, Lz, Ls, i64_w, i32_w]
      rfl
     refine pure_ (i := 18) (N := some 272) (v := ?_) (a' := ?_) #[true, true, true, true, true, true, true, true, true, true, true, true, true, true, true, true, true, true, true, false, false, false, false, false, false, false, false, false, false, false, false, false, false, false, false, false, false, false, false, false, false, false, false, false, false, false, false, false, false] rfl rfl (by kernel_rfl) (fun _ _ _ h => h) (Or.inl ⟨by rfl, ?_⟩) ?_ ?_
     rotate_left
     ·intro w'
      go_simp
      with_reducible rfl
     rotate_left
     ·simp only [Act.put, Lt, Lz, Ls, i64_w, i32_w]
      rfl
     refine pure_ (i := 19) (N := some 273) (v := ?_) (a' := ?_) #[true, true, true, true, true, true, true, true, true, true, true, true, true, true, true, true, true, true, true, true, false, false, false, false, false, false, false, false, false, false, false, false, false, false, false, false, false, false, false, false, false, false, false, false, false, false, false, false, false] rfl rfl (by kernel_rfl) (fun _ _ _ h => h) (Or.inl ⟨by rfl, ?_⟩) ?_ ?_
     rotate_left
     ·intro w'
      go_simp
      with_reducible rfl
     rotate_left
     ·simp only [Act.put, Lt, Lz, Ls, i64_w, i32_w]
      rfl
     refine pure_ (i := 20) (N := some 274) (v := ?_) (a' := ?_) #[true, true, true, true, true, true, true, true, true, true, true, true, true, true, true, true, true, true, true, true, true, false, false, false, false, false, false, false, false, false, false, false, false, false, false, false, false, false, false, false, false, false, false, false, false, false, false, false, false] rfl rfl (by kernel_rfl) (fun _ _ _ h => h) (Or.inl ⟨by rfl, ?_⟩) ?_ ?_
     rotate_left
     ·intro w'
      go_simp
      with_reducible rfl
     rotate_left
     ·simp only [Act.put, Lt, Lz, Ls, i64_w, i32_w]
      rfl
     refine pure_ (i := 21) (N := some 275) (v := ?_) (a' := ?_) #[true, true, true, true, true, true, true, true, true, true, true, true, true, true, true, true, true, true, true, true, true, true, false, false, false, false, false, false, false, false, false, false, false, false, false, false, false, false, false, false, false, false, false, false, false, false, false, false, false] rfl rfl (by kernel_rfl) (fun _ _ _ h => h) (Or.inl ⟨by rfl, ?_⟩) ?_ ?_
     rotate_left
     ·intro w'
      go_simp
      with_reducible rfl
     rotate_left
     ·simp only [Act.put, Lt, Lz, Ls, i64_w, i32_w]
      rfl
     refine pure_ (i := 22) (N := some 276) (v := ?_) (a' := ?_) #[true, true, true, true, true, true, true, true, true, true, true, true, true, true, true, true, true, true, true, true, true, true, true, false, false, false, false, false, false, false, false, false, false, false, false, false, false, false, false, false, false, false, false, false, false, false, false, false, false] rfl rfl (by kernel_rfl) (fun _ _ _ h => h) (Or.inl ⟨by rfl, ?_⟩) ?_ ?_
     rotate_left
     ·intro w'
      go_simp
      with_reducible rfl
     rotate_left
     ·simp only [Act.put, Lt, Lz, Ls, i64_w, i32_w]
      rfl
     refine pure_ (i := 23) (N := some 277) (v := ?_) (a' := ?_) #[true, true, true, true, true, true, true, true, true, true, true, true, true, true, true, true, true, true, true, true, true, true, true, true, false, false, false, false, false, false, false, false, false, false, false, false, false, false, false, false, false, false, false, false, false, false, false, false, false] rfl rfl (by kernel_rfl) (fun _ _ _ h => h) (Or.inl ⟨by rfl, ?_⟩) ?_ ?_
     rotate_left
     ·intro w'
      go_simp
      with_reducible rfl
     rotate_left
     ·simp only [Act.put, Lt, Lz, Ls, i64_w, i32_w]
      rfl
     refine pure_ (i := 24) (N := some 278) (v := ?_) (a' := ?_) #[true, true, true, true, true, true, true, true, true, true, true, true, true, true, true, true, true, true, true, true, true, true, true, true, true, false, false, false, false, false, false, false, false, false, false, false, false, false, false, false, false, false, false, false, false, false, false, false, false] rfl rfl (by kernel_rfl) (fun _ _ _ h => h) (Or.inl ⟨by rfl, ?_⟩) ?_ ?_
     rotate_left
     ·intro w'
      go_simp
      with_reducible rfl
     rotate_left
     ·simp only [Act.put, Lt, Lz, Ls, i64_w, i32_w]
      rfl
     refine take_ (i := 25) (N := some 279) (v := ?_) (a' := ?_) #[true, true, true, true, true, true, true, true, true, true, true, true, true, true, true, true, true, true, true, true, true, true, true, true, true, true, false, false, false, false, false, false, false, false, false, false, false, false, false, false, false, false, false, false, false, false, false, false, false] rfl rfl (by kernel_rfl) (fun _ _ _ h => h) (Or.inl ⟨by rfl, ?_⟩) hHeld ?_ ?_
     rotate_left
     ·rintro w' ⟨s0, s1, s2, s3, s4⟩
      first | (refine Eq.trans (load_run s0 2 rfl 26 _ (by rfl) (by rfl) _ Tryz.underlying26 rfl (by kernel_rfl)) ?_; with_reducible rfl) | (refine Eq.trans (load_run s1 2 rfl 26 _ (by rfl) (by rfl) _ Tryz.underlying26 rfl (by kernel_rfl)) ?_; with_reducible rfl) | (refine Eq.trans (load_run s2 2 rfl 26 _ (by rfl) (by rfl) _ Tryz.underlying26 rfl (by kernel_rfl)) ?_; with_reducible rfl) | (refine Eq.trans (load_run s3 2 rfl 26 _ (by rfl) (by rfl) _ Tryz.underlying26 rfl (by kernel_rfl)) ?_; with_reducible rfl) | (refine Eq.trans (load_run s4 2 rfl 26 _ (by rfl) (by rfl) _ Tryz.underlying26 rfl (by kernel_rfl)) ?_; with_reducible rfl)
     rotate_left
     ·simp only [Act.put, Lt, Lz, Ls, i64_w, i32_w]
      rfl
     refine take_ (i := 26) (N := some 280) (v := ?_) (a' := ?_) #[true, true, true, true, true, true, true, true, true, true, true, true, true, true, true, true, true, true, true, true, true, true, true, true, true, true, true, false, false, false, false, false, false, false, false, false, false, false, false, false, false, false, false, false, false, false, false, false, false] rfl rfl (by kernel_rfl) (fun _ _ _ h => h) (Or.inl ⟨by rfl, ?_⟩) hHeld ?_ ?_
     rotate_left
     ·rintro w' ⟨s0, s1, s2, s3, s4⟩
      first | (refine Eq.trans (load_run s0 2 rfl 26 _ (by rfl) (by rfl) _ Tryz.underlying26 rfl (by kernel_rfl)) ?_; with_reducible rfl) | (refine Eq.trans (load_run s1 2 rfl 26 _ (by rfl) (by rfl) _ Tryz.underlying26 rfl (by kernel_rfl)) ?_; with_reducible rfl) | (refine Eq.trans (load_run s2 2 rfl 26 _ (by rfl) (by rfl) _ Tryz.underlying26 rfl (by kernel_rfl)) ?_; with_reducible rfl) | (refine Eq.trans (load_run s3 2 rfl 26 _ (by rfl) (by rfl) _ Tryz.underlying26 rfl (by kernel_rfl)) ?_; with_reducible rfl) | (refine Eq.trans (load_run s4 2 rfl 26 _ (by rfl) (by rfl) _ Tryz.underlying26 rfl (by kernel_rfl)) ?_; with_reducible rfl)
     rotate_left
     ·simp only [Act.put, Lt, Lz, Ls, i64_w, i32_w]
      rfl
     refine one_ (i := 27) (N := some 281) #[true, true, true, true, true, true, true, true, true, true, true, true, true, true, true, true, true, true, true, true, true, true, true, true, true, true, true, true, false, false, false, false, false, false, false, false, false, false, false, false, false, false, false, false, false, false, false, false, false] rfl rfl (by kernel_rfl) (by decide) (fun K hK => ?_)
     refine goes_ Tryz.func8 (by kernel_rfl) rfl #[.agg #[.int .i64 r45, .slice A19_ r46.length c19_], .agg #[.int .i64 r45, .slice A20_ r46.length c20_]] (by rfl) rfl rfl (by (try simp only [List.map_toArray, List.map_cons, List.map_nil]); first | done | rfl) ?_
     (refine (laws_sameAttr.calls K53 r45 A19_ c19_ r46 r45 A20_ c20_ r46 true w80 (Rr X19.out).2.2 (Rr X19.out).2.1 (Rr X20.out).2.2 (Rr X20.out).2.1 H53.out).mono ?_)
     rintro e w81 ⟨rfl, hb⟩
     refine ⟨_, rfl, ?_⟩
     have Z81 : Ad (w80.heap.size ≤ w81.heap.size) := ⟨hb.size⟩
     replace X1 := Am (Rb X1.out hb)
     replace X2 := Am (Rb X2.out hb)
     replace X14 := Am (Rb X14.out hb)
     replace X15 := Am (Rb X15.out hb)
     replace X16 := Am (Rb X16.out hb)
     replace X17 := Am (Rb X17.out hb)
     replace X18 := Am (Rb X18.out hb)
     replace X19 := Am (Rb X19.out hb)
     replace X20 := Am (Rb X20.out hb)
     replace X21 := Am (Rb X21.out hb)
     replace BX1 := Am (Kb BX1.out hb)
     replace BX2 := Am (Kb BX2.out hb)
     replace BX14 := Am (Kb BX14.out hb)
     replace BX15 := Am (Kb BX15.out hb)
     replace BX16 := Am (Kb BX16.out hb)
     replace BX17 := Am (Kb BX17.out hb)
     replace BX18 := Am (Kb BX18.out hb)
     replace BX19 := Am (Kb BX19.out hb)
     replace BX20 := Am (Kb BX20.out hb)
     replace BX21 := Am (Kb BX21.out hb)
     replace HB := Am (Bh HB.out HB.out.size hb)
     clear hb
     refine hK.out _ _ ⟨BX16.out, BX17.out, BX18.out, BX19.out, BX20.out⟩ (fun hHeld => ?_)
     clear hK K
     refine norm_ (a' := ?_) ?_ ?_
     rotate_left
     ·show Act.put _ (some 281) _ = _
      simp only [Act.put, Lt, Lz, Ls, i64_w, i32_w]
      rfl
     obtain ⟨r55, h54, hF⟩ := HF.out
     clear HF
     have HF := Am hF
     clear hF
     have H54 := Am h54
     clear h54
     refine pure_ (i := 28) (N := some 282) (v := ?_) (a' := ?_) #[true, true, true, true, true, true, true, true, true, true, true, true, true, true, true, true, true, true, true, true, true, true, true, true, true, true, true, true, true, false, false, false, false, false, false, false, false, false, false, false, false, false, false, false, false, false, false, false, false] rfl rfl (by kernel_rfl) (fun _ _ _ h => h) (Or.inl ⟨by rfl, ?_⟩) ?_ ?_
     rotate_left
     ·intro w'
      go_simp
      with_reducible rfl
     rotate_left
     ·simp only [Act.put, Lt, Lz, Ls, i64_w, i32_w]
      rfl
     refine pure_ (i := 29) (N := some 283) (v := ?_) (a' := ?_) #[true, true, true, true, true, true, true, true, true, true, true, true, true, true, true, true, true, true, true, true, true, true, true, true, true, true, true, true, true, true, false, false, false, false, false, false, false, false, false, false, false, false, false, false, false, false, false, false, false] rfl rfl (by kernel_rfl) (fun _ _ _ h => h) (Or.inl ⟨by rfl, ?_⟩) ?_ ?_
     rotate_left
     ·intro w'
      go_simp
      with_reducible rfl
     rotate_left
     ·simp only [Act.put, Lt, Lz, Ls, i64_w, i32_w]
      rfl
     refine pure_ (i := 30) (N := some 284) (v := ?_) (a' := ?_) #[true, true, true, true, true, true, true, true, true, true, true, true, true, true, true, true, true, true, true, true, true, true, true, true, true, true, true, true, true, true, true, false, false, false, false, false, false, false, false, false, false, false, false, false, false, false, false, false, false] rfl rfl (by kernel_rfl) (fun _ _ _ h => h) (Or.inl ⟨by rfl, ?_⟩) ?_ ?_
     rotate_left
     ·intro w'
      go_simp
      with_reducible rfl
     rotate_left
     ·simp only [Act.put, Lt, Lz, Ls, i64_w, i32_w]
      rfl
     refine pure_ (i := 31) (N := some 285) (v := ?_) (a' := ?_) #[true, true, true, true, true, true, true, true, true, true, true, true, true, true, true, true, true, true, true, true, true, true, true, true, true, true, true, true, true, true, true, true, false, false, false, false, false, false, false, false, false, false, false, false, false, false, false, false, false] rfl rfl (by kernel_rfl) (fun _ _ _ h => h) (Or.inl ⟨by rfl, ?_⟩) ?_ ?_
     rotate_left
     ·intro w'
      go_simp
      with_reducible rfl
     rotate_left
     ·simp only [Act.put, Lt, Lz, Ls, i64_w, i32_w]
      rfl
     refine pure_ (i := 32) (N := some 286) (v := ?_) (a' := ?_) #[true, true, true, true, true, true, true, true, true, true, true, true, true, true, true, true, true, true, true, true, true, true, true, true, true, true, true, true, true, true, true, true, true, false, false, false, false, false, false, false, false, false, false, false, false, false, false, false, false] rfl rfl (by kernel_rfl) (fun _ _ _ h => h) (Or.inl ⟨by rfl, ?_⟩) ?_ ?_
     rotate_left
     ·intro w'
      go_simp
      with_reducible rfl
     rotate_left
     ·simp only [Act.put, Lt, Lz, Ls, i64_w, i32_w]
      rfl
     refine pure_ (i := 33) (N := some 287) (v := ?_) (a' := ?_) #[true, true, true, true, true, true, true, true, true, true, true, true, true, true, true, true, true, true, true, true, true, true, true, true, true, true, true, true, true, true, true, true, true, true, false, false, false, false, false, false, false, false, false, false, false, false, false, false, false] rfl rfl (by kernel_rfl) (fun _ _ _ h => h) (Or.inl ⟨by rfl, ?_⟩) ?_ ?_
     rotate_left
     ·intro w'
      go_simp
      with_reducible rfl
     rotate_left
     ·simp only [Act.put, Lt, Lz, Ls, i64_w, i32_w]
      rfl
     refine pure_ (i := 34) (N := some 288) (v := ?_) (a' := ?_) #[true, true, true, true, true, true, true, true, true, true, true, true, true, true, true, true, true, true, true, true, true, true, true, true, true, true, true, true, true, true, true, true, true, true, true, false, false, false, false, false, false, false, false, false, false, false, false, false, false] rfl rfl (by kernel_rfl) (fun _ _ _ h => h) (Or.inl ⟨by rfl, ?_⟩) ?_ ?_
     rotate_left
     ·intro w'
      go_simp
      with_reducible rfl
     rotate_left
     ·simp only [Act.put, Lt, Lz, Ls, i64_w, i32_w]
      rfl
     refine pure_ (i := 35) (N := some 289) (v := ?_) (a' := ?_) #[true, true, true, true, true, true, true, true, true, true, true, true, true, true, true, true, true, true, true, true, true, true, true, true, true, true, true, true, true, true, true, true, true, true, true, true, false, false, false, false, false, false, false, false, false, false, false, false, false] rfl rfl (by kernel_rfl) (fun _ _ _ h => h) (Or.inl ⟨by rfl, ?_⟩) ?_ ?_
     rotate_left
     ·intro w'
      go_simp
      with_reducible rfl
     rotate_left
     ·simp only [Act.put, Lt, Lz, Ls, i64_w, i32_w]
      rfl
     refine pure_ (i := 36) (N := some 290) (v := ?_) (a' := ?_) #[true, true, true, true, true, true, true, true, true, true, true, true, true, true, true, true, true, true, true, true, true, true, true, true, true, true, true, true, true, true, true, true, true, true, true, true, true, false, false, false, false, false, false, false, false, false, false, false, false] rfl rfl (by kernel_rfl) (fun _ _ _ h => h) (Or.inl ⟨by rfl, ?_⟩) ?_ ?_
     rotate_left
     ·intro w'
      go_simp
      with_reducible rfl
     rotate_left
     ·simp only [Act.put, Lt, Lz, Ls, i64_w, i32_w]
      rfl
     refine pure_ (i := 37) (N := some 291) (v := ?_) (a' := ?_) #[true, true, true, true, true, true, true, true, true, true, true, true, true, true, true, true, true, true, true, true, true, true, true, true, true, true, true, true, true, true, true, true, true, true, true, true, true, true, false, false, false, false, false, false, false, false, false, false, false] rfl rfl (by kernel_rfl) (fun _ _ _ h => h) (Or.inl ⟨by rfl, ?_⟩) ?_ ?_
     rotate_left
     ·intro w'
      go_simp
      with_reducible rfl
     rotate_left
     ·simp only [Act.put, Lt, Lz, Ls, i64_w, i32_w]
      rfl
     refine pure_ (i := 38) (N := some 292) (v := ?_) (a' := ?_) #[true, true, true, true, true, true, true, true, true, true, true, true, true, true, true, true, true, true, true, true, true, true, true, true, true, true, true, true, true, true, true, true, true, true, true, true, true, true, true, false, false, false, false, false, false, false, false, false, false] rfl rfl (by kernel_rfl) (fun _ _ _ h => h) (Or.inl ⟨by rfl, ?_⟩) ?_ ?_
     rotate_left
     ·intro w'
      go_simp
      with_reducible rfl
     rotate_left
     ·simp only [Act.put, Lt, Lz, Ls, i64_w, i32_w]
      rfl
     refine pure_ (i := 39) (N := some 293) (v := ?_) (a' := ?_) #[true, true, true, true, true, true, true, true, true, true, true, true, true, true, true, true, true, true, true, true, true, true, true, true, true, true, true, true, true, true, true, true, true, true, true, true, true, true, true, true, false, false, false, false, false, false, false, false, false] rfl rfl (by kernel_rfl) (fun _ _ _ h => h) (Or.inl ⟨by rfl, ?_⟩) ?_ ?_
     rotate_left
     ·intro w'
      go_simp
      with_reducible rfl
     rotate_left
     ·simp only [Act.put, Lt, Lz, Ls, i64_w, i32_w]
      rfl
     refine pure_ (i := 40) (N := some 294) (v := ?_) (a' := ?_) #[true, true, true, true, true, true, true, true, true, true, true, true, true, true, true, true, true, true, true, true, true, true, true, true, true, true, true, true, true, true, true, true, true, true, true, true, true, true, true, true, true, false, false, false, false, false, false, false, false] rfl rfl (by kernel_rfl) (fun _ _ _ h => h) (Or.inl ⟨by rfl, ?_⟩) ?_ ?_
     rotate_left
     ·intro w'
      go_simp
      with_reducible rfl
     rotate_left
     ·simp only [Act.put, Lt, Lz, Ls, i64_w, i32_w]
      rfl
     refine pure_ (i := 41) (N := some 295) (v := ?_) (a' := ?_) #[true, true, true, true, true, true, true, true, true, true, true, true, true, true, true, true, true, true, true, true, true, true, true, true, true, true, true, true, true, true, true, true, true, true, true, true, true, true, true, true, true, true, false, false, false, false, false, false, false] rfl rfl (by kernel_rfl) (fun _ _ _ h => h) (Or.inl ⟨by rfl, ?_⟩) ?_ ?_
     rotate_left
     ·intro w'
      go_simp
      with_reducible rfl
     rotate_left
     ·simp only [Act.put, Lt, Lz, Ls, i64_w, i32_w]
      rfl
     refine take_ (i := 42) (N := some 296) (v := ?_) (a' := ?_) #[true, true, true, true, true, true, true, true, true, true, true, true, true, true, true, true, true, true, true, true, true, true, true, true, true, true, true, true, true, true, true, true, true, true, true, true, true, true, true, true, true, true, true, false, false, false, false, false, false] rfl rfl (by kernel_rfl) (fun _ _ _ h => h) (Or.inl ⟨by rfl, ?_⟩) hHeld ?_ ?_
     rotate_left
     ·rintro w' ⟨s0, s1, s2, s3, s4⟩
      first | (refine Eq.trans (load_run s0 2 rfl 26 _ (by rfl) (by rfl) _ Tryz.underlying26 rfl (by kernel_rfl)) ?_; with_reducible rfl) | (refine Eq.trans (load_run s1 2 rfl 26 _ (by rfl) (by rfl) _ Tryz.underlying26 rfl (by kernel_rfl)) ?_; with_reducible rfl) | (refine Eq.trans (load_run s2 2 rfl 26 _ (by rfl) (by rfl) _ Tryz.underlying26 rfl (by kernel_rfl)) ?_; with_reducible rfl) | (refine Eq.trans (load_run s3 2 rfl 26 _ (by rfl) (by rfl) _ Tryz.underlying26 rfl (by kernel_rfl)) ?_; with_reducible rfl) | (refine Eq.trans (load_run s4 2 rfl 26 _ (by rfl) (by rfl) _ Tryz.underlying26 rfl (by kernel_rfl)) ?_; with_reducible rfl)
     rotate_left
     ·simp only [Act.put, Lt, Lz, Ls, i64_w, i32_w]
      rfl
     refine pure_ (i := 44) (N := some 298) (v := ?_) (a' := ?_) #[true, true, true, true, true, true, true, true, true, true, true, true, true, true, true, true, true, true, true, true, true, true, true, true, true, true, true, true, true, true, true, true, true, true, true, true, true, true, true, true, true, true, true, false, true, false, false, false, false] rfl rfl (by kernel_rfl) (fun _ _ _ h => h) (Or.inl ⟨by rfl, ?_⟩) ?_ ?_
     rotate_left
     ·intro w'
      go_simp
      with_reducible rfl
     rotate_left
     ·simp only [Act.put, Lt, Lz, Ls, i64_w, i32_w]
      rfl
     refine take_ (i := 45) (N := some 299) (v := ?_) (a' := ?_) #[true, true, true, true, true, true, true, true, true, true, true, true, true, true, true, true, true, true, true, true, true, true, true, true, true, true, true, true, true, true, true, true, true, true, true, true, true, true, true, true, true, true, true, false, true, true, false, false, false] rfl rfl (by kernel_rfl) (fun _ _ _ h => h) (Or.inl ⟨by rfl, ?_⟩) hHeld ?_ ?_
     rotate_left
     ·rintro w' ⟨s0, s1, s2, s3, s4⟩
      first | (refine Eq.trans (load_run s0 2 rfl 26 _ (by rfl) (by rfl) _ Tryz.underlying26 rfl (by kernel_rfl)) ?_; with_reducible rfl) | (refine Eq.trans (load_run s1 2 rfl 26 _ (by rfl) (by rfl) _ Tryz.underlying26 rfl (by kernel_rfl)) ?_; with_reducible rfl) | (refine Eq.trans (load_run s2 2 rfl 26 _ (by rfl) (by rfl) _ Tryz.underlying26 rfl (by kernel_rfl)) ?_; with_reducible rfl) | (refine Eq.trans (load_run s3 2 rfl 26 _ (by rfl) (by rfl) _ Tryz.underlying26 rfl (by kernel_rfl)) ?_; with_reducible rfl) | (refine Eq.trans (load_run s4 2 rfl 26 _ (by rfl) (by rfl) _ Tryz.underlying26 rfl (by kernel_rfl)) ?_; with_reducible rfl)
     rotate_left
     ·simp only [Act.put, Lt, Lz, Ls, i64_w, i32_w]
      rfl
     refine one_ (i := 43) (N := some 297) #[true, true, true, true, true, true, true, true, true, true, true, true, true, true, true, true, true, true, true, true, true, true, true, true, true, true, true, true, true, true, true, true, true, true, true, true, true, true, true, true, true, true, true, true, true, true, false, false, false] rfl rfl (by kernel_rfl) (by decide) (fun K hK => ?_)
     refine goes_ Tryz.func23 (by kernel_rfl) rfl #[.int .i64 r34, .agg #[.int .i64 r35, .slice A16_ r36.length c16_]] (by rfl) rfl rfl (by (try simp only [List.map_toArray, List.map_cons, List.map_nil]); first | done | rfl) ?_
     (refine (impl_GoodAttr.calls r34 r35 A16_ c16_ r36 r55 w81 (Rr X16.out).2.2 (Rr X16.out).2.1 H54.out).mono ?_)
     rintro e w82 ⟨rfl, hb⟩
     refine ⟨_, rfl, ?_⟩
     have Z82 : Ad (w81.heap.size ≤ w82.heap.size) := ⟨hb.size⟩
     replace X1 := Am (Rb X1.out hb)
     replace X2 := Am (Rb X2.out hb)
     replace X14 := Am (Rb X14.out hb)
     replace X15 := Am (Rb X15.out hb)
     replace X16 := Am (Rb X16.out hb)
     replace X17 := Am (Rb X17.out hb)
     replace X18 := Am (Rb X18.out hb)
     replace X19 := Am (Rb X19.out hb)
     replace X20 := Am (Rb X20.out hb)
     replace X21 := Am (Rb X21.out hb)
     replace BX1 := Am (Kb BX1.out hb)
     replace BX2 := Am (Kb BX2.out hb)
     replace BX14 := Am (Kb BX14.out hb)
     replace BX15 := Am (Kb BX15.out hb)
     replace BX16 := Am (Kb BX16.out hb)
     replace BX17 := Am (Kb BX17.out hb)
     replace BX18 := Am (Kb BX18.out hb)
     replace BX19 := Am (Kb BX19.out hb)
     replace BX20 := Am (Kb BX20.out hb)
     replace BX21 := Am (Kb BX21.out hb)
     replace HB := Am (Bh HB.out HB.out.size hb)
     clear hb
     refine hK.out _ _ ⟨BX16.out, BX17.out, BX18.out, BX19.out, BX20.out⟩ (fun hHeld => ?_)
     clear hK K
     refine norm_ (a' := ?_) ?_ ?_
     rotate_left
     ·show Act.put _ (some 297) _ = _
      simp only [Act.put, Lt, Lz, Ls, i64_w, i32_w]
      rfl
     obtain ⟨⟨K55, h55⟩, hF⟩ := HF.out
     clear HF
     have HF := Am hF
     clear hF
     have H55 := Am h55
     clear h55
     refine one_ (i := 46) (N := some 300) #[true, true, true, true, true, true, true, true, true, true, true, true, true, true, true, true, true, true, true, true, true, true, true, true, true, true, true, true, true, true, true, true, true, true, true, true, true, true, true, true, true, true, true, true, true, true, true, false, false] rfl rfl (by kernel_rfl) (by decide) (fun K hK => ?_)
     refine goes_ Tryz.func24 (by kernel_rfl) rfl #[.int .i64 r34, .agg #[.int .i64 r35, .slice A16_ r36.length c16_]] (by rfl) rfl rfl (by (try simp only [List.map_toArray, List.map_cons, List.map_nil]); first | done | rfl) ?_
     (refine (spec_GoodAttr.calls K55 r34 r35 A16_ c16_ r36 r55 w82 (Rr X16.out).2.2 (Rr X16.out).2.1 H55.out).mono ?_)
     rintro e w83 ⟨rfl, hb⟩
     refine ⟨_, rfl, ?_⟩
     have Z83 : Ad (w82.heap.size ≤ w83.heap.size) := ⟨hb.size⟩
     replace X1 := Am (Rb X1.out hb)
     replace X2 := Am (Rb X2.out hb)
     replace X14 := Am (Rb X14.out hb)
     replace X15 := Am (Rb X15.out hb)
     replace X16 := Am (Rb X16.out hb)
     replace X17 := Am (Rb X17.out hb)
     replace X18 := Am (Rb X18.out hb)
     replace X19 := Am (Rb X19.out hb)
     replace X20 := Am (Rb X20.out hb)
     replace X21 := Am (Rb X21.out hb)
     replace BX1 := Am (Kb BX1.out hb)
     replace BX2 := Am (Kb BX2.out hb)
     replace BX14 := Am (Kb BX14.out hb)
     replace BX15 := Am (Kb BX15.out hb)
     replace BX16 := Am (Kb BX16.out hb)
     replace BX17 := Am (Kb BX17.out hb)
     replace BX18 := Am (Kb BX18.out hb)
     replace BX19 := Am (Kb BX19.out hb)
     replace BX20 := Am (Kb BX20.out hb)
     replace BX21 := Am (Kb BX21.out hb)
     replace HB := Am (Bh HB.out HB.out.size hb)
     clear hb
     refine hK.out _ _ ⟨BX16.out, BX17.out, BX18.out, BX19.out, BX20.out⟩ (fun hHeld => ?_)
     clear hK K
     refine norm_ (a' := ?_) ?_ ?_
     rotate_left
     ·show Act.put _ (some 300) _ = _
      simp only [Act.put, Lt, Lz, Ls, i64_w, i32_w]
      rfl
     refine pure_ (i := 47) (N := some 301) (v := ?_) (a' := ?_) #[true, true, true, true, true, true, true, true, true, true, true, true, true, true, true, true, true, true, true, true, true, true, true, true, true, true, true, true, true, true, true, true, true, true, true, true, true, true, true, true, true, true, true, true, true, true, true, true, false] rfl rfl (by kernel_rfl) (fun _ _ _ h => h) (Or.inl ⟨by rfl, ?_⟩) ?_ ?_
     rotate_left
     ·intro w'
      go_simp
      with_reducible rfl
     rotate_left
     ·simp only [Act.put, Lt, Lz, Ls, i64_w, i32_w]
      rfl
     refine pure_ (i := 48) (N := some 302) (v := ?_) (a' := ?_) #[true, true, true, true, true, true, true, true, true, true, true, true, true, true, true, true, true, true, true, true, true, true, true, true, true, true, true, true, true, true, true, true, true, true, true, true, true, true, true, true, true, true, true, true, true, true, true, true, true] rfl rfl (by kernel_rfl) (fun _ _ _ h => h) (Or.inl ⟨by rfl, ?_⟩) ?_ ?_
     rotate_left
     ·intro w'
      go_simp
      with_reducible rfl
     rotate_left
     ·simp only [Act.put, Lt, Lz, Ls, i64_w, i32_w]
      rfl
     refine done_ (by kernel_rfl) ?_
     rcases HF.out with hF | hF
     ·as_aux_lemma =>
       clear HF
       have HF := Am hF
       clear hF
       obtain ⟨h56, hF⟩ := HF.out
       clear HF
       have HF := Am hF
       clear hF
       have H56 := Am h56
       clear h56
       have hb_ := H56.out
       clear H56
       subst hb_
       obtain ⟨⟨K57, h57⟩, hF⟩ := HF.out
       clear HF
       have HF := Am hF
       clear hF
       have H57 := Am h57
       clear h57
       go_wp2_with fail
       (refine (impl_ReadAttr.calls K57 r34 r37 r35 r36 true w83 H57.out (EnvM.below HMw.out (by repeat (first | exact HB.out | apply Ba | apply Bn | apply Bd)))).mono ?_)
       rintro e w84 ⟨v1_, rfl, hS0, hb⟩
       have X22 : Ad (Kd.R (Kd.int .i64) 3 w84 w.heap.size (fun k => w83.heap.size ≤ k ∧ k < w84.heap.size) v1_ r36) := ⟨Rm (Kd.R_lower (Ro hS0) HB.out.size) (fun k hk => ⟨hk.2.1, hk.2.2.1⟩)⟩
       have Z84 : Ad (w83.heap.size ≤ w84.heap.size) := ⟨hb.size⟩
       replace X1 := Am (Rb X1.out hb)
       replace X2 := Am (Rb X2.out hb)
       replace X14 := Am (Rb X14.out hb)
       replace X15 := Am (Rb X15.out hb)
       replace X16 := Am (Rb X16.out hb)
       replace X17 := Am (Rb X17.out hb)
       replace X18 := Am (Rb X18.out hb)
       replace X19 := Am (Rb X19.out hb)
       replace X20 := Am (Rb X20.out hb)
       replace X21 := Am (Rb X21.out hb)
       replace BX1 := Am (Kb BX1.out hb)
       replace BX2 := Am (Kb BX2.out hb)
       replace BX14 := Am (Kb BX14.out hb)
       replace BX15 := Am (Kb BX15.out hb)
       replace BX16 := Am (Kb BX16.out hb)
       replace BX17 := Am (Kb BX17.out hb)
       replace BX18 := Am (Kb BX18.out hb)
       replace BX19 := Am (Kb BX19.out hb)
       replace BX20 := Am (Kb BX20.out hb)
       replace BX21 := Am (Kb BX21.out hb)
       replace HB := Am (Bh HB.out HB.out.size hb)
       clear hb hS0
       obtain ⟨A22_, c22_, rfl⟩ := Rs X22.out
       obtain ⟨⟨K58, h58⟩, hF⟩ := HF.out
       clear HF
       have HF := Am hF
       clear hF
       have H58 := Am h58
       clear h58
       have qBX16_0 : w84.cell? ⟨w61.heap.size, 0, none⟩ = some (.int .i64 r35) := (Kc BX16.out 0).trans rfl
       have qBX16_1 : w84.cell? ⟨w61.heap.size, 1, none⟩ = some (.slice A16_ r36.length c16_) := (Kc BX16.out 1).trans rfl
       go_upto_region 40 with (first | ((refine Gd (N := 312) rfl ?_); first | refine Er rfl (load_run BX16.out 2 rfl 26 _ (by rfl) (by rfl) _ Tryz.underlying26 rfl (by kernel_rfl)) ?_) | ((refine Gd (N := 313) rfl ?_); first | refine Er rfl (load_run BX16.out 2 rfl 26 _ (by rfl) (by rfl) _ Tryz.underlying26 rfl (by kernel_rfl)) ?_))
       clear qBX16_0 qBX16_1
       refine letC (fun W_ => Below w84.heap.size w84 W_ ∧ W_.heap[w84.heap.size]? = some (.cells #[.int .i64 r35, .slice A22_ r36.length c22_] 26 (0, 0))) ?_ ?_
       ·refine ⟨?_, ?_⟩
        ·repeat (first | exact Below.refl _ _ | apply Ba | refine Bs ?_ (by first | exact Nat.le_refl _ | omega | (simp; done)))
        ·exact blk_new w84 (.cells #[.int .i64 r35, .slice A22_ r36.length c22_] 26)
       intro w85 hq_
       obtain ⟨hb, hx0_⟩ := hq_
       have Z85 : Ad (w84.heap.size ≤ w85.heap.size) := ⟨hb.size⟩
       replace X1 := Am (Rb X1.out hb)
       replace X2 := Am (Rb X2.out hb)
       replace X14 := Am (Rb X14.out hb)
       replace X15 := Am (Rb X15.out hb)
       replace X16 := Am (Rb X16.out hb)
       replace X17 := Am (Rb X17.out hb)
       replace X18 := Am (Rb X18.out hb)
       replace X19 := Am (Rb X19.out hb)
       replace X20 := Am (Rb X20.out hb)
       replace X21 := Am (Rb X21.out hb)
       replace X22 := Am (Rb X22.out hb)
       replace BX1 := Am (Kb BX1.out hb)
       replace BX2 := Am (Kb BX2.out hb)
       replace BX14 := Am (Kb BX14.out hb)
       replace BX15 := Am (Kb BX15.out hb)
       replace BX16 := Am (Kb BX16.out hb)
       replace BX17 := Am (Kb BX17.out hb)
       replace BX18 := Am (Kb BX18.out hb)
       replace BX19 := Am (Kb BX19.out hb)
       replace BX20 := Am (Kb BX20.out hb)
       replace BX21 := Am (Kb BX21.out hb)
       replace HB := Am (Bh HB.out HB.out.size hb)
       clear hb
       have BX22 : Ad (w85.heap[w84.heap.size]? = some (.cells #[.int .i64 r35, .slice A22_ r36.length c22_] 26 (0, 0))) := ⟨hx0_⟩
       clear hx0_
       have GBX22 : Ad (w84.heap.size < w85.heap.size) := ⟨Kl BX22.out⟩
       have qBX16_0 : w85.cell? ⟨w61.heap.size, 0, none⟩ = some (.int .i64 r35) := (Kc BX16.out 0).trans rfl
       have qBX16_1 : w85.cell? ⟨w61.heap.size, 1, none⟩ = some (.slice A16_ r36.length c16_) := (Kc BX16.out 1).trans rfl
       have qBX22_0 : w85.cell? ⟨w84.heap.size, 0, none⟩ = some (.int .i64 r35) := (Kc BX22.out 0).trans rfl
       have qBX22_1 : w85.cell? ⟨w84.heap.size, 1, none⟩ = some (.slice A22_ r36.length c22_) := (Kc BX22.out 1).trans rfl
       go_wp2_with (first | ((refine Gd (N := 312) rfl ?_); first | refine Er rfl (load_run BX16.out 2 rfl 26 _ (by rfl) (by rfl) _ Tryz.underlying26 rfl (by kernel_rfl)) ?_ | refine Er rfl (load_run BX22.out 2 rfl 26 _ (by rfl) (by rfl) _ Tryz.underlying26 rfl (by kernel_rfl)) ?_) | ((refine Gd (N := 313) rfl ?_); first | refine Er rfl (load_run BX16.out 2 rfl 26 _ (by rfl) (by rfl) _ Tryz.underlying26 rfl (by kernel_rfl)) ?_ | refine Er rfl (load_run BX22.out 2 rfl 26 _ (by rfl) (by rfl) _ Tryz.underlying26 rfl (by kernel_rfl)) ?_))
       clear qBX16_0 qBX16_1 qBX22_0 qBX22_1
       (refine (laws_sameAttr.calls K58 r35 A22_ c22_ r36 r35 A16_ c16_ r36 true w85 (Rr X22.out).2.2 (Rr X22.out).2.1 (Rr X16.out).2.2 (Rr X16.out).2.1 H58.out).mono ?_)
       rintro e w86 ⟨rfl, hb⟩
       have Z86 : Ad (w85.heap.size ≤ w86.heap.size) := ⟨hb.size⟩
       replace X1 := Am (Rb X1.out hb)
       replace X2 := Am (Rb X2.out hb)
       replace X14 := Am (Rb X14.out hb)
       replace X15 := Am (Rb X15.out hb)
       replace X16 := Am (Rb X16.out hb)
       replace X17 := Am (Rb X17.out hb)
       replace X18 := Am (Rb X18.out hb)
       replace X19 := Am (Rb X19.out hb)
       replace X20 := Am (Rb X20.out hb)
       replace X21 := Am (Rb X21.out hb)
       replace X22 := Am (Rb X22.out hb)
       replace BX1 := Am (Kb BX1.out hb)
       replace BX2 := Am (Kb BX2.out hb)
       replace BX14 := Am (Kb BX14.out hb)
       replace BX15 := Am (Kb BX15.out hb)
       replace BX16 := Am (Kb BX16.out hb)
       replace BX17 := Am (Kb BX17.out hb)
       replace BX18 := Am (Kb BX18.out hb)
       replace BX19 := Am (Kb BX19.out hb)
       replace BX20 := Am (Kb BX20.out hb)
       replace BX21 := Am (Kb BX21.out hb)
       replace BX22 := Am (Kb BX22.out hb)
       replace HB := Am (Bh HB.out HB.out.size hb)
       clear hb
       go_wp2
       go_ret
       exact ⟨rfl, HB.out⟩
     ·as_aux_lemma =>
       clear HF
       have HF := Am hF
       clear hF
       obtain ⟨h59, hF⟩ := HF.out
       clear HF
       have HF := Am hF
       clear hF
       have H59 := Am h59
       clear h59
       have hb_ := H59.out
       clear H59
       subst hb_
       go_wp2
       go_ret
       exact ⟨rfl, HB.out⟩
end Go.Proofs.YtpboalgecejoeaaGreatDoor.QFnAttrs
