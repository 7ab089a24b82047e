-- Written by a program of this session (wip/mk.py) over the kit's print: Lean checks it.
import Derived.Test.YtmknjfnhfcljcaaDoorQFnCmdsx0
import Derived.Test.YtmknjfnhfcljcaaDoorQFnCmdsx2
import Derived.Test.YtmknjfnhfcljcaaDoorQFnCmdsx3
import Derived.Test.YtmknjfnhfcljcaaDoorQFnCmdsx4
import Derived.Test.YtmknjfnhfcljcaaDoorQFnCmdsx5
import Derived.Test.YtmknjfnhfcljcaaDoorQFnCmdsx7
import Derived.Test.YtmknjfnhfcljcaaDoorQFnCmdsx8
import Derived.Test.YtmknjfnhfcljcaaDoorQFnCmdsx9
import Derived.Test.YtmknjfnhfcljcaaDoorQFnCmdsx10
import Derived.Test.YtmknjfnhfcljcaaDoorQFnCmdsx11
import Derived.Test.YtmknjfnhfcljcaaDoorQFnCmdsx12
namespace Go.Proofs.YtmknjfnhfcljcaaDoor.QFnCmds
set_option maxHeartbeats 8000000
set_option maxRecDepth 100000
open Bool renaming true → T_, false → F_
open List renaming map_toArray → Lm, map_cons → Lc, map_nil → Ln
open Go.Proofs.YtmknjfnhfcljcaaDoorW.PrintWords renaming below_alloc → Ba, pw_below_drewN → Bn, below_drew1 → Bd, below_set → Bs, gate_dst → Gd, blk_alloc → Ka, blk_below → Kb, blk_cell → Kc
open List renaming setIfInBounds_toArray → Lt, set_cons_zero → Lz, set_cons_succ → Ls
open Go.Proofs.YtmknjfnhfcljcaaDoorW.PrintWords.Aside0 renaming mk → Am
open Go.Proofs.YtmknjfnhfcljcaaDoorW.PrintWords renaming Aside0 → Ad
open Go.RowKit Go.Proofs.YtmknjfnhfcljcaaDoorW.PrintWords Go.Proofs.YtmknjfnhfcljcaaDoorW.PrintLast Go.Proofs.YtmknjfnhfcljcaaDoorW.PrintMore
attribute [local go_sem] max2_int min2_int max_two min_two max_three min_three max_four min_four   -- for this text's walks alone
open Go.Proofs.YtmknjfnhfcljcaaDoorW.PrintWords.Kd renaming R_below → Rb, R_mono → Rm, R_bound → Ro, C_below → Cb, R_reads' → Rr, R_slice → Rs, event_run → Er
open Go.Proofs.YtmknjfnhfcljcaaDoorW.PrintWords renaming below_then → Bh, blk_lt → Kl
set_option linter.unusedVariables false
set_option linter.unusedSimpArgs false
section
open Go.RowKit
theorem load_run {P : Program} {o : Oper} {a : Act} {W : World} {g : Nat} {cs : Array Value} {t : TypeId} (hg : W.heap[g]? = some (.cells cs t (0, 0))) (n : Nat) (hn : cs.size = n) (ty : TypeId) (x : Operand) (ho : o.op = .load ty x)
  (hx : a.eval x = .pointer (some ⟨g, 0, none⟩)) (d : TypeDesc) (hu : P.underlying ty = some d) (hd : (match d with | .struct _ | .array _ _ => true | _ => false) = true) (hi : (P.info? ty).map (·.size) = some n) :
  (execOp a.eval o).run P W = .ok (.value (.agg cs)) W := by
 subst hn
 unfold execOp
 simp only [ho, hx, Instr.loadAt, Instr.sureAddr, Sem.run_bind, Sem.run_pure, Result.andThen_ok, run_loadVar_row W g t ty cs (0, 0) d hg hu hd hi]
theorem store_run {P : Program} {o : Oper} {a : Act} {W : World} {g : Nat} {cs cs' : Array Value} {t : TypeId} (hg : W.heap[g]? = some (.cells cs t (0, 0))) (n : Nat) (hn : cs.size = n) (hn' : cs'.size = n) (ty : TypeId) (x y : Operand) (ho : o.op = .store ty x y)
  (hx : a.eval x = .pointer (some ⟨g, 0, none⟩)) (hy : a.eval y = .agg cs') (hi : (P.info? ty).map (·.size) = some n) (h1 : cs'.all (·.oneCell') = true) :
  (execOp a.eval o).run P W = .ok .skip (W.setRow g cs') := by
 unfold execOp
 simp only [ho, hx, hy, Instr.storeAt, Instr.sureAddr, Sem.run_bind, Sem.run_pure, Result.andThen_ok, run_storeVar_row W g t ty cs cs' hg (by rw [hn']; exact hi) (by rw [hn, hn']) h1]
theorem kept_setRow (W : World) (g : Nat) (cs : Array Value) : Kept W (W.setRow g cs) (fun k => k = g) := ⟨by simp, fun i _ hi => setRow_other W g i cs hi⟩
theorem below_setRow_ {B g : Nat} {w0 w : World} (hb : Below B w0 w) (hBg : B ≤ g) (cs : Array Value) : Below B w0 (w.setRow g cs) :=
 ⟨hb.os, hb.tape, hb.output, by simpa using hb.size, fun k hk => (setRow_other w g k cs (by omega)).trans (hb.block k hk)⟩
end
def laws_FnCmds.Facts (l0 : List Int) (l1 : List Int) : Prop :=
 ((laws_big.f l0 l1 = some true) ∧ True) ∨ ((laws_big.f l0 l1 = some false) ∧ (∃ r1 : Int, ∃ r2 : Int, ∃ r3 : Int, ∃ r4 : Int, ∃ r5 : Int, (spec_DrawCmdText.f l0 = some (r1, r2, r3, r4, r5)) ∧ ((∃ r6 : ByteArray, (∃ K, impl_CmdText.f K r1 r2 r3 r4 r5 = some (r6, true)) ∧ ((∃ K, spec_CmdText.f K r1 r2 r3 r4 r5 = some (r6, true)) ∧ ((impl_GoodCmd.f r1 r2 r3 r4 r5 = some true) ∧ ((spec_GoodCmd.f r1 r2 r3 r4 r5 = some true) ∧ ((∃ K, impl_ReadCmd.f K r6 = some (r1, r2, r3, r4, r5, 0, true)) ∧ (∃ r7 : List Int, (impl_TouchesOf.f r1 r2 r3 r4 r5 = some (r7, true)) ∧ ((( (0 < (r7 : List Int).length)) ∧ (∃ K, impl_Interfere.f K r1 r2 r3 r4 r5 r1 r2 r3 r4 r5 = some (true, true)) ∧ ∃ r8 : Int, ∃ r9 : Int, ∃ r10 : Int, ∃ r11 : Int, ∃ r12 : Int, ∃ r13 : Int, ∃ r14 : Int, ∃ r15 : Int, ∃ r16 : Int, ∃ r17 : Int, (spec_DrawInterfere.f l1 = some (r8, r9, r10, r11, r12, r13, r14, r15, r16, r17)) ∧ ∃ r18 : Bool, ∃ r19 : Bool, (∃ K, impl_Interfere.f K r8 r9 r10 r11 r12 r13 r14 r15 r16 r17 = some (r18, r19)) ∧ (∃ K, spec_Interfere.f K r8 r9 r10 r11 r12 r13 r14 r15 r16 r17 = some (r18, r19)) ∧ (∃ K, impl_Interfere.f K r13 r14 r15 r16 r17 r8 r9 r10 r11 r12 = some (r18, r19)) ∧ ∃ r20 : ByteArray, (∃ K, spec_DrawReadCmd.f K l1 = some r20) ∧ ∃ r21 : Int, ∃ r22 : Int, ∃ r23 : Int, ∃ r24 : Int, ∃ r25 : Int, ∃ r26 : Int, ∃ r27 : Bool, (∃ K, impl_ReadCmd.f K r20 = some (r21, r22, r23, r24, r25, r26, r27)) ∧ (∃ K, spec_ReadCmd.f K r20 = some (r21, r22, r23, r24, r25, r26, r27)) ∧ ∃ r28 : Int, ∃ r29 : Int, ∃ r30 : Int, ∃ r31 : Int, ∃ r32 : Int, (spec_DrawTouchesOf.f l1 = some (r28, r29, r30, r31, r32)) ∧ ∃ r33 : List Int, ∃ r34 : Bool, (impl_TouchesOf.f r28 r29 r30 r31 r32 = some (r33, r34)) ∧ ∃ r35 : List Int, (∃ K, spec_TouchesOf.f K r28 r29 r30 r31 r32 = some (r35, r34)) ∧ (∃ K, laws_sameInts.f K r33 r35 = some true) ∧ True) ∨ ((¬  (0 < (r7 : List Int).length)) ∧ (∃ K, impl_Interfere.f K r1 r2 r3 r4 r5 r1 r2 r3 r4 r5 = some (false, true)) ∧ ∃ r36 : Int, ∃ r37 : Int, ∃ r38 : Int, ∃ r39 : Int, ∃ r40 : Int, ∃ r41 : Int, ∃ r42 : Int, ∃ r43 : Int, ∃ r44 : Int, ∃ r45 : Int, (spec_DrawInterfere.f l1 = some (r36, r37, r38, r39, r40, r41, r42, r43, r44, r45)) ∧ ∃ r46 : Bool, ∃ r47 : Bool, (∃ K, impl_Interfere.f K r36 r37 r38 r39 r40 r41 r42 r43 r44 r45 = some (r46, r47)) ∧ (∃ K, spec_Interfere.f K r36 r37 r38 r39 r40 r41 r42 r43 r44 r45 = some (r46, r47)) ∧ (∃ K, impl_Interfere.f K r41 r42 r43 r44 r45 r36 r37 r38 r39 r40 = some (r46, r47)) ∧ ∃ r48 : ByteArray, (∃ K, spec_DrawReadCmd.f K l1 = some r48) ∧ ∃ r49 : Int, ∃ r50 : Int, ∃ r51 : Int, ∃ r52 : Int, ∃ r53 : Int, ∃ r54 : Int, ∃ r55 : Bool, (∃ K, impl_ReadCmd.f K r48 = some (r49, r50, r51, r52, r53, r54, r55)) ∧ (∃ K, spec_ReadCmd.f K r48 = some (r49, r50, r51, r52, r53, r54, r55)) ∧ ∃ r56 : Int, ∃ r57 : Int, ∃ r58 : Int, ∃ r59 : Int, ∃ r60 : Int, (spec_DrawTouchesOf.f l1 = some (r56, r57, r58, r59, r60)) ∧ ∃ r61 : List Int, ∃ r62 : Bool, (impl_TouchesOf.f r56 r57 r58 r59 r60 = some (r61, r62)) ∧ ∃ r63 : List Int, (∃ K, spec_TouchesOf.f K r56 r57 r58 r59 r60 = some (r63, r62)) ∧ (∃ K, laws_sameInts.f K r61 r63 = some true) ∧ True)))))))) ∨ (∃ r64 : ByteArray, (∃ K, impl_CmdText.f K r1 r2 r3 r4 r5 = some (r64, false)) ∧ (∃ K, spec_CmdText.f K r1 r2 r3 r4 r5 = some (r64, false)) ∧ (impl_GoodCmd.f r1 r2 r3 r4 r5 = some false) ∧ (spec_GoodCmd.f r1 r2 r3 r4 r5 = some false) ∧ ∃ r65 : Int, ∃ r66 : Int, ∃ r67 : Int, ∃ r68 : Int, ∃ r69 : Int, ∃ r70 : Int, ∃ r71 : Int, ∃ r72 : Int, ∃ r73 : Int, ∃ r74 : Int, (spec_DrawInterfere.f l1 = some (r65, r66, r67, r68, r69, r70, r71, r72, r73, r74)) ∧ ∃ r75 : Bool, ∃ r76 : Bool, (∃ K, impl_Interfere.f K r65 r66 r67 r68 r69 r70 r71 r72 r73 r74 = some (r75, r76)) ∧ (∃ K, spec_Interfere.f K r65 r66 r67 r68 r69 r70 r71 r72 r73 r74 = some (r75, r76)) ∧ (∃ K, impl_Interfere.f K r70 r71 r72 r73 r74 r65 r66 r67 r68 r69 = some (r75, r76)) ∧ ∃ r77 : ByteArray, (∃ K, spec_DrawReadCmd.f K l1 = some r77) ∧ ∃ r78 : Int, ∃ r79 : Int, ∃ r80 : Int, ∃ r81 : Int, ∃ r82 : Int, ∃ r83 : Int, ∃ r84 : Bool, (∃ K, impl_ReadCmd.f K r77 = some (r78, r79, r80, r81, r82, r83, r84)) ∧ (∃ K, spec_ReadCmd.f K r77 = some (r78, r79, r80, r81, r82, r83, r84)) ∧ ∃ r85 : Int, ∃ r86 : Int, ∃ r87 : Int, ∃ r88 : Int, ∃ r89 : Int, (spec_DrawTouchesOf.f l1 = some (r85, r86, r87, r88, r89)) ∧ ∃ r90 : List Int, ∃ r91 : Bool, (impl_TouchesOf.f r85 r86 r87 r88 r89 = some (r90, r91)) ∧ ∃ r92 : List Int, (∃ K, spec_TouchesOf.f K r85 r86 r87 r88 r89 = some (r92, r91)) ∧ (∃ K, laws_sameInts.f K r90 r92 = some true) ∧ True))))
theorem laws_FnCmds.calls (A0 : Option Addr) (c0 : Nat) (l0 : List Int) (A1 : Option Addr) (c1 : Nat) (l1 : List Int) (w : World) (hr0 : Kd.C (Kd.int .u8) w A0 l0.length l0) (hc0 : l0.length ≤ c0) (hr1 : Kd.C (Kd.int .u8) w A1 l1.length l1) (hc1 : l1.length ≤ c1) (h : laws_FnCmds.Facts l0 l1) (hM : EnvM 0 w) (hT : EnvT Tryd.prog w) :
  Calls Tryd.prog 3 #[.slice A0 l0.length c0, .slice A1 l1.length c1] w fun e w' => e = .returned (.bool true) ∧ Below w.heap.size w w' := by
 have HMw := Am hM
 clear hM
 have HTw := Am hT
 clear hT
 unfold laws_FnCmds.Facts at h
 have HR0 := Am hr0
 have HC0 := Am hc0
 clear hr0 hc0
 have HR1 := Am hr1
 have HC1 := Am hc1
 clear hr1 hc1
 have HF := Am h
 clear h
 have HB := Am (Below.refl w.heap.size w)
 rcases HF.out with hF | hF
 ·clear HF
  have HF := Am hF
  clear hF
  obtain ⟨h1, hF⟩ := HF.out
  clear HF
  have HF := Am hF
  clear hF
  have H1 := Am h1
  clear h1
  go_enter Tryd.func3, Tryd.ntmps3
  go_wp2_with fail
  (refine (laws_big.calls A0 c0 l0 A1 c1 l1 true w (Cb HR0.out HB.out) HC0.out (Cb HR1.out HB.out) HC1.out H1.out).mono ?_)
  rintro e w1 ⟨rfl, hd⟩
  have hb := hd.below
  clear hd
  have Z1 : Ad (w.heap.size ≤ w1.heap.size) := ⟨hb.size⟩
  replace HB := Am (Bh HB.out HB.out.size hb)
  clear hb
  go_wp2
  go_ret
  exact ⟨rfl, HB.out⟩
 ·clear HF
  have HF := Am hF
  clear hF
  obtain ⟨h2, hF⟩ := HF.out
  clear HF
  have HF := Am hF
  clear hF
  have H2 := Am h2
  clear h2
  go_enter Tryd.func3, Tryd.ntmps3
  go_wp2_with fail
  (refine (laws_big.calls A0 c0 l0 A1 c1 l1 false w (Cb HR0.out HB.out) HC0.out (Cb HR1.out HB.out) HC1.out H2.out).mono ?_)
  rintro e w2 ⟨rfl, hd⟩
  have hb := hd.below
  clear hd
  have Z2 : Ad (w.heap.size ≤ w2.heap.size) := ⟨hb.size⟩
  replace HB := Am (Bh HB.out HB.out.size hb)
  clear hb
  obtain ⟨r1, r2, r3, r4, r5, h3, hF⟩ := HF.out
  clear HF
  have HF := Am hF
  clear hF
  have H3 := Am h3
  clear h3
  go_wp2_with fail
  (refine (spec_DrawCmdText.calls A0 c0 l0 r1 r2 r3 r4 r5 w2 (Cb HR0.out HB.out) HC0.out H3.out).mono ?_)
  rintro e w3 ⟨rfl, hb⟩
  have Z3 : Ad (w2.heap.size ≤ w3.heap.size) := ⟨hb.size⟩
  replace HB := Am (Bh HB.out HB.out.size hb)
  clear hb
  rcases HF.out with hF | hF
  ·clear HF
   have HF := Am hF
   clear hF
   obtain ⟨r6, ⟨K4, h4⟩, hF⟩ := HF.out
   clear HF
   have HF := Am hF
   clear hF
   have H4 := Am h4
   clear h4
   go_upto_region 4 with (fail)
   refine letC (fun W_ => Below w3.heap.size w3 W_ ∧ W_.heap[w3.heap.size]? = some (.cells #[.int .i64 r1, .int .i64 r2, .int .i64 r3, .int .i64 r4, .int .i64 r5] 25 (0, 0))) ?_ ?_
   ·refine ⟨?_, ?_⟩
    ·repeat (first | exact Below.refl _ _ | apply Ba | refine Bs ?_ (by first | exact Nat.le_refl _ | omega | (simp; done)))
    ·exact blk_new w3 (.cells #[.int .i64 r1, .int .i64 r2, .int .i64 r3, .int .i64 r4, .int .i64 r5] 25)
   intro w4 hq_
   obtain ⟨hb, hx0_⟩ := hq_
   have Z4 : Ad (w3.heap.size ≤ w4.heap.size) := ⟨hb.size⟩
   replace HB := Am (Bh HB.out HB.out.size hb)
   clear hb
   have BX1 : Ad (w4.heap[w3.heap.size]? = some (.cells #[.int .i64 r1, .int .i64 r2, .int .i64 r3, .int .i64 r4, .int .i64 r5] 25 (0, 0))) := ⟨hx0_⟩
   clear hx0_
   have GBX1 : Ad (w3.heap.size < w4.heap.size) := ⟨Kl BX1.out⟩
   go_wp2_with (first | ((refine Gd (N := 43) rfl ?_); first | refine Er rfl (load_run BX1.out 5 rfl 25 _ (by rfl) (by rfl) _ Tryd.underlying25 rfl (by kernel_rfl)) ?_))
   (refine (impl_CmdText.calls K4 r1 r2 r3 r4 r5 r6 true w4 H4.out (EnvT.below HTw.out (by repeat (first | exact HB.out | apply Ba | apply Bn | apply Bd)))).mono ?_)
   rintro e w5 ⟨rfl, hb⟩
   have Z5 : Ad (w4.heap.size ≤ w5.heap.size) := ⟨hb.size⟩
   replace BX1 := Am (Kb BX1.out hb)
   replace HB := Am (Bh HB.out HB.out.size hb)
   clear hb
   obtain ⟨⟨K5, h5⟩, hF⟩ := HF.out
   clear HF
   have HF := Am hF
   clear hF
   have H5 := Am h5
   clear h5
   go_wp2_with (first | ((refine Gd (N := 48) rfl ?_); first | refine Er rfl (load_run BX1.out 5 rfl 25 _ (by rfl) (by rfl) _ Tryd.underlying25 rfl (by kernel_rfl)) ?_))
   (refine (spec_CmdText.calls K5 r1 r2 r3 r4 r5 r6 true w5 H5.out).mono ?_)
   rintro e w6 ⟨rfl, hb⟩
   have Z6 : Ad (w5.heap.size ≤ w6.heap.size) := ⟨hb.size⟩
   replace BX1 := Am (Kb BX1.out hb)
   replace HB := Am (Bh HB.out HB.out.size hb)
   clear hb
   obtain ⟨h6, hF⟩ := HF.out
   clear HF
   have HF := Am hF
   clear hF
   have H6 := Am h6
   clear h6
   have qBX1_0 : w6.cell? ⟨w3.heap.size, 0, none⟩ = some (.int .i64 r1) := (Kc BX1.out 0).trans rfl
   have qBX1_1 : w6.cell? ⟨w3.heap.size, 1, none⟩ = some (.int .i64 r2) := (Kc BX1.out 1).trans rfl
   have qBX1_2 : w6.cell? ⟨w3.heap.size, 2, none⟩ = some (.int .i64 r3) := (Kc BX1.out 2).trans rfl
   have qBX1_3 : w6.cell? ⟨w3.heap.size, 3, none⟩ = some (.int .i64 r4) := (Kc BX1.out 3).trans rfl
   have qBX1_4 : w6.cell? ⟨w3.heap.size, 4, none⟩ = some (.int .i64 r5) := (Kc BX1.out 4).trans rfl
   go_wp2_with (first | ((refine Gd (N := 61) rfl ?_); first | refine Er rfl (load_run BX1.out 5 rfl 25 _ (by rfl) (by rfl) _ Tryd.underlying25 rfl (by kernel_rfl)) ?_))
   clear qBX1_0 qBX1_1 qBX1_2 qBX1_3 qBX1_4
   refine start_ (n := 21) (S := fun w' => w'.heap[w3.heap.size]? = some (.cells #[.int .i64 r1, .int .i64 r2, .int .i64 r3, .int .i64 r4, .int .i64 r5] 25 (0, 0))) (ds := []) #[F_, F_, F_, F_, F_, F_, F_, F_, F_, F_, F_, F_, F_, F_, F_, F_, F_, F_, F_, F_, F_] (by kernel_rfl) rfl rfl BX1.out (fun hHeld => ?_)
   have hb : Below w6.heap.size w6 w6.drew := below_drew (Below.refl _ _)
   generalize w6.drew = w7 at hb hHeld ⊢
   have Z7 : Ad (w6.heap.size ≤ w7.heap.size) := ⟨hb.size⟩
   replace BX1 := Am (Kb BX1.out hb)
   replace HB := Am (Bh HB.out HB.out.size hb)
   clear hb
   refine pure_ (i := 0) (N := some 52) (v := ?_) (a' := ?_) #[T_, F_, F_, F_, F_, F_, F_, F_, F_, F_, F_, F_, F_, F_, F_, F_, F_, F_, F_, F_, F_] rfl rfl (by kernel_rfl) (fun _ _ _ h => h) (Or.inl ⟨by rfl, ?_⟩) ?_ ?_
   rotate_left
   ·intro w'
    go_simp
    with_reducible rfl
   rotate_left
   ·simp only [Act.put, Lt, Lz, Ls, i64_w, i32_w]
    rfl
   refine pure_ (i := 1) (N := some 53) (v := ?_) (a' := ?_) #[T_, T_, F_, F_, F_, F_, F_, F_, F_, F_, F_, F_, F_, F_, F_, F_, F_, F_, F_, F_, F_] rfl rfl (by kernel_rfl) (fun _ _ _ h => h) (Or.inl ⟨by rfl, ?_⟩) ?_ ?_
   rotate_left
   ·intro w'
    go_simp
    with_reducible rfl
   rotate_left
   ·simp only [Act.put, Lt, Lz, Ls, i64_w, i32_w]
    rfl
   refine pure_ (i := 2) (N := some 54) (v := ?_) (a' := ?_) #[T_, T_, T_, F_, F_, F_, F_, F_, F_, F_, F_, F_, F_, F_, F_, F_, F_, F_, F_, F_, F_] rfl rfl (by kernel_rfl) (fun _ _ _ h => h) (Or.inl ⟨by rfl, ?_⟩) ?_ ?_
   rotate_left
   ·intro w'
    go_simp
    with_reducible rfl
   rotate_left
   ·simp only [Act.put, Lt, Lz, Ls, i64_w, i32_w]
    rfl
   refine pure_ (i := 3) (N := some 55) (v := ?_) (a' := ?_) #[T_, T_, T_, T_, F_, F_, F_, F_, F_, F_, F_, F_, F_, F_, F_, F_, F_, F_, F_, F_, F_] rfl rfl (by kernel_rfl) (fun _ _ _ h => h) (Or.inl ⟨by rfl, ?_⟩) ?_ ?_
   rotate_left
   ·intro w'
    go_simp
    with_reducible rfl
   rotate_left
   ·simp only [Act.put, Lt, Lz, Ls, i64_w, i32_w]
    rfl
   refine pure_ (i := 4) (N := some 56) (v := ?_) (a' := ?_) #[T_, T_, T_, T_, T_, F_, F_, F_, F_, F_, F_, F_, F_, F_, F_, F_, F_, F_, F_, F_, F_] rfl rfl (by kernel_rfl) (fun _ _ _ h => h) (Or.inl ⟨by rfl, ?_⟩) ?_ ?_
   rotate_left
   ·intro w'
    go_simp
    with_reducible rfl
   rotate_left
   ·simp only [Act.put, Lt, Lz, Ls, i64_w, i32_w]
    rfl
   refine pure_ (i := 5) (N := some 57) (v := ?_) (a' := ?_) #[T_, T_, T_, T_, T_, T_, F_, F_, F_, F_, F_, F_, F_, F_, F_, F_, F_, F_, F_, F_, F_] rfl rfl (by kernel_rfl) (fun _ _ _ h => h) (Or.inl ⟨by rfl, ?_⟩) ?_ ?_
   rotate_left
   ·intro w'
    go_simp
    with_reducible rfl
   rotate_left
   ·simp only [Act.put, Lt, Lz, Ls, i64_w, i32_w]
    rfl
   refine pure_ (i := 6) (N := some 58) (v := ?_) (a' := ?_) #[T_, T_, T_, T_, T_, T_, T_, F_, F_, F_, F_, F_, F_, F_, F_, F_, F_, F_, F_, F_, F_] rfl rfl (by kernel_rfl) (fun _ _ _ h => h) (Or.inl ⟨by rfl, ?_⟩) ?_ ?_
   rotate_left
   ·intro w'
    go_simp
    with_reducible rfl
   rotate_left
   ·simp only [Act.put, Lt, Lz, Ls, i64_w, i32_w]
    rfl
   refine pure_ (i := 7) (N := some 59) (v := ?_) (a' := ?_) #[T_, T_, T_, T_, T_, T_, T_, T_, F_, F_, F_, F_, F_, F_, F_, F_, F_, F_, F_, F_, F_] rfl rfl (by kernel_rfl) (fun _ _ _ h => h) (Or.inl ⟨by rfl, ?_⟩) ?_ ?_
   rotate_left
   ·intro w'
    go_simp
    with_reducible rfl
   rotate_left
   ·simp only [Act.put, Lt, Lz, Ls, i64_w, i32_w]
    rfl
   refine pure_ (i := 8) (N := some 60) (v := ?_) (a' := ?_) #[T_, T_, T_, T_, T_, T_, T_, T_, T_, F_, F_, F_, F_, F_, F_, F_, F_, F_, F_, F_, F_] rfl rfl (by kernel_rfl) (fun _ _ _ h => h) (Or.inl ⟨by rfl, ?_⟩) ?_ ?_
   rotate_left
   ·intro w'
    go_simp
    with_reducible rfl
   rotate_left
   ·simp only [Act.put, Lt, Lz, Ls, i64_w, i32_w]
    rfl
   refine take_ (i := 9) (N := some 61) (v := ?_) (a' := ?_) #[T_, T_, T_, T_, T_, T_, T_, T_, T_, T_, F_, F_, F_, F_, F_, F_, F_, F_, F_, F_, F_] rfl rfl (by kernel_rfl) (fun _ _ _ h => h) (Or.inl ⟨by rfl, ?_⟩) hHeld ?_ ?_
   rotate_left
   ·intro w' s0
    first | (refine Eq.trans (load_run s0 5 rfl 25 _ (by rfl) (by rfl) _ Tryd.underlying25 rfl (by kernel_rfl)) ?_; with_reducible rfl)
   rotate_left
   ·simp only [Act.put, Lt, Lz, Ls, i64_w, i32_w]
    rfl
   refine take_ (i := 11) (N := some 63) (v := ?_) (a' := ?_) #[T_, T_, T_, T_, T_, T_, T_, T_, T_, T_, F_, T_, F_, F_, F_, F_, F_, F_, F_, F_, F_] rfl rfl (by kernel_rfl) (fun _ _ _ h => h) (Or.inl ⟨by rfl, ?_⟩) hHeld ?_ ?_
   rotate_left
   ·intro w' s0
    first | (refine Eq.trans (load_run s0 5 rfl 25 _ (by rfl) (by rfl) _ Tryd.underlying25 rfl (by kernel_rfl)) ?_; with_reducible rfl)
   rotate_left
   ·simp only [Act.put, Lt, Lz, Ls, i64_w, i32_w]
    rfl
   refine one_ (i := 10) (N := some 62) #[T_, T_, T_, T_, T_, T_, T_, T_, T_, T_, T_, T_, F_, F_, F_, F_, F_, F_, F_, F_, F_] rfl rfl (by kernel_rfl) (by decide) (fun K hK => ?_)
   refine goes_ Tryd.func12 (by kernel_rfl) rfl #[.agg #[.int .i64 r1, .int .i64 r2, .int .i64 r3, .int .i64 r4, .int .i64 r5]] (by rfl) rfl rfl (by (try simp only [Lm, Lc, Ln]); first | done | rfl) ?_
   (refine (impl_GoodCmd.calls r1 r2 r3 r4 r5 true w7 H6.out).mono ?_)
   rintro e w8 ⟨rfl, hb⟩
   refine ⟨_, rfl, ?_⟩
   have Z8 : Ad (w7.heap.size ≤ w8.heap.size) := ⟨hb.size⟩
   replace BX1 := Am (Kb BX1.out hb)
   replace HB := Am (Bh HB.out HB.out.size hb)
   clear hb
   refine hK.out _ _ BX1.out (fun hHeld => ?_)
   clear hK K
   refine norm_ (a' := ?_) ?_ ?_
   rotate_left
   ·show Act.put _ (some 62) _ = _
    simp only [Act.put, Lt, Lz, Ls, i64_w, i32_w]
    rfl
   obtain ⟨h7, hF⟩ := HF.out
   clear HF
   have HF := Am hF
   clear hF
   have H7 := Am h7
   clear h7
   refine one_ (i := 12) (N := some 64) #[T_, T_, T_, T_, T_, T_, T_, T_, T_, T_, T_, T_, T_, F_, F_, F_, F_, F_, F_, F_, F_] rfl rfl (by kernel_rfl) (by decide) (fun K hK => ?_)
   refine goes_ Tryd.func13 (by kernel_rfl) rfl #[.agg #[.int .i64 r1, .int .i64 r2, .int .i64 r3, .int .i64 r4, .int .i64 r5]] (by rfl) rfl rfl (by (try simp only [Lm, Lc, Ln]); first | done | rfl) ?_
   (refine (spec_GoodCmd.calls r1 r2 r3 r4 r5 true w8 H7.out).mono ?_)
   rintro e w9 ⟨rfl, hb⟩
   refine ⟨_, rfl, ?_⟩
   have Z9 : Ad (w8.heap.size ≤ w9.heap.size) := ⟨hb.size⟩
   replace BX1 := Am (Kb BX1.out hb)
   replace HB := Am (Bh HB.out HB.out.size hb)
   clear hb
   refine hK.out _ _ BX1.out (fun hHeld => ?_)
   clear hK K
   refine norm_ (a' := ?_) ?_ ?_
   rotate_left
   ·show Act.put _ (some 64) _ = _
    simp only [Act.put, Lt, Lz, Ls, i64_w, i32_w]
    rfl
   refine pure_ (i := 13) (N := some 65) (v := ?_) (a' := ?_) #[T_, T_, T_, T_, T_, T_, T_, T_, T_, T_, T_, T_, T_, T_, F_, F_, F_, F_, F_, F_, F_] rfl rfl (by kernel_rfl) (fun _ _ _ h => h) (Or.inl ⟨by rfl, ?_⟩) ?_ ?_
   rotate_left
   ·intro w'
    go_simp
    with_reducible rfl
   rotate_left
   ·simp only [Act.put, Lt, Lz, Ls, i64_w, i32_w]
    rfl
   refine pure_ (i := 14) (N := some 66) (v := ?_) (a' := ?_) #[T_, T_, T_, T_, T_, T_, T_, T_, T_, T_, T_, T_, T_, T_, T_, F_, F_, F_, F_, F_, F_] rfl rfl (by kernel_rfl) (fun _ _ _ h => h) (Or.inl ⟨by rfl, ?_⟩) ?_ ?_
   rotate_left
   ·intro w'
    go_simp
    with_reducible rfl
   rotate_left
   ·simp only [Act.put, Lt, Lz, Ls, i64_w, i32_w]
    rfl
   refine pure_ (i := 15) (N := some 67) (v := ?_) (a' := ?_) #[T_, T_, T_, T_, T_, T_, T_, T_, T_, T_, T_, T_, T_, T_, T_, T_, F_, F_, F_, F_, F_] rfl rfl (by kernel_rfl) (fun _ _ _ h => h) (Or.inl ⟨by rfl, ?_⟩) ?_ ?_
   rotate_left
   ·intro w'
    go_simp
    with_reducible rfl
   rotate_left
   ·simp only [Act.put, Lt, Lz, Ls, i64_w, i32_w]
    rfl
   refine pure_ (i := 16) (N := some 68) (v := ?_) (a' := ?_) #[T_, T_, T_, T_, T_, T_, T_, T_, T_, T_, T_, T_, T_, T_, T_, T_, T_, F_, F_, F_, F_] rfl rfl (by kernel_rfl) (fun _ _ _ h => h) (Or.inl ⟨by rfl, ?_⟩) ?_ ?_
   rotate_left
   ·intro w'
    go_simp
    with_reducible rfl
   rotate_left
   ·simp only [Act.put, Lt, Lz, Ls, i64_w, i32_w]
    rfl
   refine take_ (i := 17) (N := some 69) (v := ?_) (a' := ?_) #[T_, T_, T_, T_, T_, T_, T_, T_, T_, T_, T_, T_, T_, T_, T_, T_, T_, T_, F_, F_, F_] rfl rfl (by kernel_rfl) (fun _ _ _ h => h) (Or.inl ⟨by rfl, ?_⟩) hHeld ?_ ?_
   rotate_left
   ·intro w' s0
    first | (refine Eq.trans (load_run s0 5 rfl 25 _ (by rfl) (by rfl) _ Tryd.underlying25 rfl (by kernel_rfl)) ?_; with_reducible rfl)
   rotate_left
   ·simp only [Act.put, Lt, Lz, Ls, i64_w, i32_w]
    rfl
   refine one_ (i := 18) (N := some 70) #[T_, T_, T_, T_, T_, T_, T_, T_, T_, T_, T_, T_, T_, T_, T_, T_, T_, T_, T_, F_, F_] rfl rfl (by kernel_rfl) (by decide) (fun K hK => ?_)
   refine goes_ Tryd.func12 (by kernel_rfl) rfl #[.agg #[.int .i64 r1, .int .i64 r2, .int .i64 r3, .int .i64 r4, .int .i64 r5]] (by rfl) rfl rfl (by (try simp only [Lm, Lc, Ln]); first | done | rfl) ?_
   (refine (impl_GoodCmd.calls r1 r2 r3 r4 r5 true w9 H6.out).mono ?_)
   rintro e w10 ⟨rfl, hb⟩
   refine ⟨_, rfl, ?_⟩
   have Z10 : Ad (w9.heap.size ≤ w10.heap.size) := ⟨hb.size⟩
   replace BX1 := Am (Kb BX1.out hb)
   replace HB := Am (Bh HB.out HB.out.size hb)
   clear hb
   refine hK.out _ _ BX1.out (fun hHeld => ?_)
   clear hK K
   refine norm_ (a' := ?_) ?_ ?_
   rotate_left
   ·show Act.put _ (some 70) _ = _
    simp only [Act.put, Lt, Lz, Ls, i64_w, i32_w]
    rfl
   refine pure_ (i := 19) (N := some 71) (v := ?_) (a' := ?_) #[T_, T_, T_, T_, T_, T_, T_, T_, T_, T_, T_, T_, T_, T_, T_, T_, T_, T_, T_, T_, F_] rfl rfl (by kernel_rfl) (fun _ _ _ h => h) (Or.inl ⟨by rfl, ?_⟩) ?_ ?_
   rotate_left
   ·intro w'
    go_simp
    with_reducible rfl
   rotate_left
   ·simp only [Act.put, Lt, Lz, Ls, i64_w, i32_w]
    rfl
   refine pure_ (i := 20) (N := some 72) (v := ?_) (a' := ?_) #[T_, T_, T_, T_, T_, T_, T_, T_, T_, T_, T_, T_, T_, T_, T_, T_, T_, T_, T_, T_, T_] rfl rfl (by kernel_rfl) (fun _ _ _ h => h) (Or.inl ⟨by rfl, ?_⟩) ?_ ?_
   rotate_left
   ·intro w'
    go_simp
    with_reducible rfl
   rotate_left
   ·simp only [Act.put, Lt, Lz, Ls, i64_w, i32_w]
    rfl
   refine done_ (by kernel_rfl) ?_
   obtain ⟨⟨K8, h8⟩, hF⟩ := HF.out
   clear HF
   have HF := Am hF
   clear hF
   have H8 := Am h8
   clear h8
   go_wp2_with fail
   (refine (impl_ReadCmd.calls K8 r6 r1 r2 r3 r4 r5 0 true w10 H8.out (EnvM.below HMw.out (by repeat (first | exact HB.out | apply Ba | apply Bn | apply Bd)))).mono ?_)
   rintro e w11 ⟨rfl, hb⟩
   have Z11 : Ad (w10.heap.size ≤ w11.heap.size) := ⟨hb.size⟩
   replace BX1 := Am (Kb BX1.out hb)
   replace HB := Am (Bh HB.out HB.out.size hb)
   clear hb
   obtain ⟨r7, h9, hF⟩ := HF.out
   clear HF
   have HF := Am hF
   clear hF
   have H9 := Am h9
   clear h9
   go_upto_region 10 with (first | ((refine Gd (N := 81) rfl ?_); first | refine Er rfl (load_run BX1.out 5 rfl 25 _ (by rfl) (by rfl) _ Tryd.underlying25 rfl (by kernel_rfl)) ?_))
   refine letC (fun W_ => Below w11.heap.size w11 W_ ∧ W_.heap[w11.heap.size]? = some (.cells #[.int .i64 r1, .int .i64 r2, .int .i64 r3, .int .i64 r4, .int .i64 r5] 25 (0, 0))) ?_ ?_
   ·refine ⟨?_, ?_⟩
    ·repeat (first | exact Below.refl _ _ | apply Ba | refine Bs ?_ (by first | exact Nat.le_refl _ | omega | (simp; done)))
    ·exact blk_new w11 (.cells #[.int .i64 r1, .int .i64 r2, .int .i64 r3, .int .i64 r4, .int .i64 r5] 25)
   intro w12 hq_
   obtain ⟨hb, hx0_⟩ := hq_
   have Z12 : Ad (w11.heap.size ≤ w12.heap.size) := ⟨hb.size⟩
   replace BX1 := Am (Kb BX1.out hb)
   replace HB := Am (Bh HB.out HB.out.size hb)
   clear hb
   have BX2 : Ad (w12.heap[w11.heap.size]? = some (.cells #[.int .i64 r1, .int .i64 r2, .int .i64 r3, .int .i64 r4, .int .i64 r5] 25 (0, 0))) := ⟨hx0_⟩
   clear hx0_
   have GBX2 : Ad (w11.heap.size < w12.heap.size) := ⟨Kl BX2.out⟩
   go_wp2_with (first | ((refine Gd (N := 81) rfl ?_); first | refine Er rfl (load_run BX1.out 5 rfl 25 _ (by rfl) (by rfl) _ Tryd.underlying25 rfl (by kernel_rfl)) ?_))
   (refine (impl_TouchesOf.calls r1 r2 r3 r4 r5 r7 true w12 H9.out).mono ?_)
   rintro e w13 ⟨v0_, rfl, hS0, hb⟩
   have X1 : Ad (Kd.R (Kd.int .i64) 3 w13 w.heap.size (fun k => w12.heap.size ≤ k ∧ k < w13.heap.size) v0_ r7) := ⟨Rm (Kd.R_lower (Ro hS0) HB.out.size) (fun k hk => ⟨hk.2.1, hk.2.2.1⟩)⟩
   have Z13 : Ad (w12.heap.size ≤ w13.heap.size) := ⟨hb.size⟩
   replace BX1 := Am (Kb BX1.out hb)
   replace BX2 := Am (Kb BX2.out hb)
   replace HB := Am (Bh HB.out HB.out.size hb)
   clear hb hS0
   obtain ⟨A1_, c1_, rfl⟩ := Rs X1.out
   rcases HF.out with hF | hF
   ·clear HF
    have HF := Am hF
    clear hF
    obtain ⟨h10, hF⟩ := HF.out
    clear HF
    have HF := Am hF
    clear hF
    have H10 := Am h10
    clear h10
    have ql1_ : decide (0 < (r7.length : Int)) = true := Od (by have := H10.out; omega)
    have ql2_ : decide (0 < r7.length) = true := Od H10.out
    obtain ⟨⟨K11, h11⟩, hF⟩ := HF.out
    clear HF
    have HF := Am hF
    clear hF
    have H11 := Am h11
    clear h11
    go_wp2_with (first | ((refine Gd (N := 86) rfl ?_); first | refine Er rfl (load_run BX1.out 5 rfl 25 _ (by rfl) (by rfl) _ Tryd.underlying25 rfl (by kernel_rfl)) ?_) | ((refine Gd (N := 87) rfl ?_); first | refine Er rfl (load_run BX1.out 5 rfl 25 _ (by rfl) (by rfl) _ Tryd.underlying25 rfl (by kernel_rfl)) ?_))
    (refine (impl_Interfere.calls K11 r1 r2 r3 r4 r5 r1 r2 r3 r4 r5 true true w13 H11.out).mono ?_)
    rintro e w14 ⟨rfl, hb⟩
    have Z14 : Ad (w13.heap.size ≤ w14.heap.size) := ⟨hb.size⟩
    replace X1 := Am (Rb X1.out hb)
    replace BX1 := Am (Kb BX1.out hb)
    replace BX2 := Am (Kb BX2.out hb)
    replace HB := Am (Bh HB.out HB.out.size hb)
    clear hb
    obtain ⟨r8, r9, r10, r11, r12, r13, r14, r15, r16, r17, h12, hF⟩ := HF.out
    clear HF
    have HF := Am hF
    clear hF
    have H12 := Am h12
    clear h12
    have qBX1_0 : w14.cell? ⟨w3.heap.size, 0, none⟩ = some (.int .i64 r1) := (Kc BX1.out 0).trans rfl
    have qBX1_1 : w14.cell? ⟨w3.heap.size, 1, none⟩ = some (.int .i64 r2) := (Kc BX1.out 1).trans rfl
    have qBX1_2 : w14.cell? ⟨w3.heap.size, 2, none⟩ = some (.int .i64 r3) := (Kc BX1.out 2).trans rfl
    have qBX1_3 : w14.cell? ⟨w3.heap.size, 3, none⟩ = some (.int .i64 r4) := (Kc BX1.out 3).trans rfl
    have qBX1_4 : w14.cell? ⟨w3.heap.size, 4, none⟩ = some (.int .i64 r5) := (Kc BX1.out 4).trans rfl
    have qBX2_0 : w14.cell? ⟨w11.heap.size, 0, none⟩ = some (.int .i64 r1) := (Kc BX2.out 0).trans rfl
    have qBX2_1 : w14.cell? ⟨w11.heap.size, 1, none⟩ = some (.int .i64 r2) := (Kc BX2.out 1).trans rfl
    have qBX2_2 : w14.cell? ⟨w11.heap.size, 2, none⟩ = some (.int .i64 r3) := (Kc BX2.out 2).trans rfl
    have qBX2_3 : w14.cell? ⟨w11.heap.size, 3, none⟩ = some (.int .i64 r4) := (Kc BX2.out 3).trans rfl
    have qBX2_4 : w14.cell? ⟨w11.heap.size, 4, none⟩ = some (.int .i64 r5) := (Kc BX2.out 4).trans rfl
    go_wp2_with (first | ((refine Gd (N := 98) rfl ?_); first | refine Er rfl (load_run BX1.out 5 rfl 25 _ (by rfl) (by rfl) _ Tryd.underlying25 rfl (by kernel_rfl)) ?_ | refine Er rfl (load_run BX2.out 5 rfl 25 _ (by rfl) (by rfl) _ Tryd.underlying25 rfl (by kernel_rfl)) ?_) | ((refine Gd (N := 99) rfl ?_); first | refine Er rfl (load_run BX1.out 5 rfl 25 _ (by rfl) (by rfl) _ Tryd.underlying25 rfl (by kernel_rfl)) ?_ | refine Er rfl (load_run BX2.out 5 rfl 25 _ (by rfl) (by rfl) _ Tryd.underlying25 rfl (by kernel_rfl)) ?_))
    clear qBX1_0 qBX1_1 qBX1_2 qBX1_3 qBX1_4 qBX2_0 qBX2_1 qBX2_2 qBX2_3 qBX2_4
    (refine (spec_DrawInterfere.calls A1 c1 l1 r8 r9 r10 r11 r12 r13 r14 r15 r16 r17 w14 (Cb HR1.out HB.out) HC1.out H12.out).mono ?_)
    rintro e w15 ⟨rfl, hb⟩
    have Z15 : Ad (w14.heap.size ≤ w15.heap.size) := ⟨hb.size⟩
    replace X1 := Am (Rb X1.out hb)
    replace BX1 := Am (Kb BX1.out hb)
    replace BX2 := Am (Kb BX2.out hb)
    replace HB := Am (Bh HB.out HB.out.size hb)
    clear hb
    obtain ⟨r18, r19, ⟨K13, h13⟩, hF⟩ := HF.out
    clear HF
    have HF := Am hF
    clear hF
    have H13 := Am h13
    clear h13
    go_upto_region 15 with (fail)
    refine letC (fun W_ => Below w15.heap.size w15 W_ ∧ W_.heap[w15.heap.size]? = some (.cells #[.int .i64 r8, .int .i64 r9, .int .i64 r10, .int .i64 r11, .int .i64 r12] 25 (0, 0)) ∧ W_.heap[w15.heap.size + 1]? = some (.cells #[.int .i64 r13, .int .i64 r14, .int .i64 r15, .int .i64 r16, .int .i64 r17] 25 (0, 0))) ?_ ?_
    ·refine ⟨?_, ?_, ?_⟩
     ·repeat (first | exact Below.refl _ _ | apply Ba | refine Bs ?_ (by first | exact Nat.le_refl _ | omega | (simp; done)))
     ·simpa using Ka (blk_new w15 (.cells #[.int .i64 r8, .int .i64 r9, .int .i64 r10, .int .i64 r11, .int .i64 r12] 25)) (.cells #[.int .i64 r13, .int .i64 r14, .int .i64 r15, .int .i64 r16, .int .i64 r17] 25)
     ·simpa using blk_new (w15.alloc (.cells #[.int .i64 r8, .int .i64 r9, .int .i64 r10, .int .i64 r11, .int .i64 r12] 25)) (.cells #[.int .i64 r13, .int .i64 r14, .int .i64 r15, .int .i64 r16, .int .i64 r17] 25)
    intro w16 hq_
    obtain ⟨hb, hx0_, hx1_⟩ := hq_
    have Z16 : Ad (w15.heap.size ≤ w16.heap.size) := ⟨hb.size⟩
    replace X1 := Am (Rb X1.out hb)
    replace BX1 := Am (Kb BX1.out hb)
    replace BX2 := Am (Kb BX2.out hb)
    replace HB := Am (Bh HB.out HB.out.size hb)
    clear hb
    have BX3 : Ad (w16.heap[w15.heap.size]? = some (.cells #[.int .i64 r8, .int .i64 r9, .int .i64 r10, .int .i64 r11, .int .i64 r12] 25 (0, 0))) := ⟨hx0_⟩
    clear hx0_
    have GBX3 : Ad (w15.heap.size < w16.heap.size) := ⟨Kl BX3.out⟩
    have BX4 : Ad (w16.heap[w15.heap.size + 1]? = some (.cells #[.int .i64 r13, .int .i64 r14, .int .i64 r15, .int .i64 r16, .int .i64 r17] 25 (0, 0))) := ⟨hx1_⟩
    clear hx1_
    have GBX4 : Ad (w15.heap.size + 1 < w16.heap.size) := ⟨Kl BX4.out⟩
    go_wp2_with (first | ((refine Gd (N := 123) rfl ?_); first | refine Er rfl (load_run BX3.out 5 rfl 25 _ (by rfl) (by rfl) _ Tryd.underlying25 rfl (by kernel_rfl)) ?_ | refine Er rfl (load_run BX4.out 5 rfl 25 _ (by rfl) (by rfl) _ Tryd.underlying25 rfl (by kernel_rfl)) ?_) | ((refine Gd (N := 124) rfl ?_); first | refine Er rfl (load_run BX3.out 5 rfl 25 _ (by rfl) (by rfl) _ Tryd.underlying25 rfl (by kernel_rfl)) ?_ | refine Er rfl (load_run BX4.out 5 rfl 25 _ (by rfl) (by rfl) _ Tryd.underlying25 rfl (by kernel_rfl)) ?_))
    (refine (impl_Interfere.calls K13 r8 r9 r10 r11 r12 r13 r14 r15 r16 r17 r18 r19 w16 H13.out).mono ?_)
    rintro e w17 ⟨rfl, hb⟩
    have Z17 : Ad (w16.heap.size ≤ w17.heap.size) := ⟨hb.size⟩
    replace X1 := Am (Rb X1.out hb)
    replace BX1 := Am (Kb BX1.out hb)
    replace BX2 := Am (Kb BX2.out hb)
    replace BX3 := Am (Kb BX3.out hb)
    replace BX4 := Am (Kb BX4.out hb)
    replace HB := Am (Bh HB.out HB.out.size hb)
    clear hb
    obtain ⟨⟨K14, h14⟩, hF⟩ := HF.out
    clear HF
    have HF := Am hF
    clear hF
    have H14 := Am h14
    clear h14
    go_wp2_with (first | ((refine Gd (N := 129) rfl ?_); first | refine Er rfl (load_run BX3.out 5 rfl 25 _ (by rfl) (by rfl) _ Tryd.underlying25 rfl (by kernel_rfl)) ?_ | refine Er rfl (load_run BX4.out 5 rfl 25 _ (by rfl) (by rfl) _ Tryd.underlying25 rfl (by kernel_rfl)) ?_) | ((refine Gd (N := 130) rfl ?_); first | refine Er rfl (load_run BX3.out 5 rfl 25 _ (by rfl) (by rfl) _ Tryd.underlying25 rfl (by kernel_rfl)) ?_ | refine Er rfl (load_run BX4.out 5 rfl 25 _ (by rfl) (by rfl) _ Tryd.underlying25 rfl (by kernel_rfl)) ?_))
    (refine (spec_Interfere.calls K14 r8 r9 r10 r11 r12 r13 r14 r15 r16 r17 r18 r19 w17 H14.out).mono ?_)
    rintro e w18 ⟨rfl, hb⟩
    have Z18 : Ad (w17.heap.size ≤ w18.heap.size) := ⟨hb.size⟩
    replace X1 := Am (Rb X1.out hb)
    replace BX1 := Am (Kb BX1.out hb)
    replace BX2 := Am (Kb BX2.out hb)
    replace BX3 := Am (Kb BX3.out hb)
    replace BX4 := Am (Kb BX4.out hb)
    replace HB := Am (Bh HB.out HB.out.size hb)
    clear hb
    obtain ⟨⟨K15, h15⟩, hF⟩ := HF.out
    clear HF
    have HF := Am hF
    clear hF
    have H15 := Am h15
    clear h15
    go_wp2_with (first | ((refine Gd (N := 135) rfl ?_); first | refine Er rfl (load_run BX3.out 5 rfl 25 _ (by rfl) (by rfl) _ Tryd.underlying25 rfl (by kernel_rfl)) ?_ | refine Er rfl (load_run BX4.out 5 rfl 25 _ (by rfl) (by rfl) _ Tryd.underlying25 rfl (by kernel_rfl)) ?_) | ((refine Gd (N := 136) rfl ?_); first | refine Er rfl (load_run BX3.out 5 rfl 25 _ (by rfl) (by rfl) _ Tryd.underlying25 rfl (by kernel_rfl)) ?_ | refine Er rfl (load_run BX4.out 5 rfl 25 _ (by rfl) (by rfl) _ Tryd.underlying25 rfl (by kernel_rfl)) ?_))
    (refine (impl_Interfere.calls K15 r13 r14 r15 r16 r17 r8 r9 r10 r11 r12 r18 r19 w18 H15.out).mono ?_)
    rintro e w19 ⟨rfl, hb⟩
    have Z19 : Ad (w18.heap.size ≤ w19.heap.size) := ⟨hb.size⟩
    replace X1 := Am (Rb X1.out hb)
    replace BX1 := Am (Kb BX1.out hb)
    replace BX2 := Am (Kb BX2.out hb)
    replace BX3 := Am (Kb BX3.out hb)
    replace BX4 := Am (Kb BX4.out hb)
    replace HB := Am (Bh HB.out HB.out.size hb)
    clear hb
    obtain ⟨r20, ⟨K16, h16⟩, hF⟩ := HF.out
    clear HF
    have HF := Am hF
    clear hF
    have H16 := Am h16
    clear h16
    go_wp2_with fail
    (refine (spec_DrawReadCmd.calls K16 A1 c1 l1 r20 w19 (Cb HR1.out HB.out) HC1.out H16.out).mono ?_)
    rintro e w20 ⟨rfl, hb⟩
    have Z20 : Ad (w19.heap.size ≤ w20.heap.size) := ⟨hb.size⟩
    replace X1 := Am (Rb X1.out hb)
    replace BX1 := Am (Kb BX1.out hb)
    replace BX2 := Am (Kb BX2.out hb)
    replace BX3 := Am (Kb BX3.out hb)
    replace BX4 := Am (Kb BX4.out hb)
    replace HB := Am (Bh HB.out HB.out.size hb)
    clear hb
    obtain ⟨r21, r22, r23, r24, r25, r26, r27, ⟨K17, h17⟩, hF⟩ := HF.out
    clear HF
    have HF := Am hF
    clear hF
    have H17 := Am h17
    clear h17
    go_wp2_with fail
    (refine (impl_ReadCmd.calls K17 r20 r21 r22 r23 r24 r25 r26 r27 w20 H17.out (EnvM.below HMw.out (by repeat (first | exact HB.out | apply Ba | apply Bn | apply Bd)))).mono ?_)
    rintro e w21 ⟨rfl, hb⟩
    have Z21 : Ad (w20.heap.size ≤ w21.heap.size) := ⟨hb.size⟩
    replace X1 := Am (Rb X1.out hb)
    replace BX1 := Am (Kb BX1.out hb)
    replace BX2 := Am (Kb BX2.out hb)
    replace BX3 := Am (Kb BX3.out hb)
    replace BX4 := Am (Kb BX4.out hb)
    replace HB := Am (Bh HB.out HB.out.size hb)
    clear hb
    obtain ⟨⟨K18, h18⟩, hF⟩ := HF.out
    clear HF
    have HF := Am hF
    clear hF
    have H18 := Am h18
    clear h18
    go_upto_region 20 with (fail)
    refine letC (fun W_ => Below w21.heap.size w21 W_ ∧ W_.heap[w21.heap.size]? = some (.cells #[.int .i64 r21, .int .i64 r22, .int .i64 r23, .int .i64 r24, .int .i64 r25] 25 (0, 0))) ?_ ?_
    ·refine ⟨?_, ?_⟩
     ·repeat (first | exact Below.refl _ _ | apply Ba | refine Bs ?_ (by first | exact Nat.le_refl _ | omega | (simp; done)))
     ·exact blk_new w21 (.cells #[.int .i64 r21, .int .i64 r22, .int .i64 r23, .int .i64 r24, .int .i64 r25] 25)
    intro w22 hq_
    obtain ⟨hb, hx0_⟩ := hq_
    have Z22 : Ad (w21.heap.size ≤ w22.heap.size) := ⟨hb.size⟩
    replace X1 := Am (Rb X1.out hb)
    replace BX1 := Am (Kb BX1.out hb)
    replace BX2 := Am (Kb BX2.out hb)
    replace BX3 := Am (Kb BX3.out hb)
    replace BX4 := Am (Kb BX4.out hb)
    replace HB := Am (Bh HB.out HB.out.size hb)
    clear hb
    have BX5 : Ad (w22.heap[w21.heap.size]? = some (.cells #[.int .i64 r21, .int .i64 r22, .int .i64 r23, .int .i64 r24, .int .i64 r25] 25 (0, 0))) := ⟨hx0_⟩
    clear hx0_
    have GBX5 : Ad (w21.heap.size < w22.heap.size) := ⟨Kl BX5.out⟩
    go_wp2_with fail
    (refine (spec_ReadCmd.calls K18 r20 r21 r22 r23 r24 r25 r26 r27 w22 H18.out).mono ?_)
    rintro e w23 ⟨rfl, hb⟩
    have Z23 : Ad (w22.heap.size ≤ w23.heap.size) := ⟨hb.size⟩
    replace X1 := Am (Rb X1.out hb)
    replace BX1 := Am (Kb BX1.out hb)
    replace BX2 := Am (Kb BX2.out hb)
    replace BX3 := Am (Kb BX3.out hb)
    replace BX4 := Am (Kb BX4.out hb)
    replace BX5 := Am (Kb BX5.out hb)
    replace HB := Am (Bh HB.out HB.out.size hb)
    clear hb
    obtain ⟨r28, r29, r30, r31, r32, h19, hF⟩ := HF.out
    clear HF
    have HF := Am hF
    clear hF
    have H19 := Am h19
    clear h19
    go_upto_region 21 with (fail)
    refine letC (fun W_ => Below w23.heap.size w23 W_ ∧ W_.heap[w23.heap.size]? = some (.cells #[.int .i64 r21, .int .i64 r22, .int .i64 r23, .int .i64 r24, .int .i64 r25] 25 (0, 0))) ?_ ?_
    ·refine ⟨?_, ?_⟩
     ·repeat (first | exact Below.refl _ _ | apply Ba | refine Bs ?_ (by first | exact Nat.le_refl _ | omega | (simp; done)))
     ·exact blk_new w23 (.cells #[.int .i64 r21, .int .i64 r22, .int .i64 r23, .int .i64 r24, .int .i64 r25] 25)
    intro w24 hq_
    obtain ⟨hb, hx0_⟩ := hq_
    have Z24 : Ad (w23.heap.size ≤ w24.heap.size) := ⟨hb.size⟩
    replace X1 := Am (Rb X1.out hb)
    replace BX1 := Am (Kb BX1.out hb)
    replace BX2 := Am (Kb BX2.out hb)
    replace BX3 := Am (Kb BX3.out hb)
    replace BX4 := Am (Kb BX4.out hb)
    replace BX5 := Am (Kb BX5.out hb)
    replace HB := Am (Bh HB.out HB.out.size hb)
    clear hb
    have BX6 : Ad (w24.heap[w23.heap.size]? = some (.cells #[.int .i64 r21, .int .i64 r22, .int .i64 r23, .int .i64 r24, .int .i64 r25] 25 (0, 0))) := ⟨hx0_⟩
    clear hx0_
    have GBX6 : Ad (w23.heap.size < w24.heap.size) := ⟨Kl BX6.out⟩
    go_wp2_with fail
    (refine (spec_DrawTouchesOf.calls A1 c1 l1 r28 r29 r30 r31 r32 w24 (Cb HR1.out HB.out) HC1.out H19.out).mono ?_)
    rintro e w25 ⟨rfl, hb⟩
    have Z25 : Ad (w24.heap.size ≤ w25.heap.size) := ⟨hb.size⟩
    replace X1 := Am (Rb X1.out hb)
    replace BX1 := Am (Kb BX1.out hb)
    replace BX2 := Am (Kb BX2.out hb)
    replace BX3 := Am (Kb BX3.out hb)
    replace BX4 := Am (Kb BX4.out hb)
    replace BX5 := Am (Kb BX5.out hb)
    replace BX6 := Am (Kb BX6.out hb)
    replace HB := Am (Bh HB.out HB.out.size hb)
    clear hb
    obtain ⟨r33, r34, h20, hF⟩ := HF.out
    clear HF
    have HF := Am hF
    clear hF
    have H20 := Am h20
    clear h20
    go_upto_region 22 with (fail)
    refine letC (fun W_ => Below w25.heap.size w25 W_ ∧ W_.heap[w25.heap.size]? = some (.cells #[.int .i64 r28, .int .i64 r29, .int .i64 r30, .int .i64 r31, .int .i64 r32] 25 (0, 0))) ?_ ?_
    ·refine ⟨?_, ?_⟩
     ·repeat (first | exact Below.refl _ _ | apply Ba | refine Bs ?_ (by first | exact Nat.le_refl _ | omega | (simp; done)))
     ·exact blk_new w25 (.cells #[.int .i64 r28, .int .i64 r29, .int .i64 r30, .int .i64 r31, .int .i64 r32] 25)
    intro w26 hq_
    obtain ⟨hb, hx0_⟩ := hq_
    have Z26 : Ad (w25.heap.size ≤ w26.heap.size) := ⟨hb.size⟩
    replace X1 := Am (Rb X1.out hb)
    replace BX1 := Am (Kb BX1.out hb)
    replace BX2 := Am (Kb BX2.out hb)
    replace BX3 := Am (Kb BX3.out hb)
    replace BX4 := Am (Kb BX4.out hb)
    replace BX5 := Am (Kb BX5.out hb)
    replace BX6 := Am (Kb BX6.out hb)
    replace HB := Am (Bh HB.out HB.out.size hb)
    clear hb
    have BX7 : Ad (w26.heap[w25.heap.size]? = some (.cells #[.int .i64 r28, .int .i64 r29, .int .i64 r30, .int .i64 r31, .int .i64 r32] 25 (0, 0))) := ⟨hx0_⟩
    clear hx0_
    have GBX7 : Ad (w25.heap.size < w26.heap.size) := ⟨Kl BX7.out⟩
    go_wp2_with (first | ((refine Gd (N := 157) rfl ?_); first | refine Er rfl (load_run BX7.out 5 rfl 25 _ (by rfl) (by rfl) _ Tryd.underlying25 rfl (by kernel_rfl)) ?_))
    (refine (impl_TouchesOf.calls r28 r29 r30 r31 r32 r33 r34 w26 H20.out).mono ?_)
    rintro e w27 ⟨v0_, rfl, hS0, hb⟩
    have X2 : Ad (Kd.R (Kd.int .i64) 3 w27 w.heap.size (fun k => w26.heap.size ≤ k ∧ k < w27.heap.size) v0_ r33) := ⟨Rm (Kd.R_lower (Ro hS0) HB.out.size) (fun k hk => ⟨hk.2.1, hk.2.2.1⟩)⟩
    have Z27 : Ad (w26.heap.size ≤ w27.heap.size) := ⟨hb.size⟩
    replace X1 := Am (Rb X1.out hb)
    replace BX1 := Am (Kb BX1.out hb)
    replace BX2 := Am (Kb BX2.out hb)
    replace BX3 := Am (Kb BX3.out hb)
    replace BX4 := Am (Kb BX4.out hb)
    replace BX5 := Am (Kb BX5.out hb)
    replace BX6 := Am (Kb BX6.out hb)
    replace BX7 := Am (Kb BX7.out hb)
    replace HB := Am (Bh HB.out HB.out.size hb)
    clear hb hS0
    obtain ⟨A2_, c2_, rfl⟩ := Rs X2.out
    obtain ⟨r35, ⟨K21, h21⟩, hF⟩ := HF.out
    clear HF
    have HF := Am hF
    clear hF
    have H21 := Am h21
    clear h21
    go_wp2_with (first | ((refine Gd (N := 162) rfl ?_); first | refine Er rfl (load_run BX7.out 5 rfl 25 _ (by rfl) (by rfl) _ Tryd.underlying25 rfl (by kernel_rfl)) ?_))
    (refine (spec_TouchesOf.calls K21 r28 r29 r30 r31 r32 r35 r34 w27 H21.out).mono ?_)
    rintro e w28 ⟨v0_, rfl, hS0, hb⟩
    have X3 : Ad (Kd.R (Kd.int .i64) 3 w28 w.heap.size (fun k => w27.heap.size ≤ k ∧ k < w28.heap.size) v0_ r35) := ⟨Rm (Kd.R_lower (Ro hS0) HB.out.size) (fun k hk => ⟨hk.2.1, hk.2.2.1⟩)⟩
    have Z28 : Ad (w27.heap.size ≤ w28.heap.size) := ⟨hb.size⟩
    replace X1 := Am (Rb X1.out hb)
    replace X2 := Am (Rb X2.out hb)
    replace BX1 := Am (Kb BX1.out hb)
    replace BX2 := Am (Kb BX2.out hb)
    replace BX3 := Am (Kb BX3.out hb)
    replace BX4 := Am (Kb BX4.out hb)
    replace BX5 := Am (Kb BX5.out hb)
    replace BX6 := Am (Kb BX6.out hb)
    replace BX7 := Am (Kb BX7.out hb)
    replace HB := Am (Bh HB.out HB.out.size hb)
    clear hb hS0
    obtain ⟨A3_, c3_, rfl⟩ := Rs X3.out
    obtain ⟨⟨K22, h22⟩, hF⟩ := HF.out
    clear HF
    have HF := Am hF
    clear hF
    have H22 := Am h22
    clear h22
    have qBX5_0 : w28.cell? ⟨w21.heap.size, 0, none⟩ = some (.int .i64 r21) := (Kc BX5.out 0).trans rfl
    have qBX5_1 : w28.cell? ⟨w21.heap.size, 1, none⟩ = some (.int .i64 r22) := (Kc BX5.out 1).trans rfl
    have qBX5_2 : w28.cell? ⟨w21.heap.size, 2, none⟩ = some (.int .i64 r23) := (Kc BX5.out 2).trans rfl
    have qBX5_3 : w28.cell? ⟨w21.heap.size, 3, none⟩ = some (.int .i64 r24) := (Kc BX5.out 3).trans rfl
    have qBX5_4 : w28.cell? ⟨w21.heap.size, 4, none⟩ = some (.int .i64 r25) := (Kc BX5.out 4).trans rfl
    have qBX6_0 : w28.cell? ⟨w23.heap.size, 0, none⟩ = some (.int .i64 r21) := (Kc BX6.out 0).trans rfl
    have qBX6_1 : w28.cell? ⟨w23.heap.size, 1, none⟩ = some (.int .i64 r22) := (Kc BX6.out 1).trans rfl
    have qBX6_2 : w28.cell? ⟨w23.heap.size, 2, none⟩ = some (.int .i64 r23) := (Kc BX6.out 2).trans rfl
    have qBX6_3 : w28.cell? ⟨w23.heap.size, 3, none⟩ = some (.int .i64 r24) := (Kc BX6.out 3).trans rfl
    have qBX6_4 : w28.cell? ⟨w23.heap.size, 4, none⟩ = some (.int .i64 r25) := (Kc BX6.out 4).trans rfl
    go_wp2_with (first | ((refine Gd (N := 190) rfl ?_); first | refine Er rfl (load_run BX5.out 5 rfl 25 _ (by rfl) (by rfl) _ Tryd.underlying25 rfl (by kernel_rfl)) ?_ | refine Er rfl (load_run BX6.out 5 rfl 25 _ (by rfl) (by rfl) _ Tryd.underlying25 rfl (by kernel_rfl)) ?_) | ((refine Gd (N := 191) rfl ?_); first | refine Er rfl (load_run BX5.out 5 rfl 25 _ (by rfl) (by rfl) _ Tryd.underlying25 rfl (by kernel_rfl)) ?_ | refine Er rfl (load_run BX6.out 5 rfl 25 _ (by rfl) (by rfl) _ Tryd.underlying25 rfl (by kernel_rfl)) ?_))
    clear qBX5_0 qBX5_1 qBX5_2 qBX5_3 qBX5_4 qBX6_0 qBX6_1 qBX6_2 qBX6_3 qBX6_4
    (refine (laws_sameInts.calls K22 A2_ c2_ r33 A3_ c3_ r35 true w28 (Rr X2.out).2.2 (Rr X2.out).2.1 (Rr X3.out).2.2 (Rr X3.out).2.1 H22.out).mono ?_)
    rintro e w29 ⟨rfl, hd⟩
    have hb := hd.below
    clear hd
    have Z29 : Ad (w28.heap.size ≤ w29.heap.size) := ⟨hb.size⟩
    replace X1 := Am (Rb X1.out hb)
    replace X2 := Am (Rb X2.out hb)
    replace X3 := Am (Rb X3.out hb)
    replace BX1 := Am (Kb BX1.out hb)
    replace BX2 := Am (Kb BX2.out hb)
    replace BX3 := Am (Kb BX3.out hb)
    replace BX4 := Am (Kb BX4.out hb)
    replace BX5 := Am (Kb BX5.out hb)
    replace BX6 := Am (Kb BX6.out hb)
    replace BX7 := Am (Kb BX7.out hb)
    replace HB := Am (Bh HB.out HB.out.size hb)
    clear hb
    go_wp2
    go_ret
    exact ⟨rfl, HB.out⟩
   ·clear HF
    have HF := Am hF
    clear hF
    obtain ⟨h23, hF⟩ := HF.out
    clear HF
    have HF := Am hF
    clear hF
    have H23 := Am h23
    clear h23
    have ql1_ : decide (0 < (r7.length : Int)) = false := decide_eq_false (by have := H23.out; omega)
    have ql2_ : decide (0 < r7.length) = false := decide_eq_false H23.out
    obtain ⟨⟨K24, h24⟩, hF⟩ := HF.out
    clear HF
    have HF := Am hF
    clear hF
    have H24 := Am h24
    clear h24
    go_wp2_with (first | ((refine Gd (N := 86) rfl ?_); first | refine Er rfl (load_run BX1.out 5 rfl 25 _ (by rfl) (by rfl) _ Tryd.underlying25 rfl (by kernel_rfl)) ?_) | ((refine Gd (N := 87) rfl ?_); first | refine Er rfl (load_run BX1.out 5 rfl 25 _ (by rfl) (by rfl) _ Tryd.underlying25 rfl (by kernel_rfl)) ?_))
    (refine (impl_Interfere.calls K24 r1 r2 r3 r4 r5 r1 r2 r3 r4 r5 false true w13 H24.out).mono ?_)
    rintro e w30 ⟨rfl, hb⟩
    have Z30 : Ad (w13.heap.size ≤ w30.heap.size) := ⟨hb.size⟩
    replace X1 := Am (Rb X1.out hb)
    replace BX1 := Am (Kb BX1.out hb)
    replace BX2 := Am (Kb BX2.out hb)
    replace HB := Am (Bh HB.out HB.out.size hb)
    clear hb
    obtain ⟨r36, r37, r38, r39, r40, r41, r42, r43, r44, r45, h25, hF⟩ := HF.out
    clear HF
    have HF := Am hF
    clear hF
    have H25 := Am h25
    clear h25
    have qBX1_0 : w30.cell? ⟨w3.heap.size, 0, none⟩ = some (.int .i64 r1) := (Kc BX1.out 0).trans rfl
    have qBX1_1 : w30.cell? ⟨w3.heap.size, 1, none⟩ = some (.int .i64 r2) := (Kc BX1.out 1).trans rfl
    have qBX1_2 : w30.cell? ⟨w3.heap.size, 2, none⟩ = some (.int .i64 r3) := (Kc BX1.out 2).trans rfl
    have qBX1_3 : w30.cell? ⟨w3.heap.size, 3, none⟩ = some (.int .i64 r4) := (Kc BX1.out 3).trans rfl
    have qBX1_4 : w30.cell? ⟨w3.heap.size, 4, none⟩ = some (.int .i64 r5) := (Kc BX1.out 4).trans rfl
    have qBX2_0 : w30.cell? ⟨w11.heap.size, 0, none⟩ = some (.int .i64 r1) := (Kc BX2.out 0).trans rfl
    have qBX2_1 : w30.cell? ⟨w11.heap.size, 1, none⟩ = some (.int .i64 r2) := (Kc BX2.out 1).trans rfl
    have qBX2_2 : w30.cell? ⟨w11.heap.size, 2, none⟩ = some (.int .i64 r3) := (Kc BX2.out 2).trans rfl
    have qBX2_3 : w30.cell? ⟨w11.heap.size, 3, none⟩ = some (.int .i64 r4) := (Kc BX2.out 3).trans rfl
    have qBX2_4 : w30.cell? ⟨w11.heap.size, 4, none⟩ = some (.int .i64 r5) := (Kc BX2.out 4).trans rfl
    go_wp2_with (first | ((refine Gd (N := 98) rfl ?_); first | refine Er rfl (load_run BX1.out 5 rfl 25 _ (by rfl) (by rfl) _ Tryd.underlying25 rfl (by kernel_rfl)) ?_ | refine Er rfl (load_run BX2.out 5 rfl 25 _ (by rfl) (by rfl) _ Tryd.underlying25 rfl (by kernel_rfl)) ?_) | ((refine Gd (N := 99) rfl ?_); first | refine Er rfl (load_run BX1.out 5 rfl 25 _ (by rfl) (by rfl) _ Tryd.underlying25 rfl (by kernel_rfl)) ?_ | refine Er rfl (load_run BX2.out 5 rfl 25 _ (by rfl) (by rfl) _ Tryd.underlying25 rfl (by kernel_rfl)) ?_))
    clear qBX1_0 qBX1_1 qBX1_2 qBX1_3 qBX1_4 qBX2_0 qBX2_1 qBX2_2 qBX2_3 qBX2_4
    (refine (spec_DrawInterfere.calls A1 c1 l1 r36 r37 r38 r39 r40 r41 r42 r43 r44 r45 w30 (Cb HR1.out HB.out) HC1.out H25.out).mono ?_)
    rintro e w31 ⟨rfl, hb⟩
    have Z31 : Ad (w30.heap.size ≤ w31.heap.size) := ⟨hb.size⟩
    replace X1 := Am (Rb X1.out hb)
    replace BX1 := Am (Kb BX1.out hb)
    replace BX2 := Am (Kb BX2.out hb)
    replace HB := Am (Bh HB.out HB.out.size hb)
    clear hb
    obtain ⟨r46, r47, ⟨K26, h26⟩, hF⟩ := HF.out
    clear HF
    have HF := Am hF
    clear hF
    have H26 := Am h26
    clear h26
    go_upto_region 15 with (fail)
    refine letC (fun W_ => Below w31.heap.size w31 W_ ∧ W_.heap[w31.heap.size]? = some (.cells #[.int .i64 r36, .int .i64 r37, .int .i64 r38, .int .i64 r39, .int .i64 r40] 25 (0, 0)) ∧ W_.heap[w31.heap.size + 1]? = some (.cells #[.int .i64 r41, .int .i64 r42, .int .i64 r43, .int .i64 r44, .int .i64 r45] 25 (0, 0))) ?_ ?_
    ·refine ⟨?_, ?_, ?_⟩
     ·repeat (first | exact Below.refl _ _ | apply Ba | refine Bs ?_ (by first | exact Nat.le_refl _ | omega | (simp; done)))
     ·simpa using Ka (blk_new w31 (.cells #[.int .i64 r36, .int .i64 r37, .int .i64 r38, .int .i64 r39, .int .i64 r40] 25)) (.cells #[.int .i64 r41, .int .i64 r42, .int .i64 r43, .int .i64 r44, .int .i64 r45] 25)
     ·simpa using blk_new (w31.alloc (.cells #[.int .i64 r36, .int .i64 r37, .int .i64 r38, .int .i64 r39, .int .i64 r40] 25)) (.cells #[.int .i64 r41, .int .i64 r42, .int .i64 r43, .int .i64 r44, .int .i64 r45] 25)
    intro w32 hq_
    obtain ⟨hb, hx0_, hx1_⟩ := hq_
    have Z32 : Ad (w31.heap.size ≤ w32.heap.size) := ⟨hb.size⟩
    replace X1 := Am (Rb X1.out hb)
    replace BX1 := Am (Kb BX1.out hb)
    replace BX2 := Am (Kb BX2.out hb)
    replace HB := Am (Bh HB.out HB.out.size hb)
    clear hb
    have BX8 : Ad (w32.heap[w31.heap.size]? = some (.cells #[.int .i64 r36, .int .i64 r37, .int .i64 r38, .int .i64 r39, .int .i64 r40] 25 (0, 0))) := ⟨hx0_⟩
    clear hx0_
    have GBX8 : Ad (w31.heap.size < w32.heap.size) := ⟨Kl BX8.out⟩
    have BX9 : Ad (w32.heap[w31.heap.size + 1]? = some (.cells #[.int .i64 r41, .int .i64 r42, .int .i64 r43, .int .i64 r44, .int .i64 r45] 25 (0, 0))) := ⟨hx1_⟩
    clear hx1_
    have GBX9 : Ad (w31.heap.size + 1 < w32.heap.size) := ⟨Kl BX9.out⟩
    go_wp2_with (first | ((refine Gd (N := 123) rfl ?_); first | refine Er rfl (load_run BX8.out 5 rfl 25 _ (by rfl) (by rfl) _ Tryd.underlying25 rfl (by kernel_rfl)) ?_ | refine Er rfl (load_run BX9.out 5 rfl 25 _ (by rfl) (by rfl) _ Tryd.underlying25 rfl (by kernel_rfl)) ?_) | ((refine Gd (N := 124) rfl ?_); first | refine Er rfl (load_run BX8.out 5 rfl 25 _ (by rfl) (by rfl) _ Tryd.underlying25 rfl (by kernel_rfl)) ?_ | refine Er rfl (load_run BX9.out 5 rfl 25 _ (by rfl) (by rfl) _ Tryd.underlying25 rfl (by kernel_rfl)) ?_))
    (refine (impl_Interfere.calls K26 r36 r37 r38 r39 r40 r41 r42 r43 r44 r45 r46 r47 w32 H26.out).mono ?_)
    rintro e w33 ⟨rfl, hb⟩
    have Z33 : Ad (w32.heap.size ≤ w33.heap.size) := ⟨hb.size⟩
    replace X1 := Am (Rb X1.out hb)
    replace BX1 := Am (Kb BX1.out hb)
    replace BX2 := Am (Kb BX2.out hb)
    replace BX8 := Am (Kb BX8.out hb)
    replace BX9 := Am (Kb BX9.out hb)
    replace HB := Am (Bh HB.out HB.out.size hb)
    clear hb
    obtain ⟨⟨K27, h27⟩, hF⟩ := HF.out
    clear HF
    have HF := Am hF
    clear hF
    have H27 := Am h27
    clear h27
    go_wp2_with (first | ((refine Gd (N := 129) rfl ?_); first | refine Er rfl (load_run BX8.out 5 rfl 25 _ (by rfl) (by rfl) _ Tryd.underlying25 rfl (by kernel_rfl)) ?_ | refine Er rfl (load_run BX9.out 5 rfl 25 _ (by rfl) (by rfl) _ Tryd.underlying25 rfl (by kernel_rfl)) ?_) | ((refine Gd (N := 130) rfl ?_); first | refine Er rfl (load_run BX8.out 5 rfl 25 _ (by rfl) (by rfl) _ Tryd.underlying25 rfl (by kernel_rfl)) ?_ | refine Er rfl (load_run BX9.out 5 rfl 25 _ (by rfl) (by rfl) _ Tryd.underlying25 rfl (by kernel_rfl)) ?_))
    (refine (spec_Interfere.calls K27 r36 r37 r38 r39 r40 r41 r42 r43 r44 r45 r46 r47 w33 H27.out).mono ?_)
    rintro e w34 ⟨rfl, hb⟩
    have Z34 : Ad (w33.heap.size ≤ w34.heap.size) := ⟨hb.size⟩
    replace X1 := Am (Rb X1.out hb)
    replace BX1 := Am (Kb BX1.out hb)
    replace BX2 := Am (Kb BX2.out hb)
    replace BX8 := Am (Kb BX8.out hb)
    replace BX9 := Am (Kb BX9.out hb)
    replace HB := Am (Bh HB.out HB.out.size hb)
    clear hb
    obtain ⟨⟨K28, h28⟩, hF⟩ := HF.out
    clear HF
    have HF := Am hF
    clear hF
    have H28 := Am h28
    clear h28
    go_wp2_with (first | ((refine Gd (N := 135) rfl ?_); first | refine Er rfl (load_run BX8.out 5 rfl 25 _ (by rfl) (by rfl) _ Tryd.underlying25 rfl (by kernel_rfl)) ?_ | refine Er rfl (load_run BX9.out 5 rfl 25 _ (by rfl) (by rfl) _ Tryd.underlying25 rfl (by kernel_rfl)) ?_) | ((refine Gd (N := 136) rfl ?_); first | refine Er rfl (load_run BX8.out 5 rfl 25 _ (by rfl) (by rfl) _ Tryd.underlying25 rfl (by kernel_rfl)) ?_ | refine Er rfl (load_run BX9.out 5 rfl 25 _ (by rfl) (by rfl) _ Tryd.underlying25 rfl (by kernel_rfl)) ?_))
    (refine (impl_Interfere.calls K28 r41 r42 r43 r44 r45 r36 r37 r38 r39 r40 r46 r47 w34 H28.out).mono ?_)
    rintro e w35 ⟨rfl, hb⟩
    have Z35 : Ad (w34.heap.size ≤ w35.heap.size) := ⟨hb.size⟩
    replace X1 := Am (Rb X1.out hb)
    replace BX1 := Am (Kb BX1.out hb)
    replace BX2 := Am (Kb BX2.out hb)
    replace BX8 := Am (Kb BX8.out hb)
    replace BX9 := Am (Kb BX9.out hb)
    replace HB := Am (Bh HB.out HB.out.size hb)
    clear hb
    obtain ⟨r48, ⟨K29, h29⟩, hF⟩ := HF.out
    clear HF
    have HF := Am hF
    clear hF
    have H29 := Am h29
    clear h29
    go_wp2_with fail
    (refine (spec_DrawReadCmd.calls K29 A1 c1 l1 r48 w35 (Cb HR1.out HB.out) HC1.out H29.out).mono ?_)
    rintro e w36 ⟨rfl, hb⟩
    have Z36 : Ad (w35.heap.size ≤ w36.heap.size) := ⟨hb.size⟩
    replace X1 := Am (Rb X1.out hb)
    replace BX1 := Am (Kb BX1.out hb)
    replace BX2 := Am (Kb BX2.out hb)
    replace BX8 := Am (Kb BX8.out hb)
    replace BX9 := Am (Kb BX9.out hb)
    replace HB := Am (Bh HB.out HB.out.size hb)
    clear hb
    obtain ⟨r49, r50, r51, r52, r53, r54, r55, ⟨K30, h30⟩, hF⟩ := HF.out
    clear HF
    have HF := Am hF
    clear hF
    have H30 := Am h30
    clear h30
    go_wp2_with fail
    (refine (impl_ReadCmd.calls K30 r48 r49 r50 r51 r52 r53 r54 r55 w36 H30.out (EnvM.below HMw.out (by repeat (first | exact HB.out | apply Ba | apply Bn | apply Bd)))).mono ?_)
    rintro e w37 ⟨rfl, hb⟩
    have Z37 : Ad (w36.heap.size ≤ w37.heap.size) := ⟨hb.size⟩
    replace X1 := Am (Rb X1.out hb)
    replace BX1 := Am (Kb BX1.out hb)
    replace BX2 := Am (Kb BX2.out hb)
    replace BX8 := Am (Kb BX8.out hb)
    replace BX9 := Am (Kb BX9.out hb)
    replace HB := Am (Bh HB.out HB.out.size hb)
    clear hb
    obtain ⟨⟨K31, h31⟩, hF⟩ := HF.out
    clear HF
    have HF := Am hF
    clear hF
    have H31 := Am h31
    clear h31
    go_upto_region 20 with (fail)
    refine letC (fun W_ => Below w37.heap.size w37 W_ ∧ W_.heap[w37.heap.size]? = some (.cells #[.int .i64 r49, .int .i64 r50, .int .i64 r51, .int .i64 r52, .int .i64 r53] 25 (0, 0))) ?_ ?_
    ·refine ⟨?_, ?_⟩
     ·repeat (first | exact Below.refl _ _ | apply Ba | refine Bs ?_ (by first | exact Nat.le_refl _ | omega | (simp; done)))
     ·exact blk_new w37 (.cells #[.int .i64 r49, .int .i64 r50, .int .i64 r51, .int .i64 r52, .int .i64 r53] 25)
    intro w38 hq_
    obtain ⟨hb, hx0_⟩ := hq_
    have Z38 : Ad (w37.heap.size ≤ w38.heap.size) := ⟨hb.size⟩
    replace X1 := Am (Rb X1.out hb)
    replace BX1 := Am (Kb BX1.out hb)
    replace BX2 := Am (Kb BX2.out hb)
    replace BX8 := Am (Kb BX8.out hb)
    replace BX9 := Am (Kb BX9.out hb)
    replace HB := Am (Bh HB.out HB.out.size hb)
    clear hb
    have BX10 : Ad (w38.heap[w37.heap.size]? = some (.cells #[.int .i64 r49, .int .i64 r50, .int .i64 r51, .int .i64 r52, .int .i64 r53] 25 (0, 0))) := ⟨hx0_⟩
    clear hx0_
    have GBX10 : Ad (w37.heap.size < w38.heap.size) := ⟨Kl BX10.out⟩
    go_wp2_with fail
    (refine (spec_ReadCmd.calls K31 r48 r49 r50 r51 r52 r53 r54 r55 w38 H31.out).mono ?_)
    rintro e w39 ⟨rfl, hb⟩
    have Z39 : Ad (w38.heap.size ≤ w39.heap.size) := ⟨hb.size⟩
    replace X1 := Am (Rb X1.out hb)
    replace BX1 := Am (Kb BX1.out hb)
    replace BX2 := Am (Kb BX2.out hb)
    replace BX8 := Am (Kb BX8.out hb)
    replace BX9 := Am (Kb BX9.out hb)
    replace BX10 := Am (Kb BX10.out hb)
    replace HB := Am (Bh HB.out HB.out.size hb)
    clear hb
    obtain ⟨r56, r57, r58, r59, r60, h32, hF⟩ := HF.out
    clear HF
    have HF := Am hF
    clear hF
    have H32 := Am h32
    clear h32
    go_upto_region 21 with (fail)
    refine letC (fun W_ => Below w39.heap.size w39 W_ ∧ W_.heap[w39.heap.size]? = some (.cells #[.int .i64 r49, .int .i64 r50, .int .i64 r51, .int .i64 r52, .int .i64 r53] 25 (0, 0))) ?_ ?_
    ·refine ⟨?_, ?_⟩
     ·repeat (first | exact Below.refl _ _ | apply Ba | refine Bs ?_ (by first | exact Nat.le_refl _ | omega | (simp; done)))
     ·exact blk_new w39 (.cells #[.int .i64 r49, .int .i64 r50, .int .i64 r51, .int .i64 r52, .int .i64 r53] 25)
    intro w40 hq_
    obtain ⟨hb, hx0_⟩ := hq_
    have Z40 : Ad (w39.heap.size ≤ w40.heap.size) := ⟨hb.size⟩
    replace X1 := Am (Rb X1.out hb)
    replace BX1 := Am (Kb BX1.out hb)
    replace BX2 := Am (Kb BX2.out hb)
    replace BX8 := Am (Kb BX8.out hb)
    replace BX9 := Am (Kb BX9.out hb)
    replace BX10 := Am (Kb BX10.out hb)
    replace HB := Am (Bh HB.out HB.out.size hb)
    clear hb
    have BX11 : Ad (w40.heap[w39.heap.size]? = some (.cells #[.int .i64 r49, .int .i64 r50, .int .i64 r51, .int .i64 r52, .int .i64 r53] 25 (0, 0))) := ⟨hx0_⟩
    clear hx0_
    have GBX11 : Ad (w39.heap.size < w40.heap.size) := ⟨Kl BX11.out⟩
    go_wp2_with fail
    (refine (spec_DrawTouchesOf.calls A1 c1 l1 r56 r57 r58 r59 r60 w40 (Cb HR1.out HB.out) HC1.out H32.out).mono ?_)
    rintro e w41 ⟨rfl, hb⟩
    have Z41 : Ad (w40.heap.size ≤ w41.heap.size) := ⟨hb.size⟩
    replace X1 := Am (Rb X1.out hb)
    replace BX1 := Am (Kb BX1.out hb)
    replace BX2 := Am (Kb BX2.out hb)
    replace BX8 := Am (Kb BX8.out hb)
    replace BX9 := Am (Kb BX9.out hb)
    replace BX10 := Am (Kb BX10.out hb)
    replace BX11 := Am (Kb BX11.out hb)
    replace HB := Am (Bh HB.out HB.out.size hb)
    clear hb
    obtain ⟨r61, r62, h33, hF⟩ := HF.out
    clear HF
    have HF := Am hF
    clear hF
    have H33 := Am h33
    clear h33
    go_upto_region 22 with (fail)
    refine letC (fun W_ => Below w41.heap.size w41 W_ ∧ W_.heap[w41.heap.size]? = some (.cells #[.int .i64 r56, .int .i64 r57, .int .i64 r58, .int .i64 r59, .int .i64 r60] 25 (0, 0))) ?_ ?_
    ·refine ⟨?_, ?_⟩
     ·repeat (first | exact Below.refl _ _ | apply Ba | refine Bs ?_ (by first | exact Nat.le_refl _ | omega | (simp; done)))
     ·exact blk_new w41 (.cells #[.int .i64 r56, .int .i64 r57, .int .i64 r58, .int .i64 r59, .int .i64 r60] 25)
    intro w42 hq_
    obtain ⟨hb, hx0_⟩ := hq_
    have Z42 : Ad (w41.heap.size ≤ w42.heap.size) := ⟨hb.size⟩
    replace X1 := Am (Rb X1.out hb)
    replace BX1 := Am (Kb BX1.out hb)
    replace BX2 := Am (Kb BX2.out hb)
    replace BX8 := Am (Kb BX8.out hb)
    replace BX9 := Am (Kb BX9.out hb)
    replace BX10 := Am (Kb BX10.out hb)
    replace BX11 := Am (Kb BX11.out hb)
    replace HB := Am (Bh HB.out HB.out.size hb)
    clear hb
    have BX12 : Ad (w42.heap[w41.heap.size]? = some (.cells #[.int .i64 r56, .int .i64 r57, .int .i64 r58, .int .i64 r59, .int .i64 r60] 25 (0, 0))) := ⟨hx0_⟩
    clear hx0_
    have GBX12 : Ad (w41.heap.size < w42.heap.size) := ⟨Kl BX12.out⟩
    go_wp2_with (first | ((refine Gd (N := 157) rfl ?_); first | refine Er rfl (load_run BX12.out 5 rfl 25 _ (by rfl) (by rfl) _ Tryd.underlying25 rfl (by kernel_rfl)) ?_))
    (refine (impl_TouchesOf.calls r56 r57 r58 r59 r60 r61 r62 w42 H33.out).mono ?_)
    rintro e w43 ⟨v0_, rfl, hS0, hb⟩
    have X4 : Ad (Kd.R (Kd.int .i64) 3 w43 w.heap.size (fun k => w42.heap.size ≤ k ∧ k < w43.heap.size) v0_ r61) := ⟨Rm (Kd.R_lower (Ro hS0) HB.out.size) (fun k hk => ⟨hk.2.1, hk.2.2.1⟩)⟩
    have Z43 : Ad (w42.heap.size ≤ w43.heap.size) := ⟨hb.size⟩
    replace X1 := Am (Rb X1.out hb)
    replace BX1 := Am (Kb BX1.out hb)
    replace BX2 := Am (Kb BX2.out hb)
    replace BX8 := Am (Kb BX8.out hb)
    replace BX9 := Am (Kb BX9.out hb)
    replace BX10 := Am (Kb BX10.out hb)
    replace BX11 := Am (Kb BX11.out hb)
    replace BX12 := Am (Kb BX12.out hb)
    replace HB := Am (Bh HB.out HB.out.size hb)
    clear hb hS0
    obtain ⟨A4_, c4_, rfl⟩ := Rs X4.out
    obtain ⟨r63, ⟨K34, h34⟩, hF⟩ := HF.out
    clear HF
    have HF := Am hF
    clear hF
    have H34 := Am h34
    clear h34
    go_wp2_with (first | ((refine Gd (N := 162) rfl ?_); first | refine Er rfl (load_run BX12.out 5 rfl 25 _ (by rfl) (by rfl) _ Tryd.underlying25 rfl (by kernel_rfl)) ?_))
    (refine (spec_TouchesOf.calls K34 r56 r57 r58 r59 r60 r63 r62 w43 H34.out).mono ?_)
    rintro e w44 ⟨v0_, rfl, hS0, hb⟩
    have X5 : Ad (Kd.R (Kd.int .i64) 3 w44 w.heap.size (fun k => w43.heap.size ≤ k ∧ k < w44.heap.size) v0_ r63) := ⟨Rm (Kd.R_lower (Ro hS0) HB.out.size) (fun k hk => ⟨hk.2.1, hk.2.2.1⟩)⟩
    have Z44 : Ad (w43.heap.size ≤ w44.heap.size) := ⟨hb.size⟩
    replace X1 := Am (Rb X1.out hb)
    replace X4 := Am (Rb X4.out hb)
    replace BX1 := Am (Kb BX1.out hb)
    replace BX2 := Am (Kb BX2.out hb)
    replace BX8 := Am (Kb BX8.out hb)
    replace BX9 := Am (Kb BX9.out hb)
    replace BX10 := Am (Kb BX10.out hb)
    replace BX11 := Am (Kb BX11.out hb)
    replace BX12 := Am (Kb BX12.out hb)
    replace HB := Am (Bh HB.out HB.out.size hb)
    clear hb hS0
    obtain ⟨A5_, c5_, rfl⟩ := Rs X5.out
    obtain ⟨⟨K35, h35⟩, hF⟩ := HF.out
    clear HF
    have HF := Am hF
    clear hF
    have H35 := Am h35
    clear h35
    have qBX10_0 : w44.cell? ⟨w37.heap.size, 0, none⟩ = some (.int .i64 r49) := (Kc BX10.out 0).trans rfl
    have qBX10_1 : w44.cell? ⟨w37.heap.size, 1, none⟩ = some (.int .i64 r50) := (Kc BX10.out 1).trans rfl
    have qBX10_2 : w44.cell? ⟨w37.heap.size, 2, none⟩ = some (.int .i64 r51) := (Kc BX10.out 2).trans rfl
    have qBX10_3 : w44.cell? ⟨w37.heap.size, 3, none⟩ = some (.int .i64 r52) := (Kc BX10.out 3).trans rfl
    have qBX10_4 : w44.cell? ⟨w37.heap.size, 4, none⟩ = some (.int .i64 r53) := (Kc BX10.out 4).trans rfl
    have qBX11_0 : w44.cell? ⟨w39.heap.size, 0, none⟩ = some (.int .i64 r49) := (Kc BX11.out 0).trans rfl
    have qBX11_1 : w44.cell? ⟨w39.heap.size, 1, none⟩ = some (.int .i64 r50) := (Kc BX11.out 1).trans rfl
    have qBX11_2 : w44.cell? ⟨w39.heap.size, 2, none⟩ = some (.int .i64 r51) := (Kc BX11.out 2).trans rfl
    have qBX11_3 : w44.cell? ⟨w39.heap.size, 3, none⟩ = some (.int .i64 r52) := (Kc BX11.out 3).trans rfl
    have qBX11_4 : w44.cell? ⟨w39.heap.size, 4, none⟩ = some (.int .i64 r53) := (Kc BX11.out 4).trans rfl
    go_wp2_with (first | ((refine Gd (N := 190) rfl ?_); first | refine Er rfl (load_run BX10.out 5 rfl 25 _ (by rfl) (by rfl) _ Tryd.underlying25 rfl (by kernel_rfl)) ?_ | refine Er rfl (load_run BX11.out 5 rfl 25 _ (by rfl) (by rfl) _ Tryd.underlying25 rfl (by kernel_rfl)) ?_) | ((refine Gd (N := 191) rfl ?_); first | refine Er rfl (load_run BX10.out 5 rfl 25 _ (by rfl) (by rfl) _ Tryd.underlying25 rfl (by kernel_rfl)) ?_ | refine Er rfl (load_run BX11.out 5 rfl 25 _ (by rfl) (by rfl) _ Tryd.underlying25 rfl (by kernel_rfl)) ?_))
    clear qBX10_0 qBX10_1 qBX10_2 qBX10_3 qBX10_4 qBX11_0 qBX11_1 qBX11_2 qBX11_3 qBX11_4
    (refine (laws_sameInts.calls K35 A4_ c4_ r61 A5_ c5_ r63 true w44 (Rr X4.out).2.2 (Rr X4.out).2.1 (Rr X5.out).2.2 (Rr X5.out).2.1 H35.out).mono ?_)
    rintro e w45 ⟨rfl, hd⟩
    have hb := hd.below
    clear hd
    have Z45 : Ad (w44.heap.size ≤ w45.heap.size) := ⟨hb.size⟩
    replace X1 := Am (Rb X1.out hb)
    replace X4 := Am (Rb X4.out hb)
    replace X5 := Am (Rb X5.out hb)
    replace BX1 := Am (Kb BX1.out hb)
    replace BX2 := Am (Kb BX2.out hb)
    replace BX8 := Am (Kb BX8.out hb)
    replace BX9 := Am (Kb BX9.out hb)
    replace BX10 := Am (Kb BX10.out hb)
    replace BX11 := Am (Kb BX11.out hb)
    replace BX12 := Am (Kb BX12.out hb)
    replace HB := Am (Bh HB.out HB.out.size hb)
    clear hb
    go_wp2
    go_ret
    exact ⟨rfl, HB.out⟩
  ·clear HF
   have HF := Am hF
   clear hF
   obtain ⟨r64, ⟨K36, h36⟩, hF⟩ := HF.out
   clear HF
   have HF := Am hF
   clear hF
   have H36 := Am h36
   clear h36
   go_upto_region 4 with (fail)
   refine letC (fun W_ => Below w3.heap.size w3 W_ ∧ W_.heap[w3.heap.size]? = some (.cells #[.int .i64 r1, .int .i64 r2, .int .i64 r3, .int .i64 r4, .int .i64 r5] 25 (0, 0))) ?_ ?_
   ·refine ⟨?_, ?_⟩
    ·repeat (first | exact Below.refl _ _ | apply Ba | refine Bs ?_ (by first | exact Nat.le_refl _ | omega | (simp; done)))
    ·exact blk_new w3 (.cells #[.int .i64 r1, .int .i64 r2, .int .i64 r3, .int .i64 r4, .int .i64 r5] 25)
   intro w46 hq_
   obtain ⟨hb, hx0_⟩ := hq_
   have Z46 : Ad (w3.heap.size ≤ w46.heap.size) := ⟨hb.size⟩
   replace HB := Am (Bh HB.out HB.out.size hb)
   clear hb
   have BX1 : Ad (w46.heap[w3.heap.size]? = some (.cells #[.int .i64 r1, .int .i64 r2, .int .i64 r3, .int .i64 r4, .int .i64 r5] 25 (0, 0))) := ⟨hx0_⟩
   clear hx0_
   have GBX1 : Ad (w3.heap.size < w46.heap.size) := ⟨Kl BX1.out⟩
   go_wp2_with (first | ((refine Gd (N := 43) rfl ?_); first | refine Er rfl (load_run BX1.out 5 rfl 25 _ (by rfl) (by rfl) _ Tryd.underlying25 rfl (by kernel_rfl)) ?_))
   (refine (impl_CmdText.calls K36 r1 r2 r3 r4 r5 r64 false w46 H36.out (EnvT.below HTw.out (by repeat (first | exact HB.out | apply Ba | apply Bn | apply Bd)))).mono ?_)
   rintro e w47 ⟨rfl, hb⟩
   have Z47 : Ad (w46.heap.size ≤ w47.heap.size) := ⟨hb.size⟩
   replace BX1 := Am (Kb BX1.out hb)
   replace HB := Am (Bh HB.out HB.out.size hb)
   clear hb
   obtain ⟨⟨K37, h37⟩, hF⟩ := HF.out
   clear HF
   have HF := Am hF
   clear hF
   have H37 := Am h37
   clear h37
   go_wp2_with (first | ((refine Gd (N := 48) rfl ?_); first | refine Er rfl (load_run BX1.out 5 rfl 25 _ (by rfl) (by rfl) _ Tryd.underlying25 rfl (by kernel_rfl)) ?_))
   (refine (spec_CmdText.calls K37 r1 r2 r3 r4 r5 r64 false w47 H37.out).mono ?_)
   rintro e w48 ⟨rfl, hb⟩
   have Z48 : Ad (w47.heap.size ≤ w48.heap.size) := ⟨hb.size⟩
   replace BX1 := Am (Kb BX1.out hb)
   replace HB := Am (Bh HB.out HB.out.size hb)
   clear hb
   obtain ⟨h38, hF⟩ := HF.out
   clear HF
   have HF := Am hF
   clear hF
   have H38 := Am h38
   clear h38
   have qBX1_0 : w48.cell? ⟨w3.heap.size, 0, none⟩ = some (.int .i64 r1) := (Kc BX1.out 0).trans rfl
   have qBX1_1 : w48.cell? ⟨w3.heap.size, 1, none⟩ = some (.int .i64 r2) := (Kc BX1.out 1).trans rfl
   have qBX1_2 : w48.cell? ⟨w3.heap.size, 2, none⟩ = some (.int .i64 r3) := (Kc BX1.out 2).trans rfl
   have qBX1_3 : w48.cell? ⟨w3.heap.size, 3, none⟩ = some (.int .i64 r4) := (Kc BX1.out 3).trans rfl
   have qBX1_4 : w48.cell? ⟨w3.heap.size, 4, none⟩ = some (.int .i64 r5) := (Kc BX1.out 4).trans rfl
   go_wp2_with (first | ((refine Gd (N := 61) rfl ?_); first | refine Er rfl (load_run BX1.out 5 rfl 25 _ (by rfl) (by rfl) _ Tryd.underlying25 rfl (by kernel_rfl)) ?_))
   clear qBX1_0 qBX1_1 qBX1_2 qBX1_3 qBX1_4
   refine start_ (n := 21) (S := fun w' => w'.heap[w3.heap.size]? = some (.cells #[.int .i64 r1, .int .i64 r2, .int .i64 r3, .int .i64 r4, .int .i64 r5] 25 (0, 0))) (ds := []) #[F_, F_, F_, F_, F_, F_, F_, F_, F_, F_, F_, F_, F_, F_, F_, F_, F_, F_, F_, F_, F_] (by kernel_rfl) rfl rfl BX1.out (fun hHeld => ?_)
   have hb : Below w48.heap.size w48 w48.drew := below_drew (Below.refl _ _)
   generalize w48.drew = w49 at hb hHeld ⊢
   have Z49 : Ad (w48.heap.size ≤ w49.heap.size) := ⟨hb.size⟩
   replace BX1 := Am (Kb BX1.out hb)
   replace HB := Am (Bh HB.out HB.out.size hb)
   clear hb
   refine pure_ (i := 0) (N := some 52) (v := ?_) (a' := ?_) #[T_, F_, F_, F_, F_, F_, F_, F_, F_, F_, F_, F_, F_, F_, F_, F_, F_, F_, F_, F_, F_] rfl rfl (by kernel_rfl) (fun _ _ _ h => h) (Or.inl ⟨by rfl, ?_⟩) ?_ ?_
   rotate_left
   ·intro w'
    go_simp
    with_reducible rfl
   rotate_left
   ·simp only [Act.put, Lt, Lz, Ls, i64_w, i32_w]
    rfl
   refine pure_ (i := 1) (N := some 53) (v := ?_) (a' := ?_) #[T_, T_, F_, F_, F_, F_, F_, F_, F_, F_, F_, F_, F_, F_, F_, F_, F_, F_, F_, F_, F_] rfl rfl (by kernel_rfl) (fun _ _ _ h => h) (Or.inl ⟨by rfl, ?_⟩) ?_ ?_
   rotate_left
   ·intro w'
    go_simp
    with_reducible rfl
   rotate_left
   ·simp only [Act.put, Lt, Lz, Ls, i64_w, i32_w]
    rfl
   refine pure_ (i := 2) (N := some 54) (v := ?_) (a' := ?_) #[T_, T_, T_, F_, F_, F_, F_, F_, F_, F_, F_, F_, F_, F_, F_, F_, F_, F_, F_, F_, F_] rfl rfl (by kernel_rfl) (fun _ _ _ h => h) (Or.inl ⟨by rfl, ?_⟩) ?_ ?_
   rotate_left
   ·intro w'
    go_simp
    with_reducible rfl
   rotate_left
   ·simp only [Act.put, Lt, Lz, Ls, i64_w, i32_w]
    rfl
   refine pure_ (i := 3) (N := some 55) (v := ?_) (a' := ?_) #[T_, T_, T_, T_, F_, F_, F_, F_, F_, F_, F_, F_, F_, F_, F_, F_, F_, F_, F_, F_, F_] rfl rfl (by kernel_rfl) (fun _ _ _ h => h) (Or.inl ⟨by rfl, ?_⟩) ?_ ?_
   rotate_left
   ·intro w'
    go_simp
    with_reducible rfl
   rotate_left
   ·simp only [Act.put, Lt, Lz, Ls, i64_w, i32_w]
    rfl
   refine pure_ (i := 4) (N := some 56) (v := ?_) (a' := ?_) #[T_, T_, T_, T_, T_, F_, F_, F_, F_, F_, F_, F_, F_, F_, F_, F_, F_, F_, F_, F_, F_] rfl rfl (by kernel_rfl) (fun _ _ _ h => h) (Or.inl ⟨by rfl, ?_⟩) ?_ ?_
   rotate_left
   ·intro w'
    go_simp
    with_reducible rfl
   rotate_left
   ·simp only [Act.put, Lt, Lz, Ls, i64_w, i32_w]
    rfl
   refine pure_ (i := 5) (N := some 57) (v := ?_) (a' := ?_) #[T_, T_, T_, T_, T_, T_, F_, F_, F_, F_, F_, F_, F_, F_, F_, F_, F_, F_, F_, F_, F_] rfl rfl (by kernel_rfl) (fun _ _ _ h => h) (Or.inl ⟨by rfl, ?_⟩) ?_ ?_
   rotate_left
   ·intro w'
    go_simp
    with_reducible rfl
   rotate_left
   ·simp only [Act.put, Lt, Lz, Ls, i64_w, i32_w]
    rfl
   refine pure_ (i := 6) (N := some 58) (v := ?_) (a' := ?_) #[T_, T_, T_, T_, T_, T_, T_, F_, F_, F_, F_, F_, F_, F_, F_, F_, F_, F_, F_, F_, F_] rfl rfl (by kernel_rfl) (fun _ _ _ h => h) (Or.inl ⟨by rfl, ?_⟩) ?_ ?_
   rotate_left
   ·intro w'
    go_simp
    with_reducible rfl
   rotate_left
   ·simp only [Act.put, Lt, Lz, Ls, i64_w, i32_w]
    rfl
   refine pure_ (i := 7) (N := some 59) (v := ?_) (a' := ?_) #[T_, T_, T_, T_, T_, T_, T_, T_, F_, F_, F_, F_, F_, F_, F_, F_, F_, F_, F_, F_, F_] rfl rfl (by kernel_rfl) (fun _ _ _ h => h) (Or.inl ⟨by rfl, ?_⟩) ?_ ?_
   rotate_left
   ·intro w'
    go_simp
    with_reducible rfl
   rotate_left
   ·simp only [Act.put, Lt, Lz, Ls, i64_w, i32_w]
    rfl
   refine pure_ (i := 8) (N := some 60) (v := ?_) (a' := ?_) #[T_, T_, T_, T_, T_, T_, T_, T_, T_, F_, F_, F_, F_, F_, F_, F_, F_, F_, F_, F_, F_] rfl rfl (by kernel_rfl) (fun _ _ _ h => h) (Or.inl ⟨by rfl, ?_⟩) ?_ ?_
   rotate_left
   ·intro w'
    go_simp
    with_reducible rfl
   rotate_left
   ·simp only [Act.put, Lt, Lz, Ls, i64_w, i32_w]
    rfl
   refine take_ (i := 9) (N := some 61) (v := ?_) (a' := ?_) #[T_, T_, T_, T_, T_, T_, T_, T_, T_, T_, F_, F_, F_, F_, F_, F_, F_, F_, F_, F_, F_] rfl rfl (by kernel_rfl) (fun _ _ _ h => h) (Or.inl ⟨by rfl, ?_⟩) hHeld ?_ ?_
   rotate_left
   ·intro w' s0
    first | (refine Eq.trans (load_run s0 5 rfl 25 _ (by rfl) (by rfl) _ Tryd.underlying25 rfl (by kernel_rfl)) ?_; with_reducible rfl)
   rotate_left
   ·simp only [Act.put, Lt, Lz, Ls, i64_w, i32_w]
    rfl
   refine take_ (i := 11) (N := some 63) (v := ?_) (a' := ?_) #[T_, T_, T_, T_, T_, T_, T_, T_, T_, T_, F_, T_, F_, F_, F_, F_, F_, F_, F_, F_, F_] rfl rfl (by kernel_rfl) (fun _ _ _ h => h) (Or.inl ⟨by rfl, ?_⟩) hHeld ?_ ?_
   rotate_left
   ·intro w' s0
    first | (refine Eq.trans (load_run s0 5 rfl 25 _ (by rfl) (by rfl) _ Tryd.underlying25 rfl (by kernel_rfl)) ?_; with_reducible rfl)
   rotate_left
   ·simp only [Act.put, Lt, Lz, Ls, i64_w, i32_w]
    rfl
   refine one_ (i := 10) (N := some 62) #[T_, T_, T_, T_, T_, T_, T_, T_, T_, T_, T_, T_, F_, F_, F_, F_, F_, F_, F_, F_, F_] rfl rfl (by kernel_rfl) (by decide) (fun K hK => ?_)
   refine goes_ Tryd.func12 (by kernel_rfl) rfl #[.agg #[.int .i64 r1, .int .i64 r2, .int .i64 r3, .int .i64 r4, .int .i64 r5]] (by rfl) rfl rfl (by (try simp only [Lm, Lc, Ln]); first | done | rfl) ?_
   (refine (impl_GoodCmd.calls r1 r2 r3 r4 r5 false w49 H38.out).mono ?_)
   rintro e w50 ⟨rfl, hb⟩
   refine ⟨_, rfl, ?_⟩
   have Z50 : Ad (w49.heap.size ≤ w50.heap.size) := ⟨hb.size⟩
   replace BX1 := Am (Kb BX1.out hb)
   replace HB := Am (Bh HB.out HB.out.size hb)
   clear hb
   refine hK.out _ _ BX1.out (fun hHeld => ?_)
   clear hK K
   refine norm_ (a' := ?_) ?_ ?_
   rotate_left
   ·show Act.put _ (some 62) _ = _
    simp only [Act.put, Lt, Lz, Ls, i64_w, i32_w]
    rfl
   obtain ⟨h39, hF⟩ := HF.out
   clear HF
   have HF := Am hF
   clear hF
   have H39 := Am h39
   clear h39
   refine one_ (i := 12) (N := some 64) #[T_, T_, T_, T_, T_, T_, T_, T_, T_, T_, T_, T_, T_, F_, F_, F_, F_, F_, F_, F_, F_] rfl rfl (by kernel_rfl) (by decide) (fun K hK => ?_)
   refine goes_ Tryd.func13 (by kernel_rfl) rfl #[.agg #[.int .i64 r1, .int .i64 r2, .int .i64 r3, .int .i64 r4, .int .i64 r5]] (by rfl) rfl rfl (by (try simp only [Lm, Lc, Ln]); first | done | rfl) ?_
   (refine (spec_GoodCmd.calls r1 r2 r3 r4 r5 false w50 H39.out).mono ?_)
   rintro e w51 ⟨rfl, hb⟩
   refine ⟨_, rfl, ?_⟩
   have Z51 : Ad (w50.heap.size ≤ w51.heap.size) := ⟨hb.size⟩
   replace BX1 := Am (Kb BX1.out hb)
   replace HB := Am (Bh HB.out HB.out.size hb)
   clear hb
   refine hK.out _ _ BX1.out (fun hHeld => ?_)
   clear hK K
   refine norm_ (a' := ?_) ?_ ?_
   rotate_left
   ·show Act.put _ (some 64) _ = _
    simp only [Act.put, Lt, Lz, Ls, i64_w, i32_w]
    rfl
   refine pure_ (i := 13) (N := some 65) (v := ?_) (a' := ?_) #[T_, T_, T_, T_, T_, T_, T_, T_, T_, T_, T_, T_, T_, T_, F_, F_, F_, F_, F_, F_, F_] rfl rfl (by kernel_rfl) (fun _ _ _ h => h) (Or.inl ⟨by rfl, ?_⟩) ?_ ?_
   rotate_left
   ·intro w'
    go_simp
    with_reducible rfl
   rotate_left
   ·simp only [Act.put, Lt, Lz, Ls, i64_w, i32_w]
    rfl
   refine pure_ (i := 14) (N := some 66) (v := ?_) (a' := ?_) #[T_, T_, T_, T_, T_, T_, T_, T_, T_, T_, T_, T_, T_, T_, T_, F_, F_, F_, F_, F_, F_] rfl rfl (by kernel_rfl) (fun _ _ _ h => h) (Or.inl ⟨by rfl, ?_⟩) ?_ ?_
   rotate_left
   ·intro w'
    go_simp
    with_reducible rfl
   rotate_left
   ·simp only [Act.put, Lt, Lz, Ls, i64_w, i32_w]
    rfl
   refine pure_ (i := 15) (N := some 67) (v := ?_) (a' := ?_) #[T_, T_, T_, T_, T_, T_, T_, T_, T_, T_, T_, T_, T_, T_, T_, T_, F_, F_, F_, F_, F_] rfl rfl (by kernel_rfl) (fun _ _ _ h => h) (Or.inl ⟨by rfl, ?_⟩) ?_ ?_
   rotate_left
   ·intro w'
    go_simp
    with_reducible rfl
   rotate_left
   ·simp only [Act.put, Lt, Lz, Ls, i64_w, i32_w]
    rfl
   refine pure_ (i := 16) (N := some 68) (v := ?_) (a' := ?_) #[T_, T_, T_, T_, T_, T_, T_, T_, T_, T_, T_, T_, T_, T_, T_, T_, T_, F_, F_, F_, F_] rfl rfl (by kernel_rfl) (fun _ _ _ h => h) (Or.inl ⟨by rfl, ?_⟩) ?_ ?_
   rotate_left
   ·intro w'
    go_simp
    with_reducible rfl
   rotate_left
   ·simp only [Act.put, Lt, Lz, Ls, i64_w, i32_w]
    rfl
   refine take_ (i := 17) (N := some 69) (v := ?_) (a' := ?_) #[T_, T_, T_, T_, T_, T_, T_, T_, T_, T_, T_, T_, T_, T_, T_, T_, T_, T_, F_, F_, F_] rfl rfl (by kernel_rfl) (fun _ _ _ h => h) (Or.inl ⟨by rfl, ?_⟩) hHeld ?_ ?_
   rotate_left
   ·intro w' s0
    first | (refine Eq.trans (load_run s0 5 rfl 25 _ (by rfl) (by rfl) _ Tryd.underlying25 rfl (by kernel_rfl)) ?_; with_reducible rfl)
   rotate_left
   ·simp only [Act.put, Lt, Lz, Ls, i64_w, i32_w]
    rfl
   refine one_ (i := 18) (N := some 70) #[T_, T_, T_, T_, T_, T_, T_, T_, T_, T_, T_, T_, T_, T_, T_, T_, T_, T_, T_, F_, F_] rfl rfl (by kernel_rfl) (by decide) (fun K hK => ?_)
   refine goes_ Tryd.func12 (by kernel_rfl) rfl #[.agg #[.int .i64 r1, .int .i64 r2, .int .i64 r3, .int .i64 r4, .int .i64 r5]] (by rfl) rfl rfl (by (try simp only [Lm, Lc, Ln]); first | done | rfl) ?_
   (refine (impl_GoodCmd.calls r1 r2 r3 r4 r5 false w51 H38.out).mono ?_)
   rintro e w52 ⟨rfl, hb⟩
   refine ⟨_, rfl, ?_⟩
   have Z52 : Ad (w51.heap.size ≤ w52.heap.size) := ⟨hb.size⟩
   replace BX1 := Am (Kb BX1.out hb)
   replace HB := Am (Bh HB.out HB.out.size hb)
   clear hb
   refine hK.out _ _ BX1.out (fun hHeld => ?_)
   clear hK K
   refine norm_ (a' := ?_) ?_ ?_
   rotate_left
   ·show Act.put _ (some 70) _ = _
    simp only [Act.put, Lt, Lz, Ls, i64_w, i32_w]
    rfl
   refine pure_ (i := 19) (N := some 71) (v := ?_) (a' := ?_) #[T_, T_, T_, T_, T_, T_, T_, T_, T_, T_, T_, T_, T_, T_, T_, T_, T_, T_, T_, T_, F_] rfl rfl (by kernel_rfl) (fun _ _ _ h => h) (Or.inl ⟨by rfl, ?_⟩) ?_ ?_
   rotate_left
   ·intro w'
    go_simp
    with_reducible rfl
   rotate_left
   ·simp only [Act.put, Lt, Lz, Ls, i64_w, i32_w]
    rfl
   refine pure_ (i := 20) (N := some 72) (v := ?_) (a' := ?_) #[T_, T_, T_, T_, T_, T_, T_, T_, T_, T_, T_, T_, T_, T_, T_, T_, T_, T_, T_, T_, T_] rfl rfl (by kernel_rfl) (fun _ _ _ h => h) (Or.inl ⟨by rfl, ?_⟩) ?_ ?_
   rotate_left
   ·intro w'
    go_simp
    with_reducible rfl
   rotate_left
   ·simp only [Act.put, Lt, Lz, Ls, i64_w, i32_w]
    rfl
   refine done_ (by kernel_rfl) ?_
   obtain ⟨r65, r66, r67, r68, r69, r70, r71, r72, r73, r74, h40, hF⟩ := HF.out
   clear HF
   have HF := Am hF
   clear hF
   have H40 := Am h40
   clear h40
   go_wp2_with fail
   (refine (spec_DrawInterfere.calls A1 c1 l1 r65 r66 r67 r68 r69 r70 r71 r72 r73 r74 w52 (Cb HR1.out HB.out) HC1.out H40.out).mono ?_)
   rintro e w53 ⟨rfl, hb⟩
   have Z53 : Ad (w52.heap.size ≤ w53.heap.size) := ⟨hb.size⟩
   replace BX1 := Am (Kb BX1.out hb)
   replace HB := Am (Bh HB.out HB.out.size hb)
   clear hb
   obtain ⟨r75, r76, ⟨K41, h41⟩, hF⟩ := HF.out
   clear HF
   have HF := Am hF
   clear hF
   have H41 := Am h41
   clear h41
   go_upto_region 15 with (fail)
   refine letC (fun W_ => Below w53.heap.size w53 W_ ∧ W_.heap[w53.heap.size]? = some (.cells #[.int .i64 r65, .int .i64 r66, .int .i64 r67, .int .i64 r68, .int .i64 r69] 25 (0, 0)) ∧ W_.heap[w53.heap.size + 1]? = some (.cells #[.int .i64 r70, .int .i64 r71, .int .i64 r72, .int .i64 r73, .int .i64 r74] 25 (0, 0))) ?_ ?_
   ·refine ⟨?_, ?_, ?_⟩
    ·repeat (first | exact Below.refl _ _ | apply Ba | refine Bs ?_ (by first | exact Nat.le_refl _ | omega | (simp; done)))
    ·simpa using Ka (blk_new w53 (.cells #[.int .i64 r65, .int .i64 r66, .int .i64 r67, .int .i64 r68, .int .i64 r69] 25)) (.cells #[.int .i64 r70, .int .i64 r71, .int .i64 r72, .int .i64 r73, .int .i64 r74] 25)
    ·simpa using blk_new (w53.alloc (.cells #[.int .i64 r65, .int .i64 r66, .int .i64 r67, .int .i64 r68, .int .i64 r69] 25)) (.cells #[.int .i64 r70, .int .i64 r71, .int .i64 r72, .int .i64 r73, .int .i64 r74] 25)
   intro w54 hq_
   obtain ⟨hb, hx0_, hx1_⟩ := hq_
   have Z54 : Ad (w53.heap.size ≤ w54.heap.size) := ⟨hb.size⟩
   replace BX1 := Am (Kb BX1.out hb)
   replace HB := Am (Bh HB.out HB.out.size hb)
   clear hb
   have BX13 : Ad (w54.heap[w53.heap.size]? = some (.cells #[.int .i64 r65, .int .i64 r66, .int .i64 r67, .int .i64 r68, .int .i64 r69] 25 (0, 0))) := ⟨hx0_⟩
   clear hx0_
   have GBX13 : Ad (w53.heap.size < w54.heap.size) := ⟨Kl BX13.out⟩
   have BX14 : Ad (w54.heap[w53.heap.size + 1]? = some (.cells #[.int .i64 r70, .int .i64 r71, .int .i64 r72, .int .i64 r73, .int .i64 r74] 25 (0, 0))) := ⟨hx1_⟩
   clear hx1_
   have GBX14 : Ad (w53.heap.size + 1 < w54.heap.size) := ⟨Kl BX14.out⟩
   go_wp2_with (first | ((refine Gd (N := 123) rfl ?_); first | refine Er rfl (load_run BX13.out 5 rfl 25 _ (by rfl) (by rfl) _ Tryd.underlying25 rfl (by kernel_rfl)) ?_ | refine Er rfl (load_run BX14.out 5 rfl 25 _ (by rfl) (by rfl) _ Tryd.underlying25 rfl (by kernel_rfl)) ?_) | ((refine Gd (N := 124) rfl ?_); first | refine Er rfl (load_run BX13.out 5 rfl 25 _ (by rfl) (by rfl) _ Tryd.underlying25 rfl (by kernel_rfl)) ?_ | refine Er rfl (load_run BX14.out 5 rfl 25 _ (by rfl) (by rfl) _ Tryd.underlying25 rfl (by kernel_rfl)) ?_))
   (refine (impl_Interfere.calls K41 r65 r66 r67 r68 r69 r70 r71 r72 r73 r74 r75 r76 w54 H41.out).mono ?_)
   rintro e w55 ⟨rfl, hb⟩
   have Z55 : Ad (w54.heap.size ≤ w55.heap.size) := ⟨hb.size⟩
   replace BX1 := Am (Kb BX1.out hb)
   replace BX13 := Am (Kb BX13.out hb)
   replace BX14 := Am (Kb BX14.out hb)
   replace HB := Am (Bh HB.out HB.out.size hb)
   clear hb
   obtain ⟨⟨K42, h42⟩, hF⟩ := HF.out
   clear HF
   have HF := Am hF
   clear hF
   have H42 := Am h42
   clear h42
   go_wp2_with (first | ((refine Gd (N := 129) rfl ?_); first | refine Er rfl (load_run BX13.out 5 rfl 25 _ (by rfl) (by rfl) _ Tryd.underlying25 rfl (by kernel_rfl)) ?_ | refine Er rfl (load_run BX14.out 5 rfl 25 _ (by rfl) (by rfl) _ Tryd.underlying25 rfl (by kernel_rfl)) ?_) | ((refine Gd (N := 130) rfl ?_); first | refine Er rfl (load_run BX13.out 5 rfl 25 _ (by rfl) (by rfl) _ Tryd.underlying25 rfl (by kernel_rfl)) ?_ | refine Er rfl (load_run BX14.out 5 rfl 25 _ (by rfl) (by rfl) _ Tryd.underlying25 rfl (by kernel_rfl)) ?_))
   (refine (spec_Interfere.calls K42 r65 r66 r67 r68 r69 r70 r71 r72 r73 r74 r75 r76 w55 H42.out).mono ?_)
   rintro e w56 ⟨rfl, hb⟩
   have Z56 : Ad (w55.heap.size ≤ w56.heap.size) := ⟨hb.size⟩
   replace BX1 := Am (Kb BX1.out hb)
   replace BX13 := Am (Kb BX13.out hb)
   replace BX14 := Am (Kb BX14.out hb)
   replace HB := Am (Bh HB.out HB.out.size hb)
   clear hb
   obtain ⟨⟨K43, h43⟩, hF⟩ := HF.out
   clear HF
   have HF := Am hF
   clear hF
   have H43 := Am h43
   clear h43
   go_wp2_with (first | ((refine Gd (N := 135) rfl ?_); first | refine Er rfl (load_run BX13.out 5 rfl 25 _ (by rfl) (by rfl) _ Tryd.underlying25 rfl (by kernel_rfl)) ?_ | refine Er rfl (load_run BX14.out 5 rfl 25 _ (by rfl) (by rfl) _ Tryd.underlying25 rfl (by kernel_rfl)) ?_) | ((refine Gd (N := 136) rfl ?_); first | refine Er rfl (load_run BX13.out 5 rfl 25 _ (by rfl) (by rfl) _ Tryd.underlying25 rfl (by kernel_rfl)) ?_ | refine Er rfl (load_run BX14.out 5 rfl 25 _ (by rfl) (by rfl) _ Tryd.underlying25 rfl (by kernel_rfl)) ?_))
   (refine (impl_Interfere.calls K43 r70 r71 r72 r73 r74 r65 r66 r67 r68 r69 r75 r76 w56 H43.out).mono ?_)
   rintro e w57 ⟨rfl, hb⟩
   have Z57 : Ad (w56.heap.size ≤ w57.heap.size) := ⟨hb.size⟩
   replace BX1 := Am (Kb BX1.out hb)
   replace BX13 := Am (Kb BX13.out hb)
   replace BX14 := Am (Kb BX14.out hb)
   replace HB := Am (Bh HB.out HB.out.size hb)
   clear hb
   obtain ⟨r77, ⟨K44, h44⟩, hF⟩ := HF.out
   clear HF
   have HF := Am hF
   clear hF
   have H44 := Am h44
   clear h44
   go_wp2_with fail
   (refine (spec_DrawReadCmd.calls K44 A1 c1 l1 r77 w57 (Cb HR1.out HB.out) HC1.out H44.out).mono ?_)
   rintro e w58 ⟨rfl, hb⟩
   have Z58 : Ad (w57.heap.size ≤ w58.heap.size) := ⟨hb.size⟩
   replace BX1 := Am (Kb BX1.out hb)
   replace BX13 := Am (Kb BX13.out hb)
   replace BX14 := Am (Kb BX14.out hb)
   replace HB := Am (Bh HB.out HB.out.size hb)
   clear hb
   obtain ⟨r78, r79, r80, r81, r82, r83, r84, ⟨K45, h45⟩, hF⟩ := HF.out
   clear HF
   have HF := Am hF
   clear hF
   have H45 := Am h45
   clear h45
   go_wp2_with fail
   (refine (impl_ReadCmd.calls K45 r77 r78 r79 r80 r81 r82 r83 r84 w58 H45.out (EnvM.below HMw.out (by repeat (first | exact HB.out | apply Ba | apply Bn | apply Bd)))).mono ?_)
   rintro e w59 ⟨rfl, hb⟩
   have Z59 : Ad (w58.heap.size ≤ w59.heap.size) := ⟨hb.size⟩
   replace BX1 := Am (Kb BX1.out hb)
   replace BX13 := Am (Kb BX13.out hb)
   replace BX14 := Am (Kb BX14.out hb)
   replace HB := Am (Bh HB.out HB.out.size hb)
   clear hb
   obtain ⟨⟨K46, h46⟩, hF⟩ := HF.out
   clear HF
   have HF := Am hF
   clear hF
   have H46 := Am h46
   clear h46
   go_upto_region 20 with (fail)
   refine letC (fun W_ => Below w59.heap.size w59 W_ ∧ W_.heap[w59.heap.size]? = some (.cells #[.int .i64 r78, .int .i64 r79, .int .i64 r80, .int .i64 r81, .int .i64 r82] 25 (0, 0))) ?_ ?_
   ·refine ⟨?_, ?_⟩
    ·repeat (first | exact Below.refl _ _ | apply Ba | refine Bs ?_ (by first | exact Nat.le_refl _ | omega | (simp; done)))
    ·exact blk_new w59 (.cells #[.int .i64 r78, .int .i64 r79, .int .i64 r80, .int .i64 r81, .int .i64 r82] 25)
   intro w60 hq_
   obtain ⟨hb, hx0_⟩ := hq_
   have Z60 : Ad (w59.heap.size ≤ w60.heap.size) := ⟨hb.size⟩
   replace BX1 := Am (Kb BX1.out hb)
   replace BX13 := Am (Kb BX13.out hb)
   replace BX14 := Am (Kb BX14.out hb)
   replace HB := Am (Bh HB.out HB.out.size hb)
   clear hb
   have BX15 : Ad (w60.heap[w59.heap.size]? = some (.cells #[.int .i64 r78, .int .i64 r79, .int .i64 r80, .int .i64 r81, .int .i64 r82] 25 (0, 0))) := ⟨hx0_⟩
   clear hx0_
   have GBX15 : Ad (w59.heap.size < w60.heap.size) := ⟨Kl BX15.out⟩
   go_wp2_with fail
   (refine (spec_ReadCmd.calls K46 r77 r78 r79 r80 r81 r82 r83 r84 w60 H46.out).mono ?_)
   rintro e w61 ⟨rfl, hb⟩
   have Z61 : Ad (w60.heap.size ≤ w61.heap.size) := ⟨hb.size⟩
   replace BX1 := Am (Kb BX1.out hb)
   replace BX13 := Am (Kb BX13.out hb)
   replace BX14 := Am (Kb BX14.out hb)
   replace BX15 := Am (Kb BX15.out hb)
   replace HB := Am (Bh HB.out HB.out.size hb)
   clear hb
   obtain ⟨r85, r86, r87, r88, r89, h47, hF⟩ := HF.out
   clear HF
   have HF := Am hF
   clear hF
   have H47 := Am h47
   clear h47
   go_upto_region 21 with (fail)
   refine letC (fun W_ => Below w61.heap.size w61 W_ ∧ W_.heap[w61.heap.size]? = some (.cells #[.int .i64 r78, .int .i64 r79, .int .i64 r80, .int .i64 r81, .int .i64 r82] 25 (0, 0))) ?_ ?_
   ·refine ⟨?_, ?_⟩
    ·repeat (first | exact Below.refl _ _ | apply Ba | refine Bs ?_ (by first | exact Nat.le_refl _ | omega | (simp; done)))
    ·exact blk_new w61 (.cells #[.int .i64 r78, .int .i64 r79, .int .i64 r80, .int .i64 r81, .int .i64 r82] 25)
   intro w62 hq_
   obtain ⟨hb, hx0_⟩ := hq_
   have Z62 : Ad (w61.heap.size ≤ w62.heap.size) := ⟨hb.size⟩
   replace BX1 := Am (Kb BX1.out hb)
   replace BX13 := Am (Kb BX13.out hb)
   replace BX14 := Am (Kb BX14.out hb)
   replace BX15 := Am (Kb BX15.out hb)
   replace HB := Am (Bh HB.out HB.out.size hb)
   clear hb
   have BX16 : Ad (w62.heap[w61.heap.size]? = some (.cells #[.int .i64 r78, .int .i64 r79, .int .i64 r80, .int .i64 r81, .int .i64 r82] 25 (0, 0))) := ⟨hx0_⟩
   clear hx0_
   have GBX16 : Ad (w61.heap.size < w62.heap.size) := ⟨Kl BX16.out⟩
   go_wp2_with fail
   (refine (spec_DrawTouchesOf.calls A1 c1 l1 r85 r86 r87 r88 r89 w62 (Cb HR1.out HB.out) HC1.out H47.out).mono ?_)
   rintro e w63 ⟨rfl, hb⟩
   have Z63 : Ad (w62.heap.size ≤ w63.heap.size) := ⟨hb.size⟩
   replace BX1 := Am (Kb BX1.out hb)
   replace BX13 := Am (Kb BX13.out hb)
   replace BX14 := Am (Kb BX14.out hb)
   replace BX15 := Am (Kb BX15.out hb)
   replace BX16 := Am (Kb BX16.out hb)
   replace HB := Am (Bh HB.out HB.out.size hb)
   clear hb
   obtain ⟨r90, r91, h48, hF⟩ := HF.out
   clear HF
   have HF := Am hF
   clear hF
   have H48 := Am h48
   clear h48
   go_upto_region 22 with (fail)
   refine letC (fun W_ => Below w63.heap.size w63 W_ ∧ W_.heap[w63.heap.size]? = some (.cells #[.int .i64 r85, .int .i64 r86, .int .i64 r87, .int .i64 r88, .int .i64 r89] 25 (0, 0))) ?_ ?_
   ·refine ⟨?_, ?_⟩
    ·repeat (first | exact Below.refl _ _ | apply Ba | refine Bs ?_ (by first | exact Nat.le_refl _ | omega | (simp; done)))
    ·exact blk_new w63 (.cells #[.int .i64 r85, .int .i64 r86, .int .i64 r87, .int .i64 r88, .int .i64 r89] 25)
   intro w64 hq_
   obtain ⟨hb, hx0_⟩ := hq_
   have Z64 : Ad (w63.heap.size ≤ w64.heap.size) := ⟨hb.size⟩
   replace BX1 := Am (Kb BX1.out hb)
   replace BX13 := Am (Kb BX13.out hb)
   replace BX14 := Am (Kb BX14.out hb)
   replace BX15 := Am (Kb BX15.out hb)
   replace BX16 := Am (Kb BX16.out hb)
   replace HB := Am (Bh HB.out HB.out.size hb)
   clear hb
   have BX17 : Ad (w64.heap[w63.heap.size]? = some (.cells #[.int .i64 r85, .int .i64 r86, .int .i64 r87, .int .i64 r88, .int .i64 r89] 25 (0, 0))) := ⟨hx0_⟩
   clear hx0_
   have GBX17 : Ad (w63.heap.size < w64.heap.size) := ⟨Kl BX17.out⟩
   go_wp2_with (first | ((refine Gd (N := 157) rfl ?_); first | refine Er rfl (load_run BX17.out 5 rfl 25 _ (by rfl) (by rfl) _ Tryd.underlying25 rfl (by kernel_rfl)) ?_))
   (refine (impl_TouchesOf.calls r85 r86 r87 r88 r89 r90 r91 w64 H48.out).mono ?_)
   rintro e w65 ⟨v0_, rfl, hS0, hb⟩
   have X6 : Ad (Kd.R (Kd.int .i64) 3 w65 w.heap.size (fun k => w64.heap.size ≤ k ∧ k < w65.heap.size) v0_ r90) := ⟨Rm (Kd.R_lower (Ro hS0) HB.out.size) (fun k hk => ⟨hk.2.1, hk.2.2.1⟩)⟩
   have Z65 : Ad (w64.heap.size ≤ w65.heap.size) := ⟨hb.size⟩
   replace BX1 := Am (Kb BX1.out hb)
   replace BX13 := Am (Kb BX13.out hb)
   replace BX14 := Am (Kb BX14.out hb)
   replace BX15 := Am (Kb BX15.out hb)
   replace BX16 := Am (Kb BX16.out hb)
   replace BX17 := Am (Kb BX17.out hb)
   replace HB := Am (Bh HB.out HB.out.size hb)
   clear hb hS0
   obtain ⟨A6_, c6_, rfl⟩ := Rs X6.out
   obtain ⟨r92, ⟨K49, h49⟩, hF⟩ := HF.out
   clear HF
   have HF := Am hF
   clear hF
   have H49 := Am h49
   clear h49
   go_wp2_with (first | ((refine Gd (N := 162) rfl ?_); first | refine Er rfl (load_run BX17.out 5 rfl 25 _ (by rfl) (by rfl) _ Tryd.underlying25 rfl (by kernel_rfl)) ?_))
   (refine (spec_TouchesOf.calls K49 r85 r86 r87 r88 r89 r92 r91 w65 H49.out).mono ?_)
   rintro e w66 ⟨v0_, rfl, hS0, hb⟩
   have X7 : Ad (Kd.R (Kd.int .i64) 3 w66 w.heap.size (fun k => w65.heap.size ≤ k ∧ k < w66.heap.size) v0_ r92) := ⟨Rm (Kd.R_lower (Ro hS0) HB.out.size) (fun k hk => ⟨hk.2.1, hk.2.2.1⟩)⟩
   have Z66 : Ad (w65.heap.size ≤ w66.heap.size) := ⟨hb.size⟩
   replace X6 := Am (Rb X6.out hb)
   replace BX1 := Am (Kb BX1.out hb)
   replace BX13 := Am (Kb BX13.out hb)
   replace BX14 := Am (Kb BX14.out hb)
   replace BX15 := Am (Kb BX15.out hb)
   replace BX16 := Am (Kb BX16.out hb)
   replace BX17 := Am (Kb BX17.out hb)
   replace HB := Am (Bh HB.out HB.out.size hb)
   clear hb hS0
   obtain ⟨A7_, c7_, rfl⟩ := Rs X7.out
   obtain ⟨⟨K50, h50⟩, hF⟩ := HF.out
   clear HF
   have HF := Am hF
   clear hF
   have H50 := Am h50
   clear h50
   have qBX15_0 : w66.cell? ⟨w59.heap.size, 0, none⟩ = some (.int .i64 r78) := (Kc BX15.out 0).trans rfl
   have qBX15_1 : w66.cell? ⟨w59.heap.size, 1, none⟩ = some (.int .i64 r79) := (Kc BX15.out 1).trans rfl
   have qBX15_2 : w66.cell? ⟨w59.heap.size, 2, none⟩ = some (.int .i64 r80) := (Kc BX15.out 2).trans rfl
   have qBX15_3 : w66.cell? ⟨w59.heap.size, 3, none⟩ = some (.int .i64 r81) := (Kc BX15.out 3).trans rfl
   have qBX15_4 : w66.cell? ⟨w59.heap.size, 4, none⟩ = some (.int .i64 r82) := (Kc BX15.out 4).trans rfl
   have qBX16_0 : w66.cell? ⟨w61.heap.size, 0, none⟩ = some (.int .i64 r78) := (Kc BX16.out 0).trans rfl
   have qBX16_1 : w66.cell? ⟨w61.heap.size, 1, none⟩ = some (.int .i64 r79) := (Kc BX16.out 1).trans rfl
   have qBX16_2 : w66.cell? ⟨w61.heap.size, 2, none⟩ = some (.int .i64 r80) := (Kc BX16.out 2).trans rfl
   have qBX16_3 : w66.cell? ⟨w61.heap.size, 3, none⟩ = some (.int .i64 r81) := (Kc BX16.out 3).trans rfl
   have qBX16_4 : w66.cell? ⟨w61.heap.size, 4, none⟩ = some (.int .i64 r82) := (Kc BX16.out 4).trans rfl
   go_wp2_with (first | ((refine Gd (N := 190) rfl ?_); first | refine Er rfl (load_run BX15.out 5 rfl 25 _ (by rfl) (by rfl) _ Tryd.underlying25 rfl (by kernel_rfl)) ?_ | refine Er rfl (load_run BX16.out 5 rfl 25 _ (by rfl) (by rfl) _ Tryd.underlying25 rfl (by kernel_rfl)) ?_) | ((refine Gd (N := 191) rfl ?_); first | refine Er rfl (load_run BX15.out 5 rfl 25 _ (by rfl) (by rfl) _ Tryd.underlying25 rfl (by kernel_rfl)) ?_ | refine Er rfl (load_run BX16.out 5 rfl 25 _ (by rfl) (by rfl) _ Tryd.underlying25 rfl (by kernel_rfl)) ?_))
   clear qBX15_0 qBX15_1 qBX15_2 qBX15_3 qBX15_4 qBX16_0 qBX16_1 qBX16_2 qBX16_3 qBX16_4
   (refine (laws_sameInts.calls K50 A6_ c6_ r90 A7_ c7_ r92 true w66 (Rr X6.out).2.2 (Rr X6.out).2.1 (Rr X7.out).2.2 (Rr X7.out).2.1 H50.out).mono ?_)
   rintro e w67 ⟨rfl, hd⟩
   have hb := hd.below
   clear hd
   have Z67 : Ad (w66.heap.size ≤ w67.heap.size) := ⟨hb.size⟩
   replace X6 := Am (Rb X6.out hb)
   replace X7 := Am (Rb X7.out hb)
   replace BX1 := Am (Kb BX1.out hb)
   replace BX13 := Am (Kb BX13.out hb)
   replace BX14 := Am (Kb BX14.out hb)
   replace BX15 := Am (Kb BX15.out hb)
   replace BX16 := Am (Kb BX16.out hb)
   replace BX17 := Am (Kb BX17.out hb)
   replace HB := Am (Bh HB.out HB.out.size hb)
   clear hb
   go_wp2
   go_ret
   exact ⟨rfl, HB.out⟩
end Go.Proofs.YtmknjfnhfcljcaaDoor.QFnCmds
