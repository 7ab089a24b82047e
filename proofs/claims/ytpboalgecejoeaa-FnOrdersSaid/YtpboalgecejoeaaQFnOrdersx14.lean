-- Written by a program of this session (wip/mk.py) over the kit's print: Lean checks it.
import Derived.Test.YtpboalgecejoeaaQFnOrdersx0
import Derived.Test.YtpboalgecejoeaaQFnOrdersx4
import Derived.Test.YtpboalgecejoeaaQFnOrdersx5
import Derived.Test.YtpboalgecejoeaaQFnOrdersx10
import Derived.Test.YtpboalgecejoeaaQFnOrdersx11
import Derived.Test.YtpboalgecejoeaaQFnOrdersx12
import Derived.Test.YtpboalgecejoeaaQFnOrdersx13
namespace Go.Proofs.Ytpboalgecejoeaa.QFnOrders
open Go.Proofs.YtpboalgecejoeaaW.PrintWords renaming below_alloc → Ba, blk_alloc → Ka, blk_below → Kb, blk_cell → Kc
open Go.Proofs.YtpboalgecejoeaaW.PrintWords.Aside0 renaming mk → Am
open Go.Proofs.YtpboalgecejoeaaW.PrintWords renaming Aside0 → Ad
open Go.RowKit Go.Proofs.YtpboalgecejoeaaW.PrintWords Go.Proofs.YtpboalgecejoeaaW.PrintLast Go.Proofs.YtpboalgecejoeaaW.PrintMore
attribute [local go_sem] max2_int min2_int max_two min_two max_three min_three max_four min_four   -- for this text's walks alone
set_option linter.unusedVariables false
set_option linter.unusedSimpArgs false
def impl_ClosedIn.f (k : Nat) (l0 : List (List Int)) (l1 : List Int) : Option (List Int × Bool) :=
 (impl_GoodGraph.f l0).bind fun b => if b = true then ((impl_areMembers.f (l0.length : Int) l1).bind fun b2 => if b2 = true then ((slices_Clone_int_int.f l1).bind fun l => (Mine.delO (fun x => impl_ClosedIn_1.f k x l0 l1) l).bind fun r => some (r, true)) else some ([], false)) else some ([], false)
set_option maxHeartbeats 4000000 in
set_option maxRecDepth 100000 in
theorem impl_ClosedIn.calls (k : Nat) (A0 : Option Addr) (c0 : Nat) (l0 : List (List Int)) (A1 : Option Addr) (c1 : Nat) (l1 : List Int) (r1 : List Int) (r2 : Bool) (w : World) (hr0 : Kd.C (Kd.slice 3 (Kd.int .i64)) w A0 l0.length l0) (hc0 : l0.length ≤ c0) (hr1 : Kd.C (Kd.int .i64) w A1 l1.length l1) (hc1 : l1.length ≤ c1) (h : impl_ClosedIn.f k l0 l1 = some (r1, r2)) :
  Calls Try.prog 23 #[.slice A0 l0.length c0, .slice A1 l1.length c1] w fun e w' => ∃ v0_ : Value, e = .returned (.tuple #[v0_, .bool r2]) ∧ Kd.R (Kd.int .i64) 3 w' w.heap.size (fun _ => True) v0_ r1 ∧ Below w.heap.size w w' := by
 have HR0 := Am hr0
 have HC0 := Am hc0
 have HR1 := Am hr1
 have HC1 := Am hc1
 clear hr0 hc0 hr1 hc1
 unfold impl_ClosedIn.f at h
 cases hg : impl_GoodGraph.f l0 with
 | none => rw [hg] at h; cases h
 | some b =>
 rw [hg, Option.bind_some] at h
 have HG := Am hg
 have HF := Am h
 clear hg h
 go_enter Try.func23, Try.ntmps23
 go_wp2_with fail
 refine letW (fun W_ => Below w.heap.size w W_ ∧ W_.heap[w.heap.size]? = some (.cells #[.slice A0 l0.length c0] 22 (0, 0)) ∧ W_.heap[w.heap.size + 1]? = some (.cells #[.slice A1 l1.length c1] 23 (0, 0))) ?_ ?_
 ·refine ⟨Ba (Ba (Below.refl _ _) _) _, ?_, ?_⟩
  ·simpa using Ka (blk_new w (.cells #[.slice A0 l0.length c0] 22)) (.cells #[.slice A1 l1.length c1] 23)
  ·simpa using blk_new (w.alloc (.cells #[.slice A0 l0.length c0] 22)) (.cells #[.slice A1 l1.length c1] 23)
 intro w1 hq_
 obtain ⟨hb, hx0, hx1⟩ := hq_
 have HB := Am hb
 have BX0 := Am hx0
 have BX1 := Am hx1
 clear hb hx0 hx1
 refine (impl_GoodGraph.calls A0 c0 l0 b w1 (Kd.C_below HR0.out HB.out) HC0.out HG.out).mono ?_
 rintro e w2 ⟨rfl, hb⟩
 have hb : Below w1.heap.size w1 w2 := by first | exact hb | exact hb.below
 have n0_ := Am (Kb BX0.out hb)
 have n1_ := Am (Kb BX1.out hb)
 have n2_ := Am (below_then HB.out HB.out.size hb)
 clear BX0 BX1 HB hb
 have BX0 := n0_
 have BX1 := n1_
 have HB := n2_
 clear n0_ n1_ n2_
 have q0 : w2.cell? ⟨w.heap.size, 0, none⟩ = some (.slice A0 l0.length c0) := (Kc BX0.out 0).trans rfl
 have q1 : w2.cell? ⟨w.heap.size + 1, 0, none⟩ = some (.slice A1 l1.length c1) := (Kc BX1.out 0).trans rfl
 cases b with
 | false =>
  have HF : Ad (([] : List Int) = r1 ∧ false = r2) := ⟨by simpa using HF.out⟩
  go_wp2
  go_ret2
  obtain ⟨rfl, rfl⟩ := HF.out
  exact ⟨_, rfl, Kd.R_nil _ _ _ _ _, HB.out⟩
 | true =>
  cases hm : impl_areMembers.f (l0.length : Int) l1 with
  | none => exact absurd HF.out (by simp [hm])
  | some b2 =>
  have HM := Am hm
  have HF : Ad ((if b2 = true then ((slices_Clone_int_int.f l1).bind fun l => (Mine.delO (fun x => impl_ClosedIn_1.f k x l0 l1) l).bind fun r => some (r, true)) else some ([], false)) = some (r1, r2)) := ⟨by have h_ := HF.out; rw [if_pos rfl, hm] at h_; exact h_⟩
  clear hm
  go_wp2_with fail
  refine (impl_areMembers.calls (l0.length : Int) A1 c1 l1 b2 w2 (Kd.C_below HR1.out HB.out) HC1.out HM.out).mono ?_
  rintro e w3 ⟨rfl, hb⟩
  have hb : Below w2.heap.size w2 w3 := by first | exact hb | exact hb.below
  have n0_ := Am (Kb BX0.out hb)
  have n1_ := Am (Kb BX1.out hb)
  have n2_ := Am (below_then HB.out HB.out.size hb)
  clear BX0 BX1 HB hb q0 q1
  have BX0 := n0_
  have BX1 := n1_
  have HB := n2_
  clear n0_ n1_ n2_
  have q0 : w3.cell? ⟨w.heap.size, 0, none⟩ = some (.slice A0 l0.length c0) := (Kc BX0.out 0).trans rfl
  have q1 : w3.cell? ⟨w.heap.size + 1, 0, none⟩ = some (.slice A1 l1.length c1) := (Kc BX1.out 0).trans rfl
  cases b2 with
  | false =>
   have HF : Ad (([] : List Int) = r1 ∧ false = r2) := ⟨by simpa using HF.out⟩
   go_wp2
   go_ret2
   obtain ⟨rfl, rfl⟩ := HF.out
   exact ⟨_, rfl, Kd.R_nil _ _ _ _ _, HB.out⟩
  | true =>
   cases hl : slices_Clone_int_int.f l1 with
   | none => exact absurd HF.out (by simp [hl])
   | some l =>
   cases hd : Mine.delO (fun x => impl_ClosedIn_1.f k x l0 l1) l with
   | none => exact absurd HF.out (by simp [hl, hd])
   | some r =>
   have HL := Am hl
   have HD := Am hd
   have HE : Ad (r = r1 ∧ true = r2) := ⟨by simpa [hl, hd] using HF.out⟩
   clear hl hd HF
   go_wp2_with fail
   refine (slices_Clone_int_int.calls A1 c1 l1 l w3 (Kd.C_below HR1.out HB.out) HC1.out HL.out).mono ?_
   rintro e w4 ⟨v, rfl, hR, hb⟩
   have HR := Am hR
   have n0_ := Am (Kb BX0.out hb)
   have n1_ := Am (Kb BX1.out hb)
   have HB4 := Am hb
   have n2_ := Am (below_then HB.out HB.out.size hb)
   clear q0 q1 hb hR
   go_wp2_with fail
   refine (slices_DeleteFunc_int_int.del 71 #[.pointer (some ⟨w.heap.size, 0, none⟩), .pointer (some ⟨w.heap.size + 1, 0, none⟩)] (fun x => impl_ClosedIn_1.f k x l0 l1) (fun _ => True) v l r w3 w4 (fun args w => enters_ Try.func71 (by kernel_rfl) rfl args w) HB4.out HR.out (fun W x hx bW b hb => (impl_ClosedIn_1.calls k x w.heap.size A0 c0 l0 (w.heap.size + 1) A1 c1 l1 b W (Kd.C_below HR0.out (below_then HB.out HB.out.size bW)) HC0.out (Kd.C_below HR1.out (below_then HB.out HB.out.size bW)) HC1.out (Kb BX0.out bW) (Kb BX1.out bW) hb).mono (fun e w' hh => ⟨hh.1, by first | exact hh.2 | exact hh.2.below⟩)) HD.out).mono ?_
   rintro e w5 ⟨v5, rfl, hR5, hb5⟩
   have HR5 := Am hR5
   have HB5 := Am hb5
   clear hR5 hb5
   go_wp2
   go_ret2
   obtain ⟨rfl, rfl⟩ := HE.out
   exact ⟨_, rfl, Kd.R_lower HR5.out HB.out.size, below_then HB.out HB.out.size HB5.out⟩
section
open Go.RowKit
theorem load_run {P : Program} {o : Oper} {a : Act} {W : World} {g : Nat} {cs : Array Value} {t : TypeId} (hg : W.heap[g]? = some (.cells cs t (0, 0))) (n : Nat) (hn : cs.size = n) (ty : TypeId) (x : Operand) (ho : o.op = .load ty x)
  (hx : a.eval x = .pointer (some ⟨g, 0, none⟩)) (d : TypeDesc) (hu : P.underlying ty = some d) (hd : (match d with | .struct _ | .array _ _ => true | _ => false) = true) (hi : (P.info? ty).map (·.size) = some n) :
  (execOp a.eval o).run P W = .ok (.value (.agg cs)) W := by
 subst hn
 unfold execOp
 simp only [ho, hx, Instr.loadAt, Instr.sureAddr, Sem.run_bind, Sem.run_pure, Result.andThen_ok, run_loadVar_row W g t ty cs (0, 0) d hg hu hd hi]
theorem store_run {P : Program} {o : Oper} {a : Act} {W : World} {g : Nat} {cs cs' : Array Value} {t : TypeId} (hg : W.heap[g]? = some (.cells cs t (0, 0))) (n : Nat) (hn : cs.size = n) (hn' : cs'.size = n) (ty : TypeId) (x y : Operand) (ho : o.op = .store ty x y)
  (hx : a.eval x = .pointer (some ⟨g, 0, none⟩)) (hy : a.eval y = .agg cs') (hi : (P.info? ty).map (·.size) = some n) (h1 : cs'.all (·.oneCell') = true) :
  (execOp a.eval o).run P W = .ok .skip (W.setRow g cs') := by
 unfold execOp
 simp only [ho, hx, hy, Instr.storeAt, Instr.sureAddr, Sem.run_bind, Sem.run_pure, Result.andThen_ok, run_storeVar_row W g t ty cs cs' hg (by rw [hn']; exact hi) (by rw [hn, hn']) h1]
theorem kept_setRow (W : World) (g : Nat) (cs : Array Value) : Kept W (W.setRow g cs) (fun k => k = g) := ⟨by simp, fun i _ hi => setRow_other W g i cs hi⟩
theorem below_setRow_ {B g : Nat} {w0 w : World} (hb : Below B w0 w) (hBg : B ≤ g) (cs : Array Value) : Below B w0 (w.setRow g cs) :=
 ⟨hb.os, hb.tape, hb.output, by simpa using hb.size, fun k hk => (setRow_other w g k cs (by omega)).trans (hb.block k hk)⟩
end
def laws_FnOrders.Facts (l0 : List Int) (l1 : List Int) : Prop :=
 ((laws_big.f l0 l1 = some true) ∧ True) ∨ ((laws_big.f l0 l1 = some false) ∧ (∃ r1 : List (List Int), ∃ r2 : List Int, (∃ K, spec_DrawOrderOf.f K l0 = some (r1, r2)) ∧ ((∃ r3 : List Int, (∃ K, impl_OrderOf.f K r1 r2 = some (r3, true)) ∧ ((∃ K, spec_OrderOf.f K r1 r2 = some (r3, true)) ∧ ((∃ K, laws_sameInts.f K r3 r3 = some true) ∧ ((∃ K, impl_IsOrder.f K r1 r2 r3 = some (true, true)) ∧ (∃ r4 : List (List Int), ∃ r5 : List Int, ∃ r6 : List Int, (∃ K, spec_DrawIsOrder.f K l1 = some (r4, r5, r6)) ∧ (∃ r7 : Bool, ∃ r8 : Bool, (∃ K, impl_IsOrder.f K r4 r5 r6 = some (r7, r8)) ∧ ((∃ K, spec_IsOrder.f K r4 r5 r6 = some (r7, r8)) ∧ (((0 < (r1.length : Int) ∧ (r1.length : Int) ≤ 10) ∧ ∃ r9 : Int, (∃ K, laws_numberOf.f K l1 = some r9) ∧ ∃ r10 : List Int, (∃ K, impl_ReachedFrom.f K r1 (Int.tmod r9 (r1.length : Int)) = some (r10, true)) ∧ (∃ K, impl_ClosedIn.f K r1 r10 = some (r10, true)) ∧ (∃ K, laws_sameInts.f K r10 r10 = some true) ∧ True) ∨ (((r1.length : Int) ≤ 0) ∧ True) ∨ ((10 < (r1.length : Int)) ∧ True))))))))) ∨ (∃ r11 : List Int, (∃ K, impl_OrderOf.f K r1 r2 = some (r11, false)) ∧ (∃ K, spec_OrderOf.f K r1 r2 = some (r11, false)) ∧ (∃ K, laws_sameInts.f K r11 r11 = some true) ∧ ∃ r12 : List (List Int), ∃ r13 : List Int, ∃ r14 : List Int, (∃ K, spec_DrawIsOrder.f K l1 = some (r12, r13, r14)) ∧ ∃ r15 : Bool, ∃ r16 : Bool, (∃ K, impl_IsOrder.f K r12 r13 r14 = some (r15, r16)) ∧ (∃ K, spec_IsOrder.f K r12 r13 r14 = some (r15, r16)) ∧ True))))
set_option maxHeartbeats 8000000 in
set_option maxRecDepth 100000 in
theorem laws_FnOrders.calls (A0 : Option Addr) (c0 : Nat) (l0 : List Int) (A1 : Option Addr) (c1 : Nat) (l1 : List Int) (w : World) (hr0 : Kd.C (Kd.int .u8) w A0 l0.length l0) (hc0 : l0.length ≤ c0) (hr1 : Kd.C (Kd.int .u8) w A1 l1.length l1) (hc1 : l1.length ≤ c1) (h : laws_FnOrders.Facts l0 l1) :
  Calls Try.prog 4 #[.slice A0 l0.length c0, .slice A1 l1.length c1] w fun e w' => e = .returned (.bool true) ∧ Below w.heap.size w w' := by
 unfold laws_FnOrders.Facts at h
 have HR0 := Am hr0
 have HC0 := Am hc0
 clear hr0 hc0
 have HR1 := Am hr1
 have HC1 := Am hc1
 clear hr1 hc1
 have HF := Am h
 clear h
 have HB := Am (Below.refl w.heap.size w)
 rcases HF.out with hF | hF
 ·clear HF
  have HF := Am hF
  clear hF
  obtain ⟨h1, hF⟩ := HF.out
  clear HF
  have HF := Am hF
  clear hF
  have H1 := Am h1
  clear h1
  go_enter Try.func4, Try.ntmps4
  go_wp2_with fail
  (refine (laws_big.calls A0 c0 l0 A1 c1 l1 true w (Kd.C_below HR0.out HB.out) HC0.out (Kd.C_below HR1.out HB.out) HC1.out H1.out).mono ?_)
  rintro e w1 ⟨rfl, hd⟩
  have hb := hd.below
  clear hd
  have Z1 : Ad (w.heap.size ≤ w1.heap.size) := ⟨hb.size⟩
  replace HB := Am (below_then HB.out HB.out.size hb)
  clear hb
  go_wp2
  go_ret
  exact ⟨rfl, HB.out⟩
 ·clear HF
  have HF := Am hF
  clear hF
  obtain ⟨h2, hF⟩ := HF.out
  clear HF
  have HF := Am hF
  clear hF
  have H2 := Am h2
  clear h2
  go_enter Try.func4, Try.ntmps4
  go_wp2_with fail
  (refine (laws_big.calls A0 c0 l0 A1 c1 l1 false w (Kd.C_below HR0.out HB.out) HC0.out (Kd.C_below HR1.out HB.out) HC1.out H2.out).mono ?_)
  rintro e w2 ⟨rfl, hd⟩
  have hb := hd.below
  clear hd
  have Z2 : Ad (w.heap.size ≤ w2.heap.size) := ⟨hb.size⟩
  replace HB := Am (below_then HB.out HB.out.size hb)
  clear hb
  obtain ⟨r1, r2, ⟨K3, h3⟩, hF⟩ := HF.out
  clear HF
  have HF := Am hF
  clear hF
  have H3 := Am h3
  clear h3
  go_wp2_with fail
  (refine (spec_DrawOrderOf.calls K3 A0 c0 l0 r1 r2 w2 (Kd.C_below HR0.out HB.out) HC0.out H3.out).mono ?_)
  rintro e w3 ⟨v0_, v1_, rfl, hS0, hS1, hb⟩
  have X1 : Ad (Kd.S (Kd.slice 3 (Kd.int .i64)) 23 w3 w.heap.size (fun k => w2.heap.size ≤ k ∧ k < w3.heap.size) v0_ r1) := ⟨Kd.S_mono (Kd.S_lower (Kd.S_bound hS0) HB.out.size) (fun k hk => ⟨hk.2.1, hk.2.2.1⟩)⟩
  have X2 : Ad (Kd.R (Kd.int .i64) 3 w3 w.heap.size (fun k => w2.heap.size ≤ k ∧ k < w3.heap.size) v1_ r2) := ⟨Kd.R_mono (Kd.R_lower (Kd.R_bound hS1) HB.out.size) (fun k hk => ⟨hk.2.1, hk.2.2.1⟩)⟩
  have Z3 : Ad (w2.heap.size ≤ w3.heap.size) := ⟨hb.size⟩
  replace HB := Am (below_then HB.out HB.out.size hb)
  clear hb hS0 hS1
  obtain ⟨A1_, c1_, rfl⟩ := Kd.S_slice X1.out
  obtain ⟨A2_, c2_, rfl⟩ := Kd.R_slice X2.out
  rcases HF.out with hF | hF
  ·as_aux_lemma =>
    clear HF
    have HF := Am hF
    clear hF
    obtain ⟨r3, ⟨K4, h4⟩, hF⟩ := HF.out
    clear HF
    have HF := Am hF
    clear hF
    have H4 := Am h4
    clear h4
    go_wp2_with fail
    (refine (impl_OrderOf.calls K4 A1_ c1_ r1 A2_ c2_ r2 r3 true w3 (Kd.S_reads' X1.out).2.2 (Kd.S_reads' X1.out).2.1 (Kd.R_reads' X2.out).2.2 (Kd.R_reads' X2.out).2.1 H4.out).mono ?_)
    rintro e w4 ⟨v0_, rfl, hS0, hb⟩
    have X3 : Ad (Kd.R (Kd.int .i64) 3 w4 w.heap.size (fun k => w3.heap.size ≤ k ∧ k < w4.heap.size) v0_ r3) := ⟨Kd.R_mono (Kd.R_lower (Kd.R_bound hS0) HB.out.size) (fun k hk => ⟨hk.2.1, hk.2.2.1⟩)⟩
    have Z4 : Ad (w3.heap.size ≤ w4.heap.size) := ⟨hb.size⟩
    replace X1 := Am (Kd.S_below X1.out hb)
    replace X2 := Am (Kd.R_below X2.out hb)
    replace HB := Am (below_then HB.out HB.out.size hb)
    clear hb hS0
    obtain ⟨A3_, c3_, rfl⟩ := Kd.R_slice X3.out
    obtain ⟨⟨K5, h5⟩, hF⟩ := HF.out
    clear HF
    have HF := Am hF
    clear hF
    have H5 := Am h5
    clear h5
    go_wp2_with fail
    (refine (spec_OrderOf.calls K5 A1_ c1_ r1 A2_ c2_ r2 r3 true w4 (Kd.S_reads' X1.out).2.2 (Kd.S_reads' X1.out).2.1 (Kd.R_reads' X2.out).2.2 (Kd.R_reads' X2.out).2.1 H5.out).mono ?_)
    rintro e w5 ⟨v0_, rfl, hS0, hb⟩
    have X4 : Ad (Kd.R (Kd.int .i64) 3 w5 w.heap.size (fun k => w4.heap.size ≤ k ∧ k < w5.heap.size) v0_ r3) := ⟨Kd.R_mono (Kd.R_lower (Kd.R_bound hS0) HB.out.size) (fun k hk => ⟨hk.2.1, hk.2.2.1⟩)⟩
    have Z5 : Ad (w4.heap.size ≤ w5.heap.size) := ⟨hb.size⟩
    replace X1 := Am (Kd.S_below X1.out hb)
    replace X2 := Am (Kd.R_below X2.out hb)
    replace X3 := Am (Kd.R_below X3.out hb)
    replace HB := Am (below_then HB.out HB.out.size hb)
    clear hb hS0
    obtain ⟨A4_, c4_, rfl⟩ := Kd.R_slice X4.out
    obtain ⟨⟨K6, h6⟩, hF⟩ := HF.out
    clear HF
    have HF := Am hF
    clear hF
    have H6 := Am h6
    clear h6
    go_wp2_with fail
    (refine (laws_sameInts.calls K6 A3_ c3_ r3 A4_ c4_ r3 true w5 (Kd.R_reads' X3.out).2.2 (Kd.R_reads' X3.out).2.1 (Kd.R_reads' X4.out).2.2 (Kd.R_reads' X4.out).2.1 H6.out).mono ?_)
    rintro e w6 ⟨rfl, hd⟩
    have hb := hd.below
    clear hd
    have Z6 : Ad (w5.heap.size ≤ w6.heap.size) := ⟨hb.size⟩
    replace X1 := Am (Kd.S_below X1.out hb)
    replace X2 := Am (Kd.R_below X2.out hb)
    replace X3 := Am (Kd.R_below X3.out hb)
    replace X4 := Am (Kd.R_below X4.out hb)
    replace HB := Am (below_then HB.out HB.out.size hb)
    clear hb
    obtain ⟨⟨K7, h7⟩, hF⟩ := HF.out
    clear HF
    have HF := Am hF
    clear hF
    have H7 := Am h7
    clear h7
    go_wp2_with fail
    (refine (impl_IsOrder.calls K7 A1_ c1_ r1 A2_ c2_ r2 A3_ c3_ r3 true true w6 (Kd.S_reads' X1.out).2.2 (Kd.S_reads' X1.out).2.1 (Kd.R_reads' X2.out).2.2 (Kd.R_reads' X2.out).2.1 (Kd.R_reads' X3.out).2.2 (Kd.R_reads' X3.out).2.1 H7.out).mono ?_)
    rintro e w7 ⟨rfl, hb⟩
    have Z7 : Ad (w6.heap.size ≤ w7.heap.size) := ⟨hb.size⟩
    replace X1 := Am (Kd.S_below X1.out hb)
    replace X2 := Am (Kd.R_below X2.out hb)
    replace X3 := Am (Kd.R_below X3.out hb)
    replace X4 := Am (Kd.R_below X4.out hb)
    replace HB := Am (below_then HB.out HB.out.size hb)
    clear hb
    obtain ⟨r4, r5, r6, ⟨K8, h8⟩, hF⟩ := HF.out
    clear HF
    have HF := Am hF
    clear hF
    have H8 := Am h8
    clear h8
    go_wp2_with fail
    (refine (spec_DrawIsOrder.calls K8 A1 c1 l1 r4 r5 r6 w7 (Kd.C_below HR1.out HB.out) HC1.out H8.out).mono ?_)
    rintro e w8 ⟨v0_, v1_, v2_, rfl, hS0, hS1, hS2, hb⟩
    have X5 : Ad (Kd.S (Kd.slice 3 (Kd.int .i64)) 23 w8 w.heap.size (fun k => w7.heap.size ≤ k ∧ k < w8.heap.size) v0_ r4) := ⟨Kd.S_mono (Kd.S_lower (Kd.S_bound hS0) HB.out.size) (fun k hk => ⟨hk.2.1, hk.2.2.1⟩)⟩
    have X6 : Ad (Kd.R (Kd.int .i64) 3 w8 w.heap.size (fun k => w7.heap.size ≤ k ∧ k < w8.heap.size) v1_ r5) := ⟨Kd.R_mono (Kd.R_lower (Kd.R_bound hS1) HB.out.size) (fun k hk => ⟨hk.2.1, hk.2.2.1⟩)⟩
    have X7 : Ad (Kd.R (Kd.int .i64) 3 w8 w.heap.size (fun k => w7.heap.size ≤ k ∧ k < w8.heap.size) v2_ r6) := ⟨Kd.R_mono (Kd.R_lower (Kd.R_bound hS2) HB.out.size) (fun k hk => ⟨hk.2.1, hk.2.2.1⟩)⟩
    have Z8 : Ad (w7.heap.size ≤ w8.heap.size) := ⟨hb.size⟩
    replace X1 := Am (Kd.S_below X1.out hb)
    replace X2 := Am (Kd.R_below X2.out hb)
    replace X3 := Am (Kd.R_below X3.out hb)
    replace X4 := Am (Kd.R_below X4.out hb)
    replace HB := Am (below_then HB.out HB.out.size hb)
    clear hb hS0 hS1 hS2
    obtain ⟨A5_, c5_, rfl⟩ := Kd.S_slice X5.out
    obtain ⟨A6_, c6_, rfl⟩ := Kd.R_slice X6.out
    obtain ⟨A7_, c7_, rfl⟩ := Kd.R_slice X7.out
    obtain ⟨r7, r8, ⟨K9, h9⟩, hF⟩ := HF.out
    clear HF
    have HF := Am hF
    clear hF
    have H9 := Am h9
    clear h9
    go_wp2_with fail
    (refine (impl_IsOrder.calls K9 A5_ c5_ r4 A6_ c6_ r5 A7_ c7_ r6 r7 r8 w8 (Kd.S_reads' X5.out).2.2 (Kd.S_reads' X5.out).2.1 (Kd.R_reads' X6.out).2.2 (Kd.R_reads' X6.out).2.1 (Kd.R_reads' X7.out).2.2 (Kd.R_reads' X7.out).2.1 H9.out).mono ?_)
    rintro e w9 ⟨rfl, hb⟩
    have Z9 : Ad (w8.heap.size ≤ w9.heap.size) := ⟨hb.size⟩
    replace X1 := Am (Kd.S_below X1.out hb)
    replace X2 := Am (Kd.R_below X2.out hb)
    replace X3 := Am (Kd.R_below X3.out hb)
    replace X4 := Am (Kd.R_below X4.out hb)
    replace X5 := Am (Kd.S_below X5.out hb)
    replace X6 := Am (Kd.R_below X6.out hb)
    replace X7 := Am (Kd.R_below X7.out hb)
    replace HB := Am (below_then HB.out HB.out.size hb)
    clear hb
    obtain ⟨⟨K10, h10⟩, hF⟩ := HF.out
    clear HF
    have HF := Am hF
    clear hF
    have H10 := Am h10
    clear h10
    go_wp2_with fail
    (refine (spec_IsOrder.calls K10 A5_ c5_ r4 A6_ c6_ r5 A7_ c7_ r6 r7 r8 w9 (Kd.S_reads' X5.out).2.2 (Kd.S_reads' X5.out).2.1 (Kd.R_reads' X6.out).2.2 (Kd.R_reads' X6.out).2.1 (Kd.R_reads' X7.out).2.2 (Kd.R_reads' X7.out).2.1 H10.out).mono ?_)
    rintro e w10 ⟨rfl, hb⟩
    have Z10 : Ad (w9.heap.size ≤ w10.heap.size) := ⟨hb.size⟩
    replace X1 := Am (Kd.S_below X1.out hb)
    replace X2 := Am (Kd.R_below X2.out hb)
    replace X3 := Am (Kd.R_below X3.out hb)
    replace X4 := Am (Kd.R_below X4.out hb)
    replace X5 := Am (Kd.S_below X5.out hb)
    replace X6 := Am (Kd.R_below X6.out hb)
    replace X7 := Am (Kd.R_below X7.out hb)
    replace HB := Am (below_then HB.out HB.out.size hb)
    clear hb
    rcases HF.out with hF | hF | hF
    ·as_aux_lemma =>
      clear HF
      have HF := Am hF
      clear hF
      obtain ⟨h11, hF⟩ := HF.out
      clear HF
      have HF := Am hF
      clear hF
      have H11 := Am h11
      clear h11
      have hl0_ : 0 < (r1.length : Int) := by have h9_ := H11.out; omega
      have hl1_ : (r1.length : Int) ≤ 10 := by have h9_ := H11.out; omega
      have hnz_ : (r1.length : Int) ≠ 0 := by omega
      obtain ⟨r9, ⟨K12, h12⟩, hF⟩ := HF.out
      clear HF
      have HF := Am hF
      clear hF
      have H12 := Am h12
      clear h12
      go_wp2_with fail
      (refine (laws_numberOf.calls K12 A1 c1 l1 r9 w10 (Kd.C_below HR1.out HB.out) HC1.out H12.out).mono ?_)
      rintro e w11 ⟨rfl, hd⟩
      have hb := hd.below
      clear hd
      have Z11 : Ad (w10.heap.size ≤ w11.heap.size) := ⟨hb.size⟩
      replace X1 := Am (Kd.S_below X1.out hb)
      replace X2 := Am (Kd.R_below X2.out hb)
      replace X3 := Am (Kd.R_below X3.out hb)
      replace X4 := Am (Kd.R_below X4.out hb)
      replace X5 := Am (Kd.S_below X5.out hb)
      replace X6 := Am (Kd.R_below X6.out hb)
      replace X7 := Am (Kd.R_below X7.out hb)
      replace HB := Am (below_then HB.out HB.out.size hb)
      clear hb
      obtain ⟨r10, ⟨K13, h13⟩, hF⟩ := HF.out
      clear HF
      have HF := Am hF
      clear hF
      have H13 := Am h13
      clear h13
      go_wp2_with fail
      (refine (impl_ReachedFrom.calls K13 A1_ c1_ r1 (Int.tmod r9 (r1.length : Int)) r10 true w11 (Kd.S_reads' X1.out).2.2 (Kd.S_reads' X1.out).2.1 H13.out).mono ?_)
      rintro e w12 ⟨v0_, rfl, hS0, hb⟩
      have X8 : Ad (Kd.R (Kd.int .i64) 3 w12 w.heap.size (fun k => w11.heap.size ≤ k ∧ k < w12.heap.size) v0_ r10) := ⟨Kd.R_mono (Kd.R_lower (Kd.R_bound hS0) HB.out.size) (fun k hk => ⟨hk.2.1, hk.2.2.1⟩)⟩
      have Z12 : Ad (w11.heap.size ≤ w12.heap.size) := ⟨hb.size⟩
      replace X1 := Am (Kd.S_below X1.out hb)
      replace X2 := Am (Kd.R_below X2.out hb)
      replace X3 := Am (Kd.R_below X3.out hb)
      replace X4 := Am (Kd.R_below X4.out hb)
      replace X5 := Am (Kd.S_below X5.out hb)
      replace X6 := Am (Kd.R_below X6.out hb)
      replace X7 := Am (Kd.R_below X7.out hb)
      replace HB := Am (below_then HB.out HB.out.size hb)
      clear hb hS0
      obtain ⟨A8_, c8_, rfl⟩ := Kd.R_slice X8.out
      obtain ⟨⟨K14, h14⟩, hF⟩ := HF.out
      clear HF
      have HF := Am hF
      clear hF
      have H14 := Am h14
      clear h14
      go_wp2_with fail
      (refine (impl_ClosedIn.calls K14 A1_ c1_ r1 A8_ c8_ r10 r10 true w12 (Kd.S_reads' X1.out).2.2 (Kd.S_reads' X1.out).2.1 (Kd.R_reads' X8.out).2.2 (Kd.R_reads' X8.out).2.1 H14.out).mono ?_)
      rintro e w13 ⟨v0_, rfl, hS0, hb⟩
      have X9 : Ad (Kd.R (Kd.int .i64) 3 w13 w.heap.size (fun k => w12.heap.size ≤ k ∧ k < w13.heap.size) v0_ r10) := ⟨Kd.R_mono (Kd.R_lower (Kd.R_bound hS0) HB.out.size) (fun k hk => ⟨hk.2.1, hk.2.2.1⟩)⟩
      have Z13 : Ad (w12.heap.size ≤ w13.heap.size) := ⟨hb.size⟩
      replace X1 := Am (Kd.S_below X1.out hb)
      replace X2 := Am (Kd.R_below X2.out hb)
      replace X3 := Am (Kd.R_below X3.out hb)
      replace X4 := Am (Kd.R_below X4.out hb)
      replace X5 := Am (Kd.S_below X5.out hb)
      replace X6 := Am (Kd.R_below X6.out hb)
      replace X7 := Am (Kd.R_below X7.out hb)
      replace X8 := Am (Kd.R_below X8.out hb)
      replace HB := Am (below_then HB.out HB.out.size hb)
      clear hb hS0
      obtain ⟨A9_, c9_, rfl⟩ := Kd.R_slice X9.out
      obtain ⟨⟨K15, h15⟩, hF⟩ := HF.out
      clear HF
      have HF := Am hF
      clear hF
      have H15 := Am h15
      clear h15
      go_wp2_with fail
      (refine (laws_sameInts.calls K15 A9_ c9_ r10 A8_ c8_ r10 true w13 (Kd.R_reads' X9.out).2.2 (Kd.R_reads' X9.out).2.1 (Kd.R_reads' X8.out).2.2 (Kd.R_reads' X8.out).2.1 H15.out).mono ?_)
      rintro e w14 ⟨rfl, hd⟩
      have hb := hd.below
      clear hd
      have Z14 : Ad (w13.heap.size ≤ w14.heap.size) := ⟨hb.size⟩
      replace X1 := Am (Kd.S_below X1.out hb)
      replace X2 := Am (Kd.R_below X2.out hb)
      replace X3 := Am (Kd.R_below X3.out hb)
      replace X4 := Am (Kd.R_below X4.out hb)
      replace X5 := Am (Kd.S_below X5.out hb)
      replace X6 := Am (Kd.R_below X6.out hb)
      replace X7 := Am (Kd.R_below X7.out hb)
      replace X8 := Am (Kd.R_below X8.out hb)
      replace X9 := Am (Kd.R_below X9.out hb)
      replace HB := Am (below_then HB.out HB.out.size hb)
      clear hb
      go_wp2
      go_ret
      exact ⟨rfl, HB.out⟩
    ·as_aux_lemma =>
      clear HF
      have HF := Am hF
      clear hF
      obtain ⟨h16, hF⟩ := HF.out
      clear HF
      have HF := Am hF
      clear hF
      have H16 := Am h16
      clear h16
      have hl0_ : ¬ 0 < (r1.length : Int) := by have h9_ := H16.out; omega
      go_wp2
      go_ret
      exact ⟨rfl, HB.out⟩
    ·as_aux_lemma =>
      clear HF
      have HF := Am hF
      clear hF
      obtain ⟨h17, hF⟩ := HF.out
      clear HF
      have HF := Am hF
      clear hF
      have H17 := Am h17
      clear h17
      have hl0_ : 0 < (r1.length : Int) := by have h9_ := H17.out; omega
      have hl1_ : ¬ (r1.length : Int) ≤ 10 := by have h9_ := H17.out; omega
      go_wp2
      go_ret
      exact ⟨rfl, HB.out⟩
  ·as_aux_lemma =>
    clear HF
    have HF := Am hF
    clear hF
    obtain ⟨r11, ⟨K18, h18⟩, hF⟩ := HF.out
    clear HF
    have HF := Am hF
    clear hF
    have H18 := Am h18
    clear h18
    go_wp2_with fail
    (refine (impl_OrderOf.calls K18 A1_ c1_ r1 A2_ c2_ r2 r11 false w3 (Kd.S_reads' X1.out).2.2 (Kd.S_reads' X1.out).2.1 (Kd.R_reads' X2.out).2.2 (Kd.R_reads' X2.out).2.1 H18.out).mono ?_)
    rintro e w15 ⟨v0_, rfl, hS0, hb⟩
    have X10 : Ad (Kd.R (Kd.int .i64) 3 w15 w.heap.size (fun k => w3.heap.size ≤ k ∧ k < w15.heap.size) v0_ r11) := ⟨Kd.R_mono (Kd.R_lower (Kd.R_bound hS0) HB.out.size) (fun k hk => ⟨hk.2.1, hk.2.2.1⟩)⟩
    have Z15 : Ad (w3.heap.size ≤ w15.heap.size) := ⟨hb.size⟩
    replace X1 := Am (Kd.S_below X1.out hb)
    replace X2 := Am (Kd.R_below X2.out hb)
    replace HB := Am (below_then HB.out HB.out.size hb)
    clear hb hS0
    obtain ⟨A10_, c10_, rfl⟩ := Kd.R_slice X10.out
    obtain ⟨⟨K19, h19⟩, hF⟩ := HF.out
    clear HF
    have HF := Am hF
    clear hF
    have H19 := Am h19
    clear h19
    go_wp2_with fail
    (refine (spec_OrderOf.calls K19 A1_ c1_ r1 A2_ c2_ r2 r11 false w15 (Kd.S_reads' X1.out).2.2 (Kd.S_reads' X1.out).2.1 (Kd.R_reads' X2.out).2.2 (Kd.R_reads' X2.out).2.1 H19.out).mono ?_)
    rintro e w16 ⟨v0_, rfl, hS0, hb⟩
    have X11 : Ad (Kd.R (Kd.int .i64) 3 w16 w.heap.size (fun k => w15.heap.size ≤ k ∧ k < w16.heap.size) v0_ r11) := ⟨Kd.R_mono (Kd.R_lower (Kd.R_bound hS0) HB.out.size) (fun k hk => ⟨hk.2.1, hk.2.2.1⟩)⟩
    have Z16 : Ad (w15.heap.size ≤ w16.heap.size) := ⟨hb.size⟩
    replace X1 := Am (Kd.S_below X1.out hb)
    replace X2 := Am (Kd.R_below X2.out hb)
    replace X10 := Am (Kd.R_below X10.out hb)
    replace HB := Am (below_then HB.out HB.out.size hb)
    clear hb hS0
    obtain ⟨A11_, c11_, rfl⟩ := Kd.R_slice X11.out
    obtain ⟨⟨K20, h20⟩, hF⟩ := HF.out
    clear HF
    have HF := Am hF
    clear hF
    have H20 := Am h20
    clear h20
    go_wp2_with fail
    (refine (laws_sameInts.calls K20 A10_ c10_ r11 A11_ c11_ r11 true w16 (Kd.R_reads' X10.out).2.2 (Kd.R_reads' X10.out).2.1 (Kd.R_reads' X11.out).2.2 (Kd.R_reads' X11.out).2.1 H20.out).mono ?_)
    rintro e w17 ⟨rfl, hd⟩
    have hb := hd.below
    clear hd
    have Z17 : Ad (w16.heap.size ≤ w17.heap.size) := ⟨hb.size⟩
    replace X1 := Am (Kd.S_below X1.out hb)
    replace X2 := Am (Kd.R_below X2.out hb)
    replace X10 := Am (Kd.R_below X10.out hb)
    replace X11 := Am (Kd.R_below X11.out hb)
    replace HB := Am (below_then HB.out HB.out.size hb)
    clear hb
    obtain ⟨r12, r13, r14, ⟨K21, h21⟩, hF⟩ := HF.out
    clear HF
    have HF := Am hF
    clear hF
    have H21 := Am h21
    clear h21
    go_wp2_with fail
    (refine (spec_DrawIsOrder.calls K21 A1 c1 l1 r12 r13 r14 w17 (Kd.C_below HR1.out HB.out) HC1.out H21.out).mono ?_)
    rintro e w18 ⟨v0_, v1_, v2_, rfl, hS0, hS1, hS2, hb⟩
    have X12 : Ad (Kd.S (Kd.slice 3 (Kd.int .i64)) 23 w18 w.heap.size (fun k => w17.heap.size ≤ k ∧ k < w18.heap.size) v0_ r12) := ⟨Kd.S_mono (Kd.S_lower (Kd.S_bound hS0) HB.out.size) (fun k hk => ⟨hk.2.1, hk.2.2.1⟩)⟩
    have X13 : Ad (Kd.R (Kd.int .i64) 3 w18 w.heap.size (fun k => w17.heap.size ≤ k ∧ k < w18.heap.size) v1_ r13) := ⟨Kd.R_mono (Kd.R_lower (Kd.R_bound hS1) HB.out.size) (fun k hk => ⟨hk.2.1, hk.2.2.1⟩)⟩
    have X14 : Ad (Kd.R (Kd.int .i64) 3 w18 w.heap.size (fun k => w17.heap.size ≤ k ∧ k < w18.heap.size) v2_ r14) := ⟨Kd.R_mono (Kd.R_lower (Kd.R_bound hS2) HB.out.size) (fun k hk => ⟨hk.2.1, hk.2.2.1⟩)⟩
    have Z18 : Ad (w17.heap.size ≤ w18.heap.size) := ⟨hb.size⟩
    replace X1 := Am (Kd.S_below X1.out hb)
    replace X2 := Am (Kd.R_below X2.out hb)
    replace X10 := Am (Kd.R_below X10.out hb)
    replace X11 := Am (Kd.R_below X11.out hb)
    replace HB := Am (below_then HB.out HB.out.size hb)
    clear hb hS0 hS1 hS2
    obtain ⟨A12_, c12_, rfl⟩ := Kd.S_slice X12.out
    obtain ⟨A13_, c13_, rfl⟩ := Kd.R_slice X13.out
    obtain ⟨A14_, c14_, rfl⟩ := Kd.R_slice X14.out
    obtain ⟨r15, r16, ⟨K22, h22⟩, hF⟩ := HF.out
    clear HF
    have HF := Am hF
    clear hF
    have H22 := Am h22
    clear h22
    go_wp2_with fail
    (refine (impl_IsOrder.calls K22 A12_ c12_ r12 A13_ c13_ r13 A14_ c14_ r14 r15 r16 w18 (Kd.S_reads' X12.out).2.2 (Kd.S_reads' X12.out).2.1 (Kd.R_reads' X13.out).2.2 (Kd.R_reads' X13.out).2.1 (Kd.R_reads' X14.out).2.2 (Kd.R_reads' X14.out).2.1 H22.out).mono ?_)
    rintro e w19 ⟨rfl, hb⟩
    have Z19 : Ad (w18.heap.size ≤ w19.heap.size) := ⟨hb.size⟩
    replace X1 := Am (Kd.S_below X1.out hb)
    replace X2 := Am (Kd.R_below X2.out hb)
    replace X10 := Am (Kd.R_below X10.out hb)
    replace X11 := Am (Kd.R_below X11.out hb)
    replace X12 := Am (Kd.S_below X12.out hb)
    replace X13 := Am (Kd.R_below X13.out hb)
    replace X14 := Am (Kd.R_below X14.out hb)
    replace HB := Am (below_then HB.out HB.out.size hb)
    clear hb
    obtain ⟨⟨K23, h23⟩, hF⟩ := HF.out
    clear HF
    have HF := Am hF
    clear hF
    have H23 := Am h23
    clear h23
    go_wp2_with fail
    (refine (spec_IsOrder.calls K23 A12_ c12_ r12 A13_ c13_ r13 A14_ c14_ r14 r15 r16 w19 (Kd.S_reads' X12.out).2.2 (Kd.S_reads' X12.out).2.1 (Kd.R_reads' X13.out).2.2 (Kd.R_reads' X13.out).2.1 (Kd.R_reads' X14.out).2.2 (Kd.R_reads' X14.out).2.1 H23.out).mono ?_)
    rintro e w20 ⟨rfl, hb⟩
    have Z20 : Ad (w19.heap.size ≤ w20.heap.size) := ⟨hb.size⟩
    replace X1 := Am (Kd.S_below X1.out hb)
    replace X2 := Am (Kd.R_below X2.out hb)
    replace X10 := Am (Kd.R_below X10.out hb)
    replace X11 := Am (Kd.R_below X11.out hb)
    replace X12 := Am (Kd.S_below X12.out hb)
    replace X13 := Am (Kd.R_below X13.out hb)
    replace X14 := Am (Kd.R_below X14.out hb)
    replace HB := Am (below_then HB.out HB.out.size hb)
    clear hb
    go_wp2
    go_ret
    exact ⟨rfl, HB.out⟩
def laws_FnOrders.Pure : Prop := ∀ (l0 : List Int) (l1 : List Int), (l0.length ≤ 9223372036854775807 ∧ ∀ y ∈ l0, (Lit.int .u8 y).wf = true) → (l1.length ≤ 9223372036854775807 ∧ ∀ y ∈ l1, (Lit.int .u8 y).wf = true) → laws_FnOrders.Facts l0 l1
end Go.Proofs.Ytpboalgecejoeaa.QFnOrders
