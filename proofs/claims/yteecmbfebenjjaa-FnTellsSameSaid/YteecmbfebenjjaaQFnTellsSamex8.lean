-- Written by a program of this session (wip/mk.py) over the kit's print: Lean checks it.
import Derived.Test.YteecmbfebenjjaaQFnTellsSamex0
import Derived.Test.YteecmbfebenjjaaQFnTellsSamex2
import Derived.Test.YteecmbfebenjjaaQFnTellsSamex5
import Derived.Test.YteecmbfebenjjaaQFnTellsSamex6
import Derived.Test.YteecmbfebenjjaaQFnTellsSamex7
namespace Go.Proofs.Yteecmbfebenjjaa.QFnTellsSame
open Go.Proofs.YteecmbfebenjjaaW.PrintWords.Kd renaming R_alloc → Ra, R_drewN → Rn, R_drew → Rd
open Go.Proofs.YteecmbfebenjjaaW.PrintWords renaming below_alloc → Ba, pw_below_drewN → Bn, below_drew1 → Bd, below_set → Bs, below_size → Bz, below_step → Bt, gate_dst → Gd, gate_callee → Gc, box_event → Be, blk_alloc → Ka, blk_drewN → Kn, blk_drew → Ke, blk_below → Kb, blk_cell → Kc, blk_frozen → Kz
open List renaming setIfInBounds_toArray → Lt, set_cons_zero → Lz, set_cons_succ → Ls
open Go.World renaming block_lt_of_cell? → bl_
open Go.Proofs.YteecmbfebenjjaaW.PrintWords.Aside0 renaming mk → Am
open Go.Proofs.YteecmbfebenjjaaW.PrintWords renaming Aside0 → Ad
open Go.RowKit Go.Proofs.YteecmbfebenjjaaW.PrintWords Go.Proofs.YteecmbfebenjjaaW.PrintLast Go.Proofs.YteecmbfebenjjaaW.PrintMore
attribute [local go_sem] max2_int min2_int max_two min_two max_three min_three max_four min_four   -- for this text's walks alone
set_option linter.unusedVariables false
set_option linter.unusedSimpArgs false
attribute [local go_sem high] eqA30
mutual
def impl_TellsSame.j0 : Nat → List (S26) → List (S26) → Bool → Option (Bool × Bool)
 | 0, _, _, _ => none
 | k + 1, x0, x1, x38 => if x38 = true then (some (false, false)) else ((impl_playCmds.f k x0).bind fun bt246 => ((impl_playCmds.f k x1).bind fun bt252 => (impl_TellsSame.l0 k x1 bt246.1 bt246.2 bt252.1 bt252.2 x0 (x0.length : Int) 0)))
def impl_TellsSame.l0 : Nat → List (S26) → List Int → List (S30) → List Int → List (S30) → List (S26) → Int → Int → Option (Bool × Bool)
 | 0, _, _, _, _, _, _, _, _ => none
 | k + 1, x1, x6, x7, x8, x9, x49, x50, x51 => if x51 < x50 then (if 0 ≤ x51 then (if x51 < (x49.length : Int) then (if x51 < (x7.length : Int) then ((impl_Cmd_88.f k x1 ((rd_T26 x49 x51).f0) ((rd_T26 x49 x51).f1) ((rd_T26 x49 x51).f2) ((rd_T26 x49 x51).f3) ((rd_T26 x49 x51).f4)).bind fun t261 => (if 0 ≤ t261 then (if t261 < (x9.length : Int) then (if (!(((rd_T30 x7 x51).f0) == ((rd_T30 x9 t261).f0)) || (!(((rd_T30 x7 x51).f1) == ((rd_T30 x9 t261).f1)))) = true then (some (false, true)) else (impl_TellsSame.l0 k x1 x6 x7 x8 x9 x49 x50 (wrap64 (x51 + 1)))) else (none)) else (none))) else (none)) else (none)) else (none)) else ((slices_Equal_int_int.f k x6 x8).bind fun t263 => (some (t263, true)))
end
def impl_TellsSame.f (k : Nat) (l0 : List (S26)) (l1 : List (S26)) : Option (Bool × Bool) := (impl_goodCmds.f l0).bind fun t242 => (if t242 = true then ((impl_goodCmds.f l1).bind fun t243 => (if t243 = true then (if (l0.length : Int) = (l1.length : Int) then ((impl_onceIn.f k l0 l1).bind fun t244 => (if t244 = true then ((impl_onceIn.f k l1 l0).bind fun t245 => (impl_TellsSame.j0 k l0 l1 (!t245))) else (impl_TellsSame.j0 k l0 l1 true))) else (impl_TellsSame.j0 k l0 l1 true)) else (impl_TellsSame.j0 k l0 l1 true))) else (impl_TellsSame.j0 k l0 l1 true))
theorem impl_TellsSame.mono_l : ∀ k, (∀ y0 y1 y2, LeO (impl_TellsSame.j0 k y0 y1 y2) (impl_TellsSame.j0 (k + 1) y0 y1 y2)) ∧ (∀ y0 y1 y2 y3 y4 y5 y6 y7, LeO (impl_TellsSame.l0 k y0 y1 y2 y3 y4 y5 y6 y7) (impl_TellsSame.l0 (k + 1) y0 y1 y2 y3 y4 y5 y6 y7))
 | 0 => ⟨fun _ _ _ r h => by simp [impl_TellsSame.j0] at h, fun _ _ _ _ _ _ _ _ r h => by simp [impl_TellsSame.l0] at h⟩
 | k + 1 => by
  obtain ⟨ih0, ih1⟩ := impl_TellsSame.mono_l k
  refine ⟨?_, ?_⟩
  ·intro y0 y1 y2
   unfold impl_TellsSame.j0
   repeat' first
   | (with_reducible exact ih0 _ _ _)
   | (with_reducible exact ih1 _ _ _ _ _ _ _ _)
   | (with_reducible exact impl_Cmd_88.mono _ _ _ _ _ _ _)
   | (with_reducible exact impl_onceIn.mono _ _ _)
   | (with_reducible exact impl_playCmds.mono _ _)
   | (with_reducible exact slices_Equal_int_int.mono _ _ _)
   | (with_reducible exact LeO.refl _)
   | (with_reducible exact LeO.none _)
   | (with_reducible refine LeO.ite ?_ ?_)
   | (with_reducible refine LeO.bind ?_ (fun _ => ?_))
   | exact ih0 _ _ _
   | exact ih1 _ _ _ _ _ _ _ _
   | exact impl_Cmd_88.mono _ _ _ _ _ _ _
   | exact impl_onceIn.mono _ _ _
   | exact impl_playCmds.mono _ _
   | exact slices_Equal_int_int.mono _ _ _
   | exact LeO.none _
   | refine LeO.ite ?_ ?_
   | refine LeO.bind ?_ (fun _ => ?_)
  ·intro y0 y1 y2 y3 y4 y5 y6 y7
   unfold impl_TellsSame.l0
   repeat' first
   | (with_reducible exact ih0 _ _ _)
   | (with_reducible exact ih1 _ _ _ _ _ _ _ _)
   | (with_reducible exact impl_Cmd_88.mono _ _ _ _ _ _ _)
   | (with_reducible exact impl_onceIn.mono _ _ _)
   | (with_reducible exact impl_playCmds.mono _ _)
   | (with_reducible exact slices_Equal_int_int.mono _ _ _)
   | (with_reducible exact LeO.refl _)
   | (with_reducible exact LeO.none _)
   | (with_reducible refine LeO.ite ?_ ?_)
   | (with_reducible refine LeO.bind ?_ (fun _ => ?_))
   | exact ih0 _ _ _
   | exact ih1 _ _ _ _ _ _ _ _
   | exact impl_Cmd_88.mono _ _ _ _ _ _ _
   | exact impl_onceIn.mono _ _ _
   | exact impl_playCmds.mono _ _
   | exact slices_Equal_int_int.mono _ _ _
   | exact LeO.none _
   | refine LeO.ite ?_ ?_
   | refine LeO.bind ?_ (fun _ => ?_)
theorem impl_TellsSame.mono : ∀ a0 a1 k, LeO (impl_TellsSame.f k a0 a1) (impl_TellsSame.f (k + 1) a0 a1) := by
 intro a0 a1 k
 obtain ⟨ih0, ih1⟩ := impl_TellsSame.mono_l k
 unfold impl_TellsSame.f
 repeat' first
   | (with_reducible exact ih0 _ _ _)
   | (with_reducible exact ih1 _ _ _ _ _ _ _ _)
   | (with_reducible exact impl_Cmd_88.mono _ _ _ _ _ _ _)
   | (with_reducible exact impl_onceIn.mono _ _ _)
   | (with_reducible exact impl_playCmds.mono _ _)
   | (with_reducible exact slices_Equal_int_int.mono _ _ _)
   | (with_reducible exact LeO.refl _)
   | (with_reducible exact LeO.none _)
   | (with_reducible refine LeO.ite ?_ ?_)
   | (with_reducible refine LeO.bind ?_ (fun _ => ?_))
   | exact ih0 _ _ _
   | exact ih1 _ _ _ _ _ _ _ _
   | exact impl_Cmd_88.mono _ _ _ _ _ _ _
   | exact impl_onceIn.mono _ _ _
   | exact impl_playCmds.mono _ _
   | exact slices_Equal_int_int.mono _ _ _
   | exact LeO.none _
   | refine LeO.ite ?_ ?_
   | refine LeO.bind ?_ (fun _ => ?_)
def impl_TellsSame.T8 : Bool × List (List Nat × List Nat) := (true, [([], []), ([], []), ([0, 1], [0, 1]), ([2], [2]), ([], []), ([], []), ([], []), ([5, 6], [5, 6]), ([4, 7], [4, 7]), ([8], [8]), ([3, 9], [3, 9])])
def impl_TellsSame.B8 : List Nat := [0, 0, 3, 7, 0, 0, 0, 96, 240, 496, 1023]
theorem impl_TellsSame.tab8 : rtab .any (opsOf Try.f29 8) = impl_TellsSame.T8 := by kernel_rfl
theorem impl_TellsSame.bits8 : waitsOk impl_TellsSame.T8.2 impl_TellsSame.B8 = true := by kernel_rfl
set_option maxHeartbeats 8000000 in
set_option maxRecDepth 100000 in
theorem impl_TellsSame.calls (k : Nat) (A0 : Option Addr) (c0 : Nat) (l0 : List (S26)) (A1 : Option Addr) (c1 : Nat) (l1 : List (S26)) (r1 : Bool) (r2 : Bool) (w : World) (hr0 : Kd.C k26 w A0 l0.length l0) (hc0 : l0.length ≤ c0) (hr1 : Kd.C k26 w A1 l1.length l1) (hc1 : l1.length ≤ c1) (h : impl_TellsSame.f k l0 l1 = some (r1, r2)) :
  Calls Try.prog 29 #[.slice A0 l0.length c0, .slice A1 l1.length c1] w fun e w' => e = .returned (.tuple #[.bool r1, .bool r2]) ∧ Below w.heap.size w w' := by
 have hu26 := Try.underlying26
 have hu30 := Try.underlying30
 have HR0 := Am hr0
 have HC0 := Am hc0
 clear hr0 hc0
 have HR1 := Am hr1
 have HC1 := Am hc1
 clear hr1 hc1
 have HB := Am (Below.refl w.heap.size w)
 have H : ((impl_goodCmds.f l0).bind fun t242 => (if t242 = true then ((impl_goodCmds.f l1).bind fun t243 => (if t243 = true then (if (l0.length : Int) = (l1.length : Int) then ((impl_onceIn.f k l0 l1).bind fun t244 => (if t244 = true then ((impl_onceIn.f k l1 l0).bind fun t245 => (impl_TellsSame.j0 k l0 l1 (!t245))) else (impl_TellsSame.j0 k l0 l1 true))) else (impl_TellsSame.j0 k l0 l1 true)) else (impl_TellsSame.j0 k l0 l1 true))) else (impl_TellsSame.j0 k l0 l1 true))) = some (r1, r2) := h
 clear h
 have HC3 := Am H
 clear H
 go_enter Try.func29, Try.ntmps29
 go_upto_region 1 with (fail)
 go_cut [38] (fun v38 wc => ∃ (kq : Nat) (x38_2 : Bool), v38 = .bool x38_2 ∧ Ad (impl_TellsSame.j0 kq l0 l1 x38_2 = some (r1, r2)) ∧ Ad (kq ≤ k) ∧ Ad (Below w.heap.size w wc))
 case first =>
  have H := HC3.out
  clear HC3
  replace H := Option.bind_eq_some_iff.mp H
  obtain ⟨t242, A40, H⟩ := H
  replace H : (if t242 = true then ((impl_goodCmds.f l1).bind fun t243 => (if t243 = true then (if (l0.length : Int) = (l1.length : Int) then ((impl_onceIn.f k l0 l1).bind fun t244 => (if t244 = true then ((impl_onceIn.f k l1 l0).bind fun t245 => (impl_TellsSame.j0 k l0 l1 (!t245))) else (impl_TellsSame.j0 k l0 l1 true))) else (impl_TellsSame.j0 k l0 l1 true)) else (impl_TellsSame.j0 k l0 l1 true))) else (impl_TellsSame.j0 k l0 l1 true)) = some (r1, r2) := H
  have A4 := Am A40
  clear A40
  by_cases c5 : t242 = true
  ·subst c5
   have H1 : ((impl_goodCmds.f l1).bind fun t243 => (if t243 = true then (if (l0.length : Int) = (l1.length : Int) then ((impl_onceIn.f k l0 l1).bind fun t244 => (if t244 = true then ((impl_onceIn.f k l1 l0).bind fun t245 => (impl_TellsSame.j0 k l0 l1 (!t245))) else (impl_TellsSame.j0 k l0 l1 true))) else (impl_TellsSame.j0 k l0 l1 true)) else (impl_TellsSame.j0 k l0 l1 true))) = some (r1, r2) := by rw [if_pos rfl] at H; exact H
   clear H
   have H := H1
   clear H1
   replace H := Option.bind_eq_some_iff.mp H
   obtain ⟨t243, A60, H⟩ := H
   replace H : (if t243 = true then (if (l0.length : Int) = (l1.length : Int) then ((impl_onceIn.f k l0 l1).bind fun t244 => (if t244 = true then ((impl_onceIn.f k l1 l0).bind fun t245 => (impl_TellsSame.j0 k l0 l1 (!t245))) else (impl_TellsSame.j0 k l0 l1 true))) else (impl_TellsSame.j0 k l0 l1 true)) else (impl_TellsSame.j0 k l0 l1 true)) = some (r1, r2) := H
   have A6 := Am A60
   clear A60
   by_cases c7 : t243 = true
   ·subst c7
    have H1 : (if (l0.length : Int) = (l1.length : Int) then ((impl_onceIn.f k l0 l1).bind fun t244 => (if t244 = true then ((impl_onceIn.f k l1 l0).bind fun t245 => (impl_TellsSame.j0 k l0 l1 (!t245))) else (impl_TellsSame.j0 k l0 l1 true))) else (impl_TellsSame.j0 k l0 l1 true)) = some (r1, r2) := by rw [if_pos rfl] at H; exact H
    clear H
    have H := H1
    clear H1
    by_cases c8 : (l0.length : Int) = (l1.length : Int)
    ·rw [if_pos c8] at H
     have c8b0 : ((l0.length : Int) == (l1.length : Int)) = true := beq_iff_eq.mpr c8
     have c8b1 : ((l0.length : Int) != (l1.length : Int)) = false := bne_eq_false_iff_eq.mpr c8
     have c8b2 : (l0.length == l1.length) = true := by first | simpa using c8 | (simp at c8 ⊢; omega)
     clear c8
     (first | rw [c8b0] | (simp only [i64_w, i32_w]; rw [c8b0]) | skip)
     replace H := Option.bind_eq_some_iff.mp H
     obtain ⟨t244, A90, H⟩ := H
     replace H : (if t244 = true then ((impl_onceIn.f k l1 l0).bind fun t245 => (impl_TellsSame.j0 k l0 l1 (!t245))) else (impl_TellsSame.j0 k l0 l1 true)) = some (r1, r2) := H
     have A9 := Am A90
     clear A90
     by_cases c10 : t244 = true
     ·subst c10
      have H1 : ((impl_onceIn.f k l1 l0).bind fun t245 => (impl_TellsSame.j0 k l0 l1 (!t245))) = some (r1, r2) := by rw [if_pos rfl] at H; exact H
      clear H
      have H := H1
      clear H1
      replace H := Option.bind_eq_some_iff.mp H
      obtain ⟨t245, A110, H⟩ := H
      replace H : (impl_TellsSame.j0 k l0 l1 (!t245)) = some (r1, r2) := H
      have A11 := Am A110
      clear A110
      have H' := Am H
      clear H
      go_wp2_with (first | ((refine Gc (f := 82) rfl ?_); refine goesL_ (some 13) rfl rfl Try.func82 (by kernel_rfl) rfl #[.slice A0 l0.length c0] rfl (by first | rfl | (simp only [List.map_toArray, List.map_cons, List.map_nil]; first | done | rfl)) ?_; (with_reducible refine (impl_goodCmds.calls _ _ l0 true _ ?side1 ?side2 A4.out).mono ?_); (case side1 => repeat (first | exact (Kd.C_below HR0.out HB.out) | (with_reducible refine Kd.C_alloc ?_ _) | (with_reducible refine Kd.C_drewN ?_ _) | (with_reducible refine Kd.C_drew ?_))); (case side2 => exact HC0.out); rintro e w12 ⟨rfl, hb⟩; refine ⟨_, rfl, ?_⟩; have n0_ := Am (Bt (by repeat (first | exact HB.out | apply Ba | apply Bn | apply Bd)) hb); clear HB; have HB := n0_; clear n0_; (try clear hb); (try clear hb2); (try clear hk); (try clear hi)) | (go_at_call 82; (with_reducible refine (impl_goodCmds.calls _ _ l1 true _ ?side1 ?side2 A6.out).mono ?_); (case side1 => repeat (first | exact (Kd.C_below HR1.out HB.out) | (with_reducible refine Kd.C_alloc ?_ _) | (with_reducible refine Kd.C_drewN ?_ _) | (with_reducible refine Kd.C_drew ?_))); (case side2 => exact HC1.out); rintro e w13 ⟨rfl, hb⟩; have n0_ := Am (Bt (by repeat (first | exact HB.out | apply Ba | apply Bn | apply Bd)) hb); clear HB; have HB := n0_; clear n0_; (try clear hb); (try clear hb2); (try clear hk); (try clear hi)) | (go_at_call 87; (with_reducible refine (impl_onceIn.calls k _ _ l0 _ _ l1 true _ ?side1 ?side2 ?side3 ?side4 A9.out).mono ?_); (case side1 => repeat (first | exact (Kd.C_below HR0.out HB.out) | (with_reducible refine Kd.C_alloc ?_ _) | (with_reducible refine Kd.C_drewN ?_ _) | (with_reducible refine Kd.C_drew ?_))); (case side2 => exact HC0.out); (case side3 => repeat (first | exact (Kd.C_below HR1.out HB.out) | (with_reducible refine Kd.C_alloc ?_ _) | (with_reducible refine Kd.C_drewN ?_ _) | (with_reducible refine Kd.C_drew ?_))); (case side4 => exact HC1.out); rintro e w14 ⟨rfl, hb⟩; have n0_ := Am (Bt (by repeat (first | exact HB.out | apply Ba | apply Bn | apply Bd)) hb); clear HB; have HB := n0_; clear n0_; (try clear hb); (try clear hb2); (try clear hk); (try clear hi)) | (go_at_call 87; (with_reducible refine (impl_onceIn.calls k _ _ l1 _ _ l0 t245 _ ?side1 ?side2 ?side3 ?side4 A11.out).mono ?_); (case side1 => repeat (first | exact (Kd.C_below HR1.out HB.out) | (with_reducible refine Kd.C_alloc ?_ _) | (with_reducible refine Kd.C_drewN ?_ _) | (with_reducible refine Kd.C_drew ?_))); (case side2 => exact HC1.out); (case side3 => repeat (first | exact (Kd.C_below HR0.out HB.out) | (with_reducible refine Kd.C_alloc ?_ _) | (with_reducible refine Kd.C_drewN ?_ _) | (with_reducible refine Kd.C_drew ?_))); (case side4 => exact HC0.out); rintro e w15 ⟨rfl, hb⟩; have n0_ := Am (Bt (by repeat (first | exact HB.out | apply Ba | apply Bn | apply Bd)) hb); clear HB; have HB := n0_; clear n0_; (try clear hb); (try clear hb2); (try clear hk); (try clear hi)))
      go_meet
      case rel => exact ⟨_, (!t245), (by first | rfl | (simp; done) | (simp [*]; done)), H', ⟨by first | omega | exact Nat.le_refl _⟩, ⟨by repeat (first | exact HB.out | apply Ba | apply Bn | apply Bd)⟩⟩
     ·replace c10 := Bool.eq_false_iff.mpr c10
      subst c10
      have H1 : (impl_TellsSame.j0 k l0 l1 true) = some (r1, r2) := by rw [if_neg (show ¬ (false = true) by decide)] at H; exact H
      clear H
      have H := H1
      clear H1
      have H' := Am H
      clear H
      go_wp2_with (first | ((refine Gc (f := 82) rfl ?_); refine goesL_ (some 13) rfl rfl Try.func82 (by kernel_rfl) rfl #[.slice A0 l0.length c0] rfl (by first | rfl | (simp only [List.map_toArray, List.map_cons, List.map_nil]; first | done | rfl)) ?_; (with_reducible refine (impl_goodCmds.calls _ _ l0 true _ ?side1 ?side2 A4.out).mono ?_); (case side1 => repeat (first | exact (Kd.C_below HR0.out HB.out) | (with_reducible refine Kd.C_alloc ?_ _) | (with_reducible refine Kd.C_drewN ?_ _) | (with_reducible refine Kd.C_drew ?_))); (case side2 => exact HC0.out); rintro e w16 ⟨rfl, hb⟩; refine ⟨_, rfl, ?_⟩; have n0_ := Am (Bt (by repeat (first | exact HB.out | apply Ba | apply Bn | apply Bd)) hb); clear HB; have HB := n0_; clear n0_; (try clear hb); (try clear hb2); (try clear hk); (try clear hi)) | (go_at_call 82; (with_reducible refine (impl_goodCmds.calls _ _ l1 true _ ?side1 ?side2 A6.out).mono ?_); (case side1 => repeat (first | exact (Kd.C_below HR1.out HB.out) | (with_reducible refine Kd.C_alloc ?_ _) | (with_reducible refine Kd.C_drewN ?_ _) | (with_reducible refine Kd.C_drew ?_))); (case side2 => exact HC1.out); rintro e w17 ⟨rfl, hb⟩; have n0_ := Am (Bt (by repeat (first | exact HB.out | apply Ba | apply Bn | apply Bd)) hb); clear HB; have HB := n0_; clear n0_; (try clear hb); (try clear hb2); (try clear hk); (try clear hi)) | (go_at_call 87; (with_reducible refine (impl_onceIn.calls k _ _ l0 _ _ l1 false _ ?side1 ?side2 ?side3 ?side4 A9.out).mono ?_); (case side1 => repeat (first | exact (Kd.C_below HR0.out HB.out) | (with_reducible refine Kd.C_alloc ?_ _) | (with_reducible refine Kd.C_drewN ?_ _) | (with_reducible refine Kd.C_drew ?_))); (case side2 => exact HC0.out); (case side3 => repeat (first | exact (Kd.C_below HR1.out HB.out) | (with_reducible refine Kd.C_alloc ?_ _) | (with_reducible refine Kd.C_drewN ?_ _) | (with_reducible refine Kd.C_drew ?_))); (case side4 => exact HC1.out); rintro e w18 ⟨rfl, hb⟩; have n0_ := Am (Bt (by repeat (first | exact HB.out | apply Ba | apply Bn | apply Bd)) hb); clear HB; have HB := n0_; clear n0_; (try clear hb); (try clear hb2); (try clear hk); (try clear hi)))
      go_meet
      case rel => exact ⟨_, (true), (by first | rfl | (simp; done) | (simp [*]; done)), H', ⟨by first | omega | exact Nat.le_refl _⟩, ⟨by repeat (first | exact HB.out | apply Ba | apply Bn | apply Bd)⟩⟩
    ·rw [if_neg c8] at H
     have c8b0 : ((l0.length : Int) == (l1.length : Int)) = false := beq_eq_false_iff_ne.mpr c8
     have c8b1 : ((l0.length : Int) != (l1.length : Int)) = true := bne_iff_ne.mpr c8
     have c8b2 : (l0.length == l1.length) = false := by first | simpa using c8 | (simp at c8 ⊢; omega)
     (first | rw [c8b0] | (simp only [i64_w, i32_w]; rw [c8b0]) | skip)
     have H' := Am H
     clear H
     go_wp2_with (first | ((refine Gc (f := 82) rfl ?_); refine goesL_ (some 13) rfl rfl Try.func82 (by kernel_rfl) rfl #[.slice A0 l0.length c0] rfl (by first | rfl | (simp only [List.map_toArray, List.map_cons, List.map_nil]; first | done | rfl)) ?_; (with_reducible refine (impl_goodCmds.calls _ _ l0 true _ ?side1 ?side2 A4.out).mono ?_); (case side1 => repeat (first | exact (Kd.C_below HR0.out HB.out) | (with_reducible refine Kd.C_alloc ?_ _) | (with_reducible refine Kd.C_drewN ?_ _) | (with_reducible refine Kd.C_drew ?_))); (case side2 => exact HC0.out); rintro e w19 ⟨rfl, hb⟩; refine ⟨_, rfl, ?_⟩; have n0_ := Am (Bt (by repeat (first | exact HB.out | apply Ba | apply Bn | apply Bd)) hb); clear HB; have HB := n0_; clear n0_; (try clear hb); (try clear hb2); (try clear hk); (try clear hi)) | (go_at_call 82; (with_reducible refine (impl_goodCmds.calls _ _ l1 true _ ?side1 ?side2 A6.out).mono ?_); (case side1 => repeat (first | exact (Kd.C_below HR1.out HB.out) | (with_reducible refine Kd.C_alloc ?_ _) | (with_reducible refine Kd.C_drewN ?_ _) | (with_reducible refine Kd.C_drew ?_))); (case side2 => exact HC1.out); rintro e w20 ⟨rfl, hb⟩; have n0_ := Am (Bt (by repeat (first | exact HB.out | apply Ba | apply Bn | apply Bd)) hb); clear HB; have HB := n0_; clear n0_; (try clear hb); (try clear hb2); (try clear hk); (try clear hi)))
     go_meet
     case rel => exact ⟨_, (true), (by first | rfl | (simp; done) | (simp [*]; done)), H', ⟨by first | omega | exact Nat.le_refl _⟩, ⟨by repeat (first | exact HB.out | apply Ba | apply Bn | apply Bd)⟩⟩
   ·replace c7 := Bool.eq_false_iff.mpr c7
    subst c7
    have H1 : (impl_TellsSame.j0 k l0 l1 true) = some (r1, r2) := by rw [if_neg (show ¬ (false = true) by decide)] at H; exact H
    clear H
    have H := H1
    clear H1
    have H' := Am H
    clear H
    go_wp2_with (first | ((refine Gc (f := 82) rfl ?_); refine goesL_ (some 13) rfl rfl Try.func82 (by kernel_rfl) rfl #[.slice A0 l0.length c0] rfl (by first | rfl | (simp only [List.map_toArray, List.map_cons, List.map_nil]; first | done | rfl)) ?_; (with_reducible refine (impl_goodCmds.calls _ _ l0 true _ ?side1 ?side2 A4.out).mono ?_); (case side1 => repeat (first | exact (Kd.C_below HR0.out HB.out) | (with_reducible refine Kd.C_alloc ?_ _) | (with_reducible refine Kd.C_drewN ?_ _) | (with_reducible refine Kd.C_drew ?_))); (case side2 => exact HC0.out); rintro e w21 ⟨rfl, hb⟩; refine ⟨_, rfl, ?_⟩; have n0_ := Am (Bt (by repeat (first | exact HB.out | apply Ba | apply Bn | apply Bd)) hb); clear HB; have HB := n0_; clear n0_; (try clear hb); (try clear hb2); (try clear hk); (try clear hi)) | (go_at_call 82; (with_reducible refine (impl_goodCmds.calls _ _ l1 false _ ?side1 ?side2 A6.out).mono ?_); (case side1 => repeat (first | exact (Kd.C_below HR1.out HB.out) | (with_reducible refine Kd.C_alloc ?_ _) | (with_reducible refine Kd.C_drewN ?_ _) | (with_reducible refine Kd.C_drew ?_))); (case side2 => exact HC1.out); rintro e w22 ⟨rfl, hb⟩; have n0_ := Am (Bt (by repeat (first | exact HB.out | apply Ba | apply Bn | apply Bd)) hb); clear HB; have HB := n0_; clear n0_; (try clear hb); (try clear hb2); (try clear hk); (try clear hi)))
    go_meet
    case rel => exact ⟨_, (true), (by first | rfl | (simp; done) | (simp [*]; done)), H', ⟨by first | omega | exact Nat.le_refl _⟩, ⟨by repeat (first | exact HB.out | apply Ba | apply Bn | apply Bd)⟩⟩
  ·replace c5 := Bool.eq_false_iff.mpr c5
   subst c5
   have H1 : (impl_TellsSame.j0 k l0 l1 true) = some (r1, r2) := by rw [if_neg (show ¬ (false = true) by decide)] at H; exact H
   clear H
   have H := H1
   clear H1
   have H' := Am H
   clear H
   go_wp2_with (first | ((refine Gc (f := 82) rfl ?_); refine goesL_ (some 13) rfl rfl Try.func82 (by kernel_rfl) rfl #[.slice A0 l0.length c0] rfl (by first | rfl | (simp only [List.map_toArray, List.map_cons, List.map_nil]; first | done | rfl)) ?_; (with_reducible refine (impl_goodCmds.calls _ _ l0 false _ ?side1 ?side2 A4.out).mono ?_); (case side1 => repeat (first | exact (Kd.C_below HR0.out HB.out) | (with_reducible refine Kd.C_alloc ?_ _) | (with_reducible refine Kd.C_drewN ?_ _) | (with_reducible refine Kd.C_drew ?_))); (case side2 => exact HC0.out); rintro e w23 ⟨rfl, hb⟩; refine ⟨_, rfl, ?_⟩; have n0_ := Am (Bt (by repeat (first | exact HB.out | apply Ba | apply Bn | apply Bd)) hb); clear HB; have HB := n0_; clear n0_; (try clear hb); (try clear hb2); (try clear hk); (try clear hi)))
   go_meet
   case rel => exact ⟨_, (true), (by first | rfl | (simp; done) | (simp [*]; done)), H', ⟨by first | omega | exact Nat.le_refl _⟩, ⟨by repeat (first | exact HB.out | apply Ba | apply Bn | apply Bd)⟩⟩
 case rest =>
  clear HC3
  try clear c1
  try clear c2
  try clear p2
  try clear c5
  try clear c7
  try clear c8
  try clear c8b0
  try clear c8b1
  try clear c8b2
  try clear c10
  obtain ⟨kq, x38_2, rfl, HA, HJ2, HB⟩ := hcut
  cases kq with
  | zero => exact absurd HA.out (by simp [impl_TellsSame.j0])
  | succ kj2 =>
   have H := HA.out
   clear HA
   simp only [impl_TellsSame.j0] at H
   by_cases c24 : x38_2 = true
   ·subst c24
    have H1 : (some (false, false)) = some (r1, r2) := by rw [if_pos rfl] at H; exact H
    clear H
    have H := H1
    clear H1
    simp only [Option.some.injEq, Prod.mk.injEq] at H
    obtain ⟨rfl, rfl⟩ := H
    go_wp2
    go_ret2
    exact ⟨by first | rfl | (simp [*, errW_none, errW_some] <;> rfl), by repeat (first | exact HB.out | apply Ba | apply Bn | apply Bd)⟩
   ·replace c24 := Bool.eq_false_iff.mpr c24
    subst c24
    have H1 : ((impl_playCmds.f kj2 l0).bind fun bt246 => ((impl_playCmds.f kj2 l1).bind fun bt252 => (impl_TellsSame.l0 kj2 l1 bt246.1 bt246.2 bt252.1 bt252.2 l0 (l0.length : Int) 0))) = some (r1, r2) := by rw [if_neg (show ¬ (false = true) by decide)] at H; exact H
    clear H
    have H := H1
    clear H1
    replace H := Option.bind_eq_some_iff.mp H
    obtain ⟨⟨t246, t247⟩, A250, H⟩ := H
    replace H : ((impl_playCmds.f kj2 l1).bind fun bt252 => (impl_TellsSame.l0 kj2 l1 t246 t247 bt252.1 bt252.2 l0 (l0.length : Int) 0)) = some (r1, r2) := H
    have A25 := Am A250
    clear A250
    replace H := Option.bind_eq_some_iff.mp H
    obtain ⟨⟨t252, t253⟩, A260, H⟩ := H
    replace H : (impl_TellsSame.l0 kj2 l1 t246 t247 t252 t253 l0 (l0.length : Int) 0) = some (r1, r2) := H
    have A26 := Am A260
    clear A260
    have H' := Am H
    clear H
    go_wp2_with (first | ((refine Gc (f := 83) rfl ?_); refine goesL_ (some 41) rfl rfl Try.func83 (by kernel_rfl) rfl #[.slice A0 l0.length c0] rfl (by first | rfl | (simp only [List.map_toArray, List.map_cons, List.map_nil]; first | done | rfl)) ?_; (with_reducible refine (impl_playCmds.calls kj2 _ _ l0 t246 t247 _ ?side1 ?side2 A25.out).mono ?_); (case side1 => repeat (first | exact (Kd.C_below HR0.out HB.out) | (with_reducible refine Kd.C_alloc ?_ _) | (with_reducible refine Kd.C_drewN ?_ _) | (with_reducible refine Kd.C_drew ?_))); (case side2 => exact HC0.out); rintro e w27 ⟨v248, v250, rfl, ho0, ho1, hb⟩; refine ⟨_, rfl, ?_⟩; have n0_ := Am (Kd.R_lower ho0 (Bz (by repeat (first | exact HB.out | apply Ba | apply Bn | apply Bd)))); have n1_ := Am (Kd.R_lower ho1 (Bz (by repeat (first | exact HB.out | apply Ba | apply Bn | apply Bd)))); have n2_ := Am (Bt (by repeat (first | exact HB.out | apply Ba | apply Bn | apply Bd)) hb); clear HB; have HO249 := n0_; have HO251 := n1_; have HB := n2_; clear n0_ n1_ n2_; (try clear hb); (try clear hb2); (try clear hk); (try clear hi); (try clear ho0); (try clear ho1)) | ((refine Gc (f := 83) rfl ?_); refine goesL_ (some 46) rfl rfl Try.func83 (by kernel_rfl) rfl #[.slice A1 l1.length c1] rfl (by first | rfl | (simp only [List.map_toArray, List.map_cons, List.map_nil]; first | done | rfl)) ?_; (with_reducible refine (impl_playCmds.calls kj2 _ _ l1 t252 t253 _ ?side1 ?side2 A26.out).mono ?_); (case side1 => repeat (first | exact (Kd.C_below HR1.out HB.out) | (with_reducible refine Kd.C_alloc ?_ _) | (with_reducible refine Kd.C_drewN ?_ _) | (with_reducible refine Kd.C_drew ?_))); (case side2 => exact HC1.out); rintro e w28 ⟨v254, v256, rfl, ho0, ho1, hb⟩; refine ⟨_, rfl, ?_⟩; have n0_ := Am (Kd.R_elder' (by (with_reducible repeat (first | apply Ra | apply Rn | apply Rd)); exact HO249.out) (Kd.R_base ho0) hb); have n1_ := Am (Kd.R_elder' (by (with_reducible repeat (first | apply Ra | apply Rn | apply Rd)); exact HO251.out) (Kd.R_base ho1) hb); have n2_ := Am (Kd.R_lower (Kd.R_new' ho0 (Kd.R_lt (by (with_reducible repeat (first | apply Ra | apply Rn | apply Rd)); exact HO249.out))) (Bz (by repeat (first | exact HB.out | apply Ba | apply Bn | apply Bd)))); have n3_ := Am (Kd.R_lower (Kd.R_new' ho1 (Kd.R_lt (by (with_reducible repeat (first | apply Ra | apply Rn | apply Rd)); exact HO251.out))) (Bz (by repeat (first | exact HB.out | apply Ba | apply Bn | apply Bd)))); have n4_ := Am (Bt (by repeat (first | exact HB.out | apply Ba | apply Bn | apply Bd)) hb); clear HO249; clear HO251; clear HB; have HO249 := n0_; have HO251 := n1_; have HO255 := n2_; have HO257 := n3_; have HB := n4_; clear n0_ n1_ n2_ n3_ n4_; (try clear hb); (try clear hb2); (try clear hk); (try clear hi); (try clear ho0); (try clear ho1)))
    go_loopg [51] kj2 (fun kq v51 w' => ∃ (x51_2 : Int), v51 = .int .i64 x51_2 ∧ Ad (impl_TellsSame.l0 kq l1 t246 t247 t252 t253 l0 (l0.length : Int) x51_2 = some (r1, r2)) ∧ Ad (kq ≤ kj2) ∧ Ad (Kd.R (Kd.int .i64) 3 w' w.heap.size (fun k_ => some k_ ≠ (v254 : Value).ownBlock) v248 t246) ∧ Ad (Kd.R k30 30 w' w.heap.size (fun k_ => some k_ ≠ (v256 : Value).ownBlock) v250 t247) ∧ Ad (Kd.R (Kd.int .i64) 3 w' w.heap.size (fun k_ => some k_ ≠ (v248 : Value).ownBlock) v254 t252) ∧ Ad (Kd.R k30 30 w' w.heap.size (fun k_ => some k_ ≠ (v250 : Value).ownBlock) v256 t253) ∧ Ad (Below w.heap.size w w'))
    case atStart => exact ⟨(0), (by first | rfl | (simp; done) | (simp [*]; done)), H', ⟨Nat.le_refl _⟩, ⟨by (with_reducible repeat (first | apply Ra | apply Rn | apply Rd)); exact Kd.R_mono HO249.out (fun _ hk => hk.2)⟩, ⟨by (with_reducible repeat (first | apply Ra | apply Rn | apply Rd)); exact Kd.R_mono HO251.out (fun _ hk => hk.2)⟩, ⟨by (with_reducible repeat (first | apply Ra | apply Rn | apply Rd)); exact Kd.R_mono HO255.out (fun _ hk => hk.2)⟩, ⟨by (with_reducible repeat (first | apply Ra | apply Rn | apply Rd)); exact Kd.R_mono HO257.out (fun _ hk => hk.2)⟩, ⟨by repeat (first | exact HB.out | apply Ba | apply Bn | apply Bd)⟩⟩
    case round =>
     clear H'
     try clear c1
     try clear c2
     try clear p2
     try clear c5
     try clear c7
     try clear c8
     try clear c8b0
     try clear c8b1
     try clear c8b2
     try clear c10
     try clear c24
     try clear p2
     obtain ⟨x51_2, rfl, HA, HK2, HO_6, HO_7, HO_8, HO_9, HB⟩ := hrel
     cases gk with
     | zero => exact absurd HA.out (by simp [impl_TellsSame.l0])
     | succ k2 =>
      have H := HA.out
      clear HA
      simp only [impl_TellsSame.l0] at H
      by_cases c29 : x51_2 < (l0.length : Int)
      ·rw [if_pos c29] at H
       have c29b0 : decide (x51_2 < (l0.length : Int)) = true := decide_eq_true c29
       clear c29
       by_cases c30 : 0 ≤ x51_2
       ·rw [if_pos c30] at H
        have c30b0 : decide (0 ≤ x51_2) = true := decide_eq_true c30
        clear c30
        by_cases c31 : x51_2 < (l0.length : Int)
        ·rw [if_pos c31] at H
         have c31b0 : decide (x51_2 < (l0.length : Int)) = true := decide_eq_true c31
         clear c31
         by_cases c32 : x51_2 < (t247.length : Int)
         ·rw [if_pos c32] at H
          have c32b0 : decide (x51_2 < (t247.length : Int)) = true := decide_eq_true c32
          clear c32
          replace H := Option.bind_eq_some_iff.mp H
          obtain ⟨t261, A330, H⟩ := H
          replace H : (if 0 ≤ t261 then (if t261 < (t253.length : Int) then (if (!(((rd_T30 t247 x51_2).f0) == ((rd_T30 t253 t261).f0)) || (!(((rd_T30 t247 x51_2).f1) == ((rd_T30 t253 t261).f1)))) = true then (some (false, true)) else (impl_TellsSame.l0 k2 l1 t246 t247 t252 t253 l0 (l0.length : Int) (wrap64 (x51_2 + 1)))) else (none)) else (none)) = some (r1, r2) := H
          have A33 := Am A330
          clear A330
          by_cases c34 : 0 ≤ t261
          ·rw [if_pos c34] at H
           have c34b0 : decide (0 ≤ t261) = true := decide_eq_true c34
           clear c34
           by_cases c35 : t261 < (t253.length : Int)
           ·rw [if_pos c35] at H
            have c35b0 : decide (t261 < (t253.length : Int)) = true := decide_eq_true c35
            clear c35
            by_cases c36 : (!(((rd_T30 t247 x51_2).f0) == ((rd_T30 t253 t261).f0)) || (!(((rd_T30 t247 x51_2).f1) == ((rd_T30 t253 t261).f1)))) = true
            ·rw [if_pos c36] at H
             have c36b0 : (!(((rd_T30 t247 x51_2).f0) == ((rd_T30 t253 t261).f0)) || (!(((rd_T30 t247 x51_2).f1) == ((rd_T30 t253 t261).f1)))) = true := c36
             clear c36
             simp only [Option.some.injEq, Prod.mk.injEq] at H
             obtain ⟨rfl, rfl⟩ := H
             have p258 : 0 ≤ (x51_2 : Int) := of_decide_eq_true (by assumption)
             have q258 : x51_2 < (l0.length : Int) := of_decide_eq_true (by assumption)
             obtain ⟨ad258, e258, hx258_0, hx258_1, hx258_2, hx258_3, hx258_4⟩ := at_T26 HR0.out x51_2 p258 q258
             cases e258
             replace hx258_0 := (HB.out.cell (bl_ w _ hx258_0)).trans hx258_0
             replace hx258_1 := (HB.out.cell (bl_ w _ hx258_1)).trans hx258_1
             replace hx258_2 := (HB.out.cell (bl_ w _ hx258_2)).trans hx258_2
             replace hx258_3 := (HB.out.cell (bl_ w _ hx258_3)).trans hx258_3
             replace hx258_4 := (HB.out.cell (bl_ w _ hx258_4)).trans hx258_4
             replace p258 := eq_true p258
             replace q258 := eq_true q258
             try go_wp2_with (first | ((refine Gd (N := 11) rfl ?_); (try (refine gate_guard (by rfl) ?_; dsimp only)); refine Be ?hg (N := 11) ?hd (cs := #[.int .i64 0, .int .i64 0, .int .i64 0, .int .i64 0, .int .i64 0]) (t := 26) ?hr ?_; (case hd | hg => rfl); (case hr => first | (go_simp; done) | (go_simp; rfl)); intro gb259 hg w37 hbox hb; have n0_ := Am (Kd.R_below (by (with_reducible repeat (first | apply Ra | apply Rn | apply Rd)); exact HO_6.out) hb); have n1_ := Am (Kd.R_below (by (with_reducible repeat (first | apply Ra | apply Rn | apply Rd)); exact HO_7.out) hb); have n2_ := Am (Kd.R_below (by (with_reducible repeat (first | apply Ra | apply Rn | apply Rd)); exact HO_8.out) hb); have n3_ := Am (Kd.R_below (by (with_reducible repeat (first | apply Ra | apply Rn | apply Rd)); exact HO_9.out) hb); have n4_ := Am (Bt (by repeat (first | exact HB.out | apply Ba | apply Bn | apply Bd)) hb); have n5_ := Am (hbox); have n6_ := Am ((by rw [hg]; exact (Bz (by repeat (first | exact HB.out | apply Ba | apply Bn | apply Bd))) : w.heap.size ≤ gb259)); have n7_ := Am ((by rw [hg]; exact (Bz (by repeat (first | exact HB.out | apply Ba | apply Bn | apply Bd))) : w.heap.size ≤ gb259)); clear HO_6; clear HO_7; clear HO_8; clear HO_9; clear HB; have HO_6 := n0_; have HO_7 := n1_; have HO_8 := n2_; have HO_9 := n3_; have HB := n4_; have BK259 := n5_; have GW259 := n6_; have GE259 := n7_; clear n0_ n1_ n2_ n3_ n4_ n5_ n6_ n7_; clear hb hbox hg; have hcz38_0 : w37.cell? ⟨gb259, 0, none⟩ = some (.int .i64 0) := (Kc BK259.out 0).trans rfl; have hcz38_1 : w37.cell? ⟨gb259, 1, none⟩ = some (.int .i64 0) := (Kc BK259.out 1).trans rfl; have hcz38_2 : w37.cell? ⟨gb259, 2, none⟩ = some (.int .i64 0) := (Kc BK259.out 2).trans rfl; have hcz38_3 : w37.cell? ⟨gb259, 3, none⟩ = some (.int .i64 0) := (Kc BK259.out 3).trans rfl; have hcz38_4 : w37.cell? ⟨gb259, 4, none⟩ = some (.int .i64 0) := (Kc BK259.out 4).trans rfl; have hfz38_0 := Kz BK259.out 0; have hfz38_1 := Kz BK259.out 1; have hfz38_2 := Kz BK259.out 2; have hfz38_3 := Kz BK259.out 3; have hfz38_4 := Kz BK259.out 4))
             have n0_ : Ad (Kd.R (Kd.int .i64) 3 (((((w37.setCell ⟨gb259, 0, none⟩ (.int .i64 ((rd_T26 l0 x51_2).f0))).setCell ⟨gb259, 1, none⟩ (.int .i64 ((rd_T26 l0 x51_2).f1))).setCell ⟨gb259, 2, none⟩ (.int .i64 ((rd_T26 l0 x51_2).f2))).setCell ⟨gb259, 3, none⟩ (.int .i64 ((rd_T26 l0 x51_2).f3))).setCell ⟨gb259, 4, none⟩ (.int .i64 ((rd_T26 l0 x51_2).f4))) w.heap.size (fun k_ => some k_ ≠ (v254 : Value).ownBlock) v248 t246) := ⟨by (with_reducible repeat (first | apply Ra | apply Rn | apply Rd)); exact Kd.R_mono (Kd.R_far (p := ⟨gb259, 4, none⟩) (Kd.R_far (p := ⟨gb259, 3, none⟩) (Kd.R_far (p := ⟨gb259, 2, none⟩) (Kd.R_far (p := ⟨gb259, 1, none⟩) (Kd.R_far (p := ⟨gb259, 0, none⟩) (Kd.R_types HO_6.out BK259.out (by decide)) (fun _ hk => hk.2) (.int .i64 ((rd_T26 l0 x51_2).f0))) (fun _ hk => hk.2) (.int .i64 ((rd_T26 l0 x51_2).f1))) (fun _ hk => hk.2) (.int .i64 ((rd_T26 l0 x51_2).f2))) (fun _ hk => hk.2) (.int .i64 ((rd_T26 l0 x51_2).f3))) (fun _ hk => hk.2) (.int .i64 ((rd_T26 l0 x51_2).f4))) (fun _ hk => hk.1)⟩
             have n1_ : Ad (Kd.R k30 30 (((((w37.setCell ⟨gb259, 0, none⟩ (.int .i64 ((rd_T26 l0 x51_2).f0))).setCell ⟨gb259, 1, none⟩ (.int .i64 ((rd_T26 l0 x51_2).f1))).setCell ⟨gb259, 2, none⟩ (.int .i64 ((rd_T26 l0 x51_2).f2))).setCell ⟨gb259, 3, none⟩ (.int .i64 ((rd_T26 l0 x51_2).f3))).setCell ⟨gb259, 4, none⟩ (.int .i64 ((rd_T26 l0 x51_2).f4))) w.heap.size (fun k_ => some k_ ≠ (v256 : Value).ownBlock) v250 t247) := ⟨by (with_reducible repeat (first | apply Ra | apply Rn | apply Rd)); exact Kd.R_mono (Kd.R_far (p := ⟨gb259, 4, none⟩) (Kd.R_far (p := ⟨gb259, 3, none⟩) (Kd.R_far (p := ⟨gb259, 2, none⟩) (Kd.R_far (p := ⟨gb259, 1, none⟩) (Kd.R_far (p := ⟨gb259, 0, none⟩) (Kd.R_types HO_7.out BK259.out (by decide)) (fun _ hk => hk.2) (.int .i64 ((rd_T26 l0 x51_2).f0))) (fun _ hk => hk.2) (.int .i64 ((rd_T26 l0 x51_2).f1))) (fun _ hk => hk.2) (.int .i64 ((rd_T26 l0 x51_2).f2))) (fun _ hk => hk.2) (.int .i64 ((rd_T26 l0 x51_2).f3))) (fun _ hk => hk.2) (.int .i64 ((rd_T26 l0 x51_2).f4))) (fun _ hk => hk.1)⟩
             have n2_ : Ad (Kd.R (Kd.int .i64) 3 (((((w37.setCell ⟨gb259, 0, none⟩ (.int .i64 ((rd_T26 l0 x51_2).f0))).setCell ⟨gb259, 1, none⟩ (.int .i64 ((rd_T26 l0 x51_2).f1))).setCell ⟨gb259, 2, none⟩ (.int .i64 ((rd_T26 l0 x51_2).f2))).setCell ⟨gb259, 3, none⟩ (.int .i64 ((rd_T26 l0 x51_2).f3))).setCell ⟨gb259, 4, none⟩ (.int .i64 ((rd_T26 l0 x51_2).f4))) w.heap.size (fun k_ => some k_ ≠ (v248 : Value).ownBlock) v254 t252) := ⟨by (with_reducible repeat (first | apply Ra | apply Rn | apply Rd)); exact Kd.R_mono (Kd.R_far (p := ⟨gb259, 4, none⟩) (Kd.R_far (p := ⟨gb259, 3, none⟩) (Kd.R_far (p := ⟨gb259, 2, none⟩) (Kd.R_far (p := ⟨gb259, 1, none⟩) (Kd.R_far (p := ⟨gb259, 0, none⟩) (Kd.R_types HO_8.out BK259.out (by decide)) (fun _ hk => hk.2) (.int .i64 ((rd_T26 l0 x51_2).f0))) (fun _ hk => hk.2) (.int .i64 ((rd_T26 l0 x51_2).f1))) (fun _ hk => hk.2) (.int .i64 ((rd_T26 l0 x51_2).f2))) (fun _ hk => hk.2) (.int .i64 ((rd_T26 l0 x51_2).f3))) (fun _ hk => hk.2) (.int .i64 ((rd_T26 l0 x51_2).f4))) (fun _ hk => hk.1)⟩
             have n3_ : Ad (Kd.R k30 30 (((((w37.setCell ⟨gb259, 0, none⟩ (.int .i64 ((rd_T26 l0 x51_2).f0))).setCell ⟨gb259, 1, none⟩ (.int .i64 ((rd_T26 l0 x51_2).f1))).setCell ⟨gb259, 2, none⟩ (.int .i64 ((rd_T26 l0 x51_2).f2))).setCell ⟨gb259, 3, none⟩ (.int .i64 ((rd_T26 l0 x51_2).f3))).setCell ⟨gb259, 4, none⟩ (.int .i64 ((rd_T26 l0 x51_2).f4))) w.heap.size (fun k_ => some k_ ≠ (v250 : Value).ownBlock) v256 t253) := ⟨by (with_reducible repeat (first | apply Ra | apply Rn | apply Rd)); exact Kd.R_mono (Kd.R_far (p := ⟨gb259, 4, none⟩) (Kd.R_far (p := ⟨gb259, 3, none⟩) (Kd.R_far (p := ⟨gb259, 2, none⟩) (Kd.R_far (p := ⟨gb259, 1, none⟩) (Kd.R_far (p := ⟨gb259, 0, none⟩) (Kd.R_types HO_9.out BK259.out (by decide)) (fun _ hk => hk.2) (.int .i64 ((rd_T26 l0 x51_2).f0))) (fun _ hk => hk.2) (.int .i64 ((rd_T26 l0 x51_2).f1))) (fun _ hk => hk.2) (.int .i64 ((rd_T26 l0 x51_2).f2))) (fun _ hk => hk.2) (.int .i64 ((rd_T26 l0 x51_2).f3))) (fun _ hk => hk.2) (.int .i64 ((rd_T26 l0 x51_2).f4))) (fun _ hk => hk.1)⟩
             have n4_ : Ad ((((((w37.setCell ⟨gb259, 0, none⟩ (.int .i64 ((rd_T26 l0 x51_2).f0))).setCell ⟨gb259, 1, none⟩ (.int .i64 ((rd_T26 l0 x51_2).f1))).setCell ⟨gb259, 2, none⟩ (.int .i64 ((rd_T26 l0 x51_2).f2))).setCell ⟨gb259, 3, none⟩ (.int .i64 ((rd_T26 l0 x51_2).f3))).setCell ⟨gb259, 4, none⟩ (.int .i64 ((rd_T26 l0 x51_2).f4))).heap[gb259]? = some (.cells #[.int .i64 ((rd_T26 l0 x51_2).f0), .int .i64 ((rd_T26 l0 x51_2).f1), .int .i64 ((rd_T26 l0 x51_2).f2), .int .i64 ((rd_T26 l0 x51_2).f3), .int .i64 ((rd_T26 l0 x51_2).f4)] 26 (0, 0))) := ⟨by (with_reducible repeat (first | refine Kn ?_ _ | refine Ke ?_ | refine Ka ?_ _)); refine blk_put (cs := #[.int .i64 ((rd_T26 l0 x51_2).f0), .int .i64 ((rd_T26 l0 x51_2).f1), .int .i64 ((rd_T26 l0 x51_2).f2), .int .i64 ((rd_T26 l0 x51_2).f3), .int .i64 0]) ?_ 4 _ rfl; (with_reducible repeat (first | refine Kn ?_ _ | refine Ke ?_ | refine Ka ?_ _)); refine blk_put (cs := #[.int .i64 ((rd_T26 l0 x51_2).f0), .int .i64 ((rd_T26 l0 x51_2).f1), .int .i64 ((rd_T26 l0 x51_2).f2), .int .i64 0, .int .i64 0]) ?_ 3 _ rfl; (with_reducible repeat (first | refine Kn ?_ _ | refine Ke ?_ | refine Ka ?_ _)); refine blk_put (cs := #[.int .i64 ((rd_T26 l0 x51_2).f0), .int .i64 ((rd_T26 l0 x51_2).f1), .int .i64 0, .int .i64 0, .int .i64 0]) ?_ 2 _ rfl; (with_reducible repeat (first | refine Kn ?_ _ | refine Ke ?_ | refine Ka ?_ _)); refine blk_put (cs := #[.int .i64 ((rd_T26 l0 x51_2).f0), .int .i64 0, .int .i64 0, .int .i64 0, .int .i64 0]) ?_ 1 _ rfl; (with_reducible repeat (first | refine Kn ?_ _ | refine Ke ?_ | refine Ka ?_ _)); refine blk_put (cs := #[.int .i64 0, .int .i64 0, .int .i64 0, .int .i64 0, .int .i64 0]) ?_ 0 _ rfl; (with_reducible repeat (first | refine Kn ?_ _ | refine Ke ?_ | refine Ka ?_ _)); exact BK259.out⟩
             have n5_ : Ad (Below w.heap.size w (((((w37.setCell ⟨gb259, 0, none⟩ (.int .i64 ((rd_T26 l0 x51_2).f0))).setCell ⟨gb259, 1, none⟩ (.int .i64 ((rd_T26 l0 x51_2).f1))).setCell ⟨gb259, 2, none⟩ (.int .i64 ((rd_T26 l0 x51_2).f2))).setCell ⟨gb259, 3, none⟩ (.int .i64 ((rd_T26 l0 x51_2).f3))).setCell ⟨gb259, 4, none⟩ (.int .i64 ((rd_T26 l0 x51_2).f4)))) := ⟨by repeat (first | (with_reducible first | exact HB.out | apply Ba | apply Bn | apply Bd | refine Bs ?_ GE259.out) | exact HB.out)⟩
             (try clear HO_6)
             (try clear HO_7)
             (try clear HO_8)
             (try clear HO_9)
             (try clear BK259)
             (try clear HB)
             generalize (((((w37.setCell ⟨gb259, 0, none⟩ (.int .i64 ((rd_T26 l0 x51_2).f0))).setCell ⟨gb259, 1, none⟩ (.int .i64 ((rd_T26 l0 x51_2).f1))).setCell ⟨gb259, 2, none⟩ (.int .i64 ((rd_T26 l0 x51_2).f2))).setCell ⟨gb259, 3, none⟩ (.int .i64 ((rd_T26 l0 x51_2).f3))).setCell ⟨gb259, 4, none⟩ (.int .i64 ((rd_T26 l0 x51_2).f4))) = w39 at n0_ n1_ n2_ n3_ n4_ n5_ ⊢
             have HO_6 := n0_
             have HO_7 := n1_
             have HO_8 := n2_
             have HO_9 := n3_
             have BK259 := n4_
             have HB := n5_
             clear n0_ n1_ n2_ n3_ n4_ n5_
             have n0_ := Am (Rd HO_6.out)
             have n1_ := Am (Rd HO_7.out)
             have n2_ := Am (Rd HO_8.out)
             have n3_ := Am (Rd HO_9.out)
             have n4_ := Am (Ke BK259.out)
             have n5_ := Am (Bd HB.out)
             clear HO_6
             clear HO_7
             clear HO_8
             clear HO_9
             clear BK259
             clear HB
             have HO_6 := n0_
             have HO_7 := n1_
             have HO_8 := n2_
             have HO_9 := n3_
             have BK259 := n4_
             have HB := n5_
             clear n0_ n1_ n2_ n3_ n4_ n5_
             obtain ⟨Ao41, co41, eo41⟩ := Kd.R_slice HO_7.out
             (first | subst eo41 | (injection eo41 with f1_ f2_ f3_; have f4_ := f1_.symm; have f5_ := f3_.symm; clear f1_ f2_ f3_; subst f4_; subst f5_))
             have p260 : 0 ≤ (x51_2 : Int) := of_decide_eq_true (by assumption)
             have q260 : x51_2 < (t247.length : Int) := of_decide_eq_true (by assumption)
             obtain ⟨ad260, e260, hx260_0, hx260_1⟩ := at_T30 (Kd.R_reads' HO_7.out).2.2 x51_2 p260 q260
             cases e260
             replace p260 := eq_true p260
             replace q260 := eq_true q260
             obtain ⟨Ao43, co43, eo43⟩ := Kd.R_slice HO_9.out
             (first | subst eo43 | (injection eo43 with f1_ f2_ f3_; have f4_ := f1_.symm; have f5_ := f3_.symm; clear f1_ f2_ f3_; subst f4_; subst f5_))
             have p262 : 0 ≤ (t261 : Int) := of_decide_eq_true (by assumption)
             have q262 : t261 < (t253.length : Int) := of_decide_eq_true (by assumption)
             obtain ⟨ad262, e262, hx262_0, hx262_1⟩ := at_T30 (Kd.R_reads' HO_9.out).2.2 t261 p262 q262
             cases e262
             replace p262 := eq_true p262
             replace q262 := eq_true q262
             refine start_ (n := 11) (S := fun w' => w'.cell? ⟨gb259, 0, none⟩ = some (.int .i64 ((rd_T26 l0 x51_2).f0)) ∧ w'.cell? ⟨gb259, 1, none⟩ = some (.int .i64 ((rd_T26 l0 x51_2).f1)) ∧ w'.cell? ⟨gb259, 2, none⟩ = some (.int .i64 ((rd_T26 l0 x51_2).f2)) ∧ w'.cell? ⟨gb259, 3, none⟩ = some (.int .i64 ((rd_T26 l0 x51_2).f3)) ∧ w'.cell? ⟨gb259, 4, none⟩ = some (.int .i64 ((rd_T26 l0 x51_2).f4)) ∧ w'.cell? (ad260.add ((x51_2).toNat * 2)) = some (.int .i64 ((rd_T30 t247 x51_2).f0)) ∧ w'.cell? ⟨(ad260.add ((x51_2).toNat * 2)).block, (ad260.add ((x51_2).toNat * 2)).off + 1, none⟩ = some (.int .i64 ((rd_T30 t247 x51_2).f1)) ∧ w'.cell? (ad262.add ((t261).toNat * 2)) = some (.int .i64 ((rd_T30 t253 t261).f0)) ∧ w'.cell? ⟨(ad262.add ((t261).toNat * 2)).block, (ad262.add ((t261).toNat * 2)).off + 1, none⟩ = some (.int .i64 ((rd_T30 t253 t261).f1))) (ds := []) #[false, false, false, false, false, false, false, false, false, false, false] (by kernel_rfl) rfl rfl ⟨(Kc BK259.out 0).trans rfl, (Kc BK259.out 1).trans rfl, (Kc BK259.out 2).trans rfl, (Kc BK259.out 3).trans rfl, (Kc BK259.out 4).trans rfl, hx260_0, hx260_1, hx262_0, hx262_1⟩ (fun hHeld => ?_); refine with_tabW impl_TellsSame.tab8 impl_TellsSame.bits8 (fun HT_ HW_ => ?_)
             generalize w39.drew = w40 at HO_6 HO_7 HO_8 HO_9 BK259 HB hx260_0 hx260_1 hx262_0 hx262_1 hHeld ⊢
             refine pure_ (i := 0) (N := some 56) (v := ?_) (a' := ?_) #[true, false, false, false, false, false, false, false, false, false, false] rfl rfl (any_of HT_.out (by kernel_rfl)) (fun _ _ _ h => h) (Or.inl ⟨by rfl, ?_⟩) ?_ ?_
             rotate_left
             ·intro w'
              go_simp
              with_reducible rfl
             rotate_left
             ·simp only [Act.put, Lt, Lz, Ls, i64_w, i32_w]
              rfl
             refine pure_ (i := 1) (N := some 57) (v := ?_) (a' := ?_) #[true, true, false, false, false, false, false, false, false, false, false] rfl rfl (any_of HT_.out (by kernel_rfl)) (fun _ _ _ h => h) (Or.inl ⟨by rfl, ?_⟩) ?_ ?_
             rotate_left
             ·intro w'
              go_simp
              with_reducible rfl
             rotate_left
             ·simp only [Act.put, Lt, Lz, Ls, i64_w, i32_w]
              rfl
             refine pure_ (i := 2) (N := some 58) (v := ?_) (a' := ?_) #[true, true, true, false, false, false, false, false, false, false, false] rfl rfl (any_of HT_.out (by kernel_rfl)) (fun _ _ _ h => h) (Or.inl ⟨by rfl, ?_⟩) ?_ ?_
             rotate_left
             ·intro w'
              go_simp
              with_reducible rfl
             rotate_left
             ·simp only [Act.put, Lt, Lz, Ls, i64_w, i32_w]
              rfl
             refine pure_ (i := 4) (N := some 60) (v := ?_) (a' := ?_) #[true, true, true, false, true, false, false, false, false, false, false] rfl rfl (any_of HT_.out (by kernel_rfl)) (fun _ _ _ h => h) (Or.inl ⟨by rfl, ?_⟩) ?_ ?_
             rotate_left
             ·intro w'
              go_simp
              with_reducible rfl
             rotate_left
             ·simp only [Act.put, Lt, Lz, Ls, i64_w, i32_w]
              rfl
             refine pure_ (i := 5) (N := some 61) (v := ?_) (a' := ?_) #[true, true, true, false, true, true, false, false, false, false, false] rfl rfl (any_of HT_.out (by kernel_rfl)) (fun _ _ _ h => h) (Or.inl ⟨by rfl, ?_⟩) ?_ ?_
             rotate_left
             ·intro w'
              go_simp
              with_reducible rfl
             rotate_left
             ·simp only [Act.put, Lt, Lz, Ls, i64_w, i32_w]
              rfl
             refine take_ (i := 3) (N := some 59) (v := ?_) (a' := ?_) #[true, true, true, true, true, true, false, false, false, false, false] rfl rfl (take_ofW HT_.out HW_.out (by kernel_rfl)) (fun _ _ _ h => h) (Or.inl ⟨by rfl, ?_⟩) hHeld ?_ ?_
             rotate_left
             ·rintro w' ⟨s0, s1, s2, s3, s4, s5, s6, s7, s8⟩
              go_simp
              with_reducible rfl
             rotate_left
             ·simp only [Act.put, Lt, Lz, Ls, i64_w, i32_w]
              rfl
             refine take_ (i := 6) (N := some 62) (v := ?_) (a' := ?_) #[true, true, true, true, true, true, true, false, false, false, false] rfl rfl (take_ofW HT_.out HW_.out (by kernel_rfl)) (fun _ _ _ h => h) (Or.inl ⟨by rfl, ?_⟩) hHeld ?_ ?_
             rotate_left
             ·rintro w' ⟨s0, s1, s2, s3, s4, s5, s6, s7, s8⟩
              go_simp
              with_reducible rfl
             rotate_left
             ·simp only [Act.put, Lt, Lz, Ls, i64_w, i32_w]
              rfl
             refine one_ (i := 7) (N := some 63) #[true, true, true, true, true, true, true, true, false, false, false] rfl rfl (one_of HT_.out (by kernel_rfl)) (by decide) (fun K hK => ?_)
             refine goes_ Try.func88 (by kernel_rfl) rfl #[.slice A1 l1.length c1, .agg #[.int .i64 ((rd_T26 l0 x51_2).f0), .int .i64 ((rd_T26 l0 x51_2).f1), .int .i64 ((rd_T26 l0 x51_2).f2), .int .i64 ((rd_T26 l0 x51_2).f3), .int .i64 ((rd_T26 l0 x51_2).f4)]] (by rfl) rfl rfl (by first | rfl | (simp only [List.map_toArray, List.map_cons, List.map_nil]; first | done | rfl)) ?_
             with_reducible refine (impl_Cmd_88.calls k2 _ _ l1 ((rd_T26 l0 x51_2).f0) ((rd_T26 l0 x51_2).f1) ((rd_T26 l0 x51_2).f2) ((rd_T26 l0 x51_2).f3) ((rd_T26 l0 x51_2).f4) t261 _ ?side1 ?side2 A33.out).mono ?_
             (case side1 => repeat (first | exact (Kd.C_below HR1.out HB.out) | (with_reducible refine Kd.C_alloc ?_ _) | (with_reducible refine Kd.C_drewN ?_ _) | (with_reducible refine Kd.C_drew ?_)))
             (case side2 => exact HC1.out)
             rintro e w42 ⟨rfl, hb⟩
             have HS5_ := (hb.cell (bl_ _ _ (hHeld.2.2.2.2.2.1))).trans (hHeld.2.2.2.2.2.1)
             have HS6_ := (hb.cell (bl_ _ _ (hHeld.2.2.2.2.2.2.1))).trans (hHeld.2.2.2.2.2.2.1)
             have HS7_ := (hb.cell (bl_ _ _ (hHeld.2.2.2.2.2.2.2.1))).trans (hHeld.2.2.2.2.2.2.2.1)
             have HS8_ := (hb.cell (bl_ _ _ (hHeld.2.2.2.2.2.2.2.2))).trans (hHeld.2.2.2.2.2.2.2.2)
             refine ⟨_, rfl, ?_⟩
             have n0_ := Am (Kd.R_below (by (with_reducible repeat (first | apply Ra | apply Rn | apply Rd)); exact HO_6.out) hb)
             have n1_ := Am (Kd.R_below (by (with_reducible repeat (first | apply Ra | apply Rn | apply Rd)); exact HO_7.out) hb)
             have n2_ := Am (Kd.R_below (by (with_reducible repeat (first | apply Ra | apply Rn | apply Rd)); exact HO_8.out) hb)
             have n3_ := Am (Kd.R_below (by (with_reducible repeat (first | apply Ra | apply Rn | apply Rd)); exact HO_9.out) hb)
             have n4_ := Am (Kb (g := gb259) (o := .cells #[.int .i64 ((rd_T26 l0 x51_2).f0), .int .i64 ((rd_T26 l0 x51_2).f1), .int .i64 ((rd_T26 l0 x51_2).f2), .int .i64 ((rd_T26 l0 x51_2).f3), .int .i64 ((rd_T26 l0 x51_2).f4)] 26 (0, 0)) (by (with_reducible repeat (first | refine Kn ?_ _ | refine Ke ?_ | refine Ka ?_ _)); exact BK259.out) hb)
             have n5_ := Am (Bt (by repeat (first | (with_reducible first | exact HB.out | apply Ba | apply Bn | apply Bd | refine Bs ?_ GE259.out) | exact HB.out)) hb)
             clear HO_6
             clear HO_7
             clear HO_8
             clear HO_9
             clear BK259
             clear HB
             have HO_6 := n0_
             have HO_7 := n1_
             have HO_8 := n2_
             have HO_9 := n3_
             have BK259 := n4_
             have HB := n5_
             clear n0_ n1_ n2_ n3_ n4_ n5_
             (try clear hb)
             (try clear hb2)
             (try clear hk)
             (try clear hi)
             refine hK.out _ _ ⟨(Kc BK259.out 0).trans rfl, (Kc BK259.out 1).trans rfl, (Kc BK259.out 2).trans rfl, (Kc BK259.out 3).trans rfl, (Kc BK259.out 4).trans rfl, HS5_, HS6_, HS7_, HS8_⟩ (fun hHeld => ?_)
             clear hK K
             refine norm_ (a' := ?_) ?_ ?_
             rotate_left
             ·show Act.put _ (some 63) _ = _
              simp only [Act.put, Lt, Lz, Ls, i64_w, i32_w]
              rfl
             refine pure_ (i := 8) (N := some 64) (v := ?_) (a' := ?_) #[true, true, true, true, true, true, true, true, true, false, false] rfl rfl (any_of HT_.out (by kernel_rfl)) (fun _ _ _ h => h) (Or.inl ⟨by rfl, ?_⟩) ?_ ?_
             rotate_left
             ·intro w'
              go_simp
              with_reducible rfl
             rotate_left
             ·simp only [Act.put, Lt, Lz, Ls, i64_w, i32_w]
              rfl
             refine take_ (i := 9) (N := some 65) (v := ?_) (a' := ?_) #[true, true, true, true, true, true, true, true, true, true, false] rfl rfl (take_ofW HT_.out HW_.out (by kernel_rfl)) (fun _ _ _ h => h) (Or.inl ⟨by rfl, ?_⟩) hHeld ?_ ?_
             rotate_left
             ·rintro w' ⟨s0, s1, s2, s3, s4, s5, s6, s7, s8⟩
              go_simp
              with_reducible rfl
             rotate_left
             ·simp only [Act.put, Lt, Lz, Ls, i64_w, i32_w]
              rfl
             refine pure_ (i := 10) (N := some 66) (v := ?_) (a' := ?_) #[true, true, true, true, true, true, true, true, true, true, true] rfl rfl (any_of HT_.out (by kernel_rfl)) (fun _ _ _ h => h) (Or.inl ⟨by rfl, ?_⟩) ?_ ?_
             rotate_left
             ·intro w'
              go_simp
              with_reducible rfl
             rotate_left
             ·simp only [Act.put, Lt, Lz, Ls, i64_w, i32_w]
              rfl
             refine done_ (done_of HT_.out (by kernel_rfl)) ?_
             try go_wp2
             go_ret2
             exact ⟨by first | rfl | (simp [*, errW_none, errW_some] <;> rfl), by repeat (first | (with_reducible first | exact HB.out | apply Ba | apply Bn | apply Bd | refine Bs ?_ GE259.out) | exact HB.out)⟩
            ·rw [if_neg c36] at H
             have c36b0 : (!(((rd_T30 t247 x51_2).f0) == ((rd_T30 t253 t261).f0)) || (!(((rd_T30 t247 x51_2).f1) == ((rd_T30 t253 t261).f1)))) = false := by simpa using c36
             clear c36
             have H' := Am H
             clear H
             have p258 : 0 ≤ (x51_2 : Int) := of_decide_eq_true (by assumption)
             have q258 : x51_2 < (l0.length : Int) := of_decide_eq_true (by assumption)
             obtain ⟨ad258, e258, hx258_0, hx258_1, hx258_2, hx258_3, hx258_4⟩ := at_T26 HR0.out x51_2 p258 q258
             cases e258
             replace hx258_0 := (HB.out.cell (bl_ w _ hx258_0)).trans hx258_0
             replace hx258_1 := (HB.out.cell (bl_ w _ hx258_1)).trans hx258_1
             replace hx258_2 := (HB.out.cell (bl_ w _ hx258_2)).trans hx258_2
             replace hx258_3 := (HB.out.cell (bl_ w _ hx258_3)).trans hx258_3
             replace hx258_4 := (HB.out.cell (bl_ w _ hx258_4)).trans hx258_4
             replace p258 := eq_true p258
             replace q258 := eq_true q258
             try go_wp2_with (first | ((refine Gd (N := 11) rfl ?_); (try (refine gate_guard (by rfl) ?_; dsimp only)); refine Be ?hg (N := 11) ?hd (cs := #[.int .i64 0, .int .i64 0, .int .i64 0, .int .i64 0, .int .i64 0]) (t := 26) ?hr ?_; (case hd | hg => rfl); (case hr => first | (go_simp; done) | (go_simp; rfl)); intro gb259 hg w44 hbox hb; have n0_ := Am (Kd.R_below (by (with_reducible repeat (first | apply Ra | apply Rn | apply Rd)); exact HO_6.out) hb); have n1_ := Am (Kd.R_below (by (with_reducible repeat (first | apply Ra | apply Rn | apply Rd)); exact HO_7.out) hb); have n2_ := Am (Kd.R_below (by (with_reducible repeat (first | apply Ra | apply Rn | apply Rd)); exact HO_8.out) hb); have n3_ := Am (Kd.R_below (by (with_reducible repeat (first | apply Ra | apply Rn | apply Rd)); exact HO_9.out) hb); have n4_ := Am (Bt (by repeat (first | exact HB.out | apply Ba | apply Bn | apply Bd)) hb); have n5_ := Am (hbox); have n6_ := Am ((by rw [hg]; exact (Bz (by repeat (first | exact HB.out | apply Ba | apply Bn | apply Bd))) : w.heap.size ≤ gb259)); have n7_ := Am ((by rw [hg]; exact (Bz (by repeat (first | exact HB.out | apply Ba | apply Bn | apply Bd))) : w.heap.size ≤ gb259)); clear HO_6; clear HO_7; clear HO_8; clear HO_9; clear HB; have HO_6 := n0_; have HO_7 := n1_; have HO_8 := n2_; have HO_9 := n3_; have HB := n4_; have BK259 := n5_; have GW259 := n6_; have GE259 := n7_; clear n0_ n1_ n2_ n3_ n4_ n5_ n6_ n7_; clear hb hbox hg; have hcz45_0 : w44.cell? ⟨gb259, 0, none⟩ = some (.int .i64 0) := (Kc BK259.out 0).trans rfl; have hcz45_1 : w44.cell? ⟨gb259, 1, none⟩ = some (.int .i64 0) := (Kc BK259.out 1).trans rfl; have hcz45_2 : w44.cell? ⟨gb259, 2, none⟩ = some (.int .i64 0) := (Kc BK259.out 2).trans rfl; have hcz45_3 : w44.cell? ⟨gb259, 3, none⟩ = some (.int .i64 0) := (Kc BK259.out 3).trans rfl; have hcz45_4 : w44.cell? ⟨gb259, 4, none⟩ = some (.int .i64 0) := (Kc BK259.out 4).trans rfl; have hfz45_0 := Kz BK259.out 0; have hfz45_1 := Kz BK259.out 1; have hfz45_2 := Kz BK259.out 2; have hfz45_3 := Kz BK259.out 3; have hfz45_4 := Kz BK259.out 4))
             have n0_ : Ad (Kd.R (Kd.int .i64) 3 (((((w44.setCell ⟨gb259, 0, none⟩ (.int .i64 ((rd_T26 l0 x51_2).f0))).setCell ⟨gb259, 1, none⟩ (.int .i64 ((rd_T26 l0 x51_2).f1))).setCell ⟨gb259, 2, none⟩ (.int .i64 ((rd_T26 l0 x51_2).f2))).setCell ⟨gb259, 3, none⟩ (.int .i64 ((rd_T26 l0 x51_2).f3))).setCell ⟨gb259, 4, none⟩ (.int .i64 ((rd_T26 l0 x51_2).f4))) w.heap.size (fun k_ => some k_ ≠ (v254 : Value).ownBlock) v248 t246) := ⟨by (with_reducible repeat (first | apply Ra | apply Rn | apply Rd)); exact Kd.R_mono (Kd.R_far (p := ⟨gb259, 4, none⟩) (Kd.R_far (p := ⟨gb259, 3, none⟩) (Kd.R_far (p := ⟨gb259, 2, none⟩) (Kd.R_far (p := ⟨gb259, 1, none⟩) (Kd.R_far (p := ⟨gb259, 0, none⟩) (Kd.R_types HO_6.out BK259.out (by decide)) (fun _ hk => hk.2) (.int .i64 ((rd_T26 l0 x51_2).f0))) (fun _ hk => hk.2) (.int .i64 ((rd_T26 l0 x51_2).f1))) (fun _ hk => hk.2) (.int .i64 ((rd_T26 l0 x51_2).f2))) (fun _ hk => hk.2) (.int .i64 ((rd_T26 l0 x51_2).f3))) (fun _ hk => hk.2) (.int .i64 ((rd_T26 l0 x51_2).f4))) (fun _ hk => hk.1)⟩
             have n1_ : Ad (Kd.R k30 30 (((((w44.setCell ⟨gb259, 0, none⟩ (.int .i64 ((rd_T26 l0 x51_2).f0))).setCell ⟨gb259, 1, none⟩ (.int .i64 ((rd_T26 l0 x51_2).f1))).setCell ⟨gb259, 2, none⟩ (.int .i64 ((rd_T26 l0 x51_2).f2))).setCell ⟨gb259, 3, none⟩ (.int .i64 ((rd_T26 l0 x51_2).f3))).setCell ⟨gb259, 4, none⟩ (.int .i64 ((rd_T26 l0 x51_2).f4))) w.heap.size (fun k_ => some k_ ≠ (v256 : Value).ownBlock) v250 t247) := ⟨by (with_reducible repeat (first | apply Ra | apply Rn | apply Rd)); exact Kd.R_mono (Kd.R_far (p := ⟨gb259, 4, none⟩) (Kd.R_far (p := ⟨gb259, 3, none⟩) (Kd.R_far (p := ⟨gb259, 2, none⟩) (Kd.R_far (p := ⟨gb259, 1, none⟩) (Kd.R_far (p := ⟨gb259, 0, none⟩) (Kd.R_types HO_7.out BK259.out (by decide)) (fun _ hk => hk.2) (.int .i64 ((rd_T26 l0 x51_2).f0))) (fun _ hk => hk.2) (.int .i64 ((rd_T26 l0 x51_2).f1))) (fun _ hk => hk.2) (.int .i64 ((rd_T26 l0 x51_2).f2))) (fun _ hk => hk.2) (.int .i64 ((rd_T26 l0 x51_2).f3))) (fun _ hk => hk.2) (.int .i64 ((rd_T26 l0 x51_2).f4))) (fun _ hk => hk.1)⟩
             have n2_ : Ad (Kd.R (Kd.int .i64) 3 (((((w44.setCell ⟨gb259, 0, none⟩ (.int .i64 ((rd_T26 l0 x51_2).f0))).setCell ⟨gb259, 1, none⟩ (.int .i64 ((rd_T26 l0 x51_2).f1))).setCell ⟨gb259, 2, none⟩ (.int .i64 ((rd_T26 l0 x51_2).f2))).setCell ⟨gb259, 3, none⟩ (.int .i64 ((rd_T26 l0 x51_2).f3))).setCell ⟨gb259, 4, none⟩ (.int .i64 ((rd_T26 l0 x51_2).f4))) w.heap.size (fun k_ => some k_ ≠ (v248 : Value).ownBlock) v254 t252) := ⟨by (with_reducible repeat (first | apply Ra | apply Rn | apply Rd)); exact Kd.R_mono (Kd.R_far (p := ⟨gb259, 4, none⟩) (Kd.R_far (p := ⟨gb259, 3, none⟩) (Kd.R_far (p := ⟨gb259, 2, none⟩) (Kd.R_far (p := ⟨gb259, 1, none⟩) (Kd.R_far (p := ⟨gb259, 0, none⟩) (Kd.R_types HO_8.out BK259.out (by decide)) (fun _ hk => hk.2) (.int .i64 ((rd_T26 l0 x51_2).f0))) (fun _ hk => hk.2) (.int .i64 ((rd_T26 l0 x51_2).f1))) (fun _ hk => hk.2) (.int .i64 ((rd_T26 l0 x51_2).f2))) (fun _ hk => hk.2) (.int .i64 ((rd_T26 l0 x51_2).f3))) (fun _ hk => hk.2) (.int .i64 ((rd_T26 l0 x51_2).f4))) (fun _ hk => hk.1)⟩
             have n3_ : Ad (Kd.R k30 30 (((((w44.setCell ⟨gb259, 0, none⟩ (.int .i64 ((rd_T26 l0 x51_2).f0))).setCell ⟨gb259, 1, none⟩ (.int .i64 ((rd_T26 l0 x51_2).f1))).setCell ⟨gb259, 2, none⟩ (.int .i64 ((rd_T26 l0 x51_2).f2))).setCell ⟨gb259, 3, none⟩ (.int .i64 ((rd_T26 l0 x51_2).f3))).setCell ⟨gb259, 4, none⟩ (.int .i64 ((rd_T26 l0 x51_2).f4))) w.heap.size (fun k_ => some k_ ≠ (v250 : Value).ownBlock) v256 t253) := ⟨by (with_reducible repeat (first | apply Ra | apply Rn | apply Rd)); exact Kd.R_mono (Kd.R_far (p := ⟨gb259, 4, none⟩) (Kd.R_far (p := ⟨gb259, 3, none⟩) (Kd.R_far (p := ⟨gb259, 2, none⟩) (Kd.R_far (p := ⟨gb259, 1, none⟩) (Kd.R_far (p := ⟨gb259, 0, none⟩) (Kd.R_types HO_9.out BK259.out (by decide)) (fun _ hk => hk.2) (.int .i64 ((rd_T26 l0 x51_2).f0))) (fun _ hk => hk.2) (.int .i64 ((rd_T26 l0 x51_2).f1))) (fun _ hk => hk.2) (.int .i64 ((rd_T26 l0 x51_2).f2))) (fun _ hk => hk.2) (.int .i64 ((rd_T26 l0 x51_2).f3))) (fun _ hk => hk.2) (.int .i64 ((rd_T26 l0 x51_2).f4))) (fun _ hk => hk.1)⟩
             have n4_ : Ad ((((((w44.setCell ⟨gb259, 0, none⟩ (.int .i64 ((rd_T26 l0 x51_2).f0))).setCell ⟨gb259, 1, none⟩ (.int .i64 ((rd_T26 l0 x51_2).f1))).setCell ⟨gb259, 2, none⟩ (.int .i64 ((rd_T26 l0 x51_2).f2))).setCell ⟨gb259, 3, none⟩ (.int .i64 ((rd_T26 l0 x51_2).f3))).setCell ⟨gb259, 4, none⟩ (.int .i64 ((rd_T26 l0 x51_2).f4))).heap[gb259]? = some (.cells #[.int .i64 ((rd_T26 l0 x51_2).f0), .int .i64 ((rd_T26 l0 x51_2).f1), .int .i64 ((rd_T26 l0 x51_2).f2), .int .i64 ((rd_T26 l0 x51_2).f3), .int .i64 ((rd_T26 l0 x51_2).f4)] 26 (0, 0))) := ⟨by (with_reducible repeat (first | refine Kn ?_ _ | refine Ke ?_ | refine Ka ?_ _)); refine blk_put (cs := #[.int .i64 ((rd_T26 l0 x51_2).f0), .int .i64 ((rd_T26 l0 x51_2).f1), .int .i64 ((rd_T26 l0 x51_2).f2), .int .i64 ((rd_T26 l0 x51_2).f3), .int .i64 0]) ?_ 4 _ rfl; (with_reducible repeat (first | refine Kn ?_ _ | refine Ke ?_ | refine Ka ?_ _)); refine blk_put (cs := #[.int .i64 ((rd_T26 l0 x51_2).f0), .int .i64 ((rd_T26 l0 x51_2).f1), .int .i64 ((rd_T26 l0 x51_2).f2), .int .i64 0, .int .i64 0]) ?_ 3 _ rfl; (with_reducible repeat (first | refine Kn ?_ _ | refine Ke ?_ | refine Ka ?_ _)); refine blk_put (cs := #[.int .i64 ((rd_T26 l0 x51_2).f0), .int .i64 ((rd_T26 l0 x51_2).f1), .int .i64 0, .int .i64 0, .int .i64 0]) ?_ 2 _ rfl; (with_reducible repeat (first | refine Kn ?_ _ | refine Ke ?_ | refine Ka ?_ _)); refine blk_put (cs := #[.int .i64 ((rd_T26 l0 x51_2).f0), .int .i64 0, .int .i64 0, .int .i64 0, .int .i64 0]) ?_ 1 _ rfl; (with_reducible repeat (first | refine Kn ?_ _ | refine Ke ?_ | refine Ka ?_ _)); refine blk_put (cs := #[.int .i64 0, .int .i64 0, .int .i64 0, .int .i64 0, .int .i64 0]) ?_ 0 _ rfl; (with_reducible repeat (first | refine Kn ?_ _ | refine Ke ?_ | refine Ka ?_ _)); exact BK259.out⟩
             have n5_ : Ad (Below w.heap.size w (((((w44.setCell ⟨gb259, 0, none⟩ (.int .i64 ((rd_T26 l0 x51_2).f0))).setCell ⟨gb259, 1, none⟩ (.int .i64 ((rd_T26 l0 x51_2).f1))).setCell ⟨gb259, 2, none⟩ (.int .i64 ((rd_T26 l0 x51_2).f2))).setCell ⟨gb259, 3, none⟩ (.int .i64 ((rd_T26 l0 x51_2).f3))).setCell ⟨gb259, 4, none⟩ (.int .i64 ((rd_T26 l0 x51_2).f4)))) := ⟨by repeat (first | (with_reducible first | exact HB.out | apply Ba | apply Bn | apply Bd | refine Bs ?_ GE259.out) | exact HB.out)⟩
             (try clear HO_6)
             (try clear HO_7)
             (try clear HO_8)
             (try clear HO_9)
             (try clear BK259)
             (try clear HB)
             generalize (((((w44.setCell ⟨gb259, 0, none⟩ (.int .i64 ((rd_T26 l0 x51_2).f0))).setCell ⟨gb259, 1, none⟩ (.int .i64 ((rd_T26 l0 x51_2).f1))).setCell ⟨gb259, 2, none⟩ (.int .i64 ((rd_T26 l0 x51_2).f2))).setCell ⟨gb259, 3, none⟩ (.int .i64 ((rd_T26 l0 x51_2).f3))).setCell ⟨gb259, 4, none⟩ (.int .i64 ((rd_T26 l0 x51_2).f4))) = w46 at n0_ n1_ n2_ n3_ n4_ n5_ ⊢
             have HO_6 := n0_
             have HO_7 := n1_
             have HO_8 := n2_
             have HO_9 := n3_
             have BK259 := n4_
             have HB := n5_
             clear n0_ n1_ n2_ n3_ n4_ n5_
             have n0_ := Am (Rd HO_6.out)
             have n1_ := Am (Rd HO_7.out)
             have n2_ := Am (Rd HO_8.out)
             have n3_ := Am (Rd HO_9.out)
             have n4_ := Am (Ke BK259.out)
             have n5_ := Am (Bd HB.out)
             clear HO_6
             clear HO_7
             clear HO_8
             clear HO_9
             clear BK259
             clear HB
             have HO_6 := n0_
             have HO_7 := n1_
             have HO_8 := n2_
             have HO_9 := n3_
             have BK259 := n4_
             have HB := n5_
             clear n0_ n1_ n2_ n3_ n4_ n5_
             obtain ⟨Ao48, co48, eo48⟩ := Kd.R_slice HO_7.out
             (first | subst eo48 | (injection eo48 with f1_ f2_ f3_; have f4_ := f1_.symm; have f5_ := f3_.symm; clear f1_ f2_ f3_; subst f4_; subst f5_))
             have p260 : 0 ≤ (x51_2 : Int) := of_decide_eq_true (by assumption)
             have q260 : x51_2 < (t247.length : Int) := of_decide_eq_true (by assumption)
             obtain ⟨ad260, e260, hx260_0, hx260_1⟩ := at_T30 (Kd.R_reads' HO_7.out).2.2 x51_2 p260 q260
             cases e260
             replace p260 := eq_true p260
             replace q260 := eq_true q260
             obtain ⟨Ao50, co50, eo50⟩ := Kd.R_slice HO_9.out
             (first | subst eo50 | (injection eo50 with f1_ f2_ f3_; have f4_ := f1_.symm; have f5_ := f3_.symm; clear f1_ f2_ f3_; subst f4_; subst f5_))
             have p262 : 0 ≤ (t261 : Int) := of_decide_eq_true (by assumption)
             have q262 : t261 < (t253.length : Int) := of_decide_eq_true (by assumption)
             obtain ⟨ad262, e262, hx262_0, hx262_1⟩ := at_T30 (Kd.R_reads' HO_9.out).2.2 t261 p262 q262
             cases e262
             replace p262 := eq_true p262
             replace q262 := eq_true q262
             refine start_ (n := 11) (S := fun w' => w'.cell? ⟨gb259, 0, none⟩ = some (.int .i64 ((rd_T26 l0 x51_2).f0)) ∧ w'.cell? ⟨gb259, 1, none⟩ = some (.int .i64 ((rd_T26 l0 x51_2).f1)) ∧ w'.cell? ⟨gb259, 2, none⟩ = some (.int .i64 ((rd_T26 l0 x51_2).f2)) ∧ w'.cell? ⟨gb259, 3, none⟩ = some (.int .i64 ((rd_T26 l0 x51_2).f3)) ∧ w'.cell? ⟨gb259, 4, none⟩ = some (.int .i64 ((rd_T26 l0 x51_2).f4)) ∧ w'.cell? (ad260.add ((x51_2).toNat * 2)) = some (.int .i64 ((rd_T30 t247 x51_2).f0)) ∧ w'.cell? ⟨(ad260.add ((x51_2).toNat * 2)).block, (ad260.add ((x51_2).toNat * 2)).off + 1, none⟩ = some (.int .i64 ((rd_T30 t247 x51_2).f1)) ∧ w'.cell? (ad262.add ((t261).toNat * 2)) = some (.int .i64 ((rd_T30 t253 t261).f0)) ∧ w'.cell? ⟨(ad262.add ((t261).toNat * 2)).block, (ad262.add ((t261).toNat * 2)).off + 1, none⟩ = some (.int .i64 ((rd_T30 t253 t261).f1))) (ds := []) #[false, false, false, false, false, false, false, false, false, false, false] (by kernel_rfl) rfl rfl ⟨(Kc BK259.out 0).trans rfl, (Kc BK259.out 1).trans rfl, (Kc BK259.out 2).trans rfl, (Kc BK259.out 3).trans rfl, (Kc BK259.out 4).trans rfl, hx260_0, hx260_1, hx262_0, hx262_1⟩ (fun hHeld => ?_); refine with_tabW impl_TellsSame.tab8 impl_TellsSame.bits8 (fun HT_ HW_ => ?_)
             generalize w46.drew = w47 at HO_6 HO_7 HO_8 HO_9 BK259 HB hx260_0 hx260_1 hx262_0 hx262_1 hHeld ⊢
             refine pure_ (i := 0) (N := some 56) (v := ?_) (a' := ?_) #[true, false, false, false, false, false, false, false, false, false, false] rfl rfl (any_of HT_.out (by kernel_rfl)) (fun _ _ _ h => h) (Or.inl ⟨by rfl, ?_⟩) ?_ ?_
             rotate_left
             ·intro w'
              go_simp
              with_reducible rfl
             rotate_left
             ·simp only [Act.put, Lt, Lz, Ls, i64_w, i32_w]
              rfl
             refine pure_ (i := 1) (N := some 57) (v := ?_) (a' := ?_) #[true, true, false, false, false, false, false, false, false, false, false] rfl rfl (any_of HT_.out (by kernel_rfl)) (fun _ _ _ h => h) (Or.inl ⟨by rfl, ?_⟩) ?_ ?_
             rotate_left
             ·intro w'
              go_simp
              with_reducible rfl
             rotate_left
             ·simp only [Act.put, Lt, Lz, Ls, i64_w, i32_w]
              rfl
             refine pure_ (i := 2) (N := some 58) (v := ?_) (a' := ?_) #[true, true, true, false, false, false, false, false, false, false, false] rfl rfl (any_of HT_.out (by kernel_rfl)) (fun _ _ _ h => h) (Or.inl ⟨by rfl, ?_⟩) ?_ ?_
             rotate_left
             ·intro w'
              go_simp
              with_reducible rfl
             rotate_left
             ·simp only [Act.put, Lt, Lz, Ls, i64_w, i32_w]
              rfl
             refine pure_ (i := 4) (N := some 60) (v := ?_) (a' := ?_) #[true, true, true, false, true, false, false, false, false, false, false] rfl rfl (any_of HT_.out (by kernel_rfl)) (fun _ _ _ h => h) (Or.inl ⟨by rfl, ?_⟩) ?_ ?_
             rotate_left
             ·intro w'
              go_simp
              with_reducible rfl
             rotate_left
             ·simp only [Act.put, Lt, Lz, Ls, i64_w, i32_w]
              rfl
             refine pure_ (i := 5) (N := some 61) (v := ?_) (a' := ?_) #[true, true, true, false, true, true, false, false, false, false, false] rfl rfl (any_of HT_.out (by kernel_rfl)) (fun _ _ _ h => h) (Or.inl ⟨by rfl, ?_⟩) ?_ ?_
             rotate_left
             ·intro w'
              go_simp
              with_reducible rfl
             rotate_left
             ·simp only [Act.put, Lt, Lz, Ls, i64_w, i32_w]
              rfl
             refine take_ (i := 3) (N := some 59) (v := ?_) (a' := ?_) #[true, true, true, true, true, true, false, false, false, false, false] rfl rfl (take_ofW HT_.out HW_.out (by kernel_rfl)) (fun _ _ _ h => h) (Or.inl ⟨by rfl, ?_⟩) hHeld ?_ ?_
             rotate_left
             ·rintro w' ⟨s0, s1, s2, s3, s4, s5, s6, s7, s8⟩
              go_simp
              with_reducible rfl
             rotate_left
             ·simp only [Act.put, Lt, Lz, Ls, i64_w, i32_w]
              rfl
             refine take_ (i := 6) (N := some 62) (v := ?_) (a' := ?_) #[true, true, true, true, true, true, true, false, false, false, false] rfl rfl (take_ofW HT_.out HW_.out (by kernel_rfl)) (fun _ _ _ h => h) (Or.inl ⟨by rfl, ?_⟩) hHeld ?_ ?_
             rotate_left
             ·rintro w' ⟨s0, s1, s2, s3, s4, s5, s6, s7, s8⟩
              go_simp
              with_reducible rfl
             rotate_left
             ·simp only [Act.put, Lt, Lz, Ls, i64_w, i32_w]
              rfl
             refine one_ (i := 7) (N := some 63) #[true, true, true, true, true, true, true, true, false, false, false] rfl rfl (one_of HT_.out (by kernel_rfl)) (by decide) (fun K hK => ?_)
             refine goes_ Try.func88 (by kernel_rfl) rfl #[.slice A1 l1.length c1, .agg #[.int .i64 ((rd_T26 l0 x51_2).f0), .int .i64 ((rd_T26 l0 x51_2).f1), .int .i64 ((rd_T26 l0 x51_2).f2), .int .i64 ((rd_T26 l0 x51_2).f3), .int .i64 ((rd_T26 l0 x51_2).f4)]] (by rfl) rfl rfl (by first | rfl | (simp only [List.map_toArray, List.map_cons, List.map_nil]; first | done | rfl)) ?_
             with_reducible refine (impl_Cmd_88.calls k2 _ _ l1 ((rd_T26 l0 x51_2).f0) ((rd_T26 l0 x51_2).f1) ((rd_T26 l0 x51_2).f2) ((rd_T26 l0 x51_2).f3) ((rd_T26 l0 x51_2).f4) t261 _ ?side1 ?side2 A33.out).mono ?_
             (case side1 => repeat (first | exact (Kd.C_below HR1.out HB.out) | (with_reducible refine Kd.C_alloc ?_ _) | (with_reducible refine Kd.C_drewN ?_ _) | (with_reducible refine Kd.C_drew ?_)))
             (case side2 => exact HC1.out)
             rintro e w49 ⟨rfl, hb⟩
             have HS5_ := (hb.cell (bl_ _ _ (hHeld.2.2.2.2.2.1))).trans (hHeld.2.2.2.2.2.1)
             have HS6_ := (hb.cell (bl_ _ _ (hHeld.2.2.2.2.2.2.1))).trans (hHeld.2.2.2.2.2.2.1)
             have HS7_ := (hb.cell (bl_ _ _ (hHeld.2.2.2.2.2.2.2.1))).trans (hHeld.2.2.2.2.2.2.2.1)
             have HS8_ := (hb.cell (bl_ _ _ (hHeld.2.2.2.2.2.2.2.2))).trans (hHeld.2.2.2.2.2.2.2.2)
             refine ⟨_, rfl, ?_⟩
             have n0_ := Am (Kd.R_below (by (with_reducible repeat (first | apply Ra | apply Rn | apply Rd)); exact HO_6.out) hb)
             have n1_ := Am (Kd.R_below (by (with_reducible repeat (first | apply Ra | apply Rn | apply Rd)); exact HO_7.out) hb)
             have n2_ := Am (Kd.R_below (by (with_reducible repeat (first | apply Ra | apply Rn | apply Rd)); exact HO_8.out) hb)
             have n3_ := Am (Kd.R_below (by (with_reducible repeat (first | apply Ra | apply Rn | apply Rd)); exact HO_9.out) hb)
             have n4_ := Am (Kb (g := gb259) (o := .cells #[.int .i64 ((rd_T26 l0 x51_2).f0), .int .i64 ((rd_T26 l0 x51_2).f1), .int .i64 ((rd_T26 l0 x51_2).f2), .int .i64 ((rd_T26 l0 x51_2).f3), .int .i64 ((rd_T26 l0 x51_2).f4)] 26 (0, 0)) (by (with_reducible repeat (first | refine Kn ?_ _ | refine Ke ?_ | refine Ka ?_ _)); exact BK259.out) hb)
             have n5_ := Am (Bt (by repeat (first | (with_reducible first | exact HB.out | apply Ba | apply Bn | apply Bd | refine Bs ?_ GE259.out) | exact HB.out)) hb)
             clear HO_6
             clear HO_7
             clear HO_8
             clear HO_9
             clear BK259
             clear HB
             have HO_6 := n0_
             have HO_7 := n1_
             have HO_8 := n2_
             have HO_9 := n3_
             have BK259 := n4_
             have HB := n5_
             clear n0_ n1_ n2_ n3_ n4_ n5_
             (try clear hb)
             (try clear hb2)
             (try clear hk)
             (try clear hi)
             refine hK.out _ _ ⟨(Kc BK259.out 0).trans rfl, (Kc BK259.out 1).trans rfl, (Kc BK259.out 2).trans rfl, (Kc BK259.out 3).trans rfl, (Kc BK259.out 4).trans rfl, HS5_, HS6_, HS7_, HS8_⟩ (fun hHeld => ?_)
             clear hK K
             refine norm_ (a' := ?_) ?_ ?_
             rotate_left
             ·show Act.put _ (some 63) _ = _
              simp only [Act.put, Lt, Lz, Ls, i64_w, i32_w]
              rfl
             refine pure_ (i := 8) (N := some 64) (v := ?_) (a' := ?_) #[true, true, true, true, true, true, true, true, true, false, false] rfl rfl (any_of HT_.out (by kernel_rfl)) (fun _ _ _ h => h) (Or.inl ⟨by rfl, ?_⟩) ?_ ?_
             rotate_left
             ·intro w'
              go_simp
              with_reducible rfl
             rotate_left
             ·simp only [Act.put, Lt, Lz, Ls, i64_w, i32_w]
              rfl
             refine take_ (i := 9) (N := some 65) (v := ?_) (a' := ?_) #[true, true, true, true, true, true, true, true, true, true, false] rfl rfl (take_ofW HT_.out HW_.out (by kernel_rfl)) (fun _ _ _ h => h) (Or.inl ⟨by rfl, ?_⟩) hHeld ?_ ?_
             rotate_left
             ·rintro w' ⟨s0, s1, s2, s3, s4, s5, s6, s7, s8⟩
              go_simp
              with_reducible rfl
             rotate_left
             ·simp only [Act.put, Lt, Lz, Ls, i64_w, i32_w]
              rfl
             refine pure_ (i := 10) (N := some 66) (v := ?_) (a' := ?_) #[true, true, true, true, true, true, true, true, true, true, true] rfl rfl (any_of HT_.out (by kernel_rfl)) (fun _ _ _ h => h) (Or.inl ⟨by rfl, ?_⟩) ?_ ?_
             rotate_left
             ·intro w'
              go_simp
              with_reducible rfl
             rotate_left
             ·simp only [Act.put, Lt, Lz, Ls, i64_w, i32_w]
              rfl
             refine done_ (done_of HT_.out (by kernel_rfl)) ?_
             try go_wp2
             go_roundg k2
             case measure => have := HJ2.out; have := HK2.out; omega
             case rel => exact ⟨(wrap64 (x51_2 + 1)), (by first | rfl | (simp; done) | (simp [*]; done)), H', ⟨by have := HJ2.out; have := HK2.out; omega⟩, ⟨by (with_reducible repeat (first | apply Ra | apply Rn | apply Rd)); exact HO_6.out⟩, ⟨by (with_reducible repeat (first | apply Ra | apply Rn | apply Rd)); exact HO_7.out⟩, ⟨by (with_reducible repeat (first | apply Ra | apply Rn | apply Rd)); exact HO_8.out⟩, ⟨by (with_reducible repeat (first | apply Ra | apply Rn | apply Rd)); exact HO_9.out⟩, ⟨by repeat (first | (with_reducible first | exact HB.out | apply Ba | apply Bn | apply Bd | refine Bs ?_ GE259.out) | exact HB.out)⟩⟩
           ·rw [if_neg c35] at H
            exact absurd H (by simp)
          ·rw [if_neg c34] at H
           exact absurd H (by simp)
         ·rw [if_neg c32] at H
          exact absurd H (by simp)
        ·rw [if_neg c31] at H
         exact absurd H (by simp)
       ·rw [if_neg c30] at H
        exact absurd H (by simp)
      ·rw [if_neg c29] at H
       have c29b0 : decide (x51_2 < (l0.length : Int)) = false := decide_eq_false c29
       clear c29
       replace H := Option.bind_eq_some_iff.mp H
       obtain ⟨t263, A510, H⟩ := H
       replace H : (some (t263, true)) = some (r1, r2) := H
       have A51 := Am A510
       clear A510
       simp only [Option.some.injEq, Prod.mk.injEq] at H
       obtain ⟨rfl, rfl⟩ := H
       obtain ⟨Ao52, co52, eo52⟩ := Kd.R_slice HO_6.out
       subst eo52
       obtain ⟨Ao53, co53, eo53⟩ := Kd.R_slice HO_8.out
       subst eo53
       go_wp2_with (first | ((refine Gc (f := 89) rfl ?_); refine goesL_ (some 70) rfl rfl Try.func89 (by kernel_rfl) rfl #[.slice Ao52 t246.length co52, .slice Ao53 t252.length co53] rfl (by first | rfl | (simp only [List.map_toArray, List.map_cons, List.map_nil]; first | done | rfl)) ?_; (with_reducible refine (slices_Equal_int_int.calls k2 _ _ t246 _ _ t252 t263 _ ?side1 ?side2 ?side3 ?side4 A51.out).mono ?_); (case side1 => repeat (first | exact (Kd.R_reads' HO_6.out).2.2 | (with_reducible refine Kd.C_alloc ?_ _) | (with_reducible refine Kd.C_drewN ?_ _) | (with_reducible refine Kd.C_drew ?_))); (case side2 => exact (Kd.R_reads' HO_6.out).2.1); (case side3 => repeat (first | exact (Kd.R_reads' HO_8.out).2.2 | (with_reducible refine Kd.C_alloc ?_ _) | (with_reducible refine Kd.C_drewN ?_ _) | (with_reducible refine Kd.C_drew ?_))); (case side4 => exact (Kd.R_reads' HO_8.out).2.1); rintro e w' ⟨rfl, ⟨nd, rfl⟩⟩; refine ⟨_, rfl, ?_⟩))
       go_ret2
       exact ⟨by first | rfl | (simp [*, errW_none, errW_some] <;> rfl), by repeat (first | exact HB.out | apply Ba | apply Bn | apply Bd)⟩
def spec_l1In.f (a0 : Int) (a1 : Int) (a2 : Int) : Option (Bool) := if a0 ≥ a1 then (some (decide (a0 ≤ a2))) else (some false)
set_option maxHeartbeats 8000000 in
set_option maxRecDepth 100000 in
theorem spec_l1In.calls (a0 : Int) (a1 : Int) (a2 : Int) (r : Bool) (w : World) (h : spec_l1In.f a0 a1 a2 = some r) :
  Calls Try.prog 78 #[.int .i64 a0, .int .i64 a1, .int .i64 a2] w fun e w' => e = .returned (.bool r) ∧ Drawn0 w w' := by
 have H : (if a0 ≥ a1 then (some (decide (a0 ≤ a2))) else (some false)) = some r := h
 clear h
 by_cases c4 : a0 ≥ a1
 ·rw [if_pos c4] at H
  have c4b0 : decide (a1 ≤ a0) = true := decide_eq_true c4
  clear c4
  obtain rfl := Option.some.inj H
  go_enter Try.func78, Try.ntmps78
  go_wp2
  go_ret
  exact ⟨by first | rfl | (simp; done) | (simp [*]; done), by repeat (first | exact Drawn0.refl _ | apply Drawn0.step)⟩
 ·rw [if_neg c4] at H
  have c4b0 : decide (a1 ≤ a0) = false := decide_eq_false c4
  clear c4
  obtain rfl := Option.some.inj H
  go_enter Try.func78, Try.ntmps78
  go_wp2
  go_ret
  exact ⟨by first | rfl | (simp; done) | (simp [*]; done), by repeat (first | exact Drawn0.refl _ | apply Drawn0.step)⟩
def spec_l2Account.f (a0 : Int) : Option (Bool) := (spec_l1In.f a0 0 3).bind fun t264 => (some t264)
set_option maxHeartbeats 8000000 in
set_option maxRecDepth 100000 in
theorem spec_l2Account.calls (a0 : Int) (r : Bool) (w : World) (h : spec_l2Account.f a0 = some r) :
  Calls Try.prog 174 #[.int .i64 a0] w fun e w' => e = .returned (.bool r) ∧ Drawn0 w w' := by
 have H : ((spec_l1In.f a0 0 3).bind fun t264 => (some t264)) = some r := h
 clear h
 replace H := Option.bind_eq_some_iff.mp H
 obtain ⟨t264, A20, H⟩ := H
 replace H : (some t264) = some r := H
 have A2 := Am A20
 clear A20
 obtain rfl := Option.some.inj H
 go_enter Try.func174, Try.ntmps174
 go_wp2_with (first | ((refine Gc (f := 78) rfl ?_); refine goesL_ (some 4) rfl rfl Try.func78 (by kernel_rfl) rfl #[.int .i64 a0, .int .i64 0, .int .i64 3] rfl (by first | rfl | (simp only [List.map_toArray, List.map_cons, List.map_nil]; first | done | rfl)) ?_; (with_reducible refine (spec_l1In.calls a0 0 3 t264 _ A2.out).mono ?_); rintro e w' ⟨rfl, ⟨nd, rfl⟩⟩; refine ⟨_, rfl, ?_⟩))
 go_ret
 exact ⟨by first | rfl | (simp; done) | (simp [*]; done), by repeat (first | exact Drawn0.refl _ | apply Drawn0.step)⟩
end Go.Proofs.Yteecmbfebenjjaa.QFnTellsSame
