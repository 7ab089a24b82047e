-- Written by a program of this session (wip/mk.py) over the kit's print: Lean checks it.
import Derived.Test.YteecmbfebenjjaaQFnTellsSamex0
import Derived.Test.YteecmbfebenjjaaQFnTellsSamex2
import Derived.Test.YteecmbfebenjjaaQFnTellsSamex9
import Derived.Test.YteecmbfebenjjaaQFnTellsSamex10
import Derived.Test.YteecmbfebenjjaaQFnTellsSamex11
namespace Go.Proofs.Yteecmbfebenjjaa.QFnTellsSame
open Go.Proofs.YteecmbfebenjjaaW.PrintWords.Kd renaming R_alloc → Ra, R_drewN → Rn, R_drew → Rd
open Go.Proofs.YteecmbfebenjjaaW.PrintWords renaming below_alloc → Ba, pw_below_drewN → Bn, below_drew1 → Bd, below_set → Bs, below_size → Bz, below_step → Bt, gate_dst → Gd, gate_callee → Gc, box_event → Be, blk_alloc → Ka, blk_drewN → Kn, blk_drew → Ke, blk_below → Kb, blk_cell → Kc, blk_frozen → Kz
open List renaming setIfInBounds_toArray → Lt, set_cons_zero → Lz, set_cons_succ → Ls
open Go.World renaming block_lt_of_cell? → bl_
open Go.Proofs.YteecmbfebenjjaaW.PrintWords.Aside0 renaming mk → Am
open Go.Proofs.YteecmbfebenjjaaW.PrintWords renaming Aside0 → Ad
open Go.RowKit Go.Proofs.YteecmbfebenjjaaW.PrintWords Go.Proofs.YteecmbfebenjjaaW.PrintLast Go.Proofs.YteecmbfebenjjaaW.PrintMore
attribute [local go_sem] max2_int min2_int max_two min_two max_three min_three max_four min_four   -- for this text's walks alone
set_option linter.unusedVariables false
set_option linter.unusedSimpArgs false
attribute [local go_sem high] eqA30
mutual
def spec_TellsSame.j0 : Nat → List (S26) → List (S26) → Bool → Option (Bool × Bool)
 | 0, _, _, _ => none
 | k + 1, x0, x1, x27 => if x27 = true then (some (false, false)) else (spec_TellsSame.l0 k x0 x1 (x0.length : Int) 0)
def spec_TellsSame.l0 : Nat → List (S26) → List (S26) → Int → Int → Option (Bool × Bool)
 | 0, _, _, _, _ => none
 | k + 1, x0, x1, x29, x30 => if x30 < x29 then (if 0 ≤ x30 then (if x30 < (x0.length : Int) then ((spec_l11Once.f k x1 ((rd_T26 x0 x30).f0) ((rd_T26 x0 x30).f1) ((rd_T26 x0 x30).f2) ((rd_T26 x0 x30).f3) ((rd_T26 x0 x30).f4)).bind fun t319 => (if t319 < 0 then (some (false, false)) else (if x30 < (x1.length : Int) then ((spec_l11Once.f k x0 ((rd_T26 x1 x30).f0) ((rd_T26 x1 x30).f1) ((rd_T26 x1 x30).f2) ((rd_T26 x1 x30).f3) ((rd_T26 x1 x30).f4)).bind fun t321 => (if t321 < 0 then (some (false, false)) else (spec_TellsSame.l0 k x0 x1 x29 (wrap64 (x30 + 1))))) else (none)))) else (none)) else (none)) else ((spec_l11Play.f k x0).bind fun bt322 => ((spec_l11Play.f k x1).bind fun bt328 => (spec_TellsSame.l1 k x1 bt322.1 bt322.2 bt328.1 bt328.2 x0 (x0.length : Int) 0)))
def spec_TellsSame.l1 : Nat → List (S26) → List Int → List (S30) → List Int → List (S30) → List (S26) → Int → Int → Option (Bool × Bool)
 | 0, _, _, _, _, _, _, _, _ => none
 | k + 1, x1, x7, x8, x9, x10, x60, x61, x62 => if x62 < x61 then (if 0 ≤ x62 then (if x62 < (x60.length : Int) then (if x62 < (x8.length : Int) then ((spec_l11Once.f k x1 ((rd_T26 x60 x62).f0) ((rd_T26 x60 x62).f1) ((rd_T26 x60 x62).f2) ((rd_T26 x60 x62).f3) ((rd_T26 x60 x62).f4)).bind fun t337 => (if 0 ≤ t337 then (if t337 < (x10.length : Int) then (if (!(((rd_T30 x8 x62).f0) == ((rd_T30 x10 t337).f0)) || (!(((rd_T30 x8 x62).f1) == ((rd_T30 x10 t337).f1)))) = true then (some (false, true)) else (spec_TellsSame.l1 k x1 x7 x8 x9 x10 x60 x61 (wrap64 (x62 + 1)))) else (none)) else (none))) else (none)) else (none)) else (none)) else ((spec_l1Same.f k x7 x9).bind fun t339 => (some (t339, true)))
end
def spec_TellsSame.f (k : Nat) (l0 : List (S26)) (l1 : List (S26)) : Option (Bool × Bool) := (spec_l11Cmds.f k l0).bind fun t316 => (if t316 = true then ((spec_l11Cmds.f k l1).bind fun t317 => (if t317 = true then (spec_TellsSame.j0 k l0 l1 ((l0.length : Int) != (l1.length : Int))) else (spec_TellsSame.j0 k l0 l1 true))) else (spec_TellsSame.j0 k l0 l1 true))
theorem spec_TellsSame.mono_l : ∀ k, (∀ y0 y1 y2, LeO (spec_TellsSame.j0 k y0 y1 y2) (spec_TellsSame.j0 (k + 1) y0 y1 y2)) ∧ (∀ y0 y1 y2 y3, LeO (spec_TellsSame.l0 k y0 y1 y2 y3) (spec_TellsSame.l0 (k + 1) y0 y1 y2 y3)) ∧ (∀ y0 y1 y2 y3 y4 y5 y6 y7, LeO (spec_TellsSame.l1 k y0 y1 y2 y3 y4 y5 y6 y7) (spec_TellsSame.l1 (k + 1) y0 y1 y2 y3 y4 y5 y6 y7))
 | 0 => ⟨fun _ _ _ r h => by simp [spec_TellsSame.j0] at h, fun _ _ _ _ r h => by simp [spec_TellsSame.l0] at h, fun _ _ _ _ _ _ _ _ r h => by simp [spec_TellsSame.l1] at h⟩
 | k + 1 => by
  obtain ⟨ih0, ih1, ih2⟩ := spec_TellsSame.mono_l k
  refine ⟨?_, ?_, ?_⟩
  ·intro y0 y1 y2
   unfold spec_TellsSame.j0
   repeat' first
   | (with_reducible exact ih0 _ _ _)
   | (with_reducible exact ih1 _ _ _ _)
   | (with_reducible exact ih2 _ _ _ _ _ _ _ _)
   | (with_reducible exact spec_l11Cmds.mono _ _)
   | (with_reducible exact spec_l11Once.mono _ _ _ _ _ _ _)
   | (with_reducible exact spec_l11Play.mono _ _)
   | (with_reducible exact spec_l1Same.mono _ _ _)
   | (with_reducible exact LeO.refl _)
   | (with_reducible exact LeO.none _)
   | (with_reducible refine LeO.ite ?_ ?_)
   | (with_reducible refine LeO.bind ?_ (fun _ => ?_))
   | exact ih0 _ _ _
   | exact ih1 _ _ _ _
   | exact ih2 _ _ _ _ _ _ _ _
   | exact spec_l11Cmds.mono _ _
   | exact spec_l11Once.mono _ _ _ _ _ _ _
   | exact spec_l11Play.mono _ _
   | exact spec_l1Same.mono _ _ _
   | exact LeO.none _
   | refine LeO.ite ?_ ?_
   | refine LeO.bind ?_ (fun _ => ?_)
  ·intro y0 y1 y2 y3
   unfold spec_TellsSame.l0
   repeat' first
   | (with_reducible exact ih0 _ _ _)
   | (with_reducible exact ih1 _ _ _ _)
   | (with_reducible exact ih2 _ _ _ _ _ _ _ _)
   | (with_reducible exact spec_l11Cmds.mono _ _)
   | (with_reducible exact spec_l11Once.mono _ _ _ _ _ _ _)
   | (with_reducible exact spec_l11Play.mono _ _)
   | (with_reducible exact spec_l1Same.mono _ _ _)
   | (with_reducible exact LeO.refl _)
   | (with_reducible exact LeO.none _)
   | (with_reducible refine LeO.ite ?_ ?_)
   | (with_reducible refine LeO.bind ?_ (fun _ => ?_))
   | exact ih0 _ _ _
   | exact ih1 _ _ _ _
   | exact ih2 _ _ _ _ _ _ _ _
   | exact spec_l11Cmds.mono _ _
   | exact spec_l11Once.mono _ _ _ _ _ _ _
   | exact spec_l11Play.mono _ _
   | exact spec_l1Same.mono _ _ _
   | exact LeO.none _
   | refine LeO.ite ?_ ?_
   | refine LeO.bind ?_ (fun _ => ?_)
  ·intro y0 y1 y2 y3 y4 y5 y6 y7
   unfold spec_TellsSame.l1
   repeat' first
   | (with_reducible exact ih0 _ _ _)
   | (with_reducible exact ih1 _ _ _ _)
   | (with_reducible exact ih2 _ _ _ _ _ _ _ _)
   | (with_reducible exact spec_l11Cmds.mono _ _)
   | (with_reducible exact spec_l11Once.mono _ _ _ _ _ _ _)
   | (with_reducible exact spec_l11Play.mono _ _)
   | (with_reducible exact spec_l1Same.mono _ _ _)
   | (with_reducible exact LeO.refl _)
   | (with_reducible exact LeO.none _)
   | (with_reducible refine LeO.ite ?_ ?_)
   | (with_reducible refine LeO.bind ?_ (fun _ => ?_))
   | exact ih0 _ _ _
   | exact ih1 _ _ _ _
   | exact ih2 _ _ _ _ _ _ _ _
   | exact spec_l11Cmds.mono _ _
   | exact spec_l11Once.mono _ _ _ _ _ _ _
   | exact spec_l11Play.mono _ _
   | exact spec_l1Same.mono _ _ _
   | exact LeO.none _
   | refine LeO.ite ?_ ?_
   | refine LeO.bind ?_ (fun _ => ?_)
theorem spec_TellsSame.mono : ∀ a0 a1 k, LeO (spec_TellsSame.f k a0 a1) (spec_TellsSame.f (k + 1) a0 a1) := by
 intro a0 a1 k
 obtain ⟨ih0, ih1, ih2⟩ := spec_TellsSame.mono_l k
 unfold spec_TellsSame.f
 repeat' first
   | (with_reducible exact ih0 _ _ _)
   | (with_reducible exact ih1 _ _ _ _)
   | (with_reducible exact ih2 _ _ _ _ _ _ _ _)
   | (with_reducible exact spec_l11Cmds.mono _ _)
   | (with_reducible exact spec_l11Once.mono _ _ _ _ _ _ _)
   | (with_reducible exact spec_l11Play.mono _ _)
   | (with_reducible exact spec_l1Same.mono _ _ _)
   | (with_reducible exact LeO.refl _)
   | (with_reducible exact LeO.none _)
   | (with_reducible refine LeO.ite ?_ ?_)
   | (with_reducible refine LeO.bind ?_ (fun _ => ?_))
   | exact ih0 _ _ _
   | exact ih1 _ _ _ _
   | exact ih2 _ _ _ _ _ _ _ _
   | exact spec_l11Cmds.mono _ _
   | exact spec_l11Once.mono _ _ _ _ _ _ _
   | exact spec_l11Play.mono _ _
   | exact spec_l1Same.mono _ _ _
   | exact LeO.none _
   | refine LeO.ite ?_ ?_
   | refine LeO.bind ?_ (fun _ => ?_)
def spec_TellsSame.T14 : Bool × List (List Nat × List Nat) := (true, [([], []), ([], []), ([0, 1], [0, 1]), ([2], [2]), ([], []), ([], []), ([], []), ([5, 6], [5, 6]), ([4, 7], [4, 7]), ([8], [8]), ([3, 9], [3, 9])])
def spec_TellsSame.B14 : List Nat := [0, 0, 3, 7, 0, 0, 0, 96, 240, 496, 1023]
theorem spec_TellsSame.tab14 : rtab .any (opsOf Try.f30 14) = spec_TellsSame.T14 := by kernel_rfl
theorem spec_TellsSame.bits14 : waitsOk spec_TellsSame.T14.2 spec_TellsSame.B14 = true := by kernel_rfl
set_option maxHeartbeats 8000000 in
set_option maxRecDepth 100000 in
theorem spec_TellsSame.calls (k : Nat) (A0 : Option Addr) (c0 : Nat) (l0 : List (S26)) (A1 : Option Addr) (c1 : Nat) (l1 : List (S26)) (r1 : Bool) (r2 : Bool) (w : World) (hr0 : Kd.C k26 w A0 l0.length l0) (hc0 : l0.length ≤ c0) (hr1 : Kd.C k26 w A1 l1.length l1) (hc1 : l1.length ≤ c1) (h : spec_TellsSame.f k l0 l1 = some (r1, r2)) :
  Calls Try.prog 30 #[.slice A0 l0.length c0, .slice A1 l1.length c1] w fun e w' => e = .returned (.tuple #[.bool r1, .bool r2]) ∧ Below w.heap.size w w' := by
 have hu26 := Try.underlying26
 have hu30 := Try.underlying30
 have HR0 := Am hr0
 have HC0 := Am hc0
 clear hr0 hc0
 have HR1 := Am hr1
 have HC1 := Am hc1
 clear hr1 hc1
 have HB := Am (Below.refl w.heap.size w)
 have H : ((spec_l11Cmds.f k l0).bind fun t316 => (if t316 = true then ((spec_l11Cmds.f k l1).bind fun t317 => (if t317 = true then (spec_TellsSame.j0 k l0 l1 ((l0.length : Int) != (l1.length : Int))) else (spec_TellsSame.j0 k l0 l1 true))) else (spec_TellsSame.j0 k l0 l1 true))) = some (r1, r2) := h
 clear h
 have HC3 := Am H
 clear H
 go_enter Try.func30, Try.ntmps30
 go_upto_region 1 with (fail)
 go_cut [27] (fun v27 wc => ∃ (kq : Nat) (x27_2 : Bool), v27 = .bool x27_2 ∧ Ad (spec_TellsSame.j0 kq l0 l1 x27_2 = some (r1, r2)) ∧ Ad (kq ≤ k) ∧ Ad (Below w.heap.size w wc))
 case first =>
  have H := HC3.out
  clear HC3
  replace H := Option.bind_eq_some_iff.mp H
  obtain ⟨t316, A40, H⟩ := H
  replace H : (if t316 = true then ((spec_l11Cmds.f k l1).bind fun t317 => (if t317 = true then (spec_TellsSame.j0 k l0 l1 ((l0.length : Int) != (l1.length : Int))) else (spec_TellsSame.j0 k l0 l1 true))) else (spec_TellsSame.j0 k l0 l1 true)) = some (r1, r2) := H
  have A4 := Am A40
  clear A40
  by_cases c5 : t316 = true
  ·subst c5
   have H1 : ((spec_l11Cmds.f k l1).bind fun t317 => (if t317 = true then (spec_TellsSame.j0 k l0 l1 ((l0.length : Int) != (l1.length : Int))) else (spec_TellsSame.j0 k l0 l1 true))) = some (r1, r2) := by rw [if_pos rfl] at H; exact H
   clear H
   have H := H1
   clear H1
   replace H := Option.bind_eq_some_iff.mp H
   obtain ⟨t317, A60, H⟩ := H
   replace H : (if t317 = true then (spec_TellsSame.j0 k l0 l1 ((l0.length : Int) != (l1.length : Int))) else (spec_TellsSame.j0 k l0 l1 true)) = some (r1, r2) := H
   have A6 := Am A60
   clear A60
   by_cases c7 : t317 = true
   ·subst c7
    have H1 : (spec_TellsSame.j0 k l0 l1 ((l0.length : Int) != (l1.length : Int))) = some (r1, r2) := by rw [if_pos rfl] at H; exact H
    clear H
    have H := H1
    clear H1
    have H' := Am H
    clear H
    go_wp2_with (first | ((refine Gc (f := 84) rfl ?_); refine goesL_ (some 14) rfl rfl Try.func84 (by kernel_rfl) rfl #[.slice A0 l0.length c0] rfl (by first | rfl | (simp only [List.map_toArray, List.map_cons, List.map_nil]; first | done | rfl)) ?_; (with_reducible refine (spec_l11Cmds.calls k _ _ l0 true _ ?side1 ?side2 A4.out).mono ?_); (case side1 => repeat (first | exact (Kd.C_below HR0.out HB.out) | (with_reducible refine Kd.C_alloc ?_ _) | (with_reducible refine Kd.C_drewN ?_ _) | (with_reducible refine Kd.C_drew ?_))); (case side2 => exact HC0.out); rintro e w8 ⟨rfl, hb⟩; refine ⟨_, rfl, ?_⟩; have n0_ := Am (Bt (by repeat (first | exact HB.out | apply Ba | apply Bn | apply Bd)) hb); clear HB; have HB := n0_; clear n0_; (try clear hb); (try clear hb2); (try clear hk); (try clear hi)) | (go_at_call 84; (with_reducible refine (spec_l11Cmds.calls k _ _ l1 true _ ?side1 ?side2 A6.out).mono ?_); (case side1 => repeat (first | exact (Kd.C_below HR1.out HB.out) | (with_reducible refine Kd.C_alloc ?_ _) | (with_reducible refine Kd.C_drewN ?_ _) | (with_reducible refine Kd.C_drew ?_))); (case side2 => exact HC1.out); rintro e w9 ⟨rfl, hb⟩; have n0_ := Am (Bt (by repeat (first | exact HB.out | apply Ba | apply Bn | apply Bd)) hb); clear HB; have HB := n0_; clear n0_; (try clear hb); (try clear hb2); (try clear hk); (try clear hi)))
    go_meet
    case rel => exact ⟨_, (((l0.length : Int) != (l1.length : Int))), (by first | rfl | (simp; done) | (simp [*]; done)), H', ⟨by first | omega | exact Nat.le_refl _⟩, ⟨by repeat (first | exact HB.out | apply Ba | apply Bn | apply Bd)⟩⟩
   ·replace c7 := Bool.eq_false_iff.mpr c7
    subst c7
    have H1 : (spec_TellsSame.j0 k l0 l1 true) = some (r1, r2) := by rw [if_neg (show ¬ (false = true) by decide)] at H; exact H
    clear H
    have H := H1
    clear H1
    have H' := Am H
    clear H
    go_wp2_with (first | ((refine Gc (f := 84) rfl ?_); refine goesL_ (some 14) rfl rfl Try.func84 (by kernel_rfl) rfl #[.slice A0 l0.length c0] rfl (by first | rfl | (simp only [List.map_toArray, List.map_cons, List.map_nil]; first | done | rfl)) ?_; (with_reducible refine (spec_l11Cmds.calls k _ _ l0 true _ ?side1 ?side2 A4.out).mono ?_); (case side1 => repeat (first | exact (Kd.C_below HR0.out HB.out) | (with_reducible refine Kd.C_alloc ?_ _) | (with_reducible refine Kd.C_drewN ?_ _) | (with_reducible refine Kd.C_drew ?_))); (case side2 => exact HC0.out); rintro e w10 ⟨rfl, hb⟩; refine ⟨_, rfl, ?_⟩; have n0_ := Am (Bt (by repeat (first | exact HB.out | apply Ba | apply Bn | apply Bd)) hb); clear HB; have HB := n0_; clear n0_; (try clear hb); (try clear hb2); (try clear hk); (try clear hi)) | (go_at_call 84; (with_reducible refine (spec_l11Cmds.calls k _ _ l1 false _ ?side1 ?side2 A6.out).mono ?_); (case side1 => repeat (first | exact (Kd.C_below HR1.out HB.out) | (with_reducible refine Kd.C_alloc ?_ _) | (with_reducible refine Kd.C_drewN ?_ _) | (with_reducible refine Kd.C_drew ?_))); (case side2 => exact HC1.out); rintro e w11 ⟨rfl, hb⟩; have n0_ := Am (Bt (by repeat (first | exact HB.out | apply Ba | apply Bn | apply Bd)) hb); clear HB; have HB := n0_; clear n0_; (try clear hb); (try clear hb2); (try clear hk); (try clear hi)))
    go_meet
    case rel => exact ⟨_, (true), (by first | rfl | (simp; done) | (simp [*]; done)), H', ⟨by first | omega | exact Nat.le_refl _⟩, ⟨by repeat (first | exact HB.out | apply Ba | apply Bn | apply Bd)⟩⟩
  ·replace c5 := Bool.eq_false_iff.mpr c5
   subst c5
   have H1 : (spec_TellsSame.j0 k l0 l1 true) = some (r1, r2) := by rw [if_neg (show ¬ (false = true) by decide)] at H; exact H
   clear H
   have H := H1
   clear H1
   have H' := Am H
   clear H
   go_wp2_with (first | ((refine Gc (f := 84) rfl ?_); refine goesL_ (some 14) rfl rfl Try.func84 (by kernel_rfl) rfl #[.slice A0 l0.length c0] rfl (by first | rfl | (simp only [List.map_toArray, List.map_cons, List.map_nil]; first | done | rfl)) ?_; (with_reducible refine (spec_l11Cmds.calls k _ _ l0 false _ ?side1 ?side2 A4.out).mono ?_); (case side1 => repeat (first | exact (Kd.C_below HR0.out HB.out) | (with_reducible refine Kd.C_alloc ?_ _) | (with_reducible refine Kd.C_drewN ?_ _) | (with_reducible refine Kd.C_drew ?_))); (case side2 => exact HC0.out); rintro e w12 ⟨rfl, hb⟩; refine ⟨_, rfl, ?_⟩; have n0_ := Am (Bt (by repeat (first | exact HB.out | apply Ba | apply Bn | apply Bd)) hb); clear HB; have HB := n0_; clear n0_; (try clear hb); (try clear hb2); (try clear hk); (try clear hi)))
   go_meet
   case rel => exact ⟨_, (true), (by first | rfl | (simp; done) | (simp [*]; done)), H', ⟨by first | omega | exact Nat.le_refl _⟩, ⟨by repeat (first | exact HB.out | apply Ba | apply Bn | apply Bd)⟩⟩
 case rest =>
  clear HC3
  try clear c1
  try clear p2
  try clear c3
  try clear c5
  try clear c7
  try clear c8
  obtain ⟨kq, x27_2, rfl, HA, HJ2, HB⟩ := hcut
  cases kq with
  | zero => exact absurd HA.out (by simp [spec_TellsSame.j0])
  | succ kj2 =>
   have H := HA.out
   clear HA
   simp only [spec_TellsSame.j0] at H
   by_cases c13 : x27_2 = true
   ·subst c13
    have H1 : (some (false, false)) = some (r1, r2) := by rw [if_pos rfl] at H; exact H
    clear H
    have H := H1
    clear H1
    simp only [Option.some.injEq, Prod.mk.injEq] at H
    obtain ⟨rfl, rfl⟩ := H
    go_wp2
    go_ret2
    exact ⟨by first | rfl | (simp [*, errW_none, errW_some] <;> rfl), by repeat (first | exact HB.out | apply Ba | apply Bn | apply Bd)⟩
   ·replace c13 := Bool.eq_false_iff.mpr c13
    subst c13
    have H1 : (spec_TellsSame.l0 kj2 l0 l1 (l0.length : Int) 0) = some (r1, r2) := by rw [if_neg (show ¬ (false = true) by decide)] at H; exact H
    clear H
    have H := H1
    clear H1
    have H' := Am H
    clear H
    go_wp2
    go_loopg [30] kj2 (fun kq v30 w' => ∃ (x30_2 : Int), v30 = .int .i64 x30_2 ∧ Ad (spec_TellsSame.l0 kq l0 l1 (l0.length : Int) x30_2 = some (r1, r2)) ∧ Ad (kq ≤ kj2) ∧ Ad (Below w.heap.size w w'))
    case atStart => exact ⟨(0), (by first | rfl | (simp; done) | (simp [*]; done)), H', ⟨Nat.le_refl _⟩, ⟨by repeat (first | exact HB.out | apply Ba | apply Bn | apply Bd)⟩⟩
    case round =>
     clear H'
     try clear c1
     try clear p2
     try clear c3
     try clear c5
     try clear c7
     try clear c8
     try clear c13
     try clear p2
     obtain ⟨x30_2, rfl, HA, HK2, HB⟩ := hrel
     cases gk with
     | zero => exact absurd HA.out (by simp [spec_TellsSame.l0])
     | succ k2 =>
      have H := HA.out
      clear HA
      simp only [spec_TellsSame.l0] at H
      by_cases c14 : x30_2 < (l0.length : Int)
      ·rw [if_pos c14] at H
       have c14b0 : decide (x30_2 < (l0.length : Int)) = true := decide_eq_true c14
       clear c14
       by_cases c15 : 0 ≤ x30_2
       ·rw [if_pos c15] at H
        have c15b0 : decide (0 ≤ x30_2) = true := decide_eq_true c15
        clear c15
        by_cases c16 : x30_2 < (l0.length : Int)
        ·rw [if_pos c16] at H
         have c16b0 : decide (x30_2 < (l0.length : Int)) = true := decide_eq_true c16
         clear c16
         replace H := Option.bind_eq_some_iff.mp H
         obtain ⟨t319, A170, H⟩ := H
         replace H : (if t319 < 0 then (some (false, false)) else (if x30_2 < (l1.length : Int) then ((spec_l11Once.f k2 l0 ((rd_T26 l1 x30_2).f0) ((rd_T26 l1 x30_2).f1) ((rd_T26 l1 x30_2).f2) ((rd_T26 l1 x30_2).f3) ((rd_T26 l1 x30_2).f4)).bind fun t321 => (if t321 < 0 then (some (false, false)) else (spec_TellsSame.l0 k2 l0 l1 (l0.length : Int) (wrap64 (x30_2 + 1))))) else (none))) = some (r1, r2) := H
         have A17 := Am A170
         clear A170
         by_cases c18 : t319 < 0
         ·rw [if_pos c18] at H
          have c18b0 : decide (t319 < 0) = true := decide_eq_true c18
          clear c18
          simp only [Option.some.injEq, Prod.mk.injEq] at H
          obtain ⟨rfl, rfl⟩ := H
          have p318 : 0 ≤ (x30_2 : Int) := of_decide_eq_true (by assumption)
          have q318 : x30_2 < (l0.length : Int) := of_decide_eq_true (by assumption)
          obtain ⟨ad318, e318, hx318_0, hx318_1, hx318_2, hx318_3, hx318_4⟩ := at_T26 HR0.out x30_2 p318 q318
          cases e318
          replace hx318_0 := (HB.out.cell (bl_ w _ hx318_0)).trans hx318_0
          replace hx318_1 := (HB.out.cell (bl_ w _ hx318_1)).trans hx318_1
          replace hx318_2 := (HB.out.cell (bl_ w _ hx318_2)).trans hx318_2
          replace hx318_3 := (HB.out.cell (bl_ w _ hx318_3)).trans hx318_3
          replace hx318_4 := (HB.out.cell (bl_ w _ hx318_4)).trans hx318_4
          replace p318 := eq_true p318
          replace q318 := eq_true q318
          go_wp2_with (first | ((refine Gc (f := 90) rfl ?_); refine goesL_ (some 38) rfl rfl Try.func90 (by kernel_rfl) rfl #[.slice A1 l1.length c1, .agg #[.int .i64 ((rd_T26 l0 x30_2).f0), .int .i64 ((rd_T26 l0 x30_2).f1), .int .i64 ((rd_T26 l0 x30_2).f2), .int .i64 ((rd_T26 l0 x30_2).f3), .int .i64 ((rd_T26 l0 x30_2).f4)]] rfl (by first | rfl | (simp only [List.map_toArray, List.map_cons, List.map_nil]; first | done | rfl)) ?_; (with_reducible refine (spec_l11Once.calls k2 _ _ l1 ((rd_T26 l0 x30_2).f0) ((rd_T26 l0 x30_2).f1) ((rd_T26 l0 x30_2).f2) ((rd_T26 l0 x30_2).f3) ((rd_T26 l0 x30_2).f4) t319 _ ?side1 ?side2 A17.out).mono ?_); (case side1 => repeat (first | exact (Kd.C_below HR1.out HB.out) | (with_reducible refine Kd.C_alloc ?_ _) | (with_reducible refine Kd.C_drewN ?_ _) | (with_reducible refine Kd.C_drew ?_))); (case side2 => exact HC1.out); rintro e w19 ⟨rfl, hb⟩; refine ⟨_, rfl, ?_⟩; have n0_ := Am (Bt (by repeat (first | exact HB.out | apply Ba | apply Bn | apply Bd)) hb); clear HB; have HB := n0_; clear n0_; (try clear hb); (try clear hb2); (try clear hk); (try clear hi)))
          go_ret2
          exact ⟨by first | rfl | (simp [*, errW_none, errW_some] <;> rfl), by repeat (first | exact HB.out | apply Ba | apply Bn | apply Bd)⟩
         ·rw [if_neg c18] at H
          have c18b0 : decide (t319 < 0) = false := decide_eq_false c18
          clear c18
          by_cases c20 : x30_2 < (l1.length : Int)
          ·rw [if_pos c20] at H
           have c20b0 : decide (x30_2 < (l1.length : Int)) = true := decide_eq_true c20
           clear c20
           replace H := Option.bind_eq_some_iff.mp H
           obtain ⟨t321, A210, H⟩ := H
           replace H : (if t321 < 0 then (some (false, false)) else (spec_TellsSame.l0 k2 l0 l1 (l0.length : Int) (wrap64 (x30_2 + 1)))) = some (r1, r2) := H
           have A21 := Am A210
           clear A210
           by_cases c22 : t321 < 0
           ·rw [if_pos c22] at H
            have c22b0 : decide (t321 < 0) = true := decide_eq_true c22
            clear c22
            simp only [Option.some.injEq, Prod.mk.injEq] at H
            obtain ⟨rfl, rfl⟩ := H
            have p318 : 0 ≤ (x30_2 : Int) := of_decide_eq_true (by assumption)
            have q318 : x30_2 < (l0.length : Int) := of_decide_eq_true (by assumption)
            obtain ⟨ad318, e318, hx318_0, hx318_1, hx318_2, hx318_3, hx318_4⟩ := at_T26 HR0.out x30_2 p318 q318
            cases e318
            replace hx318_0 := (HB.out.cell (bl_ w _ hx318_0)).trans hx318_0
            replace hx318_1 := (HB.out.cell (bl_ w _ hx318_1)).trans hx318_1
            replace hx318_2 := (HB.out.cell (bl_ w _ hx318_2)).trans hx318_2
            replace hx318_3 := (HB.out.cell (bl_ w _ hx318_3)).trans hx318_3
            replace hx318_4 := (HB.out.cell (bl_ w _ hx318_4)).trans hx318_4
            replace p318 := eq_true p318
            replace q318 := eq_true q318
            go_wp2_with (first | ((refine Gc (f := 90) rfl ?_); refine goesL_ (some 38) rfl rfl Try.func90 (by kernel_rfl) rfl #[.slice A1 l1.length c1, .agg #[.int .i64 ((rd_T26 l0 x30_2).f0), .int .i64 ((rd_T26 l0 x30_2).f1), .int .i64 ((rd_T26 l0 x30_2).f2), .int .i64 ((rd_T26 l0 x30_2).f3), .int .i64 ((rd_T26 l0 x30_2).f4)]] rfl (by first | rfl | (simp only [List.map_toArray, List.map_cons, List.map_nil]; first | done | rfl)) ?_; (with_reducible refine (spec_l11Once.calls k2 _ _ l1 ((rd_T26 l0 x30_2).f0) ((rd_T26 l0 x30_2).f1) ((rd_T26 l0 x30_2).f2) ((rd_T26 l0 x30_2).f3) ((rd_T26 l0 x30_2).f4) t319 _ ?side1 ?side2 A17.out).mono ?_); (case side1 => repeat (first | exact (Kd.C_below HR1.out HB.out) | (with_reducible refine Kd.C_alloc ?_ _) | (with_reducible refine Kd.C_drewN ?_ _) | (with_reducible refine Kd.C_drew ?_))); (case side2 => exact HC1.out); rintro e w23 ⟨rfl, hb⟩; refine ⟨_, rfl, ?_⟩; have n0_ := Am (Bt (by repeat (first | exact HB.out | apply Ba | apply Bn | apply Bd)) hb); clear HB; have HB := n0_; clear n0_; (try clear hb); (try clear hb2); (try clear hk); (try clear hi); have p320 : 0 ≤ (x30_2 : Int) := of_decide_eq_true (by assumption); have q320 : x30_2 < (l1.length : Int) := of_decide_eq_true (by assumption); obtain ⟨ad320, e320, hx320_0, hx320_1, hx320_2, hx320_3, hx320_4⟩ := at_T26 HR1.out x30_2 p320 q320; cases e320; replace hx320_0 := (HB.out.cell (bl_ w _ hx320_0)).trans hx320_0; replace hx320_1 := (HB.out.cell (bl_ w _ hx320_1)).trans hx320_1; replace hx320_2 := (HB.out.cell (bl_ w _ hx320_2)).trans hx320_2; replace hx320_3 := (HB.out.cell (bl_ w _ hx320_3)).trans hx320_3; replace hx320_4 := (HB.out.cell (bl_ w _ hx320_4)).trans hx320_4; replace p320 := eq_true p320; replace q320 := eq_true q320) | (go_at_call 90; (with_reducible refine (spec_l11Once.calls k2 _ _ l0 ((rd_T26 l1 x30_2).f0) ((rd_T26 l1 x30_2).f1) ((rd_T26 l1 x30_2).f2) ((rd_T26 l1 x30_2).f3) ((rd_T26 l1 x30_2).f4) t321 _ ?side1 ?side2 A21.out).mono ?_); (case side1 => repeat (first | exact (Kd.C_below HR0.out HB.out) | (with_reducible refine Kd.C_alloc ?_ _) | (with_reducible refine Kd.C_drewN ?_ _) | (with_reducible refine Kd.C_drew ?_))); (case side2 => exact HC0.out); rintro e w24 ⟨rfl, hb⟩; have n0_ := Am (Bt (by repeat (first | exact HB.out | apply Ba | apply Bn | apply Bd)) hb); clear HB; have HB := n0_; clear n0_; (try clear hb); (try clear hb2); (try clear hk); (try clear hi)))
            go_ret2
            exact ⟨by first | rfl | (simp [*, errW_none, errW_some] <;> rfl), by repeat (first | exact HB.out | apply Ba | apply Bn | apply Bd)⟩
           ·rw [if_neg c22] at H
            have c22b0 : decide (t321 < 0) = false := decide_eq_false c22
            clear c22
            have H' := Am H
            clear H
            have p318 : 0 ≤ (x30_2 : Int) := of_decide_eq_true (by assumption)
            have q318 : x30_2 < (l0.length : Int) := of_decide_eq_true (by assumption)
            obtain ⟨ad318, e318, hx318_0, hx318_1, hx318_2, hx318_3, hx318_4⟩ := at_T26 HR0.out x30_2 p318 q318
            cases e318
            replace hx318_0 := (HB.out.cell (bl_ w _ hx318_0)).trans hx318_0
            replace hx318_1 := (HB.out.cell (bl_ w _ hx318_1)).trans hx318_1
            replace hx318_2 := (HB.out.cell (bl_ w _ hx318_2)).trans hx318_2
            replace hx318_3 := (HB.out.cell (bl_ w _ hx318_3)).trans hx318_3
            replace hx318_4 := (HB.out.cell (bl_ w _ hx318_4)).trans hx318_4
            replace p318 := eq_true p318
            replace q318 := eq_true q318
            go_wp2_with (first | ((refine Gc (f := 90) rfl ?_); refine goesL_ (some 38) rfl rfl Try.func90 (by kernel_rfl) rfl #[.slice A1 l1.length c1, .agg #[.int .i64 ((rd_T26 l0 x30_2).f0), .int .i64 ((rd_T26 l0 x30_2).f1), .int .i64 ((rd_T26 l0 x30_2).f2), .int .i64 ((rd_T26 l0 x30_2).f3), .int .i64 ((rd_T26 l0 x30_2).f4)]] rfl (by first | rfl | (simp only [List.map_toArray, List.map_cons, List.map_nil]; first | done | rfl)) ?_; (with_reducible refine (spec_l11Once.calls k2 _ _ l1 ((rd_T26 l0 x30_2).f0) ((rd_T26 l0 x30_2).f1) ((rd_T26 l0 x30_2).f2) ((rd_T26 l0 x30_2).f3) ((rd_T26 l0 x30_2).f4) t319 _ ?side1 ?side2 A17.out).mono ?_); (case side1 => repeat (first | exact (Kd.C_below HR1.out HB.out) | (with_reducible refine Kd.C_alloc ?_ _) | (with_reducible refine Kd.C_drewN ?_ _) | (with_reducible refine Kd.C_drew ?_))); (case side2 => exact HC1.out); rintro e w25 ⟨rfl, hb⟩; refine ⟨_, rfl, ?_⟩; have n0_ := Am (Bt (by repeat (first | exact HB.out | apply Ba | apply Bn | apply Bd)) hb); clear HB; have HB := n0_; clear n0_; (try clear hb); (try clear hb2); (try clear hk); (try clear hi); have p320 : 0 ≤ (x30_2 : Int) := of_decide_eq_true (by assumption); have q320 : x30_2 < (l1.length : Int) := of_decide_eq_true (by assumption); obtain ⟨ad320, e320, hx320_0, hx320_1, hx320_2, hx320_3, hx320_4⟩ := at_T26 HR1.out x30_2 p320 q320; cases e320; replace hx320_0 := (HB.out.cell (bl_ w _ hx320_0)).trans hx320_0; replace hx320_1 := (HB.out.cell (bl_ w _ hx320_1)).trans hx320_1; replace hx320_2 := (HB.out.cell (bl_ w _ hx320_2)).trans hx320_2; replace hx320_3 := (HB.out.cell (bl_ w _ hx320_3)).trans hx320_3; replace hx320_4 := (HB.out.cell (bl_ w _ hx320_4)).trans hx320_4; replace p320 := eq_true p320; replace q320 := eq_true q320) | (go_at_call 90; (with_reducible refine (spec_l11Once.calls k2 _ _ l0 ((rd_T26 l1 x30_2).f0) ((rd_T26 l1 x30_2).f1) ((rd_T26 l1 x30_2).f2) ((rd_T26 l1 x30_2).f3) ((rd_T26 l1 x30_2).f4) t321 _ ?side1 ?side2 A21.out).mono ?_); (case side1 => repeat (first | exact (Kd.C_below HR0.out HB.out) | (with_reducible refine Kd.C_alloc ?_ _) | (with_reducible refine Kd.C_drewN ?_ _) | (with_reducible refine Kd.C_drew ?_))); (case side2 => exact HC0.out); rintro e w26 ⟨rfl, hb⟩; have n0_ := Am (Bt (by repeat (first | exact HB.out | apply Ba | apply Bn | apply Bd)) hb); clear HB; have HB := n0_; clear n0_; (try clear hb); (try clear hb2); (try clear hk); (try clear hi)))
            go_roundg k2
            case measure => have := HJ2.out; have := HK2.out; omega
            case rel => exact ⟨(wrap64 (x30_2 + 1)), (by first | rfl | (simp; done) | (simp [*]; done)), H', ⟨by have := HJ2.out; have := HK2.out; omega⟩, ⟨by repeat (first | exact HB.out | apply Ba | apply Bn | apply Bd)⟩⟩
          ·rw [if_neg c20] at H
           exact absurd H (by simp)
        ·rw [if_neg c16] at H
         exact absurd H (by simp)
       ·rw [if_neg c15] at H
        exact absurd H (by simp)
      ·rw [if_neg c14] at H
       have c14b0 : decide (x30_2 < (l0.length : Int)) = false := decide_eq_false c14
       clear c14
       replace H := Option.bind_eq_some_iff.mp H
       obtain ⟨⟨t322, t323⟩, A270, H⟩ := H
       replace H : ((spec_l11Play.f k2 l1).bind fun bt328 => (spec_TellsSame.l1 k2 l1 t322 t323 bt328.1 bt328.2 l0 (l0.length : Int) 0)) = some (r1, r2) := H
       have A27 := Am A270
       clear A270
       replace H := Option.bind_eq_some_iff.mp H
       obtain ⟨⟨t328, t329⟩, A280, H⟩ := H
       replace H : (spec_TellsSame.l1 k2 l1 t322 t323 t328 t329 l0 (l0.length : Int) 0) = some (r1, r2) := H
       have A28 := Am A280
       clear A280
       have H' := Am H
       clear H
       go_wp2_with (first | ((refine Gc (f := 85) rfl ?_); refine goesL_ (some 52) rfl rfl Try.func85 (by kernel_rfl) rfl #[.slice A0 l0.length c0] rfl (by first | rfl | (simp only [List.map_toArray, List.map_cons, List.map_nil]; first | done | rfl)) ?_; (with_reducible refine (spec_l11Play.calls k2 _ _ l0 t322 t323 _ ?side1 ?side2 A27.out).mono ?_); (case side1 => repeat (first | exact (Kd.C_below HR0.out HB.out) | (with_reducible refine Kd.C_alloc ?_ _) | (with_reducible refine Kd.C_drewN ?_ _) | (with_reducible refine Kd.C_drew ?_))); (case side2 => exact HC0.out); rintro e w29 ⟨v324, v326, rfl, ho0, ho1, hb⟩; refine ⟨_, rfl, ?_⟩; have n0_ := Am (Kd.R_lower ho0 (Bz (by repeat (first | exact HB.out | apply Ba | apply Bn | apply Bd)))); have n1_ := Am (Kd.R_lower ho1 (Bz (by repeat (first | exact HB.out | apply Ba | apply Bn | apply Bd)))); have n2_ := Am (Bt (by repeat (first | exact HB.out | apply Ba | apply Bn | apply Bd)) hb); clear HB; have HO325 := n0_; have HO327 := n1_; have HB := n2_; clear n0_ n1_ n2_; (try clear hb); (try clear hb2); (try clear hk); (try clear hi); (try clear ho0); (try clear ho1)) | ((refine Gc (f := 85) rfl ?_); refine goesL_ (some 57) rfl rfl Try.func85 (by kernel_rfl) rfl #[.slice A1 l1.length c1] rfl (by first | rfl | (simp only [List.map_toArray, List.map_cons, List.map_nil]; first | done | rfl)) ?_; (with_reducible refine (spec_l11Play.calls k2 _ _ l1 t328 t329 _ ?side1 ?side2 A28.out).mono ?_); (case side1 => repeat (first | exact (Kd.C_below HR1.out HB.out) | (with_reducible refine Kd.C_alloc ?_ _) | (with_reducible refine Kd.C_drewN ?_ _) | (with_reducible refine Kd.C_drew ?_))); (case side2 => exact HC1.out); rintro e w30 ⟨v330, v332, rfl, ho0, ho1, hb⟩; refine ⟨_, rfl, ?_⟩; have n0_ := Am (Kd.R_elder' (by (with_reducible repeat (first | apply Ra | apply Rn | apply Rd)); exact HO325.out) (Kd.R_base ho0) hb); have n1_ := Am (Kd.R_elder' (by (with_reducible repeat (first | apply Ra | apply Rn | apply Rd)); exact HO327.out) (Kd.R_base ho1) hb); have n2_ := Am (Kd.R_lower (Kd.R_new' ho0 (Kd.R_lt (by (with_reducible repeat (first | apply Ra | apply Rn | apply Rd)); exact HO325.out))) (Bz (by repeat (first | exact HB.out | apply Ba | apply Bn | apply Bd)))); have n3_ := Am (Kd.R_lower (Kd.R_new' ho1 (Kd.R_lt (by (with_reducible repeat (first | apply Ra | apply Rn | apply Rd)); exact HO327.out))) (Bz (by repeat (first | exact HB.out | apply Ba | apply Bn | apply Bd)))); have n4_ := Am (Bt (by repeat (first | exact HB.out | apply Ba | apply Bn | apply Bd)) hb); clear HO325; clear HO327; clear HB; have HO325 := n0_; have HO327 := n1_; have HO331 := n2_; have HO333 := n3_; have HB := n4_; clear n0_ n1_ n2_ n3_ n4_; (try clear hb); (try clear hb2); (try clear hk); (try clear hi); (try clear ho0); (try clear ho1)))
       go_loopg [62] k2 (fun kq v62 w' => ∃ (x62_3 : Int), v62 = .int .i64 x62_3 ∧ Ad (spec_TellsSame.l1 kq l1 t322 t323 t328 t329 l0 (l0.length : Int) x62_3 = some (r1, r2)) ∧ Ad (kq ≤ k2) ∧ Ad (Kd.R (Kd.int .i64) 3 w' w.heap.size (fun k_ => some k_ ≠ (v330 : Value).ownBlock) v324 t322) ∧ Ad (Kd.R k30 30 w' w.heap.size (fun k_ => some k_ ≠ (v332 : Value).ownBlock) v326 t323) ∧ Ad (Kd.R (Kd.int .i64) 3 w' w.heap.size (fun k_ => some k_ ≠ (v324 : Value).ownBlock) v330 t328) ∧ Ad (Kd.R k30 30 w' w.heap.size (fun k_ => some k_ ≠ (v326 : Value).ownBlock) v332 t329) ∧ Ad (Below w.heap.size w w'))
       case atStart => exact ⟨(0), (by first | rfl | (simp; done) | (simp [*]; done)), H', ⟨Nat.le_refl _⟩, ⟨by (with_reducible repeat (first | apply Ra | apply Rn | apply Rd)); exact Kd.R_mono HO325.out (fun _ hk => hk.2)⟩, ⟨by (with_reducible repeat (first | apply Ra | apply Rn | apply Rd)); exact Kd.R_mono HO327.out (fun _ hk => hk.2)⟩, ⟨by (with_reducible repeat (first | apply Ra | apply Rn | apply Rd)); exact Kd.R_mono HO331.out (fun _ hk => hk.2)⟩, ⟨by (with_reducible repeat (first | apply Ra | apply Rn | apply Rd)); exact Kd.R_mono HO333.out (fun _ hk => hk.2)⟩, ⟨by repeat (first | exact HB.out | apply Ba | apply Bn | apply Bd)⟩⟩
       case round =>
        clear H'
        try clear c1
        try clear c2
        try clear p2
        try clear c3
        try clear p3
        try clear q3
        try clear hx3
        try clear c5
        try clear p6
        try clear c7
        try clear c8
        try clear c9
        try clear c13
        try clear c14
        try clear c14b0
        try clear c15
        try clear c15b0
        try clear c16
        try clear c16b0
        try clear c18
        try clear c18b0
        try clear c20
        try clear c20b0
        try clear c22
        try clear c22b0
        try clear c30
        try clear hx318_0
        try clear hx318_1
        try clear hx318_2
        try clear hx318_3
        try clear hx318_4
        try clear hx320_0
        try clear hx320_1
        try clear hx320_2
        try clear hx320_3
        try clear hx320_4
        try clear p2
        try clear p318
        try clear p320
        try clear q318
        try clear q320
        obtain ⟨x62_3, rfl, HA, HK3, HO_7, HO_8, HO_9, HO_10, HB⟩ := hrel
        cases gk with
        | zero => exact absurd HA.out (by simp [spec_TellsSame.l1])
        | succ k3 =>
         have H := HA.out
         clear HA
         simp only [spec_TellsSame.l1] at H
         by_cases c31 : x62_3 < (l0.length : Int)
         ·rw [if_pos c31] at H
          have c31b0 : decide (x62_3 < (l0.length : Int)) = true := decide_eq_true c31
          clear c31
          by_cases c32 : 0 ≤ x62_3
          ·rw [if_pos c32] at H
           have c32b0 : decide (0 ≤ x62_3) = true := decide_eq_true c32
           clear c32
           by_cases c33 : x62_3 < (l0.length : Int)
           ·rw [if_pos c33] at H
            have c33b0 : decide (x62_3 < (l0.length : Int)) = true := decide_eq_true c33
            clear c33
            by_cases c34 : x62_3 < (t323.length : Int)
            ·rw [if_pos c34] at H
             have c34b0 : decide (x62_3 < (t323.length : Int)) = true := decide_eq_true c34
             clear c34
             replace H := Option.bind_eq_some_iff.mp H
             obtain ⟨t337, A350, H⟩ := H
             replace H : (if 0 ≤ t337 then (if t337 < (t329.length : Int) then (if (!(((rd_T30 t323 x62_3).f0) == ((rd_T30 t329 t337).f0)) || (!(((rd_T30 t323 x62_3).f1) == ((rd_T30 t329 t337).f1)))) = true then (some (false, true)) else (spec_TellsSame.l1 k3 l1 t322 t323 t328 t329 l0 (l0.length : Int) (wrap64 (x62_3 + 1)))) else (none)) else (none)) = some (r1, r2) := H
             have A35 := Am A350
             clear A350
             by_cases c36 : 0 ≤ t337
             ·rw [if_pos c36] at H
              have c36b0 : decide (0 ≤ t337) = true := decide_eq_true c36
              clear c36
              by_cases c37 : t337 < (t329.length : Int)
              ·rw [if_pos c37] at H
               have c37b0 : decide (t337 < (t329.length : Int)) = true := decide_eq_true c37
               clear c37
               by_cases c38 : (!(((rd_T30 t323 x62_3).f0) == ((rd_T30 t329 t337).f0)) || (!(((rd_T30 t323 x62_3).f1) == ((rd_T30 t329 t337).f1)))) = true
               ·rw [if_pos c38] at H
                have c38b0 : (!(((rd_T30 t323 x62_3).f0) == ((rd_T30 t329 t337).f0)) || (!(((rd_T30 t323 x62_3).f1) == ((rd_T30 t329 t337).f1)))) = true := c38
                clear c38
                simp only [Option.some.injEq, Prod.mk.injEq] at H
                obtain ⟨rfl, rfl⟩ := H
                have p334 : 0 ≤ (x62_3 : Int) := of_decide_eq_true (by assumption)
                have q334 : x62_3 < (l0.length : Int) := of_decide_eq_true (by assumption)
                obtain ⟨ad334, e334, hx334_0, hx334_1, hx334_2, hx334_3, hx334_4⟩ := at_T26 HR0.out x62_3 p334 q334
                cases e334
                replace hx334_0 := (HB.out.cell (bl_ w _ hx334_0)).trans hx334_0
                replace hx334_1 := (HB.out.cell (bl_ w _ hx334_1)).trans hx334_1
                replace hx334_2 := (HB.out.cell (bl_ w _ hx334_2)).trans hx334_2
                replace hx334_3 := (HB.out.cell (bl_ w _ hx334_3)).trans hx334_3
                replace hx334_4 := (HB.out.cell (bl_ w _ hx334_4)).trans hx334_4
                replace p334 := eq_true p334
                replace q334 := eq_true q334
                try go_wp2_with (first | ((refine Gd (N := 12) rfl ?_); (try (refine gate_guard (by rfl) ?_; dsimp only)); refine Be ?hg (N := 12) ?hd (cs := #[.int .i64 0, .int .i64 0, .int .i64 0, .int .i64 0, .int .i64 0]) (t := 26) ?hr ?_; (case hd | hg => rfl); (case hr => first | (go_simp; done) | (go_simp; rfl)); intro gb335 hg w39 hbox hb; have n0_ := Am (Kd.R_below (by (with_reducible repeat (first | apply Ra | apply Rn | apply Rd)); exact HO_7.out) hb); have n1_ := Am (Kd.R_below (by (with_reducible repeat (first | apply Ra | apply Rn | apply Rd)); exact HO_8.out) hb); have n2_ := Am (Kd.R_below (by (with_reducible repeat (first | apply Ra | apply Rn | apply Rd)); exact HO_9.out) hb); have n3_ := Am (Kd.R_below (by (with_reducible repeat (first | apply Ra | apply Rn | apply Rd)); exact HO_10.out) hb); have n4_ := Am (Bt (by repeat (first | exact HB.out | apply Ba | apply Bn | apply Bd)) hb); have n5_ := Am (hbox); have n6_ := Am ((by rw [hg]; exact (Bz (by repeat (first | exact HB.out | apply Ba | apply Bn | apply Bd))) : w.heap.size ≤ gb335)); have n7_ := Am ((by rw [hg]; exact (Bz (by repeat (first | exact HB.out | apply Ba | apply Bn | apply Bd))) : w.heap.size ≤ gb335)); clear HO_7; clear HO_8; clear HO_9; clear HO_10; clear HB; have HO_7 := n0_; have HO_8 := n1_; have HO_9 := n2_; have HO_10 := n3_; have HB := n4_; have BK335 := n5_; have GW335 := n6_; have GE335 := n7_; clear n0_ n1_ n2_ n3_ n4_ n5_ n6_ n7_; clear hb hbox hg; have hcz40_0 : w39.cell? ⟨gb335, 0, none⟩ = some (.int .i64 0) := (Kc BK335.out 0).trans rfl; have hcz40_1 : w39.cell? ⟨gb335, 1, none⟩ = some (.int .i64 0) := (Kc BK335.out 1).trans rfl; have hcz40_2 : w39.cell? ⟨gb335, 2, none⟩ = some (.int .i64 0) := (Kc BK335.out 2).trans rfl; have hcz40_3 : w39.cell? ⟨gb335, 3, none⟩ = some (.int .i64 0) := (Kc BK335.out 3).trans rfl; have hcz40_4 : w39.cell? ⟨gb335, 4, none⟩ = some (.int .i64 0) := (Kc BK335.out 4).trans rfl; have hfz40_0 := Kz BK335.out 0; have hfz40_1 := Kz BK335.out 1; have hfz40_2 := Kz BK335.out 2; have hfz40_3 := Kz BK335.out 3; have hfz40_4 := Kz BK335.out 4))
                have n0_ : Ad (Kd.R (Kd.int .i64) 3 (((((w39.setCell ⟨gb335, 0, none⟩ (.int .i64 ((rd_T26 l0 x62_3).f0))).setCell ⟨gb335, 1, none⟩ (.int .i64 ((rd_T26 l0 x62_3).f1))).setCell ⟨gb335, 2, none⟩ (.int .i64 ((rd_T26 l0 x62_3).f2))).setCell ⟨gb335, 3, none⟩ (.int .i64 ((rd_T26 l0 x62_3).f3))).setCell ⟨gb335, 4, none⟩ (.int .i64 ((rd_T26 l0 x62_3).f4))) w.heap.size (fun k_ => some k_ ≠ (v330 : Value).ownBlock) v324 t322) := ⟨by (with_reducible repeat (first | apply Ra | apply Rn | apply Rd)); exact Kd.R_mono (Kd.R_far (p := ⟨gb335, 4, none⟩) (Kd.R_far (p := ⟨gb335, 3, none⟩) (Kd.R_far (p := ⟨gb335, 2, none⟩) (Kd.R_far (p := ⟨gb335, 1, none⟩) (Kd.R_far (p := ⟨gb335, 0, none⟩) (Kd.R_types HO_7.out BK335.out (by decide)) (fun _ hk => hk.2) (.int .i64 ((rd_T26 l0 x62_3).f0))) (fun _ hk => hk.2) (.int .i64 ((rd_T26 l0 x62_3).f1))) (fun _ hk => hk.2) (.int .i64 ((rd_T26 l0 x62_3).f2))) (fun _ hk => hk.2) (.int .i64 ((rd_T26 l0 x62_3).f3))) (fun _ hk => hk.2) (.int .i64 ((rd_T26 l0 x62_3).f4))) (fun _ hk => hk.1)⟩
                have n1_ : Ad (Kd.R k30 30 (((((w39.setCell ⟨gb335, 0, none⟩ (.int .i64 ((rd_T26 l0 x62_3).f0))).setCell ⟨gb335, 1, none⟩ (.int .i64 ((rd_T26 l0 x62_3).f1))).setCell ⟨gb335, 2, none⟩ (.int .i64 ((rd_T26 l0 x62_3).f2))).setCell ⟨gb335, 3, none⟩ (.int .i64 ((rd_T26 l0 x62_3).f3))).setCell ⟨gb335, 4, none⟩ (.int .i64 ((rd_T26 l0 x62_3).f4))) w.heap.size (fun k_ => some k_ ≠ (v332 : Value).ownBlock) v326 t323) := ⟨by (with_reducible repeat (first | apply Ra | apply Rn | apply Rd)); exact Kd.R_mono (Kd.R_far (p := ⟨gb335, 4, none⟩) (Kd.R_far (p := ⟨gb335, 3, none⟩) (Kd.R_far (p := ⟨gb335, 2, none⟩) (Kd.R_far (p := ⟨gb335, 1, none⟩) (Kd.R_far (p := ⟨gb335, 0, none⟩) (Kd.R_types HO_8.out BK335.out (by decide)) (fun _ hk => hk.2) (.int .i64 ((rd_T26 l0 x62_3).f0))) (fun _ hk => hk.2) (.int .i64 ((rd_T26 l0 x62_3).f1))) (fun _ hk => hk.2) (.int .i64 ((rd_T26 l0 x62_3).f2))) (fun _ hk => hk.2) (.int .i64 ((rd_T26 l0 x62_3).f3))) (fun _ hk => hk.2) (.int .i64 ((rd_T26 l0 x62_3).f4))) (fun _ hk => hk.1)⟩
                have n2_ : Ad (Kd.R (Kd.int .i64) 3 (((((w39.setCell ⟨gb335, 0, none⟩ (.int .i64 ((rd_T26 l0 x62_3).f0))).setCell ⟨gb335, 1, none⟩ (.int .i64 ((rd_T26 l0 x62_3).f1))).setCell ⟨gb335, 2, none⟩ (.int .i64 ((rd_T26 l0 x62_3).f2))).setCell ⟨gb335, 3, none⟩ (.int .i64 ((rd_T26 l0 x62_3).f3))).setCell ⟨gb335, 4, none⟩ (.int .i64 ((rd_T26 l0 x62_3).f4))) w.heap.size (fun k_ => some k_ ≠ (v324 : Value).ownBlock) v330 t328) := ⟨by (with_reducible repeat (first | apply Ra | apply Rn | apply Rd)); exact Kd.R_mono (Kd.R_far (p := ⟨gb335, 4, none⟩) (Kd.R_far (p := ⟨gb335, 3, none⟩) (Kd.R_far (p := ⟨gb335, 2, none⟩) (Kd.R_far (p := ⟨gb335, 1, none⟩) (Kd.R_far (p := ⟨gb335, 0, none⟩) (Kd.R_types HO_9.out BK335.out (by decide)) (fun _ hk => hk.2) (.int .i64 ((rd_T26 l0 x62_3).f0))) (fun _ hk => hk.2) (.int .i64 ((rd_T26 l0 x62_3).f1))) (fun _ hk => hk.2) (.int .i64 ((rd_T26 l0 x62_3).f2))) (fun _ hk => hk.2) (.int .i64 ((rd_T26 l0 x62_3).f3))) (fun _ hk => hk.2) (.int .i64 ((rd_T26 l0 x62_3).f4))) (fun _ hk => hk.1)⟩
                have n3_ : Ad (Kd.R k30 30 (((((w39.setCell ⟨gb335, 0, none⟩ (.int .i64 ((rd_T26 l0 x62_3).f0))).setCell ⟨gb335, 1, none⟩ (.int .i64 ((rd_T26 l0 x62_3).f1))).setCell ⟨gb335, 2, none⟩ (.int .i64 ((rd_T26 l0 x62_3).f2))).setCell ⟨gb335, 3, none⟩ (.int .i64 ((rd_T26 l0 x62_3).f3))).setCell ⟨gb335, 4, none⟩ (.int .i64 ((rd_T26 l0 x62_3).f4))) w.heap.size (fun k_ => some k_ ≠ (v326 : Value).ownBlock) v332 t329) := ⟨by (with_reducible repeat (first | apply Ra | apply Rn | apply Rd)); exact Kd.R_mono (Kd.R_far (p := ⟨gb335, 4, none⟩) (Kd.R_far (p := ⟨gb335, 3, none⟩) (Kd.R_far (p := ⟨gb335, 2, none⟩) (Kd.R_far (p := ⟨gb335, 1, none⟩) (Kd.R_far (p := ⟨gb335, 0, none⟩) (Kd.R_types HO_10.out BK335.out (by decide)) (fun _ hk => hk.2) (.int .i64 ((rd_T26 l0 x62_3).f0))) (fun _ hk => hk.2) (.int .i64 ((rd_T26 l0 x62_3).f1))) (fun _ hk => hk.2) (.int .i64 ((rd_T26 l0 x62_3).f2))) (fun _ hk => hk.2) (.int .i64 ((rd_T26 l0 x62_3).f3))) (fun _ hk => hk.2) (.int .i64 ((rd_T26 l0 x62_3).f4))) (fun _ hk => hk.1)⟩
                have n4_ : Ad ((((((w39.setCell ⟨gb335, 0, none⟩ (.int .i64 ((rd_T26 l0 x62_3).f0))).setCell ⟨gb335, 1, none⟩ (.int .i64 ((rd_T26 l0 x62_3).f1))).setCell ⟨gb335, 2, none⟩ (.int .i64 ((rd_T26 l0 x62_3).f2))).setCell ⟨gb335, 3, none⟩ (.int .i64 ((rd_T26 l0 x62_3).f3))).setCell ⟨gb335, 4, none⟩ (.int .i64 ((rd_T26 l0 x62_3).f4))).heap[gb335]? = some (.cells #[.int .i64 ((rd_T26 l0 x62_3).f0), .int .i64 ((rd_T26 l0 x62_3).f1), .int .i64 ((rd_T26 l0 x62_3).f2), .int .i64 ((rd_T26 l0 x62_3).f3), .int .i64 ((rd_T26 l0 x62_3).f4)] 26 (0, 0))) := ⟨by (with_reducible repeat (first | refine Kn ?_ _ | refine Ke ?_ | refine Ka ?_ _)); refine blk_put (cs := #[.int .i64 ((rd_T26 l0 x62_3).f0), .int .i64 ((rd_T26 l0 x62_3).f1), .int .i64 ((rd_T26 l0 x62_3).f2), .int .i64 ((rd_T26 l0 x62_3).f3), .int .i64 0]) ?_ 4 _ rfl; (with_reducible repeat (first | refine Kn ?_ _ | refine Ke ?_ | refine Ka ?_ _)); refine blk_put (cs := #[.int .i64 ((rd_T26 l0 x62_3).f0), .int .i64 ((rd_T26 l0 x62_3).f1), .int .i64 ((rd_T26 l0 x62_3).f2), .int .i64 0, .int .i64 0]) ?_ 3 _ rfl; (with_reducible repeat (first | refine Kn ?_ _ | refine Ke ?_ | refine Ka ?_ _)); refine blk_put (cs := #[.int .i64 ((rd_T26 l0 x62_3).f0), .int .i64 ((rd_T26 l0 x62_3).f1), .int .i64 0, .int .i64 0, .int .i64 0]) ?_ 2 _ rfl; (with_reducible repeat (first | refine Kn ?_ _ | refine Ke ?_ | refine Ka ?_ _)); refine blk_put (cs := #[.int .i64 ((rd_T26 l0 x62_3).f0), .int .i64 0, .int .i64 0, .int .i64 0, .int .i64 0]) ?_ 1 _ rfl; (with_reducible repeat (first | refine Kn ?_ _ | refine Ke ?_ | refine Ka ?_ _)); refine blk_put (cs := #[.int .i64 0, .int .i64 0, .int .i64 0, .int .i64 0, .int .i64 0]) ?_ 0 _ rfl; (with_reducible repeat (first | refine Kn ?_ _ | refine Ke ?_ | refine Ka ?_ _)); exact BK335.out⟩
                have n5_ : Ad (Below w.heap.size w (((((w39.setCell ⟨gb335, 0, none⟩ (.int .i64 ((rd_T26 l0 x62_3).f0))).setCell ⟨gb335, 1, none⟩ (.int .i64 ((rd_T26 l0 x62_3).f1))).setCell ⟨gb335, 2, none⟩ (.int .i64 ((rd_T26 l0 x62_3).f2))).setCell ⟨gb335, 3, none⟩ (.int .i64 ((rd_T26 l0 x62_3).f3))).setCell ⟨gb335, 4, none⟩ (.int .i64 ((rd_T26 l0 x62_3).f4)))) := ⟨by repeat (first | (with_reducible first | exact HB.out | apply Ba | apply Bn | apply Bd | refine Bs ?_ GE335.out) | exact HB.out)⟩
                (try clear HO_7)
                (try clear HO_8)
                (try clear HO_9)
                (try clear HO_10)
                (try clear BK335)
                (try clear HB)
                generalize (((((w39.setCell ⟨gb335, 0, none⟩ (.int .i64 ((rd_T26 l0 x62_3).f0))).setCell ⟨gb335, 1, none⟩ (.int .i64 ((rd_T26 l0 x62_3).f1))).setCell ⟨gb335, 2, none⟩ (.int .i64 ((rd_T26 l0 x62_3).f2))).setCell ⟨gb335, 3, none⟩ (.int .i64 ((rd_T26 l0 x62_3).f3))).setCell ⟨gb335, 4, none⟩ (.int .i64 ((rd_T26 l0 x62_3).f4))) = w41 at n0_ n1_ n2_ n3_ n4_ n5_ ⊢
                have HO_7 := n0_
                have HO_8 := n1_
                have HO_9 := n2_
                have HO_10 := n3_
                have BK335 := n4_
                have HB := n5_
                clear n0_ n1_ n2_ n3_ n4_ n5_
                have n0_ := Am (Rd HO_7.out)
                have n1_ := Am (Rd HO_8.out)
                have n2_ := Am (Rd HO_9.out)
                have n3_ := Am (Rd HO_10.out)
                have n4_ := Am (Ke BK335.out)
                have n5_ := Am (Bd HB.out)
                clear HO_7
                clear HO_8
                clear HO_9
                clear HO_10
                clear BK335
                clear HB
                have HO_7 := n0_
                have HO_8 := n1_
                have HO_9 := n2_
                have HO_10 := n3_
                have BK335 := n4_
                have HB := n5_
                clear n0_ n1_ n2_ n3_ n4_ n5_
                obtain ⟨Ao43, co43, eo43⟩ := Kd.R_slice HO_8.out
                (first | subst eo43 | (injection eo43 with f1_ f2_ f3_; have f4_ := f1_.symm; have f5_ := f3_.symm; clear f1_ f2_ f3_; subst f4_; subst f5_))
                have p336 : 0 ≤ (x62_3 : Int) := of_decide_eq_true (by assumption)
                have q336 : x62_3 < (t323.length : Int) := of_decide_eq_true (by assumption)
                obtain ⟨ad336, e336, hx336_0, hx336_1⟩ := at_T30 (Kd.R_reads' HO_8.out).2.2 x62_3 p336 q336
                cases e336
                replace p336 := eq_true p336
                replace q336 := eq_true q336
                obtain ⟨Ao45, co45, eo45⟩ := Kd.R_slice HO_10.out
                (first | subst eo45 | (injection eo45 with f1_ f2_ f3_; have f4_ := f1_.symm; have f5_ := f3_.symm; clear f1_ f2_ f3_; subst f4_; subst f5_))
                have p338 : 0 ≤ (t337 : Int) := of_decide_eq_true (by assumption)
                have q338 : t337 < (t329.length : Int) := of_decide_eq_true (by assumption)
                obtain ⟨ad338, e338, hx338_0, hx338_1⟩ := at_T30 (Kd.R_reads' HO_10.out).2.2 t337 p338 q338
                cases e338
                replace p338 := eq_true p338
                replace q338 := eq_true q338
                refine start_ (n := 11) (S := fun w' => w'.cell? ⟨gb335, 0, none⟩ = some (.int .i64 ((rd_T26 l0 x62_3).f0)) ∧ w'.cell? ⟨gb335, 1, none⟩ = some (.int .i64 ((rd_T26 l0 x62_3).f1)) ∧ w'.cell? ⟨gb335, 2, none⟩ = some (.int .i64 ((rd_T26 l0 x62_3).f2)) ∧ w'.cell? ⟨gb335, 3, none⟩ = some (.int .i64 ((rd_T26 l0 x62_3).f3)) ∧ w'.cell? ⟨gb335, 4, none⟩ = some (.int .i64 ((rd_T26 l0 x62_3).f4)) ∧ w'.cell? (ad336.add ((x62_3).toNat * 2)) = some (.int .i64 ((rd_T30 t323 x62_3).f0)) ∧ w'.cell? ⟨(ad336.add ((x62_3).toNat * 2)).block, (ad336.add ((x62_3).toNat * 2)).off + 1, none⟩ = some (.int .i64 ((rd_T30 t323 x62_3).f1)) ∧ w'.cell? (ad338.add ((t337).toNat * 2)) = some (.int .i64 ((rd_T30 t329 t337).f0)) ∧ w'.cell? ⟨(ad338.add ((t337).toNat * 2)).block, (ad338.add ((t337).toNat * 2)).off + 1, none⟩ = some (.int .i64 ((rd_T30 t329 t337).f1))) (ds := []) #[false, false, false, false, false, false, false, false, false, false, false] (by kernel_rfl) rfl rfl ⟨(Kc BK335.out 0).trans rfl, (Kc BK335.out 1).trans rfl, (Kc BK335.out 2).trans rfl, (Kc BK335.out 3).trans rfl, (Kc BK335.out 4).trans rfl, hx336_0, hx336_1, hx338_0, hx338_1⟩ (fun hHeld => ?_); refine with_tabW spec_TellsSame.tab14 spec_TellsSame.bits14 (fun HT_ HW_ => ?_)
                generalize w41.drew = w42 at HO_7 HO_8 HO_9 HO_10 BK335 HB hx336_0 hx336_1 hx338_0 hx338_1 hHeld ⊢
                refine pure_ (i := 0) (N := some 67) (v := ?_) (a' := ?_) #[true, false, false, false, false, false, false, false, false, false, false] rfl rfl (any_of HT_.out (by kernel_rfl)) (fun _ _ _ h => h) (Or.inl ⟨by rfl, ?_⟩) ?_ ?_
                rotate_left
                ·intro w'
                 go_simp
                 with_reducible rfl
                rotate_left
                ·simp only [Act.put, Lt, Lz, Ls, i64_w, i32_w]
                 rfl
                refine pure_ (i := 1) (N := some 68) (v := ?_) (a' := ?_) #[true, true, false, false, false, false, false, false, false, false, false] rfl rfl (any_of HT_.out (by kernel_rfl)) (fun _ _ _ h => h) (Or.inl ⟨by rfl, ?_⟩) ?_ ?_
                rotate_left
                ·intro w'
                 go_simp
                 with_reducible rfl
                rotate_left
                ·simp only [Act.put, Lt, Lz, Ls, i64_w, i32_w]
                 rfl
                refine pure_ (i := 2) (N := some 69) (v := ?_) (a' := ?_) #[true, true, true, false, false, false, false, false, false, false, false] rfl rfl (any_of HT_.out (by kernel_rfl)) (fun _ _ _ h => h) (Or.inl ⟨by rfl, ?_⟩) ?_ ?_
                rotate_left
                ·intro w'
                 go_simp
                 with_reducible rfl
                rotate_left
                ·simp only [Act.put, Lt, Lz, Ls, i64_w, i32_w]
                 rfl
                refine pure_ (i := 4) (N := some 71) (v := ?_) (a' := ?_) #[true, true, true, false, true, false, false, false, false, false, false] rfl rfl (any_of HT_.out (by kernel_rfl)) (fun _ _ _ h => h) (Or.inl ⟨by rfl, ?_⟩) ?_ ?_
                rotate_left
                ·intro w'
                 go_simp
                 with_reducible rfl
                rotate_left
                ·simp only [Act.put, Lt, Lz, Ls, i64_w, i32_w]
                 rfl
                refine pure_ (i := 5) (N := some 72) (v := ?_) (a' := ?_) #[true, true, true, false, true, true, false, false, false, false, false] rfl rfl (any_of HT_.out (by kernel_rfl)) (fun _ _ _ h => h) (Or.inl ⟨by rfl, ?_⟩) ?_ ?_
                rotate_left
                ·intro w'
                 go_simp
                 with_reducible rfl
                rotate_left
                ·simp only [Act.put, Lt, Lz, Ls, i64_w, i32_w]
                 rfl
                refine take_ (i := 3) (N := some 70) (v := ?_) (a' := ?_) #[true, true, true, true, true, true, false, false, false, false, false] rfl rfl (take_ofW HT_.out HW_.out (by kernel_rfl)) (fun _ _ _ h => h) (Or.inl ⟨by rfl, ?_⟩) hHeld ?_ ?_
                rotate_left
                ·rintro w' ⟨s0, s1, s2, s3, s4, s5, s6, s7, s8⟩
                 go_simp
                 with_reducible rfl
                rotate_left
                ·simp only [Act.put, Lt, Lz, Ls, i64_w, i32_w]
                 rfl
                refine take_ (i := 6) (N := some 73) (v := ?_) (a' := ?_) #[true, true, true, true, true, true, true, false, false, false, false] rfl rfl (take_ofW HT_.out HW_.out (by kernel_rfl)) (fun _ _ _ h => h) (Or.inl ⟨by rfl, ?_⟩) hHeld ?_ ?_
                rotate_left
                ·rintro w' ⟨s0, s1, s2, s3, s4, s5, s6, s7, s8⟩
                 go_simp
                 with_reducible rfl
                rotate_left
                ·simp only [Act.put, Lt, Lz, Ls, i64_w, i32_w]
                 rfl
                refine one_ (i := 7) (N := some 74) #[true, true, true, true, true, true, true, true, false, false, false] rfl rfl (one_of HT_.out (by kernel_rfl)) (by decide) (fun K hK => ?_)
                refine goes_ Try.func90 (by kernel_rfl) rfl #[.slice A1 l1.length c1, .agg #[.int .i64 ((rd_T26 l0 x62_3).f0), .int .i64 ((rd_T26 l0 x62_3).f1), .int .i64 ((rd_T26 l0 x62_3).f2), .int .i64 ((rd_T26 l0 x62_3).f3), .int .i64 ((rd_T26 l0 x62_3).f4)]] (by rfl) rfl rfl (by first | rfl | (simp only [List.map_toArray, List.map_cons, List.map_nil]; first | done | rfl)) ?_
                with_reducible refine (spec_l11Once.calls k3 _ _ l1 ((rd_T26 l0 x62_3).f0) ((rd_T26 l0 x62_3).f1) ((rd_T26 l0 x62_3).f2) ((rd_T26 l0 x62_3).f3) ((rd_T26 l0 x62_3).f4) t337 _ ?side1 ?side2 A35.out).mono ?_
                (case side1 => repeat (first | exact (Kd.C_below HR1.out HB.out) | (with_reducible refine Kd.C_alloc ?_ _) | (with_reducible refine Kd.C_drewN ?_ _) | (with_reducible refine Kd.C_drew ?_)))
                (case side2 => exact HC1.out)
                rintro e w44 ⟨rfl, hb⟩
                have HS5_ := (hb.cell (bl_ _ _ (hHeld.2.2.2.2.2.1))).trans (hHeld.2.2.2.2.2.1)
                have HS6_ := (hb.cell (bl_ _ _ (hHeld.2.2.2.2.2.2.1))).trans (hHeld.2.2.2.2.2.2.1)
                have HS7_ := (hb.cell (bl_ _ _ (hHeld.2.2.2.2.2.2.2.1))).trans (hHeld.2.2.2.2.2.2.2.1)
                have HS8_ := (hb.cell (bl_ _ _ (hHeld.2.2.2.2.2.2.2.2))).trans (hHeld.2.2.2.2.2.2.2.2)
                refine ⟨_, rfl, ?_⟩
                have n0_ := Am (Kd.R_below (by (with_reducible repeat (first | apply Ra | apply Rn | apply Rd)); exact HO_7.out) hb)
                have n1_ := Am (Kd.R_below (by (with_reducible repeat (first | apply Ra | apply Rn | apply Rd)); exact HO_8.out) hb)
                have n2_ := Am (Kd.R_below (by (with_reducible repeat (first | apply Ra | apply Rn | apply Rd)); exact HO_9.out) hb)
                have n3_ := Am (Kd.R_below (by (with_reducible repeat (first | apply Ra | apply Rn | apply Rd)); exact HO_10.out) hb)
                have n4_ := Am (Kb (g := gb335) (o := .cells #[.int .i64 ((rd_T26 l0 x62_3).f0), .int .i64 ((rd_T26 l0 x62_3).f1), .int .i64 ((rd_T26 l0 x62_3).f2), .int .i64 ((rd_T26 l0 x62_3).f3), .int .i64 ((rd_T26 l0 x62_3).f4)] 26 (0, 0)) (by (with_reducible repeat (first | refine Kn ?_ _ | refine Ke ?_ | refine Ka ?_ _)); exact BK335.out) hb)
                have n5_ := Am (Bt (by repeat (first | (with_reducible first | exact HB.out | apply Ba | apply Bn | apply Bd | refine Bs ?_ GE335.out) | exact HB.out)) hb)
                clear HO_7
                clear HO_8
                clear HO_9
                clear HO_10
                clear BK335
                clear HB
                have HO_7 := n0_
                have HO_8 := n1_
                have HO_9 := n2_
                have HO_10 := n3_
                have BK335 := n4_
                have HB := n5_
                clear n0_ n1_ n2_ n3_ n4_ n5_
                (try clear hb)
                (try clear hb2)
                (try clear hk)
                (try clear hi)
                refine hK.out _ _ ⟨(Kc BK335.out 0).trans rfl, (Kc BK335.out 1).trans rfl, (Kc BK335.out 2).trans rfl, (Kc BK335.out 3).trans rfl, (Kc BK335.out 4).trans rfl, HS5_, HS6_, HS7_, HS8_⟩ (fun hHeld => ?_)
                clear hK K
                refine norm_ (a' := ?_) ?_ ?_
                rotate_left
                ·show Act.put _ (some 74) _ = _
                 simp only [Act.put, Lt, Lz, Ls, i64_w, i32_w]
                 rfl
                refine pure_ (i := 8) (N := some 75) (v := ?_) (a' := ?_) #[true, true, true, true, true, true, true, true, true, false, false] rfl rfl (any_of HT_.out (by kernel_rfl)) (fun _ _ _ h => h) (Or.inl ⟨by rfl, ?_⟩) ?_ ?_
                rotate_left
                ·intro w'
                 go_simp
                 with_reducible rfl
                rotate_left
                ·simp only [Act.put, Lt, Lz, Ls, i64_w, i32_w]
                 rfl
                refine take_ (i := 9) (N := some 76) (v := ?_) (a' := ?_) #[true, true, true, true, true, true, true, true, true, true, false] rfl rfl (take_ofW HT_.out HW_.out (by kernel_rfl)) (fun _ _ _ h => h) (Or.inl ⟨by rfl, ?_⟩) hHeld ?_ ?_
                rotate_left
                ·rintro w' ⟨s0, s1, s2, s3, s4, s5, s6, s7, s8⟩
                 go_simp
                 with_reducible rfl
                rotate_left
                ·simp only [Act.put, Lt, Lz, Ls, i64_w, i32_w]
                 rfl
                refine pure_ (i := 10) (N := some 77) (v := ?_) (a' := ?_) #[true, true, true, true, true, true, true, true, true, true, true] rfl rfl (any_of HT_.out (by kernel_rfl)) (fun _ _ _ h => h) (Or.inl ⟨by rfl, ?_⟩) ?_ ?_
                rotate_left
                ·intro w'
                 go_simp
                 with_reducible rfl
                rotate_left
                ·simp only [Act.put, Lt, Lz, Ls, i64_w, i32_w]
                 rfl
                refine done_ (done_of HT_.out (by kernel_rfl)) ?_
                try go_wp2
                go_ret2
                exact ⟨by first | rfl | (simp [*, errW_none, errW_some] <;> rfl), by repeat (first | (with_reducible first | exact HB.out | apply Ba | apply Bn | apply Bd | refine Bs ?_ GE335.out) | exact HB.out)⟩
               ·rw [if_neg c38] at H
                have c38b0 : (!(((rd_T30 t323 x62_3).f0) == ((rd_T30 t329 t337).f0)) || (!(((rd_T30 t323 x62_3).f1) == ((rd_T30 t329 t337).f1)))) = false := by simpa using c38
                clear c38
                have H' := Am H
                clear H
                have p334 : 0 ≤ (x62_3 : Int) := of_decide_eq_true (by assumption)
                have q334 : x62_3 < (l0.length : Int) := of_decide_eq_true (by assumption)
                obtain ⟨ad334, e334, hx334_0, hx334_1, hx334_2, hx334_3, hx334_4⟩ := at_T26 HR0.out x62_3 p334 q334
                cases e334
                replace hx334_0 := (HB.out.cell (bl_ w _ hx334_0)).trans hx334_0
                replace hx334_1 := (HB.out.cell (bl_ w _ hx334_1)).trans hx334_1
                replace hx334_2 := (HB.out.cell (bl_ w _ hx334_2)).trans hx334_2
                replace hx334_3 := (HB.out.cell (bl_ w _ hx334_3)).trans hx334_3
                replace hx334_4 := (HB.out.cell (bl_ w _ hx334_4)).trans hx334_4
                replace p334 := eq_true p334
                replace q334 := eq_true q334
                try go_wp2_with (first | ((refine Gd (N := 12) rfl ?_); (try (refine gate_guard (by rfl) ?_; dsimp only)); refine Be ?hg (N := 12) ?hd (cs := #[.int .i64 0, .int .i64 0, .int .i64 0, .int .i64 0, .int .i64 0]) (t := 26) ?hr ?_; (case hd | hg => rfl); (case hr => first | (go_simp; done) | (go_simp; rfl)); intro gb335 hg w46 hbox hb; have n0_ := Am (Kd.R_below (by (with_reducible repeat (first | apply Ra | apply Rn | apply Rd)); exact HO_7.out) hb); have n1_ := Am (Kd.R_below (by (with_reducible repeat (first | apply Ra | apply Rn | apply Rd)); exact HO_8.out) hb); have n2_ := Am (Kd.R_below (by (with_reducible repeat (first | apply Ra | apply Rn | apply Rd)); exact HO_9.out) hb); have n3_ := Am (Kd.R_below (by (with_reducible repeat (first | apply Ra | apply Rn | apply Rd)); exact HO_10.out) hb); have n4_ := Am (Bt (by repeat (first | exact HB.out | apply Ba | apply Bn | apply Bd)) hb); have n5_ := Am (hbox); have n6_ := Am ((by rw [hg]; exact (Bz (by repeat (first | exact HB.out | apply Ba | apply Bn | apply Bd))) : w.heap.size ≤ gb335)); have n7_ := Am ((by rw [hg]; exact (Bz (by repeat (first | exact HB.out | apply Ba | apply Bn | apply Bd))) : w.heap.size ≤ gb335)); clear HO_7; clear HO_8; clear HO_9; clear HO_10; clear HB; have HO_7 := n0_; have HO_8 := n1_; have HO_9 := n2_; have HO_10 := n3_; have HB := n4_; have BK335 := n5_; have GW335 := n6_; have GE335 := n7_; clear n0_ n1_ n2_ n3_ n4_ n5_ n6_ n7_; clear hb hbox hg; have hcz47_0 : w46.cell? ⟨gb335, 0, none⟩ = some (.int .i64 0) := (Kc BK335.out 0).trans rfl; have hcz47_1 : w46.cell? ⟨gb335, 1, none⟩ = some (.int .i64 0) := (Kc BK335.out 1).trans rfl; have hcz47_2 : w46.cell? ⟨gb335, 2, none⟩ = some (.int .i64 0) := (Kc BK335.out 2).trans rfl; have hcz47_3 : w46.cell? ⟨gb335, 3, none⟩ = some (.int .i64 0) := (Kc BK335.out 3).trans rfl; have hcz47_4 : w46.cell? ⟨gb335, 4, none⟩ = some (.int .i64 0) := (Kc BK335.out 4).trans rfl; have hfz47_0 := Kz BK335.out 0; have hfz47_1 := Kz BK335.out 1; have hfz47_2 := Kz BK335.out 2; have hfz47_3 := Kz BK335.out 3; have hfz47_4 := Kz BK335.out 4))
                have n0_ : Ad (Kd.R (Kd.int .i64) 3 (((((w46.setCell ⟨gb335, 0, none⟩ (.int .i64 ((rd_T26 l0 x62_3).f0))).setCell ⟨gb335, 1, none⟩ (.int .i64 ((rd_T26 l0 x62_3).f1))).setCell ⟨gb335, 2, none⟩ (.int .i64 ((rd_T26 l0 x62_3).f2))).setCell ⟨gb335, 3, none⟩ (.int .i64 ((rd_T26 l0 x62_3).f3))).setCell ⟨gb335, 4, none⟩ (.int .i64 ((rd_T26 l0 x62_3).f4))) w.heap.size (fun k_ => some k_ ≠ (v330 : Value).ownBlock) v324 t322) := ⟨by (with_reducible repeat (first | apply Ra | apply Rn | apply Rd)); exact Kd.R_mono (Kd.R_far (p := ⟨gb335, 4, none⟩) (Kd.R_far (p := ⟨gb335, 3, none⟩) (Kd.R_far (p := ⟨gb335, 2, none⟩) (Kd.R_far (p := ⟨gb335, 1, none⟩) (Kd.R_far (p := ⟨gb335, 0, none⟩) (Kd.R_types HO_7.out BK335.out (by decide)) (fun _ hk => hk.2) (.int .i64 ((rd_T26 l0 x62_3).f0))) (fun _ hk => hk.2) (.int .i64 ((rd_T26 l0 x62_3).f1))) (fun _ hk => hk.2) (.int .i64 ((rd_T26 l0 x62_3).f2))) (fun _ hk => hk.2) (.int .i64 ((rd_T26 l0 x62_3).f3))) (fun _ hk => hk.2) (.int .i64 ((rd_T26 l0 x62_3).f4))) (fun _ hk => hk.1)⟩
                have n1_ : Ad (Kd.R k30 30 (((((w46.setCell ⟨gb335, 0, none⟩ (.int .i64 ((rd_T26 l0 x62_3).f0))).setCell ⟨gb335, 1, none⟩ (.int .i64 ((rd_T26 l0 x62_3).f1))).setCell ⟨gb335, 2, none⟩ (.int .i64 ((rd_T26 l0 x62_3).f2))).setCell ⟨gb335, 3, none⟩ (.int .i64 ((rd_T26 l0 x62_3).f3))).setCell ⟨gb335, 4, none⟩ (.int .i64 ((rd_T26 l0 x62_3).f4))) w.heap.size (fun k_ => some k_ ≠ (v332 : Value).ownBlock) v326 t323) := ⟨by (with_reducible repeat (first | apply Ra | apply Rn | apply Rd)); exact Kd.R_mono (Kd.R_far (p := ⟨gb335, 4, none⟩) (Kd.R_far (p := ⟨gb335, 3, none⟩) (Kd.R_far (p := ⟨gb335, 2, none⟩) (Kd.R_far (p := ⟨gb335, 1, none⟩) (Kd.R_far (p := ⟨gb335, 0, none⟩) (Kd.R_types HO_8.out BK335.out (by decide)) (fun _ hk => hk.2) (.int .i64 ((rd_T26 l0 x62_3).f0))) (fun _ hk => hk.2) (.int .i64 ((rd_T26 l0 x62_3).f1))) (fun _ hk => hk.2) (.int .i64 ((rd_T26 l0 x62_3).f2))) (fun _ hk => hk.2) (.int .i64 ((rd_T26 l0 x62_3).f3))) (fun _ hk => hk.2) (.int .i64 ((rd_T26 l0 x62_3).f4))) (fun _ hk => hk.1)⟩
                have n2_ : Ad (Kd.R (Kd.int .i64) 3 (((((w46.setCell ⟨gb335, 0, none⟩ (.int .i64 ((rd_T26 l0 x62_3).f0))).setCell ⟨gb335, 1, none⟩ (.int .i64 ((rd_T26 l0 x62_3).f1))).setCell ⟨gb335, 2, none⟩ (.int .i64 ((rd_T26 l0 x62_3).f2))).setCell ⟨gb335, 3, none⟩ (.int .i64 ((rd_T26 l0 x62_3).f3))).setCell ⟨gb335, 4, none⟩ (.int .i64 ((rd_T26 l0 x62_3).f4))) w.heap.size (fun k_ => some k_ ≠ (v324 : Value).ownBlock) v330 t328) := ⟨by (with_reducible repeat (first | apply Ra | apply Rn | apply Rd)); exact Kd.R_mono (Kd.R_far (p := ⟨gb335, 4, none⟩) (Kd.R_far (p := ⟨gb335, 3, none⟩) (Kd.R_far (p := ⟨gb335, 2, none⟩) (Kd.R_far (p := ⟨gb335, 1, none⟩) (Kd.R_far (p := ⟨gb335, 0, none⟩) (Kd.R_types HO_9.out BK335.out (by decide)) (fun _ hk => hk.2) (.int .i64 ((rd_T26 l0 x62_3).f0))) (fun _ hk => hk.2) (.int .i64 ((rd_T26 l0 x62_3).f1))) (fun _ hk => hk.2) (.int .i64 ((rd_T26 l0 x62_3).f2))) (fun _ hk => hk.2) (.int .i64 ((rd_T26 l0 x62_3).f3))) (fun _ hk => hk.2) (.int .i64 ((rd_T26 l0 x62_3).f4))) (fun _ hk => hk.1)⟩
                have n3_ : Ad (Kd.R k30 30 (((((w46.setCell ⟨gb335, 0, none⟩ (.int .i64 ((rd_T26 l0 x62_3).f0))).setCell ⟨gb335, 1, none⟩ (.int .i64 ((rd_T26 l0 x62_3).f1))).setCell ⟨gb335, 2, none⟩ (.int .i64 ((rd_T26 l0 x62_3).f2))).setCell ⟨gb335, 3, none⟩ (.int .i64 ((rd_T26 l0 x62_3).f3))).setCell ⟨gb335, 4, none⟩ (.int .i64 ((rd_T26 l0 x62_3).f4))) w.heap.size (fun k_ => some k_ ≠ (v326 : Value).ownBlock) v332 t329) := ⟨by (with_reducible repeat (first | apply Ra | apply Rn | apply Rd)); exact Kd.R_mono (Kd.R_far (p := ⟨gb335, 4, none⟩) (Kd.R_far (p := ⟨gb335, 3, none⟩) (Kd.R_far (p := ⟨gb335, 2, none⟩) (Kd.R_far (p := ⟨gb335, 1, none⟩) (Kd.R_far (p := ⟨gb335, 0, none⟩) (Kd.R_types HO_10.out BK335.out (by decide)) (fun _ hk => hk.2) (.int .i64 ((rd_T26 l0 x62_3).f0))) (fun _ hk => hk.2) (.int .i64 ((rd_T26 l0 x62_3).f1))) (fun _ hk => hk.2) (.int .i64 ((rd_T26 l0 x62_3).f2))) (fun _ hk => hk.2) (.int .i64 ((rd_T26 l0 x62_3).f3))) (fun _ hk => hk.2) (.int .i64 ((rd_T26 l0 x62_3).f4))) (fun _ hk => hk.1)⟩
                have n4_ : Ad ((((((w46.setCell ⟨gb335, 0, none⟩ (.int .i64 ((rd_T26 l0 x62_3).f0))).setCell ⟨gb335, 1, none⟩ (.int .i64 ((rd_T26 l0 x62_3).f1))).setCell ⟨gb335, 2, none⟩ (.int .i64 ((rd_T26 l0 x62_3).f2))).setCell ⟨gb335, 3, none⟩ (.int .i64 ((rd_T26 l0 x62_3).f3))).setCell ⟨gb335, 4, none⟩ (.int .i64 ((rd_T26 l0 x62_3).f4))).heap[gb335]? = some (.cells #[.int .i64 ((rd_T26 l0 x62_3).f0), .int .i64 ((rd_T26 l0 x62_3).f1), .int .i64 ((rd_T26 l0 x62_3).f2), .int .i64 ((rd_T26 l0 x62_3).f3), .int .i64 ((rd_T26 l0 x62_3).f4)] 26 (0, 0))) := ⟨by (with_reducible repeat (first | refine Kn ?_ _ | refine Ke ?_ | refine Ka ?_ _)); refine blk_put (cs := #[.int .i64 ((rd_T26 l0 x62_3).f0), .int .i64 ((rd_T26 l0 x62_3).f1), .int .i64 ((rd_T26 l0 x62_3).f2), .int .i64 ((rd_T26 l0 x62_3).f3), .int .i64 0]) ?_ 4 _ rfl; (with_reducible repeat (first | refine Kn ?_ _ | refine Ke ?_ | refine Ka ?_ _)); refine blk_put (cs := #[.int .i64 ((rd_T26 l0 x62_3).f0), .int .i64 ((rd_T26 l0 x62_3).f1), .int .i64 ((rd_T26 l0 x62_3).f2), .int .i64 0, .int .i64 0]) ?_ 3 _ rfl; (with_reducible repeat (first | refine Kn ?_ _ | refine Ke ?_ | refine Ka ?_ _)); refine blk_put (cs := #[.int .i64 ((rd_T26 l0 x62_3).f0), .int .i64 ((rd_T26 l0 x62_3).f1), .int .i64 0, .int .i64 0, .int .i64 0]) ?_ 2 _ rfl; (with_reducible repeat (first | refine Kn ?_ _ | refine Ke ?_ | refine Ka ?_ _)); refine blk_put (cs := #[.int .i64 ((rd_T26 l0 x62_3).f0), .int .i64 0, .int .i64 0, .int .i64 0, .int .i64 0]) ?_ 1 _ rfl; (with_reducible repeat (first | refine Kn ?_ _ | refine Ke ?_ | refine Ka ?_ _)); refine blk_put (cs := #[.int .i64 0, .int .i64 0, .int .i64 0, .int .i64 0, .int .i64 0]) ?_ 0 _ rfl; (with_reducible repeat (first | refine Kn ?_ _ | refine Ke ?_ | refine Ka ?_ _)); exact BK335.out⟩
                have n5_ : Ad (Below w.heap.size w (((((w46.setCell ⟨gb335, 0, none⟩ (.int .i64 ((rd_T26 l0 x62_3).f0))).setCell ⟨gb335, 1, none⟩ (.int .i64 ((rd_T26 l0 x62_3).f1))).setCell ⟨gb335, 2, none⟩ (.int .i64 ((rd_T26 l0 x62_3).f2))).setCell ⟨gb335, 3, none⟩ (.int .i64 ((rd_T26 l0 x62_3).f3))).setCell ⟨gb335, 4, none⟩ (.int .i64 ((rd_T26 l0 x62_3).f4)))) := ⟨by repeat (first | (with_reducible first | exact HB.out | apply Ba | apply Bn | apply Bd | refine Bs ?_ GE335.out) | exact HB.out)⟩
                (try clear HO_7)
                (try clear HO_8)
                (try clear HO_9)
                (try clear HO_10)
                (try clear BK335)
                (try clear HB)
                generalize (((((w46.setCell ⟨gb335, 0, none⟩ (.int .i64 ((rd_T26 l0 x62_3).f0))).setCell ⟨gb335, 1, none⟩ (.int .i64 ((rd_T26 l0 x62_3).f1))).setCell ⟨gb335, 2, none⟩ (.int .i64 ((rd_T26 l0 x62_3).f2))).setCell ⟨gb335, 3, none⟩ (.int .i64 ((rd_T26 l0 x62_3).f3))).setCell ⟨gb335, 4, none⟩ (.int .i64 ((rd_T26 l0 x62_3).f4))) = w48 at n0_ n1_ n2_ n3_ n4_ n5_ ⊢
                have HO_7 := n0_
                have HO_8 := n1_
                have HO_9 := n2_
                have HO_10 := n3_
                have BK335 := n4_
                have HB := n5_
                clear n0_ n1_ n2_ n3_ n4_ n5_
                have n0_ := Am (Rd HO_7.out)
                have n1_ := Am (Rd HO_8.out)
                have n2_ := Am (Rd HO_9.out)
                have n3_ := Am (Rd HO_10.out)
                have n4_ := Am (Ke BK335.out)
                have n5_ := Am (Bd HB.out)
                clear HO_7
                clear HO_8
                clear HO_9
                clear HO_10
                clear BK335
                clear HB
                have HO_7 := n0_
                have HO_8 := n1_
                have HO_9 := n2_
                have HO_10 := n3_
                have BK335 := n4_
                have HB := n5_
                clear n0_ n1_ n2_ n3_ n4_ n5_
                obtain ⟨Ao50, co50, eo50⟩ := Kd.R_slice HO_8.out
                (first | subst eo50 | (injection eo50 with f1_ f2_ f3_; have f4_ := f1_.symm; have f5_ := f3_.symm; clear f1_ f2_ f3_; subst f4_; subst f5_))
                have p336 : 0 ≤ (x62_3 : Int) := of_decide_eq_true (by assumption)
                have q336 : x62_3 < (t323.length : Int) := of_decide_eq_true (by assumption)
                obtain ⟨ad336, e336, hx336_0, hx336_1⟩ := at_T30 (Kd.R_reads' HO_8.out).2.2 x62_3 p336 q336
                cases e336
                replace p336 := eq_true p336
                replace q336 := eq_true q336
                obtain ⟨Ao52, co52, eo52⟩ := Kd.R_slice HO_10.out
                (first | subst eo52 | (injection eo52 with f1_ f2_ f3_; have f4_ := f1_.symm; have f5_ := f3_.symm; clear f1_ f2_ f3_; subst f4_; subst f5_))
                have p338 : 0 ≤ (t337 : Int) := of_decide_eq_true (by assumption)
                have q338 : t337 < (t329.length : Int) := of_decide_eq_true (by assumption)
                obtain ⟨ad338, e338, hx338_0, hx338_1⟩ := at_T30 (Kd.R_reads' HO_10.out).2.2 t337 p338 q338
                cases e338
                replace p338 := eq_true p338
                replace q338 := eq_true q338
                refine start_ (n := 11) (S := fun w' => w'.cell? ⟨gb335, 0, none⟩ = some (.int .i64 ((rd_T26 l0 x62_3).f0)) ∧ w'.cell? ⟨gb335, 1, none⟩ = some (.int .i64 ((rd_T26 l0 x62_3).f1)) ∧ w'.cell? ⟨gb335, 2, none⟩ = some (.int .i64 ((rd_T26 l0 x62_3).f2)) ∧ w'.cell? ⟨gb335, 3, none⟩ = some (.int .i64 ((rd_T26 l0 x62_3).f3)) ∧ w'.cell? ⟨gb335, 4, none⟩ = some (.int .i64 ((rd_T26 l0 x62_3).f4)) ∧ w'.cell? (ad336.add ((x62_3).toNat * 2)) = some (.int .i64 ((rd_T30 t323 x62_3).f0)) ∧ w'.cell? ⟨(ad336.add ((x62_3).toNat * 2)).block, (ad336.add ((x62_3).toNat * 2)).off + 1, none⟩ = some (.int .i64 ((rd_T30 t323 x62_3).f1)) ∧ w'.cell? (ad338.add ((t337).toNat * 2)) = some (.int .i64 ((rd_T30 t329 t337).f0)) ∧ w'.cell? ⟨(ad338.add ((t337).toNat * 2)).block, (ad338.add ((t337).toNat * 2)).off + 1, none⟩ = some (.int .i64 ((rd_T30 t329 t337).f1))) (ds := []) #[false, false, false, false, false, false, false, false, false, false, false] (by kernel_rfl) rfl rfl ⟨(Kc BK335.out 0).trans rfl, (Kc BK335.out 1).trans rfl, (Kc BK335.out 2).trans rfl, (Kc BK335.out 3).trans rfl, (Kc BK335.out 4).trans rfl, hx336_0, hx336_1, hx338_0, hx338_1⟩ (fun hHeld => ?_); refine with_tabW spec_TellsSame.tab14 spec_TellsSame.bits14 (fun HT_ HW_ => ?_)
                generalize w48.drew = w49 at HO_7 HO_8 HO_9 HO_10 BK335 HB hx336_0 hx336_1 hx338_0 hx338_1 hHeld ⊢
                refine pure_ (i := 0) (N := some 67) (v := ?_) (a' := ?_) #[true, false, false, false, false, false, false, false, false, false, false] rfl rfl (any_of HT_.out (by kernel_rfl)) (fun _ _ _ h => h) (Or.inl ⟨by rfl, ?_⟩) ?_ ?_
                rotate_left
                ·intro w'
                 go_simp
                 with_reducible rfl
                rotate_left
                ·simp only [Act.put, Lt, Lz, Ls, i64_w, i32_w]
                 rfl
                refine pure_ (i := 1) (N := some 68) (v := ?_) (a' := ?_) #[true, true, false, false, false, false, false, false, false, false, false] rfl rfl (any_of HT_.out (by kernel_rfl)) (fun _ _ _ h => h) (Or.inl ⟨by rfl, ?_⟩) ?_ ?_
                rotate_left
                ·intro w'
                 go_simp
                 with_reducible rfl
                rotate_left
                ·simp only [Act.put, Lt, Lz, Ls, i64_w, i32_w]
                 rfl
                refine pure_ (i := 2) (N := some 69) (v := ?_) (a' := ?_) #[true, true, true, false, false, false, false, false, false, false, false] rfl rfl (any_of HT_.out (by kernel_rfl)) (fun _ _ _ h => h) (Or.inl ⟨by rfl, ?_⟩) ?_ ?_
                rotate_left
                ·intro w'
                 go_simp
                 with_reducible rfl
                rotate_left
                ·simp only [Act.put, Lt, Lz, Ls, i64_w, i32_w]
                 rfl
                refine pure_ (i := 4) (N := some 71) (v := ?_) (a' := ?_) #[true, true, true, false, true, false, false, false, false, false, false] rfl rfl (any_of HT_.out (by kernel_rfl)) (fun _ _ _ h => h) (Or.inl ⟨by rfl, ?_⟩) ?_ ?_
                rotate_left
                ·intro w'
                 go_simp
                 with_reducible rfl
                rotate_left
                ·simp only [Act.put, Lt, Lz, Ls, i64_w, i32_w]
                 rfl
                refine pure_ (i := 5) (N := some 72) (v := ?_) (a' := ?_) #[true, true, true, false, true, true, false, false, false, false, false] rfl rfl (any_of HT_.out (by kernel_rfl)) (fun _ _ _ h => h) (Or.inl ⟨by rfl, ?_⟩) ?_ ?_
                rotate_left
                ·intro w'
                 go_simp
                 with_reducible rfl
                rotate_left
                ·simp only [Act.put, Lt, Lz, Ls, i64_w, i32_w]
                 rfl
                refine take_ (i := 3) (N := some 70) (v := ?_) (a' := ?_) #[true, true, true, true, true, true, false, false, false, false, false] rfl rfl (take_ofW HT_.out HW_.out (by kernel_rfl)) (fun _ _ _ h => h) (Or.inl ⟨by rfl, ?_⟩) hHeld ?_ ?_
                rotate_left
                ·rintro w' ⟨s0, s1, s2, s3, s4, s5, s6, s7, s8⟩
                 go_simp
                 with_reducible rfl
                rotate_left
                ·simp only [Act.put, Lt, Lz, Ls, i64_w, i32_w]
                 rfl
                refine take_ (i := 6) (N := some 73) (v := ?_) (a' := ?_) #[true, true, true, true, true, true, true, false, false, false, false] rfl rfl (take_ofW HT_.out HW_.out (by kernel_rfl)) (fun _ _ _ h => h) (Or.inl ⟨by rfl, ?_⟩) hHeld ?_ ?_
                rotate_left
                ·rintro w' ⟨s0, s1, s2, s3, s4, s5, s6, s7, s8⟩
                 go_simp
                 with_reducible rfl
                rotate_left
                ·simp only [Act.put, Lt, Lz, Ls, i64_w, i32_w]
                 rfl
                refine one_ (i := 7) (N := some 74) #[true, true, true, true, true, true, true, true, false, false, false] rfl rfl (one_of HT_.out (by kernel_rfl)) (by decide) (fun K hK => ?_)
                refine goes_ Try.func90 (by kernel_rfl) rfl #[.slice A1 l1.length c1, .agg #[.int .i64 ((rd_T26 l0 x62_3).f0), .int .i64 ((rd_T26 l0 x62_3).f1), .int .i64 ((rd_T26 l0 x62_3).f2), .int .i64 ((rd_T26 l0 x62_3).f3), .int .i64 ((rd_T26 l0 x62_3).f4)]] (by rfl) rfl rfl (by first | rfl | (simp only [List.map_toArray, List.map_cons, List.map_nil]; first | done | rfl)) ?_
                with_reducible refine (spec_l11Once.calls k3 _ _ l1 ((rd_T26 l0 x62_3).f0) ((rd_T26 l0 x62_3).f1) ((rd_T26 l0 x62_3).f2) ((rd_T26 l0 x62_3).f3) ((rd_T26 l0 x62_3).f4) t337 _ ?side1 ?side2 A35.out).mono ?_
                (case side1 => repeat (first | exact (Kd.C_below HR1.out HB.out) | (with_reducible refine Kd.C_alloc ?_ _) | (with_reducible refine Kd.C_drewN ?_ _) | (with_reducible refine Kd.C_drew ?_)))
                (case side2 => exact HC1.out)
                rintro e w51 ⟨rfl, hb⟩
                have HS5_ := (hb.cell (bl_ _ _ (hHeld.2.2.2.2.2.1))).trans (hHeld.2.2.2.2.2.1)
                have HS6_ := (hb.cell (bl_ _ _ (hHeld.2.2.2.2.2.2.1))).trans (hHeld.2.2.2.2.2.2.1)
                have HS7_ := (hb.cell (bl_ _ _ (hHeld.2.2.2.2.2.2.2.1))).trans (hHeld.2.2.2.2.2.2.2.1)
                have HS8_ := (hb.cell (bl_ _ _ (hHeld.2.2.2.2.2.2.2.2))).trans (hHeld.2.2.2.2.2.2.2.2)
                refine ⟨_, rfl, ?_⟩
                have n0_ := Am (Kd.R_below (by (with_reducible repeat (first | apply Ra | apply Rn | apply Rd)); exact HO_7.out) hb)
                have n1_ := Am (Kd.R_below (by (with_reducible repeat (first | apply Ra | apply Rn | apply Rd)); exact HO_8.out) hb)
                have n2_ := Am (Kd.R_below (by (with_reducible repeat (first | apply Ra | apply Rn | apply Rd)); exact HO_9.out) hb)
                have n3_ := Am (Kd.R_below (by (with_reducible repeat (first | apply Ra | apply Rn | apply Rd)); exact HO_10.out) hb)
                have n4_ := Am (Kb (g := gb335) (o := .cells #[.int .i64 ((rd_T26 l0 x62_3).f0), .int .i64 ((rd_T26 l0 x62_3).f1), .int .i64 ((rd_T26 l0 x62_3).f2), .int .i64 ((rd_T26 l0 x62_3).f3), .int .i64 ((rd_T26 l0 x62_3).f4)] 26 (0, 0)) (by (with_reducible repeat (first | refine Kn ?_ _ | refine Ke ?_ | refine Ka ?_ _)); exact BK335.out) hb)
                have n5_ := Am (Bt (by repeat (first | (with_reducible first | exact HB.out | apply Ba | apply Bn | apply Bd | refine Bs ?_ GE335.out) | exact HB.out)) hb)
                clear HO_7
                clear HO_8
                clear HO_9
                clear HO_10
                clear BK335
                clear HB
                have HO_7 := n0_
                have HO_8 := n1_
                have HO_9 := n2_
                have HO_10 := n3_
                have BK335 := n4_
                have HB := n5_
                clear n0_ n1_ n2_ n3_ n4_ n5_
                (try clear hb)
                (try clear hb2)
                (try clear hk)
                (try clear hi)
                refine hK.out _ _ ⟨(Kc BK335.out 0).trans rfl, (Kc BK335.out 1).trans rfl, (Kc BK335.out 2).trans rfl, (Kc BK335.out 3).trans rfl, (Kc BK335.out 4).trans rfl, HS5_, HS6_, HS7_, HS8_⟩ (fun hHeld => ?_)
                clear hK K
                refine norm_ (a' := ?_) ?_ ?_
                rotate_left
                ·show Act.put _ (some 74) _ = _
                 simp only [Act.put, Lt, Lz, Ls, i64_w, i32_w]
                 rfl
                refine pure_ (i := 8) (N := some 75) (v := ?_) (a' := ?_) #[true, true, true, true, true, true, true, true, true, false, false] rfl rfl (any_of HT_.out (by kernel_rfl)) (fun _ _ _ h => h) (Or.inl ⟨by rfl, ?_⟩) ?_ ?_
                rotate_left
                ·intro w'
                 go_simp
                 with_reducible rfl
                rotate_left
                ·simp only [Act.put, Lt, Lz, Ls, i64_w, i32_w]
                 rfl
                refine take_ (i := 9) (N := some 76) (v := ?_) (a' := ?_) #[true, true, true, true, true, true, true, true, true, true, false] rfl rfl (take_ofW HT_.out HW_.out (by kernel_rfl)) (fun _ _ _ h => h) (Or.inl ⟨by rfl, ?_⟩) hHeld ?_ ?_
                rotate_left
                ·rintro w' ⟨s0, s1, s2, s3, s4, s5, s6, s7, s8⟩
                 go_simp
                 with_reducible rfl
                rotate_left
                ·simp only [Act.put, Lt, Lz, Ls, i64_w, i32_w]
                 rfl
                refine pure_ (i := 10) (N := some 77) (v := ?_) (a' := ?_) #[true, true, true, true, true, true, true, true, true, true, true] rfl rfl (any_of HT_.out (by kernel_rfl)) (fun _ _ _ h => h) (Or.inl ⟨by rfl, ?_⟩) ?_ ?_
                rotate_left
                ·intro w'
                 go_simp
                 with_reducible rfl
                rotate_left
                ·simp only [Act.put, Lt, Lz, Ls, i64_w, i32_w]
                 rfl
                refine done_ (done_of HT_.out (by kernel_rfl)) ?_
                try go_wp2
                go_roundg k3
                case measure => have := HJ2.out; have := HK2.out; have := HK3.out; omega
                case rel => exact ⟨(wrap64 (x62_3 + 1)), (by first | rfl | (simp; done) | (simp [*]; done)), H', ⟨by have := HJ2.out; have := HK2.out; have := HK3.out; omega⟩, ⟨by (with_reducible repeat (first | apply Ra | apply Rn | apply Rd)); exact HO_7.out⟩, ⟨by (with_reducible repeat (first | apply Ra | apply Rn | apply Rd)); exact HO_8.out⟩, ⟨by (with_reducible repeat (first | apply Ra | apply Rn | apply Rd)); exact HO_9.out⟩, ⟨by (with_reducible repeat (first | apply Ra | apply Rn | apply Rd)); exact HO_10.out⟩, ⟨by repeat (first | (with_reducible first | exact HB.out | apply Ba | apply Bn | apply Bd | refine Bs ?_ GE335.out) | exact HB.out)⟩⟩
              ·rw [if_neg c37] at H
               exact absurd H (by simp)
             ·rw [if_neg c36] at H
              exact absurd H (by simp)
            ·rw [if_neg c34] at H
             exact absurd H (by simp)
           ·rw [if_neg c33] at H
            exact absurd H (by simp)
          ·rw [if_neg c32] at H
           exact absurd H (by simp)
         ·rw [if_neg c31] at H
          have c31b0 : decide (x62_3 < (l0.length : Int)) = false := decide_eq_false c31
          clear c31
          replace H := Option.bind_eq_some_iff.mp H
          obtain ⟨t339, A530, H⟩ := H
          replace H : (some (t339, true)) = some (r1, r2) := H
          have A53 := Am A530
          clear A530
          simp only [Option.some.injEq, Prod.mk.injEq] at H
          obtain ⟨rfl, rfl⟩ := H
          obtain ⟨Ao54, co54, eo54⟩ := Kd.R_slice HO_7.out
          subst eo54
          obtain ⟨Ao55, co55, eo55⟩ := Kd.R_slice HO_9.out
          subst eo55
          go_wp2_with (first | ((refine Gc (f := 91) rfl ?_); refine goesL_ (some 81) rfl rfl Try.func91 (by kernel_rfl) rfl #[.slice Ao54 t322.length co54, .slice Ao55 t328.length co55] rfl (by first | rfl | (simp only [List.map_toArray, List.map_cons, List.map_nil]; first | done | rfl)) ?_; (with_reducible refine (spec_l1Same.calls k3 _ _ t322 _ _ t328 t339 _ ?side1 ?side2 ?side3 ?side4 A53.out).mono ?_); (case side1 => repeat (first | exact (Kd.R_reads' HO_7.out).2.2 | (with_reducible refine Kd.C_alloc ?_ _) | (with_reducible refine Kd.C_drewN ?_ _) | (with_reducible refine Kd.C_drew ?_))); (case side2 => exact (Kd.R_reads' HO_7.out).2.1); (case side3 => repeat (first | exact (Kd.R_reads' HO_9.out).2.2 | (with_reducible refine Kd.C_alloc ?_ _) | (with_reducible refine Kd.C_drewN ?_ _) | (with_reducible refine Kd.C_drew ?_))); (case side4 => exact (Kd.R_reads' HO_9.out).2.1); rintro e w' ⟨rfl, ⟨nd, rfl⟩⟩; refine ⟨_, rfl, ?_⟩))
          go_ret2
          exact ⟨by first | rfl | (simp [*, errW_none, errW_some] <;> rfl), by repeat (first | exact HB.out | apply Ba | apply Bn | apply Bd)⟩
end Go.Proofs.Yteecmbfebenjjaa.QFnTellsSame
