-- Written by a program of this session (wip/mk.py) over the kit's print: Lean checks it.
import Derived.Test.YteecmbfebenjjaaQFnTellsSamex0
import Derived.Test.YteecmbfebenjjaaQFnTellsSamex1
import Derived.Test.YteecmbfebenjjaaQFnTellsSamex3
import Derived.Test.YteecmbfebenjjaaQFnTellsSamex5
import Derived.Test.YteecmbfebenjjaaQFnTellsSamex8
import Derived.Test.YteecmbfebenjjaaQFnTellsSamex12
namespace Go.Proofs.Yteecmbfebenjjaa.QFnTellsSame
open Go.Proofs.YteecmbfebenjjaaW.PrintWords.Kd renaming R_alloc → Ra, R_drewN → Rn, R_drew → Rd
open Go.Proofs.YteecmbfebenjjaaW.PrintWords renaming below_alloc → Ba, pw_below_drewN → Bn, below_drew1 → Bd, below_set → Bs, below_size → Bz, below_step → Bt, gate_dst → Gd, gate_callee → Gc, box_event → Be, blk_alloc → Ka, blk_drewN → Kn, blk_drew → Ke, blk_cell → Kc, blk_frozen → Kz
open List renaming setIfInBounds_toArray → Lt, set_cons_zero → Lz, set_cons_succ → Ls
open Go.World renaming block_lt_of_cell? → bl_
open Go.Proofs.YteecmbfebenjjaaW.PrintWords.Aside0 renaming mk → Am
open Go.Proofs.YteecmbfebenjjaaW.PrintWords renaming Aside0 → Ad
open Go.RowKit Go.Proofs.YteecmbfebenjjaaW.PrintWords Go.Proofs.YteecmbfebenjjaaW.PrintLast Go.Proofs.YteecmbfebenjjaaW.PrintMore
attribute [local go_sem] max2_int min2_int max_two min_two max_three min_three max_four min_four   -- for this text's walks alone
set_option linter.unusedVariables false
set_option linter.unusedSimpArgs false
attribute [local go_sem high] eqA26
mutual
def laws_FnTellsSame.j0 : Nat → List Int → List (S26) → List (S26) → Bool → Bool → Bool → Option (Bool)
 | 0, _, _, _, _, _, _ => none
 | k + 1, x1, x5, x6, x7, x8, x49 => if x49 = true then (some false) else (if x8 = true then (laws_FnTellsSame.l0 k x1 x5 x6 x7 true (x5.length : Int) 0) else ((spec_DrawTellsSame.f k x1).bind fun bt370 => ((impl_TellsSame.f k bt370.1 bt370.2).bind fun bt376 => ((spec_TellsSame.f k bt370.1 bt370.2).bind fun bt378 => (if (bt376.2 == bt378.2) = true then (some (bt376.1 == bt378.1)) else (some false))))))
def laws_FnTellsSame.l0 : Nat → List Int → List (S26) → List (S26) → Bool → Bool → Int → Int → Option (Bool)
 | 0, _, _, _, _, _, _, _ => none
 | k + 1, x1, x5, x6, x7, x11, x52, x53 => if x53 < x52 then (laws_FnTellsSame.l1 k x1 x5 x6 x7 x11 x53 0 x52 x53) else (if x11 = true then (laws_FnTellsSame.j4 k x1 (!x7)) else (laws_FnTellsSame.j4 k x1 false))
def laws_FnTellsSame.l1 : Nat → List Int → List (S26) → List (S26) → Bool → Bool → Int → Int → Int → Int → Option (Bool)
 | 0, _, _, _, _, _, _, _, _, _ => none
 | k + 1, x1, x5, x6, x7, x11, x12, x13, x52, x53 => if x13 < x12 then (if 0 ≤ x13 then (if x13 < (x5.length : Int) then (if 0 ≤ x12 then (if x12 < (x5.length : Int) then ((impl_Interfere.f k ((rd_T26 x5 x13).f0) ((rd_T26 x5 x13).f1) ((rd_T26 x5 x13).f2) ((rd_T26 x5 x13).f3) ((rd_T26 x5 x13).f4) ((rd_T26 x5 x12).f0) ((rd_T26 x5 x12).f1) ((rd_T26 x5 x12).f2) ((rd_T26 x5 x12).f3) ((rd_T26 x5 x12).f4)).bind fun bt353 => (laws_FnTellsSame.l2 k x1 x5 x6 x7 x11 x12 x13 bt353.1 bt353.2 (-1) (-1) x52 x53 x6 (x6.length : Int) 0)) else (none)) else (none)) else (none)) else (none)) else (laws_FnTellsSame.l0 k x1 x5 x6 x7 x11 x52 (wrap64 (x53 + 1)))
def laws_FnTellsSame.l2 : Nat → List Int → List (S26) → List (S26) → Bool → Bool → Int → Int → Bool → Bool → Int → Int → Int → Int → List (S26) → Int → Int → Option (Bool)
 | 0, _, _, _, _, _, _, _, _, _, _, _, _, _, _, _, _ => none
 | k + 1, x1, x5, x6, x7, x11, x12, x13, x14, x15, x16, x17, x52, x53, x73, x74, x75 => if x75 < x74 then (if 0 ≤ x75 then (if x75 < (x73.length : Int) then (if 0 ≤ x13 then (if x13 < (x5.length : Int) then (if (((rd_T26 x73 x75).f0) == ((rd_T26 x5 x13).f0) && (((rd_T26 x73 x75).f1) == ((rd_T26 x5 x13).f1) && (((rd_T26 x73 x75).f2) == ((rd_T26 x5 x13).f2) && (((rd_T26 x73 x75).f3) == ((rd_T26 x5 x13).f3) && (((rd_T26 x73 x75).f4) == ((rd_T26 x5 x13).f4)))))) = true then (if 0 ≤ x12 then (if x12 < (x5.length : Int) then (if (((rd_T26 x73 x75).f0) == ((rd_T26 x5 x12).f0) && (((rd_T26 x73 x75).f1) == ((rd_T26 x5 x12).f1) && (((rd_T26 x73 x75).f2) == ((rd_T26 x5 x12).f2) && (((rd_T26 x73 x75).f3) == ((rd_T26 x5 x12).f3) && (((rd_T26 x73 x75).f4) == ((rd_T26 x5 x12).f4)))))) = true then (laws_FnTellsSame.l2 k x1 x5 x6 x7 x11 x12 x13 x14 x15 x75 x75 x52 x53 x73 x74 (wrap64 (x75 + 1))) else (laws_FnTellsSame.l2 k x1 x5 x6 x7 x11 x12 x13 x14 x15 x75 x17 x52 x53 x73 x74 (wrap64 (x75 + 1)))) else (none)) else (none)) else (if 0 ≤ x12 then (if x12 < (x5.length : Int) then (if (((rd_T26 x73 x75).f0) == ((rd_T26 x5 x12).f0) && (((rd_T26 x73 x75).f1) == ((rd_T26 x5 x12).f1) && (((rd_T26 x73 x75).f2) == ((rd_T26 x5 x12).f2) && (((rd_T26 x73 x75).f3) == ((rd_T26 x5 x12).f3) && (((rd_T26 x73 x75).f4) == ((rd_T26 x5 x12).f4)))))) = true then (laws_FnTellsSame.l2 k x1 x5 x6 x7 x11 x12 x13 x14 x15 x16 x75 x52 x53 x73 x74 (wrap64 (x75 + 1))) else (laws_FnTellsSame.l2 k x1 x5 x6 x7 x11 x12 x13 x14 x15 x16 x17 x52 x53 x73 x74 (wrap64 (x75 + 1)))) else (none)) else (none))) else (none)) else (none)) else (none)) else (none)) else (if x11 = true then (if x15 = true then (if x14 = true then (laws_FnTellsSame.l1 k x1 x5 x6 x7 (decide (x16 < x17)) x12 (wrap64 (x13 + 1)) x52 x53) else (laws_FnTellsSame.l1 k x1 x5 x6 x7 true x12 (wrap64 (x13 + 1)) x52 x53)) else (laws_FnTellsSame.l1 k x1 x5 x6 x7 true x12 (wrap64 (x13 + 1)) x52 x53)) else (laws_FnTellsSame.l1 k x1 x5 x6 x7 false x12 (wrap64 (x13 + 1)) x52 x53))
def laws_FnTellsSame.j4 : Nat → List Int → Bool → Option (Bool)
 | 0, _, _ => none
 | k + 1, x1, x114 => if x114 = true then (some false) else ((spec_DrawTellsSame.f k x1).bind fun bt360 => ((impl_TellsSame.f k bt360.1 bt360.2).bind fun bt366 => ((spec_TellsSame.f k bt360.1 bt360.2).bind fun bt368 => (if (bt366.2 == bt368.2) = true then (some (bt366.1 == bt368.1)) else (some false)))))
end
def laws_FnTellsSame.f (k : Nat) (l0 : List Int) (l1 : List Int) : Option (Bool) := (laws_big.f l0 l1).bind fun t340 => (if t340 = true then (some true) else ((spec_DrawTellsSame.f k l0).bind fun bt341 => ((impl_TellsSame.f k bt341.1 bt341.2).bind fun bt347 => ((spec_TellsSame.f k bt341.1 bt341.2).bind fun bt349 => (if (bt347.2 != bt349.2) = true then (laws_FnTellsSame.j0 k l1 bt341.1 bt341.2 bt347.1 bt347.2 true) else (laws_FnTellsSame.j0 k l1 bt341.1 bt341.2 bt347.1 bt347.2 (bt347.1 != bt349.1)))))))
theorem laws_FnTellsSame.mono_l : ∀ k, (∀ y0 y1 y2 y3 y4 y5, LeO (laws_FnTellsSame.j0 k y0 y1 y2 y3 y4 y5) (laws_FnTellsSame.j0 (k + 1) y0 y1 y2 y3 y4 y5)) ∧ (∀ y0 y1 y2 y3 y4 y5 y6, LeO (laws_FnTellsSame.l0 k y0 y1 y2 y3 y4 y5 y6) (laws_FnTellsSame.l0 (k + 1) y0 y1 y2 y3 y4 y5 y6)) ∧ (∀ y0 y1 y2 y3 y4 y5 y6 y7 y8, LeO (laws_FnTellsSame.l1 k y0 y1 y2 y3 y4 y5 y6 y7 y8) (laws_FnTellsSame.l1 (k + 1) y0 y1 y2 y3 y4 y5 y6 y7 y8)) ∧ (∀ y0 y1 y2 y3 y4 y5 y6 y7 y8 y9 y10 y11 y12 y13 y14 y15, LeO (laws_FnTellsSame.l2 k y0 y1 y2 y3 y4 y5 y6 y7 y8 y9 y10 y11 y12 y13 y14 y15) (laws_FnTellsSame.l2 (k + 1) y0 y1 y2 y3 y4 y5 y6 y7 y8 y9 y10 y11 y12 y13 y14 y15)) ∧ (∀ y0 y1, LeO (laws_FnTellsSame.j4 k y0 y1) (laws_FnTellsSame.j4 (k + 1) y0 y1))
 | 0 => ⟨fun _ _ _ _ _ _ r h => by simp [laws_FnTellsSame.j0] at h, fun _ _ _ _ _ _ _ r h => by simp [laws_FnTellsSame.l0] at h, fun _ _ _ _ _ _ _ _ _ r h => by simp [laws_FnTellsSame.l1] at h, fun _ _ _ _ _ _ _ _ _ _ _ _ _ _ _ _ r h => by simp [laws_FnTellsSame.l2] at h, fun _ _ r h => by simp [laws_FnTellsSame.j4] at h⟩
 | k + 1 => by
  obtain ⟨ih0, ih1, ih2, ih3, ih4⟩ := laws_FnTellsSame.mono_l k
  refine ⟨?_, ?_, ?_, ?_, ?_⟩
  ·intro y0 y1 y2 y3 y4 y5
   unfold laws_FnTellsSame.j0
   repeat' first
   | (with_reducible exact ih0 _ _ _ _ _ _)
   | (with_reducible exact ih1 _ _ _ _ _ _ _)
   | (with_reducible exact ih2 _ _ _ _ _ _ _ _ _)
   | (with_reducible exact ih3 _ _ _ _ _ _ _ _ _ _ _ _ _ _ _ _)
   | (with_reducible exact ih4 _ _)
   | (with_reducible exact impl_Interfere.mono _ _ _ _ _ _ _ _ _ _ _)
   | (with_reducible exact impl_TellsSame.mono _ _ _)
   | (with_reducible exact spec_DrawTellsSame.mono _ _)
   | (with_reducible exact spec_TellsSame.mono _ _ _)
   | (with_reducible exact LeO.refl _)
   | (with_reducible exact LeO.none _)
   | (with_reducible refine LeO.ite ?_ ?_)
   | (with_reducible refine LeO.bind ?_ (fun _ => ?_))
   | exact ih0 _ _ _ _ _ _
   | exact ih1 _ _ _ _ _ _ _
   | exact ih2 _ _ _ _ _ _ _ _ _
   | exact ih3 _ _ _ _ _ _ _ _ _ _ _ _ _ _ _ _
   | exact ih4 _ _
   | exact impl_Interfere.mono _ _ _ _ _ _ _ _ _ _ _
   | exact impl_TellsSame.mono _ _ _
   | exact spec_DrawTellsSame.mono _ _
   | exact spec_TellsSame.mono _ _ _
   | exact LeO.none _
   | refine LeO.ite ?_ ?_
   | refine LeO.bind ?_ (fun _ => ?_)
  ·intro y0 y1 y2 y3 y4 y5 y6
   unfold laws_FnTellsSame.l0
   repeat' first
   | (with_reducible exact ih0 _ _ _ _ _ _)
   | (with_reducible exact ih1 _ _ _ _ _ _ _)
   | (with_reducible exact ih2 _ _ _ _ _ _ _ _ _)
   | (with_reducible exact ih3 _ _ _ _ _ _ _ _ _ _ _ _ _ _ _ _)
   | (with_reducible exact ih4 _ _)
   | (with_reducible exact impl_Interfere.mono _ _ _ _ _ _ _ _ _ _ _)
   | (with_reducible exact impl_TellsSame.mono _ _ _)
   | (with_reducible exact spec_DrawTellsSame.mono _ _)
   | (with_reducible exact spec_TellsSame.mono _ _ _)
   | (with_reducible exact LeO.refl _)
   | (with_reducible exact LeO.none _)
   | (with_reducible refine LeO.ite ?_ ?_)
   | (with_reducible refine LeO.bind ?_ (fun _ => ?_))
   | exact ih0 _ _ _ _ _ _
   | exact ih1 _ _ _ _ _ _ _
   | exact ih2 _ _ _ _ _ _ _ _ _
   | exact ih3 _ _ _ _ _ _ _ _ _ _ _ _ _ _ _ _
   | exact ih4 _ _
   | exact impl_Interfere.mono _ _ _ _ _ _ _ _ _ _ _
   | exact impl_TellsSame.mono _ _ _
   | exact spec_DrawTellsSame.mono _ _
   | exact spec_TellsSame.mono _ _ _
   | exact LeO.none _
   | refine LeO.ite ?_ ?_
   | refine LeO.bind ?_ (fun _ => ?_)
  ·intro y0 y1 y2 y3 y4 y5 y6 y7 y8
   unfold laws_FnTellsSame.l1
   repeat' first
   | (with_reducible exact ih0 _ _ _ _ _ _)
   | (with_reducible exact ih1 _ _ _ _ _ _ _)
   | (with_reducible exact ih2 _ _ _ _ _ _ _ _ _)
   | (with_reducible exact ih3 _ _ _ _ _ _ _ _ _ _ _ _ _ _ _ _)
   | (with_reducible exact ih4 _ _)
   | (with_reducible exact impl_Interfere.mono _ _ _ _ _ _ _ _ _ _ _)
   | (with_reducible exact impl_TellsSame.mono _ _ _)
   | (with_reducible exact spec_DrawTellsSame.mono _ _)
   | (with_reducible exact spec_TellsSame.mono _ _ _)
   | (with_reducible exact LeO.refl _)
   | (with_reducible exact LeO.none _)
   | (with_reducible refine LeO.ite ?_ ?_)
   | (with_reducible refine LeO.bind ?_ (fun _ => ?_))
   | exact ih0 _ _ _ _ _ _
   | exact ih1 _ _ _ _ _ _ _
   | exact ih2 _ _ _ _ _ _ _ _ _
   | exact ih3 _ _ _ _ _ _ _ _ _ _ _ _ _ _ _ _
   | exact ih4 _ _
   | exact impl_Interfere.mono _ _ _ _ _ _ _ _ _ _ _
   | exact impl_TellsSame.mono _ _ _
   | exact spec_DrawTellsSame.mono _ _
   | exact spec_TellsSame.mono _ _ _
   | exact LeO.none _
   | refine LeO.ite ?_ ?_
   | refine LeO.bind ?_ (fun _ => ?_)
  ·intro y0 y1 y2 y3 y4 y5 y6 y7 y8 y9 y10 y11 y12 y13 y14 y15
   unfold laws_FnTellsSame.l2
   repeat' first
   | (with_reducible exact ih0 _ _ _ _ _ _)
   | (with_reducible exact ih1 _ _ _ _ _ _ _)
   | (with_reducible exact ih2 _ _ _ _ _ _ _ _ _)
   | (with_reducible exact ih3 _ _ _ _ _ _ _ _ _ _ _ _ _ _ _ _)
   | (with_reducible exact ih4 _ _)
   | (with_reducible exact impl_Interfere.mono _ _ _ _ _ _ _ _ _ _ _)
   | (with_reducible exact impl_TellsSame.mono _ _ _)
   | (with_reducible exact spec_DrawTellsSame.mono _ _)
   | (with_reducible exact spec_TellsSame.mono _ _ _)
   | (with_reducible exact LeO.refl _)
   | (with_reducible exact LeO.none _)
   | (with_reducible refine LeO.ite ?_ ?_)
   | (with_reducible refine LeO.bind ?_ (fun _ => ?_))
   | exact ih0 _ _ _ _ _ _
   | exact ih1 _ _ _ _ _ _ _
   | exact ih2 _ _ _ _ _ _ _ _ _
   | exact ih3 _ _ _ _ _ _ _ _ _ _ _ _ _ _ _ _
   | exact ih4 _ _
   | exact impl_Interfere.mono _ _ _ _ _ _ _ _ _ _ _
   | exact impl_TellsSame.mono _ _ _
   | exact spec_DrawTellsSame.mono _ _
   | exact spec_TellsSame.mono _ _ _
   | exact LeO.none _
   | refine LeO.ite ?_ ?_
   | refine LeO.bind ?_ (fun _ => ?_)
  ·intro y0 y1
   unfold laws_FnTellsSame.j4
   repeat' first
   | (with_reducible exact ih0 _ _ _ _ _ _)
   | (with_reducible exact ih1 _ _ _ _ _ _ _)
   | (with_reducible exact ih2 _ _ _ _ _ _ _ _ _)
   | (with_reducible exact ih3 _ _ _ _ _ _ _ _ _ _ _ _ _ _ _ _)
   | (with_reducible exact ih4 _ _)
   | (with_reducible exact impl_Interfere.mono _ _ _ _ _ _ _ _ _ _ _)
   | (with_reducible exact impl_TellsSame.mono _ _ _)
   | (with_reducible exact spec_DrawTellsSame.mono _ _)
   | (with_reducible exact spec_TellsSame.mono _ _ _)
   | (with_reducible exact LeO.refl _)
   | (with_reducible exact LeO.none _)
   | (with_reducible refine LeO.ite ?_ ?_)
   | (with_reducible refine LeO.bind ?_ (fun _ => ?_))
   | exact ih0 _ _ _ _ _ _
   | exact ih1 _ _ _ _ _ _ _
   | exact ih2 _ _ _ _ _ _ _ _ _
   | exact ih3 _ _ _ _ _ _ _ _ _ _ _ _ _ _ _ _
   | exact ih4 _ _
   | exact impl_Interfere.mono _ _ _ _ _ _ _ _ _ _ _
   | exact impl_TellsSame.mono _ _ _
   | exact spec_DrawTellsSame.mono _ _
   | exact spec_TellsSame.mono _ _ _
   | exact LeO.none _
   | refine LeO.ite ?_ ?_
   | refine LeO.bind ?_ (fun _ => ?_)
theorem laws_FnTellsSame.mono : ∀ a0 a1 k, LeO (laws_FnTellsSame.f k a0 a1) (laws_FnTellsSame.f (k + 1) a0 a1) := by
 intro a0 a1 k
 obtain ⟨ih0, ih1, ih2, ih3, ih4⟩ := laws_FnTellsSame.mono_l k
 unfold laws_FnTellsSame.f
 repeat' first
   | (with_reducible exact ih0 _ _ _ _ _ _)
   | (with_reducible exact ih1 _ _ _ _ _ _ _)
   | (with_reducible exact ih2 _ _ _ _ _ _ _ _ _)
   | (with_reducible exact ih3 _ _ _ _ _ _ _ _ _ _ _ _ _ _ _ _)
   | (with_reducible exact ih4 _ _)
   | (with_reducible exact impl_Interfere.mono _ _ _ _ _ _ _ _ _ _ _)
   | (with_reducible exact impl_TellsSame.mono _ _ _)
   | (with_reducible exact spec_DrawTellsSame.mono _ _)
   | (with_reducible exact spec_TellsSame.mono _ _ _)
   | (with_reducible exact LeO.refl _)
   | (with_reducible exact LeO.none _)
   | (with_reducible refine LeO.ite ?_ ?_)
   | (with_reducible refine LeO.bind ?_ (fun _ => ?_))
   | exact ih0 _ _ _ _ _ _
   | exact ih1 _ _ _ _ _ _ _
   | exact ih2 _ _ _ _ _ _ _ _ _
   | exact ih3 _ _ _ _ _ _ _ _ _ _ _ _ _ _ _ _
   | exact ih4 _ _
   | exact impl_Interfere.mono _ _ _ _ _ _ _ _ _ _ _
   | exact impl_TellsSame.mono _ _ _
   | exact spec_DrawTellsSame.mono _ _
   | exact spec_TellsSame.mono _ _ _
   | exact LeO.none _
   | refine LeO.ite ?_ ?_
   | refine LeO.bind ?_ (fun _ => ?_)
def laws_FnTellsSame.T16 : Bool × List (List Nat × List Nat) := (true, [([], []), ([], []), ([0, 1], [0, 1]), ([2], [2]), ([], []), ([], []), ([4, 5], [4, 5]), ([6], [6]), ([3, 7], [3, 7]), ([8], [8]), ([9], [9]), ([9], [9]), ([10, 8, 0, 1, 2, 3, 4, 5, 6, 7, 8, 9, 10], [10]), ([11, 12, 0, 1, 2, 3, 4, 5, 6, 7, 8, 9, 10, 11, 12], [11])])
def laws_FnTellsSame.B16 : List Nat := [0, 0, 3, 7, 0, 0, 48, 112, 255, 511, 1023, 1023, 2047, 8191]
theorem laws_FnTellsSame.tab16 : rtab .any (opsOf Try.f4 16) = laws_FnTellsSame.T16 := by kernel_rfl
theorem laws_FnTellsSame.bits16 : waitsOk laws_FnTellsSame.T16.2 laws_FnTellsSame.B16 = true := by kernel_rfl
set_option maxHeartbeats 8000000 in
set_option maxRecDepth 100000 in
theorem laws_FnTellsSame.calls (k : Nat) (A0 : Option Addr) (c0 : Nat) (l0 : List Int) (A1 : Option Addr) (c1 : Nat) (l1 : List Int) (r : Bool) (w : World) (hr0 : Kd.C (Kd.int .u8) w A0 l0.length l0) (hc0 : l0.length ≤ c0) (hr1 : Kd.C (Kd.int .u8) w A1 l1.length l1) (hc1 : l1.length ≤ c1) (h : laws_FnTellsSame.f k l0 l1 = some r) :
  Calls Try.prog 4 #[.slice A0 l0.length c0, .slice A1 l1.length c1] w fun e w' => e = .returned (.bool r) ∧ Below w.heap.size w w' := by
 have hu26 := Try.underlying26
 have HR0 := Am hr0
 have HC0 := Am hc0
 clear hr0 hc0
 have HR1 := Am hr1
 have HC1 := Am hc1
 clear hr1 hc1
 have HB := Am (Below.refl w.heap.size w)
 have H : ((laws_big.f l0 l1).bind fun t340 => (if t340 = true then (some true) else ((spec_DrawTellsSame.f k l0).bind fun bt341 => ((impl_TellsSame.f k bt341.1 bt341.2).bind fun bt347 => ((spec_TellsSame.f k bt341.1 bt341.2).bind fun bt349 => (if (bt347.2 != bt349.2) = true then (laws_FnTellsSame.j0 k l1 bt341.1 bt341.2 bt347.1 bt347.2 true) else (laws_FnTellsSame.j0 k l1 bt341.1 bt341.2 bt347.1 bt347.2 (bt347.1 != bt349.1)))))))) = some r := h
 clear h
 replace H := Option.bind_eq_some_iff.mp H
 obtain ⟨t340, A30, H⟩ := H
 replace H : (if t340 = true then (some true) else ((spec_DrawTellsSame.f k l0).bind fun bt341 => ((impl_TellsSame.f k bt341.1 bt341.2).bind fun bt347 => ((spec_TellsSame.f k bt341.1 bt341.2).bind fun bt349 => (if (bt347.2 != bt349.2) = true then (laws_FnTellsSame.j0 k l1 bt341.1 bt341.2 bt347.1 bt347.2 true) else (laws_FnTellsSame.j0 k l1 bt341.1 bt341.2 bt347.1 bt347.2 (bt347.1 != bt349.1))))))) = some r := H
 have A3 := Am A30
 clear A30
 by_cases c4 : t340 = true
 ·subst c4
  have H1 : (some true) = some r := by rw [if_pos rfl] at H; exact H
  clear H
  have H := H1
  clear H1
  obtain rfl := Option.some.inj H
  go_enter Try.func4, Try.ntmps4
  go_wp2_with (first | ((refine Gc (f := 11) rfl ?_); refine goesL_ (some 24) rfl rfl Try.func11 (by kernel_rfl) rfl #[.slice A0 l0.length c0, .slice A1 l1.length c1] rfl (by first | rfl | (simp only [List.map_toArray, List.map_cons, List.map_nil]; first | done | rfl)) ?_; (with_reducible refine (laws_big.calls _ _ l0 _ _ l1 true _ ?side1 ?side2 ?side3 ?side4 A3.out).mono ?_); (case side1 => repeat (first | exact HR0.out | (with_reducible refine Kd.C_alloc ?_ _) | (with_reducible refine Kd.C_drewN ?_ _) | (with_reducible refine Kd.C_drew ?_))); (case side2 => exact HC0.out); (case side3 => repeat (first | exact HR1.out | (with_reducible refine Kd.C_alloc ?_ _) | (with_reducible refine Kd.C_drewN ?_ _) | (with_reducible refine Kd.C_drew ?_))); (case side4 => exact HC1.out); rintro e w' ⟨rfl, ⟨nd, rfl⟩⟩; refine ⟨_, rfl, ?_⟩))
  go_ret
  exact ⟨by first | rfl | (simp [*, errW_none, errW_some] <;> rfl), by repeat (first | exact HB.out | apply Ba | apply Bn | apply Bd)⟩
 ·replace c4 := Bool.eq_false_iff.mpr c4
  subst c4
  have H1 : ((spec_DrawTellsSame.f k l0).bind fun bt341 => ((impl_TellsSame.f k bt341.1 bt341.2).bind fun bt347 => ((spec_TellsSame.f k bt341.1 bt341.2).bind fun bt349 => (if (bt347.2 != bt349.2) = true then (laws_FnTellsSame.j0 k l1 bt341.1 bt341.2 bt347.1 bt347.2 true) else (laws_FnTellsSame.j0 k l1 bt341.1 bt341.2 bt347.1 bt347.2 (bt347.1 != bt349.1)))))) = some r := by rw [if_neg (show ¬ (false = true) by decide)] at H; exact H
  clear H
  have H := H1
  clear H1
  replace H := Option.bind_eq_some_iff.mp H
  obtain ⟨⟨t341, t342⟩, A50, H⟩ := H
  replace H : ((impl_TellsSame.f k t341 t342).bind fun bt347 => ((spec_TellsSame.f k t341 t342).bind fun bt349 => (if (bt347.2 != bt349.2) = true then (laws_FnTellsSame.j0 k l1 t341 t342 bt347.1 bt347.2 true) else (laws_FnTellsSame.j0 k l1 t341 t342 bt347.1 bt347.2 (bt347.1 != bt349.1))))) = some r := H
  have A5 := Am A50
  clear A50
  replace H := Option.bind_eq_some_iff.mp H
  obtain ⟨⟨t347, t348⟩, A60, H⟩ := H
  replace H : ((spec_TellsSame.f k t341 t342).bind fun bt349 => (if (t348 != bt349.2) = true then (laws_FnTellsSame.j0 k l1 t341 t342 t347 t348 true) else (laws_FnTellsSame.j0 k l1 t341 t342 t347 t348 (t347 != bt349.1)))) = some r := H
  have A6 := Am A60
  clear A60
  replace H := Option.bind_eq_some_iff.mp H
  obtain ⟨⟨t349, t350⟩, A70, H⟩ := H
  replace H : (if (t348 != t350) = true then (laws_FnTellsSame.j0 k l1 t341 t342 t347 t348 true) else (laws_FnTellsSame.j0 k l1 t341 t342 t347 t348 (t347 != t349))) = some r := H
  have A7 := Am A70
  clear A70
  have HC8 := Am H
  clear H
  go_enter Try.func4, Try.ntmps4
  go_upto_region 6 with (first | ((refine Gc (f := 11) rfl ?_); refine goesL_ (some 24) rfl rfl Try.func11 (by kernel_rfl) rfl #[.slice A0 l0.length c0, .slice A1 l1.length c1] rfl (by first | rfl | (simp only [List.map_toArray, List.map_cons, List.map_nil]; first | done | rfl)) ?_; (with_reducible refine (laws_big.calls _ _ l0 _ _ l1 false _ ?side1 ?side2 ?side3 ?side4 A3.out).mono ?_); (case side1 => repeat (first | exact HR0.out | (with_reducible refine Kd.C_alloc ?_ _) | (with_reducible refine Kd.C_drewN ?_ _) | (with_reducible refine Kd.C_drew ?_))); (case side2 => exact HC0.out); (case side3 => repeat (first | exact HR1.out | (with_reducible refine Kd.C_alloc ?_ _) | (with_reducible refine Kd.C_drewN ?_ _) | (with_reducible refine Kd.C_drew ?_))); (case side4 => exact HC1.out); rintro e w' ⟨rfl, ⟨nd, rfl⟩⟩; refine ⟨_, rfl, ?_⟩) | ((refine Gc (f := 28) rfl ?_); refine goesL_ (some 27) rfl rfl Try.func28 (by kernel_rfl) rfl #[.slice A0 l0.length c0] rfl (by first | rfl | (simp only [List.map_toArray, List.map_cons, List.map_nil]; first | done | rfl)) ?_; (with_reducible refine (spec_DrawTellsSame.calls k _ _ l0 t341 t342 _ ?side1 ?side2 A5.out).mono ?_); (case side1 => repeat (first | exact HR0.out | (with_reducible refine Kd.C_alloc ?_ _) | (with_reducible refine Kd.C_drewN ?_ _) | (with_reducible refine Kd.C_drew ?_))); (case side2 => exact HC0.out); rintro e w9 ⟨v343, v345, rfl, ho0, ho1, hb⟩; refine ⟨_, rfl, ?_⟩; have n0_ := Am (Kd.R_lower ho0 (Bz (by repeat (first | exact HB.out | apply Ba | apply Bn | apply Bd)))); have n1_ := Am (Kd.R_lower ho1 (Bz (by repeat (first | exact HB.out | apply Ba | apply Bn | apply Bd)))); have n2_ := Am (Bt (by repeat (first | exact HB.out | apply Ba | apply Bn | apply Bd)) hb); clear HB; have HO344 := n0_; have HO346 := n1_; have HB := n2_; clear n0_ n1_ n2_; (try clear hb); (try clear hb2); (try clear hk); (try clear hi); (try clear ho0); (try clear ho1); obtain ⟨Ao10, co10, eo10⟩ := Kd.R_slice HO344.out; subst eo10; obtain ⟨Ao11, co11, eo11⟩ := Kd.R_slice HO346.out; subst eo11) | ((refine Gc (f := 29) rfl ?_); refine goesL_ (some 33) rfl rfl Try.func29 (by kernel_rfl) rfl #[.slice Ao10 t341.length co10, .slice Ao11 t342.length co11] rfl (by first | rfl | (simp only [List.map_toArray, List.map_cons, List.map_nil]; first | done | rfl)) ?_; (with_reducible refine (impl_TellsSame.calls k _ _ t341 _ _ t342 t347 t348 _ ?side1 ?side2 ?side3 ?side4 A6.out).mono ?_); (case side1 => repeat (first | exact (Kd.R_reads' HO344.out).2.2 | (with_reducible refine Kd.C_alloc ?_ _) | (with_reducible refine Kd.C_drewN ?_ _) | (with_reducible refine Kd.C_drew ?_))); (case side2 => exact (Kd.R_reads' HO344.out).2.1); (case side3 => repeat (first | exact (Kd.R_reads' HO346.out).2.2 | (with_reducible refine Kd.C_alloc ?_ _) | (with_reducible refine Kd.C_drewN ?_ _) | (with_reducible refine Kd.C_drew ?_))); (case side4 => exact (Kd.R_reads' HO346.out).2.1); rintro e w12 ⟨rfl, hb⟩; refine ⟨_, rfl, ?_⟩; have n0_ := Am (Kd.R_below (by (with_reducible repeat (first | apply Ra | apply Rn | apply Rd)); exact HO344.out) hb); have n1_ := Am (Kd.R_below (by (with_reducible repeat (first | apply Ra | apply Rn | apply Rd)); exact HO346.out) hb); have n2_ := Am (Bt (by repeat (first | exact HB.out | apply Ba | apply Bn | apply Bd)) hb); clear HO344; clear HO346; clear HB; have HO344 := n0_; have HO346 := n1_; have HB := n2_; clear n0_ n1_ n2_; (try clear hb); (try clear hb2); (try clear hk); (try clear hi)) | ((refine Gc (f := 30) rfl ?_); refine goesL_ (some 39) rfl rfl Try.func30 (by kernel_rfl) rfl #[.slice Ao10 t341.length co10, .slice Ao11 t342.length co11] rfl (by first | rfl | (simp only [List.map_toArray, List.map_cons, List.map_nil]; first | done | rfl)) ?_; (with_reducible refine (spec_TellsSame.calls k _ _ t341 _ _ t342 t349 t350 _ ?side1 ?side2 ?side3 ?side4 A7.out).mono ?_); (case side1 => repeat (first | exact (Kd.R_reads' HO344.out).2.2 | (with_reducible refine Kd.C_alloc ?_ _) | (with_reducible refine Kd.C_drewN ?_ _) | (with_reducible refine Kd.C_drew ?_))); (case side2 => exact (Kd.R_reads' HO344.out).2.1); (case side3 => repeat (first | exact (Kd.R_reads' HO346.out).2.2 | (with_reducible refine Kd.C_alloc ?_ _) | (with_reducible refine Kd.C_drewN ?_ _) | (with_reducible refine Kd.C_drew ?_))); (case side4 => exact (Kd.R_reads' HO346.out).2.1); rintro e w13 ⟨rfl, hb⟩; refine ⟨_, rfl, ?_⟩; have n0_ := Am (Kd.R_below (by (with_reducible repeat (first | apply Ra | apply Rn | apply Rd)); exact HO344.out) hb); have n1_ := Am (Kd.R_below (by (with_reducible repeat (first | apply Ra | apply Rn | apply Rd)); exact HO346.out) hb); have n2_ := Am (Bt (by repeat (first | exact HB.out | apply Ba | apply Bn | apply Bd)) hb); clear HO344; clear HO346; clear HB; have HO344 := n0_; have HO346 := n1_; have HB := n2_; clear n0_ n1_ n2_; (try clear hb); (try clear hb2); (try clear hk); (try clear hi)))
  (try simp only [Act.put, Lt, Lz, Ls])
  go_cut [49] (fun v49 wc => ∃ (kq : Nat) (x49_7 : Bool), v49 = .bool x49_7 ∧ Ad (laws_FnTellsSame.j0 kq l1 t341 t342 t347 t348 x49_7 = some r) ∧ Ad (kq ≤ k) ∧ Ad (Kd.R k26 26 wc w.heap.size (fun k_ => some k_ ≠ ((.slice Ao11 t342.length co11) : Value).ownBlock) (.slice Ao10 t341.length co10) t341) ∧ Ad (Kd.R k26 26 wc w.heap.size (fun k_ => some k_ ≠ ((.slice Ao10 t341.length co10) : Value).ownBlock) (.slice Ao11 t342.length co11) t342) ∧ Ad (Below w.heap.size w wc))
  case first =>
   have H := HC8.out
   clear HC8
   by_cases c14 : (t348 != t350) = true
   ·rw [if_pos c14] at H
    have c14b0 : (t348 != t350) = true := c14
    (try (have c14b1 : decide (t348 = t350) = false := by simpa using c14))
    (try (have c14b2 : (t348 == t350) = false := by simpa using c14))
    (try (have c14b3 : ¬ (t348 = t350) := by simpa using c14))
    clear c14
    (first | rw [c14b0] | (simp only [i64_w, i32_w]; rw [c14b0]) | skip)
    have H' := Am H
    clear H
    go_wp2
    go_meet
    case rel => exact ⟨_, (true), (by first | rfl | (simp; done) | (simp [*]; done)), H', ⟨by first | omega | exact Nat.le_refl _⟩, ⟨by (with_reducible repeat (first | apply Ra | apply Rn | apply Rd)); exact HO344.out⟩, ⟨by (with_reducible repeat (first | apply Ra | apply Rn | apply Rd)); exact HO346.out⟩, ⟨by repeat (first | exact HB.out | apply Ba | apply Bn | apply Bd)⟩⟩
   ·rw [if_neg c14] at H
    have c14b0 : (t348 != t350) = false := by simpa using c14
    (try (have c14b1 : decide (t348 = t350) = true := by simpa using c14))
    (try (have c14b2 : (t348 == t350) = true := by simpa using c14))
    clear c14
    (first | rw [c14b0] | (simp only [i64_w, i32_w]; rw [c14b0]) | skip)
    have H' := Am H
    clear H
    go_wp2
    go_meet
    case rel => exact ⟨_, ((t347 != t349)), (by first | rfl | (simp; done) | (simp [*]; done)), H', ⟨by first | omega | exact Nat.le_refl _⟩, ⟨by (with_reducible repeat (first | apply Ra | apply Rn | apply Rd)); exact HO344.out⟩, ⟨by (with_reducible repeat (first | apply Ra | apply Rn | apply Rd)); exact HO346.out⟩, ⟨by repeat (first | exact HB.out | apply Ba | apply Bn | apply Bd)⟩⟩
  case rest =>
   clear HC8
   try clear c1
   try clear c2
   try clear p2
   try clear c3
   try clear c4
   try clear c11
   try clear c14
   try clear c14b0
   try clear c14b1
   try clear c14b2
   obtain ⟨kq, x49_7, rfl, HA, HJ7, HO_5, HO_6, HB⟩ := hcut
   cases kq with
   | zero => exact absurd HA.out (by simp [laws_FnTellsSame.j0])
   | succ kj7 =>
    have H := HA.out
    clear HA
    simp only [laws_FnTellsSame.j0] at H
    by_cases c15 : x49_7 = true
    ·subst c15
     have H1 : (some false) = some r := by rw [if_pos rfl] at H; exact H
     clear H
     have H := H1
     clear H1
     obtain rfl := Option.some.inj H
     go_wp2
     go_ret
     exact ⟨by first | rfl | (simp [*, errW_none, errW_some] <;> rfl), by repeat (first | exact HB.out | apply Ba | apply Bn | apply Bd)⟩
    ·replace c15 := Bool.eq_false_iff.mpr c15
     subst c15
     have H1 : (if t348 = true then (laws_FnTellsSame.l0 kj7 l1 t341 t342 t347 true (t341.length : Int) 0) else ((spec_DrawTellsSame.f kj7 l1).bind fun bt370 => ((impl_TellsSame.f kj7 bt370.1 bt370.2).bind fun bt376 => ((spec_TellsSame.f kj7 bt370.1 bt370.2).bind fun bt378 => (if (bt376.2 == bt378.2) = true then (some (bt376.1 == bt378.1)) else (some false)))))) = some r := by rw [if_neg (show ¬ (false = true) by decide)] at H; exact H
     clear H
     have H := H1
     clear H1
     by_cases c16 : t348 = true
     ·subst c16
      have H1 : (laws_FnTellsSame.l0 kj7 l1 t341 t342 t347 true (t341.length : Int) 0) = some r := by rw [if_pos rfl] at H; exact H
      clear H
      have H := H1
      clear H1
      have H' := Am H
      clear H
      go_wp2
      go_loopg [11, 53] kj7 (fun kq v11 v53 w' => ∃ (x11_2 : Bool) (x53_2 : Int), v11 = .bool x11_2 ∧ v53 = .int .i64 x53_2 ∧ Ad (laws_FnTellsSame.l0 kq l1 t341 t342 t347 x11_2 (t341.length : Int) x53_2 = some r) ∧ Ad (kq ≤ kj7) ∧ Ad (Kd.R k26 26 w' w.heap.size (fun k_ => some k_ ≠ ((.slice Ao11 t342.length co11) : Value).ownBlock) (.slice Ao10 t341.length co10) t341) ∧ Ad (Kd.R k26 26 w' w.heap.size (fun k_ => some k_ ≠ ((.slice Ao10 t341.length co10) : Value).ownBlock) (.slice Ao11 t342.length co11) t342) ∧ Ad (Below w.heap.size w w'))
      case atStart => exact ⟨(true), (0), (by first | rfl | (simp; done) | (simp [*]; done)), (by first | rfl | (simp; done) | (simp [*]; done)), H', ⟨Nat.le_refl _⟩, ⟨by (with_reducible repeat (first | apply Ra | apply Rn | apply Rd)); exact HO_5.out⟩, ⟨by (with_reducible repeat (first | apply Ra | apply Rn | apply Rd)); exact HO_6.out⟩, ⟨by repeat (first | exact HB.out | apply Ba | apply Bn | apply Bd)⟩⟩
      case round =>
       clear H'
       try clear c1
       try clear c2
       try clear p2
       try clear c3
       try clear c4
       try clear c11
       try clear c14
       try clear c14b0
       try clear c14b1
       try clear c14b2
       try clear c15
       try clear c16
       try clear p2
       obtain ⟨x11_2, x53_2, rfl, rfl, HA, HK2, HO_5, HO_6, HB⟩ := hrel
       cases gk with
       | zero => exact absurd HA.out (by simp [laws_FnTellsSame.l0])
       | succ k2 =>
        have H := HA.out
        clear HA
        simp only [laws_FnTellsSame.l0] at H
        by_cases c17 : x53_2 < (t341.length : Int)
        ·rw [if_pos c17] at H
         have c17b0 : decide (x53_2 < (t341.length : Int)) = true := decide_eq_true c17
         clear c17
         have H' := Am H
         clear H
         go_wp2
         go_loopg [11, 13] k2 (fun kq v11 v13 w' => ∃ (x11_3 : Bool) (x13_3 : Int), v11 = .bool x11_3 ∧ v13 = .int .i64 x13_3 ∧ Ad (laws_FnTellsSame.l1 kq l1 t341 t342 t347 x11_3 x53_2 x13_3 (t341.length : Int) x53_2 = some r) ∧ Ad (kq ≤ k2) ∧ Ad (Kd.R k26 26 w' w.heap.size (fun k_ => some k_ ≠ ((.slice Ao11 t342.length co11) : Value).ownBlock) (.slice Ao10 t341.length co10) t341) ∧ Ad (Kd.R k26 26 w' w.heap.size (fun k_ => some k_ ≠ ((.slice Ao10 t341.length co10) : Value).ownBlock) (.slice Ao11 t342.length co11) t342) ∧ Ad (Below w.heap.size w w'))
         case atStart => exact ⟨(x11_2), (0), (by first | rfl | (simp; done) | (simp [*]; done)), (by first | rfl | (simp; done) | (simp [*]; done)), H', ⟨Nat.le_refl _⟩, ⟨by (with_reducible repeat (first | apply Ra | apply Rn | apply Rd)); exact HO_5.out⟩, ⟨by (with_reducible repeat (first | apply Ra | apply Rn | apply Rd)); exact HO_6.out⟩, ⟨by repeat (first | exact HB.out | apply Ba | apply Bn | apply Bd)⟩⟩
         case round =>
          clear H'
          try clear c1
          try clear c2
          try clear p2
          try clear c3
          try clear c4
          try clear c11
          try clear c14
          try clear c14b0
          try clear c14b1
          try clear c14b2
          try clear c15
          try clear c16
          try clear c17
          try clear c17b0
          try clear p2
          obtain ⟨x11_3, x13_3, rfl, rfl, HA, HK3, HO_5, HO_6, HB⟩ := hrel
          cases gk with
          | zero => exact absurd HA.out (by simp [laws_FnTellsSame.l1])
          | succ k3 =>
           have H := HA.out
           clear HA
           simp only [laws_FnTellsSame.l1] at H
           by_cases c18 : x13_3 < x53_2
           ·rw [if_pos c18] at H
            have c18b0 : decide (x13_3 < x53_2) = true := decide_eq_true c18
            clear c18
            by_cases c19 : 0 ≤ x13_3
            ·rw [if_pos c19] at H
             have c19b0 : decide (0 ≤ x13_3) = true := decide_eq_true c19
             clear c19
             by_cases c20 : x13_3 < (t341.length : Int)
             ·rw [if_pos c20] at H
              have c20b0 : decide (x13_3 < (t341.length : Int)) = true := decide_eq_true c20
              clear c20
              by_cases c21 : 0 ≤ x53_2
              ·rw [if_pos c21] at H
               have c21b0 : decide (0 ≤ x53_2) = true := decide_eq_true c21
               clear c21
               by_cases c22 : x53_2 < (t341.length : Int)
               ·rw [if_pos c22] at H
                have c22b0 : decide (x53_2 < (t341.length : Int)) = true := decide_eq_true c22
                clear c22
                replace H := Option.bind_eq_some_iff.mp H
                obtain ⟨⟨t353, t354⟩, A230, H⟩ := H
                replace H : (laws_FnTellsSame.l2 k3 l1 t341 t342 t347 x11_3 x53_2 x13_3 t353 t354 (-1) (-1) (t341.length : Int) x53_2 t342 (t342.length : Int) 0) = some r := H
                have A23 := Am A230
                clear A230
                have H' := Am H
                clear H
                try go_wp2
                have n0_ := Am (Rd HO_5.out)
                have n1_ := Am (Rd HO_6.out)
                have n2_ := Am (Bd HB.out)
                clear HO_5
                clear HO_6
                clear HB
                have HO_5 := n0_
                have HO_6 := n1_
                have HB := n2_
                clear n0_ n1_ n2_
                have p351 : 0 ≤ (x13_3 : Int) := of_decide_eq_true (by assumption)
                have q351 : x13_3 < (t341.length : Int) := of_decide_eq_true (by assumption)
                obtain ⟨ad351, e351, hx351_0, hx351_1, hx351_2, hx351_3, hx351_4⟩ := at_T26 (Kd.R_reads' HO_5.out).2.2 x13_3 p351 q351
                cases e351
                replace p351 := eq_true p351
                replace q351 := eq_true q351
                have p352 : 0 ≤ (x53_2 : Int) := of_decide_eq_true (by assumption)
                have q352 : x53_2 < (t341.length : Int) := of_decide_eq_true (by assumption)
                obtain ⟨ad352, e352, hx352_0, hx352_1, hx352_2, hx352_3, hx352_4⟩ := at_T26 (Kd.R_reads' HO_5.out).2.2 x53_2 p352 q352
                obtain rfl : ad351 = ad352 := (by injection e352)
                replace p352 := eq_true p352
                replace q352 := eq_true q352
                refine start_ (n := 14) (S := fun w' => w'.cell? (ad351.add ((x13_3).toNat * 5)) = some (.int .i64 ((rd_T26 t341 x13_3).f0)) ∧ w'.cell? ⟨(ad351.add ((x13_3).toNat * 5)).block, (ad351.add ((x13_3).toNat * 5)).off + 1, none⟩ = some (.int .i64 ((rd_T26 t341 x13_3).f1)) ∧ w'.cell? ⟨(ad351.add ((x13_3).toNat * 5)).block, (ad351.add ((x13_3).toNat * 5)).off + 2, none⟩ = some (.int .i64 ((rd_T26 t341 x13_3).f2)) ∧ w'.cell? ⟨(ad351.add ((x13_3).toNat * 5)).block, (ad351.add ((x13_3).toNat * 5)).off + 3, none⟩ = some (.int .i64 ((rd_T26 t341 x13_3).f3)) ∧ w'.cell? ⟨(ad351.add ((x13_3).toNat * 5)).block, (ad351.add ((x13_3).toNat * 5)).off + 4, none⟩ = some (.int .i64 ((rd_T26 t341 x13_3).f4)) ∧ w'.cell? (ad351.add ((x53_2).toNat * 5)) = some (.int .i64 ((rd_T26 t341 x53_2).f0)) ∧ w'.cell? ⟨(ad351.add ((x53_2).toNat * 5)).block, (ad351.add ((x53_2).toNat * 5)).off + 1, none⟩ = some (.int .i64 ((rd_T26 t341 x53_2).f1)) ∧ w'.cell? ⟨(ad351.add ((x53_2).toNat * 5)).block, (ad351.add ((x53_2).toNat * 5)).off + 2, none⟩ = some (.int .i64 ((rd_T26 t341 x53_2).f2)) ∧ w'.cell? ⟨(ad351.add ((x53_2).toNat * 5)).block, (ad351.add ((x53_2).toNat * 5)).off + 3, none⟩ = some (.int .i64 ((rd_T26 t341 x53_2).f3)) ∧ w'.cell? ⟨(ad351.add ((x53_2).toNat * 5)).block, (ad351.add ((x53_2).toNat * 5)).off + 4, none⟩ = some (.int .i64 ((rd_T26 t341 x53_2).f4))) (ds := []) #[false, false, false, false, false, false, false, false, false, false, false, false, false, false] (by kernel_rfl) rfl rfl ⟨hx351_0, hx351_1, hx351_2, hx351_3, hx351_4, hx352_0, hx352_1, hx352_2, hx352_3, hx352_4⟩ (fun hHeld => ?_); refine with_tabW laws_FnTellsSame.tab16 laws_FnTellsSame.bits16 (fun HT_ HW_ => ?_)
                generalize wr.drew = w24 at HO_5 HO_6 HB hx351_0 hx351_1 hx351_2 hx351_3 hx351_4 hx352_0 hx352_1 hx352_2 hx352_3 hx352_4 hHeld ⊢
                refine pure_ (i := 0) (N := some 62) (v := ?_) (a' := ?_) #[true, false, false, false, false, false, false, false, false, false, false, false, false, false] rfl rfl (any_of HT_.out (by kernel_rfl)) (fun _ _ _ h => h) (Or.inl ⟨by rfl, ?_⟩) ?_ ?_
                rotate_left
                ·intro w'
                 go_simp
                 with_reducible rfl
                rotate_left
                ·simp only [Act.put, Lt, Lz, Ls, i64_w, i32_w]
                 rfl
                refine pure_ (i := 1) (N := some 63) (v := ?_) (a' := ?_) #[true, true, false, false, false, false, false, false, false, false, false, false, false, false] rfl rfl (any_of HT_.out (by kernel_rfl)) (fun _ _ _ h => h) (Or.inl ⟨by rfl, ?_⟩) ?_ ?_
                rotate_left
                ·intro w'
                 go_simp
                 with_reducible rfl
                rotate_left
                ·simp only [Act.put, Lt, Lz, Ls, i64_w, i32_w]
                 rfl
                refine pure_ (i := 2) (N := some 64) (v := ?_) (a' := ?_) #[true, true, true, false, false, false, false, false, false, false, false, false, false, false] rfl rfl (any_of HT_.out (by kernel_rfl)) (fun _ _ _ h => h) (Or.inl ⟨by rfl, ?_⟩) ?_ ?_
                rotate_left
                ·intro w'
                 go_simp
                 with_reducible rfl
                rotate_left
                ·simp only [Act.put, Lt, Lz, Ls, i64_w, i32_w]
                 rfl
                refine pure_ (i := 4) (N := some 66) (v := ?_) (a' := ?_) #[true, true, true, false, true, false, false, false, false, false, false, false, false, false] rfl rfl (any_of HT_.out (by kernel_rfl)) (fun _ _ _ h => h) (Or.inl ⟨by rfl, ?_⟩) ?_ ?_
                rotate_left
                ·intro w'
                 go_simp
                 with_reducible rfl
                rotate_left
                ·simp only [Act.put, Lt, Lz, Ls, i64_w, i32_w]
                 rfl
                refine pure_ (i := 5) (N := some 67) (v := ?_) (a' := ?_) #[true, true, true, false, true, true, false, false, false, false, false, false, false, false] rfl rfl (any_of HT_.out (by kernel_rfl)) (fun _ _ _ h => h) (Or.inl ⟨by rfl, ?_⟩) ?_ ?_
                rotate_left
                ·intro w'
                 go_simp
                 with_reducible rfl
                rotate_left
                ·simp only [Act.put, Lt, Lz, Ls, i64_w, i32_w]
                 rfl
                refine pure_ (i := 6) (N := some 68) (v := ?_) (a' := ?_) #[true, true, true, false, true, true, true, false, false, false, false, false, false, false] rfl rfl (any_of HT_.out (by kernel_rfl)) (fun _ _ _ h => h) (Or.inl ⟨by rfl, ?_⟩) ?_ ?_
                rotate_left
                ·intro w'
                 go_simp
                 with_reducible rfl
                rotate_left
                ·simp only [Act.put, Lt, Lz, Ls, i64_w, i32_w]
                 rfl
                refine take_ (i := 3) (N := some 65) (v := ?_) (a' := ?_) #[true, true, true, true, true, true, true, false, false, false, false, false, false, false] rfl rfl (take_ofW HT_.out HW_.out (by kernel_rfl)) (fun _ _ _ h => h) (Or.inl ⟨by rfl, ?_⟩) hHeld ?_ ?_
                rotate_left
                ·rintro w' ⟨s0, s1, s2, s3, s4, s5, s6, s7, s8, s9⟩
                 go_simp
                 with_reducible rfl
                rotate_left
                ·simp only [Act.put, Lt, Lz, Ls, i64_w, i32_w]
                 rfl
                refine take_ (i := 7) (N := some 69) (v := ?_) (a' := ?_) #[true, true, true, true, true, true, true, true, false, false, false, false, false, false] rfl rfl (take_ofW HT_.out HW_.out (by kernel_rfl)) (fun _ _ _ h => h) (Or.inl ⟨by rfl, ?_⟩) hHeld ?_ ?_
                rotate_left
                ·rintro w' ⟨s0, s1, s2, s3, s4, s5, s6, s7, s8, s9⟩
                 go_simp
                 with_reducible rfl
                rotate_left
                ·simp only [Act.put, Lt, Lz, Ls, i64_w, i32_w]
                 rfl
                refine one_ (i := 8) (N := some 70) #[true, true, true, true, true, true, true, true, true, false, false, false, false, false] rfl rfl (one_of HT_.out (by kernel_rfl)) (by decide) (fun K hK => ?_)
                refine goes_ Try.func21 (by kernel_rfl) rfl #[.agg #[.int .i64 ((rd_T26 t341 x13_3).f0), .int .i64 ((rd_T26 t341 x13_3).f1), .int .i64 ((rd_T26 t341 x13_3).f2), .int .i64 ((rd_T26 t341 x13_3).f3), .int .i64 ((rd_T26 t341 x13_3).f4)], .agg #[.int .i64 ((rd_T26 t341 x53_2).f0), .int .i64 ((rd_T26 t341 x53_2).f1), .int .i64 ((rd_T26 t341 x53_2).f2), .int .i64 ((rd_T26 t341 x53_2).f3), .int .i64 ((rd_T26 t341 x53_2).f4)]] (by rfl) rfl rfl (by first | rfl | (simp only [List.map_toArray, List.map_cons, List.map_nil]; first | done | rfl)) ?_
                with_reducible refine (impl_Interfere.calls k3 ((rd_T26 t341 x13_3).f0) ((rd_T26 t341 x13_3).f1) ((rd_T26 t341 x13_3).f2) ((rd_T26 t341 x13_3).f3) ((rd_T26 t341 x13_3).f4) ((rd_T26 t341 x53_2).f0) ((rd_T26 t341 x53_2).f1) ((rd_T26 t341 x53_2).f2) ((rd_T26 t341 x53_2).f3) ((rd_T26 t341 x53_2).f4) t353 t354 _ A23.out).mono ?_
                rintro e w25 ⟨rfl, hb⟩
                have HS0_ := (hb.cell (bl_ _ _ (hHeld.1))).trans (hHeld.1)
                have HS1_ := (hb.cell (bl_ _ _ (hHeld.2.1))).trans (hHeld.2.1)
                have HS2_ := (hb.cell (bl_ _ _ (hHeld.2.2.1))).trans (hHeld.2.2.1)
                have HS3_ := (hb.cell (bl_ _ _ (hHeld.2.2.2.1))).trans (hHeld.2.2.2.1)
                have HS4_ := (hb.cell (bl_ _ _ (hHeld.2.2.2.2.1))).trans (hHeld.2.2.2.2.1)
                have HS5_ := (hb.cell (bl_ _ _ (hHeld.2.2.2.2.2.1))).trans (hHeld.2.2.2.2.2.1)
                have HS6_ := (hb.cell (bl_ _ _ (hHeld.2.2.2.2.2.2.1))).trans (hHeld.2.2.2.2.2.2.1)
                have HS7_ := (hb.cell (bl_ _ _ (hHeld.2.2.2.2.2.2.2.1))).trans (hHeld.2.2.2.2.2.2.2.1)
                have HS8_ := (hb.cell (bl_ _ _ (hHeld.2.2.2.2.2.2.2.2.1))).trans (hHeld.2.2.2.2.2.2.2.2.1)
                have HS9_ := (hb.cell (bl_ _ _ (hHeld.2.2.2.2.2.2.2.2.2))).trans (hHeld.2.2.2.2.2.2.2.2.2)
                refine ⟨_, rfl, ?_⟩
                have n0_ := Am (Kd.R_below (by (with_reducible repeat (first | apply Ra | apply Rn | apply Rd)); exact HO_5.out) hb)
                have n1_ := Am (Kd.R_below (by (with_reducible repeat (first | apply Ra | apply Rn | apply Rd)); exact HO_6.out) hb)
                have n2_ := Am (Bt (by repeat (first | exact HB.out | apply Ba | apply Bn | apply Bd)) hb)
                clear HO_5
                clear HO_6
                clear HB
                have HO_5 := n0_
                have HO_6 := n1_
                have HB := n2_
                clear n0_ n1_ n2_
                (try clear hb)
                (try clear hb2)
                (try clear hk)
                (try clear hi)
                refine hK.out _ _ ⟨HS0_, HS1_, HS2_, HS3_, HS4_, HS5_, HS6_, HS7_, HS8_, HS9_⟩ (fun hHeld => ?_)
                clear hK K
                refine norm_ (a' := ?_) ?_ ?_
                rotate_left
                ·show Act.put _ (some 70) _ = _
                 simp only [Act.put, Lt, Lz, Ls, i64_w, i32_w]
                 rfl
                refine pure_ (i := 9) (N := some 61) (v := ?_) (a' := ?_) #[true, true, true, true, true, true, true, true, true, true, false, false, false, false] rfl rfl (any_of HT_.out (by kernel_rfl)) (fun _ _ _ h => h) (Or.inl ⟨by rfl, ?_⟩) ?_ ?_
                rotate_left
                ·intro w'
                 go_simp
                 with_reducible rfl
                rotate_left
                ·simp only [Act.put, Lt, Lz, Ls, i64_w, i32_w]
                 rfl
                refine pure_ (i := 10) (N := some 71) (v := ?_) (a' := ?_) #[true, true, true, true, true, true, true, true, true, true, true, false, false, false] rfl rfl (any_of HT_.out (by kernel_rfl)) (fun _ _ _ h => h) (Or.inl ⟨by rfl, ?_⟩) ?_ ?_
                rotate_left
                ·intro w'
                 go_simp
                 with_reducible rfl
                rotate_left
                ·simp only [Act.put, Lt, Lz, Ls, i64_w, i32_w]
                 rfl
                refine pure_ (i := 11) (N := some 72) (v := ?_) (a' := ?_) #[true, true, true, true, true, true, true, true, true, true, true, true, false, false] rfl rfl (any_of HT_.out (by kernel_rfl)) (fun _ _ _ h => h) (Or.inl ⟨by rfl, ?_⟩) ?_ ?_
                rotate_left
                ·intro w'
                 go_simp
                 with_reducible rfl
                rotate_left
                ·simp only [Act.put, Lt, Lz, Ls, i64_w, i32_w]
                 rfl
                refine pure_ (i := 12) (N := some 14) (v := ?_) (a' := ?_) #[true, true, true, true, true, true, true, true, true, true, true, true, true, false] rfl rfl (any_of HT_.out (by kernel_rfl)) (fun _ _ _ h => h) (Or.inl ⟨by rfl, ?_⟩) ?_ ?_
                rotate_left
                ·intro w'
                 go_simp
                 with_reducible rfl
                rotate_left
                ·simp only [Act.put, Lt, Lz, Ls, i64_w, i32_w]
                 rfl
                refine pure_ (i := 13) (N := some 15) (v := ?_) (a' := ?_) #[true, true, true, true, true, true, true, true, true, true, true, true, true, true] rfl rfl (any_of HT_.out (by kernel_rfl)) (fun _ _ _ h => h) (Or.inl ⟨by rfl, ?_⟩) ?_ ?_
                rotate_left
                ·intro w'
                 go_simp
                 with_reducible rfl
                rotate_left
                ·simp only [Act.put, Lt, Lz, Ls, i64_w, i32_w]
                 rfl
                refine done_ (done_of HT_.out (by kernel_rfl)) ?_
                try go_wp2
                go_loopg [16, 17, 75] k3 (fun kq v16 v17 v75 w' => ∃ (x16_4 : Int) (x17_4 : Int) (x75_4 : Int), v16 = .int .i64 x16_4 ∧ v17 = .int .i64 x17_4 ∧ v75 = .int .i64 x75_4 ∧ Ad (laws_FnTellsSame.l2 kq l1 t341 t342 t347 x11_3 x53_2 x13_3 t353 t354 x16_4 x17_4 (t341.length : Int) x53_2 t342 (t342.length : Int) x75_4 = some r) ∧ Ad (kq ≤ k3) ∧ Ad (Kd.R k26 26 w' w.heap.size (fun k_ => some k_ ≠ ((.slice Ao11 t342.length co11) : Value).ownBlock ∧ some k_ ≠ ((.slice Ao11 t342.length co11) : Value).ownBlock) (.slice (some ad351) t341.length co10) t341) ∧ Ad (Kd.R k26 26 w' w.heap.size (fun k_ => some k_ ≠ ((.slice (some ad351) t341.length co10) : Value).ownBlock) (.slice Ao11 t342.length co11) t342) ∧ Ad (Kd.R k26 26 w' w.heap.size (fun k_ => some k_ ≠ ((.slice (some ad351) t341.length co10) : Value).ownBlock) (.slice Ao11 t342.length co11) t342) ∧ Ad (Below w.heap.size w w'))
                case atStart => exact ⟨((-1)), ((-1)), (0), (by first | rfl | (simp; done) | (simp [*]; done)), (by first | rfl | (simp; done) | (simp [*]; done)), (by first | rfl | (simp; done) | (simp [*]; done)), H', ⟨Nat.le_refl _⟩, ⟨by (with_reducible repeat (first | apply Ra | apply Rn | apply Rd)); exact Kd.R_mono HO_5.out (fun _ hk => ⟨hk, hk⟩)⟩, ⟨by (with_reducible repeat (first | apply Ra | apply Rn | apply Rd)); exact HO_6.out⟩, ⟨by (with_reducible repeat (first | apply Ra | apply Rn | apply Rd)); exact HO_6.out⟩, ⟨by repeat (first | exact HB.out | apply Ba | apply Bn | apply Bd)⟩⟩
                case round =>
                 clear H'
                 try clear c1
                 try clear c2
                 try clear p2
                 try clear c3
                 try clear p3
                 try clear q3
                 try clear hx3
                 try clear c4
                 try clear c11
                 try clear c14
                 try clear c14b0
                 try clear c14b1
                 try clear c14b2
                 try clear c15
                 try clear c16
                 try clear c17
                 try clear c17b0
                 try clear c18
                 try clear c18b0
                 try clear c19
                 try clear c19b0
                 try clear c20
                 try clear c20b0
                 try clear c21
                 try clear c21b0
                 try clear c22
                 try clear c22b0
                 try clear hx351_0
                 try clear hx351_1
                 try clear hx351_2
                 try clear hx351_3
                 try clear hx351_4
                 try clear hx352_0
                 try clear hx352_1
                 try clear hx352_2
                 try clear hx352_3
                 try clear hx352_4
                 try clear p2
                 try clear p351
                 try clear p352
                 try clear q351
                 try clear q352
                 obtain ⟨x16_4, x17_4, x75_4, rfl, rfl, rfl, HA, HK4, HO_5, HO_6, HO_73, HB⟩ := hrel
                 cases gk with
                 | zero => exact absurd HA.out (by simp [laws_FnTellsSame.l2])
                 | succ k4 =>
                  have H := HA.out
                  clear HA
                  simp only [laws_FnTellsSame.l2] at H
                  by_cases c26 : x75_4 < (t342.length : Int)
                  ·rw [if_pos c26] at H
                   have c26b0 : decide (x75_4 < (t342.length : Int)) = true := decide_eq_true c26
                   clear c26
                   by_cases c27 : 0 ≤ x75_4
                   ·rw [if_pos c27] at H
                    have c27b0 : decide (0 ≤ x75_4) = true := decide_eq_true c27
                    clear c27
                    by_cases c28 : x75_4 < (t342.length : Int)
                    ·rw [if_pos c28] at H
                     have c28b0 : decide (x75_4 < (t342.length : Int)) = true := decide_eq_true c28
                     clear c28
                     by_cases c29 : 0 ≤ x13_3
                     ·rw [if_pos c29] at H
                      have c29b0 : decide (0 ≤ x13_3) = true := decide_eq_true c29
                      clear c29
                      by_cases c30 : x13_3 < (t341.length : Int)
                      ·rw [if_pos c30] at H
                       have c30b0 : decide (x13_3 < (t341.length : Int)) = true := decide_eq_true c30
                       clear c30
                       by_cases c31 : (((rd_T26 t342 x75_4).f0) == ((rd_T26 t341 x13_3).f0) && (((rd_T26 t342 x75_4).f1) == ((rd_T26 t341 x13_3).f1) && (((rd_T26 t342 x75_4).f2) == ((rd_T26 t341 x13_3).f2) && (((rd_T26 t342 x75_4).f3) == ((rd_T26 t341 x13_3).f3) && (((rd_T26 t342 x75_4).f4) == ((rd_T26 t341 x13_3).f4)))))) = true
                       ·rw [if_pos c31] at H
                        have c31b0 : (((rd_T26 t342 x75_4).f0) == ((rd_T26 t341 x13_3).f0) && (((rd_T26 t342 x75_4).f1) == ((rd_T26 t341 x13_3).f1) && (((rd_T26 t342 x75_4).f2) == ((rd_T26 t341 x13_3).f2) && (((rd_T26 t342 x75_4).f3) == ((rd_T26 t341 x13_3).f3) && (((rd_T26 t342 x75_4).f4) == ((rd_T26 t341 x13_3).f4)))))) = true := c31
                        (try (have c31b1 : decide (((rd_T26 t342 x75_4).f0) = ((rd_T26 t341 x13_3).f0) && (((rd_T26 t342 x75_4).f1) == ((rd_T26 t341 x13_3).f1) && (((rd_T26 t342 x75_4).f2) == ((rd_T26 t341 x13_3).f2) && (((rd_T26 t342 x75_4).f3) == ((rd_T26 t341 x13_3).f3) && (((rd_T26 t342 x75_4).f4) == ((rd_T26 t341 x13_3).f4)))))) = true := by simpa using c31))
                        (try (have c31b2 : (((rd_T26 t342 x75_4).f0) == ((rd_T26 t341 x13_3).f0) && (((rd_T26 t342 x75_4).f1) == ((rd_T26 t341 x13_3).f1) && (((rd_T26 t342 x75_4).f2) == ((rd_T26 t341 x13_3).f2) && (((rd_T26 t342 x75_4).f3) == ((rd_T26 t341 x13_3).f3) && (((rd_T26 t342 x75_4).f4) == ((rd_T26 t341 x13_3).f4)))))) = true := by simpa using c31))
                        clear c31
                        by_cases c32 : 0 ≤ x53_2
                        ·rw [if_pos c32] at H
                         have c32b0 : decide (0 ≤ x53_2) = true := decide_eq_true c32
                         clear c32
                         by_cases c33 : x53_2 < (t341.length : Int)
                         ·rw [if_pos c33] at H
                          have c33b0 : decide (x53_2 < (t341.length : Int)) = true := decide_eq_true c33
                          clear c33
                          by_cases c34 : (((rd_T26 t342 x75_4).f0) == ((rd_T26 t341 x53_2).f0) && (((rd_T26 t342 x75_4).f1) == ((rd_T26 t341 x53_2).f1) && (((rd_T26 t342 x75_4).f2) == ((rd_T26 t341 x53_2).f2) && (((rd_T26 t342 x75_4).f3) == ((rd_T26 t341 x53_2).f3) && (((rd_T26 t342 x75_4).f4) == ((rd_T26 t341 x53_2).f4)))))) = true
                          ·rw [if_pos c34] at H
                           have c34b0 : (((rd_T26 t342 x75_4).f0) == ((rd_T26 t341 x53_2).f0) && (((rd_T26 t342 x75_4).f1) == ((rd_T26 t341 x53_2).f1) && (((rd_T26 t342 x75_4).f2) == ((rd_T26 t341 x53_2).f2) && (((rd_T26 t342 x75_4).f3) == ((rd_T26 t341 x53_2).f3) && (((rd_T26 t342 x75_4).f4) == ((rd_T26 t341 x53_2).f4)))))) = true := c34
                           (try (have c34b1 : decide (((rd_T26 t342 x75_4).f0) = ((rd_T26 t341 x53_2).f0) && (((rd_T26 t342 x75_4).f1) == ((rd_T26 t341 x53_2).f1) && (((rd_T26 t342 x75_4).f2) == ((rd_T26 t341 x53_2).f2) && (((rd_T26 t342 x75_4).f3) == ((rd_T26 t341 x53_2).f3) && (((rd_T26 t342 x75_4).f4) == ((rd_T26 t341 x53_2).f4)))))) = true := by simpa using c34))
                           (try (have c34b2 : (((rd_T26 t342 x75_4).f0) == ((rd_T26 t341 x53_2).f0) && (((rd_T26 t342 x75_4).f1) == ((rd_T26 t341 x53_2).f1) && (((rd_T26 t342 x75_4).f2) == ((rd_T26 t341 x53_2).f2) && (((rd_T26 t342 x75_4).f3) == ((rd_T26 t341 x53_2).f3) && (((rd_T26 t342 x75_4).f4) == ((rd_T26 t341 x53_2).f4)))))) = true := by simpa using c34))
                           clear c34
                           have H' := Am H
                           clear H
                           have p355 : 0 ≤ (x75_4 : Int) := of_decide_eq_true (by assumption)
                           have q355 : x75_4 < (t342.length : Int) := of_decide_eq_true (by assumption)
                           obtain ⟨ad355, e355, hx355_0, hx355_1, hx355_2, hx355_3, hx355_4⟩ := at_T26 (Kd.R_reads' HO_73.out).2.2 x75_4 p355 q355
                           cases e355
                           replace p355 := eq_true p355
                           replace q355 := eq_true q355
                           try go_wp2_with (first | ((refine Gd (N := 19) rfl ?_); refine Be ?hg (N := 19) ?hd (cs := #[.int .i64 0, .int .i64 0, .int .i64 0, .int .i64 0, .int .i64 0]) (t := 26) ?hr ?_; (case hd | hg => rfl); (case hr => first | (go_simp; done) | (go_simp; rfl)); intro gb356 hg w35 hbox hb; have n0_ := Am (Kd.R_below (Kd.R_elderB (by (with_reducible repeat (first | apply Ra | apply Rn | apply Rd)); exact HO_5.out) gb356 (Nat.le_of_eq hg.symm)) hb); have n1_ := Am (Kd.R_below (Kd.R_elderB (by (with_reducible repeat (first | apply Ra | apply Rn | apply Rd)); exact HO_6.out) gb356 (Nat.le_of_eq hg.symm)) hb); have n2_ := Am (Kd.R_below (Kd.R_elderB (by (with_reducible repeat (first | apply Ra | apply Rn | apply Rd)); exact HO_73.out) gb356 (Nat.le_of_eq hg.symm)) hb); have n3_ := Am (Bt (by repeat (first | exact HB.out | apply Ba | apply Bn | apply Bd)) hb); have n4_ := Am (hbox); have n5_ := Am ((by rw [hg]; exact (Bz (by repeat (first | exact HB.out | apply Ba | apply Bn | apply Bd))) : w.heap.size ≤ gb356)); have n6_ := Am ((by rw [hg]; exact (Bz (by repeat (first | exact HB.out | apply Ba | apply Bn | apply Bd))) : w.heap.size ≤ gb356)); clear HO_5; clear HO_6; clear HO_73; clear HB; have HO_5 := n0_; have HO_6 := n1_; have HO_73 := n2_; have HB := n3_; have BK356 := n4_; have GW356 := n5_; have GE356 := n6_; clear n0_ n1_ n2_ n3_ n4_ n5_ n6_; clear hb hbox hg; have hcz36_0 : w35.cell? ⟨gb356, 0, none⟩ = some (.int .i64 0) := (Kc BK356.out 0).trans rfl; have hcz36_1 : w35.cell? ⟨gb356, 1, none⟩ = some (.int .i64 0) := (Kc BK356.out 1).trans rfl; have hcz36_2 : w35.cell? ⟨gb356, 2, none⟩ = some (.int .i64 0) := (Kc BK356.out 2).trans rfl; have hcz36_3 : w35.cell? ⟨gb356, 3, none⟩ = some (.int .i64 0) := (Kc BK356.out 3).trans rfl; have hcz36_4 : w35.cell? ⟨gb356, 4, none⟩ = some (.int .i64 0) := (Kc BK356.out 4).trans rfl; have hfz36_0 := Kz BK356.out 0; have hfz36_1 := Kz BK356.out 1; have hfz36_2 := Kz BK356.out 2; have hfz36_3 := Kz BK356.out 3; have hfz36_4 := Kz BK356.out 4))
                           have n0_ : Ad (Kd.R k26 26 (((((w35.setCell ⟨gb356, 0, none⟩ (.int .i64 ((rd_T26 t342 x75_4).f0))).setCell ⟨gb356, 1, none⟩ (.int .i64 ((rd_T26 t342 x75_4).f1))).setCell ⟨gb356, 2, none⟩ (.int .i64 ((rd_T26 t342 x75_4).f2))).setCell ⟨gb356, 3, none⟩ (.int .i64 ((rd_T26 t342 x75_4).f3))).setCell ⟨gb356, 4, none⟩ (.int .i64 ((rd_T26 t342 x75_4).f4))) w.heap.size (fun k_ => some k_ ≠ (.slice (some ad355) t342.length co11 : Value).ownBlock ∧ some k_ ≠ (.slice (some ad355) t342.length co11 : Value).ownBlock ∧ k_ ≠ gb356) (.slice (some ad351) t341.length co10) t341) := ⟨by (with_reducible repeat (first | apply Ra | apply Rn | apply Rd)); exact Kd.R_mono (Kd.R_far (p := ⟨gb356, 4, none⟩) (Kd.R_far (p := ⟨gb356, 3, none⟩) (Kd.R_far (p := ⟨gb356, 2, none⟩) (Kd.R_far (p := ⟨gb356, 1, none⟩) (Kd.R_far (p := ⟨gb356, 0, none⟩) (Kd.R_mono HO_5.out (fun k_ hk => (⟨hk, hk.2⟩ : _ ∧ k_ ≠ gb356))) (fun _ hk => hk.2) (.int .i64 ((rd_T26 t342 x75_4).f0))) (fun _ hk => hk.2) (.int .i64 ((rd_T26 t342 x75_4).f1))) (fun _ hk => hk.2) (.int .i64 ((rd_T26 t342 x75_4).f2))) (fun _ hk => hk.2) (.int .i64 ((rd_T26 t342 x75_4).f3))) (fun _ hk => hk.2) (.int .i64 ((rd_T26 t342 x75_4).f4))) (fun _ hk => ⟨hk.1.1.1, ⟨hk.1.1.2, hk.1.2⟩⟩)⟩
                           have n1_ : Ad (Kd.R k26 26 (((((w35.setCell ⟨gb356, 0, none⟩ (.int .i64 ((rd_T26 t342 x75_4).f0))).setCell ⟨gb356, 1, none⟩ (.int .i64 ((rd_T26 t342 x75_4).f1))).setCell ⟨gb356, 2, none⟩ (.int .i64 ((rd_T26 t342 x75_4).f2))).setCell ⟨gb356, 3, none⟩ (.int .i64 ((rd_T26 t342 x75_4).f3))).setCell ⟨gb356, 4, none⟩ (.int .i64 ((rd_T26 t342 x75_4).f4))) w.heap.size (fun k_ => some k_ ≠ (.slice (some ad351) t341.length co10 : Value).ownBlock ∧ k_ ≠ gb356) (.slice (some ad355) t342.length co11) t342) := ⟨by (with_reducible repeat (first | apply Ra | apply Rn | apply Rd)); exact Kd.R_mono (Kd.R_far (p := ⟨gb356, 4, none⟩) (Kd.R_far (p := ⟨gb356, 3, none⟩) (Kd.R_far (p := ⟨gb356, 2, none⟩) (Kd.R_far (p := ⟨gb356, 1, none⟩) (Kd.R_far (p := ⟨gb356, 0, none⟩) (Kd.R_mono HO_6.out (fun k_ hk => (⟨hk, hk.2⟩ : _ ∧ k_ ≠ gb356))) (fun _ hk => hk.2) (.int .i64 ((rd_T26 t342 x75_4).f0))) (fun _ hk => hk.2) (.int .i64 ((rd_T26 t342 x75_4).f1))) (fun _ hk => hk.2) (.int .i64 ((rd_T26 t342 x75_4).f2))) (fun _ hk => hk.2) (.int .i64 ((rd_T26 t342 x75_4).f3))) (fun _ hk => hk.2) (.int .i64 ((rd_T26 t342 x75_4).f4))) (fun _ hk => ⟨hk.1.1, hk.1.2⟩)⟩
                           have n2_ : Ad (Kd.R k26 26 (((((w35.setCell ⟨gb356, 0, none⟩ (.int .i64 ((rd_T26 t342 x75_4).f0))).setCell ⟨gb356, 1, none⟩ (.int .i64 ((rd_T26 t342 x75_4).f1))).setCell ⟨gb356, 2, none⟩ (.int .i64 ((rd_T26 t342 x75_4).f2))).setCell ⟨gb356, 3, none⟩ (.int .i64 ((rd_T26 t342 x75_4).f3))).setCell ⟨gb356, 4, none⟩ (.int .i64 ((rd_T26 t342 x75_4).f4))) w.heap.size (fun k_ => some k_ ≠ (.slice (some ad351) t341.length co10 : Value).ownBlock ∧ k_ ≠ gb356) (.slice (some ad355) t342.length co11) t342) := ⟨by (with_reducible repeat (first | apply Ra | apply Rn | apply Rd)); exact Kd.R_mono (Kd.R_far (p := ⟨gb356, 4, none⟩) (Kd.R_far (p := ⟨gb356, 3, none⟩) (Kd.R_far (p := ⟨gb356, 2, none⟩) (Kd.R_far (p := ⟨gb356, 1, none⟩) (Kd.R_far (p := ⟨gb356, 0, none⟩) (Kd.R_mono HO_73.out (fun k_ hk => (⟨hk, hk.2⟩ : _ ∧ k_ ≠ gb356))) (fun _ hk => hk.2) (.int .i64 ((rd_T26 t342 x75_4).f0))) (fun _ hk => hk.2) (.int .i64 ((rd_T26 t342 x75_4).f1))) (fun _ hk => hk.2) (.int .i64 ((rd_T26 t342 x75_4).f2))) (fun _ hk => hk.2) (.int .i64 ((rd_T26 t342 x75_4).f3))) (fun _ hk => hk.2) (.int .i64 ((rd_T26 t342 x75_4).f4))) (fun _ hk => ⟨hk.1.1, hk.1.2⟩)⟩
                           have n3_ : Ad ((((((w35.setCell ⟨gb356, 0, none⟩ (.int .i64 ((rd_T26 t342 x75_4).f0))).setCell ⟨gb356, 1, none⟩ (.int .i64 ((rd_T26 t342 x75_4).f1))).setCell ⟨gb356, 2, none⟩ (.int .i64 ((rd_T26 t342 x75_4).f2))).setCell ⟨gb356, 3, none⟩ (.int .i64 ((rd_T26 t342 x75_4).f3))).setCell ⟨gb356, 4, none⟩ (.int .i64 ((rd_T26 t342 x75_4).f4))).heap[gb356]? = some (.cells #[.int .i64 ((rd_T26 t342 x75_4).f0), .int .i64 ((rd_T26 t342 x75_4).f1), .int .i64 ((rd_T26 t342 x75_4).f2), .int .i64 ((rd_T26 t342 x75_4).f3), .int .i64 ((rd_T26 t342 x75_4).f4)] 26 (0, 0))) := ⟨by (with_reducible repeat (first | refine Kn ?_ _ | refine Ke ?_ | refine Ka ?_ _)); refine blk_put (cs := #[.int .i64 ((rd_T26 t342 x75_4).f0), .int .i64 ((rd_T26 t342 x75_4).f1), .int .i64 ((rd_T26 t342 x75_4).f2), .int .i64 ((rd_T26 t342 x75_4).f3), .int .i64 0]) ?_ 4 _ rfl; (with_reducible repeat (first | refine Kn ?_ _ | refine Ke ?_ | refine Ka ?_ _)); refine blk_put (cs := #[.int .i64 ((rd_T26 t342 x75_4).f0), .int .i64 ((rd_T26 t342 x75_4).f1), .int .i64 ((rd_T26 t342 x75_4).f2), .int .i64 0, .int .i64 0]) ?_ 3 _ rfl; (with_reducible repeat (first | refine Kn ?_ _ | refine Ke ?_ | refine Ka ?_ _)); refine blk_put (cs := #[.int .i64 ((rd_T26 t342 x75_4).f0), .int .i64 ((rd_T26 t342 x75_4).f1), .int .i64 0, .int .i64 0, .int .i64 0]) ?_ 2 _ rfl; (with_reducible repeat (first | refine Kn ?_ _ | refine Ke ?_ | refine Ka ?_ _)); refine blk_put (cs := #[.int .i64 ((rd_T26 t342 x75_4).f0), .int .i64 0, .int .i64 0, .int .i64 0, .int .i64 0]) ?_ 1 _ rfl; (with_reducible repeat (first | refine Kn ?_ _ | refine Ke ?_ | refine Ka ?_ _)); refine blk_put (cs := #[.int .i64 0, .int .i64 0, .int .i64 0, .int .i64 0, .int .i64 0]) ?_ 0 _ rfl; (with_reducible repeat (first | refine Kn ?_ _ | refine Ke ?_ | refine Ka ?_ _)); exact BK356.out⟩
                           have n4_ : Ad (Below w.heap.size w (((((w35.setCell ⟨gb356, 0, none⟩ (.int .i64 ((rd_T26 t342 x75_4).f0))).setCell ⟨gb356, 1, none⟩ (.int .i64 ((rd_T26 t342 x75_4).f1))).setCell ⟨gb356, 2, none⟩ (.int .i64 ((rd_T26 t342 x75_4).f2))).setCell ⟨gb356, 3, none⟩ (.int .i64 ((rd_T26 t342 x75_4).f3))).setCell ⟨gb356, 4, none⟩ (.int .i64 ((rd_T26 t342 x75_4).f4)))) := ⟨by repeat (first | (with_reducible first | exact HB.out | apply Ba | apply Bn | apply Bd | refine Bs ?_ GE356.out) | exact HB.out)⟩
                           (try clear HO_5)
                           (try clear HO_6)
                           (try clear HO_73)
                           (try clear BK356)
                           (try clear HB)
                           generalize (((((w35.setCell ⟨gb356, 0, none⟩ (.int .i64 ((rd_T26 t342 x75_4).f0))).setCell ⟨gb356, 1, none⟩ (.int .i64 ((rd_T26 t342 x75_4).f1))).setCell ⟨gb356, 2, none⟩ (.int .i64 ((rd_T26 t342 x75_4).f2))).setCell ⟨gb356, 3, none⟩ (.int .i64 ((rd_T26 t342 x75_4).f3))).setCell ⟨gb356, 4, none⟩ (.int .i64 ((rd_T26 t342 x75_4).f4))) = w37 at n0_ n1_ n2_ n3_ n4_ ⊢
                           have HO_5 := n0_
                           have HO_6 := n1_
                           have HO_73 := n2_
                           have BK356 := n3_
                           have HB := n4_
                           clear n0_ n1_ n2_ n3_ n4_
                           have n0_ := Am (Rd HO_5.out)
                           have n1_ := Am (Rd HO_6.out)
                           have n2_ := Am (Rd HO_73.out)
                           have n3_ := Am (Ke BK356.out)
                           have n4_ := Am (Bd HB.out)
                           clear HO_5
                           clear HO_6
                           clear HO_73
                           clear BK356
                           clear HB
                           have HO_5 := n0_
                           have HO_6 := n1_
                           have HO_73 := n2_
                           have BK356 := n3_
                           have HB := n4_
                           clear n0_ n1_ n2_ n3_ n4_
                           have p357 : 0 ≤ (x13_3 : Int) := of_decide_eq_true (by assumption)
                           have q357 : x13_3 < (t341.length : Int) := of_decide_eq_true (by assumption)
                           obtain ⟨ad357, e357, hx357_0, hx357_1, hx357_2, hx357_3, hx357_4⟩ := at_T26 (Kd.R_reads' HO_5.out).2.2 x13_3 p357 q357
                           obtain rfl : ad351 = ad357 := (by injection e357)
                           replace p357 := eq_true p357
                           replace q357 := eq_true q357
                           refine start_ (n := 6) (S := fun w' => w'.cell? ⟨gb356, 0, none⟩ = some (.int .i64 ((rd_T26 t342 x75_4).f0)) ∧ w'.cell? ⟨gb356, 1, none⟩ = some (.int .i64 ((rd_T26 t342 x75_4).f1)) ∧ w'.cell? ⟨gb356, 2, none⟩ = some (.int .i64 ((rd_T26 t342 x75_4).f2)) ∧ w'.cell? ⟨gb356, 3, none⟩ = some (.int .i64 ((rd_T26 t342 x75_4).f3)) ∧ w'.cell? ⟨gb356, 4, none⟩ = some (.int .i64 ((rd_T26 t342 x75_4).f4)) ∧ w'.cell? (ad351.add ((x13_3).toNat * 5)) = some (.int .i64 ((rd_T26 t341 x13_3).f0)) ∧ w'.cell? ⟨(ad351.add ((x13_3).toNat * 5)).block, (ad351.add ((x13_3).toNat * 5)).off + 1, none⟩ = some (.int .i64 ((rd_T26 t341 x13_3).f1)) ∧ w'.cell? ⟨(ad351.add ((x13_3).toNat * 5)).block, (ad351.add ((x13_3).toNat * 5)).off + 2, none⟩ = some (.int .i64 ((rd_T26 t341 x13_3).f2)) ∧ w'.cell? ⟨(ad351.add ((x13_3).toNat * 5)).block, (ad351.add ((x13_3).toNat * 5)).off + 3, none⟩ = some (.int .i64 ((rd_T26 t341 x13_3).f3)) ∧ w'.cell? ⟨(ad351.add ((x13_3).toNat * 5)).block, (ad351.add ((x13_3).toNat * 5)).off + 4, none⟩ = some (.int .i64 ((rd_T26 t341 x13_3).f4))) (ds := []) #[false, false, false, false, false, false] (by kernel_rfl) rfl rfl ⟨(Kc BK356.out 0).trans rfl, (Kc BK356.out 1).trans rfl, (Kc BK356.out 2).trans rfl, (Kc BK356.out 3).trans rfl, (Kc BK356.out 4).trans rfl, hx357_0, hx357_1, hx357_2, hx357_3, hx357_4⟩ (fun hHeld => ?_)
                           generalize w37.drew = w38 at HO_5 HO_6 HO_73 BK356 HB hx357_0 hx357_1 hx357_2 hx357_3 hx357_4 hHeld ⊢
                           refine pure_ (i := 1) (N := some 81) (v := ?_) (a' := ?_) #[false, true, false, false, false, false] rfl rfl (by kernel_rfl) (fun _ _ _ h => h) (Or.inl ⟨by rfl, ?_⟩) ?_ ?_
                           rotate_left
                           ·intro w'
                            go_simp
                            with_reducible rfl
                           rotate_left
                           ·simp only [Act.put, Lt, Lz, Ls, i64_w, i32_w]
                            rfl
                           refine pure_ (i := 2) (N := some 82) (v := ?_) (a' := ?_) #[false, true, true, false, false, false] rfl rfl (by kernel_rfl) (fun _ _ _ h => h) (Or.inl ⟨by rfl, ?_⟩) ?_ ?_
                           rotate_left
                           ·intro w'
                            go_simp
                            with_reducible rfl
                           rotate_left
                           ·simp only [Act.put, Lt, Lz, Ls, i64_w, i32_w]
                            rfl
                           refine pure_ (i := 3) (N := some 83) (v := ?_) (a' := ?_) #[false, true, true, true, false, false] rfl rfl (by kernel_rfl) (fun _ _ _ h => h) (Or.inl ⟨by rfl, ?_⟩) ?_ ?_
                           rotate_left
                           ·intro w'
                            go_simp
                            with_reducible rfl
                           rotate_left
                           ·simp only [Act.put, Lt, Lz, Ls, i64_w, i32_w]
                            rfl
                           refine take_ (i := 0) (N := some 80) (v := ?_) (a' := ?_) #[true, true, true, true, false, false] rfl rfl (by kernel_rfl) (fun _ _ _ h => h) (Or.inl ⟨by rfl, ?_⟩) hHeld ?_ ?_
                           rotate_left
                           ·rintro w' ⟨s0, s1, s2, s3, s4, s5, s6, s7, s8, s9⟩
                            go_simp
                            with_reducible rfl
                           rotate_left
                           ·simp only [Act.put, Lt, Lz, Ls, i64_w, i32_w]
                            rfl
                           refine take_ (i := 4) (N := some 84) (v := ?_) (a' := ?_) #[true, true, true, true, true, false] rfl rfl (by kernel_rfl) (fun _ _ _ h => h) (Or.inl ⟨by rfl, ?_⟩) hHeld ?_ ?_
                           rotate_left
                           ·rintro w' ⟨s0, s1, s2, s3, s4, s5, s6, s7, s8, s9⟩
                            go_simp
                            with_reducible rfl
                           rotate_left
                           ·simp only [Act.put, Lt, Lz, Ls, i64_w, i32_w]
                            rfl
                           refine pure_ (i := 5) (N := some 85) (v := ?_) (a' := ?_) #[true, true, true, true, true, true] rfl rfl (by kernel_rfl) (fun _ _ _ h => h) (Or.inl ⟨by rfl, ?_⟩) ?_ ?_
                           rotate_left
                           ·intro w'
                            go_simp
                            with_reducible rfl
                           rotate_left
                           ·simp only [Act.put, Lt, Lz, Ls, i64_w, i32_w]
                            rfl
                           refine done_ (by kernel_rfl) ?_
                           try go_wp2
                           have n0_ := Am (Rd HO_5.out)
                           have n1_ := Am (Rd HO_6.out)
                           have n2_ := Am (Rd HO_73.out)
                           have n3_ := Am (Ke BK356.out)
                           have n4_ := Am (Bd HB.out)
                           clear HO_5
                           clear HO_6
                           clear HO_73
                           clear BK356
                           clear HB
                           have HO_5 := n0_
                           have HO_6 := n1_
                           have HO_73 := n2_
                           have BK356 := n3_
                           have HB := n4_
                           clear n0_ n1_ n2_ n3_ n4_
                           have p358 : 0 ≤ (x53_2 : Int) := of_decide_eq_true (by assumption)
                           have q358 : x53_2 < (t341.length : Int) := of_decide_eq_true (by assumption)
                           obtain ⟨ad358, e358, hx358_0, hx358_1, hx358_2, hx358_3, hx358_4⟩ := at_T26 (Kd.R_reads' HO_5.out).2.2 x53_2 p358 q358
                           obtain rfl : ad351 = ad358 := (by injection e358)
                           replace p358 := eq_true p358
                           replace q358 := eq_true q358
                           refine start_ (n := 6) (S := fun w' => w'.cell? ⟨gb356, 0, none⟩ = some (.int .i64 ((rd_T26 t342 x75_4).f0)) ∧ w'.cell? ⟨gb356, 1, none⟩ = some (.int .i64 ((rd_T26 t342 x75_4).f1)) ∧ w'.cell? ⟨gb356, 2, none⟩ = some (.int .i64 ((rd_T26 t342 x75_4).f2)) ∧ w'.cell? ⟨gb356, 3, none⟩ = some (.int .i64 ((rd_T26 t342 x75_4).f3)) ∧ w'.cell? ⟨gb356, 4, none⟩ = some (.int .i64 ((rd_T26 t342 x75_4).f4)) ∧ w'.cell? (ad351.add ((x53_2).toNat * 5)) = some (.int .i64 ((rd_T26 t341 x53_2).f0)) ∧ w'.cell? ⟨(ad351.add ((x53_2).toNat * 5)).block, (ad351.add ((x53_2).toNat * 5)).off + 1, none⟩ = some (.int .i64 ((rd_T26 t341 x53_2).f1)) ∧ w'.cell? ⟨(ad351.add ((x53_2).toNat * 5)).block, (ad351.add ((x53_2).toNat * 5)).off + 2, none⟩ = some (.int .i64 ((rd_T26 t341 x53_2).f2)) ∧ w'.cell? ⟨(ad351.add ((x53_2).toNat * 5)).block, (ad351.add ((x53_2).toNat * 5)).off + 3, none⟩ = some (.int .i64 ((rd_T26 t341 x53_2).f3)) ∧ w'.cell? ⟨(ad351.add ((x53_2).toNat * 5)).block, (ad351.add ((x53_2).toNat * 5)).off + 4, none⟩ = some (.int .i64 ((rd_T26 t341 x53_2).f4))) (ds := []) #[false, false, false, false, false, false] (by kernel_rfl) rfl rfl ⟨(Kc BK356.out 0).trans rfl, (Kc BK356.out 1).trans rfl, (Kc BK356.out 2).trans rfl, (Kc BK356.out 3).trans rfl, (Kc BK356.out 4).trans rfl, hx358_0, hx358_1, hx358_2, hx358_3, hx358_4⟩ (fun hHeld => ?_)
                           generalize w38.drew = w39 at HO_5 HO_6 HO_73 BK356 HB hx358_0 hx358_1 hx358_2 hx358_3 hx358_4 hHeld ⊢
                           refine pure_ (i := 1) (N := some 88) (v := ?_) (a' := ?_) #[false, true, false, false, false, false] rfl rfl (by kernel_rfl) (fun _ _ _ h => h) (Or.inl ⟨by rfl, ?_⟩) ?_ ?_
                           rotate_left
                           ·intro w'
                            go_simp
                            with_reducible rfl
                           rotate_left
                           ·simp only [Act.put, Lt, Lz, Ls, i64_w, i32_w]
                            rfl
                           refine pure_ (i := 2) (N := some 89) (v := ?_) (a' := ?_) #[false, true, true, false, false, false] rfl rfl (by kernel_rfl) (fun _ _ _ h => h) (Or.inl ⟨by rfl, ?_⟩) ?_ ?_
                           rotate_left
                           ·intro w'
                            go_simp
                            with_reducible rfl
                           rotate_left
                           ·simp only [Act.put, Lt, Lz, Ls, i64_w, i32_w]
                            rfl
                           refine pure_ (i := 3) (N := some 90) (v := ?_) (a' := ?_) #[false, true, true, true, false, false] rfl rfl (by kernel_rfl) (fun _ _ _ h => h) (Or.inl ⟨by rfl, ?_⟩) ?_ ?_
                           rotate_left
                           ·intro w'
                            go_simp
                            with_reducible rfl
                           rotate_left
                           ·simp only [Act.put, Lt, Lz, Ls, i64_w, i32_w]
                            rfl
                           refine take_ (i := 0) (N := some 87) (v := ?_) (a' := ?_) #[true, true, true, true, false, false] rfl rfl (by kernel_rfl) (fun _ _ _ h => h) (Or.inl ⟨by rfl, ?_⟩) hHeld ?_ ?_
                           rotate_left
                           ·rintro w' ⟨s0, s1, s2, s3, s4, s5, s6, s7, s8, s9⟩
                            go_simp
                            with_reducible rfl
                           rotate_left
                           ·simp only [Act.put, Lt, Lz, Ls, i64_w, i32_w]
                            rfl
                           refine take_ (i := 4) (N := some 91) (v := ?_) (a' := ?_) #[true, true, true, true, true, false] rfl rfl (by kernel_rfl) (fun _ _ _ h => h) (Or.inl ⟨by rfl, ?_⟩) hHeld ?_ ?_
                           rotate_left
                           ·rintro w' ⟨s0, s1, s2, s3, s4, s5, s6, s7, s8, s9⟩
                            go_simp
                            with_reducible rfl
                           rotate_left
                           ·simp only [Act.put, Lt, Lz, Ls, i64_w, i32_w]
                            rfl
                           refine pure_ (i := 5) (N := some 92) (v := ?_) (a' := ?_) #[true, true, true, true, true, true] rfl rfl (by kernel_rfl) (fun _ _ _ h => h) (Or.inl ⟨by rfl, ?_⟩) ?_ ?_
                           rotate_left
                           ·intro w'
                            go_simp
                            with_reducible rfl
                           rotate_left
                           ·simp only [Act.put, Lt, Lz, Ls, i64_w, i32_w]
                            rfl
                           refine done_ (by kernel_rfl) ?_
                           try go_wp2
                           go_roundg k4
                           case measure => have := HJ7.out; have := HK2.out; have := HK3.out; have := HK4.out; omega
                           case rel => exact ⟨(x75_4), (x75_4), (wrap64 (x75_4 + 1)), (by first | rfl | (simp; done) | (simp [*]; done)), (by first | rfl | (simp; done) | (simp [*]; done)), (by first | rfl | (simp; done) | (simp [*]; done)), H', ⟨by have := HJ7.out; have := HK2.out; have := HK3.out; have := HK4.out; omega⟩, ⟨by (with_reducible repeat (first | apply Ra | apply Rn | apply Rd)); exact Kd.R_mono HO_5.out (fun _ hk => ⟨hk.1, hk.2.1⟩)⟩, ⟨by (with_reducible repeat (first | apply Ra | apply Rn | apply Rd)); exact Kd.R_mono HO_6.out (fun _ hk => hk.1)⟩, ⟨by (with_reducible repeat (first | apply Ra | apply Rn | apply Rd)); exact Kd.R_mono HO_73.out (fun _ hk => hk.1)⟩, ⟨by repeat (first | (with_reducible first | exact HB.out | apply Ba | apply Bn | apply Bd | refine Bs ?_ GE356.out) | exact HB.out)⟩⟩
                          ·rw [if_neg c34] at H
                           have c34b0 : (((rd_T26 t342 x75_4).f0) == ((rd_T26 t341 x53_2).f0) && (((rd_T26 t342 x75_4).f1) == ((rd_T26 t341 x53_2).f1) && (((rd_T26 t342 x75_4).f2) == ((rd_T26 t341 x53_2).f2) && (((rd_T26 t342 x75_4).f3) == ((rd_T26 t341 x53_2).f3) && (((rd_T26 t342 x75_4).f4) == ((rd_T26 t341 x53_2).f4)))))) = false := by simpa using c34
                           (try (have c34b1 : decide (((rd_T26 t342 x75_4).f0) = ((rd_T26 t341 x53_2).f0) && (((rd_T26 t342 x75_4).f1) == ((rd_T26 t341 x53_2).f1) && (((rd_T26 t342 x75_4).f2) == ((rd_T26 t341 x53_2).f2) && (((rd_T26 t342 x75_4).f3) == ((rd_T26 t341 x53_2).f3) && (((rd_T26 t342 x75_4).f4) == ((rd_T26 t341 x53_2).f4)))))) = false := by simpa using c34))
                           (try (have c34b2 : (((rd_T26 t342 x75_4).f0) == ((rd_T26 t341 x53_2).f0) && (((rd_T26 t342 x75_4).f1) == ((rd_T26 t341 x53_2).f1) && (((rd_T26 t342 x75_4).f2) == ((rd_T26 t341 x53_2).f2) && (((rd_T26 t342 x75_4).f3) == ((rd_T26 t341 x53_2).f3) && (((rd_T26 t342 x75_4).f4) == ((rd_T26 t341 x53_2).f4)))))) = false := by simpa using c34))
                           (try (have c34b3 : ¬ (((rd_T26 t342 x75_4).f0) = ((rd_T26 t341 x53_2).f0) && (((rd_T26 t342 x75_4).f1) == ((rd_T26 t341 x53_2).f1) && (((rd_T26 t342 x75_4).f2) == ((rd_T26 t341 x53_2).f2) && (((rd_T26 t342 x75_4).f3) == ((rd_T26 t341 x53_2).f3) && (((rd_T26 t342 x75_4).f4) == ((rd_T26 t341 x53_2).f4)))))) := by simpa using c34))
                           clear c34
                           have H' := Am H
                           clear H
                           have p355 : 0 ≤ (x75_4 : Int) := of_decide_eq_true (by assumption)
                           have q355 : x75_4 < (t342.length : Int) := of_decide_eq_true (by assumption)
                           obtain ⟨ad355, e355, hx355_0, hx355_1, hx355_2, hx355_3, hx355_4⟩ := at_T26 (Kd.R_reads' HO_73.out).2.2 x75_4 p355 q355
                           cases e355
                           replace p355 := eq_true p355
                           replace q355 := eq_true q355
                           try go_wp2_with (first | ((refine Gd (N := 19) rfl ?_); refine Be ?hg (N := 19) ?hd (cs := #[.int .i64 0, .int .i64 0, .int .i64 0, .int .i64 0, .int .i64 0]) (t := 26) ?hr ?_; (case hd | hg => rfl); (case hr => first | (go_simp; done) | (go_simp; rfl)); intro gb356 hg w40 hbox hb; have n0_ := Am (Kd.R_below (Kd.R_elderB (by (with_reducible repeat (first | apply Ra | apply Rn | apply Rd)); exact HO_5.out) gb356 (Nat.le_of_eq hg.symm)) hb); have n1_ := Am (Kd.R_below (Kd.R_elderB (by (with_reducible repeat (first | apply Ra | apply Rn | apply Rd)); exact HO_6.out) gb356 (Nat.le_of_eq hg.symm)) hb); have n2_ := Am (Kd.R_below (Kd.R_elderB (by (with_reducible repeat (first | apply Ra | apply Rn | apply Rd)); exact HO_73.out) gb356 (Nat.le_of_eq hg.symm)) hb); have n3_ := Am (Bt (by repeat (first | exact HB.out | apply Ba | apply Bn | apply Bd)) hb); have n4_ := Am (hbox); have n5_ := Am ((by rw [hg]; exact (Bz (by repeat (first | exact HB.out | apply Ba | apply Bn | apply Bd))) : w.heap.size ≤ gb356)); have n6_ := Am ((by rw [hg]; exact (Bz (by repeat (first | exact HB.out | apply Ba | apply Bn | apply Bd))) : w.heap.size ≤ gb356)); clear HO_5; clear HO_6; clear HO_73; clear HB; have HO_5 := n0_; have HO_6 := n1_; have HO_73 := n2_; have HB := n3_; have BK356 := n4_; have GW356 := n5_; have GE356 := n6_; clear n0_ n1_ n2_ n3_ n4_ n5_ n6_; clear hb hbox hg; have hcz41_0 : w40.cell? ⟨gb356, 0, none⟩ = some (.int .i64 0) := (Kc BK356.out 0).trans rfl; have hcz41_1 : w40.cell? ⟨gb356, 1, none⟩ = some (.int .i64 0) := (Kc BK356.out 1).trans rfl; have hcz41_2 : w40.cell? ⟨gb356, 2, none⟩ = some (.int .i64 0) := (Kc BK356.out 2).trans rfl; have hcz41_3 : w40.cell? ⟨gb356, 3, none⟩ = some (.int .i64 0) := (Kc BK356.out 3).trans rfl; have hcz41_4 : w40.cell? ⟨gb356, 4, none⟩ = some (.int .i64 0) := (Kc BK356.out 4).trans rfl; have hfz41_0 := Kz BK356.out 0; have hfz41_1 := Kz BK356.out 1; have hfz41_2 := Kz BK356.out 2; have hfz41_3 := Kz BK356.out 3; have hfz41_4 := Kz BK356.out 4))
                           have n0_ : Ad (Kd.R k26 26 (((((w40.setCell ⟨gb356, 0, none⟩ (.int .i64 ((rd_T26 t342 x75_4).f0))).setCell ⟨gb356, 1, none⟩ (.int .i64 ((rd_T26 t342 x75_4).f1))).setCell ⟨gb356, 2, none⟩ (.int .i64 ((rd_T26 t342 x75_4).f2))).setCell ⟨gb356, 3, none⟩ (.int .i64 ((rd_T26 t342 x75_4).f3))).setCell ⟨gb356, 4, none⟩ (.int .i64 ((rd_T26 t342 x75_4).f4))) w.heap.size (fun k_ => some k_ ≠ (.slice (some ad355) t342.length co11 : Value).ownBlock ∧ some k_ ≠ (.slice (some ad355) t342.length co11 : Value).ownBlock ∧ k_ ≠ gb356) (.slice (some ad351) t341.length co10) t341) := ⟨by (with_reducible repeat (first | apply Ra | apply Rn | apply Rd)); exact Kd.R_mono (Kd.R_far (p := ⟨gb356, 4, none⟩) (Kd.R_far (p := ⟨gb356, 3, none⟩) (Kd.R_far (p := ⟨gb356, 2, none⟩) (Kd.R_far (p := ⟨gb356, 1, none⟩) (Kd.R_far (p := ⟨gb356, 0, none⟩) (Kd.R_mono HO_5.out (fun k_ hk => (⟨hk, hk.2⟩ : _ ∧ k_ ≠ gb356))) (fun _ hk => hk.2) (.int .i64 ((rd_T26 t342 x75_4).f0))) (fun _ hk => hk.2) (.int .i64 ((rd_T26 t342 x75_4).f1))) (fun _ hk => hk.2) (.int .i64 ((rd_T26 t342 x75_4).f2))) (fun _ hk => hk.2) (.int .i64 ((rd_T26 t342 x75_4).f3))) (fun _ hk => hk.2) (.int .i64 ((rd_T26 t342 x75_4).f4))) (fun _ hk => ⟨hk.1.1.1, ⟨hk.1.1.2, hk.1.2⟩⟩)⟩
                           have n1_ : Ad (Kd.R k26 26 (((((w40.setCell ⟨gb356, 0, none⟩ (.int .i64 ((rd_T26 t342 x75_4).f0))).setCell ⟨gb356, 1, none⟩ (.int .i64 ((rd_T26 t342 x75_4).f1))).setCell ⟨gb356, 2, none⟩ (.int .i64 ((rd_T26 t342 x75_4).f2))).setCell ⟨gb356, 3, none⟩ (.int .i64 ((rd_T26 t342 x75_4).f3))).setCell ⟨gb356, 4, none⟩ (.int .i64 ((rd_T26 t342 x75_4).f4))) w.heap.size (fun k_ => some k_ ≠ (.slice (some ad351) t341.length co10 : Value).ownBlock ∧ k_ ≠ gb356) (.slice (some ad355) t342.length co11) t342) := ⟨by (with_reducible repeat (first | apply Ra | apply Rn | apply Rd)); exact Kd.R_mono (Kd.R_far (p := ⟨gb356, 4, none⟩) (Kd.R_far (p := ⟨gb356, 3, none⟩) (Kd.R_far (p := ⟨gb356, 2, none⟩) (Kd.R_far (p := ⟨gb356, 1, none⟩) (Kd.R_far (p := ⟨gb356, 0, none⟩) (Kd.R_mono HO_6.out (fun k_ hk => (⟨hk, hk.2⟩ : _ ∧ k_ ≠ gb356))) (fun _ hk => hk.2) (.int .i64 ((rd_T26 t342 x75_4).f0))) (fun _ hk => hk.2) (.int .i64 ((rd_T26 t342 x75_4).f1))) (fun _ hk => hk.2) (.int .i64 ((rd_T26 t342 x75_4).f2))) (fun _ hk => hk.2) (.int .i64 ((rd_T26 t342 x75_4).f3))) (fun _ hk => hk.2) (.int .i64 ((rd_T26 t342 x75_4).f4))) (fun _ hk => ⟨hk.1.1, hk.1.2⟩)⟩
                           have n2_ : Ad (Kd.R k26 26 (((((w40.setCell ⟨gb356, 0, none⟩ (.int .i64 ((rd_T26 t342 x75_4).f0))).setCell ⟨gb356, 1, none⟩ (.int .i64 ((rd_T26 t342 x75_4).f1))).setCell ⟨gb356, 2, none⟩ (.int .i64 ((rd_T26 t342 x75_4).f2))).setCell ⟨gb356, 3, none⟩ (.int .i64 ((rd_T26 t342 x75_4).f3))).setCell ⟨gb356, 4, none⟩ (.int .i64 ((rd_T26 t342 x75_4).f4))) w.heap.size (fun k_ => some k_ ≠ (.slice (some ad351) t341.length co10 : Value).ownBlock ∧ k_ ≠ gb356) (.slice (some ad355) t342.length co11) t342) := ⟨by (with_reducible repeat (first | apply Ra | apply Rn | apply Rd)); exact Kd.R_mono (Kd.R_far (p := ⟨gb356, 4, none⟩) (Kd.R_far (p := ⟨gb356, 3, none⟩) (Kd.R_far (p := ⟨gb356, 2, none⟩) (Kd.R_far (p := ⟨gb356, 1, none⟩) (Kd.R_far (p := ⟨gb356, 0, none⟩) (Kd.R_mono HO_73.out (fun k_ hk => (⟨hk, hk.2⟩ : _ ∧ k_ ≠ gb356))) (fun _ hk => hk.2) (.int .i64 ((rd_T26 t342 x75_4).f0))) (fun _ hk => hk.2) (.int .i64 ((rd_T26 t342 x75_4).f1))) (fun _ hk => hk.2) (.int .i64 ((rd_T26 t342 x75_4).f2))) (fun _ hk => hk.2) (.int .i64 ((rd_T26 t342 x75_4).f3))) (fun _ hk => hk.2) (.int .i64 ((rd_T26 t342 x75_4).f4))) (fun _ hk => ⟨hk.1.1, hk.1.2⟩)⟩
                           have n3_ : Ad ((((((w40.setCell ⟨gb356, 0, none⟩ (.int .i64 ((rd_T26 t342 x75_4).f0))).setCell ⟨gb356, 1, none⟩ (.int .i64 ((rd_T26 t342 x75_4).f1))).setCell ⟨gb356, 2, none⟩ (.int .i64 ((rd_T26 t342 x75_4).f2))).setCell ⟨gb356, 3, none⟩ (.int .i64 ((rd_T26 t342 x75_4).f3))).setCell ⟨gb356, 4, none⟩ (.int .i64 ((rd_T26 t342 x75_4).f4))).heap[gb356]? = some (.cells #[.int .i64 ((rd_T26 t342 x75_4).f0), .int .i64 ((rd_T26 t342 x75_4).f1), .int .i64 ((rd_T26 t342 x75_4).f2), .int .i64 ((rd_T26 t342 x75_4).f3), .int .i64 ((rd_T26 t342 x75_4).f4)] 26 (0, 0))) := ⟨by (with_reducible repeat (first | refine Kn ?_ _ | refine Ke ?_ | refine Ka ?_ _)); refine blk_put (cs := #[.int .i64 ((rd_T26 t342 x75_4).f0), .int .i64 ((rd_T26 t342 x75_4).f1), .int .i64 ((rd_T26 t342 x75_4).f2), .int .i64 ((rd_T26 t342 x75_4).f3), .int .i64 0]) ?_ 4 _ rfl; (with_reducible repeat (first | refine Kn ?_ _ | refine Ke ?_ | refine Ka ?_ _)); refine blk_put (cs := #[.int .i64 ((rd_T26 t342 x75_4).f0), .int .i64 ((rd_T26 t342 x75_4).f1), .int .i64 ((rd_T26 t342 x75_4).f2), .int .i64 0, .int .i64 0]) ?_ 3 _ rfl; (with_reducible repeat (first | refine Kn ?_ _ | refine Ke ?_ | refine Ka ?_ _)); refine blk_put (cs := #[.int .i64 ((rd_T26 t342 x75_4).f0), .int .i64 ((rd_T26 t342 x75_4).f1), .int .i64 0, .int .i64 0, .int .i64 0]) ?_ 2 _ rfl; (with_reducible repeat (first | refine Kn ?_ _ | refine Ke ?_ | refine Ka ?_ _)); refine blk_put (cs := #[.int .i64 ((rd_T26 t342 x75_4).f0), .int .i64 0, .int .i64 0, .int .i64 0, .int .i64 0]) ?_ 1 _ rfl; (with_reducible repeat (first | refine Kn ?_ _ | refine Ke ?_ | refine Ka ?_ _)); refine blk_put (cs := #[.int .i64 0, .int .i64 0, .int .i64 0, .int .i64 0, .int .i64 0]) ?_ 0 _ rfl; (with_reducible repeat (first | refine Kn ?_ _ | refine Ke ?_ | refine Ka ?_ _)); exact BK356.out⟩
                           have n4_ : Ad (Below w.heap.size w (((((w40.setCell ⟨gb356, 0, none⟩ (.int .i64 ((rd_T26 t342 x75_4).f0))).setCell ⟨gb356, 1, none⟩ (.int .i64 ((rd_T26 t342 x75_4).f1))).setCell ⟨gb356, 2, none⟩ (.int .i64 ((rd_T26 t342 x75_4).f2))).setCell ⟨gb356, 3, none⟩ (.int .i64 ((rd_T26 t342 x75_4).f3))).setCell ⟨gb356, 4, none⟩ (.int .i64 ((rd_T26 t342 x75_4).f4)))) := ⟨by repeat (first | (with_reducible first | exact HB.out | apply Ba | apply Bn | apply Bd | refine Bs ?_ GE356.out) | exact HB.out)⟩
                           (try clear HO_5)
                           (try clear HO_6)
                           (try clear HO_73)
                           (try clear BK356)
                           (try clear HB)
                           generalize (((((w40.setCell ⟨gb356, 0, none⟩ (.int .i64 ((rd_T26 t342 x75_4).f0))).setCell ⟨gb356, 1, none⟩ (.int .i64 ((rd_T26 t342 x75_4).f1))).setCell ⟨gb356, 2, none⟩ (.int .i64 ((rd_T26 t342 x75_4).f2))).setCell ⟨gb356, 3, none⟩ (.int .i64 ((rd_T26 t342 x75_4).f3))).setCell ⟨gb356, 4, none⟩ (.int .i64 ((rd_T26 t342 x75_4).f4))) = w42 at n0_ n1_ n2_ n3_ n4_ ⊢
                           have HO_5 := n0_
                           have HO_6 := n1_
                           have HO_73 := n2_
                           have BK356 := n3_
                           have HB := n4_
                           clear n0_ n1_ n2_ n3_ n4_
                           have n0_ := Am (Rd HO_5.out)
                           have n1_ := Am (Rd HO_6.out)
                           have n2_ := Am (Rd HO_73.out)
                           have n3_ := Am (Ke BK356.out)
                           have n4_ := Am (Bd HB.out)
                           clear HO_5
                           clear HO_6
                           clear HO_73
                           clear BK356
                           clear HB
                           have HO_5 := n0_
                           have HO_6 := n1_
                           have HO_73 := n2_
                           have BK356 := n3_
                           have HB := n4_
                           clear n0_ n1_ n2_ n3_ n4_
                           have p357 : 0 ≤ (x13_3 : Int) := of_decide_eq_true (by assumption)
                           have q357 : x13_3 < (t341.length : Int) := of_decide_eq_true (by assumption)
                           obtain ⟨ad357, e357, hx357_0, hx357_1, hx357_2, hx357_3, hx357_4⟩ := at_T26 (Kd.R_reads' HO_5.out).2.2 x13_3 p357 q357
                           obtain rfl : ad351 = ad357 := (by injection e357)
                           replace p357 := eq_true p357
                           replace q357 := eq_true q357
                           refine start_ (n := 6) (S := fun w' => w'.cell? ⟨gb356, 0, none⟩ = some (.int .i64 ((rd_T26 t342 x75_4).f0)) ∧ w'.cell? ⟨gb356, 1, none⟩ = some (.int .i64 ((rd_T26 t342 x75_4).f1)) ∧ w'.cell? ⟨gb356, 2, none⟩ = some (.int .i64 ((rd_T26 t342 x75_4).f2)) ∧ w'.cell? ⟨gb356, 3, none⟩ = some (.int .i64 ((rd_T26 t342 x75_4).f3)) ∧ w'.cell? ⟨gb356, 4, none⟩ = some (.int .i64 ((rd_T26 t342 x75_4).f4)) ∧ w'.cell? (ad351.add ((x13_3).toNat * 5)) = some (.int .i64 ((rd_T26 t341 x13_3).f0)) ∧ w'.cell? ⟨(ad351.add ((x13_3).toNat * 5)).block, (ad351.add ((x13_3).toNat * 5)).off + 1, none⟩ = some (.int .i64 ((rd_T26 t341 x13_3).f1)) ∧ w'.cell? ⟨(ad351.add ((x13_3).toNat * 5)).block, (ad351.add ((x13_3).toNat * 5)).off + 2, none⟩ = some (.int .i64 ((rd_T26 t341 x13_3).f2)) ∧ w'.cell? ⟨(ad351.add ((x13_3).toNat * 5)).block, (ad351.add ((x13_3).toNat * 5)).off + 3, none⟩ = some (.int .i64 ((rd_T26 t341 x13_3).f3)) ∧ w'.cell? ⟨(ad351.add ((x13_3).toNat * 5)).block, (ad351.add ((x13_3).toNat * 5)).off + 4, none⟩ = some (.int .i64 ((rd_T26 t341 x13_3).f4))) (ds := []) #[false, false, false, false, false, false] (by kernel_rfl) rfl rfl ⟨(Kc BK356.out 0).trans rfl, (Kc BK356.out 1).trans rfl, (Kc BK356.out 2).trans rfl, (Kc BK356.out 3).trans rfl, (Kc BK356.out 4).trans rfl, hx357_0, hx357_1, hx357_2, hx357_3, hx357_4⟩ (fun hHeld => ?_)
                           generalize w42.drew = w43 at HO_5 HO_6 HO_73 BK356 HB hx357_0 hx357_1 hx357_2 hx357_3 hx357_4 hHeld ⊢
                           refine pure_ (i := 1) (N := some 81) (v := ?_) (a' := ?_) #[false, true, false, false, false, false] rfl rfl (by kernel_rfl) (fun _ _ _ h => h) (Or.inl ⟨by rfl, ?_⟩) ?_ ?_
                           rotate_left
                           ·intro w'
                            go_simp
                            with_reducible rfl
                           rotate_left
                           ·simp only [Act.put, Lt, Lz, Ls, i64_w, i32_w]
                            rfl
                           refine pure_ (i := 2) (N := some 82) (v := ?_) (a' := ?_) #[false, true, true, false, false, false] rfl rfl (by kernel_rfl) (fun _ _ _ h => h) (Or.inl ⟨by rfl, ?_⟩) ?_ ?_
                           rotate_left
                           ·intro w'
                            go_simp
                            with_reducible rfl
                           rotate_left
                           ·simp only [Act.put, Lt, Lz, Ls, i64_w, i32_w]
                            rfl
                           refine pure_ (i := 3) (N := some 83) (v := ?_) (a' := ?_) #[false, true, true, true, false, false] rfl rfl (by kernel_rfl) (fun _ _ _ h => h) (Or.inl ⟨by rfl, ?_⟩) ?_ ?_
                           rotate_left
                           ·intro w'
                            go_simp
                            with_reducible rfl
                           rotate_left
                           ·simp only [Act.put, Lt, Lz, Ls, i64_w, i32_w]
                            rfl
                           refine take_ (i := 0) (N := some 80) (v := ?_) (a' := ?_) #[true, true, true, true, false, false] rfl rfl (by kernel_rfl) (fun _ _ _ h => h) (Or.inl ⟨by rfl, ?_⟩) hHeld ?_ ?_
                           rotate_left
                           ·rintro w' ⟨s0, s1, s2, s3, s4, s5, s6, s7, s8, s9⟩
                            go_simp
                            with_reducible rfl
                           rotate_left
                           ·simp only [Act.put, Lt, Lz, Ls, i64_w, i32_w]
                            rfl
                           refine take_ (i := 4) (N := some 84) (v := ?_) (a' := ?_) #[true, true, true, true, true, false] rfl rfl (by kernel_rfl) (fun _ _ _ h => h) (Or.inl ⟨by rfl, ?_⟩) hHeld ?_ ?_
                           rotate_left
                           ·rintro w' ⟨s0, s1, s2, s3, s4, s5, s6, s7, s8, s9⟩
                            go_simp
                            with_reducible rfl
                           rotate_left
                           ·simp only [Act.put, Lt, Lz, Ls, i64_w, i32_w]
                            rfl
                           refine pure_ (i := 5) (N := some 85) (v := ?_) (a' := ?_) #[true, true, true, true, true, true] rfl rfl (by kernel_rfl) (fun _ _ _ h => h) (Or.inl ⟨by rfl, ?_⟩) ?_ ?_
                           rotate_left
                           ·intro w'
                            go_simp
                            with_reducible rfl
                           rotate_left
                           ·simp only [Act.put, Lt, Lz, Ls, i64_w, i32_w]
                            rfl
                           refine done_ (by kernel_rfl) ?_
                           try go_wp2
                           have n0_ := Am (Rd HO_5.out)
                           have n1_ := Am (Rd HO_6.out)
                           have n2_ := Am (Rd HO_73.out)
                           have n3_ := Am (Ke BK356.out)
                           have n4_ := Am (Bd HB.out)
                           clear HO_5
                           clear HO_6
                           clear HO_73
                           clear BK356
                           clear HB
                           have HO_5 := n0_
                           have HO_6 := n1_
                           have HO_73 := n2_
                           have BK356 := n3_
                           have HB := n4_
                           clear n0_ n1_ n2_ n3_ n4_
                           have p358 : 0 ≤ (x53_2 : Int) := of_decide_eq_true (by assumption)
                           have q358 : x53_2 < (t341.length : Int) := of_decide_eq_true (by assumption)
                           obtain ⟨ad358, e358, hx358_0, hx358_1, hx358_2, hx358_3, hx358_4⟩ := at_T26 (Kd.R_reads' HO_5.out).2.2 x53_2 p358 q358
                           obtain rfl : ad351 = ad358 := (by injection e358)
                           replace p358 := eq_true p358
                           replace q358 := eq_true q358
                           refine start_ (n := 6) (S := fun w' => w'.cell? ⟨gb356, 0, none⟩ = some (.int .i64 ((rd_T26 t342 x75_4).f0)) ∧ w'.cell? ⟨gb356, 1, none⟩ = some (.int .i64 ((rd_T26 t342 x75_4).f1)) ∧ w'.cell? ⟨gb356, 2, none⟩ = some (.int .i64 ((rd_T26 t342 x75_4).f2)) ∧ w'.cell? ⟨gb356, 3, none⟩ = some (.int .i64 ((rd_T26 t342 x75_4).f3)) ∧ w'.cell? ⟨gb356, 4, none⟩ = some (.int .i64 ((rd_T26 t342 x75_4).f4)) ∧ w'.cell? (ad351.add ((x53_2).toNat * 5)) = some (.int .i64 ((rd_T26 t341 x53_2).f0)) ∧ w'.cell? ⟨(ad351.add ((x53_2).toNat * 5)).block, (ad351.add ((x53_2).toNat * 5)).off + 1, none⟩ = some (.int .i64 ((rd_T26 t341 x53_2).f1)) ∧ w'.cell? ⟨(ad351.add ((x53_2).toNat * 5)).block, (ad351.add ((x53_2).toNat * 5)).off + 2, none⟩ = some (.int .i64 ((rd_T26 t341 x53_2).f2)) ∧ w'.cell? ⟨(ad351.add ((x53_2).toNat * 5)).block, (ad351.add ((x53_2).toNat * 5)).off + 3, none⟩ = some (.int .i64 ((rd_T26 t341 x53_2).f3)) ∧ w'.cell? ⟨(ad351.add ((x53_2).toNat * 5)).block, (ad351.add ((x53_2).toNat * 5)).off + 4, none⟩ = some (.int .i64 ((rd_T26 t341 x53_2).f4))) (ds := []) #[false, false, false, false, false, false] (by kernel_rfl) rfl rfl ⟨(Kc BK356.out 0).trans rfl, (Kc BK356.out 1).trans rfl, (Kc BK356.out 2).trans rfl, (Kc BK356.out 3).trans rfl, (Kc BK356.out 4).trans rfl, hx358_0, hx358_1, hx358_2, hx358_3, hx358_4⟩ (fun hHeld => ?_)
                           generalize w43.drew = w44 at HO_5 HO_6 HO_73 BK356 HB hx358_0 hx358_1 hx358_2 hx358_3 hx358_4 hHeld ⊢
                           refine pure_ (i := 1) (N := some 88) (v := ?_) (a' := ?_) #[false, true, false, false, false, false] rfl rfl (by kernel_rfl) (fun _ _ _ h => h) (Or.inl ⟨by rfl, ?_⟩) ?_ ?_
                           rotate_left
                           ·intro w'
                            go_simp
                            with_reducible rfl
                           rotate_left
                           ·simp only [Act.put, Lt, Lz, Ls, i64_w, i32_w]
                            rfl
                           refine pure_ (i := 2) (N := some 89) (v := ?_) (a' := ?_) #[false, true, true, false, false, false] rfl rfl (by kernel_rfl) (fun _ _ _ h => h) (Or.inl ⟨by rfl, ?_⟩) ?_ ?_
                           rotate_left
                           ·intro w'
                            go_simp
                            with_reducible rfl
                           rotate_left
                           ·simp only [Act.put, Lt, Lz, Ls, i64_w, i32_w]
                            rfl
                           refine pure_ (i := 3) (N := some 90) (v := ?_) (a' := ?_) #[false, true, true, true, false, false] rfl rfl (by kernel_rfl) (fun _ _ _ h => h) (Or.inl ⟨by rfl, ?_⟩) ?_ ?_
                           rotate_left
                           ·intro w'
                            go_simp
                            with_reducible rfl
                           rotate_left
                           ·simp only [Act.put, Lt, Lz, Ls, i64_w, i32_w]
                            rfl
                           refine take_ (i := 0) (N := some 87) (v := ?_) (a' := ?_) #[true, true, true, true, false, false] rfl rfl (by kernel_rfl) (fun _ _ _ h => h) (Or.inl ⟨by rfl, ?_⟩) hHeld ?_ ?_
                           rotate_left
                           ·rintro w' ⟨s0, s1, s2, s3, s4, s5, s6, s7, s8, s9⟩
                            go_simp
                            with_reducible rfl
                           rotate_left
                           ·simp only [Act.put, Lt, Lz, Ls, i64_w, i32_w]
                            rfl
                           refine take_ (i := 4) (N := some 91) (v := ?_) (a' := ?_) #[true, true, true, true, true, false] rfl rfl (by kernel_rfl) (fun _ _ _ h => h) (Or.inl ⟨by rfl, ?_⟩) hHeld ?_ ?_
                           rotate_left
                           ·rintro w' ⟨s0, s1, s2, s3, s4, s5, s6, s7, s8, s9⟩
                            go_simp
                            with_reducible rfl
                           rotate_left
                           ·simp only [Act.put, Lt, Lz, Ls, i64_w, i32_w]
                            rfl
                           refine pure_ (i := 5) (N := some 92) (v := ?_) (a' := ?_) #[true, true, true, true, true, true] rfl rfl (by kernel_rfl) (fun _ _ _ h => h) (Or.inl ⟨by rfl, ?_⟩) ?_ ?_
                           rotate_left
                           ·intro w'
                            go_simp
                            with_reducible rfl
                           rotate_left
                           ·simp only [Act.put, Lt, Lz, Ls, i64_w, i32_w]
                            rfl
                           refine done_ (by kernel_rfl) ?_
                           try go_wp2
                           go_roundg k4
                           case measure => have := HJ7.out; have := HK2.out; have := HK3.out; have := HK4.out; omega
                           case rel => exact ⟨(x75_4), (x17_4), (wrap64 (x75_4 + 1)), (by first | rfl | (simp; done) | (simp [*]; done)), (by first | rfl | (simp; done) | (simp [*]; done)), (by first | rfl | (simp; done) | (simp [*]; done)), H', ⟨by have := HJ7.out; have := HK2.out; have := HK3.out; have := HK4.out; omega⟩, ⟨by (with_reducible repeat (first | apply Ra | apply Rn | apply Rd)); exact Kd.R_mono HO_5.out (fun _ hk => ⟨hk.1, hk.2.1⟩)⟩, ⟨by (with_reducible repeat (first | apply Ra | apply Rn | apply Rd)); exact Kd.R_mono HO_6.out (fun _ hk => hk.1)⟩, ⟨by (with_reducible repeat (first | apply Ra | apply Rn | apply Rd)); exact Kd.R_mono HO_73.out (fun _ hk => hk.1)⟩, ⟨by repeat (first | (with_reducible first | exact HB.out | apply Ba | apply Bn | apply Bd | refine Bs ?_ GE356.out) | exact HB.out)⟩⟩
                         ·rw [if_neg c33] at H
                          exact absurd H (by simp)
                        ·rw [if_neg c32] at H
                         exact absurd H (by simp)
                       ·rw [if_neg c31] at H
                        have c31b0 : (((rd_T26 t342 x75_4).f0) == ((rd_T26 t341 x13_3).f0) && (((rd_T26 t342 x75_4).f1) == ((rd_T26 t341 x13_3).f1) && (((rd_T26 t342 x75_4).f2) == ((rd_T26 t341 x13_3).f2) && (((rd_T26 t342 x75_4).f3) == ((rd_T26 t341 x13_3).f3) && (((rd_T26 t342 x75_4).f4) == ((rd_T26 t341 x13_3).f4)))))) = false := by simpa using c31
                        (try (have c31b1 : decide (((rd_T26 t342 x75_4).f0) = ((rd_T26 t341 x13_3).f0) && (((rd_T26 t342 x75_4).f1) == ((rd_T26 t341 x13_3).f1) && (((rd_T26 t342 x75_4).f2) == ((rd_T26 t341 x13_3).f2) && (((rd_T26 t342 x75_4).f3) == ((rd_T26 t341 x13_3).f3) && (((rd_T26 t342 x75_4).f4) == ((rd_T26 t341 x13_3).f4)))))) = false := by simpa using c31))
                        (try (have c31b2 : (((rd_T26 t342 x75_4).f0) == ((rd_T26 t341 x13_3).f0) && (((rd_T26 t342 x75_4).f1) == ((rd_T26 t341 x13_3).f1) && (((rd_T26 t342 x75_4).f2) == ((rd_T26 t341 x13_3).f2) && (((rd_T26 t342 x75_4).f3) == ((rd_T26 t341 x13_3).f3) && (((rd_T26 t342 x75_4).f4) == ((rd_T26 t341 x13_3).f4)))))) = false := by simpa using c31))
                        (try (have c31b3 : ¬ (((rd_T26 t342 x75_4).f0) = ((rd_T26 t341 x13_3).f0) && (((rd_T26 t342 x75_4).f1) == ((rd_T26 t341 x13_3).f1) && (((rd_T26 t342 x75_4).f2) == ((rd_T26 t341 x13_3).f2) && (((rd_T26 t342 x75_4).f3) == ((rd_T26 t341 x13_3).f3) && (((rd_T26 t342 x75_4).f4) == ((rd_T26 t341 x13_3).f4)))))) := by simpa using c31))
                        clear c31
                        by_cases c45 : 0 ≤ x53_2
                        ·rw [if_pos c45] at H
                         have c45b0 : decide (0 ≤ x53_2) = true := decide_eq_true c45
                         clear c45
                         by_cases c46 : x53_2 < (t341.length : Int)
                         ·rw [if_pos c46] at H
                          have c46b0 : decide (x53_2 < (t341.length : Int)) = true := decide_eq_true c46
                          clear c46
                          by_cases c47 : (((rd_T26 t342 x75_4).f0) == ((rd_T26 t341 x53_2).f0) && (((rd_T26 t342 x75_4).f1) == ((rd_T26 t341 x53_2).f1) && (((rd_T26 t342 x75_4).f2) == ((rd_T26 t341 x53_2).f2) && (((rd_T26 t342 x75_4).f3) == ((rd_T26 t341 x53_2).f3) && (((rd_T26 t342 x75_4).f4) == ((rd_T26 t341 x53_2).f4)))))) = true
                          ·rw [if_pos c47] at H
                           have c47b0 : (((rd_T26 t342 x75_4).f0) == ((rd_T26 t341 x53_2).f0) && (((rd_T26 t342 x75_4).f1) == ((rd_T26 t341 x53_2).f1) && (((rd_T26 t342 x75_4).f2) == ((rd_T26 t341 x53_2).f2) && (((rd_T26 t342 x75_4).f3) == ((rd_T26 t341 x53_2).f3) && (((rd_T26 t342 x75_4).f4) == ((rd_T26 t341 x53_2).f4)))))) = true := c47
                           (try (have c47b1 : decide (((rd_T26 t342 x75_4).f0) = ((rd_T26 t341 x53_2).f0) && (((rd_T26 t342 x75_4).f1) == ((rd_T26 t341 x53_2).f1) && (((rd_T26 t342 x75_4).f2) == ((rd_T26 t341 x53_2).f2) && (((rd_T26 t342 x75_4).f3) == ((rd_T26 t341 x53_2).f3) && (((rd_T26 t342 x75_4).f4) == ((rd_T26 t341 x53_2).f4)))))) = true := by simpa using c47))
                           (try (have c47b2 : (((rd_T26 t342 x75_4).f0) == ((rd_T26 t341 x53_2).f0) && (((rd_T26 t342 x75_4).f1) == ((rd_T26 t341 x53_2).f1) && (((rd_T26 t342 x75_4).f2) == ((rd_T26 t341 x53_2).f2) && (((rd_T26 t342 x75_4).f3) == ((rd_T26 t341 x53_2).f3) && (((rd_T26 t342 x75_4).f4) == ((rd_T26 t341 x53_2).f4)))))) = true := by simpa using c47))
                           clear c47
                           have H' := Am H
                           clear H
                           have p355 : 0 ≤ (x75_4 : Int) := of_decide_eq_true (by assumption)
                           have q355 : x75_4 < (t342.length : Int) := of_decide_eq_true (by assumption)
                           obtain ⟨ad355, e355, hx355_0, hx355_1, hx355_2, hx355_3, hx355_4⟩ := at_T26 (Kd.R_reads' HO_73.out).2.2 x75_4 p355 q355
                           cases e355
                           replace p355 := eq_true p355
                           replace q355 := eq_true q355
                           try go_wp2_with (first | ((refine Gd (N := 19) rfl ?_); refine Be ?hg (N := 19) ?hd (cs := #[.int .i64 0, .int .i64 0, .int .i64 0, .int .i64 0, .int .i64 0]) (t := 26) ?hr ?_; (case hd | hg => rfl); (case hr => first | (go_simp; done) | (go_simp; rfl)); intro gb356 hg w48 hbox hb; have n0_ := Am (Kd.R_below (Kd.R_elderB (by (with_reducible repeat (first | apply Ra | apply Rn | apply Rd)); exact HO_5.out) gb356 (Nat.le_of_eq hg.symm)) hb); have n1_ := Am (Kd.R_below (Kd.R_elderB (by (with_reducible repeat (first | apply Ra | apply Rn | apply Rd)); exact HO_6.out) gb356 (Nat.le_of_eq hg.symm)) hb); have n2_ := Am (Kd.R_below (Kd.R_elderB (by (with_reducible repeat (first | apply Ra | apply Rn | apply Rd)); exact HO_73.out) gb356 (Nat.le_of_eq hg.symm)) hb); have n3_ := Am (Bt (by repeat (first | exact HB.out | apply Ba | apply Bn | apply Bd)) hb); have n4_ := Am (hbox); have n5_ := Am ((by rw [hg]; exact (Bz (by repeat (first | exact HB.out | apply Ba | apply Bn | apply Bd))) : w.heap.size ≤ gb356)); have n6_ := Am ((by rw [hg]; exact (Bz (by repeat (first | exact HB.out | apply Ba | apply Bn | apply Bd))) : w.heap.size ≤ gb356)); clear HO_5; clear HO_6; clear HO_73; clear HB; have HO_5 := n0_; have HO_6 := n1_; have HO_73 := n2_; have HB := n3_; have BK356 := n4_; have GW356 := n5_; have GE356 := n6_; clear n0_ n1_ n2_ n3_ n4_ n5_ n6_; clear hb hbox hg; have hcz49_0 : w48.cell? ⟨gb356, 0, none⟩ = some (.int .i64 0) := (Kc BK356.out 0).trans rfl; have hcz49_1 : w48.cell? ⟨gb356, 1, none⟩ = some (.int .i64 0) := (Kc BK356.out 1).trans rfl; have hcz49_2 : w48.cell? ⟨gb356, 2, none⟩ = some (.int .i64 0) := (Kc BK356.out 2).trans rfl; have hcz49_3 : w48.cell? ⟨gb356, 3, none⟩ = some (.int .i64 0) := (Kc BK356.out 3).trans rfl; have hcz49_4 : w48.cell? ⟨gb356, 4, none⟩ = some (.int .i64 0) := (Kc BK356.out 4).trans rfl; have hfz49_0 := Kz BK356.out 0; have hfz49_1 := Kz BK356.out 1; have hfz49_2 := Kz BK356.out 2; have hfz49_3 := Kz BK356.out 3; have hfz49_4 := Kz BK356.out 4))
                           have n0_ : Ad (Kd.R k26 26 (((((w48.setCell ⟨gb356, 0, none⟩ (.int .i64 ((rd_T26 t342 x75_4).f0))).setCell ⟨gb356, 1, none⟩ (.int .i64 ((rd_T26 t342 x75_4).f1))).setCell ⟨gb356, 2, none⟩ (.int .i64 ((rd_T26 t342 x75_4).f2))).setCell ⟨gb356, 3, none⟩ (.int .i64 ((rd_T26 t342 x75_4).f3))).setCell ⟨gb356, 4, none⟩ (.int .i64 ((rd_T26 t342 x75_4).f4))) w.heap.size (fun k_ => some k_ ≠ (.slice (some ad355) t342.length co11 : Value).ownBlock ∧ some k_ ≠ (.slice (some ad355) t342.length co11 : Value).ownBlock ∧ k_ ≠ gb356) (.slice (some ad351) t341.length co10) t341) := ⟨by (with_reducible repeat (first | apply Ra | apply Rn | apply Rd)); exact Kd.R_mono (Kd.R_far (p := ⟨gb356, 4, none⟩) (Kd.R_far (p := ⟨gb356, 3, none⟩) (Kd.R_far (p := ⟨gb356, 2, none⟩) (Kd.R_far (p := ⟨gb356, 1, none⟩) (Kd.R_far (p := ⟨gb356, 0, none⟩) (Kd.R_mono HO_5.out (fun k_ hk => (⟨hk, hk.2⟩ : _ ∧ k_ ≠ gb356))) (fun _ hk => hk.2) (.int .i64 ((rd_T26 t342 x75_4).f0))) (fun _ hk => hk.2) (.int .i64 ((rd_T26 t342 x75_4).f1))) (fun _ hk => hk.2) (.int .i64 ((rd_T26 t342 x75_4).f2))) (fun _ hk => hk.2) (.int .i64 ((rd_T26 t342 x75_4).f3))) (fun _ hk => hk.2) (.int .i64 ((rd_T26 t342 x75_4).f4))) (fun _ hk => ⟨hk.1.1.1, ⟨hk.1.1.2, hk.1.2⟩⟩)⟩
                           have n1_ : Ad (Kd.R k26 26 (((((w48.setCell ⟨gb356, 0, none⟩ (.int .i64 ((rd_T26 t342 x75_4).f0))).setCell ⟨gb356, 1, none⟩ (.int .i64 ((rd_T26 t342 x75_4).f1))).setCell ⟨gb356, 2, none⟩ (.int .i64 ((rd_T26 t342 x75_4).f2))).setCell ⟨gb356, 3, none⟩ (.int .i64 ((rd_T26 t342 x75_4).f3))).setCell ⟨gb356, 4, none⟩ (.int .i64 ((rd_T26 t342 x75_4).f4))) w.heap.size (fun k_ => some k_ ≠ (.slice (some ad351) t341.length co10 : Value).ownBlock ∧ k_ ≠ gb356) (.slice (some ad355) t342.length co11) t342) := ⟨by (with_reducible repeat (first | apply Ra | apply Rn | apply Rd)); exact Kd.R_mono (Kd.R_far (p := ⟨gb356, 4, none⟩) (Kd.R_far (p := ⟨gb356, 3, none⟩) (Kd.R_far (p := ⟨gb356, 2, none⟩) (Kd.R_far (p := ⟨gb356, 1, none⟩) (Kd.R_far (p := ⟨gb356, 0, none⟩) (Kd.R_mono HO_6.out (fun k_ hk => (⟨hk, hk.2⟩ : _ ∧ k_ ≠ gb356))) (fun _ hk => hk.2) (.int .i64 ((rd_T26 t342 x75_4).f0))) (fun _ hk => hk.2) (.int .i64 ((rd_T26 t342 x75_4).f1))) (fun _ hk => hk.2) (.int .i64 ((rd_T26 t342 x75_4).f2))) (fun _ hk => hk.2) (.int .i64 ((rd_T26 t342 x75_4).f3))) (fun _ hk => hk.2) (.int .i64 ((rd_T26 t342 x75_4).f4))) (fun _ hk => ⟨hk.1.1, hk.1.2⟩)⟩
                           have n2_ : Ad (Kd.R k26 26 (((((w48.setCell ⟨gb356, 0, none⟩ (.int .i64 ((rd_T26 t342 x75_4).f0))).setCell ⟨gb356, 1, none⟩ (.int .i64 ((rd_T26 t342 x75_4).f1))).setCell ⟨gb356, 2, none⟩ (.int .i64 ((rd_T26 t342 x75_4).f2))).setCell ⟨gb356, 3, none⟩ (.int .i64 ((rd_T26 t342 x75_4).f3))).setCell ⟨gb356, 4, none⟩ (.int .i64 ((rd_T26 t342 x75_4).f4))) w.heap.size (fun k_ => some k_ ≠ (.slice (some ad351) t341.length co10 : Value).ownBlock ∧ k_ ≠ gb356) (.slice (some ad355) t342.length co11) t342) := ⟨by (with_reducible repeat (first | apply Ra | apply Rn | apply Rd)); exact Kd.R_mono (Kd.R_far (p := ⟨gb356, 4, none⟩) (Kd.R_far (p := ⟨gb356, 3, none⟩) (Kd.R_far (p := ⟨gb356, 2, none⟩) (Kd.R_far (p := ⟨gb356, 1, none⟩) (Kd.R_far (p := ⟨gb356, 0, none⟩) (Kd.R_mono HO_73.out (fun k_ hk => (⟨hk, hk.2⟩ : _ ∧ k_ ≠ gb356))) (fun _ hk => hk.2) (.int .i64 ((rd_T26 t342 x75_4).f0))) (fun _ hk => hk.2) (.int .i64 ((rd_T26 t342 x75_4).f1))) (fun _ hk => hk.2) (.int .i64 ((rd_T26 t342 x75_4).f2))) (fun _ hk => hk.2) (.int .i64 ((rd_T26 t342 x75_4).f3))) (fun _ hk => hk.2) (.int .i64 ((rd_T26 t342 x75_4).f4))) (fun _ hk => ⟨hk.1.1, hk.1.2⟩)⟩
                           have n3_ : Ad ((((((w48.setCell ⟨gb356, 0, none⟩ (.int .i64 ((rd_T26 t342 x75_4).f0))).setCell ⟨gb356, 1, none⟩ (.int .i64 ((rd_T26 t342 x75_4).f1))).setCell ⟨gb356, 2, none⟩ (.int .i64 ((rd_T26 t342 x75_4).f2))).setCell ⟨gb356, 3, none⟩ (.int .i64 ((rd_T26 t342 x75_4).f3))).setCell ⟨gb356, 4, none⟩ (.int .i64 ((rd_T26 t342 x75_4).f4))).heap[gb356]? = some (.cells #[.int .i64 ((rd_T26 t342 x75_4).f0), .int .i64 ((rd_T26 t342 x75_4).f1), .int .i64 ((rd_T26 t342 x75_4).f2), .int .i64 ((rd_T26 t342 x75_4).f3), .int .i64 ((rd_T26 t342 x75_4).f4)] 26 (0, 0))) := ⟨by (with_reducible repeat (first | refine Kn ?_ _ | refine Ke ?_ | refine Ka ?_ _)); refine blk_put (cs := #[.int .i64 ((rd_T26 t342 x75_4).f0), .int .i64 ((rd_T26 t342 x75_4).f1), .int .i64 ((rd_T26 t342 x75_4).f2), .int .i64 ((rd_T26 t342 x75_4).f3), .int .i64 0]) ?_ 4 _ rfl; (with_reducible repeat (first | refine Kn ?_ _ | refine Ke ?_ | refine Ka ?_ _)); refine blk_put (cs := #[.int .i64 ((rd_T26 t342 x75_4).f0), .int .i64 ((rd_T26 t342 x75_4).f1), .int .i64 ((rd_T26 t342 x75_4).f2), .int .i64 0, .int .i64 0]) ?_ 3 _ rfl; (with_reducible repeat (first | refine Kn ?_ _ | refine Ke ?_ | refine Ka ?_ _)); refine blk_put (cs := #[.int .i64 ((rd_T26 t342 x75_4).f0), .int .i64 ((rd_T26 t342 x75_4).f1), .int .i64 0, .int .i64 0, .int .i64 0]) ?_ 2 _ rfl; (with_reducible repeat (first | refine Kn ?_ _ | refine Ke ?_ | refine Ka ?_ _)); refine blk_put (cs := #[.int .i64 ((rd_T26 t342 x75_4).f0), .int .i64 0, .int .i64 0, .int .i64 0, .int .i64 0]) ?_ 1 _ rfl; (with_reducible repeat (first | refine Kn ?_ _ | refine Ke ?_ | refine Ka ?_ _)); refine blk_put (cs := #[.int .i64 0, .int .i64 0, .int .i64 0, .int .i64 0, .int .i64 0]) ?_ 0 _ rfl; (with_reducible repeat (first | refine Kn ?_ _ | refine Ke ?_ | refine Ka ?_ _)); exact BK356.out⟩
                           have n4_ : Ad (Below w.heap.size w (((((w48.setCell ⟨gb356, 0, none⟩ (.int .i64 ((rd_T26 t342 x75_4).f0))).setCell ⟨gb356, 1, none⟩ (.int .i64 ((rd_T26 t342 x75_4).f1))).setCell ⟨gb356, 2, none⟩ (.int .i64 ((rd_T26 t342 x75_4).f2))).setCell ⟨gb356, 3, none⟩ (.int .i64 ((rd_T26 t342 x75_4).f3))).setCell ⟨gb356, 4, none⟩ (.int .i64 ((rd_T26 t342 x75_4).f4)))) := ⟨by repeat (first | (with_reducible first | exact HB.out | apply Ba | apply Bn | apply Bd | refine Bs ?_ GE356.out) | exact HB.out)⟩
                           (try clear HO_5)
                           (try clear HO_6)
                           (try clear HO_73)
                           (try clear BK356)
                           (try clear HB)
                           generalize (((((w48.setCell ⟨gb356, 0, none⟩ (.int .i64 ((rd_T26 t342 x75_4).f0))).setCell ⟨gb356, 1, none⟩ (.int .i64 ((rd_T26 t342 x75_4).f1))).setCell ⟨gb356, 2, none⟩ (.int .i64 ((rd_T26 t342 x75_4).f2))).setCell ⟨gb356, 3, none⟩ (.int .i64 ((rd_T26 t342 x75_4).f3))).setCell ⟨gb356, 4, none⟩ (.int .i64 ((rd_T26 t342 x75_4).f4))) = w50 at n0_ n1_ n2_ n3_ n4_ ⊢
                           have HO_5 := n0_
                           have HO_6 := n1_
                           have HO_73 := n2_
                           have BK356 := n3_
                           have HB := n4_
                           clear n0_ n1_ n2_ n3_ n4_
                           have n0_ := Am (Rd HO_5.out)
                           have n1_ := Am (Rd HO_6.out)
                           have n2_ := Am (Rd HO_73.out)
                           have n3_ := Am (Ke BK356.out)
                           have n4_ := Am (Bd HB.out)
                           clear HO_5
                           clear HO_6
                           clear HO_73
                           clear BK356
                           clear HB
                           have HO_5 := n0_
                           have HO_6 := n1_
                           have HO_73 := n2_
                           have BK356 := n3_
                           have HB := n4_
                           clear n0_ n1_ n2_ n3_ n4_
                           have p357 : 0 ≤ (x13_3 : Int) := of_decide_eq_true (by assumption)
                           have q357 : x13_3 < (t341.length : Int) := of_decide_eq_true (by assumption)
                           obtain ⟨ad357, e357, hx357_0, hx357_1, hx357_2, hx357_3, hx357_4⟩ := at_T26 (Kd.R_reads' HO_5.out).2.2 x13_3 p357 q357
                           obtain rfl : ad351 = ad357 := (by injection e357)
                           replace p357 := eq_true p357
                           replace q357 := eq_true q357
                           refine start_ (n := 6) (S := fun w' => w'.cell? ⟨gb356, 0, none⟩ = some (.int .i64 ((rd_T26 t342 x75_4).f0)) ∧ w'.cell? ⟨gb356, 1, none⟩ = some (.int .i64 ((rd_T26 t342 x75_4).f1)) ∧ w'.cell? ⟨gb356, 2, none⟩ = some (.int .i64 ((rd_T26 t342 x75_4).f2)) ∧ w'.cell? ⟨gb356, 3, none⟩ = some (.int .i64 ((rd_T26 t342 x75_4).f3)) ∧ w'.cell? ⟨gb356, 4, none⟩ = some (.int .i64 ((rd_T26 t342 x75_4).f4)) ∧ w'.cell? (ad351.add ((x13_3).toNat * 5)) = some (.int .i64 ((rd_T26 t341 x13_3).f0)) ∧ w'.cell? ⟨(ad351.add ((x13_3).toNat * 5)).block, (ad351.add ((x13_3).toNat * 5)).off + 1, none⟩ = some (.int .i64 ((rd_T26 t341 x13_3).f1)) ∧ w'.cell? ⟨(ad351.add ((x13_3).toNat * 5)).block, (ad351.add ((x13_3).toNat * 5)).off + 2, none⟩ = some (.int .i64 ((rd_T26 t341 x13_3).f2)) ∧ w'.cell? ⟨(ad351.add ((x13_3).toNat * 5)).block, (ad351.add ((x13_3).toNat * 5)).off + 3, none⟩ = some (.int .i64 ((rd_T26 t341 x13_3).f3)) ∧ w'.cell? ⟨(ad351.add ((x13_3).toNat * 5)).block, (ad351.add ((x13_3).toNat * 5)).off + 4, none⟩ = some (.int .i64 ((rd_T26 t341 x13_3).f4))) (ds := []) #[false, false, false, false, false, false] (by kernel_rfl) rfl rfl ⟨(Kc BK356.out 0).trans rfl, (Kc BK356.out 1).trans rfl, (Kc BK356.out 2).trans rfl, (Kc BK356.out 3).trans rfl, (Kc BK356.out 4).trans rfl, hx357_0, hx357_1, hx357_2, hx357_3, hx357_4⟩ (fun hHeld => ?_)
                           generalize w50.drew = w51 at HO_5 HO_6 HO_73 BK356 HB hx357_0 hx357_1 hx357_2 hx357_3 hx357_4 hHeld ⊢
                           refine pure_ (i := 1) (N := some 81) (v := ?_) (a' := ?_) #[false, true, false, false, false, false] rfl rfl (by kernel_rfl) (fun _ _ _ h => h) (Or.inl ⟨by rfl, ?_⟩) ?_ ?_
                           rotate_left
                           ·intro w'
                            go_simp
                            with_reducible rfl
                           rotate_left
                           ·simp only [Act.put, Lt, Lz, Ls, i64_w, i32_w]
                            rfl
                           refine pure_ (i := 2) (N := some 82) (v := ?_) (a' := ?_) #[false, true, true, false, false, false] rfl rfl (by kernel_rfl) (fun _ _ _ h => h) (Or.inl ⟨by rfl, ?_⟩) ?_ ?_
                           rotate_left
                           ·intro w'
                            go_simp
                            with_reducible rfl
                           rotate_left
                           ·simp only [Act.put, Lt, Lz, Ls, i64_w, i32_w]
                            rfl
                           refine pure_ (i := 3) (N := some 83) (v := ?_) (a' := ?_) #[false, true, true, true, false, false] rfl rfl (by kernel_rfl) (fun _ _ _ h => h) (Or.inl ⟨by rfl, ?_⟩) ?_ ?_
                           rotate_left
                           ·intro w'
                            go_simp
                            with_reducible rfl
                           rotate_left
                           ·simp only [Act.put, Lt, Lz, Ls, i64_w, i32_w]
                            rfl
                           refine take_ (i := 0) (N := some 80) (v := ?_) (a' := ?_) #[true, true, true, true, false, false] rfl rfl (by kernel_rfl) (fun _ _ _ h => h) (Or.inl ⟨by rfl, ?_⟩) hHeld ?_ ?_
                           rotate_left
                           ·rintro w' ⟨s0, s1, s2, s3, s4, s5, s6, s7, s8, s9⟩
                            go_simp
                            with_reducible rfl
                           rotate_left
                           ·simp only [Act.put, Lt, Lz, Ls, i64_w, i32_w]
                            rfl
                           refine take_ (i := 4) (N := some 84) (v := ?_) (a' := ?_) #[true, true, true, true, true, false] rfl rfl (by kernel_rfl) (fun _ _ _ h => h) (Or.inl ⟨by rfl, ?_⟩) hHeld ?_ ?_
                           rotate_left
                           ·rintro w' ⟨s0, s1, s2, s3, s4, s5, s6, s7, s8, s9⟩
                            go_simp
                            with_reducible rfl
                           rotate_left
                           ·simp only [Act.put, Lt, Lz, Ls, i64_w, i32_w]
                            rfl
                           refine pure_ (i := 5) (N := some 85) (v := ?_) (a' := ?_) #[true, true, true, true, true, true] rfl rfl (by kernel_rfl) (fun _ _ _ h => h) (Or.inl ⟨by rfl, ?_⟩) ?_ ?_
                           rotate_left
                           ·intro w'
                            go_simp
                            with_reducible rfl
                           rotate_left
                           ·simp only [Act.put, Lt, Lz, Ls, i64_w, i32_w]
                            rfl
                           refine done_ (by kernel_rfl) ?_
                           try go_wp2
                           have n0_ := Am (Rd HO_5.out)
                           have n1_ := Am (Rd HO_6.out)
                           have n2_ := Am (Rd HO_73.out)
                           have n3_ := Am (Ke BK356.out)
                           have n4_ := Am (Bd HB.out)
                           clear HO_5
                           clear HO_6
                           clear HO_73
                           clear BK356
                           clear HB
                           have HO_5 := n0_
                           have HO_6 := n1_
                           have HO_73 := n2_
                           have BK356 := n3_
                           have HB := n4_
                           clear n0_ n1_ n2_ n3_ n4_
                           have p359 : 0 ≤ (x53_2 : Int) := of_decide_eq_true (by assumption)
                           have q359 : x53_2 < (t341.length : Int) := of_decide_eq_true (by assumption)
                           obtain ⟨ad359, e359, hx359_0, hx359_1, hx359_2, hx359_3, hx359_4⟩ := at_T26 (Kd.R_reads' HO_5.out).2.2 x53_2 p359 q359
                           obtain rfl : ad351 = ad359 := (by injection e359)
                           replace p359 := eq_true p359
                           replace q359 := eq_true q359
                           refine start_ (n := 6) (S := fun w' => w'.cell? ⟨gb356, 0, none⟩ = some (.int .i64 ((rd_T26 t342 x75_4).f0)) ∧ w'.cell? ⟨gb356, 1, none⟩ = some (.int .i64 ((rd_T26 t342 x75_4).f1)) ∧ w'.cell? ⟨gb356, 2, none⟩ = some (.int .i64 ((rd_T26 t342 x75_4).f2)) ∧ w'.cell? ⟨gb356, 3, none⟩ = some (.int .i64 ((rd_T26 t342 x75_4).f3)) ∧ w'.cell? ⟨gb356, 4, none⟩ = some (.int .i64 ((rd_T26 t342 x75_4).f4)) ∧ w'.cell? (ad351.add ((x53_2).toNat * 5)) = some (.int .i64 ((rd_T26 t341 x53_2).f0)) ∧ w'.cell? ⟨(ad351.add ((x53_2).toNat * 5)).block, (ad351.add ((x53_2).toNat * 5)).off + 1, none⟩ = some (.int .i64 ((rd_T26 t341 x53_2).f1)) ∧ w'.cell? ⟨(ad351.add ((x53_2).toNat * 5)).block, (ad351.add ((x53_2).toNat * 5)).off + 2, none⟩ = some (.int .i64 ((rd_T26 t341 x53_2).f2)) ∧ w'.cell? ⟨(ad351.add ((x53_2).toNat * 5)).block, (ad351.add ((x53_2).toNat * 5)).off + 3, none⟩ = some (.int .i64 ((rd_T26 t341 x53_2).f3)) ∧ w'.cell? ⟨(ad351.add ((x53_2).toNat * 5)).block, (ad351.add ((x53_2).toNat * 5)).off + 4, none⟩ = some (.int .i64 ((rd_T26 t341 x53_2).f4))) (ds := []) #[false, false, false, false, false, false] (by kernel_rfl) rfl rfl ⟨(Kc BK356.out 0).trans rfl, (Kc BK356.out 1).trans rfl, (Kc BK356.out 2).trans rfl, (Kc BK356.out 3).trans rfl, (Kc BK356.out 4).trans rfl, hx359_0, hx359_1, hx359_2, hx359_3, hx359_4⟩ (fun hHeld => ?_)
                           generalize w51.drew = w52 at HO_5 HO_6 HO_73 BK356 HB hx359_0 hx359_1 hx359_2 hx359_3 hx359_4 hHeld ⊢
                           refine pure_ (i := 1) (N := some 88) (v := ?_) (a' := ?_) #[false, true, false, false, false, false] rfl rfl (by kernel_rfl) (fun _ _ _ h => h) (Or.inl ⟨by rfl, ?_⟩) ?_ ?_
                           rotate_left
                           ·intro w'
                            go_simp
                            with_reducible rfl
                           rotate_left
                           ·simp only [Act.put, Lt, Lz, Ls, i64_w, i32_w]
                            rfl
                           refine pure_ (i := 2) (N := some 89) (v := ?_) (a' := ?_) #[false, true, true, false, false, false] rfl rfl (by kernel_rfl) (fun _ _ _ h => h) (Or.inl ⟨by rfl, ?_⟩) ?_ ?_
                           rotate_left
                           ·intro w'
                            go_simp
                            with_reducible rfl
                           rotate_left
                           ·simp only [Act.put, Lt, Lz, Ls, i64_w, i32_w]
                            rfl
                           refine pure_ (i := 3) (N := some 90) (v := ?_) (a' := ?_) #[false, true, true, true, false, false] rfl rfl (by kernel_rfl) (fun _ _ _ h => h) (Or.inl ⟨by rfl, ?_⟩) ?_ ?_
                           rotate_left
                           ·intro w'
                            go_simp
                            with_reducible rfl
                           rotate_left
                           ·simp only [Act.put, Lt, Lz, Ls, i64_w, i32_w]
                            rfl
                           refine take_ (i := 0) (N := some 87) (v := ?_) (a' := ?_) #[true, true, true, true, false, false] rfl rfl (by kernel_rfl) (fun _ _ _ h => h) (Or.inl ⟨by rfl, ?_⟩) hHeld ?_ ?_
                           rotate_left
                           ·rintro w' ⟨s0, s1, s2, s3, s4, s5, s6, s7, s8, s9⟩
                            go_simp
                            with_reducible rfl
                           rotate_left
                           ·simp only [Act.put, Lt, Lz, Ls, i64_w, i32_w]
                            rfl
                           refine take_ (i := 4) (N := some 91) (v := ?_) (a' := ?_) #[true, true, true, true, true, false] rfl rfl (by kernel_rfl) (fun _ _ _ h => h) (Or.inl ⟨by rfl, ?_⟩) hHeld ?_ ?_
                           rotate_left
                           ·rintro w' ⟨s0, s1, s2, s3, s4, s5, s6, s7, s8, s9⟩
                            go_simp
                            with_reducible rfl
                           rotate_left
                           ·simp only [Act.put, Lt, Lz, Ls, i64_w, i32_w]
                            rfl
                           refine pure_ (i := 5) (N := some 92) (v := ?_) (a' := ?_) #[true, true, true, true, true, true] rfl rfl (by kernel_rfl) (fun _ _ _ h => h) (Or.inl ⟨by rfl, ?_⟩) ?_ ?_
                           rotate_left
                           ·intro w'
                            go_simp
                            with_reducible rfl
                           rotate_left
                           ·simp only [Act.put, Lt, Lz, Ls, i64_w, i32_w]
                            rfl
                           refine done_ (by kernel_rfl) ?_
                           try go_wp2
                           go_roundg k4
                           case measure => have := HJ7.out; have := HK2.out; have := HK3.out; have := HK4.out; omega
                           case rel => exact ⟨(x16_4), (x75_4), (wrap64 (x75_4 + 1)), (by first | rfl | (simp; done) | (simp [*]; done)), (by first | rfl | (simp; done) | (simp [*]; done)), (by first | rfl | (simp; done) | (simp [*]; done)), H', ⟨by have := HJ7.out; have := HK2.out; have := HK3.out; have := HK4.out; omega⟩, ⟨by (with_reducible repeat (first | apply Ra | apply Rn | apply Rd)); exact Kd.R_mono HO_5.out (fun _ hk => ⟨hk.1, hk.2.1⟩)⟩, ⟨by (with_reducible repeat (first | apply Ra | apply Rn | apply Rd)); exact Kd.R_mono HO_6.out (fun _ hk => hk.1)⟩, ⟨by (with_reducible repeat (first | apply Ra | apply Rn | apply Rd)); exact Kd.R_mono HO_73.out (fun _ hk => hk.1)⟩, ⟨by repeat (first | (with_reducible first | exact HB.out | apply Ba | apply Bn | apply Bd | refine Bs ?_ GE356.out) | exact HB.out)⟩⟩
                          ·rw [if_neg c47] at H
                           have c47b0 : (((rd_T26 t342 x75_4).f0) == ((rd_T26 t341 x53_2).f0) && (((rd_T26 t342 x75_4).f1) == ((rd_T26 t341 x53_2).f1) && (((rd_T26 t342 x75_4).f2) == ((rd_T26 t341 x53_2).f2) && (((rd_T26 t342 x75_4).f3) == ((rd_T26 t341 x53_2).f3) && (((rd_T26 t342 x75_4).f4) == ((rd_T26 t341 x53_2).f4)))))) = false := by simpa using c47
                           (try (have c47b1 : decide (((rd_T26 t342 x75_4).f0) = ((rd_T26 t341 x53_2).f0) && (((rd_T26 t342 x75_4).f1) == ((rd_T26 t341 x53_2).f1) && (((rd_T26 t342 x75_4).f2) == ((rd_T26 t341 x53_2).f2) && (((rd_T26 t342 x75_4).f3) == ((rd_T26 t341 x53_2).f3) && (((rd_T26 t342 x75_4).f4) == ((rd_T26 t341 x53_2).f4)))))) = false := by simpa using c47))
                           (try (have c47b2 : (((rd_T26 t342 x75_4).f0) == ((rd_T26 t341 x53_2).f0) && (((rd_T26 t342 x75_4).f1) == ((rd_T26 t341 x53_2).f1) && (((rd_T26 t342 x75_4).f2) == ((rd_T26 t341 x53_2).f2) && (((rd_T26 t342 x75_4).f3) == ((rd_T26 t341 x53_2).f3) && (((rd_T26 t342 x75_4).f4) == ((rd_T26 t341 x53_2).f4)))))) = false := by simpa using c47))
                           (try (have c47b3 : ¬ (((rd_T26 t342 x75_4).f0) = ((rd_T26 t341 x53_2).f0) && (((rd_T26 t342 x75_4).f1) == ((rd_T26 t341 x53_2).f1) && (((rd_T26 t342 x75_4).f2) == ((rd_T26 t341 x53_2).f2) && (((rd_T26 t342 x75_4).f3) == ((rd_T26 t341 x53_2).f3) && (((rd_T26 t342 x75_4).f4) == ((rd_T26 t341 x53_2).f4)))))) := by simpa using c47))
                           clear c47
                           have H' := Am H
                           clear H
                           have p355 : 0 ≤ (x75_4 : Int) := of_decide_eq_true (by assumption)
                           have q355 : x75_4 < (t342.length : Int) := of_decide_eq_true (by assumption)
                           obtain ⟨ad355, e355, hx355_0, hx355_1, hx355_2, hx355_3, hx355_4⟩ := at_T26 (Kd.R_reads' HO_73.out).2.2 x75_4 p355 q355
                           cases e355
                           replace p355 := eq_true p355
                           replace q355 := eq_true q355
                           try go_wp2_with (first | ((refine Gd (N := 19) rfl ?_); refine Be ?hg (N := 19) ?hd (cs := #[.int .i64 0, .int .i64 0, .int .i64 0, .int .i64 0, .int .i64 0]) (t := 26) ?hr ?_; (case hd | hg => rfl); (case hr => first | (go_simp; done) | (go_simp; rfl)); intro gb356 hg w53 hbox hb; have n0_ := Am (Kd.R_below (Kd.R_elderB (by (with_reducible repeat (first | apply Ra | apply Rn | apply Rd)); exact HO_5.out) gb356 (Nat.le_of_eq hg.symm)) hb); have n1_ := Am (Kd.R_below (Kd.R_elderB (by (with_reducible repeat (first | apply Ra | apply Rn | apply Rd)); exact HO_6.out) gb356 (Nat.le_of_eq hg.symm)) hb); have n2_ := Am (Kd.R_below (Kd.R_elderB (by (with_reducible repeat (first | apply Ra | apply Rn | apply Rd)); exact HO_73.out) gb356 (Nat.le_of_eq hg.symm)) hb); have n3_ := Am (Bt (by repeat (first | exact HB.out | apply Ba | apply Bn | apply Bd)) hb); have n4_ := Am (hbox); have n5_ := Am ((by rw [hg]; exact (Bz (by repeat (first | exact HB.out | apply Ba | apply Bn | apply Bd))) : w.heap.size ≤ gb356)); have n6_ := Am ((by rw [hg]; exact (Bz (by repeat (first | exact HB.out | apply Ba | apply Bn | apply Bd))) : w.heap.size ≤ gb356)); clear HO_5; clear HO_6; clear HO_73; clear HB; have HO_5 := n0_; have HO_6 := n1_; have HO_73 := n2_; have HB := n3_; have BK356 := n4_; have GW356 := n5_; have GE356 := n6_; clear n0_ n1_ n2_ n3_ n4_ n5_ n6_; clear hb hbox hg; have hcz54_0 : w53.cell? ⟨gb356, 0, none⟩ = some (.int .i64 0) := (Kc BK356.out 0).trans rfl; have hcz54_1 : w53.cell? ⟨gb356, 1, none⟩ = some (.int .i64 0) := (Kc BK356.out 1).trans rfl; have hcz54_2 : w53.cell? ⟨gb356, 2, none⟩ = some (.int .i64 0) := (Kc BK356.out 2).trans rfl; have hcz54_3 : w53.cell? ⟨gb356, 3, none⟩ = some (.int .i64 0) := (Kc BK356.out 3).trans rfl; have hcz54_4 : w53.cell? ⟨gb356, 4, none⟩ = some (.int .i64 0) := (Kc BK356.out 4).trans rfl; have hfz54_0 := Kz BK356.out 0; have hfz54_1 := Kz BK356.out 1; have hfz54_2 := Kz BK356.out 2; have hfz54_3 := Kz BK356.out 3; have hfz54_4 := Kz BK356.out 4))
                           have n0_ : Ad (Kd.R k26 26 (((((w53.setCell ⟨gb356, 0, none⟩ (.int .i64 ((rd_T26 t342 x75_4).f0))).setCell ⟨gb356, 1, none⟩ (.int .i64 ((rd_T26 t342 x75_4).f1))).setCell ⟨gb356, 2, none⟩ (.int .i64 ((rd_T26 t342 x75_4).f2))).setCell ⟨gb356, 3, none⟩ (.int .i64 ((rd_T26 t342 x75_4).f3))).setCell ⟨gb356, 4, none⟩ (.int .i64 ((rd_T26 t342 x75_4).f4))) w.heap.size (fun k_ => some k_ ≠ (.slice (some ad355) t342.length co11 : Value).ownBlock ∧ some k_ ≠ (.slice (some ad355) t342.length co11 : Value).ownBlock ∧ k_ ≠ gb356) (.slice (some ad351) t341.length co10) t341) := ⟨by (with_reducible repeat (first | apply Ra | apply Rn | apply Rd)); exact Kd.R_mono (Kd.R_far (p := ⟨gb356, 4, none⟩) (Kd.R_far (p := ⟨gb356, 3, none⟩) (Kd.R_far (p := ⟨gb356, 2, none⟩) (Kd.R_far (p := ⟨gb356, 1, none⟩) (Kd.R_far (p := ⟨gb356, 0, none⟩) (Kd.R_mono HO_5.out (fun k_ hk => (⟨hk, hk.2⟩ : _ ∧ k_ ≠ gb356))) (fun _ hk => hk.2) (.int .i64 ((rd_T26 t342 x75_4).f0))) (fun _ hk => hk.2) (.int .i64 ((rd_T26 t342 x75_4).f1))) (fun _ hk => hk.2) (.int .i64 ((rd_T26 t342 x75_4).f2))) (fun _ hk => hk.2) (.int .i64 ((rd_T26 t342 x75_4).f3))) (fun _ hk => hk.2) (.int .i64 ((rd_T26 t342 x75_4).f4))) (fun _ hk => ⟨hk.1.1.1, ⟨hk.1.1.2, hk.1.2⟩⟩)⟩
                           have n1_ : Ad (Kd.R k26 26 (((((w53.setCell ⟨gb356, 0, none⟩ (.int .i64 ((rd_T26 t342 x75_4).f0))).setCell ⟨gb356, 1, none⟩ (.int .i64 ((rd_T26 t342 x75_4).f1))).setCell ⟨gb356, 2, none⟩ (.int .i64 ((rd_T26 t342 x75_4).f2))).setCell ⟨gb356, 3, none⟩ (.int .i64 ((rd_T26 t342 x75_4).f3))).setCell ⟨gb356, 4, none⟩ (.int .i64 ((rd_T26 t342 x75_4).f4))) w.heap.size (fun k_ => some k_ ≠ (.slice (some ad351) t341.length co10 : Value).ownBlock ∧ k_ ≠ gb356) (.slice (some ad355) t342.length co11) t342) := ⟨by (with_reducible repeat (first | apply Ra | apply Rn | apply Rd)); exact Kd.R_mono (Kd.R_far (p := ⟨gb356, 4, none⟩) (Kd.R_far (p := ⟨gb356, 3, none⟩) (Kd.R_far (p := ⟨gb356, 2, none⟩) (Kd.R_far (p := ⟨gb356, 1, none⟩) (Kd.R_far (p := ⟨gb356, 0, none⟩) (Kd.R_mono HO_6.out (fun k_ hk => (⟨hk, hk.2⟩ : _ ∧ k_ ≠ gb356))) (fun _ hk => hk.2) (.int .i64 ((rd_T26 t342 x75_4).f0))) (fun _ hk => hk.2) (.int .i64 ((rd_T26 t342 x75_4).f1))) (fun _ hk => hk.2) (.int .i64 ((rd_T26 t342 x75_4).f2))) (fun _ hk => hk.2) (.int .i64 ((rd_T26 t342 x75_4).f3))) (fun _ hk => hk.2) (.int .i64 ((rd_T26 t342 x75_4).f4))) (fun _ hk => ⟨hk.1.1, hk.1.2⟩)⟩
                           have n2_ : Ad (Kd.R k26 26 (((((w53.setCell ⟨gb356, 0, none⟩ (.int .i64 ((rd_T26 t342 x75_4).f0))).setCell ⟨gb356, 1, none⟩ (.int .i64 ((rd_T26 t342 x75_4).f1))).setCell ⟨gb356, 2, none⟩ (.int .i64 ((rd_T26 t342 x75_4).f2))).setCell ⟨gb356, 3, none⟩ (.int .i64 ((rd_T26 t342 x75_4).f3))).setCell ⟨gb356, 4, none⟩ (.int .i64 ((rd_T26 t342 x75_4).f4))) w.heap.size (fun k_ => some k_ ≠ (.slice (some ad351) t341.length co10 : Value).ownBlock ∧ k_ ≠ gb356) (.slice (some ad355) t342.length co11) t342) := ⟨by (with_reducible repeat (first | apply Ra | apply Rn | apply Rd)); exact Kd.R_mono (Kd.R_far (p := ⟨gb356, 4, none⟩) (Kd.R_far (p := ⟨gb356, 3, none⟩) (Kd.R_far (p := ⟨gb356, 2, none⟩) (Kd.R_far (p := ⟨gb356, 1, none⟩) (Kd.R_far (p := ⟨gb356, 0, none⟩) (Kd.R_mono HO_73.out (fun k_ hk => (⟨hk, hk.2⟩ : _ ∧ k_ ≠ gb356))) (fun _ hk => hk.2) (.int .i64 ((rd_T26 t342 x75_4).f0))) (fun _ hk => hk.2) (.int .i64 ((rd_T26 t342 x75_4).f1))) (fun _ hk => hk.2) (.int .i64 ((rd_T26 t342 x75_4).f2))) (fun _ hk => hk.2) (.int .i64 ((rd_T26 t342 x75_4).f3))) (fun _ hk => hk.2) (.int .i64 ((rd_T26 t342 x75_4).f4))) (fun _ hk => ⟨hk.1.1, hk.1.2⟩)⟩
                           have n3_ : Ad ((((((w53.setCell ⟨gb356, 0, none⟩ (.int .i64 ((rd_T26 t342 x75_4).f0))).setCell ⟨gb356, 1, none⟩ (.int .i64 ((rd_T26 t342 x75_4).f1))).setCell ⟨gb356, 2, none⟩ (.int .i64 ((rd_T26 t342 x75_4).f2))).setCell ⟨gb356, 3, none⟩ (.int .i64 ((rd_T26 t342 x75_4).f3))).setCell ⟨gb356, 4, none⟩ (.int .i64 ((rd_T26 t342 x75_4).f4))).heap[gb356]? = some (.cells #[.int .i64 ((rd_T26 t342 x75_4).f0), .int .i64 ((rd_T26 t342 x75_4).f1), .int .i64 ((rd_T26 t342 x75_4).f2), .int .i64 ((rd_T26 t342 x75_4).f3), .int .i64 ((rd_T26 t342 x75_4).f4)] 26 (0, 0))) := ⟨by (with_reducible repeat (first | refine Kn ?_ _ | refine Ke ?_ | refine Ka ?_ _)); refine blk_put (cs := #[.int .i64 ((rd_T26 t342 x75_4).f0), .int .i64 ((rd_T26 t342 x75_4).f1), .int .i64 ((rd_T26 t342 x75_4).f2), .int .i64 ((rd_T26 t342 x75_4).f3), .int .i64 0]) ?_ 4 _ rfl; (with_reducible repeat (first | refine Kn ?_ _ | refine Ke ?_ | refine Ka ?_ _)); refine blk_put (cs := #[.int .i64 ((rd_T26 t342 x75_4).f0), .int .i64 ((rd_T26 t342 x75_4).f1), .int .i64 ((rd_T26 t342 x75_4).f2), .int .i64 0, .int .i64 0]) ?_ 3 _ rfl; (with_reducible repeat (first | refine Kn ?_ _ | refine Ke ?_ | refine Ka ?_ _)); refine blk_put (cs := #[.int .i64 ((rd_T26 t342 x75_4).f0), .int .i64 ((rd_T26 t342 x75_4).f1), .int .i64 0, .int .i64 0, .int .i64 0]) ?_ 2 _ rfl; (with_reducible repeat (first | refine Kn ?_ _ | refine Ke ?_ | refine Ka ?_ _)); refine blk_put (cs := #[.int .i64 ((rd_T26 t342 x75_4).f0), .int .i64 0, .int .i64 0, .int .i64 0, .int .i64 0]) ?_ 1 _ rfl; (with_reducible repeat (first | refine Kn ?_ _ | refine Ke ?_ | refine Ka ?_ _)); refine blk_put (cs := #[.int .i64 0, .int .i64 0, .int .i64 0, .int .i64 0, .int .i64 0]) ?_ 0 _ rfl; (with_reducible repeat (first | refine Kn ?_ _ | refine Ke ?_ | refine Ka ?_ _)); exact BK356.out⟩
                           have n4_ : Ad (Below w.heap.size w (((((w53.setCell ⟨gb356, 0, none⟩ (.int .i64 ((rd_T26 t342 x75_4).f0))).setCell ⟨gb356, 1, none⟩ (.int .i64 ((rd_T26 t342 x75_4).f1))).setCell ⟨gb356, 2, none⟩ (.int .i64 ((rd_T26 t342 x75_4).f2))).setCell ⟨gb356, 3, none⟩ (.int .i64 ((rd_T26 t342 x75_4).f3))).setCell ⟨gb356, 4, none⟩ (.int .i64 ((rd_T26 t342 x75_4).f4)))) := ⟨by repeat (first | (with_reducible first | exact HB.out | apply Ba | apply Bn | apply Bd | refine Bs ?_ GE356.out) | exact HB.out)⟩
                           (try clear HO_5)
                           (try clear HO_6)
                           (try clear HO_73)
                           (try clear BK356)
                           (try clear HB)
                           generalize (((((w53.setCell ⟨gb356, 0, none⟩ (.int .i64 ((rd_T26 t342 x75_4).f0))).setCell ⟨gb356, 1, none⟩ (.int .i64 ((rd_T26 t342 x75_4).f1))).setCell ⟨gb356, 2, none⟩ (.int .i64 ((rd_T26 t342 x75_4).f2))).setCell ⟨gb356, 3, none⟩ (.int .i64 ((rd_T26 t342 x75_4).f3))).setCell ⟨gb356, 4, none⟩ (.int .i64 ((rd_T26 t342 x75_4).f4))) = w55 at n0_ n1_ n2_ n3_ n4_ ⊢
                           have HO_5 := n0_
                           have HO_6 := n1_
                           have HO_73 := n2_
                           have BK356 := n3_
                           have HB := n4_
                           clear n0_ n1_ n2_ n3_ n4_
                           have n0_ := Am (Rd HO_5.out)
                           have n1_ := Am (Rd HO_6.out)
                           have n2_ := Am (Rd HO_73.out)
                           have n3_ := Am (Ke BK356.out)
                           have n4_ := Am (Bd HB.out)
                           clear HO_5
                           clear HO_6
                           clear HO_73
                           clear BK356
                           clear HB
                           have HO_5 := n0_
                           have HO_6 := n1_
                           have HO_73 := n2_
                           have BK356 := n3_
                           have HB := n4_
                           clear n0_ n1_ n2_ n3_ n4_
                           have p357 : 0 ≤ (x13_3 : Int) := of_decide_eq_true (by assumption)
                           have q357 : x13_3 < (t341.length : Int) := of_decide_eq_true (by assumption)
                           obtain ⟨ad357, e357, hx357_0, hx357_1, hx357_2, hx357_3, hx357_4⟩ := at_T26 (Kd.R_reads' HO_5.out).2.2 x13_3 p357 q357
                           obtain rfl : ad351 = ad357 := (by injection e357)
                           replace p357 := eq_true p357
                           replace q357 := eq_true q357
                           refine start_ (n := 6) (S := fun w' => w'.cell? ⟨gb356, 0, none⟩ = some (.int .i64 ((rd_T26 t342 x75_4).f0)) ∧ w'.cell? ⟨gb356, 1, none⟩ = some (.int .i64 ((rd_T26 t342 x75_4).f1)) ∧ w'.cell? ⟨gb356, 2, none⟩ = some (.int .i64 ((rd_T26 t342 x75_4).f2)) ∧ w'.cell? ⟨gb356, 3, none⟩ = some (.int .i64 ((rd_T26 t342 x75_4).f3)) ∧ w'.cell? ⟨gb356, 4, none⟩ = some (.int .i64 ((rd_T26 t342 x75_4).f4)) ∧ w'.cell? (ad351.add ((x13_3).toNat * 5)) = some (.int .i64 ((rd_T26 t341 x13_3).f0)) ∧ w'.cell? ⟨(ad351.add ((x13_3).toNat * 5)).block, (ad351.add ((x13_3).toNat * 5)).off + 1, none⟩ = some (.int .i64 ((rd_T26 t341 x13_3).f1)) ∧ w'.cell? ⟨(ad351.add ((x13_3).toNat * 5)).block, (ad351.add ((x13_3).toNat * 5)).off + 2, none⟩ = some (.int .i64 ((rd_T26 t341 x13_3).f2)) ∧ w'.cell? ⟨(ad351.add ((x13_3).toNat * 5)).block, (ad351.add ((x13_3).toNat * 5)).off + 3, none⟩ = some (.int .i64 ((rd_T26 t341 x13_3).f3)) ∧ w'.cell? ⟨(ad351.add ((x13_3).toNat * 5)).block, (ad351.add ((x13_3).toNat * 5)).off + 4, none⟩ = some (.int .i64 ((rd_T26 t341 x13_3).f4))) (ds := []) #[false, false, false, false, false, false] (by kernel_rfl) rfl rfl ⟨(Kc BK356.out 0).trans rfl, (Kc BK356.out 1).trans rfl, (Kc BK356.out 2).trans rfl, (Kc BK356.out 3).trans rfl, (Kc BK356.out 4).trans rfl, hx357_0, hx357_1, hx357_2, hx357_3, hx357_4⟩ (fun hHeld => ?_)
                           generalize w55.drew = w56 at HO_5 HO_6 HO_73 BK356 HB hx357_0 hx357_1 hx357_2 hx357_3 hx357_4 hHeld ⊢
                           refine pure_ (i := 1) (N := some 81) (v := ?_) (a' := ?_) #[false, true, false, false, false, false] rfl rfl (by kernel_rfl) (fun _ _ _ h => h) (Or.inl ⟨by rfl, ?_⟩) ?_ ?_
                           rotate_left
                           ·intro w'
                            go_simp
                            with_reducible rfl
                           rotate_left
                           ·simp only [Act.put, Lt, Lz, Ls, i64_w, i32_w]
                            rfl
                           refine pure_ (i := 2) (N := some 82) (v := ?_) (a' := ?_) #[false, true, true, false, false, false] rfl rfl (by kernel_rfl) (fun _ _ _ h => h) (Or.inl ⟨by rfl, ?_⟩) ?_ ?_
                           rotate_left
                           ·intro w'
                            go_simp
                            with_reducible rfl
                           rotate_left
                           ·simp only [Act.put, Lt, Lz, Ls, i64_w, i32_w]
                            rfl
                           refine pure_ (i := 3) (N := some 83) (v := ?_) (a' := ?_) #[false, true, true, true, false, false] rfl rfl (by kernel_rfl) (fun _ _ _ h => h) (Or.inl ⟨by rfl, ?_⟩) ?_ ?_
                           rotate_left
                           ·intro w'
                            go_simp
                            with_reducible rfl
                           rotate_left
                           ·simp only [Act.put, Lt, Lz, Ls, i64_w, i32_w]
                            rfl
                           refine take_ (i := 0) (N := some 80) (v := ?_) (a' := ?_) #[true, true, true, true, false, false] rfl rfl (by kernel_rfl) (fun _ _ _ h => h) (Or.inl ⟨by rfl, ?_⟩) hHeld ?_ ?_
                           rotate_left
                           ·rintro w' ⟨s0, s1, s2, s3, s4, s5, s6, s7, s8, s9⟩
                            go_simp
                            with_reducible rfl
                           rotate_left
                           ·simp only [Act.put, Lt, Lz, Ls, i64_w, i32_w]
                            rfl
                           refine take_ (i := 4) (N := some 84) (v := ?_) (a' := ?_) #[true, true, true, true, true, false] rfl rfl (by kernel_rfl) (fun _ _ _ h => h) (Or.inl ⟨by rfl, ?_⟩) hHeld ?_ ?_
                           rotate_left
                           ·rintro w' ⟨s0, s1, s2, s3, s4, s5, s6, s7, s8, s9⟩
                            go_simp
                            with_reducible rfl
                           rotate_left
                           ·simp only [Act.put, Lt, Lz, Ls, i64_w, i32_w]
                            rfl
                           refine pure_ (i := 5) (N := some 85) (v := ?_) (a' := ?_) #[true, true, true, true, true, true] rfl rfl (by kernel_rfl) (fun _ _ _ h => h) (Or.inl ⟨by rfl, ?_⟩) ?_ ?_
                           rotate_left
                           ·intro w'
                            go_simp
                            with_reducible rfl
                           rotate_left
                           ·simp only [Act.put, Lt, Lz, Ls, i64_w, i32_w]
                            rfl
                           refine done_ (by kernel_rfl) ?_
                           try go_wp2
                           have n0_ := Am (Rd HO_5.out)
                           have n1_ := Am (Rd HO_6.out)
                           have n2_ := Am (Rd HO_73.out)
                           have n3_ := Am (Ke BK356.out)
                           have n4_ := Am (Bd HB.out)
                           clear HO_5
                           clear HO_6
                           clear HO_73
                           clear BK356
                           clear HB
                           have HO_5 := n0_
                           have HO_6 := n1_
                           have HO_73 := n2_
                           have BK356 := n3_
                           have HB := n4_
                           clear n0_ n1_ n2_ n3_ n4_
                           have p359 : 0 ≤ (x53_2 : Int) := of_decide_eq_true (by assumption)
                           have q359 : x53_2 < (t341.length : Int) := of_decide_eq_true (by assumption)
                           obtain ⟨ad359, e359, hx359_0, hx359_1, hx359_2, hx359_3, hx359_4⟩ := at_T26 (Kd.R_reads' HO_5.out).2.2 x53_2 p359 q359
                           obtain rfl : ad351 = ad359 := (by injection e359)
                           replace p359 := eq_true p359
                           replace q359 := eq_true q359
                           refine start_ (n := 6) (S := fun w' => w'.cell? ⟨gb356, 0, none⟩ = some (.int .i64 ((rd_T26 t342 x75_4).f0)) ∧ w'.cell? ⟨gb356, 1, none⟩ = some (.int .i64 ((rd_T26 t342 x75_4).f1)) ∧ w'.cell? ⟨gb356, 2, none⟩ = some (.int .i64 ((rd_T26 t342 x75_4).f2)) ∧ w'.cell? ⟨gb356, 3, none⟩ = some (.int .i64 ((rd_T26 t342 x75_4).f3)) ∧ w'.cell? ⟨gb356, 4, none⟩ = some (.int .i64 ((rd_T26 t342 x75_4).f4)) ∧ w'.cell? (ad351.add ((x53_2).toNat * 5)) = some (.int .i64 ((rd_T26 t341 x53_2).f0)) ∧ w'.cell? ⟨(ad351.add ((x53_2).toNat * 5)).block, (ad351.add ((x53_2).toNat * 5)).off + 1, none⟩ = some (.int .i64 ((rd_T26 t341 x53_2).f1)) ∧ w'.cell? ⟨(ad351.add ((x53_2).toNat * 5)).block, (ad351.add ((x53_2).toNat * 5)).off + 2, none⟩ = some (.int .i64 ((rd_T26 t341 x53_2).f2)) ∧ w'.cell? ⟨(ad351.add ((x53_2).toNat * 5)).block, (ad351.add ((x53_2).toNat * 5)).off + 3, none⟩ = some (.int .i64 ((rd_T26 t341 x53_2).f3)) ∧ w'.cell? ⟨(ad351.add ((x53_2).toNat * 5)).block, (ad351.add ((x53_2).toNat * 5)).off + 4, none⟩ = some (.int .i64 ((rd_T26 t341 x53_2).f4))) (ds := []) #[false, false, false, false, false, false] (by kernel_rfl) rfl rfl ⟨(Kc BK356.out 0).trans rfl, (Kc BK356.out 1).trans rfl, (Kc BK356.out 2).trans rfl, (Kc BK356.out 3).trans rfl, (Kc BK356.out 4).trans rfl, hx359_0, hx359_1, hx359_2, hx359_3, hx359_4⟩ (fun hHeld => ?_)
                           generalize w56.drew = w57 at HO_5 HO_6 HO_73 BK356 HB hx359_0 hx359_1 hx359_2 hx359_3 hx359_4 hHeld ⊢
                           refine pure_ (i := 1) (N := some 88) (v := ?_) (a' := ?_) #[false, true, false, false, false, false] rfl rfl (by kernel_rfl) (fun _ _ _ h => h) (Or.inl ⟨by rfl, ?_⟩) ?_ ?_
                           rotate_left
                           ·intro w'
                            go_simp
                            with_reducible rfl
                           rotate_left
                           ·simp only [Act.put, Lt, Lz, Ls, i64_w, i32_w]
                            rfl
                           refine pure_ (i := 2) (N := some 89) (v := ?_) (a' := ?_) #[false, true, true, false, false, false] rfl rfl (by kernel_rfl) (fun _ _ _ h => h) (Or.inl ⟨by rfl, ?_⟩) ?_ ?_
                           rotate_left
                           ·intro w'
                            go_simp
                            with_reducible rfl
                           rotate_left
                           ·simp only [Act.put, Lt, Lz, Ls, i64_w, i32_w]
                            rfl
                           refine pure_ (i := 3) (N := some 90) (v := ?_) (a' := ?_) #[false, true, true, true, false, false] rfl rfl (by kernel_rfl) (fun _ _ _ h => h) (Or.inl ⟨by rfl, ?_⟩) ?_ ?_
                           rotate_left
                           ·intro w'
                            go_simp
                            with_reducible rfl
                           rotate_left
                           ·simp only [Act.put, Lt, Lz, Ls, i64_w, i32_w]
                            rfl
                           refine take_ (i := 0) (N := some 87) (v := ?_) (a' := ?_) #[true, true, true, true, false, false] rfl rfl (by kernel_rfl) (fun _ _ _ h => h) (Or.inl ⟨by rfl, ?_⟩) hHeld ?_ ?_
                           rotate_left
                           ·rintro w' ⟨s0, s1, s2, s3, s4, s5, s6, s7, s8, s9⟩
                            go_simp
                            with_reducible rfl
                           rotate_left
                           ·simp only [Act.put, Lt, Lz, Ls, i64_w, i32_w]
                            rfl
                           refine take_ (i := 4) (N := some 91) (v := ?_) (a' := ?_) #[true, true, true, true, true, false] rfl rfl (by kernel_rfl) (fun _ _ _ h => h) (Or.inl ⟨by rfl, ?_⟩) hHeld ?_ ?_
                           rotate_left
                           ·rintro w' ⟨s0, s1, s2, s3, s4, s5, s6, s7, s8, s9⟩
                            go_simp
                            with_reducible rfl
                           rotate_left
                           ·simp only [Act.put, Lt, Lz, Ls, i64_w, i32_w]
                            rfl
                           refine pure_ (i := 5) (N := some 92) (v := ?_) (a' := ?_) #[true, true, true, true, true, true] rfl rfl (by kernel_rfl) (fun _ _ _ h => h) (Or.inl ⟨by rfl, ?_⟩) ?_ ?_
                           rotate_left
                           ·intro w'
                            go_simp
                            with_reducible rfl
                           rotate_left
                           ·simp only [Act.put, Lt, Lz, Ls, i64_w, i32_w]
                            rfl
                           refine done_ (by kernel_rfl) ?_
                           try go_wp2
                           go_roundg k4
                           case measure => have := HJ7.out; have := HK2.out; have := HK3.out; have := HK4.out; omega
                           case rel => exact ⟨(x16_4), (x17_4), (wrap64 (x75_4 + 1)), (by first | rfl | (simp; done) | (simp [*]; done)), (by first | rfl | (simp; done) | (simp [*]; done)), (by first | rfl | (simp; done) | (simp [*]; done)), H', ⟨by have := HJ7.out; have := HK2.out; have := HK3.out; have := HK4.out; omega⟩, ⟨by (with_reducible repeat (first | apply Ra | apply Rn | apply Rd)); exact Kd.R_mono HO_5.out (fun _ hk => ⟨hk.1, hk.2.1⟩)⟩, ⟨by (with_reducible repeat (first | apply Ra | apply Rn | apply Rd)); exact Kd.R_mono HO_6.out (fun _ hk => hk.1)⟩, ⟨by (with_reducible repeat (first | apply Ra | apply Rn | apply Rd)); exact Kd.R_mono HO_73.out (fun _ hk => hk.1)⟩, ⟨by repeat (first | (with_reducible first | exact HB.out | apply Ba | apply Bn | apply Bd | refine Bs ?_ GE356.out) | exact HB.out)⟩⟩
                         ·rw [if_neg c46] at H
                          exact absurd H (by simp)
                        ·rw [if_neg c45] at H
                         exact absurd H (by simp)
                      ·rw [if_neg c30] at H
                       exact absurd H (by simp)
                     ·rw [if_neg c29] at H
                      exact absurd H (by simp)
                    ·rw [if_neg c28] at H
                     exact absurd H (by simp)
                   ·rw [if_neg c27] at H
                    exact absurd H (by simp)
                  ·rw [if_neg c26] at H
                   have c26b0 : decide (x75_4 < (t342.length : Int)) = false := decide_eq_false c26
                   clear c26
                   by_cases c58 : x11_3 = true
                   ·subst c58
                    have H1 : (if t354 = true then (if t353 = true then (laws_FnTellsSame.l1 k4 l1 t341 t342 t347 (decide (x16_4 < x17_4)) x53_2 (wrap64 (x13_3 + 1)) (t341.length : Int) x53_2) else (laws_FnTellsSame.l1 k4 l1 t341 t342 t347 true x53_2 (wrap64 (x13_3 + 1)) (t341.length : Int) x53_2)) else (laws_FnTellsSame.l1 k4 l1 t341 t342 t347 true x53_2 (wrap64 (x13_3 + 1)) (t341.length : Int) x53_2)) = some r := by rw [if_pos rfl] at H; exact H
                    clear H
                    have H := H1
                    clear H1
                    by_cases c59 : t354 = true
                    ·subst c59
                     have H1 : (if t353 = true then (laws_FnTellsSame.l1 k4 l1 t341 t342 t347 (decide (x16_4 < x17_4)) x53_2 (wrap64 (x13_3 + 1)) (t341.length : Int) x53_2) else (laws_FnTellsSame.l1 k4 l1 t341 t342 t347 true x53_2 (wrap64 (x13_3 + 1)) (t341.length : Int) x53_2)) = some r := by rw [if_pos rfl] at H; exact H
                     clear H
                     have H := H1
                     clear H1
                     by_cases c60 : t353 = true
                     ·subst c60
                      have H1 : (laws_FnTellsSame.l1 k4 l1 t341 t342 t347 (decide (x16_4 < x17_4)) x53_2 (wrap64 (x13_3 + 1)) (t341.length : Int) x53_2) = some r := by rw [if_pos rfl] at H; exact H
                      clear H
                      have H := H1
                      clear H1
                      have H' := Am H
                      clear H
                      go_wp2
                      go_roundg k4
                      case measure => have := HJ7.out; have := HK2.out; have := HK3.out; have := HK4.out; omega
                      case rel => exact ⟨(decide (x16_4 < x17_4)), (wrap64 (x13_3 + 1)), (by first | rfl | (simp; done) | (simp [*]; done)), (by first | rfl | (simp; done) | (simp [*]; done)), H', ⟨by have := HJ7.out; have := HK2.out; have := HK3.out; have := HK4.out; omega⟩, ⟨by (with_reducible repeat (first | apply Ra | apply Rn | apply Rd)); exact Kd.R_mono HO_5.out (fun _ hk => hk.1)⟩, ⟨by (with_reducible repeat (first | apply Ra | apply Rn | apply Rd)); exact HO_6.out⟩, ⟨by repeat (first | exact HB.out | apply Ba | apply Bn | apply Bd)⟩⟩
                     ·replace c60 := Bool.eq_false_iff.mpr c60
                      subst c60
                      have H1 : (laws_FnTellsSame.l1 k4 l1 t341 t342 t347 true x53_2 (wrap64 (x13_3 + 1)) (t341.length : Int) x53_2) = some r := by rw [if_neg (show ¬ (false = true) by decide)] at H; exact H
                      clear H
                      have H := H1
                      clear H1
                      have H' := Am H
                      clear H
                      go_wp2
                      go_roundg k4
                      case measure => have := HJ7.out; have := HK2.out; have := HK3.out; have := HK4.out; omega
                      case rel => exact ⟨(true), (wrap64 (x13_3 + 1)), (by first | rfl | (simp; done) | (simp [*]; done)), (by first | rfl | (simp; done) | (simp [*]; done)), H', ⟨by have := HJ7.out; have := HK2.out; have := HK3.out; have := HK4.out; omega⟩, ⟨by (with_reducible repeat (first | apply Ra | apply Rn | apply Rd)); exact Kd.R_mono HO_5.out (fun _ hk => hk.1)⟩, ⟨by (with_reducible repeat (first | apply Ra | apply Rn | apply Rd)); exact HO_6.out⟩, ⟨by repeat (first | exact HB.out | apply Ba | apply Bn | apply Bd)⟩⟩
                    ·replace c59 := Bool.eq_false_iff.mpr c59
                     subst c59
                     have H1 : (laws_FnTellsSame.l1 k4 l1 t341 t342 t347 true x53_2 (wrap64 (x13_3 + 1)) (t341.length : Int) x53_2) = some r := by rw [if_neg (show ¬ (false = true) by decide)] at H; exact H
                     clear H
                     have H := H1
                     clear H1
                     have H' := Am H
                     clear H
                     go_wp2
                     go_roundg k4
                     case measure => have := HJ7.out; have := HK2.out; have := HK3.out; have := HK4.out; omega
                     case rel => exact ⟨(true), (wrap64 (x13_3 + 1)), (by first | rfl | (simp; done) | (simp [*]; done)), (by first | rfl | (simp; done) | (simp [*]; done)), H', ⟨by have := HJ7.out; have := HK2.out; have := HK3.out; have := HK4.out; omega⟩, ⟨by (with_reducible repeat (first | apply Ra | apply Rn | apply Rd)); exact Kd.R_mono HO_5.out (fun _ hk => hk.1)⟩, ⟨by (with_reducible repeat (first | apply Ra | apply Rn | apply Rd)); exact HO_6.out⟩, ⟨by repeat (first | exact HB.out | apply Ba | apply Bn | apply Bd)⟩⟩
                   ·replace c58 := Bool.eq_false_iff.mpr c58
                    subst c58
                    have H1 : (laws_FnTellsSame.l1 k4 l1 t341 t342 t347 false x53_2 (wrap64 (x13_3 + 1)) (t341.length : Int) x53_2) = some r := by rw [if_neg (show ¬ (false = true) by decide)] at H; exact H
                    clear H
                    have H := H1
                    clear H1
                    have H' := Am H
                    clear H
                    go_wp2
                    go_roundg k4
                    case measure => have := HJ7.out; have := HK2.out; have := HK3.out; have := HK4.out; omega
                    case rel => exact ⟨(false), (wrap64 (x13_3 + 1)), (by first | rfl | (simp; done) | (simp [*]; done)), (by first | rfl | (simp; done) | (simp [*]; done)), H', ⟨by have := HJ7.out; have := HK2.out; have := HK3.out; have := HK4.out; omega⟩, ⟨by (with_reducible repeat (first | apply Ra | apply Rn | apply Rd)); exact Kd.R_mono HO_5.out (fun _ hk => hk.1)⟩, ⟨by (with_reducible repeat (first | apply Ra | apply Rn | apply Rd)); exact HO_6.out⟩, ⟨by repeat (first | exact HB.out | apply Ba | apply Bn | apply Bd)⟩⟩
               ·rw [if_neg c22] at H
                exact absurd H (by simp)
              ·rw [if_neg c21] at H
               exact absurd H (by simp)
             ·rw [if_neg c20] at H
              exact absurd H (by simp)
            ·rw [if_neg c19] at H
             exact absurd H (by simp)
           ·rw [if_neg c18] at H
            have c18b0 : decide (x13_3 < x53_2) = false := decide_eq_false c18
            clear c18
            have H' := Am H
            clear H
            go_wp2
            go_roundg k3
            case measure => have := HJ7.out; have := HK2.out; have := HK3.out; omega
            case rel => exact ⟨(x11_3), (wrap64 (x53_2 + 1)), (by first | rfl | (simp; done) | (simp [*]; done)), (by first | rfl | (simp; done) | (simp [*]; done)), H', ⟨by have := HJ7.out; have := HK2.out; have := HK3.out; omega⟩, ⟨by (with_reducible repeat (first | apply Ra | apply Rn | apply Rd)); exact HO_5.out⟩, ⟨by (with_reducible repeat (first | apply Ra | apply Rn | apply Rd)); exact HO_6.out⟩, ⟨by repeat (first | exact HB.out | apply Ba | apply Bn | apply Bd)⟩⟩
        ·rw [if_neg c17] at H
         have c17b0 : decide (x53_2 < (t341.length : Int)) = false := decide_eq_false c17
         clear c17
         have HC61 := Am H
         clear H
         go_upto_region 28 with (fail)
         go_cut [114] (fun v114 wc => ∃ (kq : Nat) (x114_60 : Bool), v114 = .bool x114_60 ∧ Ad (laws_FnTellsSame.j4 kq l1 x114_60 = some r) ∧ Ad (kq ≤ k2) ∧ Ad (Below w.heap.size w wc))
         case first =>
          have H := HC61.out
          clear HC61
          by_cases c62 : x11_2 = true
          ·subst c62
           have H1 : (laws_FnTellsSame.j4 k2 l1 (!t347)) = some r := by rw [if_pos rfl] at H; exact H
           clear H
           have H := H1
           clear H1
           have H' := Am H
           clear H
           go_wp2
           go_meet
           case rel => exact ⟨_, (!t347), (by first | rfl | (simp; done) | (simp [*]; done)), H', ⟨by have := HJ7.out; have := HK2.out; first | omega | exact Nat.le_refl _⟩, ⟨by repeat (first | exact HB.out | apply Ba | apply Bn | apply Bd)⟩⟩
          ·replace c62 := Bool.eq_false_iff.mpr c62
           subst c62
           have H1 : (laws_FnTellsSame.j4 k2 l1 false) = some r := by rw [if_neg (show ¬ (false = true) by decide)] at H; exact H
           clear H
           have H := H1
           clear H1
           have H' := Am H
           clear H
           go_wp2
           go_meet
           case rel => exact ⟨_, (false), (by first | rfl | (simp; done) | (simp [*]; done)), H', ⟨by have := HJ7.out; have := HK2.out; first | omega | exact Nat.le_refl _⟩, ⟨by repeat (first | exact HB.out | apply Ba | apply Bn | apply Bd)⟩⟩
         case rest =>
          clear HC61
          try clear c1
          try clear c2
          try clear p2
          try clear c3
          try clear p3
          try clear q3
          try clear hx3
          try clear c4
          try clear c5
          try clear c6
          try clear p6
          try clear c17
          try clear c17b0
          try clear c18
          try clear c18b0
          try clear c19
          try clear c20
          try clear c21
          try clear c22
          try clear c26
          try clear c26b0
          try clear c27
          try clear c28
          try clear c29
          try clear c30
          try clear c31
          try clear c31b0
          try clear c31b1
          try clear c31b2
          try clear c32
          try clear c33
          try clear p35
          try clear q35
          try clear hx35
          try clear c45
          try clear c45b0
          try clear c46
          try clear c46b0
          try clear c47
          try clear c47b0
          try clear c47b1
          try clear c47b2
          try clear c58
          try clear c59
          try clear c60
          try clear c62
          try clear hcz49_0
          try clear hcz49_1
          try clear hcz49_2
          try clear hcz49_3
          try clear hcz49_4
          try clear hcz54_0
          try clear hcz54_1
          try clear hcz54_2
          try clear hcz54_3
          try clear hcz54_4
          try clear hfz49_0
          try clear hfz49_1
          try clear hfz49_2
          try clear hfz49_3
          try clear hfz49_4
          try clear hfz54_0
          try clear hfz54_1
          try clear hfz54_2
          try clear hfz54_3
          try clear hfz54_4
          try clear hx355_0
          try clear hx355_1
          try clear hx355_2
          try clear hx355_3
          try clear hx355_4
          try clear hx357_0
          try clear hx357_1
          try clear hx357_2
          try clear hx357_3
          try clear hx357_4
          try clear hx358_0
          try clear hx358_1
          try clear hx358_2
          try clear hx358_3
          try clear hx358_4
          try clear hx359_0
          try clear hx359_1
          try clear hx359_2
          try clear hx359_3
          try clear hx359_4
          try clear p355
          try clear p357
          try clear p358
          try clear p359
          try clear q355
          try clear q357
          try clear q358
          try clear q359
          obtain ⟨kq, x114_60, rfl, HA, HJ60, HB⟩ := hcut
          cases kq with
          | zero => exact absurd HA.out (by simp [laws_FnTellsSame.j4])
          | succ kj60 =>
           have H := HA.out
           clear HA
           simp only [laws_FnTellsSame.j4] at H
           by_cases c63 : x114_60 = true
           ·subst c63
            have H1 : (some false) = some r := by rw [if_pos rfl] at H; exact H
            clear H
            have H := H1
            clear H1
            obtain rfl := Option.some.inj H
            go_wp2
            go_ret
            exact ⟨by first | rfl | (simp [*, errW_none, errW_some] <;> rfl), by repeat (first | exact HB.out | apply Ba | apply Bn | apply Bd)⟩
           ·replace c63 := Bool.eq_false_iff.mpr c63
            subst c63
            have H1 : ((spec_DrawTellsSame.f kj60 l1).bind fun bt360 => ((impl_TellsSame.f kj60 bt360.1 bt360.2).bind fun bt366 => ((spec_TellsSame.f kj60 bt360.1 bt360.2).bind fun bt368 => (if (bt366.2 == bt368.2) = true then (some (bt366.1 == bt368.1)) else (some false))))) = some r := by rw [if_neg (show ¬ (false = true) by decide)] at H; exact H
            clear H
            have H := H1
            clear H1
            replace H := Option.bind_eq_some_iff.mp H
            obtain ⟨⟨t360, t361⟩, A640, H⟩ := H
            replace H : ((impl_TellsSame.f kj60 t360 t361).bind fun bt366 => ((spec_TellsSame.f kj60 t360 t361).bind fun bt368 => (if (bt366.2 == bt368.2) = true then (some (bt366.1 == bt368.1)) else (some false)))) = some r := H
            have A64 := Am A640
            clear A640
            replace H := Option.bind_eq_some_iff.mp H
            obtain ⟨⟨t366, t367⟩, A650, H⟩ := H
            replace H : ((spec_TellsSame.f kj60 t360 t361).bind fun bt368 => (if (t367 == bt368.2) = true then (some (t366 == bt368.1)) else (some false))) = some r := H
            have A65 := Am A650
            clear A650
            replace H := Option.bind_eq_some_iff.mp H
            obtain ⟨⟨t368, t369⟩, A660, H⟩ := H
            replace H : (if (t367 == t369) = true then (some (t366 == t368)) else (some false)) = some r := H
            have A66 := Am A660
            clear A660
            by_cases c67 : (t367 == t369) = true
            ·rw [if_pos c67] at H
             have c67b0 : (t367 == t369) = true := c67
             (try (have c67b1 : decide (t367 = t369) = true := by simpa using c67))
             (try (have c67b2 : (t367 == t369) = true := by simpa using c67))
             clear c67
             obtain rfl := Option.some.inj H
             go_wp2_with (first | ((refine Gc (f := 28) rfl ?_); refine goesL_ (some 117) rfl rfl Try.func28 (by kernel_rfl) rfl #[.slice A1 l1.length c1] rfl (by first | rfl | (simp only [List.map_toArray, List.map_cons, List.map_nil]; first | done | rfl)) ?_; (with_reducible refine (spec_DrawTellsSame.calls kj60 _ _ l1 t360 t361 _ ?side1 ?side2 A64.out).mono ?_); (case side1 => repeat (first | exact (Kd.C_below HR1.out HB.out) | (with_reducible refine Kd.C_alloc ?_ _) | (with_reducible refine Kd.C_drewN ?_ _) | (with_reducible refine Kd.C_drew ?_))); (case side2 => exact HC1.out); rintro e w68 ⟨v362, v364, rfl, ho0, ho1, hb⟩; refine ⟨_, rfl, ?_⟩; have n0_ := Am (Kd.R_lower ho0 (Bz (by repeat (first | exact HB.out | apply Ba | apply Bn | apply Bd)))); have n1_ := Am (Kd.R_lower ho1 (Bz (by repeat (first | exact HB.out | apply Ba | apply Bn | apply Bd)))); have n2_ := Am (Bt (by repeat (first | exact HB.out | apply Ba | apply Bn | apply Bd)) hb); clear HB; have HO363 := n0_; have HO365 := n1_; have HB := n2_; clear n0_ n1_ n2_; (try clear hb); (try clear hb2); (try clear hk); (try clear hi); (try clear ho0); (try clear ho1); obtain ⟨Ao69, co69, eo69⟩ := Kd.R_slice HO363.out; subst eo69; obtain ⟨Ao70, co70, eo70⟩ := Kd.R_slice HO365.out; subst eo70) | ((refine Gc (f := 29) rfl ?_); refine goesL_ (some 123) rfl rfl Try.func29 (by kernel_rfl) rfl #[.slice Ao69 t360.length co69, .slice Ao70 t361.length co70] rfl (by first | rfl | (simp only [List.map_toArray, List.map_cons, List.map_nil]; first | done | rfl)) ?_; (with_reducible refine (impl_TellsSame.calls kj60 _ _ t360 _ _ t361 t366 t367 _ ?side1 ?side2 ?side3 ?side4 A65.out).mono ?_); (case side1 => repeat (first | exact (Kd.R_reads' HO363.out).2.2 | (with_reducible refine Kd.C_alloc ?_ _) | (with_reducible refine Kd.C_drewN ?_ _) | (with_reducible refine Kd.C_drew ?_))); (case side2 => exact (Kd.R_reads' HO363.out).2.1); (case side3 => repeat (first | exact (Kd.R_reads' HO365.out).2.2 | (with_reducible refine Kd.C_alloc ?_ _) | (with_reducible refine Kd.C_drewN ?_ _) | (with_reducible refine Kd.C_drew ?_))); (case side4 => exact (Kd.R_reads' HO365.out).2.1); rintro e w71 ⟨rfl, hb⟩; refine ⟨_, rfl, ?_⟩; have n0_ := Am (Kd.R_below (by (with_reducible repeat (first | apply Ra | apply Rn | apply Rd)); exact HO363.out) hb); have n1_ := Am (Kd.R_below (by (with_reducible repeat (first | apply Ra | apply Rn | apply Rd)); exact HO365.out) hb); have n2_ := Am (Bt (by repeat (first | exact HB.out | apply Ba | apply Bn | apply Bd)) hb); clear HO363; clear HO365; clear HB; have HO363 := n0_; have HO365 := n1_; have HB := n2_; clear n0_ n1_ n2_; (try clear hb); (try clear hb2); (try clear hk); (try clear hi)) | ((refine Gc (f := 30) rfl ?_); refine goesL_ (some 129) rfl rfl Try.func30 (by kernel_rfl) rfl #[.slice Ao69 t360.length co69, .slice Ao70 t361.length co70] rfl (by first | rfl | (simp only [List.map_toArray, List.map_cons, List.map_nil]; first | done | rfl)) ?_; (with_reducible refine (spec_TellsSame.calls kj60 _ _ t360 _ _ t361 t368 t369 _ ?side1 ?side2 ?side3 ?side4 A66.out).mono ?_); (case side1 => repeat (first | exact (Kd.R_reads' HO363.out).2.2 | (with_reducible refine Kd.C_alloc ?_ _) | (with_reducible refine Kd.C_drewN ?_ _) | (with_reducible refine Kd.C_drew ?_))); (case side2 => exact (Kd.R_reads' HO363.out).2.1); (case side3 => repeat (first | exact (Kd.R_reads' HO365.out).2.2 | (with_reducible refine Kd.C_alloc ?_ _) | (with_reducible refine Kd.C_drewN ?_ _) | (with_reducible refine Kd.C_drew ?_))); (case side4 => exact (Kd.R_reads' HO365.out).2.1); rintro e w72 ⟨rfl, hb⟩; refine ⟨_, rfl, ?_⟩; have n0_ := Am (Kd.R_below (by (with_reducible repeat (first | apply Ra | apply Rn | apply Rd)); exact HO363.out) hb); have n1_ := Am (Kd.R_below (by (with_reducible repeat (first | apply Ra | apply Rn | apply Rd)); exact HO365.out) hb); have n2_ := Am (Bt (by repeat (first | exact HB.out | apply Ba | apply Bn | apply Bd)) hb); clear HO363; clear HO365; clear HB; have HO363 := n0_; have HO365 := n1_; have HB := n2_; clear n0_ n1_ n2_; (try clear hb); (try clear hb2); (try clear hk); (try clear hi)))
             go_ret
             exact ⟨by first | rfl | (simp [*, errW_none, errW_some] <;> rfl), by repeat (first | exact HB.out | apply Ba | apply Bn | apply Bd)⟩
            ·rw [if_neg c67] at H
             have c67b0 : (t367 == t369) = false := by simpa using c67
             (try (have c67b1 : decide (t367 = t369) = false := by simpa using c67))
             (try (have c67b2 : (t367 == t369) = false := by simpa using c67))
             (try (have c67b3 : ¬ (t367 = t369) := by simpa using c67))
             clear c67
             obtain rfl := Option.some.inj H
             go_wp2_with (first | ((refine Gc (f := 28) rfl ?_); refine goesL_ (some 117) rfl rfl Try.func28 (by kernel_rfl) rfl #[.slice A1 l1.length c1] rfl (by first | rfl | (simp only [List.map_toArray, List.map_cons, List.map_nil]; first | done | rfl)) ?_; (with_reducible refine (spec_DrawTellsSame.calls kj60 _ _ l1 t360 t361 _ ?side1 ?side2 A64.out).mono ?_); (case side1 => repeat (first | exact (Kd.C_below HR1.out HB.out) | (with_reducible refine Kd.C_alloc ?_ _) | (with_reducible refine Kd.C_drewN ?_ _) | (with_reducible refine Kd.C_drew ?_))); (case side2 => exact HC1.out); rintro e w73 ⟨v362, v364, rfl, ho0, ho1, hb⟩; refine ⟨_, rfl, ?_⟩; have n0_ := Am (Kd.R_lower ho0 (Bz (by repeat (first | exact HB.out | apply Ba | apply Bn | apply Bd)))); have n1_ := Am (Kd.R_lower ho1 (Bz (by repeat (first | exact HB.out | apply Ba | apply Bn | apply Bd)))); have n2_ := Am (Bt (by repeat (first | exact HB.out | apply Ba | apply Bn | apply Bd)) hb); clear HB; have HO363 := n0_; have HO365 := n1_; have HB := n2_; clear n0_ n1_ n2_; (try clear hb); (try clear hb2); (try clear hk); (try clear hi); (try clear ho0); (try clear ho1); obtain ⟨Ao74, co74, eo74⟩ := Kd.R_slice HO363.out; subst eo74; obtain ⟨Ao75, co75, eo75⟩ := Kd.R_slice HO365.out; subst eo75) | ((refine Gc (f := 29) rfl ?_); refine goesL_ (some 123) rfl rfl Try.func29 (by kernel_rfl) rfl #[.slice Ao74 t360.length co74, .slice Ao75 t361.length co75] rfl (by first | rfl | (simp only [List.map_toArray, List.map_cons, List.map_nil]; first | done | rfl)) ?_; (with_reducible refine (impl_TellsSame.calls kj60 _ _ t360 _ _ t361 t366 t367 _ ?side1 ?side2 ?side3 ?side4 A65.out).mono ?_); (case side1 => repeat (first | exact (Kd.R_reads' HO363.out).2.2 | (with_reducible refine Kd.C_alloc ?_ _) | (with_reducible refine Kd.C_drewN ?_ _) | (with_reducible refine Kd.C_drew ?_))); (case side2 => exact (Kd.R_reads' HO363.out).2.1); (case side3 => repeat (first | exact (Kd.R_reads' HO365.out).2.2 | (with_reducible refine Kd.C_alloc ?_ _) | (with_reducible refine Kd.C_drewN ?_ _) | (with_reducible refine Kd.C_drew ?_))); (case side4 => exact (Kd.R_reads' HO365.out).2.1); rintro e w76 ⟨rfl, hb⟩; refine ⟨_, rfl, ?_⟩; have n0_ := Am (Kd.R_below (by (with_reducible repeat (first | apply Ra | apply Rn | apply Rd)); exact HO363.out) hb); have n1_ := Am (Kd.R_below (by (with_reducible repeat (first | apply Ra | apply Rn | apply Rd)); exact HO365.out) hb); have n2_ := Am (Bt (by repeat (first | exact HB.out | apply Ba | apply Bn | apply Bd)) hb); clear HO363; clear HO365; clear HB; have HO363 := n0_; have HO365 := n1_; have HB := n2_; clear n0_ n1_ n2_; (try clear hb); (try clear hb2); (try clear hk); (try clear hi)) | ((refine Gc (f := 30) rfl ?_); refine goesL_ (some 129) rfl rfl Try.func30 (by kernel_rfl) rfl #[.slice Ao74 t360.length co74, .slice Ao75 t361.length co75] rfl (by first | rfl | (simp only [List.map_toArray, List.map_cons, List.map_nil]; first | done | rfl)) ?_; (with_reducible refine (spec_TellsSame.calls kj60 _ _ t360 _ _ t361 t368 t369 _ ?side1 ?side2 ?side3 ?side4 A66.out).mono ?_); (case side1 => repeat (first | exact (Kd.R_reads' HO363.out).2.2 | (with_reducible refine Kd.C_alloc ?_ _) | (with_reducible refine Kd.C_drewN ?_ _) | (with_reducible refine Kd.C_drew ?_))); (case side2 => exact (Kd.R_reads' HO363.out).2.1); (case side3 => repeat (first | exact (Kd.R_reads' HO365.out).2.2 | (with_reducible refine Kd.C_alloc ?_ _) | (with_reducible refine Kd.C_drewN ?_ _) | (with_reducible refine Kd.C_drew ?_))); (case side4 => exact (Kd.R_reads' HO365.out).2.1); rintro e w77 ⟨rfl, hb⟩; refine ⟨_, rfl, ?_⟩; have n0_ := Am (Kd.R_below (by (with_reducible repeat (first | apply Ra | apply Rn | apply Rd)); exact HO363.out) hb); have n1_ := Am (Kd.R_below (by (with_reducible repeat (first | apply Ra | apply Rn | apply Rd)); exact HO365.out) hb); have n2_ := Am (Bt (by repeat (first | exact HB.out | apply Ba | apply Bn | apply Bd)) hb); clear HO363; clear HO365; clear HB; have HO363 := n0_; have HO365 := n1_; have HB := n2_; clear n0_ n1_ n2_; (try clear hb); (try clear hb2); (try clear hk); (try clear hi)))
             go_ret
             exact ⟨by first | rfl | (simp [*, errW_none, errW_some] <;> rfl), by repeat (first | exact HB.out | apply Ba | apply Bn | apply Bd)⟩
     ·replace c16 := Bool.eq_false_iff.mpr c16
      subst c16
      have H1 : ((spec_DrawTellsSame.f kj7 l1).bind fun bt370 => ((impl_TellsSame.f kj7 bt370.1 bt370.2).bind fun bt376 => ((spec_TellsSame.f kj7 bt370.1 bt370.2).bind fun bt378 => (if (bt376.2 == bt378.2) = true then (some (bt376.1 == bt378.1)) else (some false))))) = some r := by rw [if_neg (show ¬ (false = true) by decide)] at H; exact H
      clear H
      have H := H1
      clear H1
      replace H := Option.bind_eq_some_iff.mp H
      obtain ⟨⟨t370, t371⟩, A780, H⟩ := H
      replace H : ((impl_TellsSame.f kj7 t370 t371).bind fun bt376 => ((spec_TellsSame.f kj7 t370 t371).bind fun bt378 => (if (bt376.2 == bt378.2) = true then (some (bt376.1 == bt378.1)) else (some false)))) = some r := H
      have A78 := Am A780
      clear A780
      replace H := Option.bind_eq_some_iff.mp H
      obtain ⟨⟨t376, t377⟩, A790, H⟩ := H
      replace H : ((spec_TellsSame.f kj7 t370 t371).bind fun bt378 => (if (t377 == bt378.2) = true then (some (t376 == bt378.1)) else (some false))) = some r := H
      have A79 := Am A790
      clear A790
      replace H := Option.bind_eq_some_iff.mp H
      obtain ⟨⟨t378, t379⟩, A800, H⟩ := H
      replace H : (if (t377 == t379) = true then (some (t376 == t378)) else (some false)) = some r := H
      have A80 := Am A800
      clear A800
      by_cases c81 : (t377 == t379) = true
      ·rw [if_pos c81] at H
       have c81b0 : (t377 == t379) = true := c81
       (try (have c81b1 : decide (t377 = t379) = true := by simpa using c81))
       (try (have c81b2 : (t377 == t379) = true := by simpa using c81))
       clear c81
       obtain rfl := Option.some.inj H
       go_wp2_with (first | ((refine Gc (f := 28) rfl ?_); refine goesL_ (some 117) rfl rfl Try.func28 (by kernel_rfl) rfl #[.slice A1 l1.length c1] rfl (by first | rfl | (simp only [List.map_toArray, List.map_cons, List.map_nil]; first | done | rfl)) ?_; (with_reducible refine (spec_DrawTellsSame.calls kj7 _ _ l1 t370 t371 _ ?side1 ?side2 A78.out).mono ?_); (case side1 => repeat (first | exact (Kd.C_below HR1.out HB.out) | (with_reducible refine Kd.C_alloc ?_ _) | (with_reducible refine Kd.C_drewN ?_ _) | (with_reducible refine Kd.C_drew ?_))); (case side2 => exact HC1.out); rintro e w82 ⟨v372, v374, rfl, ho0, ho1, hb⟩; refine ⟨_, rfl, ?_⟩; have n0_ := Am (Kd.R_mono (Kd.R_told (Kd.R_told (Kd.R_old (by (with_reducible repeat (first | apply Ra | apply Rn | apply Rd)); exact HO_5.out) hb) (Kd.R_base ho0)) (Kd.R_base ho1)) (fun _ h_ => h_.1)); have n1_ := Am (Kd.R_mono (Kd.R_told (Kd.R_told (Kd.R_old (by (with_reducible repeat (first | apply Ra | apply Rn | apply Rd)); exact HO_6.out) hb) (Kd.R_base ho0)) (Kd.R_base ho1)) (fun _ h_ => h_.1)); have n2_ := Am (Kd.R_lower (Kd.R_new' (Kd.R_new' ho0 (Kd.R_lt (by (with_reducible repeat (first | apply Ra | apply Rn | apply Rd)); exact HO_5.out))) (Kd.R_lt (by (with_reducible repeat (first | apply Ra | apply Rn | apply Rd)); exact HO_6.out))) (Bz (by repeat (first | exact HB.out | apply Ba | apply Bn | apply Bd)))); have n3_ := Am (Kd.R_lower (Kd.R_new' (Kd.R_new' ho1 (Kd.R_lt (by (with_reducible repeat (first | apply Ra | apply Rn | apply Rd)); exact HO_5.out))) (Kd.R_lt (by (with_reducible repeat (first | apply Ra | apply Rn | apply Rd)); exact HO_6.out))) (Bz (by repeat (first | exact HB.out | apply Ba | apply Bn | apply Bd)))); have n4_ := Am (Bt (by repeat (first | exact HB.out | apply Ba | apply Bn | apply Bd)) hb); clear HO_5; clear HO_6; clear HB; have HO_5 := n0_; have HO_6 := n1_; have HO373 := n2_; have HO375 := n3_; have HB := n4_; clear n0_ n1_ n2_ n3_ n4_; (try clear hb); (try clear hb2); (try clear hk); (try clear hi); (try clear ho0); (try clear ho1); obtain ⟨Ao83, co83, eo83⟩ := Kd.R_slice HO373.out; subst eo83; obtain ⟨Ao84, co84, eo84⟩ := Kd.R_slice HO375.out; subst eo84) | ((refine Gc (f := 29) rfl ?_); refine goesL_ (some 123) rfl rfl Try.func29 (by kernel_rfl) rfl #[.slice Ao83 t370.length co83, .slice Ao84 t371.length co84] rfl (by first | rfl | (simp only [List.map_toArray, List.map_cons, List.map_nil]; first | done | rfl)) ?_; (with_reducible refine (impl_TellsSame.calls kj7 _ _ t370 _ _ t371 t376 t377 _ ?side1 ?side2 ?side3 ?side4 A79.out).mono ?_); (case side1 => repeat (first | exact (Kd.R_reads' HO373.out).2.2 | (with_reducible refine Kd.C_alloc ?_ _) | (with_reducible refine Kd.C_drewN ?_ _) | (with_reducible refine Kd.C_drew ?_))); (case side2 => exact (Kd.R_reads' HO373.out).2.1); (case side3 => repeat (first | exact (Kd.R_reads' HO375.out).2.2 | (with_reducible refine Kd.C_alloc ?_ _) | (with_reducible refine Kd.C_drewN ?_ _) | (with_reducible refine Kd.C_drew ?_))); (case side4 => exact (Kd.R_reads' HO375.out).2.1); rintro e w85 ⟨rfl, hb⟩; refine ⟨_, rfl, ?_⟩; have n0_ := Am (Kd.R_below (by (with_reducible repeat (first | apply Ra | apply Rn | apply Rd)); exact HO_5.out) hb); have n1_ := Am (Kd.R_below (by (with_reducible repeat (first | apply Ra | apply Rn | apply Rd)); exact HO_6.out) hb); have n2_ := Am (Kd.R_below (by (with_reducible repeat (first | apply Ra | apply Rn | apply Rd)); exact HO373.out) hb); have n3_ := Am (Kd.R_below (by (with_reducible repeat (first | apply Ra | apply Rn | apply Rd)); exact HO375.out) hb); have n4_ := Am (Bt (by repeat (first | exact HB.out | apply Ba | apply Bn | apply Bd)) hb); clear HO_5; clear HO_6; clear HO373; clear HO375; clear HB; have HO_5 := n0_; have HO_6 := n1_; have HO373 := n2_; have HO375 := n3_; have HB := n4_; clear n0_ n1_ n2_ n3_ n4_; (try clear hb); (try clear hb2); (try clear hk); (try clear hi)) | ((refine Gc (f := 30) rfl ?_); refine goesL_ (some 129) rfl rfl Try.func30 (by kernel_rfl) rfl #[.slice Ao83 t370.length co83, .slice Ao84 t371.length co84] rfl (by first | rfl | (simp only [List.map_toArray, List.map_cons, List.map_nil]; first | done | rfl)) ?_; (with_reducible refine (spec_TellsSame.calls kj7 _ _ t370 _ _ t371 t378 t379 _ ?side1 ?side2 ?side3 ?side4 A80.out).mono ?_); (case side1 => repeat (first | exact (Kd.R_reads' HO373.out).2.2 | (with_reducible refine Kd.C_alloc ?_ _) | (with_reducible refine Kd.C_drewN ?_ _) | (with_reducible refine Kd.C_drew ?_))); (case side2 => exact (Kd.R_reads' HO373.out).2.1); (case side3 => repeat (first | exact (Kd.R_reads' HO375.out).2.2 | (with_reducible refine Kd.C_alloc ?_ _) | (with_reducible refine Kd.C_drewN ?_ _) | (with_reducible refine Kd.C_drew ?_))); (case side4 => exact (Kd.R_reads' HO375.out).2.1); rintro e w86 ⟨rfl, hb⟩; refine ⟨_, rfl, ?_⟩; have n0_ := Am (Kd.R_below (by (with_reducible repeat (first | apply Ra | apply Rn | apply Rd)); exact HO_5.out) hb); have n1_ := Am (Kd.R_below (by (with_reducible repeat (first | apply Ra | apply Rn | apply Rd)); exact HO_6.out) hb); have n2_ := Am (Kd.R_below (by (with_reducible repeat (first | apply Ra | apply Rn | apply Rd)); exact HO373.out) hb); have n3_ := Am (Kd.R_below (by (with_reducible repeat (first | apply Ra | apply Rn | apply Rd)); exact HO375.out) hb); have n4_ := Am (Bt (by repeat (first | exact HB.out | apply Ba | apply Bn | apply Bd)) hb); clear HO_5; clear HO_6; clear HO373; clear HO375; clear HB; have HO_5 := n0_; have HO_6 := n1_; have HO373 := n2_; have HO375 := n3_; have HB := n4_; clear n0_ n1_ n2_ n3_ n4_; (try clear hb); (try clear hb2); (try clear hk); (try clear hi)))
       go_ret
       exact ⟨by first | rfl | (simp [*, errW_none, errW_some] <;> rfl), by repeat (first | exact HB.out | apply Ba | apply Bn | apply Bd)⟩
      ·rw [if_neg c81] at H
       have c81b0 : (t377 == t379) = false := by simpa using c81
       (try (have c81b1 : decide (t377 = t379) = false := by simpa using c81))
       (try (have c81b2 : (t377 == t379) = false := by simpa using c81))
       (try (have c81b3 : ¬ (t377 = t379) := by simpa using c81))
       clear c81
       obtain rfl := Option.some.inj H
       go_wp2_with (first | ((refine Gc (f := 28) rfl ?_); refine goesL_ (some 117) rfl rfl Try.func28 (by kernel_rfl) rfl #[.slice A1 l1.length c1] rfl (by first | rfl | (simp only [List.map_toArray, List.map_cons, List.map_nil]; first | done | rfl)) ?_; (with_reducible refine (spec_DrawTellsSame.calls kj7 _ _ l1 t370 t371 _ ?side1 ?side2 A78.out).mono ?_); (case side1 => repeat (first | exact (Kd.C_below HR1.out HB.out) | (with_reducible refine Kd.C_alloc ?_ _) | (with_reducible refine Kd.C_drewN ?_ _) | (with_reducible refine Kd.C_drew ?_))); (case side2 => exact HC1.out); rintro e w87 ⟨v372, v374, rfl, ho0, ho1, hb⟩; refine ⟨_, rfl, ?_⟩; have n0_ := Am (Kd.R_mono (Kd.R_told (Kd.R_told (Kd.R_old (by (with_reducible repeat (first | apply Ra | apply Rn | apply Rd)); exact HO_5.out) hb) (Kd.R_base ho0)) (Kd.R_base ho1)) (fun _ h_ => h_.1)); have n1_ := Am (Kd.R_mono (Kd.R_told (Kd.R_told (Kd.R_old (by (with_reducible repeat (first | apply Ra | apply Rn | apply Rd)); exact HO_6.out) hb) (Kd.R_base ho0)) (Kd.R_base ho1)) (fun _ h_ => h_.1)); have n2_ := Am (Kd.R_lower (Kd.R_new' (Kd.R_new' ho0 (Kd.R_lt (by (with_reducible repeat (first | apply Ra | apply Rn | apply Rd)); exact HO_5.out))) (Kd.R_lt (by (with_reducible repeat (first | apply Ra | apply Rn | apply Rd)); exact HO_6.out))) (Bz (by repeat (first | exact HB.out | apply Ba | apply Bn | apply Bd)))); have n3_ := Am (Kd.R_lower (Kd.R_new' (Kd.R_new' ho1 (Kd.R_lt (by (with_reducible repeat (first | apply Ra | apply Rn | apply Rd)); exact HO_5.out))) (Kd.R_lt (by (with_reducible repeat (first | apply Ra | apply Rn | apply Rd)); exact HO_6.out))) (Bz (by repeat (first | exact HB.out | apply Ba | apply Bn | apply Bd)))); have n4_ := Am (Bt (by repeat (first | exact HB.out | apply Ba | apply Bn | apply Bd)) hb); clear HO_5; clear HO_6; clear HB; have HO_5 := n0_; have HO_6 := n1_; have HO373 := n2_; have HO375 := n3_; have HB := n4_; clear n0_ n1_ n2_ n3_ n4_; (try clear hb); (try clear hb2); (try clear hk); (try clear hi); (try clear ho0); (try clear ho1); obtain ⟨Ao88, co88, eo88⟩ := Kd.R_slice HO373.out; subst eo88; obtain ⟨Ao89, co89, eo89⟩ := Kd.R_slice HO375.out; subst eo89) | ((refine Gc (f := 29) rfl ?_); refine goesL_ (some 123) rfl rfl Try.func29 (by kernel_rfl) rfl #[.slice Ao88 t370.length co88, .slice Ao89 t371.length co89] rfl (by first | rfl | (simp only [List.map_toArray, List.map_cons, List.map_nil]; first | done | rfl)) ?_; (with_reducible refine (impl_TellsSame.calls kj7 _ _ t370 _ _ t371 t376 t377 _ ?side1 ?side2 ?side3 ?side4 A79.out).mono ?_); (case side1 => repeat (first | exact (Kd.R_reads' HO373.out).2.2 | (with_reducible refine Kd.C_alloc ?_ _) | (with_reducible refine Kd.C_drewN ?_ _) | (with_reducible refine Kd.C_drew ?_))); (case side2 => exact (Kd.R_reads' HO373.out).2.1); (case side3 => repeat (first | exact (Kd.R_reads' HO375.out).2.2 | (with_reducible refine Kd.C_alloc ?_ _) | (with_reducible refine Kd.C_drewN ?_ _) | (with_reducible refine Kd.C_drew ?_))); (case side4 => exact (Kd.R_reads' HO375.out).2.1); rintro e w90 ⟨rfl, hb⟩; refine ⟨_, rfl, ?_⟩; have n0_ := Am (Kd.R_below (by (with_reducible repeat (first | apply Ra | apply Rn | apply Rd)); exact HO_5.out) hb); have n1_ := Am (Kd.R_below (by (with_reducible repeat (first | apply Ra | apply Rn | apply Rd)); exact HO_6.out) hb); have n2_ := Am (Kd.R_below (by (with_reducible repeat (first | apply Ra | apply Rn | apply Rd)); exact HO373.out) hb); have n3_ := Am (Kd.R_below (by (with_reducible repeat (first | apply Ra | apply Rn | apply Rd)); exact HO375.out) hb); have n4_ := Am (Bt (by repeat (first | exact HB.out | apply Ba | apply Bn | apply Bd)) hb); clear HO_5; clear HO_6; clear HO373; clear HO375; clear HB; have HO_5 := n0_; have HO_6 := n1_; have HO373 := n2_; have HO375 := n3_; have HB := n4_; clear n0_ n1_ n2_ n3_ n4_; (try clear hb); (try clear hb2); (try clear hk); (try clear hi)) | ((refine Gc (f := 30) rfl ?_); refine goesL_ (some 129) rfl rfl Try.func30 (by kernel_rfl) rfl #[.slice Ao88 t370.length co88, .slice Ao89 t371.length co89] rfl (by first | rfl | (simp only [List.map_toArray, List.map_cons, List.map_nil]; first | done | rfl)) ?_; (with_reducible refine (spec_TellsSame.calls kj7 _ _ t370 _ _ t371 t378 t379 _ ?side1 ?side2 ?side3 ?side4 A80.out).mono ?_); (case side1 => repeat (first | exact (Kd.R_reads' HO373.out).2.2 | (with_reducible refine Kd.C_alloc ?_ _) | (with_reducible refine Kd.C_drewN ?_ _) | (with_reducible refine Kd.C_drew ?_))); (case side2 => exact (Kd.R_reads' HO373.out).2.1); (case side3 => repeat (first | exact (Kd.R_reads' HO375.out).2.2 | (with_reducible refine Kd.C_alloc ?_ _) | (with_reducible refine Kd.C_drewN ?_ _) | (with_reducible refine Kd.C_drew ?_))); (case side4 => exact (Kd.R_reads' HO375.out).2.1); rintro e w91 ⟨rfl, hb⟩; refine ⟨_, rfl, ?_⟩; have n0_ := Am (Kd.R_below (by (with_reducible repeat (first | apply Ra | apply Rn | apply Rd)); exact HO_5.out) hb); have n1_ := Am (Kd.R_below (by (with_reducible repeat (first | apply Ra | apply Rn | apply Rd)); exact HO_6.out) hb); have n2_ := Am (Kd.R_below (by (with_reducible repeat (first | apply Ra | apply Rn | apply Rd)); exact HO373.out) hb); have n3_ := Am (Kd.R_below (by (with_reducible repeat (first | apply Ra | apply Rn | apply Rd)); exact HO375.out) hb); have n4_ := Am (Bt (by repeat (first | exact HB.out | apply Ba | apply Bn | apply Bd)) hb); clear HO_5; clear HO_6; clear HO373; clear HO375; clear HB; have HO_5 := n0_; have HO_6 := n1_; have HO373 := n2_; have HO375 := n3_; have HB := n4_; clear n0_ n1_ n2_ n3_ n4_; (try clear hb); (try clear hb2); (try clear hk); (try clear hi)))
       go_ret
       exact ⟨by first | rfl | (simp [*, errW_none, errW_some] <;> rfl), by repeat (first | exact HB.out | apply Ba | apply Bn | apply Bd)⟩
end Go.Proofs.Yteecmbfebenjjaa.QFnTellsSame
