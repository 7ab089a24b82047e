-- Written by a program of this session (wip/mk.py) over the kit's print: Lean checks it.
import Derived.Test.YtpboalgecejoeaaQFnOrdersx0
import Derived.Test.YtpboalgecejoeaaQFnOrdersx1
import Derived.Test.YtpboalgecejoeaaQFnOrdersx2
import Derived.Test.YtpboalgecejoeaaQFnOrdersx3
namespace Go.Proofs.Ytpboalgecejoeaa.QFnOrders
open Go.Proofs.YtpboalgecejoeaaW.PrintWords.Kd renaming R_alloc → Ra, R_drewN → Rn, R_drew → Rd, S_alloc → Sa, S_drewN → Sn, S_drew → Sd
open Go.Proofs.YtpboalgecejoeaaW.PrintWords renaming below_alloc → Ba, pw_below_drewN → Bn, below_drew1 → Bd, below_size → Bz, below_step → Bt, gate_callee → Gc
open Go.World renaming block_lt_of_cell? → bl_
open Go.Proofs.YtpboalgecejoeaaW.PrintWords.Aside0 renaming mk → Am
open Go.Proofs.YtpboalgecejoeaaW.PrintWords renaming Aside0 → Ad
open Go.RowKit Go.Proofs.YtpboalgecejoeaaW.PrintWords Go.Proofs.YtpboalgecejoeaaW.PrintLast Go.Proofs.YtpboalgecejoeaaW.PrintMore
attribute [local go_sem] max2_int min2_int max_two min_two max_three min_three max_four min_four   -- for this text's walks alone
set_option linter.unusedVariables false
set_option linter.unusedSimpArgs false
mutual
def spec_IsOrder.j0 : Nat → List (List Int) → List Int → List Int → Bool → Option (Bool × Bool)
 | 0, _, _, _, _ => none
 | k + 1, x0, x1, x2, x27 => if x27 = true then (some (false, false)) else (spec_IsOrder.l0 k x0 x1 x2 (x0.length : Int) 0)
def spec_IsOrder.l0 : Nat → List (List Int) → List Int → List Int → Int → Int → Option (Bool × Bool)
 | 0, _, _, _, _, _ => none
 | k + 1, x0, x1, x2, x29, x30 => if x30 < x29 then ((spec_l5Place.f k x2 x30).bind fun t216 => (if t216 < 0 then (some (false, false)) else (spec_IsOrder.l0 k x0 x1 x2 x29 (wrap64 (x30 + 1))))) else (spec_IsOrder.l1 k x0 x1 x2 (x0.length : Int) 0)
def spec_IsOrder.l1 : Nat → List (List Int) → List Int → List Int → Int → Int → Option (Bool × Bool)
 | 0, _, _, _, _, _ => none
 | k + 1, x0, x1, x2, x39, x40 => if x40 < x39 then (if 0 ≤ x40 then (if x40 < (x0.length : Int) then (spec_IsOrder.l2 k x0 x1 x2 x40 x39 x40 (rd_L1 x0 x40) ((rd_L1 x0 x40).length : Int) 0) else (none)) else (none)) else ((spec_l5Groups.f k x0).bind fun t225 => (spec_IsOrder.l3 k x1 x2 t225 (t225.length : Int) 0))
def spec_IsOrder.l2 : Nat → List (List Int) → List Int → List Int → Int → Int → Int → List Int → Int → Int → Option (Bool × Bool)
 | 0, _, _, _, _, _, _, _, _, _ => none
 | k + 1, x0, x1, x2, x9, x39, x40, x46, x47, x48 => if x48 < x47 then (if 0 ≤ x48 then (if x48 < (x46.length : Int) then ((spec_l5Reached.f k x0 (rd x46 x48)).bind fun t219 => ((spec_l1Has.f k t219 x9).bind fun t222 => (if t222 = true then (spec_IsOrder.l2 k x0 x1 x2 x9 x39 x40 x46 x47 (wrap64 (x48 + 1))) else ((spec_l5Place.f k x2 (rd x46 x48)).bind fun t223 => ((spec_l5Place.f k x2 x9).bind fun t224 => (if t223 > t224 then (some (false, true)) else (spec_IsOrder.l2 k x0 x1 x2 x9 x39 x40 x46 x47 (wrap64 (x48 + 1))))))))) else (none)) else (none)) else (spec_IsOrder.l1 k x0 x1 x2 x39 (wrap64 (x40 + 1)))
def spec_IsOrder.l3 : Nat → List Int → List Int → List (List Int) → Int → Int → Option (Bool × Bool)
 | 0, _, _, _, _, _ => none
 | k + 1, x1, x2, x70, x71, x72 => if x72 < x71 then (if 0 ≤ x72 then (if x72 < (x70.length : Int) then ((spec_l5ByKey.f k (rd_L1 x70 x72) x1).bind fun t229 => (if 0 < (t229.length : Int) then ((spec_l5Place.f k x2 (rd t229 0)).bind fun t233 => ((spec_l5ByKey.f k (rd_L1 x70 x72) x1).bind fun t234 => (spec_IsOrder.l4 k x1 x2 t233 x70 x71 x72 t234 (t234.length : Int) 0))) else (none))) else (none)) else (none)) else (some (true, true))
def spec_IsOrder.l4 : Nat → List Int → List Int → Int → List (List Int) → Int → Int → List Int → Int → Int → Option (Bool × Bool)
 | 0, _, _, _, _, _, _, _, _, _ => none
 | k + 1, x1, x2, x14, x70, x71, x72, x85, x86, x87 => if x87 < x86 then (if 0 ≤ x87 then (if x87 < (x85.length : Int) then ((spec_l5Place.f k x2 (rd x85 x87)).bind fun t238 => (if t238 = (wrap64 (x14 + x87)) then (spec_IsOrder.l4 k x1 x2 x14 x70 x71 x72 x85 x86 (wrap64 (x87 + 1))) else (some (false, true)))) else (none)) else (none)) else (spec_IsOrder.l3 k x1 x2 x70 x71 (wrap64 (x72 + 1)))
end
def spec_IsOrder.f (k : Nat) (l0 : List (List Int)) (l1 : List Int) (l2 : List Int) : Option (Bool × Bool) := (spec_l5Keys.f k l0 l1).bind fun t215 => (if t215 = true then (spec_IsOrder.j0 k l0 l1 l2 ((l2.length : Int) != (l0.length : Int))) else (spec_IsOrder.j0 k l0 l1 l2 true))
theorem spec_IsOrder.mono_l : ∀ k, (∀ y0 y1 y2 y3, LeO (spec_IsOrder.j0 k y0 y1 y2 y3) (spec_IsOrder.j0 (k + 1) y0 y1 y2 y3)) ∧ (∀ y0 y1 y2 y3 y4, LeO (spec_IsOrder.l0 k y0 y1 y2 y3 y4) (spec_IsOrder.l0 (k + 1) y0 y1 y2 y3 y4)) ∧ (∀ y0 y1 y2 y3 y4, LeO (spec_IsOrder.l1 k y0 y1 y2 y3 y4) (spec_IsOrder.l1 (k + 1) y0 y1 y2 y3 y4)) ∧ (∀ y0 y1 y2 y3 y4 y5 y6 y7 y8, LeO (spec_IsOrder.l2 k y0 y1 y2 y3 y4 y5 y6 y7 y8) (spec_IsOrder.l2 (k + 1) y0 y1 y2 y3 y4 y5 y6 y7 y8)) ∧ (∀ y0 y1 y2 y3 y4, LeO (spec_IsOrder.l3 k y0 y1 y2 y3 y4) (spec_IsOrder.l3 (k + 1) y0 y1 y2 y3 y4)) ∧ (∀ y0 y1 y2 y3 y4 y5 y6 y7 y8, LeO (spec_IsOrder.l4 k y0 y1 y2 y3 y4 y5 y6 y7 y8) (spec_IsOrder.l4 (k + 1) y0 y1 y2 y3 y4 y5 y6 y7 y8))
 | 0 => ⟨fun _ _ _ _ r h => by simp [spec_IsOrder.j0] at h, fun _ _ _ _ _ r h => by simp [spec_IsOrder.l0] at h, fun _ _ _ _ _ r h => by simp [spec_IsOrder.l1] at h, fun _ _ _ _ _ _ _ _ _ r h => by simp [spec_IsOrder.l2] at h, fun _ _ _ _ _ r h => by simp [spec_IsOrder.l3] at h, fun _ _ _ _ _ _ _ _ _ r h => by simp [spec_IsOrder.l4] at h⟩
 | k + 1 => by
  obtain ⟨ih0, ih1, ih2, ih3, ih4, ih5⟩ := spec_IsOrder.mono_l k
  refine ⟨?_, ?_, ?_, ?_, ?_, ?_⟩
  ·intro y0 y1 y2 y3
   unfold spec_IsOrder.j0
   repeat' first
   | (with_reducible exact ih0 _ _ _ _)
   | (with_reducible exact ih1 _ _ _ _ _)
   | (with_reducible exact ih2 _ _ _ _ _)
   | (with_reducible exact ih3 _ _ _ _ _ _ _ _ _)
   | (with_reducible exact ih4 _ _ _ _ _)
   | (with_reducible exact ih5 _ _ _ _ _ _ _ _ _)
   | (with_reducible exact spec_l1Has.mono _ _ _)
   | (with_reducible exact spec_l5ByKey.mono _ _ _)
   | (with_reducible exact spec_l5Groups.mono _ _)
   | (with_reducible exact spec_l5Keys.mono _ _ _)
   | (with_reducible exact spec_l5Place.mono _ _ _)
   | (with_reducible exact spec_l5Reached.mono _ _ _)
   | (with_reducible exact LeO.refl _)
   | (with_reducible exact LeO.none _)
   | (with_reducible refine LeO.ite ?_ ?_)
   | (with_reducible refine LeO.bind ?_ (fun _ => ?_))
   | exact ih0 _ _ _ _
   | exact ih1 _ _ _ _ _
   | exact ih2 _ _ _ _ _
   | exact ih3 _ _ _ _ _ _ _ _ _
   | exact ih4 _ _ _ _ _
   | exact ih5 _ _ _ _ _ _ _ _ _
   | exact spec_l1Has.mono _ _ _
   | exact spec_l5ByKey.mono _ _ _
   | exact spec_l5Groups.mono _ _
   | exact spec_l5Keys.mono _ _ _
   | exact spec_l5Place.mono _ _ _
   | exact spec_l5Reached.mono _ _ _
   | exact LeO.none _
   | refine LeO.ite ?_ ?_
   | refine LeO.bind ?_ (fun _ => ?_)
  ·intro y0 y1 y2 y3 y4
   unfold spec_IsOrder.l0
   repeat' first
   | (with_reducible exact ih0 _ _ _ _)
   | (with_reducible exact ih1 _ _ _ _ _)
   | (with_reducible exact ih2 _ _ _ _ _)
   | (with_reducible exact ih3 _ _ _ _ _ _ _ _ _)
   | (with_reducible exact ih4 _ _ _ _ _)
   | (with_reducible exact ih5 _ _ _ _ _ _ _ _ _)
   | (with_reducible exact spec_l1Has.mono _ _ _)
   | (with_reducible exact spec_l5ByKey.mono _ _ _)
   | (with_reducible exact spec_l5Groups.mono _ _)
   | (with_reducible exact spec_l5Keys.mono _ _ _)
   | (with_reducible exact spec_l5Place.mono _ _ _)
   | (with_reducible exact spec_l5Reached.mono _ _ _)
   | (with_reducible exact LeO.refl _)
   | (with_reducible exact LeO.none _)
   | (with_reducible refine LeO.ite ?_ ?_)
   | (with_reducible refine LeO.bind ?_ (fun _ => ?_))
   | exact ih0 _ _ _ _
   | exact ih1 _ _ _ _ _
   | exact ih2 _ _ _ _ _
   | exact ih3 _ _ _ _ _ _ _ _ _
   | exact ih4 _ _ _ _ _
   | exact ih5 _ _ _ _ _ _ _ _ _
   | exact spec_l1Has.mono _ _ _
   | exact spec_l5ByKey.mono _ _ _
   | exact spec_l5Groups.mono _ _
   | exact spec_l5Keys.mono _ _ _
   | exact spec_l5Place.mono _ _ _
   | exact spec_l5Reached.mono _ _ _
   | exact LeO.none _
   | refine LeO.ite ?_ ?_
   | refine LeO.bind ?_ (fun _ => ?_)
  ·intro y0 y1 y2 y3 y4
   unfold spec_IsOrder.l1
   repeat' first
   | (with_reducible exact ih0 _ _ _ _)
   | (with_reducible exact ih1 _ _ _ _ _)
   | (with_reducible exact ih2 _ _ _ _ _)
   | (with_reducible exact ih3 _ _ _ _ _ _ _ _ _)
   | (with_reducible exact ih4 _ _ _ _ _)
   | (with_reducible exact ih5 _ _ _ _ _ _ _ _ _)
   | (with_reducible exact spec_l1Has.mono _ _ _)
   | (with_reducible exact spec_l5ByKey.mono _ _ _)
   | (with_reducible exact spec_l5Groups.mono _ _)
   | (with_reducible exact spec_l5Keys.mono _ _ _)
   | (with_reducible exact spec_l5Place.mono _ _ _)
   | (with_reducible exact spec_l5Reached.mono _ _ _)
   | (with_reducible exact LeO.refl _)
   | (with_reducible exact LeO.none _)
   | (with_reducible refine LeO.ite ?_ ?_)
   | (with_reducible refine LeO.bind ?_ (fun _ => ?_))
   | exact ih0 _ _ _ _
   | exact ih1 _ _ _ _ _
   | exact ih2 _ _ _ _ _
   | exact ih3 _ _ _ _ _ _ _ _ _
   | exact ih4 _ _ _ _ _
   | exact ih5 _ _ _ _ _ _ _ _ _
   | exact spec_l1Has.mono _ _ _
   | exact spec_l5ByKey.mono _ _ _
   | exact spec_l5Groups.mono _ _
   | exact spec_l5Keys.mono _ _ _
   | exact spec_l5Place.mono _ _ _
   | exact spec_l5Reached.mono _ _ _
   | exact LeO.none _
   | refine LeO.ite ?_ ?_
   | refine LeO.bind ?_ (fun _ => ?_)
  ·intro y0 y1 y2 y3 y4 y5 y6 y7 y8
   unfold spec_IsOrder.l2
   repeat' first
   | (with_reducible exact ih0 _ _ _ _)
   | (with_reducible exact ih1 _ _ _ _ _)
   | (with_reducible exact ih2 _ _ _ _ _)
   | (with_reducible exact ih3 _ _ _ _ _ _ _ _ _)
   | (with_reducible exact ih4 _ _ _ _ _)
   | (with_reducible exact ih5 _ _ _ _ _ _ _ _ _)
   | (with_reducible exact spec_l1Has.mono _ _ _)
   | (with_reducible exact spec_l5ByKey.mono _ _ _)
   | (with_reducible exact spec_l5Groups.mono _ _)
   | (with_reducible exact spec_l5Keys.mono _ _ _)
   | (with_reducible exact spec_l5Place.mono _ _ _)
   | (with_reducible exact spec_l5Reached.mono _ _ _)
   | (with_reducible exact LeO.refl _)
   | (with_reducible exact LeO.none _)
   | (with_reducible refine LeO.ite ?_ ?_)
   | (with_reducible refine LeO.bind ?_ (fun _ => ?_))
   | exact ih0 _ _ _ _
   | exact ih1 _ _ _ _ _
   | exact ih2 _ _ _ _ _
   | exact ih3 _ _ _ _ _ _ _ _ _
   | exact ih4 _ _ _ _ _
   | exact ih5 _ _ _ _ _ _ _ _ _
   | exact spec_l1Has.mono _ _ _
   | exact spec_l5ByKey.mono _ _ _
   | exact spec_l5Groups.mono _ _
   | exact spec_l5Keys.mono _ _ _
   | exact spec_l5Place.mono _ _ _
   | exact spec_l5Reached.mono _ _ _
   | exact LeO.none _
   | refine LeO.ite ?_ ?_
   | refine LeO.bind ?_ (fun _ => ?_)
  ·intro y0 y1 y2 y3 y4
   unfold spec_IsOrder.l3
   repeat' first
   | (with_reducible exact ih0 _ _ _ _)
   | (with_reducible exact ih1 _ _ _ _ _)
   | (with_reducible exact ih2 _ _ _ _ _)
   | (with_reducible exact ih3 _ _ _ _ _ _ _ _ _)
   | (with_reducible exact ih4 _ _ _ _ _)
   | (with_reducible exact ih5 _ _ _ _ _ _ _ _ _)
   | (with_reducible exact spec_l1Has.mono _ _ _)
   | (with_reducible exact spec_l5ByKey.mono _ _ _)
   | (with_reducible exact spec_l5Groups.mono _ _)
   | (with_reducible exact spec_l5Keys.mono _ _ _)
   | (with_reducible exact spec_l5Place.mono _ _ _)
   | (with_reducible exact spec_l5Reached.mono _ _ _)
   | (with_reducible exact LeO.refl _)
   | (with_reducible exact LeO.none _)
   | (with_reducible refine LeO.ite ?_ ?_)
   | (with_reducible refine LeO.bind ?_ (fun _ => ?_))
   | exact ih0 _ _ _ _
   | exact ih1 _ _ _ _ _
   | exact ih2 _ _ _ _ _
   | exact ih3 _ _ _ _ _ _ _ _ _
   | exact ih4 _ _ _ _ _
   | exact ih5 _ _ _ _ _ _ _ _ _
   | exact spec_l1Has.mono _ _ _
   | exact spec_l5ByKey.mono _ _ _
   | exact spec_l5Groups.mono _ _
   | exact spec_l5Keys.mono _ _ _
   | exact spec_l5Place.mono _ _ _
   | exact spec_l5Reached.mono _ _ _
   | exact LeO.none _
   | refine LeO.ite ?_ ?_
   | refine LeO.bind ?_ (fun _ => ?_)
  ·intro y0 y1 y2 y3 y4 y5 y6 y7 y8
   unfold spec_IsOrder.l4
   repeat' first
   | (with_reducible exact ih0 _ _ _ _)
   | (with_reducible exact ih1 _ _ _ _ _)
   | (with_reducible exact ih2 _ _ _ _ _)
   | (with_reducible exact ih3 _ _ _ _ _ _ _ _ _)
   | (with_reducible exact ih4 _ _ _ _ _)
   | (with_reducible exact ih5 _ _ _ _ _ _ _ _ _)
   | (with_reducible exact spec_l1Has.mono _ _ _)
   | (with_reducible exact spec_l5ByKey.mono _ _ _)
   | (with_reducible exact spec_l5Groups.mono _ _)
   | (with_reducible exact spec_l5Keys.mono _ _ _)
   | (with_reducible exact spec_l5Place.mono _ _ _)
   | (with_reducible exact spec_l5Reached.mono _ _ _)
   | (with_reducible exact LeO.refl _)
   | (with_reducible exact LeO.none _)
   | (with_reducible refine LeO.ite ?_ ?_)
   | (with_reducible refine LeO.bind ?_ (fun _ => ?_))
   | exact ih0 _ _ _ _
   | exact ih1 _ _ _ _ _
   | exact ih2 _ _ _ _ _
   | exact ih3 _ _ _ _ _ _ _ _ _
   | exact ih4 _ _ _ _ _
   | exact ih5 _ _ _ _ _ _ _ _ _
   | exact spec_l1Has.mono _ _ _
   | exact spec_l5ByKey.mono _ _ _
   | exact spec_l5Groups.mono _ _
   | exact spec_l5Keys.mono _ _ _
   | exact spec_l5Place.mono _ _ _
   | exact spec_l5Reached.mono _ _ _
   | exact LeO.none _
   | refine LeO.ite ?_ ?_
   | refine LeO.bind ?_ (fun _ => ?_)
theorem spec_IsOrder.mono : ∀ a0 a1 a2 k, LeO (spec_IsOrder.f k a0 a1 a2) (spec_IsOrder.f (k + 1) a0 a1 a2) := by
 intro a0 a1 a2 k
 obtain ⟨ih0, ih1, ih2, ih3, ih4, ih5⟩ := spec_IsOrder.mono_l k
 unfold spec_IsOrder.f
 repeat' first
   | (with_reducible exact ih0 _ _ _ _)
   | (with_reducible exact ih1 _ _ _ _ _)
   | (with_reducible exact ih2 _ _ _ _ _)
   | (with_reducible exact ih3 _ _ _ _ _ _ _ _ _)
   | (with_reducible exact ih4 _ _ _ _ _)
   | (with_reducible exact ih5 _ _ _ _ _ _ _ _ _)
   | (with_reducible exact spec_l1Has.mono _ _ _)
   | (with_reducible exact spec_l5ByKey.mono _ _ _)
   | (with_reducible exact spec_l5Groups.mono _ _)
   | (with_reducible exact spec_l5Keys.mono _ _ _)
   | (with_reducible exact spec_l5Place.mono _ _ _)
   | (with_reducible exact spec_l5Reached.mono _ _ _)
   | (with_reducible exact LeO.refl _)
   | (with_reducible exact LeO.none _)
   | (with_reducible refine LeO.ite ?_ ?_)
   | (with_reducible refine LeO.bind ?_ (fun _ => ?_))
   | exact ih0 _ _ _ _
   | exact ih1 _ _ _ _ _
   | exact ih2 _ _ _ _ _
   | exact ih3 _ _ _ _ _ _ _ _ _
   | exact ih4 _ _ _ _ _
   | exact ih5 _ _ _ _ _ _ _ _ _
   | exact spec_l1Has.mono _ _ _
   | exact spec_l5ByKey.mono _ _ _
   | exact spec_l5Groups.mono _ _
   | exact spec_l5Keys.mono _ _ _
   | exact spec_l5Place.mono _ _ _
   | exact spec_l5Reached.mono _ _ _
   | exact LeO.none _
   | refine LeO.ite ?_ ?_
   | refine LeO.bind ?_ (fun _ => ?_)
set_option maxHeartbeats 8000000 in
set_option maxRecDepth 100000 in
theorem spec_IsOrder.calls (k : Nat) (A0 : Option Addr) (c0 : Nat) (l0 : List (List Int)) (A1 : Option Addr) (c1 : Nat) (l1 : List Int) (A2 : Option Addr) (c2 : Nat) (l2 : List Int) (r1 : Bool) (r2 : Bool) (w : World) (hr0 : Kd.C (Kd.slice 3 (Kd.int .i64)) w A0 l0.length l0) (hc0 : l0.length ≤ c0) (hr1 : Kd.C (Kd.int .i64) w A1 l1.length l1) (hc1 : l1.length ≤ c1) (hr2 : Kd.C (Kd.int .i64) w A2 l2.length l2) (hc2 : l2.length ≤ c2) (h : spec_IsOrder.f k l0 l1 l2 = some (r1, r2)) :
  Calls Try.prog 9 #[.slice A0 l0.length c0, .slice A1 l1.length c1, .slice A2 l2.length c2] w fun e w' => e = .returned (.tuple #[.bool r1, .bool r2]) ∧ Below w.heap.size w w' := by
 have HR0 := Am hr0
 have HC0 := Am hc0
 clear hr0 hc0
 have HR1 := Am hr1
 have HC1 := Am hc1
 clear hr1 hc1
 have HR2 := Am hr2
 have HC2 := Am hc2
 clear hr2 hc2
 have HB := Am (Below.refl w.heap.size w)
 have H : ((spec_l5Keys.f k l0 l1).bind fun t215 => (if t215 = true then (spec_IsOrder.j0 k l0 l1 l2 ((l2.length : Int) != (l0.length : Int))) else (spec_IsOrder.j0 k l0 l1 l2 true))) = some (r1, r2) := h
 clear h
 have HC4 := Am H
 clear H
 go_enter Try.func9, Try.ntmps9
 go_upto_region 1 with (fail)
 go_cut [27] (fun v27 wc => ∃ (kq : Nat) (x27_3 : Bool), v27 = .bool x27_3 ∧ Ad (spec_IsOrder.j0 kq l0 l1 l2 x27_3 = some (r1, r2)) ∧ Ad (kq ≤ k) ∧ Ad (Below w.heap.size w wc))
 case first =>
  have H := HC4.out
  clear HC4
  replace H := Option.bind_eq_some_iff.mp H
  obtain ⟨t215, A50, H⟩ := H
  replace H : (if t215 = true then (spec_IsOrder.j0 k l0 l1 l2 ((l2.length : Int) != (l0.length : Int))) else (spec_IsOrder.j0 k l0 l1 l2 true)) = some (r1, r2) := H
  have A5 := Am A50
  clear A50
  by_cases c6 : t215 = true
  ·subst c6
   have H1 : (spec_IsOrder.j0 k l0 l1 l2 ((l2.length : Int) != (l0.length : Int))) = some (r1, r2) := by rw [if_pos rfl] at H; exact H
   clear H
   have H := H1
   clear H1
   have H' := Am H
   clear H
   go_wp2_with (first | ((refine Gc (f := 47) rfl ?_); refine goesL_ (some 19) rfl rfl Try.func47 (by kernel_rfl) rfl #[.slice A0 l0.length c0, .slice A1 l1.length c1] rfl (by first | rfl | (simp only [List.map_toArray, List.map_cons, List.map_nil]; first | done | rfl)) ?_; (with_reducible refine (spec_l5Keys.calls k _ _ l0 _ _ l1 true _ ?side1 ?side2 ?side3 ?side4 A5.out).mono ?_); (case side1 => repeat (first | exact (Kd.C_below HR0.out HB.out) | (with_reducible refine Kd.C_alloc ?_ _) | (with_reducible refine Kd.C_drewN ?_ _) | (with_reducible refine Kd.C_drew ?_))); (case side2 => exact HC0.out); (case side3 => repeat (first | exact (Kd.C_below HR1.out HB.out) | (with_reducible refine Kd.C_alloc ?_ _) | (with_reducible refine Kd.C_drewN ?_ _) | (with_reducible refine Kd.C_drew ?_))); (case side4 => exact HC1.out); rintro e w' ⟨rfl, ⟨nd, rfl⟩⟩; refine ⟨_, rfl, ?_⟩))
   go_meet
   case rel => exact ⟨_, (((l2.length : Int) != (l0.length : Int))), (by first | rfl | (simp; done) | (simp [*]; done)), H', ⟨by first | omega | exact Nat.le_refl _⟩, ⟨by repeat (first | exact HB.out | apply Ba | apply Bn | apply Bd)⟩⟩
  ·replace c6 := Bool.eq_false_iff.mpr c6
   subst c6
   have H1 : (spec_IsOrder.j0 k l0 l1 l2 true) = some (r1, r2) := by rw [if_neg (show ¬ (false = true) by decide)] at H; exact H
   clear H
   have H := H1
   clear H1
   have H' := Am H
   clear H
   go_wp2_with (first | ((refine Gc (f := 47) rfl ?_); refine goesL_ (some 19) rfl rfl Try.func47 (by kernel_rfl) rfl #[.slice A0 l0.length c0, .slice A1 l1.length c1] rfl (by first | rfl | (simp only [List.map_toArray, List.map_cons, List.map_nil]; first | done | rfl)) ?_; (with_reducible refine (spec_l5Keys.calls k _ _ l0 _ _ l1 false _ ?side1 ?side2 ?side3 ?side4 A5.out).mono ?_); (case side1 => repeat (first | exact (Kd.C_below HR0.out HB.out) | (with_reducible refine Kd.C_alloc ?_ _) | (with_reducible refine Kd.C_drewN ?_ _) | (with_reducible refine Kd.C_drew ?_))); (case side2 => exact HC0.out); (case side3 => repeat (first | exact (Kd.C_below HR1.out HB.out) | (with_reducible refine Kd.C_alloc ?_ _) | (with_reducible refine Kd.C_drewN ?_ _) | (with_reducible refine Kd.C_drew ?_))); (case side4 => exact HC1.out); rintro e w' ⟨rfl, ⟨nd, rfl⟩⟩; refine ⟨_, rfl, ?_⟩))
   go_meet
   case rel => exact ⟨_, (true), (by first | rfl | (simp; done) | (simp [*]; done)), H', ⟨by first | omega | exact Nat.le_refl _⟩, ⟨by repeat (first | exact HB.out | apply Ba | apply Bn | apply Bd)⟩⟩
 case rest =>
  clear HC4
  try clear c1
  try clear c2
  try clear p2
  try clear c4
  try clear c6
  obtain ⟨kq, x27_3, rfl, HA, HJ3, HB⟩ := hcut
  cases kq with
  | zero => exact absurd HA.out (by simp [spec_IsOrder.j0])
  | succ kj3 =>
   have H := HA.out
   clear HA
   simp only [spec_IsOrder.j0] at H
   by_cases c7 : x27_3 = true
   ·subst c7
    have H1 : (some (false, false)) = some (r1, r2) := by rw [if_pos rfl] at H; exact H
    clear H
    have H := H1
    clear H1
    simp only [Option.some.injEq, Prod.mk.injEq] at H
    obtain ⟨rfl, rfl⟩ := H
    go_wp2
    go_ret2
    exact ⟨by first | rfl | (simp [*, errW_none, errW_some] <;> rfl), by repeat (first | exact HB.out | apply Ba | apply Bn | apply Bd)⟩
   ·replace c7 := Bool.eq_false_iff.mpr c7
    subst c7
    have H1 : (spec_IsOrder.l0 kj3 l0 l1 l2 (l0.length : Int) 0) = some (r1, r2) := by rw [if_neg (show ¬ (false = true) by decide)] at H; exact H
    clear H
    have H := H1
    clear H1
    have H' := Am H
    clear H
    go_wp2
    go_loopg [30] kj3 (fun kq v30 w' => ∃ (x30_2 : Int), v30 = .int .i64 x30_2 ∧ Ad (spec_IsOrder.l0 kq l0 l1 l2 (l0.length : Int) x30_2 = some (r1, r2)) ∧ Ad (kq ≤ kj3) ∧ Ad (Below w.heap.size w w'))
    case atStart => exact ⟨(0), (by first | rfl | (simp; done) | (simp [*]; done)), H', ⟨Nat.le_refl _⟩, ⟨by repeat (first | exact HB.out | apply Ba | apply Bn | apply Bd)⟩⟩
    case round =>
     clear H'
     try clear c1
     try clear c2
     try clear p2
     try clear c4
     try clear c6
     try clear c7
     try clear p2
     obtain ⟨x30_2, rfl, HA, HK2, HB⟩ := hrel
     cases gk with
     | zero => exact absurd HA.out (by simp [spec_IsOrder.l0])
     | succ k2 =>
      have H := HA.out
      clear HA
      simp only [spec_IsOrder.l0] at H
      by_cases c8 : x30_2 < (l0.length : Int)
      ·rw [if_pos c8] at H
       have c8b0 : decide (x30_2 < (l0.length : Int)) = true := decide_eq_true c8
       clear c8
       replace H := Option.bind_eq_some_iff.mp H
       obtain ⟨t216, A90, H⟩ := H
       replace H : (if t216 < 0 then (some (false, false)) else (spec_IsOrder.l0 k2 l0 l1 l2 (l0.length : Int) (wrap64 (x30_2 + 1)))) = some (r1, r2) := H
       have A9 := Am A90
       clear A90
       by_cases c10 : t216 < 0
       ·rw [if_pos c10] at H
        have c10b0 : decide (t216 < 0) = true := decide_eq_true c10
        clear c10
        simp only [Option.some.injEq, Prod.mk.injEq] at H
        obtain ⟨rfl, rfl⟩ := H
        go_wp2_with (first | ((refine Gc (f := 48) rfl ?_); refine goesL_ (some 35) rfl rfl Try.func48 (by kernel_rfl) rfl #[.slice A2 l2.length c2, .int .i64 x30_2] rfl (by first | rfl | (simp only [List.map_toArray, List.map_cons, List.map_nil]; first | done | rfl)) ?_; (with_reducible refine (spec_l5Place.calls k2 _ _ l2 x30_2 t216 _ ?side1 ?side2 A9.out).mono ?_); (case side1 => repeat (first | exact (Kd.C_below HR2.out HB.out) | (with_reducible refine Kd.C_alloc ?_ _) | (with_reducible refine Kd.C_drewN ?_ _) | (with_reducible refine Kd.C_drew ?_))); (case side2 => exact HC2.out); rintro e w' ⟨rfl, ⟨nd, rfl⟩⟩; refine ⟨_, rfl, ?_⟩))
        go_ret2
        exact ⟨by first | rfl | (simp [*, errW_none, errW_some] <;> rfl), by repeat (first | exact HB.out | apply Ba | apply Bn | apply Bd)⟩
       ·rw [if_neg c10] at H
        have c10b0 : decide (t216 < 0) = false := decide_eq_false c10
        clear c10
        have H' := Am H
        clear H
        go_wp2_with (first | ((refine Gc (f := 48) rfl ?_); refine goesL_ (some 35) rfl rfl Try.func48 (by kernel_rfl) rfl #[.slice A2 l2.length c2, .int .i64 x30_2] rfl (by first | rfl | (simp only [List.map_toArray, List.map_cons, List.map_nil]; first | done | rfl)) ?_; (with_reducible refine (spec_l5Place.calls k2 _ _ l2 x30_2 t216 _ ?side1 ?side2 A9.out).mono ?_); (case side1 => repeat (first | exact (Kd.C_below HR2.out HB.out) | (with_reducible refine Kd.C_alloc ?_ _) | (with_reducible refine Kd.C_drewN ?_ _) | (with_reducible refine Kd.C_drew ?_))); (case side2 => exact HC2.out); rintro e w' ⟨rfl, ⟨nd, rfl⟩⟩; refine ⟨_, rfl, ?_⟩))
        go_roundg k2
        case measure => have := HJ3.out; have := HK2.out; omega
        case rel => exact ⟨(wrap64 (x30_2 + 1)), (by first | rfl | (simp; done) | (simp [*]; done)), H', ⟨by have := HJ3.out; have := HK2.out; omega⟩, ⟨by repeat (first | exact HB.out | apply Ba | apply Bn | apply Bd)⟩⟩
      ·rw [if_neg c8] at H
       have c8b0 : decide (x30_2 < (l0.length : Int)) = false := decide_eq_false c8
       clear c8
       have H' := Am H
       clear H
       go_wp2
       go_loopg [40] k2 (fun kq v40 w' => ∃ (x40_3 : Int), v40 = .int .i64 x40_3 ∧ Ad (spec_IsOrder.l1 kq l0 l1 l2 (l0.length : Int) x40_3 = some (r1, r2)) ∧ Ad (kq ≤ k2) ∧ Ad (Below w.heap.size w w'))
       case atStart => exact ⟨(0), (by first | rfl | (simp; done) | (simp [*]; done)), H', ⟨Nat.le_refl _⟩, ⟨by repeat (first | exact HB.out | apply Ba | apply Bn | apply Bd)⟩⟩
       case round =>
        clear H'
        try clear c1
        try clear c2
        try clear p2
        try clear c4
        try clear c6
        try clear p6
        try clear c7
        try clear c8
        try clear c8b0
        try clear c9
        try clear c10
        try clear c10b0
        try clear p2
        obtain ⟨x40_3, rfl, HA, HK3, HB⟩ := hrel
        cases gk with
        | zero => exact absurd HA.out (by simp [spec_IsOrder.l1])
        | succ k3 =>
         have H := HA.out
         clear HA
         simp only [spec_IsOrder.l1] at H
         by_cases c11 : x40_3 < (l0.length : Int)
         ·rw [if_pos c11] at H
          have c11b0 : decide (x40_3 < (l0.length : Int)) = true := decide_eq_true c11
          clear c11
          by_cases c12 : 0 ≤ x40_3
          ·rw [if_pos c12] at H
           have c12b0 : decide (0 ≤ x40_3) = true := decide_eq_true c12
           clear c12
           by_cases c13 : x40_3 < (l0.length : Int)
           ·rw [if_pos c13] at H
            have c13b0 : decide (x40_3 < (l0.length : Int)) = true := decide_eq_true c13
            clear c13
            have H' := Am H
            clear H
            have p217 : 0 ≤ (x40_3 : Int) := of_decide_eq_true (by assumption)
            have q217 : x40_3 < (l0.length : Int) := of_decide_eq_true (by assumption)
            obtain ⟨ad217, A217_0, c217_0, e217, hx217_0, hl217_0, hi217_0⟩ := at_L1 HR0.out x40_3 p217 q217
            cases e217
            replace hx217_0 := (HB.out.cell (bl_ w _ hx217_0)).trans hx217_0
            have HR217_0 := Am hi217_0
            have HC217_0 := Am hl217_0
            clear hi217_0 hl217_0
            replace p217 := eq_true p217
            replace q217 := eq_true q217
            go_wp2
            go_loopg [48] k3 (fun kq v48 w' => ∃ (x48_4 : Int), v48 = .int .i64 x48_4 ∧ Ad (spec_IsOrder.l2 kq l0 l1 l2 x40_3 (l0.length : Int) x40_3 (rd_L1 l0 x40_3) ((rd_L1 l0 x40_3).length : Int) x48_4 = some (r1, r2)) ∧ Ad (kq ≤ k3) ∧ Ad (Below w.heap.size w w'))
            case atStart => exact ⟨(0), (by first | rfl | (simp; done) | (simp [*]; done)), H', ⟨Nat.le_refl _⟩, ⟨by repeat (first | exact HB.out | apply Ba | apply Bn | apply Bd)⟩⟩
            case round =>
             clear H'
             try clear c1
             try clear c2
             try clear p2
             try clear q2
             try clear hx2
             try clear c4
             try clear c6
             try clear p6
             try clear c7
             try clear c8
             try clear c8b0
             try clear c9
             try clear c10
             try clear c10b0
             try clear c11
             try clear c11b0
             try clear c12
             try clear c12b0
             try clear c13
             try clear c13b0
             try clear hx217_0
             try clear p2
             try clear p217
             try clear p6
             try clear q217
             obtain ⟨x48_4, rfl, HA, HK4, HB⟩ := hrel
             cases gk with
             | zero => exact absurd HA.out (by simp [spec_IsOrder.l2])
             | succ k4 =>
              have H := HA.out
              clear HA
              simp only [spec_IsOrder.l2] at H
              by_cases c14 : x48_4 < ((rd_L1 l0 x40_3).length : Int)
              ·rw [if_pos c14] at H
               have c14b0 : decide (x48_4 < ((rd_L1 l0 x40_3).length : Int)) = true := decide_eq_true c14
               clear c14
               by_cases c15 : 0 ≤ x48_4
               ·rw [if_pos c15] at H
                have c15b0 : decide (0 ≤ x48_4) = true := decide_eq_true c15
                clear c15
                by_cases c16 : x48_4 < ((rd_L1 l0 x40_3).length : Int)
                ·rw [if_pos c16] at H
                 have c16b0 : decide (x48_4 < ((rd_L1 l0 x40_3).length : Int)) = true := decide_eq_true c16
                 clear c16
                 replace H := Option.bind_eq_some_iff.mp H
                 obtain ⟨t219, A170, H⟩ := H
                 replace H : ((spec_l1Has.f k4 t219 x40_3).bind fun t222 => (if t222 = true then (spec_IsOrder.l2 k4 l0 l1 l2 x40_3 (l0.length : Int) x40_3 (rd_L1 l0 x40_3) ((rd_L1 l0 x40_3).length : Int) (wrap64 (x48_4 + 1))) else ((spec_l5Place.f k4 l2 (rd (rd_L1 l0 x40_3) x48_4)).bind fun t223 => ((spec_l5Place.f k4 l2 x40_3).bind fun t224 => (if t223 > t224 then (some (false, true)) else (spec_IsOrder.l2 k4 l0 l1 l2 x40_3 (l0.length : Int) x40_3 (rd_L1 l0 x40_3) ((rd_L1 l0 x40_3).length : Int) (wrap64 (x48_4 + 1)))))))) = some (r1, r2) := H
                 have A17 := Am A170
                 clear A170
                 replace H := Option.bind_eq_some_iff.mp H
                 obtain ⟨t222, A180, H⟩ := H
                 replace H : (if t222 = true then (spec_IsOrder.l2 k4 l0 l1 l2 x40_3 (l0.length : Int) x40_3 (rd_L1 l0 x40_3) ((rd_L1 l0 x40_3).length : Int) (wrap64 (x48_4 + 1))) else ((spec_l5Place.f k4 l2 (rd (rd_L1 l0 x40_3) x48_4)).bind fun t223 => ((spec_l5Place.f k4 l2 x40_3).bind fun t224 => (if t223 > t224 then (some (false, true)) else (spec_IsOrder.l2 k4 l0 l1 l2 x40_3 (l0.length : Int) x40_3 (rd_L1 l0 x40_3) ((rd_L1 l0 x40_3).length : Int) (wrap64 (x48_4 + 1))))))) = some (r1, r2) := H
                 have A18 := Am A180
                 clear A180
                 by_cases c19 : t222 = true
                 ·subst c19
                  have H1 : (spec_IsOrder.l2 k4 l0 l1 l2 x40_3 (l0.length : Int) x40_3 (rd_L1 l0 x40_3) ((rd_L1 l0 x40_3).length : Int) (wrap64 (x48_4 + 1))) = some (r1, r2) := by rw [if_pos rfl] at H; exact H
                  clear H
                  have H := H1
                  clear H1
                  have H' := Am H
                  clear H
                  have p218 : 0 ≤ (x48_4 : Int) := of_decide_eq_true (by assumption)
                  have q218 : x48_4 < ((rd_L1 l0 x40_3).length : Int) := of_decide_eq_true (by assumption)
                  obtain ⟨ad218, e218, hx218_0⟩ := Kd.at_int HR217_0.out x48_4 p218 q218
                  cases e218
                  replace hx218_0 := (HB.out.cell (bl_ w _ hx218_0)).trans hx218_0
                  replace p218 := eq_true p218
                  replace q218 := eq_true q218
                  go_wp2_with (first | ((refine Gc (f := 50) rfl ?_); refine goesL_ (some 54) rfl rfl Try.func50 (by kernel_rfl) rfl #[.slice (some ad217) l0.length c0, .int .i64 (rd (rd_L1 l0 x40_3) x48_4)] rfl (by first | rfl | (simp only [List.map_toArray, List.map_cons, List.map_nil]; first | done | rfl)) ?_; (with_reducible refine (spec_l5Reached.calls k4 _ _ l0 (rd (rd_L1 l0 x40_3) x48_4) t219 _ ?side1 ?side2 A17.out).mono ?_); (case side1 => repeat (first | exact (Kd.C_below HR0.out HB.out) | (with_reducible refine Kd.C_alloc ?_ _) | (with_reducible refine Kd.C_drewN ?_ _) | (with_reducible refine Kd.C_drew ?_))); (case side2 => exact HC0.out); rintro e w20 ⟨v220, rfl, ho0, hb⟩; refine ⟨_, rfl, ?_⟩; have n0_ := Am (Kd.R_lower ho0 (Bz (by repeat (first | exact HB.out | apply Ba | apply Bn | apply Bd)))); have n1_ := Am (Bt (by repeat (first | exact HB.out | apply Ba | apply Bn | apply Bd)) hb); clear HB; have HO221 := n0_; have HB := n1_; clear n0_ n1_; (try clear hb); (try clear hb2); (try clear hk); (try clear hi); (try clear ho0); obtain ⟨Ao21, co21, eo21⟩ := Kd.R_slice HO221.out; subst eo21) | ((refine Gc (f := 49) rfl ?_); refine goesL_ (some 56) rfl rfl Try.func49 (by kernel_rfl) rfl #[.slice Ao21 t219.length co21, .int .i64 x40_3] rfl (by first | rfl | (simp only [List.map_toArray, List.map_cons, List.map_nil]; first | done | rfl)) ?_; (with_reducible refine (spec_l1Has.calls k4 _ _ t219 x40_3 true _ ?side1 ?side2 A18.out).mono ?_); (case side1 => repeat (first | exact (Kd.R_reads' HO221.out).2.2 | (with_reducible refine Kd.C_alloc ?_ _) | (with_reducible refine Kd.C_drewN ?_ _) | (with_reducible refine Kd.C_drew ?_))); (case side2 => exact (Kd.R_reads' HO221.out).2.1); rintro e w' ⟨rfl, ⟨nd, rfl⟩⟩; refine ⟨_, rfl, ?_⟩))
                  go_roundg k4
                  case measure => have := HJ3.out; have := HK2.out; have := HK3.out; have := HK4.out; omega
                  case rel => exact ⟨(wrap64 (x48_4 + 1)), (by first | rfl | (simp; done) | (simp [*]; done)), H', ⟨by have := HJ3.out; have := HK2.out; have := HK3.out; have := HK4.out; omega⟩, ⟨by repeat (first | exact HB.out | apply Ba | apply Bn | apply Bd)⟩⟩
                 ·replace c19 := Bool.eq_false_iff.mpr c19
                  subst c19
                  have H1 : ((spec_l5Place.f k4 l2 (rd (rd_L1 l0 x40_3) x48_4)).bind fun t223 => ((spec_l5Place.f k4 l2 x40_3).bind fun t224 => (if t223 > t224 then (some (false, true)) else (spec_IsOrder.l2 k4 l0 l1 l2 x40_3 (l0.length : Int) x40_3 (rd_L1 l0 x40_3) ((rd_L1 l0 x40_3).length : Int) (wrap64 (x48_4 + 1)))))) = some (r1, r2) := by rw [if_neg (show ¬ (false = true) by decide)] at H; exact H
                  clear H
                  have H := H1
                  clear H1
                  replace H := Option.bind_eq_some_iff.mp H
                  obtain ⟨t223, A220, H⟩ := H
                  replace H : ((spec_l5Place.f k4 l2 x40_3).bind fun t224 => (if t223 > t224 then (some (false, true)) else (spec_IsOrder.l2 k4 l0 l1 l2 x40_3 (l0.length : Int) x40_3 (rd_L1 l0 x40_3) ((rd_L1 l0 x40_3).length : Int) (wrap64 (x48_4 + 1))))) = some (r1, r2) := H
                  have A22 := Am A220
                  clear A220
                  replace H := Option.bind_eq_some_iff.mp H
                  obtain ⟨t224, A230, H⟩ := H
                  replace H : (if t223 > t224 then (some (false, true)) else (spec_IsOrder.l2 k4 l0 l1 l2 x40_3 (l0.length : Int) x40_3 (rd_L1 l0 x40_3) ((rd_L1 l0 x40_3).length : Int) (wrap64 (x48_4 + 1)))) = some (r1, r2) := H
                  have A23 := Am A230
                  clear A230
                  by_cases c24 : t223 > t224
                  ·rw [if_pos c24] at H
                   have c24b0 : decide (t224 < t223) = true := decide_eq_true c24
                   clear c24
                   simp only [Option.some.injEq, Prod.mk.injEq] at H
                   obtain ⟨rfl, rfl⟩ := H
                   have p218 : 0 ≤ (x48_4 : Int) := of_decide_eq_true (by assumption)
                   have q218 : x48_4 < ((rd_L1 l0 x40_3).length : Int) := of_decide_eq_true (by assumption)
                   obtain ⟨ad218, e218, hx218_0⟩ := Kd.at_int HR217_0.out x48_4 p218 q218
                   cases e218
                   replace hx218_0 := (HB.out.cell (bl_ w _ hx218_0)).trans hx218_0
                   replace p218 := eq_true p218
                   replace q218 := eq_true q218
                   go_wp2_with (first | ((refine Gc (f := 50) rfl ?_); refine goesL_ (some 54) rfl rfl Try.func50 (by kernel_rfl) rfl #[.slice (some ad217) l0.length c0, .int .i64 (rd (rd_L1 l0 x40_3) x48_4)] rfl (by first | rfl | (simp only [List.map_toArray, List.map_cons, List.map_nil]; first | done | rfl)) ?_; (with_reducible refine (spec_l5Reached.calls k4 _ _ l0 (rd (rd_L1 l0 x40_3) x48_4) t219 _ ?side1 ?side2 A17.out).mono ?_); (case side1 => repeat (first | exact (Kd.C_below HR0.out HB.out) | (with_reducible refine Kd.C_alloc ?_ _) | (with_reducible refine Kd.C_drewN ?_ _) | (with_reducible refine Kd.C_drew ?_))); (case side2 => exact HC0.out); rintro e w25 ⟨v220, rfl, ho0, hb⟩; refine ⟨_, rfl, ?_⟩; have n0_ := Am (Kd.R_lower ho0 (Bz (by repeat (first | exact HB.out | apply Ba | apply Bn | apply Bd)))); have n1_ := Am (Bt (by repeat (first | exact HB.out | apply Ba | apply Bn | apply Bd)) hb); clear HB; have HO221 := n0_; have HB := n1_; clear n0_ n1_; (try clear hb); (try clear hb2); (try clear hk); (try clear hi); (try clear ho0); obtain ⟨Ao26, co26, eo26⟩ := Kd.R_slice HO221.out; subst eo26) | ((refine Gc (f := 49) rfl ?_); refine goesL_ (some 56) rfl rfl Try.func49 (by kernel_rfl) rfl #[.slice Ao26 t219.length co26, .int .i64 x40_3] rfl (by first | rfl | (simp only [List.map_toArray, List.map_cons, List.map_nil]; first | done | rfl)) ?_; (with_reducible refine (spec_l1Has.calls k4 _ _ t219 x40_3 false _ ?side1 ?side2 A18.out).mono ?_); (case side1 => repeat (first | exact (Kd.R_reads' HO221.out).2.2 | (with_reducible refine Kd.C_alloc ?_ _) | (with_reducible refine Kd.C_drewN ?_ _) | (with_reducible refine Kd.C_drew ?_))); (case side2 => exact (Kd.R_reads' HO221.out).2.1); rintro e w' ⟨rfl, ⟨nd, rfl⟩⟩; refine ⟨_, rfl, ?_⟩) | (go_at_call 48; (with_reducible refine (spec_l5Place.calls k4 _ _ l2 (rd (rd_L1 l0 x40_3) x48_4) t223 _ ?side1 ?side2 A22.out).mono ?_); (case side1 => repeat (first | exact (Kd.C_below HR2.out (by repeat (first | exact HB.out | apply Ba | apply Bn | apply Bd))) | (with_reducible refine Kd.C_alloc ?_ _) | (with_reducible refine Kd.C_drewN ?_ _) | (with_reducible refine Kd.C_drew ?_))); (case side2 => exact HC2.out); rintro e w' ⟨rfl, ⟨nd, rfl⟩⟩) | (go_at_call 48; (with_reducible refine (spec_l5Place.calls k4 _ _ l2 x40_3 t224 _ ?side1 ?side2 A23.out).mono ?_); (case side1 => repeat (first | exact (Kd.C_below HR2.out (by repeat (first | exact HB.out | apply Ba | apply Bn | apply Bd))) | (with_reducible refine Kd.C_alloc ?_ _) | (with_reducible refine Kd.C_drewN ?_ _) | (with_reducible refine Kd.C_drew ?_))); (case side2 => exact HC2.out); rintro e w' ⟨rfl, ⟨nd, rfl⟩⟩))
                   go_ret2
                   exact ⟨by first | rfl | (simp [*, errW_none, errW_some] <;> rfl), by repeat (first | exact HB.out | apply Ba | apply Bn | apply Bd)⟩
                  ·rw [if_neg c24] at H
                   have c24b0 : decide (t224 < t223) = false := decide_eq_false c24
                   clear c24
                   have H' := Am H
                   clear H
                   have p218 : 0 ≤ (x48_4 : Int) := of_decide_eq_true (by assumption)
                   have q218 : x48_4 < ((rd_L1 l0 x40_3).length : Int) := of_decide_eq_true (by assumption)
                   obtain ⟨ad218, e218, hx218_0⟩ := Kd.at_int HR217_0.out x48_4 p218 q218
                   cases e218
                   replace hx218_0 := (HB.out.cell (bl_ w _ hx218_0)).trans hx218_0
                   replace p218 := eq_true p218
                   replace q218 := eq_true q218
                   go_wp2_with (first | ((refine Gc (f := 50) rfl ?_); refine goesL_ (some 54) rfl rfl Try.func50 (by kernel_rfl) rfl #[.slice (some ad217) l0.length c0, .int .i64 (rd (rd_L1 l0 x40_3) x48_4)] rfl (by first | rfl | (simp only [List.map_toArray, List.map_cons, List.map_nil]; first | done | rfl)) ?_; (with_reducible refine (spec_l5Reached.calls k4 _ _ l0 (rd (rd_L1 l0 x40_3) x48_4) t219 _ ?side1 ?side2 A17.out).mono ?_); (case side1 => repeat (first | exact (Kd.C_below HR0.out HB.out) | (with_reducible refine Kd.C_alloc ?_ _) | (with_reducible refine Kd.C_drewN ?_ _) | (with_reducible refine Kd.C_drew ?_))); (case side2 => exact HC0.out); rintro e w27 ⟨v220, rfl, ho0, hb⟩; refine ⟨_, rfl, ?_⟩; have n0_ := Am (Kd.R_lower ho0 (Bz (by repeat (first | exact HB.out | apply Ba | apply Bn | apply Bd)))); have n1_ := Am (Bt (by repeat (first | exact HB.out | apply Ba | apply Bn | apply Bd)) hb); clear HB; have HO221 := n0_; have HB := n1_; clear n0_ n1_; (try clear hb); (try clear hb2); (try clear hk); (try clear hi); (try clear ho0); obtain ⟨Ao28, co28, eo28⟩ := Kd.R_slice HO221.out; subst eo28) | ((refine Gc (f := 49) rfl ?_); refine goesL_ (some 56) rfl rfl Try.func49 (by kernel_rfl) rfl #[.slice Ao28 t219.length co28, .int .i64 x40_3] rfl (by first | rfl | (simp only [List.map_toArray, List.map_cons, List.map_nil]; first | done | rfl)) ?_; (with_reducible refine (spec_l1Has.calls k4 _ _ t219 x40_3 false _ ?side1 ?side2 A18.out).mono ?_); (case side1 => repeat (first | exact (Kd.R_reads' HO221.out).2.2 | (with_reducible refine Kd.C_alloc ?_ _) | (with_reducible refine Kd.C_drewN ?_ _) | (with_reducible refine Kd.C_drew ?_))); (case side2 => exact (Kd.R_reads' HO221.out).2.1); rintro e w' ⟨rfl, ⟨nd, rfl⟩⟩; refine ⟨_, rfl, ?_⟩) | (go_at_call 48; (with_reducible refine (spec_l5Place.calls k4 _ _ l2 (rd (rd_L1 l0 x40_3) x48_4) t223 _ ?side1 ?side2 A22.out).mono ?_); (case side1 => repeat (first | exact (Kd.C_below HR2.out (by repeat (first | exact HB.out | apply Ba | apply Bn | apply Bd))) | (with_reducible refine Kd.C_alloc ?_ _) | (with_reducible refine Kd.C_drewN ?_ _) | (with_reducible refine Kd.C_drew ?_))); (case side2 => exact HC2.out); rintro e w' ⟨rfl, ⟨nd, rfl⟩⟩) | (go_at_call 48; (with_reducible refine (spec_l5Place.calls k4 _ _ l2 x40_3 t224 _ ?side1 ?side2 A23.out).mono ?_); (case side1 => repeat (first | exact (Kd.C_below HR2.out (by repeat (first | exact HB.out | apply Ba | apply Bn | apply Bd))) | (with_reducible refine Kd.C_alloc ?_ _) | (with_reducible refine Kd.C_drewN ?_ _) | (with_reducible refine Kd.C_drew ?_))); (case side2 => exact HC2.out); rintro e w' ⟨rfl, ⟨nd, rfl⟩⟩))
                   go_roundg k4
                   case measure => have := HJ3.out; have := HK2.out; have := HK3.out; have := HK4.out; omega
                   case rel => exact ⟨(wrap64 (x48_4 + 1)), (by first | rfl | (simp; done) | (simp [*]; done)), H', ⟨by have := HJ3.out; have := HK2.out; have := HK3.out; have := HK4.out; omega⟩, ⟨by repeat (first | exact HB.out | apply Ba | apply Bn | apply Bd)⟩⟩
                ·rw [if_neg c16] at H
                 exact absurd H (by simp)
               ·rw [if_neg c15] at H
                exact absurd H (by simp)
              ·rw [if_neg c14] at H
               have c14b0 : decide (x48_4 < ((rd_L1 l0 x40_3).length : Int)) = false := decide_eq_false c14
               clear c14
               have H' := Am H
               clear H
               go_wp2
               go_roundg k4
               case measure => have := HJ3.out; have := HK2.out; have := HK3.out; have := HK4.out; omega
               case rel => exact ⟨(wrap64 (x40_3 + 1)), (by first | rfl | (simp; done) | (simp [*]; done)), H', ⟨by have := HJ3.out; have := HK2.out; have := HK3.out; have := HK4.out; omega⟩, ⟨by repeat (first | exact HB.out | apply Ba | apply Bn | apply Bd)⟩⟩
           ·rw [if_neg c13] at H
            exact absurd H (by simp)
          ·rw [if_neg c12] at H
           exact absurd H (by simp)
         ·rw [if_neg c11] at H
          have c11b0 : decide (x40_3 < (l0.length : Int)) = false := decide_eq_false c11
          clear c11
          replace H := Option.bind_eq_some_iff.mp H
          obtain ⟨t225, A290, H⟩ := H
          replace H : (spec_IsOrder.l3 k3 l1 l2 t225 (t225.length : Int) 0) = some (r1, r2) := H
          have A29 := Am A290
          clear A290
          have H' := Am H
          clear H
          go_wp2_with (first | ((refine Gc (f := 51) rfl ?_); refine goesL_ (some 70) rfl rfl Try.func51 (by kernel_rfl) rfl #[.slice A0 l0.length c0] rfl (by first | rfl | (simp only [List.map_toArray, List.map_cons, List.map_nil]; first | done | rfl)) ?_; (with_reducible refine (spec_l5Groups.calls k3 _ _ l0 t225 _ ?side1 ?side2 A29.out).mono ?_); (case side1 => repeat (first | exact (Kd.C_below HR0.out HB.out) | (with_reducible refine Kd.C_alloc ?_ _) | (with_reducible refine Kd.C_drewN ?_ _) | (with_reducible refine Kd.C_drew ?_))); (case side2 => exact HC0.out); rintro e w30 ⟨v226, rfl, ho0, hb⟩; refine ⟨_, rfl, ?_⟩; have n0_ := Am (Kd.S_lower ho0 (Bz (by repeat (first | exact HB.out | apply Ba | apply Bn | apply Bd)))); have n1_ := Am (Bt (by repeat (first | exact HB.out | apply Ba | apply Bn | apply Bd)) hb); clear HB; have HO227 := n0_; have HB := n1_; clear n0_ n1_; (try clear hb); (try clear hb2); (try clear hk); (try clear hi); (try clear ho0); obtain ⟨Ao31, co31, eo31⟩ := Kd.S_slice HO227.out; subst eo31))
          go_loopg [72] k3 (fun kq v72 w' => ∃ (x72_4 : Int), v72 = .int .i64 x72_4 ∧ Ad (spec_IsOrder.l3 kq l1 l2 t225 (t225.length : Int) x72_4 = some (r1, r2)) ∧ Ad (kq ≤ k3) ∧ Ad (Kd.S (Kd.slice 3 (Kd.int .i64)) 23 w' w.heap.size (fun _ => True) (.slice Ao31 t225.length co31) t225) ∧ Ad (Below w.heap.size w w'))
          case atStart => exact ⟨(0), (by first | rfl | (simp; done) | (simp [*]; done)), H', ⟨Nat.le_refl _⟩, ⟨by (with_reducible repeat (first | apply Sa | apply Sn | apply Sd)); exact HO227.out⟩, ⟨by repeat (first | exact HB.out | apply Ba | apply Bn | apply Bd)⟩⟩
          case round =>
           clear H'
           try clear c1
           try clear c2
           try clear p2
           try clear q2
           try clear hx2
           try clear c4
           try clear c5
           try clear c6
           try clear p6
           try clear c7
           try clear c8
           try clear c8b0
           try clear c9
           try clear c10
           try clear c10b0
           try clear c11
           try clear c11b0
           try clear c12
           try clear c12b0
           try clear c13
           try clear c13b0
           try clear c14
           try clear c14b0
           try clear c15
           try clear c15b0
           try clear c16
           try clear c16b0
           try clear c19
           try clear c21
           try clear p21
           try clear q21
           try clear hx21
           try clear c24
           try clear c24b0
           try clear hx217_0
           try clear hx218_0
           try clear p2
           try clear p217
           try clear p218
           try clear p6
           try clear q2
           try clear q217
           try clear q218
           obtain ⟨x72_4, rfl, HA, HK4, HO_70, HB⟩ := hrel
           cases gk with
           | zero => exact absurd HA.out (by simp [spec_IsOrder.l3])
           | succ k4 =>
            have H := HA.out
            clear HA
            simp only [spec_IsOrder.l3] at H
            by_cases c32 : x72_4 < (t225.length : Int)
            ·rw [if_pos c32] at H
             have c32b0 : decide (x72_4 < (t225.length : Int)) = true := decide_eq_true c32
             clear c32
             by_cases c33 : 0 ≤ x72_4
             ·rw [if_pos c33] at H
              have c33b0 : decide (0 ≤ x72_4) = true := decide_eq_true c33
              clear c33
              by_cases c34 : x72_4 < (t225.length : Int)
              ·rw [if_pos c34] at H
               have c34b0 : decide (x72_4 < (t225.length : Int)) = true := decide_eq_true c34
               clear c34
               replace H := Option.bind_eq_some_iff.mp H
               obtain ⟨t229, A350, H⟩ := H
               replace H : (if 0 < (t229.length : Int) then ((spec_l5Place.f k4 l2 (rd t229 0)).bind fun t233 => ((spec_l5ByKey.f k4 (rd_L1 t225 x72_4) l1).bind fun t234 => (spec_IsOrder.l4 k4 l1 l2 t233 t225 (t225.length : Int) x72_4 t234 (t234.length : Int) 0))) else (none)) = some (r1, r2) := H
               have A35 := Am A350
               clear A350
               by_cases c36 : 0 < (t229.length : Int)
               ·rw [if_pos c36] at H
                have c36b0 : decide (0 < (t229.length : Int)) = true := decide_eq_true c36
                have c36b1 : decide (0 < t229.length) = true := decide_eq_true (by omega)
                clear c36
                replace H := Option.bind_eq_some_iff.mp H
                obtain ⟨t233, A370, H⟩ := H
                replace H : ((spec_l5ByKey.f k4 (rd_L1 t225 x72_4) l1).bind fun t234 => (spec_IsOrder.l4 k4 l1 l2 t233 t225 (t225.length : Int) x72_4 t234 (t234.length : Int) 0)) = some (r1, r2) := H
                have A37 := Am A370
                clear A370
                replace H := Option.bind_eq_some_iff.mp H
                obtain ⟨t234, A380, H⟩ := H
                replace H : (spec_IsOrder.l4 k4 l1 l2 t233 t225 (t225.length : Int) x72_4 t234 (t234.length : Int) 0) = some (r1, r2) := H
                have A38 := Am A380
                clear A380
                have H' := Am H
                clear H
                have p228 : 0 ≤ (x72_4 : Int) := of_decide_eq_true (by assumption)
                have q228 : x72_4 < (t225.length : Int) := of_decide_eq_true (by assumption)
                obtain ⟨ad228, A228_0, c228_0, e228, hx228_0, hl228_0, hi228_0⟩ := at_L1 (Kd.S_reads' HO_70.out).2.2 x72_4 p228 q228
                cases e228
                obtain ⟨ce228, hce228, hMe228, hcc228⟩ := Kd.S_get HO_70.out [] x72_4 p228 (by first | exact q228 | exact of_decide_eq_true (by assumption) | (have e_ := (Kd.S_reads' HO_70.out).1; omega))
                obtain ⟨ve228_0, rfl, ge228_0⟩ := hMe228
                have hv228_0 := hcc228 0 _ rfl
                rw [Nat.add_zero, show ((Kd.slice 3 (Kd.int .i64))).sz = 1 from rfl, Nat.mul_one] at hv228_0
                replace hv228_0 := Option.some.inj (hv228_0.symm.trans hx228_0)
                rw [hv228_0] at ge228_0
                have HL228_0 := Am (show Kd.R (Kd.int .i64) 3 _ _ _ _ (rd_L1 t225 x72_4) from ge228_0)
                clear hv228_0 ge228_0
                clear hcc228 hce228
                have HR228_0 := Am hi228_0
                have HC228_0 := Am hl228_0
                clear hi228_0 hl228_0
                replace p228 := eq_true p228
                replace q228 := eq_true q228
                go_wp2_with (first | ((refine Gc (f := 52) rfl ?_); refine goesL_ (some 79) rfl rfl Try.func52 (by kernel_rfl) rfl #[.slice A228_0 (rd_L1 t225 x72_4).length c228_0, .slice A1 l1.length c1] rfl (by first | rfl | (simp only [List.map_toArray, List.map_cons, List.map_nil]; first | done | rfl)) ?_; (with_reducible refine (spec_l5ByKey.calls k4 _ _ (rd_L1 t225 x72_4) _ _ l1 t229 _ ?side1 ?side2 ?side3 ?side4 A35.out).mono ?_); (case side1 => repeat (first | exact (by repeat (first | (with_reducible exact HR228_0.out) | (with_reducible refine Kd.C_alloc ?_ _) | (with_reducible refine Kd.C_drewN ?_ _) | (with_reducible refine Kd.C_drew ?_) | exact HR228_0.out)) | (with_reducible refine Kd.C_alloc ?_ _) | (with_reducible refine Kd.C_drewN ?_ _) | (with_reducible refine Kd.C_drew ?_))); (case side2 => exact HC228_0.out); (case side3 => repeat (first | exact (Kd.C_below HR1.out HB.out) | (with_reducible refine Kd.C_alloc ?_ _) | (with_reducible refine Kd.C_drewN ?_ _) | (with_reducible refine Kd.C_drew ?_))); (case side4 => exact HC1.out); rintro e w39 ⟨v230, rfl, ho0, hb⟩; refine ⟨_, rfl, ?_⟩; have n0_ := Am (Kd.S_elder' (by (with_reducible repeat (first | apply Sa | apply Sn | apply Sd)); exact HO_70.out) (Kd.R_base ho0) hb); have n1_ := Am (Kd.R_elder' (by (with_reducible repeat (first | apply Ra | apply Rn | apply Rd)); exact HL228_0.out) (Kd.R_base ho0) hb); have n2_ := Am (Kd.R_lower (Kd.R_new' ho0 (Kd.R_lt (by (with_reducible repeat (first | apply Ra | apply Rn | apply Rd)); exact HL228_0.out))) (Bz (by repeat (first | exact HB.out | apply Ba | apply Bn | apply Bd)))); have n3_ := Am (Kd.C_below (by repeat (first | (with_reducible exact HR228_0.out) | (with_reducible refine Kd.C_alloc ?_ _) | (with_reducible refine Kd.C_drewN ?_ _) | (with_reducible refine Kd.C_drew ?_) | exact HR228_0.out)) hb); have n4_ := Am (Bt (by repeat (first | exact HB.out | apply Ba | apply Bn | apply Bd)) hb); clear HO_70; clear HL228_0; clear HR228_0; clear HB; have HO_70 := n0_; have HL228_0 := n1_; have HO231 := n2_; have HR228_0 := n3_; have HB := n4_; clear n0_ n1_ n2_ n3_ n4_; (try clear hb); (try clear hb2); (try clear hk); (try clear hi); (try clear ho0); obtain ⟨Ao40, co40, eo40⟩ := Kd.R_slice HO231.out; subst eo40; have p232 : 0 ≤ (0 : Int) := (by omega); have q232 : 0 < (t229.length : Int) := of_decide_eq_true (by assumption); obtain ⟨ad232, e232, hx232_0⟩ := Kd.at_int (Kd.R_reads' HO231.out).2.2 0 p232 q232; cases e232; have qi232 : (0 < t229.length) = True := eq_true (by omega); (try rw [show ((0 : Int)).toNat = 0 from rfl] at hx232_0); (try rw [Addr.add_zero'] at hx232_0); replace p232 := eq_true p232; replace q232 := eq_true q232) | ((refine Gc (f := 48) rfl ?_); refine goesL_ (some 82) rfl rfl Try.func48 (by kernel_rfl) rfl #[.slice A2 l2.length c2, .int .i64 (rd t229 0)] rfl (by first | rfl | (simp only [List.map_toArray, List.map_cons, List.map_nil]; first | done | rfl)) ?_; (with_reducible refine (spec_l5Place.calls k4 _ _ l2 (rd t229 0) t233 _ ?side1 ?side2 A37.out).mono ?_); (case side1 => repeat (first | exact (Kd.C_below HR2.out HB.out) | (with_reducible refine Kd.C_alloc ?_ _) | (with_reducible refine Kd.C_drewN ?_ _) | (with_reducible refine Kd.C_drew ?_))); (case side2 => exact HC2.out); rintro e w' ⟨rfl, ⟨nd, rfl⟩⟩; refine ⟨_, rfl, ?_⟩) | ((refine Gc (f := 52) rfl ?_); refine goesL_ (some 85) rfl rfl Try.func52 (by kernel_rfl) rfl #[.slice A228_0 (rd_L1 t225 x72_4).length c228_0, .slice A1 l1.length c1] rfl (by first | rfl | (simp only [List.map_toArray, List.map_cons, List.map_nil]; first | done | rfl)) ?_; (with_reducible refine (spec_l5ByKey.calls k4 _ _ (rd_L1 t225 x72_4) _ _ l1 t234 _ ?side1 ?side2 ?side3 ?side4 A38.out).mono ?_); (case side1 => repeat (first | exact (by repeat (first | (with_reducible exact HR228_0.out) | (with_reducible refine Kd.C_alloc ?_ _) | (with_reducible refine Kd.C_drewN ?_ _) | (with_reducible refine Kd.C_drew ?_) | exact HR228_0.out)) | (with_reducible refine Kd.C_alloc ?_ _) | (with_reducible refine Kd.C_drewN ?_ _) | (with_reducible refine Kd.C_drew ?_))); (case side2 => exact HC228_0.out); (case side3 => repeat (first | exact (Kd.C_below HR1.out (by repeat (first | exact HB.out | apply Ba | apply Bn | apply Bd))) | (with_reducible refine Kd.C_alloc ?_ _) | (with_reducible refine Kd.C_drewN ?_ _) | (with_reducible refine Kd.C_drew ?_))); (case side4 => exact HC1.out); rintro e w41 ⟨v235, rfl, ho0, hb⟩; refine ⟨_, rfl, ?_⟩; have n0_ := Am (Kd.S_elder' (by (with_reducible repeat (first | apply Sa | apply Sn | apply Sd)); exact HO_70.out) (Kd.R_base ho0) hb); have n1_ := Am (Kd.R_elder' (by (with_reducible repeat (first | apply Ra | apply Rn | apply Rd)); exact HL228_0.out) (Kd.R_base ho0) hb); have n2_ := Am (Kd.R_elder' (by (with_reducible repeat (first | apply Ra | apply Rn | apply Rd)); exact HO231.out) (Kd.R_base ho0) hb); have n3_ := Am (Kd.R_lower (Kd.R_new' (Kd.R_new' ho0 (Kd.R_lt (by (with_reducible repeat (first | apply Ra | apply Rn | apply Rd)); exact HL228_0.out))) (Kd.R_lt (by (with_reducible repeat (first | apply Ra | apply Rn | apply Rd)); exact HO231.out))) (Bz (by repeat (first | exact HB.out | apply Ba | apply Bn | apply Bd)))); have n4_ := Am (Kd.C_below (by repeat (first | (with_reducible exact HR228_0.out) | (with_reducible refine Kd.C_alloc ?_ _) | (with_reducible refine Kd.C_drewN ?_ _) | (with_reducible refine Kd.C_drew ?_) | exact HR228_0.out)) hb); have n5_ := Am (Bt (by repeat (first | exact HB.out | apply Ba | apply Bn | apply Bd)) hb); clear HO_70; clear HL228_0; clear HO231; clear HR228_0; clear HB; have HO_70 := n0_; have HL228_0 := n1_; have HO231 := n2_; have HO236 := n3_; have HR228_0 := n4_; have HB := n5_; clear n0_ n1_ n2_ n3_ n4_ n5_; (try clear hb); (try clear hb2); (try clear hk); (try clear hi); (try clear ho0); obtain ⟨Ao42, co42, eo42⟩ := Kd.R_slice HO236.out; subst eo42))
                go_loopg [87] k4 (fun kq v87 w' => ∃ (x87_5 : Int), v87 = .int .i64 x87_5 ∧ Ad (spec_IsOrder.l4 kq l1 l2 t233 t225 (t225.length : Int) x72_4 t234 (t234.length : Int) x87_5 = some (r1, r2)) ∧ Ad (kq ≤ k4) ∧ Ad (Kd.S (Kd.slice 3 (Kd.int .i64)) 23 w' w.heap.size (fun k_ => some k_ ≠ ((.slice Ao42 t234.length co42) : Value).ownBlock) (.slice (some ad228) t225.length co31) t225) ∧ Ad (Kd.R (Kd.int .i64) 3 w' w.heap.size (fun _ => True) (.slice Ao42 t234.length co42) t234) ∧ Ad (Kd.C (Kd.int .i64) w' A228_0 (rd_L1 t225 x72_4).length (rd_L1 t225 x72_4)) ∧ Ad (Below w.heap.size w w'))
                case atStart => exact ⟨(0), (by first | rfl | (simp; done) | (simp [*]; done)), H', ⟨Nat.le_refl _⟩, ⟨by (with_reducible repeat (first | apply Sa | apply Sn | apply Sd)); exact Kd.S_mono HO_70.out (fun _ hk => hk.2)⟩, ⟨by (with_reducible repeat (first | apply Ra | apply Rn | apply Rd)); exact Kd.R_mono HO236.out (fun _ hk => trivial)⟩, ⟨by repeat (first | (with_reducible exact HR228_0.out) | (with_reducible refine Kd.C_alloc ?_ _) | (with_reducible refine Kd.C_drewN ?_ _) | (with_reducible refine Kd.C_drew ?_) | exact HR228_0.out)⟩, ⟨by repeat (first | exact HB.out | apply Ba | apply Bn | apply Bd)⟩⟩
                case round =>
                 clear H'
                 try clear c1
                 try clear c2
                 try clear p2
                 try clear q2
                 try clear hx2
                 try clear qi2
                 try clear c3
                 try clear c4
                 try clear c5
                 try clear c6
                 try clear p6
                 try clear c7
                 try clear c8
                 try clear c8b0
                 try clear c9
                 try clear c10
                 try clear c10b0
                 try clear c11
                 try clear c11b0
                 try clear c12
                 try clear c12b0
                 try clear c13
                 try clear c13b0
                 try clear c14
                 try clear c14b0
                 try clear c15
                 try clear c15b0
                 try clear c16
                 try clear c16b0
                 try clear c19
                 try clear c21
                 try clear p21
                 try clear q21
                 try clear hx21
                 try clear c22
                 try clear p22
                 try clear q22
                 try clear hx22
                 try clear p23
                 try clear q23
                 try clear hx23
                 try clear qi23
                 try clear c24
                 try clear c24b0
                 try clear c32
                 try clear c32b0
                 try clear c33
                 try clear c33b0
                 try clear c34
                 try clear c34b0
                 try clear c36
                 try clear c36b0
                 try clear c36b1
                 try clear hx217_0
                 try clear hx218_0
                 try clear hx228_0
                 try clear hx232_0
                 try clear p2
                 try clear p21
                 try clear p217
                 try clear p218
                 try clear p228
                 try clear p232
                 try clear p6
                 try clear q2
                 try clear q21
                 try clear q217
                 try clear q218
                 try clear q228
                 try clear q232
                 obtain ⟨x87_5, rfl, HA, HK5, HO_70, HO_85, HR228_0, HB⟩ := hrel
                 cases gk with
                 | zero => exact absurd HA.out (by simp [spec_IsOrder.l4])
                 | succ k5 =>
                  have H := HA.out
                  clear HA
                  simp only [spec_IsOrder.l4] at H
                  by_cases c43 : x87_5 < (t234.length : Int)
                  ·rw [if_pos c43] at H
                   have c43b0 : decide (x87_5 < (t234.length : Int)) = true := decide_eq_true c43
                   clear c43
                   by_cases c44 : 0 ≤ x87_5
                   ·rw [if_pos c44] at H
                    have c44b0 : decide (0 ≤ x87_5) = true := decide_eq_true c44
                    clear c44
                    by_cases c45 : x87_5 < (t234.length : Int)
                    ·rw [if_pos c45] at H
                     have c45b0 : decide (x87_5 < (t234.length : Int)) = true := decide_eq_true c45
                     clear c45
                     replace H := Option.bind_eq_some_iff.mp H
                     obtain ⟨t238, A460, H⟩ := H
                     replace H : (if t238 = (wrap64 (t233 + x87_5)) then (spec_IsOrder.l4 k5 l1 l2 t233 t225 (t225.length : Int) x72_4 t234 (t234.length : Int) (wrap64 (x87_5 + 1))) else (some (false, true))) = some (r1, r2) := H
                     have A46 := Am A460
                     clear A460
                     by_cases c47 : t238 = (wrap64 (t233 + x87_5))
                     ·rw [if_pos c47] at H
                      have c47b0 : (t238 == (wrap64 (t233 + x87_5))) = true := beq_iff_eq.mpr c47
                      have c47b1 : (t238 != (wrap64 (t233 + x87_5))) = false := bne_eq_false_iff_eq.mpr c47
                      clear c47
                      have H' := Am H
                      clear H
                      have p237 : 0 ≤ (x87_5 : Int) := of_decide_eq_true (by assumption)
                      have q237 : x87_5 < (t234.length : Int) := of_decide_eq_true (by assumption)
                      obtain ⟨ad237, e237, hx237_0⟩ := Kd.at_int (Kd.R_reads' HO_85.out).2.2 x87_5 p237 q237
                      cases e237
                      replace p237 := eq_true p237
                      replace q237 := eq_true q237
                      go_wp2_with (first | ((refine Gc (f := 48) rfl ?_); refine goesL_ (some 94) rfl rfl Try.func48 (by kernel_rfl) rfl #[.slice A2 l2.length c2, .int .i64 (rd t234 x87_5)] rfl (by first | rfl | (simp only [List.map_toArray, List.map_cons, List.map_nil]; first | done | rfl)) ?_; (with_reducible refine (spec_l5Place.calls k5 _ _ l2 (rd t234 x87_5) t238 _ ?side1 ?side2 A46.out).mono ?_); (case side1 => repeat (first | exact (Kd.C_below HR2.out HB.out) | (with_reducible refine Kd.C_alloc ?_ _) | (with_reducible refine Kd.C_drewN ?_ _) | (with_reducible refine Kd.C_drew ?_))); (case side2 => exact HC2.out); rintro e w' ⟨rfl, ⟨nd, rfl⟩⟩; refine ⟨_, rfl, ?_⟩))
                      go_roundg k5
                      case measure => have := HJ3.out; have := HK2.out; have := HK3.out; have := HK4.out; have := HK5.out; omega
                      case rel => exact ⟨(wrap64 (x87_5 + 1)), (by first | rfl | (simp; done) | (simp [*]; done)), H', ⟨by have := HJ3.out; have := HK2.out; have := HK3.out; have := HK4.out; have := HK5.out; omega⟩, ⟨by (with_reducible repeat (first | apply Sa | apply Sn | apply Sd)); exact HO_70.out⟩, ⟨by (with_reducible repeat (first | apply Ra | apply Rn | apply Rd)); exact HO_85.out⟩, ⟨by repeat (first | (with_reducible exact HR228_0.out) | (with_reducible refine Kd.C_alloc ?_ _) | (with_reducible refine Kd.C_drewN ?_ _) | (with_reducible refine Kd.C_drew ?_) | exact HR228_0.out)⟩, ⟨by repeat (first | exact HB.out | apply Ba | apply Bn | apply Bd)⟩⟩
                     ·rw [if_neg c47] at H
                      have c47b0 : (t238 == (wrap64 (t233 + x87_5))) = false := beq_eq_false_iff_ne.mpr c47
                      have c47b1 : (t238 != (wrap64 (t233 + x87_5))) = true := bne_iff_ne.mpr c47
                      simp only [Option.some.injEq, Prod.mk.injEq] at H
                      obtain ⟨rfl, rfl⟩ := H
                      have p237 : 0 ≤ (x87_5 : Int) := of_decide_eq_true (by assumption)
                      have q237 : x87_5 < (t234.length : Int) := of_decide_eq_true (by assumption)
                      obtain ⟨ad237, e237, hx237_0⟩ := Kd.at_int (Kd.R_reads' HO_85.out).2.2 x87_5 p237 q237
                      cases e237
                      replace p237 := eq_true p237
                      replace q237 := eq_true q237
                      go_wp2_with (first | ((refine Gc (f := 48) rfl ?_); refine goesL_ (some 94) rfl rfl Try.func48 (by kernel_rfl) rfl #[.slice A2 l2.length c2, .int .i64 (rd t234 x87_5)] rfl (by first | rfl | (simp only [List.map_toArray, List.map_cons, List.map_nil]; first | done | rfl)) ?_; (with_reducible refine (spec_l5Place.calls k5 _ _ l2 (rd t234 x87_5) t238 _ ?side1 ?side2 A46.out).mono ?_); (case side1 => repeat (first | exact (Kd.C_below HR2.out HB.out) | (with_reducible refine Kd.C_alloc ?_ _) | (with_reducible refine Kd.C_drewN ?_ _) | (with_reducible refine Kd.C_drew ?_))); (case side2 => exact HC2.out); rintro e w' ⟨rfl, ⟨nd, rfl⟩⟩; refine ⟨_, rfl, ?_⟩))
                      go_ret2
                      exact ⟨by first | rfl | (simp [*, errW_none, errW_some] <;> rfl), by repeat (first | exact HB.out | apply Ba | apply Bn | apply Bd)⟩
                    ·rw [if_neg c45] at H
                     exact absurd H (by simp)
                   ·rw [if_neg c44] at H
                    exact absurd H (by simp)
                  ·rw [if_neg c43] at H
                   have c43b0 : decide (x87_5 < (t234.length : Int)) = false := decide_eq_false c43
                   clear c43
                   have H' := Am H
                   clear H
                   go_wp2
                   go_roundg k5
                   case measure => have := HJ3.out; have := HK2.out; have := HK3.out; have := HK4.out; have := HK5.out; omega
                   case rel => exact ⟨(wrap64 (x72_4 + 1)), (by first | rfl | (simp; done) | (simp [*]; done)), H', ⟨by have := HJ3.out; have := HK2.out; have := HK3.out; have := HK4.out; have := HK5.out; omega⟩, ⟨by (with_reducible repeat (first | apply Sa | apply Sn | apply Sd)); exact Kd.S_mono HO_70.out (fun _ hk => trivial)⟩, ⟨by repeat (first | exact HB.out | apply Ba | apply Bn | apply Bd)⟩⟩
               ·rw [if_neg c36] at H
                exact absurd H (by simp)
              ·rw [if_neg c34] at H
               exact absurd H (by simp)
             ·rw [if_neg c33] at H
              exact absurd H (by simp)
            ·rw [if_neg c32] at H
             have c32b0 : decide (x72_4 < (t225.length : Int)) = false := decide_eq_false c32
             clear c32
             simp only [Option.some.injEq, Prod.mk.injEq] at H
             obtain ⟨rfl, rfl⟩ := H
             go_wp2
             go_ret2
             exact ⟨by first | rfl | (simp [*, errW_none, errW_some] <;> rfl), by repeat (first | exact HB.out | apply Ba | apply Bn | apply Bd)⟩
end Go.Proofs.Ytpboalgecejoeaa.QFnOrders
