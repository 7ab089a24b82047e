-- Written by a program of this session (wip/mk.py) over the kit's print: Lean checks it.
import Derived.Test.YteecmbfebenjjaaQFnSumsx0
import Derived.Test.YteecmbfebenjjaaQFnSumsx3
import Derived.Test.YteecmbfebenjjaaQFnSumsx5
import Derived.Test.YteecmbfebenjjaaQFnSumsx6
namespace Go.Proofs.Yteecmbfebenjjaa.QFnSums
open Go.Proofs.YteecmbfebenjjaaW.PrintWords.Kd renaming R_alloc → Ra, R_drewN → Rn, R_drew → Rd
open Go.Proofs.YteecmbfebenjjaaW.PrintWords renaming below_alloc → Ba, pw_below_drewN → Bn, below_drew1 → Bd, below_set → Bs, below_size → Bz, below_step → Bt, gate_dst → Gd, gate_callee → Gc, box_event → Be, blk_alloc → Ka, blk_drewN → Kn, blk_drew → Ke, blk_below → Kb, blk_cell → Kc, blk_frozen → Kz
open Go.Proofs.YteecmbfebenjjaaW.PrintWords.Aside0 renaming mk → Am
open Go.Proofs.YteecmbfebenjjaaW.PrintWords renaming Aside0 → Ad
open Go.RowKit Go.Proofs.YteecmbfebenjjaaW.PrintWords Go.Proofs.YteecmbfebenjjaaW.PrintLast Go.Proofs.YteecmbfebenjjaaW.PrintMore
attribute [local go_sem] max2_int min2_int max_two min_two max_three min_three max_four min_four   -- for this text's walks alone
set_option linter.unusedVariables false
set_option linter.unusedSimpArgs false
def impl_touches.f (a0_0 : Int) (a0_1 : Int) (a0_2 : Int) (a0_3 : Int) (a0_4 : Int) : Option (List Int) := if a0_0 = 1 then (some (([mn a0_2 a0_3, mx a0_2 a0_3] : List Int))) else (if a0_0 = 2 then (some (([a0_2] : List Int))) else (some (([] : List Int))))
set_option maxHeartbeats 8000000 in
set_option maxRecDepth 100000 in
theorem impl_touches.calls (a0_0 : Int) (a0_1 : Int) (a0_2 : Int) (a0_3 : Int) (a0_4 : Int) (r : List Int) (w : World) (h : impl_touches.f a0_0 a0_1 a0_2 a0_3 a0_4 = some r) :
  Calls Try.prog 136 #[.agg #[.int .i64 a0_0, .int .i64 a0_1, .int .i64 a0_2, .int .i64 a0_3, .int .i64 a0_4]] w fun e w' => ∃ v0_ : Value, e = .returned (v0_) ∧ Kd.R (Kd.int .i64) 3 w' w.heap.size (fun _ => True) v0_ r ∧ Below w.heap.size w w' := by
 have hu26 := Try.underlying26
 have HB := Am (Below.refl w.heap.size w)
 have H : (if a0_0 = 1 then (some (([mn a0_2 a0_3, mx a0_2 a0_3] : List Int))) else (if a0_0 = 2 then (some (([a0_2] : List Int))) else (some (([] : List Int))))) = some r := h
 clear h
 by_cases c2 : a0_0 = 1
 ·rw [if_pos c2] at H
  have c2b0 : (a0_0 == 1) = true := beq_iff_eq.mpr c2
  have c2b1 : (a0_0 != 1) = false := bne_eq_false_iff_eq.mpr c2
  clear c2
  obtain ⟨ji3, hji3⟩ : ∃ j_ : Int, (mn a0_2 a0_3) = j_ := ⟨_, rfl⟩
  replace H : (some (([ji3, mx a0_2 a0_3] : List Int))) = some r := by first | (rw [hji3] at H; exact H) | (simp only [hji3] at H ⊢; exact H)
  have hji3_ : (if a0_3 < a0_2 then a0_3 else a0_2) = ji3 := hji3
  obtain ⟨ji4, hji4⟩ : ∃ j_ : Int, (mx a0_2 a0_3) = j_ := ⟨_, rfl⟩
  replace H : (some (([ji3, ji4] : List Int))) = some r := by first | (rw [hji4] at H; exact H) | (simp only [hji4] at H ⊢; exact H)
  have hji4_ : (if a0_2 < a0_3 then a0_3 else a0_2) = ji4 := hji4
  obtain ⟨y269, hy269⟩ : ∃ y_ : List Int, y_ = (([ji3, ji4] : List Int)) := ⟨_, rfl⟩
  replace H : (some y269) = some r := by first | (rw [hy269]; with_reducible exact H) | (have H2_ := (Option.bind_some _ _).symm.trans H; rw [hy269]; with_reducible exact H2_) | (have H2_ := (Option.bind_some _ _).symm.trans H; with_reducible exact H2_) | with_reducible exact H | (rw [hy269]; exact H) | exact H
  have Ny269 := Am hy269
  clear hy269
  obtain rfl := Option.some.inj H
  go_enter Try.func136, Try.ntmps136
  go_wp2_with (first | ((refine Gd (N := 1) rfl ?_); refine Be ?hg (N := 1) ?hd (cs := #[.int .i64 a0_0, .int .i64 a0_1, .int .i64 a0_2, .int .i64 a0_3, .int .i64 a0_4]) (t := 26) ?hr ?_; (case hd | hg => rfl); (case hr => first | (go_simp; done) | (go_simp; rfl)); intro gb268 hg w5 hbox hb; have n0_ := Am (Bt (by repeat (first | exact HB.out | apply Ba | apply Bn | apply Bd)) hb); have n1_ := Am (hbox); have n2_ := Am ((by rw [hg]; exact (Bz (by repeat (first | exact HB.out | apply Ba | apply Bn | apply Bd))) : w.heap.size ≤ gb268)); have n3_ := Am ((by rw [hg]; exact (Bz (by repeat (first | exact HB.out | apply Ba | apply Bn | apply Bd))) : w.heap.size ≤ gb268)); clear HB; have HB := n0_; have BK268 := n1_; have GW268 := n2_; have GE268 := n3_; clear n0_ n1_ n2_ n3_; clear hb hbox hg; have hcz6_0 : w5.cell? ⟨gb268, 0, none⟩ = some (.int .i64 a0_0) := (Kc BK268.out 0).trans rfl; have hcz6_1 : w5.cell? ⟨gb268, 1, none⟩ = some (.int .i64 a0_1) := (Kc BK268.out 1).trans rfl; have hcz6_2 : w5.cell? ⟨gb268, 2, none⟩ = some (.int .i64 a0_2) := (Kc BK268.out 2).trans rfl; have hcz6_3 : w5.cell? ⟨gb268, 3, none⟩ = some (.int .i64 a0_3) := (Kc BK268.out 3).trans rfl; have hcz6_4 : w5.cell? ⟨gb268, 4, none⟩ = some (.int .i64 a0_4) := (Kc BK268.out 4).trans rfl; have hfz6_0 := Kz BK268.out 0; have hfz6_1 := Kz BK268.out 1; have hfz6_2 := Kz BK268.out 2; have hfz6_3 := Kz BK268.out 3; have hfz6_4 := Kz BK268.out 4) | ((refine Gd (N := 17) rfl ?_); refine Kd.R_lit (Kd.int .i64) _ 3 ?hg (N := 17) ?hd (xs := ([ji3, ji4] : List Int)) (inner := [.int .i64 ji3, .int .i64 ji4]) (ok := fun _ => True) (okp := fun _ => True) ?hr ?hp (fun _ hk => hk) trivial (Below.refl _ _) (Nat.le_refl _) (by simp) ?_; (case hd | hg => rfl); (case hr => first | (go_simp; done) | (go_simp; rfl)); (case hp => exact (Reps.one (show Kd.M (Kd.int .i64) _ _ _ ji3 [.int .i64 ji3] from rfl) (Reps.one (show Kd.M (Kd.int .i64) _ _ _ ji4 [.int .i64 ji4] from rfl) (Reps.none _ _)))); intro v270 w7 ho8 hb hg_ hnew_; clear hg_ hnew_; (first | rw [← Ny269.out] at ho8 | (simp only [Int.reduceToNat] at ho8; rw [← Ny269.out] at ho8)); have n0_ := Am (Kd.R_lower ho8 (Bz (by repeat (first | (with_reducible first | exact HB.out | apply Ba | apply Bn | apply Bd | refine Bs ?_ GE268.out) | exact HB.out)))); have n1_ := Am (Kb (g := gb268) (o := .cells #[.int .i64 a0_0, .int .i64 a0_1, .int .i64 a0_2, .int .i64 a0_3, .int .i64 a0_4] 26 (0, 0)) (by (with_reducible repeat (first | refine Kn ?_ _ | refine Ke ?_ | refine Ka ?_ _)); exact BK268.out) hb); have n2_ := Am (Bt (by repeat (first | (with_reducible first | exact HB.out | apply Ba | apply Bn | apply Bd | refine Bs ?_ GE268.out) | exact HB.out)) hb); clear BK268; clear HB; have HO271 := n0_; have BK268 := n1_; have HB := n2_; clear n0_ n1_ n2_; clear hb ho8))
  go_ret
  exact ⟨_, by first | rfl | (simp [errW_none, errW_some] <;> rfl) | (simp only [← hji3, ← hji4]; first | rfl | (simp [errW_none, errW_some] <;> rfl)) | (simp [*, errW_none, errW_some] <;> rfl), by (with_reducible repeat (first | apply Ra | apply Rn | apply Rd)); exact HO271.out, by repeat (first | (with_reducible first | exact HB.out | apply Ba | apply Bn | apply Bd | refine Bs ?_ GE268.out) | exact HB.out)⟩
 ·rw [if_neg c2] at H
  have c2b0 : (a0_0 == 1) = false := beq_eq_false_iff_ne.mpr c2
  have c2b1 : (a0_0 != 1) = true := bne_iff_ne.mpr c2
  by_cases c9 : a0_0 = 2
  ·rw [if_pos c9] at H
   have c9b0 : (a0_0 == 2) = true := beq_iff_eq.mpr c9
   have c9b1 : (a0_0 != 2) = false := bne_eq_false_iff_eq.mpr c9
   clear c9
   obtain ⟨y272, hy272⟩ : ∃ y_ : List Int, y_ = (([a0_2] : List Int)) := ⟨_, rfl⟩
   replace H : (some y272) = some r := by first | (rw [hy272]; with_reducible exact H) | (have H2_ := (Option.bind_some _ _).symm.trans H; rw [hy272]; with_reducible exact H2_) | (have H2_ := (Option.bind_some _ _).symm.trans H; with_reducible exact H2_) | with_reducible exact H | (rw [hy272]; exact H) | exact H
   have Ny272 := Am hy272
   clear hy272
   obtain rfl := Option.some.inj H
   go_enter Try.func136, Try.ntmps136
   go_wp2_with (first | ((refine Gd (N := 1) rfl ?_); refine Be ?hg (N := 1) ?hd (cs := #[.int .i64 a0_0, .int .i64 a0_1, .int .i64 a0_2, .int .i64 a0_3, .int .i64 a0_4]) (t := 26) ?hr ?_; (case hd | hg => rfl); (case hr => first | (go_simp; done) | (go_simp; rfl)); intro gb268 hg w10 hbox hb; have n0_ := Am (Bt (by repeat (first | exact HB.out | apply Ba | apply Bn | apply Bd)) hb); have n1_ := Am (hbox); have n2_ := Am ((by rw [hg]; exact (Bz (by repeat (first | exact HB.out | apply Ba | apply Bn | apply Bd))) : w.heap.size ≤ gb268)); have n3_ := Am ((by rw [hg]; exact (Bz (by repeat (first | exact HB.out | apply Ba | apply Bn | apply Bd))) : w.heap.size ≤ gb268)); clear HB; have HB := n0_; have BK268 := n1_; have GW268 := n2_; have GE268 := n3_; clear n0_ n1_ n2_ n3_; clear hb hbox hg; have hcz11_0 : w10.cell? ⟨gb268, 0, none⟩ = some (.int .i64 a0_0) := (Kc BK268.out 0).trans rfl; have hcz11_1 : w10.cell? ⟨gb268, 1, none⟩ = some (.int .i64 a0_1) := (Kc BK268.out 1).trans rfl; have hcz11_2 : w10.cell? ⟨gb268, 2, none⟩ = some (.int .i64 a0_2) := (Kc BK268.out 2).trans rfl; have hcz11_3 : w10.cell? ⟨gb268, 3, none⟩ = some (.int .i64 a0_3) := (Kc BK268.out 3).trans rfl; have hcz11_4 : w10.cell? ⟨gb268, 4, none⟩ = some (.int .i64 a0_4) := (Kc BK268.out 4).trans rfl; have hfz11_0 := Kz BK268.out 0; have hfz11_1 := Kz BK268.out 1; have hfz11_2 := Kz BK268.out 2; have hfz11_3 := Kz BK268.out 3; have hfz11_4 := Kz BK268.out 4) | ((refine Gd (N := 22) rfl ?_); refine Kd.R_lit (Kd.int .i64) _ 3 ?hg (N := 22) ?hd (xs := ([a0_2] : List Int)) (inner := [.int .i64 a0_2]) (ok := fun _ => True) (okp := fun _ => True) ?hr ?hp (fun _ hk => hk) trivial (Below.refl _ _) (Nat.le_refl _) (by simp) ?_; (case hd | hg => rfl); (case hr => first | (go_simp; done) | (go_simp; rfl)); (case hp => exact (Reps.one (show Kd.M (Kd.int .i64) _ _ _ a0_2 [.int .i64 a0_2] from rfl) (Reps.none _ _))); intro v273 w12 ho13 hb hg_ hnew_; clear hg_ hnew_; (first | rw [← Ny272.out] at ho13 | (simp only [Int.reduceToNat] at ho13; rw [← Ny272.out] at ho13)); have n0_ := Am (Kd.R_lower ho13 (Bz (by repeat (first | (with_reducible first | exact HB.out | apply Ba | apply Bn | apply Bd | refine Bs ?_ GE268.out) | exact HB.out)))); have n1_ := Am (Kb (g := gb268) (o := .cells #[.int .i64 a0_0, .int .i64 a0_1, .int .i64 a0_2, .int .i64 a0_3, .int .i64 a0_4] 26 (0, 0)) (by (with_reducible repeat (first | refine Kn ?_ _ | refine Ke ?_ | refine Ka ?_ _)); exact BK268.out) hb); have n2_ := Am (Bt (by repeat (first | (with_reducible first | exact HB.out | apply Ba | apply Bn | apply Bd | refine Bs ?_ GE268.out) | exact HB.out)) hb); clear BK268; clear HB; have HO274 := n0_; have BK268 := n1_; have HB := n2_; clear n0_ n1_ n2_; clear hb ho13))
   go_ret
   exact ⟨_, by first | rfl | (simp [*, errW_none, errW_some] <;> rfl), by (with_reducible repeat (first | apply Ra | apply Rn | apply Rd)); exact HO274.out, by repeat (first | (with_reducible first | exact HB.out | apply Ba | apply Bn | apply Bd | refine Bs ?_ GE268.out) | exact HB.out)⟩
  ·rw [if_neg c9] at H
   have c9b0 : (a0_0 == 2) = false := beq_eq_false_iff_ne.mpr c9
   have c9b1 : (a0_0 != 2) = true := bne_iff_ne.mpr c9
   obtain ⟨y275, hy275⟩ : ∃ y_ : List Int, y_ = (([] : List Int)) := ⟨_, rfl⟩
   replace H : (some y275) = some r := by first | (rw [hy275]; with_reducible exact H) | (have H2_ := (Option.bind_some _ _).symm.trans H; rw [hy275]; with_reducible exact H2_) | (have H2_ := (Option.bind_some _ _).symm.trans H; with_reducible exact H2_) | with_reducible exact H | (rw [hy275]; exact H) | exact H
   have Ny275 := Am hy275
   clear hy275
   obtain rfl := Option.some.inj H
   go_enter Try.func136, Try.ntmps136
   go_wp2_with (first | ((refine Gd (N := 1) rfl ?_); refine Be ?hg (N := 1) ?hd (cs := #[.int .i64 a0_0, .int .i64 a0_1, .int .i64 a0_2, .int .i64 a0_3, .int .i64 a0_4]) (t := 26) ?hr ?_; (case hd | hg => rfl); (case hr => first | (go_simp; done) | (go_simp; rfl)); intro gb268 hg w14 hbox hb; have n0_ := Am (Bt (by repeat (first | exact HB.out | apply Ba | apply Bn | apply Bd)) hb); have n1_ := Am (hbox); have n2_ := Am ((by rw [hg]; exact (Bz (by repeat (first | exact HB.out | apply Ba | apply Bn | apply Bd))) : w.heap.size ≤ gb268)); have n3_ := Am ((by rw [hg]; exact (Bz (by repeat (first | exact HB.out | apply Ba | apply Bn | apply Bd))) : w.heap.size ≤ gb268)); clear HB; have HB := n0_; have BK268 := n1_; have GW268 := n2_; have GE268 := n3_; clear n0_ n1_ n2_ n3_; clear hb hbox hg; have hcz15_0 : w14.cell? ⟨gb268, 0, none⟩ = some (.int .i64 a0_0) := (Kc BK268.out 0).trans rfl; have hcz15_1 : w14.cell? ⟨gb268, 1, none⟩ = some (.int .i64 a0_1) := (Kc BK268.out 1).trans rfl; have hcz15_2 : w14.cell? ⟨gb268, 2, none⟩ = some (.int .i64 a0_2) := (Kc BK268.out 2).trans rfl; have hcz15_3 : w14.cell? ⟨gb268, 3, none⟩ = some (.int .i64 a0_3) := (Kc BK268.out 3).trans rfl; have hcz15_4 : w14.cell? ⟨gb268, 4, none⟩ = some (.int .i64 a0_4) := (Kc BK268.out 4).trans rfl; have hfz15_0 := Kz BK268.out 0; have hfz15_1 := Kz BK268.out 1; have hfz15_2 := Kz BK268.out 2; have hfz15_3 := Kz BK268.out 3; have hfz15_4 := Kz BK268.out 4) | ((refine Gd (N := 23) rfl ?_); refine Kd.R_lit (Kd.int .i64) _ 3 ?hg (N := 23) ?hd (xs := ([] : List Int)) (inner := []) (ok := fun _ => True) (okp := fun _ => True) ?hr ?hp (fun _ hk => hk) trivial (Below.refl _ _) (Nat.le_refl _) (by simp) ?_; (case hd | hg => rfl); (case hr => first | (go_simp; done) | (go_simp; rfl)); (case hp => exact (Reps.none _ _)); intro v276 w16 ho17 hb hg_ hnew_; clear hg_ hnew_; (first | rw [← Ny275.out] at ho17 | (simp only [Int.reduceToNat] at ho17; rw [← Ny275.out] at ho17)); have n0_ := Am (Kd.R_lower ho17 (Bz (by repeat (first | (with_reducible first | exact HB.out | apply Ba | apply Bn | apply Bd | refine Bs ?_ GE268.out) | exact HB.out)))); have n1_ := Am (Kb (g := gb268) (o := .cells #[.int .i64 a0_0, .int .i64 a0_1, .int .i64 a0_2, .int .i64 a0_3, .int .i64 a0_4] 26 (0, 0)) (by (with_reducible repeat (first | refine Kn ?_ _ | refine Ke ?_ | refine Ka ?_ _)); exact BK268.out) hb); have n2_ := Am (Bt (by repeat (first | (with_reducible first | exact HB.out | apply Ba | apply Bn | apply Bd | refine Bs ?_ GE268.out) | exact HB.out)) hb); clear BK268; clear HB; have HO277 := n0_; have BK268 := n1_; have HB := n2_; clear n0_ n1_ n2_; clear hb ho17))
   go_ret
   exact ⟨_, by first | rfl | (simp [*, errW_none, errW_some] <;> rfl), by (with_reducible repeat (first | apply Ra | apply Rn | apply Rd)); exact HO277.out, by repeat (first | (with_reducible first | exact HB.out | apply Ba | apply Bn | apply Bd | refine Bs ?_ GE268.out) | exact HB.out)⟩
def slices_Index_int_int.l0 : Nat → List Int → Int → Int → Int → Option (Int)
 | 0, _, _, _, _ => none
 | k + 1, x0, x1, x7, x8 => if x8 < x7 then (if 0 ≤ x8 then (if x8 < (x0.length : Int) then (if x1 = (rd x0 x8) then (some x8) else (slices_Index_int_int.l0 k x0 x1 x7 (wrap64 (x8 + 1)))) else (none)) else (none)) else (some (-1))
def slices_Index_int_int.f (k : Nat) (l0 : List Int) (a1 : Int) : Option (Int) := slices_Index_int_int.l0 k l0 a1 (l0.length : Int) 0
theorem slices_Index_int_int.mono_l : ∀ k, (∀ y0 y1 y2 y3, LeO (slices_Index_int_int.l0 k y0 y1 y2 y3) (slices_Index_int_int.l0 (k + 1) y0 y1 y2 y3))
 | 0 => fun _ _ _ _ r h => by simp [slices_Index_int_int.l0] at h
 | k + 1 => by
  have ih0 := slices_Index_int_int.mono_l k
  ·intro y0 y1 y2 y3
   unfold slices_Index_int_int.l0
   repeat' first
   | (with_reducible exact ih0 _ _ _ _)
   | (with_reducible exact LeO.refl _)
   | (with_reducible exact LeO.none _)
   | (with_reducible refine LeO.ite ?_ ?_)
   | (with_reducible refine LeO.bind ?_ (fun _ => ?_))
   | exact ih0 _ _ _ _
   | exact LeO.none _
   | refine LeO.ite ?_ ?_
   | refine LeO.bind ?_ (fun _ => ?_)
theorem slices_Index_int_int.mono : ∀ a0 a1 k, LeO (slices_Index_int_int.f k a0 a1) (slices_Index_int_int.f (k + 1) a0 a1) := by
 intro a0 a1 k
 have ih0 := slices_Index_int_int.mono_l k
 unfold slices_Index_int_int.f
 repeat' first
   | (with_reducible exact ih0 _ _ _ _)
   | (with_reducible exact LeO.refl _)
   | (with_reducible exact LeO.none _)
   | (with_reducible refine LeO.ite ?_ ?_)
   | (with_reducible refine LeO.bind ?_ (fun _ => ?_))
   | exact ih0 _ _ _ _
   | exact LeO.none _
   | refine LeO.ite ?_ ?_
   | refine LeO.bind ?_ (fun _ => ?_)
set_option maxHeartbeats 8000000 in
set_option maxRecDepth 100000 in
theorem slices_Index_int_int.calls (k : Nat) (A0 : Option Addr) (c0 : Nat) (l0 : List Int) (a1 : Int) (r : Int) (w : World) (hr0 : Kd.C (Kd.int .i64) w A0 l0.length l0) (hc0 : l0.length ≤ c0) (h : slices_Index_int_int.f k l0 a1 = some r) :
  Calls Try.prog 166 #[.slice A0 l0.length c0, .int .i64 a1] w fun e w' => e = .returned (.int .i64 r) ∧ Drawn0 w w' := by
 have HR0 := Am hr0
 have HC0 := Am hc0
 clear hr0 hc0
 have H : (slices_Index_int_int.l0 k l0 a1 (l0.length : Int) 0) = some r := h
 clear h
 have H' := Am H
 clear H
 go_enter Try.func166, Try.ntmps166
 go_wp2
 go_loopg [8] k (fun kq v8 w' => ∃ (x8_1 : Int), v8 = .int .i64 x8_1 ∧ Ad (slices_Index_int_int.l0 kq l0 a1 (l0.length : Int) x8_1 = some r) ∧ Ad (kq ≤ k) ∧ Drawn0 w w')
 case atStart => exact ⟨(0), (by first | rfl | (simp; done) | (simp [*]; done)), H', ⟨Nat.le_refl _⟩, by repeat (first | exact Drawn0.refl _ | apply Drawn0.step)⟩
 case round =>
  clear H'
  try clear c1
  try clear p2
  obtain ⟨x8_1, rfl, HA, HK1, ⟨m1, rfl⟩⟩ := hrel
  cases gk with
  | zero => exact absurd HA.out (by simp [slices_Index_int_int.l0])
  | succ k1 =>
   have H := HA.out
   clear HA
   simp only [slices_Index_int_int.l0] at H
   by_cases c3 : x8_1 < (l0.length : Int)
   ·rw [if_pos c3] at H
    have c3b0 : decide (x8_1 < (l0.length : Int)) = true := decide_eq_true c3
    clear c3
    by_cases c4 : 0 ≤ x8_1
    ·rw [if_pos c4] at H
     have c4b0 : decide (0 ≤ x8_1) = true := decide_eq_true c4
     clear c4
     by_cases c5 : x8_1 < (l0.length : Int)
     ·rw [if_pos c5] at H
      have c5b0 : decide (x8_1 < (l0.length : Int)) = true := decide_eq_true c5
      clear c5
      by_cases c6 : a1 = (rd l0 x8_1)
      ·rw [if_pos c6] at H
       have c6b0 : (a1 == (rd l0 x8_1)) = true := beq_iff_eq.mpr c6
       have c6b1 : (a1 != (rd l0 x8_1)) = false := bne_eq_false_iff_eq.mpr c6
       clear c6
       obtain rfl := Option.some.inj H
       have p278 : 0 ≤ (x8_1 : Int) := of_decide_eq_true (by assumption)
       have q278 : x8_1 < (l0.length : Int) := of_decide_eq_true (by assumption)
       obtain ⟨ad278, e278, hx278_0⟩ := Kd.at_int HR0.out x8_1 p278 q278
       cases e278
       replace p278 := eq_true p278
       replace q278 := eq_true q278
       go_wp2
       go_ret
       exact ⟨by first | rfl | (simp; done) | (simp [*]; done), by repeat (first | exact Drawn0.refl _ | apply Drawn0.step)⟩
      ·rw [if_neg c6] at H
       have c6b0 : (a1 == (rd l0 x8_1)) = false := beq_eq_false_iff_ne.mpr c6
       have c6b1 : (a1 != (rd l0 x8_1)) = true := bne_iff_ne.mpr c6
       have H' := Am H
       clear H
       have p278 : 0 ≤ (x8_1 : Int) := of_decide_eq_true (by assumption)
       have q278 : x8_1 < (l0.length : Int) := of_decide_eq_true (by assumption)
       obtain ⟨ad278, e278, hx278_0⟩ := Kd.at_int HR0.out x8_1 p278 q278
       cases e278
       replace p278 := eq_true p278
       replace q278 := eq_true q278
       go_wp2
       go_roundg k1
       case measure => have := HK1.out; omega
       case rel => exact ⟨(wrap64 (x8_1 + 1)), (by first | rfl | (simp; done) | (simp [*]; done)), H', ⟨by have := HK1.out; omega⟩, by repeat (first | exact Drawn0.refl _ | apply Drawn0.step)⟩
     ·rw [if_neg c5] at H
      exact absurd H (by simp)
    ·rw [if_neg c4] at H
     exact absurd H (by simp)
   ·rw [if_neg c3] at H
    have c3b0 : decide (x8_1 < (l0.length : Int)) = false := decide_eq_false c3
    clear c3
    obtain rfl := Option.some.inj H
    go_wp2
    go_ret
    exact ⟨by first | rfl | (simp; done) | (simp [*]; done), by repeat (first | exact Drawn0.refl _ | apply Drawn0.step)⟩
def slices_Contains_int_int.f (k : Nat) (l0 : List Int) (a1 : Int) : Option (Bool) := (slices_Index_int_int.f k l0 a1).bind fun t279 => (some (decide (t279 ≥ 0)))
theorem slices_Contains_int_int.mono : ∀ a0 a1 k, LeO (slices_Contains_int_int.f k a0 a1) (slices_Contains_int_int.f (k + 1) a0 a1) := by
 intro a0 a1 k
 unfold slices_Contains_int_int.f
 repeat' first
   | (with_reducible exact slices_Index_int_int.mono _ _ _)
   | (with_reducible exact LeO.refl _)
   | (with_reducible exact LeO.none _)
   | (with_reducible refine LeO.ite ?_ ?_)
   | (with_reducible refine LeO.bind ?_ (fun _ => ?_))
   | exact slices_Index_int_int.mono _ _ _
   | exact LeO.none _
   | refine LeO.ite ?_ ?_
   | refine LeO.bind ?_ (fun _ => ?_)
set_option maxHeartbeats 8000000 in
set_option maxRecDepth 100000 in
theorem slices_Contains_int_int.calls (k : Nat) (A0 : Option Addr) (c0 : Nat) (l0 : List Int) (a1 : Int) (r : Bool) (w : World) (hr0 : Kd.C (Kd.int .i64) w A0 l0.length l0) (hc0 : l0.length ≤ c0) (h : slices_Contains_int_int.f k l0 a1 = some r) :
  Calls Try.prog 114 #[.slice A0 l0.length c0, .int .i64 a1] w fun e w' => e = .returned (.bool r) ∧ Drawn0 w w' := by
 have HR0 := Am hr0
 have HC0 := Am hc0
 clear hr0 hc0
 have H : ((slices_Index_int_int.f k l0 a1).bind fun t279 => (some (decide (t279 ≥ 0)))) = some r := h
 clear h
 replace H := Option.bind_eq_some_iff.mp H
 obtain ⟨t279, A30, H⟩ := H
 replace H : (some (decide (t279 ≥ 0))) = some r := H
 have A3 := Am A30
 clear A30
 obtain rfl := Option.some.inj H
 go_enter Try.func114, Try.ntmps114
 go_wp2_with (first | ((refine Gc (f := 166) rfl ?_); refine goesL_ (some 7) rfl rfl Try.func166 (by kernel_rfl) rfl #[.slice A0 l0.length c0, .int .i64 a1] rfl (by first | rfl | (simp only [List.map_toArray, List.map_cons, List.map_nil]; first | done | rfl)) ?_; (with_reducible refine (slices_Index_int_int.calls k _ _ l0 a1 t279 _ ?side1 ?side2 A3.out).mono ?_); (case side1 => repeat (first | exact HR0.out | (with_reducible refine Kd.C_alloc ?_ _) | (with_reducible refine Kd.C_drewN ?_ _) | (with_reducible refine Kd.C_drew ?_))); (case side2 => exact HC0.out); rintro e w' ⟨rfl, ⟨nd, rfl⟩⟩; refine ⟨_, rfl, ?_⟩))
 go_ret
 exact ⟨by first | rfl | (simp; done) | (simp [*]; done), by repeat (first | exact Drawn0.refl _ | apply Drawn0.step)⟩
def impl_interfere_1.f (k : Nat) (a0 : Int) (a1_0 : Int) (a1_1 : Int) (a1_2 : Int) (a1_3 : Int) (a1_4 : Int) : Option (Bool) := (impl_touches.f a1_0 a1_1 a1_2 a1_3 a1_4).bind fun t281 => ((slices_Contains_int_int.f k t281 a0).bind fun t284 => (some t284))
theorem impl_interfere_1.mono : ∀ a0 a1 a2 a3 a4 a5 k, LeO (impl_interfere_1.f k a0 a1 a2 a3 a4 a5) (impl_interfere_1.f (k + 1) a0 a1 a2 a3 a4 a5) := by
 intro a0 a1 a2 a3 a4 a5 k
 unfold impl_interfere_1.f
 repeat' first
   | (with_reducible exact slices_Contains_int_int.mono _ _ _)
   | (with_reducible exact LeO.refl _)
   | (with_reducible exact LeO.none _)
   | (with_reducible refine LeO.ite ?_ ?_)
   | (with_reducible refine LeO.bind ?_ (fun _ => ?_))
   | exact slices_Contains_int_int.mono _ _ _
   | exact LeO.none _
   | refine LeO.ite ?_ ?_
   | refine LeO.bind ?_ (fun _ => ?_)
set_option maxHeartbeats 8000000 in
set_option maxRecDepth 100000 in
theorem impl_interfere_1.calls (k : Nat) (a0 : Int) (gq1 : Nat) (a1_0 : Int) (a1_1 : Int) (a1_2 : Int) (a1_3 : Int) (a1_4 : Int) (r : Bool) (w : World) (hb1 : w.heap[gq1]? = some (.cells #[.int .i64 a1_0, .int .i64 a1_1, .int .i64 a1_2, .int .i64 a1_3, .int .i64 a1_4] 26 (0, 0))) (h : impl_interfere_1.f k a0 a1_0 a1_1 a1_2 a1_3 a1_4 = some r) :
  Calls Try.prog 137 #[.int .i64 a0, .pointer (some ⟨gq1, 0, none⟩)] w fun e w' => e = .returned (.bool r) ∧ Below w.heap.size w w' := by
 have hu26 := Try.underlying26
 have BK280 := Am hb1
 clear hb1
 have HB := Am (Below.refl w.heap.size w)
 have H : ((impl_touches.f a1_0 a1_1 a1_2 a1_3 a1_4).bind fun t281 => ((slices_Contains_int_int.f k t281 a0).bind fun t284 => (some t284))) = some r := h
 clear h
 replace H := Option.bind_eq_some_iff.mp H
 obtain ⟨t281, A30, H⟩ := H
 replace H : ((slices_Contains_int_int.f k t281 a0).bind fun t284 => (some t284)) = some r := H
 have A3 := Am A30
 clear A30
 replace H := Option.bind_eq_some_iff.mp H
 obtain ⟨t284, A40, H⟩ := H
 replace H : (some t284) = some r := H
 have A4 := Am A40
 clear A40
 obtain rfl := Option.some.inj H
 have hcz5_0 : w.cell? ⟨gq1, 0, none⟩ = some (.int .i64 a1_0) := (Kc BK280.out 0).trans rfl
 have hcz5_1 : w.cell? ⟨gq1, 1, none⟩ = some (.int .i64 a1_1) := (Kc BK280.out 1).trans rfl
 have hcz5_2 : w.cell? ⟨gq1, 2, none⟩ = some (.int .i64 a1_2) := (Kc BK280.out 2).trans rfl
 have hcz5_3 : w.cell? ⟨gq1, 3, none⟩ = some (.int .i64 a1_3) := (Kc BK280.out 3).trans rfl
 have hcz5_4 : w.cell? ⟨gq1, 4, none⟩ = some (.int .i64 a1_4) := (Kc BK280.out 4).trans rfl
 have hfz5_0 := Kz BK280.out 0
 have hfz5_1 := Kz BK280.out 1
 have hfz5_2 := Kz BK280.out 2
 have hfz5_3 := Kz BK280.out 3
 have hfz5_4 := Kz BK280.out 4
 go_enter Try.func137, Try.ntmps137
 go_wp2_with (first | ((refine Gc (f := 136) rfl ?_); refine goesL_ (some 5) rfl rfl Try.func136 (by kernel_rfl) rfl #[.agg #[.int .i64 a1_0, .int .i64 a1_1, .int .i64 a1_2, .int .i64 a1_3, .int .i64 a1_4]] rfl (by first | rfl | (simp only [List.map_toArray, List.map_cons, List.map_nil]; first | done | rfl)) ?_; (with_reducible refine (impl_touches.calls a1_0 a1_1 a1_2 a1_3 a1_4 t281 _ A3.out).mono ?_); rintro e w6 ⟨v282, rfl, ho0, hb⟩; refine ⟨_, rfl, ?_⟩; have n0_ := Am (Kd.R_lower ho0 (Bz (by repeat (first | (with_reducible first | exact HB.out | apply Ba | apply Bn | apply Bd | refine Bs ?_ GE280.out) | exact HB.out)))); have n1_ := Am (Kb (g := gq1) (o := .cells #[.int .i64 a1_0, .int .i64 a1_1, .int .i64 a1_2, .int .i64 a1_3, .int .i64 a1_4] 26 (0, 0)) (by (with_reducible repeat (first | refine Kn ?_ _ | refine Ke ?_ | refine Ka ?_ _)); exact BK280.out) hb); have n2_ := Am (Bt (by repeat (first | (with_reducible first | exact HB.out | apply Ba | apply Bn | apply Bd | refine Bs ?_ GE280.out) | exact HB.out)) hb); clear BK280; clear HB; have HO283 := n0_; have BK280 := n1_; have HB := n2_; clear n0_ n1_ n2_; (try clear hb); (try clear hb2); (try clear hk); (try clear hi); (try clear ho0); obtain ⟨Ao7, co7, eo7⟩ := Kd.R_slice HO283.out; subst eo7) | ((refine Gc (f := 114) rfl ?_); refine goesL_ (some 7) rfl rfl Try.func114 (by kernel_rfl) rfl #[.slice Ao7 t281.length co7, .int .i64 a0] rfl (by first | rfl | (simp only [List.map_toArray, List.map_cons, List.map_nil]; first | done | rfl)) ?_; (with_reducible refine (slices_Contains_int_int.calls k _ _ t281 a0 t284 _ ?side1 ?side2 A4.out).mono ?_); (case side1 => repeat (first | exact (Kd.R_reads' HO283.out).2.2 | (with_reducible refine Kd.C_alloc ?_ _) | (with_reducible refine Kd.C_drewN ?_ _) | (with_reducible refine Kd.C_drew ?_))); (case side2 => exact (Kd.R_reads' HO283.out).2.1); rintro e w' ⟨rfl, ⟨nd, rfl⟩⟩; refine ⟨_, rfl, ?_⟩))
 go_ret
 exact ⟨by first | rfl | (simp [*, errW_none, errW_some] <;> rfl), by repeat (first | (with_reducible first | exact HB.out | apply Ba | apply Bn | apply Bd | refine Bs ?_ GE280.out) | exact HB.out)⟩
def impl_interfere_1_in_c.f (k : Nat) (l0 : List Int) (aa0_0 : Int) (aa0_1 : Int) (aa0_2 : Int) (aa0_3 : Int) (aa0_4 : Int) : Option Bool := Mine.anyO (fun x : Int => impl_interfere_1.f k x aa0_0 aa0_1 aa0_2 aa0_3 aa0_4) l0
theorem impl_interfere_1_in_c.mono : ∀ a0 b0 b1 b2 b3 b4 k, LeO (impl_interfere_1_in_c.f k a0 b0 b1 b2 b3 b4) (impl_interfere_1_in_c.f (k + 1) a0 b0 b1 b2 b3 b4) := by
 intro a0 b0 b1 b2 b3 b4 k
 unfold impl_interfere_1_in_c.f
 exact Mine.anyO_mono (fun (x : Int) b_ hb_ => impl_interfere_1.mono x b0 b1 b2 b3 b4 k b_ hb_) a0
set_option maxHeartbeats 2000000 in
theorem impl_interfere_1_in_c.calls (k : Nat) (A0 : Option Addr) (c0 : Nat) (l0 : List Int) (gq0 : Nat) (aa0_0 : Int) (aa0_1 : Int) (aa0_2 : Int) (aa0_3 : Int) (aa0_4 : Int) (r : Bool) (w : World) (hr0 : Kd.C (Kd.int .i64) w A0 l0.length l0) (hc0 : l0.length ≤ c0) (hb0 : w.heap[gq0]? = some (.cells #[.int .i64 aa0_0, .int .i64 aa0_1, .int .i64 aa0_2, .int .i64 aa0_3, .int .i64 aa0_4] 26 (0, 0))) (h : impl_interfere_1_in_c.f k l0 aa0_0 aa0_1 aa0_2 aa0_3 aa0_4 = some r) :
  Calls Try.prog 74 #[.slice A0 l0.length c0, .func (.func 137) #[] #[.pointer (some ⟨gq0, 0, none⟩)]] w fun e w' => e = .returned (.bool r) ∧ Below w.heap.size w w' :=
 slices_ContainsFunc_int_int.anyO 137 #[.pointer (some ⟨gq0, 0, none⟩)] (fun x : Int => impl_interfere_1.f k x aa0_0 aa0_1 aa0_2 aa0_3 aa0_4) A0 c0 l0 w r (fun args w => enters_ Try.func137 (by kernel_rfl) rfl args w) hr0 hc0
  (fun W x hx bW b hb_ => (impl_interfere_1.calls k x gq0 aa0_0 aa0_1 aa0_2 aa0_3 aa0_4 b W (Kb hb0 bW) hb_).mono (fun e w' hh => ⟨hh.1, hh.2⟩)) h
def impl_interfere.f (k : Nat) (a0_0 : Int) (a0_1 : Int) (a0_2 : Int) (a0_3 : Int) (a0_4 : Int) (a1_0 : Int) (a1_1 : Int) (a1_2 : Int) (a1_3 : Int) (a1_4 : Int) : Option (Bool) := (impl_touches.f a0_0 a0_1 a0_2 a0_3 a0_4).bind fun t287 => ((impl_interfere_1_in_c.f k t287 a1_0 a1_1 a1_2 a1_3 a1_4).bind fun t290 => (some t290))
theorem impl_interfere.mono : ∀ a0 a1 a2 a3 a4 a5 a6 a7 a8 a9 k, LeO (impl_interfere.f k a0 a1 a2 a3 a4 a5 a6 a7 a8 a9) (impl_interfere.f (k + 1) a0 a1 a2 a3 a4 a5 a6 a7 a8 a9) := by
 intro a0 a1 a2 a3 a4 a5 a6 a7 a8 a9 k
 unfold impl_interfere.f
 repeat' first
   | (with_reducible exact impl_interfere_1_in_c.mono _ _ _ _ _ _ _)
   | (with_reducible exact LeO.refl _)
   | (with_reducible exact LeO.none _)
   | (with_reducible refine LeO.ite ?_ ?_)
   | (with_reducible refine LeO.bind ?_ (fun _ => ?_))
   | exact impl_interfere_1_in_c.mono _ _ _ _ _ _ _
   | exact LeO.none _
   | refine LeO.ite ?_ ?_
   | refine LeO.bind ?_ (fun _ => ?_)
set_option maxHeartbeats 8000000 in
set_option maxRecDepth 100000 in
theorem impl_interfere.calls (k : Nat) (a0_0 : Int) (a0_1 : Int) (a0_2 : Int) (a0_3 : Int) (a0_4 : Int) (a1_0 : Int) (a1_1 : Int) (a1_2 : Int) (a1_3 : Int) (a1_4 : Int) (r : Bool) (w : World) (h : impl_interfere.f k a0_0 a0_1 a0_2 a0_3 a0_4 a1_0 a1_1 a1_2 a1_3 a1_4 = some r) :
  Calls Try.prog 80 #[.agg #[.int .i64 a0_0, .int .i64 a0_1, .int .i64 a0_2, .int .i64 a0_3, .int .i64 a0_4], .agg #[.int .i64 a1_0, .int .i64 a1_1, .int .i64 a1_2, .int .i64 a1_3, .int .i64 a1_4]] w fun e w' => e = .returned (.bool r) ∧ Below w.heap.size w w' := by
 have hu26 := Try.underlying26
 have HB := Am (Below.refl w.heap.size w)
 have H : ((impl_touches.f a0_0 a0_1 a0_2 a0_3 a0_4).bind fun t287 => ((impl_interfere_1_in_c.f k t287 a1_0 a1_1 a1_2 a1_3 a1_4).bind fun t290 => (some t290))) = some r := h
 clear h
 replace H := Option.bind_eq_some_iff.mp H
 obtain ⟨t287, A30, H⟩ := H
 replace H : ((impl_interfere_1_in_c.f k t287 a1_0 a1_1 a1_2 a1_3 a1_4).bind fun t290 => (some t290)) = some r := H
 have A3 := Am A30
 clear A30
 replace H := Option.bind_eq_some_iff.mp H
 obtain ⟨t290, A40, H⟩ := H
 replace H : (some t290) = some r := H
 have A4 := Am A40
 clear A40
 obtain rfl := Option.some.inj H
 go_enter Try.func80, Try.ntmps80
 go_wp2_with (first | ((refine Gd (N := 2) rfl ?_); refine Be ?hg (N := 2) ?hd (cs := #[.int .i64 a0_0, .int .i64 a0_1, .int .i64 a0_2, .int .i64 a0_3, .int .i64 a0_4]) (t := 26) ?hr ?_; (case hd | hg => rfl); (case hr => first | (go_simp; done) | (go_simp; rfl)); intro gb285 hg w5 hbox hb; have n0_ := Am (Bt (by repeat (first | exact HB.out | apply Ba | apply Bn | apply Bd)) hb); have n1_ := Am (hbox); have n2_ := Am ((by rw [hg]; exact (Bz (by repeat (first | exact HB.out | apply Ba | apply Bn | apply Bd))) : w.heap.size ≤ gb285)); have n3_ := Am ((by rw [hg]; exact (Bz (by repeat (first | exact HB.out | apply Ba | apply Bn | apply Bd))) : w.heap.size ≤ gb285)); clear HB; have HB := n0_; have BK285 := n1_; have GW285 := n2_; have GE285 := n3_; clear n0_ n1_ n2_ n3_; clear hb hbox hg) | ((refine Gd (N := 3) rfl ?_); refine Be ?hg (N := 3) ?hd (cs := #[.int .i64 a1_0, .int .i64 a1_1, .int .i64 a1_2, .int .i64 a1_3, .int .i64 a1_4]) (t := 26) ?hr ?_; (case hd | hg => rfl); (case hr => first | (go_simp; done) | (go_simp; rfl)); intro gb286 hg w6 hbox hb; have n0_ := Am (Kb (g := gb285) (o := .cells #[.int .i64 a0_0, .int .i64 a0_1, .int .i64 a0_2, .int .i64 a0_3, .int .i64 a0_4] 26 (0, 0)) (by (with_reducible repeat (first | refine Kn ?_ _ | refine Ke ?_ | refine Ka ?_ _)); exact BK285.out) hb); have n1_ := Am (Bt (by repeat (first | (with_reducible first | exact HB.out | apply Ba | apply Bn | apply Bd | refine Bs ?_ GE285.out) | exact HB.out)) hb); have n2_ := Am (hbox); have n3_ := Am ((by rw [hg]; exact (Bz (by repeat (first | (with_reducible first | exact HB.out | apply Ba | apply Bn | apply Bd | refine Bs ?_ GE285.out) | exact HB.out))) : w.heap.size ≤ gb286)); have n4_ := Am ((by rw [hg]; exact (Bz (by repeat (first | (with_reducible first | exact HB.out | apply Ba | apply Bn | apply Bd | refine Bs ?_ GE285.out) | exact HB.out))) : w.heap.size ≤ gb286)); have n5_ := Am ((by rw [hg]; exact Nat.ne_of_lt (blk_lt (g := gb285) (o := .cells #[.int .i64 a0_0, .int .i64 a0_1, .int .i64 a0_2, .int .i64 a0_3, .int .i64 a0_4] 26 (0, 0)) (by (with_reducible repeat (first | refine Kn ?_ _ | refine Ke ?_ | refine Ka ?_ _)); exact BK285.out)) : gb285 ≠ gb286)); have n6_ := Am ((by rw [hg]; exact Nat.ne_of_gt (blk_lt (g := gb285) (o := .cells #[.int .i64 a0_0, .int .i64 a0_1, .int .i64 a0_2, .int .i64 a0_3, .int .i64 a0_4] 26 (0, 0)) (by (with_reducible repeat (first | refine Kn ?_ _ | refine Ke ?_ | refine Ka ?_ _)); exact BK285.out)) : gb286 ≠ gb285)); clear BK285; clear HB; have BK285 := n0_; have HB := n1_; have BK286 := n2_; have GW286 := n3_; have GE286 := n4_; have NB285_286 := n5_; have NB286_285 := n6_; clear n0_ n1_ n2_ n3_ n4_ n5_ n6_; clear hb hbox hg; have hnb7 := NB285_286.out; have hnc7 := NB286_285.out; have hcz8_0 : w6.cell? ⟨gb285, 0, none⟩ = some (.int .i64 a0_0) := (Kc BK285.out 0).trans rfl; have hcz8_1 : w6.cell? ⟨gb285, 1, none⟩ = some (.int .i64 a0_1) := (Kc BK285.out 1).trans rfl; have hcz8_2 : w6.cell? ⟨gb285, 2, none⟩ = some (.int .i64 a0_2) := (Kc BK285.out 2).trans rfl; have hcz8_3 : w6.cell? ⟨gb285, 3, none⟩ = some (.int .i64 a0_3) := (Kc BK285.out 3).trans rfl; have hcz8_4 : w6.cell? ⟨gb285, 4, none⟩ = some (.int .i64 a0_4) := (Kc BK285.out 4).trans rfl; have hfz8_0 := Kz BK285.out 0; have hfz8_1 := Kz BK285.out 1; have hfz8_2 := Kz BK285.out 2; have hfz8_3 := Kz BK285.out 3; have hfz8_4 := Kz BK285.out 4) | ((refine Gc (f := 136) rfl ?_); refine goesL_ (some 6) rfl rfl Try.func136 (by kernel_rfl) rfl #[.agg #[.int .i64 a0_0, .int .i64 a0_1, .int .i64 a0_2, .int .i64 a0_3, .int .i64 a0_4]] rfl (by first | rfl | (simp only [List.map_toArray, List.map_cons, List.map_nil]; first | done | rfl)) ?_; (with_reducible refine (impl_touches.calls a0_0 a0_1 a0_2 a0_3 a0_4 t287 _ A3.out).mono ?_); rintro e w9 ⟨v288, rfl, ho0, hb⟩; refine ⟨_, rfl, ?_⟩; have n0_ := Am (Kd.R_lower ho0 (Bz (by repeat (first | (with_reducible first | exact HB.out | apply Ba | apply Bn | apply Bd | refine Bs ?_ GE285.out | refine Bs ?_ GE286.out) | exact HB.out)))); have n1_ := Am (Kb (g := gb285) (o := .cells #[.int .i64 a0_0, .int .i64 a0_1, .int .i64 a0_2, .int .i64 a0_3, .int .i64 a0_4] 26 (0, 0)) (by (with_reducible repeat (first | refine Kn ?_ _ | refine Ke ?_ | refine Ka ?_ _)); exact BK285.out) hb); have n2_ := Am (Kb (g := gb286) (o := .cells #[.int .i64 a1_0, .int .i64 a1_1, .int .i64 a1_2, .int .i64 a1_3, .int .i64 a1_4] 26 (0, 0)) (by (with_reducible repeat (first | refine Kn ?_ _ | refine Ke ?_ | refine Ka ?_ _)); exact BK286.out) hb); have n3_ := Am (Bt (by repeat (first | (with_reducible first | exact HB.out | apply Ba | apply Bn | apply Bd | refine Bs ?_ GE285.out | refine Bs ?_ GE286.out) | exact HB.out)) hb); clear BK285; clear BK286; clear HB; have HO289 := n0_; have BK285 := n1_; have BK286 := n2_; have HB := n3_; clear n0_ n1_ n2_ n3_; (try clear hb); (try clear hb2); (try clear hk); (try clear hi); (try clear ho0); obtain ⟨Ao10, co10, eo10⟩ := Kd.R_slice HO289.out; subst eo10) | ((refine Gc (f := 74) rfl ?_); refine goesL_ (some 8) rfl rfl Try.func74 (by kernel_rfl) rfl #[.slice Ao10 t287.length co10, .func (.func 137) #[] #[.pointer (some ⟨gb286, 0, none⟩)]] rfl (by first | rfl | (simp only [List.map_toArray, List.map_cons, List.map_nil]; first | done | rfl)) ?_; (with_reducible refine (impl_interfere_1_in_c.calls k _ _ t287 gb286 a1_0 a1_1 a1_2 a1_3 a1_4 t290 _ ?side1 ?side2 ?side3 A4.out).mono ?_); (case side1 => repeat (first | exact (Kd.R_reads' HO289.out).2.2 | (with_reducible refine Kd.C_alloc ?_ _) | (with_reducible refine Kd.C_drewN ?_ _) | (with_reducible refine Kd.C_drew ?_))); (case side2 => exact (Kd.R_reads' HO289.out).2.1); (case side3 => exact by (with_reducible repeat (first | refine Kn ?_ _ | refine Ke ?_ | refine Ka ?_ _)); exact BK286.out); rintro e w11 ⟨rfl, hb⟩; refine ⟨_, rfl, ?_⟩; have n0_ := Am (Kd.R_below (by (with_reducible repeat (first | apply Ra | apply Rn | apply Rd)); exact HO289.out) hb); have n1_ := Am (Kb (g := gb285) (o := .cells #[.int .i64 a0_0, .int .i64 a0_1, .int .i64 a0_2, .int .i64 a0_3, .int .i64 a0_4] 26 (0, 0)) (by (with_reducible repeat (first | refine Kn ?_ _ | refine Ke ?_ | refine Ka ?_ _)); exact BK285.out) hb); have n2_ := Am (Kb (g := gb286) (o := .cells #[.int .i64 a1_0, .int .i64 a1_1, .int .i64 a1_2, .int .i64 a1_3, .int .i64 a1_4] 26 (0, 0)) (by (with_reducible repeat (first | refine Kn ?_ _ | refine Ke ?_ | refine Ka ?_ _)); exact BK286.out) hb); have n3_ := Am (Bt (by repeat (first | (with_reducible first | exact HB.out | apply Ba | apply Bn | apply Bd | refine Bs ?_ GE285.out | refine Bs ?_ GE286.out) | exact HB.out)) hb); clear HO289; clear BK285; clear BK286; clear HB; have HO289 := n0_; have BK285 := n1_; have BK286 := n2_; have HB := n3_; clear n0_ n1_ n2_ n3_; (try clear hb); (try clear hb2); (try clear hk); (try clear hi)))
 go_ret
 exact ⟨by first | rfl | (simp [*, errW_none, errW_some] <;> rfl), by repeat (first | (with_reducible first | exact HB.out | apply Ba | apply Bn | apply Bd | refine Bs ?_ GE285.out | refine Bs ?_ GE286.out) | exact HB.out)⟩
def impl_Interfere.f (k : Nat) (a0_0 : Int) (a0_1 : Int) (a0_2 : Int) (a0_3 : Int) (a0_4 : Int) (a1_0 : Int) (a1_1 : Int) (a1_2 : Int) (a1_3 : Int) (a1_4 : Int) : Option (Bool × Bool) := (impl_GoodCmd.f a0_0 a0_1 a0_2 a0_3 a0_4).bind fun t293 => (if t293 = true then ((impl_GoodCmd.f a1_0 a1_1 a1_2 a1_3 a1_4).bind fun t294 => (if t294 = true then ((impl_interfere.f k a0_0 a0_1 a0_2 a0_3 a0_4 a1_0 a1_1 a1_2 a1_3 a1_4).bind fun t295 => (some (t295, true))) else (some (false, false)))) else (some (false, false)))
theorem impl_Interfere.mono : ∀ a0 a1 a2 a3 a4 a5 a6 a7 a8 a9 k, LeO (impl_Interfere.f k a0 a1 a2 a3 a4 a5 a6 a7 a8 a9) (impl_Interfere.f (k + 1) a0 a1 a2 a3 a4 a5 a6 a7 a8 a9) := by
 intro a0 a1 a2 a3 a4 a5 a6 a7 a8 a9 k
 unfold impl_Interfere.f
 repeat' first
   | (with_reducible exact impl_interfere.mono _ _ _ _ _ _ _ _ _ _ _)
   | (with_reducible exact LeO.refl _)
   | (with_reducible exact LeO.none _)
   | (with_reducible refine LeO.ite ?_ ?_)
   | (with_reducible refine LeO.bind ?_ (fun _ => ?_))
   | exact impl_interfere.mono _ _ _ _ _ _ _ _ _ _ _
   | exact LeO.none _
   | refine LeO.ite ?_ ?_
   | refine LeO.bind ?_ (fun _ => ?_)
set_option maxHeartbeats 8000000 in
set_option maxRecDepth 100000 in
theorem impl_Interfere.calls (k : Nat) (a0_0 : Int) (a0_1 : Int) (a0_2 : Int) (a0_3 : Int) (a0_4 : Int) (a1_0 : Int) (a1_1 : Int) (a1_2 : Int) (a1_3 : Int) (a1_4 : Int) (r1 : Bool) (r2 : Bool) (w : World) (h : impl_Interfere.f k a0_0 a0_1 a0_2 a0_3 a0_4 a1_0 a1_1 a1_2 a1_3 a1_4 = some (r1, r2)) :
  Calls Try.prog 21 #[.agg #[.int .i64 a0_0, .int .i64 a0_1, .int .i64 a0_2, .int .i64 a0_3, .int .i64 a0_4], .agg #[.int .i64 a1_0, .int .i64 a1_1, .int .i64 a1_2, .int .i64 a1_3, .int .i64 a1_4]] w fun e w' => e = .returned (.tuple #[.bool r1, .bool r2]) ∧ Below w.heap.size w w' := by
 have hu26 := Try.underlying26
 have HB := Am (Below.refl w.heap.size w)
 have H : ((impl_GoodCmd.f a0_0 a0_1 a0_2 a0_3 a0_4).bind fun t293 => (if t293 = true then ((impl_GoodCmd.f a1_0 a1_1 a1_2 a1_3 a1_4).bind fun t294 => (if t294 = true then ((impl_interfere.f k a0_0 a0_1 a0_2 a0_3 a0_4 a1_0 a1_1 a1_2 a1_3 a1_4).bind fun t295 => (some (t295, true))) else (some (false, false)))) else (some (false, false)))) = some (r1, r2) := h
 clear h
 replace H := Option.bind_eq_some_iff.mp H
 obtain ⟨t293, A30, H⟩ := H
 replace H : (if t293 = true then ((impl_GoodCmd.f a1_0 a1_1 a1_2 a1_3 a1_4).bind fun t294 => (if t294 = true then ((impl_interfere.f k a0_0 a0_1 a0_2 a0_3 a0_4 a1_0 a1_1 a1_2 a1_3 a1_4).bind fun t295 => (some (t295, true))) else (some (false, false)))) else (some (false, false))) = some (r1, r2) := H
 have A3 := Am A30
 clear A30
 by_cases c4 : t293 = true
 ·subst c4
  have H1 : ((impl_GoodCmd.f a1_0 a1_1 a1_2 a1_3 a1_4).bind fun t294 => (if t294 = true then ((impl_interfere.f k a0_0 a0_1 a0_2 a0_3 a0_4 a1_0 a1_1 a1_2 a1_3 a1_4).bind fun t295 => (some (t295, true))) else (some (false, false)))) = some (r1, r2) := by rw [if_pos rfl] at H; exact H
  clear H
  have H := H1
  clear H1
  replace H := Option.bind_eq_some_iff.mp H
  obtain ⟨t294, A50, H⟩ := H
  replace H : (if t294 = true then ((impl_interfere.f k a0_0 a0_1 a0_2 a0_3 a0_4 a1_0 a1_1 a1_2 a1_3 a1_4).bind fun t295 => (some (t295, true))) else (some (false, false))) = some (r1, r2) := H
  have A5 := Am A50
  clear A50
  by_cases c6 : t294 = true
  ·subst c6
   have H1 : ((impl_interfere.f k a0_0 a0_1 a0_2 a0_3 a0_4 a1_0 a1_1 a1_2 a1_3 a1_4).bind fun t295 => (some (t295, true))) = some (r1, r2) := by rw [if_pos rfl] at H; exact H
   clear H
   have H := H1
   clear H1
   replace H := Option.bind_eq_some_iff.mp H
   obtain ⟨t295, A70, H⟩ := H
   replace H : (some (t295, true)) = some (r1, r2) := H
   have A7 := Am A70
   clear A70
   simp only [Option.some.injEq, Prod.mk.injEq] at H
   obtain ⟨rfl, rfl⟩ := H
   go_enter Try.func21, Try.ntmps21
   go_wp2_with (first | ((refine Gd (N := 2) rfl ?_); refine Be ?hg (N := 2) ?hd (cs := #[.int .i64 a0_0, .int .i64 a0_1, .int .i64 a0_2, .int .i64 a0_3, .int .i64 a0_4]) (t := 26) ?hr ?_; (case hd | hg => rfl); (case hr => first | (go_simp; done) | (go_simp; rfl)); intro gb291 hg w8 hbox hb; have n0_ := Am (Bt (by repeat (first | exact HB.out | apply Ba | apply Bn | apply Bd)) hb); have n1_ := Am (hbox); have n2_ := Am ((by rw [hg]; exact (Bz (by repeat (first | exact HB.out | apply Ba | apply Bn | apply Bd))) : w.heap.size ≤ gb291)); have n3_ := Am ((by rw [hg]; exact (Bz (by repeat (first | exact HB.out | apply Ba | apply Bn | apply Bd))) : w.heap.size ≤ gb291)); clear HB; have HB := n0_; have BK291 := n1_; have GW291 := n2_; have GE291 := n3_; clear n0_ n1_ n2_ n3_; clear hb hbox hg) | ((refine Gd (N := 3) rfl ?_); refine Be ?hg (N := 3) ?hd (cs := #[.int .i64 a1_0, .int .i64 a1_1, .int .i64 a1_2, .int .i64 a1_3, .int .i64 a1_4]) (t := 26) ?hr ?_; (case hd | hg => rfl); (case hr => first | (go_simp; done) | (go_simp; rfl)); intro gb292 hg w9 hbox hb; have n0_ := Am (Kb (g := gb291) (o := .cells #[.int .i64 a0_0, .int .i64 a0_1, .int .i64 a0_2, .int .i64 a0_3, .int .i64 a0_4] 26 (0, 0)) (by (with_reducible repeat (first | refine Kn ?_ _ | refine Ke ?_ | refine Ka ?_ _)); exact BK291.out) hb); have n1_ := Am (Bt (by repeat (first | (with_reducible first | exact HB.out | apply Ba | apply Bn | apply Bd | refine Bs ?_ GE291.out) | exact HB.out)) hb); have n2_ := Am (hbox); have n3_ := Am ((by rw [hg]; exact (Bz (by repeat (first | (with_reducible first | exact HB.out | apply Ba | apply Bn | apply Bd | refine Bs ?_ GE291.out) | exact HB.out))) : w.heap.size ≤ gb292)); have n4_ := Am ((by rw [hg]; exact (Bz (by repeat (first | (with_reducible first | exact HB.out | apply Ba | apply Bn | apply Bd | refine Bs ?_ GE291.out) | exact HB.out))) : w.heap.size ≤ gb292)); have n5_ := Am ((by rw [hg]; exact Nat.ne_of_lt (blk_lt (g := gb291) (o := .cells #[.int .i64 a0_0, .int .i64 a0_1, .int .i64 a0_2, .int .i64 a0_3, .int .i64 a0_4] 26 (0, 0)) (by (with_reducible repeat (first | refine Kn ?_ _ | refine Ke ?_ | refine Ka ?_ _)); exact BK291.out)) : gb291 ≠ gb292)); have n6_ := Am ((by rw [hg]; exact Nat.ne_of_gt (blk_lt (g := gb291) (o := .cells #[.int .i64 a0_0, .int .i64 a0_1, .int .i64 a0_2, .int .i64 a0_3, .int .i64 a0_4] 26 (0, 0)) (by (with_reducible repeat (first | refine Kn ?_ _ | refine Ke ?_ | refine Ka ?_ _)); exact BK291.out)) : gb292 ≠ gb291)); clear BK291; clear HB; have BK291 := n0_; have HB := n1_; have BK292 := n2_; have GW292 := n3_; have GE292 := n4_; have NB291_292 := n5_; have NB292_291 := n6_; clear n0_ n1_ n2_ n3_ n4_ n5_ n6_; clear hb hbox hg; have hnb10 := NB291_292.out; have hnc10 := NB292_291.out; have hcz11_0 : w9.cell? ⟨gb291, 0, none⟩ = some (.int .i64 a0_0) := (Kc BK291.out 0).trans rfl; have hcz11_1 : w9.cell? ⟨gb291, 1, none⟩ = some (.int .i64 a0_1) := (Kc BK291.out 1).trans rfl; have hcz11_2 : w9.cell? ⟨gb291, 2, none⟩ = some (.int .i64 a0_2) := (Kc BK291.out 2).trans rfl; have hcz11_3 : w9.cell? ⟨gb291, 3, none⟩ = some (.int .i64 a0_3) := (Kc BK291.out 3).trans rfl; have hcz11_4 : w9.cell? ⟨gb291, 4, none⟩ = some (.int .i64 a0_4) := (Kc BK291.out 4).trans rfl; have hfz11_0 := Kz BK291.out 0; have hfz11_1 := Kz BK291.out 1; have hfz11_2 := Kz BK291.out 2; have hfz11_3 := Kz BK291.out 3; have hfz11_4 := Kz BK291.out 4) | ((refine Gc (f := 69) rfl ?_); refine goesL_ (some 7) rfl rfl Try.func69 (by kernel_rfl) rfl #[.agg #[.int .i64 a0_0, .int .i64 a0_1, .int .i64 a0_2, .int .i64 a0_3, .int .i64 a0_4]] rfl (by first | rfl | (simp only [List.map_toArray, List.map_cons, List.map_nil]; first | done | rfl)) ?_; (with_reducible refine (impl_GoodCmd.calls a0_0 a0_1 a0_2 a0_3 a0_4 true _ A3.out).mono ?_); rintro e w12 ⟨rfl, hb⟩; refine ⟨_, rfl, ?_⟩; have n0_ := Am (Kb (g := gb291) (o := .cells #[.int .i64 a0_0, .int .i64 a0_1, .int .i64 a0_2, .int .i64 a0_3, .int .i64 a0_4] 26 (0, 0)) (by (with_reducible repeat (first | refine Kn ?_ _ | refine Ke ?_ | refine Ka ?_ _)); exact BK291.out) hb); have n1_ := Am (Kb (g := gb292) (o := .cells #[.int .i64 a1_0, .int .i64 a1_1, .int .i64 a1_2, .int .i64 a1_3, .int .i64 a1_4] 26 (0, 0)) (by (with_reducible repeat (first | refine Kn ?_ _ | refine Ke ?_ | refine Ka ?_ _)); exact BK292.out) hb); have n2_ := Am (Bt (by repeat (first | (with_reducible first | exact HB.out | apply Ba | apply Bn | apply Bd | refine Bs ?_ GE291.out | refine Bs ?_ GE292.out) | exact HB.out)) hb); clear BK291; clear BK292; clear HB; have BK291 := n0_; have BK292 := n1_; have HB := n2_; clear n0_ n1_ n2_; (try clear hb); (try clear hb2); (try clear hk); (try clear hi); have hcz13_0 : w12.cell? ⟨gb292, 0, none⟩ = some (.int .i64 a1_0) := (Kc BK292.out 0).trans rfl; have hcz13_1 : w12.cell? ⟨gb292, 1, none⟩ = some (.int .i64 a1_1) := (Kc BK292.out 1).trans rfl; have hcz13_2 : w12.cell? ⟨gb292, 2, none⟩ = some (.int .i64 a1_2) := (Kc BK292.out 2).trans rfl; have hcz13_3 : w12.cell? ⟨gb292, 3, none⟩ = some (.int .i64 a1_3) := (Kc BK292.out 3).trans rfl; have hcz13_4 : w12.cell? ⟨gb292, 4, none⟩ = some (.int .i64 a1_4) := (Kc BK292.out 4).trans rfl; have hfz13_0 := Kz BK292.out 0; have hfz13_1 := Kz BK292.out 1; have hfz13_2 := Kz BK292.out 2; have hfz13_3 := Kz BK292.out 3; have hfz13_4 := Kz BK292.out 4) | (go_at_call 69; (with_reducible refine (impl_GoodCmd.calls a1_0 a1_1 a1_2 a1_3 a1_4 true _ A5.out).mono ?_); rintro e w14 ⟨rfl, hb⟩; have n0_ := Am (Kb (g := gb291) (o := .cells #[.int .i64 a0_0, .int .i64 a0_1, .int .i64 a0_2, .int .i64 a0_3, .int .i64 a0_4] 26 (0, 0)) (by (with_reducible repeat (first | refine Kn ?_ _ | refine Ke ?_ | refine Ka ?_ _)); exact BK291.out) hb); have n1_ := Am (Kb (g := gb292) (o := .cells #[.int .i64 a1_0, .int .i64 a1_1, .int .i64 a1_2, .int .i64 a1_3, .int .i64 a1_4] 26 (0, 0)) (by (with_reducible repeat (first | refine Kn ?_ _ | refine Ke ?_ | refine Ka ?_ _)); exact BK292.out) hb); have n2_ := Am (Bt (by repeat (first | (with_reducible first | exact HB.out | apply Ba | apply Bn | apply Bd | refine Bs ?_ GE291.out | refine Bs ?_ GE292.out) | exact HB.out)) hb); clear BK291; clear BK292; clear HB; have BK291 := n0_; have BK292 := n1_; have HB := n2_; clear n0_ n1_ n2_; (try clear hb); (try clear hb2); (try clear hk); (try clear hi); have hcz15_0 : w14.cell? ⟨gb291, 0, none⟩ = some (.int .i64 a0_0) := (Kc BK291.out 0).trans rfl; have hcz15_1 : w14.cell? ⟨gb291, 1, none⟩ = some (.int .i64 a0_1) := (Kc BK291.out 1).trans rfl; have hcz15_2 : w14.cell? ⟨gb291, 2, none⟩ = some (.int .i64 a0_2) := (Kc BK291.out 2).trans rfl; have hcz15_3 : w14.cell? ⟨gb291, 3, none⟩ = some (.int .i64 a0_3) := (Kc BK291.out 3).trans rfl; have hcz15_4 : w14.cell? ⟨gb291, 4, none⟩ = some (.int .i64 a0_4) := (Kc BK291.out 4).trans rfl; have hfz15_0 := Kz BK291.out 0; have hfz15_1 := Kz BK291.out 1; have hfz15_2 := Kz BK291.out 2; have hfz15_3 := Kz BK291.out 3; have hfz15_4 := Kz BK291.out 4; have hcz16_0 : w14.cell? ⟨gb292, 0, none⟩ = some (.int .i64 a1_0) := (Kc BK292.out 0).trans rfl; have hcz16_1 : w14.cell? ⟨gb292, 1, none⟩ = some (.int .i64 a1_1) := (Kc BK292.out 1).trans rfl; have hcz16_2 : w14.cell? ⟨gb292, 2, none⟩ = some (.int .i64 a1_2) := (Kc BK292.out 2).trans rfl; have hcz16_3 : w14.cell? ⟨gb292, 3, none⟩ = some (.int .i64 a1_3) := (Kc BK292.out 3).trans rfl; have hcz16_4 : w14.cell? ⟨gb292, 4, none⟩ = some (.int .i64 a1_4) := (Kc BK292.out 4).trans rfl; have hfz16_0 := Kz BK292.out 0; have hfz16_1 := Kz BK292.out 1; have hfz16_2 := Kz BK292.out 2; have hfz16_3 := Kz BK292.out 3; have hfz16_4 := Kz BK292.out 4) | ((refine Gc (f := 80) rfl ?_); refine goesL_ (some 16) rfl rfl Try.func80 (by kernel_rfl) rfl #[.agg #[.int .i64 a0_0, .int .i64 a0_1, .int .i64 a0_2, .int .i64 a0_3, .int .i64 a0_4], .agg #[.int .i64 a1_0, .int .i64 a1_1, .int .i64 a1_2, .int .i64 a1_3, .int .i64 a1_4]] rfl (by first | rfl | (simp only [List.map_toArray, List.map_cons, List.map_nil]; first | done | rfl)) ?_; (with_reducible refine (impl_interfere.calls k a0_0 a0_1 a0_2 a0_3 a0_4 a1_0 a1_1 a1_2 a1_3 a1_4 t295 _ A7.out).mono ?_); rintro e w17 ⟨rfl, hb⟩; refine ⟨_, rfl, ?_⟩; have n0_ := Am (Kb (g := gb291) (o := .cells #[.int .i64 a0_0, .int .i64 a0_1, .int .i64 a0_2, .int .i64 a0_3, .int .i64 a0_4] 26 (0, 0)) (by (with_reducible repeat (first | refine Kn ?_ _ | refine Ke ?_ | refine Ka ?_ _)); exact BK291.out) hb); have n1_ := Am (Kb (g := gb292) (o := .cells #[.int .i64 a1_0, .int .i64 a1_1, .int .i64 a1_2, .int .i64 a1_3, .int .i64 a1_4] 26 (0, 0)) (by (with_reducible repeat (first | refine Kn ?_ _ | refine Ke ?_ | refine Ka ?_ _)); exact BK292.out) hb); have n2_ := Am (Bt (by repeat (first | (with_reducible first | exact HB.out | apply Ba | apply Bn | apply Bd | refine Bs ?_ GE291.out | refine Bs ?_ GE292.out) | exact HB.out)) hb); clear BK291; clear BK292; clear HB; have BK291 := n0_; have BK292 := n1_; have HB := n2_; clear n0_ n1_ n2_; (try clear hb); (try clear hb2); (try clear hk); (try clear hi)))
   go_ret2
   exact ⟨by first | rfl | (simp [*, errW_none, errW_some] <;> rfl), by repeat (first | (with_reducible first | exact HB.out | apply Ba | apply Bn | apply Bd | refine Bs ?_ GE291.out | refine Bs ?_ GE292.out) | exact HB.out)⟩
  ·replace c6 := Bool.eq_false_iff.mpr c6
   subst c6
   have H1 : (some (false, false)) = some (r1, r2) := by rw [if_neg (show ¬ (false = true) by decide)] at H; exact H
   clear H
   have H := H1
   clear H1
   simp only [Option.some.injEq, Prod.mk.injEq] at H
   obtain ⟨rfl, rfl⟩ := H
   go_enter Try.func21, Try.ntmps21
   go_wp2_with (first | ((refine Gd (N := 2) rfl ?_); refine Be ?hg (N := 2) ?hd (cs := #[.int .i64 a0_0, .int .i64 a0_1, .int .i64 a0_2, .int .i64 a0_3, .int .i64 a0_4]) (t := 26) ?hr ?_; (case hd | hg => rfl); (case hr => first | (go_simp; done) | (go_simp; rfl)); intro gb291 hg w18 hbox hb; have n0_ := Am (Bt (by repeat (first | exact HB.out | apply Ba | apply Bn | apply Bd)) hb); have n1_ := Am (hbox); have n2_ := Am ((by rw [hg]; exact (Bz (by repeat (first | exact HB.out | apply Ba | apply Bn | apply Bd))) : w.heap.size ≤ gb291)); have n3_ := Am ((by rw [hg]; exact (Bz (by repeat (first | exact HB.out | apply Ba | apply Bn | apply Bd))) : w.heap.size ≤ gb291)); clear HB; have HB := n0_; have BK291 := n1_; have GW291 := n2_; have GE291 := n3_; clear n0_ n1_ n2_ n3_; clear hb hbox hg) | ((refine Gd (N := 3) rfl ?_); refine Be ?hg (N := 3) ?hd (cs := #[.int .i64 a1_0, .int .i64 a1_1, .int .i64 a1_2, .int .i64 a1_3, .int .i64 a1_4]) (t := 26) ?hr ?_; (case hd | hg => rfl); (case hr => first | (go_simp; done) | (go_simp; rfl)); intro gb292 hg w19 hbox hb; have n0_ := Am (Kb (g := gb291) (o := .cells #[.int .i64 a0_0, .int .i64 a0_1, .int .i64 a0_2, .int .i64 a0_3, .int .i64 a0_4] 26 (0, 0)) (by (with_reducible repeat (first | refine Kn ?_ _ | refine Ke ?_ | refine Ka ?_ _)); exact BK291.out) hb); have n1_ := Am (Bt (by repeat (first | (with_reducible first | exact HB.out | apply Ba | apply Bn | apply Bd | refine Bs ?_ GE291.out) | exact HB.out)) hb); have n2_ := Am (hbox); have n3_ := Am ((by rw [hg]; exact (Bz (by repeat (first | (with_reducible first | exact HB.out | apply Ba | apply Bn | apply Bd | refine Bs ?_ GE291.out) | exact HB.out))) : w.heap.size ≤ gb292)); have n4_ := Am ((by rw [hg]; exact (Bz (by repeat (first | (with_reducible first | exact HB.out | apply Ba | apply Bn | apply Bd | refine Bs ?_ GE291.out) | exact HB.out))) : w.heap.size ≤ gb292)); have n5_ := Am ((by rw [hg]; exact Nat.ne_of_lt (blk_lt (g := gb291) (o := .cells #[.int .i64 a0_0, .int .i64 a0_1, .int .i64 a0_2, .int .i64 a0_3, .int .i64 a0_4] 26 (0, 0)) (by (with_reducible repeat (first | refine Kn ?_ _ | refine Ke ?_ | refine Ka ?_ _)); exact BK291.out)) : gb291 ≠ gb292)); have n6_ := Am ((by rw [hg]; exact Nat.ne_of_gt (blk_lt (g := gb291) (o := .cells #[.int .i64 a0_0, .int .i64 a0_1, .int .i64 a0_2, .int .i64 a0_3, .int .i64 a0_4] 26 (0, 0)) (by (with_reducible repeat (first | refine Kn ?_ _ | refine Ke ?_ | refine Ka ?_ _)); exact BK291.out)) : gb292 ≠ gb291)); clear BK291; clear HB; have BK291 := n0_; have HB := n1_; have BK292 := n2_; have GW292 := n3_; have GE292 := n4_; have NB291_292 := n5_; have NB292_291 := n6_; clear n0_ n1_ n2_ n3_ n4_ n5_ n6_; clear hb hbox hg; have hnb20 := NB291_292.out; have hnc20 := NB292_291.out; have hcz21_0 : w19.cell? ⟨gb291, 0, none⟩ = some (.int .i64 a0_0) := (Kc BK291.out 0).trans rfl; have hcz21_1 : w19.cell? ⟨gb291, 1, none⟩ = some (.int .i64 a0_1) := (Kc BK291.out 1).trans rfl; have hcz21_2 : w19.cell? ⟨gb291, 2, none⟩ = some (.int .i64 a0_2) := (Kc BK291.out 2).trans rfl; have hcz21_3 : w19.cell? ⟨gb291, 3, none⟩ = some (.int .i64 a0_3) := (Kc BK291.out 3).trans rfl; have hcz21_4 : w19.cell? ⟨gb291, 4, none⟩ = some (.int .i64 a0_4) := (Kc BK291.out 4).trans rfl; have hfz21_0 := Kz BK291.out 0; have hfz21_1 := Kz BK291.out 1; have hfz21_2 := Kz BK291.out 2; have hfz21_3 := Kz BK291.out 3; have hfz21_4 := Kz BK291.out 4) | ((refine Gc (f := 69) rfl ?_); refine goesL_ (some 7) rfl rfl Try.func69 (by kernel_rfl) rfl #[.agg #[.int .i64 a0_0, .int .i64 a0_1, .int .i64 a0_2, .int .i64 a0_3, .int .i64 a0_4]] rfl (by first | rfl | (simp only [List.map_toArray, List.map_cons, List.map_nil]; first | done | rfl)) ?_; (with_reducible refine (impl_GoodCmd.calls a0_0 a0_1 a0_2 a0_3 a0_4 true _ A3.out).mono ?_); rintro e w22 ⟨rfl, hb⟩; refine ⟨_, rfl, ?_⟩; have n0_ := Am (Kb (g := gb291) (o := .cells #[.int .i64 a0_0, .int .i64 a0_1, .int .i64 a0_2, .int .i64 a0_3, .int .i64 a0_4] 26 (0, 0)) (by (with_reducible repeat (first | refine Kn ?_ _ | refine Ke ?_ | refine Ka ?_ _)); exact BK291.out) hb); have n1_ := Am (Kb (g := gb292) (o := .cells #[.int .i64 a1_0, .int .i64 a1_1, .int .i64 a1_2, .int .i64 a1_3, .int .i64 a1_4] 26 (0, 0)) (by (with_reducible repeat (first | refine Kn ?_ _ | refine Ke ?_ | refine Ka ?_ _)); exact BK292.out) hb); have n2_ := Am (Bt (by repeat (first | (with_reducible first | exact HB.out | apply Ba | apply Bn | apply Bd | refine Bs ?_ GE291.out | refine Bs ?_ GE292.out) | exact HB.out)) hb); clear BK291; clear BK292; clear HB; have BK291 := n0_; have BK292 := n1_; have HB := n2_; clear n0_ n1_ n2_; (try clear hb); (try clear hb2); (try clear hk); (try clear hi); have hcz23_0 : w22.cell? ⟨gb292, 0, none⟩ = some (.int .i64 a1_0) := (Kc BK292.out 0).trans rfl; have hcz23_1 : w22.cell? ⟨gb292, 1, none⟩ = some (.int .i64 a1_1) := (Kc BK292.out 1).trans rfl; have hcz23_2 : w22.cell? ⟨gb292, 2, none⟩ = some (.int .i64 a1_2) := (Kc BK292.out 2).trans rfl; have hcz23_3 : w22.cell? ⟨gb292, 3, none⟩ = some (.int .i64 a1_3) := (Kc BK292.out 3).trans rfl; have hcz23_4 : w22.cell? ⟨gb292, 4, none⟩ = some (.int .i64 a1_4) := (Kc BK292.out 4).trans rfl; have hfz23_0 := Kz BK292.out 0; have hfz23_1 := Kz BK292.out 1; have hfz23_2 := Kz BK292.out 2; have hfz23_3 := Kz BK292.out 3; have hfz23_4 := Kz BK292.out 4) | (go_at_call 69; (with_reducible refine (impl_GoodCmd.calls a1_0 a1_1 a1_2 a1_3 a1_4 false _ A5.out).mono ?_); rintro e w24 ⟨rfl, hb⟩; have n0_ := Am (Kb (g := gb291) (o := .cells #[.int .i64 a0_0, .int .i64 a0_1, .int .i64 a0_2, .int .i64 a0_3, .int .i64 a0_4] 26 (0, 0)) (by (with_reducible repeat (first | refine Kn ?_ _ | refine Ke ?_ | refine Ka ?_ _)); exact BK291.out) hb); have n1_ := Am (Kb (g := gb292) (o := .cells #[.int .i64 a1_0, .int .i64 a1_1, .int .i64 a1_2, .int .i64 a1_3, .int .i64 a1_4] 26 (0, 0)) (by (with_reducible repeat (first | refine Kn ?_ _ | refine Ke ?_ | refine Ka ?_ _)); exact BK292.out) hb); have n2_ := Am (Bt (by repeat (first | (with_reducible first | exact HB.out | apply Ba | apply Bn | apply Bd | refine Bs ?_ GE291.out | refine Bs ?_ GE292.out) | exact HB.out)) hb); clear BK291; clear BK292; clear HB; have BK291 := n0_; have BK292 := n1_; have HB := n2_; clear n0_ n1_ n2_; (try clear hb); (try clear hb2); (try clear hk); (try clear hi)))
   go_ret2
   exact ⟨by first | rfl | (simp [*, errW_none, errW_some] <;> rfl), by repeat (first | (with_reducible first | exact HB.out | apply Ba | apply Bn | apply Bd | refine Bs ?_ GE291.out | refine Bs ?_ GE292.out) | exact HB.out)⟩
 ·replace c4 := Bool.eq_false_iff.mpr c4
  subst c4
  have H1 : (some (false, false)) = some (r1, r2) := by rw [if_neg (show ¬ (false = true) by decide)] at H; exact H
  clear H
  have H := H1
  clear H1
  simp only [Option.some.injEq, Prod.mk.injEq] at H
  obtain ⟨rfl, rfl⟩ := H
  go_enter Try.func21, Try.ntmps21
  go_wp2_with (first | ((refine Gd (N := 2) rfl ?_); refine Be ?hg (N := 2) ?hd (cs := #[.int .i64 a0_0, .int .i64 a0_1, .int .i64 a0_2, .int .i64 a0_3, .int .i64 a0_4]) (t := 26) ?hr ?_; (case hd | hg => rfl); (case hr => first | (go_simp; done) | (go_simp; rfl)); intro gb291 hg w25 hbox hb; have n0_ := Am (Bt (by repeat (first | exact HB.out | apply Ba | apply Bn | apply Bd)) hb); have n1_ := Am (hbox); have n2_ := Am ((by rw [hg]; exact (Bz (by repeat (first | exact HB.out | apply Ba | apply Bn | apply Bd))) : w.heap.size ≤ gb291)); have n3_ := Am ((by rw [hg]; exact (Bz (by repeat (first | exact HB.out | apply Ba | apply Bn | apply Bd))) : w.heap.size ≤ gb291)); clear HB; have HB := n0_; have BK291 := n1_; have GW291 := n2_; have GE291 := n3_; clear n0_ n1_ n2_ n3_; clear hb hbox hg) | ((refine Gd (N := 3) rfl ?_); refine Be ?hg (N := 3) ?hd (cs := #[.int .i64 a1_0, .int .i64 a1_1, .int .i64 a1_2, .int .i64 a1_3, .int .i64 a1_4]) (t := 26) ?hr ?_; (case hd | hg => rfl); (case hr => first | (go_simp; done) | (go_simp; rfl)); intro gb292 hg w26 hbox hb; have n0_ := Am (Kb (g := gb291) (o := .cells #[.int .i64 a0_0, .int .i64 a0_1, .int .i64 a0_2, .int .i64 a0_3, .int .i64 a0_4] 26 (0, 0)) (by (with_reducible repeat (first | refine Kn ?_ _ | refine Ke ?_ | refine Ka ?_ _)); exact BK291.out) hb); have n1_ := Am (Bt (by repeat (first | (with_reducible first | exact HB.out | apply Ba | apply Bn | apply Bd | refine Bs ?_ GE291.out) | exact HB.out)) hb); have n2_ := Am (hbox); have n3_ := Am ((by rw [hg]; exact (Bz (by repeat (first | (with_reducible first | exact HB.out | apply Ba | apply Bn | apply Bd | refine Bs ?_ GE291.out) | exact HB.out))) : w.heap.size ≤ gb292)); have n4_ := Am ((by rw [hg]; exact (Bz (by repeat (first | (with_reducible first | exact HB.out | apply Ba | apply Bn | apply Bd | refine Bs ?_ GE291.out) | exact HB.out))) : w.heap.size ≤ gb292)); have n5_ := Am ((by rw [hg]; exact Nat.ne_of_lt (blk_lt (g := gb291) (o := .cells #[.int .i64 a0_0, .int .i64 a0_1, .int .i64 a0_2, .int .i64 a0_3, .int .i64 a0_4] 26 (0, 0)) (by (with_reducible repeat (first | refine Kn ?_ _ | refine Ke ?_ | refine Ka ?_ _)); exact BK291.out)) : gb291 ≠ gb292)); have n6_ := Am ((by rw [hg]; exact Nat.ne_of_gt (blk_lt (g := gb291) (o := .cells #[.int .i64 a0_0, .int .i64 a0_1, .int .i64 a0_2, .int .i64 a0_3, .int .i64 a0_4] 26 (0, 0)) (by (with_reducible repeat (first | refine Kn ?_ _ | refine Ke ?_ | refine Ka ?_ _)); exact BK291.out)) : gb292 ≠ gb291)); clear BK291; clear HB; have BK291 := n0_; have HB := n1_; have BK292 := n2_; have GW292 := n3_; have GE292 := n4_; have NB291_292 := n5_; have NB292_291 := n6_; clear n0_ n1_ n2_ n3_ n4_ n5_ n6_; clear hb hbox hg; have hnb27 := NB291_292.out; have hnc27 := NB292_291.out; have hcz28_0 : w26.cell? ⟨gb291, 0, none⟩ = some (.int .i64 a0_0) := (Kc BK291.out 0).trans rfl; have hcz28_1 : w26.cell? ⟨gb291, 1, none⟩ = some (.int .i64 a0_1) := (Kc BK291.out 1).trans rfl; have hcz28_2 : w26.cell? ⟨gb291, 2, none⟩ = some (.int .i64 a0_2) := (Kc BK291.out 2).trans rfl; have hcz28_3 : w26.cell? ⟨gb291, 3, none⟩ = some (.int .i64 a0_3) := (Kc BK291.out 3).trans rfl; have hcz28_4 : w26.cell? ⟨gb291, 4, none⟩ = some (.int .i64 a0_4) := (Kc BK291.out 4).trans rfl; have hfz28_0 := Kz BK291.out 0; have hfz28_1 := Kz BK291.out 1; have hfz28_2 := Kz BK291.out 2; have hfz28_3 := Kz BK291.out 3; have hfz28_4 := Kz BK291.out 4) | ((refine Gc (f := 69) rfl ?_); refine goesL_ (some 7) rfl rfl Try.func69 (by kernel_rfl) rfl #[.agg #[.int .i64 a0_0, .int .i64 a0_1, .int .i64 a0_2, .int .i64 a0_3, .int .i64 a0_4]] rfl (by first | rfl | (simp only [List.map_toArray, List.map_cons, List.map_nil]; first | done | rfl)) ?_; (with_reducible refine (impl_GoodCmd.calls a0_0 a0_1 a0_2 a0_3 a0_4 false _ A3.out).mono ?_); rintro e w29 ⟨rfl, hb⟩; refine ⟨_, rfl, ?_⟩; have n0_ := Am (Kb (g := gb291) (o := .cells #[.int .i64 a0_0, .int .i64 a0_1, .int .i64 a0_2, .int .i64 a0_3, .int .i64 a0_4] 26 (0, 0)) (by (with_reducible repeat (first | refine Kn ?_ _ | refine Ke ?_ | refine Ka ?_ _)); exact BK291.out) hb); have n1_ := Am (Kb (g := gb292) (o := .cells #[.int .i64 a1_0, .int .i64 a1_1, .int .i64 a1_2, .int .i64 a1_3, .int .i64 a1_4] 26 (0, 0)) (by (with_reducible repeat (first | refine Kn ?_ _ | refine Ke ?_ | refine Ka ?_ _)); exact BK292.out) hb); have n2_ := Am (Bt (by repeat (first | (with_reducible first | exact HB.out | apply Ba | apply Bn | apply Bd | refine Bs ?_ GE291.out | refine Bs ?_ GE292.out) | exact HB.out)) hb); clear BK291; clear BK292; clear HB; have BK291 := n0_; have BK292 := n1_; have HB := n2_; clear n0_ n1_ n2_; (try clear hb); (try clear hb2); (try clear hk); (try clear hi)))
  go_ret2
  exact ⟨by first | rfl | (simp [*, errW_none, errW_some] <;> rfl), by repeat (first | (with_reducible first | exact HB.out | apply Ba | apply Bn | apply Bd | refine Bs ?_ GE291.out | refine Bs ?_ GE292.out) | exact HB.out)⟩
section
open Go.RowKit
theorem spec_l1Cur_cmds.load_run {P : Program} {o : Oper} {a : Act} {W : World} {g : Nat} {cs : Array Value} {t : TypeId} (hg : W.heap[g]? = some (.cells cs t (0, 0))) (n : Nat) (hn : cs.size = n) (ty : TypeId) (x : Operand) (ho : o.op = .load ty x)
  (hx : a.eval x = .pointer (some ⟨g, 0, none⟩)) (d : TypeDesc) (hu : P.underlying ty = some d) (hd : (match d with | .struct _ | .array _ _ => true | _ => false) = true) (hi : (P.info? ty).map (·.size) = some n) :
  (execOp a.eval o).run P W = .ok (.value (.agg cs)) W := by
 subst hn
 unfold execOp
 simp only [ho, hx, Instr.loadAt, Instr.sureAddr, Sem.run_bind, Sem.run_pure, Result.andThen_ok, run_loadVar_row W g t ty cs (0, 0) d hg hu hd hi]
end
def spec_l1Cur_cmds.e (l0 : List Int) (a s : Int) : Option (S26 × Int × Int) := (spec_l1Cur_cmd.f l0 a s).bind fun t => if t.1 = 1 then (spec_l1Cur_one.f l0 t.2.2.2.2.2.1 t.2.2.2.2.2.2 3).bind fun b => if b.1 = true then (spec_l1Cur_pick.f l0 b.2.1 b.2.2 90).bind fun p => some ((⟨t.1, t.2.1, t.2.2.1, t.2.2.2.1, wrap64 (60 + p.1)⟩ : S26), p.2.1, p.2.2) else some ((⟨t.1, t.2.1, t.2.2.1, t.2.2.2.1, t.2.2.2.2.1⟩ : S26), b.2.1, b.2.2) else some ((⟨t.1, t.2.1, t.2.2.1, t.2.2.2.1, t.2.2.2.2.1⟩ : S26), t.2.2.2.2.2.1, t.2.2.2.2.2.2)
def spec_l1Cur_cmds.l : Nat → List Int → List S26 → Int → Int → Int → Option (List S26 × Int × Int)
 | 0, _, _, _, _, _ => none
 | k + 1, l0, out, n, a, s => if n > 0 then (spec_l1Cur_cmds.e l0 a s).bind fun q => if out.length < 1000 then spec_l1Cur_cmds.l k l0 (out ++ [q.1]) (wrap64 (n - 1)) q.2.1 q.2.2 else none else some (out, a, s)
def spec_l1Cur_cmds.z (l0 : List Int) (t : List S26 × Int × Int) : Option (List S26 × Int × Int) := if 0 < t.1.length then (spec_l1Cur_one.f l0 t.2.1 t.2.2 20).bind fun b => if b.1 = true then (spec_l1Cur_anyCmd.f l0 b.2.1 b.2.2).bind fun q => some (t.1.set 0 (⟨q.1, q.2.1, q.2.2.1, q.2.2.2.1, q.2.2.2.2.1⟩ : S26), q.2.2.2.2.2.1, q.2.2.2.2.2.2) else some (t.1, b.2.1, b.2.2) else some t
def spec_l1Cur_cmds.f (k : Nat) (l0 : List Int) (a s a1 : Int) : Option (List S26 × Int × Int) := (spec_l1Cur_pick.f l0 a s (wrap64 (a1 + 1))).bind fun p => (spec_l1Cur_cmds.l k l0 [] p.1 p.2.1 p.2.2).bind (spec_l1Cur_cmds.z l0)
theorem spec_l1Cur_cmds.mono_l : ∀ k l0 out n a s, LeO (spec_l1Cur_cmds.l k l0 out n a s) (spec_l1Cur_cmds.l (k + 1) l0 out n a s)
 | 0, _, _, _, _, _ => LeO.none _
 | k + 1, l0, out, n, a, s => by
  unfold spec_l1Cur_cmds.l
  exact LeO.ite (LeO.bind (LeO.refl _) (fun q => LeO.ite (spec_l1Cur_cmds.mono_l k _ _ _ _ _) (LeO.none _))) (LeO.refl _)
theorem spec_l1Cur_cmds.mono : ∀ l0 a s a1 k, LeO (spec_l1Cur_cmds.f k l0 a s a1) (spec_l1Cur_cmds.f (k + 1) l0 a s a1) := by
 intro l0 a s a1 k
 unfold spec_l1Cur_cmds.f
 exact LeO.bind (LeO.refl _) (fun _ => LeO.bind (spec_l1Cur_cmds.mono_l _ _ _ _ _ _) (fun _ => LeO.refl _))
set_option maxHeartbeats 8000000 in
set_option maxRecDepth 100000 in
theorem spec_l1Cur_cmds.calls (k : Nat) (g : Nat) (l0 : List Int) (a s a1 : Int) (r1 : List S26) (r2 r3 : Int) (w0 w : World) (hI : IsS91 w0 w g l0 a s) (hB : Below w0.heap.size w0 w) (h : spec_l1Cur_cmds.f k l0 a s a1 = some (r1, r2, r3)) :
  Calls Try.prog 81 #[.pointer (some ⟨g, 0, none⟩), .int .i64 a1] w fun e w' => ∃ v0_ : Value, e = .returned (v0_) ∧ Kd.R k26 26 w' w.heap.size (fun _ => True) v0_ r1 ∧ IsS91 w0 w' g l0 r2 r3 ∧ Below w0.heap.size w0 w' ∧ KeepBut w w' g none := by
 have hu_ := Try.underlying26
 have HI := Am hI
 have HB := Am hB
 have HK := Am (KeepBut.refl w g none)
 have HWS := Am hB.size
 clear hI hB
 unfold spec_l1Cur_cmds.f at h
 obtain ⟨⟨n0, a0, s0⟩, hp, h⟩ := Option.bind_eq_some_iff.1 h
 obtain ⟨⟨rl, ra, rs⟩, hl, hz⟩ := Option.bind_eq_some_iff.1 h
 have HP := Am hp
 have HL := Am hl
 have HZ := Am hz
 clear h hp hl hz
 go_enter Try.func81, Try.ntmps81
 go_wp2_with fail
 refine (spec_l1Cur_pick.calls g l0 a s (wrap64 (a1 + 1)) n0 a0 s0 w0 w HI.out HB.out HP.out).mono ?_
 rintro e w1 ⟨rfl, hI, hB, hK⟩
 have HI1 := Am hI
 have HB1 := Am hB
 have HK1 := Am (KeepBut.trans HK.out hK (.inl rfl))
 clear hI hB hK HI HB HK
 go_wp2
 go_loopg [5, 6] k (fun kq v5 v6 wr => ∃ (out : List S26) (n a s : Int), v6 = .int .i64 n ∧ Ad (spec_l1Cur_cmds.l kq l0 out n a s = some (rl, ra, rs)) ∧ Ad (Kd.R k26 26 wr w.heap.size (fun _ => True) v5 out) ∧ Ad (IsS91 w0 wr g l0 a s) ∧ Ad (KeepBut w wr g none) ∧ Ad (Below w0.heap.size w0 wr))
 case atStart => exact ⟨[], n0, a0, s0, rfl, HL, ⟨Kd.R_nil _ _ _ _ _⟩, HI1, HK1, HB1⟩
 case round =>
  clear HL HI1 HK1 HB1 HP
  obtain ⟨out, n, a, s, rfl, HF, HO1, HI1, HK1, HB1⟩ := hrel
  obtain ⟨A5, c5, e5⟩ := Kd.R_slice HO1.out
  subst e5
  cases gk with
  | zero => exact absurd HF.out (by simp [spec_l1Cur_cmds.l])
  | succ k1 =>
  by_cases hn : n > 0
  ·have hnz : decide (0 < n) = true := decide_eq_true hn
   have h1 := HF.out
   rw [spec_l1Cur_cmds.l, if_pos hn] at h1
   obtain ⟨⟨q1, qa, qs⟩, he, h1⟩ := Option.bind_eq_some_iff.1 h1
   by_cases hlen : out.length < 1000
   case neg => rw [if_neg hlen] at h1; cases h1
   rw [if_pos hlen] at h1
   have HLEN := Am hlen
   have PG := Am h1
   unfold spec_l1Cur_cmds.e at he
   obtain ⟨⟨t1, t2, t3, t4, t5, a2, s2⟩, hc, he⟩ := Option.bind_eq_some_iff.1 he
   have HC := Am hc
   have HE := Am he
   clear h1 he hc hlen HF hn
   go_wp2_with fail
   refine (spec_l1Cur_cmd.calls g l0 a s t1 t2 t3 t4 t5 a2 s2 w0 wr HI1.out HB1.out HC.out).mono ?_
   rintro e w2 ⟨rfl, hI, hB, hK⟩
   have HI2 := Am hI
   have HB2 := Am hB
   have HK2 := Am (KeepBut.trans HK1.out hK (.inl rfl))
   have HO2 := Am (Kd.R_mono (Kd.R_keep (IsS91.apart HI1.out HO1.out (by decide)) hK (fun _ h => h.2)) (fun _ h => h.1))
   clear hI hB hK HI1 HB1 HK1 HO1
   go_upto_region 6 with (fail)
   refine letC (fun W_ => Below w2.heap.size w2 W_ ∧ W_.heap[w2.heap.size]? = some (.cells #[.int .i64 t1, .int .i64 t2, .int .i64 t3, .int .i64 t4, .int .i64 t5] 26 (0, 0))) ?_ ?_
   ·refine ⟨by repeat (first | refine Bs ?_ (Nat.le_refl _) | apply Ba | exact Below.refl _ _), ?_⟩
    exact blk_new w2 (.cells #[.int .i64 t1, .int .i64 t2, .int .i64 t3, .int .i64 t4, .int .i64 t5] 26)
   rintro w3 ⟨hb, hx⟩
   have HNG := Am (show w2.heap.size ≠ g from fun h => by have := IsS91.lt HI2.out; omega)
   have HGW := Am HK2.out.1
   have BX3 := Am hx
   have HI3 := Am (IsS91.below HI2.out hb)
   have HK3 := Am (KeepBut.trans HK2.out (KeepBut.of_below hb g none) (.inl rfl))
   have HO3 : Ad (Kd.R k26 26 w3 w.heap.size (fun k_ => k_ ≠ w2.heap.size) (.slice A5 out.length c5) out) := ⟨Kd.R_mono (Kd.R_below (Kd.R_bound HO2.out) hb) (fun k hk => by have := hk.2.2.1; omega)⟩
   have HB3 := Am (below_then HB2.out HB2.out.size hb)
   clear hb hx HI2 HK2 HO2 HB2
   generalize w2.heap.size = gb at HNG HGW BX3 HO3 ⊢
   have HGE : Ad (w0.heap.size ≤ gb) := ⟨by have := HWS.out; have := HGW.out; omega⟩
   by_cases hk : t1 = 1
   ·have HE1 := HE.out
    try dsimp only at HE1
    rw [if_pos hk] at HE1
    obtain ⟨⟨b1, a3, s3⟩, hone, he⟩ := Option.bind_eq_some_iff.1 HE1
    have Hspec_l1Cur_one := Am hone
    have HE := Am he
    clear hone he HE1
    subst hk
    have q0 : w3.cell? ⟨gb, 0, none⟩ = some (.int .i64 1) := (Kc BX3.out 0).trans rfl
    have q1 : w3.cell? ⟨gb, 1, none⟩ = some (.int .i64 t2) := (Kc BX3.out 1).trans rfl
    have q2 : w3.cell? ⟨gb, 2, none⟩ = some (.int .i64 t3) := (Kc BX3.out 2).trans rfl
    have q3 : w3.cell? ⟨gb, 3, none⟩ = some (.int .i64 t4) := (Kc BX3.out 3).trans rfl
    have q4 : w3.cell? ⟨gb, 4, none⟩ = some (.int .i64 t5) := (Kc BX3.out 4).trans rfl
    go_wp2_with fail
    refine (spec_l1Cur_one.calls g l0 a2 s2 3 b1 a3 s3 w0 w3 HI3.out HB3.out Hspec_l1Cur_one.out).mono ?_
    rintro e w4 ⟨rfl, hI, hB, hK⟩
    clear q0 q1 q2 q3 q4
    have HI4 := Am hI
    have HB4 := Am hB
    have HK4 := Am (KeepBut.trans HK3.out hK (.inl rfl))
    have HO4 := Am (Kd.R_mono (Kd.R_keep (IsS91.apart HI3.out HO3.out (by decide)) hK (fun _ h => h.2)) (fun _ h => h.1))
    have BX4 := Am (hK.blk BX3.out HNG.out (by simp))
    clear hI hB hK HI3 HB3 HK3 HO3 BX3
    have q0 : w4.cell? ⟨gb, 0, none⟩ = some (.int .i64 1) := (Kc BX4.out 0).trans rfl
    have q1 : w4.cell? ⟨gb, 1, none⟩ = some (.int .i64 t2) := (Kc BX4.out 1).trans rfl
    have q2 : w4.cell? ⟨gb, 2, none⟩ = some (.int .i64 t3) := (Kc BX4.out 2).trans rfl
    have q3 : w4.cell? ⟨gb, 3, none⟩ = some (.int .i64 t4) := (Kc BX4.out 3).trans rfl
    have q4 : w4.cell? ⟨gb, 4, none⟩ = some (.int .i64 t5) := (Kc BX4.out 4).trans rfl
    cases b1 with
    | true =>
     have HE1 := HE.out
     try dsimp only at HE1
     rw [if_pos rfl] at HE1
     obtain ⟨⟨p1, a4, s4⟩, hpk, he⟩ := Option.bind_eq_some_iff.1 HE1
     have Hspec_l1Cur_pick := Am hpk
     simp only [Option.some.injEq, Prod.mk.injEq] at he
     obtain ⟨rfl, rfl, rfl⟩ := he
     clear hpk HE1 HE
     go_wp2_with fail
     refine (spec_l1Cur_pick.calls g l0 a3 s3 90 p1 a4 s4 w0 w4 HI4.out HB4.out Hspec_l1Cur_pick.out).mono ?_
     rintro e w5 ⟨rfl, hI, hB, hK⟩
     clear q0 q1 q2 q3 q4
     have HI5 := Am hI
     have HB5 := Am hB
     have HK5 := Am (KeepBut.trans HK4.out hK (.inl rfl))
     have HO5 := Am (Kd.R_mono (Kd.R_keep (IsS91.apart HI4.out HO4.out (by decide)) hK (fun _ h => h.2)) (fun _ h => h.1))
     have BX5 := Am (hK.blk BX4.out HNG.out (by simp))
     clear hI hB hK HI4 HB4 HK4 HO4 BX4
     have q0 : w5.cell? ⟨gb, 0, none⟩ = some (.int .i64 1) := (Kc BX5.out 0).trans rfl
     have q1 : w5.cell? ⟨gb, 1, none⟩ = some (.int .i64 t2) := (Kc BX5.out 1).trans rfl
     have q2 : w5.cell? ⟨gb, 2, none⟩ = some (.int .i64 t3) := (Kc BX5.out 2).trans rfl
     have q3 : w5.cell? ⟨gb, 3, none⟩ = some (.int .i64 t4) := (Kc BX5.out 3).trans rfl
     have q4 : w5.cell? ⟨gb, 4, none⟩ = some (.int .i64 t5) := (Kc BX5.out 4).trans rfl
     have qf : w5.frozen? ⟨gb, 4, none⟩ = false := Kz BX5.out 4
     go_upto_region 8 with (fail)
     refine letC (fun W_ => W_ = w5.setCell ⟨gb, 4, none⟩ (.int .i64 (wrap64 (60 + p1)))) (by first | rfl | simp) ?_
     rintro w6 hw6
     have BX6 : Ad (w6.heap[gb]? = some (.cells #[.int .i64 1, .int .i64 t2, .int .i64 t3, .int .i64 t4, .int .i64 (wrap64 (60 + p1))] 26 (0, 0))) := ⟨by rw [hw6]; exact blk_put BX5.out 4 _ rfl⟩
     have HI6 : Ad (IsS91 w0 w6 g l0 a4 s4) := ⟨by rw [hw6]; exact IsS91.far HI5.out HNG.out.symm _⟩
     have HK6 : Ad (KeepBut w w6 g none) := ⟨by rw [hw6]; exact keep_far HK5.out HGW.out _⟩
     have HO6 : Ad (Kd.R k26 26 w6 w.heap.size (fun k_ => k_ ≠ gb) (.slice A5 out.length c5) out) := ⟨by rw [hw6]; exact Kd.R_far (p := ⟨gb, 4, none⟩) HO5.out (fun _ hk => hk) _⟩
     have HB6 : Ad (Below w0.heap.size w0 w6) := ⟨by rw [hw6]; exact Bs HB5.out HGE.out⟩
     clear hw6 HI5 HK5 HO5 HB5 BX5 q0 q1 q2 q3 q4 qf
     have q0 : w6.cell? ⟨gb, 0, none⟩ = some (.int .i64 1) := (Kc BX6.out 0).trans rfl
     have q1 : w6.cell? ⟨gb, 1, none⟩ = some (.int .i64 t2) := (Kc BX6.out 1).trans rfl
     have q2 : w6.cell? ⟨gb, 2, none⟩ = some (.int .i64 t3) := (Kc BX6.out 2).trans rfl
     have q3 : w6.cell? ⟨gb, 3, none⟩ = some (.int .i64 t4) := (Kc BX6.out 3).trans rfl
     have q4 : w6.cell? ⟨gb, 4, none⟩ = some (.int .i64 (wrap64 (60 + p1))) := (Kc BX6.out 4).trans rfl
     go_wp2_with (first | ((refine Gd (N := 30) rfl ?_); refine Kd.event_run rfl (spec_l1Cur_cmds.load_run BX6.out 5 rfl 26 _ (by rfl) (by rfl) _ Try.underlying26 rfl (by kernel_rfl)) ?_) | ((with_reducible refine gate_builtin (b := .append) (xs := #[.tmp 29, .tmp 31]) rfl ?_); at_builtin; refine Kd.R_append k26 w.heap.size rfl (.tmp 29) (.tmp 31) 40 26 (.agg #[(.int .i64 0), (.int .i64 0), (.int .i64 0), (.int .i64 0), (.int .i64 0)]) 40 rfl Try.underlying40 info26 rfl (by decide) (by omega) (.slice A5 out.length c5) out (⟨1, t2, t3, t4, wrap64 (60 + p1)⟩ : S26) [.int .i64 1, .int .i64 t2, .int .i64 t3, .int .i64 t4, .int .i64 (wrap64 (60 + p1))] (fun k_ => k_ ≠ gb) (fun _ => False) rfl (by first | (go_simp; done) | (go_simp; rfl)) ?aP (fun _ hk => hk.elim) ?aF ?aO (Below.refl _ _) ?aS ?aL ?_; (case aP => exact k26_mkM _ _ _ (⟨1, t2, t3, t4, wrap64 (60 + p1)⟩ : S26)); (case aF => exact (fun k_ hk => Kd.freshB BX6.out k_ hk)); (case aO => exact HO6.out); (case aS => exact HK6.out.1); (case aL => have := HLEN.out; omega); intro v5 w9 ho hb hg hat; have HI9 := Am (IsS91.grown HI6.out hg (IsS91.own_ne HI6.out HO6.out (by decide))); have HK9 : Ad (KeepBut w w9 g none) := ⟨⟨Nat.le_trans HK6.out.1 hb.size, fun i hi h1_ h2_ => (hb.block i hi).trans (HK6.out.2 i hi h1_ h2_)⟩⟩; have HO9 := Am ho; have HB9 := Am (below_weaken HB6.out HWS.out hb); clear ho hb hg hat))
     go_roundg k1
     case measure => omega
     case rel => exact ⟨_, wrap64 (n - 1), _, _, by first | rfl | simp, PG, ⟨Kd.R_mono HO9.out (fun _ _ => trivial)⟩, HI9, HK9, HB9⟩
    | false =>
     have he := HE.out
     try dsimp only at he
     rw [if_neg (by simp)] at he
     simp only [Option.some.injEq, Prod.mk.injEq] at he
     obtain ⟨rfl, rfl, rfl⟩ := he
     clear HE
     go_wp2_with (first | ((refine Gd (N := 30) rfl ?_); refine Kd.event_run rfl (spec_l1Cur_cmds.load_run BX4.out 5 rfl 26 _ (by rfl) (by rfl) _ Try.underlying26 rfl (by kernel_rfl)) ?_) | ((with_reducible refine gate_builtin (b := .append) (xs := #[.tmp 29, .tmp 31]) rfl ?_); at_builtin; refine Kd.R_append k26 w.heap.size rfl (.tmp 29) (.tmp 31) 40 26 (.agg #[(.int .i64 0), (.int .i64 0), (.int .i64 0), (.int .i64 0), (.int .i64 0)]) 40 rfl Try.underlying40 info26 rfl (by decide) (by omega) (.slice A5 out.length c5) out (⟨1, t2, t3, t4, t5⟩ : S26) [.int .i64 1, .int .i64 t2, .int .i64 t3, .int .i64 t4, .int .i64 t5] (fun k_ => k_ ≠ gb) (fun _ => False) rfl (by first | (go_simp; done) | (go_simp; rfl)) ?aP (fun _ hk => hk.elim) ?aF ?aO (Below.refl _ _) ?aS ?aL ?_; (case aP => exact k26_mkM _ _ _ (⟨1, t2, t3, t4, t5⟩ : S26)); (case aF => exact (fun k_ hk => Kd.freshB BX4.out k_ hk)); (case aO => exact HO4.out); (case aS => exact HK4.out.1); (case aL => have := HLEN.out; omega); intro v5 w9 ho hb hg hat; have HI9 := Am (IsS91.grown HI4.out hg (IsS91.own_ne HI4.out HO4.out (by decide))); have HK9 : Ad (KeepBut w w9 g none) := ⟨⟨Nat.le_trans HK4.out.1 hb.size, fun i hi h1_ h2_ => (hb.block i hi).trans (HK4.out.2 i hi h1_ h2_)⟩⟩; have HO9 := Am ho; have HB9 := Am (below_weaken HB4.out HWS.out hb); clear ho hb hg hat))
     go_roundg k1
     case measure => omega
     case rel => exact ⟨_, wrap64 (n - 1), _, _, by first | rfl | simp, PG, ⟨Kd.R_mono HO9.out (fun _ _ => trivial)⟩, HI9, HK9, HB9⟩
   ·have he := HE.out
    try dsimp only at he
    rw [if_neg hk] at he
    simp only [Option.some.injEq, Prod.mk.injEq] at he
    obtain ⟨rfl, rfl, rfl⟩ := he
    have hkb : (t1 == 1) = false := beq_false_of_ne hk
    clear HE hk
    have q0 : w3.cell? ⟨gb, 0, none⟩ = some (.int .i64 t1) := (Kc BX3.out 0).trans rfl
    have q1 : w3.cell? ⟨gb, 1, none⟩ = some (.int .i64 t2) := (Kc BX3.out 1).trans rfl
    have q2 : w3.cell? ⟨gb, 2, none⟩ = some (.int .i64 t3) := (Kc BX3.out 2).trans rfl
    have q3 : w3.cell? ⟨gb, 3, none⟩ = some (.int .i64 t4) := (Kc BX3.out 3).trans rfl
    have q4 : w3.cell? ⟨gb, 4, none⟩ = some (.int .i64 t5) := (Kc BX3.out 4).trans rfl
    go_wp2_with (first | ((refine Gd (N := 30) rfl ?_); refine Kd.event_run rfl (spec_l1Cur_cmds.load_run BX3.out 5 rfl 26 _ (by rfl) (by rfl) _ Try.underlying26 rfl (by kernel_rfl)) ?_) | ((with_reducible refine gate_builtin (b := .append) (xs := #[.tmp 29, .tmp 31]) rfl ?_); at_builtin; refine Kd.R_append k26 w.heap.size rfl (.tmp 29) (.tmp 31) 40 26 (.agg #[(.int .i64 0), (.int .i64 0), (.int .i64 0), (.int .i64 0), (.int .i64 0)]) 40 rfl Try.underlying40 info26 rfl (by decide) (by omega) (.slice A5 out.length c5) out (⟨t1, t2, t3, t4, t5⟩ : S26) [.int .i64 t1, .int .i64 t2, .int .i64 t3, .int .i64 t4, .int .i64 t5] (fun k_ => k_ ≠ gb) (fun _ => False) rfl (by first | (go_simp; done) | (go_simp; rfl)) ?aP (fun _ hk => hk.elim) ?aF ?aO (Below.refl _ _) ?aS ?aL ?_; (case aP => exact k26_mkM _ _ _ (⟨t1, t2, t3, t4, t5⟩ : S26)); (case aF => exact (fun k_ hk => Kd.freshB BX3.out k_ hk)); (case aO => exact HO3.out); (case aS => exact HK3.out.1); (case aL => have := HLEN.out; omega); intro v5 w9 ho hb hg hat; have HI9 := Am (IsS91.grown HI3.out hg (IsS91.own_ne HI3.out HO3.out (by decide))); have HK9 : Ad (KeepBut w w9 g none) := ⟨⟨Nat.le_trans HK3.out.1 hb.size, fun i hi h1_ h2_ => (hb.block i hi).trans (HK3.out.2 i hi h1_ h2_)⟩⟩; have HO9 := Am ho; have HB9 := Am (below_weaken HB3.out HWS.out hb); clear ho hb hg hat))
    go_roundg k1
    case measure => omega
    case rel => exact ⟨_, wrap64 (n - 1), _, _, by first | rfl | simp, PG, ⟨Kd.R_mono HO9.out (fun _ _ => trivial)⟩, HI9, HK9, HB9⟩
  ·have hnz : decide (0 < n) = false := decide_eq_false hn
   have h1 := HF.out
   rw [spec_l1Cur_cmds.l, if_neg hn] at h1
   simp only [Option.some.injEq, Prod.mk.injEq] at h1
   obtain ⟨rfl, rfl, rfl⟩ := h1
   have HZ1 := HZ.out
   unfold spec_l1Cur_cmds.z at HZ1
   dsimp only at HZ1
   by_cases hl : 0 < out.length
   ·rw [if_pos hl] at HZ1
    obtain ⟨⟨b1, a2, s2⟩, hone, he⟩ := Option.bind_eq_some_iff.1 HZ1
    have Hspec_l1Cur_one := Am hone
    have HE := Am he
    have hlz : decide (0 < (out.length : Int)) = true := decide_eq_true (by omega)
    have hln : decide (0 < out.length) = true := decide_eq_true hl
    clear hone he HZ1 HF hn HZ
    go_wp2_with fail
    refine (spec_l1Cur_one.calls g l0 a s 20 b1 a2 s2 w0 wr HI1.out HB1.out Hspec_l1Cur_one.out).mono ?_
    rintro e w2 ⟨rfl, hI, hB, hK⟩
    have HI2 := Am hI
    have HB2 := Am hB
    have HK2 := Am (KeepBut.trans HK1.out hK (.inl rfl))
    have HO2 := Am (Kd.R_mono (Kd.R_keep (IsS91.apart HI1.out HO1.out (by decide)) hK (fun _ h => h.2)) (fun _ h => h.1))
    clear hI hB hK HI1 HB1 HK1 HO1
    cases b1 with
    | false =>
     have he := HE.out
     try dsimp only at he
     rw [if_neg (by simp)] at he
     simp only [Option.some.injEq, Prod.mk.injEq] at he
     obtain ⟨rfl, rfl, rfl⟩ := he
     go_wp2
     go_ret
     exact ⟨_, rfl, HO2.out, HI2.out, HB2.out, HK2.out⟩
    | true =>
     have HE1 := HE.out
     try dsimp only at HE1
     rw [if_pos rfl] at HE1
     obtain ⟨⟨t1, t2, t3, t4, t5, a3, s3⟩, hpk, he⟩ := Option.bind_eq_some_iff.1 HE1
     have HANY := Am hpk
     simp only [Option.some.injEq, Prod.mk.injEq] at he
     obtain ⟨rfl, rfl, rfl⟩ := he
     clear hpk HE1 HE
     go_wp2_with fail
     refine (spec_l1Cur_anyCmd.calls g l0 a2 s2 t1 t2 t3 t4 t5 a3 s3 w0 w2 HI2.out HB2.out HANY.out).mono ?_
     rintro e w3 ⟨rfl, hI, hB, hK⟩
     have HI3 := Am hI
     have HB3 := Am hB
     have HK3 := Am (KeepBut.trans HK2.out hK (.inl rfl))
     have HO3 := Am (Kd.R_mono (Kd.R_keep (IsS91.apart HI2.out HO2.out (by decide)) hK (fun _ h => h.2)) (fun _ h => h.1))
     clear hI hB hK HI2 HB2 HK2 HO2
     obtain ⟨g5, c5', e5, hg5, hl5, _⟩ := Kd.R_form HO3.out hl
     injection e5 with e5 _ e6
     subst e5
     subst e6
     have HG5 := Am hg5
     obtain ⟨ce, hcl, hM, hcc, hfr⟩ := Kd.R_elem HO3.out z26 (0 : Int) (by omega) (by omega)
     obtain rfl := k26_openM hM
     have HCC := Am hcc
     generalize (out.getD (0 : Int).toNat z26) = z0 at hM hcc HCC
     have x0 : w3.cell? ⟨g5, 0, none⟩ = some (.int .i64 z0.f0) := hcc 0 _ rfl
     have x1 : w3.cell? ⟨g5, 1, none⟩ = some (.int .i64 z0.f1) := hcc 1 _ rfl
     have x2 : w3.cell? ⟨g5, 2, none⟩ = some (.int .i64 z0.f2) := hcc 2 _ rfl
     have x3 : w3.cell? ⟨g5, 3, none⟩ = some (.int .i64 z0.f3) := hcc 3 _ rfl
     have x4 : w3.cell? ⟨g5, 4, none⟩ = some (.int .i64 z0.f4) := hcc 4 _ rfl
     have f0 : w3.frozen? ⟨g5, 0, none⟩ = false := hfr 0
     have f1 : w3.frozen? ⟨g5, 1, none⟩ = false := hfr 1
     have f2 : w3.frozen? ⟨g5, 2, none⟩ = false := hfr 2
     have f3 : w3.frozen? ⟨g5, 3, none⟩ = false := hfr 3
     have f4 : w3.frozen? ⟨g5, 4, none⟩ = false := hfr 4
     have hseg := Kd.R_seg (d := k26) HO3.out (0 : Int) (by omega) (by omega) (c := [.int .i64 z0.f0, .int .i64 z0.f1, .int .i64 z0.f2, .int .i64 z0.f3, .int .i64 z0.f4]) (seg := [.int .i64 t1, .int .i64 t2, .int .i64 t3, .int .i64 t4, .int .i64 t5]) (j := 0) (x' := (⟨t1, t2, t3, t4, t5⟩ : S26)) (okp := fun _ => False) rfl HCC.out (Nat.le_refl 5) (k26_mkM _ _ _ (⟨t1, t2, t3, t4, t5⟩ : S26)) (fun _ hk => hk.elim)
     have HSEG := Am hseg
     clear hseg hcl hM hcc hfr HCC hl5
     go_upto_region 11 with (fail)
     refine letC (fun W_ => W_ = w3.setCells g5 0 [.int .i64 t1, .int .i64 t2, .int .i64 t3, .int .i64 t4, .int .i64 t5]) (by first | rfl | simp [World.setCells]) ?_
     rintro w4 hw4
     obtain ⟨hR4, hG4⟩ := HSEG.out
     have HO4 : Ad (Kd.R k26 26 w4 w.heap.size (fun _ => True) (.slice (some ⟨g5, 0, none⟩) out.length c5) (out.set 0 (⟨t1, t2, t3, t4, t5⟩ : S26))) := ⟨by rw [hw4]; exact hR4⟩
     have HGR : Ad (w3.grownBy w4 (some g5)) := ⟨by rw [hw4]; exact hG4⟩
     have HI4 := Am (IsS91.grown HI3.out HGR.out (IsS91.own_ne HI3.out HO3.out (by decide)))
     have HK4 : Ad (KeepBut w w4 g none) := ⟨⟨Nat.le_trans HK3.out.1 HGR.out.size, fun i hi h1_ h2_ => (HGR.out.block i (Nat.lt_of_lt_of_le hi HK3.out.1) (fun h_ => by injection h_ with h_; have := HG5.out; omega)).trans (HK3.out.2 i hi h1_ h2_)⟩⟩
     have HB4 := Am (pw_below_grown HB3.out _ HB3.out.size HGR.out (fun k hk => by injection hk with hk; have := HG5.out; have := HWS.out; omega))
     clear hw4 hR4 hG4 HSEG x0 x1 x2 x3 x4 f0 f1 f2 f3 f4
     go_wp2
     go_ret
     exact ⟨_, rfl, HO4.out, HI4.out, HB4.out, HK4.out⟩
   ·rw [if_neg hl] at HZ1
    simp only [Option.some.injEq, Prod.mk.injEq] at HZ1
    obtain ⟨rfl, rfl, rfl⟩ := HZ1
    have hlz : decide (0 < (out.length : Int)) = false := decide_eq_false (by omega)
    have hln : decide (0 < out.length) = false := decide_eq_false hl
    go_wp2
    go_ret
    exact ⟨_, rfl, HO1.out, HI1.out, HB1.out, HK1.out⟩
def spec_DrawPlayCmds.f (k : Nat) (l0 : List Int) : Option (List S26) := (spec_l1Cur_cmds.f k l0 0 0 10).bind fun t => some t.1
theorem spec_DrawPlayCmds.mono : ∀ l0 k, LeO (spec_DrawPlayCmds.f k l0) (spec_DrawPlayCmds.f (k + 1) l0) := by
 intro l0 k
 unfold spec_DrawPlayCmds.f
 exact LeO.bind (spec_l1Cur_cmds.mono l0 0 0 10 k) (fun _ => LeO.refl _)
set_option maxHeartbeats 8000000 in
set_option maxRecDepth 100000 in
theorem spec_DrawPlayCmds.calls (k : Nat) (A0 : Option Addr) (c0 : Nat) (l0 : List Int) (r : List S26) (w : World) (hr0 : Kd.C (Kd.int .u8) w A0 l0.length l0) (hc0 : l0.length ≤ c0) (h : spec_DrawPlayCmds.f k l0 = some r) :
  Calls Try.prog 22 #[.slice A0 l0.length c0] w fun e w' => ∃ v0_ : Value, e = .returned (v0_) ∧ Kd.R k26 26 w' w.heap.size (fun _ => True) v0_ r ∧ Below w.heap.size w w' := by
 unfold spec_DrawPlayCmds.f at h
 obtain ⟨⟨t1, t2, t3⟩, hq, h⟩ := Option.bind_eq_some_iff.1 h
 obtain rfl : t1 = r := Option.some.inj h
 have HQ := Am hq
 clear h hq
 have HR := Am hr0
 clear hr0 hc0
 go_enter Try.func22, Try.ntmps22
 go_upto_region 2 with (fail)
 refine letC (fun W_ => Below w.heap.size w W_ ∧ W_.heap[w.heap.size]? = some (.cells #[.slice A0 l0.length c0, .int .i64 0, .int .u64 0] 91 (0, 0))) ⟨Ba (Below.refl _ _) _, blk_new w (.cells #[.slice A0 l0.length c0, .int .i64 0, .int .u64 0] 91)⟩ ?_
 rintro W0 ⟨hb, hx⟩
 have HB0 := Am hb
 have HI0 : Ad (IsS91 w W0 w.heap.size l0 0 0) := ⟨⟨A0, c0, hx, Nat.le_refl _, HR.out⟩⟩
 clear hb hx
 generalize w.heap.size = g at HI0
 go_wp2_with fail
 refine (spec_l1Cur_cmds.calls k g l0 0 0 10 t1 t2 t3 w W0 HI0.out HB0.out HQ.out).mono ?_
 rintro e W1 ⟨v, rfl, hR, hI, hB, hK⟩
 have HR1 := Am (Kd.R_lower hR HB0.out.size)
 have HB1 := Am hB
 clear hR hI hB hK HI0 HB0
 go_wp2
 go_ret
 exact ⟨_, rfl, HR1.out, HB1.out⟩
set_option maxHeartbeats 2000000 in
set_option maxRecDepth 100000 in
theorem impl_Cmd_177.anyO (g : Nat) (lb : Array Value) (p : S26 → Option Bool) (A : Option Addr) (c : Nat) (xs : List S26) (w : World) (r : Int)
  (eg : ∀ args w, (callFunc g args).run Try.prog w = .ok (.enter g args) w)
  (hr : Kd.C k26 w A xs.length xs) (hc : xs.length ≤ c)
  (hp : ∀ (W : World) (x : S26), x ∈ xs → Below w.heap.size w W → ∀ b : Bool, p x = some b → Calls Try.prog g (#[.agg #[.int .i64 (x.f0), .int .i64 (x.f1), .int .i64 (x.f2), .int .i64 (x.f3), .int .i64 (x.f4)]] ++ lb) W fun e w' => e = .returned (.bool b) ∧ Below W.heap.size W w') (h : Mine.idxO p xs 0 = some r) :
  Calls Try.prog 177 #[.slice A xs.length c, .func (.func g) #[] lb] w fun e w' => e = .returned (.int .i64 r) ∧ Below w.heap.size w w' := by
 have hm : xs.length ≤ 9223372036854775807 := hr.2.1
 have HR := Am hr
 have HP := Am hp
 have HI := Am h
 clear hr hp h
 have hu := Try.underlying26
 go_enter Try.func177, Try.ntmps177
 go_wp2
 go_loopg [5, 8] xs.length (fun gg _ s8 wr => ∃ kk : Nat, kk ≤ xs.length ∧ xs.length - kk ≤ gg ∧ s8 = .int .i64 kk ∧ Ad (Below w.heap.size w wr) ∧ Ad (Mine.idxO p (xs.drop kk) (kk : Int) = some r))
 case atStart => exact ⟨0, Nat.zero_le _, by omega, rfl, ⟨Below.refl _ w⟩, ⟨by simpa using HI.out⟩⟩
 case round =>
  obtain ⟨kk, hkk, hg, rfl, BW, PF⟩ := hrel
  by_cases hlt : kk < xs.length
  ·have hltz : (kk : Int) < (xs.length : Int) := by omega
   obtain ⟨ad, rfl, hx0, hx1, hx2, hx3, hx4⟩ := at_T26 (Kd.C_below HR.out BW.out) (kk : Int) (by omega) hltz
   simp only [Int.toNat_natCast] at hx0 hx1 hx2 hx3 hx4
   have hy : Ad (xs.getD kk z26 = rd_T26 xs (kk : Int)) := ⟨by unfold rd_T26; rw [Int.toNat_natCast]⟩
   have hmem : rd_T26 xs (kk : Int) ∈ xs := by rw [← hy.out]; exact Mine.getD_mem _ _ _ hlt
   have PG : Ad ((p (rd_T26 xs (kk : Int))).bind (fun b => if b = true then some (kk : Int) else Mine.idxO p (xs.drop (kk + 1)) ((kk : Int) + 1)) = some r) := ⟨by have h_ := PF.out; rw [Mine.drop_at xs z26 kk hlt, hy.out] at h_; exact h_⟩
   have hcall := HP.out wr (rd_T26 xs (kk : Int)) hmem BW.out
   clear hmem PF
   skip
   generalize rd_T26 xs (kk : Int) = y at hx0 hx1 hx2 hx3 hx4 hcall hy PG
   cases hq : p y with
   | none => exact absurd PG.out (by rw [hq]; simp)
   | some b =>
    have hcall := hcall b hq
    have PG : Ad ((if b = true then some (kk : Int) else Mine.idxO p (xs.drop (kk + 1)) ((kk : Int) + 1)) = some r) := ⟨by have h_ := PG.out; rw [hq] at h_; exact h_⟩
    clear hq hy
    cases b with
    | true =>
     obtain rfl := Option.some.inj PG.out
     clear PG
     go_wp2_with fail
     refine hcall.mono ?_; rintro e w' ⟨rfl, hb'⟩
     go_wp2
     go_ret
     exact ⟨rfl, below_then BW.out BW.out.size hb'⟩
    | false =>
     go_wp2_with fail
     refine hcall.mono ?_; rintro e w' ⟨rfl, hb'⟩
     go_wp2
     go_roundg (xs.length - (kk + 1))
     case measure => omega
     case rel => exact ⟨kk + 1, by omega, by omega, by go_num, ⟨below_then BW.out BW.out.size hb'⟩, ⟨by have h_ := PG.out; simpa using h_⟩⟩
  ·have hltz : ¬ (kk : Int) < (xs.length : Int) := by omega
   obtain rfl : kk = xs.length := by omega
   have PG : Ad ((-1 : Int) = r) := ⟨by have h_ := PF.out; rw [List.drop_eq_nil_of_le (Nat.le_refl _)] at h_; exact Option.some.inj h_⟩
   clear PF
   go_wp2
   go_ret
   refine ⟨?_, BW.out⟩
   rw [← PG.out]
   first | done | rfl
theorem impl_Cmd_177.any (g : Nat) (lb : Array Value) (p : S26 → Bool) (A : Option Addr) (c : Nat) (xs : List S26) (w : World)
  (eg : ∀ args w, (callFunc g args).run Try.prog w = .ok (.enter g args) w)
  (hr : Kd.C k26 w A xs.length xs) (hc : xs.length ≤ c)
  (hp : ∀ (W : World) (x : S26), x ∈ xs → Below w.heap.size w W → Calls Try.prog g (#[.agg #[.int .i64 (x.f0), .int .i64 (x.f1), .int .i64 (x.f2), .int .i64 (x.f3), .int .i64 (x.f4)]] ++ lb) W fun e w' => e = .returned (.bool (p x)) ∧ Below W.heap.size W w') :
  Calls Try.prog 177 #[.slice A xs.length c, .func (.func g) #[] lb] w fun e w' => e = .returned (.int .i64 (Mine.idxP p xs 0)) ∧ Below w.heap.size w w' :=
 impl_Cmd_177.anyO g lb (fun x => some (p x)) A c xs w _ eg hr hc (fun W x hx bW b hb_ => by cases hb_; exact hp W x hx bW) (Mine.idxO_total (fun _ _ => rfl) 0)
set_option maxHeartbeats 2000000 in
theorem impl_Cmd_138.anyO (g : Nat) (lb : Array Value) (p : S26 → Option Bool) (A : Option Addr) (c : Nat) (xs : List S26) (w : World) (r : Bool)
  (eg : ∀ args w, (callFunc g args).run Try.prog w = .ok (.enter g args) w)
  (hr : Kd.C k26 w A xs.length xs) (hc : xs.length ≤ c)
  (hp : ∀ (W : World) (x : S26), x ∈ xs → Below w.heap.size w W → ∀ b : Bool, p x = some b → Calls Try.prog g (#[.agg #[.int .i64 (x.f0), .int .i64 (x.f1), .int .i64 (x.f2), .int .i64 (x.f3), .int .i64 (x.f4)]] ++ lb) W fun e w' => e = .returned (.bool b) ∧ Below W.heap.size W w') (h : Mine.anyO p xs = some r) :
  Calls Try.prog 138 #[.slice A xs.length c, .func (.func g) #[] lb] w fun e w' => e = .returned (.bool r) ∧ Below w.heap.size w w' := by
 obtain ⟨y, hi, he⟩ := Mine.anyO_idx p xs r h
 have hcall := impl_Cmd_177.anyO g lb p A c xs w y eg hr hc hp hi
 have he := Am he
 clear hp hr eg hi h
 go_enter Try.func138, Try.ntmps138
 go_wp2_with fail
 refine hcall.mono ?_; rintro e w' ⟨rfl, hb'⟩
 go_wp2
 go_ret
 refine ⟨?_, hb'⟩
 rw [← he.out]
 rfl
theorem impl_Cmd_138.any (g : Nat) (lb : Array Value) (p : S26 → Bool) (A : Option Addr) (c : Nat) (xs : List S26) (w : World)
  (eg : ∀ args w, (callFunc g args).run Try.prog w = .ok (.enter g args) w)
  (hr : Kd.C k26 w A xs.length xs) (hc : xs.length ≤ c)
  (hp : ∀ (W : World) (x : S26), x ∈ xs → Below w.heap.size w W → Calls Try.prog g (#[.agg #[.int .i64 (x.f0), .int .i64 (x.f1), .int .i64 (x.f2), .int .i64 (x.f3), .int .i64 (x.f4)]] ++ lb) W fun e w' => e = .returned (.bool (p x)) ∧ Below W.heap.size W w') :
  Calls Try.prog 138 #[.slice A xs.length c, .func (.func g) #[] lb] w fun e w' => e = .returned (.bool (Mine.anyP p xs)) ∧ Below w.heap.size w w' :=
 impl_Cmd_138.anyO g lb (fun x => some (p x)) A c xs w _ eg hr hc (fun W x hx bW b hb_ => by cases hb_; exact hp W x hx bW) (Mine.anyO_total (fun _ _ => rfl))
def impl_goodCmds_1.f (a0_0 : Int) (a0_1 : Int) (a0_2 : Int) (a0_3 : Int) (a0_4 : Int) : Option (Bool) := (impl_GoodCmd.f a0_0 a0_1 a0_2 a0_3 a0_4).bind fun t297 => (some (!t297))
set_option maxHeartbeats 8000000 in
set_option maxRecDepth 100000 in
theorem impl_goodCmds_1.calls (a0_0 : Int) (a0_1 : Int) (a0_2 : Int) (a0_3 : Int) (a0_4 : Int) (r : Bool) (w : World) (h : impl_goodCmds_1.f a0_0 a0_1 a0_2 a0_3 a0_4 = some r) :
  Calls Try.prog 139 #[.agg #[.int .i64 a0_0, .int .i64 a0_1, .int .i64 a0_2, .int .i64 a0_3, .int .i64 a0_4]] w fun e w' => e = .returned (.bool r) ∧ Below w.heap.size w w' := by
 have hu26 := Try.underlying26
 have HB := Am (Below.refl w.heap.size w)
 have H : ((impl_GoodCmd.f a0_0 a0_1 a0_2 a0_3 a0_4).bind fun t297 => (some (!t297))) = some r := h
 clear h
 replace H := Option.bind_eq_some_iff.mp H
 obtain ⟨t297, A20, H⟩ := H
 replace H : (some (!t297)) = some r := H
 have A2 := Am A20
 clear A20
 obtain rfl := Option.some.inj H
 go_enter Try.func139, Try.ntmps139
 go_wp2_with (first | ((refine Gd (N := 1) rfl ?_); refine Be ?hg (N := 1) ?hd (cs := #[.int .i64 a0_0, .int .i64 a0_1, .int .i64 a0_2, .int .i64 a0_3, .int .i64 a0_4]) (t := 26) ?hr ?_; (case hd | hg => rfl); (case hr => first | (go_simp; done) | (go_simp; rfl)); intro gb296 hg w3 hbox hb; have n0_ := Am (Bt (by repeat (first | exact HB.out | apply Ba | apply Bn | apply Bd)) hb); have n1_ := Am (hbox); have n2_ := Am ((by rw [hg]; exact (Bz (by repeat (first | exact HB.out | apply Ba | apply Bn | apply Bd))) : w.heap.size ≤ gb296)); have n3_ := Am ((by rw [hg]; exact (Bz (by repeat (first | exact HB.out | apply Ba | apply Bn | apply Bd))) : w.heap.size ≤ gb296)); clear HB; have HB := n0_; have BK296 := n1_; have GW296 := n2_; have GE296 := n3_; clear n0_ n1_ n2_ n3_; clear hb hbox hg; have hcz4_0 : w3.cell? ⟨gb296, 0, none⟩ = some (.int .i64 a0_0) := (Kc BK296.out 0).trans rfl; have hcz4_1 : w3.cell? ⟨gb296, 1, none⟩ = some (.int .i64 a0_1) := (Kc BK296.out 1).trans rfl; have hcz4_2 : w3.cell? ⟨gb296, 2, none⟩ = some (.int .i64 a0_2) := (Kc BK296.out 2).trans rfl; have hcz4_3 : w3.cell? ⟨gb296, 3, none⟩ = some (.int .i64 a0_3) := (Kc BK296.out 3).trans rfl; have hcz4_4 : w3.cell? ⟨gb296, 4, none⟩ = some (.int .i64 a0_4) := (Kc BK296.out 4).trans rfl; have hfz4_0 := Kz BK296.out 0; have hfz4_1 := Kz BK296.out 1; have hfz4_2 := Kz BK296.out 2; have hfz4_3 := Kz BK296.out 3; have hfz4_4 := Kz BK296.out 4) | ((refine Gc (f := 69) rfl ?_); refine goesL_ (some 4) rfl rfl Try.func69 (by kernel_rfl) rfl #[.agg #[.int .i64 a0_0, .int .i64 a0_1, .int .i64 a0_2, .int .i64 a0_3, .int .i64 a0_4]] rfl (by first | rfl | (simp only [List.map_toArray, List.map_cons, List.map_nil]; first | done | rfl)) ?_; (with_reducible refine (impl_GoodCmd.calls a0_0 a0_1 a0_2 a0_3 a0_4 t297 _ A2.out).mono ?_); rintro e w5 ⟨rfl, hb⟩; refine ⟨_, rfl, ?_⟩; have n0_ := Am (Kb (g := gb296) (o := .cells #[.int .i64 a0_0, .int .i64 a0_1, .int .i64 a0_2, .int .i64 a0_3, .int .i64 a0_4] 26 (0, 0)) (by (with_reducible repeat (first | refine Kn ?_ _ | refine Ke ?_ | refine Ka ?_ _)); exact BK296.out) hb); have n1_ := Am (Bt (by repeat (first | (with_reducible first | exact HB.out | apply Ba | apply Bn | apply Bd | refine Bs ?_ GE296.out) | exact HB.out)) hb); clear BK296; clear HB; have BK296 := n0_; have HB := n1_; clear n0_ n1_; (try clear hb); (try clear hb2); (try clear hk); (try clear hi)))
 go_ret
 exact ⟨by first | rfl | (simp [*, errW_none, errW_some] <;> rfl), by repeat (first | (with_reducible first | exact HB.out | apply Ba | apply Bn | apply Bd | refine Bs ?_ GE296.out) | exact HB.out)⟩
def impl_goodCmds_1_in_c.f (l0 : List S26) : Option Bool := Mine.anyO (fun x : S26 => impl_goodCmds_1.f x.f0 x.f1 x.f2 x.f3 x.f4) l0
set_option maxHeartbeats 2000000 in
theorem impl_goodCmds_1_in_c.calls (A0 : Option Addr) (c0 : Nat) (l0 : List S26) (r : Bool) (w : World) (hr0 : Kd.C k26 w A0 l0.length l0) (hc0 : l0.length ≤ c0) (h : impl_goodCmds_1_in_c.f l0  = some r) :
  Calls Try.prog 138 #[.slice A0 l0.length c0, .func (.func 139) #[] #[]] w fun e w' => e = .returned (.bool r) ∧ Below w.heap.size w w' :=
 impl_Cmd_138.anyO 139 #[] (fun x : S26 => impl_goodCmds_1.f x.f0 x.f1 x.f2 x.f3 x.f4) A0 c0 l0 w r (fun args w => enters_ Try.func139 (by kernel_rfl) rfl args w) hr0 hc0
  (fun W x hx bW b hb_ => (impl_goodCmds_1.calls x.f0 x.f1 x.f2 x.f3 x.f4 b W hb_).mono (fun e w' hh => ⟨hh.1, hh.2⟩)) h
def impl_goodCmds.f (l0 : List (S26)) : Option (Bool) := if (l0.length : Int) ≤ 60 then ((impl_goodCmds_1_in_c.f l0).bind fun t298 => (some (!t298))) else (some false)
set_option maxHeartbeats 8000000 in
set_option maxRecDepth 100000 in
theorem impl_goodCmds.calls (A0 : Option Addr) (c0 : Nat) (l0 : List (S26)) (r : Bool) (w : World) (hr0 : Kd.C k26 w A0 l0.length l0) (hc0 : l0.length ≤ c0) (h : impl_goodCmds.f l0 = some r) :
  Calls Try.prog 82 #[.slice A0 l0.length c0] w fun e w' => e = .returned (.bool r) ∧ Below w.heap.size w w' := by
 have HR0 := Am hr0
 have HC0 := Am hc0
 clear hr0 hc0
 have HB := Am (Below.refl w.heap.size w)
 have H : (if (l0.length : Int) ≤ 60 then ((impl_goodCmds_1_in_c.f l0).bind fun t298 => (some (!t298))) else (some false)) = some r := h
 clear h
 by_cases c2 : (l0.length : Int) ≤ 60
 ·rw [if_pos c2] at H
  have c2b0 : decide ((l0.length : Int) ≤ 60) = true := decide_eq_true c2
  have c2b1 : decide (l0.length ≤ 60) = true := decide_eq_true (by omega)
  clear c2
  replace H := Option.bind_eq_some_iff.mp H
  obtain ⟨t298, A30, H⟩ := H
  replace H : (some (!t298)) = some r := H
  have A3 := Am A30
  clear A30
  obtain rfl := Option.some.inj H
  go_enter Try.func82, Try.ntmps82
  go_wp2_with (first | (go_at_call 138; (with_reducible refine (impl_goodCmds_1_in_c.calls _ _ l0  t298 _ ?side1 ?side2 A3.out).mono ?_); (case side1 => repeat (first | exact HR0.out | (with_reducible refine Kd.C_alloc ?_ _) | (with_reducible refine Kd.C_drewN ?_ _) | (with_reducible refine Kd.C_drew ?_))); (case side2 => exact HC0.out); rintro e w4 ⟨rfl, hb⟩; have n0_ := Am (Bt (by repeat (first | exact HB.out | apply Ba | apply Bn | apply Bd)) hb); clear HB; have HB := n0_; clear n0_; (try clear hb); (try clear hb2); (try clear hk); (try clear hi)))
  go_ret
  exact ⟨by first | rfl | (simp [*, errW_none, errW_some] <;> rfl), by repeat (first | exact HB.out | apply Ba | apply Bn | apply Bd)⟩
 ·rw [if_neg c2] at H
  have c2b0 : decide ((l0.length : Int) ≤ 60) = false := decide_eq_false c2
  have c2b1 : decide (l0.length ≤ 60) = false := decide_eq_false (by omega)
  clear c2
  obtain rfl := Option.some.inj H
  go_enter Try.func82, Try.ntmps82
  go_wp2
  go_ret
  exact ⟨by first | rfl | (simp [*, errW_none, errW_some] <;> rfl), by repeat (first | exact HB.out | apply Ba | apply Bn | apply Bd)⟩
end Go.Proofs.Yteecmbfebenjjaa.QFnSums
