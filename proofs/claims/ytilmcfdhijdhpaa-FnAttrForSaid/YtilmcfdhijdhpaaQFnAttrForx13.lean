-- Written by a program of this session (wip/mk.py) over the kit's print: Lean checks it.
import Derived.Test.YtilmcfdhijdhpaaQFnAttrForx0
import Derived.Test.YtilmcfdhijdhpaaQFnAttrForx2
import Derived.Test.YtilmcfdhijdhpaaQFnAttrForx8
import Derived.Test.YtilmcfdhijdhpaaQFnAttrForx9
import Derived.Test.YtilmcfdhijdhpaaQFnAttrForx12
namespace Go.Proofs.Ytilmcfdhijdhpaa.QFnAttrFor
open Go.Proofs.YtilmcfdhijdhpaaW.PrintWords.Kd renaming R_alloc → Ra, R_drewN → Rn, R_drew → Rd
open Go.Proofs.YtilmcfdhijdhpaaW.PrintWords renaming below_alloc → Ba, pw_below_drewN → Bn, below_drew1 → Bd, below_set → Bs, below_size → Bz, below_step → Bt, gate_dst → Gd, gate_callee → Gc, box_event → Be, blk_alloc → Ka, blk_drewN → Kn, blk_drew → Ke, blk_below → Kb, blk_cell → Kc, blk_far → Kf, blk_frozen → Kz
open List renaming setIfInBounds_toArray → Lt, set_cons_zero → Lz, set_cons_succ → Ls
open Go.World renaming block_lt_of_cell? → bl_
open Go.Proofs.YtilmcfdhijdhpaaW.PrintWords.Aside0 renaming mk → Am
open Go.Proofs.YtilmcfdhijdhpaaW.PrintWords renaming Aside0 → Ad
open Go.RowKit Go.Proofs.YtilmcfdhijdhpaaW.PrintWords Go.Proofs.YtilmcfdhijdhpaaW.PrintLast Go.Proofs.YtilmcfdhijdhpaaW.PrintMore
attribute [local go_sem] max2_int min2_int max_two min_two max_three min_three max_four min_four   -- for this text's walks alone
set_option linter.unusedVariables false
set_option linter.unusedSimpArgs false
def spec_l2Touches.f (k : Nat) (a0_0 : Int) (a0_1 : Int) (a0_2 : Int) (a0_3 : Int) (a0_4 : Int) : Option (List Int) := if a0_0 = 1 then ((spec_l1Put.f k (([a0_2] : List Int)) a0_3).bind fun t370 => (some t370)) else (if a0_0 = 2 then (some (([a0_2] : List Int))) else (some ([] : List Int)))
theorem spec_l2Touches.mono : ∀ a0 a1 a2 a3 a4 k, LeO (spec_l2Touches.f k a0 a1 a2 a3 a4) (spec_l2Touches.f (k + 1) a0 a1 a2 a3 a4) := by
 intro a0 a1 a2 a3 a4 k
 unfold spec_l2Touches.f
 repeat' first
   | (with_reducible exact spec_l1Put.mono _ _ _)
   | (with_reducible exact LeO.refl _)
   | (with_reducible exact LeO.none _)
   | (with_reducible refine LeO.ite ?_ ?_)
   | (with_reducible refine LeO.bind ?_ (fun _ => ?_))
   | exact spec_l1Put.mono _ _ _
   | exact LeO.none _
   | refine LeO.ite ?_ ?_
   | refine LeO.bind ?_ (fun _ => ?_)
set_option maxHeartbeats 8000000 in
set_option maxRecDepth 100000 in
theorem spec_l2Touches.calls (k : Nat) (a0_0 : Int) (a0_1 : Int) (a0_2 : Int) (a0_3 : Int) (a0_4 : Int) (r : List Int) (w : World) (h : spec_l2Touches.f k a0_0 a0_1 a0_2 a0_3 a0_4 = some r) :
  Calls Try.prog 88 #[.agg #[.int .i64 a0_0, .int .i64 a0_1, .int .i64 a0_2, .int .i64 a0_3, .int .i64 a0_4]] w fun e w' => ∃ v0_ : Value, e = .returned (v0_) ∧ Kd.R (Kd.int .i64) 3 w' w.heap.size (fun _ => True) v0_ r ∧ Below w.heap.size w w' := by
 have hu28 := Try.underlying28
 have HB := Am (Below.refl w.heap.size w)
 have H : (if a0_0 = 1 then ((spec_l1Put.f k (([a0_2] : List Int)) a0_3).bind fun t370 => (some t370)) else (if a0_0 = 2 then (some (([a0_2] : List Int))) else (some ([] : List Int)))) = some r := h
 clear h
 by_cases c2 : a0_0 = 1
 ·rw [if_pos c2] at H
  have c2b0 : (a0_0 == 1) = true := beq_iff_eq.mpr c2
  have c2b1 : (a0_0 != 1) = false := bne_eq_false_iff_eq.mpr c2
  clear c2
  obtain ⟨y367, hy367⟩ : ∃ y_ : List Int, y_ = (([a0_2] : List Int)) := ⟨_, rfl⟩
  replace H : ((spec_l1Put.f k y367 a0_3).bind fun t370 => (some t370)) = some r := by first | (rw [hy367]; with_reducible exact H) | (have H2_ := (Option.bind_some _ _).symm.trans H; rw [hy367]; with_reducible exact H2_) | (have H2_ := (Option.bind_some _ _).symm.trans H; with_reducible exact H2_) | with_reducible exact H | (rw [hy367]; exact H) | exact H
  have Ny367 := Am hy367
  clear hy367
  replace H := Option.bind_eq_some_iff.mp H
  obtain ⟨t370, A30, H⟩ := H
  replace H : (some t370) = some r := H
  have A3 := Am A30
  clear A30
  obtain rfl := Option.some.inj H
  go_enter Try.func88, Try.ntmps88
  go_wp2_with (first | ((refine Gd (N := 1) rfl ?_); refine Be ?hg (N := 1) ?hd (cs := #[.int .i64 a0_0, .int .i64 a0_1, .int .i64 a0_2, .int .i64 a0_3, .int .i64 a0_4]) (t := 28) ?hr ?_; (case hd | hg => rfl); (case hr => first | (go_simp; done) | (go_simp; rfl)); intro gb366 hg w4 hbox hb; have n0_ := Am (Bt (by repeat (first | exact HB.out | apply Ba | apply Bn | apply Bd)) hb); have n1_ := Am (hbox); have n2_ := Am ((by rw [hg]; exact (Bz (by repeat (first | exact HB.out | apply Ba | apply Bn | apply Bd))) : w.heap.size ≤ gb366)); have n3_ := Am ((by rw [hg]; exact (Bz (by repeat (first | exact HB.out | apply Ba | apply Bn | apply Bd))) : w.heap.size ≤ gb366)); clear HB; have HB := n0_; have BK366 := n1_; have GW366 := n2_; have GE366 := n3_; clear n0_ n1_ n2_ n3_; clear hb hbox hg; have hcz5_0 : w4.cell? ⟨gb366, 0, none⟩ = some (.int .i64 a0_0) := (Kc BK366.out 0).trans rfl; have hcz5_1 : w4.cell? ⟨gb366, 1, none⟩ = some (.int .i64 a0_1) := (Kc BK366.out 1).trans rfl; have hcz5_2 : w4.cell? ⟨gb366, 2, none⟩ = some (.int .i64 a0_2) := (Kc BK366.out 2).trans rfl; have hcz5_3 : w4.cell? ⟨gb366, 3, none⟩ = some (.int .i64 a0_3) := (Kc BK366.out 3).trans rfl; have hcz5_4 : w4.cell? ⟨gb366, 4, none⟩ = some (.int .i64 a0_4) := (Kc BK366.out 4).trans rfl; have hfz5_0 := Kz BK366.out 0; have hfz5_1 := Kz BK366.out 1; have hfz5_2 := Kz BK366.out 2; have hfz5_3 := Kz BK366.out 3; have hfz5_4 := Kz BK366.out 4) | ((refine Gd (N := 9) rfl ?_); refine Kd.R_lit (Kd.int .i64) _ 3 ?hg (N := 9) ?hd (xs := ([a0_2] : List Int)) (inner := [.int .i64 a0_2]) (ok := fun _ => True) (okp := fun _ => True) ?hr ?hp (fun _ hk => hk) trivial (Below.refl _ _) (Nat.le_refl _) (by simp) ?_; (case hd | hg => rfl); (case hr => first | (go_simp; done) | (go_simp; rfl)); (case hp => exact (Reps.one (show Kd.M (Kd.int .i64) _ _ _ a0_2 [.int .i64 a0_2] from rfl) (Reps.none _ _))); intro v368 w6 ho7 hb hg_ hnew_; clear hg_ hnew_; (first | rw [← Ny367.out] at ho7 | (simp only [Int.reduceToNat] at ho7; rw [← Ny367.out] at ho7)); have n0_ := Am (Kd.R_lower ho7 (Bz (by repeat (first | (with_reducible first | exact HB.out | apply Ba | apply Bn | apply Bd | refine Bs ?_ GE366.out) | exact HB.out)))); have n1_ := Am (Kb (g := gb366) (o := .cells #[.int .i64 a0_0, .int .i64 a0_1, .int .i64 a0_2, .int .i64 a0_3, .int .i64 a0_4] 28 (0, 0)) (by (with_reducible repeat (first | refine Kn ?_ _ | refine Ke ?_ | refine Ka ?_ _)); exact BK366.out) hb); have n2_ := Am (Bt (by repeat (first | (with_reducible first | exact HB.out | apply Ba | apply Bn | apply Bd | refine Bs ?_ GE366.out) | exact HB.out)) hb); clear BK366; clear HB; have HO369 := n0_; have BK366 := n1_; have HB := n2_; clear n0_ n1_ n2_; clear hb ho7; have hcz8_0 : w6.cell? ⟨gb366, 0, none⟩ = some (.int .i64 a0_0) := (Kc BK366.out 0).trans rfl; have hcz8_1 : w6.cell? ⟨gb366, 1, none⟩ = some (.int .i64 a0_1) := (Kc BK366.out 1).trans rfl; have hcz8_2 : w6.cell? ⟨gb366, 2, none⟩ = some (.int .i64 a0_2) := (Kc BK366.out 2).trans rfl; have hcz8_3 : w6.cell? ⟨gb366, 3, none⟩ = some (.int .i64 a0_3) := (Kc BK366.out 3).trans rfl; have hcz8_4 : w6.cell? ⟨gb366, 4, none⟩ = some (.int .i64 a0_4) := (Kc BK366.out 4).trans rfl; have hfz8_0 := Kz BK366.out 0; have hfz8_1 := Kz BK366.out 1; have hfz8_2 := Kz BK366.out 2; have hfz8_3 := Kz BK366.out 3; have hfz8_4 := Kz BK366.out 4; obtain ⟨Ao9, co9, eo9⟩ := Kd.R_slice HO369.out; subst eo9) | ((refine Gc (f := 108) rfl ?_); refine goesL_ (some 12) rfl rfl Try.func108 (by kernel_rfl) rfl #[.slice Ao9 y367.length co9, .int .i64 a0_3] rfl (by first | rfl | (simp only [List.map_toArray, List.map_cons, List.map_nil]; first | done | rfl)) ?_; (with_reducible refine (spec_l1Put.calls k (fun k_ => some k_ = (.slice Ao9 y367.length co9 : Value).ownBlock) (.slice Ao9 y367.length co9) y367 a0_3 t370 w _ ?side1 ?side2 A3.out).mono ?_); (case side1 => repeat (first | (with_reducible first | exact HB.out | apply Ba | apply Bn | apply Bd | refine Bs ?_ GE366.out) | exact HB.out)); (case side2 => exact Kd.R_tight rfl HO369.out); rintro e w10 ⟨v371, rfl, ho0, hb, hkp⟩; refine ⟨_, rfl, ?_⟩; have n0_ := Am (blk_kept (by (with_reducible repeat (first | refine Kn ?_ _ | refine Ke ?_ | refine Ka ?_ _)); exact BK366.out) hkp (fun hs_ => (fun e_ => (Kd.R_ne HO369.out BK366.out (by decide)) e_) hs_)); have n1_ := Am (Kd.R_mono (ok' := fun k_ => True) ho0 (fun k_ hk_ => trivial)); have n2_ := Am (hb); clear BK366; clear HB; clear HO369; have BK366 := n0_; have HO372 := n1_; have HB := n2_; clear n0_ n1_ n2_; (try clear hb); (try clear hkp); (try clear ho0)))
  go_ret
  exact ⟨_, by first | rfl | (simp [*, errW_none, errW_some] <;> rfl), by (with_reducible repeat (first | apply Ra | apply Rn | apply Rd)); exact HO372.out, by repeat (first | (with_reducible first | exact HB.out | apply Ba | apply Bn | apply Bd | refine Bs ?_ GE366.out) | exact HB.out)⟩
 ·rw [if_neg c2] at H
  have c2b0 : (a0_0 == 1) = false := beq_eq_false_iff_ne.mpr c2
  have c2b1 : (a0_0 != 1) = true := bne_iff_ne.mpr c2
  by_cases c11 : a0_0 = 2
  ·rw [if_pos c11] at H
   have c11b0 : (a0_0 == 2) = true := beq_iff_eq.mpr c11
   have c11b1 : (a0_0 != 2) = false := bne_eq_false_iff_eq.mpr c11
   clear c11
   obtain ⟨y373, hy373⟩ : ∃ y_ : List Int, y_ = (([a0_2] : List Int)) := ⟨_, rfl⟩
   replace H : (some y373) = some r := by first | (rw [hy373]; with_reducible exact H) | (have H2_ := (Option.bind_some _ _).symm.trans H; rw [hy373]; with_reducible exact H2_) | (have H2_ := (Option.bind_some _ _).symm.trans H; with_reducible exact H2_) | with_reducible exact H | (rw [hy373]; exact H) | exact H
   have Ny373 := Am hy373
   clear hy373
   obtain rfl := Option.some.inj H
   go_enter Try.func88, Try.ntmps88
   go_wp2_with (first | ((refine Gd (N := 1) rfl ?_); refine Be ?hg (N := 1) ?hd (cs := #[.int .i64 a0_0, .int .i64 a0_1, .int .i64 a0_2, .int .i64 a0_3, .int .i64 a0_4]) (t := 28) ?hr ?_; (case hd | hg => rfl); (case hr => first | (go_simp; done) | (go_simp; rfl)); intro gb366 hg w12 hbox hb; have n0_ := Am (Bt (by repeat (first | exact HB.out | apply Ba | apply Bn | apply Bd)) hb); have n1_ := Am (hbox); have n2_ := Am ((by rw [hg]; exact (Bz (by repeat (first | exact HB.out | apply Ba | apply Bn | apply Bd))) : w.heap.size ≤ gb366)); have n3_ := Am ((by rw [hg]; exact (Bz (by repeat (first | exact HB.out | apply Ba | apply Bn | apply Bd))) : w.heap.size ≤ gb366)); clear HB; have HB := n0_; have BK366 := n1_; have GW366 := n2_; have GE366 := n3_; clear n0_ n1_ n2_ n3_; clear hb hbox hg; have hcz13_0 : w12.cell? ⟨gb366, 0, none⟩ = some (.int .i64 a0_0) := (Kc BK366.out 0).trans rfl; have hcz13_1 : w12.cell? ⟨gb366, 1, none⟩ = some (.int .i64 a0_1) := (Kc BK366.out 1).trans rfl; have hcz13_2 : w12.cell? ⟨gb366, 2, none⟩ = some (.int .i64 a0_2) := (Kc BK366.out 2).trans rfl; have hcz13_3 : w12.cell? ⟨gb366, 3, none⟩ = some (.int .i64 a0_3) := (Kc BK366.out 3).trans rfl; have hcz13_4 : w12.cell? ⟨gb366, 4, none⟩ = some (.int .i64 a0_4) := (Kc BK366.out 4).trans rfl; have hfz13_0 := Kz BK366.out 0; have hfz13_1 := Kz BK366.out 1; have hfz13_2 := Kz BK366.out 2; have hfz13_3 := Kz BK366.out 3; have hfz13_4 := Kz BK366.out 4) | ((refine Gd (N := 17) rfl ?_); refine Kd.R_lit (Kd.int .i64) _ 3 ?hg (N := 17) ?hd (xs := ([a0_2] : List Int)) (inner := [.int .i64 a0_2]) (ok := fun _ => True) (okp := fun _ => True) ?hr ?hp (fun _ hk => hk) trivial (Below.refl _ _) (Nat.le_refl _) (by simp) ?_; (case hd | hg => rfl); (case hr => first | (go_simp; done) | (go_simp; rfl)); (case hp => exact (Reps.one (show Kd.M (Kd.int .i64) _ _ _ a0_2 [.int .i64 a0_2] from rfl) (Reps.none _ _))); intro v374 w14 ho15 hb hg_ hnew_; clear hg_ hnew_; (first | rw [← Ny373.out] at ho15 | (simp only [Int.reduceToNat] at ho15; rw [← Ny373.out] at ho15)); have n0_ := Am (Kd.R_lower ho15 (Bz (by repeat (first | (with_reducible first | exact HB.out | apply Ba | apply Bn | apply Bd | refine Bs ?_ GE366.out) | exact HB.out)))); have n1_ := Am (Kb (g := gb366) (o := .cells #[.int .i64 a0_0, .int .i64 a0_1, .int .i64 a0_2, .int .i64 a0_3, .int .i64 a0_4] 28 (0, 0)) (by (with_reducible repeat (first | refine Kn ?_ _ | refine Ke ?_ | refine Ka ?_ _)); exact BK366.out) hb); have n2_ := Am (Bt (by repeat (first | (with_reducible first | exact HB.out | apply Ba | apply Bn | apply Bd | refine Bs ?_ GE366.out) | exact HB.out)) hb); clear BK366; clear HB; have HO375 := n0_; have BK366 := n1_; have HB := n2_; clear n0_ n1_ n2_; clear hb ho15))
   go_ret
   exact ⟨_, by first | rfl | (simp [*, errW_none, errW_some] <;> rfl), by (with_reducible repeat (first | apply Ra | apply Rn | apply Rd)); exact HO375.out, by repeat (first | (with_reducible first | exact HB.out | apply Ba | apply Bn | apply Bd | refine Bs ?_ GE366.out) | exact HB.out)⟩
  ·rw [if_neg c11] at H
   have c11b0 : (a0_0 == 2) = false := beq_eq_false_iff_ne.mpr c11
   have c11b1 : (a0_0 != 2) = true := bne_iff_ne.mpr c11
   obtain rfl := Option.some.inj H
   go_enter Try.func88, Try.ntmps88
   go_wp2_with (first | ((refine Gd (N := 1) rfl ?_); refine Be ?hg (N := 1) ?hd (cs := #[.int .i64 a0_0, .int .i64 a0_1, .int .i64 a0_2, .int .i64 a0_3, .int .i64 a0_4]) (t := 28) ?hr ?_; (case hd | hg => rfl); (case hr => first | (go_simp; done) | (go_simp; rfl)); intro gb366 hg w16 hbox hb; have n0_ := Am (Bt (by repeat (first | exact HB.out | apply Ba | apply Bn | apply Bd)) hb); have n1_ := Am (hbox); have n2_ := Am ((by rw [hg]; exact (Bz (by repeat (first | exact HB.out | apply Ba | apply Bn | apply Bd))) : w.heap.size ≤ gb366)); have n3_ := Am ((by rw [hg]; exact (Bz (by repeat (first | exact HB.out | apply Ba | apply Bn | apply Bd))) : w.heap.size ≤ gb366)); clear HB; have HB := n0_; have BK366 := n1_; have GW366 := n2_; have GE366 := n3_; clear n0_ n1_ n2_ n3_; clear hb hbox hg; have hcz17_0 : w16.cell? ⟨gb366, 0, none⟩ = some (.int .i64 a0_0) := (Kc BK366.out 0).trans rfl; have hcz17_1 : w16.cell? ⟨gb366, 1, none⟩ = some (.int .i64 a0_1) := (Kc BK366.out 1).trans rfl; have hcz17_2 : w16.cell? ⟨gb366, 2, none⟩ = some (.int .i64 a0_2) := (Kc BK366.out 2).trans rfl; have hcz17_3 : w16.cell? ⟨gb366, 3, none⟩ = some (.int .i64 a0_3) := (Kc BK366.out 3).trans rfl; have hcz17_4 : w16.cell? ⟨gb366, 4, none⟩ = some (.int .i64 a0_4) := (Kc BK366.out 4).trans rfl; have hfz17_0 := Kz BK366.out 0; have hfz17_1 := Kz BK366.out 1; have hfz17_2 := Kz BK366.out 2; have hfz17_3 := Kz BK366.out 3; have hfz17_4 := Kz BK366.out 4))
   go_ret
   exact ⟨_, by first | rfl | (simp [*, errW_none, errW_some] <;> rfl), by first | exact Kd.R_nil _ _ _ _ _ | exact Kd.N_nil _ _ _ _ _ | exact Kd.V_nil _ _ _ _ _ | exact Kd.Q_nil _ _ _ _ _ | exact Kd.S_nil _ _ _ _ _, by repeat (first | (with_reducible first | exact HB.out | apply Ba | apply Bn | apply Bd | refine Bs ?_ GE366.out) | exact HB.out)⟩
def spec_l2Interfere.l0 : Nat → List Int → Int → Int → Int → Int → Int → Int → Int → Option (Bool)
 | 0, _, _, _, _, _, _, _, _ => none
 | k + 1, x8, x9, x10, x378000, x378001, x378002, x378003, x378004 => if x10 < x9 then (if 0 ≤ x10 then (if x10 < (x8.length : Int) then ((spec_l2Touches.f k x378000 x378001 x378002 x378003 x378004).bind fun t382 => ((spec_l1Has.f k t382 (rd x8 x10)).bind fun t385 => (if t385 = true then (some true) else (spec_l2Interfere.l0 k x8 x9 (wrap64 (x10 + 1)) x378000 x378001 x378002 x378003 x378004)))) else (none)) else (none)) else (some false)
def spec_l2Interfere.f (k : Nat) (a0_0 : Int) (a0_1 : Int) (a0_2 : Int) (a0_3 : Int) (a0_4 : Int) (a1_0 : Int) (a1_1 : Int) (a1_2 : Int) (a1_3 : Int) (a1_4 : Int) : Option (Bool) := (spec_l2Touches.f k a0_0 a0_1 a0_2 a0_3 a0_4).bind fun t378 => (spec_l2Interfere.l0 k t378 (t378.length : Int) 0 a1_0 a1_1 a1_2 a1_3 a1_4)
theorem spec_l2Interfere.mono_l : ∀ k, (∀ y0 y1 y2 y3 y4 y5 y6 y7, LeO (spec_l2Interfere.l0 k y0 y1 y2 y3 y4 y5 y6 y7) (spec_l2Interfere.l0 (k + 1) y0 y1 y2 y3 y4 y5 y6 y7))
 | 0 => fun _ _ _ _ _ _ _ _ r h => by simp [spec_l2Interfere.l0] at h
 | k + 1 => by
  have ih0 := spec_l2Interfere.mono_l k
  ·intro y0 y1 y2 y3 y4 y5 y6 y7
   unfold spec_l2Interfere.l0
   repeat' first
   | (with_reducible exact ih0 _ _ _ _ _ _ _ _)
   | (with_reducible exact spec_l1Has.mono _ _ _)
   | (with_reducible exact spec_l2Touches.mono _ _ _ _ _ _)
   | (with_reducible exact LeO.refl _)
   | (with_reducible exact LeO.none _)
   | (with_reducible refine LeO.ite ?_ ?_)
   | (with_reducible refine LeO.bind ?_ (fun _ => ?_))
   | exact ih0 _ _ _ _ _ _ _ _
   | exact spec_l1Has.mono _ _ _
   | exact spec_l2Touches.mono _ _ _ _ _ _
   | exact LeO.none _
   | refine LeO.ite ?_ ?_
   | refine LeO.bind ?_ (fun _ => ?_)
theorem spec_l2Interfere.mono : ∀ a0 a1 a2 a3 a4 a5 a6 a7 a8 a9 k, LeO (spec_l2Interfere.f k a0 a1 a2 a3 a4 a5 a6 a7 a8 a9) (spec_l2Interfere.f (k + 1) a0 a1 a2 a3 a4 a5 a6 a7 a8 a9) := by
 intro a0 a1 a2 a3 a4 a5 a6 a7 a8 a9 k
 have ih0 := spec_l2Interfere.mono_l k
 unfold spec_l2Interfere.f
 repeat' first
   | (with_reducible exact ih0 _ _ _ _ _ _ _ _)
   | (with_reducible exact spec_l1Has.mono _ _ _)
   | (with_reducible exact spec_l2Touches.mono _ _ _ _ _ _)
   | (with_reducible exact LeO.refl _)
   | (with_reducible exact LeO.none _)
   | (with_reducible refine LeO.ite ?_ ?_)
   | (with_reducible refine LeO.bind ?_ (fun _ => ?_))
   | exact ih0 _ _ _ _ _ _ _ _
   | exact spec_l1Has.mono _ _ _
   | exact spec_l2Touches.mono _ _ _ _ _ _
   | exact LeO.none _
   | refine LeO.ite ?_ ?_
   | refine LeO.bind ?_ (fun _ => ?_)
set_option maxHeartbeats 8000000 in
set_option maxRecDepth 100000 in
theorem spec_l2Interfere.calls (k : Nat) (a0_0 : Int) (a0_1 : Int) (a0_2 : Int) (a0_3 : Int) (a0_4 : Int) (a1_0 : Int) (a1_1 : Int) (a1_2 : Int) (a1_3 : Int) (a1_4 : Int) (r : Bool) (w : World) (h : spec_l2Interfere.f k a0_0 a0_1 a0_2 a0_3 a0_4 a1_0 a1_1 a1_2 a1_3 a1_4 = some r) :
  Calls Try.prog 60 #[.agg #[.int .i64 a0_0, .int .i64 a0_1, .int .i64 a0_2, .int .i64 a0_3, .int .i64 a0_4], .agg #[.int .i64 a1_0, .int .i64 a1_1, .int .i64 a1_2, .int .i64 a1_3, .int .i64 a1_4]] w fun e w' => e = .returned (.bool r) ∧ Below w.heap.size w w' := by
 have hu28 := Try.underlying28
 have HB := Am (Below.refl w.heap.size w)
 have H : ((spec_l2Touches.f k a0_0 a0_1 a0_2 a0_3 a0_4).bind fun t378 => (spec_l2Interfere.l0 k t378 (t378.length : Int) 0 a1_0 a1_1 a1_2 a1_3 a1_4)) = some r := h
 clear h
 replace H := Option.bind_eq_some_iff.mp H
 obtain ⟨t378, A30, H⟩ := H
 replace H : (spec_l2Interfere.l0 k t378 (t378.length : Int) 0 a1_0 a1_1 a1_2 a1_3 a1_4) = some r := H
 have A3 := Am A30
 clear A30
 have H' := Am H
 clear H
 go_enter Try.func60, Try.ntmps60
 go_wp2_with (first | ((refine Gd (N := 2) rfl ?_); refine Be ?hg (N := 2) ?hd (cs := #[.int .i64 a0_0, .int .i64 a0_1, .int .i64 a0_2, .int .i64 a0_3, .int .i64 a0_4]) (t := 28) ?hr ?_; (case hd | hg => rfl); (case hr => first | (go_simp; done) | (go_simp; rfl)); intro gb376 hg w4 hbox hb; have n0_ := Am (Bt (by repeat (first | exact HB.out | apply Ba | apply Bn | apply Bd)) hb); have n1_ := Am (hbox); have n2_ := Am ((by rw [hg]; exact (Bz (by repeat (first | exact HB.out | apply Ba | apply Bn | apply Bd))) : w.heap.size ≤ gb376)); have n3_ := Am ((by rw [hg]; exact (Bz (by repeat (first | exact HB.out | apply Ba | apply Bn | apply Bd))) : w.heap.size ≤ gb376)); clear HB; have HB := n0_; have BK376 := n1_; have GW376 := n2_; have GE376 := n3_; clear n0_ n1_ n2_ n3_; clear hb hbox hg) | ((refine Gd (N := 3) rfl ?_); refine Be ?hg (N := 3) ?hd (cs := #[.int .i64 a1_0, .int .i64 a1_1, .int .i64 a1_2, .int .i64 a1_3, .int .i64 a1_4]) (t := 28) ?hr ?_; (case hd | hg => rfl); (case hr => first | (go_simp; done) | (go_simp; rfl)); intro gb377 hg w5 hbox hb; have n0_ := Am (Kb (g := gb376) (o := .cells #[.int .i64 a0_0, .int .i64 a0_1, .int .i64 a0_2, .int .i64 a0_3, .int .i64 a0_4] 28 (0, 0)) (by (with_reducible repeat (first | refine Kn ?_ _ | refine Ke ?_ | refine Ka ?_ _)); exact BK376.out) hb); have n1_ := Am (Bt (by repeat (first | (with_reducible first | exact HB.out | apply Ba | apply Bn | apply Bd | refine Bs ?_ GE376.out) | exact HB.out)) hb); have n2_ := Am (hbox); have n3_ := Am ((by rw [hg]; exact (Bz (by repeat (first | (with_reducible first | exact HB.out | apply Ba | apply Bn | apply Bd | refine Bs ?_ GE376.out) | exact HB.out))) : w.heap.size ≤ gb377)); have n4_ := Am ((by rw [hg]; exact (Bz (by repeat (first | (with_reducible first | exact HB.out | apply Ba | apply Bn | apply Bd | refine Bs ?_ GE376.out) | exact HB.out))) : w.heap.size ≤ gb377)); have n5_ := Am ((by rw [hg]; exact Nat.ne_of_lt (blk_lt (g := gb376) (o := .cells #[.int .i64 a0_0, .int .i64 a0_1, .int .i64 a0_2, .int .i64 a0_3, .int .i64 a0_4] 28 (0, 0)) (by (with_reducible repeat (first | refine Kn ?_ _ | refine Ke ?_ | refine Ka ?_ _)); exact BK376.out)) : gb376 ≠ gb377)); have n6_ := Am ((by rw [hg]; exact Nat.ne_of_gt (blk_lt (g := gb376) (o := .cells #[.int .i64 a0_0, .int .i64 a0_1, .int .i64 a0_2, .int .i64 a0_3, .int .i64 a0_4] 28 (0, 0)) (by (with_reducible repeat (first | refine Kn ?_ _ | refine Ke ?_ | refine Ka ?_ _)); exact BK376.out)) : gb377 ≠ gb376)); clear BK376; clear HB; have BK376 := n0_; have HB := n1_; have BK377 := n2_; have GW377 := n3_; have GE377 := n4_; have NB376_377 := n5_; have NB377_376 := n6_; clear n0_ n1_ n2_ n3_ n4_ n5_ n6_; clear hb hbox hg; have hnb6 := NB376_377.out; have hnc6 := NB377_376.out; have hcz7_0 : w5.cell? ⟨gb376, 0, none⟩ = some (.int .i64 a0_0) := (Kc BK376.out 0).trans rfl; have hcz7_1 : w5.cell? ⟨gb376, 1, none⟩ = some (.int .i64 a0_1) := (Kc BK376.out 1).trans rfl; have hcz7_2 : w5.cell? ⟨gb376, 2, none⟩ = some (.int .i64 a0_2) := (Kc BK376.out 2).trans rfl; have hcz7_3 : w5.cell? ⟨gb376, 3, none⟩ = some (.int .i64 a0_3) := (Kc BK376.out 3).trans rfl; have hcz7_4 : w5.cell? ⟨gb376, 4, none⟩ = some (.int .i64 a0_4) := (Kc BK376.out 4).trans rfl; have hfz7_0 := Kz BK376.out 0; have hfz7_1 := Kz BK376.out 1; have hfz7_2 := Kz BK376.out 2; have hfz7_3 := Kz BK376.out 3; have hfz7_4 := Kz BK376.out 4) | ((refine Gc (f := 88) rfl ?_); refine goesL_ (some 8) rfl rfl Try.func88 (by kernel_rfl) rfl #[.agg #[.int .i64 a0_0, .int .i64 a0_1, .int .i64 a0_2, .int .i64 a0_3, .int .i64 a0_4]] rfl (by first | rfl | (simp only [List.map_toArray, List.map_cons, List.map_nil]; first | done | rfl)) ?_; (with_reducible refine (spec_l2Touches.calls k a0_0 a0_1 a0_2 a0_3 a0_4 t378 _ A3.out).mono ?_); rintro e w8 ⟨v379, rfl, ho0, hb⟩; refine ⟨_, rfl, ?_⟩; have n0_ := Am (Kd.R_lower ho0 (Bz (by repeat (first | (with_reducible first | exact HB.out | apply Ba | apply Bn | apply Bd | refine Bs ?_ GE376.out | refine Bs ?_ GE377.out) | exact HB.out)))); have n1_ := Am (Kb (g := gb376) (o := .cells #[.int .i64 a0_0, .int .i64 a0_1, .int .i64 a0_2, .int .i64 a0_3, .int .i64 a0_4] 28 (0, 0)) (by (with_reducible repeat (first | refine Kn ?_ _ | refine Ke ?_ | refine Ka ?_ _)); exact BK376.out) hb); have n2_ := Am (Kb (g := gb377) (o := .cells #[.int .i64 a1_0, .int .i64 a1_1, .int .i64 a1_2, .int .i64 a1_3, .int .i64 a1_4] 28 (0, 0)) (by (with_reducible repeat (first | refine Kn ?_ _ | refine Ke ?_ | refine Ka ?_ _)); exact BK377.out) hb); have n3_ := Am (Bt (by repeat (first | (with_reducible first | exact HB.out | apply Ba | apply Bn | apply Bd | refine Bs ?_ GE376.out | refine Bs ?_ GE377.out) | exact HB.out)) hb); clear BK376; clear BK377; clear HB; have HO380 := n0_; have BK376 := n1_; have BK377 := n2_; have HB := n3_; clear n0_ n1_ n2_ n3_; (try clear hb); (try clear hb2); (try clear hk); (try clear hi); (try clear ho0); obtain ⟨Ao9, co9, eo9⟩ := Kd.R_slice HO380.out; subst eo9))
 go_loopg [10] k (fun kq v10 w' => ∃ (x10_1 : Int), v10 = .int .i64 x10_1 ∧ Ad (spec_l2Interfere.l0 kq t378 (t378.length : Int) x10_1 a1_0 a1_1 a1_2 a1_3 a1_4 = some r) ∧ Ad (kq ≤ k) ∧ Ad (Kd.R (Kd.int .i64) 3 w' w.heap.size (fun _ => True) (.slice Ao9 t378.length co9) t378) ∧ Ad (w'.heap[gb376]? = some (.cells #[.int .i64 a0_0, .int .i64 a0_1, .int .i64 a0_2, .int .i64 a0_3, .int .i64 a0_4] 28 (0, 0))) ∧ Ad (w'.heap[gb377]? = some (.cells #[.int .i64 a1_0, .int .i64 a1_1, .int .i64 a1_2, .int .i64 a1_3, .int .i64 a1_4] 28 (0, 0))) ∧ Ad (Below w.heap.size w w'))
 case atStart => exact ⟨(0), (by first | rfl | (simp; done) | (simp [*]; done)), H', ⟨Nat.le_refl _⟩, ⟨by (with_reducible repeat (first | apply Ra | apply Rn | apply Rd)); exact HO380.out⟩, ⟨by (with_reducible repeat (first | refine Kn ?_ _ | refine Ke ?_ | refine Ka ?_ _)); exact BK376.out⟩, ⟨by (with_reducible repeat (first | refine Kn ?_ _ | refine Ke ?_ | refine Ka ?_ _)); exact BK377.out⟩, ⟨by repeat (first | (with_reducible first | exact HB.out | apply Ba | apply Bn | apply Bd | refine Bs ?_ GE376.out | refine Bs ?_ GE377.out) | exact HB.out)⟩⟩
 case round =>
  clear H'
  try clear p2
  try clear c6
  try clear c8
  try clear hcz7_0
  try clear hcz7_1
  try clear hcz7_2
  try clear hcz7_3
  try clear hcz7_4
  try clear hfz7_0
  try clear hfz7_1
  try clear hfz7_2
  try clear hfz7_3
  try clear hfz7_4
  obtain ⟨x10_1, rfl, HA, HK1, HO_8, BK376, BK377, HB⟩ := hrel
  cases gk with
  | zero => exact absurd HA.out (by simp [spec_l2Interfere.l0])
  | succ k1 =>
   have H := HA.out
   clear HA
   simp only [spec_l2Interfere.l0] at H
   by_cases c10 : x10_1 < (t378.length : Int)
   ·rw [if_pos c10] at H
    have c10b0 : decide (x10_1 < (t378.length : Int)) = true := decide_eq_true c10
    clear c10
    by_cases c11 : 0 ≤ x10_1
    ·rw [if_pos c11] at H
     have c11b0 : decide (0 ≤ x10_1) = true := decide_eq_true c11
     clear c11
     by_cases c12 : x10_1 < (t378.length : Int)
     ·rw [if_pos c12] at H
      have c12b0 : decide (x10_1 < (t378.length : Int)) = true := decide_eq_true c12
      clear c12
      replace H := Option.bind_eq_some_iff.mp H
      obtain ⟨t382, A130, H⟩ := H
      replace H : ((spec_l1Has.f k1 t382 (rd t378 x10_1)).bind fun t385 => (if t385 = true then (some true) else (spec_l2Interfere.l0 k1 t378 (t378.length : Int) (wrap64 (x10_1 + 1)) a1_0 a1_1 a1_2 a1_3 a1_4))) = some r := H
      have A13 := Am A130
      clear A130
      replace H := Option.bind_eq_some_iff.mp H
      obtain ⟨t385, A140, H⟩ := H
      replace H : (if t385 = true then (some true) else (spec_l2Interfere.l0 k1 t378 (t378.length : Int) (wrap64 (x10_1 + 1)) a1_0 a1_1 a1_2 a1_3 a1_4)) = some r := H
      have A14 := Am A140
      clear A140
      by_cases c15 : t385 = true
      ·subst c15
       have H1 : (some true) = some r := by rw [if_pos rfl] at H; exact H
       clear H
       have H := H1
       clear H1
       obtain rfl := Option.some.inj H
       have p381 : 0 ≤ (x10_1 : Int) := of_decide_eq_true (by assumption)
       have q381 : x10_1 < (t378.length : Int) := of_decide_eq_true (by assumption)
       obtain ⟨ad381, e381, hx381_0⟩ := Kd.at_int (Kd.R_reads' HO_8.out).2.2 x10_1 p381 q381
       cases e381
       replace p381 := eq_true p381
       replace q381 := eq_true q381
       have hnb16 := NB377_376.out
       have hnc16 := NB376_377.out
       have hcz17_0 : wr.cell? ⟨gb377, 0, none⟩ = some (.int .i64 a1_0) := (Kc BK377.out 0).trans rfl
       have hcz17_1 : wr.cell? ⟨gb377, 1, none⟩ = some (.int .i64 a1_1) := (Kc BK377.out 1).trans rfl
       have hcz17_2 : wr.cell? ⟨gb377, 2, none⟩ = some (.int .i64 a1_2) := (Kc BK377.out 2).trans rfl
       have hcz17_3 : wr.cell? ⟨gb377, 3, none⟩ = some (.int .i64 a1_3) := (Kc BK377.out 3).trans rfl
       have hcz17_4 : wr.cell? ⟨gb377, 4, none⟩ = some (.int .i64 a1_4) := (Kc BK377.out 4).trans rfl
       have hfz17_0 := Kz BK377.out 0
       have hfz17_1 := Kz BK377.out 1
       have hfz17_2 := Kz BK377.out 2
       have hfz17_3 := Kz BK377.out 3
       have hfz17_4 := Kz BK377.out 4
       go_wp2_with (first | ((refine Gc (f := 88) rfl ?_); refine goesL_ (some 15) rfl rfl Try.func88 (by kernel_rfl) rfl #[.agg #[.int .i64 a1_0, .int .i64 a1_1, .int .i64 a1_2, .int .i64 a1_3, .int .i64 a1_4]] rfl (by first | rfl | (simp only [List.map_toArray, List.map_cons, List.map_nil]; first | done | rfl)) ?_; (with_reducible refine (spec_l2Touches.calls k1 a1_0 a1_1 a1_2 a1_3 a1_4 t382 _ A13.out).mono ?_); rintro e w18 ⟨v383, rfl, ho0, hb⟩; refine ⟨_, rfl, ?_⟩; have n0_ := Am (Kd.R_elder' (by (with_reducible repeat (first | apply Ra | apply Rn | apply Rd)); exact HO_8.out) (Kd.R_base ho0) hb); have n1_ := Am (Kd.R_lower (Kd.R_new' ho0 (Kd.R_lt (by (with_reducible repeat (first | apply Ra | apply Rn | apply Rd)); exact HO_8.out))) (Bz (by repeat (first | (with_reducible first | exact HB.out | apply Ba | apply Bn | apply Bd | refine Bs ?_ GE376.out | refine Bs ?_ GE377.out) | exact HB.out)))); have n2_ := Am (Kb (g := gb376) (o := .cells #[.int .i64 a0_0, .int .i64 a0_1, .int .i64 a0_2, .int .i64 a0_3, .int .i64 a0_4] 28 (0, 0)) (by (with_reducible repeat (first | refine Kn ?_ _ | refine Ke ?_ | refine Ka ?_ _)); exact BK376.out) hb); have n3_ := Am (Kb (g := gb377) (o := .cells #[.int .i64 a1_0, .int .i64 a1_1, .int .i64 a1_2, .int .i64 a1_3, .int .i64 a1_4] 28 (0, 0)) (by (with_reducible repeat (first | refine Kn ?_ _ | refine Ke ?_ | refine Ka ?_ _)); exact BK377.out) hb); have n4_ := Am (Bt (by repeat (first | (with_reducible first | exact HB.out | apply Ba | apply Bn | apply Bd | refine Bs ?_ GE376.out | refine Bs ?_ GE377.out) | exact HB.out)) hb); clear HO_8; clear BK376; clear BK377; clear HB; have HO_8 := n0_; have HO384 := n1_; have BK376 := n2_; have BK377 := n3_; have HB := n4_; clear n0_ n1_ n2_ n3_ n4_; (try clear hb); (try clear hb2); (try clear hk); (try clear hi); (try clear ho0); obtain ⟨Ao19, co19, eo19⟩ := Kd.R_slice HO384.out; subst eo19) | ((refine Gc (f := 72) rfl ?_); refine goesL_ (some 17) rfl rfl Try.func72 (by kernel_rfl) rfl #[.slice Ao19 t382.length co19, .int .i64 (rd t378 x10_1)] rfl (by first | rfl | (simp only [List.map_toArray, List.map_cons, List.map_nil]; first | done | rfl)) ?_; (with_reducible refine (spec_l1Has.calls k1 _ _ t382 (rd t378 x10_1) true _ ?side1 ?side2 A14.out).mono ?_); (case side1 => repeat (first | exact (Kd.R_reads' HO384.out).2.2 | (with_reducible refine Kd.C_alloc ?_ _) | (with_reducible refine Kd.C_drewN ?_ _) | (with_reducible refine Kd.C_drew ?_))); (case side2 => exact (Kd.R_reads' HO384.out).2.1); rintro e w' ⟨rfl, ⟨nd, rfl⟩⟩; refine ⟨_, rfl, ?_⟩))
       go_ret
       exact ⟨by first | rfl | (simp [*, errW_none, errW_some] <;> rfl), by repeat (first | (with_reducible first | exact HB.out | apply Ba | apply Bn | apply Bd | refine Bs ?_ GE376.out | refine Bs ?_ GE377.out) | exact HB.out)⟩
      ·replace c15 := Bool.eq_false_iff.mpr c15
       subst c15
       have H1 : (spec_l2Interfere.l0 k1 t378 (t378.length : Int) (wrap64 (x10_1 + 1)) a1_0 a1_1 a1_2 a1_3 a1_4) = some r := by rw [if_neg (show ¬ (false = true) by decide)] at H; exact H
       clear H
       have H := H1
       clear H1
       have H' := Am H
       clear H
       have p381 : 0 ≤ (x10_1 : Int) := of_decide_eq_true (by assumption)
       have q381 : x10_1 < (t378.length : Int) := of_decide_eq_true (by assumption)
       obtain ⟨ad381, e381, hx381_0⟩ := Kd.at_int (Kd.R_reads' HO_8.out).2.2 x10_1 p381 q381
       cases e381
       replace p381 := eq_true p381
       replace q381 := eq_true q381
       have hnb20 := NB377_376.out
       have hnc20 := NB376_377.out
       have hcz21_0 : wr.cell? ⟨gb377, 0, none⟩ = some (.int .i64 a1_0) := (Kc BK377.out 0).trans rfl
       have hcz21_1 : wr.cell? ⟨gb377, 1, none⟩ = some (.int .i64 a1_1) := (Kc BK377.out 1).trans rfl
       have hcz21_2 : wr.cell? ⟨gb377, 2, none⟩ = some (.int .i64 a1_2) := (Kc BK377.out 2).trans rfl
       have hcz21_3 : wr.cell? ⟨gb377, 3, none⟩ = some (.int .i64 a1_3) := (Kc BK377.out 3).trans rfl
       have hcz21_4 : wr.cell? ⟨gb377, 4, none⟩ = some (.int .i64 a1_4) := (Kc BK377.out 4).trans rfl
       have hfz21_0 := Kz BK377.out 0
       have hfz21_1 := Kz BK377.out 1
       have hfz21_2 := Kz BK377.out 2
       have hfz21_3 := Kz BK377.out 3
       have hfz21_4 := Kz BK377.out 4
       go_wp2_with (first | ((refine Gc (f := 88) rfl ?_); refine goesL_ (some 15) rfl rfl Try.func88 (by kernel_rfl) rfl #[.agg #[.int .i64 a1_0, .int .i64 a1_1, .int .i64 a1_2, .int .i64 a1_3, .int .i64 a1_4]] rfl (by first | rfl | (simp only [List.map_toArray, List.map_cons, List.map_nil]; first | done | rfl)) ?_; (with_reducible refine (spec_l2Touches.calls k1 a1_0 a1_1 a1_2 a1_3 a1_4 t382 _ A13.out).mono ?_); rintro e w22 ⟨v383, rfl, ho0, hb⟩; refine ⟨_, rfl, ?_⟩; have n0_ := Am (Kd.R_elder' (by (with_reducible repeat (first | apply Ra | apply Rn | apply Rd)); exact HO_8.out) (Kd.R_base ho0) hb); have n1_ := Am (Kd.R_lower (Kd.R_new' ho0 (Kd.R_lt (by (with_reducible repeat (first | apply Ra | apply Rn | apply Rd)); exact HO_8.out))) (Bz (by repeat (first | (with_reducible first | exact HB.out | apply Ba | apply Bn | apply Bd | refine Bs ?_ GE376.out | refine Bs ?_ GE377.out) | exact HB.out)))); have n2_ := Am (Kb (g := gb376) (o := .cells #[.int .i64 a0_0, .int .i64 a0_1, .int .i64 a0_2, .int .i64 a0_3, .int .i64 a0_4] 28 (0, 0)) (by (with_reducible repeat (first | refine Kn ?_ _ | refine Ke ?_ | refine Ka ?_ _)); exact BK376.out) hb); have n3_ := Am (Kb (g := gb377) (o := .cells #[.int .i64 a1_0, .int .i64 a1_1, .int .i64 a1_2, .int .i64 a1_3, .int .i64 a1_4] 28 (0, 0)) (by (with_reducible repeat (first | refine Kn ?_ _ | refine Ke ?_ | refine Ka ?_ _)); exact BK377.out) hb); have n4_ := Am (Bt (by repeat (first | (with_reducible first | exact HB.out | apply Ba | apply Bn | apply Bd | refine Bs ?_ GE376.out | refine Bs ?_ GE377.out) | exact HB.out)) hb); clear HO_8; clear BK376; clear BK377; clear HB; have HO_8 := n0_; have HO384 := n1_; have BK376 := n2_; have BK377 := n3_; have HB := n4_; clear n0_ n1_ n2_ n3_ n4_; (try clear hb); (try clear hb2); (try clear hk); (try clear hi); (try clear ho0); obtain ⟨Ao23, co23, eo23⟩ := Kd.R_slice HO384.out; subst eo23) | ((refine Gc (f := 72) rfl ?_); refine goesL_ (some 17) rfl rfl Try.func72 (by kernel_rfl) rfl #[.slice Ao23 t382.length co23, .int .i64 (rd t378 x10_1)] rfl (by first | rfl | (simp only [List.map_toArray, List.map_cons, List.map_nil]; first | done | rfl)) ?_; (with_reducible refine (spec_l1Has.calls k1 _ _ t382 (rd t378 x10_1) false _ ?side1 ?side2 A14.out).mono ?_); (case side1 => repeat (first | exact (Kd.R_reads' HO384.out).2.2 | (with_reducible refine Kd.C_alloc ?_ _) | (with_reducible refine Kd.C_drewN ?_ _) | (with_reducible refine Kd.C_drew ?_))); (case side2 => exact (Kd.R_reads' HO384.out).2.1); rintro e w' ⟨rfl, ⟨nd, rfl⟩⟩; refine ⟨_, rfl, ?_⟩))
       go_roundg k1
       case measure => have := HK1.out; omega
       case rel => exact ⟨(wrap64 (x10_1 + 1)), (by first | rfl | (simp; done) | (simp [*]; done)), H', ⟨by have := HK1.out; omega⟩, ⟨by (with_reducible repeat (first | apply Ra | apply Rn | apply Rd)); exact Kd.R_mono HO_8.out (fun _ hk => trivial)⟩, ⟨by (with_reducible repeat (first | refine Kn ?_ _ | refine Ke ?_ | refine Ka ?_ _)); exact BK376.out⟩, ⟨by (with_reducible repeat (first | refine Kn ?_ _ | refine Ke ?_ | refine Ka ?_ _)); exact BK377.out⟩, ⟨by repeat (first | (with_reducible first | exact HB.out | apply Ba | apply Bn | apply Bd | refine Bs ?_ GE376.out | refine Bs ?_ GE377.out) | exact HB.out)⟩⟩
     ·rw [if_neg c12] at H
      exact absurd H (by simp)
    ·rw [if_neg c11] at H
     exact absurd H (by simp)
   ·rw [if_neg c10] at H
    have c10b0 : decide (x10_1 < (t378.length : Int)) = false := decide_eq_false c10
    clear c10
    obtain rfl := Option.some.inj H
    go_wp2
    go_ret
    exact ⟨by first | rfl | (simp [*, errW_none, errW_some] <;> rfl), by repeat (first | (with_reducible first | exact HB.out | apply Ba | apply Bn | apply Bd | refine Bs ?_ GE376.out | refine Bs ?_ GE377.out) | exact HB.out)⟩
def spec_l1Most.f (a0 : Int) (a1 : Int) : Option (Int) := if a0 > a1 then (some a0) else (some a1)
set_option maxHeartbeats 8000000 in
set_option maxRecDepth 100000 in
theorem spec_l1Most.calls (a0 : Int) (a1 : Int) (r : Int) (w : World) (h : spec_l1Most.f a0 a1 = some r) :
  Calls Try.prog 61 #[.int .i64 a0, .int .i64 a1] w fun e w' => e = .returned (.int .i64 r) ∧ Drawn0 w w' := by
 have H : (if a0 > a1 then (some a0) else (some a1)) = some r := h
 clear h
 by_cases c3 : a0 > a1
 ·rw [if_pos c3] at H
  have c3b0 : decide (a1 < a0) = true := decide_eq_true c3
  clear c3
  obtain rfl := Option.some.inj H
  go_enter Try.func61, Try.ntmps61
  go_wp2
  go_ret
  exact ⟨by first | rfl | (simp; done) | (simp [*]; done), by repeat (first | exact Drawn0.refl _ | apply Drawn0.step)⟩
 ·rw [if_neg c3] at H
  have c3b0 : decide (a1 < a0) = false := decide_eq_false c3
  clear c3
  obtain rfl := Option.some.inj H
  go_enter Try.func61, Try.ntmps61
  go_wp2
  go_ret
  exact ⟨by first | rfl | (simp; done) | (simp [*]; done), by repeat (first | exact Drawn0.refl _ | apply Drawn0.step)⟩
def spec_l4Attr.stepS (K : Nat) (rep no : Int) (c : S28) (s : Int × List Int) (i j : Int) (x : S39) : Option (Int × List Int) :=
 if x.f2 = 0 then some s else (spec_l2Interfere.f K c.f0 c.f1 c.f2 c.f3 c.f4 x.f3.f0 x.f3.f1 x.f3.f2 x.f3.f3 x.f3.f4).bind fun b => if b = true then (if i = rep ∧ j = no then some s else if 0 ≤ i ∧ i < (s.2.length : Int) then ((spec_l1Most.f s.1 x.f4.f0).bind fun m => some (m, s.2.set i.toNat j)) else none) else some s
def spec_l4Attr.f (K : Nat) (n : Int) (l : List (List S39)) (c0 c1 c2 c3 c4 : Int) (rep no : Int) : Option (Int × List Int) :=
 (spec_l3None.f n).bind fun bt => (impl_Table_each.allO (spec_l4Attr.stepS K rep no ⟨c0, c1, c2, c3, c4⟩) l 0 (bt.1, bt.2)).bind fun s => some (wrap64 (s.1 + 1), s.2)
def spec_l4Attr.RS (go gc gt g8 B : Nat) (n : Int) (A : Option Addr) (l : List (List S39)) (cl : Nat) (c : S28) (w : World) (s : Int × List Int) (W : World) : Prop :=
 ∃ v, W.heap[go]? = some (.cells #[.int .i64 s.1, v] 33 (0, 0)) ∧ Kd.R (Kd.int .i64) 3 W B (fun _ => True) v s.2 ∧ W.heap[gc]? = some (.cells #[.int .i64 c.f0, .int .i64 c.f1, .int .i64 c.f2, .int .i64 c.f3, .int .i64 c.f4] 28 (0, 0)) ∧ W.heap[gt]? = some (.cells #[.int .i64 n, .slice A l.length cl] 26 (0, 0)) ∧ W.heap[g8]? = some (.cells #[.int .i64 0, .slice none 0 0] 33 (0, 0)) ∧ Below w.heap.size w W ∧ (w.heap.size ≤ B ∧ w.heap.size ≤ go ∧ g8 ≠ go)
theorem spec_l4Attr.monoR {go gc gt g8 B : Nat} {n : Int} {A : Option Addr} {l : List (List S39)} {cl : Nat} {c : S28} {w : World} {s : Int × List Int} {W W' : World} (h : spec_l4Attr.RS go gc gt g8 B n A l cl c w s W) (hb : Below W.heap.size W W') : spec_l4Attr.RS go gc gt g8 B n A l cl c w s W' := by
 obtain ⟨v, h1, h2, h3, h4, h5, h6, h7⟩ := h
 exact ⟨v, Kb h1 hb, Kd.R_below h2 hb, Kb h3 hb, Kb h4 hb, Kb h5 hb, below_then h6 h6.size hb, h7⟩
theorem spec_l4Attr.bel {go gc gt g8 B : Nat} {n : Int} {A : Option Addr} {l : List (List S39)} {cl : Nat} {c : S28} {w : World} {s : Int × List Int} {W : World} (h : spec_l4Attr.RS go gc gt g8 B n A l cl c w s W) : Below w.heap.size w W := by
 obtain ⟨v, _, _, _, _, _, h6, _⟩ := h
 exact h6
theorem spec_l4Attr.stepS_mono (K : Nat) (rep no : Int) (c : S28) (s : Int × List Int) (i j : Int) (x : S39) : LeO (spec_l4Attr.stepS K rep no c s i j x) (spec_l4Attr.stepS (K + 1) rep no c s i j x) := by
 unfold spec_l4Attr.stepS
 exact LeO.ite (LeO.refl _) (LeO.bind (spec_l2Interfere.mono _ _ _ _ _ _ _ _ _ _ _) (fun _ => LeO.refl _))
theorem spec_l4Attr.rowO_mono (K : Nat) (rep no : Int) (c : S28) (i : Int) : ∀ (y : List S39) (j : Nat) (s : Int × List Int), LeO (impl_Table_each.rowO (spec_l4Attr.stepS K rep no c) i y j s) (impl_Table_each.rowO (spec_l4Attr.stepS (K + 1) rep no c) i y j s)
 | [], _, _ => LeO.refl _
 | x :: xs, j, s => LeO.bind (spec_l4Attr.stepS_mono K rep no c s i _ x) (fun s' => spec_l4Attr.rowO_mono K rep no c i xs (j + 1) s')
theorem spec_l4Attr.allO_mono (K : Nat) (rep no : Int) (c : S28) : ∀ (l : List (List S39)) (i : Nat) (s : Int × List Int), LeO (impl_Table_each.allO (spec_l4Attr.stepS K rep no c) l i s) (impl_Table_each.allO (spec_l4Attr.stepS (K + 1) rep no c) l i s)
 | [], _, _ => LeO.refl _
 | y :: ys, i, s => LeO.bind (spec_l4Attr.rowO_mono K rep no c (i : Int) y 0 s) (fun s' => spec_l4Attr.allO_mono K rep no c ys (i + 1) s')
theorem spec_l4Attr.mono : ∀ n l c0 c1 c2 c3 c4 rep no K, LeO (spec_l4Attr.f K n l c0 c1 c2 c3 c4 rep no) (spec_l4Attr.f (K + 1) n l c0 c1 c2 c3 c4 rep no) := by
 intro n l c0 c1 c2 c3 c4 rep no K
 unfold spec_l4Attr.f
 exact LeO.bind (LeO.refl _) (fun bt => LeO.bind (spec_l4Attr.allO_mono K rep no _ l 0 _) (fun _ => LeO.refl _))
set_option maxHeartbeats 4000000 in
set_option maxRecDepth 100000 in
theorem spec_l4Attr.calls (K : Nat) (n : Int) (A : Option Addr) (cl : Nat) (l : List (List S39)) (c0 c1 c2 c3 c4 : Int) (rep no : Int) (r1 : Int) (r2 : List Int) (w : World) (hr : Kd.C (Kd.slice 39 k39) w A l.length l) (hcl : l.length ≤ cl) (h : spec_l4Attr.f K n l c0 c1 c2 c3 c4 rep no = some (r1, r2)) :
  Calls Try.prog 26 #[.agg #[.int .i64 n, .slice A l.length cl], .agg #[.int .i64 c0, .int .i64 c1, .int .i64 c2, .int .i64 c3, .int .i64 c4], .int .i64 rep, .int .i64 no] w fun e w' => ∃ v1_ : Value, e = .returned (.agg #[.int .i64 r1, v1_]) ∧ Kd.R (Kd.int .i64) 3 w' w.heap.size (fun _ => True) v1_ r2 ∧ Below w.heap.size w w' := by
 have hu := Try.underlying39
 have hu2 := Try.underlying28
 have hu3 := Try.underlying26
 have hu4 := Try.underlying33
 have hm : l.length ≤ 9223372036854775807 := hr.2.1
 obtain ⟨c, hcc⟩ : ∃ c : S28, c = ⟨c0, c1, c2, c3, c4⟩ := ⟨_, rfl⟩
 have e0 : c0 = c.f0 := by rw [hcc]
 have e1 : c1 = c.f1 := by rw [hcc]
 have e2 : c2 = c.f2 := by rw [hcc]
 have e3 : c3 = c.f3 := by rw [hcc]
 have e4 : c4 = c.f4 := by rw [hcc]
 unfold spec_l4Attr.f at h
 rw [← hcc] at h
 rw [e0, e1, e2, e3, e4]
 clear hcc e0 e1 e2 e3 e4 hcl
 cases hn : spec_l3None.f n with
 | none => rw [hn] at h; cases h
 | some bt =>
 obtain ⟨b1, b2⟩ := bt
 rw [hn, Option.bind_some] at h
 dsimp only at h
 cases ha : impl_Table_each.allO (spec_l4Attr.stepS K rep no c) l 0 (b1, b2) with
 | none => rw [ha] at h; cases h
 | some sr =>
 have HE : Ad (wrap64 (sr.1 + 1) = r1 ∧ sr.2 = r2) := ⟨by rw [ha, Option.bind_some] at h; simpa using h⟩
 have HR := Am hr
 have HN := Am hn
 have HA := Am ha
 clear h hn ha hr
 go_enter Try.func26, Try.ntmps26
 go_upto_region 1 with (fail)
 refine letC (fun W_ => Below w.heap.size w W_ ∧ W_.heap[w.heap.size]? = some (.cells #[.int .i64 n, .slice A l.length cl] 26 (0, 0)) ∧ W_.heap[w.heap.size + 1]? = some (.cells #[.int .i64 c.f0, .int .i64 c.f1, .int .i64 c.f2, .int .i64 c.f3, .int .i64 c.f4] 28 (0, 0)) ∧ W_.heap[w.heap.size + 2]? = some (.cells #[.int .i64 0, .slice none 0 0] 33 (0, 0))) ⟨Ba (Ba (Ba (Below.refl _ _) _) _) _, ?_, ?_, ?_⟩ ?_
 ·simpa using Ka (Ka (blk_new w (.cells #[.int .i64 n, .slice A l.length cl] 26)) (.cells #[.int .i64 c.f0, .int .i64 c.f1, .int .i64 c.f2, .int .i64 c.f3, .int .i64 c.f4] 28)) (.cells #[.int .i64 0, .slice none 0 0] 33)
 ·simpa using Ka (blk_new (w.alloc (.cells #[.int .i64 n, .slice A l.length cl] 26)) (.cells #[.int .i64 c.f0, .int .i64 c.f1, .int .i64 c.f2, .int .i64 c.f3, .int .i64 c.f4] 28)) (.cells #[.int .i64 0, .slice none 0 0] 33)
 ·simpa using blk_new ((w.alloc (.cells #[.int .i64 n, .slice A l.length cl] 26)).alloc (.cells #[.int .i64 c.f0, .int .i64 c.f1, .int .i64 c.f2, .int .i64 c.f3, .int .i64 c.f4] 28)) (.cells #[.int .i64 0, .slice none 0 0] 33)
 rintro W1 ⟨hb, ht, hc, h8⟩
 have HB1 := Am hb
 have HT1 := Am ht
 have HC1 := Am hc
 have H81 := Am h8
 have q0 : W1.cell? ⟨w.heap.size, 0, none⟩ = some (.int .i64 n) := (Kc ht 0).trans rfl
 clear hb ht hc h8
 go_wp2_with fail
 refine (spec_l3None.calls n b1 b2 W1 HN.out).mono ?_
 rintro e W2 ⟨v1, rfl, hR, hb⟩
 have HR2 := Am hR
 have HB2 := Am (below_then HB1.out HB1.out.size hb)
 have HT2 := Am (Kb HT1.out hb)
 have HC2 := Am (Kb HC1.out hb)
 have H82 := Am (Kb H81.out hb)
 have HLT := Am (blk_lt H82.out)
 have HBB := Am HB1.out.size
 clear hR hb q0 HT1 HC1 H81 HB1
 obtain ⟨Av, cv, rfl⟩ := Kd.R_slice HR2.out
 generalize W1.heap.size = B at HR2 HBB
 go_upto_region 2 with (fail)
 refine letC (fun W_ => Below W2.heap.size W2 W_ ∧ W_.heap[W2.heap.size]? = some (.cells #[.int .i64 b1, .slice Av b2.length cv] 33 (0, 0))) ⟨Ba (Below.refl _ _) _, blk_new W2 (.cells #[.int .i64 b1, .slice Av b2.length cv] 33)⟩ ?_
 rintro W3 ⟨hb, ho⟩
 obtain ⟨go, hgo⟩ : ∃ go, go = W2.heap.size := ⟨_, rfl⟩
 obtain ⟨gc, hgc⟩ : ∃ gc, gc = w.heap.size + 1 := ⟨_, rfl⟩
 obtain ⟨g8, hg8⟩ : ∃ g8, g8 = w.heap.size + 2 := ⟨_, rfl⟩
 obtain ⟨gt, hgt⟩ : ∃ gt, gt = w.heap.size := ⟨_, rfl⟩
 have HREL : Ad (spec_l4Attr.RS go gc gt g8 B n A l cl c w (b1, b2) W3) := ⟨_, by rw [hgo]; exact ho, Kd.R_below HR2.out hb, by rw [hgc]; exact Kb HC2.out hb, by rw [hgt]; exact Kb HT2.out hb, by rw [hg8]; exact Kb H82.out hb, below_then HB2.out HB2.out.size hb, HBB.out, by rw [hgo]; exact HB2.out.size, by rw [hgo, hg8]; exact Nat.ne_of_lt HLT.out⟩
 have q1 : W3.cell? ⟨w.heap.size, 1, none⟩ = some (.slice A l.length cl) := (Kc (Kb HT2.out hb) 1).trans rfl
 have H8G : Ad (w.heap.size ≤ g8) := ⟨by rw [hg8]; omega⟩
 rw [← hgo]
 (first | rw [← hg8] | rw [show w.heap.size + 1 + 1 = g8 from hg8.symm])
 rw [← hgc, ← hgt]
 rw [← hgt] at q1
 clear hgo hgc hg8 hgt hb ho HR2 HB2 HT2 HC2 H82 HLT HBB
 go_wp2
 clear q1
 go_loopg [20] l.length (fun gg s20 wr => ∃ (kk : Nat) (s : Int × List Int), kk ≤ l.length ∧ l.length - kk ≤ gg ∧ s20 = .int .i64 kk ∧ Ad (spec_l4Attr.RS go gc gt g8 B n A l cl c w s wr) ∧ Ad (impl_Table_each.allO (spec_l4Attr.stepS K rep no c) (l.drop kk) kk s = some sr))
 case atStart => exact ⟨0, _, Nat.zero_le _, by omega, rfl, HREL, ⟨by simpa using HA.out⟩⟩
 case round =>
  clear HA HREL
  obtain ⟨kk, t, hkk, hg, rfl, HT, PF⟩ := hrel
  by_cases hlt : kk < l.length
  ·have hltz : (kk : Int) < (l.length : Int) := by omega
   obtain ⟨ad, Ay, cy, rfl, hy0, hly, hiy⟩ := at_L6 HR.out (kk : Int) (by omega) hltz
   have hy0 := ((spec_l4Attr.bel HT.out).cell (bl_ w _ hy0)).trans hy0
   simp only [Int.toNat_natCast] at hy0
   have he : Ad (l.getD kk [] = rd_L6 l (kk : Int)) := ⟨by unfold rd_L6; rw [Int.toNat_natCast]⟩
   have PG : Ad ((impl_Table_each.rowO (spec_l4Attr.stepS K rep no c) (kk : Int) (rd_L6 l (kk : Int)) 0 t).bind (fun s' => impl_Table_each.allO (spec_l4Attr.stepS K rep no c) (l.drop (kk + 1)) (kk + 1) s') = some sr) := ⟨by have h_ := PF.out; rw [Mine.drop_at l [] kk hlt, he.out] at h_; exact h_⟩
   have HIY := Am hiy
   clear PF he hiy
   generalize rd_L6 l (kk : Int) = y at hy0 hly HIY PG
   have hmy : y.length ≤ 9223372036854775807 := HIY.out.2.1
   go_wp2
   go_loopg [27] y.length (fun gg s27 wr2 => ∃ (jj : Nat) (s : Int × List Int), jj ≤ y.length ∧ y.length - jj ≤ gg ∧ s27 = .int .i64 jj ∧ Ad (spec_l4Attr.RS go gc gt g8 B n (some ad) l cl c w s wr2) ∧ Ad ((impl_Table_each.rowO (spec_l4Attr.stepS K rep no c) (kk : Int) (y.drop jj) jj s).bind (fun s' => impl_Table_each.allO (spec_l4Attr.stepS K rep no c) (l.drop (kk + 1)) (kk + 1) s') = some sr))
   case atStart => exact ⟨0, t, Nat.zero_le _, by omega, rfl, HT, ⟨by simpa using PG.out⟩⟩
   case round =>
    clear HT PG hy0
    obtain ⟨jj, s, hjj, hg2, rfl, HT, PF⟩ := hrel
    by_cases hlt2 : jj < y.length
    ·have hltz2 : (jj : Int) < (y.length : Int) := by omega
     obtain ⟨ad2, A9, c9, rfl, hx0, hx1, hx2, hx3, hx4, hx5, hx6, hx7, hx8, hx9, hl9, hi9⟩ := at_T39 (Kd.C_below HIY.out (spec_l4Attr.bel HT.out)) (jj : Int) (by omega) hltz2
     simp only [Int.toNat_natCast] at hx0 hx1 hx2 hx3 hx4 hx5 hx6 hx7 hx8 hx9
     have he : Ad (y.getD jj z39 = rd_T39 y (jj : Int)) := ⟨by unfold rd_T39; rw [Int.toNat_natCast]⟩
     have PG : Ad (((spec_l4Attr.stepS K rep no c s (kk : Int) ((jj : Int) + 1) (rd_T39 y (jj : Int))).bind fun s' => impl_Table_each.rowO (spec_l4Attr.stepS K rep no c) (kk : Int) (y.drop (jj + 1)) (jj + 1) s').bind (fun s' => impl_Table_each.allO (spec_l4Attr.stepS K rep no c) (l.drop (kk + 1)) (kk + 1) s') = some sr) := ⟨by have h_ := PF.out; rw [Mine.drop_at y z39 jj hlt2, he.out] at h_; exact h_⟩
     clear PF he hl9 hi9
     generalize rd_T39 y (jj : Int) = x at hx0 hx1 hx2 hx3 hx4 hx5 hx6 hx7 hx8 hx9 PG
     go_upto_region 8 with (fail)
     refine letC (fun W_ => Below wr.heap.size wr W_ ∧ W_.heap[wr.heap.size]? = some (.cells #[.int .i64 x.f0, .int .i64 x.f1, .int .i64 x.f2, .int .i64 x.f3.f0, .int .i64 x.f3.f1, .int .i64 x.f3.f2, .int .i64 x.f3.f3, .int .i64 x.f3.f4, .int .i64 x.f4.f0, .slice A9 x.f4.f1.length c9] 39 (0, 0))) ⟨Ba (Below.refl _ _) _, blk_new wr (.cells #[.int .i64 x.f0, .int .i64 x.f1, .int .i64 x.f2, .int .i64 x.f3.f0, .int .i64 x.f3.f1, .int .i64 x.f3.f2, .int .i64 x.f3.f3, .int .i64 x.f3.f4, .int .i64 x.f4.f0, .slice A9 x.f4.f1.length c9] 39)⟩ ?_
     rintro W1 ⟨hb, hbx⟩
     have HR1 := Am (spec_l4Attr.monoR HT.out hb)
     have HX1 := Am hbx
     clear hb hbx HT hx0 hx1 hx2 hx3 hx4 hx5 hx6 hx7 hx8 hx9
     generalize wr.heap.size = gx at HX1
     have hw : wrap64 ((jj : Int) + 1) = ((jj + 1 : Nat) : Int) := by unfold wrap64; omega
     by_cases h2 : x.f2 = 0
     ·have PG : Ad ((impl_Table_each.rowO (spec_l4Attr.stepS K rep no c) (kk : Int) (y.drop (jj + 1)) (jj + 1) s).bind (fun s' => impl_Table_each.allO (spec_l4Attr.stepS K rep no c) (l.drop (kk + 1)) (kk + 1) s') = some sr) := ⟨by have h_ := PG.out; rw [show spec_l4Attr.stepS K rep no c s (kk : Int) ((jj : Int) + 1) x = some s from if_pos h2, Option.bind_some] at h_; exact h_⟩
      have e2 : (x.f2 == 0) = true := by rw [h2]; rfl
      have qx2 : W1.cell? ⟨gx, 2, none⟩ = some (.int .i64 x.f2) := (Kc HX1.out 2).trans rfl
      clear h2 hw
      go_wp2
      go_roundg (y.length - (jj + 1))
      case measure => omega
      case rel => exact ⟨jj + 1, s, by omega, by omega, by go_num, HR1, PG⟩
     ·cases hq : spec_l2Interfere.f K c.f0 c.f1 c.f2 c.f3 c.f4 x.f3.f0 x.f3.f1 x.f3.f2 x.f3.f3 x.f3.f4 with
      | none => exact absurd PG.out (by unfold spec_l4Attr.stepS; rw [if_neg h2, hq]; simp)
      | some b =>
      have HF := Am hq
      have e2 : (x.f2 == 0) = false := by rw [beq_eq_false_iff_ne]; exact h2
      obtain ⟨v_, ho_, hr_, hgc, _, _, _, _⟩ := HR1.out
      have qx0 : W1.cell? ⟨gx, 0, none⟩ = some (.int .i64 x.f0) := (Kc HX1.out 0).trans rfl
      have qx1 : W1.cell? ⟨gx, 1, none⟩ = some (.int .i64 x.f1) := (Kc HX1.out 1).trans rfl
      have qx2 : W1.cell? ⟨gx, 2, none⟩ = some (.int .i64 x.f2) := (Kc HX1.out 2).trans rfl
      have qx3 : W1.cell? ⟨gx, 3, none⟩ = some (.int .i64 x.f3.f0) := (Kc HX1.out 3).trans rfl
      have qx4 : W1.cell? ⟨gx, 4, none⟩ = some (.int .i64 x.f3.f1) := (Kc HX1.out 4).trans rfl
      have qx5 : W1.cell? ⟨gx, 5, none⟩ = some (.int .i64 x.f3.f2) := (Kc HX1.out 5).trans rfl
      have qx6 : W1.cell? ⟨gx, 6, none⟩ = some (.int .i64 x.f3.f3) := (Kc HX1.out 6).trans rfl
      have qx7 : W1.cell? ⟨gx, 7, none⟩ = some (.int .i64 x.f3.f4) := (Kc HX1.out 7).trans rfl
      have qx8 : W1.cell? ⟨gx, 8, none⟩ = some (.int .i64 x.f4.f0) := (Kc HX1.out 8).trans rfl
      have qc0 : W1.cell? ⟨gc, 0, none⟩ = some (.int .i64 c.f0) := (Kc hgc 0).trans rfl
      have qc1 : W1.cell? ⟨gc, 1, none⟩ = some (.int .i64 c.f1) := (Kc hgc 1).trans rfl
      have qc2 : W1.cell? ⟨gc, 2, none⟩ = some (.int .i64 c.f2) := (Kc hgc 2).trans rfl
      have qc3 : W1.cell? ⟨gc, 3, none⟩ = some (.int .i64 c.f3) := (Kc hgc 3).trans rfl
      have qc4 : W1.cell? ⟨gc, 4, none⟩ = some (.int .i64 c.f4) := (Kc hgc 4).trans rfl
      clear ho_ hr_ hgc v_
      have PG : Ad (((if b = true then (if (kk : Int) = rep ∧ ((jj : Int) + 1) = no then some s else if (0 : Int) ≤ (kk : Int) ∧ (kk : Int) < (s.2.length : Int) then ((spec_l1Most.f s.1 x.f4.f0).bind fun m => some (m, s.2.set (kk : Int).toNat ((jj : Int) + 1))) else none) else some s).bind fun s' => impl_Table_each.rowO (spec_l4Attr.stepS K rep no c) (kk : Int) (y.drop (jj + 1)) (jj + 1) s').bind (fun s' => impl_Table_each.allO (spec_l4Attr.stepS K rep no c) (l.drop (kk + 1)) (kk + 1) s') = some sr) := ⟨by have h_ := PG.out; unfold spec_l4Attr.stepS at h_; rw [if_neg h2, hq, Option.bind_some] at h_; exact h_⟩
      clear hq h2
      go_wp2_with fail
      refine (spec_l2Interfere.calls K c.f0 c.f1 c.f2 c.f3 c.f4 x.f3.f0 x.f3.f1 x.f3.f2 x.f3.f3 x.f3.f4 b W1 HF.out).mono ?_
      rintro e W2 ⟨rfl, hb⟩
      have hb : Below W1.heap.size W1 W2 := by first | exact hb | exact hb.below
      have HR2 := Am (spec_l4Attr.monoR HR1.out hb)
      have HX2 := Am (Kb HX1.out hb)
      clear hb qx0 qx1 qx2 qx3 qx4 qx5 qx6 qx7 qx8 qc0 qc1 qc2 qc3 qc4 HR1 HX1
      cases b with
      | false =>
       replace PG : Ad ((impl_Table_each.rowO (spec_l4Attr.stepS K rep no c) (kk : Int) (y.drop (jj + 1)) (jj + 1) s).bind (fun s' => impl_Table_each.allO (spec_l4Attr.stepS K rep no c) (l.drop (kk + 1)) (kk + 1) s') = some sr) := ⟨by simpa using PG.out⟩
       clear hw
       go_wp2
       go_roundg (y.length - (jj + 1))
       case measure => omega
       case rel => exact ⟨jj + 1, s, by omega, by omega, by go_num, HR2, PG⟩
      | true =>
       by_cases hsk : (kk : Int) = rep ∧ ((jj : Int) + 1) = no
       ·replace PG : Ad ((impl_Table_each.rowO (spec_l4Attr.stepS K rep no c) (kk : Int) (y.drop (jj + 1)) (jj + 1) s).bind (fun s' => impl_Table_each.allO (spec_l4Attr.stepS K rep no c) (l.drop (kk + 1)) (kk + 1) s') = some sr) := ⟨by have h_ := PG.out; rw [if_pos rfl, if_pos hsk, Option.bind_some] at h_; exact h_⟩
        have ei : ((kk : Int) == rep) = true := by rw [hsk.1]; simp
        have ej : (((jj : Int) + 1) == no) = true := by rw [hsk.2]; simp
        clear hw hsk
        go_wp2
        go_roundg (y.length - (jj + 1))
        case measure => omega
        case rel => exact ⟨jj + 1, s, by omega, by omega, by go_num, HR2, PG⟩
       ·by_cases hin0 : (0 : Int) ≤ (kk : Int) ∧ (kk : Int) < (s.2.length : Int)
        ·obtain ⟨_, hin⟩ := hin0
         cases hmx : spec_l1Most.f s.1 x.f4.f0 with
         | none => exact absurd PG.out (by rw [if_pos rfl, if_neg hsk, if_pos ⟨by omega, hin⟩, hmx]; simp)
         | some mo =>
         have HMX := Am hmx
         replace PG : Ad ((impl_Table_each.rowO (spec_l4Attr.stepS K rep no c) (kk : Int) (y.drop (jj + 1)) (jj + 1) (mo, s.2.set kk ((jj : Int) + 1))).bind (fun s' => impl_Table_each.allO (spec_l4Attr.stepS K rep no c) (l.drop (kk + 1)) (kk + 1) s') = some sr) := ⟨by have h_ := PG.out; rw [if_pos rfl, if_neg hsk, if_pos ⟨by omega, hin⟩, hmx, Option.bind_some, Option.bind_some, Int.toNat_natCast] at h_; exact h_⟩
         clear hmx hw
         by_cases hi : (kk : Int) = rep
         ·have ei : ((kk : Int) == rep) = true := by rw [hi]; simp
          have ej : (((jj : Int) + 1) == no) = false := by rw [beq_eq_false_iff_ne]; exact fun h => hsk ⟨hi, h⟩
          clear hsk hi
          have ein : decide ((kk : Int) < (s.2.length : Int)) = true := decide_eq_true hin
          obtain ⟨v, ho, hr, hgc, hgt, hg8, hB, hbase⟩ := HR2.out
          obtain ⟨g, cap, rfl, hbg, hgl, cells, hcells⟩ := Kd.R_form hr (by omega)
          obtain ⟨ce, hcl, hM, hcc, hfr⟩ := Kd.R_elem hr 0 (kk : Int) (by omega) hin
          have hM' : ce = [.int .i64 (s.2.getD kk 0)] := by have h1 := hM; rw [Int.toNat_natCast] at h1; exact h1
          subst hM'
          have hd : W2.cell? ⟨g, kk, none⟩ = some (.int .i64 (s.2.getD kk 0)) := by have h1 := hcc 0 _ rfl; rw [Int.toNat_natCast] at h1; simpa [Kd.int, Kd.scalar] using h1
          have hf : W2.frozen? ⟨g, kk, none⟩ = false := by have h1 := hfr 0; rw [Int.toNat_natCast] at h1; simpa [Kd.int, Kd.scalar] using h1
          have hs1 : W2.cell? ⟨go, 1, none⟩ = some (.slice (some ⟨g, 0, none⟩) s.2.length cap) := (Kc ho 1).trans rfl
          have hng : go ≠ g := blk_ne ho hcells (by decide)
          have HNEW : Ad (spec_l4Attr.RS go gc gt g8 B n (some ad) l cl c w (s.1, s.2.set kk ((jj : Int) + 1)) (W2.setCell ⟨g, kk, none⟩ (.int .i64 ((jj : Int) + 1)))) := ⟨_, Kf ho hng _, by have h1 := Kd.R_putn (enc := Value.int .i64) (h1 := fun _ => rfl) hr (kk : Int) ((jj : Int) + 1); rw [Int.toNat_natCast] at h1; exact h1, Kf hgc (blk_ne hgc hcells (by decide)) _, Kf hgt (blk_ne hgt hcells (by decide)) _, Kf hg8 (blk_ne hg8 hcells (by decide)) _, Bs hB (Nat.le_trans hbase.1 hbg), hbase⟩
          have HXN : Ad ((W2.setCell ⟨g, kk, none⟩ (.int .i64 ((jj : Int) + 1))).heap[gx]? = some (.cells #[.int .i64 x.f0, .int .i64 x.f1, .int .i64 x.f2, .int .i64 x.f3.f0, .int .i64 x.f3.f1, .int .i64 x.f3.f2, .int .i64 x.f3.f3, .int .i64 x.f3.f4, .int .i64 x.f4.f0, .slice A9 x.f4.f1.length c9] 39 (0, 0))) := ⟨Kf HX2.out (blk_ne HX2.out hcells (by decide)) _⟩
          have HIN := Am hin
          clear hcl hM hcc hfr ho hr hgc hgt hg8 hB hbase hbg hgl hcells HR2 HX2 hng
          generalize s.2.getD kk 0 = dd at hd
          go_upto_region 10 with (fail)
          refine letC (fun W_ => spec_l4Attr.RS go gc gt g8 B n (some ad) l cl c w (s.1, s.2.set kk ((jj : Int) + 1)) W_ ∧ W_.heap[gx]? = some (.cells #[.int .i64 x.f0, .int .i64 x.f1, .int .i64 x.f2, .int .i64 x.f3.f0, .int .i64 x.f3.f1, .int .i64 x.f3.f2, .int .i64 x.f3.f3, .int .i64 x.f3.f4, .int .i64 x.f4.f0, .slice A9 x.f4.f1.length c9] 39 (0, 0))) ⟨HNEW.out, HXN.out⟩ ?_
          rintro W3 ⟨hR3, hX3⟩
          have HR3 := Am hR3
          have hx8 : W3.cell? ⟨gx, 8, none⟩ = some (.int .i64 x.f4.f0) := (Kc hX3 8).trans rfl
          have hs0 : W3.cell? ⟨go, 0, none⟩ = some (.int .i64 s.1) := (Kc hR3.choose_spec.1 0).trans rfl
          clear hR3 hX3 HNEW HXN hd hf hs1
          go_wp2_with fail
          refine (spec_l1Most.calls s.1 x.f4.f0 mo W3 HMX.out).mono ?_
          rintro e W4 ⟨rfl, hb⟩
          have hb : Below W3.heap.size W3 W4 := by first | exact hb | exact hb.below
          have HR4 := Am (spec_l4Attr.monoR HR3.out hb)
          clear hb hx8 hs0 HR3
          obtain ⟨v4, ho, hr, hgc, hgt, hg8, hB, hbase⟩ := HR4.out
          have hs0 : W4.cell? ⟨go, 0, none⟩ = some (.int .i64 s.1) := (Kc ho 0).trans rfl
          have hsf : W4.frozen? ⟨go, 0, none⟩ = false := Kz ho 0
          have HNEW : Ad (spec_l4Attr.RS go gc gt g8 B n (some ad) l cl c w (mo, s.2.set kk ((jj : Int) + 1)) (W4.setCell ⟨go, 0, none⟩ (.int .i64 mo))) := ⟨_, blk_put ho 0 _ rfl, Kd.R_set hr ho (by decide) 0 _, Kf hgc (blk_ne hgc ho (by decide)) _, Kf hgt (blk_ne hgt ho (by decide)) _, Kf hg8 hbase.2.2 _, Bs hB hbase.2.1, hbase⟩
          clear ho hr hgc hgt hg8 hB hbase HR4
          go_wp2
          go_roundg (y.length - (jj + 1))
          case measure => omega
          case rel => exact ⟨jj + 1, (mo, s.2.set kk ((jj : Int) + 1)), by omega, by omega, by go_num, HNEW, PG⟩
         ·have ei : ((kk : Int) == rep) = false := by rw [beq_eq_false_iff_ne]; exact hi
          clear hsk hi
          have ein : decide ((kk : Int) < (s.2.length : Int)) = true := decide_eq_true hin
          obtain ⟨v, ho, hr, hgc, hgt, hg8, hB, hbase⟩ := HR2.out
          obtain ⟨g, cap, rfl, hbg, hgl, cells, hcells⟩ := Kd.R_form hr (by omega)
          obtain ⟨ce, hcl, hM, hcc, hfr⟩ := Kd.R_elem hr 0 (kk : Int) (by omega) hin
          have hM' : ce = [.int .i64 (s.2.getD kk 0)] := by have h1 := hM; rw [Int.toNat_natCast] at h1; exact h1
          subst hM'
          have hd : W2.cell? ⟨g, kk, none⟩ = some (.int .i64 (s.2.getD kk 0)) := by have h1 := hcc 0 _ rfl; rw [Int.toNat_natCast] at h1; simpa [Kd.int, Kd.scalar] using h1
          have hf : W2.frozen? ⟨g, kk, none⟩ = false := by have h1 := hfr 0; rw [Int.toNat_natCast] at h1; simpa [Kd.int, Kd.scalar] using h1
          have hs1 : W2.cell? ⟨go, 1, none⟩ = some (.slice (some ⟨g, 0, none⟩) s.2.length cap) := (Kc ho 1).trans rfl
          have hng : go ≠ g := blk_ne ho hcells (by decide)
          have HNEW : Ad (spec_l4Attr.RS go gc gt g8 B n (some ad) l cl c w (s.1, s.2.set kk ((jj : Int) + 1)) (W2.setCell ⟨g, kk, none⟩ (.int .i64 ((jj : Int) + 1)))) := ⟨_, Kf ho hng _, by have h1 := Kd.R_putn (enc := Value.int .i64) (h1 := fun _ => rfl) hr (kk : Int) ((jj : Int) + 1); rw [Int.toNat_natCast] at h1; exact h1, Kf hgc (blk_ne hgc hcells (by decide)) _, Kf hgt (blk_ne hgt hcells (by decide)) _, Kf hg8 (blk_ne hg8 hcells (by decide)) _, Bs hB (Nat.le_trans hbase.1 hbg), hbase⟩
          have HXN : Ad ((W2.setCell ⟨g, kk, none⟩ (.int .i64 ((jj : Int) + 1))).heap[gx]? = some (.cells #[.int .i64 x.f0, .int .i64 x.f1, .int .i64 x.f2, .int .i64 x.f3.f0, .int .i64 x.f3.f1, .int .i64 x.f3.f2, .int .i64 x.f3.f3, .int .i64 x.f3.f4, .int .i64 x.f4.f0, .slice A9 x.f4.f1.length c9] 39 (0, 0))) := ⟨Kf HX2.out (blk_ne HX2.out hcells (by decide)) _⟩
          have HIN := Am hin
          clear hcl hM hcc hfr ho hr hgc hgt hg8 hB hbase hbg hgl hcells HR2 HX2 hng
          generalize s.2.getD kk 0 = dd at hd
          go_upto_region 10 with (fail)
          refine letC (fun W_ => spec_l4Attr.RS go gc gt g8 B n (some ad) l cl c w (s.1, s.2.set kk ((jj : Int) + 1)) W_ ∧ W_.heap[gx]? = some (.cells #[.int .i64 x.f0, .int .i64 x.f1, .int .i64 x.f2, .int .i64 x.f3.f0, .int .i64 x.f3.f1, .int .i64 x.f3.f2, .int .i64 x.f3.f3, .int .i64 x.f3.f4, .int .i64 x.f4.f0, .slice A9 x.f4.f1.length c9] 39 (0, 0))) ⟨HNEW.out, HXN.out⟩ ?_
          rintro W3 ⟨hR3, hX3⟩
          have HR3 := Am hR3
          have hx8 : W3.cell? ⟨gx, 8, none⟩ = some (.int .i64 x.f4.f0) := (Kc hX3 8).trans rfl
          have hs0 : W3.cell? ⟨go, 0, none⟩ = some (.int .i64 s.1) := (Kc hR3.choose_spec.1 0).trans rfl
          clear hR3 hX3 HNEW HXN hd hf hs1
          go_wp2_with fail
          refine (spec_l1Most.calls s.1 x.f4.f0 mo W3 HMX.out).mono ?_
          rintro e W4 ⟨rfl, hb⟩
          have hb : Below W3.heap.size W3 W4 := by first | exact hb | exact hb.below
          have HR4 := Am (spec_l4Attr.monoR HR3.out hb)
          clear hb hx8 hs0 HR3
          obtain ⟨v4, ho, hr, hgc, hgt, hg8, hB, hbase⟩ := HR4.out
          have hs0 : W4.cell? ⟨go, 0, none⟩ = some (.int .i64 s.1) := (Kc ho 0).trans rfl
          have hsf : W4.frozen? ⟨go, 0, none⟩ = false := Kz ho 0
          have HNEW : Ad (spec_l4Attr.RS go gc gt g8 B n (some ad) l cl c w (mo, s.2.set kk ((jj : Int) + 1)) (W4.setCell ⟨go, 0, none⟩ (.int .i64 mo))) := ⟨_, blk_put ho 0 _ rfl, Kd.R_set hr ho (by decide) 0 _, Kf hgc (blk_ne hgc ho (by decide)) _, Kf hgt (blk_ne hgt ho (by decide)) _, Kf hg8 hbase.2.2 _, Bs hB hbase.2.1, hbase⟩
          clear ho hr hgc hgt hg8 hB hbase HR4
          go_wp2
          go_roundg (y.length - (jj + 1))
          case measure => omega
          case rel => exact ⟨jj + 1, (mo, s.2.set kk ((jj : Int) + 1)), by omega, by omega, by go_num, HNEW, PG⟩
        ·exact absurd PG.out (by rw [if_pos rfl, if_neg hsk, if_neg hin0]; simp)
    ·have hltz2 : ¬ (jj : Int) < (y.length : Int) := by omega
     have PG : Ad (impl_Table_each.allO (spec_l4Attr.stepS K rep no c) (l.drop (kk + 1)) (kk + 1) s = some sr) := ⟨by have h_ := PF.out; rw [List.drop_eq_nil_of_le (by omega)] at h_; simpa [impl_Table_each.rowO] using h_⟩
     go_wp2
     go_roundg (l.length - (kk + 1))
     case measure => omega
     case rel => exact ⟨kk + 1, s, by omega, by omega, by go_num, HT, PG⟩
  ·have hltz : ¬ (kk : Int) < (l.length : Int) := by omega
   have PG : Ad (t = sr) := ⟨by have h_ := PF.out; rw [List.drop_eq_nil_of_le (by omega)] at h_; simpa [impl_Table_each.allO] using h_⟩
   obtain ⟨v, ho, hr, hgc, hgt, hg8, hB, hbase⟩ := HT.out
   have hs0 : wr.cell? ⟨go, 0, none⟩ = some (.int .i64 t.1) := (Kc ho 0).trans rfl
   have hsf : wr.frozen? ⟨go, 0, none⟩ = false := Kz ho 0
   have HNEW : Ad (spec_l4Attr.RS go gc gt g8 B n A l cl c w (wrap64 (t.1 + 1), t.2) (wr.setCell ⟨go, 0, none⟩ (.int .i64 (wrap64 (t.1 + 1))))) := ⟨_, blk_put ho 0 _ rfl, Kd.R_set hr ho (by decide) 0 _, Kf hgc (blk_ne hgc ho (by decide)) _, Kf hgt (blk_ne hgt ho (by decide)) _, Kf hg8 hbase.2.2 _, Bs hB hbase.2.1, hbase⟩
   clear ho hr hgc hgt hg8 hB hbase HT
   go_upto_region 14 with (fail)
   refine letC (fun W_ => spec_l4Attr.RS go gc gt g8 B n A l cl c w (wrap64 (t.1 + 1), t.2) W_) HNEW.out ?_
   intro W5 hR5
   clear HNEW hs0 hsf
   obtain ⟨v, ho, hr, hgc, hgt, hg8, hB, hbase⟩ := hR5
   obtain ⟨Ae, ce, rfl⟩ := Kd.R_slice hr
   have qo0 : W5.cell? ⟨go, 0, none⟩ = some (.int .i64 (wrap64 (t.1 + 1))) := (Kc ho 0).trans rfl
   have qo1 : W5.cell? ⟨go, 1, none⟩ = some (.slice Ae t.2.length ce) := (Kc ho 1).trans rfl
   have HFIN : Ad (((W5.setCell ⟨g8, 0, none⟩ (.int .i64 (wrap64 (t.1 + 1)))).setCell ⟨g8, 1, none⟩ (.slice Ae t.2.length ce)).heap[g8]? = some (.cells #[.int .i64 (wrap64 (t.1 + 1)), .slice Ae t.2.length ce] 33 (0, 0))) := ⟨blk_put (cs := #[.int .i64 (wrap64 (t.1 + 1)), .slice none 0 0]) (blk_put hg8 0 _ rfl) 1 _ rfl⟩
   have q80 : W5.cell? ⟨g8, 0, none⟩ = some (.int .i64 0) := (Kc hg8 0).trans rfl
   have q81 : W5.cell? ⟨g8, 1, none⟩ = some (.slice none 0 0) := (Kc hg8 1).trans rfl
   have f80 := Kz hg8 0
   have f81 := Kz hg8 1
   have HRR := Am (Kd.R_set (Kd.R_set hr hg8 (by decide) 0 (.int .i64 (wrap64 (t.1 + 1)))) (blk_put hg8 0 _ rfl) (by decide) 1 (.slice Ae t.2.length ce))
   have HBB := Am hB
   have HBS := Am hbase
   have HG8 : Ad (w.heap.size ≤ g8) := H8G
   clear ho hr hgc hgt hg8 hB hbase
   go_wp2
   (try simp only [Exit.inBlock, Exit.then])
   refine bodyPost_ret (results_cell_row rfl _ _ g8 33 #[.int .i64 (wrap64 (t.1 + 1)), .slice Ae t.2.length ce] (0, 0) _ rfl HFIN.out Try.underlying33 rfl (by kernel_rfl)) rfl ?_
   have e_ := PG.out
   subst e_
   obtain ⟨h1, h2⟩ := HE.out
   rw [← h1, ← h2]
   exact ⟨_, rfl, Kd.R_lower HRR.out HBS.out.1, Bs (Bs HBB.out HG8.out) HG8.out⟩
def spec_AttrFor.j0 : Nat → Int → Int → Bool → Int → List (List (S39)) → Int → Int → Int → Int → Int → Option (Int × List Int × Bool)
 | 0, _, _, _, _, _, _, _, _, _, _ => none
 | k + 1, x2, x3, x20, x387000, x387001, x388000, x388001, x388002, x388003, x388004 => if x20 = true then (some (0, ([] : List Int), false)) else ((spec_l4Attr.f k x387000 x387001 x388000 x388001 x388002 x388003 x388004 x2 x3).bind fun bt391 => (if bt391.1 > 999 then (some (0, ([] : List Int), false)) else (some (bt391.1, bt391.2, true))))
def spec_AttrFor.f (k : Nat) (a0_0 : Int) (l0_1 : List (List (S39))) (a1_0 : Int) (a1_1 : Int) (a1_2 : Int) (a1_3 : Int) (a1_4 : Int) (a2 : Int) (a3 : Int) : Option (Int × List Int × Bool) := (spec_l4Asked.f k a0_0 l0_1 a2 a3).bind fun t389 => (if t389 = true then ((spec_GoodCmd.f a1_0 a1_1 a1_2 a1_3 a1_4).bind fun t390 => (spec_AttrFor.j0 k a2 a3 (!t390) a0_0 l0_1 a1_0 a1_1 a1_2 a1_3 a1_4)) else (spec_AttrFor.j0 k a2 a3 true a0_0 l0_1 a1_0 a1_1 a1_2 a1_3 a1_4))
theorem spec_AttrFor.mono_l : ∀ k, (∀ y0 y1 y2 y3 y4 y5 y6 y7 y8 y9, LeO (spec_AttrFor.j0 k y0 y1 y2 y3 y4 y5 y6 y7 y8 y9) (spec_AttrFor.j0 (k + 1) y0 y1 y2 y3 y4 y5 y6 y7 y8 y9))
 | 0 => fun _ _ _ _ _ _ _ _ _ _ r h => by simp [spec_AttrFor.j0] at h
 | k + 1 => by
  have ih0 := spec_AttrFor.mono_l k
  ·intro y0 y1 y2 y3 y4 y5 y6 y7 y8 y9
   unfold spec_AttrFor.j0
   repeat' first
   | (with_reducible exact ih0 _ _ _ _ _ _ _ _ _ _)
   | (with_reducible exact spec_l4Asked.mono _ _ _ _ _)
   | (with_reducible exact spec_l4Attr.mono _ _ _ _ _ _ _ _ _ _)
   | (with_reducible exact LeO.refl _)
   | (with_reducible exact LeO.none _)
   | (with_reducible refine LeO.ite ?_ ?_)
   | (with_reducible refine LeO.bind ?_ (fun _ => ?_))
   | exact ih0 _ _ _ _ _ _ _ _ _ _
   | exact spec_l4Asked.mono _ _ _ _ _
   | exact spec_l4Attr.mono _ _ _ _ _ _ _ _ _ _
   | exact LeO.none _
   | refine LeO.ite ?_ ?_
   | refine LeO.bind ?_ (fun _ => ?_)
theorem spec_AttrFor.mono : ∀ a0 a1 a2 a3 a4 a5 a6 a7 a8 k, LeO (spec_AttrFor.f k a0 a1 a2 a3 a4 a5 a6 a7 a8) (spec_AttrFor.f (k + 1) a0 a1 a2 a3 a4 a5 a6 a7 a8) := by
 intro a0 a1 a2 a3 a4 a5 a6 a7 a8 k
 have ih0 := spec_AttrFor.mono_l k
 unfold spec_AttrFor.f
 repeat' first
   | (with_reducible exact ih0 _ _ _ _ _ _ _ _ _ _)
   | (with_reducible exact spec_l4Asked.mono _ _ _ _ _)
   | (with_reducible exact spec_l4Attr.mono _ _ _ _ _ _ _ _ _ _)
   | (with_reducible exact LeO.refl _)
   | (with_reducible exact LeO.none _)
   | (with_reducible refine LeO.ite ?_ ?_)
   | (with_reducible refine LeO.bind ?_ (fun _ => ?_))
   | exact ih0 _ _ _ _ _ _ _ _ _ _
   | exact spec_l4Asked.mono _ _ _ _ _
   | exact spec_l4Attr.mono _ _ _ _ _ _ _ _ _ _
   | exact LeO.none _
   | refine LeO.ite ?_ ?_
   | refine LeO.bind ?_ (fun _ => ?_)
set_option maxHeartbeats 8000000 in
set_option maxRecDepth 100000 in
theorem spec_AttrFor.calls (k : Nat) (a0_0 : Int) (A0_1 : Option Addr) (c0_1 : Nat) (l0_1 : List (List (S39))) (a1_0 : Int) (a1_1 : Int) (a1_2 : Int) (a1_3 : Int) (a1_4 : Int) (a2 : Int) (a3 : Int) (r1 : Int) (r2 : List Int) (r3 : Bool) (w : World) (hr0_1 : Kd.C (Kd.slice 39 k39) w A0_1 l0_1.length l0_1) (hc0_1 : l0_1.length ≤ c0_1) (h : spec_AttrFor.f k a0_0 l0_1 a1_0 a1_1 a1_2 a1_3 a1_4 a2 a3 = some (r1, r2, r3)) :
  Calls Try.prog 8 #[.agg #[.int .i64 a0_0, .slice A0_1 l0_1.length c0_1], .agg #[.int .i64 a1_0, .int .i64 a1_1, .int .i64 a1_2, .int .i64 a1_3, .int .i64 a1_4], .int .i64 a2, .int .i64 a3] w fun e w' => ∃ v1_ : Value, e = .returned (.tuple #[.agg #[.int .i64 r1, v1_], .bool r3]) ∧ Kd.R (Kd.int .i64) 3 w' w.heap.size (fun _ => True) v1_ r2 ∧ Below w.heap.size w w' := by
 have hu26 := Try.underlying26
 have hu28 := Try.underlying28
 have hu33 := Try.underlying33
 have HR0_1 := Am hr0_1
 have HC0_1 := Am hc0_1
 clear hr0_1 hc0_1
 have HB := Am (Below.refl w.heap.size w)
 have H : ((spec_l4Asked.f k a0_0 l0_1 a2 a3).bind fun t389 => (if t389 = true then ((spec_GoodCmd.f a1_0 a1_1 a1_2 a1_3 a1_4).bind fun t390 => (spec_AttrFor.j0 k a2 a3 (!t390) a0_0 l0_1 a1_0 a1_1 a1_2 a1_3 a1_4)) else (spec_AttrFor.j0 k a2 a3 true a0_0 l0_1 a1_0 a1_1 a1_2 a1_3 a1_4))) = some (r1, r2, r3) := h
 clear h
 have HC5 := Am H
 clear H
 go_enter Try.func8, Try.ntmps8
 go_upto_region 1 with (first | ((refine Gd (N := 4) rfl ?_); refine Be ?hg (N := 4) ?hd (cs := #[.int .i64 a0_0, .slice A0_1 l0_1.length c0_1]) (t := 26) ?hr ?_; (case hd | hg => rfl); (case hr => first | (go_simp; done) | (go_simp; rfl)); intro gb386 hg w6 hbox hb; have n0_ := Am (Bt (by repeat (first | exact HB.out | apply Ba | apply Bn | apply Bd)) hb); have n1_ := Am (hbox); have n2_ := Am ((by rw [hg]; exact (Bz (by repeat (first | exact HB.out | apply Ba | apply Bn | apply Bd))) : w.heap.size ≤ gb386)); have n3_ := Am ((by rw [hg]; exact (Bz (by repeat (first | exact HB.out | apply Ba | apply Bn | apply Bd))) : w.heap.size ≤ gb386)); clear HB; have HB := n0_; have BK386 := n1_; have GW386 := n2_; have GE386 := n3_; clear n0_ n1_ n2_ n3_; clear hb hbox hg) | ((refine Gd (N := 5) rfl ?_); refine Be ?hg (N := 5) ?hd (cs := #[.int .i64 a1_0, .int .i64 a1_1, .int .i64 a1_2, .int .i64 a1_3, .int .i64 a1_4]) (t := 28) ?hr ?_; (case hd | hg => rfl); (case hr => first | (go_simp; done) | (go_simp; rfl)); intro gb387 hg w7 hbox hb; have n0_ := Am (Kb (g := gb386) (o := .cells #[.int .i64 a0_0, .slice A0_1 l0_1.length c0_1] 26 (0, 0)) (by (with_reducible repeat (first | refine Kn ?_ _ | refine Ke ?_ | refine Ka ?_ _)); exact BK386.out) hb); have n1_ := Am (Bt (by repeat (first | (with_reducible first | exact HB.out | apply Ba | apply Bn | apply Bd | refine Bs ?_ GE386.out) | exact HB.out)) hb); have n2_ := Am (hbox); have n3_ := Am ((by rw [hg]; exact (Bz (by repeat (first | (with_reducible first | exact HB.out | apply Ba | apply Bn | apply Bd | refine Bs ?_ GE386.out) | exact HB.out))) : w.heap.size ≤ gb387)); have n4_ := Am ((by rw [hg]; exact (Bz (by repeat (first | (with_reducible first | exact HB.out | apply Ba | apply Bn | apply Bd | refine Bs ?_ GE386.out) | exact HB.out))) : w.heap.size ≤ gb387)); have n5_ := Am ((by rw [hg]; exact Nat.ne_of_lt (blk_lt (g := gb386) (o := .cells #[.int .i64 a0_0, .slice A0_1 l0_1.length c0_1] 26 (0, 0)) (by (with_reducible repeat (first | refine Kn ?_ _ | refine Ke ?_ | refine Ka ?_ _)); exact BK386.out)) : gb386 ≠ gb387)); have n6_ := Am ((by rw [hg]; exact Nat.ne_of_gt (blk_lt (g := gb386) (o := .cells #[.int .i64 a0_0, .slice A0_1 l0_1.length c0_1] 26 (0, 0)) (by (with_reducible repeat (first | refine Kn ?_ _ | refine Ke ?_ | refine Ka ?_ _)); exact BK386.out)) : gb387 ≠ gb386)); clear BK386; clear HB; have BK386 := n0_; have HB := n1_; have BK387 := n2_; have GW387 := n3_; have GE387 := n4_; have NB386_387 := n5_; have NB387_386 := n6_; clear n0_ n1_ n2_ n3_ n4_ n5_ n6_; clear hb hbox hg) | ((refine Gd (N := 8) rfl ?_); refine Be ?hg (N := 8) ?hd (cs := #[.int .i64 0, .slice none 0 0]) (t := 33) ?hr ?_; (case hd | hg => rfl); (case hr => first | (go_simp; done) | (go_simp; rfl)); intro gb388 hg w8 hbox hb; have n0_ := Am (Kb (g := gb386) (o := .cells #[.int .i64 a0_0, .slice A0_1 l0_1.length c0_1] 26 (0, 0)) (by (with_reducible repeat (first | refine Kn ?_ _ | refine Ke ?_ | refine Ka ?_ _)); exact BK386.out) hb); have n1_ := Am (Kb (g := gb387) (o := .cells #[.int .i64 a1_0, .int .i64 a1_1, .int .i64 a1_2, .int .i64 a1_3, .int .i64 a1_4] 28 (0, 0)) (by (with_reducible repeat (first | refine Kn ?_ _ | refine Ke ?_ | refine Ka ?_ _)); exact BK387.out) hb); have n2_ := Am (Bt (by repeat (first | (with_reducible first | exact HB.out | apply Ba | apply Bn | apply Bd | refine Bs ?_ GE386.out | refine Bs ?_ GE387.out) | exact HB.out)) hb); have n3_ := Am (hbox); have n4_ := Am ((by rw [hg]; exact (Bz (by repeat (first | (with_reducible first | exact HB.out | apply Ba | apply Bn | apply Bd | refine Bs ?_ GE386.out | refine Bs ?_ GE387.out) | exact HB.out))) : w.heap.size ≤ gb388)); have n5_ := Am ((by rw [hg]; exact (Bz (by repeat (first | (with_reducible first | exact HB.out | apply Ba | apply Bn | apply Bd | refine Bs ?_ GE386.out | refine Bs ?_ GE387.out) | exact HB.out))) : w.heap.size ≤ gb388)); have n6_ := Am ((by rw [hg]; exact Nat.ne_of_lt (blk_lt (g := gb386) (o := .cells #[.int .i64 a0_0, .slice A0_1 l0_1.length c0_1] 26 (0, 0)) (by (with_reducible repeat (first | refine Kn ?_ _ | refine Ke ?_ | refine Ka ?_ _)); exact BK386.out)) : gb386 ≠ gb388)); have n7_ := Am ((by rw [hg]; exact Nat.ne_of_gt (blk_lt (g := gb386) (o := .cells #[.int .i64 a0_0, .slice A0_1 l0_1.length c0_1] 26 (0, 0)) (by (with_reducible repeat (first | refine Kn ?_ _ | refine Ke ?_ | refine Ka ?_ _)); exact BK386.out)) : gb388 ≠ gb386)); have n8_ := Am ((by rw [hg]; exact Nat.ne_of_lt (blk_lt (g := gb387) (o := .cells #[.int .i64 a1_0, .int .i64 a1_1, .int .i64 a1_2, .int .i64 a1_3, .int .i64 a1_4] 28 (0, 0)) (by (with_reducible repeat (first | refine Kn ?_ _ | refine Ke ?_ | refine Ka ?_ _)); exact BK387.out)) : gb387 ≠ gb388)); have n9_ := Am ((by rw [hg]; exact Nat.ne_of_gt (blk_lt (g := gb387) (o := .cells #[.int .i64 a1_0, .int .i64 a1_1, .int .i64 a1_2, .int .i64 a1_3, .int .i64 a1_4] 28 (0, 0)) (by (with_reducible repeat (first | refine Kn ?_ _ | refine Ke ?_ | refine Ka ?_ _)); exact BK387.out)) : gb388 ≠ gb387)); clear BK386; clear BK387; clear HB; have BK386 := n0_; have BK387 := n1_; have HB := n2_; have BK388 := n3_; have GW388 := n4_; have GE388 := n5_; have NB386_388 := n6_; have NB388_386 := n7_; have NB387_388 := n8_; have NB388_387 := n9_; clear n0_ n1_ n2_ n3_ n4_ n5_ n6_ n7_ n8_ n9_; clear hb hbox hg))
 (try simp only [Act.put, Lt, Lz, Ls])
 go_cut [20] (fun v20 wc => ∃ (kq : Nat) (x20_4 : Bool), v20 = .bool x20_4 ∧ Ad (spec_AttrFor.j0 kq a2 a3 x20_4 a0_0 l0_1 a1_0 a1_1 a1_2 a1_3 a1_4 = some (r1, r2, r3)) ∧ Ad (kq ≤ k) ∧ Ad (wc.heap[gb386]? = some (.cells #[.int .i64 a0_0, (.slice A0_1 l0_1.length c0_1)] 26 (0, 0))) ∧ Ad (wc.heap[gb387]? = some (.cells #[.int .i64 a1_0, .int .i64 a1_1, .int .i64 a1_2, .int .i64 a1_3, .int .i64 a1_4] 28 (0, 0))) ∧ Ad (wc.heap[gb388]? = some (.cells #[.int .i64 0, (.slice none 0 0)] 33 (0, 0))) ∧ Ad (Below w.heap.size w wc))
 case first =>
  have H := HC5.out
  clear HC5
  replace H := Option.bind_eq_some_iff.mp H
  obtain ⟨t389, A90, H⟩ := H
  replace H : (if t389 = true then ((spec_GoodCmd.f a1_0 a1_1 a1_2 a1_3 a1_4).bind fun t390 => (spec_AttrFor.j0 k a2 a3 (!t390) a0_0 l0_1 a1_0 a1_1 a1_2 a1_3 a1_4)) else (spec_AttrFor.j0 k a2 a3 true a0_0 l0_1 a1_0 a1_1 a1_2 a1_3 a1_4)) = some (r1, r2, r3) := H
  have A9 := Am A90
  clear A90
  by_cases c10 : t389 = true
  ·subst c10
   have H1 : ((spec_GoodCmd.f a1_0 a1_1 a1_2 a1_3 a1_4).bind fun t390 => (spec_AttrFor.j0 k a2 a3 (!t390) a0_0 l0_1 a1_0 a1_1 a1_2 a1_3 a1_4)) = some (r1, r2, r3) := by rw [if_pos rfl] at H; exact H
   clear H
   have H := H1
   clear H1
   replace H := Option.bind_eq_some_iff.mp H
   obtain ⟨t390, A110, H⟩ := H
   replace H : (spec_AttrFor.j0 k a2 a3 (!t390) a0_0 l0_1 a1_0 a1_1 a1_2 a1_3 a1_4) = some (r1, r2, r3) := H
   have A11 := Am A110
   clear A110
   have H' := Am H
   clear H
   have hnb12 := NB386_387.out
   have hnc12 := NB387_386.out
   have hnb13 := NB386_388.out
   have hnc13 := NB388_386.out
   have hcz14_0 : w8.cell? ⟨gb386, 0, none⟩ = some (.int .i64 a0_0) := (Kc BK386.out 0).trans rfl
   have hcz14_1 : w8.cell? ⟨gb386, 1, none⟩ = some (.slice A0_1 l0_1.length c0_1) := (Kc BK386.out 1).trans rfl
   have hfz14_0 := Kz BK386.out 0
   have hfz14_1 := Kz BK386.out 1
   go_wp2_with (first | ((refine Gc (f := 24) rfl ?_); refine goesL_ (some 14) rfl rfl Try.func24 (by kernel_rfl) rfl #[.agg #[.int .i64 a0_0, .slice A0_1 l0_1.length c0_1], .int .i64 a2, .int .i64 a3] rfl (by first | rfl | (simp only [List.map_toArray, List.map_cons, List.map_nil]; first | done | rfl)) ?_; (with_reducible refine (spec_l4Asked.calls k a0_0 _ _ l0_1 a2 a3 true _ ?side1 ?side2 A9.out).mono ?_); (case side1 => repeat (first | exact (Kd.C_below HR0_1.out HB.out) | (with_reducible refine Kd.C_alloc ?_ _) | (with_reducible refine Kd.C_drewN ?_ _) | (with_reducible refine Kd.C_drew ?_))); (case side2 => exact HC0_1.out); rintro e w15 ⟨rfl, hb⟩; refine ⟨_, rfl, ?_⟩; have n0_ := Am (Kb (g := gb386) (o := .cells #[.int .i64 a0_0, .slice A0_1 l0_1.length c0_1] 26 (0, 0)) (by (with_reducible repeat (first | refine Kn ?_ _ | refine Ke ?_ | refine Ka ?_ _)); exact BK386.out) hb); have n1_ := Am (Kb (g := gb387) (o := .cells #[.int .i64 a1_0, .int .i64 a1_1, .int .i64 a1_2, .int .i64 a1_3, .int .i64 a1_4] 28 (0, 0)) (by (with_reducible repeat (first | refine Kn ?_ _ | refine Ke ?_ | refine Ka ?_ _)); exact BK387.out) hb); have n2_ := Am (Kb (g := gb388) (o := .cells #[.int .i64 0, .slice none 0 0] 33 (0, 0)) (by (with_reducible repeat (first | refine Kn ?_ _ | refine Ke ?_ | refine Ka ?_ _)); exact BK388.out) hb); have n3_ := Am (Bt (by repeat (first | (with_reducible first | exact HB.out | apply Ba | apply Bn | apply Bd | refine Bs ?_ GE386.out | refine Bs ?_ GE387.out | refine Bs ?_ GE388.out) | exact HB.out)) hb); clear BK386; clear BK387; clear BK388; clear HB; have BK386 := n0_; have BK387 := n1_; have BK388 := n2_; have HB := n3_; clear n0_ n1_ n2_ n3_; (try clear hb); (try clear hb2); (try clear hk); (try clear hi); have hnb16 := NB387_388.out; have hnc16 := NB388_387.out; have hcz17_0 : w15.cell? ⟨gb387, 0, none⟩ = some (.int .i64 a1_0) := (Kc BK387.out 0).trans rfl; have hcz17_1 : w15.cell? ⟨gb387, 1, none⟩ = some (.int .i64 a1_1) := (Kc BK387.out 1).trans rfl; have hcz17_2 : w15.cell? ⟨gb387, 2, none⟩ = some (.int .i64 a1_2) := (Kc BK387.out 2).trans rfl; have hcz17_3 : w15.cell? ⟨gb387, 3, none⟩ = some (.int .i64 a1_3) := (Kc BK387.out 3).trans rfl; have hcz17_4 : w15.cell? ⟨gb387, 4, none⟩ = some (.int .i64 a1_4) := (Kc BK387.out 4).trans rfl; have hfz17_0 := Kz BK387.out 0; have hfz17_1 := Kz BK387.out 1; have hfz17_2 := Kz BK387.out 2; have hfz17_3 := Kz BK387.out 3; have hfz17_4 := Kz BK387.out 4) | (go_at_call 25; (with_reducible refine (spec_GoodCmd.calls a1_0 a1_1 a1_2 a1_3 a1_4 t390 _ A11.out).mono ?_); rintro e w18 ⟨rfl, hb⟩; have n0_ := Am (Kb (g := gb386) (o := .cells #[.int .i64 a0_0, .slice A0_1 l0_1.length c0_1] 26 (0, 0)) (by (with_reducible repeat (first | refine Kn ?_ _ | refine Ke ?_ | refine Ka ?_ _)); exact BK386.out) hb); have n1_ := Am (Kb (g := gb387) (o := .cells #[.int .i64 a1_0, .int .i64 a1_1, .int .i64 a1_2, .int .i64 a1_3, .int .i64 a1_4] 28 (0, 0)) (by (with_reducible repeat (first | refine Kn ?_ _ | refine Ke ?_ | refine Ka ?_ _)); exact BK387.out) hb); have n2_ := Am (Kb (g := gb388) (o := .cells #[.int .i64 0, .slice none 0 0] 33 (0, 0)) (by (with_reducible repeat (first | refine Kn ?_ _ | refine Ke ?_ | refine Ka ?_ _)); exact BK388.out) hb); have n3_ := Am (Bt (by repeat (first | (with_reducible first | exact HB.out | apply Ba | apply Bn | apply Bd | refine Bs ?_ GE386.out | refine Bs ?_ GE387.out | refine Bs ?_ GE388.out) | exact HB.out)) hb); clear BK386; clear BK387; clear BK388; clear HB; have BK386 := n0_; have BK387 := n1_; have BK388 := n2_; have HB := n3_; clear n0_ n1_ n2_ n3_; (try clear hb); (try clear hb2); (try clear hk); (try clear hi)))
   go_meet
   case rel => exact ⟨_, (!t390), (by first | rfl | (simp; done) | (simp [*]; done)), H', ⟨by first | omega | exact Nat.le_refl _⟩, ⟨by (with_reducible repeat (first | refine Kn ?_ _ | refine Ke ?_ | refine Ka ?_ _)); exact BK386.out⟩, ⟨by (with_reducible repeat (first | refine Kn ?_ _ | refine Ke ?_ | refine Ka ?_ _)); exact BK387.out⟩, ⟨by (with_reducible repeat (first | refine Kn ?_ _ | refine Ke ?_ | refine Ka ?_ _)); exact BK388.out⟩, ⟨by repeat (first | (with_reducible first | exact HB.out | apply Ba | apply Bn | apply Bd | refine Bs ?_ GE386.out | refine Bs ?_ GE387.out | refine Bs ?_ GE388.out) | exact HB.out)⟩⟩
  ·replace c10 := Bool.eq_false_iff.mpr c10
   subst c10
   have H1 : (spec_AttrFor.j0 k a2 a3 true a0_0 l0_1 a1_0 a1_1 a1_2 a1_3 a1_4) = some (r1, r2, r3) := by rw [if_neg (show ¬ (false = true) by decide)] at H; exact H
   clear H
   have H := H1
   clear H1
   have H' := Am H
   clear H
   have hnb19 := NB386_387.out
   have hnc19 := NB387_386.out
   have hnb20 := NB386_388.out
   have hnc20 := NB388_386.out
   have hcz21_0 : w8.cell? ⟨gb386, 0, none⟩ = some (.int .i64 a0_0) := (Kc BK386.out 0).trans rfl
   have hcz21_1 : w8.cell? ⟨gb386, 1, none⟩ = some (.slice A0_1 l0_1.length c0_1) := (Kc BK386.out 1).trans rfl
   have hfz21_0 := Kz BK386.out 0
   have hfz21_1 := Kz BK386.out 1
   go_wp2_with (first | ((refine Gc (f := 24) rfl ?_); refine goesL_ (some 14) rfl rfl Try.func24 (by kernel_rfl) rfl #[.agg #[.int .i64 a0_0, .slice A0_1 l0_1.length c0_1], .int .i64 a2, .int .i64 a3] rfl (by first | rfl | (simp only [List.map_toArray, List.map_cons, List.map_nil]; first | done | rfl)) ?_; (with_reducible refine (spec_l4Asked.calls k a0_0 _ _ l0_1 a2 a3 false _ ?side1 ?side2 A9.out).mono ?_); (case side1 => repeat (first | exact (Kd.C_below HR0_1.out HB.out) | (with_reducible refine Kd.C_alloc ?_ _) | (with_reducible refine Kd.C_drewN ?_ _) | (with_reducible refine Kd.C_drew ?_))); (case side2 => exact HC0_1.out); rintro e w22 ⟨rfl, hb⟩; refine ⟨_, rfl, ?_⟩; have n0_ := Am (Kb (g := gb386) (o := .cells #[.int .i64 a0_0, .slice A0_1 l0_1.length c0_1] 26 (0, 0)) (by (with_reducible repeat (first | refine Kn ?_ _ | refine Ke ?_ | refine Ka ?_ _)); exact BK386.out) hb); have n1_ := Am (Kb (g := gb387) (o := .cells #[.int .i64 a1_0, .int .i64 a1_1, .int .i64 a1_2, .int .i64 a1_3, .int .i64 a1_4] 28 (0, 0)) (by (with_reducible repeat (first | refine Kn ?_ _ | refine Ke ?_ | refine Ka ?_ _)); exact BK387.out) hb); have n2_ := Am (Kb (g := gb388) (o := .cells #[.int .i64 0, .slice none 0 0] 33 (0, 0)) (by (with_reducible repeat (first | refine Kn ?_ _ | refine Ke ?_ | refine Ka ?_ _)); exact BK388.out) hb); have n3_ := Am (Bt (by repeat (first | (with_reducible first | exact HB.out | apply Ba | apply Bn | apply Bd | refine Bs ?_ GE386.out | refine Bs ?_ GE387.out | refine Bs ?_ GE388.out) | exact HB.out)) hb); clear BK386; clear BK387; clear BK388; clear HB; have BK386 := n0_; have BK387 := n1_; have BK388 := n2_; have HB := n3_; clear n0_ n1_ n2_ n3_; (try clear hb); (try clear hb2); (try clear hk); (try clear hi)))
   go_meet
   case rel => exact ⟨_, (true), (by first | rfl | (simp; done) | (simp [*]; done)), H', ⟨by first | omega | exact Nat.le_refl _⟩, ⟨by (with_reducible repeat (first | refine Kn ?_ _ | refine Ke ?_ | refine Ka ?_ _)); exact BK386.out⟩, ⟨by (with_reducible repeat (first | refine Kn ?_ _ | refine Ke ?_ | refine Ka ?_ _)); exact BK387.out⟩, ⟨by (with_reducible repeat (first | refine Kn ?_ _ | refine Ke ?_ | refine Ka ?_ _)); exact BK388.out⟩, ⟨by repeat (first | (with_reducible first | exact HB.out | apply Ba | apply Bn | apply Bd | refine Bs ?_ GE386.out | refine Bs ?_ GE387.out | refine Bs ?_ GE388.out) | exact HB.out)⟩⟩
 case rest =>
  clear HC5
  try clear c1
  try clear c2
  try clear p2
  try clear c8
  try clear c10
  try clear c12
  try clear c13
  try clear c16
  try clear c19
  try clear c20
  try clear hcz14_0
  try clear hcz14_1
  try clear hcz17_0
  try clear hcz17_1
  try clear hcz17_2
  try clear hcz17_3
  try clear hcz17_4
  try clear hcz21_0
  try clear hcz21_1
  try clear hfz14_0
  try clear hfz14_1
  try clear hfz17_0
  try clear hfz17_1
  try clear hfz17_2
  try clear hfz17_3
  try clear hfz17_4
  try clear hfz21_0
  try clear hfz21_1
  obtain ⟨kq, x20_4, rfl, HA, HJ4, BK386, BK387, BK388, HB⟩ := hcut
  cases kq with
  | zero => exact absurd HA.out (by simp [spec_AttrFor.j0])
  | succ kj4 =>
   have H := HA.out
   clear HA
   simp only [spec_AttrFor.j0] at H
   by_cases c23 : x20_4 = true
   ·subst c23
    have H1 : (some (0, ([] : List Int), false)) = some (r1, r2, r3) := by rw [if_pos rfl] at H; exact H
    clear H
    have H := H1
    clear H1
    simp only [Option.some.injEq, Prod.mk.injEq] at H
    obtain ⟨rfl, rfl, rfl⟩ := H
    have hnb24 := NB388_386.out
    have hnc24 := NB386_388.out
    have hnb25 := NB388_387.out
    have hnc25 := NB387_388.out
    have hcz26_0 : wc.cell? ⟨gb388, 0, none⟩ = some (.int .i64 0) := (Kc BK388.out 0).trans rfl
    have hcz26_1 : wc.cell? ⟨gb388, 1, none⟩ = some (.slice none 0 0) := (Kc BK388.out 1).trans rfl
    have hfz26_0 := Kz BK388.out 0
    have hfz26_1 := Kz BK388.out 1
    go_wp2
    refine bodyPost_ret (results_ct rfl _ _ gb388 33 #[.int .i64 0, .slice none 0 0] (0, 0) _ rfl (by (with_reducible repeat (first | refine Kn ?_ _ | refine Ke ?_ | refine Ka ?_ _)); refine blk_put (cs := #[.int .i64 0, .slice none 0 0]) ?_ 1 _ rfl; (with_reducible repeat (first | refine Kn ?_ _ | refine Ke ?_ | refine Ka ?_ _)); refine blk_put (cs := #[.int .i64 0, .slice none 0 0]) ?_ 0 _ rfl; (with_reducible repeat (first | refine Kn ?_ _ | refine Ke ?_ | refine Ka ?_ _)); exact BK388.out) Try.underlying33 rfl (by kernel_rfl)) rfl ?_
    exact ⟨_, by first | rfl | (simp [*, errW_none, errW_some] <;> rfl), by first | exact Kd.R_nil _ _ _ _ _ | exact Kd.N_nil _ _ _ _ _ | exact Kd.V_nil _ _ _ _ _ | exact Kd.Q_nil _ _ _ _ _ | exact Kd.S_nil _ _ _ _ _, by repeat (first | (with_reducible first | exact HB.out | apply Ba | apply Bn | apply Bd | refine Bs ?_ GE386.out | refine Bs ?_ GE387.out | refine Bs ?_ GE388.out) | exact HB.out)⟩
   ·replace c23 := Bool.eq_false_iff.mpr c23
    subst c23
    have H1 : ((spec_l4Attr.f kj4 a0_0 l0_1 a1_0 a1_1 a1_2 a1_3 a1_4 a2 a3).bind fun bt391 => (if bt391.1 > 999 then (some (0, ([] : List Int), false)) else (some (bt391.1, bt391.2, true)))) = some (r1, r2, r3) := by rw [if_neg (show ¬ (false = true) by decide)] at H; exact H
    clear H
    have H := H1
    clear H1
    replace H := Option.bind_eq_some_iff.mp H
    obtain ⟨⟨t391, t392⟩, A270, H⟩ := H
    replace H : (if t391 > 999 then (some (0, ([] : List Int), false)) else (some (t391, t392, true))) = some (r1, r2, r3) := H
    have A27 := Am A270
    clear A270
    by_cases c28 : t391 > 999
    ·rw [if_pos c28] at H
     have c28b0 : decide (999 < t391) = true := decide_eq_true c28
     clear c28
     simp only [Option.some.injEq, Prod.mk.injEq] at H
     obtain ⟨rfl, rfl, rfl⟩ := H
     have hnb29 := NB386_387.out
     have hnc29 := NB387_386.out
     have hnb30 := NB386_388.out
     have hnc30 := NB388_386.out
     have hcz31_0 : wc.cell? ⟨gb386, 0, none⟩ = some (.int .i64 a0_0) := (Kc BK386.out 0).trans rfl
     have hcz31_1 : wc.cell? ⟨gb386, 1, none⟩ = some (.slice A0_1 l0_1.length c0_1) := (Kc BK386.out 1).trans rfl
     have hfz31_0 := Kz BK386.out 0
     have hfz31_1 := Kz BK386.out 1
     have hnb32 := NB387_388.out
     have hnc32 := NB388_387.out
     have hcz33_0 : wc.cell? ⟨gb387, 0, none⟩ = some (.int .i64 a1_0) := (Kc BK387.out 0).trans rfl
     have hcz33_1 : wc.cell? ⟨gb387, 1, none⟩ = some (.int .i64 a1_1) := (Kc BK387.out 1).trans rfl
     have hcz33_2 : wc.cell? ⟨gb387, 2, none⟩ = some (.int .i64 a1_2) := (Kc BK387.out 2).trans rfl
     have hcz33_3 : wc.cell? ⟨gb387, 3, none⟩ = some (.int .i64 a1_3) := (Kc BK387.out 3).trans rfl
     have hcz33_4 : wc.cell? ⟨gb387, 4, none⟩ = some (.int .i64 a1_4) := (Kc BK387.out 4).trans rfl
     have hfz33_0 := Kz BK387.out 0
     have hfz33_1 := Kz BK387.out 1
     have hfz33_2 := Kz BK387.out 2
     have hfz33_3 := Kz BK387.out 3
     have hfz33_4 := Kz BK387.out 4
     go_wp2_with (first | ((refine Gc (f := 26) rfl ?_); refine goesL_ (some 26) rfl rfl Try.func26 (by kernel_rfl) rfl #[.agg #[.int .i64 a0_0, .slice A0_1 l0_1.length c0_1], .agg #[.int .i64 a1_0, .int .i64 a1_1, .int .i64 a1_2, .int .i64 a1_3, .int .i64 a1_4], .int .i64 a2, .int .i64 a3] rfl (by first | rfl | (simp only [List.map_toArray, List.map_cons, List.map_nil]; first | done | rfl)) ?_; (with_reducible refine (spec_l4Attr.calls kj4 a0_0 _ _ l0_1 a1_0 a1_1 a1_2 a1_3 a1_4 a2 a3 t391 t392 _ ?side1 ?side2 A27.out).mono ?_); (case side1 => repeat (first | exact (Kd.C_below HR0_1.out HB.out) | (with_reducible refine Kd.C_alloc ?_ _) | (with_reducible refine Kd.C_drewN ?_ _) | (with_reducible refine Kd.C_drew ?_))); (case side2 => exact HC0_1.out); rintro e w34 ⟨v393, rfl, ho0, hb⟩; refine ⟨_, rfl, ?_⟩; have n0_ := Am (Kd.R_lower ho0 (Bz (by repeat (first | (with_reducible first | exact HB.out | apply Ba | apply Bn | apply Bd | refine Bs ?_ GE386.out | refine Bs ?_ GE387.out | refine Bs ?_ GE388.out) | exact HB.out)))); have n1_ := Am (Kb (g := gb386) (o := .cells #[.int .i64 a0_0, .slice A0_1 l0_1.length c0_1] 26 (0, 0)) (by (with_reducible repeat (first | refine Kn ?_ _ | refine Ke ?_ | refine Ka ?_ _)); exact BK386.out) hb); have n2_ := Am (Kb (g := gb387) (o := .cells #[.int .i64 a1_0, .int .i64 a1_1, .int .i64 a1_2, .int .i64 a1_3, .int .i64 a1_4] 28 (0, 0)) (by (with_reducible repeat (first | refine Kn ?_ _ | refine Ke ?_ | refine Ka ?_ _)); exact BK387.out) hb); have n3_ := Am (Kb (g := gb388) (o := .cells #[.int .i64 0, .slice none 0 0] 33 (0, 0)) (by (with_reducible repeat (first | refine Kn ?_ _ | refine Ke ?_ | refine Ka ?_ _)); exact BK388.out) hb); have n4_ := Am (Bt (by repeat (first | (with_reducible first | exact HB.out | apply Ba | apply Bn | apply Bd | refine Bs ?_ GE386.out | refine Bs ?_ GE387.out | refine Bs ?_ GE388.out) | exact HB.out)) hb); clear BK386; clear BK387; clear BK388; clear HB; have HO394 := n0_; have BK386 := n1_; have BK387 := n2_; have BK388 := n3_; have HB := n4_; clear n0_ n1_ n2_ n3_ n4_; (try clear hb); (try clear hb2); (try clear hk); (try clear hi); (try clear ho0)) | ((refine Gd (N := 10) rfl ?_); refine Be ?hg (N := 10) ?hd (cs := #[.int .i64 0, .slice none 0 0]) (t := 33) ?hr ?_; (case hd | hg => rfl); (case hr => first | (go_simp; done) | (go_simp; rfl)); intro gb395 hg w35 hbox hb; have n0_ := Am (Kd.R_below (by (with_reducible repeat (first | apply Ra | apply Rn | apply Rd)); exact HO394.out) hb); have n1_ := Am (Kb (g := gb386) (o := .cells #[.int .i64 a0_0, .slice A0_1 l0_1.length c0_1] 26 (0, 0)) (by (with_reducible repeat (first | refine Kn ?_ _ | refine Ke ?_ | refine Ka ?_ _)); exact BK386.out) hb); have n2_ := Am (Kb (g := gb387) (o := .cells #[.int .i64 a1_0, .int .i64 a1_1, .int .i64 a1_2, .int .i64 a1_3, .int .i64 a1_4] 28 (0, 0)) (by (with_reducible repeat (first | refine Kn ?_ _ | refine Ke ?_ | refine Ka ?_ _)); exact BK387.out) hb); have n3_ := Am (Kb (g := gb388) (o := .cells #[.int .i64 0, .slice none 0 0] 33 (0, 0)) (by (with_reducible repeat (first | refine Kn ?_ _ | refine Ke ?_ | refine Ka ?_ _)); exact BK388.out) hb); have n4_ := Am (Bt (by repeat (first | (with_reducible first | exact HB.out | apply Ba | apply Bn | apply Bd | refine Bs ?_ GE386.out | refine Bs ?_ GE387.out | refine Bs ?_ GE388.out) | exact HB.out)) hb); have n5_ := Am (hbox); have n6_ := Am ((by rw [hg]; exact (Bz (by repeat (first | (with_reducible first | exact HB.out | apply Ba | apply Bn | apply Bd | refine Bs ?_ GE386.out | refine Bs ?_ GE387.out | refine Bs ?_ GE388.out) | exact HB.out))) : w.heap.size ≤ gb395)); have n7_ := Am ((by rw [hg]; exact (Bz (by repeat (first | (with_reducible first | exact HB.out | apply Ba | apply Bn | apply Bd | refine Bs ?_ GE386.out | refine Bs ?_ GE387.out | refine Bs ?_ GE388.out) | exact HB.out))) : w.heap.size ≤ gb395)); have n8_ := Am ((by rw [hg]; exact Nat.ne_of_lt (blk_lt (g := gb386) (o := .cells #[.int .i64 a0_0, .slice A0_1 l0_1.length c0_1] 26 (0, 0)) (by (with_reducible repeat (first | refine Kn ?_ _ | refine Ke ?_ | refine Ka ?_ _)); exact BK386.out)) : gb386 ≠ gb395)); have n9_ := Am ((by rw [hg]; exact Nat.ne_of_gt (blk_lt (g := gb386) (o := .cells #[.int .i64 a0_0, .slice A0_1 l0_1.length c0_1] 26 (0, 0)) (by (with_reducible repeat (first | refine Kn ?_ _ | refine Ke ?_ | refine Ka ?_ _)); exact BK386.out)) : gb395 ≠ gb386)); have n10_ := Am ((by rw [hg]; exact Nat.ne_of_lt (blk_lt (g := gb387) (o := .cells #[.int .i64 a1_0, .int .i64 a1_1, .int .i64 a1_2, .int .i64 a1_3, .int .i64 a1_4] 28 (0, 0)) (by (with_reducible repeat (first | refine Kn ?_ _ | refine Ke ?_ | refine Ka ?_ _)); exact BK387.out)) : gb387 ≠ gb395)); have n11_ := Am ((by rw [hg]; exact Nat.ne_of_gt (blk_lt (g := gb387) (o := .cells #[.int .i64 a1_0, .int .i64 a1_1, .int .i64 a1_2, .int .i64 a1_3, .int .i64 a1_4] 28 (0, 0)) (by (with_reducible repeat (first | refine Kn ?_ _ | refine Ke ?_ | refine Ka ?_ _)); exact BK387.out)) : gb395 ≠ gb387)); have n12_ := Am ((by rw [hg]; exact Nat.ne_of_lt (blk_lt (g := gb388) (o := .cells #[.int .i64 0, .slice none 0 0] 33 (0, 0)) (by (with_reducible repeat (first | refine Kn ?_ _ | refine Ke ?_ | refine Ka ?_ _)); exact BK388.out)) : gb388 ≠ gb395)); have n13_ := Am ((by rw [hg]; exact Nat.ne_of_gt (blk_lt (g := gb388) (o := .cells #[.int .i64 0, .slice none 0 0] 33 (0, 0)) (by (with_reducible repeat (first | refine Kn ?_ _ | refine Ke ?_ | refine Ka ?_ _)); exact BK388.out)) : gb395 ≠ gb388)); clear HO394; clear BK386; clear BK387; clear BK388; clear HB; have HO394 := n0_; have BK386 := n1_; have BK387 := n2_; have BK388 := n3_; have HB := n4_; have BK395 := n5_; have GW395 := n6_; have GE395 := n7_; have NB386_395 := n8_; have NB395_386 := n9_; have NB387_395 := n10_; have NB395_387 := n11_; have NB388_395 := n12_; have NB395_388 := n13_; clear n0_ n1_ n2_ n3_ n4_ n5_ n6_ n7_ n8_ n9_ n10_ n11_ n12_ n13_; clear hb hbox hg; have hnb36 := NB395_386.out; have hnc36 := NB386_395.out; have hnb37 := NB395_387.out; have hnc37 := NB387_395.out; have hnb38 := NB395_388.out; have hnc38 := NB388_395.out; have hcz39_0 : w35.cell? ⟨gb395, 0, none⟩ = some (.int .i64 0) := (Kc BK395.out 0).trans rfl; have hcz39_1 : w35.cell? ⟨gb395, 1, none⟩ = some (.slice none 0 0) := (Kc BK395.out 1).trans rfl; have hfz39_0 := Kz BK395.out 0; have hfz39_1 := Kz BK395.out 1; obtain ⟨Ao40, co40, eo40⟩ := Kd.R_slice HO394.out; subst eo40; have hcz41_0 : w35.cell? ⟨gb388, 0, none⟩ = some (.int .i64 0) := (Kc BK388.out 0).trans rfl; have hcz41_1 : w35.cell? ⟨gb388, 1, none⟩ = some (.slice none 0 0) := (Kc BK388.out 1).trans rfl; have hfz41_0 := Kz BK388.out 0; have hfz41_1 := Kz BK388.out 1))
     refine bodyPost_ret (results_ct rfl _ _ gb388 33 #[.int .i64 0, .slice none 0 0] (0, 0) _ rfl (by (with_reducible repeat (first | refine Kn ?_ _ | refine Ke ?_ | refine Ka ?_ _)); refine blk_put (cs := #[.int .i64 0, .slice none 0 0]) ?_ 1 _ rfl; (with_reducible repeat (first | refine Kn ?_ _ | refine Ke ?_ | refine Ka ?_ _)); refine blk_put (cs := #[.int .i64 0, .slice none 0 0]) ?_ 0 _ rfl; (with_reducible repeat (first | refine Kn ?_ _ | refine Ke ?_ | refine Ka ?_ _)); refine Kf ?_ NB388_395.out _; (with_reducible repeat (first | refine Kn ?_ _ | refine Ke ?_ | refine Ka ?_ _)); refine Kf ?_ NB388_395.out _; (with_reducible repeat (first | refine Kn ?_ _ | refine Ke ?_ | refine Ka ?_ _)); exact BK388.out) Try.underlying33 rfl (by kernel_rfl)) rfl ?_
     exact ⟨_, by first | rfl | (simp [*, errW_none, errW_some] <;> rfl), by first | exact Kd.R_nil _ _ _ _ _ | exact Kd.N_nil _ _ _ _ _ | exact Kd.V_nil _ _ _ _ _ | exact Kd.Q_nil _ _ _ _ _ | exact Kd.S_nil _ _ _ _ _, by repeat (first | (with_reducible first | exact HB.out | apply Ba | apply Bn | apply Bd | refine Bs ?_ GE386.out | refine Bs ?_ GE387.out | refine Bs ?_ GE388.out | refine Bs ?_ GE395.out) | exact HB.out)⟩
    ·rw [if_neg c28] at H
     have c28b0 : decide (999 < t391) = false := decide_eq_false c28
     clear c28
     simp only [Option.some.injEq, Prod.mk.injEq] at H
     obtain ⟨rfl, rfl, rfl⟩ := H
     have hnb42 := NB386_387.out
     have hnc42 := NB387_386.out
     have hnb43 := NB386_388.out
     have hnc43 := NB388_386.out
     have hcz44_0 : wc.cell? ⟨gb386, 0, none⟩ = some (.int .i64 a0_0) := (Kc BK386.out 0).trans rfl
     have hcz44_1 : wc.cell? ⟨gb386, 1, none⟩ = some (.slice A0_1 l0_1.length c0_1) := (Kc BK386.out 1).trans rfl
     have hfz44_0 := Kz BK386.out 0
     have hfz44_1 := Kz BK386.out 1
     have hnb45 := NB387_388.out
     have hnc45 := NB388_387.out
     have hcz46_0 : wc.cell? ⟨gb387, 0, none⟩ = some (.int .i64 a1_0) := (Kc BK387.out 0).trans rfl
     have hcz46_1 : wc.cell? ⟨gb387, 1, none⟩ = some (.int .i64 a1_1) := (Kc BK387.out 1).trans rfl
     have hcz46_2 : wc.cell? ⟨gb387, 2, none⟩ = some (.int .i64 a1_2) := (Kc BK387.out 2).trans rfl
     have hcz46_3 : wc.cell? ⟨gb387, 3, none⟩ = some (.int .i64 a1_3) := (Kc BK387.out 3).trans rfl
     have hcz46_4 : wc.cell? ⟨gb387, 4, none⟩ = some (.int .i64 a1_4) := (Kc BK387.out 4).trans rfl
     have hfz46_0 := Kz BK387.out 0
     have hfz46_1 := Kz BK387.out 1
     have hfz46_2 := Kz BK387.out 2
     have hfz46_3 := Kz BK387.out 3
     have hfz46_4 := Kz BK387.out 4
     go_wp2_with (first | ((refine Gc (f := 26) rfl ?_); refine goesL_ (some 26) rfl rfl Try.func26 (by kernel_rfl) rfl #[.agg #[.int .i64 a0_0, .slice A0_1 l0_1.length c0_1], .agg #[.int .i64 a1_0, .int .i64 a1_1, .int .i64 a1_2, .int .i64 a1_3, .int .i64 a1_4], .int .i64 a2, .int .i64 a3] rfl (by first | rfl | (simp only [List.map_toArray, List.map_cons, List.map_nil]; first | done | rfl)) ?_; (with_reducible refine (spec_l4Attr.calls kj4 a0_0 _ _ l0_1 a1_0 a1_1 a1_2 a1_3 a1_4 a2 a3 t391 t392 _ ?side1 ?side2 A27.out).mono ?_); (case side1 => repeat (first | exact (Kd.C_below HR0_1.out HB.out) | (with_reducible refine Kd.C_alloc ?_ _) | (with_reducible refine Kd.C_drewN ?_ _) | (with_reducible refine Kd.C_drew ?_))); (case side2 => exact HC0_1.out); rintro e w47 ⟨v393, rfl, ho0, hb⟩; refine ⟨_, rfl, ?_⟩; have n0_ := Am (Kd.R_lower ho0 (Bz (by repeat (first | (with_reducible first | exact HB.out | apply Ba | apply Bn | apply Bd | refine Bs ?_ GE386.out | refine Bs ?_ GE387.out | refine Bs ?_ GE388.out) | exact HB.out)))); have n1_ := Am (Kb (g := gb386) (o := .cells #[.int .i64 a0_0, .slice A0_1 l0_1.length c0_1] 26 (0, 0)) (by (with_reducible repeat (first | refine Kn ?_ _ | refine Ke ?_ | refine Ka ?_ _)); exact BK386.out) hb); have n2_ := Am (Kb (g := gb387) (o := .cells #[.int .i64 a1_0, .int .i64 a1_1, .int .i64 a1_2, .int .i64 a1_3, .int .i64 a1_4] 28 (0, 0)) (by (with_reducible repeat (first | refine Kn ?_ _ | refine Ke ?_ | refine Ka ?_ _)); exact BK387.out) hb); have n3_ := Am (Kb (g := gb388) (o := .cells #[.int .i64 0, .slice none 0 0] 33 (0, 0)) (by (with_reducible repeat (first | refine Kn ?_ _ | refine Ke ?_ | refine Ka ?_ _)); exact BK388.out) hb); have n4_ := Am (Bt (by repeat (first | (with_reducible first | exact HB.out | apply Ba | apply Bn | apply Bd | refine Bs ?_ GE386.out | refine Bs ?_ GE387.out | refine Bs ?_ GE388.out) | exact HB.out)) hb); clear BK386; clear BK387; clear BK388; clear HB; have HO394 := n0_; have BK386 := n1_; have BK387 := n2_; have BK388 := n3_; have HB := n4_; clear n0_ n1_ n2_ n3_ n4_; (try clear hb); (try clear hb2); (try clear hk); (try clear hi); (try clear ho0)) | ((refine Gd (N := 10) rfl ?_); refine Be ?hg (N := 10) ?hd (cs := #[.int .i64 0, .slice none 0 0]) (t := 33) ?hr ?_; (case hd | hg => rfl); (case hr => first | (go_simp; done) | (go_simp; rfl)); intro gb395 hg w48 hbox hb; have n0_ := Am (Kd.R_below (by (with_reducible repeat (first | apply Ra | apply Rn | apply Rd)); exact HO394.out) hb); have n1_ := Am (Kb (g := gb386) (o := .cells #[.int .i64 a0_0, .slice A0_1 l0_1.length c0_1] 26 (0, 0)) (by (with_reducible repeat (first | refine Kn ?_ _ | refine Ke ?_ | refine Ka ?_ _)); exact BK386.out) hb); have n2_ := Am (Kb (g := gb387) (o := .cells #[.int .i64 a1_0, .int .i64 a1_1, .int .i64 a1_2, .int .i64 a1_3, .int .i64 a1_4] 28 (0, 0)) (by (with_reducible repeat (first | refine Kn ?_ _ | refine Ke ?_ | refine Ka ?_ _)); exact BK387.out) hb); have n3_ := Am (Kb (g := gb388) (o := .cells #[.int .i64 0, .slice none 0 0] 33 (0, 0)) (by (with_reducible repeat (first | refine Kn ?_ _ | refine Ke ?_ | refine Ka ?_ _)); exact BK388.out) hb); have n4_ := Am (Bt (by repeat (first | (with_reducible first | exact HB.out | apply Ba | apply Bn | apply Bd | refine Bs ?_ GE386.out | refine Bs ?_ GE387.out | refine Bs ?_ GE388.out) | exact HB.out)) hb); have n5_ := Am (hbox); have n6_ := Am ((by rw [hg]; exact (Bz (by repeat (first | (with_reducible first | exact HB.out | apply Ba | apply Bn | apply Bd | refine Bs ?_ GE386.out | refine Bs ?_ GE387.out | refine Bs ?_ GE388.out) | exact HB.out))) : w.heap.size ≤ gb395)); have n7_ := Am ((by rw [hg]; exact (Bz (by repeat (first | (with_reducible first | exact HB.out | apply Ba | apply Bn | apply Bd | refine Bs ?_ GE386.out | refine Bs ?_ GE387.out | refine Bs ?_ GE388.out) | exact HB.out))) : w.heap.size ≤ gb395)); have n8_ := Am ((by rw [hg]; exact Nat.ne_of_lt (blk_lt (g := gb386) (o := .cells #[.int .i64 a0_0, .slice A0_1 l0_1.length c0_1] 26 (0, 0)) (by (with_reducible repeat (first | refine Kn ?_ _ | refine Ke ?_ | refine Ka ?_ _)); exact BK386.out)) : gb386 ≠ gb395)); have n9_ := Am ((by rw [hg]; exact Nat.ne_of_gt (blk_lt (g := gb386) (o := .cells #[.int .i64 a0_0, .slice A0_1 l0_1.length c0_1] 26 (0, 0)) (by (with_reducible repeat (first | refine Kn ?_ _ | refine Ke ?_ | refine Ka ?_ _)); exact BK386.out)) : gb395 ≠ gb386)); have n10_ := Am ((by rw [hg]; exact Nat.ne_of_lt (blk_lt (g := gb387) (o := .cells #[.int .i64 a1_0, .int .i64 a1_1, .int .i64 a1_2, .int .i64 a1_3, .int .i64 a1_4] 28 (0, 0)) (by (with_reducible repeat (first | refine Kn ?_ _ | refine Ke ?_ | refine Ka ?_ _)); exact BK387.out)) : gb387 ≠ gb395)); have n11_ := Am ((by rw [hg]; exact Nat.ne_of_gt (blk_lt (g := gb387) (o := .cells #[.int .i64 a1_0, .int .i64 a1_1, .int .i64 a1_2, .int .i64 a1_3, .int .i64 a1_4] 28 (0, 0)) (by (with_reducible repeat (first | refine Kn ?_ _ | refine Ke ?_ | refine Ka ?_ _)); exact BK387.out)) : gb395 ≠ gb387)); have n12_ := Am ((by rw [hg]; exact Nat.ne_of_lt (blk_lt (g := gb388) (o := .cells #[.int .i64 0, .slice none 0 0] 33 (0, 0)) (by (with_reducible repeat (first | refine Kn ?_ _ | refine Ke ?_ | refine Ka ?_ _)); exact BK388.out)) : gb388 ≠ gb395)); have n13_ := Am ((by rw [hg]; exact Nat.ne_of_gt (blk_lt (g := gb388) (o := .cells #[.int .i64 0, .slice none 0 0] 33 (0, 0)) (by (with_reducible repeat (first | refine Kn ?_ _ | refine Ke ?_ | refine Ka ?_ _)); exact BK388.out)) : gb395 ≠ gb388)); clear HO394; clear BK386; clear BK387; clear BK388; clear HB; have HO394 := n0_; have BK386 := n1_; have BK387 := n2_; have BK388 := n3_; have HB := n4_; have BK395 := n5_; have GW395 := n6_; have GE395 := n7_; have NB386_395 := n8_; have NB395_386 := n9_; have NB387_395 := n10_; have NB395_387 := n11_; have NB388_395 := n12_; have NB395_388 := n13_; clear n0_ n1_ n2_ n3_ n4_ n5_ n6_ n7_ n8_ n9_ n10_ n11_ n12_ n13_; clear hb hbox hg; have hnb49 := NB395_386.out; have hnc49 := NB386_395.out; have hnb50 := NB395_387.out; have hnc50 := NB387_395.out; have hnb51 := NB395_388.out; have hnc51 := NB388_395.out; have hcz52_0 : w48.cell? ⟨gb395, 0, none⟩ = some (.int .i64 0) := (Kc BK395.out 0).trans rfl; have hcz52_1 : w48.cell? ⟨gb395, 1, none⟩ = some (.slice none 0 0) := (Kc BK395.out 1).trans rfl; have hfz52_0 := Kz BK395.out 0; have hfz52_1 := Kz BK395.out 1; obtain ⟨Ao53, co53, eo53⟩ := Kd.R_slice HO394.out; subst eo53; have hcz54_0 : w48.cell? ⟨gb388, 0, none⟩ = some (.int .i64 0) := (Kc BK388.out 0).trans rfl; have hcz54_1 : w48.cell? ⟨gb388, 1, none⟩ = some (.slice none 0 0) := (Kc BK388.out 1).trans rfl; have hfz54_0 := Kz BK388.out 0; have hfz54_1 := Kz BK388.out 1))
     refine bodyPost_ret (results_ct rfl _ _ gb388 33 #[.int .i64 t391, .slice Ao53 t392.length co53] (0, 0) _ rfl (by (with_reducible repeat (first | refine Kn ?_ _ | refine Ke ?_ | refine Ka ?_ _)); refine blk_put (cs := #[.int .i64 t391, .slice none 0 0]) ?_ 1 _ rfl; (with_reducible repeat (first | refine Kn ?_ _ | refine Ke ?_ | refine Ka ?_ _)); refine blk_put (cs := #[.int .i64 0, .slice none 0 0]) ?_ 0 _ rfl; (with_reducible repeat (first | refine Kn ?_ _ | refine Ke ?_ | refine Ka ?_ _)); refine Kf ?_ NB388_395.out _; (with_reducible repeat (first | refine Kn ?_ _ | refine Ke ?_ | refine Ka ?_ _)); refine Kf ?_ NB388_395.out _; (with_reducible repeat (first | refine Kn ?_ _ | refine Ke ?_ | refine Ka ?_ _)); exact BK388.out) Try.underlying33 rfl (by kernel_rfl)) rfl ?_
     exact ⟨_, by first | rfl | (simp [*, errW_none, errW_some] <;> rfl), by (with_reducible repeat (first | apply Ra | apply Rn | apply Rd)); exact Kd.R_mono (Kd.R_far (p := ⟨gb388, 1, none⟩) (Kd.R_far (p := ⟨gb388, 0, none⟩) (Kd.R_far (p := ⟨gb395, 1, none⟩) (Kd.R_far (p := ⟨gb395, 0, none⟩) (Kd.R_types (Kd.R_types HO394.out BK395.out (by decide)) BK388.out (by decide)) (fun _ hk => hk.1.2) (.int .i64 t391)) (fun _ hk => hk.1.2) (.slice Ao53 t392.length co53)) (fun _ hk => hk.2) (.int .i64 t391)) (fun _ hk => hk.2) (.slice Ao53 t392.length co53)) (fun _ hk => trivial), by repeat (first | (with_reducible first | exact HB.out | apply Ba | apply Bn | apply Bd | refine Bs ?_ GE386.out | refine Bs ?_ GE387.out | refine Bs ?_ GE388.out | refine Bs ?_ GE395.out) | exact HB.out)⟩
end Go.Proofs.Ytilmcfdhijdhpaa.QFnAttrFor
