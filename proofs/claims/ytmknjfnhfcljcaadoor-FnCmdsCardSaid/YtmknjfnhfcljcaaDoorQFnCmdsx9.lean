-- Written by a program of this session (wip/mk.py) over the kit's print: Lean checks it.
import Derived.Test.YtmknjfnhfcljcaaDoorQFnCmdsx0
import Derived.Test.YtmknjfnhfcljcaaDoorQFnCmdsx2
import Derived.Test.YtmknjfnhfcljcaaDoorQFnCmdsx4
import Derived.Test.YtmknjfnhfcljcaaDoorQFnCmdsx8
namespace Go.Proofs.YtmknjfnhfcljcaaDoor.QFnCmds
set_option maxHeartbeats 8000000
set_option maxRecDepth 100000
open List renaming map_toArray → Lm, map_cons → Lc, map_nil → Ln
open Go.Proofs.YtmknjfnhfcljcaaDoorW.PrintWords renaming keep_drewN → Qn, keep_drew → Qd, keep_alloc → Qa
open Go.Proofs.YtmknjfnhfcljcaaDoorW.PrintWords.KeepBut renaming set_ → Qs
open Go.Proofs.YtmknjfnhfcljcaaDoorW.PrintWords.Kd renaming R_alloc → Ra, R_drewN → Rn, R_drew → Rd
open Go.Proofs.YtmknjfnhfcljcaaDoorW.PrintWords renaming below_alloc → Ba, pw_below_drewN → Bn, below_drew1 → Bd, below_set → Bs, below_size → Bz, below_step → Bt, gate_dst → Gd, gate_callee → Gc, box_event → Be, blk_alloc → Ka, blk_drewN → Kn, blk_drew → Ke, blk_below → Kb, blk_cell → Kc, blk_frozen → Kz
open Go.Proofs.YtmknjfnhfcljcaaDoorW.PrintWords.Aside0 renaming mk → Am
open Go.Proofs.YtmknjfnhfcljcaaDoorW.PrintWords renaming Aside0 → Ad
open Go.RowKit Go.Proofs.YtmknjfnhfcljcaaDoorW.PrintWords Go.Proofs.YtmknjfnhfcljcaaDoorW.PrintLast Go.Proofs.YtmknjfnhfcljcaaDoorW.PrintMore
attribute [local go_sem] max2_int min2_int max_two min_two max_three min_three max_four min_four   -- for this text's walks alone
open Go.Proofs.YtmknjfnhfcljcaaDoorW.PrintWords.Kd renaming R_mono → Rm, R_reads' → Rr
open Go.Proofs.YtmknjfnhfcljcaaDoorW.PrintWords renaming blk_lt → Kl
set_option linter.unusedVariables false
set_option linter.unusedSimpArgs false
def spec_l2Touches.f (k : Nat) (a0_0 : Int) (a0_1 : Int) (a0_2 : Int) (a0_3 : Int) (a0_4 : Int) : Option (List Int) := if a0_0 = 1 then ((spec_l1Put.f k (([a0_2] : List Int)) a0_3).bind fun t347 => (some t347)) else (if a0_0 = 2 then (some (([a0_2] : List Int))) else (some ([] : List Int)))
theorem spec_l2Touches.mono : ∀ a0 a1 a2 a3 a4 k, LeO (spec_l2Touches.f k a0 a1 a2 a3 a4) (spec_l2Touches.f (k + 1) a0 a1 a2 a3 a4) := by
 intro a0 a1 a2 a3 a4 k
 unfold spec_l2Touches.f
 repeat' first
   | (with_reducible exact spec_l1Put.mono _ _ _)
   | (with_reducible exact LeO.refl _)
   | (with_reducible exact LeO.none _)
   | (with_reducible refine LeO.ite ?_ ?_)
   | (with_reducible refine LeO.bind ?_ (fun _ => ?_))
   | exact spec_l1Put.mono _ _ _
   | exact LeO.none _
   | refine LeO.ite ?_ ?_
   | refine LeO.bind ?_ (fun _ => ?_)
theorem spec_l2Touches.calls (k : Nat) (a0_0 : Int) (a0_1 : Int) (a0_2 : Int) (a0_3 : Int) (a0_4 : Int) (r : List Int) (w : World) (h : spec_l2Touches.f k a0_0 a0_1 a0_2 a0_3 a0_4 = some r) :
  Calls Tryd.prog 53 #[.agg #[.int .i64 a0_0, .int .i64 a0_1, .int .i64 a0_2, .int .i64 a0_3, .int .i64 a0_4]] w fun e w' => ∃ v0_ : Value, e = .returned (v0_) ∧ Kd.R (Kd.int .i64) 3 w' w.heap.size (fun _ => True) v0_ r ∧ Below w.heap.size w w' := by
 have hu25 := Tryd.underlying25
 have HB := Am (Below.refl w.heap.size w)
 have H : (if a0_0 = 1 then ((spec_l1Put.f k (([a0_2] : List Int)) a0_3).bind fun t347 => (some t347)) else (if a0_0 = 2 then (some (([a0_2] : List Int))) else (some ([] : List Int)))) = some r := h
 clear h
 by_cases c2 : a0_0 = 1
 ·rw [if_pos c2] at H
  have c2b0 : (a0_0 == 1) = true := beq_iff_eq.mpr c2
  have c2b1 : (a0_0 != 1) = false := bne_eq_false_iff_eq.mpr c2
  clear c2
  obtain ⟨y344, hy344⟩ : ∃ y_ : List Int, y_ = (([a0_2] : List Int)) := ⟨_, rfl⟩
  replace H : ((spec_l1Put.f k y344 a0_3).bind fun t347 => (some t347)) = some r := by first | (rw [hy344]; with_reducible exact H) | (have H2_ := (Option.bind_some _ _).symm.trans H; rw [hy344]; with_reducible exact H2_) | (have H2_ := (Option.bind_some _ _).symm.trans H; with_reducible exact H2_) | with_reducible exact H | (rw [hy344]; exact H) | exact H
  have Ny344 := Am hy344
  clear hy344
  replace H := Option.bind_eq_some_iff.mp H
  obtain ⟨t347, A30, H⟩ := H
  replace H : (some t347) = some r := H
  have A3 := Am A30
  clear A30
  obtain rfl := Option.some.inj H
  go_enter Tryd.func53, Tryd.ntmps53
  go_wp2_with (first | ((refine Gd (N := 1) rfl ?_); refine Be ?hg (N := 1) ?hd (cs := #[.int .i64 a0_0, .int .i64 a0_1, .int .i64 a0_2, .int .i64 a0_3, .int .i64 a0_4]) (t := 25) ?hr ?_; (case hd | hg => rfl); (case hr => go_simp <;> rfl); intro gb343 hg w4 hbox hb; have n0_ := Am (Bt (by repeat (first | exact HB.out | apply Ba | apply Bn | apply Bd)) hb); have n1_ := Am (hbox); have n2_ := Am ((by rw [hg]; exact (Bz (by repeat (first | exact HB.out | apply Ba | apply Bn | apply Bd))) : w.heap.size ≤ gb343)); have n3_ := Am ((by rw [hg]; exact (Bz (by repeat (first | exact HB.out | apply Ba | apply Bn | apply Bd))) : w.heap.size ≤ gb343)); clear HB; have HB := n0_; have BK343 := n1_; have GW343 := n2_; have GE343 := n3_; clear n0_ n1_ n2_ n3_; clear hb hbox hg; have hcz5_0 : w4.cell? ⟨gb343, 0, none⟩ = some (.int .i64 a0_0) := (Kc BK343.out 0).trans rfl; have hcz5_1 : w4.cell? ⟨gb343, 1, none⟩ = some (.int .i64 a0_1) := (Kc BK343.out 1).trans rfl; have hcz5_2 : w4.cell? ⟨gb343, 2, none⟩ = some (.int .i64 a0_2) := (Kc BK343.out 2).trans rfl; have hcz5_3 : w4.cell? ⟨gb343, 3, none⟩ = some (.int .i64 a0_3) := (Kc BK343.out 3).trans rfl; have hcz5_4 : w4.cell? ⟨gb343, 4, none⟩ = some (.int .i64 a0_4) := (Kc BK343.out 4).trans rfl; have hfz5_0 := Kz BK343.out 0; have hfz5_1 := Kz BK343.out 1; have hfz5_2 := Kz BK343.out 2; have hfz5_3 := Kz BK343.out 3; have hfz5_4 := Kz BK343.out 4) | ((refine Gd (N := 9) rfl ?_); refine Kd.R_lit (Kd.int .i64) _ 3 ?hg (N := 9) ?hd (xs := ([a0_2] : List Int)) (inner := [.int .i64 a0_2]) (ok := fun _ => True) (okp := fun _ => True) ?hr ?hp (fun _ hk => hk) trivial (Below.refl _ _) (Nat.le_refl _) (by simp) ?_; (case hd | hg => rfl); (case hr => go_simp <;> rfl); (case hp => exact (Reps.one (show Kd.M (Kd.int .i64) _ _ _ a0_2 [.int .i64 a0_2] from rfl) (Reps.none _ _))); intro v345 w6 ho7 hb hg_ hnew_; clear hg_ hnew_; (first | rw [← Ny344.out] at ho7 | (simp only [Int.reduceToNat] at ho7; rw [← Ny344.out] at ho7)); have n0_ := Am (Kd.R_lower ho7 (Bz (by repeat (first | (with_reducible first | exact HB.out | apply Ba | apply Bn | apply Bd | refine Bs ?_ GE343.out) | exact HB.out)))); have n1_ := Am (Kb (g := gb343) (o := .cells #[.int .i64 a0_0, .int .i64 a0_1, .int .i64 a0_2, .int .i64 a0_3, .int .i64 a0_4] 25 (0, 0)) (by (with_reducible repeat (first | refine Kn ?_ _ | refine Ke ?_ | refine Ka ?_ _)); exact BK343.out) hb); have n2_ := Am (Bt (by repeat (first | (with_reducible first | exact HB.out | apply Ba | apply Bn | apply Bd | refine Bs ?_ GE343.out) | exact HB.out)) hb); clear BK343; clear HB; have HO346 := n0_; have BK343 := n1_; have HB := n2_; clear n0_ n1_ n2_; clear hb ho7; have hcz8_0 : w6.cell? ⟨gb343, 0, none⟩ = some (.int .i64 a0_0) := (Kc BK343.out 0).trans rfl; have hcz8_1 : w6.cell? ⟨gb343, 1, none⟩ = some (.int .i64 a0_1) := (Kc BK343.out 1).trans rfl; have hcz8_2 : w6.cell? ⟨gb343, 2, none⟩ = some (.int .i64 a0_2) := (Kc BK343.out 2).trans rfl; have hcz8_3 : w6.cell? ⟨gb343, 3, none⟩ = some (.int .i64 a0_3) := (Kc BK343.out 3).trans rfl; have hcz8_4 : w6.cell? ⟨gb343, 4, none⟩ = some (.int .i64 a0_4) := (Kc BK343.out 4).trans rfl; have hfz8_0 := Kz BK343.out 0; have hfz8_1 := Kz BK343.out 1; have hfz8_2 := Kz BK343.out 2; have hfz8_3 := Kz BK343.out 3; have hfz8_4 := Kz BK343.out 4; obtain ⟨Ao9, co9, eo9⟩ := Kd.R_slice HO346.out; subst eo9) | ((refine Gc (f := 77) rfl ?_); refine goesL_ (some 12) rfl rfl Tryd.func77 (by kernel_rfl) rfl #[.slice Ao9 y344.length co9, .int .i64 a0_3] rfl (by first | rfl | simp only [Lm, Lc, Ln] <;> rfl) ?_; (with_reducible refine (spec_l1Put.calls k (fun k_ => some k_ = (.slice Ao9 y344.length co9 : Value).ownBlock) (.slice Ao9 y344.length co9) y344 a0_3 t347 w _ ?side1 ?side2 A3.out).mono ?_); (case side1 => repeat (first | (with_reducible first | exact HB.out | apply Ba | apply Bn | apply Bd | refine Bs ?_ GE343.out) | exact HB.out)); (case side2 => exact Kd.R_tight rfl HO346.out); rintro e w10 ⟨v348, rfl, ho0, hb, hkp⟩; refine ⟨_, rfl, ?_⟩; have n0_ := Am (blk_kept (by (with_reducible repeat (first | refine Kn ?_ _ | refine Ke ?_ | refine Ka ?_ _)); exact BK343.out) hkp (fun hs_ => (fun e_ => (Kd.R_ne HO346.out BK343.out (by decide)) e_) hs_)); have n1_ := Am (Rm (ok' := fun k_ => True) ho0 (fun k_ hk_ => trivial)); have n2_ := Am (hb); clear BK343; clear HB; clear HO346; have BK343 := n0_; have HO349 := n1_; have HB := n2_; clear n0_ n1_ n2_; (try clear hb); (try clear hkp); (try clear ho0)))
  go_ret
  exact ⟨_, by first | rfl | (simp [*, errW_none, errW_some] <;> rfl), by (with_reducible repeat (first | apply Ra | apply Rn | apply Rd)); exact HO349.out, by repeat (first | (with_reducible first | exact HB.out | apply Ba | apply Bn | apply Bd | refine Bs ?_ GE343.out) | exact HB.out)⟩
 ·rw [if_neg c2] at H
  have c2b0 : (a0_0 == 1) = false := beq_eq_false_iff_ne.mpr c2
  have c2b1 : (a0_0 != 1) = true := bne_iff_ne.mpr c2
  by_cases c11 : a0_0 = 2
  ·rw [if_pos c11] at H
   have c11b0 : (a0_0 == 2) = true := beq_iff_eq.mpr c11
   have c11b1 : (a0_0 != 2) = false := bne_eq_false_iff_eq.mpr c11
   clear c11
   obtain ⟨y350, hy350⟩ : ∃ y_ : List Int, y_ = (([a0_2] : List Int)) := ⟨_, rfl⟩
   replace H : (some y350) = some r := by first | (rw [hy350]; with_reducible exact H) | (have H2_ := (Option.bind_some _ _).symm.trans H; rw [hy350]; with_reducible exact H2_) | (have H2_ := (Option.bind_some _ _).symm.trans H; with_reducible exact H2_) | with_reducible exact H | (rw [hy350]; exact H) | exact H
   have Ny350 := Am hy350
   clear hy350
   obtain rfl := Option.some.inj H
   go_enter Tryd.func53, Tryd.ntmps53
   go_wp2_with (first | ((refine Gd (N := 1) rfl ?_); refine Be ?hg (N := 1) ?hd (cs := #[.int .i64 a0_0, .int .i64 a0_1, .int .i64 a0_2, .int .i64 a0_3, .int .i64 a0_4]) (t := 25) ?hr ?_; (case hd | hg => rfl); (case hr => go_simp <;> rfl); intro gb343 hg w12 hbox hb; have n0_ := Am (Bt (by repeat (first | exact HB.out | apply Ba | apply Bn | apply Bd)) hb); have n1_ := Am (hbox); have n2_ := Am ((by rw [hg]; exact (Bz (by repeat (first | exact HB.out | apply Ba | apply Bn | apply Bd))) : w.heap.size ≤ gb343)); have n3_ := Am ((by rw [hg]; exact (Bz (by repeat (first | exact HB.out | apply Ba | apply Bn | apply Bd))) : w.heap.size ≤ gb343)); clear HB; have HB := n0_; have BK343 := n1_; have GW343 := n2_; have GE343 := n3_; clear n0_ n1_ n2_ n3_; clear hb hbox hg; have hcz13_0 : w12.cell? ⟨gb343, 0, none⟩ = some (.int .i64 a0_0) := (Kc BK343.out 0).trans rfl; have hcz13_1 : w12.cell? ⟨gb343, 1, none⟩ = some (.int .i64 a0_1) := (Kc BK343.out 1).trans rfl; have hcz13_2 : w12.cell? ⟨gb343, 2, none⟩ = some (.int .i64 a0_2) := (Kc BK343.out 2).trans rfl; have hcz13_3 : w12.cell? ⟨gb343, 3, none⟩ = some (.int .i64 a0_3) := (Kc BK343.out 3).trans rfl; have hcz13_4 : w12.cell? ⟨gb343, 4, none⟩ = some (.int .i64 a0_4) := (Kc BK343.out 4).trans rfl; have hfz13_0 := Kz BK343.out 0; have hfz13_1 := Kz BK343.out 1; have hfz13_2 := Kz BK343.out 2; have hfz13_3 := Kz BK343.out 3; have hfz13_4 := Kz BK343.out 4) | ((refine Gd (N := 17) rfl ?_); refine Kd.R_lit (Kd.int .i64) _ 3 ?hg (N := 17) ?hd (xs := ([a0_2] : List Int)) (inner := [.int .i64 a0_2]) (ok := fun _ => True) (okp := fun _ => True) ?hr ?hp (fun _ hk => hk) trivial (Below.refl _ _) (Nat.le_refl _) (by simp) ?_; (case hd | hg => rfl); (case hr => go_simp <;> rfl); (case hp => exact (Reps.one (show Kd.M (Kd.int .i64) _ _ _ a0_2 [.int .i64 a0_2] from rfl) (Reps.none _ _))); intro v351 w14 ho15 hb hg_ hnew_; clear hg_ hnew_; (first | rw [← Ny350.out] at ho15 | (simp only [Int.reduceToNat] at ho15; rw [← Ny350.out] at ho15)); have n0_ := Am (Kd.R_lower ho15 (Bz (by repeat (first | (with_reducible first | exact HB.out | apply Ba | apply Bn | apply Bd | refine Bs ?_ GE343.out) | exact HB.out)))); have n1_ := Am (Kb (g := gb343) (o := .cells #[.int .i64 a0_0, .int .i64 a0_1, .int .i64 a0_2, .int .i64 a0_3, .int .i64 a0_4] 25 (0, 0)) (by (with_reducible repeat (first | refine Kn ?_ _ | refine Ke ?_ | refine Ka ?_ _)); exact BK343.out) hb); have n2_ := Am (Bt (by repeat (first | (with_reducible first | exact HB.out | apply Ba | apply Bn | apply Bd | refine Bs ?_ GE343.out) | exact HB.out)) hb); clear BK343; clear HB; have HO352 := n0_; have BK343 := n1_; have HB := n2_; clear n0_ n1_ n2_; clear hb ho15))
   go_ret
   exact ⟨_, by first | rfl | (simp [*, errW_none, errW_some] <;> rfl), by (with_reducible repeat (first | apply Ra | apply Rn | apply Rd)); exact HO352.out, by repeat (first | (with_reducible first | exact HB.out | apply Ba | apply Bn | apply Bd | refine Bs ?_ GE343.out) | exact HB.out)⟩
  ·rw [if_neg c11] at H
   have c11b0 : (a0_0 == 2) = false := beq_eq_false_iff_ne.mpr c11
   have c11b1 : (a0_0 != 2) = true := bne_iff_ne.mpr c11
   obtain rfl := Option.some.inj H
   go_enter Tryd.func53, Tryd.ntmps53
   go_wp2_with (first | ((refine Gd (N := 1) rfl ?_); refine Be ?hg (N := 1) ?hd (cs := #[.int .i64 a0_0, .int .i64 a0_1, .int .i64 a0_2, .int .i64 a0_3, .int .i64 a0_4]) (t := 25) ?hr ?_; (case hd | hg => rfl); (case hr => go_simp <;> rfl); intro gb343 hg w16 hbox hb; have n0_ := Am (Bt (by repeat (first | exact HB.out | apply Ba | apply Bn | apply Bd)) hb); have n1_ := Am (hbox); have n2_ := Am ((by rw [hg]; exact (Bz (by repeat (first | exact HB.out | apply Ba | apply Bn | apply Bd))) : w.heap.size ≤ gb343)); have n3_ := Am ((by rw [hg]; exact (Bz (by repeat (first | exact HB.out | apply Ba | apply Bn | apply Bd))) : w.heap.size ≤ gb343)); clear HB; have HB := n0_; have BK343 := n1_; have GW343 := n2_; have GE343 := n3_; clear n0_ n1_ n2_ n3_; clear hb hbox hg; have hcz17_0 : w16.cell? ⟨gb343, 0, none⟩ = some (.int .i64 a0_0) := (Kc BK343.out 0).trans rfl; have hcz17_1 : w16.cell? ⟨gb343, 1, none⟩ = some (.int .i64 a0_1) := (Kc BK343.out 1).trans rfl; have hcz17_2 : w16.cell? ⟨gb343, 2, none⟩ = some (.int .i64 a0_2) := (Kc BK343.out 2).trans rfl; have hcz17_3 : w16.cell? ⟨gb343, 3, none⟩ = some (.int .i64 a0_3) := (Kc BK343.out 3).trans rfl; have hcz17_4 : w16.cell? ⟨gb343, 4, none⟩ = some (.int .i64 a0_4) := (Kc BK343.out 4).trans rfl; have hfz17_0 := Kz BK343.out 0; have hfz17_1 := Kz BK343.out 1; have hfz17_2 := Kz BK343.out 2; have hfz17_3 := Kz BK343.out 3; have hfz17_4 := Kz BK343.out 4))
   go_ret
   exact ⟨_, by first | rfl | (simp [*, errW_none, errW_some] <;> rfl), by first | exact Kd.R_nil _ _ _ _ _ | exact Kd.N_nil _ _ _ _ _ | exact Kd.V_nil _ _ _ _ _ | exact Kd.Q_nil _ _ _ _ _ | exact Kd.S_nil _ _ _ _ _, by repeat (first | (with_reducible first | exact HB.out | apply Ba | apply Bn | apply Bd | refine Bs ?_ GE343.out) | exact HB.out)⟩
def spec_l1Has.l0 : Nat → Int → List Int → Int → Int → Option (Bool)
 | 0, _, _, _, _ => none
 | k + 1, x1, x7, x8, x9 => if x9 < x8 then (if 0 ≤ x9 then (if x9 < (x7.length : Int) then (if (rd x7 x9) = x1 then (some true) else (spec_l1Has.l0 k x1 x7 x8 (wrap64 (x9 + 1)))) else (none)) else (none)) else (some false)
def spec_l1Has.f (k : Nat) (l0 : List Int) (a1 : Int) : Option (Bool) := spec_l1Has.l0 k a1 l0 (l0.length : Int) 0
theorem spec_l1Has.mono_l : ∀ k, (∀ y0 y1 y2 y3, LeO (spec_l1Has.l0 k y0 y1 y2 y3) (spec_l1Has.l0 (k + 1) y0 y1 y2 y3))
 | 0 => fun _ _ _ _ r h => by simp [spec_l1Has.l0] at h
 | k + 1 => by
  have ih0 := spec_l1Has.mono_l k
  ·intro y0 y1 y2 y3
   unfold spec_l1Has.l0
   repeat' first
   | (with_reducible exact ih0 _ _ _ _)
   | (with_reducible exact LeO.refl _)
   | (with_reducible exact LeO.none _)
   | (with_reducible refine LeO.ite ?_ ?_)
   | (with_reducible refine LeO.bind ?_ (fun _ => ?_))
   | exact ih0 _ _ _ _
   | exact LeO.none _
   | refine LeO.ite ?_ ?_
   | refine LeO.bind ?_ (fun _ => ?_)
theorem spec_l1Has.mono : ∀ a0 a1 k, LeO (spec_l1Has.f k a0 a1) (spec_l1Has.f (k + 1) a0 a1) := by
 intro a0 a1 k
 have ih0 := spec_l1Has.mono_l k
 unfold spec_l1Has.f
 repeat' first
   | (with_reducible exact ih0 _ _ _ _)
   | (with_reducible exact LeO.refl _)
   | (with_reducible exact LeO.none _)
   | (with_reducible refine LeO.ite ?_ ?_)
   | (with_reducible refine LeO.bind ?_ (fun _ => ?_))
   | exact ih0 _ _ _ _
   | exact LeO.none _
   | refine LeO.ite ?_ ?_
   | refine LeO.bind ?_ (fun _ => ?_)
theorem spec_l1Has.calls (k : Nat) (A0 : Option Addr) (c0 : Nat) (l0 : List Int) (a1 : Int) (r : Bool) (w : World) (hr0 : Kd.C (Kd.int .i64) w A0 l0.length l0) (hc0 : l0.length ≤ c0) (h : spec_l1Has.f k l0 a1 = some r) :
  Calls Tryd.prog 75 #[.slice A0 l0.length c0, .int .i64 a1] w fun e w' => e = .returned (.bool r) ∧ Drawn0 w w' := by
 have HR0 := Am hr0
 have HC0 := Am hc0
 clear hr0 hc0
 have H : (spec_l1Has.l0 k a1 l0 (l0.length : Int) 0) = some r := h
 clear h
 have H' := Am H
 clear H
 go_enter Tryd.func75, Tryd.ntmps75
 go_wp2
 go_loopg [9] k (fun kq v9 w' => ∃ (x9_1 : Int), v9 = .int .i64 x9_1 ∧ Ad (spec_l1Has.l0 kq a1 l0 (l0.length : Int) x9_1 = some r) ∧ Ad (kq ≤ k) ∧ Drawn0 w w')
 case atStart => exact ⟨(0), (by first | rfl | (simp; done) | (simp [*]; done)), H', ⟨Nat.le_refl _⟩, by repeat (first | exact Drawn0.refl _ | apply Drawn0.step)⟩
 case round =>
  clear H'
  try clear p2
  obtain ⟨x9_1, rfl, HA, HK1, ⟨m1, rfl⟩⟩ := hrel
  cases gk with
  | zero => exact absurd HA.out (by simp [spec_l1Has.l0])
  | succ k1 =>
   have H := HA.out
   clear HA
   simp only [spec_l1Has.l0] at H
   by_cases c3 : x9_1 < (l0.length : Int)
   ·rw [if_pos c3] at H
    have c3b0 : decide (x9_1 < (l0.length : Int)) = true := Od c3
    clear c3
    by_cases c4 : 0 ≤ x9_1
    ·rw [if_pos c4] at H
     have c4b0 : decide (0 ≤ x9_1) = true := Od c4
     clear c4
     by_cases c5 : x9_1 < (l0.length : Int)
     ·rw [if_pos c5] at H
      have c5b0 : decide (x9_1 < (l0.length : Int)) = true := Od c5
      clear c5
      by_cases c6 : (rd l0 x9_1) = a1
      ·rw [if_pos c6] at H
       have c6b0 : ((rd l0 x9_1) == a1) = true := beq_iff_eq.mpr c6
       have c6b1 : ((rd l0 x9_1) != a1) = false := bne_eq_false_iff_eq.mpr c6
       clear c6
       obtain rfl := Option.some.inj H
       have p353 : 0 ≤ (x9_1 : Int) := Oq (by assumption)
       have q353 : x9_1 < (l0.length : Int) := Oq (by assumption)
       obtain ⟨ad353, e353, hx353_0⟩ := Kd.at_int HR0.out x9_1 p353 q353
       cases e353
       replace p353 := eq_true p353
       replace q353 := eq_true q353
       go_wp2
       go_ret
       exact ⟨by first | rfl | (simp; done) | (simp [*]; done), by repeat (first | exact Drawn0.refl _ | apply Drawn0.step)⟩
      ·rw [if_neg c6] at H
       have c6b0 : ((rd l0 x9_1) == a1) = false := beq_eq_false_iff_ne.mpr c6
       have c6b1 : ((rd l0 x9_1) != a1) = true := bne_iff_ne.mpr c6
       have H' := Am H
       clear H
       have p353 : 0 ≤ (x9_1 : Int) := Oq (by assumption)
       have q353 : x9_1 < (l0.length : Int) := Oq (by assumption)
       obtain ⟨ad353, e353, hx353_0⟩ := Kd.at_int HR0.out x9_1 p353 q353
       cases e353
       replace p353 := eq_true p353
       replace q353 := eq_true q353
       go_wp2
       go_roundg k1
       case measure => have := HK1.out; omega
       case rel => exact ⟨(wrap64 (x9_1 + 1)), (by first | rfl | (simp; done) | (simp [*]; done)), H', ⟨by have := HK1.out; omega⟩, by repeat (first | exact Drawn0.refl _ | apply Drawn0.step)⟩
     ·rw [if_neg c5] at H
      exact absurd H (by simp)
    ·rw [if_neg c4] at H
     exact absurd H (by simp)
   ·rw [if_neg c3] at H
    have c3b0 : decide (x9_1 < (l0.length : Int)) = false := decide_eq_false c3
    clear c3
    obtain rfl := Option.some.inj H
    go_wp2
    go_ret
    exact ⟨by first | rfl | (simp; done) | (simp [*]; done), by repeat (first | exact Drawn0.refl _ | apply Drawn0.step)⟩
def spec_l2Interfere.l0 : Nat → List Int → Int → Int → Int → Int → Int → Int → Int → Option (Bool)
 | 0, _, _, _, _, _, _, _, _ => none
 | k + 1, x8, x9, x10, x356000, x356001, x356002, x356003, x356004 => if x10 < x9 then (if 0 ≤ x10 then (if x10 < (x8.length : Int) then ((spec_l2Touches.f k x356000 x356001 x356002 x356003 x356004).bind fun t360 => ((spec_l1Has.f k t360 (rd x8 x10)).bind fun t363 => (if t363 = true then (some true) else (spec_l2Interfere.l0 k x8 x9 (wrap64 (x10 + 1)) x356000 x356001 x356002 x356003 x356004)))) else (none)) else (none)) else (some false)
def spec_l2Interfere.f (k : Nat) (a0_0 : Int) (a0_1 : Int) (a0_2 : Int) (a0_3 : Int) (a0_4 : Int) (a1_0 : Int) (a1_1 : Int) (a1_2 : Int) (a1_3 : Int) (a1_4 : Int) : Option (Bool) := (spec_l2Touches.f k a0_0 a0_1 a0_2 a0_3 a0_4).bind fun t356 => (spec_l2Interfere.l0 k t356 (t356.length : Int) 0 a1_0 a1_1 a1_2 a1_3 a1_4)
theorem spec_l2Interfere.mono_l : ∀ k, (∀ y0 y1 y2 y3 y4 y5 y6 y7, LeO (spec_l2Interfere.l0 k y0 y1 y2 y3 y4 y5 y6 y7) (spec_l2Interfere.l0 (k + 1) y0 y1 y2 y3 y4 y5 y6 y7))
 | 0 => fun _ _ _ _ _ _ _ _ r h => by simp [spec_l2Interfere.l0] at h
 | k + 1 => by
  have ih0 := spec_l2Interfere.mono_l k
  ·intro y0 y1 y2 y3 y4 y5 y6 y7
   unfold spec_l2Interfere.l0
   repeat' first
   | (with_reducible exact ih0 _ _ _ _ _ _ _ _)
   | (with_reducible exact spec_l1Has.mono _ _ _)
   | (with_reducible exact spec_l2Touches.mono _ _ _ _ _ _)
   | (with_reducible exact LeO.refl _)
   | (with_reducible exact LeO.none _)
   | (with_reducible refine LeO.ite ?_ ?_)
   | (with_reducible refine LeO.bind ?_ (fun _ => ?_))
   | exact ih0 _ _ _ _ _ _ _ _
   | exact spec_l1Has.mono _ _ _
   | exact spec_l2Touches.mono _ _ _ _ _ _
   | exact LeO.none _
   | refine LeO.ite ?_ ?_
   | refine LeO.bind ?_ (fun _ => ?_)
theorem spec_l2Interfere.mono : ∀ a0 a1 a2 a3 a4 a5 a6 a7 a8 a9 k, LeO (spec_l2Interfere.f k a0 a1 a2 a3 a4 a5 a6 a7 a8 a9) (spec_l2Interfere.f (k + 1) a0 a1 a2 a3 a4 a5 a6 a7 a8 a9) := by
 intro a0 a1 a2 a3 a4 a5 a6 a7 a8 a9 k
 have ih0 := spec_l2Interfere.mono_l k
 unfold spec_l2Interfere.f
 repeat' first
   | (with_reducible exact ih0 _ _ _ _ _ _ _ _)
   | (with_reducible exact spec_l1Has.mono _ _ _)
   | (with_reducible exact spec_l2Touches.mono _ _ _ _ _ _)
   | (with_reducible exact LeO.refl _)
   | (with_reducible exact LeO.none _)
   | (with_reducible refine LeO.ite ?_ ?_)
   | (with_reducible refine LeO.bind ?_ (fun _ => ?_))
   | exact ih0 _ _ _ _ _ _ _ _
   | exact spec_l1Has.mono _ _ _
   | exact spec_l2Touches.mono _ _ _ _ _ _
   | exact LeO.none _
   | refine LeO.ite ?_ ?_
   | refine LeO.bind ?_ (fun _ => ?_)
theorem spec_l2Interfere.calls (k : Nat) (a0_0 : Int) (a0_1 : Int) (a0_2 : Int) (a0_3 : Int) (a0_4 : Int) (a1_0 : Int) (a1_1 : Int) (a1_2 : Int) (a1_3 : Int) (a1_4 : Int) (r : Bool) (w : World) (h : spec_l2Interfere.f k a0_0 a0_1 a0_2 a0_3 a0_4 a1_0 a1_1 a1_2 a1_3 a1_4 = some r) :
  Calls Tryd.prog 47 #[.agg #[.int .i64 a0_0, .int .i64 a0_1, .int .i64 a0_2, .int .i64 a0_3, .int .i64 a0_4], .agg #[.int .i64 a1_0, .int .i64 a1_1, .int .i64 a1_2, .int .i64 a1_3, .int .i64 a1_4]] w fun e w' => e = .returned (.bool r) ∧ Below w.heap.size w w' := by
 have hu25 := Tryd.underlying25
 have HB := Am (Below.refl w.heap.size w)
 have H : ((spec_l2Touches.f k a0_0 a0_1 a0_2 a0_3 a0_4).bind fun t356 => (spec_l2Interfere.l0 k t356 (t356.length : Int) 0 a1_0 a1_1 a1_2 a1_3 a1_4)) = some r := h
 clear h
 replace H := Option.bind_eq_some_iff.mp H
 obtain ⟨t356, A30, H⟩ := H
 replace H : (spec_l2Interfere.l0 k t356 (t356.length : Int) 0 a1_0 a1_1 a1_2 a1_3 a1_4) = some r := H
 have A3 := Am A30
 clear A30
 have H' := Am H
 clear H
 go_enter Tryd.func47, Tryd.ntmps47
 go_wp2_with (first | ((refine Gd (N := 2) rfl ?_); refine Be ?hg (N := 2) ?hd (cs := #[.int .i64 a0_0, .int .i64 a0_1, .int .i64 a0_2, .int .i64 a0_3, .int .i64 a0_4]) (t := 25) ?hr ?_; (case hd | hg => rfl); (case hr => go_simp <;> rfl); intro gb354 hg w4 hbox hb; have n0_ := Am (Bt (by repeat (first | exact HB.out | apply Ba | apply Bn | apply Bd)) hb); have n1_ := Am (hbox); have n2_ := Am ((by rw [hg]; exact (Bz (by repeat (first | exact HB.out | apply Ba | apply Bn | apply Bd))) : w.heap.size ≤ gb354)); have n3_ := Am ((by rw [hg]; exact (Bz (by repeat (first | exact HB.out | apply Ba | apply Bn | apply Bd))) : w.heap.size ≤ gb354)); clear HB; have HB := n0_; have BK354 := n1_; have GW354 := n2_; have GE354 := n3_; clear n0_ n1_ n2_ n3_; clear hb hbox hg) | ((refine Gd (N := 3) rfl ?_); refine Be ?hg (N := 3) ?hd (cs := #[.int .i64 a1_0, .int .i64 a1_1, .int .i64 a1_2, .int .i64 a1_3, .int .i64 a1_4]) (t := 25) ?hr ?_; (case hd | hg => rfl); (case hr => go_simp <;> rfl); intro gb355 hg w5 hbox hb; have n0_ := Am (Kb (g := gb354) (o := .cells #[.int .i64 a0_0, .int .i64 a0_1, .int .i64 a0_2, .int .i64 a0_3, .int .i64 a0_4] 25 (0, 0)) (by (with_reducible repeat (first | refine Kn ?_ _ | refine Ke ?_ | refine Ka ?_ _)); exact BK354.out) hb); have n1_ := Am (Bt (by repeat (first | (with_reducible first | exact HB.out | apply Ba | apply Bn | apply Bd | refine Bs ?_ GE354.out) | exact HB.out)) hb); have n2_ := Am (hbox); have n3_ := Am ((by rw [hg]; exact (Bz (by repeat (first | (with_reducible first | exact HB.out | apply Ba | apply Bn | apply Bd | refine Bs ?_ GE354.out) | exact HB.out))) : w.heap.size ≤ gb355)); have n4_ := Am ((by rw [hg]; exact (Bz (by repeat (first | (with_reducible first | exact HB.out | apply Ba | apply Bn | apply Bd | refine Bs ?_ GE354.out) | exact HB.out))) : w.heap.size ≤ gb355)); have n5_ := Am ((by rw [hg]; exact Nat.ne_of_lt (Kl (g := gb354) (o := .cells #[.int .i64 a0_0, .int .i64 a0_1, .int .i64 a0_2, .int .i64 a0_3, .int .i64 a0_4] 25 (0, 0)) (by (with_reducible repeat (first | refine Kn ?_ _ | refine Ke ?_ | refine Ka ?_ _)); exact BK354.out)) : gb354 ≠ gb355)); have n6_ := Am ((by rw [hg]; exact Nat.ne_of_gt (Kl (g := gb354) (o := .cells #[.int .i64 a0_0, .int .i64 a0_1, .int .i64 a0_2, .int .i64 a0_3, .int .i64 a0_4] 25 (0, 0)) (by (with_reducible repeat (first | refine Kn ?_ _ | refine Ke ?_ | refine Ka ?_ _)); exact BK354.out)) : gb355 ≠ gb354)); clear BK354; clear HB; have BK354 := n0_; have HB := n1_; have BK355 := n2_; have GW355 := n3_; have GE355 := n4_; have NB354_355 := n5_; have NB355_354 := n6_; clear n0_ n1_ n2_ n3_ n4_ n5_ n6_; clear hb hbox hg; have hnb6 := NB354_355.out; have hnc6 := NB355_354.out; have hcz7_0 : w5.cell? ⟨gb354, 0, none⟩ = some (.int .i64 a0_0) := (Kc BK354.out 0).trans rfl; have hcz7_1 : w5.cell? ⟨gb354, 1, none⟩ = some (.int .i64 a0_1) := (Kc BK354.out 1).trans rfl; have hcz7_2 : w5.cell? ⟨gb354, 2, none⟩ = some (.int .i64 a0_2) := (Kc BK354.out 2).trans rfl; have hcz7_3 : w5.cell? ⟨gb354, 3, none⟩ = some (.int .i64 a0_3) := (Kc BK354.out 3).trans rfl; have hcz7_4 : w5.cell? ⟨gb354, 4, none⟩ = some (.int .i64 a0_4) := (Kc BK354.out 4).trans rfl; have hfz7_0 := Kz BK354.out 0; have hfz7_1 := Kz BK354.out 1; have hfz7_2 := Kz BK354.out 2; have hfz7_3 := Kz BK354.out 3; have hfz7_4 := Kz BK354.out 4) | ((refine Gc (f := 53) rfl ?_); refine goesL_ (some 8) rfl rfl Tryd.func53 (by kernel_rfl) rfl #[.agg #[.int .i64 a0_0, .int .i64 a0_1, .int .i64 a0_2, .int .i64 a0_3, .int .i64 a0_4]] rfl (by first | rfl | simp only [Lm, Lc, Ln] <;> rfl) ?_; (with_reducible refine (spec_l2Touches.calls k a0_0 a0_1 a0_2 a0_3 a0_4 t356 _ A3.out).mono ?_); rintro e w8 ⟨v357, rfl, ho0, hb⟩; refine ⟨_, rfl, ?_⟩; have n0_ := Am (Kd.R_lower ho0 (Bz (by repeat (first | (with_reducible first | exact HB.out | apply Ba | apply Bn | apply Bd | refine Bs ?_ GE354.out | refine Bs ?_ GE355.out) | exact HB.out)))); have n1_ := Am (Kb (g := gb354) (o := .cells #[.int .i64 a0_0, .int .i64 a0_1, .int .i64 a0_2, .int .i64 a0_3, .int .i64 a0_4] 25 (0, 0)) (by (with_reducible repeat (first | refine Kn ?_ _ | refine Ke ?_ | refine Ka ?_ _)); exact BK354.out) hb); have n2_ := Am (Kb (g := gb355) (o := .cells #[.int .i64 a1_0, .int .i64 a1_1, .int .i64 a1_2, .int .i64 a1_3, .int .i64 a1_4] 25 (0, 0)) (by (with_reducible repeat (first | refine Kn ?_ _ | refine Ke ?_ | refine Ka ?_ _)); exact BK355.out) hb); have n3_ := Am (Bt (by repeat (first | (with_reducible first | exact HB.out | apply Ba | apply Bn | apply Bd | refine Bs ?_ GE354.out | refine Bs ?_ GE355.out) | exact HB.out)) hb); clear BK354; clear BK355; clear HB; have HO358 := n0_; have BK354 := n1_; have BK355 := n2_; have HB := n3_; clear n0_ n1_ n2_ n3_; (try clear hb); (try clear hb2); (try clear hk); (try clear hi); (try clear ho0); obtain ⟨Ao9, co9, eo9⟩ := Kd.R_slice HO358.out; subst eo9))
 go_loopg [10] k (fun kq v10 w' => ∃ (x10_1 : Int), v10 = .int .i64 x10_1 ∧ Ad (spec_l2Interfere.l0 kq t356 (t356.length : Int) x10_1 a1_0 a1_1 a1_2 a1_3 a1_4 = some r) ∧ Ad (kq ≤ k) ∧ Ad (Kd.R (Kd.int .i64) 3 w' w.heap.size (fun _ => True) (.slice Ao9 t356.length co9) t356) ∧ Ad (w'.heap[gb354]? = some (.cells #[.int .i64 a0_0, .int .i64 a0_1, .int .i64 a0_2, .int .i64 a0_3, .int .i64 a0_4] 25 (0, 0))) ∧ Ad (w'.heap[gb355]? = some (.cells #[.int .i64 a1_0, .int .i64 a1_1, .int .i64 a1_2, .int .i64 a1_3, .int .i64 a1_4] 25 (0, 0))) ∧ Ad (Below w.heap.size w w'))
 case atStart => exact ⟨(0), (by first | rfl | (simp; done) | (simp [*]; done)), H', ⟨Nat.le_refl _⟩, ⟨by (with_reducible repeat (first | apply Ra | apply Rn | apply Rd)); exact HO358.out⟩, ⟨by (with_reducible repeat (first | refine Kn ?_ _ | refine Ke ?_ | refine Ka ?_ _)); exact BK354.out⟩, ⟨by (with_reducible repeat (first | refine Kn ?_ _ | refine Ke ?_ | refine Ka ?_ _)); exact BK355.out⟩, ⟨by repeat (first | (with_reducible first | exact HB.out | apply Ba | apply Bn | apply Bd | refine Bs ?_ GE354.out | refine Bs ?_ GE355.out) | exact HB.out)⟩⟩
 case round =>
  clear H'
  try clear p2
  try clear c4
  try clear c5
  try clear c6
  try clear hcz7_0
  try clear hcz7_1
  try clear hcz7_2
  try clear hcz7_3
  try clear hcz7_4
  try clear hfz7_0
  try clear hfz7_1
  try clear hfz7_2
  try clear hfz7_3
  try clear hfz7_4
  obtain ⟨x10_1, rfl, HA, HK1, HO_8, BK354, BK355, HB⟩ := hrel
  cases gk with
  | zero => exact absurd HA.out (by simp [spec_l2Interfere.l0])
  | succ k1 =>
   have H := HA.out
   clear HA
   simp only [spec_l2Interfere.l0] at H
   by_cases c10 : x10_1 < (t356.length : Int)
   ·rw [if_pos c10] at H
    have c10b0 : decide (x10_1 < (t356.length : Int)) = true := Od c10
    clear c10
    by_cases c11 : 0 ≤ x10_1
    ·rw [if_pos c11] at H
     have c11b0 : decide (0 ≤ x10_1) = true := Od c11
     clear c11
     by_cases c12 : x10_1 < (t356.length : Int)
     ·rw [if_pos c12] at H
      have c12b0 : decide (x10_1 < (t356.length : Int)) = true := Od c12
      clear c12
      replace H := Option.bind_eq_some_iff.mp H
      obtain ⟨t360, A130, H⟩ := H
      replace H : ((spec_l1Has.f k1 t360 (rd t356 x10_1)).bind fun t363 => (if t363 = true then (some true) else (spec_l2Interfere.l0 k1 t356 (t356.length : Int) (wrap64 (x10_1 + 1)) a1_0 a1_1 a1_2 a1_3 a1_4))) = some r := H
      have A13 := Am A130
      clear A130
      replace H := Option.bind_eq_some_iff.mp H
      obtain ⟨t363, A140, H⟩ := H
      replace H : (if t363 = true then (some true) else (spec_l2Interfere.l0 k1 t356 (t356.length : Int) (wrap64 (x10_1 + 1)) a1_0 a1_1 a1_2 a1_3 a1_4)) = some r := H
      have A14 := Am A140
      clear A140
      by_cases c15 : t363 = true
      ·subst c15
       have H1 : (some true) = some r := by rw [if_pos rfl] at H; exact H
       clear H
       have H := H1
       clear H1
       obtain rfl := Option.some.inj H
       have p359 : 0 ≤ (x10_1 : Int) := Oq (by assumption)
       have q359 : x10_1 < (t356.length : Int) := Oq (by assumption)
       obtain ⟨ad359, e359, hx359_0⟩ := Kd.at_int (Rr HO_8.out).2.2 x10_1 p359 q359
       cases e359
       replace p359 := eq_true p359
       replace q359 := eq_true q359
       have hnb16 := NB355_354.out
       have hnc16 := NB354_355.out
       have hcz17_0 : wr.cell? ⟨gb355, 0, none⟩ = some (.int .i64 a1_0) := (Kc BK355.out 0).trans rfl
       have hcz17_1 : wr.cell? ⟨gb355, 1, none⟩ = some (.int .i64 a1_1) := (Kc BK355.out 1).trans rfl
       have hcz17_2 : wr.cell? ⟨gb355, 2, none⟩ = some (.int .i64 a1_2) := (Kc BK355.out 2).trans rfl
       have hcz17_3 : wr.cell? ⟨gb355, 3, none⟩ = some (.int .i64 a1_3) := (Kc BK355.out 3).trans rfl
       have hcz17_4 : wr.cell? ⟨gb355, 4, none⟩ = some (.int .i64 a1_4) := (Kc BK355.out 4).trans rfl
       have hfz17_0 := Kz BK355.out 0
       have hfz17_1 := Kz BK355.out 1
       have hfz17_2 := Kz BK355.out 2
       have hfz17_3 := Kz BK355.out 3
       have hfz17_4 := Kz BK355.out 4
       go_wp2_with (first | ((refine Gc (f := 53) rfl ?_); refine goesL_ (some 15) rfl rfl Tryd.func53 (by kernel_rfl) rfl #[.agg #[.int .i64 a1_0, .int .i64 a1_1, .int .i64 a1_2, .int .i64 a1_3, .int .i64 a1_4]] rfl (by first | rfl | simp only [Lm, Lc, Ln] <;> rfl) ?_; (with_reducible refine (spec_l2Touches.calls k1 a1_0 a1_1 a1_2 a1_3 a1_4 t360 _ A13.out).mono ?_); rintro e w18 ⟨v361, rfl, ho0, hb⟩; refine ⟨_, rfl, ?_⟩; have n0_ := Am (Kd.R_elder' (by (with_reducible repeat (first | apply Ra | apply Rn | apply Rd)); exact HO_8.out) (Kd.R_base ho0) hb); have n1_ := Am (Kd.R_lower (Kd.R_new' ho0 (Kd.R_lt (by (with_reducible repeat (first | apply Ra | apply Rn | apply Rd)); exact HO_8.out))) (Bz (by repeat (first | (with_reducible first | exact HB.out | apply Ba | apply Bn | apply Bd | refine Bs ?_ GE354.out | refine Bs ?_ GE355.out) | exact HB.out)))); have n2_ := Am (Kb (g := gb354) (o := .cells #[.int .i64 a0_0, .int .i64 a0_1, .int .i64 a0_2, .int .i64 a0_3, .int .i64 a0_4] 25 (0, 0)) (by (with_reducible repeat (first | refine Kn ?_ _ | refine Ke ?_ | refine Ka ?_ _)); exact BK354.out) hb); have n3_ := Am (Kb (g := gb355) (o := .cells #[.int .i64 a1_0, .int .i64 a1_1, .int .i64 a1_2, .int .i64 a1_3, .int .i64 a1_4] 25 (0, 0)) (by (with_reducible repeat (first | refine Kn ?_ _ | refine Ke ?_ | refine Ka ?_ _)); exact BK355.out) hb); have n4_ := Am (Bt (by repeat (first | (with_reducible first | exact HB.out | apply Ba | apply Bn | apply Bd | refine Bs ?_ GE354.out | refine Bs ?_ GE355.out) | exact HB.out)) hb); clear HO_8; clear BK354; clear BK355; clear HB; have HO_8 := n0_; have HO362 := n1_; have BK354 := n2_; have BK355 := n3_; have HB := n4_; clear n0_ n1_ n2_ n3_ n4_; (try clear hb); (try clear hb2); (try clear hk); (try clear hi); (try clear ho0); obtain ⟨Ao19, co19, eo19⟩ := Kd.R_slice HO362.out; subst eo19) | ((refine Gc (f := 75) rfl ?_); refine goesL_ (some 17) rfl rfl Tryd.func75 (by kernel_rfl) rfl #[.slice Ao19 t360.length co19, .int .i64 (rd t356 x10_1)] rfl (by first | rfl | simp only [Lm, Lc, Ln] <;> rfl) ?_; (with_reducible refine (spec_l1Has.calls k1 _ _ t360 (rd t356 x10_1) true _ ?side1 ?side2 A14.out).mono ?_); (case side1 => repeat (first | exact (Rr HO362.out).2.2 | (with_reducible refine Kd.C_alloc ?_ _) | (with_reducible refine Kd.C_drewN ?_ _) | (with_reducible refine Kd.C_drew ?_))); (case side2 => exact (Rr HO362.out).2.1); rintro e w' ⟨rfl, ⟨nd, rfl⟩⟩; refine ⟨_, rfl, ?_⟩))
       go_ret
       exact ⟨by first | rfl | (simp [*, errW_none, errW_some] <;> rfl), by repeat (first | (with_reducible first | exact HB.out | apply Ba | apply Bn | apply Bd | refine Bs ?_ GE354.out | refine Bs ?_ GE355.out) | exact HB.out)⟩
      ·replace c15 := Bool.eq_false_iff.mpr c15
       subst c15
       have H1 : (spec_l2Interfere.l0 k1 t356 (t356.length : Int) (wrap64 (x10_1 + 1)) a1_0 a1_1 a1_2 a1_3 a1_4) = some r := by rw [if_neg (show ¬ (false = true) by decide)] at H; exact H
       clear H
       have H := H1
       clear H1
       have H' := Am H
       clear H
       have p359 : 0 ≤ (x10_1 : Int) := Oq (by assumption)
       have q359 : x10_1 < (t356.length : Int) := Oq (by assumption)
       obtain ⟨ad359, e359, hx359_0⟩ := Kd.at_int (Rr HO_8.out).2.2 x10_1 p359 q359
       cases e359
       replace p359 := eq_true p359
       replace q359 := eq_true q359
       have hnb20 := NB355_354.out
       have hnc20 := NB354_355.out
       have hcz21_0 : wr.cell? ⟨gb355, 0, none⟩ = some (.int .i64 a1_0) := (Kc BK355.out 0).trans rfl
       have hcz21_1 : wr.cell? ⟨gb355, 1, none⟩ = some (.int .i64 a1_1) := (Kc BK355.out 1).trans rfl
       have hcz21_2 : wr.cell? ⟨gb355, 2, none⟩ = some (.int .i64 a1_2) := (Kc BK355.out 2).trans rfl
       have hcz21_3 : wr.cell? ⟨gb355, 3, none⟩ = some (.int .i64 a1_3) := (Kc BK355.out 3).trans rfl
       have hcz21_4 : wr.cell? ⟨gb355, 4, none⟩ = some (.int .i64 a1_4) := (Kc BK355.out 4).trans rfl
       have hfz21_0 := Kz BK355.out 0
       have hfz21_1 := Kz BK355.out 1
       have hfz21_2 := Kz BK355.out 2
       have hfz21_3 := Kz BK355.out 3
       have hfz21_4 := Kz BK355.out 4
       go_wp2_with (first | ((refine Gc (f := 53) rfl ?_); refine goesL_ (some 15) rfl rfl Tryd.func53 (by kernel_rfl) rfl #[.agg #[.int .i64 a1_0, .int .i64 a1_1, .int .i64 a1_2, .int .i64 a1_3, .int .i64 a1_4]] rfl (by first | rfl | simp only [Lm, Lc, Ln] <;> rfl) ?_; (with_reducible refine (spec_l2Touches.calls k1 a1_0 a1_1 a1_2 a1_3 a1_4 t360 _ A13.out).mono ?_); rintro e w22 ⟨v361, rfl, ho0, hb⟩; refine ⟨_, rfl, ?_⟩; have n0_ := Am (Kd.R_elder' (by (with_reducible repeat (first | apply Ra | apply Rn | apply Rd)); exact HO_8.out) (Kd.R_base ho0) hb); have n1_ := Am (Kd.R_lower (Kd.R_new' ho0 (Kd.R_lt (by (with_reducible repeat (first | apply Ra | apply Rn | apply Rd)); exact HO_8.out))) (Bz (by repeat (first | (with_reducible first | exact HB.out | apply Ba | apply Bn | apply Bd | refine Bs ?_ GE354.out | refine Bs ?_ GE355.out) | exact HB.out)))); have n2_ := Am (Kb (g := gb354) (o := .cells #[.int .i64 a0_0, .int .i64 a0_1, .int .i64 a0_2, .int .i64 a0_3, .int .i64 a0_4] 25 (0, 0)) (by (with_reducible repeat (first | refine Kn ?_ _ | refine Ke ?_ | refine Ka ?_ _)); exact BK354.out) hb); have n3_ := Am (Kb (g := gb355) (o := .cells #[.int .i64 a1_0, .int .i64 a1_1, .int .i64 a1_2, .int .i64 a1_3, .int .i64 a1_4] 25 (0, 0)) (by (with_reducible repeat (first | refine Kn ?_ _ | refine Ke ?_ | refine Ka ?_ _)); exact BK355.out) hb); have n4_ := Am (Bt (by repeat (first | (with_reducible first | exact HB.out | apply Ba | apply Bn | apply Bd | refine Bs ?_ GE354.out | refine Bs ?_ GE355.out) | exact HB.out)) hb); clear HO_8; clear BK354; clear BK355; clear HB; have HO_8 := n0_; have HO362 := n1_; have BK354 := n2_; have BK355 := n3_; have HB := n4_; clear n0_ n1_ n2_ n3_ n4_; (try clear hb); (try clear hb2); (try clear hk); (try clear hi); (try clear ho0); obtain ⟨Ao23, co23, eo23⟩ := Kd.R_slice HO362.out; subst eo23) | ((refine Gc (f := 75) rfl ?_); refine goesL_ (some 17) rfl rfl Tryd.func75 (by kernel_rfl) rfl #[.slice Ao23 t360.length co23, .int .i64 (rd t356 x10_1)] rfl (by first | rfl | simp only [Lm, Lc, Ln] <;> rfl) ?_; (with_reducible refine (spec_l1Has.calls k1 _ _ t360 (rd t356 x10_1) false _ ?side1 ?side2 A14.out).mono ?_); (case side1 => repeat (first | exact (Rr HO362.out).2.2 | (with_reducible refine Kd.C_alloc ?_ _) | (with_reducible refine Kd.C_drewN ?_ _) | (with_reducible refine Kd.C_drew ?_))); (case side2 => exact (Rr HO362.out).2.1); rintro e w' ⟨rfl, ⟨nd, rfl⟩⟩; refine ⟨_, rfl, ?_⟩))
       go_roundg k1
       case measure => have := HK1.out; omega
       case rel => exact ⟨(wrap64 (x10_1 + 1)), (by first | rfl | (simp; done) | (simp [*]; done)), H', ⟨by have := HK1.out; omega⟩, ⟨by (with_reducible repeat (first | apply Ra | apply Rn | apply Rd)); exact Rm HO_8.out (fun _ hk => trivial)⟩, ⟨by (with_reducible repeat (first | refine Kn ?_ _ | refine Ke ?_ | refine Ka ?_ _)); exact BK354.out⟩, ⟨by (with_reducible repeat (first | refine Kn ?_ _ | refine Ke ?_ | refine Ka ?_ _)); exact BK355.out⟩, ⟨by repeat (first | (with_reducible first | exact HB.out | apply Ba | apply Bn | apply Bd | refine Bs ?_ GE354.out | refine Bs ?_ GE355.out) | exact HB.out)⟩⟩
     ·rw [if_neg c12] at H
      exact absurd H (by simp)
    ·rw [if_neg c11] at H
     exact absurd H (by simp)
   ·rw [if_neg c10] at H
    have c10b0 : decide (x10_1 < (t356.length : Int)) = false := decide_eq_false c10
    clear c10
    obtain rfl := Option.some.inj H
    go_wp2
    go_ret
    exact ⟨by first | rfl | (simp [*, errW_none, errW_some] <;> rfl), by repeat (first | (with_reducible first | exact HB.out | apply Ba | apply Bn | apply Bd | refine Bs ?_ GE354.out | refine Bs ?_ GE355.out) | exact HB.out)⟩
def spec_Interfere.f (k : Nat) (a0_0 : Int) (a0_1 : Int) (a0_2 : Int) (a0_3 : Int) (a0_4 : Int) (a1_0 : Int) (a1_1 : Int) (a1_2 : Int) (a1_3 : Int) (a1_4 : Int) : Option (Bool × Bool) := (spec_GoodCmd.f a0_0 a0_1 a0_2 a0_3 a0_4).bind fun t366 => (if t366 = true then ((spec_GoodCmd.f a1_0 a1_1 a1_2 a1_3 a1_4).bind fun t367 => (if t367 = true then ((spec_l2Interfere.f k a0_0 a0_1 a0_2 a0_3 a0_4 a1_0 a1_1 a1_2 a1_3 a1_4).bind fun t368 => (some (t368, true))) else (some (false, false)))) else (some (false, false)))
theorem spec_Interfere.mono : ∀ a0 a1 a2 a3 a4 a5 a6 a7 a8 a9 k, LeO (spec_Interfere.f k a0 a1 a2 a3 a4 a5 a6 a7 a8 a9) (spec_Interfere.f (k + 1) a0 a1 a2 a3 a4 a5 a6 a7 a8 a9) := by
 intro a0 a1 a2 a3 a4 a5 a6 a7 a8 a9 k
 unfold spec_Interfere.f
 repeat' first
   | (with_reducible exact spec_l2Interfere.mono _ _ _ _ _ _ _ _ _ _ _)
   | (with_reducible exact LeO.refl _)
   | (with_reducible exact LeO.none _)
   | (with_reducible refine LeO.ite ?_ ?_)
   | (with_reducible refine LeO.bind ?_ (fun _ => ?_))
   | exact spec_l2Interfere.mono _ _ _ _ _ _ _ _ _ _ _
   | exact LeO.none _
   | refine LeO.ite ?_ ?_
   | refine LeO.bind ?_ (fun _ => ?_)
theorem spec_Interfere.calls (k : Nat) (a0_0 : Int) (a0_1 : Int) (a0_2 : Int) (a0_3 : Int) (a0_4 : Int) (a1_0 : Int) (a1_1 : Int) (a1_2 : Int) (a1_3 : Int) (a1_4 : Int) (r1 : Bool) (r2 : Bool) (w : World) (h : spec_Interfere.f k a0_0 a0_1 a0_2 a0_3 a0_4 a1_0 a1_1 a1_2 a1_3 a1_4 = some (r1, r2)) :
  Calls Tryd.prog 18 #[.agg #[.int .i64 a0_0, .int .i64 a0_1, .int .i64 a0_2, .int .i64 a0_3, .int .i64 a0_4], .agg #[.int .i64 a1_0, .int .i64 a1_1, .int .i64 a1_2, .int .i64 a1_3, .int .i64 a1_4]] w fun e w' => e = .returned (.tuple #[.bool r1, .bool r2]) ∧ Below w.heap.size w w' := by
 have hu25 := Tryd.underlying25
 have HB := Am (Below.refl w.heap.size w)
 have H : ((spec_GoodCmd.f a0_0 a0_1 a0_2 a0_3 a0_4).bind fun t366 => (if t366 = true then ((spec_GoodCmd.f a1_0 a1_1 a1_2 a1_3 a1_4).bind fun t367 => (if t367 = true then ((spec_l2Interfere.f k a0_0 a0_1 a0_2 a0_3 a0_4 a1_0 a1_1 a1_2 a1_3 a1_4).bind fun t368 => (some (t368, true))) else (some (false, false)))) else (some (false, false)))) = some (r1, r2) := h
 clear h
 replace H := Option.bind_eq_some_iff.mp H
 obtain ⟨t366, A30, H⟩ := H
 replace H : (if t366 = true then ((spec_GoodCmd.f a1_0 a1_1 a1_2 a1_3 a1_4).bind fun t367 => (if t367 = true then ((spec_l2Interfere.f k a0_0 a0_1 a0_2 a0_3 a0_4 a1_0 a1_1 a1_2 a1_3 a1_4).bind fun t368 => (some (t368, true))) else (some (false, false)))) else (some (false, false))) = some (r1, r2) := H
 have A3 := Am A30
 clear A30
 by_cases c4 : t366 = true
 ·subst c4
  have H1 : ((spec_GoodCmd.f a1_0 a1_1 a1_2 a1_3 a1_4).bind fun t367 => (if t367 = true then ((spec_l2Interfere.f k a0_0 a0_1 a0_2 a0_3 a0_4 a1_0 a1_1 a1_2 a1_3 a1_4).bind fun t368 => (some (t368, true))) else (some (false, false)))) = some (r1, r2) := by rw [if_pos rfl] at H; exact H
  clear H
  have H := H1
  clear H1
  replace H := Option.bind_eq_some_iff.mp H
  obtain ⟨t367, A50, H⟩ := H
  replace H : (if t367 = true then ((spec_l2Interfere.f k a0_0 a0_1 a0_2 a0_3 a0_4 a1_0 a1_1 a1_2 a1_3 a1_4).bind fun t368 => (some (t368, true))) else (some (false, false))) = some (r1, r2) := H
  have A5 := Am A50
  clear A50
  by_cases c6 : t367 = true
  ·subst c6
   have H1 : ((spec_l2Interfere.f k a0_0 a0_1 a0_2 a0_3 a0_4 a1_0 a1_1 a1_2 a1_3 a1_4).bind fun t368 => (some (t368, true))) = some (r1, r2) := by rw [if_pos rfl] at H; exact H
   clear H
   have H := H1
   clear H1
   replace H := Option.bind_eq_some_iff.mp H
   obtain ⟨t368, A70, H⟩ := H
   replace H : (some (t368, true)) = some (r1, r2) := H
   have A7 := Am A70
   clear A70
   simp only [Option.some.injEq, Prod.mk.injEq] at H
   obtain ⟨rfl, rfl⟩ := H
   go_enter Tryd.func18, Tryd.ntmps18
   go_wp2_with (first | ((refine Gd (N := 2) rfl ?_); refine Be ?hg (N := 2) ?hd (cs := #[.int .i64 a0_0, .int .i64 a0_1, .int .i64 a0_2, .int .i64 a0_3, .int .i64 a0_4]) (t := 25) ?hr ?_; (case hd | hg => rfl); (case hr => go_simp <;> rfl); intro gb364 hg w8 hbox hb; have n0_ := Am (Bt (by repeat (first | exact HB.out | apply Ba | apply Bn | apply Bd)) hb); have n1_ := Am (hbox); have n2_ := Am ((by rw [hg]; exact (Bz (by repeat (first | exact HB.out | apply Ba | apply Bn | apply Bd))) : w.heap.size ≤ gb364)); have n3_ := Am ((by rw [hg]; exact (Bz (by repeat (first | exact HB.out | apply Ba | apply Bn | apply Bd))) : w.heap.size ≤ gb364)); clear HB; have HB := n0_; have BK364 := n1_; have GW364 := n2_; have GE364 := n3_; clear n0_ n1_ n2_ n3_; clear hb hbox hg) | ((refine Gd (N := 3) rfl ?_); refine Be ?hg (N := 3) ?hd (cs := #[.int .i64 a1_0, .int .i64 a1_1, .int .i64 a1_2, .int .i64 a1_3, .int .i64 a1_4]) (t := 25) ?hr ?_; (case hd | hg => rfl); (case hr => go_simp <;> rfl); intro gb365 hg w9 hbox hb; have n0_ := Am (Kb (g := gb364) (o := .cells #[.int .i64 a0_0, .int .i64 a0_1, .int .i64 a0_2, .int .i64 a0_3, .int .i64 a0_4] 25 (0, 0)) (by (with_reducible repeat (first | refine Kn ?_ _ | refine Ke ?_ | refine Ka ?_ _)); exact BK364.out) hb); have n1_ := Am (Bt (by repeat (first | (with_reducible first | exact HB.out | apply Ba | apply Bn | apply Bd | refine Bs ?_ GE364.out) | exact HB.out)) hb); have n2_ := Am (hbox); have n3_ := Am ((by rw [hg]; exact (Bz (by repeat (first | (with_reducible first | exact HB.out | apply Ba | apply Bn | apply Bd | refine Bs ?_ GE364.out) | exact HB.out))) : w.heap.size ≤ gb365)); have n4_ := Am ((by rw [hg]; exact (Bz (by repeat (first | (with_reducible first | exact HB.out | apply Ba | apply Bn | apply Bd | refine Bs ?_ GE364.out) | exact HB.out))) : w.heap.size ≤ gb365)); have n5_ := Am ((by rw [hg]; exact Nat.ne_of_lt (Kl (g := gb364) (o := .cells #[.int .i64 a0_0, .int .i64 a0_1, .int .i64 a0_2, .int .i64 a0_3, .int .i64 a0_4] 25 (0, 0)) (by (with_reducible repeat (first | refine Kn ?_ _ | refine Ke ?_ | refine Ka ?_ _)); exact BK364.out)) : gb364 ≠ gb365)); have n6_ := Am ((by rw [hg]; exact Nat.ne_of_gt (Kl (g := gb364) (o := .cells #[.int .i64 a0_0, .int .i64 a0_1, .int .i64 a0_2, .int .i64 a0_3, .int .i64 a0_4] 25 (0, 0)) (by (with_reducible repeat (first | refine Kn ?_ _ | refine Ke ?_ | refine Ka ?_ _)); exact BK364.out)) : gb365 ≠ gb364)); clear BK364; clear HB; have BK364 := n0_; have HB := n1_; have BK365 := n2_; have GW365 := n3_; have GE365 := n4_; have NB364_365 := n5_; have NB365_364 := n6_; clear n0_ n1_ n2_ n3_ n4_ n5_ n6_; clear hb hbox hg; have hnb10 := NB364_365.out; have hnc10 := NB365_364.out; have hcz11_0 : w9.cell? ⟨gb364, 0, none⟩ = some (.int .i64 a0_0) := (Kc BK364.out 0).trans rfl; have hcz11_1 : w9.cell? ⟨gb364, 1, none⟩ = some (.int .i64 a0_1) := (Kc BK364.out 1).trans rfl; have hcz11_2 : w9.cell? ⟨gb364, 2, none⟩ = some (.int .i64 a0_2) := (Kc BK364.out 2).trans rfl; have hcz11_3 : w9.cell? ⟨gb364, 3, none⟩ = some (.int .i64 a0_3) := (Kc BK364.out 3).trans rfl; have hcz11_4 : w9.cell? ⟨gb364, 4, none⟩ = some (.int .i64 a0_4) := (Kc BK364.out 4).trans rfl; have hfz11_0 := Kz BK364.out 0; have hfz11_1 := Kz BK364.out 1; have hfz11_2 := Kz BK364.out 2; have hfz11_3 := Kz BK364.out 3; have hfz11_4 := Kz BK364.out 4) | ((refine Gc (f := 13) rfl ?_); refine goesL_ (some 7) rfl rfl Tryd.func13 (by kernel_rfl) rfl #[.agg #[.int .i64 a0_0, .int .i64 a0_1, .int .i64 a0_2, .int .i64 a0_3, .int .i64 a0_4]] rfl (by first | rfl | simp only [Lm, Lc, Ln] <;> rfl) ?_; (with_reducible refine (spec_GoodCmd.calls a0_0 a0_1 a0_2 a0_3 a0_4 true _ A3.out).mono ?_); rintro e w12 ⟨rfl, hb⟩; refine ⟨_, rfl, ?_⟩; have n0_ := Am (Kb (g := gb364) (o := .cells #[.int .i64 a0_0, .int .i64 a0_1, .int .i64 a0_2, .int .i64 a0_3, .int .i64 a0_4] 25 (0, 0)) (by (with_reducible repeat (first | refine Kn ?_ _ | refine Ke ?_ | refine Ka ?_ _)); exact BK364.out) hb); have n1_ := Am (Kb (g := gb365) (o := .cells #[.int .i64 a1_0, .int .i64 a1_1, .int .i64 a1_2, .int .i64 a1_3, .int .i64 a1_4] 25 (0, 0)) (by (with_reducible repeat (first | refine Kn ?_ _ | refine Ke ?_ | refine Ka ?_ _)); exact BK365.out) hb); have n2_ := Am (Bt (by repeat (first | (with_reducible first | exact HB.out | apply Ba | apply Bn | apply Bd | refine Bs ?_ GE364.out | refine Bs ?_ GE365.out) | exact HB.out)) hb); clear BK364; clear BK365; clear HB; have BK364 := n0_; have BK365 := n1_; have HB := n2_; clear n0_ n1_ n2_; (try clear hb); (try clear hb2); (try clear hk); (try clear hi); have hcz13_0 : w12.cell? ⟨gb365, 0, none⟩ = some (.int .i64 a1_0) := (Kc BK365.out 0).trans rfl; have hcz13_1 : w12.cell? ⟨gb365, 1, none⟩ = some (.int .i64 a1_1) := (Kc BK365.out 1).trans rfl; have hcz13_2 : w12.cell? ⟨gb365, 2, none⟩ = some (.int .i64 a1_2) := (Kc BK365.out 2).trans rfl; have hcz13_3 : w12.cell? ⟨gb365, 3, none⟩ = some (.int .i64 a1_3) := (Kc BK365.out 3).trans rfl; have hcz13_4 : w12.cell? ⟨gb365, 4, none⟩ = some (.int .i64 a1_4) := (Kc BK365.out 4).trans rfl; have hfz13_0 := Kz BK365.out 0; have hfz13_1 := Kz BK365.out 1; have hfz13_2 := Kz BK365.out 2; have hfz13_3 := Kz BK365.out 3; have hfz13_4 := Kz BK365.out 4) | (go_at_call 13; (with_reducible refine (spec_GoodCmd.calls a1_0 a1_1 a1_2 a1_3 a1_4 true _ A5.out).mono ?_); rintro e w14 ⟨rfl, hb⟩; have n0_ := Am (Kb (g := gb364) (o := .cells #[.int .i64 a0_0, .int .i64 a0_1, .int .i64 a0_2, .int .i64 a0_3, .int .i64 a0_4] 25 (0, 0)) (by (with_reducible repeat (first | refine Kn ?_ _ | refine Ke ?_ | refine Ka ?_ _)); exact BK364.out) hb); have n1_ := Am (Kb (g := gb365) (o := .cells #[.int .i64 a1_0, .int .i64 a1_1, .int .i64 a1_2, .int .i64 a1_3, .int .i64 a1_4] 25 (0, 0)) (by (with_reducible repeat (first | refine Kn ?_ _ | refine Ke ?_ | refine Ka ?_ _)); exact BK365.out) hb); have n2_ := Am (Bt (by repeat (first | (with_reducible first | exact HB.out | apply Ba | apply Bn | apply Bd | refine Bs ?_ GE364.out | refine Bs ?_ GE365.out) | exact HB.out)) hb); clear BK364; clear BK365; clear HB; have BK364 := n0_; have BK365 := n1_; have HB := n2_; clear n0_ n1_ n2_; (try clear hb); (try clear hb2); (try clear hk); (try clear hi); have hcz15_0 : w14.cell? ⟨gb364, 0, none⟩ = some (.int .i64 a0_0) := (Kc BK364.out 0).trans rfl; have hcz15_1 : w14.cell? ⟨gb364, 1, none⟩ = some (.int .i64 a0_1) := (Kc BK364.out 1).trans rfl; have hcz15_2 : w14.cell? ⟨gb364, 2, none⟩ = some (.int .i64 a0_2) := (Kc BK364.out 2).trans rfl; have hcz15_3 : w14.cell? ⟨gb364, 3, none⟩ = some (.int .i64 a0_3) := (Kc BK364.out 3).trans rfl; have hcz15_4 : w14.cell? ⟨gb364, 4, none⟩ = some (.int .i64 a0_4) := (Kc BK364.out 4).trans rfl; have hfz15_0 := Kz BK364.out 0; have hfz15_1 := Kz BK364.out 1; have hfz15_2 := Kz BK364.out 2; have hfz15_3 := Kz BK364.out 3; have hfz15_4 := Kz BK364.out 4; have hcz16_0 : w14.cell? ⟨gb365, 0, none⟩ = some (.int .i64 a1_0) := (Kc BK365.out 0).trans rfl; have hcz16_1 : w14.cell? ⟨gb365, 1, none⟩ = some (.int .i64 a1_1) := (Kc BK365.out 1).trans rfl; have hcz16_2 : w14.cell? ⟨gb365, 2, none⟩ = some (.int .i64 a1_2) := (Kc BK365.out 2).trans rfl; have hcz16_3 : w14.cell? ⟨gb365, 3, none⟩ = some (.int .i64 a1_3) := (Kc BK365.out 3).trans rfl; have hcz16_4 : w14.cell? ⟨gb365, 4, none⟩ = some (.int .i64 a1_4) := (Kc BK365.out 4).trans rfl; have hfz16_0 := Kz BK365.out 0; have hfz16_1 := Kz BK365.out 1; have hfz16_2 := Kz BK365.out 2; have hfz16_3 := Kz BK365.out 3; have hfz16_4 := Kz BK365.out 4) | ((refine Gc (f := 47) rfl ?_); refine goesL_ (some 16) rfl rfl Tryd.func47 (by kernel_rfl) rfl #[.agg #[.int .i64 a0_0, .int .i64 a0_1, .int .i64 a0_2, .int .i64 a0_3, .int .i64 a0_4], .agg #[.int .i64 a1_0, .int .i64 a1_1, .int .i64 a1_2, .int .i64 a1_3, .int .i64 a1_4]] rfl (by first | rfl | simp only [Lm, Lc, Ln] <;> rfl) ?_; (with_reducible refine (spec_l2Interfere.calls k a0_0 a0_1 a0_2 a0_3 a0_4 a1_0 a1_1 a1_2 a1_3 a1_4 t368 _ A7.out).mono ?_); rintro e w17 ⟨rfl, hb⟩; refine ⟨_, rfl, ?_⟩; have n0_ := Am (Kb (g := gb364) (o := .cells #[.int .i64 a0_0, .int .i64 a0_1, .int .i64 a0_2, .int .i64 a0_3, .int .i64 a0_4] 25 (0, 0)) (by (with_reducible repeat (first | refine Kn ?_ _ | refine Ke ?_ | refine Ka ?_ _)); exact BK364.out) hb); have n1_ := Am (Kb (g := gb365) (o := .cells #[.int .i64 a1_0, .int .i64 a1_1, .int .i64 a1_2, .int .i64 a1_3, .int .i64 a1_4] 25 (0, 0)) (by (with_reducible repeat (first | refine Kn ?_ _ | refine Ke ?_ | refine Ka ?_ _)); exact BK365.out) hb); have n2_ := Am (Bt (by repeat (first | (with_reducible first | exact HB.out | apply Ba | apply Bn | apply Bd | refine Bs ?_ GE364.out | refine Bs ?_ GE365.out) | exact HB.out)) hb); clear BK364; clear BK365; clear HB; have BK364 := n0_; have BK365 := n1_; have HB := n2_; clear n0_ n1_ n2_; (try clear hb); (try clear hb2); (try clear hk); (try clear hi)))
   go_ret2
   exact ⟨by first | rfl | (simp [*, errW_none, errW_some] <;> rfl), by repeat (first | (with_reducible first | exact HB.out | apply Ba | apply Bn | apply Bd | refine Bs ?_ GE364.out | refine Bs ?_ GE365.out) | exact HB.out)⟩
  ·replace c6 := Bool.eq_false_iff.mpr c6
   subst c6
   have H1 : (some (false, false)) = some (r1, r2) := by rw [if_neg (show ¬ (false = true) by decide)] at H; exact H
   clear H
   have H := H1
   clear H1
   simp only [Option.some.injEq, Prod.mk.injEq] at H
   obtain ⟨rfl, rfl⟩ := H
   go_enter Tryd.func18, Tryd.ntmps18
   go_wp2_with (first | ((refine Gd (N := 2) rfl ?_); refine Be ?hg (N := 2) ?hd (cs := #[.int .i64 a0_0, .int .i64 a0_1, .int .i64 a0_2, .int .i64 a0_3, .int .i64 a0_4]) (t := 25) ?hr ?_; (case hd | hg => rfl); (case hr => go_simp <;> rfl); intro gb364 hg w18 hbox hb; have n0_ := Am (Bt (by repeat (first | exact HB.out | apply Ba | apply Bn | apply Bd)) hb); have n1_ := Am (hbox); have n2_ := Am ((by rw [hg]; exact (Bz (by repeat (first | exact HB.out | apply Ba | apply Bn | apply Bd))) : w.heap.size ≤ gb364)); have n3_ := Am ((by rw [hg]; exact (Bz (by repeat (first | exact HB.out | apply Ba | apply Bn | apply Bd))) : w.heap.size ≤ gb364)); clear HB; have HB := n0_; have BK364 := n1_; have GW364 := n2_; have GE364 := n3_; clear n0_ n1_ n2_ n3_; clear hb hbox hg) | ((refine Gd (N := 3) rfl ?_); refine Be ?hg (N := 3) ?hd (cs := #[.int .i64 a1_0, .int .i64 a1_1, .int .i64 a1_2, .int .i64 a1_3, .int .i64 a1_4]) (t := 25) ?hr ?_; (case hd | hg => rfl); (case hr => go_simp <;> rfl); intro gb365 hg w19 hbox hb; have n0_ := Am (Kb (g := gb364) (o := .cells #[.int .i64 a0_0, .int .i64 a0_1, .int .i64 a0_2, .int .i64 a0_3, .int .i64 a0_4] 25 (0, 0)) (by (with_reducible repeat (first | refine Kn ?_ _ | refine Ke ?_ | refine Ka ?_ _)); exact BK364.out) hb); have n1_ := Am (Bt (by repeat (first | (with_reducible first | exact HB.out | apply Ba | apply Bn | apply Bd | refine Bs ?_ GE364.out) | exact HB.out)) hb); have n2_ := Am (hbox); have n3_ := Am ((by rw [hg]; exact (Bz (by repeat (first | (with_reducible first | exact HB.out | apply Ba | apply Bn | apply Bd | refine Bs ?_ GE364.out) | exact HB.out))) : w.heap.size ≤ gb365)); have n4_ := Am ((by rw [hg]; exact (Bz (by repeat (first | (with_reducible first | exact HB.out | apply Ba | apply Bn | apply Bd | refine Bs ?_ GE364.out) | exact HB.out))) : w.heap.size ≤ gb365)); have n5_ := Am ((by rw [hg]; exact Nat.ne_of_lt (Kl (g := gb364) (o := .cells #[.int .i64 a0_0, .int .i64 a0_1, .int .i64 a0_2, .int .i64 a0_3, .int .i64 a0_4] 25 (0, 0)) (by (with_reducible repeat (first | refine Kn ?_ _ | refine Ke ?_ | refine Ka ?_ _)); exact BK364.out)) : gb364 ≠ gb365)); have n6_ := Am ((by rw [hg]; exact Nat.ne_of_gt (Kl (g := gb364) (o := .cells #[.int .i64 a0_0, .int .i64 a0_1, .int .i64 a0_2, .int .i64 a0_3, .int .i64 a0_4] 25 (0, 0)) (by (with_reducible repeat (first | refine Kn ?_ _ | refine Ke ?_ | refine Ka ?_ _)); exact BK364.out)) : gb365 ≠ gb364)); clear BK364; clear HB; have BK364 := n0_; have HB := n1_; have BK365 := n2_; have GW365 := n3_; have GE365 := n4_; have NB364_365 := n5_; have NB365_364 := n6_; clear n0_ n1_ n2_ n3_ n4_ n5_ n6_; clear hb hbox hg; have hnb20 := NB364_365.out; have hnc20 := NB365_364.out; have hcz21_0 : w19.cell? ⟨gb364, 0, none⟩ = some (.int .i64 a0_0) := (Kc BK364.out 0).trans rfl; have hcz21_1 : w19.cell? ⟨gb364, 1, none⟩ = some (.int .i64 a0_1) := (Kc BK364.out 1).trans rfl; have hcz21_2 : w19.cell? ⟨gb364, 2, none⟩ = some (.int .i64 a0_2) := (Kc BK364.out 2).trans rfl; have hcz21_3 : w19.cell? ⟨gb364, 3, none⟩ = some (.int .i64 a0_3) := (Kc BK364.out 3).trans rfl; have hcz21_4 : w19.cell? ⟨gb364, 4, none⟩ = some (.int .i64 a0_4) := (Kc BK364.out 4).trans rfl; have hfz21_0 := Kz BK364.out 0; have hfz21_1 := Kz BK364.out 1; have hfz21_2 := Kz BK364.out 2; have hfz21_3 := Kz BK364.out 3; have hfz21_4 := Kz BK364.out 4) | ((refine Gc (f := 13) rfl ?_); refine goesL_ (some 7) rfl rfl Tryd.func13 (by kernel_rfl) rfl #[.agg #[.int .i64 a0_0, .int .i64 a0_1, .int .i64 a0_2, .int .i64 a0_3, .int .i64 a0_4]] rfl (by first | rfl | simp only [Lm, Lc, Ln] <;> rfl) ?_; (with_reducible refine (spec_GoodCmd.calls a0_0 a0_1 a0_2 a0_3 a0_4 true _ A3.out).mono ?_); rintro e w22 ⟨rfl, hb⟩; refine ⟨_, rfl, ?_⟩; have n0_ := Am (Kb (g := gb364) (o := .cells #[.int .i64 a0_0, .int .i64 a0_1, .int .i64 a0_2, .int .i64 a0_3, .int .i64 a0_4] 25 (0, 0)) (by (with_reducible repeat (first | refine Kn ?_ _ | refine Ke ?_ | refine Ka ?_ _)); exact BK364.out) hb); have n1_ := Am (Kb (g := gb365) (o := .cells #[.int .i64 a1_0, .int .i64 a1_1, .int .i64 a1_2, .int .i64 a1_3, .int .i64 a1_4] 25 (0, 0)) (by (with_reducible repeat (first | refine Kn ?_ _ | refine Ke ?_ | refine Ka ?_ _)); exact BK365.out) hb); have n2_ := Am (Bt (by repeat (first | (with_reducible first | exact HB.out | apply Ba | apply Bn | apply Bd | refine Bs ?_ GE364.out | refine Bs ?_ GE365.out) | exact HB.out)) hb); clear BK364; clear BK365; clear HB; have BK364 := n0_; have BK365 := n1_; have HB := n2_; clear n0_ n1_ n2_; (try clear hb); (try clear hb2); (try clear hk); (try clear hi); have hcz23_0 : w22.cell? ⟨gb365, 0, none⟩ = some (.int .i64 a1_0) := (Kc BK365.out 0).trans rfl; have hcz23_1 : w22.cell? ⟨gb365, 1, none⟩ = some (.int .i64 a1_1) := (Kc BK365.out 1).trans rfl; have hcz23_2 : w22.cell? ⟨gb365, 2, none⟩ = some (.int .i64 a1_2) := (Kc BK365.out 2).trans rfl; have hcz23_3 : w22.cell? ⟨gb365, 3, none⟩ = some (.int .i64 a1_3) := (Kc BK365.out 3).trans rfl; have hcz23_4 : w22.cell? ⟨gb365, 4, none⟩ = some (.int .i64 a1_4) := (Kc BK365.out 4).trans rfl; have hfz23_0 := Kz BK365.out 0; have hfz23_1 := Kz BK365.out 1; have hfz23_2 := Kz BK365.out 2; have hfz23_3 := Kz BK365.out 3; have hfz23_4 := Kz BK365.out 4) | (go_at_call 13; (with_reducible refine (spec_GoodCmd.calls a1_0 a1_1 a1_2 a1_3 a1_4 false _ A5.out).mono ?_); rintro e w24 ⟨rfl, hb⟩; have n0_ := Am (Kb (g := gb364) (o := .cells #[.int .i64 a0_0, .int .i64 a0_1, .int .i64 a0_2, .int .i64 a0_3, .int .i64 a0_4] 25 (0, 0)) (by (with_reducible repeat (first | refine Kn ?_ _ | refine Ke ?_ | refine Ka ?_ _)); exact BK364.out) hb); have n1_ := Am (Kb (g := gb365) (o := .cells #[.int .i64 a1_0, .int .i64 a1_1, .int .i64 a1_2, .int .i64 a1_3, .int .i64 a1_4] 25 (0, 0)) (by (with_reducible repeat (first | refine Kn ?_ _ | refine Ke ?_ | refine Ka ?_ _)); exact BK365.out) hb); have n2_ := Am (Bt (by repeat (first | (with_reducible first | exact HB.out | apply Ba | apply Bn | apply Bd | refine Bs ?_ GE364.out | refine Bs ?_ GE365.out) | exact HB.out)) hb); clear BK364; clear BK365; clear HB; have BK364 := n0_; have BK365 := n1_; have HB := n2_; clear n0_ n1_ n2_; (try clear hb); (try clear hb2); (try clear hk); (try clear hi)))
   go_ret2
   exact ⟨by first | rfl | (simp [*, errW_none, errW_some] <;> rfl), by repeat (first | (with_reducible first | exact HB.out | apply Ba | apply Bn | apply Bd | refine Bs ?_ GE364.out | refine Bs ?_ GE365.out) | exact HB.out)⟩
 ·replace c4 := Bool.eq_false_iff.mpr c4
  subst c4
  have H1 : (some (false, false)) = some (r1, r2) := by rw [if_neg (show ¬ (false = true) by decide)] at H; exact H
  clear H
  have H := H1
  clear H1
  simp only [Option.some.injEq, Prod.mk.injEq] at H
  obtain ⟨rfl, rfl⟩ := H
  go_enter Tryd.func18, Tryd.ntmps18
  go_wp2_with (first | ((refine Gd (N := 2) rfl ?_); refine Be ?hg (N := 2) ?hd (cs := #[.int .i64 a0_0, .int .i64 a0_1, .int .i64 a0_2, .int .i64 a0_3, .int .i64 a0_4]) (t := 25) ?hr ?_; (case hd | hg => rfl); (case hr => go_simp <;> rfl); intro gb364 hg w25 hbox hb; have n0_ := Am (Bt (by repeat (first | exact HB.out | apply Ba | apply Bn | apply Bd)) hb); have n1_ := Am (hbox); have n2_ := Am ((by rw [hg]; exact (Bz (by repeat (first | exact HB.out | apply Ba | apply Bn | apply Bd))) : w.heap.size ≤ gb364)); have n3_ := Am ((by rw [hg]; exact (Bz (by repeat (first | exact HB.out | apply Ba | apply Bn | apply Bd))) : w.heap.size ≤ gb364)); clear HB; have HB := n0_; have BK364 := n1_; have GW364 := n2_; have GE364 := n3_; clear n0_ n1_ n2_ n3_; clear hb hbox hg) | ((refine Gd (N := 3) rfl ?_); refine Be ?hg (N := 3) ?hd (cs := #[.int .i64 a1_0, .int .i64 a1_1, .int .i64 a1_2, .int .i64 a1_3, .int .i64 a1_4]) (t := 25) ?hr ?_; (case hd | hg => rfl); (case hr => go_simp <;> rfl); intro gb365 hg w26 hbox hb; have n0_ := Am (Kb (g := gb364) (o := .cells #[.int .i64 a0_0, .int .i64 a0_1, .int .i64 a0_2, .int .i64 a0_3, .int .i64 a0_4] 25 (0, 0)) (by (with_reducible repeat (first | refine Kn ?_ _ | refine Ke ?_ | refine Ka ?_ _)); exact BK364.out) hb); have n1_ := Am (Bt (by repeat (first | (with_reducible first | exact HB.out | apply Ba | apply Bn | apply Bd | refine Bs ?_ GE364.out) | exact HB.out)) hb); have n2_ := Am (hbox); have n3_ := Am ((by rw [hg]; exact (Bz (by repeat (first | (with_reducible first | exact HB.out | apply Ba | apply Bn | apply Bd | refine Bs ?_ GE364.out) | exact HB.out))) : w.heap.size ≤ gb365)); have n4_ := Am ((by rw [hg]; exact (Bz (by repeat (first | (with_reducible first | exact HB.out | apply Ba | apply Bn | apply Bd | refine Bs ?_ GE364.out) | exact HB.out))) : w.heap.size ≤ gb365)); have n5_ := Am ((by rw [hg]; exact Nat.ne_of_lt (Kl (g := gb364) (o := .cells #[.int .i64 a0_0, .int .i64 a0_1, .int .i64 a0_2, .int .i64 a0_3, .int .i64 a0_4] 25 (0, 0)) (by (with_reducible repeat (first | refine Kn ?_ _ | refine Ke ?_ | refine Ka ?_ _)); exact BK364.out)) : gb364 ≠ gb365)); have n6_ := Am ((by rw [hg]; exact Nat.ne_of_gt (Kl (g := gb364) (o := .cells #[.int .i64 a0_0, .int .i64 a0_1, .int .i64 a0_2, .int .i64 a0_3, .int .i64 a0_4] 25 (0, 0)) (by (with_reducible repeat (first | refine Kn ?_ _ | refine Ke ?_ | refine Ka ?_ _)); exact BK364.out)) : gb365 ≠ gb364)); clear BK364; clear HB; have BK364 := n0_; have HB := n1_; have BK365 := n2_; have GW365 := n3_; have GE365 := n4_; have NB364_365 := n5_; have NB365_364 := n6_; clear n0_ n1_ n2_ n3_ n4_ n5_ n6_; clear hb hbox hg; have hnb27 := NB364_365.out; have hnc27 := NB365_364.out; have hcz28_0 : w26.cell? ⟨gb364, 0, none⟩ = some (.int .i64 a0_0) := (Kc BK364.out 0).trans rfl; have hcz28_1 : w26.cell? ⟨gb364, 1, none⟩ = some (.int .i64 a0_1) := (Kc BK364.out 1).trans rfl; have hcz28_2 : w26.cell? ⟨gb364, 2, none⟩ = some (.int .i64 a0_2) := (Kc BK364.out 2).trans rfl; have hcz28_3 : w26.cell? ⟨gb364, 3, none⟩ = some (.int .i64 a0_3) := (Kc BK364.out 3).trans rfl; have hcz28_4 : w26.cell? ⟨gb364, 4, none⟩ = some (.int .i64 a0_4) := (Kc BK364.out 4).trans rfl; have hfz28_0 := Kz BK364.out 0; have hfz28_1 := Kz BK364.out 1; have hfz28_2 := Kz BK364.out 2; have hfz28_3 := Kz BK364.out 3; have hfz28_4 := Kz BK364.out 4) | ((refine Gc (f := 13) rfl ?_); refine goesL_ (some 7) rfl rfl Tryd.func13 (by kernel_rfl) rfl #[.agg #[.int .i64 a0_0, .int .i64 a0_1, .int .i64 a0_2, .int .i64 a0_3, .int .i64 a0_4]] rfl (by first | rfl | simp only [Lm, Lc, Ln] <;> rfl) ?_; (with_reducible refine (spec_GoodCmd.calls a0_0 a0_1 a0_2 a0_3 a0_4 false _ A3.out).mono ?_); rintro e w29 ⟨rfl, hb⟩; refine ⟨_, rfl, ?_⟩; have n0_ := Am (Kb (g := gb364) (o := .cells #[.int .i64 a0_0, .int .i64 a0_1, .int .i64 a0_2, .int .i64 a0_3, .int .i64 a0_4] 25 (0, 0)) (by (with_reducible repeat (first | refine Kn ?_ _ | refine Ke ?_ | refine Ka ?_ _)); exact BK364.out) hb); have n1_ := Am (Kb (g := gb365) (o := .cells #[.int .i64 a1_0, .int .i64 a1_1, .int .i64 a1_2, .int .i64 a1_3, .int .i64 a1_4] 25 (0, 0)) (by (with_reducible repeat (first | refine Kn ?_ _ | refine Ke ?_ | refine Ka ?_ _)); exact BK365.out) hb); have n2_ := Am (Bt (by repeat (first | (with_reducible first | exact HB.out | apply Ba | apply Bn | apply Bd | refine Bs ?_ GE364.out | refine Bs ?_ GE365.out) | exact HB.out)) hb); clear BK364; clear BK365; clear HB; have BK364 := n0_; have BK365 := n1_; have HB := n2_; clear n0_ n1_ n2_; (try clear hb); (try clear hb2); (try clear hk); (try clear hi)))
  go_ret2
  exact ⟨by first | rfl | (simp [*, errW_none, errW_some] <;> rfl), by repeat (first | (with_reducible first | exact HB.out | apply Ba | apply Bn | apply Bd | refine Bs ?_ GE364.out | refine Bs ?_ GE365.out) | exact HB.out)⟩
mutual
def spec_l1Cur_spoilt.l0 : Nat → ByteArray → ByteArray → Int → List Int → Int → Int → Option (ByteArray × Int × Int)
 | 0, _, _, _, _, _, _ => none
 | k + 1, x1, x2, x7, x1000, x1001, x1002 => if x7 > 0 then (spec_l1Cur_spoilt.j1 k x1 x2 x7 (decide ((x1.size : Int) > 0)) x1000 x1001 x1002) else (spec_l1Cur_spoilt.j1 k x1 x2 x7 false x1000 x1001 x1002)
def spec_l1Cur_spoilt.j1 : Nat → ByteArray → ByteArray → Int → Bool → List Int → Int → Int → Option (ByteArray × Int × Int)
 | 0, _, _, _, _, _, _, _ => none
 | k + 1, x1, x2, x7, x19, x1000, x1001, x1002 => if x19 = true then ((spec_l1Cur_pick.f x1000 x1001 x1002 (x1.size : Int)).bind fun bt372 => ((spec_l1Cur_pick.f x1000 bt372.2.1 bt372.2.2 (x2.size : Int)).bind fun bt375 => (if 0 ≤ bt375.1 then (if bt375.1 < (x2.size : Int) then ((some (([bt x2 bt375.1] : List Int) : List Int)).bind fun y378 => ((spec_l1Cur_pick.f x1000 bt375.2.1 bt375.2.2 3).bind fun bt381 => (if bt381.1 = 0 then (if 0 ≤ bt372.1 then (if bt372.1 ≤ (x1.size : Int) then (if (x1.extract 0 (bt372.1 : Int).toNat).size + (strOfNums y378).size ≤ 9223372036854775807 then (if ((x1.extract 0 (bt372.1 : Int).toNat) ++ (strOfNums y378)).size + (x1.extract (bt372.1 : Int).toNat x1.size).size ≤ 9223372036854775807 then (spec_l1Cur_spoilt.l0 k (((x1.extract 0 (bt372.1 : Int).toNat) ++ (strOfNums y378)) ++ (x1.extract (bt372.1 : Int).toNat x1.size)) x2 (wrap64 (x7 - 1)) x1000 bt381.2.1 bt381.2.2) else (none)) else (none)) else (none)) else (none)) else (if bt381.1 = 1 then (if 0 ≤ bt372.1 then (if bt372.1 ≤ (x1.size : Int) then (if (x1.extract 0 (bt372.1 : Int).toNat).size + (strOfNums y378).size ≤ 9223372036854775807 then (if 0 ≤ (wrap64 (bt372.1 + 1)) then (if (wrap64 (bt372.1 + 1)) ≤ (x1.size : Int) then (if ((x1.extract 0 (bt372.1 : Int).toNat) ++ (strOfNums y378)).size + (x1.extract ((wrap64 (bt372.1 + 1)) : Int).toNat x1.size).size ≤ 9223372036854775807 then (spec_l1Cur_spoilt.l0 k (((x1.extract 0 (bt372.1 : Int).toNat) ++ (strOfNums y378)) ++ (x1.extract ((wrap64 (bt372.1 + 1)) : Int).toNat x1.size)) x2 (wrap64 (x7 - 1)) x1000 bt381.2.1 bt381.2.2) else (none)) else (none)) else (none)) else (none)) else (none)) else (none)) else (if 0 ≤ bt372.1 then (if bt372.1 ≤ (x1.size : Int) then (if 0 ≤ (wrap64 (bt372.1 + 1)) then (if (wrap64 (bt372.1 + 1)) ≤ (x1.size : Int) then (if (x1.extract 0 (bt372.1 : Int).toNat).size + (x1.extract ((wrap64 (bt372.1 + 1)) : Int).toNat x1.size).size ≤ 9223372036854775807 then (spec_l1Cur_spoilt.l0 k ((x1.extract 0 (bt372.1 : Int).toNat) ++ (x1.extract ((wrap64 (bt372.1 + 1)) : Int).toNat x1.size)) x2 (wrap64 (x7 - 1)) x1000 bt381.2.1 bt381.2.2) else (none)) else (none)) else (none)) else (none)) else (none)))))) else (none)) else (none)))) else (some (x1, x1001, x1002))
end
def spec_l1Cur_spoilt.f (k : Nat) (s0_0 : List Int) (s0_1 : Int) (s0_2 : Int) (a1 : ByteArray) (a2 : ByteArray) : Option (ByteArray × Int × Int) := (spec_l1Cur_pick.f s0_0 s0_1 s0_2 2).bind fun bt369 => (spec_l1Cur_spoilt.l0 k a1 a2 (wrap64 (1 + bt369.1)) s0_0 bt369.2.1 bt369.2.2)
theorem spec_l1Cur_spoilt.mono_l : ∀ k, (∀ y0 y1 y2 y3 y4 y5, LeO (spec_l1Cur_spoilt.l0 k y0 y1 y2 y3 y4 y5) (spec_l1Cur_spoilt.l0 (k + 1) y0 y1 y2 y3 y4 y5)) ∧ (∀ y0 y1 y2 y3 y4 y5 y6, LeO (spec_l1Cur_spoilt.j1 k y0 y1 y2 y3 y4 y5 y6) (spec_l1Cur_spoilt.j1 (k + 1) y0 y1 y2 y3 y4 y5 y6))
 | 0 => ⟨fun _ _ _ _ _ _ r h => by simp [spec_l1Cur_spoilt.l0] at h, fun _ _ _ _ _ _ _ r h => by simp [spec_l1Cur_spoilt.j1] at h⟩
 | k + 1 => by
  obtain ⟨ih0, ih1⟩ := spec_l1Cur_spoilt.mono_l k
  refine ⟨?_, ?_⟩
  ·intro y0 y1 y2 y3 y4 y5
   unfold spec_l1Cur_spoilt.l0
   repeat' first
   | (with_reducible exact ih0 _ _ _ _ _ _)
   | (with_reducible exact ih1 _ _ _ _ _ _ _)
   | (with_reducible exact LeO.refl _)
   | (with_reducible exact LeO.none _)
   | (with_reducible refine LeO.ite ?_ ?_)
   | (with_reducible refine LeO.bind ?_ (fun _ => ?_))
   | exact ih0 _ _ _ _ _ _
   | exact ih1 _ _ _ _ _ _ _
   | exact LeO.none _
   | refine LeO.ite ?_ ?_
   | refine LeO.bind ?_ (fun _ => ?_)
  ·intro y0 y1 y2 y3 y4 y5 y6
   unfold spec_l1Cur_spoilt.j1
   repeat' first
   | (with_reducible exact ih0 _ _ _ _ _ _)
   | (with_reducible exact ih1 _ _ _ _ _ _ _)
   | (with_reducible exact LeO.refl _)
   | (with_reducible exact LeO.none _)
   | (with_reducible refine LeO.ite ?_ ?_)
   | (with_reducible refine LeO.bind ?_ (fun _ => ?_))
   | exact ih0 _ _ _ _ _ _
   | exact ih1 _ _ _ _ _ _ _
   | exact LeO.none _
   | refine LeO.ite ?_ ?_
   | refine LeO.bind ?_ (fun _ => ?_)
theorem spec_l1Cur_spoilt.mono : ∀ a0 a1 a2 a3 a4 k, LeO (spec_l1Cur_spoilt.f k a0 a1 a2 a3 a4) (spec_l1Cur_spoilt.f (k + 1) a0 a1 a2 a3 a4) := by
 intro a0 a1 a2 a3 a4 k
 obtain ⟨ih0, ih1⟩ := spec_l1Cur_spoilt.mono_l k
 unfold spec_l1Cur_spoilt.f
 repeat' first
   | (with_reducible exact ih0 _ _ _ _ _ _)
   | (with_reducible exact ih1 _ _ _ _ _ _ _)
   | (with_reducible exact LeO.refl _)
   | (with_reducible exact LeO.none _)
   | (with_reducible refine LeO.ite ?_ ?_)
   | (with_reducible refine LeO.bind ?_ (fun _ => ?_))
   | exact ih0 _ _ _ _ _ _
   | exact ih1 _ _ _ _ _ _ _
   | exact LeO.none _
   | refine LeO.ite ?_ ?_
   | refine LeO.bind ?_ (fun _ => ?_)
theorem spec_l1Cur_spoilt.calls (k : Nat) (g : Nat) (s0_0 : List Int) (s0_1 : Int) (s0_2 : Int) (a1 : ByteArray) (a2 : ByteArray) (r1 : ByteArray) (r2 : Int) (r3 : Int) (w0 w : World) (hI : J70 w0 w g s0_0 s0_1 s0_2) (hB : Below w0.heap.size w0 w) (h : spec_l1Cur_spoilt.f k s0_0 s0_1 s0_2 a1 a2 = some (r1, r2, r3)) :
  Calls Tryd.prog 49 #[.pointer (some ⟨g, 0, none⟩), .string a1, .string a2] w fun e w' => e = .returned (.string r1) ∧ J70 w0 w' g s0_0 r2 r3 ∧ Below w0.heap.size w0 w' ∧ KeepBut w w' g none := by
 have HI0 := Am hI
 have HK := Am (KeepBut.refl w g none)
 have HL := Am hB.size
 clear hI
 have HW0 := Am hB.size
 have HB := Am hB
 clear hB
 have H : ((spec_l1Cur_pick.f s0_0 s0_1 s0_2 2).bind fun bt369 => (spec_l1Cur_spoilt.l0 k a1 a2 (wrap64 (1 + bt369.1)) s0_0 bt369.2.1 bt369.2.2)) = some (r1, r2, r3) := h
 clear h
 replace H := Option.bind_eq_some_iff.mp H
 obtain ⟨⟨t369, t370, t371⟩, A40, H⟩ := H
 replace H : (spec_l1Cur_spoilt.l0 k a1 a2 (wrap64 (1 + t369)) s0_0 t370 t371) = some (r1, r2, r3) := H
 have A4 := Am A40
 clear A40
 have H' := Am H
 clear H
 go_enter Tryd.func49, Tryd.ntmps49
 go_wp2_with (first | (go_at_call 48; (with_reducible refine (spec_l1Cur_pick.calls g s0_0 s0_1 s0_2 2 t369 t370 t371 w0 _ ?side1 ?side2 A4.out).mono ?_); (case side1 => repeat (first | (with_reducible first | exact HI0.out | apply J70.a | apply J70.n | apply J70.d | apply J70.s | apply J70.t) | exact HI0.out)); (case side2 => repeat (first | (with_reducible first | exact HB.out | apply Ba | apply Bn | apply Bd | refine Bs ?_ (J70.g HI0.out)) | exact HB.out)); rintro e w5 ⟨rfl, hi, hb, hk⟩; have n0_ := Am (KeepBut.trans (by repeat (first | (with_reducible first | exact HK.out | apply Qs | apply Qn | apply Qd | apply Qa) | exact HK.out)) hk (.inl rfl)); have n1_ := Am (hb); have n2_ := Am (hi); clear HK; clear HB; clear HI0; have HK := n0_; have HB := n1_; have HI0 := n2_; clear n0_ n1_ n2_; (try clear hb); (try clear hb2); (try clear hk); (try clear hi)))
 repeat (go_quiet (first | (go_at_call 48; (with_reducible refine (spec_l1Cur_pick.calls g s0_0 s0_1 s0_2 2 t369 t370 t371 w0 _ ?side1 ?side2 A4.out).mono ?_); (case side1 => repeat (first | (with_reducible first | exact HI0.out | apply J70.a | apply J70.n | apply J70.d | apply J70.s | apply J70.t) | exact HI0.out)); (case side2 => repeat (first | (with_reducible first | exact HB.out | apply Ba | apply Bn | apply Bd | refine Bs ?_ (J70.g HI0.out)) | exact HB.out)); rintro e w5 ⟨rfl, hi, hb, hk⟩; have n0_ := Am (KeepBut.trans (by repeat (first | (with_reducible first | exact HK.out | apply Qs | apply Qn | apply Qd | apply Qa) | exact HK.out)) hk (.inl rfl)); have n1_ := Am (hb); have n2_ := Am (hi); clear HK; clear HB; clear HI0; have HK := n0_; have HB := n1_; have HI0 := n2_; clear n0_ n1_ n2_; (try clear hb); (try clear hb2); (try clear hk); (try clear hi))); try go_wp2_with (first | (go_at_call 48; (with_reducible refine (spec_l1Cur_pick.calls g s0_0 s0_1 s0_2 2 t369 t370 t371 w0 _ ?side1 ?side2 A4.out).mono ?_); (case side1 => repeat (first | (with_reducible first | exact HI0.out | apply J70.a | apply J70.n | apply J70.d | apply J70.s | apply J70.t) | exact HI0.out)); (case side2 => repeat (first | (with_reducible first | exact HB.out | apply Ba | apply Bn | apply Bd | refine Bs ?_ (J70.g HI0.out)) | exact HB.out)); rintro e w5 ⟨rfl, hi, hb, hk⟩; have n0_ := Am (KeepBut.trans (by repeat (first | (with_reducible first | exact HK.out | apply Qs | apply Qn | apply Qd | apply Qa) | exact HK.out)) hk (.inl rfl)); have n1_ := Am (hb); have n2_ := Am (hi); clear HK; clear HB; clear HI0; have HK := n0_; have HB := n1_; have HI0 := n2_; clear n0_ n1_ n2_; (try clear hb); (try clear hb2); (try clear hk); (try clear hi))))
 go_loopg [1, 7] k (fun kq v1 v7 w' => ∃ (x1_1 : ByteArray) (x7_1 : Int) (x1001_1 : Int) (x1002_1 : Int), v1 = .string x1_1 ∧ v7 = .int .i64 x7_1 ∧ Ad (spec_l1Cur_spoilt.l0 kq x1_1 a2 x7_1 s0_0 x1001_1 x1002_1 = some (r1, r2, r3)) ∧ Ad (kq ≤ k) ∧ Ad (J70 w0 w' g s0_0 x1001_1 x1002_1) ∧ Ad (KeepBut w w' g none) ∧ Ad (Below w0.heap.size w0 w'))
 case atStart => exact ⟨(a1), (wrap64 (1 + t369)), (t370), (t371), (by first | rfl | (simp; done) | (simp [*]; done)), (by first | rfl | (simp; done) | (simp [*]; done)), H', ⟨Nat.le_refl _⟩, ⟨by repeat (first | (with_reducible first | exact HI0.out | apply J70.a | apply J70.n | apply J70.d | apply J70.s | apply J70.t) | exact HI0.out)⟩, ⟨by repeat (first | (with_reducible first | exact HK.out | apply Qs | apply Qn | apply Qd | apply Qa) | exact HK.out)⟩, ⟨by repeat (first | (with_reducible first | exact HB.out | apply Ba | apply Bn | apply Bd | refine Bs ?_ (J70.g HI0.out)) | exact HB.out)⟩⟩
 case round =>
  clear H'
  try clear p2
  try clear c4
  obtain ⟨x1_1, x7_1, x1001_1, x1002_1, rfl, rfl, HA, HK1, HI0, HK, HB⟩ := hrel
  cases gk with
  | zero => exact absurd HA.out (by simp [spec_l1Cur_spoilt.l0])
  | succ k1 =>
   have H := HA.out
   clear HA
   simp only [spec_l1Cur_spoilt.l0] at H
   have HC6 := Am H
   clear H
   go_upto_region 2 with (fail)
   repeat (go_quiet (fail); go_upto_region 2 with (fail))
   go_cut [19] (fun v19 wc => ∃ (kq : Nat) (x19_5 : Bool), v19 = .bool x19_5 ∧ Ad (spec_l1Cur_spoilt.j1 kq x1_1 a2 x7_1 x19_5 s0_0 x1001_1 x1002_1 = some (r1, r2, r3)) ∧ Ad (kq ≤ k1) ∧ Ad (J70 w0 wc g s0_0 x1001_1 x1002_1) ∧ Ad (KeepBut w wc g none) ∧ Ad (Below w0.heap.size w0 wc))
   case first =>
    have H := HC6.out
    clear HC6
    by_cases c7 : x7_1 > 0
    ·rw [if_pos c7] at H
     have c7b0 : decide (0 < x7_1) = true := Od c7
     clear c7
     (first | rw [c7b0] | (simp only [i64_w, i32_w]; rw [c7b0]) | skip)
     have H' := Am H
     clear H
     go_wp2
     repeat (go_quiet (fail); try go_wp2)
     go_meet
     case rel => exact ⟨_, (decide ((x1_1.size : Int) > 0)), (by first | rfl | (simp; done) | (simp [*]; done)), H', ⟨by have := HK1.out; first | omega | exact Nat.le_refl _⟩, ⟨by repeat (first | (with_reducible first | exact HI0.out | apply J70.a | apply J70.n | apply J70.d | apply J70.s | apply J70.t) | exact HI0.out)⟩, ⟨by repeat (first | (with_reducible first | exact HK.out | apply Qs | apply Qn | apply Qd | apply Qa) | exact HK.out)⟩, ⟨by repeat (first | (with_reducible first | exact HB.out | apply Ba | apply Bn | apply Bd | refine Bs ?_ (J70.g HI0.out)) | exact HB.out)⟩⟩
    ·rw [if_neg c7] at H
     have c7b0 : decide (0 < x7_1) = false := decide_eq_false c7
     clear c7
     (first | rw [c7b0] | (simp only [i64_w, i32_w]; rw [c7b0]) | skip)
     have H' := Am H
     clear H
     go_wp2
     repeat (go_quiet (fail); try go_wp2)
     go_meet
     case rel => exact ⟨_, (false), (by first | rfl | (simp; done) | (simp [*]; done)), H', ⟨by have := HK1.out; first | omega | exact Nat.le_refl _⟩, ⟨by repeat (first | (with_reducible first | exact HI0.out | apply J70.a | apply J70.n | apply J70.d | apply J70.s | apply J70.t) | exact HI0.out)⟩, ⟨by repeat (first | (with_reducible first | exact HK.out | apply Qs | apply Qn | apply Qd | apply Qa) | exact HK.out)⟩, ⟨by repeat (first | (with_reducible first | exact HB.out | apply Ba | apply Bn | apply Bd | refine Bs ?_ (J70.g HI0.out)) | exact HB.out)⟩⟩
   case rest =>
    clear HC6
    try clear p2
    try clear c4
    try clear p6
    try clear c7
    try clear c7b0
    try clear p2
    obtain ⟨kq, x19_5, rfl, HA, HJ5, HI0, HK, HB⟩ := hcut
    cases kq with
    | zero => exact absurd HA.out (by simp [spec_l1Cur_spoilt.j1])
    | succ kj5 =>
     have H := HA.out
     clear HA
     simp only [spec_l1Cur_spoilt.j1] at H
     by_cases c8 : x19_5 = true
     ·subst c8
      have H1 : ((spec_l1Cur_pick.f s0_0 x1001_1 x1002_1 (x1_1.size : Int)).bind fun bt372 => ((spec_l1Cur_pick.f s0_0 bt372.2.1 bt372.2.2 (a2.size : Int)).bind fun bt375 => (if 0 ≤ bt375.1 then (if bt375.1 < (a2.size : Int) then ((some (([bt a2 bt375.1] : List Int) : List Int)).bind fun y378 => ((spec_l1Cur_pick.f s0_0 bt375.2.1 bt375.2.2 3).bind fun bt381 => (if bt381.1 = 0 then (if 0 ≤ bt372.1 then (if bt372.1 ≤ (x1_1.size : Int) then (if (x1_1.extract 0 (bt372.1 : Int).toNat).size + (strOfNums y378).size ≤ 9223372036854775807 then (if ((x1_1.extract 0 (bt372.1 : Int).toNat) ++ (strOfNums y378)).size + (x1_1.extract (bt372.1 : Int).toNat x1_1.size).size ≤ 9223372036854775807 then (spec_l1Cur_spoilt.l0 kj5 (((x1_1.extract 0 (bt372.1 : Int).toNat) ++ (strOfNums y378)) ++ (x1_1.extract (bt372.1 : Int).toNat x1_1.size)) a2 (wrap64 (x7_1 - 1)) s0_0 bt381.2.1 bt381.2.2) else (none)) else (none)) else (none)) else (none)) else (if bt381.1 = 1 then (if 0 ≤ bt372.1 then (if bt372.1 ≤ (x1_1.size : Int) then (if (x1_1.extract 0 (bt372.1 : Int).toNat).size + (strOfNums y378).size ≤ 9223372036854775807 then (if 0 ≤ (wrap64 (bt372.1 + 1)) then (if (wrap64 (bt372.1 + 1)) ≤ (x1_1.size : Int) then (if ((x1_1.extract 0 (bt372.1 : Int).toNat) ++ (strOfNums y378)).size + (x1_1.extract ((wrap64 (bt372.1 + 1)) : Int).toNat x1_1.size).size ≤ 9223372036854775807 then (spec_l1Cur_spoilt.l0 kj5 (((x1_1.extract 0 (bt372.1 : Int).toNat) ++ (strOfNums y378)) ++ (x1_1.extract ((wrap64 (bt372.1 + 1)) : Int).toNat x1_1.size)) a2 (wrap64 (x7_1 - 1)) s0_0 bt381.2.1 bt381.2.2) else (none)) else (none)) else (none)) else (none)) else (none)) else (none)) else (if 0 ≤ bt372.1 then (if bt372.1 ≤ (x1_1.size : Int) then (if 0 ≤ (wrap64 (bt372.1 + 1)) then (if (wrap64 (bt372.1 + 1)) ≤ (x1_1.size : Int) then (if (x1_1.extract 0 (bt372.1 : Int).toNat).size + (x1_1.extract ((wrap64 (bt372.1 + 1)) : Int).toNat x1_1.size).size ≤ 9223372036854775807 then (spec_l1Cur_spoilt.l0 kj5 ((x1_1.extract 0 (bt372.1 : Int).toNat) ++ (x1_1.extract ((wrap64 (bt372.1 + 1)) : Int).toNat x1_1.size)) a2 (wrap64 (x7_1 - 1)) s0_0 bt381.2.1 bt381.2.2) else (none)) else (none)) else (none)) else (none)) else (none)))))) else (none)) else (none)))) = some (r1, r2, r3) := by rw [if_pos rfl] at H; exact H
      clear H
      have H := H1
      clear H1
      replace H := Option.bind_eq_some_iff.mp H
      obtain ⟨⟨t372, t373, t374⟩, A90, H⟩ := H
      replace H : ((spec_l1Cur_pick.f s0_0 t373 t374 (a2.size : Int)).bind fun bt375 => (if 0 ≤ bt375.1 then (if bt375.1 < (a2.size : Int) then ((some (([bt a2 bt375.1] : List Int) : List Int)).bind fun y378 => ((spec_l1Cur_pick.f s0_0 bt375.2.1 bt375.2.2 3).bind fun bt381 => (if bt381.1 = 0 then (if 0 ≤ t372 then (if t372 ≤ (x1_1.size : Int) then (if (x1_1.extract 0 (t372 : Int).toNat).size + (strOfNums y378).size ≤ 9223372036854775807 then (if ((x1_1.extract 0 (t372 : Int).toNat) ++ (strOfNums y378)).size + (x1_1.extract (t372 : Int).toNat x1_1.size).size ≤ 9223372036854775807 then (spec_l1Cur_spoilt.l0 kj5 (((x1_1.extract 0 (t372 : Int).toNat) ++ (strOfNums y378)) ++ (x1_1.extract (t372 : Int).toNat x1_1.size)) a2 (wrap64 (x7_1 - 1)) s0_0 bt381.2.1 bt381.2.2) else (none)) else (none)) else (none)) else (none)) else (if bt381.1 = 1 then (if 0 ≤ t372 then (if t372 ≤ (x1_1.size : Int) then (if (x1_1.extract 0 (t372 : Int).toNat).size + (strOfNums y378).size ≤ 9223372036854775807 then (if 0 ≤ (wrap64 (t372 + 1)) then (if (wrap64 (t372 + 1)) ≤ (x1_1.size : Int) then (if ((x1_1.extract 0 (t372 : Int).toNat) ++ (strOfNums y378)).size + (x1_1.extract ((wrap64 (t372 + 1)) : Int).toNat x1_1.size).size ≤ 9223372036854775807 then (spec_l1Cur_spoilt.l0 kj5 (((x1_1.extract 0 (t372 : Int).toNat) ++ (strOfNums y378)) ++ (x1_1.extract ((wrap64 (t372 + 1)) : Int).toNat x1_1.size)) a2 (wrap64 (x7_1 - 1)) s0_0 bt381.2.1 bt381.2.2) else (none)) else (none)) else (none)) else (none)) else (none)) else (none)) else (if 0 ≤ t372 then (if t372 ≤ (x1_1.size : Int) then (if 0 ≤ (wrap64 (t372 + 1)) then (if (wrap64 (t372 + 1)) ≤ (x1_1.size : Int) then (if (x1_1.extract 0 (t372 : Int).toNat).size + (x1_1.extract ((wrap64 (t372 + 1)) : Int).toNat x1_1.size).size ≤ 9223372036854775807 then (spec_l1Cur_spoilt.l0 kj5 ((x1_1.extract 0 (t372 : Int).toNat) ++ (x1_1.extract ((wrap64 (t372 + 1)) : Int).toNat x1_1.size)) a2 (wrap64 (x7_1 - 1)) s0_0 bt381.2.1 bt381.2.2) else (none)) else (none)) else (none)) else (none)) else (none)))))) else (none)) else (none))) = some (r1, r2, r3) := H
      have A9 := Am A90
      clear A90
      replace H := Option.bind_eq_some_iff.mp H
      obtain ⟨⟨t375, t376, t377⟩, A100, H⟩ := H
      replace H : (if 0 ≤ t375 then (if t375 < (a2.size : Int) then ((some (([bt a2 t375] : List Int) : List Int)).bind fun y378 => ((spec_l1Cur_pick.f s0_0 t376 t377 3).bind fun bt381 => (if bt381.1 = 0 then (if 0 ≤ t372 then (if t372 ≤ (x1_1.size : Int) then (if (x1_1.extract 0 (t372 : Int).toNat).size + (strOfNums y378).size ≤ 9223372036854775807 then (if ((x1_1.extract 0 (t372 : Int).toNat) ++ (strOfNums y378)).size + (x1_1.extract (t372 : Int).toNat x1_1.size).size ≤ 9223372036854775807 then (spec_l1Cur_spoilt.l0 kj5 (((x1_1.extract 0 (t372 : Int).toNat) ++ (strOfNums y378)) ++ (x1_1.extract (t372 : Int).toNat x1_1.size)) a2 (wrap64 (x7_1 - 1)) s0_0 bt381.2.1 bt381.2.2) else (none)) else (none)) else (none)) else (none)) else (if bt381.1 = 1 then (if 0 ≤ t372 then (if t372 ≤ (x1_1.size : Int) then (if (x1_1.extract 0 (t372 : Int).toNat).size + (strOfNums y378).size ≤ 9223372036854775807 then (if 0 ≤ (wrap64 (t372 + 1)) then (if (wrap64 (t372 + 1)) ≤ (x1_1.size : Int) then (if ((x1_1.extract 0 (t372 : Int).toNat) ++ (strOfNums y378)).size + (x1_1.extract ((wrap64 (t372 + 1)) : Int).toNat x1_1.size).size ≤ 9223372036854775807 then (spec_l1Cur_spoilt.l0 kj5 (((x1_1.extract 0 (t372 : Int).toNat) ++ (strOfNums y378)) ++ (x1_1.extract ((wrap64 (t372 + 1)) : Int).toNat x1_1.size)) a2 (wrap64 (x7_1 - 1)) s0_0 bt381.2.1 bt381.2.2) else (none)) else (none)) else (none)) else (none)) else (none)) else (none)) else (if 0 ≤ t372 then (if t372 ≤ (x1_1.size : Int) then (if 0 ≤ (wrap64 (t372 + 1)) then (if (wrap64 (t372 + 1)) ≤ (x1_1.size : Int) then (if (x1_1.extract 0 (t372 : Int).toNat).size + (x1_1.extract ((wrap64 (t372 + 1)) : Int).toNat x1_1.size).size ≤ 9223372036854775807 then (spec_l1Cur_spoilt.l0 kj5 ((x1_1.extract 0 (t372 : Int).toNat) ++ (x1_1.extract ((wrap64 (t372 + 1)) : Int).toNat x1_1.size)) a2 (wrap64 (x7_1 - 1)) s0_0 bt381.2.1 bt381.2.2) else (none)) else (none)) else (none)) else (none)) else (none)))))) else (none)) else (none)) = some (r1, r2, r3) := H
      have A10 := Am A100
      clear A100
      by_cases c11 : 0 ≤ t375
      ·rw [if_pos c11] at H
       have c11b0 : decide (0 ≤ t375) = true := Od c11
       clear c11
       by_cases c12 : t375 < (a2.size : Int)
       ·rw [if_pos c12] at H
        have c12b0 : decide (t375 < (a2.size : Int)) = true := Od c12
        clear c12
        obtain ⟨y378, hy378⟩ : ∃ y_ : List Int, y_ = (([bt a2 t375] : List Int)) := ⟨_, rfl⟩
        replace H : ((spec_l1Cur_pick.f s0_0 t376 t377 3).bind fun bt381 => (if bt381.1 = 0 then (if 0 ≤ t372 then (if t372 ≤ (x1_1.size : Int) then (if (x1_1.extract 0 (t372 : Int).toNat).size + (strOfNums y378).size ≤ 9223372036854775807 then (if ((x1_1.extract 0 (t372 : Int).toNat) ++ (strOfNums y378)).size + (x1_1.extract (t372 : Int).toNat x1_1.size).size ≤ 9223372036854775807 then (spec_l1Cur_spoilt.l0 kj5 (((x1_1.extract 0 (t372 : Int).toNat) ++ (strOfNums y378)) ++ (x1_1.extract (t372 : Int).toNat x1_1.size)) a2 (wrap64 (x7_1 - 1)) s0_0 bt381.2.1 bt381.2.2) else (none)) else (none)) else (none)) else (none)) else (if bt381.1 = 1 then (if 0 ≤ t372 then (if t372 ≤ (x1_1.size : Int) then (if (x1_1.extract 0 (t372 : Int).toNat).size + (strOfNums y378).size ≤ 9223372036854775807 then (if 0 ≤ (wrap64 (t372 + 1)) then (if (wrap64 (t372 + 1)) ≤ (x1_1.size : Int) then (if ((x1_1.extract 0 (t372 : Int).toNat) ++ (strOfNums y378)).size + (x1_1.extract ((wrap64 (t372 + 1)) : Int).toNat x1_1.size).size ≤ 9223372036854775807 then (spec_l1Cur_spoilt.l0 kj5 (((x1_1.extract 0 (t372 : Int).toNat) ++ (strOfNums y378)) ++ (x1_1.extract ((wrap64 (t372 + 1)) : Int).toNat x1_1.size)) a2 (wrap64 (x7_1 - 1)) s0_0 bt381.2.1 bt381.2.2) else (none)) else (none)) else (none)) else (none)) else (none)) else (none)) else (if 0 ≤ t372 then (if t372 ≤ (x1_1.size : Int) then (if 0 ≤ (wrap64 (t372 + 1)) then (if (wrap64 (t372 + 1)) ≤ (x1_1.size : Int) then (if (x1_1.extract 0 (t372 : Int).toNat).size + (x1_1.extract ((wrap64 (t372 + 1)) : Int).toNat x1_1.size).size ≤ 9223372036854775807 then (spec_l1Cur_spoilt.l0 kj5 ((x1_1.extract 0 (t372 : Int).toNat) ++ (x1_1.extract ((wrap64 (t372 + 1)) : Int).toNat x1_1.size)) a2 (wrap64 (x7_1 - 1)) s0_0 bt381.2.1 bt381.2.2) else (none)) else (none)) else (none)) else (none)) else (none))))) = some (r1, r2, r3) := by first | (rw [hy378]; with_reducible exact H) | (have H2_ := (Option.bind_some _ _).symm.trans H; rw [hy378]; with_reducible exact H2_) | (have H2_ := (Option.bind_some _ _).symm.trans H; with_reducible exact H2_) | with_reducible exact H | (rw [hy378]; exact H) | exact H
        have Ny378 := Am hy378
        clear hy378
        replace H := Option.bind_eq_some_iff.mp H
        obtain ⟨⟨t381, t382, t383⟩, A140, H⟩ := H
        replace H : (if t381 = 0 then (if 0 ≤ t372 then (if t372 ≤ (x1_1.size : Int) then (if (x1_1.extract 0 (t372 : Int).toNat).size + (strOfNums y378).size ≤ 9223372036854775807 then (if ((x1_1.extract 0 (t372 : Int).toNat) ++ (strOfNums y378)).size + (x1_1.extract (t372 : Int).toNat x1_1.size).size ≤ 9223372036854775807 then (spec_l1Cur_spoilt.l0 kj5 (((x1_1.extract 0 (t372 : Int).toNat) ++ (strOfNums y378)) ++ (x1_1.extract (t372 : Int).toNat x1_1.size)) a2 (wrap64 (x7_1 - 1)) s0_0 t382 t383) else (none)) else (none)) else (none)) else (none)) else (if t381 = 1 then (if 0 ≤ t372 then (if t372 ≤ (x1_1.size : Int) then (if (x1_1.extract 0 (t372 : Int).toNat).size + (strOfNums y378).size ≤ 9223372036854775807 then (if 0 ≤ (wrap64 (t372 + 1)) then (if (wrap64 (t372 + 1)) ≤ (x1_1.size : Int) then (if ((x1_1.extract 0 (t372 : Int).toNat) ++ (strOfNums y378)).size + (x1_1.extract ((wrap64 (t372 + 1)) : Int).toNat x1_1.size).size ≤ 9223372036854775807 then (spec_l1Cur_spoilt.l0 kj5 (((x1_1.extract 0 (t372 : Int).toNat) ++ (strOfNums y378)) ++ (x1_1.extract ((wrap64 (t372 + 1)) : Int).toNat x1_1.size)) a2 (wrap64 (x7_1 - 1)) s0_0 t382 t383) else (none)) else (none)) else (none)) else (none)) else (none)) else (none)) else (if 0 ≤ t372 then (if t372 ≤ (x1_1.size : Int) then (if 0 ≤ (wrap64 (t372 + 1)) then (if (wrap64 (t372 + 1)) ≤ (x1_1.size : Int) then (if (x1_1.extract 0 (t372 : Int).toNat).size + (x1_1.extract ((wrap64 (t372 + 1)) : Int).toNat x1_1.size).size ≤ 9223372036854775807 then (spec_l1Cur_spoilt.l0 kj5 ((x1_1.extract 0 (t372 : Int).toNat) ++ (x1_1.extract ((wrap64 (t372 + 1)) : Int).toNat x1_1.size)) a2 (wrap64 (x7_1 - 1)) s0_0 t382 t383) else (none)) else (none)) else (none)) else (none)) else (none)))) = some (r1, r2, r3) := H
        have A14 := Am A140
        clear A140
        by_cases c15 : t381 = 0
        ·rw [if_pos c15] at H
         have c15b0 : (t381 == 0) = true := beq_iff_eq.mpr c15
         have c15b1 : (t381 != 0) = false := bne_eq_false_iff_eq.mpr c15
         clear c15
         by_cases c16 : 0 ≤ t372
         ·rw [if_pos c16] at H
          have c16b0 := eq_true c16
          have c16b1 : decide (0 ≤ t372) = true := Od c16
          clear c16
          by_cases c17 : t372 ≤ (x1_1.size : Int)
          ·rw [if_pos c17] at H
           have c17b0 := eq_true c17
           have c17b1 : decide (t372 ≤ (x1_1.size : Int)) = true := Od c17
           clear c17
           by_cases c18 : (x1_1.extract 0 (t372 : Int).toNat).size + (strOfNums y378).size ≤ 9223372036854775807
           ·rw [if_pos c18] at H
            have c18b0 := eq_true c18
            have c18b1 : decide ((x1_1.extract 0 (t372 : Int).toNat).size + (strOfNums y378).size ≤ 9223372036854775807) = true := Od c18
            try have c18b2 : (9223372036854775807 < (x1_1.extract 0 (t372 : Int).toNat).size + (strOfNums y378).size) = False := eq_false (Nat.not_lt.2 c18)
            have c19b0 := eq_true (Oq (by assumption) : 0 ≤ t372)
            have c20b0 := eq_true (Oq (by assumption) : t372 ≤ (x1_1.size : Int))
            by_cases c21 : ((x1_1.extract 0 (t372 : Int).toNat) ++ (strOfNums y378)).size + (x1_1.extract (t372 : Int).toNat x1_1.size).size ≤ 9223372036854775807
            ·rw [if_pos c21] at H
             have c21b0 := eq_true c21
             have c21b1 : decide (((x1_1.extract 0 (t372 : Int).toNat) ++ (strOfNums y378)).size + (x1_1.extract (t372 : Int).toNat x1_1.size).size ≤ 9223372036854775807) = true := Od c21
             try have c21b2 : (9223372036854775807 < ((x1_1.extract 0 (t372 : Int).toNat) ++ (strOfNums y378)).size + (x1_1.extract (t372 : Int).toNat x1_1.size).size) = False := eq_false (Nat.not_lt.2 c21)
             (try (have c21bx2 := c21b2; simp only [ByteArray.size_append, Int.natCast_add] at c21bx2))
             have H' := Am H
             clear H
             go_wp2_with (first | (go_at_call 48; (with_reducible refine (spec_l1Cur_pick.calls g s0_0 x1001_1 x1002_1 (x1_1.size : Int) t372 t373 t374 w0 _ ?side1 ?side2 A9.out).mono ?_); (case side1 => repeat (first | (with_reducible first | exact HI0.out | apply J70.a | apply J70.n | apply J70.d | apply J70.s | apply J70.t) | exact HI0.out)); (case side2 => repeat (first | (with_reducible first | exact HB.out | apply Ba | apply Bn | apply Bd | refine Bs ?_ (J70.g HI0.out)) | exact HB.out)); rintro e w22 ⟨rfl, hi, hb, hk⟩; have n0_ := Am (KeepBut.trans (by repeat (first | (with_reducible first | exact HK.out | apply Qs | apply Qn | apply Qd | apply Qa) | exact HK.out)) hk (.inl rfl)); have n1_ := Am (hb); have n2_ := Am (hi); clear HK; clear HB; clear HI0; have HK := n0_; have HB := n1_; have HI0 := n2_; clear n0_ n1_ n2_; (try clear hb); (try clear hb2); (try clear hk); (try clear hi)) | (go_at_call 48; (with_reducible refine (spec_l1Cur_pick.calls g s0_0 t373 t374 (a2.size : Int) t375 t376 t377 w0 _ ?side1 ?side2 A10.out).mono ?_); (case side1 => repeat (first | (with_reducible first | exact HI0.out | apply J70.a | apply J70.n | apply J70.d | apply J70.s | apply J70.t) | exact HI0.out)); (case side2 => repeat (first | (with_reducible first | exact HB.out | apply Ba | apply Bn | apply Bd | refine Bs ?_ (J70.g HI0.out)) | exact HB.out)); rintro e w23 ⟨rfl, hi, hb, hk⟩; have n0_ := Am (KeepBut.trans (by repeat (first | (with_reducible first | exact HK.out | apply Qs | apply Qn | apply Qd | apply Qa) | exact HK.out)) hk (.inl rfl)); have n1_ := Am (hb); have n2_ := Am (hi); clear HK; clear HB; clear HI0; have HK := n0_; have HB := n1_; have HI0 := n2_; clear n0_ n1_ n2_; (try clear hb); (try clear hb2); (try clear hk); (try clear hi); have p13 : 0 ≤ (t375 : Int) := Oq (by assumption); have q13 : t375 < (a2.size : Int) := Oq (by assumption); have hx13 := bt_at a2 t375; replace p13 := eq_true p13; replace q13 := eq_true q13) | ((refine Gd (N := 32) rfl ?_); (try (refine gate_guard (by rfl) ?_; dsimp only)); refine Kd.R_lit (Kd.int .u8) _ 5 ?hg (N := 32) ?hd (xs := ([bt a2 t375] : List Int)) (inner := [.int .u8 (bt a2 t375)]) (ok := fun _ => True) (okp := fun _ => True) ?hr ?hp (fun _ hk => hk) trivial (Below.refl _ _) (Nat.le_refl _) (by simp) ?_; (case hd | hg => rfl); (case hr => go_simp <;> rfl); (case hp => exact (Reps.one (show Kd.M (Kd.int .u8) _ _ _ (bt a2 t375) [.int .u8 (bt a2 t375)] from rfl) (Reps.none _ _))); intro v379 w24 ho25 hb hg_ hnew_; clear hg_ hnew_; (first | rw [← Ny378.out] at ho25 | (simp only [Int.reduceToNat] at ho25; rw [← Ny378.out] at ho25)); have n0_ := Am (Kd.R_lower ho25 (keep_size (w := w) (g := g) (row := none) (by repeat (first | (with_reducible first | exact HK.out | apply Qs | apply Qn | apply Qd | apply Qa) | exact HK.out)))); have n1_ := Am (J70.below (by repeat (first | (with_reducible first | exact HI0.out | apply J70.a | apply J70.n | apply J70.d | apply J70.s | apply J70.t) | exact HI0.out)) hb); have n2_ := Am (KeepBut.trans (by repeat (first | (with_reducible first | exact HK.out | apply Qs | apply Qn | apply Qd | apply Qa) | exact HK.out)) (KeepBut.of_below hb g none) (.inl rfl)); have n3_ := Am (Bt (by repeat (first | (with_reducible first | exact HB.out | apply Ba | apply Bn | apply Bd | refine Bs ?_ (J70.g HI0.out)) | exact HB.out)) hb); clear HI0; clear HK; clear HB; have HO380 := n0_; have HI0 := n1_; have HK := n2_; have HB := n3_; clear n0_ n1_ n2_ n3_; clear hb ho25; have hcv26 := own_string (P := Tryd.prog) Tryd.underlying22 Tryd.underlying5 Tryd.underlying9 (Kd.own_of_R HO380.out)) | (go_at_call 48; (with_reducible refine (spec_l1Cur_pick.calls g s0_0 t376 t377 3 t381 t382 t383 w0 _ ?side1 ?side2 A14.out).mono ?_); (case side1 => repeat (first | (with_reducible first | exact HI0.out | apply J70.a | apply J70.n | apply J70.d | apply J70.s | apply J70.t) | exact HI0.out)); (case side2 => repeat (first | (with_reducible first | exact HB.out | apply Ba | apply Bn | apply Bd | refine Bs ?_ (J70.g HI0.out)) | exact HB.out)); rintro e w27 ⟨rfl, hi, hb, hk⟩; have n0_ := Am (Rm (Kd.R_keep (J70.apart (show J70 w0 _ g s0_0 t376 t377 from by repeat (first | (with_reducible first | exact HI0.out | apply J70.a | apply J70.n | apply J70.d | apply J70.s | apply J70.t) | exact HI0.out)) (by (with_reducible repeat (first | apply Ra | apply Rn | apply Rd)); exact HO380.out) (by decide)) hk (fun _ h => h.2)) (fun _ h => h.1)); have n1_ := Am (KeepBut.trans (by repeat (first | (with_reducible first | exact HK.out | apply Qs | apply Qn | apply Qd | apply Qa) | exact HK.out)) hk (.inl rfl)); have n2_ := Am (hb); have n3_ := Am (hi); clear HO380; clear HK; clear HB; clear HI0; have HO380 := n0_; have HK := n1_; have HB := n2_; have HI0 := n3_; clear n0_ n1_ n2_ n3_; (try clear hb); (try clear hb2); (try clear hk); (try clear hi)))
             repeat (go_quiet (first | (go_at_call 48; (with_reducible refine (spec_l1Cur_pick.calls g s0_0 x1001_1 x1002_1 (x1_1.size : Int) t372 t373 t374 w0 _ ?side1 ?side2 A9.out).mono ?_); (case side1 => repeat (first | (with_reducible first | exact HI0.out | apply J70.a | apply J70.n | apply J70.d | apply J70.s | apply J70.t) | exact HI0.out)); (case side2 => repeat (first | (with_reducible first | exact HB.out | apply Ba | apply Bn | apply Bd | refine Bs ?_ (J70.g HI0.out)) | exact HB.out)); rintro e w22 ⟨rfl, hi, hb, hk⟩; have n0_ := Am (KeepBut.trans (by repeat (first | (with_reducible first | exact HK.out | apply Qs | apply Qn | apply Qd | apply Qa) | exact HK.out)) hk (.inl rfl)); have n1_ := Am (hb); have n2_ := Am (hi); clear HK; clear HB; clear HI0; have HK := n0_; have HB := n1_; have HI0 := n2_; clear n0_ n1_ n2_; (try clear hb); (try clear hb2); (try clear hk); (try clear hi)) | (go_at_call 48; (with_reducible refine (spec_l1Cur_pick.calls g s0_0 t373 t374 (a2.size : Int) t375 t376 t377 w0 _ ?side1 ?side2 A10.out).mono ?_); (case side1 => repeat (first | (with_reducible first | exact HI0.out | apply J70.a | apply J70.n | apply J70.d | apply J70.s | apply J70.t) | exact HI0.out)); (case side2 => repeat (first | (with_reducible first | exact HB.out | apply Ba | apply Bn | apply Bd | refine Bs ?_ (J70.g HI0.out)) | exact HB.out)); rintro e w23 ⟨rfl, hi, hb, hk⟩; have n0_ := Am (KeepBut.trans (by repeat (first | (with_reducible first | exact HK.out | apply Qs | apply Qn | apply Qd | apply Qa) | exact HK.out)) hk (.inl rfl)); have n1_ := Am (hb); have n2_ := Am (hi); clear HK; clear HB; clear HI0; have HK := n0_; have HB := n1_; have HI0 := n2_; clear n0_ n1_ n2_; (try clear hb); (try clear hb2); (try clear hk); (try clear hi); have p13 : 0 ≤ (t375 : Int) := Oq (by assumption); have q13 : t375 < (a2.size : Int) := Oq (by assumption); have hx13 := bt_at a2 t375; replace p13 := eq_true p13; replace q13 := eq_true q13) | ((refine Gd (N := 32) rfl ?_); (try (refine gate_guard (by rfl) ?_; dsimp only)); refine Kd.R_lit (Kd.int .u8) _ 5 ?hg (N := 32) ?hd (xs := ([bt a2 t375] : List Int)) (inner := [.int .u8 (bt a2 t375)]) (ok := fun _ => True) (okp := fun _ => True) ?hr ?hp (fun _ hk => hk) trivial (Below.refl _ _) (Nat.le_refl _) (by simp) ?_; (case hd | hg => rfl); (case hr => go_simp <;> rfl); (case hp => exact (Reps.one (show Kd.M (Kd.int .u8) _ _ _ (bt a2 t375) [.int .u8 (bt a2 t375)] from rfl) (Reps.none _ _))); intro v379 w24 ho25 hb hg_ hnew_; clear hg_ hnew_; (first | rw [← Ny378.out] at ho25 | (simp only [Int.reduceToNat] at ho25; rw [← Ny378.out] at ho25)); have n0_ := Am (Kd.R_lower ho25 (keep_size (w := w) (g := g) (row := none) (by repeat (first | (with_reducible first | exact HK.out | apply Qs | apply Qn | apply Qd | apply Qa) | exact HK.out)))); have n1_ := Am (J70.below (by repeat (first | (with_reducible first | exact HI0.out | apply J70.a | apply J70.n | apply J70.d | apply J70.s | apply J70.t) | exact HI0.out)) hb); have n2_ := Am (KeepBut.trans (by repeat (first | (with_reducible first | exact HK.out | apply Qs | apply Qn | apply Qd | apply Qa) | exact HK.out)) (KeepBut.of_below hb g none) (.inl rfl)); have n3_ := Am (Bt (by repeat (first | (with_reducible first | exact HB.out | apply Ba | apply Bn | apply Bd | refine Bs ?_ (J70.g HI0.out)) | exact HB.out)) hb); clear HI0; clear HK; clear HB; have HO380 := n0_; have HI0 := n1_; have HK := n2_; have HB := n3_; clear n0_ n1_ n2_ n3_; clear hb ho25; have hcv26 := own_string (P := Tryd.prog) Tryd.underlying22 Tryd.underlying5 Tryd.underlying9 (Kd.own_of_R HO380.out)) | (go_at_call 48; (with_reducible refine (spec_l1Cur_pick.calls g s0_0 t376 t377 3 t381 t382 t383 w0 _ ?side1 ?side2 A14.out).mono ?_); (case side1 => repeat (first | (with_reducible first | exact HI0.out | apply J70.a | apply J70.n | apply J70.d | apply J70.s | apply J70.t) | exact HI0.out)); (case side2 => repeat (first | (with_reducible first | exact HB.out | apply Ba | apply Bn | apply Bd | refine Bs ?_ (J70.g HI0.out)) | exact HB.out)); rintro e w27 ⟨rfl, hi, hb, hk⟩; have n0_ := Am (Rm (Kd.R_keep (J70.apart (show J70 w0 _ g s0_0 t376 t377 from by repeat (first | (with_reducible first | exact HI0.out | apply J70.a | apply J70.n | apply J70.d | apply J70.s | apply J70.t) | exact HI0.out)) (by (with_reducible repeat (first | apply Ra | apply Rn | apply Rd)); exact HO380.out) (by decide)) hk (fun _ h => h.2)) (fun _ h => h.1)); have n1_ := Am (KeepBut.trans (by repeat (first | (with_reducible first | exact HK.out | apply Qs | apply Qn | apply Qd | apply Qa) | exact HK.out)) hk (.inl rfl)); have n2_ := Am (hb); have n3_ := Am (hi); clear HO380; clear HK; clear HB; clear HI0; have HO380 := n0_; have HK := n1_; have HB := n2_; have HI0 := n3_; clear n0_ n1_ n2_ n3_; (try clear hb); (try clear hb2); (try clear hk); (try clear hi))); try go_wp2_with (first | (go_at_call 48; (with_reducible refine (spec_l1Cur_pick.calls g s0_0 x1001_1 x1002_1 (x1_1.size : Int) t372 t373 t374 w0 _ ?side1 ?side2 A9.out).mono ?_); (case side1 => repeat (first | (with_reducible first | exact HI0.out | apply J70.a | apply J70.n | apply J70.d | apply J70.s | apply J70.t) | exact HI0.out)); (case side2 => repeat (first | (with_reducible first | exact HB.out | apply Ba | apply Bn | apply Bd | refine Bs ?_ (J70.g HI0.out)) | exact HB.out)); rintro e w22 ⟨rfl, hi, hb, hk⟩; have n0_ := Am (KeepBut.trans (by repeat (first | (with_reducible first | exact HK.out | apply Qs | apply Qn | apply Qd | apply Qa) | exact HK.out)) hk (.inl rfl)); have n1_ := Am (hb); have n2_ := Am (hi); clear HK; clear HB; clear HI0; have HK := n0_; have HB := n1_; have HI0 := n2_; clear n0_ n1_ n2_; (try clear hb); (try clear hb2); (try clear hk); (try clear hi)) | (go_at_call 48; (with_reducible refine (spec_l1Cur_pick.calls g s0_0 t373 t374 (a2.size : Int) t375 t376 t377 w0 _ ?side1 ?side2 A10.out).mono ?_); (case side1 => repeat (first | (with_reducible first | exact HI0.out | apply J70.a | apply J70.n | apply J70.d | apply J70.s | apply J70.t) | exact HI0.out)); (case side2 => repeat (first | (with_reducible first | exact HB.out | apply Ba | apply Bn | apply Bd | refine Bs ?_ (J70.g HI0.out)) | exact HB.out)); rintro e w23 ⟨rfl, hi, hb, hk⟩; have n0_ := Am (KeepBut.trans (by repeat (first | (with_reducible first | exact HK.out | apply Qs | apply Qn | apply Qd | apply Qa) | exact HK.out)) hk (.inl rfl)); have n1_ := Am (hb); have n2_ := Am (hi); clear HK; clear HB; clear HI0; have HK := n0_; have HB := n1_; have HI0 := n2_; clear n0_ n1_ n2_; (try clear hb); (try clear hb2); (try clear hk); (try clear hi); have p13 : 0 ≤ (t375 : Int) := Oq (by assumption); have q13 : t375 < (a2.size : Int) := Oq (by assumption); have hx13 := bt_at a2 t375; replace p13 := eq_true p13; replace q13 := eq_true q13) | ((refine Gd (N := 32) rfl ?_); (try (refine gate_guard (by rfl) ?_; dsimp only)); refine Kd.R_lit (Kd.int .u8) _ 5 ?hg (N := 32) ?hd (xs := ([bt a2 t375] : List Int)) (inner := [.int .u8 (bt a2 t375)]) (ok := fun _ => True) (okp := fun _ => True) ?hr ?hp (fun _ hk => hk) trivial (Below.refl _ _) (Nat.le_refl _) (by simp) ?_; (case hd | hg => rfl); (case hr => go_simp <;> rfl); (case hp => exact (Reps.one (show Kd.M (Kd.int .u8) _ _ _ (bt a2 t375) [.int .u8 (bt a2 t375)] from rfl) (Reps.none _ _))); intro v379 w24 ho25 hb hg_ hnew_; clear hg_ hnew_; (first | rw [← Ny378.out] at ho25 | (simp only [Int.reduceToNat] at ho25; rw [← Ny378.out] at ho25)); have n0_ := Am (Kd.R_lower ho25 (keep_size (w := w) (g := g) (row := none) (by repeat (first | (with_reducible first | exact HK.out | apply Qs | apply Qn | apply Qd | apply Qa) | exact HK.out)))); have n1_ := Am (J70.below (by repeat (first | (with_reducible first | exact HI0.out | apply J70.a | apply J70.n | apply J70.d | apply J70.s | apply J70.t) | exact HI0.out)) hb); have n2_ := Am (KeepBut.trans (by repeat (first | (with_reducible first | exact HK.out | apply Qs | apply Qn | apply Qd | apply Qa) | exact HK.out)) (KeepBut.of_below hb g none) (.inl rfl)); have n3_ := Am (Bt (by repeat (first | (with_reducible first | exact HB.out | apply Ba | apply Bn | apply Bd | refine Bs ?_ (J70.g HI0.out)) | exact HB.out)) hb); clear HI0; clear HK; clear HB; have HO380 := n0_; have HI0 := n1_; have HK := n2_; have HB := n3_; clear n0_ n1_ n2_ n3_; clear hb ho25; have hcv26 := own_string (P := Tryd.prog) Tryd.underlying22 Tryd.underlying5 Tryd.underlying9 (Kd.own_of_R HO380.out)) | (go_at_call 48; (with_reducible refine (spec_l1Cur_pick.calls g s0_0 t376 t377 3 t381 t382 t383 w0 _ ?side1 ?side2 A14.out).mono ?_); (case side1 => repeat (first | (with_reducible first | exact HI0.out | apply J70.a | apply J70.n | apply J70.d | apply J70.s | apply J70.t) | exact HI0.out)); (case side2 => repeat (first | (with_reducible first | exact HB.out | apply Ba | apply Bn | apply Bd | refine Bs ?_ (J70.g HI0.out)) | exact HB.out)); rintro e w27 ⟨rfl, hi, hb, hk⟩; have n0_ := Am (Rm (Kd.R_keep (J70.apart (show J70 w0 _ g s0_0 t376 t377 from by repeat (first | (with_reducible first | exact HI0.out | apply J70.a | apply J70.n | apply J70.d | apply J70.s | apply J70.t) | exact HI0.out)) (by (with_reducible repeat (first | apply Ra | apply Rn | apply Rd)); exact HO380.out) (by decide)) hk (fun _ h => h.2)) (fun _ h => h.1)); have n1_ := Am (KeepBut.trans (by repeat (first | (with_reducible first | exact HK.out | apply Qs | apply Qn | apply Qd | apply Qa) | exact HK.out)) hk (.inl rfl)); have n2_ := Am (hb); have n3_ := Am (hi); clear HO380; clear HK; clear HB; clear HI0; have HO380 := n0_; have HK := n1_; have HB := n2_; have HI0 := n3_; clear n0_ n1_ n2_ n3_; (try clear hb); (try clear hb2); (try clear hk); (try clear hi))))
             go_roundg kj5
             case measure => have := HK1.out; have := HJ5.out; omega
             case rel => exact ⟨(((x1_1.extract 0 (t372 : Int).toNat) ++ (strOfNums y378)) ++ (x1_1.extract (t372 : Int).toNat x1_1.size)), (wrap64 (x7_1 - 1)), (t382), (t383), (by first | rfl | (simp; done) | (simp [*]; done)), (by first | rfl | (simp; done) | (simp [*]; done)), H', ⟨by have := HK1.out; have := HJ5.out; omega⟩, ⟨by repeat (first | (with_reducible first | exact HI0.out | apply J70.a | apply J70.n | apply J70.d | apply J70.s | apply J70.t) | exact HI0.out)⟩, ⟨by repeat (first | (with_reducible first | exact HK.out | apply Qs | apply Qn | apply Qd | apply Qa) | exact HK.out)⟩, ⟨by repeat (first | (with_reducible first | exact HB.out | apply Ba | apply Bn | apply Bd | refine Bs ?_ (J70.g HI0.out)) | exact HB.out)⟩⟩
            ·rw [if_neg c21] at H
             exact absurd H (by simp)
           ·rw [if_neg c18] at H
            exact absurd H (by simp)
          ·rw [if_neg c17] at H
           exact absurd H (by simp)
         ·rw [if_neg c16] at H
          exact absurd H (by simp)
        ·rw [if_neg c15] at H
         have c15b0 : (t381 == 0) = false := beq_eq_false_iff_ne.mpr c15
         have c15b1 : (t381 != 0) = true := bne_iff_ne.mpr c15
         by_cases c28 : t381 = 1
         ·rw [if_pos c28] at H
          have c28b0 : (t381 == 1) = true := beq_iff_eq.mpr c28
          have c28b1 : (t381 != 1) = false := bne_eq_false_iff_eq.mpr c28
          clear c28
          by_cases c29 : 0 ≤ t372
          ·rw [if_pos c29] at H
           have c29b0 := eq_true c29
           have c29b1 : decide (0 ≤ t372) = true := Od c29
           clear c29
           by_cases c30 : t372 ≤ (x1_1.size : Int)
           ·rw [if_pos c30] at H
            have c30b0 := eq_true c30
            have c30b1 : decide (t372 ≤ (x1_1.size : Int)) = true := Od c30
            clear c30
            by_cases c31 : (x1_1.extract 0 (t372 : Int).toNat).size + (strOfNums y378).size ≤ 9223372036854775807
            ·rw [if_pos c31] at H
             have c31b0 := eq_true c31
             have c31b1 : decide ((x1_1.extract 0 (t372 : Int).toNat).size + (strOfNums y378).size ≤ 9223372036854775807) = true := Od c31
             try have c31b2 : (9223372036854775807 < (x1_1.extract 0 (t372 : Int).toNat).size + (strOfNums y378).size) = False := eq_false (Nat.not_lt.2 c31)
             obtain ⟨ji32, hji32⟩ : ∃ j_ : Int, (wrap64 (t372 + 1)) = j_ := ⟨_, rfl⟩
             replace H : (if 0 ≤ (ji32) then (if (ji32) ≤ (x1_1.size : Int) then (if ((x1_1.extract 0 (t372 : Int).toNat) ++ (strOfNums y378)).size + (x1_1.extract ((ji32) : Int).toNat x1_1.size).size ≤ 9223372036854775807 then (spec_l1Cur_spoilt.l0 kj5 (((x1_1.extract 0 (t372 : Int).toNat) ++ (strOfNums y378)) ++ (x1_1.extract ((ji32) : Int).toNat x1_1.size)) a2 (wrap64 (x7_1 - 1)) s0_0 t382 t383) else (none)) else (none)) else (none)) = some (r1, r2, r3) := by first | (rw [hji32] at H; exact H) | (simp only [hji32] at H ⊢; exact H)
             (try rw [hji32] at A9)
             (try rw [hji32] at A10)
             (try rw [hji32] at A14)
             have hji32w : (IntKind.i64.wrap (t372 + 1)) = ji32 := (i64_w _).trans hji32
             by_cases c33 : 0 ≤ (ji32)
             ·rw [if_pos c33] at H
              have c33b0 := eq_true c33
              have c33b1 : decide (0 ≤ (ji32)) = true := Od c33
              clear c33
              by_cases c34 : (ji32) ≤ (x1_1.size : Int)
              ·rw [if_pos c34] at H
               have c34b0 := eq_true c34
               have c34b1 : decide ((ji32) ≤ (x1_1.size : Int)) = true := Od c34
               clear c34
               by_cases c35 : ((x1_1.extract 0 (t372 : Int).toNat) ++ (strOfNums y378)).size + (x1_1.extract ((ji32) : Int).toNat x1_1.size).size ≤ 9223372036854775807
               ·rw [if_pos c35] at H
                have c35b0 := eq_true c35
                have c35b1 : decide (((x1_1.extract 0 (t372 : Int).toNat) ++ (strOfNums y378)).size + (x1_1.extract ((ji32) : Int).toNat x1_1.size).size ≤ 9223372036854775807) = true := Od c35
                try have c35b2 : (9223372036854775807 < ((x1_1.extract 0 (t372 : Int).toNat) ++ (strOfNums y378)).size + (x1_1.extract ((ji32) : Int).toNat x1_1.size).size) = False := eq_false (Nat.not_lt.2 c35)
                (try (have c35bx2 := c35b2; simp only [ByteArray.size_append, Int.natCast_add] at c35bx2))
                have H' := Am H
                clear H
                go_wp2_with (first | (go_at_call 48; (with_reducible refine (spec_l1Cur_pick.calls g s0_0 x1001_1 x1002_1 (x1_1.size : Int) t372 t373 t374 w0 _ ?side1 ?side2 A9.out).mono ?_); (case side1 => repeat (first | (with_reducible first | exact HI0.out | apply J70.a | apply J70.n | apply J70.d | apply J70.s | apply J70.t) | exact HI0.out)); (case side2 => repeat (first | (with_reducible first | exact HB.out | apply Ba | apply Bn | apply Bd | refine Bs ?_ (J70.g HI0.out)) | exact HB.out)); rintro e w36 ⟨rfl, hi, hb, hk⟩; have n0_ := Am (KeepBut.trans (by repeat (first | (with_reducible first | exact HK.out | apply Qs | apply Qn | apply Qd | apply Qa) | exact HK.out)) hk (.inl rfl)); have n1_ := Am (hb); have n2_ := Am (hi); clear HK; clear HB; clear HI0; have HK := n0_; have HB := n1_; have HI0 := n2_; clear n0_ n1_ n2_; (try clear hb); (try clear hb2); (try clear hk); (try clear hi)) | (go_at_call 48; (with_reducible refine (spec_l1Cur_pick.calls g s0_0 t373 t374 (a2.size : Int) t375 t376 t377 w0 _ ?side1 ?side2 A10.out).mono ?_); (case side1 => repeat (first | (with_reducible first | exact HI0.out | apply J70.a | apply J70.n | apply J70.d | apply J70.s | apply J70.t) | exact HI0.out)); (case side2 => repeat (first | (with_reducible first | exact HB.out | apply Ba | apply Bn | apply Bd | refine Bs ?_ (J70.g HI0.out)) | exact HB.out)); rintro e w37 ⟨rfl, hi, hb, hk⟩; have n0_ := Am (KeepBut.trans (by repeat (first | (with_reducible first | exact HK.out | apply Qs | apply Qn | apply Qd | apply Qa) | exact HK.out)) hk (.inl rfl)); have n1_ := Am (hb); have n2_ := Am (hi); clear HK; clear HB; clear HI0; have HK := n0_; have HB := n1_; have HI0 := n2_; clear n0_ n1_ n2_; (try clear hb); (try clear hb2); (try clear hk); (try clear hi); have p13 : 0 ≤ (t375 : Int) := Oq (by assumption); have q13 : t375 < (a2.size : Int) := Oq (by assumption); have hx13 := bt_at a2 t375; replace p13 := eq_true p13; replace q13 := eq_true q13) | ((refine Gd (N := 32) rfl ?_); (try (refine gate_guard (by rfl) ?_; dsimp only)); refine Kd.R_lit (Kd.int .u8) _ 5 ?hg (N := 32) ?hd (xs := ([bt a2 t375] : List Int)) (inner := [.int .u8 (bt a2 t375)]) (ok := fun _ => True) (okp := fun _ => True) ?hr ?hp (fun _ hk => hk) trivial (Below.refl _ _) (Nat.le_refl _) (by simp) ?_; (case hd | hg => rfl); (case hr => go_simp <;> rfl); (case hp => exact (Reps.one (show Kd.M (Kd.int .u8) _ _ _ (bt a2 t375) [.int .u8 (bt a2 t375)] from rfl) (Reps.none _ _))); intro v379 w38 ho39 hb hg_ hnew_; clear hg_ hnew_; (first | rw [← Ny378.out] at ho39 | (simp only [Int.reduceToNat] at ho39; rw [← Ny378.out] at ho39)); have n0_ := Am (Kd.R_lower ho39 (keep_size (w := w) (g := g) (row := none) (by repeat (first | (with_reducible first | exact HK.out | apply Qs | apply Qn | apply Qd | apply Qa) | exact HK.out)))); have n1_ := Am (J70.below (by repeat (first | (with_reducible first | exact HI0.out | apply J70.a | apply J70.n | apply J70.d | apply J70.s | apply J70.t) | exact HI0.out)) hb); have n2_ := Am (KeepBut.trans (by repeat (first | (with_reducible first | exact HK.out | apply Qs | apply Qn | apply Qd | apply Qa) | exact HK.out)) (KeepBut.of_below hb g none) (.inl rfl)); have n3_ := Am (Bt (by repeat (first | (with_reducible first | exact HB.out | apply Ba | apply Bn | apply Bd | refine Bs ?_ (J70.g HI0.out)) | exact HB.out)) hb); clear HI0; clear HK; clear HB; have HO380 := n0_; have HI0 := n1_; have HK := n2_; have HB := n3_; clear n0_ n1_ n2_ n3_; clear hb ho39; have hcv40 := own_string (P := Tryd.prog) Tryd.underlying22 Tryd.underlying5 Tryd.underlying9 (Kd.own_of_R HO380.out)) | (go_at_call 48; (with_reducible refine (spec_l1Cur_pick.calls g s0_0 t376 t377 3 t381 t382 t383 w0 _ ?side1 ?side2 A14.out).mono ?_); (case side1 => repeat (first | (with_reducible first | exact HI0.out | apply J70.a | apply J70.n | apply J70.d | apply J70.s | apply J70.t) | exact HI0.out)); (case side2 => repeat (first | (with_reducible first | exact HB.out | apply Ba | apply Bn | apply Bd | refine Bs ?_ (J70.g HI0.out)) | exact HB.out)); rintro e w41 ⟨rfl, hi, hb, hk⟩; have n0_ := Am (Rm (Kd.R_keep (J70.apart (show J70 w0 _ g s0_0 t376 t377 from by repeat (first | (with_reducible first | exact HI0.out | apply J70.a | apply J70.n | apply J70.d | apply J70.s | apply J70.t) | exact HI0.out)) (by (with_reducible repeat (first | apply Ra | apply Rn | apply Rd)); exact HO380.out) (by decide)) hk (fun _ h => h.2)) (fun _ h => h.1)); have n1_ := Am (KeepBut.trans (by repeat (first | (with_reducible first | exact HK.out | apply Qs | apply Qn | apply Qd | apply Qa) | exact HK.out)) hk (.inl rfl)); have n2_ := Am (hb); have n3_ := Am (hi); clear HO380; clear HK; clear HB; clear HI0; have HO380 := n0_; have HK := n1_; have HB := n2_; have HI0 := n3_; clear n0_ n1_ n2_ n3_; (try clear hb); (try clear hb2); (try clear hk); (try clear hi)))
                repeat (go_quiet (first | (go_at_call 48; (with_reducible refine (spec_l1Cur_pick.calls g s0_0 x1001_1 x1002_1 (x1_1.size : Int) t372 t373 t374 w0 _ ?side1 ?side2 A9.out).mono ?_); (case side1 => repeat (first | (with_reducible first | exact HI0.out | apply J70.a | apply J70.n | apply J70.d | apply J70.s | apply J70.t) | exact HI0.out)); (case side2 => repeat (first | (with_reducible first | exact HB.out | apply Ba | apply Bn | apply Bd | refine Bs ?_ (J70.g HI0.out)) | exact HB.out)); rintro e w36 ⟨rfl, hi, hb, hk⟩; have n0_ := Am (KeepBut.trans (by repeat (first | (with_reducible first | exact HK.out | apply Qs | apply Qn | apply Qd | apply Qa) | exact HK.out)) hk (.inl rfl)); have n1_ := Am (hb); have n2_ := Am (hi); clear HK; clear HB; clear HI0; have HK := n0_; have HB := n1_; have HI0 := n2_; clear n0_ n1_ n2_; (try clear hb); (try clear hb2); (try clear hk); (try clear hi)) | (go_at_call 48; (with_reducible refine (spec_l1Cur_pick.calls g s0_0 t373 t374 (a2.size : Int) t375 t376 t377 w0 _ ?side1 ?side2 A10.out).mono ?_); (case side1 => repeat (first | (with_reducible first | exact HI0.out | apply J70.a | apply J70.n | apply J70.d | apply J70.s | apply J70.t) | exact HI0.out)); (case side2 => repeat (first | (with_reducible first | exact HB.out | apply Ba | apply Bn | apply Bd | refine Bs ?_ (J70.g HI0.out)) | exact HB.out)); rintro e w37 ⟨rfl, hi, hb, hk⟩; have n0_ := Am (KeepBut.trans (by repeat (first | (with_reducible first | exact HK.out | apply Qs | apply Qn | apply Qd | apply Qa) | exact HK.out)) hk (.inl rfl)); have n1_ := Am (hb); have n2_ := Am (hi); clear HK; clear HB; clear HI0; have HK := n0_; have HB := n1_; have HI0 := n2_; clear n0_ n1_ n2_; (try clear hb); (try clear hb2); (try clear hk); (try clear hi); have p13 : 0 ≤ (t375 : Int) := Oq (by assumption); have q13 : t375 < (a2.size : Int) := Oq (by assumption); have hx13 := bt_at a2 t375; replace p13 := eq_true p13; replace q13 := eq_true q13) | ((refine Gd (N := 32) rfl ?_); (try (refine gate_guard (by rfl) ?_; dsimp only)); refine Kd.R_lit (Kd.int .u8) _ 5 ?hg (N := 32) ?hd (xs := ([bt a2 t375] : List Int)) (inner := [.int .u8 (bt a2 t375)]) (ok := fun _ => True) (okp := fun _ => True) ?hr ?hp (fun _ hk => hk) trivial (Below.refl _ _) (Nat.le_refl _) (by simp) ?_; (case hd | hg => rfl); (case hr => go_simp <;> rfl); (case hp => exact (Reps.one (show Kd.M (Kd.int .u8) _ _ _ (bt a2 t375) [.int .u8 (bt a2 t375)] from rfl) (Reps.none _ _))); intro v379 w38 ho39 hb hg_ hnew_; clear hg_ hnew_; (first | rw [← Ny378.out] at ho39 | (simp only [Int.reduceToNat] at ho39; rw [← Ny378.out] at ho39)); have n0_ := Am (Kd.R_lower ho39 (keep_size (w := w) (g := g) (row := none) (by repeat (first | (with_reducible first | exact HK.out | apply Qs | apply Qn | apply Qd | apply Qa) | exact HK.out)))); have n1_ := Am (J70.below (by repeat (first | (with_reducible first | exact HI0.out | apply J70.a | apply J70.n | apply J70.d | apply J70.s | apply J70.t) | exact HI0.out)) hb); have n2_ := Am (KeepBut.trans (by repeat (first | (with_reducible first | exact HK.out | apply Qs | apply Qn | apply Qd | apply Qa) | exact HK.out)) (KeepBut.of_below hb g none) (.inl rfl)); have n3_ := Am (Bt (by repeat (first | (with_reducible first | exact HB.out | apply Ba | apply Bn | apply Bd | refine Bs ?_ (J70.g HI0.out)) | exact HB.out)) hb); clear HI0; clear HK; clear HB; have HO380 := n0_; have HI0 := n1_; have HK := n2_; have HB := n3_; clear n0_ n1_ n2_ n3_; clear hb ho39; have hcv40 := own_string (P := Tryd.prog) Tryd.underlying22 Tryd.underlying5 Tryd.underlying9 (Kd.own_of_R HO380.out)) | (go_at_call 48; (with_reducible refine (spec_l1Cur_pick.calls g s0_0 t376 t377 3 t381 t382 t383 w0 _ ?side1 ?side2 A14.out).mono ?_); (case side1 => repeat (first | (with_reducible first | exact HI0.out | apply J70.a | apply J70.n | apply J70.d | apply J70.s | apply J70.t) | exact HI0.out)); (case side2 => repeat (first | (with_reducible first | exact HB.out | apply Ba | apply Bn | apply Bd | refine Bs ?_ (J70.g HI0.out)) | exact HB.out)); rintro e w41 ⟨rfl, hi, hb, hk⟩; have n0_ := Am (Rm (Kd.R_keep (J70.apart (show J70 w0 _ g s0_0 t376 t377 from by repeat (first | (with_reducible first | exact HI0.out | apply J70.a | apply J70.n | apply J70.d | apply J70.s | apply J70.t) | exact HI0.out)) (by (with_reducible repeat (first | apply Ra | apply Rn | apply Rd)); exact HO380.out) (by decide)) hk (fun _ h => h.2)) (fun _ h => h.1)); have n1_ := Am (KeepBut.trans (by repeat (first | (with_reducible first | exact HK.out | apply Qs | apply Qn | apply Qd | apply Qa) | exact HK.out)) hk (.inl rfl)); have n2_ := Am (hb); have n3_ := Am (hi); clear HO380; clear HK; clear HB; clear HI0; have HO380 := n0_; have HK := n1_; have HB := n2_; have HI0 := n3_; clear n0_ n1_ n2_ n3_; (try clear hb); (try clear hb2); (try clear hk); (try clear hi))); try go_wp2_with (first | (go_at_call 48; (with_reducible refine (spec_l1Cur_pick.calls g s0_0 x1001_1 x1002_1 (x1_1.size : Int) t372 t373 t374 w0 _ ?side1 ?side2 A9.out).mono ?_); (case side1 => repeat (first | (with_reducible first | exact HI0.out | apply J70.a | apply J70.n | apply J70.d | apply J70.s | apply J70.t) | exact HI0.out)); (case side2 => repeat (first | (with_reducible first | exact HB.out | apply Ba | apply Bn | apply Bd | refine Bs ?_ (J70.g HI0.out)) | exact HB.out)); rintro e w36 ⟨rfl, hi, hb, hk⟩; have n0_ := Am (KeepBut.trans (by repeat (first | (with_reducible first | exact HK.out | apply Qs | apply Qn | apply Qd | apply Qa) | exact HK.out)) hk (.inl rfl)); have n1_ := Am (hb); have n2_ := Am (hi); clear HK; clear HB; clear HI0; have HK := n0_; have HB := n1_; have HI0 := n2_; clear n0_ n1_ n2_; (try clear hb); (try clear hb2); (try clear hk); (try clear hi)) | (go_at_call 48; (with_reducible refine (spec_l1Cur_pick.calls g s0_0 t373 t374 (a2.size : Int) t375 t376 t377 w0 _ ?side1 ?side2 A10.out).mono ?_); (case side1 => repeat (first | (with_reducible first | exact HI0.out | apply J70.a | apply J70.n | apply J70.d | apply J70.s | apply J70.t) | exact HI0.out)); (case side2 => repeat (first | (with_reducible first | exact HB.out | apply Ba | apply Bn | apply Bd | refine Bs ?_ (J70.g HI0.out)) | exact HB.out)); rintro e w37 ⟨rfl, hi, hb, hk⟩; have n0_ := Am (KeepBut.trans (by repeat (first | (with_reducible first | exact HK.out | apply Qs | apply Qn | apply Qd | apply Qa) | exact HK.out)) hk (.inl rfl)); have n1_ := Am (hb); have n2_ := Am (hi); clear HK; clear HB; clear HI0; have HK := n0_; have HB := n1_; have HI0 := n2_; clear n0_ n1_ n2_; (try clear hb); (try clear hb2); (try clear hk); (try clear hi); have p13 : 0 ≤ (t375 : Int) := Oq (by assumption); have q13 : t375 < (a2.size : Int) := Oq (by assumption); have hx13 := bt_at a2 t375; replace p13 := eq_true p13; replace q13 := eq_true q13) | ((refine Gd (N := 32) rfl ?_); (try (refine gate_guard (by rfl) ?_; dsimp only)); refine Kd.R_lit (Kd.int .u8) _ 5 ?hg (N := 32) ?hd (xs := ([bt a2 t375] : List Int)) (inner := [.int .u8 (bt a2 t375)]) (ok := fun _ => True) (okp := fun _ => True) ?hr ?hp (fun _ hk => hk) trivial (Below.refl _ _) (Nat.le_refl _) (by simp) ?_; (case hd | hg => rfl); (case hr => go_simp <;> rfl); (case hp => exact (Reps.one (show Kd.M (Kd.int .u8) _ _ _ (bt a2 t375) [.int .u8 (bt a2 t375)] from rfl) (Reps.none _ _))); intro v379 w38 ho39 hb hg_ hnew_; clear hg_ hnew_; (first | rw [← Ny378.out] at ho39 | (simp only [Int.reduceToNat] at ho39; rw [← Ny378.out] at ho39)); have n0_ := Am (Kd.R_lower ho39 (keep_size (w := w) (g := g) (row := none) (by repeat (first | (with_reducible first | exact HK.out | apply Qs | apply Qn | apply Qd | apply Qa) | exact HK.out)))); have n1_ := Am (J70.below (by repeat (first | (with_reducible first | exact HI0.out | apply J70.a | apply J70.n | apply J70.d | apply J70.s | apply J70.t) | exact HI0.out)) hb); have n2_ := Am (KeepBut.trans (by repeat (first | (with_reducible first | exact HK.out | apply Qs | apply Qn | apply Qd | apply Qa) | exact HK.out)) (KeepBut.of_below hb g none) (.inl rfl)); have n3_ := Am (Bt (by repeat (first | (with_reducible first | exact HB.out | apply Ba | apply Bn | apply Bd | refine Bs ?_ (J70.g HI0.out)) | exact HB.out)) hb); clear HI0; clear HK; clear HB; have HO380 := n0_; have HI0 := n1_; have HK := n2_; have HB := n3_; clear n0_ n1_ n2_ n3_; clear hb ho39; have hcv40 := own_string (P := Tryd.prog) Tryd.underlying22 Tryd.underlying5 Tryd.underlying9 (Kd.own_of_R HO380.out)) | (go_at_call 48; (with_reducible refine (spec_l1Cur_pick.calls g s0_0 t376 t377 3 t381 t382 t383 w0 _ ?side1 ?side2 A14.out).mono ?_); (case side1 => repeat (first | (with_reducible first | exact HI0.out | apply J70.a | apply J70.n | apply J70.d | apply J70.s | apply J70.t) | exact HI0.out)); (case side2 => repeat (first | (with_reducible first | exact HB.out | apply Ba | apply Bn | apply Bd | refine Bs ?_ (J70.g HI0.out)) | exact HB.out)); rintro e w41 ⟨rfl, hi, hb, hk⟩; have n0_ := Am (Rm (Kd.R_keep (J70.apart (show J70 w0 _ g s0_0 t376 t377 from by repeat (first | (with_reducible first | exact HI0.out | apply J70.a | apply J70.n | apply J70.d | apply J70.s | apply J70.t) | exact HI0.out)) (by (with_reducible repeat (first | apply Ra | apply Rn | apply Rd)); exact HO380.out) (by decide)) hk (fun _ h => h.2)) (fun _ h => h.1)); have n1_ := Am (KeepBut.trans (by repeat (first | (with_reducible first | exact HK.out | apply Qs | apply Qn | apply Qd | apply Qa) | exact HK.out)) hk (.inl rfl)); have n2_ := Am (hb); have n3_ := Am (hi); clear HO380; clear HK; clear HB; clear HI0; have HO380 := n0_; have HK := n1_; have HB := n2_; have HI0 := n3_; clear n0_ n1_ n2_ n3_; (try clear hb); (try clear hb2); (try clear hk); (try clear hi))))
                go_roundg kj5
                case measure => have := HK1.out; have := HJ5.out; omega
                case rel => exact ⟨(((x1_1.extract 0 (t372 : Int).toNat) ++ (strOfNums y378)) ++ (x1_1.extract ((ji32) : Int).toNat x1_1.size)), (wrap64 (x7_1 - 1)), (t382), (t383), (by first | rfl | (simp; done) | (simp only [← hji32] <;> (first | rfl | simp)) | (simp [*]; done)), (by first | rfl | (simp; done) | (simp [*]; done)), H', ⟨by have := HK1.out; have := HJ5.out; omega⟩, ⟨by repeat (first | (with_reducible first | exact HI0.out | apply J70.a | apply J70.n | apply J70.d | apply J70.s | apply J70.t) | exact HI0.out)⟩, ⟨by repeat (first | (with_reducible first | exact HK.out | apply Qs | apply Qn | apply Qd | apply Qa) | exact HK.out)⟩, ⟨by repeat (first | (with_reducible first | exact HB.out | apply Ba | apply Bn | apply Bd | refine Bs ?_ (J70.g HI0.out)) | exact HB.out)⟩⟩
               ·rw [if_neg c35] at H
                exact absurd H (by simp)
              ·rw [if_neg c34] at H
               exact absurd H (by simp)
             ·rw [if_neg c33] at H
              exact absurd H (by simp)
            ·rw [if_neg c31] at H
             exact absurd H (by simp)
           ·rw [if_neg c30] at H
            exact absurd H (by simp)
          ·rw [if_neg c29] at H
           exact absurd H (by simp)
         ·rw [if_neg c28] at H
          have c28b0 : (t381 == 1) = false := beq_eq_false_iff_ne.mpr c28
          have c28b1 : (t381 != 1) = true := bne_iff_ne.mpr c28
          by_cases c42 : 0 ≤ t372
          ·rw [if_pos c42] at H
           have c42b0 := eq_true c42
           have c42b1 : decide (0 ≤ t372) = true := Od c42
           clear c42
           by_cases c43 : t372 ≤ (x1_1.size : Int)
           ·rw [if_pos c43] at H
            have c43b0 := eq_true c43
            have c43b1 : decide (t372 ≤ (x1_1.size : Int)) = true := Od c43
            clear c43
            obtain ⟨ji44, hji44⟩ : ∃ j_ : Int, (wrap64 (t372 + 1)) = j_ := ⟨_, rfl⟩
            replace H : (if 0 ≤ (ji44) then (if (ji44) ≤ (x1_1.size : Int) then (if (x1_1.extract 0 (t372 : Int).toNat).size + (x1_1.extract ((ji44) : Int).toNat x1_1.size).size ≤ 9223372036854775807 then (spec_l1Cur_spoilt.l0 kj5 ((x1_1.extract 0 (t372 : Int).toNat) ++ (x1_1.extract ((ji44) : Int).toNat x1_1.size)) a2 (wrap64 (x7_1 - 1)) s0_0 t382 t383) else (none)) else (none)) else (none)) = some (r1, r2, r3) := by first | (rw [hji44] at H; exact H) | (simp only [hji44] at H ⊢; exact H)
            (try rw [hji44] at A9)
            (try rw [hji44] at A10)
            (try rw [hji44] at A14)
            have hji44w : (IntKind.i64.wrap (t372 + 1)) = ji44 := (i64_w _).trans hji44
            by_cases c45 : 0 ≤ (ji44)
            ·rw [if_pos c45] at H
             have c45b0 := eq_true c45
             have c45b1 : decide (0 ≤ (ji44)) = true := Od c45
             clear c45
             by_cases c46 : (ji44) ≤ (x1_1.size : Int)
             ·rw [if_pos c46] at H
              have c46b0 := eq_true c46
              have c46b1 : decide ((ji44) ≤ (x1_1.size : Int)) = true := Od c46
              clear c46
              by_cases c47 : (x1_1.extract 0 (t372 : Int).toNat).size + (x1_1.extract ((ji44) : Int).toNat x1_1.size).size ≤ 9223372036854775807
              ·rw [if_pos c47] at H
               have c47b0 := eq_true c47
               have c47b1 : decide ((x1_1.extract 0 (t372 : Int).toNat).size + (x1_1.extract ((ji44) : Int).toNat x1_1.size).size ≤ 9223372036854775807) = true := Od c47
               try have c47b2 : (9223372036854775807 < (x1_1.extract 0 (t372 : Int).toNat).size + (x1_1.extract ((ji44) : Int).toNat x1_1.size).size) = False := eq_false (Nat.not_lt.2 c47)
               have H' := Am H
               clear H
               go_wp2_with (first | (go_at_call 48; (with_reducible refine (spec_l1Cur_pick.calls g s0_0 x1001_1 x1002_1 (x1_1.size : Int) t372 t373 t374 w0 _ ?side1 ?side2 A9.out).mono ?_); (case side1 => repeat (first | (with_reducible first | exact HI0.out | apply J70.a | apply J70.n | apply J70.d | apply J70.s | apply J70.t) | exact HI0.out)); (case side2 => repeat (first | (with_reducible first | exact HB.out | apply Ba | apply Bn | apply Bd | refine Bs ?_ (J70.g HI0.out)) | exact HB.out)); rintro e w48 ⟨rfl, hi, hb, hk⟩; have n0_ := Am (KeepBut.trans (by repeat (first | (with_reducible first | exact HK.out | apply Qs | apply Qn | apply Qd | apply Qa) | exact HK.out)) hk (.inl rfl)); have n1_ := Am (hb); have n2_ := Am (hi); clear HK; clear HB; clear HI0; have HK := n0_; have HB := n1_; have HI0 := n2_; clear n0_ n1_ n2_; (try clear hb); (try clear hb2); (try clear hk); (try clear hi)) | (go_at_call 48; (with_reducible refine (spec_l1Cur_pick.calls g s0_0 t373 t374 (a2.size : Int) t375 t376 t377 w0 _ ?side1 ?side2 A10.out).mono ?_); (case side1 => repeat (first | (with_reducible first | exact HI0.out | apply J70.a | apply J70.n | apply J70.d | apply J70.s | apply J70.t) | exact HI0.out)); (case side2 => repeat (first | (with_reducible first | exact HB.out | apply Ba | apply Bn | apply Bd | refine Bs ?_ (J70.g HI0.out)) | exact HB.out)); rintro e w49 ⟨rfl, hi, hb, hk⟩; have n0_ := Am (KeepBut.trans (by repeat (first | (with_reducible first | exact HK.out | apply Qs | apply Qn | apply Qd | apply Qa) | exact HK.out)) hk (.inl rfl)); have n1_ := Am (hb); have n2_ := Am (hi); clear HK; clear HB; clear HI0; have HK := n0_; have HB := n1_; have HI0 := n2_; clear n0_ n1_ n2_; (try clear hb); (try clear hb2); (try clear hk); (try clear hi); have p13 : 0 ≤ (t375 : Int) := Oq (by assumption); have q13 : t375 < (a2.size : Int) := Oq (by assumption); have hx13 := bt_at a2 t375; replace p13 := eq_true p13; replace q13 := eq_true q13) | ((refine Gd (N := 32) rfl ?_); (try (refine gate_guard (by rfl) ?_; dsimp only)); refine Kd.R_lit (Kd.int .u8) _ 5 ?hg (N := 32) ?hd (xs := ([bt a2 t375] : List Int)) (inner := [.int .u8 (bt a2 t375)]) (ok := fun _ => True) (okp := fun _ => True) ?hr ?hp (fun _ hk => hk) trivial (Below.refl _ _) (Nat.le_refl _) (by simp) ?_; (case hd | hg => rfl); (case hr => go_simp <;> rfl); (case hp => exact (Reps.one (show Kd.M (Kd.int .u8) _ _ _ (bt a2 t375) [.int .u8 (bt a2 t375)] from rfl) (Reps.none _ _))); intro v379 w50 ho51 hb hg_ hnew_; clear hg_ hnew_; (first | rw [← Ny378.out] at ho51 | (simp only [Int.reduceToNat] at ho51; rw [← Ny378.out] at ho51)); have n0_ := Am (Kd.R_lower ho51 (keep_size (w := w) (g := g) (row := none) (by repeat (first | (with_reducible first | exact HK.out | apply Qs | apply Qn | apply Qd | apply Qa) | exact HK.out)))); have n1_ := Am (J70.below (by repeat (first | (with_reducible first | exact HI0.out | apply J70.a | apply J70.n | apply J70.d | apply J70.s | apply J70.t) | exact HI0.out)) hb); have n2_ := Am (KeepBut.trans (by repeat (first | (with_reducible first | exact HK.out | apply Qs | apply Qn | apply Qd | apply Qa) | exact HK.out)) (KeepBut.of_below hb g none) (.inl rfl)); have n3_ := Am (Bt (by repeat (first | (with_reducible first | exact HB.out | apply Ba | apply Bn | apply Bd | refine Bs ?_ (J70.g HI0.out)) | exact HB.out)) hb); clear HI0; clear HK; clear HB; have HO380 := n0_; have HI0 := n1_; have HK := n2_; have HB := n3_; clear n0_ n1_ n2_ n3_; clear hb ho51; have hcv52 := own_string (P := Tryd.prog) Tryd.underlying22 Tryd.underlying5 Tryd.underlying9 (Kd.own_of_R HO380.out)) | (go_at_call 48; (with_reducible refine (spec_l1Cur_pick.calls g s0_0 t376 t377 3 t381 t382 t383 w0 _ ?side1 ?side2 A14.out).mono ?_); (case side1 => repeat (first | (with_reducible first | exact HI0.out | apply J70.a | apply J70.n | apply J70.d | apply J70.s | apply J70.t) | exact HI0.out)); (case side2 => repeat (first | (with_reducible first | exact HB.out | apply Ba | apply Bn | apply Bd | refine Bs ?_ (J70.g HI0.out)) | exact HB.out)); rintro e w53 ⟨rfl, hi, hb, hk⟩; have n0_ := Am (Rm (Kd.R_keep (J70.apart (show J70 w0 _ g s0_0 t376 t377 from by repeat (first | (with_reducible first | exact HI0.out | apply J70.a | apply J70.n | apply J70.d | apply J70.s | apply J70.t) | exact HI0.out)) (by (with_reducible repeat (first | apply Ra | apply Rn | apply Rd)); exact HO380.out) (by decide)) hk (fun _ h => h.2)) (fun _ h => h.1)); have n1_ := Am (KeepBut.trans (by repeat (first | (with_reducible first | exact HK.out | apply Qs | apply Qn | apply Qd | apply Qa) | exact HK.out)) hk (.inl rfl)); have n2_ := Am (hb); have n3_ := Am (hi); clear HO380; clear HK; clear HB; clear HI0; have HO380 := n0_; have HK := n1_; have HB := n2_; have HI0 := n3_; clear n0_ n1_ n2_ n3_; (try clear hb); (try clear hb2); (try clear hk); (try clear hi)))
               repeat (go_quiet (first | (go_at_call 48; (with_reducible refine (spec_l1Cur_pick.calls g s0_0 x1001_1 x1002_1 (x1_1.size : Int) t372 t373 t374 w0 _ ?side1 ?side2 A9.out).mono ?_); (case side1 => repeat (first | (with_reducible first | exact HI0.out | apply J70.a | apply J70.n | apply J70.d | apply J70.s | apply J70.t) | exact HI0.out)); (case side2 => repeat (first | (with_reducible first | exact HB.out | apply Ba | apply Bn | apply Bd | refine Bs ?_ (J70.g HI0.out)) | exact HB.out)); rintro e w48 ⟨rfl, hi, hb, hk⟩; have n0_ := Am (KeepBut.trans (by repeat (first | (with_reducible first | exact HK.out | apply Qs | apply Qn | apply Qd | apply Qa) | exact HK.out)) hk (.inl rfl)); have n1_ := Am (hb); have n2_ := Am (hi); clear HK; clear HB; clear HI0; have HK := n0_; have HB := n1_; have HI0 := n2_; clear n0_ n1_ n2_; (try clear hb); (try clear hb2); (try clear hk); (try clear hi)) | (go_at_call 48; (with_reducible refine (spec_l1Cur_pick.calls g s0_0 t373 t374 (a2.size : Int) t375 t376 t377 w0 _ ?side1 ?side2 A10.out).mono ?_); (case side1 => repeat (first | (with_reducible first | exact HI0.out | apply J70.a | apply J70.n | apply J70.d | apply J70.s | apply J70.t) | exact HI0.out)); (case side2 => repeat (first | (with_reducible first | exact HB.out | apply Ba | apply Bn | apply Bd | refine Bs ?_ (J70.g HI0.out)) | exact HB.out)); rintro e w49 ⟨rfl, hi, hb, hk⟩; have n0_ := Am (KeepBut.trans (by repeat (first | (with_reducible first | exact HK.out | apply Qs | apply Qn | apply Qd | apply Qa) | exact HK.out)) hk (.inl rfl)); have n1_ := Am (hb); have n2_ := Am (hi); clear HK; clear HB; clear HI0; have HK := n0_; have HB := n1_; have HI0 := n2_; clear n0_ n1_ n2_; (try clear hb); (try clear hb2); (try clear hk); (try clear hi); have p13 : 0 ≤ (t375 : Int) := Oq (by assumption); have q13 : t375 < (a2.size : Int) := Oq (by assumption); have hx13 := bt_at a2 t375; replace p13 := eq_true p13; replace q13 := eq_true q13) | ((refine Gd (N := 32) rfl ?_); (try (refine gate_guard (by rfl) ?_; dsimp only)); refine Kd.R_lit (Kd.int .u8) _ 5 ?hg (N := 32) ?hd (xs := ([bt a2 t375] : List Int)) (inner := [.int .u8 (bt a2 t375)]) (ok := fun _ => True) (okp := fun _ => True) ?hr ?hp (fun _ hk => hk) trivial (Below.refl _ _) (Nat.le_refl _) (by simp) ?_; (case hd | hg => rfl); (case hr => go_simp <;> rfl); (case hp => exact (Reps.one (show Kd.M (Kd.int .u8) _ _ _ (bt a2 t375) [.int .u8 (bt a2 t375)] from rfl) (Reps.none _ _))); intro v379 w50 ho51 hb hg_ hnew_; clear hg_ hnew_; (first | rw [← Ny378.out] at ho51 | (simp only [Int.reduceToNat] at ho51; rw [← Ny378.out] at ho51)); have n0_ := Am (Kd.R_lower ho51 (keep_size (w := w) (g := g) (row := none) (by repeat (first | (with_reducible first | exact HK.out | apply Qs | apply Qn | apply Qd | apply Qa) | exact HK.out)))); have n1_ := Am (J70.below (by repeat (first | (with_reducible first | exact HI0.out | apply J70.a | apply J70.n | apply J70.d | apply J70.s | apply J70.t) | exact HI0.out)) hb); have n2_ := Am (KeepBut.trans (by repeat (first | (with_reducible first | exact HK.out | apply Qs | apply Qn | apply Qd | apply Qa) | exact HK.out)) (KeepBut.of_below hb g none) (.inl rfl)); have n3_ := Am (Bt (by repeat (first | (with_reducible first | exact HB.out | apply Ba | apply Bn | apply Bd | refine Bs ?_ (J70.g HI0.out)) | exact HB.out)) hb); clear HI0; clear HK; clear HB; have HO380 := n0_; have HI0 := n1_; have HK := n2_; have HB := n3_; clear n0_ n1_ n2_ n3_; clear hb ho51; have hcv52 := own_string (P := Tryd.prog) Tryd.underlying22 Tryd.underlying5 Tryd.underlying9 (Kd.own_of_R HO380.out)) | (go_at_call 48; (with_reducible refine (spec_l1Cur_pick.calls g s0_0 t376 t377 3 t381 t382 t383 w0 _ ?side1 ?side2 A14.out).mono ?_); (case side1 => repeat (first | (with_reducible first | exact HI0.out | apply J70.a | apply J70.n | apply J70.d | apply J70.s | apply J70.t) | exact HI0.out)); (case side2 => repeat (first | (with_reducible first | exact HB.out | apply Ba | apply Bn | apply Bd | refine Bs ?_ (J70.g HI0.out)) | exact HB.out)); rintro e w53 ⟨rfl, hi, hb, hk⟩; have n0_ := Am (Rm (Kd.R_keep (J70.apart (show J70 w0 _ g s0_0 t376 t377 from by repeat (first | (with_reducible first | exact HI0.out | apply J70.a | apply J70.n | apply J70.d | apply J70.s | apply J70.t) | exact HI0.out)) (by (with_reducible repeat (first | apply Ra | apply Rn | apply Rd)); exact HO380.out) (by decide)) hk (fun _ h => h.2)) (fun _ h => h.1)); have n1_ := Am (KeepBut.trans (by repeat (first | (with_reducible first | exact HK.out | apply Qs | apply Qn | apply Qd | apply Qa) | exact HK.out)) hk (.inl rfl)); have n2_ := Am (hb); have n3_ := Am (hi); clear HO380; clear HK; clear HB; clear HI0; have HO380 := n0_; have HK := n1_; have HB := n2_; have HI0 := n3_; clear n0_ n1_ n2_ n3_; (try clear hb); (try clear hb2); (try clear hk); (try clear hi))); try go_wp2_with (first | (go_at_call 48; (with_reducible refine (spec_l1Cur_pick.calls g s0_0 x1001_1 x1002_1 (x1_1.size : Int) t372 t373 t374 w0 _ ?side1 ?side2 A9.out).mono ?_); (case side1 => repeat (first | (with_reducible first | exact HI0.out | apply J70.a | apply J70.n | apply J70.d | apply J70.s | apply J70.t) | exact HI0.out)); (case side2 => repeat (first | (with_reducible first | exact HB.out | apply Ba | apply Bn | apply Bd | refine Bs ?_ (J70.g HI0.out)) | exact HB.out)); rintro e w48 ⟨rfl, hi, hb, hk⟩; have n0_ := Am (KeepBut.trans (by repeat (first | (with_reducible first | exact HK.out | apply Qs | apply Qn | apply Qd | apply Qa) | exact HK.out)) hk (.inl rfl)); have n1_ := Am (hb); have n2_ := Am (hi); clear HK; clear HB; clear HI0; have HK := n0_; have HB := n1_; have HI0 := n2_; clear n0_ n1_ n2_; (try clear hb); (try clear hb2); (try clear hk); (try clear hi)) | (go_at_call 48; (with_reducible refine (spec_l1Cur_pick.calls g s0_0 t373 t374 (a2.size : Int) t375 t376 t377 w0 _ ?side1 ?side2 A10.out).mono ?_); (case side1 => repeat (first | (with_reducible first | exact HI0.out | apply J70.a | apply J70.n | apply J70.d | apply J70.s | apply J70.t) | exact HI0.out)); (case side2 => repeat (first | (with_reducible first | exact HB.out | apply Ba | apply Bn | apply Bd | refine Bs ?_ (J70.g HI0.out)) | exact HB.out)); rintro e w49 ⟨rfl, hi, hb, hk⟩; have n0_ := Am (KeepBut.trans (by repeat (first | (with_reducible first | exact HK.out | apply Qs | apply Qn | apply Qd | apply Qa) | exact HK.out)) hk (.inl rfl)); have n1_ := Am (hb); have n2_ := Am (hi); clear HK; clear HB; clear HI0; have HK := n0_; have HB := n1_; have HI0 := n2_; clear n0_ n1_ n2_; (try clear hb); (try clear hb2); (try clear hk); (try clear hi); have p13 : 0 ≤ (t375 : Int) := Oq (by assumption); have q13 : t375 < (a2.size : Int) := Oq (by assumption); have hx13 := bt_at a2 t375; replace p13 := eq_true p13; replace q13 := eq_true q13) | ((refine Gd (N := 32) rfl ?_); (try (refine gate_guard (by rfl) ?_; dsimp only)); refine Kd.R_lit (Kd.int .u8) _ 5 ?hg (N := 32) ?hd (xs := ([bt a2 t375] : List Int)) (inner := [.int .u8 (bt a2 t375)]) (ok := fun _ => True) (okp := fun _ => True) ?hr ?hp (fun _ hk => hk) trivial (Below.refl _ _) (Nat.le_refl _) (by simp) ?_; (case hd | hg => rfl); (case hr => go_simp <;> rfl); (case hp => exact (Reps.one (show Kd.M (Kd.int .u8) _ _ _ (bt a2 t375) [.int .u8 (bt a2 t375)] from rfl) (Reps.none _ _))); intro v379 w50 ho51 hb hg_ hnew_; clear hg_ hnew_; (first | rw [← Ny378.out] at ho51 | (simp only [Int.reduceToNat] at ho51; rw [← Ny378.out] at ho51)); have n0_ := Am (Kd.R_lower ho51 (keep_size (w := w) (g := g) (row := none) (by repeat (first | (with_reducible first | exact HK.out | apply Qs | apply Qn | apply Qd | apply Qa) | exact HK.out)))); have n1_ := Am (J70.below (by repeat (first | (with_reducible first | exact HI0.out | apply J70.a | apply J70.n | apply J70.d | apply J70.s | apply J70.t) | exact HI0.out)) hb); have n2_ := Am (KeepBut.trans (by repeat (first | (with_reducible first | exact HK.out | apply Qs | apply Qn | apply Qd | apply Qa) | exact HK.out)) (KeepBut.of_below hb g none) (.inl rfl)); have n3_ := Am (Bt (by repeat (first | (with_reducible first | exact HB.out | apply Ba | apply Bn | apply Bd | refine Bs ?_ (J70.g HI0.out)) | exact HB.out)) hb); clear HI0; clear HK; clear HB; have HO380 := n0_; have HI0 := n1_; have HK := n2_; have HB := n3_; clear n0_ n1_ n2_ n3_; clear hb ho51; have hcv52 := own_string (P := Tryd.prog) Tryd.underlying22 Tryd.underlying5 Tryd.underlying9 (Kd.own_of_R HO380.out)) | (go_at_call 48; (with_reducible refine (spec_l1Cur_pick.calls g s0_0 t376 t377 3 t381 t382 t383 w0 _ ?side1 ?side2 A14.out).mono ?_); (case side1 => repeat (first | (with_reducible first | exact HI0.out | apply J70.a | apply J70.n | apply J70.d | apply J70.s | apply J70.t) | exact HI0.out)); (case side2 => repeat (first | (with_reducible first | exact HB.out | apply Ba | apply Bn | apply Bd | refine Bs ?_ (J70.g HI0.out)) | exact HB.out)); rintro e w53 ⟨rfl, hi, hb, hk⟩; have n0_ := Am (Rm (Kd.R_keep (J70.apart (show J70 w0 _ g s0_0 t376 t377 from by repeat (first | (with_reducible first | exact HI0.out | apply J70.a | apply J70.n | apply J70.d | apply J70.s | apply J70.t) | exact HI0.out)) (by (with_reducible repeat (first | apply Ra | apply Rn | apply Rd)); exact HO380.out) (by decide)) hk (fun _ h => h.2)) (fun _ h => h.1)); have n1_ := Am (KeepBut.trans (by repeat (first | (with_reducible first | exact HK.out | apply Qs | apply Qn | apply Qd | apply Qa) | exact HK.out)) hk (.inl rfl)); have n2_ := Am (hb); have n3_ := Am (hi); clear HO380; clear HK; clear HB; clear HI0; have HO380 := n0_; have HK := n1_; have HB := n2_; have HI0 := n3_; clear n0_ n1_ n2_ n3_; (try clear hb); (try clear hb2); (try clear hk); (try clear hi))))
               go_roundg kj5
               case measure => have := HK1.out; have := HJ5.out; omega
               case rel => exact ⟨((x1_1.extract 0 (t372 : Int).toNat) ++ (x1_1.extract ((ji44) : Int).toNat x1_1.size)), (wrap64 (x7_1 - 1)), (t382), (t383), (by first | rfl | (simp; done) | (simp only [← hji44] <;> (first | rfl | simp)) | (simp [*]; done)), (by first | rfl | (simp; done) | (simp [*]; done)), H', ⟨by have := HK1.out; have := HJ5.out; omega⟩, ⟨by repeat (first | (with_reducible first | exact HI0.out | apply J70.a | apply J70.n | apply J70.d | apply J70.s | apply J70.t) | exact HI0.out)⟩, ⟨by repeat (first | (with_reducible first | exact HK.out | apply Qs | apply Qn | apply Qd | apply Qa) | exact HK.out)⟩, ⟨by repeat (first | (with_reducible first | exact HB.out | apply Ba | apply Bn | apply Bd | refine Bs ?_ (J70.g HI0.out)) | exact HB.out)⟩⟩
              ·rw [if_neg c47] at H
               exact absurd H (by simp)
             ·rw [if_neg c46] at H
              exact absurd H (by simp)
            ·rw [if_neg c45] at H
             exact absurd H (by simp)
           ·rw [if_neg c43] at H
            exact absurd H (by simp)
          ·rw [if_neg c42] at H
           exact absurd H (by simp)
       ·rw [if_neg c12] at H
        exact absurd H (by simp)
      ·rw [if_neg c11] at H
       exact absurd H (by simp)
     ·replace c8 := Bool.eq_false_iff.mpr c8
      subst c8
      have H1 : (some (x1_1, x1001_1, x1002_1)) = some (r1, r2, r3) := by rw [if_neg (show ¬ (false = true) by decide)] at H; exact H
      clear H
      have H := H1
      clear H1
      simp only [Option.some.injEq, Prod.mk.injEq] at H
      obtain ⟨rfl, rfl, rfl⟩ := H
      go_wp2
      repeat (go_quiet (fail); try go_wp2)
      go_ret
      exact ⟨by first | rfl | (simp [*, errW_none, errW_some] <;> rfl), by repeat (first | (with_reducible first | exact HI0.out | apply J70.a | apply J70.n | apply J70.d | apply J70.s | apply J70.t) | exact HI0.out), by repeat (first | (with_reducible first | exact HB.out | apply Ba | apply Bn | apply Bd | refine Bs ?_ (J70.g HI0.out)) | exact HB.out), by repeat (first | (with_reducible first | exact HK.out | apply Qs | apply Qn | apply Qd | apply Qa) | exact HK.out)⟩
def spec_l1Cur_of.f (s0_0 : List Int) (s0_1 : Int) (s0_2 : Int) (l1 : List ByteArray) : Option (ByteArray × Int × Int) := (spec_l1Cur_pick.f s0_0 s0_1 s0_2 (l1.length : Int)).bind fun bt384 => (if 0 ≤ bt384.1 then (if bt384.1 < (l1.length : Int) then (some (rdOf ByteArray.empty l1 bt384.1, bt384.2.1, bt384.2.2)) else (none)) else (none))
theorem spec_l1Cur_of.calls (g : Nat) (s0_0 : List Int) (s0_1 : Int) (s0_2 : Int) (A1 : Option Addr) (c1 : Nat) (l1 : List ByteArray) (r1 : ByteArray) (r2 : Int) (r3 : Int) (w0 w : World) (hI : J70 w0 w g s0_0 s0_1 s0_2) (hB : Below w0.heap.size w0 w) (hr1 : Kd.C Kd.string w A1 l1.length l1) (hc1 : l1.length ≤ c1) (hf1 : ∀ ad, A1 = some ad → 0 < l1.length → ad.block ≠ g) (h : spec_l1Cur_of.f s0_0 s0_1 s0_2 l1 = some (r1, r2, r3)) :
  Calls Tryd.prog 50 #[.pointer (some ⟨g, 0, none⟩), .slice A1 l1.length c1] w fun e w' => e = .returned (.string r1) ∧ J70 w0 w' g s0_0 r2 r3 ∧ Below w0.heap.size w0 w' ∧ KeepBut w w' g none := by
 have HR1 := Am hr1
 have HC1 := Am hc1
 clear hr1 hc1
 have HI0 := Am hI
 have HK := Am (KeepBut.refl w g none)
 have HL := Am hB.size
 clear hI
 have HW0 := Am hB.size
 have HB := Am hB
 clear hB
 have H : ((spec_l1Cur_pick.f s0_0 s0_1 s0_2 (l1.length : Int)).bind fun bt384 => (if 0 ≤ bt384.1 then (if bt384.1 < (l1.length : Int) then (some (rdOf ByteArray.empty l1 bt384.1, bt384.2.1, bt384.2.2)) else (none)) else (none))) = some (r1, r2, r3) := h
 clear h
 replace H := Option.bind_eq_some_iff.mp H
 obtain ⟨⟨t384, t385, t386⟩, A30, H⟩ := H
 replace H : (if 0 ≤ t384 then (if t384 < (l1.length : Int) then (some (rdOf ByteArray.empty l1 t384, t385, t386)) else (none)) else (none)) = some (r1, r2, r3) := H
 have A3 := Am A30
 clear A30
 by_cases c4 : 0 ≤ t384
 ·rw [if_pos c4] at H
  have c4b0 : decide (0 ≤ t384) = true := Od c4
  clear c4
  by_cases c5 : t384 < (l1.length : Int)
  ·rw [if_pos c5] at H
   have c5b0 : decide (t384 < (l1.length : Int)) = true := Od c5
   clear c5
   simp only [Option.some.injEq, Prod.mk.injEq] at H
   obtain ⟨rfl, rfl, rfl⟩ := H
   go_enter Tryd.func50, Tryd.ntmps50
   go_wp2_with (first | ((refine Gc (f := 48) rfl ?_); refine goesL_ (some 9) rfl rfl Tryd.func48 (by kernel_rfl) rfl #[.pointer (some ⟨g, 0, none⟩), .int .i64 (l1.length : Int)] rfl (by first | rfl | simp only [Lm, Lc, Ln] <;> rfl) ?_; (with_reducible refine (spec_l1Cur_pick.calls g s0_0 s0_1 s0_2 (l1.length : Int) t384 t385 t386 w0 _ ?side1 ?side2 A3.out).mono ?_); (case side1 => repeat (first | (with_reducible first | exact HI0.out | apply J70.a | apply J70.n | apply J70.d | apply J70.s | apply J70.t) | exact HI0.out)); (case side2 => repeat (first | (with_reducible first | exact HB.out | apply Ba | apply Bn | apply Bd | refine Bs ?_ (J70.g HI0.out)) | exact HB.out)); rintro e w6 ⟨rfl, hi, hb, hk⟩; refine ⟨_, rfl, ?_⟩; have n0_ := Am (KeepBut.trans (by repeat (first | (with_reducible first | exact HK.out | apply Qs | apply Qn | apply Qd | apply Qa) | exact HK.out)) hk (.inl rfl)); have n1_ := Am (hb); have n2_ := Am (hi); clear HK; clear HB; clear HI0; have HK := n0_; have HB := n1_; have HI0 := n2_; clear n0_ n1_ n2_; (try clear hb); (try clear hb2); (try clear hk); (try clear hi); have p387 : 0 ≤ (t384 : Int) := Oq (by assumption); have q387 : t384 < (l1.length : Int) := Oq (by assumption); obtain ⟨ad387, e387, hx387_0⟩ := Kd.at_string HR1.out t384 p387 q387; cases e387; replace hx387_0 := keep_cell HK.out hx387_0 (by first | (rw [add_block]; exact hf1 _ rfl (by omega)) | exact hf1 _ rfl (by omega) | exact hf1 ad387 rfl (by omega)); replace p387 := eq_true p387; replace q387 := eq_true q387))
   go_ret
   exact ⟨by first | rfl | (simp [*, errW_none, errW_some] <;> rfl), by repeat (first | (with_reducible first | exact HI0.out | apply J70.a | apply J70.n | apply J70.d | apply J70.s | apply J70.t) | exact HI0.out), by repeat (first | (with_reducible first | exact HB.out | apply Ba | apply Bn | apply Bd | refine Bs ?_ (J70.g HI0.out)) | exact HB.out), by repeat (first | (with_reducible first | exact HK.out | apply Qs | apply Qn | apply Qd | apply Qa) | exact HK.out)⟩
  ·rw [if_neg c5] at H
   exact absurd H (by simp)
 ·rw [if_neg c4] at H
  exact absurd H (by simp)
end Go.Proofs.YtmknjfnhfcljcaaDoor.QFnCmds
