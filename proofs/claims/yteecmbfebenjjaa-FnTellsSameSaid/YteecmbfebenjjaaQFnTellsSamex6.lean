-- Written by a program of this session (wip/mk.py) over the kit's print: Lean checks it.
import Derived.Test.YteecmbfebenjjaaQFnTellsSamex0
import Derived.Test.YteecmbfebenjjaaQFnTellsSamex1
import Derived.Test.YteecmbfebenjjaaQFnTellsSamex5
namespace Go.Proofs.Yteecmbfebenjjaa.QFnTellsSame
open Go.Proofs.YteecmbfebenjjaaW.PrintWords.Kd renaming R_alloc → Ra, R_drewN → Rn, R_drew → Rd
open Go.Proofs.YteecmbfebenjjaaW.PrintWords renaming below_alloc → Ba, pw_below_drewN → Bn, below_drew1 → Bd, below_set → Bs, below_size → Bz, below_step → Bt, gate_dst → Gd, gate_callee → Gc, gate_store → Gs, box_event → Be, blk_alloc → Ka, blk_drewN → Kn, blk_drew → Ke, blk_below → Kb, blk_cell → Kc, blk_far → Kf, blk_frozen → Kz
open List renaming setIfInBounds_toArray → Lt, set_cons_zero → Lz, set_cons_succ → Ls
open Go.World renaming block_lt_of_cell? → bl_
open Go.Proofs.YteecmbfebenjjaaW.PrintWords.Aside0 renaming mk → Am
open Go.Proofs.YteecmbfebenjjaaW.PrintWords renaming Aside0 → Ad
open Go.RowKit Go.Proofs.YteecmbfebenjjaaW.PrintWords Go.Proofs.YteecmbfebenjjaaW.PrintLast Go.Proofs.YteecmbfebenjjaaW.PrintMore
attribute [local go_sem] max2_int min2_int max_two min_two max_three min_three max_four min_four   -- for this text's walks alone
set_option linter.unusedVariables false
set_option linter.unusedSimpArgs false
attribute [local go_sem high] eqA26
def impl_apply.f (l0 : List Int) (a1_0 : Int) (a1_1 : Int) (a1_2 : Int) (a1_3 : Int) (a1_4 : Int) : Option (Int × Int × List Int) := if a1_0 = 2 then (if 0 ≤ a1_2 then (if a1_2 < (l0.length : Int) then (some (3, rd l0 a1_2, l0)) else (none)) else (none)) else (if a1_0 = 0 then (some (0, 0, l0)) else (if 0 ≤ a1_2 then (if a1_2 < (l0.length : Int) then (if (rd l0 a1_2) < a1_4 then (some (2, 0, l0)) else ((some (l0.set (a1_2 : Int).toNat (wrap64 ((rd l0 a1_2) - a1_4)) : List Int)).bind fun y209 => (if 0 ≤ a1_3 then (if a1_3 < (l0.length : Int) then (some (1, 0, (y209.set (a1_3 : Int).toNat (wrap64 ((rd y209 a1_3) + a1_4))))) else (none)) else (none)))) else (none)) else (none)))
def impl_apply.T5 : Bool × List (List Nat × List Nat) := (true, [([], []), ([], []), ([1], [1]), ([0, 2], [0, 2]), ([3], [3]), ([], []), ([5], [5]), ([4, 6], [4, 6]), ([7], [7])])
def impl_apply.B5 : List Nat := [0, 0, 2, 7, 15, 0, 32, 127, 255]
theorem impl_apply.tab5 : rtab .any (opsOf Try.f71 5) = impl_apply.T5 := by kernel_rfl
theorem impl_apply.bits5 : waitsOk impl_apply.T5.2 impl_apply.B5 = true := by kernel_rfl
def impl_apply.T7 : Bool × List (List Nat × List Nat) := (true, [([], []), ([], []), ([1], [1]), ([0, 2], [0, 2]), ([3], [3]), ([], []), ([5], [5]), ([4, 6], [4, 6]), ([0, 2, 0, 1, 2, 3, 4, 5, 6, 7], [0, 2]), ([8, 7, 0, 1, 2, 3, 4, 5, 6, 7], [7, 8])])
def impl_apply.B7 : List Nat := [0, 0, 2, 7, 15, 0, 32, 127, 255, 511]
theorem impl_apply.tab7 : rtab .any (opsOf Try.f71 7) = impl_apply.T7 := by kernel_rfl
theorem impl_apply.bits7 : waitsOk impl_apply.T7.2 impl_apply.B7 = true := by kernel_rfl
def impl_apply.T8 : Bool × List (List Nat × List Nat) := (true, [([], []), ([], []), ([1], [1]), ([0, 2], [0, 2]), ([3], [3]), ([], []), ([5], [5]), ([4, 6], [4, 6]), ([0, 2, 0, 1, 2, 3, 4, 5, 6, 7], [0, 2]), ([8, 7, 0, 1, 2, 3, 4, 5, 6, 7], [7, 8])])
def impl_apply.B8 : List Nat := [0, 0, 2, 7, 15, 0, 32, 127, 255, 511]
theorem impl_apply.tab8 : rtab .any (opsOf Try.f71 8) = impl_apply.T8 := by kernel_rfl
theorem impl_apply.bits8 : waitsOk impl_apply.T8.2 impl_apply.B8 = true := by kernel_rfl
set_option maxHeartbeats 8000000 in
set_option maxRecDepth 100000 in
theorem impl_apply.calls (P0_ : Nat → Prop) (u9000_ : Value) (l0 : List Int) (a1_0 : Int) (a1_1 : Int) (a1_2 : Int) (a1_3 : Int) (a1_4 : Int) (r1 : Int) (r2 : Int) (r3 : List Int) (w0 w : World) (hB : Below w0.heap.size w0 w) (ho0 : Kd.R (Kd.int .i64) 3 w w0.heap.size P0_ u9000_ l0) (h : impl_apply.f l0 a1_0 a1_1 a1_2 a1_3 a1_4 = some (r1, r2, r3)) :
  Calls Try.prog 71 #[u9000_, .agg #[.int .i64 a1_0, .int .i64 a1_1, .int .i64 a1_2, .int .i64 a1_3, .int .i64 a1_4]] w fun e w' => e = .returned (.agg #[.int .i64 r1, .int .i64 r2]) ∧ Kd.R (Kd.int .i64) 3 w' w0.heap.size (fun k_ => (P0_ k_ ∨ w.heap.size ≤ k_)) u9000_ r3 ∧ Below w0.heap.size w0 w' ∧ Kept w w' (fun k_ => P0_ k_) := by
 have hu26 := Try.underlying26
 have hu30 := Try.underlying30
 have HO0 := Am (show Kd.R (Kd.int .i64) 3 w w0.heap.size (fun k_ => (P0_ k_ ∨ w.heap.size ≤ k_)) u9000_ l0 from Kd.R_mono ho0 (fun k_ hk => (.inl hk)))
 have HK := Am (Kept.refl w (fun k_ => P0_ k_))
 have HW0 := Am hB.size
 have HB := Am hB
 clear hB
 have H : (if a1_0 = 2 then (if 0 ≤ a1_2 then (if a1_2 < (l0.length : Int) then (some (3, rd l0 a1_2, l0)) else (none)) else (none)) else (if a1_0 = 0 then (some (0, 0, l0)) else (if 0 ≤ a1_2 then (if a1_2 < (l0.length : Int) then (if (rd l0 a1_2) < a1_4 then (some (2, 0, l0)) else ((some (l0.set (a1_2 : Int).toNat (wrap64 ((rd l0 a1_2) - a1_4)) : List Int)).bind fun y209 => (if 0 ≤ a1_3 then (if a1_3 < (l0.length : Int) then (some (1, 0, (y209.set (a1_3 : Int).toNat (wrap64 ((rd y209 a1_3) + a1_4))))) else (none)) else (none)))) else (none)) else (none)))) = some (r1, r2, r3) := h
 clear h
 by_cases c3 : a1_0 = 2
 ·rw [if_pos c3] at H
  have c3b0 : (a1_0 == 2) = true := beq_iff_eq.mpr c3
  have c3b1 : (a1_0 != 2) = false := bne_eq_false_iff_eq.mpr c3
  clear c3
  by_cases c4 : 0 ≤ a1_2
  ·rw [if_pos c4] at H
   have c4b0 : decide (0 ≤ a1_2) = true := decide_eq_true c4
   clear c4
   by_cases c5 : a1_2 < (l0.length : Int)
   ·rw [if_pos c5] at H
    have c5b0 : decide (a1_2 < (l0.length : Int)) = true := decide_eq_true c5
    clear c5
    simp only [Option.some.injEq, Prod.mk.injEq] at H
    obtain ⟨rfl, rfl, rfl⟩ := H
    go_enter Try.func71, Try.ntmps71
    go_wp2_with (first | ((refine Gd (N := 3) rfl ?_); refine Be ?hg (N := 3) ?hd (cs := #[.int .i64 a1_0, .int .i64 a1_1, .int .i64 a1_2, .int .i64 a1_3, .int .i64 a1_4]) (t := 26) ?hr ?_; (case hd | hg => rfl); (case hr => first | (go_simp; done) | (go_simp; rfl)); intro gb204 hg w6 hbox hb; have n0_ := Am (Kd.R_below (by (with_reducible repeat (first | apply Ra | apply Rn | apply Rd)); exact HO0.out) hb); have n1_ := Am (Kept.below (S := (fun k_ => P0_ k_)) (by repeat (first | (with_reducible first | exact HK.out | apply Kept.alloc | apply Kept.drewN | apply Kept.drew) | exact HK.out)) hb); have n2_ := Am (Bt (by repeat (first | exact HB.out | apply Ba | apply Bn | apply Bd)) hb); have n3_ := Am (hbox); have n4_ := Am ((by rw [hg]; exact (by first | exact HK.out.1 | exact (show Kept w _ (fun k_ => P0_ k_) from by repeat (first | (with_reducible first | exact HK.out | apply Kept.alloc | apply Kept.drewN | apply Kept.drew) | exact HK.out)).1) : w.heap.size ≤ gb204)); have n5_ := Am ((by rw [hg]; exact (Bz (by repeat (first | exact HB.out | apply Ba | apply Bn | apply Bd))) : w0.heap.size ≤ gb204)); clear HO0; clear HK; clear HB; have HO0 := n0_; have HK := n1_; have HB := n2_; have BK204 := n3_; have GW204 := n4_; have GE204 := n5_; clear n0_ n1_ n2_ n3_ n4_ n5_; clear hb hbox hg) | ((refine Gd (N := 4) rfl ?_); refine Be ?hg (N := 4) ?hd (cs := #[.int .i64 0, .int .i64 0]) (t := 30) ?hr ?_; (case hd | hg => rfl); (case hr => first | (go_simp; done) | (go_simp; rfl)); intro gb205 hg w7 hbox hb; have n0_ := Am (Kd.R_below (by (with_reducible repeat (first | apply Ra | apply Rn | apply Rd)); exact HO0.out) hb); have n1_ := Am (Kb (g := gb204) (o := .cells #[.int .i64 a1_0, .int .i64 a1_1, .int .i64 a1_2, .int .i64 a1_3, .int .i64 a1_4] 26 (0, 0)) (by (with_reducible repeat (first | refine Kn ?_ _ | refine Ke ?_ | refine Ka ?_ _)); exact BK204.out) hb); have n2_ := Am (Kept.below (S := (fun k_ => P0_ k_)) (by repeat (first | (with_reducible first | exact HK.out | apply Kept.alloc | apply Kept.drewN | apply Kept.drew | refine Kept.setCell ?_ (.inr GW204.out) _) | exact HK.out)) hb); have n3_ := Am (Bt (by repeat (first | (with_reducible first | exact HB.out | apply Ba | apply Bn | apply Bd | refine Bs ?_ GE204.out) | exact HB.out)) hb); have n4_ := Am (hbox); have n5_ := Am ((by rw [hg]; exact (by first | exact HK.out.1 | exact (show Kept w _ (fun k_ => P0_ k_) from by repeat (first | (with_reducible first | exact HK.out | apply Kept.alloc | apply Kept.drewN | apply Kept.drew | refine Kept.setCell ?_ (.inr GW204.out) _) | exact HK.out)).1) : w.heap.size ≤ gb205)); have n6_ := Am ((by rw [hg]; exact (Bz (by repeat (first | (with_reducible first | exact HB.out | apply Ba | apply Bn | apply Bd | refine Bs ?_ GE204.out) | exact HB.out))) : w0.heap.size ≤ gb205)); have n7_ := Am ((by rw [hg]; exact Nat.ne_of_lt (blk_lt (g := gb204) (o := .cells #[.int .i64 a1_0, .int .i64 a1_1, .int .i64 a1_2, .int .i64 a1_3, .int .i64 a1_4] 26 (0, 0)) (by (with_reducible repeat (first | refine Kn ?_ _ | refine Ke ?_ | refine Ka ?_ _)); exact BK204.out)) : gb204 ≠ gb205)); have n8_ := Am ((by rw [hg]; exact Nat.ne_of_gt (blk_lt (g := gb204) (o := .cells #[.int .i64 a1_0, .int .i64 a1_1, .int .i64 a1_2, .int .i64 a1_3, .int .i64 a1_4] 26 (0, 0)) (by (with_reducible repeat (first | refine Kn ?_ _ | refine Ke ?_ | refine Ka ?_ _)); exact BK204.out)) : gb205 ≠ gb204)); clear HO0; clear BK204; clear HK; clear HB; have HO0 := n0_; have BK204 := n1_; have HK := n2_; have HB := n3_; have BK205 := n4_; have GW205 := n5_; have GE205 := n6_; have NB204_205 := n7_; have NB205_204 := n8_; clear n0_ n1_ n2_ n3_ n4_ n5_ n6_ n7_ n8_; clear hb hbox hg; have hnb8 := NB204_205.out; have hnc8 := NB205_204.out; have hcz9_0 : w7.cell? ⟨gb204, 0, none⟩ = some (.int .i64 a1_0) := (Kc BK204.out 0).trans rfl; have hcz9_1 : w7.cell? ⟨gb204, 1, none⟩ = some (.int .i64 a1_1) := (Kc BK204.out 1).trans rfl; have hcz9_2 : w7.cell? ⟨gb204, 2, none⟩ = some (.int .i64 a1_2) := (Kc BK204.out 2).trans rfl; have hcz9_3 : w7.cell? ⟨gb204, 3, none⟩ = some (.int .i64 a1_3) := (Kc BK204.out 3).trans rfl; have hcz9_4 : w7.cell? ⟨gb204, 4, none⟩ = some (.int .i64 a1_4) := (Kc BK204.out 4).trans rfl; have hfz9_0 := Kz BK204.out 0; have hfz9_1 := Kz BK204.out 1; have hfz9_2 := Kz BK204.out 2; have hfz9_3 := Kz BK204.out 3; have hfz9_4 := Kz BK204.out 4; obtain ⟨Ao10, co10, eo10⟩ := Kd.R_slice HO0.out; subst eo10; have p206 : 0 ≤ (a1_2 : Int) := of_decide_eq_true (by assumption); have q206 : a1_2 < (l0.length : Int) := of_decide_eq_true (by assumption); obtain ⟨ad206, e206, hx206_0⟩ := Kd.at_int (Kd.R_reads' HO0.out).2.2 a1_2 p206 q206; cases e206; replace p206 := eq_true p206; replace q206 := eq_true q206; have hcz11_0 : w7.cell? ⟨gb205, 0, none⟩ = some (.int .i64 0) := (Kc BK205.out 0).trans rfl; have hcz11_1 : w7.cell? ⟨gb205, 1, none⟩ = some (.int .i64 0) := (Kc BK205.out 1).trans rfl; have hfz11_0 := Kz BK205.out 0; have hfz11_1 := Kz BK205.out 1))
    refine bodyPost_ret (results_cell_row rfl _ _ gb205 30 #[.int .i64 3, .int .i64 (rd l0 a1_2)] (0, 0) _ rfl (by (with_reducible repeat (first | refine Kn ?_ _ | refine Ke ?_ | refine Ka ?_ _)); refine blk_put (cs := #[.int .i64 3, .int .i64 0]) ?_ 1 _ rfl; (with_reducible repeat (first | refine Kn ?_ _ | refine Ke ?_ | refine Ka ?_ _)); refine blk_put (cs := #[.int .i64 0, .int .i64 0]) ?_ 0 _ rfl; (with_reducible repeat (first | refine Kn ?_ _ | refine Ke ?_ | refine Ka ?_ _)); exact BK205.out) Try.underlying30 rfl (by kernel_rfl)) rfl ?_
    exact ⟨by first | rfl | (simp [*, errW_none, errW_some] <;> rfl), by (with_reducible repeat (first | apply Ra | apply Rn | apply Rd)); exact Kd.R_mono (Kd.R_far (p := ⟨gb205, 1, none⟩) (Kd.R_far (p := ⟨gb205, 0, none⟩) (Kd.R_types HO0.out BK205.out (by decide)) (fun _ hk => hk.2) (.int .i64 3)) (fun _ hk => hk.2) (.int .i64 (rd l0 a1_2))) (fun _ hk => hk.1), by repeat (first | (with_reducible first | exact HB.out | apply Ba | apply Bn | apply Bd | refine Bs ?_ GE204.out | refine Bs ?_ GE205.out) | exact HB.out), by repeat (first | (with_reducible first | exact HK.out | apply Kept.alloc | apply Kept.drewN | apply Kept.drew | refine Kept.setCell ?_ (.inr GW204.out) _ | refine Kept.setCell ?_ (.inr GW205.out) _) | exact HK.out)⟩
   ·rw [if_neg c5] at H
    exact absurd H (by simp)
  ·rw [if_neg c4] at H
   exact absurd H (by simp)
 ·rw [if_neg c3] at H
  have c3b0 : (a1_0 == 2) = false := beq_eq_false_iff_ne.mpr c3
  have c3b1 : (a1_0 != 2) = true := bne_iff_ne.mpr c3
  by_cases c12 : a1_0 = 0
  ·rw [if_pos c12] at H
   have c12b0 : (a1_0 == 0) = true := beq_iff_eq.mpr c12
   have c12b1 : (a1_0 != 0) = false := bne_eq_false_iff_eq.mpr c12
   clear c12
   simp only [Option.some.injEq, Prod.mk.injEq] at H
   obtain ⟨rfl, rfl, rfl⟩ := H
   go_enter Try.func71, Try.ntmps71
   go_wp2_with (first | ((refine Gd (N := 3) rfl ?_); refine Be ?hg (N := 3) ?hd (cs := #[.int .i64 a1_0, .int .i64 a1_1, .int .i64 a1_2, .int .i64 a1_3, .int .i64 a1_4]) (t := 26) ?hr ?_; (case hd | hg => rfl); (case hr => first | (go_simp; done) | (go_simp; rfl)); intro gb204 hg w13 hbox hb; have n0_ := Am (Kd.R_below (by (with_reducible repeat (first | apply Ra | apply Rn | apply Rd)); exact HO0.out) hb); have n1_ := Am (Kept.below (S := (fun k_ => P0_ k_)) (by repeat (first | (with_reducible first | exact HK.out | apply Kept.alloc | apply Kept.drewN | apply Kept.drew) | exact HK.out)) hb); have n2_ := Am (Bt (by repeat (first | exact HB.out | apply Ba | apply Bn | apply Bd)) hb); have n3_ := Am (hbox); have n4_ := Am ((by rw [hg]; exact (by first | exact HK.out.1 | exact (show Kept w _ (fun k_ => P0_ k_) from by repeat (first | (with_reducible first | exact HK.out | apply Kept.alloc | apply Kept.drewN | apply Kept.drew) | exact HK.out)).1) : w.heap.size ≤ gb204)); have n5_ := Am ((by rw [hg]; exact (Bz (by repeat (first | exact HB.out | apply Ba | apply Bn | apply Bd))) : w0.heap.size ≤ gb204)); clear HO0; clear HK; clear HB; have HO0 := n0_; have HK := n1_; have HB := n2_; have BK204 := n3_; have GW204 := n4_; have GE204 := n5_; clear n0_ n1_ n2_ n3_ n4_ n5_; clear hb hbox hg) | ((refine Gd (N := 4) rfl ?_); refine Be ?hg (N := 4) ?hd (cs := #[.int .i64 0, .int .i64 0]) (t := 30) ?hr ?_; (case hd | hg => rfl); (case hr => first | (go_simp; done) | (go_simp; rfl)); intro gb205 hg w14 hbox hb; have n0_ := Am (Kd.R_below (by (with_reducible repeat (first | apply Ra | apply Rn | apply Rd)); exact HO0.out) hb); have n1_ := Am (Kb (g := gb204) (o := .cells #[.int .i64 a1_0, .int .i64 a1_1, .int .i64 a1_2, .int .i64 a1_3, .int .i64 a1_4] 26 (0, 0)) (by (with_reducible repeat (first | refine Kn ?_ _ | refine Ke ?_ | refine Ka ?_ _)); exact BK204.out) hb); have n2_ := Am (Kept.below (S := (fun k_ => P0_ k_)) (by repeat (first | (with_reducible first | exact HK.out | apply Kept.alloc | apply Kept.drewN | apply Kept.drew | refine Kept.setCell ?_ (.inr GW204.out) _) | exact HK.out)) hb); have n3_ := Am (Bt (by repeat (first | (with_reducible first | exact HB.out | apply Ba | apply Bn | apply Bd | refine Bs ?_ GE204.out) | exact HB.out)) hb); have n4_ := Am (hbox); have n5_ := Am ((by rw [hg]; exact (by first | exact HK.out.1 | exact (show Kept w _ (fun k_ => P0_ k_) from by repeat (first | (with_reducible first | exact HK.out | apply Kept.alloc | apply Kept.drewN | apply Kept.drew | refine Kept.setCell ?_ (.inr GW204.out) _) | exact HK.out)).1) : w.heap.size ≤ gb205)); have n6_ := Am ((by rw [hg]; exact (Bz (by repeat (first | (with_reducible first | exact HB.out | apply Ba | apply Bn | apply Bd | refine Bs ?_ GE204.out) | exact HB.out))) : w0.heap.size ≤ gb205)); have n7_ := Am ((by rw [hg]; exact Nat.ne_of_lt (blk_lt (g := gb204) (o := .cells #[.int .i64 a1_0, .int .i64 a1_1, .int .i64 a1_2, .int .i64 a1_3, .int .i64 a1_4] 26 (0, 0)) (by (with_reducible repeat (first | refine Kn ?_ _ | refine Ke ?_ | refine Ka ?_ _)); exact BK204.out)) : gb204 ≠ gb205)); have n8_ := Am ((by rw [hg]; exact Nat.ne_of_gt (blk_lt (g := gb204) (o := .cells #[.int .i64 a1_0, .int .i64 a1_1, .int .i64 a1_2, .int .i64 a1_3, .int .i64 a1_4] 26 (0, 0)) (by (with_reducible repeat (first | refine Kn ?_ _ | refine Ke ?_ | refine Ka ?_ _)); exact BK204.out)) : gb205 ≠ gb204)); clear HO0; clear BK204; clear HK; clear HB; have HO0 := n0_; have BK204 := n1_; have HK := n2_; have HB := n3_; have BK205 := n4_; have GW205 := n5_; have GE205 := n6_; have NB204_205 := n7_; have NB205_204 := n8_; clear n0_ n1_ n2_ n3_ n4_ n5_ n6_ n7_ n8_; clear hb hbox hg; have hnb15 := NB204_205.out; have hnc15 := NB205_204.out; have hcz16_0 : w14.cell? ⟨gb204, 0, none⟩ = some (.int .i64 a1_0) := (Kc BK204.out 0).trans rfl; have hcz16_1 : w14.cell? ⟨gb204, 1, none⟩ = some (.int .i64 a1_1) := (Kc BK204.out 1).trans rfl; have hcz16_2 : w14.cell? ⟨gb204, 2, none⟩ = some (.int .i64 a1_2) := (Kc BK204.out 2).trans rfl; have hcz16_3 : w14.cell? ⟨gb204, 3, none⟩ = some (.int .i64 a1_3) := (Kc BK204.out 3).trans rfl; have hcz16_4 : w14.cell? ⟨gb204, 4, none⟩ = some (.int .i64 a1_4) := (Kc BK204.out 4).trans rfl; have hfz16_0 := Kz BK204.out 0; have hfz16_1 := Kz BK204.out 1; have hfz16_2 := Kz BK204.out 2; have hfz16_3 := Kz BK204.out 3; have hfz16_4 := Kz BK204.out 4; have hcz17_0 : w14.cell? ⟨gb205, 0, none⟩ = some (.int .i64 0) := (Kc BK205.out 0).trans rfl; have hcz17_1 : w14.cell? ⟨gb205, 1, none⟩ = some (.int .i64 0) := (Kc BK205.out 1).trans rfl; have hfz17_0 := Kz BK205.out 0; have hfz17_1 := Kz BK205.out 1))
   refine bodyPost_ret (results_cell_row rfl _ _ gb205 30 #[.int .i64 0, .int .i64 0] (0, 0) _ rfl (by (with_reducible repeat (first | refine Kn ?_ _ | refine Ke ?_ | refine Ka ?_ _)); refine blk_put (cs := #[.int .i64 0, .int .i64 0]) ?_ 1 _ rfl; (with_reducible repeat (first | refine Kn ?_ _ | refine Ke ?_ | refine Ka ?_ _)); refine blk_put (cs := #[.int .i64 0, .int .i64 0]) ?_ 0 _ rfl; (with_reducible repeat (first | refine Kn ?_ _ | refine Ke ?_ | refine Ka ?_ _)); exact BK205.out) Try.underlying30 rfl (by kernel_rfl)) rfl ?_
   exact ⟨by first | rfl | (simp [*, errW_none, errW_some] <;> rfl), by (with_reducible repeat (first | apply Ra | apply Rn | apply Rd)); exact Kd.R_mono (Kd.R_far (p := ⟨gb205, 1, none⟩) (Kd.R_far (p := ⟨gb205, 0, none⟩) (Kd.R_types HO0.out BK205.out (by decide)) (fun _ hk => hk.2) (.int .i64 0)) (fun _ hk => hk.2) (.int .i64 0)) (fun _ hk => hk.1), by repeat (first | (with_reducible first | exact HB.out | apply Ba | apply Bn | apply Bd | refine Bs ?_ GE204.out | refine Bs ?_ GE205.out) | exact HB.out), by repeat (first | (with_reducible first | exact HK.out | apply Kept.alloc | apply Kept.drewN | apply Kept.drew | refine Kept.setCell ?_ (.inr GW204.out) _ | refine Kept.setCell ?_ (.inr GW205.out) _) | exact HK.out)⟩
  ·rw [if_neg c12] at H
   have c12b0 : (a1_0 == 0) = false := beq_eq_false_iff_ne.mpr c12
   have c12b1 : (a1_0 != 0) = true := bne_iff_ne.mpr c12
   by_cases c18 : 0 ≤ a1_2
   ·rw [if_pos c18] at H
    have c18b0 : decide (0 ≤ a1_2) = true := decide_eq_true c18
    clear c18
    by_cases c19 : a1_2 < (l0.length : Int)
    ·rw [if_pos c19] at H
     have c19b0 : decide (a1_2 < (l0.length : Int)) = true := decide_eq_true c19
     clear c19
     by_cases c20 : (rd l0 a1_2) < a1_4
     ·rw [if_pos c20] at H
      have c20b0 : decide ((rd l0 a1_2) < a1_4) = true := decide_eq_true c20
      clear c20
      simp only [Option.some.injEq, Prod.mk.injEq] at H
      obtain ⟨rfl, rfl, rfl⟩ := H
      go_enter Try.func71, Try.ntmps71
      try go_wp2_with (first | ((refine Gd (N := 3) rfl ?_); refine Be ?hg (N := 3) ?hd (cs := #[.int .i64 a1_0, .int .i64 a1_1, .int .i64 a1_2, .int .i64 a1_3, .int .i64 a1_4]) (t := 26) ?hr ?_; (case hd | hg => rfl); (case hr => first | (go_simp; done) | (go_simp; rfl)); intro gb204 hg w21 hbox hb; have n0_ := Am (Kd.R_below (by (with_reducible repeat (first | apply Ra | apply Rn | apply Rd)); exact HO0.out) hb); have n1_ := Am (Kept.below (S := (fun k_ => P0_ k_)) (by repeat (first | (with_reducible first | exact HK.out | apply Kept.alloc | apply Kept.drewN | apply Kept.drew) | exact HK.out)) hb); have n2_ := Am (Bt (by repeat (first | exact HB.out | apply Ba | apply Bn | apply Bd)) hb); have n3_ := Am (hbox); have n4_ := Am ((by rw [hg]; exact (by first | exact HK.out.1 | exact (show Kept w _ (fun k_ => P0_ k_) from by repeat (first | (with_reducible first | exact HK.out | apply Kept.alloc | apply Kept.drewN | apply Kept.drew) | exact HK.out)).1) : w.heap.size ≤ gb204)); have n5_ := Am ((by rw [hg]; exact (Bz (by repeat (first | exact HB.out | apply Ba | apply Bn | apply Bd))) : w0.heap.size ≤ gb204)); clear HO0; clear HK; clear HB; have HO0 := n0_; have HK := n1_; have HB := n2_; have BK204 := n3_; have GW204 := n4_; have GE204 := n5_; clear n0_ n1_ n2_ n3_ n4_ n5_; clear hb hbox hg) | ((refine Gd (N := 4) rfl ?_); refine Be ?hg (N := 4) ?hd (cs := #[.int .i64 0, .int .i64 0]) (t := 30) ?hr ?_; (case hd | hg => rfl); (case hr => first | (go_simp; done) | (go_simp; rfl)); intro gb205 hg w22 hbox hb; have n0_ := Am (Kd.R_below (by (with_reducible repeat (first | apply Ra | apply Rn | apply Rd)); exact HO0.out) hb); have n1_ := Am (Kb (g := gb204) (o := .cells #[.int .i64 a1_0, .int .i64 a1_1, .int .i64 a1_2, .int .i64 a1_3, .int .i64 a1_4] 26 (0, 0)) (by (with_reducible repeat (first | refine Kn ?_ _ | refine Ke ?_ | refine Ka ?_ _)); exact BK204.out) hb); have n2_ := Am (Kept.below (S := (fun k_ => P0_ k_)) (by repeat (first | (with_reducible first | exact HK.out | apply Kept.alloc | apply Kept.drewN | apply Kept.drew | refine Kept.setCell ?_ (.inr GW204.out) _) | exact HK.out)) hb); have n3_ := Am (Bt (by repeat (first | (with_reducible first | exact HB.out | apply Ba | apply Bn | apply Bd | refine Bs ?_ GE204.out) | exact HB.out)) hb); have n4_ := Am (hbox); have n5_ := Am ((by rw [hg]; exact (by first | exact HK.out.1 | exact (show Kept w _ (fun k_ => P0_ k_) from by repeat (first | (with_reducible first | exact HK.out | apply Kept.alloc | apply Kept.drewN | apply Kept.drew | refine Kept.setCell ?_ (.inr GW204.out) _) | exact HK.out)).1) : w.heap.size ≤ gb205)); have n6_ := Am ((by rw [hg]; exact (Bz (by repeat (first | (with_reducible first | exact HB.out | apply Ba | apply Bn | apply Bd | refine Bs ?_ GE204.out) | exact HB.out))) : w0.heap.size ≤ gb205)); have n7_ := Am ((by rw [hg]; exact Nat.ne_of_lt (blk_lt (g := gb204) (o := .cells #[.int .i64 a1_0, .int .i64 a1_1, .int .i64 a1_2, .int .i64 a1_3, .int .i64 a1_4] 26 (0, 0)) (by (with_reducible repeat (first | refine Kn ?_ _ | refine Ke ?_ | refine Ka ?_ _)); exact BK204.out)) : gb204 ≠ gb205)); have n8_ := Am ((by rw [hg]; exact Nat.ne_of_gt (blk_lt (g := gb204) (o := .cells #[.int .i64 a1_0, .int .i64 a1_1, .int .i64 a1_2, .int .i64 a1_3, .int .i64 a1_4] 26 (0, 0)) (by (with_reducible repeat (first | refine Kn ?_ _ | refine Ke ?_ | refine Ka ?_ _)); exact BK204.out)) : gb205 ≠ gb204)); clear HO0; clear BK204; clear HK; clear HB; have HO0 := n0_; have BK204 := n1_; have HK := n2_; have HB := n3_; have BK205 := n4_; have GW205 := n5_; have GE205 := n6_; have NB204_205 := n7_; have NB205_204 := n8_; clear n0_ n1_ n2_ n3_ n4_ n5_ n6_ n7_ n8_; clear hb hbox hg; have hnb23 := NB204_205.out; have hnc23 := NB205_204.out; have hcz24_0 : w22.cell? ⟨gb204, 0, none⟩ = some (.int .i64 a1_0) := (Kc BK204.out 0).trans rfl; have hcz24_1 : w22.cell? ⟨gb204, 1, none⟩ = some (.int .i64 a1_1) := (Kc BK204.out 1).trans rfl; have hcz24_2 : w22.cell? ⟨gb204, 2, none⟩ = some (.int .i64 a1_2) := (Kc BK204.out 2).trans rfl; have hcz24_3 : w22.cell? ⟨gb204, 3, none⟩ = some (.int .i64 a1_3) := (Kc BK204.out 3).trans rfl; have hcz24_4 : w22.cell? ⟨gb204, 4, none⟩ = some (.int .i64 a1_4) := (Kc BK204.out 4).trans rfl; have hfz24_0 := Kz BK204.out 0; have hfz24_1 := Kz BK204.out 1; have hfz24_2 := Kz BK204.out 2; have hfz24_3 := Kz BK204.out 3; have hfz24_4 := Kz BK204.out 4))
      have n0_ := Am (Rd HO0.out)
      have n1_ := Am (Ke BK204.out)
      have n2_ := Am (Ke BK205.out)
      have n3_ := Am (Kept.drew HK.out)
      have n4_ := Am (Bd HB.out)
      clear HO0
      clear BK204
      clear BK205
      clear HK
      clear HB
      have HO0 := n0_
      have BK204 := n1_
      have BK205 := n2_
      have HK := n3_
      have HB := n4_
      clear n0_ n1_ n2_ n3_ n4_
      obtain ⟨Ao26, co26, eo26⟩ := Kd.R_slice HO0.out
      (first | subst eo26 | (injection eo26 with f1_ f2_ f3_; have f4_ := f1_.symm; have f5_ := f3_.symm; clear f1_ f2_ f3_; subst f4_; subst f5_))
      have p207 : 0 ≤ (a1_2 : Int) := of_decide_eq_true (by assumption)
      have q207 : a1_2 < (l0.length : Int) := of_decide_eq_true (by assumption)
      obtain ⟨ad207, e207, hx207_0⟩ := Kd.at_int (Kd.R_reads' HO0.out).2.2 a1_2 p207 q207
      cases e207
      replace p207 := eq_true p207
      replace q207 := eq_true q207
      refine start_ (n := 9) (S := fun w' => w'.cell? ⟨gb204, 0, none⟩ = some (.int .i64 a1_0) ∧ w'.cell? ⟨gb204, 1, none⟩ = some (.int .i64 a1_1) ∧ w'.cell? ⟨gb204, 2, none⟩ = some (.int .i64 a1_2) ∧ w'.cell? ⟨gb204, 3, none⟩ = some (.int .i64 a1_3) ∧ w'.cell? ⟨gb204, 4, none⟩ = some (.int .i64 a1_4) ∧ w'.cell? (ad207.add (a1_2).toNat) = some (.int .i64 (rd l0 a1_2))) (ds := []) #[false, false, false, false, false, false, false, false, false] (by kernel_rfl) rfl rfl ⟨(Kc BK204.out 0).trans rfl, (Kc BK204.out 1).trans rfl, (Kc BK204.out 2).trans rfl, (Kc BK204.out 3).trans rfl, (Kc BK204.out 4).trans rfl, hx207_0⟩ (fun hHeld => ?_); refine with_tabW impl_apply.tab5 impl_apply.bits5 (fun HT_ HW_ => ?_)
      generalize w22.drew = w25 at HO0 BK204 BK205 HK HB hx207_0 hHeld ⊢
      refine pure_ (i := 0) (N := some 21) (v := ?_) (a' := ?_) #[true, false, false, false, false, false, false, false, false] rfl rfl (any_of HT_.out (by kernel_rfl)) (fun _ _ _ h => h) (Or.inl ⟨by rfl, ?_⟩) ?_ ?_
      rotate_left
      ·intro w'
       go_simp
       with_reducible rfl
      rotate_left
      ·simp only [Act.put, Lt, Lz, Ls, i64_w, i32_w]
       rfl
      refine pure_ (i := 1) (N := some 22) (v := ?_) (a' := ?_) #[true, true, false, false, false, false, false, false, false] rfl rfl (any_of HT_.out (by kernel_rfl)) (fun _ _ _ h => h) (Or.inl ⟨by rfl, ?_⟩) ?_ ?_
      rotate_left
      ·intro w'
       go_simp
       with_reducible rfl
      rotate_left
      ·simp only [Act.put, Lt, Lz, Ls, i64_w, i32_w]
       rfl
      refine pure_ (i := 5) (N := some 26) (v := ?_) (a' := ?_) #[true, true, false, false, false, true, false, false, false] rfl rfl (any_of HT_.out (by kernel_rfl)) (fun _ _ _ h => h) (Or.inl ⟨by rfl, ?_⟩) ?_ ?_
      rotate_left
      ·intro w'
       go_simp
       with_reducible rfl
      rotate_left
      ·simp only [Act.put, Lt, Lz, Ls, i64_w, i32_w]
       rfl
      refine take_ (i := 2) (N := some 23) (v := ?_) (a' := ?_) #[true, true, true, false, false, true, false, false, false] rfl rfl (take_ofW HT_.out HW_.out (by kernel_rfl)) (fun _ _ _ h => h) (Or.inl ⟨by rfl, ?_⟩) hHeld ?_ ?_
      rotate_left
      ·rintro w' ⟨s0, s1, s2, s3, s4, s5⟩
       go_simp
       with_reducible rfl
      rotate_left
      ·simp only [Act.put, Lt, Lz, Ls, i64_w, i32_w]
       rfl
      refine pure_ (i := 3) (N := some 24) (v := ?_) (a' := ?_) #[true, true, true, true, false, true, false, false, false] rfl rfl (any_of HT_.out (by kernel_rfl)) (fun _ _ _ h => h) (Or.inl ⟨by rfl, ?_⟩) ?_ ?_
      rotate_left
      ·intro w'
       go_simp
       with_reducible rfl
      rotate_left
      ·simp only [Act.put, Lt, Lz, Ls, i64_w, i32_w]
       rfl
      refine take_ (i := 4) (N := some 25) (v := ?_) (a' := ?_) #[true, true, true, true, true, true, false, false, false] rfl rfl (take_ofW HT_.out HW_.out (by kernel_rfl)) (fun _ _ _ h => h) (Or.inl ⟨by rfl, ?_⟩) hHeld ?_ ?_
      rotate_left
      ·rintro w' ⟨s0, s1, s2, s3, s4, s5⟩
       go_simp
       with_reducible rfl
      rotate_left
      ·simp only [Act.put, Lt, Lz, Ls, i64_w, i32_w]
       rfl
      refine take_ (i := 6) (N := some 27) (v := ?_) (a' := ?_) #[true, true, true, true, true, true, true, false, false] rfl rfl (take_ofW HT_.out HW_.out (by kernel_rfl)) (fun _ _ _ h => h) (Or.inl ⟨by rfl, ?_⟩) hHeld ?_ ?_
      rotate_left
      ·rintro w' ⟨s0, s1, s2, s3, s4, s5⟩
       go_simp
       with_reducible rfl
      rotate_left
      ·simp only [Act.put, Lt, Lz, Ls, i64_w, i32_w]
       rfl
      refine pure_ (i := 7) (N := some 28) (v := ?_) (a' := ?_) #[true, true, true, true, true, true, true, true, false] rfl rfl (any_of HT_.out (by kernel_rfl)) (fun _ _ _ h => h) (Or.inl ⟨by rfl, ?_⟩) ?_ ?_
      rotate_left
      ·intro w'
       go_simp
       with_reducible rfl
      rotate_left
      ·simp only [Act.put, Lt, Lz, Ls, i64_w, i32_w]
       rfl
      refine pure_ (i := 8) (N := some 20) (v := ?_) (a' := ?_) #[true, true, true, true, true, true, true, true, true] rfl rfl (any_of HT_.out (by kernel_rfl)) (fun _ _ _ h => h) (Or.inl ⟨by rfl, ?_⟩) ?_ ?_
      rotate_left
      ·intro w'
       go_simp
       with_reducible rfl
      rotate_left
      ·simp only [Act.put, Lt, Lz, Ls, i64_w, i32_w]
       rfl
      refine done_ (done_of HT_.out (by kernel_rfl)) ?_
      have hcz27_0 : w25.cell? ⟨gb205, 0, none⟩ = some (.int .i64 0) := (Kc BK205.out 0).trans rfl
      have hcz27_1 : w25.cell? ⟨gb205, 1, none⟩ = some (.int .i64 0) := (Kc BK205.out 1).trans rfl
      have hfz27_0 := Kz BK205.out 0
      have hfz27_1 := Kz BK205.out 1
      try go_wp2
      refine bodyPost_ret (results_cell_row rfl _ _ gb205 30 #[.int .i64 2, .int .i64 0] (0, 0) _ rfl (by (with_reducible repeat (first | refine Kn ?_ _ | refine Ke ?_ | refine Ka ?_ _)); refine blk_put (cs := #[.int .i64 2, .int .i64 0]) ?_ 1 _ rfl; (with_reducible repeat (first | refine Kn ?_ _ | refine Ke ?_ | refine Ka ?_ _)); refine blk_put (cs := #[.int .i64 0, .int .i64 0]) ?_ 0 _ rfl; (with_reducible repeat (first | refine Kn ?_ _ | refine Ke ?_ | refine Ka ?_ _)); exact BK205.out) Try.underlying30 rfl (by kernel_rfl)) rfl ?_
      exact ⟨by first | rfl | (simp [*, errW_none, errW_some] <;> rfl), by (with_reducible repeat (first | apply Ra | apply Rn | apply Rd)); exact Kd.R_mono (Kd.R_far (p := ⟨gb205, 1, none⟩) (Kd.R_far (p := ⟨gb205, 0, none⟩) (Kd.R_types HO0.out BK205.out (by decide)) (fun _ hk => hk.2) (.int .i64 2)) (fun _ hk => hk.2) (.int .i64 0)) (fun _ hk => hk.1), by repeat (first | (with_reducible first | exact HB.out | apply Ba | apply Bn | apply Bd | refine Bs ?_ GE204.out | refine Bs ?_ GE205.out) | exact HB.out), by repeat (first | (with_reducible first | exact HK.out | apply Kept.alloc | apply Kept.drewN | apply Kept.drew | refine Kept.setCell ?_ (.inr GW204.out) _ | refine Kept.setCell ?_ (.inr GW205.out) _) | exact HK.out)⟩
     ·rw [if_neg c20] at H
      have c20b0 : decide ((rd l0 a1_2) < a1_4) = false := decide_eq_false c20
      clear c20
      obtain ⟨y209, hy209⟩ : ∃ y_ : List Int, y_ = (l0.set (a1_2 : Int).toNat (wrap64 ((rd l0 a1_2) - a1_4))) := ⟨_, rfl⟩
      replace H : (if 0 ≤ a1_3 then (if a1_3 < (l0.length : Int) then (some (1, 0, (y209.set (a1_3 : Int).toNat (wrap64 ((rd y209 a1_3) + a1_4))))) else (none)) else (none)) = some (r1, r2, r3) := by first | (rw [hy209]; with_reducible exact H) | (have H2_ := (Option.bind_some _ _).symm.trans H; rw [hy209]; with_reducible exact H2_) | (have H2_ := (Option.bind_some _ _).symm.trans H; with_reducible exact H2_) | with_reducible exact H | (rw [hy209]; exact H) | exact H
      have Ny209 := Am hy209
      clear hy209
      by_cases c29 : 0 ≤ a1_3
      ·rw [if_pos c29] at H
       have c29b0 : decide (0 ≤ a1_3) = true := decide_eq_true c29
       clear c29
       by_cases c30 : a1_3 < (l0.length : Int)
       ·rw [if_pos c30] at H
        have c30b0 : decide (a1_3 < (l0.length : Int)) = true := decide_eq_true c30
        clear c30
        obtain ⟨y211, hy211⟩ : ∃ y_ : List Int, y_ = (y209.set (a1_3 : Int).toNat (wrap64 ((rd y209 a1_3) + a1_4))) := ⟨_, rfl⟩
        replace H : (some (1, 0, y211)) = some (r1, r2, r3) := by first | (rw [hy211]; with_reducible exact H) | (have H2_ := (Option.bind_some _ _).symm.trans H; rw [hy211]; with_reducible exact H2_) | (have H2_ := (Option.bind_some _ _).symm.trans H; with_reducible exact H2_) | with_reducible exact H | (rw [hy211]; exact H) | exact H
        have Ny211 := Am hy211
        clear hy211
        simp only [Option.some.injEq, Prod.mk.injEq] at H
        obtain ⟨rfl, rfl, rfl⟩ := H
        go_enter Try.func71, Try.ntmps71
        try go_wp2_with (first | ((refine Gd (N := 3) rfl ?_); refine Be ?hg (N := 3) ?hd (cs := #[.int .i64 a1_0, .int .i64 a1_1, .int .i64 a1_2, .int .i64 a1_3, .int .i64 a1_4]) (t := 26) ?hr ?_; (case hd | hg => rfl); (case hr => first | (go_simp; done) | (go_simp; rfl)); intro gb204 hg w32 hbox hb; have n0_ := Am (Kd.R_below (by (with_reducible repeat (first | apply Ra | apply Rn | apply Rd)); exact HO0.out) hb); have n1_ := Am (Kept.below (S := (fun k_ => P0_ k_)) (by repeat (first | (with_reducible first | exact HK.out | apply Kept.alloc | apply Kept.drewN | apply Kept.drew) | exact HK.out)) hb); have n2_ := Am (Bt (by repeat (first | exact HB.out | apply Ba | apply Bn | apply Bd)) hb); have n3_ := Am (hbox); have n4_ := Am ((by rw [hg]; exact (by first | exact HK.out.1 | exact (show Kept w _ (fun k_ => P0_ k_) from by repeat (first | (with_reducible first | exact HK.out | apply Kept.alloc | apply Kept.drewN | apply Kept.drew) | exact HK.out)).1) : w.heap.size ≤ gb204)); have n5_ := Am ((by rw [hg]; exact (Bz (by repeat (first | exact HB.out | apply Ba | apply Bn | apply Bd))) : w0.heap.size ≤ gb204)); clear HO0; clear HK; clear HB; have HO0 := n0_; have HK := n1_; have HB := n2_; have BK204 := n3_; have GW204 := n4_; have GE204 := n5_; clear n0_ n1_ n2_ n3_ n4_ n5_; clear hb hbox hg) | ((refine Gd (N := 4) rfl ?_); refine Be ?hg (N := 4) ?hd (cs := #[.int .i64 0, .int .i64 0]) (t := 30) ?hr ?_; (case hd | hg => rfl); (case hr => first | (go_simp; done) | (go_simp; rfl)); intro gb205 hg w33 hbox hb; have n0_ := Am (Kd.R_below (by (with_reducible repeat (first | apply Ra | apply Rn | apply Rd)); exact HO0.out) hb); have n1_ := Am (Kb (g := gb204) (o := .cells #[.int .i64 a1_0, .int .i64 a1_1, .int .i64 a1_2, .int .i64 a1_3, .int .i64 a1_4] 26 (0, 0)) (by (with_reducible repeat (first | refine Kn ?_ _ | refine Ke ?_ | refine Ka ?_ _)); exact BK204.out) hb); have n2_ := Am (Kept.below (S := (fun k_ => P0_ k_)) (by repeat (first | (with_reducible first | exact HK.out | apply Kept.alloc | apply Kept.drewN | apply Kept.drew | refine Kept.setCell ?_ (.inr GW204.out) _) | exact HK.out)) hb); have n3_ := Am (Bt (by repeat (first | (with_reducible first | exact HB.out | apply Ba | apply Bn | apply Bd | refine Bs ?_ GE204.out) | exact HB.out)) hb); have n4_ := Am (hbox); have n5_ := Am ((by rw [hg]; exact (by first | exact HK.out.1 | exact (show Kept w _ (fun k_ => P0_ k_) from by repeat (first | (with_reducible first | exact HK.out | apply Kept.alloc | apply Kept.drewN | apply Kept.drew | refine Kept.setCell ?_ (.inr GW204.out) _) | exact HK.out)).1) : w.heap.size ≤ gb205)); have n6_ := Am ((by rw [hg]; exact (Bz (by repeat (first | (with_reducible first | exact HB.out | apply Ba | apply Bn | apply Bd | refine Bs ?_ GE204.out) | exact HB.out))) : w0.heap.size ≤ gb205)); have n7_ := Am ((by rw [hg]; exact Nat.ne_of_lt (blk_lt (g := gb204) (o := .cells #[.int .i64 a1_0, .int .i64 a1_1, .int .i64 a1_2, .int .i64 a1_3, .int .i64 a1_4] 26 (0, 0)) (by (with_reducible repeat (first | refine Kn ?_ _ | refine Ke ?_ | refine Ka ?_ _)); exact BK204.out)) : gb204 ≠ gb205)); have n8_ := Am ((by rw [hg]; exact Nat.ne_of_gt (blk_lt (g := gb204) (o := .cells #[.int .i64 a1_0, .int .i64 a1_1, .int .i64 a1_2, .int .i64 a1_3, .int .i64 a1_4] 26 (0, 0)) (by (with_reducible repeat (first | refine Kn ?_ _ | refine Ke ?_ | refine Ka ?_ _)); exact BK204.out)) : gb205 ≠ gb204)); clear HO0; clear BK204; clear HK; clear HB; have HO0 := n0_; have BK204 := n1_; have HK := n2_; have HB := n3_; have BK205 := n4_; have GW205 := n5_; have GE205 := n6_; have NB204_205 := n7_; have NB205_204 := n8_; clear n0_ n1_ n2_ n3_ n4_ n5_ n6_ n7_ n8_; clear hb hbox hg; have hnb34 := NB204_205.out; have hnc34 := NB205_204.out; have hcz35_0 : w33.cell? ⟨gb204, 0, none⟩ = some (.int .i64 a1_0) := (Kc BK204.out 0).trans rfl; have hcz35_1 : w33.cell? ⟨gb204, 1, none⟩ = some (.int .i64 a1_1) := (Kc BK204.out 1).trans rfl; have hcz35_2 : w33.cell? ⟨gb204, 2, none⟩ = some (.int .i64 a1_2) := (Kc BK204.out 2).trans rfl; have hcz35_3 : w33.cell? ⟨gb204, 3, none⟩ = some (.int .i64 a1_3) := (Kc BK204.out 3).trans rfl; have hcz35_4 : w33.cell? ⟨gb204, 4, none⟩ = some (.int .i64 a1_4) := (Kc BK204.out 4).trans rfl; have hfz35_0 := Kz BK204.out 0; have hfz35_1 := Kz BK204.out 1; have hfz35_2 := Kz BK204.out 2; have hfz35_3 := Kz BK204.out 3; have hfz35_4 := Kz BK204.out 4))
        have n0_ := Am (Rd HO0.out)
        have n1_ := Am (Ke BK204.out)
        have n2_ := Am (Ke BK205.out)
        have n3_ := Am (Kept.drew HK.out)
        have n4_ := Am (Bd HB.out)
        clear HO0
        clear BK204
        clear BK205
        clear HK
        clear HB
        have HO0 := n0_
        have BK204 := n1_
        have BK205 := n2_
        have HK := n3_
        have HB := n4_
        clear n0_ n1_ n2_ n3_ n4_
        obtain ⟨Ao37, co37, eo37⟩ := Kd.R_slice HO0.out
        (first | subst eo37 | (injection eo37 with f1_ f2_ f3_; have f4_ := f1_.symm; have f5_ := f3_.symm; clear f1_ f2_ f3_; subst f4_; subst f5_))
        have p207 : 0 ≤ (a1_2 : Int) := of_decide_eq_true (by assumption)
        have q207 : a1_2 < (l0.length : Int) := of_decide_eq_true (by assumption)
        obtain ⟨ad207, e207, hx207_0⟩ := Kd.at_int (Kd.R_reads' HO0.out).2.2 a1_2 p207 q207
        cases e207
        replace p207 := eq_true p207
        replace q207 := eq_true q207
        refine start_ (n := 9) (S := fun w' => w'.cell? ⟨gb204, 0, none⟩ = some (.int .i64 a1_0) ∧ w'.cell? ⟨gb204, 1, none⟩ = some (.int .i64 a1_1) ∧ w'.cell? ⟨gb204, 2, none⟩ = some (.int .i64 a1_2) ∧ w'.cell? ⟨gb204, 3, none⟩ = some (.int .i64 a1_3) ∧ w'.cell? ⟨gb204, 4, none⟩ = some (.int .i64 a1_4) ∧ w'.cell? (ad207.add (a1_2).toNat) = some (.int .i64 (rd l0 a1_2))) (ds := []) #[false, false, false, false, false, false, false, false, false] (by kernel_rfl) rfl rfl ⟨(Kc BK204.out 0).trans rfl, (Kc BK204.out 1).trans rfl, (Kc BK204.out 2).trans rfl, (Kc BK204.out 3).trans rfl, (Kc BK204.out 4).trans rfl, hx207_0⟩ (fun hHeld => ?_); refine with_tabW impl_apply.tab5 impl_apply.bits5 (fun HT_ HW_ => ?_)
        generalize w33.drew = w36 at HO0 BK204 BK205 HK HB hx207_0 hHeld ⊢
        refine pure_ (i := 0) (N := some 21) (v := ?_) (a' := ?_) #[true, false, false, false, false, false, false, false, false] rfl rfl (any_of HT_.out (by kernel_rfl)) (fun _ _ _ h => h) (Or.inl ⟨by rfl, ?_⟩) ?_ ?_
        rotate_left
        ·intro w'
         go_simp
         with_reducible rfl
        rotate_left
        ·simp only [Act.put, Lt, Lz, Ls, i64_w, i32_w]
         rfl
        refine pure_ (i := 1) (N := some 22) (v := ?_) (a' := ?_) #[true, true, false, false, false, false, false, false, false] rfl rfl (any_of HT_.out (by kernel_rfl)) (fun _ _ _ h => h) (Or.inl ⟨by rfl, ?_⟩) ?_ ?_
        rotate_left
        ·intro w'
         go_simp
         with_reducible rfl
        rotate_left
        ·simp only [Act.put, Lt, Lz, Ls, i64_w, i32_w]
         rfl
        refine pure_ (i := 5) (N := some 26) (v := ?_) (a' := ?_) #[true, true, false, false, false, true, false, false, false] rfl rfl (any_of HT_.out (by kernel_rfl)) (fun _ _ _ h => h) (Or.inl ⟨by rfl, ?_⟩) ?_ ?_
        rotate_left
        ·intro w'
         go_simp
         with_reducible rfl
        rotate_left
        ·simp only [Act.put, Lt, Lz, Ls, i64_w, i32_w]
         rfl
        refine take_ (i := 2) (N := some 23) (v := ?_) (a' := ?_) #[true, true, true, false, false, true, false, false, false] rfl rfl (take_ofW HT_.out HW_.out (by kernel_rfl)) (fun _ _ _ h => h) (Or.inl ⟨by rfl, ?_⟩) hHeld ?_ ?_
        rotate_left
        ·rintro w' ⟨s0, s1, s2, s3, s4, s5⟩
         go_simp
         with_reducible rfl
        rotate_left
        ·simp only [Act.put, Lt, Lz, Ls, i64_w, i32_w]
         rfl
        refine pure_ (i := 3) (N := some 24) (v := ?_) (a' := ?_) #[true, true, true, true, false, true, false, false, false] rfl rfl (any_of HT_.out (by kernel_rfl)) (fun _ _ _ h => h) (Or.inl ⟨by rfl, ?_⟩) ?_ ?_
        rotate_left
        ·intro w'
         go_simp
         with_reducible rfl
        rotate_left
        ·simp only [Act.put, Lt, Lz, Ls, i64_w, i32_w]
         rfl
        refine take_ (i := 4) (N := some 25) (v := ?_) (a' := ?_) #[true, true, true, true, true, true, false, false, false] rfl rfl (take_ofW HT_.out HW_.out (by kernel_rfl)) (fun _ _ _ h => h) (Or.inl ⟨by rfl, ?_⟩) hHeld ?_ ?_
        rotate_left
        ·rintro w' ⟨s0, s1, s2, s3, s4, s5⟩
         go_simp
         with_reducible rfl
        rotate_left
        ·simp only [Act.put, Lt, Lz, Ls, i64_w, i32_w]
         rfl
        refine take_ (i := 6) (N := some 27) (v := ?_) (a' := ?_) #[true, true, true, true, true, true, true, false, false] rfl rfl (take_ofW HT_.out HW_.out (by kernel_rfl)) (fun _ _ _ h => h) (Or.inl ⟨by rfl, ?_⟩) hHeld ?_ ?_
        rotate_left
        ·rintro w' ⟨s0, s1, s2, s3, s4, s5⟩
         go_simp
         with_reducible rfl
        rotate_left
        ·simp only [Act.put, Lt, Lz, Ls, i64_w, i32_w]
         rfl
        refine pure_ (i := 7) (N := some 28) (v := ?_) (a' := ?_) #[true, true, true, true, true, true, true, true, false] rfl rfl (any_of HT_.out (by kernel_rfl)) (fun _ _ _ h => h) (Or.inl ⟨by rfl, ?_⟩) ?_ ?_
        rotate_left
        ·intro w'
         go_simp
         with_reducible rfl
        rotate_left
        ·simp only [Act.put, Lt, Lz, Ls, i64_w, i32_w]
         rfl
        refine pure_ (i := 8) (N := some 20) (v := ?_) (a' := ?_) #[true, true, true, true, true, true, true, true, true] rfl rfl (any_of HT_.out (by kernel_rfl)) (fun _ _ _ h => h) (Or.inl ⟨by rfl, ?_⟩) ?_ ?_
        rotate_left
        ·intro w'
         go_simp
         with_reducible rfl
        rotate_left
        ·simp only [Act.put, Lt, Lz, Ls, i64_w, i32_w]
         rfl
        refine done_ (done_of HT_.out (by kernel_rfl)) ?_
        try go_wp2
        have n0_ := Am (Rd HO0.out)
        have n1_ := Am (Ke BK204.out)
        have n2_ := Am (Ke BK205.out)
        have n3_ := Am (Kept.drew HK.out)
        have n4_ := Am (Bd HB.out)
        clear HO0
        clear BK204
        clear BK205
        clear HK
        clear HB
        have HO0 := n0_
        have BK204 := n1_
        have BK205 := n2_
        have HK := n3_
        have HB := n4_
        clear n0_ n1_ n2_ n3_ n4_
        have p208 : 0 ≤ (a1_2 : Int) := of_decide_eq_true (by assumption)
        have q208 : a1_2 < (l0.length : Int) := of_decide_eq_true (by assumption)
        obtain ⟨ad208, e208, hx208_0⟩ := Kd.at_int (Kd.R_reads' HO0.out).2.2 a1_2 p208 q208
        obtain rfl : ad207 = ad208 := (by injection e208)
        replace p208 := eq_true p208
        replace q208 := eq_true q208
        have p28 : 0 ≤ (a1_2 : Int) := of_decide_eq_true (by assumption)
        have q28 : (a1_2 : Int) < ((l0.length : Int) : Int) := of_decide_eq_true (by assumption)
        obtain ⟨go28, co28, eo28, gb28, gl28, cl28, HG28⟩ := Kd.R_form HO0.out (by omega)
        (first | cases eo28 | (injection eo28 with ea_ en_ ec_; (first | subst ea_ | (injection ea_ with ea_; subst ea_)); subst ec_; clear en_))
        have GB28 := Am gb28
        have GG28 := Am HG28
        clear gb28 gl28 HG28
        have HMgo28 := Am (show (P0_ go28 ∨ w.heap.size ≤ go28) from (HO0.out.1 _ rfl))
        (first | simp only [add_plain] at hx207_0 | skip)
        (first | simp only [add_plain] at hx208_0 | skip)
        obtain ⟨hx28_0, hf28_0⟩ := Kd.R_celln 0 HO0.out (a1_2 : Int) p28 q28
        replace p28 := eq_true p28
        replace q28 := eq_true q28
        have HP39 := Kd.R_putn HO0.out (a1_2 : Int) (wrap64 ((rd l0 a1_2) - a1_4))
        rw [← Ny209.out] at HP39
        have HQ39 := Am HP39
        clear HP39
        refine start_ (n := 10) (S := fun w' => w'.cell? ⟨gb204, 0, none⟩ = some (.int .i64 a1_0) ∧ w'.cell? ⟨gb204, 1, none⟩ = some (.int .i64 a1_1) ∧ w'.cell? ⟨gb204, 2, none⟩ = some (.int .i64 a1_2) ∧ w'.cell? ⟨gb204, 3, none⟩ = some (.int .i64 a1_3) ∧ w'.cell? ⟨gb204, 4, none⟩ = some (.int .i64 a1_4) ∧ w'.cell? ⟨go28, (a1_2).toNat, none⟩ = some (.int .i64 (rd l0 a1_2))) (ds := [9]) #[false, false, false, false, false, false, false, false, false, false] (by kernel_rfl) rfl rfl ⟨(Kc BK204.out 0).trans rfl, (Kc BK204.out 1).trans rfl, (Kc BK204.out 2).trans rfl, (Kc BK204.out 3).trans rfl, (Kc BK204.out 4).trans rfl, hx208_0⟩ (fun hHeld => ?_); refine with_tabW impl_apply.tab7 impl_apply.bits7 (fun HT_ HW_ => ?_)
        generalize w36.drew = w38 at HO0 BK204 BK205 HK HB GG28 HQ39 hf28_0 hx207_0 hx208_0 hx28_0 hHeld ⊢
        refine pure_ (i := 0) (N := some 30) (v := ?_) (a' := ?_) #[true, false, false, false, false, false, false, false, false, false] rfl rfl (any_of HT_.out (by kernel_rfl)) (fun _ _ _ h => h) (Or.inl ⟨by rfl, ?_⟩) ?_ ?_
        rotate_left
        ·intro w'
         go_simp
         with_reducible rfl
        rotate_left
        ·simp only [Act.put, Lt, Lz, Ls, i64_w, i32_w]
         rfl
        refine pure_ (i := 1) (N := some 31) (v := ?_) (a' := ?_) #[true, true, false, false, false, false, false, false, false, false] rfl rfl (any_of HT_.out (by kernel_rfl)) (fun _ _ _ h => h) (Or.inl ⟨by rfl, ?_⟩) ?_ ?_
        rotate_left
        ·intro w'
         go_simp
         with_reducible rfl
        rotate_left
        ·simp only [Act.put, Lt, Lz, Ls, i64_w, i32_w]
         rfl
        refine pure_ (i := 5) (N := some 35) (v := ?_) (a' := ?_) #[true, true, false, false, false, true, false, false, false, false] rfl rfl (any_of HT_.out (by kernel_rfl)) (fun _ _ _ h => h) (Or.inl ⟨by rfl, ?_⟩) ?_ ?_
        rotate_left
        ·intro w'
         go_simp
         with_reducible rfl
        rotate_left
        ·simp only [Act.put, Lt, Lz, Ls, i64_w, i32_w]
         rfl
        refine take_ (i := 2) (N := some 32) (v := ?_) (a' := ?_) #[true, true, true, false, false, true, false, false, false, false] rfl rfl (take_ofW HT_.out HW_.out (by kernel_rfl)) (fun _ _ _ h => h) (Or.inl ⟨by rfl, ?_⟩) hHeld ?_ ?_
        rotate_left
        ·rintro w' ⟨s0, s1, s2, s3, s4, s5⟩
         go_simp
         with_reducible rfl
        rotate_left
        ·simp only [Act.put, Lt, Lz, Ls, i64_w, i32_w]
         rfl
        refine pure_ (i := 3) (N := some 33) (v := ?_) (a' := ?_) #[true, true, true, true, false, true, false, false, false, false] rfl rfl (any_of HT_.out (by kernel_rfl)) (fun _ _ _ h => h) (Or.inl ⟨by rfl, ?_⟩) ?_ ?_
        rotate_left
        ·intro w'
         go_simp
         with_reducible rfl
        rotate_left
        ·simp only [Act.put, Lt, Lz, Ls, i64_w, i32_w]
         rfl
        refine take_ (i := 4) (N := some 34) (v := ?_) (a' := ?_) #[true, true, true, true, true, true, false, false, false, false] rfl rfl (take_ofW HT_.out HW_.out (by kernel_rfl)) (fun _ _ _ h => h) (Or.inl ⟨by rfl, ?_⟩) hHeld ?_ ?_
        rotate_left
        ·rintro w' ⟨s0, s1, s2, s3, s4, s5⟩
         go_simp
         with_reducible rfl
        rotate_left
        ·simp only [Act.put, Lt, Lz, Ls, i64_w, i32_w]
         rfl
        refine take_ (i := 6) (N := some 36) (v := ?_) (a' := ?_) #[true, true, true, true, true, true, true, false, false, false] rfl rfl (take_ofW HT_.out HW_.out (by kernel_rfl)) (fun _ _ _ h => h) (Or.inl ⟨by rfl, ?_⟩) hHeld ?_ ?_
        rotate_left
        ·rintro w' ⟨s0, s1, s2, s3, s4, s5⟩
         go_simp
         with_reducible rfl
        rotate_left
        ·simp only [Act.put, Lt, Lz, Ls, i64_w, i32_w]
         rfl
        refine pure_ (i := 7) (N := some 37) (v := ?_) (a' := ?_) #[true, true, true, true, true, true, true, true, false, false] rfl rfl (any_of HT_.out (by kernel_rfl)) (fun _ _ _ h => h) (Or.inl ⟨by rfl, ?_⟩) ?_ ?_
        rotate_left
        ·intro w'
         go_simp
         with_reducible rfl
        rotate_left
        ·simp only [Act.put, Lt, Lz, Ls, i64_w, i32_w]
         rfl
        refine pure_ (i := 8) (N := some 38) (v := ?_) (a' := ?_) #[true, true, true, true, true, true, true, true, true, false] rfl rfl (any_of HT_.out (by kernel_rfl)) (fun _ _ _ h => h) (Or.inl ⟨by rfl, ?_⟩) ?_ ?_
        rotate_left
        ·intro w'
         go_simp
         with_reducible rfl
        rotate_left
        ·simp only [Act.put, Lt, Lz, Ls, i64_w, i32_w]
         rfl
        refine last_ (i := 9) (N := none) #[true, true, true, true, true, true, true, true, true, true] rfl rfl (one_of HT_.out (by kernel_rfl)) (by decide) (fun K hK => ?_)
        refine skip_ (w1 := ?_) (by rfl) rfl ?_ ?_
        rotate_left
        ·go_simp
         rfl
        refine hK.out _ _ ?_
        clear hK K
        refine done_ (done_of HT_.out (by kernel_rfl)) ?_
        have n0_ : Ad (Kd.R (Kd.int .i64) 3 (w38.setCell ⟨go28, (a1_2 : Int).toNat, none⟩ (.int .i64 (wrap64 ((rd l0 a1_2) - a1_4)))) w0.heap.size (fun k_ => (P0_ k_ ∨ w.heap.size ≤ k_)) (.slice (some ⟨go28, 0, none⟩) l0.length co37) y209) := ⟨by (with_reducible repeat (first | apply Ra | apply Rn | apply Rd)); exact HQ39.out⟩
        have n1_ : Ad ((w38.setCell ⟨go28, (a1_2 : Int).toNat, none⟩ (.int .i64 (wrap64 ((rd l0 a1_2) - a1_4)))).heap[gb204]? = some (.cells #[.int .i64 a1_0, .int .i64 a1_1, .int .i64 a1_2, .int .i64 a1_3, .int .i64 a1_4] 26 (0, 0))) := ⟨by (with_reducible repeat (first | refine Kn ?_ _ | refine Ke ?_ | refine Ka ?_ _)); refine Kf ?_ (by have h_ := Kd.R_ne HO0.out BK204.out (by decide); intro e_; exact h_ (by rw [e_]; rfl)) _; (with_reducible repeat (first | refine Kn ?_ _ | refine Ke ?_ | refine Ka ?_ _)); exact BK204.out⟩
        have n2_ : Ad ((w38.setCell ⟨go28, (a1_2 : Int).toNat, none⟩ (.int .i64 (wrap64 ((rd l0 a1_2) - a1_4)))).heap[gb205]? = some (.cells #[.int .i64 0, .int .i64 0] 30 (0, 0))) := ⟨by (with_reducible repeat (first | refine Kn ?_ _ | refine Ke ?_ | refine Ka ?_ _)); refine Kf ?_ (by have h_ := Kd.R_ne HO0.out BK205.out (by decide); intro e_; exact h_ (by rw [e_]; rfl)) _; (with_reducible repeat (first | refine Kn ?_ _ | refine Ke ?_ | refine Ka ?_ _)); exact BK205.out⟩
        have n3_ : Ad (Kept w (w38.setCell ⟨go28, (a1_2 : Int).toNat, none⟩ (.int .i64 (wrap64 ((rd l0 a1_2) - a1_4)))) (fun k_ => P0_ k_)) := ⟨by repeat (first | (with_reducible first | exact HK.out | apply Kept.alloc | apply Kept.drewN | apply Kept.drew | refine Kept.setCell ?_ HMgo28.out _ | refine Kept.setCell ?_ (.inr GW204.out) _ | refine Kept.setCell ?_ (.inr GW205.out) _) | exact HK.out)⟩
        have n4_ : Ad (Below w0.heap.size w0 (w38.setCell ⟨go28, (a1_2 : Int).toNat, none⟩ (.int .i64 (wrap64 ((rd l0 a1_2) - a1_4))))) := ⟨by repeat (first | (with_reducible first | exact HB.out | apply Ba | apply Bn | apply Bd | refine Bs ?_ GB28.out | refine Bs ?_ GE204.out | refine Bs ?_ GE205.out) | exact HB.out)⟩
        (try clear HO0)
        (try clear BK204)
        (try clear BK205)
        (try clear HK)
        (try clear HB)
        generalize (w38.setCell ⟨go28, (a1_2 : Int).toNat, none⟩ (.int .i64 (wrap64 ((rd l0 a1_2) - a1_4)))) = w40 at n0_ n1_ n2_ n3_ n4_ ⊢
        have HO0 := n0_
        have BK204 := n1_
        have BK205 := n2_
        have HK := n3_
        have HB := n4_
        clear n0_ n1_ n2_ n3_ n4_
        try go_wp2
        have n0_ := Am (Rd HO0.out)
        have n1_ := Am (Ke BK204.out)
        have n2_ := Am (Ke BK205.out)
        have n3_ := Am (Kept.drew HK.out)
        have n4_ := Am (Bd HB.out)
        clear HO0
        clear BK204
        clear BK205
        clear HK
        clear HB
        have HO0 := n0_
        have BK204 := n1_
        have BK205 := n2_
        have HK := n3_
        have HB := n4_
        clear n0_ n1_ n2_ n3_ n4_
        have p210 : 0 ≤ (a1_3 : Int) := of_decide_eq_true (by assumption)
        have q210 : a1_3 < (y209.length : Int) := (by have h_ : (a1_3 : Int) < ((l0.length : Int) : Int) := of_decide_eq_true (by assumption); first | (have e_ := (Kd.R_reads' HO0.out).1; omega) | simpa only [Ny209.out, List.length_set] using h_)
        have ql210 : ((a1_3 : Int) < ((l0.length : Int) : Int)) = True := eq_true (of_decide_eq_true (by assumption))
        obtain ⟨ad210, e210, hx210_0⟩ := Kd.at_int (Kd.R_reads' HO0.out).2.2 a1_3 p210 q210
        obtain rfl : (⟨go28, 0, none⟩ : Addr) = ad210 := (by injection e210)
        (first | simp only [add_plain] at hx210_0 | simp only [add_at] at hx210_0 | simp only [Addr.add, Nat.zero_add] at hx210_0 | skip)
        replace p210 := eq_true p210
        replace q210 := eq_true q210
        have p31 : 0 ≤ (a1_3 : Int) := of_decide_eq_true (by assumption)
        have q31 : (a1_3 : Int) < ((l0.length : Int) : Int) := of_decide_eq_true (by assumption)
        obtain ⟨hx31_0, hf31_0⟩ := Kd.R_celln 0 HO0.out (a1_3 : Int) p31 q31
        replace p31 := eq_true p31
        replace q31 := eq_true q31
        have HP42 := Kd.R_putn HO0.out (a1_3 : Int) (wrap64 ((rd y209 a1_3) + a1_4))
        rw [← Ny211.out] at HP42
        have HQ42 := Am HP42
        clear HP42
        refine start_ (n := 10) (S := fun w' => w'.cell? ⟨gb204, 0, none⟩ = some (.int .i64 a1_0) ∧ w'.cell? ⟨gb204, 1, none⟩ = some (.int .i64 a1_1) ∧ w'.cell? ⟨gb204, 2, none⟩ = some (.int .i64 a1_2) ∧ w'.cell? ⟨gb204, 3, none⟩ = some (.int .i64 a1_3) ∧ w'.cell? ⟨gb204, 4, none⟩ = some (.int .i64 a1_4) ∧ w'.cell? ⟨go28, (a1_3).toNat, none⟩ = some (.int .i64 (rd y209 a1_3))) (ds := [9]) #[false, false, false, false, false, false, false, false, false, false] (by kernel_rfl) rfl rfl ⟨(Kc BK204.out 0).trans rfl, (Kc BK204.out 1).trans rfl, (Kc BK204.out 2).trans rfl, (Kc BK204.out 3).trans rfl, (Kc BK204.out 4).trans rfl, hx210_0⟩ (fun hHeld => ?_); refine with_tabW impl_apply.tab8 impl_apply.bits8 (fun HT_ HW_ => ?_)
        generalize w40.drew = w41 at HO0 BK204 BK205 HK HB HQ42 hf31_0 hx210_0 hx31_0 hHeld ⊢
        refine pure_ (i := 0) (N := some 39) (v := ?_) (a' := ?_) #[true, false, false, false, false, false, false, false, false, false] rfl rfl (any_of HT_.out (by kernel_rfl)) (fun _ _ _ h => h) (Or.inl ⟨by rfl, ?_⟩) ?_ ?_
        rotate_left
        ·intro w'
         go_simp
         with_reducible rfl
        rotate_left
        ·simp only [Act.put, Lt, Lz, Ls, i64_w, i32_w]
         rfl
        refine pure_ (i := 1) (N := some 40) (v := ?_) (a' := ?_) #[true, true, false, false, false, false, false, false, false, false] rfl rfl (any_of HT_.out (by kernel_rfl)) (fun _ _ _ h => h) (Or.inl ⟨by rfl, ?_⟩) ?_ ?_
        rotate_left
        ·intro w'
         go_simp
         with_reducible rfl
        rotate_left
        ·simp only [Act.put, Lt, Lz, Ls, i64_w, i32_w]
         rfl
        refine pure_ (i := 5) (N := some 44) (v := ?_) (a' := ?_) #[true, true, false, false, false, true, false, false, false, false] rfl rfl (any_of HT_.out (by kernel_rfl)) (fun _ _ _ h => h) (Or.inl ⟨by rfl, ?_⟩) ?_ ?_
        rotate_left
        ·intro w'
         go_simp
         with_reducible rfl
        rotate_left
        ·simp only [Act.put, Lt, Lz, Ls, i64_w, i32_w]
         rfl
        refine take_ (i := 2) (N := some 41) (v := ?_) (a' := ?_) #[true, true, true, false, false, true, false, false, false, false] rfl rfl (take_ofW HT_.out HW_.out (by kernel_rfl)) (fun _ _ _ h => h) (Or.inl ⟨by rfl, ?_⟩) hHeld ?_ ?_
        rotate_left
        ·rintro w' ⟨s0, s1, s2, s3, s4, s5⟩
         go_simp
         with_reducible rfl
        rotate_left
        ·simp only [Act.put, Lt, Lz, Ls, i64_w, i32_w]
         rfl
        refine pure_ (i := 3) (N := some 42) (v := ?_) (a' := ?_) #[true, true, true, true, false, true, false, false, false, false] rfl rfl (any_of HT_.out (by kernel_rfl)) (fun _ _ _ h => h) (Or.inl ⟨by rfl, ?_⟩) ?_ ?_
        rotate_left
        ·intro w'
         go_simp
         with_reducible rfl
        rotate_left
        ·simp only [Act.put, Lt, Lz, Ls, i64_w, i32_w]
         rfl
        refine take_ (i := 4) (N := some 43) (v := ?_) (a' := ?_) #[true, true, true, true, true, true, false, false, false, false] rfl rfl (take_ofW HT_.out HW_.out (by kernel_rfl)) (fun _ _ _ h => h) (Or.inl ⟨by rfl, ?_⟩) hHeld ?_ ?_
        rotate_left
        ·rintro w' ⟨s0, s1, s2, s3, s4, s5⟩
         go_simp
         with_reducible rfl
        rotate_left
        ·simp only [Act.put, Lt, Lz, Ls, i64_w, i32_w]
         rfl
        refine take_ (i := 6) (N := some 45) (v := ?_) (a' := ?_) #[true, true, true, true, true, true, true, false, false, false] rfl rfl (take_ofW HT_.out HW_.out (by kernel_rfl)) (fun _ _ _ h => h) (Or.inl ⟨by rfl, ?_⟩) hHeld ?_ ?_
        rotate_left
        ·rintro w' ⟨s0, s1, s2, s3, s4, s5⟩
         go_simp
         with_reducible rfl
        rotate_left
        ·simp only [Act.put, Lt, Lz, Ls, i64_w, i32_w]
         rfl
        refine pure_ (i := 7) (N := some 46) (v := ?_) (a' := ?_) #[true, true, true, true, true, true, true, true, false, false] rfl rfl (any_of HT_.out (by kernel_rfl)) (fun _ _ _ h => h) (Or.inl ⟨by rfl, ?_⟩) ?_ ?_
        rotate_left
        ·intro w'
         go_simp
         with_reducible rfl
        rotate_left
        ·simp only [Act.put, Lt, Lz, Ls, i64_w, i32_w]
         rfl
        refine pure_ (i := 8) (N := some 47) (v := ?_) (a' := ?_) #[true, true, true, true, true, true, true, true, true, false] rfl rfl (any_of HT_.out (by kernel_rfl)) (fun _ _ _ h => h) (Or.inl ⟨by rfl, ?_⟩) ?_ ?_
        rotate_left
        ·intro w'
         go_simp
         with_reducible rfl
        rotate_left
        ·simp only [Act.put, Lt, Lz, Ls, i64_w, i32_w]
         rfl
        refine last_ (i := 9) (N := none) #[true, true, true, true, true, true, true, true, true, true] rfl rfl (one_of HT_.out (by kernel_rfl)) (by decide) (fun K hK => ?_)
        refine skip_ (w1 := ?_) (by rfl) rfl ?_ ?_
        rotate_left
        ·go_simp
         rfl
        refine hK.out _ _ ?_
        clear hK K
        refine done_ (done_of HT_.out (by kernel_rfl)) ?_
        have n0_ : Ad (Kd.R (Kd.int .i64) 3 (w41.setCell ⟨go28, (a1_3 : Int).toNat, none⟩ (.int .i64 (wrap64 ((rd y209 a1_3) + a1_4)))) w0.heap.size (fun k_ => (P0_ k_ ∨ w.heap.size ≤ k_)) (.slice (some ⟨go28, 0, none⟩) l0.length co37) y211) := ⟨by (with_reducible repeat (first | apply Ra | apply Rn | apply Rd)); exact HQ42.out⟩
        have n1_ : Ad ((w41.setCell ⟨go28, (a1_3 : Int).toNat, none⟩ (.int .i64 (wrap64 ((rd y209 a1_3) + a1_4)))).heap[gb204]? = some (.cells #[.int .i64 a1_0, .int .i64 a1_1, .int .i64 a1_2, .int .i64 a1_3, .int .i64 a1_4] 26 (0, 0))) := ⟨by (with_reducible repeat (first | refine Kn ?_ _ | refine Ke ?_ | refine Ka ?_ _)); refine Kf ?_ (by have h_ := Kd.R_ne HO0.out BK204.out (by decide); intro e_; exact h_ (by rw [e_]; rfl)) _; (with_reducible repeat (first | refine Kn ?_ _ | refine Ke ?_ | refine Ka ?_ _)); exact BK204.out⟩
        have n2_ : Ad ((w41.setCell ⟨go28, (a1_3 : Int).toNat, none⟩ (.int .i64 (wrap64 ((rd y209 a1_3) + a1_4)))).heap[gb205]? = some (.cells #[.int .i64 0, .int .i64 0] 30 (0, 0))) := ⟨by (with_reducible repeat (first | refine Kn ?_ _ | refine Ke ?_ | refine Ka ?_ _)); refine Kf ?_ (by have h_ := Kd.R_ne HO0.out BK205.out (by decide); intro e_; exact h_ (by rw [e_]; rfl)) _; (with_reducible repeat (first | refine Kn ?_ _ | refine Ke ?_ | refine Ka ?_ _)); exact BK205.out⟩
        have n3_ : Ad (Kept w (w41.setCell ⟨go28, (a1_3 : Int).toNat, none⟩ (.int .i64 (wrap64 ((rd y209 a1_3) + a1_4)))) (fun k_ => P0_ k_)) := ⟨by repeat (first | (with_reducible first | exact HK.out | apply Kept.alloc | apply Kept.drewN | apply Kept.drew | refine Kept.setCell ?_ HMgo28.out _ | refine Kept.setCell ?_ (.inr GW204.out) _ | refine Kept.setCell ?_ (.inr GW205.out) _) | exact HK.out)⟩
        have n4_ : Ad (Below w0.heap.size w0 (w41.setCell ⟨go28, (a1_3 : Int).toNat, none⟩ (.int .i64 (wrap64 ((rd y209 a1_3) + a1_4))))) := ⟨by repeat (first | (with_reducible first | exact HB.out | apply Ba | apply Bn | apply Bd | refine Bs ?_ GB28.out | refine Bs ?_ GE204.out | refine Bs ?_ GE205.out) | exact HB.out)⟩
        (try clear HO0)
        (try clear BK204)
        (try clear BK205)
        (try clear HK)
        (try clear HB)
        generalize (w41.setCell ⟨go28, (a1_3 : Int).toNat, none⟩ (.int .i64 (wrap64 ((rd y209 a1_3) + a1_4)))) = w43 at n0_ n1_ n2_ n3_ n4_ ⊢
        have HO0 := n0_
        have BK204 := n1_
        have BK205 := n2_
        have HK := n3_
        have HB := n4_
        clear n0_ n1_ n2_ n3_ n4_
        have hcz44_0 : w43.cell? ⟨gb205, 0, none⟩ = some (.int .i64 0) := (Kc BK205.out 0).trans rfl
        have hcz44_1 : w43.cell? ⟨gb205, 1, none⟩ = some (.int .i64 0) := (Kc BK205.out 1).trans rfl
        have hfz44_0 := Kz BK205.out 0
        have hfz44_1 := Kz BK205.out 1
        try go_wp2
        refine bodyPost_ret (results_cell_row rfl _ _ gb205 30 #[.int .i64 1, .int .i64 0] (0, 0) _ rfl (by (with_reducible repeat (first | refine Kn ?_ _ | refine Ke ?_ | refine Ka ?_ _)); refine blk_put (cs := #[.int .i64 1, .int .i64 0]) ?_ 1 _ rfl; (with_reducible repeat (first | refine Kn ?_ _ | refine Ke ?_ | refine Ka ?_ _)); refine blk_put (cs := #[.int .i64 0, .int .i64 0]) ?_ 0 _ rfl; (with_reducible repeat (first | refine Kn ?_ _ | refine Ke ?_ | refine Ka ?_ _)); exact BK205.out) Try.underlying30 rfl (by kernel_rfl)) rfl ?_
        exact ⟨by first | rfl | (simp [*, errW_none, errW_some] <;> rfl), by (with_reducible repeat (first | apply Ra | apply Rn | apply Rd)); exact Kd.R_mono (Kd.R_far (p := ⟨gb205, 1, none⟩) (Kd.R_far (p := ⟨gb205, 0, none⟩) (Kd.R_types HO0.out BK205.out (by decide)) (fun _ hk => hk.2) (.int .i64 1)) (fun _ hk => hk.2) (.int .i64 0)) (fun _ hk => hk.1), by repeat (first | (with_reducible first | exact HB.out | apply Ba | apply Bn | apply Bd | refine Bs ?_ GE204.out | refine Bs ?_ GE205.out) | exact HB.out), by repeat (first | (with_reducible first | exact HK.out | apply Kept.alloc | apply Kept.drewN | apply Kept.drew | refine Kept.setCell ?_ (.inr GW204.out) _ | refine Kept.setCell ?_ (.inr GW205.out) _) | exact HK.out)⟩
       ·rw [if_neg c30] at H
        exact absurd H (by simp)
      ·rw [if_neg c29] at H
       exact absurd H (by simp)
    ·rw [if_neg c19] at H
     exact absurd H (by simp)
   ·rw [if_neg c18] at H
    exact absurd H (by simp)
def impl_playCmds.l0 : Nat → List Int → List (S30) → List (S26) → Int → Int → Option (List Int × (List (S30)))
 | 0, _, _, _, _, _ => none
 | k + 1, x4, x5, x10, x11, x12 => if x12 < x11 then (if 0 ≤ x12 then (if x12 < (x10.length : Int) then ((impl_apply.f x4 ((rd_T26 x10 x12).f0) ((rd_T26 x10 x12).f1) ((rd_T26 x10 x12).f2) ((rd_T26 x10 x12).f3) ((rd_T26 x10 x12).f4)).bind fun bt220 => (if x5.length < 8796093022208 then (impl_playCmds.l0 k bt220.2.2 (x5 ++ [(⟨bt220.1, bt220.2.1⟩ : S30)]) x10 x11 (wrap64 (x12 + 1))) else (none))) else (none)) else (none)) else (some (x4, x5))
def impl_playCmds.f (k : Nat) (l0 : List (S26)) : Option (List Int × (List (S30))) := (impl_NewSums.f).bind fun t212 => (impl_playCmds.l0 k t212 (([] : List (S30))) l0 (l0.length : Int) 0)
theorem impl_playCmds.mono_l : ∀ k, (∀ y0 y1 y2 y3 y4, LeO (impl_playCmds.l0 k y0 y1 y2 y3 y4) (impl_playCmds.l0 (k + 1) y0 y1 y2 y3 y4))
 | 0 => fun _ _ _ _ _ r h => by simp [impl_playCmds.l0] at h
 | k + 1 => by
  have ih0 := impl_playCmds.mono_l k
  ·intro y0 y1 y2 y3 y4
   unfold impl_playCmds.l0
   repeat' first
   | (with_reducible exact ih0 _ _ _ _ _)
   | (with_reducible exact LeO.refl _)
   | (with_reducible exact LeO.none _)
   | (with_reducible refine LeO.ite ?_ ?_)
   | (with_reducible refine LeO.bind ?_ (fun _ => ?_))
   | exact ih0 _ _ _ _ _
   | exact LeO.none _
   | refine LeO.ite ?_ ?_
   | refine LeO.bind ?_ (fun _ => ?_)
theorem impl_playCmds.mono : ∀ a0 k, LeO (impl_playCmds.f k a0) (impl_playCmds.f (k + 1) a0) := by
 intro a0 k
 have ih0 := impl_playCmds.mono_l k
 unfold impl_playCmds.f
 repeat' first
   | (with_reducible exact ih0 _ _ _ _ _)
   | (with_reducible exact LeO.refl _)
   | (with_reducible exact LeO.none _)
   | (with_reducible refine LeO.ite ?_ ?_)
   | (with_reducible refine LeO.bind ?_ (fun _ => ?_))
   | exact ih0 _ _ _ _ _
   | exact LeO.none _
   | refine LeO.ite ?_ ?_
   | refine LeO.bind ?_ (fun _ => ?_)
set_option maxHeartbeats 8000000 in
set_option maxRecDepth 100000 in
theorem impl_playCmds.calls (k : Nat) (A0 : Option Addr) (c0 : Nat) (l0 : List (S26)) (r1 : List Int) (r2 : List (S30)) (w : World) (hr0 : Kd.C k26 w A0 l0.length l0) (hc0 : l0.length ≤ c0) (h : impl_playCmds.f k l0 = some (r1, r2)) :
  Calls Try.prog 83 #[.slice A0 l0.length c0] w fun e w' => ∃ v0_ v1_ : Value, e = .returned (.tuple #[v0_, v1_]) ∧ Kd.R (Kd.int .i64) 3 w' w.heap.size (fun _ => True) v0_ r1 ∧ Kd.R k30 30 w' w.heap.size (fun _ => True) v1_ r2 ∧ Below w.heap.size w w' := by
 have hu26 := Try.underlying26
 have HR0 := Am hr0
 have HC0 := Am hc0
 clear hr0 hc0
 have HB := Am (Below.refl w.heap.size w)
 have H : ((impl_NewSums.f).bind fun t212 => (impl_playCmds.l0 k t212 (([] : List (S30))) l0 (l0.length : Int) 0)) = some (r1, r2) := h
 clear h
 replace H := Option.bind_eq_some_iff.mp H
 obtain ⟨t212, A20, H⟩ := H
 replace H : (impl_playCmds.l0 k t212 (([] : List (S30))) l0 (l0.length : Int) 0) = some (r1, r2) := H
 have A2 := Am A20
 clear A20
 obtain ⟨y215, hy215⟩ : ∃ y_ : List (S30), y_ = (([] : List (S30))) := ⟨_, rfl⟩
 replace H : (impl_playCmds.l0 k t212 y215 l0 (l0.length : Int) 0) = some (r1, r2) := by first | (rw [hy215]; with_reducible exact H) | (have H2_ := (Option.bind_some _ _).symm.trans H; rw [hy215]; with_reducible exact H2_) | (have H2_ := (Option.bind_some _ _).symm.trans H; with_reducible exact H2_) | with_reducible exact H | (rw [hy215]; exact H) | exact H
 have Ny215 := Am hy215
 clear hy215
 have H' := Am H
 clear H
 go_enter Try.func83, Try.ntmps83
 go_wp2_with (first | ((refine Gc (f := 18) rfl ?_); refine goesL_ (some 8) rfl rfl Try.func18 (by kernel_rfl) rfl #[] rfl (by first | rfl | (simp only [List.map_toArray, List.map_cons, List.map_nil]; first | done | rfl)) ?_; (with_reducible refine (impl_NewSums.calls  t212 _ A2.out).mono ?_); rintro e w3 ⟨v213, rfl, ho0, hb⟩; refine ⟨_, rfl, ?_⟩; have n0_ := Am (Kd.R_lower ho0 (Bz (by repeat (first | exact HB.out | apply Ba | apply Bn | apply Bd)))); have n1_ := Am (Bt (by repeat (first | exact HB.out | apply Ba | apply Bn | apply Bd)) hb); clear HB; have HO214 := n0_; have HB := n1_; clear n0_ n1_; (try clear hb); (try clear hb2); (try clear hk); (try clear hi); (try clear ho0)) | ((refine Gd (N := 9) rfl ?_); refine Kd.R_lit k30 _ 30 ?hg (N := 9) ?hd (xs := ([] : List (S30))) (inner := []) (ok := fun _ => True) (okp := fun _ => True) ?hr ?hp (fun _ hk => hk) trivial (Below.refl _ _) (Nat.le_refl _) (by simp) ?_; (case hd | hg => rfl); (case hr => first | (go_simp; done) | (go_simp; rfl)); (case hp => exact (Reps.none _ _)); intro v216 w4 ho5 hb hg_ hnew_; clear hg_ hnew_; (first | rw [← Ny215.out] at ho5 | (simp only [Int.reduceToNat] at ho5; rw [← Ny215.out] at ho5)); have n0_ := Am (Kd.R_below (by (with_reducible repeat (first | apply Ra | apply Rn | apply Rd)); exact HO214.out) hb); have n1_ := Am (Kd.R_lower ho5 (Bz (by repeat (first | exact HB.out | apply Ba | apply Bn | apply Bd)))); have n2_ := Am (Bt (by repeat (first | exact HB.out | apply Ba | apply Bn | apply Bd)) hb); clear HO214; clear HB; have HO214 := n0_; have HO217 := n1_; have HB := n2_; clear n0_ n1_ n2_; clear hb ho5))
 go_loopg [5, 12] k (fun kq v5 v12 w' => ∃ (x4_1 : List Int) (x5_1 : List (S30)) (x12_1 : Int), v12 = .int .i64 x12_1 ∧ Ad (impl_playCmds.l0 kq x4_1 x5_1 l0 (l0.length : Int) x12_1 = some (r1, r2)) ∧ Ad (kq ≤ k) ∧ Ad (Kd.R (Kd.int .i64) 3 w' w.heap.size (fun _ => True) v213 x4_1) ∧ Ad (Kd.R k30 30 w' w.heap.size (fun _ => True) v5 x5_1) ∧ Ad (Below w.heap.size w w'))
 case atStart => exact ⟨(t212), (y215), (0), (by first | rfl | (simp; done) | (simp [*]; done)), H', ⟨Nat.le_refl _⟩, ⟨by (with_reducible repeat (first | apply Ra | apply Rn | apply Rd)); exact HO214.out⟩, ⟨by (with_reducible repeat (first | apply Ra | apply Rn | apply Rd)); exact HO217.out⟩, ⟨by repeat (first | exact HB.out | apply Ba | apply Bn | apply Bd)⟩⟩
 case round =>
  clear H'
  try clear c1
  try clear p2
  obtain ⟨x4_1, x5_1, x12_1, rfl, HA, HK1, HO_4, HO_5, HB⟩ := hrel
  cases gk with
  | zero => exact absurd HA.out (by simp [impl_playCmds.l0])
  | succ k1 =>
   have H := HA.out
   clear HA
   simp only [impl_playCmds.l0] at H
   by_cases c6 : x12_1 < (l0.length : Int)
   ·rw [if_pos c6] at H
    have c6b0 : decide (x12_1 < (l0.length : Int)) = true := decide_eq_true c6
    clear c6
    by_cases c7 : 0 ≤ x12_1
    ·rw [if_pos c7] at H
     have c7b0 : decide (0 ≤ x12_1) = true := decide_eq_true c7
     clear c7
     by_cases c8 : x12_1 < (l0.length : Int)
     ·rw [if_pos c8] at H
      have c8b0 : decide (x12_1 < (l0.length : Int)) = true := decide_eq_true c8
      clear c8
      replace H := Option.bind_eq_some_iff.mp H
      obtain ⟨⟨t220, t221, t222⟩, A90, H⟩ := H
      replace H : (if x5_1.length < 8796093022208 then (impl_playCmds.l0 k1 t222 (x5_1 ++ [(⟨t220, t221⟩ : S30)]) l0 (l0.length : Int) (wrap64 (x12_1 + 1))) else (none)) = some (r1, r2) := H
      have A9 := Am A90
      clear A90
      by_cases c10 : x5_1.length < 8796093022208
      ·rw [if_pos c10] at H
       have LMc10 := Am c10
       clear c10
       obtain ⟨y223, hy223⟩ : ∃ y_ : List (S30), y_ = (x5_1 ++ [(⟨t220, t221⟩ : S30)]) := ⟨_, rfl⟩
       replace H : (impl_playCmds.l0 k1 t222 y223 l0 (l0.length : Int) (wrap64 (x12_1 + 1))) = some (r1, r2) := by first | (rw [hy223]; with_reducible exact H) | (have H2_ := (Option.bind_some _ _).symm.trans H; rw [hy223]; with_reducible exact H2_) | (have H2_ := (Option.bind_some _ _).symm.trans H; with_reducible exact H2_) | with_reducible exact H | (rw [hy223]; exact H) | exact H
       have Ny223 := Am hy223
       clear hy223
       have H' := Am H
       clear H
       have p218 : 0 ≤ (x12_1 : Int) := of_decide_eq_true (by assumption)
       have q218 : x12_1 < (l0.length : Int) := of_decide_eq_true (by assumption)
       obtain ⟨ad218, e218, hx218_0, hx218_1, hx218_2, hx218_3, hx218_4⟩ := at_T26 HR0.out x12_1 p218 q218
       cases e218
       replace hx218_0 := (HB.out.cell (bl_ w _ hx218_0)).trans hx218_0
       replace hx218_1 := (HB.out.cell (bl_ w _ hx218_1)).trans hx218_1
       replace hx218_2 := (HB.out.cell (bl_ w _ hx218_2)).trans hx218_2
       replace hx218_3 := (HB.out.cell (bl_ w _ hx218_3)).trans hx218_3
       replace hx218_4 := (HB.out.cell (bl_ w _ hx218_4)).trans hx218_4
       replace p218 := eq_true p218
       replace q218 := eq_true q218
       go_wp2_with (first | ((refine Gd (N := 7) rfl ?_); refine Be ?hg (N := 7) ?hd (cs := #[.int .i64 0, .int .i64 0, .int .i64 0, .int .i64 0, .int .i64 0]) (t := 26) ?hr ?_; (case hd | hg => rfl); (case hr => first | (go_simp; done) | (go_simp; rfl)); intro gb219 hg w11 hbox hb; have n0_ := Am (Kd.R_below (by (with_reducible repeat (first | apply Ra | apply Rn | apply Rd)); exact HO_4.out) hb); have n1_ := Am (Kd.R_below (by (with_reducible repeat (first | apply Ra | apply Rn | apply Rd)); exact HO_5.out) hb); have n2_ := Am (Bt (by repeat (first | exact HB.out | apply Ba | apply Bn | apply Bd)) hb); have n3_ := Am (hbox); have n4_ := Am ((by rw [hg]; exact (Bz (by repeat (first | exact HB.out | apply Ba | apply Bn | apply Bd))) : w.heap.size ≤ gb219)); have n5_ := Am ((by rw [hg]; exact (Bz (by repeat (first | exact HB.out | apply Ba | apply Bn | apply Bd))) : w.heap.size ≤ gb219)); clear HO_4; clear HO_5; clear HB; have HO_4 := n0_; have HO_5 := n1_; have HB := n2_; have BK219 := n3_; have GW219 := n4_; have GE219 := n5_; clear n0_ n1_ n2_ n3_ n4_ n5_; clear hb hbox hg; have hcz12_0 : w11.cell? ⟨gb219, 0, none⟩ = some (.int .i64 0) := (Kc BK219.out 0).trans rfl; have hcz12_1 : w11.cell? ⟨gb219, 1, none⟩ = some (.int .i64 0) := (Kc BK219.out 1).trans rfl; have hcz12_2 : w11.cell? ⟨gb219, 2, none⟩ = some (.int .i64 0) := (Kc BK219.out 2).trans rfl; have hcz12_3 : w11.cell? ⟨gb219, 3, none⟩ = some (.int .i64 0) := (Kc BK219.out 3).trans rfl; have hcz12_4 : w11.cell? ⟨gb219, 4, none⟩ = some (.int .i64 0) := (Kc BK219.out 4).trans rfl; have hfz12_0 := Kz BK219.out 0; have hfz12_1 := Kz BK219.out 1; have hfz12_2 := Kz BK219.out 2; have hfz12_3 := Kz BK219.out 3; have hfz12_4 := Kz BK219.out 4) | ((refine Gs (t := 26) (p := 7) rfl ?_); refine store_event (t := 26) (p := 7) (v := ?vo_w13) (w1 := (((((w11.setCell ⟨gb219, 0, none⟩ (.int .i64 ((rd_T26 l0 x12_1).f0))).setCell ⟨gb219, 1, none⟩ (.int .i64 ((rd_T26 l0 x12_1).f1))).setCell ⟨gb219, 2, none⟩ (.int .i64 ((rd_T26 l0 x12_1).f2))).setCell ⟨gb219, 3, none⟩ (.int .i64 ((rd_T26 l0 x12_1).f3))).setCell ⟨gb219, 4, none⟩ (.int .i64 ((rd_T26 l0 x12_1).f4)))) ?hg ?ho ?hn ?hr ?_; (case ho => rfl); (case hg => rfl); (case hn => rfl); (case hr => first | (go_simp; done) | (go_simp; rfl)); intro w13 hw; have n0_ : Ad (Kd.R (Kd.int .i64) 3 w13 w.heap.size (fun _ => True) v213 x4_1) := ⟨(by rw [hw]; exact (by (with_reducible repeat (first | apply Ra | apply Rn | apply Rd)); exact Kd.R_mono (Kd.R_far (p := ⟨gb219, 4, none⟩) (Kd.R_far (p := ⟨gb219, 3, none⟩) (Kd.R_far (p := ⟨gb219, 2, none⟩) (Kd.R_far (p := ⟨gb219, 1, none⟩) (Kd.R_far (p := ⟨gb219, 0, none⟩) (Kd.R_types HO_4.out BK219.out (by decide)) (fun _ hk => hk.2) (.int .i64 ((rd_T26 l0 x12_1).f0))) (fun _ hk => hk.2) (.int .i64 ((rd_T26 l0 x12_1).f1))) (fun _ hk => hk.2) (.int .i64 ((rd_T26 l0 x12_1).f2))) (fun _ hk => hk.2) (.int .i64 ((rd_T26 l0 x12_1).f3))) (fun _ hk => hk.2) (.int .i64 ((rd_T26 l0 x12_1).f4))) (fun _ hk => trivial)))⟩; have n1_ : Ad (Kd.R k30 30 w13 w.heap.size (fun _ => True) u5 x5_1) := ⟨(by rw [hw]; exact (by (with_reducible repeat (first | apply Ra | apply Rn | apply Rd)); exact Kd.R_mono (Kd.R_far (p := ⟨gb219, 4, none⟩) (Kd.R_far (p := ⟨gb219, 3, none⟩) (Kd.R_far (p := ⟨gb219, 2, none⟩) (Kd.R_far (p := ⟨gb219, 1, none⟩) (Kd.R_far (p := ⟨gb219, 0, none⟩) (Kd.R_types HO_5.out BK219.out (by decide)) (fun _ hk => hk.2) (.int .i64 ((rd_T26 l0 x12_1).f0))) (fun _ hk => hk.2) (.int .i64 ((rd_T26 l0 x12_1).f1))) (fun _ hk => hk.2) (.int .i64 ((rd_T26 l0 x12_1).f2))) (fun _ hk => hk.2) (.int .i64 ((rd_T26 l0 x12_1).f3))) (fun _ hk => hk.2) (.int .i64 ((rd_T26 l0 x12_1).f4))) (fun _ hk => trivial)))⟩; have n2_ : Ad (w13.heap[gb219]? = some (.cells #[.int .i64 ((rd_T26 l0 x12_1).f0), .int .i64 ((rd_T26 l0 x12_1).f1), .int .i64 ((rd_T26 l0 x12_1).f2), .int .i64 ((rd_T26 l0 x12_1).f3), .int .i64 ((rd_T26 l0 x12_1).f4)] 26 (0, 0))) := ⟨(by rw [hw]; exact (by (with_reducible repeat (first | refine Kn ?_ _ | refine Ke ?_ | refine Ka ?_ _)); refine blk_put (cs := #[.int .i64 ((rd_T26 l0 x12_1).f0), .int .i64 ((rd_T26 l0 x12_1).f1), .int .i64 ((rd_T26 l0 x12_1).f2), .int .i64 ((rd_T26 l0 x12_1).f3), .int .i64 0]) ?_ 4 _ rfl; (with_reducible repeat (first | refine Kn ?_ _ | refine Ke ?_ | refine Ka ?_ _)); refine blk_put (cs := #[.int .i64 ((rd_T26 l0 x12_1).f0), .int .i64 ((rd_T26 l0 x12_1).f1), .int .i64 ((rd_T26 l0 x12_1).f2), .int .i64 0, .int .i64 0]) ?_ 3 _ rfl; (with_reducible repeat (first | refine Kn ?_ _ | refine Ke ?_ | refine Ka ?_ _)); refine blk_put (cs := #[.int .i64 ((rd_T26 l0 x12_1).f0), .int .i64 ((rd_T26 l0 x12_1).f1), .int .i64 0, .int .i64 0, .int .i64 0]) ?_ 2 _ rfl; (with_reducible repeat (first | refine Kn ?_ _ | refine Ke ?_ | refine Ka ?_ _)); refine blk_put (cs := #[.int .i64 ((rd_T26 l0 x12_1).f0), .int .i64 0, .int .i64 0, .int .i64 0, .int .i64 0]) ?_ 1 _ rfl; (with_reducible repeat (first | refine Kn ?_ _ | refine Ke ?_ | refine Ka ?_ _)); refine blk_put (cs := #[.int .i64 0, .int .i64 0, .int .i64 0, .int .i64 0, .int .i64 0]) ?_ 0 _ rfl; (with_reducible repeat (first | refine Kn ?_ _ | refine Ke ?_ | refine Ka ?_ _)); exact BK219.out))⟩; have n3_ : Ad (Below w.heap.size w w13) := ⟨(by rw [hw]; exact (by repeat (first | (with_reducible first | exact HB.out | apply Ba | apply Bn | apply Bd | refine Bs ?_ GE219.out) | exact HB.out)))⟩; clear hw; clear HO_4; clear HO_5; clear BK219; clear HB; have HO_4 := n0_; have HO_5 := n1_; have BK219 := n2_; have HB := n3_; clear n0_ n1_ n2_ n3_; have hcz14_0 : w13.cell? ⟨gb219, 0, none⟩ = some (.int .i64 ((rd_T26 l0 x12_1).f0)) := (Kc BK219.out 0).trans rfl; have hcz14_1 : w13.cell? ⟨gb219, 1, none⟩ = some (.int .i64 ((rd_T26 l0 x12_1).f1)) := (Kc BK219.out 1).trans rfl; have hcz14_2 : w13.cell? ⟨gb219, 2, none⟩ = some (.int .i64 ((rd_T26 l0 x12_1).f2)) := (Kc BK219.out 2).trans rfl; have hcz14_3 : w13.cell? ⟨gb219, 3, none⟩ = some (.int .i64 ((rd_T26 l0 x12_1).f3)) := (Kc BK219.out 3).trans rfl; have hcz14_4 : w13.cell? ⟨gb219, 4, none⟩ = some (.int .i64 ((rd_T26 l0 x12_1).f4)) := (Kc BK219.out 4).trans rfl; have hfz14_0 := Kz BK219.out 0; have hfz14_1 := Kz BK219.out 1; have hfz14_2 := Kz BK219.out 2; have hfz14_3 := Kz BK219.out 3; have hfz14_4 := Kz BK219.out 4; obtain ⟨Ao15, co15, eo15⟩ := Kd.R_slice HO_4.out; subst eo15) | ((refine Gc (f := 71) rfl ?_); refine goesL_ (some 19) rfl rfl Try.func71 (by kernel_rfl) rfl #[.slice Ao15 x4_1.length co15, .agg #[.int .i64 ((rd_T26 l0 x12_1).f0), .int .i64 ((rd_T26 l0 x12_1).f1), .int .i64 ((rd_T26 l0 x12_1).f2), .int .i64 ((rd_T26 l0 x12_1).f3), .int .i64 ((rd_T26 l0 x12_1).f4)]] rfl (by first | rfl | (simp only [List.map_toArray, List.map_cons, List.map_nil]; first | done | rfl)) ?_; (with_reducible refine (impl_apply.calls (fun k_ => some k_ = (.slice Ao15 x4_1.length co15 : Value).ownBlock) (.slice Ao15 x4_1.length co15) x4_1 ((rd_T26 l0 x12_1).f0) ((rd_T26 l0 x12_1).f1) ((rd_T26 l0 x12_1).f2) ((rd_T26 l0 x12_1).f3) ((rd_T26 l0 x12_1).f4) t220 t221 t222 w _ ?side1 ?side2 A9.out).mono ?_); (case side1 => repeat (first | (with_reducible first | exact HB.out | apply Ba | apply Bn | apply Bd | refine Bs ?_ GE219.out) | exact HB.out)); (case side2 => exact Kd.R_tight rfl HO_4.out); rintro e w16 ⟨rfl, hy0, hb, hkp⟩; refine ⟨_, rfl, ?_⟩; have n0_ := Am (Kd.R_reok rfl hy0 (fun k_ e_ => HO_4.out.1 k_ e_)); have n1_ := Am (Kd.R_mono (ok' := fun k_ => True) (Kd.R_keptB ((Kd.R_apart' HO_5.out (Kd.R_typed HO_4.out) (by decide))) hkp (fun k_ hk_ hs_ => (hk_.2) hs_)) (fun k_ hk_ => trivial)); have n2_ := Am (blk_kept (by (with_reducible repeat (first | refine Kn ?_ _ | refine Ke ?_ | refine Ka ?_ _)); exact BK219.out) hkp (fun hs_ => (fun e_ => (Kd.R_ne HO_4.out BK219.out (by decide)) e_) hs_)); have n3_ := Am (hb); clear HO_4; clear HO_5; clear BK219; clear HB; have HO_4 := n0_; have HO_5 := n1_; have BK219 := n2_; have HB := n3_; clear n0_ n1_ n2_ n3_; (try clear hb); (try clear hkp); (try clear hy0)) | ((with_reducible refine gate_builtin (b := .append) (xs := #[.tmp 16, .tmp 20]) rfl ?_); at_builtin; refine Kd.R_append k30 (w0 := w) w.heap.size rfl (.tmp 16) (.tmp 20) 42 30 (.agg #[(.int .i64 0), (.int .i64 0)]) 16 rfl Try.underlying42 info30 rfl (by decide) (by omega) u5 x5_1 (⟨t220, t221⟩ : S30) [.int .i64 t220, .int .i64 t221] (fun _ => True) (fun _ => False) rfl rfl ?aP (fun _ hk => hk.elim) ?aF ?aO ?aB ?aS ?aL ?_; (case aP => exact k30_mkM _ _ _ (⟨t220, t221⟩ : S30)); (case aB => exact (by repeat (first | (with_reducible first | exact HB.out | apply Ba | apply Bn | apply Bd | refine Bs ?_ GE219.out) | exact HB.out))); (case aF => exact (fun _ _ => trivial)); (case aO => exact (by (with_reducible repeat (first | apply Ra | apply Rn | apply Rd)); exact HO_5.out)); (case aS => exact (Bz (by repeat (first | (with_reducible first | exact HB.out | apply Ba | apply Bn | apply Bd | refine Bs ?_ GE219.out) | exact HB.out)))); (case aL => have := LMc10.out; omega); intro v224 w17 ho hb hg hat; rw [← Ny223.out] at ho; have n0_ := Am (Kd.R_over' (by (with_reducible repeat (first | apply Ra | apply Rn | apply Rd)); exact HO_4.out) (Kd.R_typed (by (with_reducible repeat (first | apply Ra | apply Rn | apply Rd)); exact HO_5.out)) (by decide) hg); have n1_ := Am (blk_grown (g := gb219) (o := .cells #[.int .i64 ((rd_T26 l0 x12_1).f0), .int .i64 ((rd_T26 l0 x12_1).f1), .int .i64 ((rd_T26 l0 x12_1).f2), .int .i64 ((rd_T26 l0 x12_1).f3), .int .i64 ((rd_T26 l0 x12_1).f4)] 26 (0, 0)) (by (with_reducible repeat (first | refine Kn ?_ _ | refine Ke ?_ | refine Ka ?_ _)); exact BK219.out) hg (Kd.R_ne HO_5.out BK219.out (by decide))); have n2_ := Am (hb); have n3_ := Am (ho); clear HO_4; clear BK219; clear HB; clear HO_5; have HO_4 := n0_; have BK219 := n1_; have HB := n2_; have HO225 := n3_; clear n0_ n1_ n2_ n3_; clear ho hb hg hat))
       go_roundg k1
       case measure => have := HK1.out; omega
       case rel => exact ⟨(t222), (y223), (wrap64 (x12_1 + 1)), (by first | rfl | (simp; done) | (simp [*]; done)), H', ⟨by have := HK1.out; omega⟩, ⟨by (with_reducible repeat (first | apply Ra | apply Rn | apply Rd)); exact HO_4.out⟩, ⟨by (with_reducible repeat (first | apply Ra | apply Rn | apply Rd)); exact HO225.out⟩, ⟨by repeat (first | (with_reducible first | exact HB.out | apply Ba | apply Bn | apply Bd | refine Bs ?_ GE219.out) | exact HB.out)⟩⟩
      ·rw [if_neg c10] at H
       exact absurd H (by simp)
     ·rw [if_neg c8] at H
      exact absurd H (by simp)
    ·rw [if_neg c7] at H
     exact absurd H (by simp)
   ·rw [if_neg c6] at H
    have c6b0 : decide (x12_1 < (l0.length : Int)) = false := decide_eq_false c6
    clear c6
    simp only [Option.some.injEq, Prod.mk.injEq] at H
    obtain ⟨rfl, rfl⟩ := H
    go_wp2
    go_ret2
    exact ⟨_, _, by first | rfl | (simp [*, errW_none, errW_some] <;> rfl), by (with_reducible repeat (first | apply Ra | apply Rn | apply Rd)); exact HO_4.out, by (with_reducible repeat (first | apply Ra | apply Rn | apply Rd)); exact HO_5.out, by repeat (first | exact HB.out | apply Ba | apply Bn | apply Bd)⟩
def impl_Cmd_88.l0 : Nat → List (S26) → Int → Int → Int → Int → Int → Int → Int → Option (Int)
 | 0, _, _, _, _, _, _, _, _ => none
 | k + 1, x0, x7, x8, x227000, x227001, x227002, x227003, x227004 => if x8 < x7 then (if 0 ≤ x8 then (if x8 < (x0.length : Int) then (if (x227000 == ((rd_T26 x0 x8).f0) && (x227001 == ((rd_T26 x0 x8).f1) && (x227002 == ((rd_T26 x0 x8).f2) && (x227003 == ((rd_T26 x0 x8).f3) && (x227004 == ((rd_T26 x0 x8).f4)))))) = true then (some x8) else (impl_Cmd_88.l0 k x0 x7 (wrap64 (x8 + 1)) x227000 x227001 x227002 x227003 x227004)) else (none)) else (none)) else (some (-1))
def impl_Cmd_88.f (k : Nat) (l0 : List (S26)) (a1_0 : Int) (a1_1 : Int) (a1_2 : Int) (a1_3 : Int) (a1_4 : Int) : Option (Int) := impl_Cmd_88.l0 k l0 (l0.length : Int) 0 a1_0 a1_1 a1_2 a1_3 a1_4
theorem impl_Cmd_88.mono_l : ∀ k, (∀ y0 y1 y2 y3 y4 y5 y6 y7, LeO (impl_Cmd_88.l0 k y0 y1 y2 y3 y4 y5 y6 y7) (impl_Cmd_88.l0 (k + 1) y0 y1 y2 y3 y4 y5 y6 y7))
 | 0 => fun _ _ _ _ _ _ _ _ r h => by simp [impl_Cmd_88.l0] at h
 | k + 1 => by
  have ih0 := impl_Cmd_88.mono_l k
  ·intro y0 y1 y2 y3 y4 y5 y6 y7
   unfold impl_Cmd_88.l0
   repeat' first
   | (with_reducible exact ih0 _ _ _ _ _ _ _ _)
   | (with_reducible exact LeO.refl _)
   | (with_reducible exact LeO.none _)
   | (with_reducible refine LeO.ite ?_ ?_)
   | (with_reducible refine LeO.bind ?_ (fun _ => ?_))
   | exact ih0 _ _ _ _ _ _ _ _
   | exact LeO.none _
   | refine LeO.ite ?_ ?_
   | refine LeO.bind ?_ (fun _ => ?_)
theorem impl_Cmd_88.mono : ∀ a0 a1 a2 a3 a4 a5 k, LeO (impl_Cmd_88.f k a0 a1 a2 a3 a4 a5) (impl_Cmd_88.f (k + 1) a0 a1 a2 a3 a4 a5) := by
 intro a0 a1 a2 a3 a4 a5 k
 have ih0 := impl_Cmd_88.mono_l k
 unfold impl_Cmd_88.f
 repeat' first
   | (with_reducible exact ih0 _ _ _ _ _ _ _ _)
   | (with_reducible exact LeO.refl _)
   | (with_reducible exact LeO.none _)
   | (with_reducible refine LeO.ite ?_ ?_)
   | (with_reducible refine LeO.bind ?_ (fun _ => ?_))
   | exact ih0 _ _ _ _ _ _ _ _
   | exact LeO.none _
   | refine LeO.ite ?_ ?_
   | refine LeO.bind ?_ (fun _ => ?_)
set_option maxHeartbeats 8000000 in
set_option maxRecDepth 100000 in
theorem impl_Cmd_88.calls (k : Nat) (A0 : Option Addr) (c0 : Nat) (l0 : List (S26)) (a1_0 : Int) (a1_1 : Int) (a1_2 : Int) (a1_3 : Int) (a1_4 : Int) (r : Int) (w : World) (hr0 : Kd.C k26 w A0 l0.length l0) (hc0 : l0.length ≤ c0) (h : impl_Cmd_88.f k l0 a1_0 a1_1 a1_2 a1_3 a1_4 = some r) :
  Calls Try.prog 88 #[.slice A0 l0.length c0, .agg #[.int .i64 a1_0, .int .i64 a1_1, .int .i64 a1_2, .int .i64 a1_3, .int .i64 a1_4]] w fun e w' => e = .returned (.int .i64 r) ∧ Below w.heap.size w w' := by
 have hu26 := Try.underlying26
 have HR0 := Am hr0
 have HC0 := Am hc0
 clear hr0 hc0
 have HB := Am (Below.refl w.heap.size w)
 have H : (impl_Cmd_88.l0 k l0 (l0.length : Int) 0 a1_0 a1_1 a1_2 a1_3 a1_4) = some r := h
 clear h
 have H' := Am H
 clear H
 go_enter Try.func88, Try.ntmps88
 go_wp2_with (first | ((refine Gd (N := 3) rfl ?_); refine Be ?hg (N := 3) ?hd (cs := #[.int .i64 a1_0, .int .i64 a1_1, .int .i64 a1_2, .int .i64 a1_3, .int .i64 a1_4]) (t := 26) ?hr ?_; (case hd | hg => rfl); (case hr => first | (go_simp; done) | (go_simp; rfl)); intro gb226 hg w3 hbox hb; have n0_ := Am (Bt (by repeat (first | exact HB.out | apply Ba | apply Bn | apply Bd)) hb); have n1_ := Am (hbox); have n2_ := Am ((by rw [hg]; exact (Bz (by repeat (first | exact HB.out | apply Ba | apply Bn | apply Bd))) : w.heap.size ≤ gb226)); have n3_ := Am ((by rw [hg]; exact (Bz (by repeat (first | exact HB.out | apply Ba | apply Bn | apply Bd))) : w.heap.size ≤ gb226)); clear HB; have HB := n0_; have BK226 := n1_; have GW226 := n2_; have GE226 := n3_; clear n0_ n1_ n2_ n3_; clear hb hbox hg))
 repeat (go_quiet (first | ((refine Gd (N := 3) rfl ?_); refine Be ?hg (N := 3) ?hd (cs := #[.int .i64 a1_0, .int .i64 a1_1, .int .i64 a1_2, .int .i64 a1_3, .int .i64 a1_4]) (t := 26) ?hr ?_; (case hd | hg => rfl); (case hr => first | (go_simp; done) | (go_simp; rfl)); intro gb226 hg w3 hbox hb; have n0_ := Am (Bt (by repeat (first | exact HB.out | apply Ba | apply Bn | apply Bd)) hb); have n1_ := Am (hbox); have n2_ := Am ((by rw [hg]; exact (Bz (by repeat (first | exact HB.out | apply Ba | apply Bn | apply Bd))) : w.heap.size ≤ gb226)); have n3_ := Am ((by rw [hg]; exact (Bz (by repeat (first | exact HB.out | apply Ba | apply Bn | apply Bd))) : w.heap.size ≤ gb226)); clear HB; have HB := n0_; have BK226 := n1_; have GW226 := n2_; have GE226 := n3_; clear n0_ n1_ n2_ n3_; clear hb hbox hg)); try go_wp2_with (first | ((refine Gd (N := 3) rfl ?_); refine Be ?hg (N := 3) ?hd (cs := #[.int .i64 a1_0, .int .i64 a1_1, .int .i64 a1_2, .int .i64 a1_3, .int .i64 a1_4]) (t := 26) ?hr ?_; (case hd | hg => rfl); (case hr => first | (go_simp; done) | (go_simp; rfl)); intro gb226 hg w3 hbox hb; have n0_ := Am (Bt (by repeat (first | exact HB.out | apply Ba | apply Bn | apply Bd)) hb); have n1_ := Am (hbox); have n2_ := Am ((by rw [hg]; exact (Bz (by repeat (first | exact HB.out | apply Ba | apply Bn | apply Bd))) : w.heap.size ≤ gb226)); have n3_ := Am ((by rw [hg]; exact (Bz (by repeat (first | exact HB.out | apply Ba | apply Bn | apply Bd))) : w.heap.size ≤ gb226)); clear HB; have HB := n0_; have BK226 := n1_; have GW226 := n2_; have GE226 := n3_; clear n0_ n1_ n2_ n3_; clear hb hbox hg)))
 go_loopg [8] k (fun kq v8 w' => ∃ (x8_1 : Int), v8 = .int .i64 x8_1 ∧ Ad (impl_Cmd_88.l0 kq l0 (l0.length : Int) x8_1 a1_0 a1_1 a1_2 a1_3 a1_4 = some r) ∧ Ad (kq ≤ k) ∧ Ad (w'.heap[gb226]? = some (.cells #[.int .i64 a1_0, .int .i64 a1_1, .int .i64 a1_2, .int .i64 a1_3, .int .i64 a1_4] 26 (0, 0))) ∧ Ad (Below w.heap.size w w'))
 case atStart => exact ⟨(0), (by first | rfl | (simp; done) | (simp [*]; done)), H', ⟨Nat.le_refl _⟩, ⟨by (with_reducible repeat (first | refine Kn ?_ _ | refine Ke ?_ | refine Ka ?_ _)); exact BK226.out⟩, ⟨by repeat (first | (with_reducible first | exact HB.out | apply Ba | apply Bn | apply Bd | refine Bs ?_ GE226.out) | exact HB.out)⟩⟩
 case round =>
  clear H'
  try clear p2
  obtain ⟨x8_1, rfl, HA, HK1, BK226, HB⟩ := hrel
  cases gk with
  | zero => exact absurd HA.out (by simp [impl_Cmd_88.l0])
  | succ k1 =>
   have H := HA.out
   clear HA
   simp only [impl_Cmd_88.l0] at H
   by_cases c4 : x8_1 < (l0.length : Int)
   ·rw [if_pos c4] at H
    have c4b0 : decide (x8_1 < (l0.length : Int)) = true := decide_eq_true c4
    clear c4
    by_cases c5 : 0 ≤ x8_1
    ·rw [if_pos c5] at H
     have c5b0 : decide (0 ≤ x8_1) = true := decide_eq_true c5
     clear c5
     by_cases c6 : x8_1 < (l0.length : Int)
     ·rw [if_pos c6] at H
      have c6b0 : decide (x8_1 < (l0.length : Int)) = true := decide_eq_true c6
      clear c6
      by_cases c7 : (a1_0 == ((rd_T26 l0 x8_1).f0) && (a1_1 == ((rd_T26 l0 x8_1).f1) && (a1_2 == ((rd_T26 l0 x8_1).f2) && (a1_3 == ((rd_T26 l0 x8_1).f3) && (a1_4 == ((rd_T26 l0 x8_1).f4)))))) = true
      ·rw [if_pos c7] at H
       have c7b0 : (a1_0 == ((rd_T26 l0 x8_1).f0) && (a1_1 == ((rd_T26 l0 x8_1).f1) && (a1_2 == ((rd_T26 l0 x8_1).f2) && (a1_3 == ((rd_T26 l0 x8_1).f3) && (a1_4 == ((rd_T26 l0 x8_1).f4)))))) = true := c7
       (try (have c7b1 : decide (a1_0 = ((rd_T26 l0 x8_1).f0) && (a1_1 == ((rd_T26 l0 x8_1).f1) && (a1_2 == ((rd_T26 l0 x8_1).f2) && (a1_3 == ((rd_T26 l0 x8_1).f3) && (a1_4 == ((rd_T26 l0 x8_1).f4)))))) = true := by simpa using c7))
       (try (have c7b2 : (a1_0 == ((rd_T26 l0 x8_1).f0) && (a1_1 == ((rd_T26 l0 x8_1).f1) && (a1_2 == ((rd_T26 l0 x8_1).f2) && (a1_3 == ((rd_T26 l0 x8_1).f3) && (a1_4 == ((rd_T26 l0 x8_1).f4)))))) = true := by simpa using c7))
       clear c7
       obtain rfl := Option.some.inj H
       have hcz8_0 : wr.cell? ⟨gb226, 0, none⟩ = some (.int .i64 a1_0) := (Kc BK226.out 0).trans rfl
       have hcz8_1 : wr.cell? ⟨gb226, 1, none⟩ = some (.int .i64 a1_1) := (Kc BK226.out 1).trans rfl
       have hcz8_2 : wr.cell? ⟨gb226, 2, none⟩ = some (.int .i64 a1_2) := (Kc BK226.out 2).trans rfl
       have hcz8_3 : wr.cell? ⟨gb226, 3, none⟩ = some (.int .i64 a1_3) := (Kc BK226.out 3).trans rfl
       have hcz8_4 : wr.cell? ⟨gb226, 4, none⟩ = some (.int .i64 a1_4) := (Kc BK226.out 4).trans rfl
       have hfz8_0 := Kz BK226.out 0
       have hfz8_1 := Kz BK226.out 1
       have hfz8_2 := Kz BK226.out 2
       have hfz8_3 := Kz BK226.out 3
       have hfz8_4 := Kz BK226.out 4
       have p227 : 0 ≤ (x8_1 : Int) := of_decide_eq_true (by assumption)
       have q227 : x8_1 < (l0.length : Int) := of_decide_eq_true (by assumption)
       obtain ⟨ad227, e227, hx227_0, hx227_1, hx227_2, hx227_3, hx227_4⟩ := at_T26 HR0.out x8_1 p227 q227
       cases e227
       replace hx227_0 := (HB.out.cell (bl_ w _ hx227_0)).trans hx227_0
       replace hx227_1 := (HB.out.cell (bl_ w _ hx227_1)).trans hx227_1
       replace hx227_2 := (HB.out.cell (bl_ w _ hx227_2)).trans hx227_2
       replace hx227_3 := (HB.out.cell (bl_ w _ hx227_3)).trans hx227_3
       replace hx227_4 := (HB.out.cell (bl_ w _ hx227_4)).trans hx227_4
       replace p227 := eq_true p227
       replace q227 := eq_true q227
       go_wp2
       repeat (go_quiet (fail); try go_wp2)
       go_ret
       exact ⟨by first | rfl | (simp [*, errW_none, errW_some] <;> rfl), by repeat (first | (with_reducible first | exact HB.out | apply Ba | apply Bn | apply Bd | refine Bs ?_ GE226.out) | exact HB.out)⟩
      ·rw [if_neg c7] at H
       have c7b0 : (a1_0 == ((rd_T26 l0 x8_1).f0) && (a1_1 == ((rd_T26 l0 x8_1).f1) && (a1_2 == ((rd_T26 l0 x8_1).f2) && (a1_3 == ((rd_T26 l0 x8_1).f3) && (a1_4 == ((rd_T26 l0 x8_1).f4)))))) = false := by simpa using c7
       (try (have c7b1 : decide (a1_0 = ((rd_T26 l0 x8_1).f0) && (a1_1 == ((rd_T26 l0 x8_1).f1) && (a1_2 == ((rd_T26 l0 x8_1).f2) && (a1_3 == ((rd_T26 l0 x8_1).f3) && (a1_4 == ((rd_T26 l0 x8_1).f4)))))) = false := by simpa using c7))
       (try (have c7b2 : (a1_0 == ((rd_T26 l0 x8_1).f0) && (a1_1 == ((rd_T26 l0 x8_1).f1) && (a1_2 == ((rd_T26 l0 x8_1).f2) && (a1_3 == ((rd_T26 l0 x8_1).f3) && (a1_4 == ((rd_T26 l0 x8_1).f4)))))) = false := by simpa using c7))
       (try (have c7b3 : ¬ (a1_0 = ((rd_T26 l0 x8_1).f0) && (a1_1 == ((rd_T26 l0 x8_1).f1) && (a1_2 == ((rd_T26 l0 x8_1).f2) && (a1_3 == ((rd_T26 l0 x8_1).f3) && (a1_4 == ((rd_T26 l0 x8_1).f4)))))) := by simpa using c7))
       clear c7
       have H' := Am H
       clear H
       have hcz9_0 : wr.cell? ⟨gb226, 0, none⟩ = some (.int .i64 a1_0) := (Kc BK226.out 0).trans rfl
       have hcz9_1 : wr.cell? ⟨gb226, 1, none⟩ = some (.int .i64 a1_1) := (Kc BK226.out 1).trans rfl
       have hcz9_2 : wr.cell? ⟨gb226, 2, none⟩ = some (.int .i64 a1_2) := (Kc BK226.out 2).trans rfl
       have hcz9_3 : wr.cell? ⟨gb226, 3, none⟩ = some (.int .i64 a1_3) := (Kc BK226.out 3).trans rfl
       have hcz9_4 : wr.cell? ⟨gb226, 4, none⟩ = some (.int .i64 a1_4) := (Kc BK226.out 4).trans rfl
       have hfz9_0 := Kz BK226.out 0
       have hfz9_1 := Kz BK226.out 1
       have hfz9_2 := Kz BK226.out 2
       have hfz9_3 := Kz BK226.out 3
       have hfz9_4 := Kz BK226.out 4
       have p227 : 0 ≤ (x8_1 : Int) := of_decide_eq_true (by assumption)
       have q227 : x8_1 < (l0.length : Int) := of_decide_eq_true (by assumption)
       obtain ⟨ad227, e227, hx227_0, hx227_1, hx227_2, hx227_3, hx227_4⟩ := at_T26 HR0.out x8_1 p227 q227
       cases e227
       replace hx227_0 := (HB.out.cell (bl_ w _ hx227_0)).trans hx227_0
       replace hx227_1 := (HB.out.cell (bl_ w _ hx227_1)).trans hx227_1
       replace hx227_2 := (HB.out.cell (bl_ w _ hx227_2)).trans hx227_2
       replace hx227_3 := (HB.out.cell (bl_ w _ hx227_3)).trans hx227_3
       replace hx227_4 := (HB.out.cell (bl_ w _ hx227_4)).trans hx227_4
       replace p227 := eq_true p227
       replace q227 := eq_true q227
       go_wp2
       repeat (go_quiet (fail); try go_wp2)
       go_roundg k1
       case measure => have := HK1.out; omega
       case rel => exact ⟨(wrap64 (x8_1 + 1)), (by first | rfl | (simp; done) | (simp [*]; done)), H', ⟨by have := HK1.out; omega⟩, ⟨by (with_reducible repeat (first | refine Kn ?_ _ | refine Ke ?_ | refine Ka ?_ _)); exact BK226.out⟩, ⟨by repeat (first | (with_reducible first | exact HB.out | apply Ba | apply Bn | apply Bd | refine Bs ?_ GE226.out) | exact HB.out)⟩⟩
     ·rw [if_neg c6] at H
      exact absurd H (by simp)
    ·rw [if_neg c5] at H
     exact absurd H (by simp)
   ·rw [if_neg c4] at H
    have c4b0 : decide (x8_1 < (l0.length : Int)) = false := decide_eq_false c4
    clear c4
    obtain rfl := Option.some.inj H
    go_wp2
    repeat (go_quiet (fail); try go_wp2)
    go_ret
    exact ⟨by first | rfl | (simp [*, errW_none, errW_some] <;> rfl), by repeat (first | (with_reducible first | exact HB.out | apply Ba | apply Bn | apply Bd | refine Bs ?_ GE226.out) | exact HB.out)⟩
end Go.Proofs.Yteecmbfebenjjaa.QFnTellsSame
