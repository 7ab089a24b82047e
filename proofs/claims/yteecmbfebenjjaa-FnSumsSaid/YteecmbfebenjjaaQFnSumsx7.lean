-- Written by a program of this session (wip/mk.py) over the kit's print: Lean checks it.
import Derived.Test.YteecmbfebenjjaaQFnSumsx0
import Derived.Test.YteecmbfebenjjaaQFnSumsx6
namespace Go.Proofs.Yteecmbfebenjjaa.QFnSums
open Go.Proofs.YteecmbfebenjjaaW.PrintWords.Kd renaming R_alloc → Ra, R_drewN → Rn, R_drew → Rd
open Go.Proofs.YteecmbfebenjjaaW.PrintWords renaming below_alloc → Ba, pw_below_drewN → Bn, below_drew1 → Bd, below_set → Bs, below_size → Bz, below_step → Bt, gate_dst → Gd, gate_callee → Gc, box_event → Be, blk_alloc → Ka, blk_drewN → Kn, blk_drew → Ke, blk_below → Kb, blk_cell → Kc, blk_far → Kf, blk_frozen → Kz
open List renaming setIfInBounds_toArray → Lt, set_cons_zero → Lz, set_cons_succ → Ls
open Go.Proofs.YteecmbfebenjjaaW.PrintWords.Aside0 renaming mk → Am
open Go.Proofs.YteecmbfebenjjaaW.PrintWords renaming Aside0 → Ad
open Go.RowKit Go.Proofs.YteecmbfebenjjaaW.PrintWords Go.Proofs.YteecmbfebenjjaaW.PrintLast Go.Proofs.YteecmbfebenjjaaW.PrintMore
attribute [local go_sem] max2_int min2_int max_two min_two max_three min_three max_four min_four   -- for this text's walks alone
set_option linter.unusedVariables false
set_option linter.unusedSimpArgs false
def impl_apply.f (l0 : List Int) (a1_0 : Int) (a1_1 : Int) (a1_2 : Int) (a1_3 : Int) (a1_4 : Int) : Option (Int × Int × List Int) := if a1_0 = 2 then (if 0 ≤ a1_2 then (if a1_2 < (l0.length : Int) then (some (3, rd l0 a1_2, l0)) else (none)) else (none)) else (if a1_0 = 0 then (some (0, 0, l0)) else (if 0 ≤ a1_2 then (if a1_2 < (l0.length : Int) then (if (rd l0 a1_2) < a1_4 then (some (2, 0, l0)) else ((some (l0.set (a1_2 : Int).toNat (wrap64 ((rd l0 a1_2) - a1_4)) : List Int)).bind fun y228 => (if 0 ≤ a1_3 then (if a1_3 < (l0.length : Int) then (some (1, 0, (y228.set (a1_3 : Int).toNat (wrap64 ((rd y228 a1_3) + a1_4))))) else (none)) else (none)))) else (none)) else (none)))
def impl_apply.T5 : Bool × List (List Nat × List Nat) := (true, [([], []), ([], []), ([1], [1]), ([0, 2], [0, 2]), ([3], [3]), ([], []), ([5], [5]), ([4, 6], [4, 6]), ([7], [7])])
def impl_apply.B5 : List Nat := [0, 0, 2, 7, 15, 0, 32, 127, 255]
theorem impl_apply.tab5 : rtab .any (opsOf Try.f71 5) = impl_apply.T5 := by kernel_rfl
theorem impl_apply.bits5 : waitsOk impl_apply.T5.2 impl_apply.B5 = true := by kernel_rfl
def impl_apply.T7 : Bool × List (List Nat × List Nat) := (true, [([], []), ([], []), ([1], [1]), ([0, 2], [0, 2]), ([3], [3]), ([], []), ([5], [5]), ([4, 6], [4, 6]), ([0, 2, 0, 1, 2, 3, 4, 5, 6, 7], [0, 2]), ([8, 7, 0, 1, 2, 3, 4, 5, 6, 7], [7, 8])])
def impl_apply.B7 : List Nat := [0, 0, 2, 7, 15, 0, 32, 127, 255, 511]
theorem impl_apply.tab7 : rtab .any (opsOf Try.f71 7) = impl_apply.T7 := by kernel_rfl
theorem impl_apply.bits7 : waitsOk impl_apply.T7.2 impl_apply.B7 = true := by kernel_rfl
def impl_apply.T8 : Bool × List (List Nat × List Nat) := (true, [([], []), ([], []), ([1], [1]), ([0, 2], [0, 2]), ([3], [3]), ([], []), ([5], [5]), ([4, 6], [4, 6]), ([0, 2, 0, 1, 2, 3, 4, 5, 6, 7], [0, 2]), ([8, 7, 0, 1, 2, 3, 4, 5, 6, 7], [7, 8])])
def impl_apply.B8 : List Nat := [0, 0, 2, 7, 15, 0, 32, 127, 255, 511]
theorem impl_apply.tab8 : rtab .any (opsOf Try.f71 8) = impl_apply.T8 := by kernel_rfl
theorem impl_apply.bits8 : waitsOk impl_apply.T8.2 impl_apply.B8 = true := by kernel_rfl
set_option maxHeartbeats 8000000 in
set_option maxRecDepth 100000 in
theorem impl_apply.calls (P0_ : Nat → Prop) (u9000_ : Value) (l0 : List Int) (a1_0 : Int) (a1_1 : Int) (a1_2 : Int) (a1_3 : Int) (a1_4 : Int) (r1 : Int) (r2 : Int) (r3 : List Int) (w0 w : World) (hB : Below w0.heap.size w0 w) (ho0 : Kd.R (Kd.int .i64) 3 w w0.heap.size P0_ u9000_ l0) (h : impl_apply.f l0 a1_0 a1_1 a1_2 a1_3 a1_4 = some (r1, r2, r3)) :
  Calls Try.prog 71 #[u9000_, .agg #[.int .i64 a1_0, .int .i64 a1_1, .int .i64 a1_2, .int .i64 a1_3, .int .i64 a1_4]] w fun e w' => e = .returned (.agg #[.int .i64 r1, .int .i64 r2]) ∧ Kd.R (Kd.int .i64) 3 w' w0.heap.size (fun k_ => (P0_ k_ ∨ w.heap.size ≤ k_)) u9000_ r3 ∧ Below w0.heap.size w0 w' ∧ Kept w w' (fun k_ => P0_ k_) := by
 have hu26 := Try.underlying26
 have hu30 := Try.underlying30
 have HO0 := Am (show Kd.R (Kd.int .i64) 3 w w0.heap.size (fun k_ => (P0_ k_ ∨ w.heap.size ≤ k_)) u9000_ l0 from Kd.R_mono ho0 (fun k_ hk => (.inl hk)))
 have HK := Am (Kept.refl w (fun k_ => P0_ k_))
 have HW0 := Am hB.size
 have HB := Am hB
 clear hB
 have H : (if a1_0 = 2 then (if 0 ≤ a1_2 then (if a1_2 < (l0.length : Int) then (some (3, rd l0 a1_2, l0)) else (none)) else (none)) else (if a1_0 = 0 then (some (0, 0, l0)) else (if 0 ≤ a1_2 then (if a1_2 < (l0.length : Int) then (if (rd l0 a1_2) < a1_4 then (some (2, 0, l0)) else ((some (l0.set (a1_2 : Int).toNat (wrap64 ((rd l0 a1_2) - a1_4)) : List Int)).bind fun y228 => (if 0 ≤ a1_3 then (if a1_3 < (l0.length : Int) then (some (1, 0, (y228.set (a1_3 : Int).toNat (wrap64 ((rd y228 a1_3) + a1_4))))) else (none)) else (none)))) else (none)) else (none)))) = some (r1, r2, r3) := h
 clear h
 by_cases c3 : a1_0 = 2
 ·rw [if_pos c3] at H
  have c3b0 : (a1_0 == 2) = true := beq_iff_eq.mpr c3
  have c3b1 : (a1_0 != 2) = false := bne_eq_false_iff_eq.mpr c3
  clear c3
  by_cases c4 : 0 ≤ a1_2
  ·rw [if_pos c4] at H
   have c4b0 : decide (0 ≤ a1_2) = true := decide_eq_true c4
   clear c4
   by_cases c5 : a1_2 < (l0.length : Int)
   ·rw [if_pos c5] at H
    have c5b0 : decide (a1_2 < (l0.length : Int)) = true := decide_eq_true c5
    clear c5
    simp only [Option.some.injEq, Prod.mk.injEq] at H
    obtain ⟨rfl, rfl, rfl⟩ := H
    go_enter Try.func71, Try.ntmps71
    go_wp2_with (first | ((refine Gd (N := 3) rfl ?_); refine Be ?hg (N := 3) ?hd (cs := #[.int .i64 a1_0, .int .i64 a1_1, .int .i64 a1_2, .int .i64 a1_3, .int .i64 a1_4]) (t := 26) ?hr ?_; (case hd | hg => rfl); (case hr => first | (go_simp; done) | (go_simp; rfl)); intro gb223 hg w6 hbox hb; have n0_ := Am (Kd.R_below (by (with_reducible repeat (first | apply Ra | apply Rn | apply Rd)); exact HO0.out) hb); have n1_ := Am (Kept.below (S := (fun k_ => P0_ k_)) (by repeat (first | (with_reducible first | exact HK.out | apply Kept.alloc | apply Kept.drewN | apply Kept.drew) | exact HK.out)) hb); have n2_ := Am (Bt (by repeat (first | exact HB.out | apply Ba | apply Bn | apply Bd)) hb); have n3_ := Am (hbox); have n4_ := Am ((by rw [hg]; exact (by first | exact HK.out.1 | exact (show Kept w _ (fun k_ => P0_ k_) from by repeat (first | (with_reducible first | exact HK.out | apply Kept.alloc | apply Kept.drewN | apply Kept.drew) | exact HK.out)).1) : w.heap.size ≤ gb223)); have n5_ := Am ((by rw [hg]; exact (Bz (by repeat (first | exact HB.out | apply Ba | apply Bn | apply Bd))) : w0.heap.size ≤ gb223)); clear HO0; clear HK; clear HB; have HO0 := n0_; have HK := n1_; have HB := n2_; have BK223 := n3_; have GW223 := n4_; have GE223 := n5_; clear n0_ n1_ n2_ n3_ n4_ n5_; clear hb hbox hg) | ((refine Gd (N := 4) rfl ?_); refine Be ?hg (N := 4) ?hd (cs := #[.int .i64 0, .int .i64 0]) (t := 30) ?hr ?_; (case hd | hg => rfl); (case hr => first | (go_simp; done) | (go_simp; rfl)); intro gb224 hg w7 hbox hb; have n0_ := Am (Kd.R_below (by (with_reducible repeat (first | apply Ra | apply Rn | apply Rd)); exact HO0.out) hb); have n1_ := Am (Kb (g := gb223) (o := .cells #[.int .i64 a1_0, .int .i64 a1_1, .int .i64 a1_2, .int .i64 a1_3, .int .i64 a1_4] 26 (0, 0)) (by (with_reducible repeat (first | refine Kn ?_ _ | refine Ke ?_ | refine Ka ?_ _)); exact BK223.out) hb); have n2_ := Am (Kept.below (S := (fun k_ => P0_ k_)) (by repeat (first | (with_reducible first | exact HK.out | apply Kept.alloc | apply Kept.drewN | apply Kept.drew | refine Kept.setCell ?_ (.inr GW223.out) _) | exact HK.out)) hb); have n3_ := Am (Bt (by repeat (first | (with_reducible first | exact HB.out | apply Ba | apply Bn | apply Bd | refine Bs ?_ GE223.out) | exact HB.out)) hb); have n4_ := Am (hbox); have n5_ := Am ((by rw [hg]; exact (by first | exact HK.out.1 | exact (show Kept w _ (fun k_ => P0_ k_) from by repeat (first | (with_reducible first | exact HK.out | apply Kept.alloc | apply Kept.drewN | apply Kept.drew | refine Kept.setCell ?_ (.inr GW223.out) _) | exact HK.out)).1) : w.heap.size ≤ gb224)); have n6_ := Am ((by rw [hg]; exact (Bz (by repeat (first | (with_reducible first | exact HB.out | apply Ba | apply Bn | apply Bd | refine Bs ?_ GE223.out) | exact HB.out))) : w0.heap.size ≤ gb224)); have n7_ := Am ((by rw [hg]; exact Nat.ne_of_lt (blk_lt (g := gb223) (o := .cells #[.int .i64 a1_0, .int .i64 a1_1, .int .i64 a1_2, .int .i64 a1_3, .int .i64 a1_4] 26 (0, 0)) (by (with_reducible repeat (first | refine Kn ?_ _ | refine Ke ?_ | refine Ka ?_ _)); exact BK223.out)) : gb223 ≠ gb224)); have n8_ := Am ((by rw [hg]; exact Nat.ne_of_gt (blk_lt (g := gb223) (o := .cells #[.int .i64 a1_0, .int .i64 a1_1, .int .i64 a1_2, .int .i64 a1_3, .int .i64 a1_4] 26 (0, 0)) (by (with_reducible repeat (first | refine Kn ?_ _ | refine Ke ?_ | refine Ka ?_ _)); exact BK223.out)) : gb224 ≠ gb223)); clear HO0; clear BK223; clear HK; clear HB; have HO0 := n0_; have BK223 := n1_; have HK := n2_; have HB := n3_; have BK224 := n4_; have GW224 := n5_; have GE224 := n6_; have NB223_224 := n7_; have NB224_223 := n8_; clear n0_ n1_ n2_ n3_ n4_ n5_ n6_ n7_ n8_; clear hb hbox hg; have hnb8 := NB223_224.out; have hnc8 := NB224_223.out; have hcz9_0 : w7.cell? ⟨gb223, 0, none⟩ = some (.int .i64 a1_0) := (Kc BK223.out 0).trans rfl; have hcz9_1 : w7.cell? ⟨gb223, 1, none⟩ = some (.int .i64 a1_1) := (Kc BK223.out 1).trans rfl; have hcz9_2 : w7.cell? ⟨gb223, 2, none⟩ = some (.int .i64 a1_2) := (Kc BK223.out 2).trans rfl; have hcz9_3 : w7.cell? ⟨gb223, 3, none⟩ = some (.int .i64 a1_3) := (Kc BK223.out 3).trans rfl; have hcz9_4 : w7.cell? ⟨gb223, 4, none⟩ = some (.int .i64 a1_4) := (Kc BK223.out 4).trans rfl; have hfz9_0 := Kz BK223.out 0; have hfz9_1 := Kz BK223.out 1; have hfz9_2 := Kz BK223.out 2; have hfz9_3 := Kz BK223.out 3; have hfz9_4 := Kz BK223.out 4; obtain ⟨Ao10, co10, eo10⟩ := Kd.R_slice HO0.out; subst eo10; have p225 : 0 ≤ (a1_2 : Int) := of_decide_eq_true (by assumption); have q225 : a1_2 < (l0.length : Int) := of_decide_eq_true (by assumption); obtain ⟨ad225, e225, hx225_0⟩ := Kd.at_int (Kd.R_reads' HO0.out).2.2 a1_2 p225 q225; cases e225; replace p225 := eq_true p225; replace q225 := eq_true q225; have hcz11_0 : w7.cell? ⟨gb224, 0, none⟩ = some (.int .i64 0) := (Kc BK224.out 0).trans rfl; have hcz11_1 : w7.cell? ⟨gb224, 1, none⟩ = some (.int .i64 0) := (Kc BK224.out 1).trans rfl; have hfz11_0 := Kz BK224.out 0; have hfz11_1 := Kz BK224.out 1))
    refine bodyPost_ret (results_cell_row rfl _ _ gb224 30 #[.int .i64 3, .int .i64 (rd l0 a1_2)] (0, 0) _ rfl (by (with_reducible repeat (first | refine Kn ?_ _ | refine Ke ?_ | refine Ka ?_ _)); refine blk_put (cs := #[.int .i64 3, .int .i64 0]) ?_ 1 _ rfl; (with_reducible repeat (first | refine Kn ?_ _ | refine Ke ?_ | refine Ka ?_ _)); refine blk_put (cs := #[.int .i64 0, .int .i64 0]) ?_ 0 _ rfl; (with_reducible repeat (first | refine Kn ?_ _ | refine Ke ?_ | refine Ka ?_ _)); exact BK224.out) Try.underlying30 rfl (by kernel_rfl)) rfl ?_
    exact ⟨by first | rfl | (simp [*, errW_none, errW_some] <;> rfl), by (with_reducible repeat (first | apply Ra | apply Rn | apply Rd)); exact Kd.R_mono (Kd.R_far (p := ⟨gb224, 1, none⟩) (Kd.R_far (p := ⟨gb224, 0, none⟩) (Kd.R_types HO0.out BK224.out (by decide)) (fun _ hk => hk.2) (.int .i64 3)) (fun _ hk => hk.2) (.int .i64 (rd l0 a1_2))) (fun _ hk => hk.1), by repeat (first | (with_reducible first | exact HB.out | apply Ba | apply Bn | apply Bd | refine Bs ?_ GE223.out | refine Bs ?_ GE224.out) | exact HB.out), by repeat (first | (with_reducible first | exact HK.out | apply Kept.alloc | apply Kept.drewN | apply Kept.drew | refine Kept.setCell ?_ (.inr GW223.out) _ | refine Kept.setCell ?_ (.inr GW224.out) _) | exact HK.out)⟩
   ·rw [if_neg c5] at H
    exact absurd H (by simp)
  ·rw [if_neg c4] at H
   exact absurd H (by simp)
 ·rw [if_neg c3] at H
  have c3b0 : (a1_0 == 2) = false := beq_eq_false_iff_ne.mpr c3
  have c3b1 : (a1_0 != 2) = true := bne_iff_ne.mpr c3
  by_cases c12 : a1_0 = 0
  ·rw [if_pos c12] at H
   have c12b0 : (a1_0 == 0) = true := beq_iff_eq.mpr c12
   have c12b1 : (a1_0 != 0) = false := bne_eq_false_iff_eq.mpr c12
   clear c12
   simp only [Option.some.injEq, Prod.mk.injEq] at H
   obtain ⟨rfl, rfl, rfl⟩ := H
   go_enter Try.func71, Try.ntmps71
   go_wp2_with (first | ((refine Gd (N := 3) rfl ?_); refine Be ?hg (N := 3) ?hd (cs := #[.int .i64 a1_0, .int .i64 a1_1, .int .i64 a1_2, .int .i64 a1_3, .int .i64 a1_4]) (t := 26) ?hr ?_; (case hd | hg => rfl); (case hr => first | (go_simp; done) | (go_simp; rfl)); intro gb223 hg w13 hbox hb; have n0_ := Am (Kd.R_below (by (with_reducible repeat (first | apply Ra | apply Rn | apply Rd)); exact HO0.out) hb); have n1_ := Am (Kept.below (S := (fun k_ => P0_ k_)) (by repeat (first | (with_reducible first | exact HK.out | apply Kept.alloc | apply Kept.drewN | apply Kept.drew) | exact HK.out)) hb); have n2_ := Am (Bt (by repeat (first | exact HB.out | apply Ba | apply Bn | apply Bd)) hb); have n3_ := Am (hbox); have n4_ := Am ((by rw [hg]; exact (by first | exact HK.out.1 | exact (show Kept w _ (fun k_ => P0_ k_) from by repeat (first | (with_reducible first | exact HK.out | apply Kept.alloc | apply Kept.drewN | apply Kept.drew) | exact HK.out)).1) : w.heap.size ≤ gb223)); have n5_ := Am ((by rw [hg]; exact (Bz (by repeat (first | exact HB.out | apply Ba | apply Bn | apply Bd))) : w0.heap.size ≤ gb223)); clear HO0; clear HK; clear HB; have HO0 := n0_; have HK := n1_; have HB := n2_; have BK223 := n3_; have GW223 := n4_; have GE223 := n5_; clear n0_ n1_ n2_ n3_ n4_ n5_; clear hb hbox hg) | ((refine Gd (N := 4) rfl ?_); refine Be ?hg (N := 4) ?hd (cs := #[.int .i64 0, .int .i64 0]) (t := 30) ?hr ?_; (case hd | hg => rfl); (case hr => first | (go_simp; done) | (go_simp; rfl)); intro gb224 hg w14 hbox hb; have n0_ := Am (Kd.R_below (by (with_reducible repeat (first | apply Ra | apply Rn | apply Rd)); exact HO0.out) hb); have n1_ := Am (Kb (g := gb223) (o := .cells #[.int .i64 a1_0, .int .i64 a1_1, .int .i64 a1_2, .int .i64 a1_3, .int .i64 a1_4] 26 (0, 0)) (by (with_reducible repeat (first | refine Kn ?_ _ | refine Ke ?_ | refine Ka ?_ _)); exact BK223.out) hb); have n2_ := Am (Kept.below (S := (fun k_ => P0_ k_)) (by repeat (first | (with_reducible first | exact HK.out | apply Kept.alloc | apply Kept.drewN | apply Kept.drew | refine Kept.setCell ?_ (.inr GW223.out) _) | exact HK.out)) hb); have n3_ := Am (Bt (by repeat (first | (with_reducible first | exact HB.out | apply Ba | apply Bn | apply Bd | refine Bs ?_ GE223.out) | exact HB.out)) hb); have n4_ := Am (hbox); have n5_ := Am ((by rw [hg]; exact (by first | exact HK.out.1 | exact (show Kept w _ (fun k_ => P0_ k_) from by repeat (first | (with_reducible first | exact HK.out | apply Kept.alloc | apply Kept.drewN | apply Kept.drew | refine Kept.setCell ?_ (.inr GW223.out) _) | exact HK.out)).1) : w.heap.size ≤ gb224)); have n6_ := Am ((by rw [hg]; exact (Bz (by repeat (first | (with_reducible first | exact HB.out | apply Ba | apply Bn | apply Bd | refine Bs ?_ GE223.out) | exact HB.out))) : w0.heap.size ≤ gb224)); have n7_ := Am ((by rw [hg]; exact Nat.ne_of_lt (blk_lt (g := gb223) (o := .cells #[.int .i64 a1_0, .int .i64 a1_1, .int .i64 a1_2, .int .i64 a1_3, .int .i64 a1_4] 26 (0, 0)) (by (with_reducible repeat (first | refine Kn ?_ _ | refine Ke ?_ | refine Ka ?_ _)); exact BK223.out)) : gb223 ≠ gb224)); have n8_ := Am ((by rw [hg]; exact Nat.ne_of_gt (blk_lt (g := gb223) (o := .cells #[.int .i64 a1_0, .int .i64 a1_1, .int .i64 a1_2, .int .i64 a1_3, .int .i64 a1_4] 26 (0, 0)) (by (with_reducible repeat (first | refine Kn ?_ _ | refine Ke ?_ | refine Ka ?_ _)); exact BK223.out)) : gb224 ≠ gb223)); clear HO0; clear BK223; clear HK; clear HB; have HO0 := n0_; have BK223 := n1_; have HK := n2_; have HB := n3_; have BK224 := n4_; have GW224 := n5_; have GE224 := n6_; have NB223_224 := n7_; have NB224_223 := n8_; clear n0_ n1_ n2_ n3_ n4_ n5_ n6_ n7_ n8_; clear hb hbox hg; have hnb15 := NB223_224.out; have hnc15 := NB224_223.out; have hcz16_0 : w14.cell? ⟨gb223, 0, none⟩ = some (.int .i64 a1_0) := (Kc BK223.out 0).trans rfl; have hcz16_1 : w14.cell? ⟨gb223, 1, none⟩ = some (.int .i64 a1_1) := (Kc BK223.out 1).trans rfl; have hcz16_2 : w14.cell? ⟨gb223, 2, none⟩ = some (.int .i64 a1_2) := (Kc BK223.out 2).trans rfl; have hcz16_3 : w14.cell? ⟨gb223, 3, none⟩ = some (.int .i64 a1_3) := (Kc BK223.out 3).trans rfl; have hcz16_4 : w14.cell? ⟨gb223, 4, none⟩ = some (.int .i64 a1_4) := (Kc BK223.out 4).trans rfl; have hfz16_0 := Kz BK223.out 0; have hfz16_1 := Kz BK223.out 1; have hfz16_2 := Kz BK223.out 2; have hfz16_3 := Kz BK223.out 3; have hfz16_4 := Kz BK223.out 4; have hcz17_0 : w14.cell? ⟨gb224, 0, none⟩ = some (.int .i64 0) := (Kc BK224.out 0).trans rfl; have hcz17_1 : w14.cell? ⟨gb224, 1, none⟩ = some (.int .i64 0) := (Kc BK224.out 1).trans rfl; have hfz17_0 := Kz BK224.out 0; have hfz17_1 := Kz BK224.out 1))
   refine bodyPost_ret (results_cell_row rfl _ _ gb224 30 #[.int .i64 0, .int .i64 0] (0, 0) _ rfl (by (with_reducible repeat (first | refine Kn ?_ _ | refine Ke ?_ | refine Ka ?_ _)); refine blk_put (cs := #[.int .i64 0, .int .i64 0]) ?_ 1 _ rfl; (with_reducible repeat (first | refine Kn ?_ _ | refine Ke ?_ | refine Ka ?_ _)); refine blk_put (cs := #[.int .i64 0, .int .i64 0]) ?_ 0 _ rfl; (with_reducible repeat (first | refine Kn ?_ _ | refine Ke ?_ | refine Ka ?_ _)); exact BK224.out) Try.underlying30 rfl (by kernel_rfl)) rfl ?_
   exact ⟨by first | rfl | (simp [*, errW_none, errW_some] <;> rfl), by (with_reducible repeat (first | apply Ra | apply Rn | apply Rd)); exact Kd.R_mono (Kd.R_far (p := ⟨gb224, 1, none⟩) (Kd.R_far (p := ⟨gb224, 0, none⟩) (Kd.R_types HO0.out BK224.out (by decide)) (fun _ hk => hk.2) (.int .i64 0)) (fun _ hk => hk.2) (.int .i64 0)) (fun _ hk => hk.1), by repeat (first | (with_reducible first | exact HB.out | apply Ba | apply Bn | apply Bd | refine Bs ?_ GE223.out | refine Bs ?_ GE224.out) | exact HB.out), by repeat (first | (with_reducible first | exact HK.out | apply Kept.alloc | apply Kept.drewN | apply Kept.drew | refine Kept.setCell ?_ (.inr GW223.out) _ | refine Kept.setCell ?_ (.inr GW224.out) _) | exact HK.out)⟩
  ·rw [if_neg c12] at H
   have c12b0 : (a1_0 == 0) = false := beq_eq_false_iff_ne.mpr c12
   have c12b1 : (a1_0 != 0) = true := bne_iff_ne.mpr c12
   by_cases c18 : 0 ≤ a1_2
   ·rw [if_pos c18] at H
    have c18b0 : decide (0 ≤ a1_2) = true := decide_eq_true c18
    clear c18
    by_cases c19 : a1_2 < (l0.length : Int)
    ·rw [if_pos c19] at H
     have c19b0 : decide (a1_2 < (l0.length : Int)) = true := decide_eq_true c19
     clear c19
     by_cases c20 : (rd l0 a1_2) < a1_4
     ·rw [if_pos c20] at H
      have c20b0 : decide ((rd l0 a1_2) < a1_4) = true := decide_eq_true c20
      clear c20
      simp only [Option.some.injEq, Prod.mk.injEq] at H
      obtain ⟨rfl, rfl, rfl⟩ := H
      go_enter Try.func71, Try.ntmps71
      try go_wp2_with (first | ((refine Gd (N := 3) rfl ?_); refine Be ?hg (N := 3) ?hd (cs := #[.int .i64 a1_0, .int .i64 a1_1, .int .i64 a1_2, .int .i64 a1_3, .int .i64 a1_4]) (t := 26) ?hr ?_; (case hd | hg => rfl); (case hr => first | (go_simp; done) | (go_simp; rfl)); intro gb223 hg w21 hbox hb; have n0_ := Am (Kd.R_below (by (with_reducible repeat (first | apply Ra | apply Rn | apply Rd)); exact HO0.out) hb); have n1_ := Am (Kept.below (S := (fun k_ => P0_ k_)) (by repeat (first | (with_reducible first | exact HK.out | apply Kept.alloc | apply Kept.drewN | apply Kept.drew) | exact HK.out)) hb); have n2_ := Am (Bt (by repeat (first | exact HB.out | apply Ba | apply Bn | apply Bd)) hb); have n3_ := Am (hbox); have n4_ := Am ((by rw [hg]; exact (by first | exact HK.out.1 | exact (show Kept w _ (fun k_ => P0_ k_) from by repeat (first | (with_reducible first | exact HK.out | apply Kept.alloc | apply Kept.drewN | apply Kept.drew) | exact HK.out)).1) : w.heap.size ≤ gb223)); have n5_ := Am ((by rw [hg]; exact (Bz (by repeat (first | exact HB.out | apply Ba | apply Bn | apply Bd))) : w0.heap.size ≤ gb223)); clear HO0; clear HK; clear HB; have HO0 := n0_; have HK := n1_; have HB := n2_; have BK223 := n3_; have GW223 := n4_; have GE223 := n5_; clear n0_ n1_ n2_ n3_ n4_ n5_; clear hb hbox hg) | ((refine Gd (N := 4) rfl ?_); refine Be ?hg (N := 4) ?hd (cs := #[.int .i64 0, .int .i64 0]) (t := 30) ?hr ?_; (case hd | hg => rfl); (case hr => first | (go_simp; done) | (go_simp; rfl)); intro gb224 hg w22 hbox hb; have n0_ := Am (Kd.R_below (by (with_reducible repeat (first | apply Ra | apply Rn | apply Rd)); exact HO0.out) hb); have n1_ := Am (Kb (g := gb223) (o := .cells #[.int .i64 a1_0, .int .i64 a1_1, .int .i64 a1_2, .int .i64 a1_3, .int .i64 a1_4] 26 (0, 0)) (by (with_reducible repeat (first | refine Kn ?_ _ | refine Ke ?_ | refine Ka ?_ _)); exact BK223.out) hb); have n2_ := Am (Kept.below (S := (fun k_ => P0_ k_)) (by repeat (first | (with_reducible first | exact HK.out | apply Kept.alloc | apply Kept.drewN | apply Kept.drew | refine Kept.setCell ?_ (.inr GW223.out) _) | exact HK.out)) hb); have n3_ := Am (Bt (by repeat (first | (with_reducible first | exact HB.out | apply Ba | apply Bn | apply Bd | refine Bs ?_ GE223.out) | exact HB.out)) hb); have n4_ := Am (hbox); have n5_ := Am ((by rw [hg]; exact (by first | exact HK.out.1 | exact (show Kept w _ (fun k_ => P0_ k_) from by repeat (first | (with_reducible first | exact HK.out | apply Kept.alloc | apply Kept.drewN | apply Kept.drew | refine Kept.setCell ?_ (.inr GW223.out) _) | exact HK.out)).1) : w.heap.size ≤ gb224)); have n6_ := Am ((by rw [hg]; exact (Bz (by repeat (first | (with_reducible first | exact HB.out | apply Ba | apply Bn | apply Bd | refine Bs ?_ GE223.out) | exact HB.out))) : w0.heap.size ≤ gb224)); have n7_ := Am ((by rw [hg]; exact Nat.ne_of_lt (blk_lt (g := gb223) (o := .cells #[.int .i64 a1_0, .int .i64 a1_1, .int .i64 a1_2, .int .i64 a1_3, .int .i64 a1_4] 26 (0, 0)) (by (with_reducible repeat (first | refine Kn ?_ _ | refine Ke ?_ | refine Ka ?_ _)); exact BK223.out)) : gb223 ≠ gb224)); have n8_ := Am ((by rw [hg]; exact Nat.ne_of_gt (blk_lt (g := gb223) (o := .cells #[.int .i64 a1_0, .int .i64 a1_1, .int .i64 a1_2, .int .i64 a1_3, .int .i64 a1_4] 26 (0, 0)) (by (with_reducible repeat (first | refine Kn ?_ _ | refine Ke ?_ | refine Ka ?_ _)); exact BK223.out)) : gb224 ≠ gb223)); clear HO0; clear BK223; clear HK; clear HB; have HO0 := n0_; have BK223 := n1_; have HK := n2_; have HB := n3_; have BK224 := n4_; have GW224 := n5_; have GE224 := n6_; have NB223_224 := n7_; have NB224_223 := n8_; clear n0_ n1_ n2_ n3_ n4_ n5_ n6_ n7_ n8_; clear hb hbox hg; have hnb23 := NB223_224.out; have hnc23 := NB224_223.out; have hcz24_0 : w22.cell? ⟨gb223, 0, none⟩ = some (.int .i64 a1_0) := (Kc BK223.out 0).trans rfl; have hcz24_1 : w22.cell? ⟨gb223, 1, none⟩ = some (.int .i64 a1_1) := (Kc BK223.out 1).trans rfl; have hcz24_2 : w22.cell? ⟨gb223, 2, none⟩ = some (.int .i64 a1_2) := (Kc BK223.out 2).trans rfl; have hcz24_3 : w22.cell? ⟨gb223, 3, none⟩ = some (.int .i64 a1_3) := (Kc BK223.out 3).trans rfl; have hcz24_4 : w22.cell? ⟨gb223, 4, none⟩ = some (.int .i64 a1_4) := (Kc BK223.out 4).trans rfl; have hfz24_0 := Kz BK223.out 0; have hfz24_1 := Kz BK223.out 1; have hfz24_2 := Kz BK223.out 2; have hfz24_3 := Kz BK223.out 3; have hfz24_4 := Kz BK223.out 4))
      have n0_ := Am (Rd HO0.out)
      have n1_ := Am (Ke BK223.out)
      have n2_ := Am (Ke BK224.out)
      have n3_ := Am (Kept.drew HK.out)
      have n4_ := Am (Bd HB.out)
      clear HO0
      clear BK223
      clear BK224
      clear HK
      clear HB
      have HO0 := n0_
      have BK223 := n1_
      have BK224 := n2_
      have HK := n3_
      have HB := n4_
      clear n0_ n1_ n2_ n3_ n4_
      obtain ⟨Ao26, co26, eo26⟩ := Kd.R_slice HO0.out
      (first | subst eo26 | (injection eo26 with f1_ f2_ f3_; have f4_ := f1_.symm; have f5_ := f3_.symm; clear f1_ f2_ f3_; subst f4_; subst f5_))
      have p226 : 0 ≤ (a1_2 : Int) := of_decide_eq_true (by assumption)
      have q226 : a1_2 < (l0.length : Int) := of_decide_eq_true (by assumption)
      obtain ⟨ad226, e226, hx226_0⟩ := Kd.at_int (Kd.R_reads' HO0.out).2.2 a1_2 p226 q226
      cases e226
      replace p226 := eq_true p226
      replace q226 := eq_true q226
      refine start_ (n := 9) (S := fun w' => w'.cell? ⟨gb223, 0, none⟩ = some (.int .i64 a1_0) ∧ w'.cell? ⟨gb223, 1, none⟩ = some (.int .i64 a1_1) ∧ w'.cell? ⟨gb223, 2, none⟩ = some (.int .i64 a1_2) ∧ w'.cell? ⟨gb223, 3, none⟩ = some (.int .i64 a1_3) ∧ w'.cell? ⟨gb223, 4, none⟩ = some (.int .i64 a1_4) ∧ w'.cell? (ad226.add (a1_2).toNat) = some (.int .i64 (rd l0 a1_2))) (ds := []) #[false, false, false, false, false, false, false, false, false] (by kernel_rfl) rfl rfl ⟨(Kc BK223.out 0).trans rfl, (Kc BK223.out 1).trans rfl, (Kc BK223.out 2).trans rfl, (Kc BK223.out 3).trans rfl, (Kc BK223.out 4).trans rfl, hx226_0⟩ (fun hHeld => ?_); refine with_tabW impl_apply.tab5 impl_apply.bits5 (fun HT_ HW_ => ?_)
      generalize w22.drew = w25 at HO0 BK223 BK224 HK HB hx226_0 hHeld ⊢
      refine pure_ (i := 0) (N := some 21) (v := ?_) (a' := ?_) #[true, false, false, false, false, false, false, false, false] rfl rfl (any_of HT_.out (by kernel_rfl)) (fun _ _ _ h => h) (Or.inl ⟨by rfl, ?_⟩) ?_ ?_
      rotate_left
      ·intro w'
       go_simp
       with_reducible rfl
      rotate_left
      ·simp only [Act.put, Lt, Lz, Ls, i64_w, i32_w]
       rfl
      refine pure_ (i := 1) (N := some 22) (v := ?_) (a' := ?_) #[true, true, false, false, false, false, false, false, false] rfl rfl (any_of HT_.out (by kernel_rfl)) (fun _ _ _ h => h) (Or.inl ⟨by rfl, ?_⟩) ?_ ?_
      rotate_left
      ·intro w'
       go_simp
       with_reducible rfl
      rotate_left
      ·simp only [Act.put, Lt, Lz, Ls, i64_w, i32_w]
       rfl
      refine pure_ (i := 5) (N := some 26) (v := ?_) (a' := ?_) #[true, true, false, false, false, true, false, false, false] rfl rfl (any_of HT_.out (by kernel_rfl)) (fun _ _ _ h => h) (Or.inl ⟨by rfl, ?_⟩) ?_ ?_
      rotate_left
      ·intro w'
       go_simp
       with_reducible rfl
      rotate_left
      ·simp only [Act.put, Lt, Lz, Ls, i64_w, i32_w]
       rfl
      refine take_ (i := 2) (N := some 23) (v := ?_) (a' := ?_) #[true, true, true, false, false, true, false, false, false] rfl rfl (take_ofW HT_.out HW_.out (by kernel_rfl)) (fun _ _ _ h => h) (Or.inl ⟨by rfl, ?_⟩) hHeld ?_ ?_
      rotate_left
      ·rintro w' ⟨s0, s1, s2, s3, s4, s5⟩
       go_simp
       with_reducible rfl
      rotate_left
      ·simp only [Act.put, Lt, Lz, Ls, i64_w, i32_w]
       rfl
      refine pure_ (i := 3) (N := some 24) (v := ?_) (a' := ?_) #[true, true, true, true, false, true, false, false, false] rfl rfl (any_of HT_.out (by kernel_rfl)) (fun _ _ _ h => h) (Or.inl ⟨by rfl, ?_⟩) ?_ ?_
      rotate_left
      ·intro w'
       go_simp
       with_reducible rfl
      rotate_left
      ·simp only [Act.put, Lt, Lz, Ls, i64_w, i32_w]
       rfl
      refine take_ (i := 4) (N := some 25) (v := ?_) (a' := ?_) #[true, true, true, true, true, true, false, false, false] rfl rfl (take_ofW HT_.out HW_.out (by kernel_rfl)) (fun _ _ _ h => h) (Or.inl ⟨by rfl, ?_⟩) hHeld ?_ ?_
      rotate_left
      ·rintro w' ⟨s0, s1, s2, s3, s4, s5⟩
       go_simp
       with_reducible rfl
      rotate_left
      ·simp only [Act.put, Lt, Lz, Ls, i64_w, i32_w]
       rfl
      refine take_ (i := 6) (N := some 27) (v := ?_) (a' := ?_) #[true, true, true, true, true, true, true, false, false] rfl rfl (take_ofW HT_.out HW_.out (by kernel_rfl)) (fun _ _ _ h => h) (Or.inl ⟨by rfl, ?_⟩) hHeld ?_ ?_
      rotate_left
      ·rintro w' ⟨s0, s1, s2, s3, s4, s5⟩
       go_simp
       with_reducible rfl
      rotate_left
      ·simp only [Act.put, Lt, Lz, Ls, i64_w, i32_w]
       rfl
      refine pure_ (i := 7) (N := some 28) (v := ?_) (a' := ?_) #[true, true, true, true, true, true, true, true, false] rfl rfl (any_of HT_.out (by kernel_rfl)) (fun _ _ _ h => h) (Or.inl ⟨by rfl, ?_⟩) ?_ ?_
      rotate_left
      ·intro w'
       go_simp
       with_reducible rfl
      rotate_left
      ·simp only [Act.put, Lt, Lz, Ls, i64_w, i32_w]
       rfl
      refine pure_ (i := 8) (N := some 20) (v := ?_) (a' := ?_) #[true, true, true, true, true, true, true, true, true] rfl rfl (any_of HT_.out (by kernel_rfl)) (fun _ _ _ h => h) (Or.inl ⟨by rfl, ?_⟩) ?_ ?_
      rotate_left
      ·intro w'
       go_simp
       with_reducible rfl
      rotate_left
      ·simp only [Act.put, Lt, Lz, Ls, i64_w, i32_w]
       rfl
      refine done_ (done_of HT_.out (by kernel_rfl)) ?_
      have hcz27_0 : w25.cell? ⟨gb224, 0, none⟩ = some (.int .i64 0) := (Kc BK224.out 0).trans rfl
      have hcz27_1 : w25.cell? ⟨gb224, 1, none⟩ = some (.int .i64 0) := (Kc BK224.out 1).trans rfl
      have hfz27_0 := Kz BK224.out 0
      have hfz27_1 := Kz BK224.out 1
      try go_wp2
      refine bodyPost_ret (results_cell_row rfl _ _ gb224 30 #[.int .i64 2, .int .i64 0] (0, 0) _ rfl (by (with_reducible repeat (first | refine Kn ?_ _ | refine Ke ?_ | refine Ka ?_ _)); refine blk_put (cs := #[.int .i64 2, .int .i64 0]) ?_ 1 _ rfl; (with_reducible repeat (first | refine Kn ?_ _ | refine Ke ?_ | refine Ka ?_ _)); refine blk_put (cs := #[.int .i64 0, .int .i64 0]) ?_ 0 _ rfl; (with_reducible repeat (first | refine Kn ?_ _ | refine Ke ?_ | refine Ka ?_ _)); exact BK224.out) Try.underlying30 rfl (by kernel_rfl)) rfl ?_
      exact ⟨by first | rfl | (simp [*, errW_none, errW_some] <;> rfl), by (with_reducible repeat (first | apply Ra | apply Rn | apply Rd)); exact Kd.R_mono (Kd.R_far (p := ⟨gb224, 1, none⟩) (Kd.R_far (p := ⟨gb224, 0, none⟩) (Kd.R_types HO0.out BK224.out (by decide)) (fun _ hk => hk.2) (.int .i64 2)) (fun _ hk => hk.2) (.int .i64 0)) (fun _ hk => hk.1), by repeat (first | (with_reducible first | exact HB.out | apply Ba | apply Bn | apply Bd | refine Bs ?_ GE223.out | refine Bs ?_ GE224.out) | exact HB.out), by repeat (first | (with_reducible first | exact HK.out | apply Kept.alloc | apply Kept.drewN | apply Kept.drew | refine Kept.setCell ?_ (.inr GW223.out) _ | refine Kept.setCell ?_ (.inr GW224.out) _) | exact HK.out)⟩
     ·rw [if_neg c20] at H
      have c20b0 : decide ((rd l0 a1_2) < a1_4) = false := decide_eq_false c20
      clear c20
      obtain ⟨y228, hy228⟩ : ∃ y_ : List Int, y_ = (l0.set (a1_2 : Int).toNat (wrap64 ((rd l0 a1_2) - a1_4))) := ⟨_, rfl⟩
      replace H : (if 0 ≤ a1_3 then (if a1_3 < (l0.length : Int) then (some (1, 0, (y228.set (a1_3 : Int).toNat (wrap64 ((rd y228 a1_3) + a1_4))))) else (none)) else (none)) = some (r1, r2, r3) := by first | (rw [hy228]; with_reducible exact H) | (have H2_ := (Option.bind_some _ _).symm.trans H; rw [hy228]; with_reducible exact H2_) | (have H2_ := (Option.bind_some _ _).symm.trans H; with_reducible exact H2_) | with_reducible exact H | (rw [hy228]; exact H) | exact H
      have Ny228 := Am hy228
      clear hy228
      by_cases c29 : 0 ≤ a1_3
      ·rw [if_pos c29] at H
       have c29b0 : decide (0 ≤ a1_3) = true := decide_eq_true c29
       clear c29
       by_cases c30 : a1_3 < (l0.length : Int)
       ·rw [if_pos c30] at H
        have c30b0 : decide (a1_3 < (l0.length : Int)) = true := decide_eq_true c30
        clear c30
        obtain ⟨y230, hy230⟩ : ∃ y_ : List Int, y_ = (y228.set (a1_3 : Int).toNat (wrap64 ((rd y228 a1_3) + a1_4))) := ⟨_, rfl⟩
        replace H : (some (1, 0, y230)) = some (r1, r2, r3) := by first | (rw [hy230]; with_reducible exact H) | (have H2_ := (Option.bind_some _ _).symm.trans H; rw [hy230]; with_reducible exact H2_) | (have H2_ := (Option.bind_some _ _).symm.trans H; with_reducible exact H2_) | with_reducible exact H | (rw [hy230]; exact H) | exact H
        have Ny230 := Am hy230
        clear hy230
        simp only [Option.some.injEq, Prod.mk.injEq] at H
        obtain ⟨rfl, rfl, rfl⟩ := H
        go_enter Try.func71, Try.ntmps71
        try go_wp2_with (first | ((refine Gd (N := 3) rfl ?_); refine Be ?hg (N := 3) ?hd (cs := #[.int .i64 a1_0, .int .i64 a1_1, .int .i64 a1_2, .int .i64 a1_3, .int .i64 a1_4]) (t := 26) ?hr ?_; (case hd | hg => rfl); (case hr => first | (go_simp; done) | (go_simp; rfl)); intro gb223 hg w32 hbox hb; have n0_ := Am (Kd.R_below (by (with_reducible repeat (first | apply Ra | apply Rn | apply Rd)); exact HO0.out) hb); have n1_ := Am (Kept.below (S := (fun k_ => P0_ k_)) (by repeat (first | (with_reducible first | exact HK.out | apply Kept.alloc | apply Kept.drewN | apply Kept.drew) | exact HK.out)) hb); have n2_ := Am (Bt (by repeat (first | exact HB.out | apply Ba | apply Bn | apply Bd)) hb); have n3_ := Am (hbox); have n4_ := Am ((by rw [hg]; exact (by first | exact HK.out.1 | exact (show Kept w _ (fun k_ => P0_ k_) from by repeat (first | (with_reducible first | exact HK.out | apply Kept.alloc | apply Kept.drewN | apply Kept.drew) | exact HK.out)).1) : w.heap.size ≤ gb223)); have n5_ := Am ((by rw [hg]; exact (Bz (by repeat (first | exact HB.out | apply Ba | apply Bn | apply Bd))) : w0.heap.size ≤ gb223)); clear HO0; clear HK; clear HB; have HO0 := n0_; have HK := n1_; have HB := n2_; have BK223 := n3_; have GW223 := n4_; have GE223 := n5_; clear n0_ n1_ n2_ n3_ n4_ n5_; clear hb hbox hg) | ((refine Gd (N := 4) rfl ?_); refine Be ?hg (N := 4) ?hd (cs := #[.int .i64 0, .int .i64 0]) (t := 30) ?hr ?_; (case hd | hg => rfl); (case hr => first | (go_simp; done) | (go_simp; rfl)); intro gb224 hg w33 hbox hb; have n0_ := Am (Kd.R_below (by (with_reducible repeat (first | apply Ra | apply Rn | apply Rd)); exact HO0.out) hb); have n1_ := Am (Kb (g := gb223) (o := .cells #[.int .i64 a1_0, .int .i64 a1_1, .int .i64 a1_2, .int .i64 a1_3, .int .i64 a1_4] 26 (0, 0)) (by (with_reducible repeat (first | refine Kn ?_ _ | refine Ke ?_ | refine Ka ?_ _)); exact BK223.out) hb); have n2_ := Am (Kept.below (S := (fun k_ => P0_ k_)) (by repeat (first | (with_reducible first | exact HK.out | apply Kept.alloc | apply Kept.drewN | apply Kept.drew | refine Kept.setCell ?_ (.inr GW223.out) _) | exact HK.out)) hb); have n3_ := Am (Bt (by repeat (first | (with_reducible first | exact HB.out | apply Ba | apply Bn | apply Bd | refine Bs ?_ GE223.out) | exact HB.out)) hb); have n4_ := Am (hbox); have n5_ := Am ((by rw [hg]; exact (by first | exact HK.out.1 | exact (show Kept w _ (fun k_ => P0_ k_) from by repeat (first | (with_reducible first | exact HK.out | apply Kept.alloc | apply Kept.drewN | apply Kept.drew | refine Kept.setCell ?_ (.inr GW223.out) _) | exact HK.out)).1) : w.heap.size ≤ gb224)); have n6_ := Am ((by rw [hg]; exact (Bz (by repeat (first | (with_reducible first | exact HB.out | apply Ba | apply Bn | apply Bd | refine Bs ?_ GE223.out) | exact HB.out))) : w0.heap.size ≤ gb224)); have n7_ := Am ((by rw [hg]; exact Nat.ne_of_lt (blk_lt (g := gb223) (o := .cells #[.int .i64 a1_0, .int .i64 a1_1, .int .i64 a1_2, .int .i64 a1_3, .int .i64 a1_4] 26 (0, 0)) (by (with_reducible repeat (first | refine Kn ?_ _ | refine Ke ?_ | refine Ka ?_ _)); exact BK223.out)) : gb223 ≠ gb224)); have n8_ := Am ((by rw [hg]; exact Nat.ne_of_gt (blk_lt (g := gb223) (o := .cells #[.int .i64 a1_0, .int .i64 a1_1, .int .i64 a1_2, .int .i64 a1_3, .int .i64 a1_4] 26 (0, 0)) (by (with_reducible repeat (first | refine Kn ?_ _ | refine Ke ?_ | refine Ka ?_ _)); exact BK223.out)) : gb224 ≠ gb223)); clear HO0; clear BK223; clear HK; clear HB; have HO0 := n0_; have BK223 := n1_; have HK := n2_; have HB := n3_; have BK224 := n4_; have GW224 := n5_; have GE224 := n6_; have NB223_224 := n7_; have NB224_223 := n8_; clear n0_ n1_ n2_ n3_ n4_ n5_ n6_ n7_ n8_; clear hb hbox hg; have hnb34 := NB223_224.out; have hnc34 := NB224_223.out; have hcz35_0 : w33.cell? ⟨gb223, 0, none⟩ = some (.int .i64 a1_0) := (Kc BK223.out 0).trans rfl; have hcz35_1 : w33.cell? ⟨gb223, 1, none⟩ = some (.int .i64 a1_1) := (Kc BK223.out 1).trans rfl; have hcz35_2 : w33.cell? ⟨gb223, 2, none⟩ = some (.int .i64 a1_2) := (Kc BK223.out 2).trans rfl; have hcz35_3 : w33.cell? ⟨gb223, 3, none⟩ = some (.int .i64 a1_3) := (Kc BK223.out 3).trans rfl; have hcz35_4 : w33.cell? ⟨gb223, 4, none⟩ = some (.int .i64 a1_4) := (Kc BK223.out 4).trans rfl; have hfz35_0 := Kz BK223.out 0; have hfz35_1 := Kz BK223.out 1; have hfz35_2 := Kz BK223.out 2; have hfz35_3 := Kz BK223.out 3; have hfz35_4 := Kz BK223.out 4))
        have n0_ := Am (Rd HO0.out)
        have n1_ := Am (Ke BK223.out)
        have n2_ := Am (Ke BK224.out)
        have n3_ := Am (Kept.drew HK.out)
        have n4_ := Am (Bd HB.out)
        clear HO0
        clear BK223
        clear BK224
        clear HK
        clear HB
        have HO0 := n0_
        have BK223 := n1_
        have BK224 := n2_
        have HK := n3_
        have HB := n4_
        clear n0_ n1_ n2_ n3_ n4_
        obtain ⟨Ao37, co37, eo37⟩ := Kd.R_slice HO0.out
        (first | subst eo37 | (injection eo37 with f1_ f2_ f3_; have f4_ := f1_.symm; have f5_ := f3_.symm; clear f1_ f2_ f3_; subst f4_; subst f5_))
        have p226 : 0 ≤ (a1_2 : Int) := of_decide_eq_true (by assumption)
        have q226 : a1_2 < (l0.length : Int) := of_decide_eq_true (by assumption)
        obtain ⟨ad226, e226, hx226_0⟩ := Kd.at_int (Kd.R_reads' HO0.out).2.2 a1_2 p226 q226
        cases e226
        replace p226 := eq_true p226
        replace q226 := eq_true q226
        refine start_ (n := 9) (S := fun w' => w'.cell? ⟨gb223, 0, none⟩ = some (.int .i64 a1_0) ∧ w'.cell? ⟨gb223, 1, none⟩ = some (.int .i64 a1_1) ∧ w'.cell? ⟨gb223, 2, none⟩ = some (.int .i64 a1_2) ∧ w'.cell? ⟨gb223, 3, none⟩ = some (.int .i64 a1_3) ∧ w'.cell? ⟨gb223, 4, none⟩ = some (.int .i64 a1_4) ∧ w'.cell? (ad226.add (a1_2).toNat) = some (.int .i64 (rd l0 a1_2))) (ds := []) #[false, false, false, false, false, false, false, false, false] (by kernel_rfl) rfl rfl ⟨(Kc BK223.out 0).trans rfl, (Kc BK223.out 1).trans rfl, (Kc BK223.out 2).trans rfl, (Kc BK223.out 3).trans rfl, (Kc BK223.out 4).trans rfl, hx226_0⟩ (fun hHeld => ?_); refine with_tabW impl_apply.tab5 impl_apply.bits5 (fun HT_ HW_ => ?_)
        generalize w33.drew = w36 at HO0 BK223 BK224 HK HB hx226_0 hHeld ⊢
        refine pure_ (i := 0) (N := some 21) (v := ?_) (a' := ?_) #[true, false, false, false, false, false, false, false, false] rfl rfl (any_of HT_.out (by kernel_rfl)) (fun _ _ _ h => h) (Or.inl ⟨by rfl, ?_⟩) ?_ ?_
        rotate_left
        ·intro w'
         go_simp
         with_reducible rfl
        rotate_left
        ·simp only [Act.put, Lt, Lz, Ls, i64_w, i32_w]
         rfl
        refine pure_ (i := 1) (N := some 22) (v := ?_) (a' := ?_) #[true, true, false, false, false, false, false, false, false] rfl rfl (any_of HT_.out (by kernel_rfl)) (fun _ _ _ h => h) (Or.inl ⟨by rfl, ?_⟩) ?_ ?_
        rotate_left
        ·intro w'
         go_simp
         with_reducible rfl
        rotate_left
        ·simp only [Act.put, Lt, Lz, Ls, i64_w, i32_w]
         rfl
        refine pure_ (i := 5) (N := some 26) (v := ?_) (a' := ?_) #[true, true, false, false, false, true, false, false, false] rfl rfl (any_of HT_.out (by kernel_rfl)) (fun _ _ _ h => h) (Or.inl ⟨by rfl, ?_⟩) ?_ ?_
        rotate_left
        ·intro w'
         go_simp
         with_reducible rfl
        rotate_left
        ·simp only [Act.put, Lt, Lz, Ls, i64_w, i32_w]
         rfl
        refine take_ (i := 2) (N := some 23) (v := ?_) (a' := ?_) #[true, true, true, false, false, true, false, false, false] rfl rfl (take_ofW HT_.out HW_.out (by kernel_rfl)) (fun _ _ _ h => h) (Or.inl ⟨by rfl, ?_⟩) hHeld ?_ ?_
        rotate_left
        ·rintro w' ⟨s0, s1, s2, s3, s4, s5⟩
         go_simp
         with_reducible rfl
        rotate_left
        ·simp only [Act.put, Lt, Lz, Ls, i64_w, i32_w]
         rfl
        refine pure_ (i := 3) (N := some 24) (v := ?_) (a' := ?_) #[true, true, true, true, false, true, false, false, false] rfl rfl (any_of HT_.out (by kernel_rfl)) (fun _ _ _ h => h) (Or.inl ⟨by rfl, ?_⟩) ?_ ?_
        rotate_left
        ·intro w'
         go_simp
         with_reducible rfl
        rotate_left
        ·simp only [Act.put, Lt, Lz, Ls, i64_w, i32_w]
         rfl
        refine take_ (i := 4) (N := some 25) (v := ?_) (a' := ?_) #[true, true, true, true, true, true, false, false, false] rfl rfl (take_ofW HT_.out HW_.out (by kernel_rfl)) (fun _ _ _ h => h) (Or.inl ⟨by rfl, ?_⟩) hHeld ?_ ?_
        rotate_left
        ·rintro w' ⟨s0, s1, s2, s3, s4, s5⟩
         go_simp
         with_reducible rfl
        rotate_left
        ·simp only [Act.put, Lt, Lz, Ls, i64_w, i32_w]
         rfl
        refine take_ (i := 6) (N := some 27) (v := ?_) (a' := ?_) #[true, true, true, true, true, true, true, false, false] rfl rfl (take_ofW HT_.out HW_.out (by kernel_rfl)) (fun _ _ _ h => h) (Or.inl ⟨by rfl, ?_⟩) hHeld ?_ ?_
        rotate_left
        ·rintro w' ⟨s0, s1, s2, s3, s4, s5⟩
         go_simp
         with_reducible rfl
        rotate_left
        ·simp only [Act.put, Lt, Lz, Ls, i64_w, i32_w]
         rfl
        refine pure_ (i := 7) (N := some 28) (v := ?_) (a' := ?_) #[true, true, true, true, true, true, true, true, false] rfl rfl (any_of HT_.out (by kernel_rfl)) (fun _ _ _ h => h) (Or.inl ⟨by rfl, ?_⟩) ?_ ?_
        rotate_left
        ·intro w'
         go_simp
         with_reducible rfl
        rotate_left
        ·simp only [Act.put, Lt, Lz, Ls, i64_w, i32_w]
         rfl
        refine pure_ (i := 8) (N := some 20) (v := ?_) (a' := ?_) #[true, true, true, true, true, true, true, true, true] rfl rfl (any_of HT_.out (by kernel_rfl)) (fun _ _ _ h => h) (Or.inl ⟨by rfl, ?_⟩) ?_ ?_
        rotate_left
        ·intro w'
         go_simp
         with_reducible rfl
        rotate_left
        ·simp only [Act.put, Lt, Lz, Ls, i64_w, i32_w]
         rfl
        refine done_ (done_of HT_.out (by kernel_rfl)) ?_
        try go_wp2
        have n0_ := Am (Rd HO0.out)
        have n1_ := Am (Ke BK223.out)
        have n2_ := Am (Ke BK224.out)
        have n3_ := Am (Kept.drew HK.out)
        have n4_ := Am (Bd HB.out)
        clear HO0
        clear BK223
        clear BK224
        clear HK
        clear HB
        have HO0 := n0_
        have BK223 := n1_
        have BK224 := n2_
        have HK := n3_
        have HB := n4_
        clear n0_ n1_ n2_ n3_ n4_
        have p227 : 0 ≤ (a1_2 : Int) := of_decide_eq_true (by assumption)
        have q227 : a1_2 < (l0.length : Int) := of_decide_eq_true (by assumption)
        obtain ⟨ad227, e227, hx227_0⟩ := Kd.at_int (Kd.R_reads' HO0.out).2.2 a1_2 p227 q227
        obtain rfl : ad226 = ad227 := (by injection e227)
        replace p227 := eq_true p227
        replace q227 := eq_true q227
        have p28 : 0 ≤ (a1_2 : Int) := of_decide_eq_true (by assumption)
        have q28 : (a1_2 : Int) < ((l0.length : Int) : Int) := of_decide_eq_true (by assumption)
        obtain ⟨go28, co28, eo28, gb28, gl28, cl28, HG28⟩ := Kd.R_form HO0.out (by omega)
        (first | cases eo28 | (injection eo28 with ea_ en_ ec_; (first | subst ea_ | (injection ea_ with ea_; subst ea_)); subst ec_; clear en_))
        have GB28 := Am gb28
        have GG28 := Am HG28
        clear gb28 gl28 HG28
        have HMgo28 := Am (show (P0_ go28 ∨ w.heap.size ≤ go28) from (HO0.out.1 _ rfl))
        (first | simp only [add_plain] at hx226_0 | skip)
        (first | simp only [add_plain] at hx227_0 | skip)
        obtain ⟨hx28_0, hf28_0⟩ := Kd.R_celln 0 HO0.out (a1_2 : Int) p28 q28
        replace p28 := eq_true p28
        replace q28 := eq_true q28
        have HP39 := Kd.R_putn HO0.out (a1_2 : Int) (wrap64 ((rd l0 a1_2) - a1_4))
        rw [← Ny228.out] at HP39
        have HQ39 := Am HP39
        clear HP39
        refine start_ (n := 10) (S := fun w' => w'.cell? ⟨gb223, 0, none⟩ = some (.int .i64 a1_0) ∧ w'.cell? ⟨gb223, 1, none⟩ = some (.int .i64 a1_1) ∧ w'.cell? ⟨gb223, 2, none⟩ = some (.int .i64 a1_2) ∧ w'.cell? ⟨gb223, 3, none⟩ = some (.int .i64 a1_3) ∧ w'.cell? ⟨gb223, 4, none⟩ = some (.int .i64 a1_4) ∧ w'.cell? ⟨go28, (a1_2).toNat, none⟩ = some (.int .i64 (rd l0 a1_2))) (ds := [9]) #[false, false, false, false, false, false, false, false, false, false] (by kernel_rfl) rfl rfl ⟨(Kc BK223.out 0).trans rfl, (Kc BK223.out 1).trans rfl, (Kc BK223.out 2).trans rfl, (Kc BK223.out 3).trans rfl, (Kc BK223.out 4).trans rfl, hx227_0⟩ (fun hHeld => ?_); refine with_tabW impl_apply.tab7 impl_apply.bits7 (fun HT_ HW_ => ?_)
        generalize w36.drew = w38 at HO0 BK223 BK224 HK HB GG28 HQ39 hf28_0 hx226_0 hx227_0 hx28_0 hHeld ⊢
        refine pure_ (i := 0) (N := some 30) (v := ?_) (a' := ?_) #[true, false, false, false, false, false, false, false, false, false] rfl rfl (any_of HT_.out (by kernel_rfl)) (fun _ _ _ h => h) (Or.inl ⟨by rfl, ?_⟩) ?_ ?_
        rotate_left
        ·intro w'
         go_simp
         with_reducible rfl
        rotate_left
        ·simp only [Act.put, Lt, Lz, Ls, i64_w, i32_w]
         rfl
        refine pure_ (i := 1) (N := some 31) (v := ?_) (a' := ?_) #[true, true, false, false, false, false, false, false, false, false] rfl rfl (any_of HT_.out (by kernel_rfl)) (fun _ _ _ h => h) (Or.inl ⟨by rfl, ?_⟩) ?_ ?_
        rotate_left
        ·intro w'
         go_simp
         with_reducible rfl
        rotate_left
        ·simp only [Act.put, Lt, Lz, Ls, i64_w, i32_w]
         rfl
        refine pure_ (i := 5) (N := some 35) (v := ?_) (a' := ?_) #[true, true, false, false, false, true, false, false, false, false] rfl rfl (any_of HT_.out (by kernel_rfl)) (fun _ _ _ h => h) (Or.inl ⟨by rfl, ?_⟩) ?_ ?_
        rotate_left
        ·intro w'
         go_simp
         with_reducible rfl
        rotate_left
        ·simp only [Act.put, Lt, Lz, Ls, i64_w, i32_w]
         rfl
        refine take_ (i := 2) (N := some 32) (v := ?_) (a' := ?_) #[true, true, true, false, false, true, false, false, false, false] rfl rfl (take_ofW HT_.out HW_.out (by kernel_rfl)) (fun _ _ _ h => h) (Or.inl ⟨by rfl, ?_⟩) hHeld ?_ ?_
        rotate_left
        ·rintro w' ⟨s0, s1, s2, s3, s4, s5⟩
         go_simp
         with_reducible rfl
        rotate_left
        ·simp only [Act.put, Lt, Lz, Ls, i64_w, i32_w]
         rfl
        refine pure_ (i := 3) (N := some 33) (v := ?_) (a' := ?_) #[true, true, true, true, false, true, false, false, false, false] rfl rfl (any_of HT_.out (by kernel_rfl)) (fun _ _ _ h => h) (Or.inl ⟨by rfl, ?_⟩) ?_ ?_
        rotate_left
        ·intro w'
         go_simp
         with_reducible rfl
        rotate_left
        ·simp only [Act.put, Lt, Lz, Ls, i64_w, i32_w]
         rfl
        refine take_ (i := 4) (N := some 34) (v := ?_) (a' := ?_) #[true, true, true, true, true, true, false, false, false, false] rfl rfl (take_ofW HT_.out HW_.out (by kernel_rfl)) (fun _ _ _ h => h) (Or.inl ⟨by rfl, ?_⟩) hHeld ?_ ?_
        rotate_left
        ·rintro w' ⟨s0, s1, s2, s3, s4, s5⟩
         go_simp
         with_reducible rfl
        rotate_left
        ·simp only [Act.put, Lt, Lz, Ls, i64_w, i32_w]
         rfl
        refine take_ (i := 6) (N := some 36) (v := ?_) (a' := ?_) #[true, true, true, true, true, true, true, false, false, false] rfl rfl (take_ofW HT_.out HW_.out (by kernel_rfl)) (fun _ _ _ h => h) (Or.inl ⟨by rfl, ?_⟩) hHeld ?_ ?_
        rotate_left
        ·rintro w' ⟨s0, s1, s2, s3, s4, s5⟩
         go_simp
         with_reducible rfl
        rotate_left
        ·simp only [Act.put, Lt, Lz, Ls, i64_w, i32_w]
         rfl
        refine pure_ (i := 7) (N := some 37) (v := ?_) (a' := ?_) #[true, true, true, true, true, true, true, true, false, false] rfl rfl (any_of HT_.out (by kernel_rfl)) (fun _ _ _ h => h) (Or.inl ⟨by rfl, ?_⟩) ?_ ?_
        rotate_left
        ·intro w'
         go_simp
         with_reducible rfl
        rotate_left
        ·simp only [Act.put, Lt, Lz, Ls, i64_w, i32_w]
         rfl
        refine pure_ (i := 8) (N := some 38) (v := ?_) (a' := ?_) #[true, true, true, true, true, true, true, true, true, false] rfl rfl (any_of HT_.out (by kernel_rfl)) (fun _ _ _ h => h) (Or.inl ⟨by rfl, ?_⟩) ?_ ?_
        rotate_left
        ·intro w'
         go_simp
         with_reducible rfl
        rotate_left
        ·simp only [Act.put, Lt, Lz, Ls, i64_w, i32_w]
         rfl
        refine last_ (i := 9) (N := none) #[true, true, true, true, true, true, true, true, true, true] rfl rfl (one_of HT_.out (by kernel_rfl)) (by decide) (fun K hK => ?_)
        refine skip_ (w1 := ?_) (by rfl) rfl ?_ ?_
        rotate_left
        ·go_simp
         rfl
        refine hK.out _ _ ?_
        clear hK K
        refine done_ (done_of HT_.out (by kernel_rfl)) ?_
        have n0_ : Ad (Kd.R (Kd.int .i64) 3 (w38.setCell ⟨go28, (a1_2 : Int).toNat, none⟩ (.int .i64 (wrap64 ((rd l0 a1_2) - a1_4)))) w0.heap.size (fun k_ => (P0_ k_ ∨ w.heap.size ≤ k_)) (.slice (some ⟨go28, 0, none⟩) l0.length co37) y228) := ⟨by (with_reducible repeat (first | apply Ra | apply Rn | apply Rd)); exact HQ39.out⟩
        have n1_ : Ad ((w38.setCell ⟨go28, (a1_2 : Int).toNat, none⟩ (.int .i64 (wrap64 ((rd l0 a1_2) - a1_4)))).heap[gb223]? = some (.cells #[.int .i64 a1_0, .int .i64 a1_1, .int .i64 a1_2, .int .i64 a1_3, .int .i64 a1_4] 26 (0, 0))) := ⟨by (with_reducible repeat (first | refine Kn ?_ _ | refine Ke ?_ | refine Ka ?_ _)); refine Kf ?_ (by have h_ := Kd.R_ne HO0.out BK223.out (by decide); intro e_; exact h_ (by rw [e_]; rfl)) _; (with_reducible repeat (first | refine Kn ?_ _ | refine Ke ?_ | refine Ka ?_ _)); exact BK223.out⟩
        have n2_ : Ad ((w38.setCell ⟨go28, (a1_2 : Int).toNat, none⟩ (.int .i64 (wrap64 ((rd l0 a1_2) - a1_4)))).heap[gb224]? = some (.cells #[.int .i64 0, .int .i64 0] 30 (0, 0))) := ⟨by (with_reducible repeat (first | refine Kn ?_ _ | refine Ke ?_ | refine Ka ?_ _)); refine Kf ?_ (by have h_ := Kd.R_ne HO0.out BK224.out (by decide); intro e_; exact h_ (by rw [e_]; rfl)) _; (with_reducible repeat (first | refine Kn ?_ _ | refine Ke ?_ | refine Ka ?_ _)); exact BK224.out⟩
        have n3_ : Ad (Kept w (w38.setCell ⟨go28, (a1_2 : Int).toNat, none⟩ (.int .i64 (wrap64 ((rd l0 a1_2) - a1_4)))) (fun k_ => P0_ k_)) := ⟨by repeat (first | (with_reducible first | exact HK.out | apply Kept.alloc | apply Kept.drewN | apply Kept.drew | refine Kept.setCell ?_ HMgo28.out _ | refine Kept.setCell ?_ (.inr GW223.out) _ | refine Kept.setCell ?_ (.inr GW224.out) _) | exact HK.out)⟩
        have n4_ : Ad (Below w0.heap.size w0 (w38.setCell ⟨go28, (a1_2 : Int).toNat, none⟩ (.int .i64 (wrap64 ((rd l0 a1_2) - a1_4))))) := ⟨by repeat (first | (with_reducible first | exact HB.out | apply Ba | apply Bn | apply Bd | refine Bs ?_ GB28.out | refine Bs ?_ GE223.out | refine Bs ?_ GE224.out) | exact HB.out)⟩
        (try clear HO0)
        (try clear BK223)
        (try clear BK224)
        (try clear HK)
        (try clear HB)
        generalize (w38.setCell ⟨go28, (a1_2 : Int).toNat, none⟩ (.int .i64 (wrap64 ((rd l0 a1_2) - a1_4)))) = w40 at n0_ n1_ n2_ n3_ n4_ ⊢
        have HO0 := n0_
        have BK223 := n1_
        have BK224 := n2_
        have HK := n3_
        have HB := n4_
        clear n0_ n1_ n2_ n3_ n4_
        try go_wp2
        have n0_ := Am (Rd HO0.out)
        have n1_ := Am (Ke BK223.out)
        have n2_ := Am (Ke BK224.out)
        have n3_ := Am (Kept.drew HK.out)
        have n4_ := Am (Bd HB.out)
        clear HO0
        clear BK223
        clear BK224
        clear HK
        clear HB
        have HO0 := n0_
        have BK223 := n1_
        have BK224 := n2_
        have HK := n3_
        have HB := n4_
        clear n0_ n1_ n2_ n3_ n4_
        have p229 : 0 ≤ (a1_3 : Int) := of_decide_eq_true (by assumption)
        have q229 : a1_3 < (y228.length : Int) := (by have h_ : (a1_3 : Int) < ((l0.length : Int) : Int) := of_decide_eq_true (by assumption); first | (have e_ := (Kd.R_reads' HO0.out).1; omega) | simpa only [Ny228.out, List.length_set] using h_)
        have ql229 : ((a1_3 : Int) < ((l0.length : Int) : Int)) = True := eq_true (of_decide_eq_true (by assumption))
        obtain ⟨ad229, e229, hx229_0⟩ := Kd.at_int (Kd.R_reads' HO0.out).2.2 a1_3 p229 q229
        obtain rfl : (⟨go28, 0, none⟩ : Addr) = ad229 := (by injection e229)
        (first | simp only [add_plain] at hx229_0 | simp only [add_at] at hx229_0 | simp only [Addr.add, Nat.zero_add] at hx229_0 | skip)
        replace p229 := eq_true p229
        replace q229 := eq_true q229
        have p31 : 0 ≤ (a1_3 : Int) := of_decide_eq_true (by assumption)
        have q31 : (a1_3 : Int) < ((l0.length : Int) : Int) := of_decide_eq_true (by assumption)
        obtain ⟨hx31_0, hf31_0⟩ := Kd.R_celln 0 HO0.out (a1_3 : Int) p31 q31
        replace p31 := eq_true p31
        replace q31 := eq_true q31
        have HP42 := Kd.R_putn HO0.out (a1_3 : Int) (wrap64 ((rd y228 a1_3) + a1_4))
        rw [← Ny230.out] at HP42
        have HQ42 := Am HP42
        clear HP42
        refine start_ (n := 10) (S := fun w' => w'.cell? ⟨gb223, 0, none⟩ = some (.int .i64 a1_0) ∧ w'.cell? ⟨gb223, 1, none⟩ = some (.int .i64 a1_1) ∧ w'.cell? ⟨gb223, 2, none⟩ = some (.int .i64 a1_2) ∧ w'.cell? ⟨gb223, 3, none⟩ = some (.int .i64 a1_3) ∧ w'.cell? ⟨gb223, 4, none⟩ = some (.int .i64 a1_4) ∧ w'.cell? ⟨go28, (a1_3).toNat, none⟩ = some (.int .i64 (rd y228 a1_3))) (ds := [9]) #[false, false, false, false, false, false, false, false, false, false] (by kernel_rfl) rfl rfl ⟨(Kc BK223.out 0).trans rfl, (Kc BK223.out 1).trans rfl, (Kc BK223.out 2).trans rfl, (Kc BK223.out 3).trans rfl, (Kc BK223.out 4).trans rfl, hx229_0⟩ (fun hHeld => ?_); refine with_tabW impl_apply.tab8 impl_apply.bits8 (fun HT_ HW_ => ?_)
        generalize w40.drew = w41 at HO0 BK223 BK224 HK HB HQ42 hf31_0 hx229_0 hx31_0 hHeld ⊢
        refine pure_ (i := 0) (N := some 39) (v := ?_) (a' := ?_) #[true, false, false, false, false, false, false, false, false, false] rfl rfl (any_of HT_.out (by kernel_rfl)) (fun _ _ _ h => h) (Or.inl ⟨by rfl, ?_⟩) ?_ ?_
        rotate_left
        ·intro w'
         go_simp
         with_reducible rfl
        rotate_left
        ·simp only [Act.put, Lt, Lz, Ls, i64_w, i32_w]
         rfl
        refine pure_ (i := 1) (N := some 40) (v := ?_) (a' := ?_) #[true, true, false, false, false, false, false, false, false, false] rfl rfl (any_of HT_.out (by kernel_rfl)) (fun _ _ _ h => h) (Or.inl ⟨by rfl, ?_⟩) ?_ ?_
        rotate_left
        ·intro w'
         go_simp
         with_reducible rfl
        rotate_left
        ·simp only [Act.put, Lt, Lz, Ls, i64_w, i32_w]
         rfl
        refine pure_ (i := 5) (N := some 44) (v := ?_) (a' := ?_) #[true, true, false, false, false, true, false, false, false, false] rfl rfl (any_of HT_.out (by kernel_rfl)) (fun _ _ _ h => h) (Or.inl ⟨by rfl, ?_⟩) ?_ ?_
        rotate_left
        ·intro w'
         go_simp
         with_reducible rfl
        rotate_left
        ·simp only [Act.put, Lt, Lz, Ls, i64_w, i32_w]
         rfl
        refine take_ (i := 2) (N := some 41) (v := ?_) (a' := ?_) #[true, true, true, false, false, true, false, false, false, false] rfl rfl (take_ofW HT_.out HW_.out (by kernel_rfl)) (fun _ _ _ h => h) (Or.inl ⟨by rfl, ?_⟩) hHeld ?_ ?_
        rotate_left
        ·rintro w' ⟨s0, s1, s2, s3, s4, s5⟩
         go_simp
         with_reducible rfl
        rotate_left
        ·simp only [Act.put, Lt, Lz, Ls, i64_w, i32_w]
         rfl
        refine pure_ (i := 3) (N := some 42) (v := ?_) (a' := ?_) #[true, true, true, true, false, true, false, false, false, false] rfl rfl (any_of HT_.out (by kernel_rfl)) (fun _ _ _ h => h) (Or.inl ⟨by rfl, ?_⟩) ?_ ?_
        rotate_left
        ·intro w'
         go_simp
         with_reducible rfl
        rotate_left
        ·simp only [Act.put, Lt, Lz, Ls, i64_w, i32_w]
         rfl
        refine take_ (i := 4) (N := some 43) (v := ?_) (a' := ?_) #[true, true, true, true, true, true, false, false, false, false] rfl rfl (take_ofW HT_.out HW_.out (by kernel_rfl)) (fun _ _ _ h => h) (Or.inl ⟨by rfl, ?_⟩) hHeld ?_ ?_
        rotate_left
        ·rintro w' ⟨s0, s1, s2, s3, s4, s5⟩
         go_simp
         with_reducible rfl
        rotate_left
        ·simp only [Act.put, Lt, Lz, Ls, i64_w, i32_w]
         rfl
        refine take_ (i := 6) (N := some 45) (v := ?_) (a' := ?_) #[true, true, true, true, true, true, true, false, false, false] rfl rfl (take_ofW HT_.out HW_.out (by kernel_rfl)) (fun _ _ _ h => h) (Or.inl ⟨by rfl, ?_⟩) hHeld ?_ ?_
        rotate_left
        ·rintro w' ⟨s0, s1, s2, s3, s4, s5⟩
         go_simp
         with_reducible rfl
        rotate_left
        ·simp only [Act.put, Lt, Lz, Ls, i64_w, i32_w]
         rfl
        refine pure_ (i := 7) (N := some 46) (v := ?_) (a' := ?_) #[true, true, true, true, true, true, true, true, false, false] rfl rfl (any_of HT_.out (by kernel_rfl)) (fun _ _ _ h => h) (Or.inl ⟨by rfl, ?_⟩) ?_ ?_
        rotate_left
        ·intro w'
         go_simp
         with_reducible rfl
        rotate_left
        ·simp only [Act.put, Lt, Lz, Ls, i64_w, i32_w]
         rfl
        refine pure_ (i := 8) (N := some 47) (v := ?_) (a' := ?_) #[true, true, true, true, true, true, true, true, true, false] rfl rfl (any_of HT_.out (by kernel_rfl)) (fun _ _ _ h => h) (Or.inl ⟨by rfl, ?_⟩) ?_ ?_
        rotate_left
        ·intro w'
         go_simp
         with_reducible rfl
        rotate_left
        ·simp only [Act.put, Lt, Lz, Ls, i64_w, i32_w]
         rfl
        refine last_ (i := 9) (N := none) #[true, true, true, true, true, true, true, true, true, true] rfl rfl (one_of HT_.out (by kernel_rfl)) (by decide) (fun K hK => ?_)
        refine skip_ (w1 := ?_) (by rfl) rfl ?_ ?_
        rotate_left
        ·go_simp
         rfl
        refine hK.out _ _ ?_
        clear hK K
        refine done_ (done_of HT_.out (by kernel_rfl)) ?_
        have n0_ : Ad (Kd.R (Kd.int .i64) 3 (w41.setCell ⟨go28, (a1_3 : Int).toNat, none⟩ (.int .i64 (wrap64 ((rd y228 a1_3) + a1_4)))) w0.heap.size (fun k_ => (P0_ k_ ∨ w.heap.size ≤ k_)) (.slice (some ⟨go28, 0, none⟩) l0.length co37) y230) := ⟨by (with_reducible repeat (first | apply Ra | apply Rn | apply Rd)); exact HQ42.out⟩
        have n1_ : Ad ((w41.setCell ⟨go28, (a1_3 : Int).toNat, none⟩ (.int .i64 (wrap64 ((rd y228 a1_3) + a1_4)))).heap[gb223]? = some (.cells #[.int .i64 a1_0, .int .i64 a1_1, .int .i64 a1_2, .int .i64 a1_3, .int .i64 a1_4] 26 (0, 0))) := ⟨by (with_reducible repeat (first | refine Kn ?_ _ | refine Ke ?_ | refine Ka ?_ _)); refine Kf ?_ (by have h_ := Kd.R_ne HO0.out BK223.out (by decide); intro e_; exact h_ (by rw [e_]; rfl)) _; (with_reducible repeat (first | refine Kn ?_ _ | refine Ke ?_ | refine Ka ?_ _)); exact BK223.out⟩
        have n2_ : Ad ((w41.setCell ⟨go28, (a1_3 : Int).toNat, none⟩ (.int .i64 (wrap64 ((rd y228 a1_3) + a1_4)))).heap[gb224]? = some (.cells #[.int .i64 0, .int .i64 0] 30 (0, 0))) := ⟨by (with_reducible repeat (first | refine Kn ?_ _ | refine Ke ?_ | refine Ka ?_ _)); refine Kf ?_ (by have h_ := Kd.R_ne HO0.out BK224.out (by decide); intro e_; exact h_ (by rw [e_]; rfl)) _; (with_reducible repeat (first | refine Kn ?_ _ | refine Ke ?_ | refine Ka ?_ _)); exact BK224.out⟩
        have n3_ : Ad (Kept w (w41.setCell ⟨go28, (a1_3 : Int).toNat, none⟩ (.int .i64 (wrap64 ((rd y228 a1_3) + a1_4)))) (fun k_ => P0_ k_)) := ⟨by repeat (first | (with_reducible first | exact HK.out | apply Kept.alloc | apply Kept.drewN | apply Kept.drew | refine Kept.setCell ?_ HMgo28.out _ | refine Kept.setCell ?_ (.inr GW223.out) _ | refine Kept.setCell ?_ (.inr GW224.out) _) | exact HK.out)⟩
        have n4_ : Ad (Below w0.heap.size w0 (w41.setCell ⟨go28, (a1_3 : Int).toNat, none⟩ (.int .i64 (wrap64 ((rd y228 a1_3) + a1_4))))) := ⟨by repeat (first | (with_reducible first | exact HB.out | apply Ba | apply Bn | apply Bd | refine Bs ?_ GB28.out | refine Bs ?_ GE223.out | refine Bs ?_ GE224.out) | exact HB.out)⟩
        (try clear HO0)
        (try clear BK223)
        (try clear BK224)
        (try clear HK)
        (try clear HB)
        generalize (w41.setCell ⟨go28, (a1_3 : Int).toNat, none⟩ (.int .i64 (wrap64 ((rd y228 a1_3) + a1_4)))) = w43 at n0_ n1_ n2_ n3_ n4_ ⊢
        have HO0 := n0_
        have BK223 := n1_
        have BK224 := n2_
        have HK := n3_
        have HB := n4_
        clear n0_ n1_ n2_ n3_ n4_
        have hcz44_0 : w43.cell? ⟨gb224, 0, none⟩ = some (.int .i64 0) := (Kc BK224.out 0).trans rfl
        have hcz44_1 : w43.cell? ⟨gb224, 1, none⟩ = some (.int .i64 0) := (Kc BK224.out 1).trans rfl
        have hfz44_0 := Kz BK224.out 0
        have hfz44_1 := Kz BK224.out 1
        try go_wp2
        refine bodyPost_ret (results_cell_row rfl _ _ gb224 30 #[.int .i64 1, .int .i64 0] (0, 0) _ rfl (by (with_reducible repeat (first | refine Kn ?_ _ | refine Ke ?_ | refine Ka ?_ _)); refine blk_put (cs := #[.int .i64 1, .int .i64 0]) ?_ 1 _ rfl; (with_reducible repeat (first | refine Kn ?_ _ | refine Ke ?_ | refine Ka ?_ _)); refine blk_put (cs := #[.int .i64 0, .int .i64 0]) ?_ 0 _ rfl; (with_reducible repeat (first | refine Kn ?_ _ | refine Ke ?_ | refine Ka ?_ _)); exact BK224.out) Try.underlying30 rfl (by kernel_rfl)) rfl ?_
        exact ⟨by first | rfl | (simp [*, errW_none, errW_some] <;> rfl), by (with_reducible repeat (first | apply Ra | apply Rn | apply Rd)); exact Kd.R_mono (Kd.R_far (p := ⟨gb224, 1, none⟩) (Kd.R_far (p := ⟨gb224, 0, none⟩) (Kd.R_types HO0.out BK224.out (by decide)) (fun _ hk => hk.2) (.int .i64 1)) (fun _ hk => hk.2) (.int .i64 0)) (fun _ hk => hk.1), by repeat (first | (with_reducible first | exact HB.out | apply Ba | apply Bn | apply Bd | refine Bs ?_ GE223.out | refine Bs ?_ GE224.out) | exact HB.out), by repeat (first | (with_reducible first | exact HK.out | apply Kept.alloc | apply Kept.drewN | apply Kept.drew | refine Kept.setCell ?_ (.inr GW223.out) _ | refine Kept.setCell ?_ (.inr GW224.out) _) | exact HK.out)⟩
       ·rw [if_neg c30] at H
        exact absurd H (by simp)
      ·rw [if_neg c29] at H
       exact absurd H (by simp)
    ·rw [if_neg c19] at H
     exact absurd H (by simp)
   ·rw [if_neg c18] at H
    exact absurd H (by simp)
def impl_ApplyCmd.j0 : Nat → List Int → Bool → Int → Int → Int → Int → Int → Option (List Int × Int × Int × Bool)
 | 0, _, _, _, _, _, _, _ => none
 | k + 1, x0, x16, x232000, x232001, x232002, x232003, x232004 => if x16 = true then (some (([] : List Int), 0, 0, false)) else ((slices_Clone_int_int.f x0).bind fun t235 => ((impl_apply.f t235 x232000 x232001 x232002 x232003 x232004).bind fun bt238 => (some (bt238.2.2, bt238.1, bt238.2.1, true))))
def impl_ApplyCmd.f (k : Nat) (l0 : List Int) (a1_0 : Int) (a1_1 : Int) (a1_2 : Int) (a1_3 : Int) (a1_4 : Int) : Option (List Int × Int × Int × Bool) := (impl_GoodSums.f k l0).bind fun t233 => (if t233 = true then ((impl_GoodCmd.f a1_0 a1_1 a1_2 a1_3 a1_4).bind fun t234 => (impl_ApplyCmd.j0 k l0 (!t234) a1_0 a1_1 a1_2 a1_3 a1_4)) else (impl_ApplyCmd.j0 k l0 true a1_0 a1_1 a1_2 a1_3 a1_4))
theorem impl_ApplyCmd.mono_l : ∀ k, (∀ y0 y1 y2 y3 y4 y5 y6, LeO (impl_ApplyCmd.j0 k y0 y1 y2 y3 y4 y5 y6) (impl_ApplyCmd.j0 (k + 1) y0 y1 y2 y3 y4 y5 y6))
 | 0 => fun _ _ _ _ _ _ _ r h => by simp [impl_ApplyCmd.j0] at h
 | k + 1 => by
  have ih0 := impl_ApplyCmd.mono_l k
  ·intro y0 y1 y2 y3 y4 y5 y6
   unfold impl_ApplyCmd.j0
   repeat' first
   | (with_reducible exact ih0 _ _ _ _ _ _ _)
   | (with_reducible exact impl_GoodSums.mono _ _)
   | (with_reducible exact LeO.refl _)
   | (with_reducible exact LeO.none _)
   | (with_reducible refine LeO.ite ?_ ?_)
   | (with_reducible refine LeO.bind ?_ (fun _ => ?_))
   | exact ih0 _ _ _ _ _ _ _
   | exact impl_GoodSums.mono _ _
   | exact LeO.none _
   | refine LeO.ite ?_ ?_
   | refine LeO.bind ?_ (fun _ => ?_)
theorem impl_ApplyCmd.mono : ∀ a0 a1 a2 a3 a4 a5 k, LeO (impl_ApplyCmd.f k a0 a1 a2 a3 a4 a5) (impl_ApplyCmd.f (k + 1) a0 a1 a2 a3 a4 a5) := by
 intro a0 a1 a2 a3 a4 a5 k
 have ih0 := impl_ApplyCmd.mono_l k
 unfold impl_ApplyCmd.f
 repeat' first
   | (with_reducible exact ih0 _ _ _ _ _ _ _)
   | (with_reducible exact impl_GoodSums.mono _ _)
   | (with_reducible exact LeO.refl _)
   | (with_reducible exact LeO.none _)
   | (with_reducible refine LeO.ite ?_ ?_)
   | (with_reducible refine LeO.bind ?_ (fun _ => ?_))
   | exact ih0 _ _ _ _ _ _ _
   | exact impl_GoodSums.mono _ _
   | exact LeO.none _
   | refine LeO.ite ?_ ?_
   | refine LeO.bind ?_ (fun _ => ?_)
set_option maxHeartbeats 8000000 in
set_option maxRecDepth 100000 in
theorem impl_ApplyCmd.calls (k : Nat) (A0 : Option Addr) (c0 : Nat) (l0 : List Int) (a1_0 : Int) (a1_1 : Int) (a1_2 : Int) (a1_3 : Int) (a1_4 : Int) (r1 : List Int) (r2 : Int) (r3 : Int) (r4 : Bool) (w : World) (hr0 : Kd.C (Kd.int .i64) w A0 l0.length l0) (hc0 : l0.length ≤ c0) (h : impl_ApplyCmd.f k l0 a1_0 a1_1 a1_2 a1_3 a1_4 = some (r1, r2, r3, r4)) :
  Calls Try.prog 13 #[.slice A0 l0.length c0, .agg #[.int .i64 a1_0, .int .i64 a1_1, .int .i64 a1_2, .int .i64 a1_3, .int .i64 a1_4]] w fun e w' => ∃ v0_ : Value, e = .returned (.tuple #[v0_, .agg #[.int .i64 r2, .int .i64 r3], .bool r4]) ∧ Kd.R (Kd.int .i64) 3 w' w.heap.size (fun _ => True) v0_ r1 ∧ Below w.heap.size w w' := by
 have hu26 := Try.underlying26
 have hu30 := Try.underlying30
 have HR0 := Am hr0
 have HC0 := Am hc0
 clear hr0 hc0
 have HB := Am (Below.refl w.heap.size w)
 have H : ((impl_GoodSums.f k l0).bind fun t233 => (if t233 = true then ((impl_GoodCmd.f a1_0 a1_1 a1_2 a1_3 a1_4).bind fun t234 => (impl_ApplyCmd.j0 k l0 (!t234) a1_0 a1_1 a1_2 a1_3 a1_4)) else (impl_ApplyCmd.j0 k l0 true a1_0 a1_1 a1_2 a1_3 a1_4))) = some (r1, r2, r3, r4) := h
 clear h
 have HC3 := Am H
 clear H
 go_enter Try.func13, Try.ntmps13
 go_upto_region 1 with (first | ((refine Gd (N := 3) rfl ?_); refine Be ?hg (N := 3) ?hd (cs := #[.int .i64 a1_0, .int .i64 a1_1, .int .i64 a1_2, .int .i64 a1_3, .int .i64 a1_4]) (t := 26) ?hr ?_; (case hd | hg => rfl); (case hr => first | (go_simp; done) | (go_simp; rfl)); intro gb231 hg w4 hbox hb; have n0_ := Am (Bt (by repeat (first | exact HB.out | apply Ba | apply Bn | apply Bd)) hb); have n1_ := Am (hbox); have n2_ := Am ((by rw [hg]; exact (Bz (by repeat (first | exact HB.out | apply Ba | apply Bn | apply Bd))) : w.heap.size ≤ gb231)); have n3_ := Am ((by rw [hg]; exact (Bz (by repeat (first | exact HB.out | apply Ba | apply Bn | apply Bd))) : w.heap.size ≤ gb231)); clear HB; have HB := n0_; have BK231 := n1_; have GW231 := n2_; have GE231 := n3_; clear n0_ n1_ n2_ n3_; clear hb hbox hg) | ((refine Gd (N := 5) rfl ?_); refine Be ?hg (N := 5) ?hd (cs := #[.int .i64 0, .int .i64 0]) (t := 30) ?hr ?_; (case hd | hg => rfl); (case hr => first | (go_simp; done) | (go_simp; rfl)); intro gb232 hg w5 hbox hb; have n0_ := Am (Kb (g := gb231) (o := .cells #[.int .i64 a1_0, .int .i64 a1_1, .int .i64 a1_2, .int .i64 a1_3, .int .i64 a1_4] 26 (0, 0)) (by (with_reducible repeat (first | refine Kn ?_ _ | refine Ke ?_ | refine Ka ?_ _)); exact BK231.out) hb); have n1_ := Am (Bt (by repeat (first | (with_reducible first | exact HB.out | apply Ba | apply Bn | apply Bd | refine Bs ?_ GE231.out) | exact HB.out)) hb); have n2_ := Am (hbox); have n3_ := Am ((by rw [hg]; exact (Bz (by repeat (first | (with_reducible first | exact HB.out | apply Ba | apply Bn | apply Bd | refine Bs ?_ GE231.out) | exact HB.out))) : w.heap.size ≤ gb232)); have n4_ := Am ((by rw [hg]; exact (Bz (by repeat (first | (with_reducible first | exact HB.out | apply Ba | apply Bn | apply Bd | refine Bs ?_ GE231.out) | exact HB.out))) : w.heap.size ≤ gb232)); have n5_ := Am ((by rw [hg]; exact Nat.ne_of_lt (blk_lt (g := gb231) (o := .cells #[.int .i64 a1_0, .int .i64 a1_1, .int .i64 a1_2, .int .i64 a1_3, .int .i64 a1_4] 26 (0, 0)) (by (with_reducible repeat (first | refine Kn ?_ _ | refine Ke ?_ | refine Ka ?_ _)); exact BK231.out)) : gb231 ≠ gb232)); have n6_ := Am ((by rw [hg]; exact Nat.ne_of_gt (blk_lt (g := gb231) (o := .cells #[.int .i64 a1_0, .int .i64 a1_1, .int .i64 a1_2, .int .i64 a1_3, .int .i64 a1_4] 26 (0, 0)) (by (with_reducible repeat (first | refine Kn ?_ _ | refine Ke ?_ | refine Ka ?_ _)); exact BK231.out)) : gb232 ≠ gb231)); clear BK231; clear HB; have BK231 := n0_; have HB := n1_; have BK232 := n2_; have GW232 := n3_; have GE232 := n4_; have NB231_232 := n5_; have NB232_231 := n6_; clear n0_ n1_ n2_ n3_ n4_ n5_ n6_; clear hb hbox hg))
 (try simp only [Act.put, Lt, Lz, Ls])
 go_cut [16] (fun v16 wc => ∃ (kq : Nat) (x16_2 : Bool), v16 = .bool x16_2 ∧ Ad (impl_ApplyCmd.j0 kq l0 x16_2 a1_0 a1_1 a1_2 a1_3 a1_4 = some (r1, r2, r3, r4)) ∧ Ad (kq ≤ k) ∧ Ad (wc.heap[gb231]? = some (.cells #[.int .i64 a1_0, .int .i64 a1_1, .int .i64 a1_2, .int .i64 a1_3, .int .i64 a1_4] 26 (0, 0))) ∧ Ad (wc.heap[gb232]? = some (.cells #[.int .i64 0, .int .i64 0] 30 (0, 0))) ∧ Ad (Below w.heap.size w wc))
 case first =>
  have H := HC3.out
  clear HC3
  replace H := Option.bind_eq_some_iff.mp H
  obtain ⟨t233, A60, H⟩ := H
  replace H : (if t233 = true then ((impl_GoodCmd.f a1_0 a1_1 a1_2 a1_3 a1_4).bind fun t234 => (impl_ApplyCmd.j0 k l0 (!t234) a1_0 a1_1 a1_2 a1_3 a1_4)) else (impl_ApplyCmd.j0 k l0 true a1_0 a1_1 a1_2 a1_3 a1_4)) = some (r1, r2, r3, r4) := H
  have A6 := Am A60
  clear A60
  by_cases c7 : t233 = true
  ·subst c7
   have H1 : ((impl_GoodCmd.f a1_0 a1_1 a1_2 a1_3 a1_4).bind fun t234 => (impl_ApplyCmd.j0 k l0 (!t234) a1_0 a1_1 a1_2 a1_3 a1_4)) = some (r1, r2, r3, r4) := by rw [if_pos rfl] at H; exact H
   clear H
   have H := H1
   clear H1
   replace H := Option.bind_eq_some_iff.mp H
   obtain ⟨t234, A80, H⟩ := H
   replace H : (impl_ApplyCmd.j0 k l0 (!t234) a1_0 a1_1 a1_2 a1_3 a1_4) = some (r1, r2, r3, r4) := H
   have A8 := Am A80
   clear A80
   have H' := Am H
   clear H
   go_wp2_with (first | ((refine Gc (f := 16) rfl ?_); refine goesL_ (some 10) rfl rfl Try.func16 (by kernel_rfl) rfl #[.slice A0 l0.length c0] rfl (by first | rfl | (simp only [List.map_toArray, List.map_cons, List.map_nil]; first | done | rfl)) ?_; (with_reducible refine (impl_GoodSums.calls k _ _ l0 true _ ?side1 ?side2 A6.out).mono ?_); (case side1 => repeat (first | exact (Kd.C_below HR0.out HB.out) | (with_reducible refine Kd.C_alloc ?_ _) | (with_reducible refine Kd.C_drewN ?_ _) | (with_reducible refine Kd.C_drew ?_))); (case side2 => exact HC0.out); rintro e w9 ⟨rfl, hb⟩; refine ⟨_, rfl, ?_⟩; have n0_ := Am (Kb (g := gb231) (o := .cells #[.int .i64 a1_0, .int .i64 a1_1, .int .i64 a1_2, .int .i64 a1_3, .int .i64 a1_4] 26 (0, 0)) (by (with_reducible repeat (first | refine Kn ?_ _ | refine Ke ?_ | refine Ka ?_ _)); exact BK231.out) hb); have n1_ := Am (Kb (g := gb232) (o := .cells #[.int .i64 0, .int .i64 0] 30 (0, 0)) (by (with_reducible repeat (first | refine Kn ?_ _ | refine Ke ?_ | refine Ka ?_ _)); exact BK232.out) hb); have n2_ := Am (Bt (by repeat (first | (with_reducible first | exact HB.out | apply Ba | apply Bn | apply Bd | refine Bs ?_ GE231.out | refine Bs ?_ GE232.out) | exact HB.out)) hb); clear BK231; clear BK232; clear HB; have BK231 := n0_; have BK232 := n1_; have HB := n2_; clear n0_ n1_ n2_; (try clear hb); (try clear hb2); (try clear hk); (try clear hi); have hnb10 := NB231_232.out; have hnc10 := NB232_231.out; have hcz11_0 : w9.cell? ⟨gb231, 0, none⟩ = some (.int .i64 a1_0) := (Kc BK231.out 0).trans rfl; have hcz11_1 : w9.cell? ⟨gb231, 1, none⟩ = some (.int .i64 a1_1) := (Kc BK231.out 1).trans rfl; have hcz11_2 : w9.cell? ⟨gb231, 2, none⟩ = some (.int .i64 a1_2) := (Kc BK231.out 2).trans rfl; have hcz11_3 : w9.cell? ⟨gb231, 3, none⟩ = some (.int .i64 a1_3) := (Kc BK231.out 3).trans rfl; have hcz11_4 : w9.cell? ⟨gb231, 4, none⟩ = some (.int .i64 a1_4) := (Kc BK231.out 4).trans rfl; have hfz11_0 := Kz BK231.out 0; have hfz11_1 := Kz BK231.out 1; have hfz11_2 := Kz BK231.out 2; have hfz11_3 := Kz BK231.out 3; have hfz11_4 := Kz BK231.out 4) | (go_at_call 69; (with_reducible refine (impl_GoodCmd.calls a1_0 a1_1 a1_2 a1_3 a1_4 t234 _ A8.out).mono ?_); rintro e w12 ⟨rfl, hb⟩; have n0_ := Am (Kb (g := gb231) (o := .cells #[.int .i64 a1_0, .int .i64 a1_1, .int .i64 a1_2, .int .i64 a1_3, .int .i64 a1_4] 26 (0, 0)) (by (with_reducible repeat (first | refine Kn ?_ _ | refine Ke ?_ | refine Ka ?_ _)); exact BK231.out) hb); have n1_ := Am (Kb (g := gb232) (o := .cells #[.int .i64 0, .int .i64 0] 30 (0, 0)) (by (with_reducible repeat (first | refine Kn ?_ _ | refine Ke ?_ | refine Ka ?_ _)); exact BK232.out) hb); have n2_ := Am (Bt (by repeat (first | (with_reducible first | exact HB.out | apply Ba | apply Bn | apply Bd | refine Bs ?_ GE231.out | refine Bs ?_ GE232.out) | exact HB.out)) hb); clear BK231; clear BK232; clear HB; have BK231 := n0_; have BK232 := n1_; have HB := n2_; clear n0_ n1_ n2_; (try clear hb); (try clear hb2); (try clear hk); (try clear hi)))
   go_meet
   case rel => exact ⟨_, (!t234), (by first | rfl | (simp; done) | (simp [*]; done)), H', ⟨by first | omega | exact Nat.le_refl _⟩, ⟨by (with_reducible repeat (first | refine Kn ?_ _ | refine Ke ?_ | refine Ka ?_ _)); exact BK231.out⟩, ⟨by (with_reducible repeat (first | refine Kn ?_ _ | refine Ke ?_ | refine Ka ?_ _)); exact BK232.out⟩, ⟨by repeat (first | (with_reducible first | exact HB.out | apply Ba | apply Bn | apply Bd | refine Bs ?_ GE231.out | refine Bs ?_ GE232.out) | exact HB.out)⟩⟩
  ·replace c7 := Bool.eq_false_iff.mpr c7
   subst c7
   have H1 : (impl_ApplyCmd.j0 k l0 true a1_0 a1_1 a1_2 a1_3 a1_4) = some (r1, r2, r3, r4) := by rw [if_neg (show ¬ (false = true) by decide)] at H; exact H
   clear H
   have H := H1
   clear H1
   have H' := Am H
   clear H
   go_wp2_with (first | ((refine Gc (f := 16) rfl ?_); refine goesL_ (some 10) rfl rfl Try.func16 (by kernel_rfl) rfl #[.slice A0 l0.length c0] rfl (by first | rfl | (simp only [List.map_toArray, List.map_cons, List.map_nil]; first | done | rfl)) ?_; (with_reducible refine (impl_GoodSums.calls k _ _ l0 false _ ?side1 ?side2 A6.out).mono ?_); (case side1 => repeat (first | exact (Kd.C_below HR0.out HB.out) | (with_reducible refine Kd.C_alloc ?_ _) | (with_reducible refine Kd.C_drewN ?_ _) | (with_reducible refine Kd.C_drew ?_))); (case side2 => exact HC0.out); rintro e w13 ⟨rfl, hb⟩; refine ⟨_, rfl, ?_⟩; have n0_ := Am (Kb (g := gb231) (o := .cells #[.int .i64 a1_0, .int .i64 a1_1, .int .i64 a1_2, .int .i64 a1_3, .int .i64 a1_4] 26 (0, 0)) (by (with_reducible repeat (first | refine Kn ?_ _ | refine Ke ?_ | refine Ka ?_ _)); exact BK231.out) hb); have n1_ := Am (Kb (g := gb232) (o := .cells #[.int .i64 0, .int .i64 0] 30 (0, 0)) (by (with_reducible repeat (first | refine Kn ?_ _ | refine Ke ?_ | refine Ka ?_ _)); exact BK232.out) hb); have n2_ := Am (Bt (by repeat (first | (with_reducible first | exact HB.out | apply Ba | apply Bn | apply Bd | refine Bs ?_ GE231.out | refine Bs ?_ GE232.out) | exact HB.out)) hb); clear BK231; clear BK232; clear HB; have BK231 := n0_; have BK232 := n1_; have HB := n2_; clear n0_ n1_ n2_; (try clear hb); (try clear hb2); (try clear hk); (try clear hi)))
   go_meet
   case rel => exact ⟨_, (true), (by first | rfl | (simp; done) | (simp [*]; done)), H', ⟨by first | omega | exact Nat.le_refl _⟩, ⟨by (with_reducible repeat (first | refine Kn ?_ _ | refine Ke ?_ | refine Ka ?_ _)); exact BK231.out⟩, ⟨by (with_reducible repeat (first | refine Kn ?_ _ | refine Ke ?_ | refine Ka ?_ _)); exact BK232.out⟩, ⟨by repeat (first | (with_reducible first | exact HB.out | apply Ba | apply Bn | apply Bd | refine Bs ?_ GE231.out | refine Bs ?_ GE232.out) | exact HB.out)⟩⟩
 case rest =>
  clear HC3
  try clear c1
  try clear p2
  try clear c7
  try clear c10
  try clear c13
  try clear hcz11_0
  try clear hcz11_1
  try clear hcz11_2
  try clear hcz11_3
  try clear hcz11_4
  try clear hfz11_0
  try clear hfz11_1
  try clear hfz11_2
  try clear hfz11_3
  try clear hfz11_4
  obtain ⟨kq, x16_2, rfl, HA, HJ2, BK231, BK232, HB⟩ := hcut
  cases kq with
  | zero => exact absurd HA.out (by simp [impl_ApplyCmd.j0])
  | succ kj2 =>
   have H := HA.out
   clear HA
   simp only [impl_ApplyCmd.j0] at H
   by_cases c14 : x16_2 = true
   ·subst c14
    have H1 : (some (([] : List Int), 0, 0, false)) = some (r1, r2, r3, r4) := by rw [if_pos rfl] at H; exact H
    clear H
    have H := H1
    clear H1
    simp only [Option.some.injEq, Prod.mk.injEq] at H
    obtain ⟨rfl, rfl, rfl, rfl⟩ := H
    have hnb15 := NB232_231.out
    have hnc15 := NB231_232.out
    have hcz16_0 : wc.cell? ⟨gb232, 0, none⟩ = some (.int .i64 0) := (Kc BK232.out 0).trans rfl
    have hcz16_1 : wc.cell? ⟨gb232, 1, none⟩ = some (.int .i64 0) := (Kc BK232.out 1).trans rfl
    have hfz16_0 := Kz BK232.out 0
    have hfz16_1 := Kz BK232.out 1
    go_wp2
    refine bodyPost_ret (results_list (rs := [.tmp 4, .cell 5 30, .tmp 6]) rfl (by simp) (.tmp (.cell gb232 30 #[.int .i64 0, .int .i64 0] (0, 0) _ rfl (by (with_reducible repeat (first | refine Kn ?_ _ | refine Ke ?_ | refine Ka ?_ _)); refine blk_put (cs := #[.int .i64 0, .int .i64 0]) ?_ 1 _ rfl; (with_reducible repeat (first | refine Kn ?_ _ | refine Ke ?_ | refine Ka ?_ _)); refine blk_put (cs := #[.int .i64 0, .int .i64 0]) ?_ 0 _ rfl; (with_reducible repeat (first | refine Kn ?_ _ | refine Ke ?_ | refine Ka ?_ _)); exact BK232.out) Try.underlying30 rfl (by kernel_rfl) (.tmp .nil)))) rfl ?_
    exact ⟨_, by first | rfl | (simp [*, errW_none, errW_some] <;> rfl), by first | exact Kd.R_nil _ _ _ _ _ | exact Kd.N_nil _ _ _ _ _ | exact Kd.V_nil _ _ _ _ _ | exact Kd.Q_nil _ _ _ _ _ | exact Kd.S_nil _ _ _ _ _, by repeat (first | (with_reducible first | exact HB.out | apply Ba | apply Bn | apply Bd | refine Bs ?_ GE231.out | refine Bs ?_ GE232.out) | exact HB.out)⟩
   ·replace c14 := Bool.eq_false_iff.mpr c14
    subst c14
    have H1 : ((slices_Clone_int_int.f l0).bind fun t235 => ((impl_apply.f t235 a1_0 a1_1 a1_2 a1_3 a1_4).bind fun bt238 => (some (bt238.2.2, bt238.1, bt238.2.1, true)))) = some (r1, r2, r3, r4) := by rw [if_neg (show ¬ (false = true) by decide)] at H; exact H
    clear H
    have H := H1
    clear H1
    replace H := Option.bind_eq_some_iff.mp H
    obtain ⟨t235, A170, H⟩ := H
    replace H : ((impl_apply.f t235 a1_0 a1_1 a1_2 a1_3 a1_4).bind fun bt238 => (some (bt238.2.2, bt238.1, bt238.2.1, true))) = some (r1, r2, r3, r4) := H
    have A17 := Am A170
    clear A170
    replace H := Option.bind_eq_some_iff.mp H
    obtain ⟨⟨t238, t239, t240⟩, A180, H⟩ := H
    replace H : (some (t240, t238, t239, true)) = some (r1, r2, r3, r4) := H
    have A18 := Am A180
    clear A180
    simp only [Option.some.injEq, Prod.mk.injEq] at H
    obtain ⟨rfl, rfl, rfl, rfl⟩ := H
    try go_wp2_with (first | ((refine Gc (f := 70) rfl ?_); refine goesL_ (some 19) rfl rfl Try.func70 (by kernel_rfl) rfl #[.slice A0 l0.length c0] rfl (by first | rfl | (simp only [List.map_toArray, List.map_cons, List.map_nil]; first | done | rfl)) ?_; (with_reducible refine (slices_Clone_int_int.calls _ _ l0 t235 _ ?side1 ?side2 A17.out).mono ?_); (case side1 => repeat (first | exact (Kd.C_below HR0.out HB.out) | (with_reducible refine Kd.C_alloc ?_ _) | (with_reducible refine Kd.C_drewN ?_ _) | (with_reducible refine Kd.C_drew ?_))); (case side2 => exact HC0.out); rintro e w19 ⟨v236, rfl, ho0, hb⟩; refine ⟨_, rfl, ?_⟩; have n0_ := Am (Kd.R_lower ho0 (Bz (by repeat (first | (with_reducible first | exact HB.out | apply Ba | apply Bn | apply Bd | refine Bs ?_ GE231.out | refine Bs ?_ GE232.out) | exact HB.out)))); have n1_ := Am (Kb (g := gb231) (o := .cells #[.int .i64 a1_0, .int .i64 a1_1, .int .i64 a1_2, .int .i64 a1_3, .int .i64 a1_4] 26 (0, 0)) (by (with_reducible repeat (first | refine Kn ?_ _ | refine Ke ?_ | refine Ka ?_ _)); exact BK231.out) hb); have n2_ := Am (Kb (g := gb232) (o := .cells #[.int .i64 0, .int .i64 0] 30 (0, 0)) (by (with_reducible repeat (first | refine Kn ?_ _ | refine Ke ?_ | refine Ka ?_ _)); exact BK232.out) hb); have n3_ := Am (Bt (by repeat (first | (with_reducible first | exact HB.out | apply Ba | apply Bn | apply Bd | refine Bs ?_ GE231.out | refine Bs ?_ GE232.out) | exact HB.out)) hb); clear BK231; clear BK232; clear HB; have HO237 := n0_; have BK231 := n1_; have BK232 := n2_; have HB := n3_; clear n0_ n1_ n2_ n3_; (try clear hb); (try clear hb2); (try clear hk); (try clear hi); (try clear ho0); have hnb20 := NB231_232.out; have hnc20 := NB232_231.out; have hcz21_0 : w19.cell? ⟨gb231, 0, none⟩ = some (.int .i64 a1_0) := (Kc BK231.out 0).trans rfl; have hcz21_1 : w19.cell? ⟨gb231, 1, none⟩ = some (.int .i64 a1_1) := (Kc BK231.out 1).trans rfl; have hcz21_2 : w19.cell? ⟨gb231, 2, none⟩ = some (.int .i64 a1_2) := (Kc BK231.out 2).trans rfl; have hcz21_3 : w19.cell? ⟨gb231, 3, none⟩ = some (.int .i64 a1_3) := (Kc BK231.out 3).trans rfl; have hcz21_4 : w19.cell? ⟨gb231, 4, none⟩ = some (.int .i64 a1_4) := (Kc BK231.out 4).trans rfl; have hfz21_0 := Kz BK231.out 0; have hfz21_1 := Kz BK231.out 1; have hfz21_2 := Kz BK231.out 2; have hfz21_3 := Kz BK231.out 3; have hfz21_4 := Kz BK231.out 4; obtain ⟨Ao22, co22, eo22⟩ := Kd.R_slice HO237.out; subst eo22) | ((refine Gc (f := 71) rfl ?_); refine goesL_ (some 22) rfl rfl Try.func71 (by kernel_rfl) rfl #[.slice Ao22 t235.length co22, .agg #[.int .i64 a1_0, .int .i64 a1_1, .int .i64 a1_2, .int .i64 a1_3, .int .i64 a1_4]] rfl (by first | rfl | (simp only [List.map_toArray, List.map_cons, List.map_nil]; first | done | rfl)) ?_; (with_reducible refine (impl_apply.calls (fun k_ => some k_ = (.slice Ao22 t235.length co22 : Value).ownBlock) (.slice Ao22 t235.length co22) t235 a1_0 a1_1 a1_2 a1_3 a1_4 t238 t239 t240 w _ ?side1 ?side2 A18.out).mono ?_); (case side1 => repeat (first | (with_reducible first | exact HB.out | apply Ba | apply Bn | apply Bd | refine Bs ?_ GE231.out | refine Bs ?_ GE232.out) | exact HB.out)); (case side2 => exact Kd.R_tight rfl HO237.out); rintro e w23 ⟨rfl, hy0, hb, hkp⟩; refine ⟨_, rfl, ?_⟩; have n0_ := Am (blk_kept (by (with_reducible repeat (first | refine Kn ?_ _ | refine Ke ?_ | refine Ka ?_ _)); exact BK231.out) hkp (fun hs_ => (fun e_ => (Kd.R_ne HO237.out BK231.out (by decide)) e_) hs_)); have n1_ := Am (blk_kept (by (with_reducible repeat (first | refine Kn ?_ _ | refine Ke ?_ | refine Ka ?_ _)); exact BK232.out) hkp (fun hs_ => (fun e_ => (Kd.R_ne HO237.out BK232.out (by decide)) e_) hs_)); have n2_ := Am (Kd.R_reok rfl hy0 (fun k_ e_ => HO237.out.1 k_ e_)); have n3_ := Am (hb); clear BK231; clear BK232; clear HO237; clear HB; have BK231 := n0_; have BK232 := n1_; have HO237 := n2_; have HB := n3_; clear n0_ n1_ n2_ n3_; (try clear hb); (try clear hkp); (try clear hy0)) | ((refine Gd (N := 8) rfl ?_); refine Be ?hg (N := 8) ?hd (cs := #[.int .i64 0, .int .i64 0]) (t := 30) ?hr ?_; (case hd | hg => rfl); (case hr => first | (go_simp; done) | (go_simp; rfl)); intro gb241 hg w24 hbox hb; have n0_ := Am (Kd.R_below (by (with_reducible repeat (first | apply Ra | apply Rn | apply Rd)); exact HO237.out) hb); have n1_ := Am (Kb (g := gb231) (o := .cells #[.int .i64 a1_0, .int .i64 a1_1, .int .i64 a1_2, .int .i64 a1_3, .int .i64 a1_4] 26 (0, 0)) (by (with_reducible repeat (first | refine Kn ?_ _ | refine Ke ?_ | refine Ka ?_ _)); exact BK231.out) hb); have n2_ := Am (Kb (g := gb232) (o := .cells #[.int .i64 0, .int .i64 0] 30 (0, 0)) (by (with_reducible repeat (first | refine Kn ?_ _ | refine Ke ?_ | refine Ka ?_ _)); exact BK232.out) hb); have n3_ := Am (Bt (by repeat (first | (with_reducible first | exact HB.out | apply Ba | apply Bn | apply Bd | refine Bs ?_ GE231.out | refine Bs ?_ GE232.out) | exact HB.out)) hb); have n4_ := Am (hbox); have n5_ := Am ((by rw [hg]; exact (Bz (by repeat (first | (with_reducible first | exact HB.out | apply Ba | apply Bn | apply Bd | refine Bs ?_ GE231.out | refine Bs ?_ GE232.out) | exact HB.out))) : w.heap.size ≤ gb241)); have n6_ := Am ((by rw [hg]; exact (Bz (by repeat (first | (with_reducible first | exact HB.out | apply Ba | apply Bn | apply Bd | refine Bs ?_ GE231.out | refine Bs ?_ GE232.out) | exact HB.out))) : w.heap.size ≤ gb241)); have n7_ := Am ((by rw [hg]; exact Nat.ne_of_lt (blk_lt (g := gb231) (o := .cells #[.int .i64 a1_0, .int .i64 a1_1, .int .i64 a1_2, .int .i64 a1_3, .int .i64 a1_4] 26 (0, 0)) (by (with_reducible repeat (first | refine Kn ?_ _ | refine Ke ?_ | refine Ka ?_ _)); exact BK231.out)) : gb231 ≠ gb241)); have n8_ := Am ((by rw [hg]; exact Nat.ne_of_gt (blk_lt (g := gb231) (o := .cells #[.int .i64 a1_0, .int .i64 a1_1, .int .i64 a1_2, .int .i64 a1_3, .int .i64 a1_4] 26 (0, 0)) (by (with_reducible repeat (first | refine Kn ?_ _ | refine Ke ?_ | refine Ka ?_ _)); exact BK231.out)) : gb241 ≠ gb231)); have n9_ := Am ((by rw [hg]; exact Nat.ne_of_lt (blk_lt (g := gb232) (o := .cells #[.int .i64 0, .int .i64 0] 30 (0, 0)) (by (with_reducible repeat (first | refine Kn ?_ _ | refine Ke ?_ | refine Ka ?_ _)); exact BK232.out)) : gb232 ≠ gb241)); have n10_ := Am ((by rw [hg]; exact Nat.ne_of_gt (blk_lt (g := gb232) (o := .cells #[.int .i64 0, .int .i64 0] 30 (0, 0)) (by (with_reducible repeat (first | refine Kn ?_ _ | refine Ke ?_ | refine Ka ?_ _)); exact BK232.out)) : gb241 ≠ gb232)); clear HO237; clear BK231; clear BK232; clear HB; have HO237 := n0_; have BK231 := n1_; have BK232 := n2_; have HB := n3_; have BK241 := n4_; have GW241 := n5_; have GE241 := n6_; have NB231_241 := n7_; have NB241_231 := n8_; have NB232_241 := n9_; have NB241_232 := n10_; clear n0_ n1_ n2_ n3_ n4_ n5_ n6_ n7_ n8_ n9_ n10_; clear hb hbox hg; have hnb25 := NB241_231.out; have hnc25 := NB231_241.out; have hnb26 := NB241_232.out; have hnc26 := NB232_241.out; have hcz27_0 : w24.cell? ⟨gb241, 0, none⟩ = some (.int .i64 0) := (Kc BK241.out 0).trans rfl; have hcz27_1 : w24.cell? ⟨gb241, 1, none⟩ = some (.int .i64 0) := (Kc BK241.out 1).trans rfl; have hfz27_0 := Kz BK241.out 0; have hfz27_1 := Kz BK241.out 1))
    have n0_ : Ad (Kd.R (Kd.int .i64) 3 ((w24.setCell ⟨gb241, 0, none⟩ (.int .i64 t238)).setCell ⟨gb241, 1, none⟩ (.int .i64 t239)) w.heap.size (fun _ => True) (.slice Ao22 t235.length co22) t240) := ⟨by (with_reducible repeat (first | apply Ra | apply Rn | apply Rd)); exact Kd.R_mono (Kd.R_far (p := ⟨gb241, 1, none⟩) (Kd.R_far (p := ⟨gb241, 0, none⟩) (Kd.R_types HO237.out BK241.out (by decide)) (fun _ hk => hk.2) (.int .i64 t238)) (fun _ hk => hk.2) (.int .i64 t239)) (fun _ hk => trivial)⟩
    have n1_ : Ad (((w24.setCell ⟨gb241, 0, none⟩ (.int .i64 t238)).setCell ⟨gb241, 1, none⟩ (.int .i64 t239)).heap[gb231]? = some (.cells #[.int .i64 a1_0, .int .i64 a1_1, .int .i64 a1_2, .int .i64 a1_3, .int .i64 a1_4] 26 (0, 0))) := ⟨by (with_reducible repeat (first | refine Kn ?_ _ | refine Ke ?_ | refine Ka ?_ _)); refine Kf ?_ NB231_241.out _; (with_reducible repeat (first | refine Kn ?_ _ | refine Ke ?_ | refine Ka ?_ _)); refine Kf ?_ NB231_241.out _; (with_reducible repeat (first | refine Kn ?_ _ | refine Ke ?_ | refine Ka ?_ _)); exact BK231.out⟩
    have n2_ : Ad (((w24.setCell ⟨gb241, 0, none⟩ (.int .i64 t238)).setCell ⟨gb241, 1, none⟩ (.int .i64 t239)).heap[gb232]? = some (.cells #[.int .i64 0, .int .i64 0] 30 (0, 0))) := ⟨by (with_reducible repeat (first | refine Kn ?_ _ | refine Ke ?_ | refine Ka ?_ _)); refine Kf ?_ NB232_241.out _; (with_reducible repeat (first | refine Kn ?_ _ | refine Ke ?_ | refine Ka ?_ _)); refine Kf ?_ NB232_241.out _; (with_reducible repeat (first | refine Kn ?_ _ | refine Ke ?_ | refine Ka ?_ _)); exact BK232.out⟩
    have n3_ : Ad (((w24.setCell ⟨gb241, 0, none⟩ (.int .i64 t238)).setCell ⟨gb241, 1, none⟩ (.int .i64 t239)).heap[gb241]? = some (.cells #[.int .i64 t238, .int .i64 t239] 30 (0, 0))) := ⟨by (with_reducible repeat (first | refine Kn ?_ _ | refine Ke ?_ | refine Ka ?_ _)); refine blk_put (cs := #[.int .i64 t238, .int .i64 0]) ?_ 1 _ rfl; (with_reducible repeat (first | refine Kn ?_ _ | refine Ke ?_ | refine Ka ?_ _)); refine blk_put (cs := #[.int .i64 0, .int .i64 0]) ?_ 0 _ rfl; (with_reducible repeat (first | refine Kn ?_ _ | refine Ke ?_ | refine Ka ?_ _)); exact BK241.out⟩
    have n4_ : Ad (Below w.heap.size w ((w24.setCell ⟨gb241, 0, none⟩ (.int .i64 t238)).setCell ⟨gb241, 1, none⟩ (.int .i64 t239))) := ⟨by repeat (first | (with_reducible first | exact HB.out | apply Ba | apply Bn | apply Bd | refine Bs ?_ GE231.out | refine Bs ?_ GE232.out | refine Bs ?_ GE241.out) | exact HB.out)⟩
    (try clear HO237)
    (try clear BK231)
    (try clear BK232)
    (try clear BK241)
    (try clear HB)
    generalize ((w24.setCell ⟨gb241, 0, none⟩ (.int .i64 t238)).setCell ⟨gb241, 1, none⟩ (.int .i64 t239)) = w28 at n0_ n1_ n2_ n3_ n4_ ⊢
    have HO237 := n0_
    have BK231 := n1_
    have BK232 := n2_
    have BK241 := n3_
    have HB := n4_
    clear n0_ n1_ n2_ n3_ n4_
    have n0_ := Am (Rd HO237.out)
    have n1_ := Am (Ke BK231.out)
    have n2_ := Am (Ke BK232.out)
    have n3_ := Am (Ke BK241.out)
    have n4_ := Am (Bd HB.out)
    clear HO237
    clear BK231
    clear BK232
    clear BK241
    clear HB
    have HO237 := n0_
    have BK231 := n1_
    have BK232 := n2_
    have BK241 := n3_
    have HB := n4_
    clear n0_ n1_ n2_ n3_ n4_
    refine start_ (n := 5) (S := fun w' => w'.cell? ⟨gb241, 0, none⟩ = some (.int .i64 t238) ∧ w'.cell? ⟨gb241, 1, none⟩ = some (.int .i64 t239)) (ds := []) #[false, false, false, false, false] (by kernel_rfl) rfl rfl ⟨(Kc BK241.out 0).trans rfl, (Kc BK241.out 1).trans rfl⟩ (fun hHeld => ?_)
    generalize w28.drew = w29 at HO237 BK231 BK232 BK241 HB hHeld ⊢
    refine pure_ (i := 0) (N := some 23) (v := ?_) (a' := ?_) #[true, false, false, false, false] rfl rfl (by kernel_rfl) (fun _ _ _ h => h) (Or.inl ⟨by rfl, ?_⟩) ?_ ?_
    rotate_left
    ·intro w'
     go_simp
     with_reducible rfl
    rotate_left
    ·simp only [Act.put, Lt, Lz, Ls, i64_w, i32_w]
     rfl
    refine pure_ (i := 2) (N := some 4) (v := ?_) (a' := ?_) #[true, false, true, false, false] rfl rfl (by kernel_rfl) (fun _ _ _ h => h) (Or.inl ⟨by rfl, ?_⟩) ?_ ?_
    rotate_left
    ·intro w'
     go_simp
     with_reducible rfl
    rotate_left
    ·simp only [Act.put, Lt, Lz, Ls, i64_w, i32_w]
     rfl
    refine take_ (i := 1) (N := some 24) (v := ?_) (a' := ?_) #[true, true, true, false, false] rfl rfl (by kernel_rfl) (fun _ _ _ h => h) (Or.inl ⟨by rfl, ?_⟩) hHeld ?_ ?_
    rotate_left
    ·rintro w' ⟨s0, s1⟩
     go_simp
     with_reducible rfl
    rotate_left
    ·simp only [Act.put, Lt, Lz, Ls, i64_w, i32_w]
     rfl
    refine one_ (i := 3) (N := none) #[true, true, true, true, false] rfl rfl (by kernel_rfl) (by decide) (fun K hK => ?_)
    have hs30 : w29.cell? ⟨gb232, 0, none⟩ = some (.int .i64 0) := (Kc BK232.out 0).trans rfl
    have hfs30 := Kz BK232.out 0
    have hns30_0 := NB231_232.out
    have hns30_2 := NB241_232.out
    have hms30_0 := NB232_231.out
    have hms30_2 := NB232_241.out
    have hs31 : w29.cell? ⟨gb232, 1, none⟩ = some (.int .i64 0) := (Kc BK232.out 1).trans rfl
    have hfs31 := Kz BK232.out 1
    have hns31_0 := NB231_232.out
    have hns31_2 := NB241_232.out
    have hms31_0 := NB232_231.out
    have hms31_2 := NB232_241.out
    refine skip_ (w1 := ?_) (by rfl) rfl ?_ ?_
    rotate_left
    ·go_simp
     rfl
    refine hK.out _ _ ⟨((cell_far (p := ⟨gb232, _, none⟩) NB241_232.out _).trans (((cell_far (p := ⟨gb232, _, none⟩) NB241_232.out _).trans (hHeld.1)))), ((cell_far (p := ⟨gb232, _, none⟩) NB241_232.out _).trans (((cell_far (p := ⟨gb232, _, none⟩) NB241_232.out _).trans (hHeld.2))))⟩ (fun hHeld => ?_)
    clear hK K
    refine pure_ (i := 4) (N := some 6) (v := ?_) (a' := ?_) #[true, true, true, true, true] rfl rfl (by kernel_rfl) (fun _ _ _ h => h) (Or.inl ⟨by rfl, ?_⟩) ?_ ?_
    rotate_left
    ·intro w'
     go_simp
     with_reducible rfl
    rotate_left
    ·simp only [Act.put, Lt, Lz, Ls, i64_w, i32_w]
     rfl
    refine done_ (by kernel_rfl) ?_
    try go_wp2
    refine bodyPost_ret (results_list (rs := [.tmp 4, .cell 5 30, .tmp 6]) rfl (by simp) (.tmp (.cell gb232 30 #[.int .i64 t238, .int .i64 t239] (0, 0) _ rfl (by (with_reducible repeat (first | refine Kn ?_ _ | refine Ke ?_ | refine Ka ?_ _)); refine blk_put (cs := #[.int .i64 t238, .int .i64 0]) ?_ 1 _ rfl; (with_reducible repeat (first | refine Kn ?_ _ | refine Ke ?_ | refine Ka ?_ _)); refine blk_put (cs := #[.int .i64 0, .int .i64 0]) ?_ 0 _ rfl; (with_reducible repeat (first | refine Kn ?_ _ | refine Ke ?_ | refine Ka ?_ _)); exact BK232.out) Try.underlying30 rfl (by kernel_rfl) (.tmp .nil)))) rfl ?_
    exact ⟨_, by first | rfl | (simp [*, errW_none, errW_some] <;> rfl), by (with_reducible repeat (first | apply Ra | apply Rn | apply Rd)); exact Kd.R_mono (Kd.R_far (p := ⟨gb232, 1, none⟩) (Kd.R_far (p := ⟨gb232, 0, none⟩) (Kd.R_types HO237.out BK232.out (by decide)) (fun _ hk => hk.2) (.int .i64 t238)) (fun _ hk => hk.2) (.int .i64 t239)) (fun _ hk => trivial), by repeat (first | (with_reducible first | exact HB.out | apply Ba | apply Bn | apply Bd | refine Bs ?_ GE231.out | refine Bs ?_ GE232.out | refine Bs ?_ GE241.out) | exact HB.out)⟩
def spec_l1In.f (a0 : Int) (a1 : Int) (a2 : Int) : Option (Bool) := if a0 ≥ a1 then (some (decide (a0 ≤ a2))) else (some false)
set_option maxHeartbeats 8000000 in
set_option maxRecDepth 100000 in
theorem spec_l1In.calls (a0 : Int) (a1 : Int) (a2 : Int) (r : Bool) (w : World) (h : spec_l1In.f a0 a1 a2 = some r) :
  Calls Try.prog 78 #[.int .i64 a0, .int .i64 a1, .int .i64 a2] w fun e w' => e = .returned (.bool r) ∧ Drawn0 w w' := by
 have H : (if a0 ≥ a1 then (some (decide (a0 ≤ a2))) else (some false)) = some r := h
 clear h
 by_cases c4 : a0 ≥ a1
 ·rw [if_pos c4] at H
  have c4b0 : decide (a1 ≤ a0) = true := decide_eq_true c4
  clear c4
  obtain rfl := Option.some.inj H
  go_enter Try.func78, Try.ntmps78
  go_wp2
  go_ret
  exact ⟨by first | rfl | (simp; done) | (simp [*]; done), by repeat (first | exact Drawn0.refl _ | apply Drawn0.step)⟩
 ·rw [if_neg c4] at H
  have c4b0 : decide (a1 ≤ a0) = false := decide_eq_false c4
  clear c4
  obtain rfl := Option.some.inj H
  go_enter Try.func78, Try.ntmps78
  go_wp2
  go_ret
  exact ⟨by first | rfl | (simp; done) | (simp [*]; done), by repeat (first | exact Drawn0.refl _ | apply Drawn0.step)⟩
end Go.Proofs.Yteecmbfebenjjaa.QFnSums
