-- Written by a program of this session (wip/mk.py) over the kit's print: Lean checks it.
import Derived.Test.YteecmbfebenjjaaQFnSumsx0
import Derived.Test.YteecmbfebenjjaaQFnSumsx2
import Derived.Test.YteecmbfebenjjaaQFnSumsx3
import Derived.Test.YteecmbfebenjjaaQFnSumsx4
import Derived.Test.YteecmbfebenjjaaQFnSumsx5
import Derived.Test.YteecmbfebenjjaaQFnSumsx7
import Derived.Test.YteecmbfebenjjaaQFnSumsx8
import Derived.Test.YteecmbfebenjjaaQFnSumsx9
namespace Go.Proofs.Yteecmbfebenjjaa.QFnSums
open Go.Proofs.YteecmbfebenjjaaW.PrintWords.Kd renaming R_alloc → Ra, R_drewN → Rn, R_drew → Rd
open Go.Proofs.YteecmbfebenjjaaW.PrintWords renaming below_alloc → Ba, pw_below_drewN → Bn, below_drew1 → Bd, below_set → Bs, below_size → Bz, below_step → Bt, gate_dst → Gd, gate_callee → Gc, gate_store → Gs, box_event → Be, blk_alloc → Ka, blk_drewN → Kn, blk_drew → Ke, blk_below → Kb, blk_cell → Kc, blk_far → Kf, blk_frozen → Kz
open Go.World renaming block_lt_of_cell? → bl_
open Go.Proofs.YteecmbfebenjjaaW.PrintWords.Aside0 renaming mk → Am
open Go.Proofs.YteecmbfebenjjaaW.PrintWords renaming Aside0 → Ad
open Go.RowKit Go.Proofs.YteecmbfebenjjaaW.PrintWords Go.Proofs.YteecmbfebenjjaaW.PrintLast Go.Proofs.YteecmbfebenjjaaW.PrintMore
attribute [local go_sem] max2_int min2_int max_two min_two max_three min_three max_four min_four   -- for this text's walks alone
set_option linter.unusedVariables false
set_option linter.unusedSimpArgs false
attribute [local go_sem high] eqA30
def impl_playCmds.l0 : Nat → List Int → List (S30) → List (S26) → Int → Int → Option (List Int × (List (S30)))
 | 0, _, _, _, _, _ => none
 | k + 1, x4, x5, x10, x11, x12 => if x12 < x11 then (if 0 ≤ x12 then (if x12 < (x10.length : Int) then ((impl_apply.f x4 ((rd_T26 x10 x12).f0) ((rd_T26 x10 x12).f1) ((rd_T26 x10 x12).f2) ((rd_T26 x10 x12).f3) ((rd_T26 x10 x12).f4)).bind fun bt307 => (if x5.length < 8796093022208 then (impl_playCmds.l0 k bt307.2.2 (x5 ++ [(⟨bt307.1, bt307.2.1⟩ : S30)]) x10 x11 (wrap64 (x12 + 1))) else (none))) else (none)) else (none)) else (some (x4, x5))
def impl_playCmds.f (k : Nat) (l0 : List (S26)) : Option (List Int × (List (S30))) := (impl_NewSums.f).bind fun t299 => (impl_playCmds.l0 k t299 (([] : List (S30))) l0 (l0.length : Int) 0)
theorem impl_playCmds.mono_l : ∀ k, (∀ y0 y1 y2 y3 y4, LeO (impl_playCmds.l0 k y0 y1 y2 y3 y4) (impl_playCmds.l0 (k + 1) y0 y1 y2 y3 y4))
 | 0 => fun _ _ _ _ _ r h => by simp [impl_playCmds.l0] at h
 | k + 1 => by
  have ih0 := impl_playCmds.mono_l k
  ·intro y0 y1 y2 y3 y4
   unfold impl_playCmds.l0
   repeat' first
   | (with_reducible exact ih0 _ _ _ _ _)
   | (with_reducible exact LeO.refl _)
   | (with_reducible exact LeO.none _)
   | (with_reducible refine LeO.ite ?_ ?_)
   | (with_reducible refine LeO.bind ?_ (fun _ => ?_))
   | exact ih0 _ _ _ _ _
   | exact LeO.none _
   | refine LeO.ite ?_ ?_
   | refine LeO.bind ?_ (fun _ => ?_)
theorem impl_playCmds.mono : ∀ a0 k, LeO (impl_playCmds.f k a0) (impl_playCmds.f (k + 1) a0) := by
 intro a0 k
 have ih0 := impl_playCmds.mono_l k
 unfold impl_playCmds.f
 repeat' first
   | (with_reducible exact ih0 _ _ _ _ _)
   | (with_reducible exact LeO.refl _)
   | (with_reducible exact LeO.none _)
   | (with_reducible refine LeO.ite ?_ ?_)
   | (with_reducible refine LeO.bind ?_ (fun _ => ?_))
   | exact ih0 _ _ _ _ _
   | exact LeO.none _
   | refine LeO.ite ?_ ?_
   | refine LeO.bind ?_ (fun _ => ?_)
set_option maxHeartbeats 8000000 in
set_option maxRecDepth 100000 in
theorem impl_playCmds.calls (k : Nat) (A0 : Option Addr) (c0 : Nat) (l0 : List (S26)) (r1 : List Int) (r2 : List (S30)) (w : World) (hr0 : Kd.C k26 w A0 l0.length l0) (hc0 : l0.length ≤ c0) (h : impl_playCmds.f k l0 = some (r1, r2)) :
  Calls Try.prog 83 #[.slice A0 l0.length c0] w fun e w' => ∃ v0_ v1_ : Value, e = .returned (.tuple #[v0_, v1_]) ∧ Kd.R (Kd.int .i64) 3 w' w.heap.size (fun _ => True) v0_ r1 ∧ Kd.R k30 30 w' w.heap.size (fun _ => True) v1_ r2 ∧ Below w.heap.size w w' := by
 have hu26 := Try.underlying26
 have HR0 := Am hr0
 have HC0 := Am hc0
 clear hr0 hc0
 have HB := Am (Below.refl w.heap.size w)
 have H : ((impl_NewSums.f).bind fun t299 => (impl_playCmds.l0 k t299 (([] : List (S30))) l0 (l0.length : Int) 0)) = some (r1, r2) := h
 clear h
 replace H := Option.bind_eq_some_iff.mp H
 obtain ⟨t299, A20, H⟩ := H
 replace H : (impl_playCmds.l0 k t299 (([] : List (S30))) l0 (l0.length : Int) 0) = some (r1, r2) := H
 have A2 := Am A20
 clear A20
 obtain ⟨y302, hy302⟩ : ∃ y_ : List (S30), y_ = (([] : List (S30))) := ⟨_, rfl⟩
 replace H : (impl_playCmds.l0 k t299 y302 l0 (l0.length : Int) 0) = some (r1, r2) := by first | (rw [hy302]; with_reducible exact H) | (have H2_ := (Option.bind_some _ _).symm.trans H; rw [hy302]; with_reducible exact H2_) | (have H2_ := (Option.bind_some _ _).symm.trans H; with_reducible exact H2_) | with_reducible exact H | (rw [hy302]; exact H) | exact H
 have Ny302 := Am hy302
 clear hy302
 have H' := Am H
 clear H
 go_enter Try.func83, Try.ntmps83
 go_wp2_with (first | ((refine Gc (f := 18) rfl ?_); refine goesL_ (some 8) rfl rfl Try.func18 (by kernel_rfl) rfl #[] rfl (by first | rfl | (simp only [List.map_toArray, List.map_cons, List.map_nil]; first | done | rfl)) ?_; (with_reducible refine (impl_NewSums.calls  t299 _ A2.out).mono ?_); rintro e w3 ⟨v300, rfl, ho0, hb⟩; refine ⟨_, rfl, ?_⟩; have n0_ := Am (Kd.R_lower ho0 (Bz (by repeat (first | exact HB.out | apply Ba | apply Bn | apply Bd)))); have n1_ := Am (Bt (by repeat (first | exact HB.out | apply Ba | apply Bn | apply Bd)) hb); clear HB; have HO301 := n0_; have HB := n1_; clear n0_ n1_; (try clear hb); (try clear hb2); (try clear hk); (try clear hi); (try clear ho0)) | ((refine Gd (N := 9) rfl ?_); refine Kd.R_lit k30 _ 30 ?hg (N := 9) ?hd (xs := ([] : List (S30))) (inner := []) (ok := fun _ => True) (okp := fun _ => True) ?hr ?hp (fun _ hk => hk) trivial (Below.refl _ _) (Nat.le_refl _) (by simp) ?_; (case hd | hg => rfl); (case hr => first | (go_simp; done) | (go_simp; rfl)); (case hp => exact (Reps.none _ _)); intro v303 w4 ho5 hb hg_ hnew_; clear hg_ hnew_; (first | rw [← Ny302.out] at ho5 | (simp only [Int.reduceToNat] at ho5; rw [← Ny302.out] at ho5)); have n0_ := Am (Kd.R_below (by (with_reducible repeat (first | apply Ra | apply Rn | apply Rd)); exact HO301.out) hb); have n1_ := Am (Kd.R_lower ho5 (Bz (by repeat (first | exact HB.out | apply Ba | apply Bn | apply Bd)))); have n2_ := Am (Bt (by repeat (first | exact HB.out | apply Ba | apply Bn | apply Bd)) hb); clear HO301; clear HB; have HO301 := n0_; have HO304 := n1_; have HB := n2_; clear n0_ n1_ n2_; clear hb ho5))
 go_loopg [5, 12] k (fun kq v5 v12 w' => ∃ (x4_1 : List Int) (x5_1 : List (S30)) (x12_1 : Int), v12 = .int .i64 x12_1 ∧ Ad (impl_playCmds.l0 kq x4_1 x5_1 l0 (l0.length : Int) x12_1 = some (r1, r2)) ∧ Ad (kq ≤ k) ∧ Ad (Kd.R (Kd.int .i64) 3 w' w.heap.size (fun _ => True) v300 x4_1) ∧ Ad (Kd.R k30 30 w' w.heap.size (fun _ => True) v5 x5_1) ∧ Ad (Below w.heap.size w w'))
 case atStart => exact ⟨(t299), (y302), (0), (by first | rfl | (simp; done) | (simp [*]; done)), H', ⟨Nat.le_refl _⟩, ⟨by (with_reducible repeat (first | apply Ra | apply Rn | apply Rd)); exact HO301.out⟩, ⟨by (with_reducible repeat (first | apply Ra | apply Rn | apply Rd)); exact HO304.out⟩, ⟨by repeat (first | exact HB.out | apply Ba | apply Bn | apply Bd)⟩⟩
 case round =>
  clear H'
  try clear c1
  try clear p2
  obtain ⟨x4_1, x5_1, x12_1, rfl, HA, HK1, HO_4, HO_5, HB⟩ := hrel
  cases gk with
  | zero => exact absurd HA.out (by simp [impl_playCmds.l0])
  | succ k1 =>
   have H := HA.out
   clear HA
   simp only [impl_playCmds.l0] at H
   by_cases c6 : x12_1 < (l0.length : Int)
   ·rw [if_pos c6] at H
    have c6b0 : decide (x12_1 < (l0.length : Int)) = true := decide_eq_true c6
    clear c6
    by_cases c7 : 0 ≤ x12_1
    ·rw [if_pos c7] at H
     have c7b0 : decide (0 ≤ x12_1) = true := decide_eq_true c7
     clear c7
     by_cases c8 : x12_1 < (l0.length : Int)
     ·rw [if_pos c8] at H
      have c8b0 : decide (x12_1 < (l0.length : Int)) = true := decide_eq_true c8
      clear c8
      replace H := Option.bind_eq_some_iff.mp H
      obtain ⟨⟨t307, t308, t309⟩, A90, H⟩ := H
      replace H : (if x5_1.length < 8796093022208 then (impl_playCmds.l0 k1 t309 (x5_1 ++ [(⟨t307, t308⟩ : S30)]) l0 (l0.length : Int) (wrap64 (x12_1 + 1))) else (none)) = some (r1, r2) := H
      have A9 := Am A90
      clear A90
      by_cases c10 : x5_1.length < 8796093022208
      ·rw [if_pos c10] at H
       have LMc10 := Am c10
       clear c10
       obtain ⟨y310, hy310⟩ : ∃ y_ : List (S30), y_ = (x5_1 ++ [(⟨t307, t308⟩ : S30)]) := ⟨_, rfl⟩
       replace H : (impl_playCmds.l0 k1 t309 y310 l0 (l0.length : Int) (wrap64 (x12_1 + 1))) = some (r1, r2) := by first | (rw [hy310]; with_reducible exact H) | (have H2_ := (Option.bind_some _ _).symm.trans H; rw [hy310]; with_reducible exact H2_) | (have H2_ := (Option.bind_some _ _).symm.trans H; with_reducible exact H2_) | with_reducible exact H | (rw [hy310]; exact H) | exact H
       have Ny310 := Am hy310
       clear hy310
       have H' := Am H
       clear H
       have p305 : 0 ≤ (x12_1 : Int) := of_decide_eq_true (by assumption)
       have q305 : x12_1 < (l0.length : Int) := of_decide_eq_true (by assumption)
       obtain ⟨ad305, e305, hx305_0, hx305_1, hx305_2, hx305_3, hx305_4⟩ := at_T26 HR0.out x12_1 p305 q305
       cases e305
       replace hx305_0 := (HB.out.cell (bl_ w _ hx305_0)).trans hx305_0
       replace hx305_1 := (HB.out.cell (bl_ w _ hx305_1)).trans hx305_1
       replace hx305_2 := (HB.out.cell (bl_ w _ hx305_2)).trans hx305_2
       replace hx305_3 := (HB.out.cell (bl_ w _ hx305_3)).trans hx305_3
       replace hx305_4 := (HB.out.cell (bl_ w _ hx305_4)).trans hx305_4
       replace p305 := eq_true p305
       replace q305 := eq_true q305
       go_wp2_with (first | ((refine Gd (N := 7) rfl ?_); refine Be ?hg (N := 7) ?hd (cs := #[.int .i64 0, .int .i64 0, .int .i64 0, .int .i64 0, .int .i64 0]) (t := 26) ?hr ?_; (case hd | hg => rfl); (case hr => first | (go_simp; done) | (go_simp; rfl)); intro gb306 hg w11 hbox hb; have n0_ := Am (Kd.R_below (by (with_reducible repeat (first | apply Ra | apply Rn | apply Rd)); exact HO_4.out) hb); have n1_ := Am (Kd.R_below (by (with_reducible repeat (first | apply Ra | apply Rn | apply Rd)); exact HO_5.out) hb); have n2_ := Am (Bt (by repeat (first | exact HB.out | apply Ba | apply Bn | apply Bd)) hb); have n3_ := Am (hbox); have n4_ := Am ((by rw [hg]; exact (Bz (by repeat (first | exact HB.out | apply Ba | apply Bn | apply Bd))) : w.heap.size ≤ gb306)); have n5_ := Am ((by rw [hg]; exact (Bz (by repeat (first | exact HB.out | apply Ba | apply Bn | apply Bd))) : w.heap.size ≤ gb306)); clear HO_4; clear HO_5; clear HB; have HO_4 := n0_; have HO_5 := n1_; have HB := n2_; have BK306 := n3_; have GW306 := n4_; have GE306 := n5_; clear n0_ n1_ n2_ n3_ n4_ n5_; clear hb hbox hg; have hcz12_0 : w11.cell? ⟨gb306, 0, none⟩ = some (.int .i64 0) := (Kc BK306.out 0).trans rfl; have hcz12_1 : w11.cell? ⟨gb306, 1, none⟩ = some (.int .i64 0) := (Kc BK306.out 1).trans rfl; have hcz12_2 : w11.cell? ⟨gb306, 2, none⟩ = some (.int .i64 0) := (Kc BK306.out 2).trans rfl; have hcz12_3 : w11.cell? ⟨gb306, 3, none⟩ = some (.int .i64 0) := (Kc BK306.out 3).trans rfl; have hcz12_4 : w11.cell? ⟨gb306, 4, none⟩ = some (.int .i64 0) := (Kc BK306.out 4).trans rfl; have hfz12_0 := Kz BK306.out 0; have hfz12_1 := Kz BK306.out 1; have hfz12_2 := Kz BK306.out 2; have hfz12_3 := Kz BK306.out 3; have hfz12_4 := Kz BK306.out 4) | ((refine Gs (t := 26) (p := 7) rfl ?_); refine store_event (t := 26) (p := 7) (v := ?vo_w13) (w1 := (((((w11.setCell ⟨gb306, 0, none⟩ (.int .i64 ((rd_T26 l0 x12_1).f0))).setCell ⟨gb306, 1, none⟩ (.int .i64 ((rd_T26 l0 x12_1).f1))).setCell ⟨gb306, 2, none⟩ (.int .i64 ((rd_T26 l0 x12_1).f2))).setCell ⟨gb306, 3, none⟩ (.int .i64 ((rd_T26 l0 x12_1).f3))).setCell ⟨gb306, 4, none⟩ (.int .i64 ((rd_T26 l0 x12_1).f4)))) ?hg ?ho ?hn ?hr ?_; (case ho => rfl); (case hg => rfl); (case hn => rfl); (case hr => first | (go_simp; done) | (go_simp; rfl)); intro w13 hw; have n0_ : Ad (Kd.R (Kd.int .i64) 3 w13 w.heap.size (fun _ => True) v300 x4_1) := ⟨(by rw [hw]; exact (by (with_reducible repeat (first | apply Ra | apply Rn | apply Rd)); exact Kd.R_mono (Kd.R_far (p := ⟨gb306, 4, none⟩) (Kd.R_far (p := ⟨gb306, 3, none⟩) (Kd.R_far (p := ⟨gb306, 2, none⟩) (Kd.R_far (p := ⟨gb306, 1, none⟩) (Kd.R_far (p := ⟨gb306, 0, none⟩) (Kd.R_types HO_4.out BK306.out (by decide)) (fun _ hk => hk.2) (.int .i64 ((rd_T26 l0 x12_1).f0))) (fun _ hk => hk.2) (.int .i64 ((rd_T26 l0 x12_1).f1))) (fun _ hk => hk.2) (.int .i64 ((rd_T26 l0 x12_1).f2))) (fun _ hk => hk.2) (.int .i64 ((rd_T26 l0 x12_1).f3))) (fun _ hk => hk.2) (.int .i64 ((rd_T26 l0 x12_1).f4))) (fun _ hk => trivial)))⟩; have n1_ : Ad (Kd.R k30 30 w13 w.heap.size (fun _ => True) u5 x5_1) := ⟨(by rw [hw]; exact (by (with_reducible repeat (first | apply Ra | apply Rn | apply Rd)); exact Kd.R_mono (Kd.R_far (p := ⟨gb306, 4, none⟩) (Kd.R_far (p := ⟨gb306, 3, none⟩) (Kd.R_far (p := ⟨gb306, 2, none⟩) (Kd.R_far (p := ⟨gb306, 1, none⟩) (Kd.R_far (p := ⟨gb306, 0, none⟩) (Kd.R_types HO_5.out BK306.out (by decide)) (fun _ hk => hk.2) (.int .i64 ((rd_T26 l0 x12_1).f0))) (fun _ hk => hk.2) (.int .i64 ((rd_T26 l0 x12_1).f1))) (fun _ hk => hk.2) (.int .i64 ((rd_T26 l0 x12_1).f2))) (fun _ hk => hk.2) (.int .i64 ((rd_T26 l0 x12_1).f3))) (fun _ hk => hk.2) (.int .i64 ((rd_T26 l0 x12_1).f4))) (fun _ hk => trivial)))⟩; have n2_ : Ad (w13.heap[gb306]? = some (.cells #[.int .i64 ((rd_T26 l0 x12_1).f0), .int .i64 ((rd_T26 l0 x12_1).f1), .int .i64 ((rd_T26 l0 x12_1).f2), .int .i64 ((rd_T26 l0 x12_1).f3), .int .i64 ((rd_T26 l0 x12_1).f4)] 26 (0, 0))) := ⟨(by rw [hw]; exact (by (with_reducible repeat (first | refine Kn ?_ _ | refine Ke ?_ | refine Ka ?_ _)); refine blk_put (cs := #[.int .i64 ((rd_T26 l0 x12_1).f0), .int .i64 ((rd_T26 l0 x12_1).f1), .int .i64 ((rd_T26 l0 x12_1).f2), .int .i64 ((rd_T26 l0 x12_1).f3), .int .i64 0]) ?_ 4 _ rfl; (with_reducible repeat (first | refine Kn ?_ _ | refine Ke ?_ | refine Ka ?_ _)); refine blk_put (cs := #[.int .i64 ((rd_T26 l0 x12_1).f0), .int .i64 ((rd_T26 l0 x12_1).f1), .int .i64 ((rd_T26 l0 x12_1).f2), .int .i64 0, .int .i64 0]) ?_ 3 _ rfl; (with_reducible repeat (first | refine Kn ?_ _ | refine Ke ?_ | refine Ka ?_ _)); refine blk_put (cs := #[.int .i64 ((rd_T26 l0 x12_1).f0), .int .i64 ((rd_T26 l0 x12_1).f1), .int .i64 0, .int .i64 0, .int .i64 0]) ?_ 2 _ rfl; (with_reducible repeat (first | refine Kn ?_ _ | refine Ke ?_ | refine Ka ?_ _)); refine blk_put (cs := #[.int .i64 ((rd_T26 l0 x12_1).f0), .int .i64 0, .int .i64 0, .int .i64 0, .int .i64 0]) ?_ 1 _ rfl; (with_reducible repeat (first | refine Kn ?_ _ | refine Ke ?_ | refine Ka ?_ _)); refine blk_put (cs := #[.int .i64 0, .int .i64 0, .int .i64 0, .int .i64 0, .int .i64 0]) ?_ 0 _ rfl; (with_reducible repeat (first | refine Kn ?_ _ | refine Ke ?_ | refine Ka ?_ _)); exact BK306.out))⟩; have n3_ : Ad (Below w.heap.size w w13) := ⟨(by rw [hw]; exact (by repeat (first | (with_reducible first | exact HB.out | apply Ba | apply Bn | apply Bd | refine Bs ?_ GE306.out) | exact HB.out)))⟩; clear hw; clear HO_4; clear HO_5; clear BK306; clear HB; have HO_4 := n0_; have HO_5 := n1_; have BK306 := n2_; have HB := n3_; clear n0_ n1_ n2_ n3_; have hcz14_0 : w13.cell? ⟨gb306, 0, none⟩ = some (.int .i64 ((rd_T26 l0 x12_1).f0)) := (Kc BK306.out 0).trans rfl; have hcz14_1 : w13.cell? ⟨gb306, 1, none⟩ = some (.int .i64 ((rd_T26 l0 x12_1).f1)) := (Kc BK306.out 1).trans rfl; have hcz14_2 : w13.cell? ⟨gb306, 2, none⟩ = some (.int .i64 ((rd_T26 l0 x12_1).f2)) := (Kc BK306.out 2).trans rfl; have hcz14_3 : w13.cell? ⟨gb306, 3, none⟩ = some (.int .i64 ((rd_T26 l0 x12_1).f3)) := (Kc BK306.out 3).trans rfl; have hcz14_4 : w13.cell? ⟨gb306, 4, none⟩ = some (.int .i64 ((rd_T26 l0 x12_1).f4)) := (Kc BK306.out 4).trans rfl; have hfz14_0 := Kz BK306.out 0; have hfz14_1 := Kz BK306.out 1; have hfz14_2 := Kz BK306.out 2; have hfz14_3 := Kz BK306.out 3; have hfz14_4 := Kz BK306.out 4; obtain ⟨Ao15, co15, eo15⟩ := Kd.R_slice HO_4.out; subst eo15) | ((refine Gc (f := 71) rfl ?_); refine goesL_ (some 19) rfl rfl Try.func71 (by kernel_rfl) rfl #[.slice Ao15 x4_1.length co15, .agg #[.int .i64 ((rd_T26 l0 x12_1).f0), .int .i64 ((rd_T26 l0 x12_1).f1), .int .i64 ((rd_T26 l0 x12_1).f2), .int .i64 ((rd_T26 l0 x12_1).f3), .int .i64 ((rd_T26 l0 x12_1).f4)]] rfl (by first | rfl | (simp only [List.map_toArray, List.map_cons, List.map_nil]; first | done | rfl)) ?_; (with_reducible refine (impl_apply.calls (fun k_ => some k_ = (.slice Ao15 x4_1.length co15 : Value).ownBlock) (.slice Ao15 x4_1.length co15) x4_1 ((rd_T26 l0 x12_1).f0) ((rd_T26 l0 x12_1).f1) ((rd_T26 l0 x12_1).f2) ((rd_T26 l0 x12_1).f3) ((rd_T26 l0 x12_1).f4) t307 t308 t309 w _ ?side1 ?side2 A9.out).mono ?_); (case side1 => repeat (first | (with_reducible first | exact HB.out | apply Ba | apply Bn | apply Bd | refine Bs ?_ GE306.out) | exact HB.out)); (case side2 => exact Kd.R_tight rfl HO_4.out); rintro e w16 ⟨rfl, hy0, hb, hkp⟩; refine ⟨_, rfl, ?_⟩; have n0_ := Am (Kd.R_reok rfl hy0 (fun k_ e_ => HO_4.out.1 k_ e_)); have n1_ := Am (Kd.R_mono (ok' := fun k_ => True) (Kd.R_keptB ((Kd.R_apart' HO_5.out (Kd.R_typed HO_4.out) (by decide))) hkp (fun k_ hk_ hs_ => (hk_.2) hs_)) (fun k_ hk_ => trivial)); have n2_ := Am (blk_kept (by (with_reducible repeat (first | refine Kn ?_ _ | refine Ke ?_ | refine Ka ?_ _)); exact BK306.out) hkp (fun hs_ => (fun e_ => (Kd.R_ne HO_4.out BK306.out (by decide)) e_) hs_)); have n3_ := Am (hb); clear HO_4; clear HO_5; clear BK306; clear HB; have HO_4 := n0_; have HO_5 := n1_; have BK306 := n2_; have HB := n3_; clear n0_ n1_ n2_ n3_; (try clear hb); (try clear hkp); (try clear hy0)) | ((with_reducible refine gate_builtin (b := .append) (xs := #[.tmp 16, .tmp 20]) rfl ?_); at_builtin; refine Kd.R_append k30 (w0 := w) w.heap.size rfl (.tmp 16) (.tmp 20) 42 30 (.agg #[(.int .i64 0), (.int .i64 0)]) 16 rfl Try.underlying42 info30 rfl (by decide) (by omega) u5 x5_1 (⟨t307, t308⟩ : S30) [.int .i64 t307, .int .i64 t308] (fun _ => True) (fun _ => False) rfl rfl ?aP (fun _ hk => hk.elim) ?aF ?aO ?aB ?aS ?aL ?_; (case aP => exact k30_mkM _ _ _ (⟨t307, t308⟩ : S30)); (case aB => exact (by repeat (first | (with_reducible first | exact HB.out | apply Ba | apply Bn | apply Bd | refine Bs ?_ GE306.out) | exact HB.out))); (case aF => exact (fun _ _ => trivial)); (case aO => exact (by (with_reducible repeat (first | apply Ra | apply Rn | apply Rd)); exact HO_5.out)); (case aS => exact (Bz (by repeat (first | (with_reducible first | exact HB.out | apply Ba | apply Bn | apply Bd | refine Bs ?_ GE306.out) | exact HB.out)))); (case aL => have := LMc10.out; omega); intro v311 w17 ho hb hg hat; rw [← Ny310.out] at ho; have n0_ := Am (Kd.R_over' (by (with_reducible repeat (first | apply Ra | apply Rn | apply Rd)); exact HO_4.out) (Kd.R_typed (by (with_reducible repeat (first | apply Ra | apply Rn | apply Rd)); exact HO_5.out)) (by decide) hg); have n1_ := Am (blk_grown (g := gb306) (o := .cells #[.int .i64 ((rd_T26 l0 x12_1).f0), .int .i64 ((rd_T26 l0 x12_1).f1), .int .i64 ((rd_T26 l0 x12_1).f2), .int .i64 ((rd_T26 l0 x12_1).f3), .int .i64 ((rd_T26 l0 x12_1).f4)] 26 (0, 0)) (by (with_reducible repeat (first | refine Kn ?_ _ | refine Ke ?_ | refine Ka ?_ _)); exact BK306.out) hg (Kd.R_ne HO_5.out BK306.out (by decide))); have n2_ := Am (hb); have n3_ := Am (ho); clear HO_4; clear BK306; clear HB; clear HO_5; have HO_4 := n0_; have BK306 := n1_; have HB := n2_; have HO312 := n3_; clear n0_ n1_ n2_ n3_; clear ho hb hg hat))
       go_roundg k1
       case measure => have := HK1.out; omega
       case rel => exact ⟨(t309), (y310), (wrap64 (x12_1 + 1)), (by first | rfl | (simp; done) | (simp [*]; done)), H', ⟨by have := HK1.out; omega⟩, ⟨by (with_reducible repeat (first | apply Ra | apply Rn | apply Rd)); exact HO_4.out⟩, ⟨by (with_reducible repeat (first | apply Ra | apply Rn | apply Rd)); exact HO312.out⟩, ⟨by repeat (first | (with_reducible first | exact HB.out | apply Ba | apply Bn | apply Bd | refine Bs ?_ GE306.out) | exact HB.out)⟩⟩
      ·rw [if_neg c10] at H
       exact absurd H (by simp)
     ·rw [if_neg c8] at H
      exact absurd H (by simp)
    ·rw [if_neg c7] at H
     exact absurd H (by simp)
   ·rw [if_neg c6] at H
    have c6b0 : decide (x12_1 < (l0.length : Int)) = false := decide_eq_false c6
    clear c6
    simp only [Option.some.injEq, Prod.mk.injEq] at H
    obtain ⟨rfl, rfl⟩ := H
    go_wp2
    go_ret2
    exact ⟨_, _, by first | rfl | (simp [*, errW_none, errW_some] <;> rfl), by (with_reducible repeat (first | apply Ra | apply Rn | apply Rd)); exact HO_4.out, by (with_reducible repeat (first | apply Ra | apply Rn | apply Rd)); exact HO_5.out, by repeat (first | exact HB.out | apply Ba | apply Bn | apply Bd)⟩
def impl_PlayCmds.f (k : Nat) (l0 : List (S26)) : Option (List Int × (List (S30)) × Bool) := (impl_goodCmds.f l0).bind fun t313 => (if t313 = true then ((impl_playCmds.f k l0).bind fun bt314 => (some (bt314.1, bt314.2, true))) else (some (([] : List Int), ([] : List (S30)), false)))
theorem impl_PlayCmds.mono : ∀ a0 k, LeO (impl_PlayCmds.f k a0) (impl_PlayCmds.f (k + 1) a0) := by
 intro a0 k
 unfold impl_PlayCmds.f
 repeat' first
   | (with_reducible exact impl_playCmds.mono _ _)
   | (with_reducible exact LeO.refl _)
   | (with_reducible exact LeO.none _)
   | (with_reducible refine LeO.ite ?_ ?_)
   | (with_reducible refine LeO.bind ?_ (fun _ => ?_))
   | exact impl_playCmds.mono _ _
   | exact LeO.none _
   | refine LeO.ite ?_ ?_
   | refine LeO.bind ?_ (fun _ => ?_)
set_option maxHeartbeats 8000000 in
set_option maxRecDepth 100000 in
theorem impl_PlayCmds.calls (k : Nat) (A0 : Option Addr) (c0 : Nat) (l0 : List (S26)) (r1 : List Int) (r2 : List (S30)) (r3 : Bool) (w : World) (hr0 : Kd.C k26 w A0 l0.length l0) (hc0 : l0.length ≤ c0) (h : impl_PlayCmds.f k l0 = some (r1, r2, r3)) :
  Calls Try.prog 23 #[.slice A0 l0.length c0] w fun e w' => ∃ v0_ v1_ : Value, e = .returned (.tuple #[v0_, v1_, .bool r3]) ∧ Kd.R (Kd.int .i64) 3 w' w.heap.size (fun _ => True) v0_ r1 ∧ Kd.R k30 30 w' w.heap.size (fun _ => True) v1_ r2 ∧ Below w.heap.size w w' := by
 have HR0 := Am hr0
 have HC0 := Am hc0
 clear hr0 hc0
 have HB := Am (Below.refl w.heap.size w)
 have H : ((impl_goodCmds.f l0).bind fun t313 => (if t313 = true then ((impl_playCmds.f k l0).bind fun bt314 => (some (bt314.1, bt314.2, true))) else (some (([] : List Int), ([] : List (S30)), false)))) = some (r1, r2, r3) := h
 clear h
 replace H := Option.bind_eq_some_iff.mp H
 obtain ⟨t313, A20, H⟩ := H
 replace H : (if t313 = true then ((impl_playCmds.f k l0).bind fun bt314 => (some (bt314.1, bt314.2, true))) else (some (([] : List Int), ([] : List (S30)), false))) = some (r1, r2, r3) := H
 have A2 := Am A20
 clear A20
 by_cases c3 : t313 = true
 ·subst c3
  have H1 : ((impl_playCmds.f k l0).bind fun bt314 => (some (bt314.1, bt314.2, true))) = some (r1, r2, r3) := by rw [if_pos rfl] at H; exact H
  clear H
  have H := H1
  clear H1
  replace H := Option.bind_eq_some_iff.mp H
  obtain ⟨⟨t314, t315⟩, A40, H⟩ := H
  replace H : (some (t314, t315, true)) = some (r1, r2, r3) := H
  have A4 := Am A40
  clear A40
  simp only [Option.some.injEq, Prod.mk.injEq] at H
  obtain ⟨rfl, rfl, rfl⟩ := H
  go_enter Try.func23, Try.ntmps23
  go_wp2_with (first | ((refine Gc (f := 82) rfl ?_); refine goesL_ (some 8) rfl rfl Try.func82 (by kernel_rfl) rfl #[.slice A0 l0.length c0] rfl (by first | rfl | (simp only [List.map_toArray, List.map_cons, List.map_nil]; first | done | rfl)) ?_; (with_reducible refine (impl_goodCmds.calls _ _ l0 true _ ?side1 ?side2 A2.out).mono ?_); (case side1 => repeat (first | exact HR0.out | (with_reducible refine Kd.C_alloc ?_ _) | (with_reducible refine Kd.C_drewN ?_ _) | (with_reducible refine Kd.C_drew ?_))); (case side2 => exact HC0.out); rintro e w5 ⟨rfl, hb⟩; refine ⟨_, rfl, ?_⟩; have n0_ := Am (Bt (by repeat (first | exact HB.out | apply Ba | apply Bn | apply Bd)) hb); clear HB; have HB := n0_; clear n0_; (try clear hb); (try clear hb2); (try clear hk); (try clear hi)) | ((refine Gc (f := 83) rfl ?_); refine goesL_ (some 12) rfl rfl Try.func83 (by kernel_rfl) rfl #[.slice A0 l0.length c0] rfl (by first | rfl | (simp only [List.map_toArray, List.map_cons, List.map_nil]; first | done | rfl)) ?_; (with_reducible refine (impl_playCmds.calls k _ _ l0 t314 t315 _ ?side1 ?side2 A4.out).mono ?_); (case side1 => repeat (first | exact (Kd.C_below HR0.out HB.out) | (with_reducible refine Kd.C_alloc ?_ _) | (with_reducible refine Kd.C_drewN ?_ _) | (with_reducible refine Kd.C_drew ?_))); (case side2 => exact HC0.out); rintro e w6 ⟨v316, v318, rfl, ho0, ho1, hb⟩; refine ⟨_, rfl, ?_⟩; have n0_ := Am (Kd.R_lower ho0 (Bz (by repeat (first | exact HB.out | apply Ba | apply Bn | apply Bd)))); have n1_ := Am (Kd.R_lower ho1 (Bz (by repeat (first | exact HB.out | apply Ba | apply Bn | apply Bd)))); have n2_ := Am (Bt (by repeat (first | exact HB.out | apply Ba | apply Bn | apply Bd)) hb); clear HB; have HO317 := n0_; have HO319 := n1_; have HB := n2_; clear n0_ n1_ n2_; (try clear hb); (try clear hb2); (try clear hk); (try clear hi); (try clear ho0); (try clear ho1)))
  go_ret3
  exact ⟨_, _, by first | rfl | (simp [*, errW_none, errW_some] <;> rfl), by (with_reducible repeat (first | apply Ra | apply Rn | apply Rd)); exact HO317.out, by (with_reducible repeat (first | apply Ra | apply Rn | apply Rd)); exact HO319.out, by repeat (first | exact HB.out | apply Ba | apply Bn | apply Bd)⟩
 ·replace c3 := Bool.eq_false_iff.mpr c3
  subst c3
  have H1 : (some (([] : List Int), ([] : List (S30)), false)) = some (r1, r2, r3) := by rw [if_neg (show ¬ (false = true) by decide)] at H; exact H
  clear H
  have H := H1
  clear H1
  simp only [Option.some.injEq, Prod.mk.injEq] at H
  obtain ⟨rfl, rfl, rfl⟩ := H
  go_enter Try.func23, Try.ntmps23
  go_wp2_with (first | ((refine Gc (f := 82) rfl ?_); refine goesL_ (some 8) rfl rfl Try.func82 (by kernel_rfl) rfl #[.slice A0 l0.length c0] rfl (by first | rfl | (simp only [List.map_toArray, List.map_cons, List.map_nil]; first | done | rfl)) ?_; (with_reducible refine (impl_goodCmds.calls _ _ l0 false _ ?side1 ?side2 A2.out).mono ?_); (case side1 => repeat (first | exact HR0.out | (with_reducible refine Kd.C_alloc ?_ _) | (with_reducible refine Kd.C_drewN ?_ _) | (with_reducible refine Kd.C_drew ?_))); (case side2 => exact HC0.out); rintro e w7 ⟨rfl, hb⟩; refine ⟨_, rfl, ?_⟩; have n0_ := Am (Bt (by repeat (first | exact HB.out | apply Ba | apply Bn | apply Bd)) hb); clear HB; have HB := n0_; clear n0_; (try clear hb); (try clear hb2); (try clear hk); (try clear hi)))
  go_ret3
  exact ⟨_, _, by first | rfl | (simp [*, errW_none, errW_some] <;> rfl), by first | exact Kd.R_nil _ _ _ _ _ | exact Kd.N_nil _ _ _ _ _ | exact Kd.V_nil _ _ _ _ _ | exact Kd.Q_nil _ _ _ _ _ | exact Kd.S_nil _ _ _ _ _, by first | exact Kd.R_nil _ _ _ _ _ | exact Kd.N_nil _ _ _ _ _ | exact Kd.V_nil _ _ _ _ _ | exact Kd.Q_nil _ _ _ _ _ | exact Kd.S_nil _ _ _ _ _, by repeat (first | exact HB.out | apply Ba | apply Bn | apply Bd)⟩
def spec_l11Cmds.l0 : Nat → List (S26) → List (S26) → Int → Int → Option (Bool)
 | 0, _, _, _, _ => none
 | k + 1, x0, x5, x6, x7 => if x7 < x6 then (if 0 ≤ x7 then (if x7 < (x5.length : Int) then ((spec_GoodCmd.f ((rd_T26 x5 x7).f0) ((rd_T26 x5 x7).f1) ((rd_T26 x5 x7).f2) ((rd_T26 x5 x7).f3) ((rd_T26 x5 x7).f4)).bind fun t322 => (if t322 = true then (spec_l11Cmds.l0 k x0 x5 x6 (wrap64 (x7 + 1))) else (some false))) else (none)) else (none)) else (some (decide ((x0.length : Int) ≤ 60)))
def spec_l11Cmds.f (k : Nat) (l0 : List (S26)) : Option (Bool) := spec_l11Cmds.l0 k l0 l0 (l0.length : Int) 0
theorem spec_l11Cmds.mono_l : ∀ k, (∀ y0 y1 y2 y3, LeO (spec_l11Cmds.l0 k y0 y1 y2 y3) (spec_l11Cmds.l0 (k + 1) y0 y1 y2 y3))
 | 0 => fun _ _ _ _ r h => by simp [spec_l11Cmds.l0] at h
 | k + 1 => by
  have ih0 := spec_l11Cmds.mono_l k
  ·intro y0 y1 y2 y3
   unfold spec_l11Cmds.l0
   repeat' first
   | (with_reducible exact ih0 _ _ _ _)
   | (with_reducible exact LeO.refl _)
   | (with_reducible exact LeO.none _)
   | (with_reducible refine LeO.ite ?_ ?_)
   | (with_reducible refine LeO.bind ?_ (fun _ => ?_))
   | exact ih0 _ _ _ _
   | exact LeO.none _
   | refine LeO.ite ?_ ?_
   | refine LeO.bind ?_ (fun _ => ?_)
theorem spec_l11Cmds.mono : ∀ a0 k, LeO (spec_l11Cmds.f k a0) (spec_l11Cmds.f (k + 1) a0) := by
 intro a0 k
 have ih0 := spec_l11Cmds.mono_l k
 unfold spec_l11Cmds.f
 repeat' first
   | (with_reducible exact ih0 _ _ _ _)
   | (with_reducible exact LeO.refl _)
   | (with_reducible exact LeO.none _)
   | (with_reducible refine LeO.ite ?_ ?_)
   | (with_reducible refine LeO.bind ?_ (fun _ => ?_))
   | exact ih0 _ _ _ _
   | exact LeO.none _
   | refine LeO.ite ?_ ?_
   | refine LeO.bind ?_ (fun _ => ?_)
set_option maxHeartbeats 8000000 in
set_option maxRecDepth 100000 in
theorem spec_l11Cmds.calls (k : Nat) (A0 : Option Addr) (c0 : Nat) (l0 : List (S26)) (r : Bool) (w : World) (hr0 : Kd.C k26 w A0 l0.length l0) (hc0 : l0.length ≤ c0) (h : spec_l11Cmds.f k l0 = some r) :
  Calls Try.prog 84 #[.slice A0 l0.length c0] w fun e w' => e = .returned (.bool r) ∧ Below w.heap.size w w' := by
 have hu26 := Try.underlying26
 have HR0 := Am hr0
 have HC0 := Am hc0
 clear hr0 hc0
 have HB := Am (Below.refl w.heap.size w)
 have H : (spec_l11Cmds.l0 k l0 l0 (l0.length : Int) 0) = some r := h
 clear h
 have H' := Am H
 clear H
 go_enter Try.func84, Try.ntmps84
 go_wp2
 go_loopg [7] k (fun kq v7 w' => ∃ (x7_1 : Int), v7 = .int .i64 x7_1 ∧ Ad (spec_l11Cmds.l0 kq l0 l0 (l0.length : Int) x7_1 = some r) ∧ Ad (kq ≤ k) ∧ Ad (Below w.heap.size w w'))
 case atStart => exact ⟨(0), (by first | rfl | (simp; done) | (simp [*]; done)), H', ⟨Nat.le_refl _⟩, ⟨by repeat (first | exact HB.out | apply Ba | apply Bn | apply Bd)⟩⟩
 case round =>
  clear H'
  obtain ⟨x7_1, rfl, HA, HK1, HB⟩ := hrel
  cases gk with
  | zero => exact absurd HA.out (by simp [spec_l11Cmds.l0])
  | succ k1 =>
   have H := HA.out
   clear HA
   simp only [spec_l11Cmds.l0] at H
   by_cases c2 : x7_1 < (l0.length : Int)
   ·rw [if_pos c2] at H
    have c2b0 : decide (x7_1 < (l0.length : Int)) = true := decide_eq_true c2
    clear c2
    by_cases c3 : 0 ≤ x7_1
    ·rw [if_pos c3] at H
     have c3b0 : decide (0 ≤ x7_1) = true := decide_eq_true c3
     clear c3
     by_cases c4 : x7_1 < (l0.length : Int)
     ·rw [if_pos c4] at H
      have c4b0 : decide (x7_1 < (l0.length : Int)) = true := decide_eq_true c4
      clear c4
      replace H := Option.bind_eq_some_iff.mp H
      obtain ⟨t322, A50, H⟩ := H
      replace H : (if t322 = true then (spec_l11Cmds.l0 k1 l0 l0 (l0.length : Int) (wrap64 (x7_1 + 1))) else (some false)) = some r := H
      have A5 := Am A50
      clear A50
      by_cases c6 : t322 = true
      ·subst c6
       have H1 : (spec_l11Cmds.l0 k1 l0 l0 (l0.length : Int) (wrap64 (x7_1 + 1))) = some r := by rw [if_pos rfl] at H; exact H
       clear H
       have H := H1
       clear H1
       have H' := Am H
       clear H
       have p320 : 0 ≤ (x7_1 : Int) := of_decide_eq_true (by assumption)
       have q320 : x7_1 < (l0.length : Int) := of_decide_eq_true (by assumption)
       obtain ⟨ad320, e320, hx320_0, hx320_1, hx320_2, hx320_3, hx320_4⟩ := at_T26 HR0.out x7_1 p320 q320
       cases e320
       replace hx320_0 := (HB.out.cell (bl_ w _ hx320_0)).trans hx320_0
       replace hx320_1 := (HB.out.cell (bl_ w _ hx320_1)).trans hx320_1
       replace hx320_2 := (HB.out.cell (bl_ w _ hx320_2)).trans hx320_2
       replace hx320_3 := (HB.out.cell (bl_ w _ hx320_3)).trans hx320_3
       replace hx320_4 := (HB.out.cell (bl_ w _ hx320_4)).trans hx320_4
       replace p320 := eq_true p320
       replace q320 := eq_true q320
       go_wp2_with (first | ((refine Gd (N := 4) rfl ?_); refine Be ?hg (N := 4) ?hd (cs := #[.int .i64 0, .int .i64 0, .int .i64 0, .int .i64 0, .int .i64 0]) (t := 26) ?hr ?_; (case hd | hg => rfl); (case hr => first | (go_simp; done) | (go_simp; rfl)); intro gb321 hg w7 hbox hb; have n0_ := Am (Bt (by repeat (first | exact HB.out | apply Ba | apply Bn | apply Bd)) hb); have n1_ := Am (hbox); have n2_ := Am ((by rw [hg]; exact (Bz (by repeat (first | exact HB.out | apply Ba | apply Bn | apply Bd))) : w.heap.size ≤ gb321)); have n3_ := Am ((by rw [hg]; exact (Bz (by repeat (first | exact HB.out | apply Ba | apply Bn | apply Bd))) : w.heap.size ≤ gb321)); clear HB; have HB := n0_; have BK321 := n1_; have GW321 := n2_; have GE321 := n3_; clear n0_ n1_ n2_ n3_; clear hb hbox hg; have hcz8_0 : w7.cell? ⟨gb321, 0, none⟩ = some (.int .i64 0) := (Kc BK321.out 0).trans rfl; have hcz8_1 : w7.cell? ⟨gb321, 1, none⟩ = some (.int .i64 0) := (Kc BK321.out 1).trans rfl; have hcz8_2 : w7.cell? ⟨gb321, 2, none⟩ = some (.int .i64 0) := (Kc BK321.out 2).trans rfl; have hcz8_3 : w7.cell? ⟨gb321, 3, none⟩ = some (.int .i64 0) := (Kc BK321.out 3).trans rfl; have hcz8_4 : w7.cell? ⟨gb321, 4, none⟩ = some (.int .i64 0) := (Kc BK321.out 4).trans rfl; have hfz8_0 := Kz BK321.out 0; have hfz8_1 := Kz BK321.out 1; have hfz8_2 := Kz BK321.out 2; have hfz8_3 := Kz BK321.out 3; have hfz8_4 := Kz BK321.out 4) | ((refine Gc (f := 72) rfl ?_); refine goesL_ (some 12) rfl rfl Try.func72 (by kernel_rfl) rfl #[.agg #[.int .i64 ((rd_T26 l0 x7_1).f0), .int .i64 ((rd_T26 l0 x7_1).f1), .int .i64 ((rd_T26 l0 x7_1).f2), .int .i64 ((rd_T26 l0 x7_1).f3), .int .i64 ((rd_T26 l0 x7_1).f4)]] rfl (by first | rfl | (simp only [List.map_toArray, List.map_cons, List.map_nil]; first | done | rfl)) ?_; (with_reducible refine (spec_GoodCmd.calls ((rd_T26 l0 x7_1).f0) ((rd_T26 l0 x7_1).f1) ((rd_T26 l0 x7_1).f2) ((rd_T26 l0 x7_1).f3) ((rd_T26 l0 x7_1).f4) true _ A5.out).mono ?_); rintro e w9 ⟨rfl, hb⟩; refine ⟨_, rfl, ?_⟩; have n0_ := Am (Kb (g := gb321) (o := .cells #[.int .i64 ((rd_T26 l0 x7_1).f0), .int .i64 ((rd_T26 l0 x7_1).f1), .int .i64 ((rd_T26 l0 x7_1).f2), .int .i64 ((rd_T26 l0 x7_1).f3), .int .i64 ((rd_T26 l0 x7_1).f4)] 26 (0, 0)) (by (with_reducible repeat (first | refine Kn ?_ _ | refine Ke ?_ | refine Ka ?_ _)); refine blk_put (cs := #[.int .i64 ((rd_T26 l0 x7_1).f0), .int .i64 ((rd_T26 l0 x7_1).f1), .int .i64 ((rd_T26 l0 x7_1).f2), .int .i64 ((rd_T26 l0 x7_1).f3), .int .i64 0]) ?_ 4 _ rfl; (with_reducible repeat (first | refine Kn ?_ _ | refine Ke ?_ | refine Ka ?_ _)); refine blk_put (cs := #[.int .i64 ((rd_T26 l0 x7_1).f0), .int .i64 ((rd_T26 l0 x7_1).f1), .int .i64 ((rd_T26 l0 x7_1).f2), .int .i64 0, .int .i64 0]) ?_ 3 _ rfl; (with_reducible repeat (first | refine Kn ?_ _ | refine Ke ?_ | refine Ka ?_ _)); refine blk_put (cs := #[.int .i64 ((rd_T26 l0 x7_1).f0), .int .i64 ((rd_T26 l0 x7_1).f1), .int .i64 0, .int .i64 0, .int .i64 0]) ?_ 2 _ rfl; (with_reducible repeat (first | refine Kn ?_ _ | refine Ke ?_ | refine Ka ?_ _)); refine blk_put (cs := #[.int .i64 ((rd_T26 l0 x7_1).f0), .int .i64 0, .int .i64 0, .int .i64 0, .int .i64 0]) ?_ 1 _ rfl; (with_reducible repeat (first | refine Kn ?_ _ | refine Ke ?_ | refine Ka ?_ _)); refine blk_put (cs := #[.int .i64 0, .int .i64 0, .int .i64 0, .int .i64 0, .int .i64 0]) ?_ 0 _ rfl; (with_reducible repeat (first | refine Kn ?_ _ | refine Ke ?_ | refine Ka ?_ _)); exact BK321.out) hb); have n1_ := Am (Bt (by repeat (first | (with_reducible first | exact HB.out | apply Ba | apply Bn | apply Bd | refine Bs ?_ GE321.out) | exact HB.out)) hb); clear BK321; clear HB; have BK321 := n0_; have HB := n1_; clear n0_ n1_; (try clear hb); (try clear hb2); (try clear hk); (try clear hi)))
       go_roundg k1
       case measure => have := HK1.out; omega
       case rel => exact ⟨(wrap64 (x7_1 + 1)), (by first | rfl | (simp; done) | (simp [*]; done)), H', ⟨by have := HK1.out; omega⟩, ⟨by repeat (first | (with_reducible first | exact HB.out | apply Ba | apply Bn | apply Bd | refine Bs ?_ GE321.out) | exact HB.out)⟩⟩
      ·replace c6 := Bool.eq_false_iff.mpr c6
       subst c6
       have H1 : (some false) = some r := by rw [if_neg (show ¬ (false = true) by decide)] at H; exact H
       clear H
       have H := H1
       clear H1
       obtain rfl := Option.some.inj H
       have p320 : 0 ≤ (x7_1 : Int) := of_decide_eq_true (by assumption)
       have q320 : x7_1 < (l0.length : Int) := of_decide_eq_true (by assumption)
       obtain ⟨ad320, e320, hx320_0, hx320_1, hx320_2, hx320_3, hx320_4⟩ := at_T26 HR0.out x7_1 p320 q320
       cases e320
       replace hx320_0 := (HB.out.cell (bl_ w _ hx320_0)).trans hx320_0
       replace hx320_1 := (HB.out.cell (bl_ w _ hx320_1)).trans hx320_1
       replace hx320_2 := (HB.out.cell (bl_ w _ hx320_2)).trans hx320_2
       replace hx320_3 := (HB.out.cell (bl_ w _ hx320_3)).trans hx320_3
       replace hx320_4 := (HB.out.cell (bl_ w _ hx320_4)).trans hx320_4
       replace p320 := eq_true p320
       replace q320 := eq_true q320
       go_wp2_with (first | ((refine Gd (N := 4) rfl ?_); refine Be ?hg (N := 4) ?hd (cs := #[.int .i64 0, .int .i64 0, .int .i64 0, .int .i64 0, .int .i64 0]) (t := 26) ?hr ?_; (case hd | hg => rfl); (case hr => first | (go_simp; done) | (go_simp; rfl)); intro gb321 hg w10 hbox hb; have n0_ := Am (Bt (by repeat (first | exact HB.out | apply Ba | apply Bn | apply Bd)) hb); have n1_ := Am (hbox); have n2_ := Am ((by rw [hg]; exact (Bz (by repeat (first | exact HB.out | apply Ba | apply Bn | apply Bd))) : w.heap.size ≤ gb321)); have n3_ := Am ((by rw [hg]; exact (Bz (by repeat (first | exact HB.out | apply Ba | apply Bn | apply Bd))) : w.heap.size ≤ gb321)); clear HB; have HB := n0_; have BK321 := n1_; have GW321 := n2_; have GE321 := n3_; clear n0_ n1_ n2_ n3_; clear hb hbox hg; have hcz11_0 : w10.cell? ⟨gb321, 0, none⟩ = some (.int .i64 0) := (Kc BK321.out 0).trans rfl; have hcz11_1 : w10.cell? ⟨gb321, 1, none⟩ = some (.int .i64 0) := (Kc BK321.out 1).trans rfl; have hcz11_2 : w10.cell? ⟨gb321, 2, none⟩ = some (.int .i64 0) := (Kc BK321.out 2).trans rfl; have hcz11_3 : w10.cell? ⟨gb321, 3, none⟩ = some (.int .i64 0) := (Kc BK321.out 3).trans rfl; have hcz11_4 : w10.cell? ⟨gb321, 4, none⟩ = some (.int .i64 0) := (Kc BK321.out 4).trans rfl; have hfz11_0 := Kz BK321.out 0; have hfz11_1 := Kz BK321.out 1; have hfz11_2 := Kz BK321.out 2; have hfz11_3 := Kz BK321.out 3; have hfz11_4 := Kz BK321.out 4) | ((refine Gc (f := 72) rfl ?_); refine goesL_ (some 12) rfl rfl Try.func72 (by kernel_rfl) rfl #[.agg #[.int .i64 ((rd_T26 l0 x7_1).f0), .int .i64 ((rd_T26 l0 x7_1).f1), .int .i64 ((rd_T26 l0 x7_1).f2), .int .i64 ((rd_T26 l0 x7_1).f3), .int .i64 ((rd_T26 l0 x7_1).f4)]] rfl (by first | rfl | (simp only [List.map_toArray, List.map_cons, List.map_nil]; first | done | rfl)) ?_; (with_reducible refine (spec_GoodCmd.calls ((rd_T26 l0 x7_1).f0) ((rd_T26 l0 x7_1).f1) ((rd_T26 l0 x7_1).f2) ((rd_T26 l0 x7_1).f3) ((rd_T26 l0 x7_1).f4) false _ A5.out).mono ?_); rintro e w12 ⟨rfl, hb⟩; refine ⟨_, rfl, ?_⟩; have n0_ := Am (Kb (g := gb321) (o := .cells #[.int .i64 ((rd_T26 l0 x7_1).f0), .int .i64 ((rd_T26 l0 x7_1).f1), .int .i64 ((rd_T26 l0 x7_1).f2), .int .i64 ((rd_T26 l0 x7_1).f3), .int .i64 ((rd_T26 l0 x7_1).f4)] 26 (0, 0)) (by (with_reducible repeat (first | refine Kn ?_ _ | refine Ke ?_ | refine Ka ?_ _)); refine blk_put (cs := #[.int .i64 ((rd_T26 l0 x7_1).f0), .int .i64 ((rd_T26 l0 x7_1).f1), .int .i64 ((rd_T26 l0 x7_1).f2), .int .i64 ((rd_T26 l0 x7_1).f3), .int .i64 0]) ?_ 4 _ rfl; (with_reducible repeat (first | refine Kn ?_ _ | refine Ke ?_ | refine Ka ?_ _)); refine blk_put (cs := #[.int .i64 ((rd_T26 l0 x7_1).f0), .int .i64 ((rd_T26 l0 x7_1).f1), .int .i64 ((rd_T26 l0 x7_1).f2), .int .i64 0, .int .i64 0]) ?_ 3 _ rfl; (with_reducible repeat (first | refine Kn ?_ _ | refine Ke ?_ | refine Ka ?_ _)); refine blk_put (cs := #[.int .i64 ((rd_T26 l0 x7_1).f0), .int .i64 ((rd_T26 l0 x7_1).f1), .int .i64 0, .int .i64 0, .int .i64 0]) ?_ 2 _ rfl; (with_reducible repeat (first | refine Kn ?_ _ | refine Ke ?_ | refine Ka ?_ _)); refine blk_put (cs := #[.int .i64 ((rd_T26 l0 x7_1).f0), .int .i64 0, .int .i64 0, .int .i64 0, .int .i64 0]) ?_ 1 _ rfl; (with_reducible repeat (first | refine Kn ?_ _ | refine Ke ?_ | refine Ka ?_ _)); refine blk_put (cs := #[.int .i64 0, .int .i64 0, .int .i64 0, .int .i64 0, .int .i64 0]) ?_ 0 _ rfl; (with_reducible repeat (first | refine Kn ?_ _ | refine Ke ?_ | refine Ka ?_ _)); exact BK321.out) hb); have n1_ := Am (Bt (by repeat (first | (with_reducible first | exact HB.out | apply Ba | apply Bn | apply Bd | refine Bs ?_ GE321.out) | exact HB.out)) hb); clear BK321; clear HB; have BK321 := n0_; have HB := n1_; clear n0_ n1_; (try clear hb); (try clear hb2); (try clear hk); (try clear hi)))
       go_ret
       exact ⟨by first | rfl | (simp [*, errW_none, errW_some] <;> rfl), by repeat (first | (with_reducible first | exact HB.out | apply Ba | apply Bn | apply Bd | refine Bs ?_ GE321.out) | exact HB.out)⟩
     ·rw [if_neg c4] at H
      exact absurd H (by simp)
    ·rw [if_neg c3] at H
     exact absurd H (by simp)
   ·rw [if_neg c2] at H
    have c2b0 : decide (x7_1 < (l0.length : Int)) = false := decide_eq_false c2
    clear c2
    obtain rfl := Option.some.inj H
    go_wp2
    go_ret
    exact ⟨by first | rfl | (simp [*, errW_none, errW_some] <;> rfl), by repeat (first | exact HB.out | apply Ba | apply Bn | apply Bd)⟩
def spec_l11Play.l0 : Nat → List Int → List (S30) → List (S26) → Int → Int → Option (List Int × (List (S30)))
 | 0, _, _, _, _, _ => none
 | k + 1, x4, x5, x11, x12, x13 => if x13 < x12 then (if 0 ≤ x13 then (if x13 < (x11.length : Int) then ((spec_l11Apply.f x4 ((rd_T26 x11 x13).f0) ((rd_T26 x11 x13).f1) ((rd_T26 x11 x13).f2) ((rd_T26 x11 x13).f3) ((rd_T26 x11 x13).f4)).bind fun bt328 => (if x5.length < 8796093022208 then (spec_l11Play.l0 k bt328.1 (x5 ++ [(⟨bt328.2.1, bt328.2.2⟩ : S30)]) x11 x12 (wrap64 (x13 + 1))) else (none))) else (none)) else (none)) else (some (x4, x5))
def spec_l11Play.f (k : Nat) (l0 : List (S26)) : Option (List Int × (List (S30))) := (spec_NewSums.f k).bind fun t323 => (spec_l11Play.l0 k t323 ([] : List (S30)) l0 (l0.length : Int) 0)
theorem spec_l11Play.mono_l : ∀ k, (∀ y0 y1 y2 y3 y4, LeO (spec_l11Play.l0 k y0 y1 y2 y3 y4) (spec_l11Play.l0 (k + 1) y0 y1 y2 y3 y4))
 | 0 => fun _ _ _ _ _ r h => by simp [spec_l11Play.l0] at h
 | k + 1 => by
  have ih0 := spec_l11Play.mono_l k
  ·intro y0 y1 y2 y3 y4
   unfold spec_l11Play.l0
   repeat' first
   | (with_reducible exact ih0 _ _ _ _ _)
   | (with_reducible exact spec_NewSums.mono _)
   | (with_reducible exact LeO.refl _)
   | (with_reducible exact LeO.none _)
   | (with_reducible refine LeO.ite ?_ ?_)
   | (with_reducible refine LeO.bind ?_ (fun _ => ?_))
   | exact ih0 _ _ _ _ _
   | exact spec_NewSums.mono _
   | exact LeO.none _
   | refine LeO.ite ?_ ?_
   | refine LeO.bind ?_ (fun _ => ?_)
theorem spec_l11Play.mono : ∀ a0 k, LeO (spec_l11Play.f k a0) (spec_l11Play.f (k + 1) a0) := by
 intro a0 k
 have ih0 := spec_l11Play.mono_l k
 unfold spec_l11Play.f
 repeat' first
   | (with_reducible exact ih0 _ _ _ _ _)
   | (with_reducible exact spec_NewSums.mono _)
   | (with_reducible exact LeO.refl _)
   | (with_reducible exact LeO.none _)
   | (with_reducible refine LeO.ite ?_ ?_)
   | (with_reducible refine LeO.bind ?_ (fun _ => ?_))
   | exact ih0 _ _ _ _ _
   | exact spec_NewSums.mono _
   | exact LeO.none _
   | refine LeO.ite ?_ ?_
   | refine LeO.bind ?_ (fun _ => ?_)
set_option maxHeartbeats 8000000 in
set_option maxRecDepth 100000 in
theorem spec_l11Play.calls (k : Nat) (A0 : Option Addr) (c0 : Nat) (l0 : List (S26)) (r1 : List Int) (r2 : List (S30)) (w : World) (hr0 : Kd.C k26 w A0 l0.length l0) (hc0 : l0.length ≤ c0) (h : spec_l11Play.f k l0 = some (r1, r2)) :
  Calls Try.prog 85 #[.slice A0 l0.length c0] w fun e w' => ∃ v0_ v1_ : Value, e = .returned (.tuple #[v0_, v1_]) ∧ Kd.R (Kd.int .i64) 3 w' w.heap.size (fun _ => True) v0_ r1 ∧ Kd.R k30 30 w' w.heap.size (fun _ => True) v1_ r2 ∧ Below w.heap.size w w' := by
 have hu26 := Try.underlying26
 have hu30 := Try.underlying30
 have HR0 := Am hr0
 have HC0 := Am hc0
 clear hr0 hc0
 have HB := Am (Below.refl w.heap.size w)
 have H : ((spec_NewSums.f k).bind fun t323 => (spec_l11Play.l0 k t323 ([] : List (S30)) l0 (l0.length : Int) 0)) = some (r1, r2) := h
 clear h
 replace H := Option.bind_eq_some_iff.mp H
 obtain ⟨t323, A20, H⟩ := H
 replace H : (spec_l11Play.l0 k t323 ([] : List (S30)) l0 (l0.length : Int) 0) = some (r1, r2) := H
 have A2 := Am A20
 clear A20
 have H' := Am H
 clear H
 go_enter Try.func85, Try.ntmps85
 go_wp2_with (first | ((refine Gc (f := 19) rfl ?_); refine goesL_ (some 10) rfl rfl Try.func19 (by kernel_rfl) rfl #[] rfl (by first | rfl | (simp only [List.map_toArray, List.map_cons, List.map_nil]; first | done | rfl)) ?_; (with_reducible refine (spec_NewSums.calls k  t323 _ A2.out).mono ?_); rintro e w3 ⟨v324, rfl, ho0, hb⟩; refine ⟨_, rfl, ?_⟩; have n0_ := Am (Kd.R_lower ho0 (Bz (by repeat (first | exact HB.out | apply Ba | apply Bn | apply Bd)))); have n1_ := Am (Bt (by repeat (first | exact HB.out | apply Ba | apply Bn | apply Bd)) hb); clear HB; have HO325 := n0_; have HB := n1_; clear n0_ n1_; (try clear hb); (try clear hb2); (try clear hk); (try clear hi); (try clear ho0)))
 go_loopg [4, 5, 13] k (fun kq v4 v5 v13 w' => ∃ (x4_1 : List Int) (x5_1 : List (S30)) (x13_1 : Int), v13 = .int .i64 x13_1 ∧ Ad (spec_l11Play.l0 kq x4_1 x5_1 l0 (l0.length : Int) x13_1 = some (r1, r2)) ∧ Ad (kq ≤ k) ∧ Ad (Kd.R (Kd.int .i64) 3 w' w.heap.size (fun _ => True) v4 x4_1) ∧ Ad (Kd.R k30 30 w' w.heap.size (fun _ => True) v5 x5_1) ∧ Ad (Below w.heap.size w w'))
 case atStart => exact ⟨(t323), (([] : List (S30))), (0), (by first | rfl | (simp; done) | (simp [*]; done)), H', ⟨Nat.le_refl _⟩, ⟨by (with_reducible repeat (first | apply Ra | apply Rn | apply Rd)); exact HO325.out⟩, ⟨by first | exact Kd.R_nil _ _ _ _ _ | exact Kd.N_nil _ _ _ _ _ | exact Kd.V_nil _ _ _ _ _ | exact Kd.Q_nil _ _ _ _ _ | exact Kd.S_nil _ _ _ _ _⟩, ⟨by repeat (first | exact HB.out | apply Ba | apply Bn | apply Bd)⟩⟩
 case round =>
  clear H'
  try clear c1
  try clear p2
  obtain ⟨x4_1, x5_1, x13_1, rfl, HA, HK1, HO_4, HO_5, HB⟩ := hrel
  cases gk with
  | zero => exact absurd HA.out (by simp [spec_l11Play.l0])
  | succ k1 =>
   have H := HA.out
   clear HA
   simp only [spec_l11Play.l0] at H
   by_cases c4 : x13_1 < (l0.length : Int)
   ·rw [if_pos c4] at H
    have c4b0 : decide (x13_1 < (l0.length : Int)) = true := decide_eq_true c4
    clear c4
    by_cases c5 : 0 ≤ x13_1
    ·rw [if_pos c5] at H
     have c5b0 : decide (0 ≤ x13_1) = true := decide_eq_true c5
     clear c5
     by_cases c6 : x13_1 < (l0.length : Int)
     ·rw [if_pos c6] at H
      have c6b0 : decide (x13_1 < (l0.length : Int)) = true := decide_eq_true c6
      clear c6
      replace H := Option.bind_eq_some_iff.mp H
      obtain ⟨⟨t328, t331, t332⟩, A70, H⟩ := H
      replace H : (if x5_1.length < 8796093022208 then (spec_l11Play.l0 k1 t328 (x5_1 ++ [(⟨t331, t332⟩ : S30)]) l0 (l0.length : Int) (wrap64 (x13_1 + 1))) else (none)) = some (r1, r2) := H
      have A7 := Am A70
      clear A70
      by_cases c8 : x5_1.length < 8796093022208
      ·rw [if_pos c8] at H
       have LMc8 := Am c8
       clear c8
       obtain ⟨y334, hy334⟩ : ∃ y_ : List (S30), y_ = (x5_1 ++ [(⟨t331, t332⟩ : S30)]) := ⟨_, rfl⟩
       replace H : (spec_l11Play.l0 k1 t328 y334 l0 (l0.length : Int) (wrap64 (x13_1 + 1))) = some (r1, r2) := by first | (rw [hy334]; with_reducible exact H) | (have H2_ := (Option.bind_some _ _).symm.trans H; rw [hy334]; with_reducible exact H2_) | (have H2_ := (Option.bind_some _ _).symm.trans H; with_reducible exact H2_) | with_reducible exact H | (rw [hy334]; exact H) | exact H
       have Ny334 := Am hy334
       clear hy334
       have H' := Am H
       clear H
       have p326 : 0 ≤ (x13_1 : Int) := of_decide_eq_true (by assumption)
       have q326 : x13_1 < (l0.length : Int) := of_decide_eq_true (by assumption)
       obtain ⟨ad326, e326, hx326_0, hx326_1, hx326_2, hx326_3, hx326_4⟩ := at_T26 HR0.out x13_1 p326 q326
       cases e326
       replace hx326_0 := (HB.out.cell (bl_ w _ hx326_0)).trans hx326_0
       replace hx326_1 := (HB.out.cell (bl_ w _ hx326_1)).trans hx326_1
       replace hx326_2 := (HB.out.cell (bl_ w _ hx326_2)).trans hx326_2
       replace hx326_3 := (HB.out.cell (bl_ w _ hx326_3)).trans hx326_3
       replace hx326_4 := (HB.out.cell (bl_ w _ hx326_4)).trans hx326_4
       replace p326 := eq_true p326
       replace q326 := eq_true q326
       go_wp2_with (first | ((refine Gd (N := 7) rfl ?_); refine Be ?hg (N := 7) ?hd (cs := #[.int .i64 0, .int .i64 0, .int .i64 0, .int .i64 0, .int .i64 0]) (t := 26) ?hr ?_; (case hd | hg => rfl); (case hr => first | (go_simp; done) | (go_simp; rfl)); intro gb327 hg w9 hbox hb; have n0_ := Am (Kd.R_below (by (with_reducible repeat (first | apply Ra | apply Rn | apply Rd)); exact HO_4.out) hb); have n1_ := Am (Kd.R_below (by (with_reducible repeat (first | apply Ra | apply Rn | apply Rd)); exact HO_5.out) hb); have n2_ := Am (Bt (by repeat (first | exact HB.out | apply Ba | apply Bn | apply Bd)) hb); have n3_ := Am (hbox); have n4_ := Am ((by rw [hg]; exact (Bz (by repeat (first | exact HB.out | apply Ba | apply Bn | apply Bd))) : w.heap.size ≤ gb327)); have n5_ := Am ((by rw [hg]; exact (Bz (by repeat (first | exact HB.out | apply Ba | apply Bn | apply Bd))) : w.heap.size ≤ gb327)); clear HO_4; clear HO_5; clear HB; have HO_4 := n0_; have HO_5 := n1_; have HB := n2_; have BK327 := n3_; have GW327 := n4_; have GE327 := n5_; clear n0_ n1_ n2_ n3_ n4_ n5_; clear hb hbox hg; have hcz10_0 : w9.cell? ⟨gb327, 0, none⟩ = some (.int .i64 0) := (Kc BK327.out 0).trans rfl; have hcz10_1 : w9.cell? ⟨gb327, 1, none⟩ = some (.int .i64 0) := (Kc BK327.out 1).trans rfl; have hcz10_2 : w9.cell? ⟨gb327, 2, none⟩ = some (.int .i64 0) := (Kc BK327.out 2).trans rfl; have hcz10_3 : w9.cell? ⟨gb327, 3, none⟩ = some (.int .i64 0) := (Kc BK327.out 3).trans rfl; have hcz10_4 : w9.cell? ⟨gb327, 4, none⟩ = some (.int .i64 0) := (Kc BK327.out 4).trans rfl; have hfz10_0 := Kz BK327.out 0; have hfz10_1 := Kz BK327.out 1; have hfz10_2 := Kz BK327.out 2; have hfz10_3 := Kz BK327.out 3; have hfz10_4 := Kz BK327.out 4; obtain ⟨Ao11, co11, eo11⟩ := Kd.R_slice HO_4.out; subst eo11) | ((refine Gc (f := 73) rfl ?_); refine goesL_ (some 20) rfl rfl Try.func73 (by kernel_rfl) rfl #[.slice Ao11 x4_1.length co11, .agg #[.int .i64 ((rd_T26 l0 x13_1).f0), .int .i64 ((rd_T26 l0 x13_1).f1), .int .i64 ((rd_T26 l0 x13_1).f2), .int .i64 ((rd_T26 l0 x13_1).f3), .int .i64 ((rd_T26 l0 x13_1).f4)]] rfl (by first | rfl | (simp only [List.map_toArray, List.map_cons, List.map_nil]; first | done | rfl)) ?_; (with_reducible refine (spec_l11Apply.calls _ _ x4_1 ((rd_T26 l0 x13_1).f0) ((rd_T26 l0 x13_1).f1) ((rd_T26 l0 x13_1).f2) ((rd_T26 l0 x13_1).f3) ((rd_T26 l0 x13_1).f4) t328 t331 t332 _ ?side1 ?side2 A7.out).mono ?_); (case side1 => refine (Kd.R_reads' (e := 3) (base := w.heap.size) (ok := fun k_ => True) (n := x4_1.length) (c := co11) ?_).2.2; exact (by (with_reducible repeat (first | apply Ra | apply Rn | apply Rd)); exact (Kd.R_mono (Kd.R_far (p := ⟨gb327, 4, none⟩) (Kd.R_far (p := ⟨gb327, 3, none⟩) (Kd.R_far (p := ⟨gb327, 2, none⟩) (Kd.R_far (p := ⟨gb327, 1, none⟩) (Kd.R_far (p := ⟨gb327, 0, none⟩) (Kd.R_types HO_4.out BK327.out (by decide)) (fun _ hk => hk.2) (.int .i64 ((rd_T26 l0 x13_1).f0))) (fun _ hk => hk.2) (.int .i64 ((rd_T26 l0 x13_1).f1))) (fun _ hk => hk.2) (.int .i64 ((rd_T26 l0 x13_1).f2))) (fun _ hk => hk.2) (.int .i64 ((rd_T26 l0 x13_1).f3))) (fun _ hk => hk.2) (.int .i64 ((rd_T26 l0 x13_1).f4))) (fun _ h_ => h_.1)))); (case side2 => exact (Kd.R_reads' HO_4.out).2.1); rintro e w12 ⟨v329, rfl, ho0, hb⟩; refine ⟨_, rfl, ?_⟩; have n0_ := Am (Kd.R_elder' (by (with_reducible repeat (first | apply Ra | apply Rn | apply Rd)); exact (Kd.R_mono (Kd.R_far (p := ⟨gb327, 4, none⟩) (Kd.R_far (p := ⟨gb327, 3, none⟩) (Kd.R_far (p := ⟨gb327, 2, none⟩) (Kd.R_far (p := ⟨gb327, 1, none⟩) (Kd.R_far (p := ⟨gb327, 0, none⟩) (Kd.R_types HO_4.out BK327.out (by decide)) (fun _ hk => hk.2) (.int .i64 ((rd_T26 l0 x13_1).f0))) (fun _ hk => hk.2) (.int .i64 ((rd_T26 l0 x13_1).f1))) (fun _ hk => hk.2) (.int .i64 ((rd_T26 l0 x13_1).f2))) (fun _ hk => hk.2) (.int .i64 ((rd_T26 l0 x13_1).f3))) (fun _ hk => hk.2) (.int .i64 ((rd_T26 l0 x13_1).f4))) (fun _ h_ => h_.1))) (Kd.R_base ho0) hb); have n1_ := Am (Kd.R_below (by (with_reducible repeat (first | apply Ra | apply Rn | apply Rd)); exact (Kd.R_mono (Kd.R_far (p := ⟨gb327, 4, none⟩) (Kd.R_far (p := ⟨gb327, 3, none⟩) (Kd.R_far (p := ⟨gb327, 2, none⟩) (Kd.R_far (p := ⟨gb327, 1, none⟩) (Kd.R_far (p := ⟨gb327, 0, none⟩) (Kd.R_types HO_5.out BK327.out (by decide)) (fun _ hk => hk.2) (.int .i64 ((rd_T26 l0 x13_1).f0))) (fun _ hk => hk.2) (.int .i64 ((rd_T26 l0 x13_1).f1))) (fun _ hk => hk.2) (.int .i64 ((rd_T26 l0 x13_1).f2))) (fun _ hk => hk.2) (.int .i64 ((rd_T26 l0 x13_1).f3))) (fun _ hk => hk.2) (.int .i64 ((rd_T26 l0 x13_1).f4))) (fun _ h_ => h_.1))) hb); have n2_ := Am (Kd.R_lower (Kd.R_new' ho0 (Kd.R_lt (by (with_reducible repeat (first | apply Ra | apply Rn | apply Rd)); exact (Kd.R_mono (Kd.R_far (p := ⟨gb327, 4, none⟩) (Kd.R_far (p := ⟨gb327, 3, none⟩) (Kd.R_far (p := ⟨gb327, 2, none⟩) (Kd.R_far (p := ⟨gb327, 1, none⟩) (Kd.R_far (p := ⟨gb327, 0, none⟩) (Kd.R_types HO_4.out BK327.out (by decide)) (fun _ hk => hk.2) (.int .i64 ((rd_T26 l0 x13_1).f0))) (fun _ hk => hk.2) (.int .i64 ((rd_T26 l0 x13_1).f1))) (fun _ hk => hk.2) (.int .i64 ((rd_T26 l0 x13_1).f2))) (fun _ hk => hk.2) (.int .i64 ((rd_T26 l0 x13_1).f3))) (fun _ hk => hk.2) (.int .i64 ((rd_T26 l0 x13_1).f4))) (fun _ h_ => h_.1))))) (Bz (by repeat (first | (with_reducible first | exact HB.out | apply Ba | apply Bn | apply Bd | refine Bs ?_ GE327.out) | exact HB.out)))); have n3_ := Am (Kb (g := gb327) (o := .cells #[.int .i64 ((rd_T26 l0 x13_1).f0), .int .i64 ((rd_T26 l0 x13_1).f1), .int .i64 ((rd_T26 l0 x13_1).f2), .int .i64 ((rd_T26 l0 x13_1).f3), .int .i64 ((rd_T26 l0 x13_1).f4)] 26 (0, 0)) (by (with_reducible repeat (first | refine Kn ?_ _ | refine Ke ?_ | refine Ka ?_ _)); refine blk_put (cs := #[.int .i64 ((rd_T26 l0 x13_1).f0), .int .i64 ((rd_T26 l0 x13_1).f1), .int .i64 ((rd_T26 l0 x13_1).f2), .int .i64 ((rd_T26 l0 x13_1).f3), .int .i64 0]) ?_ 4 _ rfl; (with_reducible repeat (first | refine Kn ?_ _ | refine Ke ?_ | refine Ka ?_ _)); refine blk_put (cs := #[.int .i64 ((rd_T26 l0 x13_1).f0), .int .i64 ((rd_T26 l0 x13_1).f1), .int .i64 ((rd_T26 l0 x13_1).f2), .int .i64 0, .int .i64 0]) ?_ 3 _ rfl; (with_reducible repeat (first | refine Kn ?_ _ | refine Ke ?_ | refine Ka ?_ _)); refine blk_put (cs := #[.int .i64 ((rd_T26 l0 x13_1).f0), .int .i64 ((rd_T26 l0 x13_1).f1), .int .i64 0, .int .i64 0, .int .i64 0]) ?_ 2 _ rfl; (with_reducible repeat (first | refine Kn ?_ _ | refine Ke ?_ | refine Ka ?_ _)); refine blk_put (cs := #[.int .i64 ((rd_T26 l0 x13_1).f0), .int .i64 0, .int .i64 0, .int .i64 0, .int .i64 0]) ?_ 1 _ rfl; (with_reducible repeat (first | refine Kn ?_ _ | refine Ke ?_ | refine Ka ?_ _)); refine blk_put (cs := #[.int .i64 0, .int .i64 0, .int .i64 0, .int .i64 0, .int .i64 0]) ?_ 0 _ rfl; (with_reducible repeat (first | refine Kn ?_ _ | refine Ke ?_ | refine Ka ?_ _)); exact BK327.out) hb); have n4_ := Am (Bt (by repeat (first | (with_reducible first | exact HB.out | apply Ba | apply Bn | apply Bd | refine Bs ?_ GE327.out) | exact HB.out)) hb); clear HO_4; clear HO_5; clear BK327; clear HB; have HO_4 := n0_; have HO_5 := n1_; have HO330 := n2_; have BK327 := n3_; have HB := n4_; clear n0_ n1_ n2_ n3_ n4_; (try clear hb); (try clear hb2); (try clear hk); (try clear hi); (try clear ho0)) | ((refine Gd (N := 9) rfl ?_); refine Be ?hg (N := 9) ?hd (cs := #[.int .i64 0, .int .i64 0]) (t := 30) ?hr ?_; (case hd | hg => rfl); (case hr => first | (go_simp; done) | (go_simp; rfl)); intro gb333 hg w13 hbox hb; have n0_ := Am (Kd.R_below (by (with_reducible repeat (first | apply Ra | apply Rn | apply Rd)); exact HO_4.out) hb); have n1_ := Am (Kd.R_below (Kd.R_elderB (by (with_reducible repeat (first | apply Ra | apply Rn | apply Rd)); exact HO_5.out) gb333 (Nat.le_of_eq hg.symm)) hb); have n2_ := Am (Kd.R_below (by (with_reducible repeat (first | apply Ra | apply Rn | apply Rd)); exact HO330.out) hb); have n3_ := Am (Kb (g := gb327) (o := .cells #[.int .i64 ((rd_T26 l0 x13_1).f0), .int .i64 ((rd_T26 l0 x13_1).f1), .int .i64 ((rd_T26 l0 x13_1).f2), .int .i64 ((rd_T26 l0 x13_1).f3), .int .i64 ((rd_T26 l0 x13_1).f4)] 26 (0, 0)) (by (with_reducible repeat (first | refine Kn ?_ _ | refine Ke ?_ | refine Ka ?_ _)); exact BK327.out) hb); have n4_ := Am (Bt (by repeat (first | (with_reducible first | exact HB.out | apply Ba | apply Bn | apply Bd | refine Bs ?_ GE327.out) | exact HB.out)) hb); have n5_ := Am (hbox); have n6_ := Am ((by rw [hg]; exact (Bz (by repeat (first | (with_reducible first | exact HB.out | apply Ba | apply Bn | apply Bd | refine Bs ?_ GE327.out) | exact HB.out))) : w.heap.size ≤ gb333)); have n7_ := Am ((by rw [hg]; exact (Bz (by repeat (first | (with_reducible first | exact HB.out | apply Ba | apply Bn | apply Bd | refine Bs ?_ GE327.out) | exact HB.out))) : w.heap.size ≤ gb333)); have n8_ := Am ((by rw [hg]; exact Nat.ne_of_lt (blk_lt (g := gb327) (o := .cells #[.int .i64 ((rd_T26 l0 x13_1).f0), .int .i64 ((rd_T26 l0 x13_1).f1), .int .i64 ((rd_T26 l0 x13_1).f2), .int .i64 ((rd_T26 l0 x13_1).f3), .int .i64 ((rd_T26 l0 x13_1).f4)] 26 (0, 0)) (by (with_reducible repeat (first | refine Kn ?_ _ | refine Ke ?_ | refine Ka ?_ _)); exact BK327.out)) : gb327 ≠ gb333)); have n9_ := Am ((by rw [hg]; exact Nat.ne_of_gt (blk_lt (g := gb327) (o := .cells #[.int .i64 ((rd_T26 l0 x13_1).f0), .int .i64 ((rd_T26 l0 x13_1).f1), .int .i64 ((rd_T26 l0 x13_1).f2), .int .i64 ((rd_T26 l0 x13_1).f3), .int .i64 ((rd_T26 l0 x13_1).f4)] 26 (0, 0)) (by (with_reducible repeat (first | refine Kn ?_ _ | refine Ke ?_ | refine Ka ?_ _)); exact BK327.out)) : gb333 ≠ gb327)); clear HO_4; clear HO_5; clear HO330; clear BK327; clear HB; have HO_4 := n0_; have HO_5 := n1_; have HO330 := n2_; have BK327 := n3_; have HB := n4_; have BK333 := n5_; have GW333 := n6_; have GE333 := n7_; have NB327_333 := n8_; have NB333_327 := n9_; clear n0_ n1_ n2_ n3_ n4_ n5_ n6_ n7_ n8_ n9_; clear hb hbox hg; have hnb14 := NB333_327.out; have hnc14 := NB327_333.out; have hcz15_0 : w13.cell? ⟨gb333, 0, none⟩ = some (.int .i64 0) := (Kc BK333.out 0).trans rfl; have hcz15_1 : w13.cell? ⟨gb333, 1, none⟩ = some (.int .i64 0) := (Kc BK333.out 1).trans rfl; have hfz15_0 := Kz BK333.out 0; have hfz15_1 := Kz BK333.out 1) | ((with_reducible refine gate_builtin (b := .append) (xs := #[.tmp 24, .tmp 26]) rfl ?_); at_builtin; refine Kd.R_append k30 (w0 := w) w.heap.size rfl (.tmp 24) (.tmp 26) 42 30 (.agg #[(.int .i64 0), (.int .i64 0)]) 16 rfl Try.underlying42 info30 rfl (by decide) (by omega) u5 x5_1 (⟨t331, t332⟩ : S30) [.int .i64 t331, .int .i64 t332] (fun k_ => k_ ≠ gb333) (fun _ => False) rfl (by first | (go_simp; done) | (go_simp; rfl)) ?aP (fun _ hk => hk.elim) ?aF ?aO ?aB ?aS ?aL ?_; (case aP => exact k30_mkM _ _ _ (⟨t331, t332⟩ : S30)); (case aB => exact (by repeat (first | (with_reducible first | exact HB.out | apply Ba | apply Bn | apply Bd | refine Bs ?_ GE327.out | refine Bs ?_ GE333.out) | exact HB.out))); (case aF => exact (fun k_ hk => Kd.freshB (g := gb333) (o := .cells #[.int .i64 t331, .int .i64 t332] 30 (0, 0)) (by (with_reducible repeat (first | refine Kn ?_ _ | refine Ke ?_ | refine Ka ?_ _)); refine blk_put (cs := #[.int .i64 t331, .int .i64 0]) ?_ 1 _ rfl; (with_reducible repeat (first | refine Kn ?_ _ | refine Ke ?_ | refine Ka ?_ _)); refine blk_put (cs := #[.int .i64 0, .int .i64 0]) ?_ 0 _ rfl; (with_reducible repeat (first | refine Kn ?_ _ | refine Ke ?_ | refine Ka ?_ _)); exact BK333.out) k_ hk)); (case aO => exact (by (with_reducible repeat (first | apply Ra | apply Rn | apply Rd)); exact Kd.R_mono (Kd.R_far (p := ⟨gb333, 1, none⟩) (Kd.R_far (p := ⟨gb333, 0, none⟩) (Kd.R_mono HO_5.out (fun k_ hk => (⟨hk, hk.2⟩ : _ ∧ k_ ≠ gb333))) (fun _ hk => hk.2) (.int .i64 t331)) (fun _ hk => hk.2) (.int .i64 t332)) (fun _ hk => hk.1.2))); (case aS => exact (Bz (by repeat (first | (with_reducible first | exact HB.out | apply Ba | apply Bn | apply Bd | refine Bs ?_ GE327.out | refine Bs ?_ GE333.out) | exact HB.out)))); (case aL => have := LMc8.out; omega); intro v335 w16 ho hb hg hat; rw [← Ny334.out] at ho; have n0_ := Am (Kd.R_over' (by (with_reducible repeat (first | apply Ra | apply Rn | apply Rd)); exact (Kd.R_mono (Kd.R_far (p := ⟨gb333, 1, none⟩) (Kd.R_far (p := ⟨gb333, 0, none⟩) (Kd.R_types HO_4.out BK333.out (by decide)) (fun _ hk => hk.2) (.int .i64 t331)) (fun _ hk => hk.2) (.int .i64 t332)) (fun _ h_ => h_.1))) (Kd.R_typed (by (with_reducible repeat (first | apply Ra | apply Rn | apply Rd)); exact (Kd.R_mono (Kd.R_far (p := ⟨gb333, 1, none⟩) (Kd.R_far (p := ⟨gb333, 0, none⟩) (Kd.R_mono HO_5.out (fun k_ hk => (⟨hk, hk.2⟩ : _ ∧ k_ ≠ gb333))) (fun _ hk => hk.2) (.int .i64 t331)) (fun _ hk => hk.2) (.int .i64 t332)) (fun _ h_ => h_.1)))) (by decide) hg); have n1_ := Am (blk_grown (g := gb327) (o := .cells #[.int .i64 ((rd_T26 l0 x13_1).f0), .int .i64 ((rd_T26 l0 x13_1).f1), .int .i64 ((rd_T26 l0 x13_1).f2), .int .i64 ((rd_T26 l0 x13_1).f3), .int .i64 ((rd_T26 l0 x13_1).f4)] 26 (0, 0)) (by (with_reducible repeat (first | refine Kn ?_ _ | refine Ke ?_ | refine Ka ?_ _)); refine Kf ?_ NB327_333.out _; (with_reducible repeat (first | refine Kn ?_ _ | refine Ke ?_ | refine Ka ?_ _)); refine Kf ?_ NB327_333.out _; (with_reducible repeat (first | refine Kn ?_ _ | refine Ke ?_ | refine Ka ?_ _)); exact BK327.out) hg (Kd.R_ne HO_5.out BK327.out (by decide))); have n2_ := Am (Kd.R_over' (by (with_reducible repeat (first | apply Ra | apply Rn | apply Rd)); exact (Kd.R_mono (Kd.R_far (p := ⟨gb333, 1, none⟩) (Kd.R_far (p := ⟨gb333, 0, none⟩) (Kd.R_types HO330.out BK333.out (by decide)) (fun _ hk => hk.2) (.int .i64 t331)) (fun _ hk => hk.2) (.int .i64 t332)) (fun _ h_ => h_.1))) (Kd.R_typed (by (with_reducible repeat (first | apply Ra | apply Rn | apply Rd)); exact (Kd.R_mono (Kd.R_far (p := ⟨gb333, 1, none⟩) (Kd.R_far (p := ⟨gb333, 0, none⟩) (Kd.R_mono HO_5.out (fun k_ hk => (⟨hk, hk.2⟩ : _ ∧ k_ ≠ gb333))) (fun _ hk => hk.2) (.int .i64 t331)) (fun _ hk => hk.2) (.int .i64 t332)) (fun _ h_ => h_.1)))) (by decide) hg); have n3_ := Am (blk_grown (g := gb333) (o := .cells #[.int .i64 t331, .int .i64 t332] 30 (0, 0)) (by (with_reducible repeat (first | refine Kn ?_ _ | refine Ke ?_ | refine Ka ?_ _)); refine blk_put (cs := #[.int .i64 t331, .int .i64 0]) ?_ 1 _ rfl; (with_reducible repeat (first | refine Kn ?_ _ | refine Ke ?_ | refine Ka ?_ _)); refine blk_put (cs := #[.int .i64 0, .int .i64 0]) ?_ 0 _ rfl; (with_reducible repeat (first | refine Kn ?_ _ | refine Ke ?_ | refine Ka ?_ _)); exact BK333.out) hg (Kd.R_away HO_5.out (fun _ hk => hk.2))); have n4_ := Am (hb); have n5_ := Am (ho); clear HO_4; clear BK327; clear HO330; clear BK333; clear HB; clear HO_5; have HO_4 := n0_; have BK327 := n1_; have HO330 := n2_; have BK333 := n3_; have HB := n4_; have HO336 := n5_; clear n0_ n1_ n2_ n3_ n4_ n5_; clear ho hb hg hat))
       go_roundg k1
       case measure => have := HK1.out; omega
       case rel => exact ⟨(t328), (y334), (wrap64 (x13_1 + 1)), (by first | rfl | (simp; done) | (simp [*]; done)), H', ⟨by have := HK1.out; omega⟩, ⟨by (with_reducible repeat (first | apply Ra | apply Rn | apply Rd)); exact Kd.R_mono HO330.out (fun _ hk => trivial)⟩, ⟨by (with_reducible repeat (first | apply Ra | apply Rn | apply Rd)); exact Kd.R_mono HO336.out (fun _ hk => trivial)⟩, ⟨by repeat (first | (with_reducible first | exact HB.out | apply Ba | apply Bn | apply Bd | refine Bs ?_ GE327.out | refine Bs ?_ GE333.out) | exact HB.out)⟩⟩
      ·rw [if_neg c8] at H
       exact absurd H (by simp)
     ·rw [if_neg c6] at H
      exact absurd H (by simp)
    ·rw [if_neg c5] at H
     exact absurd H (by simp)
   ·rw [if_neg c4] at H
    have c4b0 : decide (x13_1 < (l0.length : Int)) = false := decide_eq_false c4
    clear c4
    simp only [Option.some.injEq, Prod.mk.injEq] at H
    obtain ⟨rfl, rfl⟩ := H
    go_wp2
    go_ret2
    exact ⟨_, _, by first | rfl | (simp [*, errW_none, errW_some] <;> rfl), by (with_reducible repeat (first | apply Ra | apply Rn | apply Rd)); exact HO_4.out, by (with_reducible repeat (first | apply Ra | apply Rn | apply Rd)); exact HO_5.out, by repeat (first | exact HB.out | apply Ba | apply Bn | apply Bd)⟩
def spec_PlayCmds.f (k : Nat) (l0 : List (S26)) : Option (List Int × (List (S30)) × Bool) := (spec_l11Cmds.f k l0).bind fun t337 => (if t337 = true then ((spec_l11Play.f k l0).bind fun bt338 => (some (bt338.1, bt338.2, true))) else (some (([] : List Int), ([] : List (S30)), false)))
theorem spec_PlayCmds.mono : ∀ a0 k, LeO (spec_PlayCmds.f k a0) (spec_PlayCmds.f (k + 1) a0) := by
 intro a0 k
 unfold spec_PlayCmds.f
 repeat' first
   | (with_reducible exact spec_l11Cmds.mono _ _)
   | (with_reducible exact spec_l11Play.mono _ _)
   | (with_reducible exact LeO.refl _)
   | (with_reducible exact LeO.none _)
   | (with_reducible refine LeO.ite ?_ ?_)
   | (with_reducible refine LeO.bind ?_ (fun _ => ?_))
   | exact spec_l11Cmds.mono _ _
   | exact spec_l11Play.mono _ _
   | exact LeO.none _
   | refine LeO.ite ?_ ?_
   | refine LeO.bind ?_ (fun _ => ?_)
set_option maxHeartbeats 8000000 in
set_option maxRecDepth 100000 in
theorem spec_PlayCmds.calls (k : Nat) (A0 : Option Addr) (c0 : Nat) (l0 : List (S26)) (r1 : List Int) (r2 : List (S30)) (r3 : Bool) (w : World) (hr0 : Kd.C k26 w A0 l0.length l0) (hc0 : l0.length ≤ c0) (h : spec_PlayCmds.f k l0 = some (r1, r2, r3)) :
  Calls Try.prog 24 #[.slice A0 l0.length c0] w fun e w' => ∃ v0_ v1_ : Value, e = .returned (.tuple #[v0_, v1_, .bool r3]) ∧ Kd.R (Kd.int .i64) 3 w' w.heap.size (fun _ => True) v0_ r1 ∧ Kd.R k30 30 w' w.heap.size (fun _ => True) v1_ r2 ∧ Below w.heap.size w w' := by
 have HR0 := Am hr0
 have HC0 := Am hc0
 clear hr0 hc0
 have HB := Am (Below.refl w.heap.size w)
 have H : ((spec_l11Cmds.f k l0).bind fun t337 => (if t337 = true then ((spec_l11Play.f k l0).bind fun bt338 => (some (bt338.1, bt338.2, true))) else (some (([] : List Int), ([] : List (S30)), false)))) = some (r1, r2, r3) := h
 clear h
 replace H := Option.bind_eq_some_iff.mp H
 obtain ⟨t337, A20, H⟩ := H
 replace H : (if t337 = true then ((spec_l11Play.f k l0).bind fun bt338 => (some (bt338.1, bt338.2, true))) else (some (([] : List Int), ([] : List (S30)), false))) = some (r1, r2, r3) := H
 have A2 := Am A20
 clear A20
 by_cases c3 : t337 = true
 ·subst c3
  have H1 : ((spec_l11Play.f k l0).bind fun bt338 => (some (bt338.1, bt338.2, true))) = some (r1, r2, r3) := by rw [if_pos rfl] at H; exact H
  clear H
  have H := H1
  clear H1
  replace H := Option.bind_eq_some_iff.mp H
  obtain ⟨⟨t338, t339⟩, A40, H⟩ := H
  replace H : (some (t338, t339, true)) = some (r1, r2, r3) := H
  have A4 := Am A40
  clear A40
  simp only [Option.some.injEq, Prod.mk.injEq] at H
  obtain ⟨rfl, rfl, rfl⟩ := H
  go_enter Try.func24, Try.ntmps24
  go_wp2_with (first | ((refine Gc (f := 84) rfl ?_); refine goesL_ (some 8) rfl rfl Try.func84 (by kernel_rfl) rfl #[.slice A0 l0.length c0] rfl (by first | rfl | (simp only [List.map_toArray, List.map_cons, List.map_nil]; first | done | rfl)) ?_; (with_reducible refine (spec_l11Cmds.calls k _ _ l0 true _ ?side1 ?side2 A2.out).mono ?_); (case side1 => repeat (first | exact HR0.out | (with_reducible refine Kd.C_alloc ?_ _) | (with_reducible refine Kd.C_drewN ?_ _) | (with_reducible refine Kd.C_drew ?_))); (case side2 => exact HC0.out); rintro e w5 ⟨rfl, hb⟩; refine ⟨_, rfl, ?_⟩; have n0_ := Am (Bt (by repeat (first | exact HB.out | apply Ba | apply Bn | apply Bd)) hb); clear HB; have HB := n0_; clear n0_; (try clear hb); (try clear hb2); (try clear hk); (try clear hi)) | ((refine Gc (f := 85) rfl ?_); refine goesL_ (some 12) rfl rfl Try.func85 (by kernel_rfl) rfl #[.slice A0 l0.length c0] rfl (by first | rfl | (simp only [List.map_toArray, List.map_cons, List.map_nil]; first | done | rfl)) ?_; (with_reducible refine (spec_l11Play.calls k _ _ l0 t338 t339 _ ?side1 ?side2 A4.out).mono ?_); (case side1 => repeat (first | exact (Kd.C_below HR0.out HB.out) | (with_reducible refine Kd.C_alloc ?_ _) | (with_reducible refine Kd.C_drewN ?_ _) | (with_reducible refine Kd.C_drew ?_))); (case side2 => exact HC0.out); rintro e w6 ⟨v340, v342, rfl, ho0, ho1, hb⟩; refine ⟨_, rfl, ?_⟩; have n0_ := Am (Kd.R_lower ho0 (Bz (by repeat (first | exact HB.out | apply Ba | apply Bn | apply Bd)))); have n1_ := Am (Kd.R_lower ho1 (Bz (by repeat (first | exact HB.out | apply Ba | apply Bn | apply Bd)))); have n2_ := Am (Bt (by repeat (first | exact HB.out | apply Ba | apply Bn | apply Bd)) hb); clear HB; have HO341 := n0_; have HO343 := n1_; have HB := n2_; clear n0_ n1_ n2_; (try clear hb); (try clear hb2); (try clear hk); (try clear hi); (try clear ho0); (try clear ho1)))
  go_ret3
  exact ⟨_, _, by first | rfl | (simp [*, errW_none, errW_some] <;> rfl), by (with_reducible repeat (first | apply Ra | apply Rn | apply Rd)); exact HO341.out, by (with_reducible repeat (first | apply Ra | apply Rn | apply Rd)); exact HO343.out, by repeat (first | exact HB.out | apply Ba | apply Bn | apply Bd)⟩
 ·replace c3 := Bool.eq_false_iff.mpr c3
  subst c3
  have H1 : (some (([] : List Int), ([] : List (S30)), false)) = some (r1, r2, r3) := by rw [if_neg (show ¬ (false = true) by decide)] at H; exact H
  clear H
  have H := H1
  clear H1
  simp only [Option.some.injEq, Prod.mk.injEq] at H
  obtain ⟨rfl, rfl, rfl⟩ := H
  go_enter Try.func24, Try.ntmps24
  go_wp2_with (first | ((refine Gc (f := 84) rfl ?_); refine goesL_ (some 8) rfl rfl Try.func84 (by kernel_rfl) rfl #[.slice A0 l0.length c0] rfl (by first | rfl | (simp only [List.map_toArray, List.map_cons, List.map_nil]; first | done | rfl)) ?_; (with_reducible refine (spec_l11Cmds.calls k _ _ l0 false _ ?side1 ?side2 A2.out).mono ?_); (case side1 => repeat (first | exact HR0.out | (with_reducible refine Kd.C_alloc ?_ _) | (with_reducible refine Kd.C_drewN ?_ _) | (with_reducible refine Kd.C_drew ?_))); (case side2 => exact HC0.out); rintro e w7 ⟨rfl, hb⟩; refine ⟨_, rfl, ?_⟩; have n0_ := Am (Bt (by repeat (first | exact HB.out | apply Ba | apply Bn | apply Bd)) hb); clear HB; have HB := n0_; clear n0_; (try clear hb); (try clear hb2); (try clear hk); (try clear hi)))
  go_ret3
  exact ⟨_, _, by first | rfl | (simp [*, errW_none, errW_some] <;> rfl), by first | exact Kd.R_nil _ _ _ _ _ | exact Kd.N_nil _ _ _ _ _ | exact Kd.V_nil _ _ _ _ _ | exact Kd.Q_nil _ _ _ _ _ | exact Kd.S_nil _ _ _ _ _, by first | exact Kd.R_nil _ _ _ _ _ | exact Kd.N_nil _ _ _ _ _ | exact Kd.V_nil _ _ _ _ _ | exact Kd.Q_nil _ _ _ _ _ | exact Kd.S_nil _ _ _ _ _, by repeat (first | exact HB.out | apply Ba | apply Bn | apply Bd)⟩
def spec_DrawGoodSums.f (k : Nat) (l0 : List Int) : Option (List Int) := (spec_l1Cur_sums.f k l0 0 0).bind fun t => some t.1
theorem spec_DrawGoodSums.mono : ∀ l0 k, LeO (spec_DrawGoodSums.f k l0) (spec_DrawGoodSums.f (k + 1) l0) := by
 intro l0 k
 unfold spec_DrawGoodSums.f
 exact LeO.bind (spec_l1Cur_sums.mono l0 0 0 k) (fun _ => LeO.refl _)
set_option maxHeartbeats 8000000 in
set_option maxRecDepth 100000 in
theorem spec_DrawGoodSums.calls (k : Nat) (A0 : Option Addr) (c0 : Nat) (l0 : List Int) (r : List Int) (w : World) (hr0 : Kd.C (Kd.int .u8) w A0 l0.length l0) (hc0 : l0.length ≤ c0) (h : spec_DrawGoodSums.f k l0 = some r) :
  Calls Try.prog 86 #[.slice A0 l0.length c0] w fun e w' => ∃ v0_ : Value, e = .returned (v0_) ∧ Kd.R (Kd.int .i64) 3 w' w.heap.size (fun _ => True) v0_ r ∧ Below w.heap.size w w' := by
 unfold spec_DrawGoodSums.f at h
 obtain ⟨⟨t1, t2, t3⟩, hq, h⟩ := Option.bind_eq_some_iff.1 h
 obtain rfl : t1 = r := Option.some.inj h
 have HQ := Am hq
 clear h hq
 have HR := Am hr0
 clear hr0 hc0
 go_enter Try.func86, Try.ntmps86
 go_upto_region 2 with (fail)
 refine letC (fun W_ => Below w.heap.size w W_ ∧ W_.heap[w.heap.size]? = some (.cells #[.slice A0 l0.length c0, .int .i64 0, .int .u64 0] 91 (0, 0))) ⟨Ba (Below.refl _ _) _, blk_new w (.cells #[.slice A0 l0.length c0, .int .i64 0, .int .u64 0] 91)⟩ ?_
 rintro W0 ⟨hb, hx⟩
 have HB0 := Am hb
 have HI0 : Ad (IsS91 w W0 w.heap.size l0 0 0) := ⟨⟨A0, c0, hx, Nat.le_refl _, HR.out⟩⟩
 clear hb hx
 generalize w.heap.size = g at HI0
 go_wp2_with fail
 refine (spec_l1Cur_sums.calls k g l0 0 0 t1 t2 t3 w W0 HI0.out HB0.out HQ.out).mono ?_
 rintro e W1 ⟨v, rfl, hR, hI, hB, hK⟩
 have HR1 := Am (Kd.R_lower hR HB0.out.size)
 have HB1 := Am hB
 clear hR hI hB hK HI0 HB0
 go_wp2
 go_ret
 exact ⟨_, rfl, HR1.out, HB1.out⟩
def spec_DrawTotalOf.f (k : Nat) (l0 : List Int) : Option (List Int) := (spec_DrawGoodSums.f k l0).bind fun t344 => (some t344)
theorem spec_DrawTotalOf.mono : ∀ a0 k, LeO (spec_DrawTotalOf.f k a0) (spec_DrawTotalOf.f (k + 1) a0) := by
 intro a0 k
 unfold spec_DrawTotalOf.f
 repeat' first
   | (with_reducible exact spec_DrawGoodSums.mono _ _)
   | (with_reducible exact LeO.refl _)
   | (with_reducible exact LeO.none _)
   | (with_reducible refine LeO.ite ?_ ?_)
   | (with_reducible refine LeO.bind ?_ (fun _ => ?_))
   | exact spec_DrawGoodSums.mono _ _
   | exact LeO.none _
   | refine LeO.ite ?_ ?_
   | refine LeO.bind ?_ (fun _ => ?_)
set_option maxHeartbeats 8000000 in
set_option maxRecDepth 100000 in
theorem spec_DrawTotalOf.calls (k : Nat) (A0 : Option Addr) (c0 : Nat) (l0 : List Int) (r : List Int) (w : World) (hr0 : Kd.C (Kd.int .u8) w A0 l0.length l0) (hc0 : l0.length ≤ c0) (h : spec_DrawTotalOf.f k l0 = some r) :
  Calls Try.prog 25 #[.slice A0 l0.length c0] w fun e w' => ∃ v0_ : Value, e = .returned (v0_) ∧ Kd.R (Kd.int .i64) 3 w' w.heap.size (fun _ => True) v0_ r ∧ Below w.heap.size w w' := by
 have HR0 := Am hr0
 have HC0 := Am hc0
 clear hr0 hc0
 have HB := Am (Below.refl w.heap.size w)
 have H : ((spec_DrawGoodSums.f k l0).bind fun t344 => (some t344)) = some r := h
 clear h
 replace H := Option.bind_eq_some_iff.mp H
 obtain ⟨t344, A20, H⟩ := H
 replace H : (some t344) = some r := H
 have A2 := Am A20
 clear A20
 obtain rfl := Option.some.inj H
 go_enter Try.func25, Try.ntmps25
 go_wp2_with (first | ((refine Gc (f := 86) rfl ?_); refine goesL_ (some 4) rfl rfl Try.func86 (by kernel_rfl) rfl #[.slice A0 l0.length c0] rfl (by first | rfl | (simp only [List.map_toArray, List.map_cons, List.map_nil]; first | done | rfl)) ?_; (with_reducible refine (spec_DrawGoodSums.calls k _ _ l0 t344 _ ?side1 ?side2 A2.out).mono ?_); (case side1 => repeat (first | exact HR0.out | (with_reducible refine Kd.C_alloc ?_ _) | (with_reducible refine Kd.C_drewN ?_ _) | (with_reducible refine Kd.C_drew ?_))); (case side2 => exact HC0.out); rintro e w3 ⟨v345, rfl, ho0, hb⟩; refine ⟨_, rfl, ?_⟩; have n0_ := Am (Kd.R_lower ho0 (Bz (by repeat (first | exact HB.out | apply Ba | apply Bn | apply Bd)))); have n1_ := Am (Bt (by repeat (first | exact HB.out | apply Ba | apply Bn | apply Bd)) hb); clear HB; have HO346 := n0_; have HB := n1_; clear n0_ n1_; (try clear hb); (try clear hb2); (try clear hk); (try clear hi); (try clear ho0)))
 go_ret
 exact ⟨_, by first | rfl | (simp [*, errW_none, errW_some] <;> rfl), by (with_reducible repeat (first | apply Ra | apply Rn | apply Rd)); exact HO346.out, by repeat (first | exact HB.out | apply Ba | apply Bn | apply Bd)⟩
def spec_TotalOf.f (k : Nat) (l0 : List Int) : Option (Int × Bool) := (spec_GoodSums.f k l0).bind fun t347 => (if t347 = true then (some (400, true)) else (some (0, false)))
theorem spec_TotalOf.mono : ∀ a0 k, LeO (spec_TotalOf.f k a0) (spec_TotalOf.f (k + 1) a0) := by
 intro a0 k
 unfold spec_TotalOf.f
 repeat' first
   | (with_reducible exact spec_GoodSums.mono _ _)
   | (with_reducible exact LeO.refl _)
   | (with_reducible exact LeO.none _)
   | (with_reducible refine LeO.ite ?_ ?_)
   | (with_reducible refine LeO.bind ?_ (fun _ => ?_))
   | exact spec_GoodSums.mono _ _
   | exact LeO.none _
   | refine LeO.ite ?_ ?_
   | refine LeO.bind ?_ (fun _ => ?_)
set_option maxHeartbeats 8000000 in
set_option maxRecDepth 100000 in
theorem spec_TotalOf.calls (k : Nat) (A0 : Option Addr) (c0 : Nat) (l0 : List Int) (r1 : Int) (r2 : Bool) (w : World) (hr0 : Kd.C (Kd.int .i64) w A0 l0.length l0) (hc0 : l0.length ≤ c0) (h : spec_TotalOf.f k l0 = some (r1, r2)) :
  Calls Try.prog 26 #[.slice A0 l0.length c0] w fun e w' => e = .returned (.tuple #[.int .i64 r1, .bool r2]) ∧ Drawn0 w w' := by
 have HR0 := Am hr0
 have HC0 := Am hc0
 clear hr0 hc0
 have H : ((spec_GoodSums.f k l0).bind fun t347 => (if t347 = true then (some (400, true)) else (some (0, false)))) = some (r1, r2) := h
 clear h
 replace H := Option.bind_eq_some_iff.mp H
 obtain ⟨t347, A20, H⟩ := H
 replace H : (if t347 = true then (some (400, true)) else (some (0, false))) = some (r1, r2) := H
 have A2 := Am A20
 clear A20
 by_cases c3 : t347 = true
 ·subst c3
  have H1 : (some (400, true)) = some (r1, r2) := by rw [if_pos rfl] at H; exact H
  clear H
  have H := H1
  clear H1
  simp only [Option.some.injEq, Prod.mk.injEq] at H
  obtain ⟨rfl, rfl⟩ := H
  go_enter Try.func26, Try.ntmps26
  go_wp2_with (first | ((refine Gc (f := 17) rfl ?_); refine goesL_ (some 5) rfl rfl Try.func17 (by kernel_rfl) rfl #[.slice A0 l0.length c0] rfl (by first | rfl | (simp only [List.map_toArray, List.map_cons, List.map_nil]; first | done | rfl)) ?_; (with_reducible refine (spec_GoodSums.calls k _ _ l0 true _ ?side1 ?side2 A2.out).mono ?_); (case side1 => repeat (first | exact HR0.out | (with_reducible refine Kd.C_alloc ?_ _) | (with_reducible refine Kd.C_drewN ?_ _) | (with_reducible refine Kd.C_drew ?_))); (case side2 => exact HC0.out); rintro e w' ⟨rfl, ⟨nd, rfl⟩⟩; refine ⟨_, rfl, ?_⟩))
  go_ret2
  exact ⟨by first | rfl | (simp; done) | (simp [*]; done), by repeat (first | exact Drawn0.refl _ | apply Drawn0.step)⟩
 ·replace c3 := Bool.eq_false_iff.mpr c3
  subst c3
  have H1 : (some (0, false)) = some (r1, r2) := by rw [if_neg (show ¬ (false = true) by decide)] at H; exact H
  clear H
  have H := H1
  clear H1
  simp only [Option.some.injEq, Prod.mk.injEq] at H
  obtain ⟨rfl, rfl⟩ := H
  go_enter Try.func26, Try.ntmps26
  go_wp2_with (first | ((refine Gc (f := 17) rfl ?_); refine goesL_ (some 5) rfl rfl Try.func17 (by kernel_rfl) rfl #[.slice A0 l0.length c0] rfl (by first | rfl | (simp only [List.map_toArray, List.map_cons, List.map_nil]; first | done | rfl)) ?_; (with_reducible refine (spec_GoodSums.calls k _ _ l0 false _ ?side1 ?side2 A2.out).mono ?_); (case side1 => repeat (first | exact HR0.out | (with_reducible refine Kd.C_alloc ?_ _) | (with_reducible refine Kd.C_drewN ?_ _) | (with_reducible refine Kd.C_drew ?_))); (case side2 => exact HC0.out); rintro e w' ⟨rfl, ⟨nd, rfl⟩⟩; refine ⟨_, rfl, ?_⟩))
  go_ret2
  exact ⟨by first | rfl | (simp; done) | (simp [*]; done), by repeat (first | exact Drawn0.refl _ | apply Drawn0.step)⟩
def laws_sameTolds.l0 : Nat → List (S30) → List (S30) → Int → Int → Option (Bool)
 | 0, _, _, _, _ => none
 | k + 1, x0, x1, x12, x13 => if x13 < x12 then (if 0 ≤ x13 then (if x13 < (x0.length : Int) then (if x13 < (x1.length : Int) then (if (!(((rd_T30 x0 x13).f0) == ((rd_T30 x1 x13).f0)) || (!(((rd_T30 x0 x13).f1) == ((rd_T30 x1 x13).f1)))) = true then (some false) else (laws_sameTolds.l0 k x0 x1 x12 (wrap64 (x13 + 1)))) else (none)) else (none)) else (none)) else (some true)
def laws_sameTolds.f (k : Nat) (l0 : List (S30)) (l1 : List (S30)) : Option (Bool) := if (l0.length : Int) = (l1.length : Int) then (laws_sameTolds.l0 k l0 l1 (l0.length : Int) 0) else (some false)
theorem laws_sameTolds.mono_l : ∀ k, (∀ y0 y1 y2 y3, LeO (laws_sameTolds.l0 k y0 y1 y2 y3) (laws_sameTolds.l0 (k + 1) y0 y1 y2 y3))
 | 0 => fun _ _ _ _ r h => by simp [laws_sameTolds.l0] at h
 | k + 1 => by
  have ih0 := laws_sameTolds.mono_l k
  ·intro y0 y1 y2 y3
   unfold laws_sameTolds.l0
   repeat' first
   | (with_reducible exact ih0 _ _ _ _)
   | (with_reducible exact LeO.refl _)
   | (with_reducible exact LeO.none _)
   | (with_reducible refine LeO.ite ?_ ?_)
   | (with_reducible refine LeO.bind ?_ (fun _ => ?_))
   | exact ih0 _ _ _ _
   | exact LeO.none _
   | refine LeO.ite ?_ ?_
   | refine LeO.bind ?_ (fun _ => ?_)
theorem laws_sameTolds.mono : ∀ a0 a1 k, LeO (laws_sameTolds.f k a0 a1) (laws_sameTolds.f (k + 1) a0 a1) := by
 intro a0 a1 k
 have ih0 := laws_sameTolds.mono_l k
 unfold laws_sameTolds.f
 repeat' first
   | (with_reducible exact ih0 _ _ _ _)
   | (with_reducible exact LeO.refl _)
   | (with_reducible exact LeO.none _)
   | (with_reducible refine LeO.ite ?_ ?_)
   | (with_reducible refine LeO.bind ?_ (fun _ => ?_))
   | exact ih0 _ _ _ _
   | exact LeO.none _
   | refine LeO.ite ?_ ?_
   | refine LeO.bind ?_ (fun _ => ?_)
set_option maxHeartbeats 8000000 in
set_option maxRecDepth 100000 in
theorem laws_sameTolds.calls (k : Nat) (A0 : Option Addr) (c0 : Nat) (l0 : List (S30)) (A1 : Option Addr) (c1 : Nat) (l1 : List (S30)) (r : Bool) (w : World) (hr0 : Kd.C k30 w A0 l0.length l0) (hc0 : l0.length ≤ c0) (hr1 : Kd.C k30 w A1 l1.length l1) (hc1 : l1.length ≤ c1) (h : laws_sameTolds.f k l0 l1 = some r) :
  Calls Try.prog 27 #[.slice A0 l0.length c0, .slice A1 l1.length c1] w fun e w' => e = .returned (.bool r) ∧ Drawn0 w w' := by
 have hu30 := Try.underlying30
 have HR0 := Am hr0
 have HC0 := Am hc0
 clear hr0 hc0
 have HR1 := Am hr1
 have HC1 := Am hc1
 clear hr1 hc1
 have H : (if (l0.length : Int) = (l1.length : Int) then (laws_sameTolds.l0 k l0 l1 (l0.length : Int) 0) else (some false)) = some r := h
 clear h
 by_cases c3 : (l0.length : Int) = (l1.length : Int)
 ·rw [if_pos c3] at H
  have c3b0 : ((l0.length : Int) == (l1.length : Int)) = true := beq_iff_eq.mpr c3
  have c3b1 : ((l0.length : Int) != (l1.length : Int)) = false := bne_eq_false_iff_eq.mpr c3
  have c3b2 : (l0.length == l1.length) = true := by first | simpa using c3 | (simp at c3 ⊢; omega)
  clear c3
  have H' := Am H
  clear H
  go_enter Try.func27, Try.ntmps27
  go_wp2
  repeat (go_quiet (fail); try go_wp2)
  go_loopg [13] k (fun kq v13 w' => ∃ (x13_1 : Int), v13 = .int .i64 x13_1 ∧ Ad (laws_sameTolds.l0 kq l0 l1 (l0.length : Int) x13_1 = some r) ∧ Ad (kq ≤ k) ∧ Drawn0 w w')
  case atStart => exact ⟨(0), (by first | rfl | (simp; done) | (simp [*]; done)), H', ⟨Nat.le_refl _⟩, by repeat (first | exact Drawn0.refl _ | apply Drawn0.step)⟩
  case round =>
   clear H'
   try clear c1
   try clear c2
   try clear p2
   try clear c3
   try clear c3b0
   try clear c3b1
   try clear c3b2
   obtain ⟨x13_1, rfl, HA, HK1, ⟨m1, rfl⟩⟩ := hrel
   cases gk with
   | zero => exact absurd HA.out (by simp [laws_sameTolds.l0])
   | succ k1 =>
    have H := HA.out
    clear HA
    simp only [laws_sameTolds.l0] at H
    by_cases c4 : x13_1 < (l0.length : Int)
    ·rw [if_pos c4] at H
     have c4b0 : decide (x13_1 < (l0.length : Int)) = true := decide_eq_true c4
     clear c4
     by_cases c5 : 0 ≤ x13_1
     ·rw [if_pos c5] at H
      have c5b0 : decide (0 ≤ x13_1) = true := decide_eq_true c5
      clear c5
      by_cases c6 : x13_1 < (l0.length : Int)
      ·rw [if_pos c6] at H
       have c6b0 : decide (x13_1 < (l0.length : Int)) = true := decide_eq_true c6
       clear c6
       by_cases c7 : x13_1 < (l1.length : Int)
       ·rw [if_pos c7] at H
        have c7b0 : decide (x13_1 < (l1.length : Int)) = true := decide_eq_true c7
        clear c7
        by_cases c8 : (!(((rd_T30 l0 x13_1).f0) == ((rd_T30 l1 x13_1).f0)) || (!(((rd_T30 l0 x13_1).f1) == ((rd_T30 l1 x13_1).f1)))) = true
        ·rw [if_pos c8] at H
         have c8b0 : (!(((rd_T30 l0 x13_1).f0) == ((rd_T30 l1 x13_1).f0)) || (!(((rd_T30 l0 x13_1).f1) == ((rd_T30 l1 x13_1).f1)))) = true := c8
         clear c8
         obtain rfl := Option.some.inj H
         have p348 : 0 ≤ (x13_1 : Int) := of_decide_eq_true (by assumption)
         have q348 : x13_1 < (l0.length : Int) := of_decide_eq_true (by assumption)
         obtain ⟨ad348, e348, hx348_0, hx348_1⟩ := at_T30 HR0.out x13_1 p348 q348
         cases e348
         replace p348 := eq_true p348
         replace q348 := eq_true q348
         have p349 : 0 ≤ (x13_1 : Int) := of_decide_eq_true (by assumption)
         have q349 : x13_1 < (l1.length : Int) := of_decide_eq_true (by assumption)
         obtain ⟨ad349, e349, hx349_0, hx349_1⟩ := at_T30 HR1.out x13_1 p349 q349
         cases e349
         replace p349 := eq_true p349
         replace q349 := eq_true q349
         go_wp2
         repeat (go_quiet (fail); try go_wp2)
         go_ret
         exact ⟨by first | rfl | (simp; done) | (simp [*]; done), by repeat (first | exact Drawn0.refl _ | apply Drawn0.step)⟩
        ·rw [if_neg c8] at H
         have c8b0 : (!(((rd_T30 l0 x13_1).f0) == ((rd_T30 l1 x13_1).f0)) || (!(((rd_T30 l0 x13_1).f1) == ((rd_T30 l1 x13_1).f1)))) = false := by simpa using c8
         clear c8
         have H' := Am H
         clear H
         have p348 : 0 ≤ (x13_1 : Int) := of_decide_eq_true (by assumption)
         have q348 : x13_1 < (l0.length : Int) := of_decide_eq_true (by assumption)
         obtain ⟨ad348, e348, hx348_0, hx348_1⟩ := at_T30 HR0.out x13_1 p348 q348
         cases e348
         replace p348 := eq_true p348
         replace q348 := eq_true q348
         have p349 : 0 ≤ (x13_1 : Int) := of_decide_eq_true (by assumption)
         have q349 : x13_1 < (l1.length : Int) := of_decide_eq_true (by assumption)
         obtain ⟨ad349, e349, hx349_0, hx349_1⟩ := at_T30 HR1.out x13_1 p349 q349
         cases e349
         replace p349 := eq_true p349
         replace q349 := eq_true q349
         go_wp2
         repeat (go_quiet (fail); try go_wp2)
         go_roundg k1
         case measure => have := HK1.out; omega
         case rel => exact ⟨(wrap64 (x13_1 + 1)), (by first | rfl | (simp; done) | (simp [*]; done)), H', ⟨by have := HK1.out; omega⟩, by repeat (first | exact Drawn0.refl _ | apply Drawn0.step)⟩
       ·rw [if_neg c7] at H
        exact absurd H (by simp)
      ·rw [if_neg c6] at H
       exact absurd H (by simp)
     ·rw [if_neg c5] at H
      exact absurd H (by simp)
    ·rw [if_neg c4] at H
     have c4b0 : decide (x13_1 < (l0.length : Int)) = false := decide_eq_false c4
     clear c4
     obtain rfl := Option.some.inj H
     go_wp2
     repeat (go_quiet (fail); try go_wp2)
     go_ret
     exact ⟨by first | rfl | (simp; done) | (simp [*]; done), by repeat (first | exact Drawn0.refl _ | apply Drawn0.step)⟩
 ·rw [if_neg c3] at H
  have c3b0 : ((l0.length : Int) == (l1.length : Int)) = false := beq_eq_false_iff_ne.mpr c3
  have c3b1 : ((l0.length : Int) != (l1.length : Int)) = true := bne_iff_ne.mpr c3
  have c3b2 : (l0.length == l1.length) = false := by first | simpa using c3 | (simp at c3 ⊢; omega)
  obtain rfl := Option.some.inj H
  go_enter Try.func27, Try.ntmps27
  go_wp2
  repeat (go_quiet (fail); try go_wp2)
  go_ret
  exact ⟨by first | rfl | (simp; done) | (simp [*]; done), by repeat (first | exact Drawn0.refl _ | apply Drawn0.step)⟩
end Go.Proofs.Yteecmbfebenjjaa.QFnSums
