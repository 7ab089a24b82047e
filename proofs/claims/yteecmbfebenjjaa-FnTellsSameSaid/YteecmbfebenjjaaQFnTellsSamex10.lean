-- Written by a program of this session (wip/mk.py) over the kit's print: Lean checks it.
import Derived.Test.YteecmbfebenjjaaQFnTellsSamex0
import Derived.Test.YteecmbfebenjjaaQFnTellsSamex9
namespace Go.Proofs.Yteecmbfebenjjaa.QFnTellsSame
open Go.Proofs.YteecmbfebenjjaaW.PrintWords.Kd renaming R_alloc → Ra, R_drewN → Rn, R_drew → Rd
open Go.Proofs.YteecmbfebenjjaaW.PrintWords renaming below_alloc → Ba, pw_below_drewN → Bn, below_drew1 → Bd, below_set → Bs, below_size → Bz, below_step → Bt, gate_dst → Gd, gate_callee → Gc, box_event → Be, blk_alloc → Ka, blk_drewN → Kn, blk_drew → Ke, blk_below → Kb, blk_cell → Kc, blk_far → Kf, blk_frozen → Kz
open List renaming setIfInBounds_toArray → Lt, set_cons_zero → Lz, set_cons_succ → Ls
open Go.World renaming block_lt_of_cell? → bl_
open Go.Proofs.YteecmbfebenjjaaW.PrintWords.Aside0 renaming mk → Am
open Go.Proofs.YteecmbfebenjjaaW.PrintWords renaming Aside0 → Ad
open Go.RowKit Go.Proofs.YteecmbfebenjjaaW.PrintWords Go.Proofs.YteecmbfebenjjaaW.PrintLast Go.Proofs.YteecmbfebenjjaaW.PrintMore
attribute [local go_sem] max2_int min2_int max_two min_two max_three min_three max_four min_four   -- for this text's walks alone
set_option linter.unusedVariables false
set_option linter.unusedSimpArgs false
def spec_l11Apply.f (l0 : List Int) (a1_0 : Int) (a1_1 : Int) (a1_2 : Int) (a1_3 : Int) (a1_4 : Int) : Option (List Int × Int × Int) := (spec_l1Own.f l0).bind fun t288 => (if a1_0 = 2 then (if 0 ≤ a1_2 then (if a1_2 < (l0.length : Int) then (some (t288, 3, rd l0 a1_2)) else (none)) else (none)) else (if a1_0 = 1 then (if 0 ≤ a1_2 then (if a1_2 < (l0.length : Int) then (if (rd l0 a1_2) < a1_4 then (some (t288, 2, 0)) else (if a1_2 < (t288.length : Int) then ((some (t288.set (a1_2 : Int).toNat (wrap64 ((rd t288 a1_2) - a1_4)) : List Int)).bind fun y294 => (if 0 ≤ a1_3 then (if a1_3 < (t288.length : Int) then (some ((y294.set (a1_3 : Int).toNat (wrap64 ((rd y294 a1_3) + a1_4))), 1, 0)) else (none)) else (none))) else (none))) else (none)) else (none)) else (some (t288, 0, 0))))
def spec_l11Apply.T4 : Bool × List (List Nat × List Nat) := (true, [([], []), ([], []), ([], []), ([2], [2]), ([1, 3], [1, 3]), ([4], [4]), ([5], [5]), ([0, 0], [0]), ([6, 7, 0, 1, 2, 3, 4, 5, 6, 7], [6])])
def spec_l11Apply.B4 : List Nat := [0, 0, 0, 4, 14, 30, 62, 1, 255]
theorem spec_l11Apply.tab4 : rtab .any (opsOf Try.f73 4) = spec_l11Apply.T4 := by kernel_rfl
theorem spec_l11Apply.bits4 : waitsOk spec_l11Apply.T4.2 spec_l11Apply.B4 = true := by kernel_rfl
def spec_l11Apply.T6 : Bool × List (List Nat × List Nat) := (true, [([], []), ([], []), ([1], [1]), ([0, 2], [0, 2]), ([3], [3]), ([], []), ([5], [5]), ([4, 6], [4, 6])])
def spec_l11Apply.B6 : List Nat := [0, 0, 2, 7, 15, 0, 32, 127]
theorem spec_l11Apply.tab6 : rtab .any (opsOf Try.f73 6) = spec_l11Apply.T6 := by kernel_rfl
theorem spec_l11Apply.bits6 : waitsOk spec_l11Apply.T6.2 spec_l11Apply.B6 = true := by kernel_rfl
def spec_l11Apply.T8 : Bool × List (List Nat × List Nat) := (true, [([], []), ([], []), ([1], [1]), ([0, 2], [0, 2]), ([3], [3]), ([], []), ([5], [5]), ([4, 6], [4, 6]), ([0, 2, 0, 1, 2, 3, 4, 5, 6, 7], [0, 2]), ([8, 7, 0, 1, 2, 3, 4, 5, 6, 7], [7, 8])])
def spec_l11Apply.B8 : List Nat := [0, 0, 2, 7, 15, 0, 32, 127, 255, 511]
theorem spec_l11Apply.tab8 : rtab .any (opsOf Try.f73 8) = spec_l11Apply.T8 := by kernel_rfl
theorem spec_l11Apply.bits8 : waitsOk spec_l11Apply.T8.2 spec_l11Apply.B8 = true := by kernel_rfl
def spec_l11Apply.T9 : Bool × List (List Nat × List Nat) := (true, [([], []), ([], []), ([1], [1]), ([0, 2], [0, 2]), ([3], [3]), ([], []), ([5], [5]), ([4, 6], [4, 6]), ([0, 2, 0, 1, 2, 3, 4, 5, 6, 7], [0, 2]), ([8, 7, 0, 1, 2, 3, 4, 5, 6, 7], [7, 8])])
def spec_l11Apply.B9 : List Nat := [0, 0, 2, 7, 15, 0, 32, 127, 255, 511]
theorem spec_l11Apply.tab9 : rtab .any (opsOf Try.f73 9) = spec_l11Apply.T9 := by kernel_rfl
theorem spec_l11Apply.bits9 : waitsOk spec_l11Apply.T9.2 spec_l11Apply.B9 = true := by kernel_rfl
set_option maxHeartbeats 8000000 in
set_option maxRecDepth 100000 in
theorem spec_l11Apply.calls (A0 : Option Addr) (c0 : Nat) (l0 : List Int) (a1_0 : Int) (a1_1 : Int) (a1_2 : Int) (a1_3 : Int) (a1_4 : Int) (r1 : List Int) (r2 : Int) (r3 : Int) (w : World) (hr0 : Kd.C (Kd.int .i64) w A0 l0.length l0) (hc0 : l0.length ≤ c0) (h : spec_l11Apply.f l0 a1_0 a1_1 a1_2 a1_3 a1_4 = some (r1, r2, r3)) :
  Calls Try.prog 73 #[.slice A0 l0.length c0, .agg #[.int .i64 a1_0, .int .i64 a1_1, .int .i64 a1_2, .int .i64 a1_3, .int .i64 a1_4]] w fun e w' => ∃ v0_ : Value, e = .returned (.tuple #[v0_, .agg #[.int .i64 r2, .int .i64 r3]]) ∧ Kd.R (Kd.int .i64) 3 w' w.heap.size (fun _ => True) v0_ r1 ∧ Below w.heap.size w w' := by
 have hu26 := Try.underlying26
 have hu30 := Try.underlying30
 have HR0 := Am hr0
 have HC0 := Am hc0
 clear hr0 hc0
 have HB := Am (Below.refl w.heap.size w)
 have H : ((spec_l1Own.f l0).bind fun t288 => (if a1_0 = 2 then (if 0 ≤ a1_2 then (if a1_2 < (l0.length : Int) then (some (t288, 3, rd l0 a1_2)) else (none)) else (none)) else (if a1_0 = 1 then (if 0 ≤ a1_2 then (if a1_2 < (l0.length : Int) then (if (rd l0 a1_2) < a1_4 then (some (t288, 2, 0)) else (if a1_2 < (t288.length : Int) then ((some (t288.set (a1_2 : Int).toNat (wrap64 ((rd t288 a1_2) - a1_4)) : List Int)).bind fun y294 => (if 0 ≤ a1_3 then (if a1_3 < (t288.length : Int) then (some ((y294.set (a1_3 : Int).toNat (wrap64 ((rd y294 a1_3) + a1_4))), 1, 0)) else (none)) else (none))) else (none))) else (none)) else (none)) else (some (t288, 0, 0))))) = some (r1, r2, r3) := h
 clear h
 replace H := Option.bind_eq_some_iff.mp H
 obtain ⟨t288, A30, H⟩ := H
 replace H : (if a1_0 = 2 then (if 0 ≤ a1_2 then (if a1_2 < (l0.length : Int) then (some (t288, 3, rd l0 a1_2)) else (none)) else (none)) else (if a1_0 = 1 then (if 0 ≤ a1_2 then (if a1_2 < (l0.length : Int) then (if (rd l0 a1_2) < a1_4 then (some (t288, 2, 0)) else (if a1_2 < (t288.length : Int) then ((some (t288.set (a1_2 : Int).toNat (wrap64 ((rd t288 a1_2) - a1_4)) : List Int)).bind fun y294 => (if 0 ≤ a1_3 then (if a1_3 < (t288.length : Int) then (some ((y294.set (a1_3 : Int).toNat (wrap64 ((rd y294 a1_3) + a1_4))), 1, 0)) else (none)) else (none))) else (none))) else (none)) else (none)) else (some (t288, 0, 0)))) = some (r1, r2, r3) := H
 have A3 := Am A30
 clear A30
 by_cases c4 : a1_0 = 2
 ·rw [if_pos c4] at H
  have c4b0 : (a1_0 == 2) = true := beq_iff_eq.mpr c4
  have c4b1 : (a1_0 != 2) = false := bne_eq_false_iff_eq.mpr c4
  clear c4
  by_cases c5 : 0 ≤ a1_2
  ·rw [if_pos c5] at H
   have c5b0 : decide (0 ≤ a1_2) = true := decide_eq_true c5
   clear c5
   by_cases c6 : a1_2 < (l0.length : Int)
   ·rw [if_pos c6] at H
    have c6b0 : decide (a1_2 < (l0.length : Int)) = true := decide_eq_true c6
    clear c6
    simp only [Option.some.injEq, Prod.mk.injEq] at H
    obtain ⟨rfl, rfl, rfl⟩ := H
    go_enter Try.func73, Try.ntmps73
    try go_wp2_with (first | ((refine Gd (N := 3) rfl ?_); refine Be ?hg (N := 3) ?hd (cs := #[.int .i64 a1_0, .int .i64 a1_1, .int .i64 a1_2, .int .i64 a1_3, .int .i64 a1_4]) (t := 26) ?hr ?_; (case hd | hg => rfl); (case hr => first | (go_simp; done) | (go_simp; rfl)); intro gb286 hg w7 hbox hb; have n0_ := Am (Bt (by repeat (first | exact HB.out | apply Ba | apply Bn | apply Bd)) hb); have n1_ := Am (hbox); have n2_ := Am ((by rw [hg]; exact (Bz (by repeat (first | exact HB.out | apply Ba | apply Bn | apply Bd))) : w.heap.size ≤ gb286)); have n3_ := Am ((by rw [hg]; exact (Bz (by repeat (first | exact HB.out | apply Ba | apply Bn | apply Bd))) : w.heap.size ≤ gb286)); clear HB; have HB := n0_; have BK286 := n1_; have GW286 := n2_; have GE286 := n3_; clear n0_ n1_ n2_ n3_; clear hb hbox hg) | ((refine Gd (N := 5) rfl ?_); refine Be ?hg (N := 5) ?hd (cs := #[.int .i64 0, .int .i64 0]) (t := 30) ?hr ?_; (case hd | hg => rfl); (case hr => first | (go_simp; done) | (go_simp; rfl)); intro gb287 hg w8 hbox hb; have n0_ := Am (Kb (g := gb286) (o := .cells #[.int .i64 a1_0, .int .i64 a1_1, .int .i64 a1_2, .int .i64 a1_3, .int .i64 a1_4] 26 (0, 0)) (by (with_reducible repeat (first | refine Kn ?_ _ | refine Ke ?_ | refine Ka ?_ _)); exact BK286.out) hb); have n1_ := Am (Bt (by repeat (first | (with_reducible first | exact HB.out | apply Ba | apply Bn | apply Bd | refine Bs ?_ GE286.out) | exact HB.out)) hb); have n2_ := Am (hbox); have n3_ := Am ((by rw [hg]; exact (Bz (by repeat (first | (with_reducible first | exact HB.out | apply Ba | apply Bn | apply Bd | refine Bs ?_ GE286.out) | exact HB.out))) : w.heap.size ≤ gb287)); have n4_ := Am ((by rw [hg]; exact (Bz (by repeat (first | (with_reducible first | exact HB.out | apply Ba | apply Bn | apply Bd | refine Bs ?_ GE286.out) | exact HB.out))) : w.heap.size ≤ gb287)); have n5_ := Am ((by rw [hg]; exact Nat.ne_of_lt (blk_lt (g := gb286) (o := .cells #[.int .i64 a1_0, .int .i64 a1_1, .int .i64 a1_2, .int .i64 a1_3, .int .i64 a1_4] 26 (0, 0)) (by (with_reducible repeat (first | refine Kn ?_ _ | refine Ke ?_ | refine Ka ?_ _)); exact BK286.out)) : gb286 ≠ gb287)); have n6_ := Am ((by rw [hg]; exact Nat.ne_of_gt (blk_lt (g := gb286) (o := .cells #[.int .i64 a1_0, .int .i64 a1_1, .int .i64 a1_2, .int .i64 a1_3, .int .i64 a1_4] 26 (0, 0)) (by (with_reducible repeat (first | refine Kn ?_ _ | refine Ke ?_ | refine Ka ?_ _)); exact BK286.out)) : gb287 ≠ gb286)); clear BK286; clear HB; have BK286 := n0_; have HB := n1_; have BK287 := n2_; have GW287 := n3_; have GE287 := n4_; have NB286_287 := n5_; have NB287_286 := n6_; clear n0_ n1_ n2_ n3_ n4_ n5_ n6_; clear hb hbox hg) | ((refine Gc (f := 133) rfl ?_); refine goesL_ (some 8) rfl rfl Try.func133 (by kernel_rfl) rfl #[.slice A0 l0.length c0] rfl (by first | rfl | (simp only [List.map_toArray, List.map_cons, List.map_nil]; first | done | rfl)) ?_; (with_reducible refine (spec_l1Own.calls _ _ l0 t288 _ ?side1 ?side2 A3.out).mono ?_); (case side1 => repeat (first | exact (Kd.C_below HR0.out HB.out) | (with_reducible refine Kd.C_alloc ?_ _) | (with_reducible refine Kd.C_drewN ?_ _) | (with_reducible refine Kd.C_drew ?_))); (case side2 => exact HC0.out); rintro e w9 ⟨v289, rfl, ho0, hb⟩; refine ⟨_, rfl, ?_⟩; have n0_ := Am (Kd.R_lower ho0 (Bz (by repeat (first | (with_reducible first | exact HB.out | apply Ba | apply Bn | apply Bd | refine Bs ?_ GE286.out | refine Bs ?_ GE287.out) | exact HB.out)))); have n1_ := Am (Kb (g := gb286) (o := .cells #[.int .i64 a1_0, .int .i64 a1_1, .int .i64 a1_2, .int .i64 a1_3, .int .i64 a1_4] 26 (0, 0)) (by (with_reducible repeat (first | refine Kn ?_ _ | refine Ke ?_ | refine Ka ?_ _)); exact BK286.out) hb); have n2_ := Am (Kb (g := gb287) (o := .cells #[.int .i64 0, .int .i64 0] 30 (0, 0)) (by (with_reducible repeat (first | refine Kn ?_ _ | refine Ke ?_ | refine Ka ?_ _)); exact BK287.out) hb); have n3_ := Am (Bt (by repeat (first | (with_reducible first | exact HB.out | apply Ba | apply Bn | apply Bd | refine Bs ?_ GE286.out | refine Bs ?_ GE287.out) | exact HB.out)) hb); clear BK286; clear BK287; clear HB; have HO290 := n0_; have BK286 := n1_; have BK287 := n2_; have HB := n3_; clear n0_ n1_ n2_ n3_; (try clear hb); (try clear hb2); (try clear hk); (try clear hi); (try clear ho0); have hnb10 := NB286_287.out; have hnc10 := NB287_286.out; have hcz11_0 : w9.cell? ⟨gb286, 0, none⟩ = some (.int .i64 a1_0) := (Kc BK286.out 0).trans rfl; have hcz11_1 : w9.cell? ⟨gb286, 1, none⟩ = some (.int .i64 a1_1) := (Kc BK286.out 1).trans rfl; have hcz11_2 : w9.cell? ⟨gb286, 2, none⟩ = some (.int .i64 a1_2) := (Kc BK286.out 2).trans rfl; have hcz11_3 : w9.cell? ⟨gb286, 3, none⟩ = some (.int .i64 a1_3) := (Kc BK286.out 3).trans rfl; have hcz11_4 : w9.cell? ⟨gb286, 4, none⟩ = some (.int .i64 a1_4) := (Kc BK286.out 4).trans rfl; have hfz11_0 := Kz BK286.out 0; have hfz11_1 := Kz BK286.out 1; have hfz11_2 := Kz BK286.out 2; have hfz11_3 := Kz BK286.out 3; have hfz11_4 := Kz BK286.out 4))
    have n0_ := Am (Rd HO290.out)
    have n1_ := Am (Ke BK286.out)
    have n2_ := Am (Ke BK287.out)
    have n3_ := Am (Bd HB.out)
    clear HO290
    clear BK286
    clear BK287
    clear HB
    have HO290 := n0_
    have BK286 := n1_
    have BK287 := n2_
    have HB := n3_
    clear n0_ n1_ n2_ n3_
    have p291 : 0 ≤ (a1_2 : Int) := of_decide_eq_true (by assumption)
    have q291 : a1_2 < (l0.length : Int) := of_decide_eq_true (by assumption)
    obtain ⟨ad291, e291, hx291_0⟩ := Kd.at_int HR0.out a1_2 p291 q291
    have hw291_0 := hx291_0
    cases e291
    replace hx291_0 := (HB.out.cell (bl_ w _ hx291_0)).trans hx291_0
    replace p291 := eq_true p291
    replace q291 := eq_true q291
    refine start_ (n := 9) (S := fun w' => w'.cell? ⟨gb286, 0, none⟩ = some (.int .i64 a1_0) ∧ w'.cell? ⟨gb286, 1, none⟩ = some (.int .i64 a1_1) ∧ w'.cell? ⟨gb286, 2, none⟩ = some (.int .i64 a1_2) ∧ w'.cell? ⟨gb286, 3, none⟩ = some (.int .i64 a1_3) ∧ w'.cell? ⟨gb286, 4, none⟩ = some (.int .i64 a1_4) ∧ w'.cell? (ad291.add (a1_2).toNat) = some (.int .i64 (rd l0 a1_2))) (ds := []) #[false, false, false, false, false, false, false, false, false] (by kernel_rfl) rfl rfl ⟨(Kc BK286.out 0).trans rfl, (Kc BK286.out 1).trans rfl, (Kc BK286.out 2).trans rfl, (Kc BK286.out 3).trans rfl, (Kc BK286.out 4).trans rfl, ((HB.out.cell (bl_ w _ hw291_0)).trans hw291_0)⟩ (fun hHeld => ?_); refine with_tabW spec_l11Apply.tab4 spec_l11Apply.bits4 (fun HT_ HW_ => ?_)
    generalize w9.drew = w12 at HO290 BK286 BK287 HB hx291_0 hHeld ⊢
    refine pure_ (i := 0) (N := some 13) (v := ?_) (a' := ?_) #[true, false, false, false, false, false, false, false, false] rfl rfl (any_of HT_.out (by kernel_rfl)) (fun _ _ _ h => h) (Or.inl ⟨by rfl, ?_⟩) ?_ ?_
    rotate_left
    ·intro w'
     go_simp
     with_reducible rfl
    rotate_left
    ·simp only [Act.put, Lt, Lz, Ls, i64_w, i32_w]
     rfl
    refine pure_ (i := 1) (N := some 14) (v := ?_) (a' := ?_) #[true, true, false, false, false, false, false, false, false] rfl rfl (any_of HT_.out (by kernel_rfl)) (fun _ _ _ h => h) (Or.inl ⟨by rfl, ?_⟩) ?_ ?_
    rotate_left
    ·intro w'
     go_simp
     with_reducible rfl
    rotate_left
    ·simp only [Act.put, Lt, Lz, Ls, i64_w, i32_w]
     rfl
    refine pure_ (i := 2) (N := some 15) (v := ?_) (a' := ?_) #[true, true, true, false, false, false, false, false, false] rfl rfl (any_of HT_.out (by kernel_rfl)) (fun _ _ _ h => h) (Or.inl ⟨by rfl, ?_⟩) ?_ ?_
    rotate_left
    ·intro w'
     go_simp
     with_reducible rfl
    rotate_left
    ·simp only [Act.put, Lt, Lz, Ls, i64_w, i32_w]
     rfl
    refine pure_ (i := 7) (N := some 4) (v := ?_) (a' := ?_) #[true, true, true, false, false, false, false, true, false] rfl rfl (any_of HT_.out (by kernel_rfl)) (fun _ _ _ h => h) (Or.inl ⟨by rfl, ?_⟩) ?_ ?_
    rotate_left
    ·intro w'
     go_simp
     with_reducible rfl
    rotate_left
    ·simp only [Act.put, Lt, Lz, Ls, i64_w, i32_w]
     rfl
    refine take_ (i := 3) (N := some 16) (v := ?_) (a' := ?_) #[true, true, true, true, false, false, false, true, false] rfl rfl (take_ofW HT_.out HW_.out (by kernel_rfl)) (fun _ _ _ h => h) (Or.inl ⟨by rfl, ?_⟩) hHeld ?_ ?_
    rotate_left
    ·rintro w' ⟨s0, s1, s2, s3, s4, s5⟩
     go_simp
     with_reducible rfl
    rotate_left
    ·simp only [Act.put, Lt, Lz, Ls, i64_w, i32_w]
     rfl
    refine pure_ (i := 4) (N := some 17) (v := ?_) (a' := ?_) #[true, true, true, true, true, false, false, true, false] rfl rfl (any_of HT_.out (by kernel_rfl)) (fun _ _ _ h => h) (Or.inl ⟨by rfl, ?_⟩) ?_ ?_
    rotate_left
    ·intro w'
     go_simp
     with_reducible rfl
    rotate_left
    ·simp only [Act.put, Lt, Lz, Ls, i64_w, i32_w]
     rfl
    refine take_ (i := 5) (N := some 18) (v := ?_) (a' := ?_) #[true, true, true, true, true, true, false, true, false] rfl rfl (take_ofW HT_.out HW_.out (by kernel_rfl)) (fun _ _ _ h => h) (Or.inl ⟨by rfl, ?_⟩) hHeld ?_ ?_
    rotate_left
    ·rintro w' ⟨s0, s1, s2, s3, s4, s5⟩
     go_simp
     with_reducible rfl
    rotate_left
    ·simp only [Act.put, Lt, Lz, Ls, i64_w, i32_w]
     rfl
    refine pure_ (i := 6) (N := some 19) (v := ?_) (a' := ?_) #[true, true, true, true, true, true, true, true, false] rfl rfl (any_of HT_.out (by kernel_rfl)) (fun _ _ _ h => h) (Or.inl ⟨by rfl, ?_⟩) ?_ ?_
    rotate_left
    ·intro w'
     go_simp
     with_reducible rfl
    rotate_left
    ·simp only [Act.put, Lt, Lz, Ls, i64_w, i32_w]
     rfl
    refine one_ (i := 8) (N := none) #[true, true, true, true, true, true, true, true, true] rfl rfl (one_of HT_.out (by kernel_rfl)) (by decide) (fun K hK => ?_)
    have hs13 : w12.cell? ⟨gb287, 0, none⟩ = some (.int .i64 0) := (Kc BK287.out 0).trans rfl
    have hfs13 := Kz BK287.out 0
    have hns13_0 := NB286_287.out
    have hms13_0 := NB287_286.out
    have hs14 : w12.cell? ⟨gb287, 1, none⟩ = some (.int .i64 0) := (Kc BK287.out 1).trans rfl
    have hfs14 := Kz BK287.out 1
    have hns14_0 := NB286_287.out
    have hms14_0 := NB287_286.out
    refine skip_ (w1 := ?_) (by rfl) rfl ?_ ?_
    rotate_left
    ·go_simp
     rfl
    refine hK.out _ _ ⟨((cell_far (p := ⟨gb287, _, none⟩) NB286_287.out _).trans (((cell_far (p := ⟨gb287, _, none⟩) NB286_287.out _).trans (hHeld.1)))), ((cell_far (p := ⟨gb287, _, none⟩) NB286_287.out _).trans (((cell_far (p := ⟨gb287, _, none⟩) NB286_287.out _).trans (hHeld.2.1)))), ((cell_far (p := ⟨gb287, _, none⟩) NB286_287.out _).trans (((cell_far (p := ⟨gb287, _, none⟩) NB286_287.out _).trans (hHeld.2.2.1)))), ((cell_far (p := ⟨gb287, _, none⟩) NB286_287.out _).trans (((cell_far (p := ⟨gb287, _, none⟩) NB286_287.out _).trans (hHeld.2.2.2.1)))), ((cell_far (p := ⟨gb287, _, none⟩) NB286_287.out _).trans (((cell_far (p := ⟨gb287, _, none⟩) NB286_287.out _).trans (hHeld.2.2.2.2.1)))), ((cell_far (p := ⟨gb287, _, none⟩) (by first | exact Nat.ne_of_lt (Nat.lt_of_lt_of_le (by have := bl_ _ _ hw291_0; first | rwa [add_block] at this | exact this) GW287.out) | (rw [add_block]; exact Nat.ne_of_lt (Nat.lt_of_lt_of_le (by have := bl_ _ _ hw291_0; first | rwa [add_block] at this | exact this) GW287.out)) | (show (Addr.add _ _).block ≠ _; rw [add_block]; exact Nat.ne_of_lt (Nat.lt_of_lt_of_le (by have := bl_ _ _ hw291_0; first | rwa [add_block] at this | exact this) GW287.out)) | (dsimp only; exact Nat.ne_of_lt (Nat.lt_of_lt_of_le (by have := bl_ _ _ hw291_0; first | rwa [add_block] at this | exact this) GW287.out))) _).trans (((cell_far (p := ⟨gb287, _, none⟩) (by first | exact Nat.ne_of_lt (Nat.lt_of_lt_of_le (by have := bl_ _ _ hw291_0; first | rwa [add_block] at this | exact this) GW287.out) | (rw [add_block]; exact Nat.ne_of_lt (Nat.lt_of_lt_of_le (by have := bl_ _ _ hw291_0; first | rwa [add_block] at this | exact this) GW287.out)) | (show (Addr.add _ _).block ≠ _; rw [add_block]; exact Nat.ne_of_lt (Nat.lt_of_lt_of_le (by have := bl_ _ _ hw291_0; first | rwa [add_block] at this | exact this) GW287.out)) | (dsimp only; exact Nat.ne_of_lt (Nat.lt_of_lt_of_le (by have := bl_ _ _ hw291_0; first | rwa [add_block] at this | exact this) GW287.out))) _).trans (hHeld.2.2.2.2.2))))⟩ (fun hHeld => ?_)
    clear hK K
    refine done_ (done_of HT_.out (by kernel_rfl)) ?_
    try go_wp2
    refine bodyPost_ret (results_tc rfl _ _ gb287 30 #[.int .i64 3, .int .i64 (rd l0 a1_2)] (0, 0) _ rfl (by (with_reducible repeat (first | refine Kn ?_ _ | refine Ke ?_ | refine Ka ?_ _)); refine blk_put (cs := #[.int .i64 3, .int .i64 0]) ?_ 1 _ rfl; (with_reducible repeat (first | refine Kn ?_ _ | refine Ke ?_ | refine Ka ?_ _)); refine blk_put (cs := #[.int .i64 0, .int .i64 0]) ?_ 0 _ rfl; (with_reducible repeat (first | refine Kn ?_ _ | refine Ke ?_ | refine Ka ?_ _)); exact BK287.out) Try.underlying30 rfl (by kernel_rfl)) rfl ?_
    exact ⟨_, by first | rfl | (simp [*, errW_none, errW_some] <;> rfl), by (with_reducible repeat (first | apply Ra | apply Rn | apply Rd)); exact Kd.R_mono (Kd.R_far (p := ⟨gb287, 1, none⟩) (Kd.R_far (p := ⟨gb287, 0, none⟩) (Kd.R_types HO290.out BK287.out (by decide)) (fun _ hk => hk.2) (.int .i64 3)) (fun _ hk => hk.2) (.int .i64 (rd l0 a1_2))) (fun _ hk => trivial), by repeat (first | (with_reducible first | exact HB.out | apply Ba | apply Bn | apply Bd | refine Bs ?_ GE286.out | refine Bs ?_ GE287.out) | exact HB.out)⟩
   ·rw [if_neg c6] at H
    exact absurd H (by simp)
  ·rw [if_neg c5] at H
   exact absurd H (by simp)
 ·rw [if_neg c4] at H
  have c4b0 : (a1_0 == 2) = false := beq_eq_false_iff_ne.mpr c4
  have c4b1 : (a1_0 != 2) = true := bne_iff_ne.mpr c4
  by_cases c15 : a1_0 = 1
  ·rw [if_pos c15] at H
   have c15b0 : (a1_0 == 1) = true := beq_iff_eq.mpr c15
   have c15b1 : (a1_0 != 1) = false := bne_eq_false_iff_eq.mpr c15
   clear c15
   by_cases c16 : 0 ≤ a1_2
   ·rw [if_pos c16] at H
    have c16b0 : decide (0 ≤ a1_2) = true := decide_eq_true c16
    clear c16
    by_cases c17 : a1_2 < (l0.length : Int)
    ·rw [if_pos c17] at H
     have c17b0 : decide (a1_2 < (l0.length : Int)) = true := decide_eq_true c17
     clear c17
     by_cases c18 : (rd l0 a1_2) < a1_4
     ·rw [if_pos c18] at H
      have c18b0 : decide ((rd l0 a1_2) < a1_4) = true := decide_eq_true c18
      clear c18
      simp only [Option.some.injEq, Prod.mk.injEq] at H
      obtain ⟨rfl, rfl, rfl⟩ := H
      go_enter Try.func73, Try.ntmps73
      try go_wp2_with (first | ((refine Gd (N := 3) rfl ?_); refine Be ?hg (N := 3) ?hd (cs := #[.int .i64 a1_0, .int .i64 a1_1, .int .i64 a1_2, .int .i64 a1_3, .int .i64 a1_4]) (t := 26) ?hr ?_; (case hd | hg => rfl); (case hr => first | (go_simp; done) | (go_simp; rfl)); intro gb286 hg w19 hbox hb; have n0_ := Am (Bt (by repeat (first | exact HB.out | apply Ba | apply Bn | apply Bd)) hb); have n1_ := Am (hbox); have n2_ := Am ((by rw [hg]; exact (Bz (by repeat (first | exact HB.out | apply Ba | apply Bn | apply Bd))) : w.heap.size ≤ gb286)); have n3_ := Am ((by rw [hg]; exact (Bz (by repeat (first | exact HB.out | apply Ba | apply Bn | apply Bd))) : w.heap.size ≤ gb286)); clear HB; have HB := n0_; have BK286 := n1_; have GW286 := n2_; have GE286 := n3_; clear n0_ n1_ n2_ n3_; clear hb hbox hg) | ((refine Gd (N := 5) rfl ?_); refine Be ?hg (N := 5) ?hd (cs := #[.int .i64 0, .int .i64 0]) (t := 30) ?hr ?_; (case hd | hg => rfl); (case hr => first | (go_simp; done) | (go_simp; rfl)); intro gb287 hg w20 hbox hb; have n0_ := Am (Kb (g := gb286) (o := .cells #[.int .i64 a1_0, .int .i64 a1_1, .int .i64 a1_2, .int .i64 a1_3, .int .i64 a1_4] 26 (0, 0)) (by (with_reducible repeat (first | refine Kn ?_ _ | refine Ke ?_ | refine Ka ?_ _)); exact BK286.out) hb); have n1_ := Am (Bt (by repeat (first | (with_reducible first | exact HB.out | apply Ba | apply Bn | apply Bd | refine Bs ?_ GE286.out) | exact HB.out)) hb); have n2_ := Am (hbox); have n3_ := Am ((by rw [hg]; exact (Bz (by repeat (first | (with_reducible first | exact HB.out | apply Ba | apply Bn | apply Bd | refine Bs ?_ GE286.out) | exact HB.out))) : w.heap.size ≤ gb287)); have n4_ := Am ((by rw [hg]; exact (Bz (by repeat (first | (with_reducible first | exact HB.out | apply Ba | apply Bn | apply Bd | refine Bs ?_ GE286.out) | exact HB.out))) : w.heap.size ≤ gb287)); have n5_ := Am ((by rw [hg]; exact Nat.ne_of_lt (blk_lt (g := gb286) (o := .cells #[.int .i64 a1_0, .int .i64 a1_1, .int .i64 a1_2, .int .i64 a1_3, .int .i64 a1_4] 26 (0, 0)) (by (with_reducible repeat (first | refine Kn ?_ _ | refine Ke ?_ | refine Ka ?_ _)); exact BK286.out)) : gb286 ≠ gb287)); have n6_ := Am ((by rw [hg]; exact Nat.ne_of_gt (blk_lt (g := gb286) (o := .cells #[.int .i64 a1_0, .int .i64 a1_1, .int .i64 a1_2, .int .i64 a1_3, .int .i64 a1_4] 26 (0, 0)) (by (with_reducible repeat (first | refine Kn ?_ _ | refine Ke ?_ | refine Ka ?_ _)); exact BK286.out)) : gb287 ≠ gb286)); clear BK286; clear HB; have BK286 := n0_; have HB := n1_; have BK287 := n2_; have GW287 := n3_; have GE287 := n4_; have NB286_287 := n5_; have NB287_286 := n6_; clear n0_ n1_ n2_ n3_ n4_ n5_ n6_; clear hb hbox hg) | ((refine Gc (f := 133) rfl ?_); refine goesL_ (some 8) rfl rfl Try.func133 (by kernel_rfl) rfl #[.slice A0 l0.length c0] rfl (by first | rfl | (simp only [List.map_toArray, List.map_cons, List.map_nil]; first | done | rfl)) ?_; (with_reducible refine (spec_l1Own.calls _ _ l0 t288 _ ?side1 ?side2 A3.out).mono ?_); (case side1 => repeat (first | exact (Kd.C_below HR0.out HB.out) | (with_reducible refine Kd.C_alloc ?_ _) | (with_reducible refine Kd.C_drewN ?_ _) | (with_reducible refine Kd.C_drew ?_))); (case side2 => exact HC0.out); rintro e w21 ⟨v289, rfl, ho0, hb⟩; refine ⟨_, rfl, ?_⟩; have n0_ := Am (Kd.R_lower ho0 (Bz (by repeat (first | (with_reducible first | exact HB.out | apply Ba | apply Bn | apply Bd | refine Bs ?_ GE286.out | refine Bs ?_ GE287.out) | exact HB.out)))); have n1_ := Am (Kb (g := gb286) (o := .cells #[.int .i64 a1_0, .int .i64 a1_1, .int .i64 a1_2, .int .i64 a1_3, .int .i64 a1_4] 26 (0, 0)) (by (with_reducible repeat (first | refine Kn ?_ _ | refine Ke ?_ | refine Ka ?_ _)); exact BK286.out) hb); have n2_ := Am (Kb (g := gb287) (o := .cells #[.int .i64 0, .int .i64 0] 30 (0, 0)) (by (with_reducible repeat (first | refine Kn ?_ _ | refine Ke ?_ | refine Ka ?_ _)); exact BK287.out) hb); have n3_ := Am (Bt (by repeat (first | (with_reducible first | exact HB.out | apply Ba | apply Bn | apply Bd | refine Bs ?_ GE286.out | refine Bs ?_ GE287.out) | exact HB.out)) hb); clear BK286; clear BK287; clear HB; have HO290 := n0_; have BK286 := n1_; have BK287 := n2_; have HB := n3_; clear n0_ n1_ n2_ n3_; (try clear hb); (try clear hb2); (try clear hk); (try clear hi); (try clear ho0); have hnb22 := NB286_287.out; have hnc22 := NB287_286.out; have hcz23_0 : w21.cell? ⟨gb286, 0, none⟩ = some (.int .i64 a1_0) := (Kc BK286.out 0).trans rfl; have hcz23_1 : w21.cell? ⟨gb286, 1, none⟩ = some (.int .i64 a1_1) := (Kc BK286.out 1).trans rfl; have hcz23_2 : w21.cell? ⟨gb286, 2, none⟩ = some (.int .i64 a1_2) := (Kc BK286.out 2).trans rfl; have hcz23_3 : w21.cell? ⟨gb286, 3, none⟩ = some (.int .i64 a1_3) := (Kc BK286.out 3).trans rfl; have hcz23_4 : w21.cell? ⟨gb286, 4, none⟩ = some (.int .i64 a1_4) := (Kc BK286.out 4).trans rfl; have hfz23_0 := Kz BK286.out 0; have hfz23_1 := Kz BK286.out 1; have hfz23_2 := Kz BK286.out 2; have hfz23_3 := Kz BK286.out 3; have hfz23_4 := Kz BK286.out 4))
      have n0_ := Am (Rd HO290.out)
      have n1_ := Am (Ke BK286.out)
      have n2_ := Am (Ke BK287.out)
      have n3_ := Am (Bd HB.out)
      clear HO290
      clear BK286
      clear BK287
      clear HB
      have HO290 := n0_
      have BK286 := n1_
      have BK287 := n2_
      have HB := n3_
      clear n0_ n1_ n2_ n3_
      have p292 : 0 ≤ (a1_2 : Int) := of_decide_eq_true (by assumption)
      have q292 : a1_2 < (l0.length : Int) := of_decide_eq_true (by assumption)
      obtain ⟨ad292, e292, hx292_0⟩ := Kd.at_int HR0.out a1_2 p292 q292
      have hw292_0 := hx292_0
      cases e292
      replace hx292_0 := (HB.out.cell (bl_ w _ hx292_0)).trans hx292_0
      replace p292 := eq_true p292
      replace q292 := eq_true q292
      refine start_ (n := 8) (S := fun w' => w'.cell? ⟨gb286, 0, none⟩ = some (.int .i64 a1_0) ∧ w'.cell? ⟨gb286, 1, none⟩ = some (.int .i64 a1_1) ∧ w'.cell? ⟨gb286, 2, none⟩ = some (.int .i64 a1_2) ∧ w'.cell? ⟨gb286, 3, none⟩ = some (.int .i64 a1_3) ∧ w'.cell? ⟨gb286, 4, none⟩ = some (.int .i64 a1_4) ∧ w'.cell? (ad292.add (a1_2).toNat) = some (.int .i64 (rd l0 a1_2))) (ds := []) #[false, false, false, false, false, false, false, false] (by kernel_rfl) rfl rfl ⟨(Kc BK286.out 0).trans rfl, (Kc BK286.out 1).trans rfl, (Kc BK286.out 2).trans rfl, (Kc BK286.out 3).trans rfl, (Kc BK286.out 4).trans rfl, ((HB.out.cell (bl_ w _ hw292_0)).trans hw292_0)⟩ (fun hHeld => ?_); refine with_tabW spec_l11Apply.tab6 spec_l11Apply.bits6 (fun HT_ HW_ => ?_)
      generalize w21.drew = w24 at HO290 BK286 BK287 HB hx292_0 hHeld ⊢
      refine pure_ (i := 0) (N := some 22) (v := ?_) (a' := ?_) #[true, false, false, false, false, false, false, false] rfl rfl (any_of HT_.out (by kernel_rfl)) (fun _ _ _ h => h) (Or.inl ⟨by rfl, ?_⟩) ?_ ?_
      rotate_left
      ·intro w'
       go_simp
       with_reducible rfl
      rotate_left
      ·simp only [Act.put, Lt, Lz, Ls, i64_w, i32_w]
       rfl
      refine pure_ (i := 1) (N := some 23) (v := ?_) (a' := ?_) #[true, true, false, false, false, false, false, false] rfl rfl (any_of HT_.out (by kernel_rfl)) (fun _ _ _ h => h) (Or.inl ⟨by rfl, ?_⟩) ?_ ?_
      rotate_left
      ·intro w'
       go_simp
       with_reducible rfl
      rotate_left
      ·simp only [Act.put, Lt, Lz, Ls, i64_w, i32_w]
       rfl
      refine pure_ (i := 5) (N := some 27) (v := ?_) (a' := ?_) #[true, true, false, false, false, true, false, false] rfl rfl (any_of HT_.out (by kernel_rfl)) (fun _ _ _ h => h) (Or.inl ⟨by rfl, ?_⟩) ?_ ?_
      rotate_left
      ·intro w'
       go_simp
       with_reducible rfl
      rotate_left
      ·simp only [Act.put, Lt, Lz, Ls, i64_w, i32_w]
       rfl
      refine take_ (i := 2) (N := some 24) (v := ?_) (a' := ?_) #[true, true, true, false, false, true, false, false] rfl rfl (take_ofW HT_.out HW_.out (by kernel_rfl)) (fun _ _ _ h => h) (Or.inl ⟨by rfl, ?_⟩) hHeld ?_ ?_
      rotate_left
      ·rintro w' ⟨s0, s1, s2, s3, s4, s5⟩
       go_simp
       with_reducible rfl
      rotate_left
      ·simp only [Act.put, Lt, Lz, Ls, i64_w, i32_w]
       rfl
      refine pure_ (i := 3) (N := some 25) (v := ?_) (a' := ?_) #[true, true, true, true, false, true, false, false] rfl rfl (any_of HT_.out (by kernel_rfl)) (fun _ _ _ h => h) (Or.inl ⟨by rfl, ?_⟩) ?_ ?_
      rotate_left
      ·intro w'
       go_simp
       with_reducible rfl
      rotate_left
      ·simp only [Act.put, Lt, Lz, Ls, i64_w, i32_w]
       rfl
      refine take_ (i := 4) (N := some 26) (v := ?_) (a' := ?_) #[true, true, true, true, true, true, false, false] rfl rfl (take_ofW HT_.out HW_.out (by kernel_rfl)) (fun _ _ _ h => h) (Or.inl ⟨by rfl, ?_⟩) hHeld ?_ ?_
      rotate_left
      ·rintro w' ⟨s0, s1, s2, s3, s4, s5⟩
       go_simp
       with_reducible rfl
      rotate_left
      ·simp only [Act.put, Lt, Lz, Ls, i64_w, i32_w]
       rfl
      refine take_ (i := 6) (N := some 28) (v := ?_) (a' := ?_) #[true, true, true, true, true, true, true, false] rfl rfl (take_ofW HT_.out HW_.out (by kernel_rfl)) (fun _ _ _ h => h) (Or.inl ⟨by rfl, ?_⟩) hHeld ?_ ?_
      rotate_left
      ·rintro w' ⟨s0, s1, s2, s3, s4, s5⟩
       go_simp
       with_reducible rfl
      rotate_left
      ·simp only [Act.put, Lt, Lz, Ls, i64_w, i32_w]
       rfl
      refine pure_ (i := 7) (N := some 29) (v := ?_) (a' := ?_) #[true, true, true, true, true, true, true, true] rfl rfl (any_of HT_.out (by kernel_rfl)) (fun _ _ _ h => h) (Or.inl ⟨by rfl, ?_⟩) ?_ ?_
      rotate_left
      ·intro w'
       go_simp
       with_reducible rfl
      rotate_left
      ·simp only [Act.put, Lt, Lz, Ls, i64_w, i32_w]
       rfl
      refine done_ (done_of HT_.out (by kernel_rfl)) ?_
      have hcz25_0 : w24.cell? ⟨gb287, 0, none⟩ = some (.int .i64 0) := (Kc BK287.out 0).trans rfl
      have hcz25_1 : w24.cell? ⟨gb287, 1, none⟩ = some (.int .i64 0) := (Kc BK287.out 1).trans rfl
      have hfz25_0 := Kz BK287.out 0
      have hfz25_1 := Kz BK287.out 1
      try go_wp2
      refine bodyPost_ret (results_tc rfl _ _ gb287 30 #[.int .i64 2, .int .i64 0] (0, 0) _ rfl (by (with_reducible repeat (first | refine Kn ?_ _ | refine Ke ?_ | refine Ka ?_ _)); refine blk_put (cs := #[.int .i64 2, .int .i64 0]) ?_ 1 _ rfl; (with_reducible repeat (first | refine Kn ?_ _ | refine Ke ?_ | refine Ka ?_ _)); refine blk_put (cs := #[.int .i64 0, .int .i64 0]) ?_ 0 _ rfl; (with_reducible repeat (first | refine Kn ?_ _ | refine Ke ?_ | refine Ka ?_ _)); exact BK287.out) Try.underlying30 rfl (by kernel_rfl)) rfl ?_
      exact ⟨_, by first | rfl | (simp [*, errW_none, errW_some] <;> rfl), by (with_reducible repeat (first | apply Ra | apply Rn | apply Rd)); exact Kd.R_mono (Kd.R_far (p := ⟨gb287, 1, none⟩) (Kd.R_far (p := ⟨gb287, 0, none⟩) (Kd.R_types HO290.out BK287.out (by decide)) (fun _ hk => hk.2) (.int .i64 2)) (fun _ hk => hk.2) (.int .i64 0)) (fun _ hk => trivial), by repeat (first | (with_reducible first | exact HB.out | apply Ba | apply Bn | apply Bd | refine Bs ?_ GE286.out | refine Bs ?_ GE287.out) | exact HB.out)⟩
     ·rw [if_neg c18] at H
      have c18b0 : decide ((rd l0 a1_2) < a1_4) = false := decide_eq_false c18
      clear c18
      by_cases c26 : a1_2 < (t288.length : Int)
      ·rw [if_pos c26] at H
       have c26b0 : decide (a1_2 < (t288.length : Int)) = true := decide_eq_true c26
       clear c26
       obtain ⟨y294, hy294⟩ : ∃ y_ : List Int, y_ = (t288.set (a1_2 : Int).toNat (wrap64 ((rd t288 a1_2) - a1_4))) := ⟨_, rfl⟩
       replace H : (if 0 ≤ a1_3 then (if a1_3 < (t288.length : Int) then (some ((y294.set (a1_3 : Int).toNat (wrap64 ((rd y294 a1_3) + a1_4))), 1, 0)) else (none)) else (none)) = some (r1, r2, r3) := by first | (rw [hy294]; with_reducible exact H) | (have H2_ := (Option.bind_some _ _).symm.trans H; rw [hy294]; with_reducible exact H2_) | (have H2_ := (Option.bind_some _ _).symm.trans H; with_reducible exact H2_) | with_reducible exact H | (rw [hy294]; exact H) | exact H
       have Ny294 := Am hy294
       clear hy294
       by_cases c28 : 0 ≤ a1_3
       ·rw [if_pos c28] at H
        have c28b0 : decide (0 ≤ a1_3) = true := decide_eq_true c28
        clear c28
        by_cases c29 : a1_3 < (t288.length : Int)
        ·rw [if_pos c29] at H
         have c29b0 : decide (a1_3 < (t288.length : Int)) = true := decide_eq_true c29
         clear c29
         obtain ⟨y296, hy296⟩ : ∃ y_ : List Int, y_ = (y294.set (a1_3 : Int).toNat (wrap64 ((rd y294 a1_3) + a1_4))) := ⟨_, rfl⟩
         replace H : (some (y296, 1, 0)) = some (r1, r2, r3) := by first | (rw [hy296]; with_reducible exact H) | (have H2_ := (Option.bind_some _ _).symm.trans H; rw [hy296]; with_reducible exact H2_) | (have H2_ := (Option.bind_some _ _).symm.trans H; with_reducible exact H2_) | with_reducible exact H | (rw [hy296]; exact H) | exact H
         have Ny296 := Am hy296
         clear hy296
         simp only [Option.some.injEq, Prod.mk.injEq] at H
         obtain ⟨rfl, rfl, rfl⟩ := H
         go_enter Try.func73, Try.ntmps73
         try go_wp2_with (first | ((refine Gd (N := 3) rfl ?_); refine Be ?hg (N := 3) ?hd (cs := #[.int .i64 a1_0, .int .i64 a1_1, .int .i64 a1_2, .int .i64 a1_3, .int .i64 a1_4]) (t := 26) ?hr ?_; (case hd | hg => rfl); (case hr => first | (go_simp; done) | (go_simp; rfl)); intro gb286 hg w31 hbox hb; have n0_ := Am (Bt (by repeat (first | exact HB.out | apply Ba | apply Bn | apply Bd)) hb); have n1_ := Am (hbox); have n2_ := Am ((by rw [hg]; exact (Bz (by repeat (first | exact HB.out | apply Ba | apply Bn | apply Bd))) : w.heap.size ≤ gb286)); have n3_ := Am ((by rw [hg]; exact (Bz (by repeat (first | exact HB.out | apply Ba | apply Bn | apply Bd))) : w.heap.size ≤ gb286)); clear HB; have HB := n0_; have BK286 := n1_; have GW286 := n2_; have GE286 := n3_; clear n0_ n1_ n2_ n3_; clear hb hbox hg) | ((refine Gd (N := 5) rfl ?_); refine Be ?hg (N := 5) ?hd (cs := #[.int .i64 0, .int .i64 0]) (t := 30) ?hr ?_; (case hd | hg => rfl); (case hr => first | (go_simp; done) | (go_simp; rfl)); intro gb287 hg w32 hbox hb; have n0_ := Am (Kb (g := gb286) (o := .cells #[.int .i64 a1_0, .int .i64 a1_1, .int .i64 a1_2, .int .i64 a1_3, .int .i64 a1_4] 26 (0, 0)) (by (with_reducible repeat (first | refine Kn ?_ _ | refine Ke ?_ | refine Ka ?_ _)); exact BK286.out) hb); have n1_ := Am (Bt (by repeat (first | (with_reducible first | exact HB.out | apply Ba | apply Bn | apply Bd | refine Bs ?_ GE286.out) | exact HB.out)) hb); have n2_ := Am (hbox); have n3_ := Am ((by rw [hg]; exact (Bz (by repeat (first | (with_reducible first | exact HB.out | apply Ba | apply Bn | apply Bd | refine Bs ?_ GE286.out) | exact HB.out))) : w.heap.size ≤ gb287)); have n4_ := Am ((by rw [hg]; exact (Bz (by repeat (first | (with_reducible first | exact HB.out | apply Ba | apply Bn | apply Bd | refine Bs ?_ GE286.out) | exact HB.out))) : w.heap.size ≤ gb287)); have n5_ := Am ((by rw [hg]; exact Nat.ne_of_lt (blk_lt (g := gb286) (o := .cells #[.int .i64 a1_0, .int .i64 a1_1, .int .i64 a1_2, .int .i64 a1_3, .int .i64 a1_4] 26 (0, 0)) (by (with_reducible repeat (first | refine Kn ?_ _ | refine Ke ?_ | refine Ka ?_ _)); exact BK286.out)) : gb286 ≠ gb287)); have n6_ := Am ((by rw [hg]; exact Nat.ne_of_gt (blk_lt (g := gb286) (o := .cells #[.int .i64 a1_0, .int .i64 a1_1, .int .i64 a1_2, .int .i64 a1_3, .int .i64 a1_4] 26 (0, 0)) (by (with_reducible repeat (first | refine Kn ?_ _ | refine Ke ?_ | refine Ka ?_ _)); exact BK286.out)) : gb287 ≠ gb286)); clear BK286; clear HB; have BK286 := n0_; have HB := n1_; have BK287 := n2_; have GW287 := n3_; have GE287 := n4_; have NB286_287 := n5_; have NB287_286 := n6_; clear n0_ n1_ n2_ n3_ n4_ n5_ n6_; clear hb hbox hg) | ((refine Gc (f := 133) rfl ?_); refine goesL_ (some 8) rfl rfl Try.func133 (by kernel_rfl) rfl #[.slice A0 l0.length c0] rfl (by first | rfl | (simp only [List.map_toArray, List.map_cons, List.map_nil]; first | done | rfl)) ?_; (with_reducible refine (spec_l1Own.calls _ _ l0 t288 _ ?side1 ?side2 A3.out).mono ?_); (case side1 => repeat (first | exact (Kd.C_below HR0.out HB.out) | (with_reducible refine Kd.C_alloc ?_ _) | (with_reducible refine Kd.C_drewN ?_ _) | (with_reducible refine Kd.C_drew ?_))); (case side2 => exact HC0.out); rintro e w33 ⟨v289, rfl, ho0, hb⟩; refine ⟨_, rfl, ?_⟩; have n0_ := Am (Kd.R_lower ho0 (Bz (by repeat (first | (with_reducible first | exact HB.out | apply Ba | apply Bn | apply Bd | refine Bs ?_ GE286.out | refine Bs ?_ GE287.out) | exact HB.out)))); have n1_ := Am (Kb (g := gb286) (o := .cells #[.int .i64 a1_0, .int .i64 a1_1, .int .i64 a1_2, .int .i64 a1_3, .int .i64 a1_4] 26 (0, 0)) (by (with_reducible repeat (first | refine Kn ?_ _ | refine Ke ?_ | refine Ka ?_ _)); exact BK286.out) hb); have n2_ := Am (Kb (g := gb287) (o := .cells #[.int .i64 0, .int .i64 0] 30 (0, 0)) (by (with_reducible repeat (first | refine Kn ?_ _ | refine Ke ?_ | refine Ka ?_ _)); exact BK287.out) hb); have n3_ := Am (Bt (by repeat (first | (with_reducible first | exact HB.out | apply Ba | apply Bn | apply Bd | refine Bs ?_ GE286.out | refine Bs ?_ GE287.out) | exact HB.out)) hb); clear BK286; clear BK287; clear HB; have HO290 := n0_; have BK286 := n1_; have BK287 := n2_; have HB := n3_; clear n0_ n1_ n2_ n3_; (try clear hb); (try clear hb2); (try clear hk); (try clear hi); (try clear ho0); have hnb34 := NB286_287.out; have hnc34 := NB287_286.out; have hcz35_0 : w33.cell? ⟨gb286, 0, none⟩ = some (.int .i64 a1_0) := (Kc BK286.out 0).trans rfl; have hcz35_1 : w33.cell? ⟨gb286, 1, none⟩ = some (.int .i64 a1_1) := (Kc BK286.out 1).trans rfl; have hcz35_2 : w33.cell? ⟨gb286, 2, none⟩ = some (.int .i64 a1_2) := (Kc BK286.out 2).trans rfl; have hcz35_3 : w33.cell? ⟨gb286, 3, none⟩ = some (.int .i64 a1_3) := (Kc BK286.out 3).trans rfl; have hcz35_4 : w33.cell? ⟨gb286, 4, none⟩ = some (.int .i64 a1_4) := (Kc BK286.out 4).trans rfl; have hfz35_0 := Kz BK286.out 0; have hfz35_1 := Kz BK286.out 1; have hfz35_2 := Kz BK286.out 2; have hfz35_3 := Kz BK286.out 3; have hfz35_4 := Kz BK286.out 4))
         have n0_ := Am (Rd HO290.out)
         have n1_ := Am (Ke BK286.out)
         have n2_ := Am (Ke BK287.out)
         have n3_ := Am (Bd HB.out)
         clear HO290
         clear BK286
         clear BK287
         clear HB
         have HO290 := n0_
         have BK286 := n1_
         have BK287 := n2_
         have HB := n3_
         clear n0_ n1_ n2_ n3_
         have p292 : 0 ≤ (a1_2 : Int) := of_decide_eq_true (by assumption)
         have q292 : a1_2 < (l0.length : Int) := of_decide_eq_true (by assumption)
         obtain ⟨ad292, e292, hx292_0⟩ := Kd.at_int HR0.out a1_2 p292 q292
         have hw292_0 := hx292_0
         cases e292
         replace hx292_0 := (HB.out.cell (bl_ w _ hx292_0)).trans hx292_0
         replace p292 := eq_true p292
         replace q292 := eq_true q292
         refine start_ (n := 8) (S := fun w' => w'.cell? ⟨gb286, 0, none⟩ = some (.int .i64 a1_0) ∧ w'.cell? ⟨gb286, 1, none⟩ = some (.int .i64 a1_1) ∧ w'.cell? ⟨gb286, 2, none⟩ = some (.int .i64 a1_2) ∧ w'.cell? ⟨gb286, 3, none⟩ = some (.int .i64 a1_3) ∧ w'.cell? ⟨gb286, 4, none⟩ = some (.int .i64 a1_4) ∧ w'.cell? (ad292.add (a1_2).toNat) = some (.int .i64 (rd l0 a1_2))) (ds := []) #[false, false, false, false, false, false, false, false] (by kernel_rfl) rfl rfl ⟨(Kc BK286.out 0).trans rfl, (Kc BK286.out 1).trans rfl, (Kc BK286.out 2).trans rfl, (Kc BK286.out 3).trans rfl, (Kc BK286.out 4).trans rfl, ((HB.out.cell (bl_ w _ hw292_0)).trans hw292_0)⟩ (fun hHeld => ?_); refine with_tabW spec_l11Apply.tab6 spec_l11Apply.bits6 (fun HT_ HW_ => ?_)
         generalize w33.drew = w36 at HO290 BK286 BK287 HB hx292_0 hHeld ⊢
         refine pure_ (i := 0) (N := some 22) (v := ?_) (a' := ?_) #[true, false, false, false, false, false, false, false] rfl rfl (any_of HT_.out (by kernel_rfl)) (fun _ _ _ h => h) (Or.inl ⟨by rfl, ?_⟩) ?_ ?_
         rotate_left
         ·intro w'
          go_simp
          with_reducible rfl
         rotate_left
         ·simp only [Act.put, Lt, Lz, Ls, i64_w, i32_w]
          rfl
         refine pure_ (i := 1) (N := some 23) (v := ?_) (a' := ?_) #[true, true, false, false, false, false, false, false] rfl rfl (any_of HT_.out (by kernel_rfl)) (fun _ _ _ h => h) (Or.inl ⟨by rfl, ?_⟩) ?_ ?_
         rotate_left
         ·intro w'
          go_simp
          with_reducible rfl
         rotate_left
         ·simp only [Act.put, Lt, Lz, Ls, i64_w, i32_w]
          rfl
         refine pure_ (i := 5) (N := some 27) (v := ?_) (a' := ?_) #[true, true, false, false, false, true, false, false] rfl rfl (any_of HT_.out (by kernel_rfl)) (fun _ _ _ h => h) (Or.inl ⟨by rfl, ?_⟩) ?_ ?_
         rotate_left
         ·intro w'
          go_simp
          with_reducible rfl
         rotate_left
         ·simp only [Act.put, Lt, Lz, Ls, i64_w, i32_w]
          rfl
         refine take_ (i := 2) (N := some 24) (v := ?_) (a' := ?_) #[true, true, true, false, false, true, false, false] rfl rfl (take_ofW HT_.out HW_.out (by kernel_rfl)) (fun _ _ _ h => h) (Or.inl ⟨by rfl, ?_⟩) hHeld ?_ ?_
         rotate_left
         ·rintro w' ⟨s0, s1, s2, s3, s4, s5⟩
          go_simp
          with_reducible rfl
         rotate_left
         ·simp only [Act.put, Lt, Lz, Ls, i64_w, i32_w]
          rfl
         refine pure_ (i := 3) (N := some 25) (v := ?_) (a' := ?_) #[true, true, true, true, false, true, false, false] rfl rfl (any_of HT_.out (by kernel_rfl)) (fun _ _ _ h => h) (Or.inl ⟨by rfl, ?_⟩) ?_ ?_
         rotate_left
         ·intro w'
          go_simp
          with_reducible rfl
         rotate_left
         ·simp only [Act.put, Lt, Lz, Ls, i64_w, i32_w]
          rfl
         refine take_ (i := 4) (N := some 26) (v := ?_) (a' := ?_) #[true, true, true, true, true, true, false, false] rfl rfl (take_ofW HT_.out HW_.out (by kernel_rfl)) (fun _ _ _ h => h) (Or.inl ⟨by rfl, ?_⟩) hHeld ?_ ?_
         rotate_left
         ·rintro w' ⟨s0, s1, s2, s3, s4, s5⟩
          go_simp
          with_reducible rfl
         rotate_left
         ·simp only [Act.put, Lt, Lz, Ls, i64_w, i32_w]
          rfl
         refine take_ (i := 6) (N := some 28) (v := ?_) (a' := ?_) #[true, true, true, true, true, true, true, false] rfl rfl (take_ofW HT_.out HW_.out (by kernel_rfl)) (fun _ _ _ h => h) (Or.inl ⟨by rfl, ?_⟩) hHeld ?_ ?_
         rotate_left
         ·rintro w' ⟨s0, s1, s2, s3, s4, s5⟩
          go_simp
          with_reducible rfl
         rotate_left
         ·simp only [Act.put, Lt, Lz, Ls, i64_w, i32_w]
          rfl
         refine pure_ (i := 7) (N := some 29) (v := ?_) (a' := ?_) #[true, true, true, true, true, true, true, true] rfl rfl (any_of HT_.out (by kernel_rfl)) (fun _ _ _ h => h) (Or.inl ⟨by rfl, ?_⟩) ?_ ?_
         rotate_left
         ·intro w'
          go_simp
          with_reducible rfl
         rotate_left
         ·simp only [Act.put, Lt, Lz, Ls, i64_w, i32_w]
          rfl
         refine done_ (done_of HT_.out (by kernel_rfl)) ?_
         try go_wp2
         have n0_ := Am (Rd HO290.out)
         have n1_ := Am (Ke BK286.out)
         have n2_ := Am (Ke BK287.out)
         have n3_ := Am (Bd HB.out)
         clear HO290
         clear BK286
         clear BK287
         clear HB
         have HO290 := n0_
         have BK286 := n1_
         have BK287 := n2_
         have HB := n3_
         clear n0_ n1_ n2_ n3_
         obtain ⟨Ao38, co38, eo38⟩ := Kd.R_slice HO290.out
         (first | subst eo38 | (injection eo38 with f1_ f2_ f3_; have f4_ := f1_.symm; have f5_ := f3_.symm; clear f1_ f2_ f3_; subst f4_; subst f5_))
         have p293 : 0 ≤ (a1_2 : Int) := of_decide_eq_true (by assumption)
         have q293 : a1_2 < (t288.length : Int) := of_decide_eq_true (by assumption)
         obtain ⟨ad293, e293, hx293_0⟩ := Kd.at_int (Kd.R_reads' HO290.out).2.2 a1_2 p293 q293
         cases e293
         replace p293 := eq_true p293
         replace q293 := eq_true q293
         have p27 : 0 ≤ (a1_2 : Int) := of_decide_eq_true (by assumption)
         have q27 : (a1_2 : Int) < ((t288.length : Int) : Int) := of_decide_eq_true (by assumption)
         obtain ⟨go27, co27, eo27, gb27, gl27, cl27, HG27⟩ := Kd.R_form HO290.out (by omega)
         (first | cases eo27 | (injection eo27 with ea_ en_ ec_; (first | subst ea_ | (injection ea_ with ea_; subst ea_)); subst ec_; clear en_))
         have GB27 := Am gb27
         have GG27 := Am HG27
         clear gb27 gl27 HG27
         (first | simp only [add_plain] at hx293_0 | skip)
         obtain ⟨hx27_0, hf27_0⟩ := Kd.R_celln 0 HO290.out (a1_2 : Int) p27 q27
         replace p27 := eq_true p27
         replace q27 := eq_true q27
         have HP39 := Kd.R_putn HO290.out (a1_2 : Int) (wrap64 ((rd t288 a1_2) - a1_4))
         rw [← Ny294.out] at HP39
         have HQ39 := Am HP39
         clear HP39
         refine start_ (n := 10) (S := fun w' => w'.cell? ⟨gb286, 0, none⟩ = some (.int .i64 a1_0) ∧ w'.cell? ⟨gb286, 1, none⟩ = some (.int .i64 a1_1) ∧ w'.cell? ⟨gb286, 2, none⟩ = some (.int .i64 a1_2) ∧ w'.cell? ⟨gb286, 3, none⟩ = some (.int .i64 a1_3) ∧ w'.cell? ⟨gb286, 4, none⟩ = some (.int .i64 a1_4) ∧ w'.cell? ⟨go27, (a1_2).toNat, none⟩ = some (.int .i64 (rd t288 a1_2))) (ds := [9]) #[false, false, false, false, false, false, false, false, false, false] (by kernel_rfl) rfl rfl ⟨(Kc BK286.out 0).trans rfl, (Kc BK286.out 1).trans rfl, (Kc BK286.out 2).trans rfl, (Kc BK286.out 3).trans rfl, (Kc BK286.out 4).trans rfl, hx293_0⟩ (fun hHeld => ?_); refine with_tabW spec_l11Apply.tab8 spec_l11Apply.bits8 (fun HT_ HW_ => ?_)
         generalize w36.drew = w37 at HO290 BK286 BK287 HB GG27 HQ39 hf27_0 hx27_0 hx293_0 hHeld ⊢
         refine pure_ (i := 0) (N := some 32) (v := ?_) (a' := ?_) #[true, false, false, false, false, false, false, false, false, false] rfl rfl (any_of HT_.out (by kernel_rfl)) (fun _ _ _ h => h) (Or.inl ⟨by rfl, ?_⟩) ?_ ?_
         rotate_left
         ·intro w'
          go_simp
          with_reducible rfl
         rotate_left
         ·simp only [Act.put, Lt, Lz, Ls, i64_w, i32_w]
          rfl
         refine pure_ (i := 1) (N := some 33) (v := ?_) (a' := ?_) #[true, true, false, false, false, false, false, false, false, false] rfl rfl (any_of HT_.out (by kernel_rfl)) (fun _ _ _ h => h) (Or.inl ⟨by rfl, ?_⟩) ?_ ?_
         rotate_left
         ·intro w'
          go_simp
          with_reducible rfl
         rotate_left
         ·simp only [Act.put, Lt, Lz, Ls, i64_w, i32_w]
          rfl
         refine pure_ (i := 5) (N := some 37) (v := ?_) (a' := ?_) #[true, true, false, false, false, true, false, false, false, false] rfl rfl (any_of HT_.out (by kernel_rfl)) (fun _ _ _ h => h) (Or.inl ⟨by rfl, ?_⟩) ?_ ?_
         rotate_left
         ·intro w'
          go_simp
          with_reducible rfl
         rotate_left
         ·simp only [Act.put, Lt, Lz, Ls, i64_w, i32_w]
          rfl
         refine take_ (i := 2) (N := some 34) (v := ?_) (a' := ?_) #[true, true, true, false, false, true, false, false, false, false] rfl rfl (take_ofW HT_.out HW_.out (by kernel_rfl)) (fun _ _ _ h => h) (Or.inl ⟨by rfl, ?_⟩) hHeld ?_ ?_
         rotate_left
         ·rintro w' ⟨s0, s1, s2, s3, s4, s5⟩
          go_simp
          with_reducible rfl
         rotate_left
         ·simp only [Act.put, Lt, Lz, Ls, i64_w, i32_w]
          rfl
         refine pure_ (i := 3) (N := some 35) (v := ?_) (a' := ?_) #[true, true, true, true, false, true, false, false, false, false] rfl rfl (any_of HT_.out (by kernel_rfl)) (fun _ _ _ h => h) (Or.inl ⟨by rfl, ?_⟩) ?_ ?_
         rotate_left
         ·intro w'
          go_simp
          with_reducible rfl
         rotate_left
         ·simp only [Act.put, Lt, Lz, Ls, i64_w, i32_w]
          rfl
         refine take_ (i := 4) (N := some 36) (v := ?_) (a' := ?_) #[true, true, true, true, true, true, false, false, false, false] rfl rfl (take_ofW HT_.out HW_.out (by kernel_rfl)) (fun _ _ _ h => h) (Or.inl ⟨by rfl, ?_⟩) hHeld ?_ ?_
         rotate_left
         ·rintro w' ⟨s0, s1, s2, s3, s4, s5⟩
          go_simp
          with_reducible rfl
         rotate_left
         ·simp only [Act.put, Lt, Lz, Ls, i64_w, i32_w]
          rfl
         refine take_ (i := 6) (N := some 38) (v := ?_) (a' := ?_) #[true, true, true, true, true, true, true, false, false, false] rfl rfl (take_ofW HT_.out HW_.out (by kernel_rfl)) (fun _ _ _ h => h) (Or.inl ⟨by rfl, ?_⟩) hHeld ?_ ?_
         rotate_left
         ·rintro w' ⟨s0, s1, s2, s3, s4, s5⟩
          go_simp
          with_reducible rfl
         rotate_left
         ·simp only [Act.put, Lt, Lz, Ls, i64_w, i32_w]
          rfl
         refine pure_ (i := 7) (N := some 39) (v := ?_) (a' := ?_) #[true, true, true, true, true, true, true, true, false, false] rfl rfl (any_of HT_.out (by kernel_rfl)) (fun _ _ _ h => h) (Or.inl ⟨by rfl, ?_⟩) ?_ ?_
         rotate_left
         ·intro w'
          go_simp
          with_reducible rfl
         rotate_left
         ·simp only [Act.put, Lt, Lz, Ls, i64_w, i32_w]
          rfl
         refine pure_ (i := 8) (N := some 40) (v := ?_) (a' := ?_) #[true, true, true, true, true, true, true, true, true, false] rfl rfl (any_of HT_.out (by kernel_rfl)) (fun _ _ _ h => h) (Or.inl ⟨by rfl, ?_⟩) ?_ ?_
         rotate_left
         ·intro w'
          go_simp
          with_reducible rfl
         rotate_left
         ·simp only [Act.put, Lt, Lz, Ls, i64_w, i32_w]
          rfl
         refine last_ (i := 9) (N := none) #[true, true, true, true, true, true, true, true, true, true] rfl rfl (one_of HT_.out (by kernel_rfl)) (by decide) (fun K hK => ?_)
         refine skip_ (w1 := ?_) (by rfl) rfl ?_ ?_
         rotate_left
         ·go_simp
          rfl
         refine hK.out _ _ ?_
         clear hK K
         refine done_ (done_of HT_.out (by kernel_rfl)) ?_
         have n0_ : Ad (Kd.R (Kd.int .i64) 3 (w37.setCell ⟨go27, (a1_2 : Int).toNat, none⟩ (.int .i64 (wrap64 ((rd t288 a1_2) - a1_4)))) w.heap.size (fun _ => True) (.slice (some ⟨go27, 0, none⟩) t288.length co38) y294) := ⟨by (with_reducible repeat (first | apply Ra | apply Rn | apply Rd)); exact HQ39.out⟩
         have n1_ : Ad ((w37.setCell ⟨go27, (a1_2 : Int).toNat, none⟩ (.int .i64 (wrap64 ((rd t288 a1_2) - a1_4)))).heap[gb286]? = some (.cells #[.int .i64 a1_0, .int .i64 a1_1, .int .i64 a1_2, .int .i64 a1_3, .int .i64 a1_4] 26 (0, 0))) := ⟨by (with_reducible repeat (first | refine Kn ?_ _ | refine Ke ?_ | refine Ka ?_ _)); refine Kf ?_ (by have h_ := Kd.R_ne HO290.out BK286.out (by decide); intro e_; exact h_ (by rw [e_]; rfl)) _; (with_reducible repeat (first | refine Kn ?_ _ | refine Ke ?_ | refine Ka ?_ _)); exact BK286.out⟩
         have n2_ : Ad ((w37.setCell ⟨go27, (a1_2 : Int).toNat, none⟩ (.int .i64 (wrap64 ((rd t288 a1_2) - a1_4)))).heap[gb287]? = some (.cells #[.int .i64 0, .int .i64 0] 30 (0, 0))) := ⟨by (with_reducible repeat (first | refine Kn ?_ _ | refine Ke ?_ | refine Ka ?_ _)); refine Kf ?_ (by have h_ := Kd.R_ne HO290.out BK287.out (by decide); intro e_; exact h_ (by rw [e_]; rfl)) _; (with_reducible repeat (first | refine Kn ?_ _ | refine Ke ?_ | refine Ka ?_ _)); exact BK287.out⟩
         have n3_ : Ad (Below w.heap.size w (w37.setCell ⟨go27, (a1_2 : Int).toNat, none⟩ (.int .i64 (wrap64 ((rd t288 a1_2) - a1_4))))) := ⟨by repeat (first | (with_reducible first | exact HB.out | apply Ba | apply Bn | apply Bd | refine Bs ?_ GB27.out | refine Bs ?_ GE286.out | refine Bs ?_ GE287.out) | exact HB.out)⟩
         (try clear HO290)
         (try clear BK286)
         (try clear BK287)
         (try clear HB)
         generalize (w37.setCell ⟨go27, (a1_2 : Int).toNat, none⟩ (.int .i64 (wrap64 ((rd t288 a1_2) - a1_4)))) = w40 at n0_ n1_ n2_ n3_ ⊢
         have HO290 := n0_
         have BK286 := n1_
         have BK287 := n2_
         have HB := n3_
         clear n0_ n1_ n2_ n3_
         try go_wp2
         have n0_ := Am (Rd HO290.out)
         have n1_ := Am (Ke BK286.out)
         have n2_ := Am (Ke BK287.out)
         have n3_ := Am (Bd HB.out)
         clear HO290
         clear BK286
         clear BK287
         clear HB
         have HO290 := n0_
         have BK286 := n1_
         have BK287 := n2_
         have HB := n3_
         clear n0_ n1_ n2_ n3_
         have p295 : 0 ≤ (a1_3 : Int) := of_decide_eq_true (by assumption)
         have q295 : a1_3 < (y294.length : Int) := (by have h_ : (a1_3 : Int) < ((t288.length : Int) : Int) := of_decide_eq_true (by assumption); first | (have e_ := (Kd.R_reads' HO290.out).1; omega) | simpa only [Ny294.out, List.length_set] using h_)
         have ql295 : ((a1_3 : Int) < ((t288.length : Int) : Int)) = True := eq_true (of_decide_eq_true (by assumption))
         obtain ⟨ad295, e295, hx295_0⟩ := Kd.at_int (Kd.R_reads' HO290.out).2.2 a1_3 p295 q295
         obtain rfl : (⟨go27, 0, none⟩ : Addr) = ad295 := (by injection e295)
         (first | simp only [add_plain] at hx295_0 | simp only [add_at] at hx295_0 | simp only [Addr.add, Nat.zero_add] at hx295_0 | skip)
         replace p295 := eq_true p295
         replace q295 := eq_true q295
         have p30 : 0 ≤ (a1_3 : Int) := of_decide_eq_true (by assumption)
         have q30 : (a1_3 : Int) < ((t288.length : Int) : Int) := of_decide_eq_true (by assumption)
         obtain ⟨hx30_0, hf30_0⟩ := Kd.R_celln 0 HO290.out (a1_3 : Int) p30 q30
         replace p30 := eq_true p30
         replace q30 := eq_true q30
         have HP42 := Kd.R_putn HO290.out (a1_3 : Int) (wrap64 ((rd y294 a1_3) + a1_4))
         rw [← Ny296.out] at HP42
         have HQ42 := Am HP42
         clear HP42
         refine start_ (n := 10) (S := fun w' => w'.cell? ⟨gb286, 0, none⟩ = some (.int .i64 a1_0) ∧ w'.cell? ⟨gb286, 1, none⟩ = some (.int .i64 a1_1) ∧ w'.cell? ⟨gb286, 2, none⟩ = some (.int .i64 a1_2) ∧ w'.cell? ⟨gb286, 3, none⟩ = some (.int .i64 a1_3) ∧ w'.cell? ⟨gb286, 4, none⟩ = some (.int .i64 a1_4) ∧ w'.cell? ⟨go27, (a1_3).toNat, none⟩ = some (.int .i64 (rd y294 a1_3))) (ds := [9]) #[false, false, false, false, false, false, false, false, false, false] (by kernel_rfl) rfl rfl ⟨(Kc BK286.out 0).trans rfl, (Kc BK286.out 1).trans rfl, (Kc BK286.out 2).trans rfl, (Kc BK286.out 3).trans rfl, (Kc BK286.out 4).trans rfl, hx295_0⟩ (fun hHeld => ?_); refine with_tabW spec_l11Apply.tab9 spec_l11Apply.bits9 (fun HT_ HW_ => ?_)
         generalize w40.drew = w41 at HO290 BK286 BK287 HB HQ42 hf30_0 hx295_0 hx30_0 hHeld ⊢
         refine pure_ (i := 0) (N := some 41) (v := ?_) (a' := ?_) #[true, false, false, false, false, false, false, false, false, false] rfl rfl (any_of HT_.out (by kernel_rfl)) (fun _ _ _ h => h) (Or.inl ⟨by rfl, ?_⟩) ?_ ?_
         rotate_left
         ·intro w'
          go_simp
          with_reducible rfl
         rotate_left
         ·simp only [Act.put, Lt, Lz, Ls, i64_w, i32_w]
          rfl
         refine pure_ (i := 1) (N := some 42) (v := ?_) (a' := ?_) #[true, true, false, false, false, false, false, false, false, false] rfl rfl (any_of HT_.out (by kernel_rfl)) (fun _ _ _ h => h) (Or.inl ⟨by rfl, ?_⟩) ?_ ?_
         rotate_left
         ·intro w'
          go_simp
          with_reducible rfl
         rotate_left
         ·simp only [Act.put, Lt, Lz, Ls, i64_w, i32_w]
          rfl
         refine pure_ (i := 5) (N := some 46) (v := ?_) (a' := ?_) #[true, true, false, false, false, true, false, false, false, false] rfl rfl (any_of HT_.out (by kernel_rfl)) (fun _ _ _ h => h) (Or.inl ⟨by rfl, ?_⟩) ?_ ?_
         rotate_left
         ·intro w'
          go_simp
          with_reducible rfl
         rotate_left
         ·simp only [Act.put, Lt, Lz, Ls, i64_w, i32_w]
          rfl
         refine take_ (i := 2) (N := some 43) (v := ?_) (a' := ?_) #[true, true, true, false, false, true, false, false, false, false] rfl rfl (take_ofW HT_.out HW_.out (by kernel_rfl)) (fun _ _ _ h => h) (Or.inl ⟨by rfl, ?_⟩) hHeld ?_ ?_
         rotate_left
         ·rintro w' ⟨s0, s1, s2, s3, s4, s5⟩
          go_simp
          with_reducible rfl
         rotate_left
         ·simp only [Act.put, Lt, Lz, Ls, i64_w, i32_w]
          rfl
         refine pure_ (i := 3) (N := some 44) (v := ?_) (a' := ?_) #[true, true, true, true, false, true, false, false, false, false] rfl rfl (any_of HT_.out (by kernel_rfl)) (fun _ _ _ h => h) (Or.inl ⟨by rfl, ?_⟩) ?_ ?_
         rotate_left
         ·intro w'
          go_simp
          with_reducible rfl
         rotate_left
         ·simp only [Act.put, Lt, Lz, Ls, i64_w, i32_w]
          rfl
         refine take_ (i := 4) (N := some 45) (v := ?_) (a' := ?_) #[true, true, true, true, true, true, false, false, false, false] rfl rfl (take_ofW HT_.out HW_.out (by kernel_rfl)) (fun _ _ _ h => h) (Or.inl ⟨by rfl, ?_⟩) hHeld ?_ ?_
         rotate_left
         ·rintro w' ⟨s0, s1, s2, s3, s4, s5⟩
          go_simp
          with_reducible rfl
         rotate_left
         ·simp only [Act.put, Lt, Lz, Ls, i64_w, i32_w]
          rfl
         refine take_ (i := 6) (N := some 47) (v := ?_) (a' := ?_) #[true, true, true, true, true, true, true, false, false, false] rfl rfl (take_ofW HT_.out HW_.out (by kernel_rfl)) (fun _ _ _ h => h) (Or.inl ⟨by rfl, ?_⟩) hHeld ?_ ?_
         rotate_left
         ·rintro w' ⟨s0, s1, s2, s3, s4, s5⟩
          go_simp
          with_reducible rfl
         rotate_left
         ·simp only [Act.put, Lt, Lz, Ls, i64_w, i32_w]
          rfl
         refine pure_ (i := 7) (N := some 48) (v := ?_) (a' := ?_) #[true, true, true, true, true, true, true, true, false, false] rfl rfl (any_of HT_.out (by kernel_rfl)) (fun _ _ _ h => h) (Or.inl ⟨by rfl, ?_⟩) ?_ ?_
         rotate_left
         ·intro w'
          go_simp
          with_reducible rfl
         rotate_left
         ·simp only [Act.put, Lt, Lz, Ls, i64_w, i32_w]
          rfl
         refine pure_ (i := 8) (N := some 49) (v := ?_) (a' := ?_) #[true, true, true, true, true, true, true, true, true, false] rfl rfl (any_of HT_.out (by kernel_rfl)) (fun _ _ _ h => h) (Or.inl ⟨by rfl, ?_⟩) ?_ ?_
         rotate_left
         ·intro w'
          go_simp
          with_reducible rfl
         rotate_left
         ·simp only [Act.put, Lt, Lz, Ls, i64_w, i32_w]
          rfl
         refine last_ (i := 9) (N := none) #[true, true, true, true, true, true, true, true, true, true] rfl rfl (one_of HT_.out (by kernel_rfl)) (by decide) (fun K hK => ?_)
         refine skip_ (w1 := ?_) (by rfl) rfl ?_ ?_
         rotate_left
         ·go_simp
          rfl
         refine hK.out _ _ ?_
         clear hK K
         refine done_ (done_of HT_.out (by kernel_rfl)) ?_
         have n0_ : Ad (Kd.R (Kd.int .i64) 3 (w41.setCell ⟨go27, (a1_3 : Int).toNat, none⟩ (.int .i64 (wrap64 ((rd y294 a1_3) + a1_4)))) w.heap.size (fun _ => True) (.slice (some ⟨go27, 0, none⟩) t288.length co38) y296) := ⟨by (with_reducible repeat (first | apply Ra | apply Rn | apply Rd)); exact HQ42.out⟩
         have n1_ : Ad ((w41.setCell ⟨go27, (a1_3 : Int).toNat, none⟩ (.int .i64 (wrap64 ((rd y294 a1_3) + a1_4)))).heap[gb286]? = some (.cells #[.int .i64 a1_0, .int .i64 a1_1, .int .i64 a1_2, .int .i64 a1_3, .int .i64 a1_4] 26 (0, 0))) := ⟨by (with_reducible repeat (first | refine Kn ?_ _ | refine Ke ?_ | refine Ka ?_ _)); refine Kf ?_ (by have h_ := Kd.R_ne HO290.out BK286.out (by decide); intro e_; exact h_ (by rw [e_]; rfl)) _; (with_reducible repeat (first | refine Kn ?_ _ | refine Ke ?_ | refine Ka ?_ _)); exact BK286.out⟩
         have n2_ : Ad ((w41.setCell ⟨go27, (a1_3 : Int).toNat, none⟩ (.int .i64 (wrap64 ((rd y294 a1_3) + a1_4)))).heap[gb287]? = some (.cells #[.int .i64 0, .int .i64 0] 30 (0, 0))) := ⟨by (with_reducible repeat (first | refine Kn ?_ _ | refine Ke ?_ | refine Ka ?_ _)); refine Kf ?_ (by have h_ := Kd.R_ne HO290.out BK287.out (by decide); intro e_; exact h_ (by rw [e_]; rfl)) _; (with_reducible repeat (first | refine Kn ?_ _ | refine Ke ?_ | refine Ka ?_ _)); exact BK287.out⟩
         have n3_ : Ad (Below w.heap.size w (w41.setCell ⟨go27, (a1_3 : Int).toNat, none⟩ (.int .i64 (wrap64 ((rd y294 a1_3) + a1_4))))) := ⟨by repeat (first | (with_reducible first | exact HB.out | apply Ba | apply Bn | apply Bd | refine Bs ?_ GB27.out | refine Bs ?_ GE286.out | refine Bs ?_ GE287.out) | exact HB.out)⟩
         (try clear HO290)
         (try clear BK286)
         (try clear BK287)
         (try clear HB)
         generalize (w41.setCell ⟨go27, (a1_3 : Int).toNat, none⟩ (.int .i64 (wrap64 ((rd y294 a1_3) + a1_4)))) = w43 at n0_ n1_ n2_ n3_ ⊢
         have HO290 := n0_
         have BK286 := n1_
         have BK287 := n2_
         have HB := n3_
         clear n0_ n1_ n2_ n3_
         have hcz44_0 : w43.cell? ⟨gb287, 0, none⟩ = some (.int .i64 0) := (Kc BK287.out 0).trans rfl
         have hcz44_1 : w43.cell? ⟨gb287, 1, none⟩ = some (.int .i64 0) := (Kc BK287.out 1).trans rfl
         have hfz44_0 := Kz BK287.out 0
         have hfz44_1 := Kz BK287.out 1
         try go_wp2
         refine bodyPost_ret (results_tc rfl _ _ gb287 30 #[.int .i64 1, .int .i64 0] (0, 0) _ rfl (by (with_reducible repeat (first | refine Kn ?_ _ | refine Ke ?_ | refine Ka ?_ _)); refine blk_put (cs := #[.int .i64 1, .int .i64 0]) ?_ 1 _ rfl; (with_reducible repeat (first | refine Kn ?_ _ | refine Ke ?_ | refine Ka ?_ _)); refine blk_put (cs := #[.int .i64 0, .int .i64 0]) ?_ 0 _ rfl; (with_reducible repeat (first | refine Kn ?_ _ | refine Ke ?_ | refine Ka ?_ _)); exact BK287.out) Try.underlying30 rfl (by kernel_rfl)) rfl ?_
         exact ⟨_, by first | rfl | (simp [*, errW_none, errW_some] <;> rfl), by (with_reducible repeat (first | apply Ra | apply Rn | apply Rd)); exact Kd.R_mono (Kd.R_far (p := ⟨gb287, 1, none⟩) (Kd.R_far (p := ⟨gb287, 0, none⟩) (Kd.R_types HO290.out BK287.out (by decide)) (fun _ hk => hk.2) (.int .i64 1)) (fun _ hk => hk.2) (.int .i64 0)) (fun _ hk => trivial), by repeat (first | (with_reducible first | exact HB.out | apply Ba | apply Bn | apply Bd | refine Bs ?_ GE286.out | refine Bs ?_ GE287.out) | exact HB.out)⟩
        ·rw [if_neg c29] at H
         exact absurd H (by simp)
       ·rw [if_neg c28] at H
        exact absurd H (by simp)
      ·rw [if_neg c26] at H
       exact absurd H (by simp)
    ·rw [if_neg c17] at H
     exact absurd H (by simp)
   ·rw [if_neg c16] at H
    exact absurd H (by simp)
  ·rw [if_neg c15] at H
   have c15b0 : (a1_0 == 1) = false := beq_eq_false_iff_ne.mpr c15
   have c15b1 : (a1_0 != 1) = true := bne_iff_ne.mpr c15
   simp only [Option.some.injEq, Prod.mk.injEq] at H
   obtain ⟨rfl, rfl, rfl⟩ := H
   go_enter Try.func73, Try.ntmps73
   go_wp2_with (first | ((refine Gd (N := 3) rfl ?_); refine Be ?hg (N := 3) ?hd (cs := #[.int .i64 a1_0, .int .i64 a1_1, .int .i64 a1_2, .int .i64 a1_3, .int .i64 a1_4]) (t := 26) ?hr ?_; (case hd | hg => rfl); (case hr => first | (go_simp; done) | (go_simp; rfl)); intro gb286 hg w45 hbox hb; have n0_ := Am (Bt (by repeat (first | exact HB.out | apply Ba | apply Bn | apply Bd)) hb); have n1_ := Am (hbox); have n2_ := Am ((by rw [hg]; exact (Bz (by repeat (first | exact HB.out | apply Ba | apply Bn | apply Bd))) : w.heap.size ≤ gb286)); have n3_ := Am ((by rw [hg]; exact (Bz (by repeat (first | exact HB.out | apply Ba | apply Bn | apply Bd))) : w.heap.size ≤ gb286)); clear HB; have HB := n0_; have BK286 := n1_; have GW286 := n2_; have GE286 := n3_; clear n0_ n1_ n2_ n3_; clear hb hbox hg) | ((refine Gd (N := 5) rfl ?_); refine Be ?hg (N := 5) ?hd (cs := #[.int .i64 0, .int .i64 0]) (t := 30) ?hr ?_; (case hd | hg => rfl); (case hr => first | (go_simp; done) | (go_simp; rfl)); intro gb287 hg w46 hbox hb; have n0_ := Am (Kb (g := gb286) (o := .cells #[.int .i64 a1_0, .int .i64 a1_1, .int .i64 a1_2, .int .i64 a1_3, .int .i64 a1_4] 26 (0, 0)) (by (with_reducible repeat (first | refine Kn ?_ _ | refine Ke ?_ | refine Ka ?_ _)); exact BK286.out) hb); have n1_ := Am (Bt (by repeat (first | (with_reducible first | exact HB.out | apply Ba | apply Bn | apply Bd | refine Bs ?_ GE286.out) | exact HB.out)) hb); have n2_ := Am (hbox); have n3_ := Am ((by rw [hg]; exact (Bz (by repeat (first | (with_reducible first | exact HB.out | apply Ba | apply Bn | apply Bd | refine Bs ?_ GE286.out) | exact HB.out))) : w.heap.size ≤ gb287)); have n4_ := Am ((by rw [hg]; exact (Bz (by repeat (first | (with_reducible first | exact HB.out | apply Ba | apply Bn | apply Bd | refine Bs ?_ GE286.out) | exact HB.out))) : w.heap.size ≤ gb287)); have n5_ := Am ((by rw [hg]; exact Nat.ne_of_lt (blk_lt (g := gb286) (o := .cells #[.int .i64 a1_0, .int .i64 a1_1, .int .i64 a1_2, .int .i64 a1_3, .int .i64 a1_4] 26 (0, 0)) (by (with_reducible repeat (first | refine Kn ?_ _ | refine Ke ?_ | refine Ka ?_ _)); exact BK286.out)) : gb286 ≠ gb287)); have n6_ := Am ((by rw [hg]; exact Nat.ne_of_gt (blk_lt (g := gb286) (o := .cells #[.int .i64 a1_0, .int .i64 a1_1, .int .i64 a1_2, .int .i64 a1_3, .int .i64 a1_4] 26 (0, 0)) (by (with_reducible repeat (first | refine Kn ?_ _ | refine Ke ?_ | refine Ka ?_ _)); exact BK286.out)) : gb287 ≠ gb286)); clear BK286; clear HB; have BK286 := n0_; have HB := n1_; have BK287 := n2_; have GW287 := n3_; have GE287 := n4_; have NB286_287 := n5_; have NB287_286 := n6_; clear n0_ n1_ n2_ n3_ n4_ n5_ n6_; clear hb hbox hg) | ((refine Gc (f := 133) rfl ?_); refine goesL_ (some 8) rfl rfl Try.func133 (by kernel_rfl) rfl #[.slice A0 l0.length c0] rfl (by first | rfl | (simp only [List.map_toArray, List.map_cons, List.map_nil]; first | done | rfl)) ?_; (with_reducible refine (spec_l1Own.calls _ _ l0 t288 _ ?side1 ?side2 A3.out).mono ?_); (case side1 => repeat (first | exact (Kd.C_below HR0.out HB.out) | (with_reducible refine Kd.C_alloc ?_ _) | (with_reducible refine Kd.C_drewN ?_ _) | (with_reducible refine Kd.C_drew ?_))); (case side2 => exact HC0.out); rintro e w47 ⟨v289, rfl, ho0, hb⟩; refine ⟨_, rfl, ?_⟩; have n0_ := Am (Kd.R_lower ho0 (Bz (by repeat (first | (with_reducible first | exact HB.out | apply Ba | apply Bn | apply Bd | refine Bs ?_ GE286.out | refine Bs ?_ GE287.out) | exact HB.out)))); have n1_ := Am (Kb (g := gb286) (o := .cells #[.int .i64 a1_0, .int .i64 a1_1, .int .i64 a1_2, .int .i64 a1_3, .int .i64 a1_4] 26 (0, 0)) (by (with_reducible repeat (first | refine Kn ?_ _ | refine Ke ?_ | refine Ka ?_ _)); exact BK286.out) hb); have n2_ := Am (Kb (g := gb287) (o := .cells #[.int .i64 0, .int .i64 0] 30 (0, 0)) (by (with_reducible repeat (first | refine Kn ?_ _ | refine Ke ?_ | refine Ka ?_ _)); exact BK287.out) hb); have n3_ := Am (Bt (by repeat (first | (with_reducible first | exact HB.out | apply Ba | apply Bn | apply Bd | refine Bs ?_ GE286.out | refine Bs ?_ GE287.out) | exact HB.out)) hb); clear BK286; clear BK287; clear HB; have HO290 := n0_; have BK286 := n1_; have BK287 := n2_; have HB := n3_; clear n0_ n1_ n2_ n3_; (try clear hb); (try clear hb2); (try clear hk); (try clear hi); (try clear ho0); have hnb48 := NB286_287.out; have hnc48 := NB287_286.out; have hcz49_0 : w47.cell? ⟨gb286, 0, none⟩ = some (.int .i64 a1_0) := (Kc BK286.out 0).trans rfl; have hcz49_1 : w47.cell? ⟨gb286, 1, none⟩ = some (.int .i64 a1_1) := (Kc BK286.out 1).trans rfl; have hcz49_2 : w47.cell? ⟨gb286, 2, none⟩ = some (.int .i64 a1_2) := (Kc BK286.out 2).trans rfl; have hcz49_3 : w47.cell? ⟨gb286, 3, none⟩ = some (.int .i64 a1_3) := (Kc BK286.out 3).trans rfl; have hcz49_4 : w47.cell? ⟨gb286, 4, none⟩ = some (.int .i64 a1_4) := (Kc BK286.out 4).trans rfl; have hfz49_0 := Kz BK286.out 0; have hfz49_1 := Kz BK286.out 1; have hfz49_2 := Kz BK286.out 2; have hfz49_3 := Kz BK286.out 3; have hfz49_4 := Kz BK286.out 4; have hcz50_0 : w47.cell? ⟨gb287, 0, none⟩ = some (.int .i64 0) := (Kc BK287.out 0).trans rfl; have hcz50_1 : w47.cell? ⟨gb287, 1, none⟩ = some (.int .i64 0) := (Kc BK287.out 1).trans rfl; have hfz50_0 := Kz BK287.out 0; have hfz50_1 := Kz BK287.out 1))
   refine bodyPost_ret (results_tc rfl _ _ gb287 30 #[.int .i64 0, .int .i64 0] (0, 0) _ rfl (by (with_reducible repeat (first | refine Kn ?_ _ | refine Ke ?_ | refine Ka ?_ _)); refine blk_put (cs := #[.int .i64 0, .int .i64 0]) ?_ 1 _ rfl; (with_reducible repeat (first | refine Kn ?_ _ | refine Ke ?_ | refine Ka ?_ _)); refine blk_put (cs := #[.int .i64 0, .int .i64 0]) ?_ 0 _ rfl; (with_reducible repeat (first | refine Kn ?_ _ | refine Ke ?_ | refine Ka ?_ _)); exact BK287.out) Try.underlying30 rfl (by kernel_rfl)) rfl ?_
   exact ⟨_, by first | rfl | (simp [*, errW_none, errW_some] <;> rfl), by (with_reducible repeat (first | apply Ra | apply Rn | apply Rd)); exact Kd.R_mono (Kd.R_far (p := ⟨gb287, 1, none⟩) (Kd.R_far (p := ⟨gb287, 0, none⟩) (Kd.R_types HO290.out BK287.out (by decide)) (fun _ hk => hk.2) (.int .i64 0)) (fun _ hk => hk.2) (.int .i64 0)) (fun _ hk => trivial), by repeat (first | (with_reducible first | exact HB.out | apply Ba | apply Bn | apply Bd | refine Bs ?_ GE286.out | refine Bs ?_ GE287.out) | exact HB.out)⟩
def spec_l11Play.l0 : Nat → List Int → List (S30) → List (S26) → Int → Int → Option (List Int × (List (S30)))
 | 0, _, _, _, _, _ => none
 | k + 1, x4, x5, x11, x12, x13 => if x13 < x12 then (if 0 ≤ x13 then (if x13 < (x11.length : Int) then ((spec_l11Apply.f x4 ((rd_T26 x11 x13).f0) ((rd_T26 x11 x13).f1) ((rd_T26 x11 x13).f2) ((rd_T26 x11 x13).f3) ((rd_T26 x11 x13).f4)).bind fun bt302 => (if x5.length < 8796093022208 then (spec_l11Play.l0 k bt302.1 (x5 ++ [(⟨bt302.2.1, bt302.2.2⟩ : S30)]) x11 x12 (wrap64 (x13 + 1))) else (none))) else (none)) else (none)) else (some (x4, x5))
def spec_l11Play.f (k : Nat) (l0 : List (S26)) : Option (List Int × (List (S30))) := (spec_NewSums.f k).bind fun t297 => (spec_l11Play.l0 k t297 ([] : List (S30)) l0 (l0.length : Int) 0)
theorem spec_l11Play.mono_l : ∀ k, (∀ y0 y1 y2 y3 y4, LeO (spec_l11Play.l0 k y0 y1 y2 y3 y4) (spec_l11Play.l0 (k + 1) y0 y1 y2 y3 y4))
 | 0 => fun _ _ _ _ _ r h => by simp [spec_l11Play.l0] at h
 | k + 1 => by
  have ih0 := spec_l11Play.mono_l k
  ·intro y0 y1 y2 y3 y4
   unfold spec_l11Play.l0
   repeat' first
   | (with_reducible exact ih0 _ _ _ _ _)
   | (with_reducible exact spec_NewSums.mono _)
   | (with_reducible exact LeO.refl _)
   | (with_reducible exact LeO.none _)
   | (with_reducible refine LeO.ite ?_ ?_)
   | (with_reducible refine LeO.bind ?_ (fun _ => ?_))
   | exact ih0 _ _ _ _ _
   | exact spec_NewSums.mono _
   | exact LeO.none _
   | refine LeO.ite ?_ ?_
   | refine LeO.bind ?_ (fun _ => ?_)
theorem spec_l11Play.mono : ∀ a0 k, LeO (spec_l11Play.f k a0) (spec_l11Play.f (k + 1) a0) := by
 intro a0 k
 have ih0 := spec_l11Play.mono_l k
 unfold spec_l11Play.f
 repeat' first
   | (with_reducible exact ih0 _ _ _ _ _)
   | (with_reducible exact spec_NewSums.mono _)
   | (with_reducible exact LeO.refl _)
   | (with_reducible exact LeO.none _)
   | (with_reducible refine LeO.ite ?_ ?_)
   | (with_reducible refine LeO.bind ?_ (fun _ => ?_))
   | exact ih0 _ _ _ _ _
   | exact spec_NewSums.mono _
   | exact LeO.none _
   | refine LeO.ite ?_ ?_
   | refine LeO.bind ?_ (fun _ => ?_)
set_option maxHeartbeats 8000000 in
set_option maxRecDepth 100000 in
theorem spec_l11Play.calls (k : Nat) (A0 : Option Addr) (c0 : Nat) (l0 : List (S26)) (r1 : List Int) (r2 : List (S30)) (w : World) (hr0 : Kd.C k26 w A0 l0.length l0) (hc0 : l0.length ≤ c0) (h : spec_l11Play.f k l0 = some (r1, r2)) :
  Calls Try.prog 85 #[.slice A0 l0.length c0] w fun e w' => ∃ v0_ v1_ : Value, e = .returned (.tuple #[v0_, v1_]) ∧ Kd.R (Kd.int .i64) 3 w' w.heap.size (fun _ => True) v0_ r1 ∧ Kd.R k30 30 w' w.heap.size (fun _ => True) v1_ r2 ∧ Below w.heap.size w w' := by
 have hu26 := Try.underlying26
 have hu30 := Try.underlying30
 have HR0 := Am hr0
 have HC0 := Am hc0
 clear hr0 hc0
 have HB := Am (Below.refl w.heap.size w)
 have H : ((spec_NewSums.f k).bind fun t297 => (spec_l11Play.l0 k t297 ([] : List (S30)) l0 (l0.length : Int) 0)) = some (r1, r2) := h
 clear h
 replace H := Option.bind_eq_some_iff.mp H
 obtain ⟨t297, A20, H⟩ := H
 replace H : (spec_l11Play.l0 k t297 ([] : List (S30)) l0 (l0.length : Int) 0) = some (r1, r2) := H
 have A2 := Am A20
 clear A20
 have H' := Am H
 clear H
 go_enter Try.func85, Try.ntmps85
 go_wp2_with (first | ((refine Gc (f := 19) rfl ?_); refine goesL_ (some 10) rfl rfl Try.func19 (by kernel_rfl) rfl #[] rfl (by first | rfl | (simp only [List.map_toArray, List.map_cons, List.map_nil]; first | done | rfl)) ?_; (with_reducible refine (spec_NewSums.calls k  t297 _ A2.out).mono ?_); rintro e w3 ⟨v298, rfl, ho0, hb⟩; refine ⟨_, rfl, ?_⟩; have n0_ := Am (Kd.R_lower ho0 (Bz (by repeat (first | exact HB.out | apply Ba | apply Bn | apply Bd)))); have n1_ := Am (Bt (by repeat (first | exact HB.out | apply Ba | apply Bn | apply Bd)) hb); clear HB; have HO299 := n0_; have HB := n1_; clear n0_ n1_; (try clear hb); (try clear hb2); (try clear hk); (try clear hi); (try clear ho0)))
 go_loopg [4, 5, 13] k (fun kq v4 v5 v13 w' => ∃ (x4_1 : List Int) (x5_1 : List (S30)) (x13_1 : Int), v13 = .int .i64 x13_1 ∧ Ad (spec_l11Play.l0 kq x4_1 x5_1 l0 (l0.length : Int) x13_1 = some (r1, r2)) ∧ Ad (kq ≤ k) ∧ Ad (Kd.R (Kd.int .i64) 3 w' w.heap.size (fun _ => True) v4 x4_1) ∧ Ad (Kd.R k30 30 w' w.heap.size (fun _ => True) v5 x5_1) ∧ Ad (Below w.heap.size w w'))
 case atStart => exact ⟨(t297), (([] : List (S30))), (0), (by first | rfl | (simp; done) | (simp [*]; done)), H', ⟨Nat.le_refl _⟩, ⟨by (with_reducible repeat (first | apply Ra | apply Rn | apply Rd)); exact HO299.out⟩, ⟨by first | exact Kd.R_nil _ _ _ _ _ | exact Kd.N_nil _ _ _ _ _ | exact Kd.V_nil _ _ _ _ _ | exact Kd.Q_nil _ _ _ _ _ | exact Kd.S_nil _ _ _ _ _⟩, ⟨by repeat (first | exact HB.out | apply Ba | apply Bn | apply Bd)⟩⟩
 case round =>
  clear H'
  try clear c1
  try clear p2
  obtain ⟨x4_1, x5_1, x13_1, rfl, HA, HK1, HO_4, HO_5, HB⟩ := hrel
  cases gk with
  | zero => exact absurd HA.out (by simp [spec_l11Play.l0])
  | succ k1 =>
   have H := HA.out
   clear HA
   simp only [spec_l11Play.l0] at H
   by_cases c4 : x13_1 < (l0.length : Int)
   ·rw [if_pos c4] at H
    have c4b0 : decide (x13_1 < (l0.length : Int)) = true := decide_eq_true c4
    clear c4
    by_cases c5 : 0 ≤ x13_1
    ·rw [if_pos c5] at H
     have c5b0 : decide (0 ≤ x13_1) = true := decide_eq_true c5
     clear c5
     by_cases c6 : x13_1 < (l0.length : Int)
     ·rw [if_pos c6] at H
      have c6b0 : decide (x13_1 < (l0.length : Int)) = true := decide_eq_true c6
      clear c6
      replace H := Option.bind_eq_some_iff.mp H
      obtain ⟨⟨t302, t305, t306⟩, A70, H⟩ := H
      replace H : (if x5_1.length < 8796093022208 then (spec_l11Play.l0 k1 t302 (x5_1 ++ [(⟨t305, t306⟩ : S30)]) l0 (l0.length : Int) (wrap64 (x13_1 + 1))) else (none)) = some (r1, r2) := H
      have A7 := Am A70
      clear A70
      by_cases c8 : x5_1.length < 8796093022208
      ·rw [if_pos c8] at H
       have LMc8 := Am c8
       clear c8
       obtain ⟨y308, hy308⟩ : ∃ y_ : List (S30), y_ = (x5_1 ++ [(⟨t305, t306⟩ : S30)]) := ⟨_, rfl⟩
       replace H : (spec_l11Play.l0 k1 t302 y308 l0 (l0.length : Int) (wrap64 (x13_1 + 1))) = some (r1, r2) := by first | (rw [hy308]; with_reducible exact H) | (have H2_ := (Option.bind_some _ _).symm.trans H; rw [hy308]; with_reducible exact H2_) | (have H2_ := (Option.bind_some _ _).symm.trans H; with_reducible exact H2_) | with_reducible exact H | (rw [hy308]; exact H) | exact H
       have Ny308 := Am hy308
       clear hy308
       have H' := Am H
       clear H
       have p300 : 0 ≤ (x13_1 : Int) := of_decide_eq_true (by assumption)
       have q300 : x13_1 < (l0.length : Int) := of_decide_eq_true (by assumption)
       obtain ⟨ad300, e300, hx300_0, hx300_1, hx300_2, hx300_3, hx300_4⟩ := at_T26 HR0.out x13_1 p300 q300
       cases e300
       replace hx300_0 := (HB.out.cell (bl_ w _ hx300_0)).trans hx300_0
       replace hx300_1 := (HB.out.cell (bl_ w _ hx300_1)).trans hx300_1
       replace hx300_2 := (HB.out.cell (bl_ w _ hx300_2)).trans hx300_2
       replace hx300_3 := (HB.out.cell (bl_ w _ hx300_3)).trans hx300_3
       replace hx300_4 := (HB.out.cell (bl_ w _ hx300_4)).trans hx300_4
       replace p300 := eq_true p300
       replace q300 := eq_true q300
       go_wp2_with (first | ((refine Gd (N := 7) rfl ?_); refine Be ?hg (N := 7) ?hd (cs := #[.int .i64 0, .int .i64 0, .int .i64 0, .int .i64 0, .int .i64 0]) (t := 26) ?hr ?_; (case hd | hg => rfl); (case hr => first | (go_simp; done) | (go_simp; rfl)); intro gb301 hg w9 hbox hb; have n0_ := Am (Kd.R_below (by (with_reducible repeat (first | apply Ra | apply Rn | apply Rd)); exact HO_4.out) hb); have n1_ := Am (Kd.R_below (by (with_reducible repeat (first | apply Ra | apply Rn | apply Rd)); exact HO_5.out) hb); have n2_ := Am (Bt (by repeat (first | exact HB.out | apply Ba | apply Bn | apply Bd)) hb); have n3_ := Am (hbox); have n4_ := Am ((by rw [hg]; exact (Bz (by repeat (first | exact HB.out | apply Ba | apply Bn | apply Bd))) : w.heap.size ≤ gb301)); have n5_ := Am ((by rw [hg]; exact (Bz (by repeat (first | exact HB.out | apply Ba | apply Bn | apply Bd))) : w.heap.size ≤ gb301)); clear HO_4; clear HO_5; clear HB; have HO_4 := n0_; have HO_5 := n1_; have HB := n2_; have BK301 := n3_; have GW301 := n4_; have GE301 := n5_; clear n0_ n1_ n2_ n3_ n4_ n5_; clear hb hbox hg; have hcz10_0 : w9.cell? ⟨gb301, 0, none⟩ = some (.int .i64 0) := (Kc BK301.out 0).trans rfl; have hcz10_1 : w9.cell? ⟨gb301, 1, none⟩ = some (.int .i64 0) := (Kc BK301.out 1).trans rfl; have hcz10_2 : w9.cell? ⟨gb301, 2, none⟩ = some (.int .i64 0) := (Kc BK301.out 2).trans rfl; have hcz10_3 : w9.cell? ⟨gb301, 3, none⟩ = some (.int .i64 0) := (Kc BK301.out 3).trans rfl; have hcz10_4 : w9.cell? ⟨gb301, 4, none⟩ = some (.int .i64 0) := (Kc BK301.out 4).trans rfl; have hfz10_0 := Kz BK301.out 0; have hfz10_1 := Kz BK301.out 1; have hfz10_2 := Kz BK301.out 2; have hfz10_3 := Kz BK301.out 3; have hfz10_4 := Kz BK301.out 4; obtain ⟨Ao11, co11, eo11⟩ := Kd.R_slice HO_4.out; subst eo11) | ((refine Gc (f := 73) rfl ?_); refine goesL_ (some 20) rfl rfl Try.func73 (by kernel_rfl) rfl #[.slice Ao11 x4_1.length co11, .agg #[.int .i64 ((rd_T26 l0 x13_1).f0), .int .i64 ((rd_T26 l0 x13_1).f1), .int .i64 ((rd_T26 l0 x13_1).f2), .int .i64 ((rd_T26 l0 x13_1).f3), .int .i64 ((rd_T26 l0 x13_1).f4)]] rfl (by first | rfl | (simp only [List.map_toArray, List.map_cons, List.map_nil]; first | done | rfl)) ?_; (with_reducible refine (spec_l11Apply.calls _ _ x4_1 ((rd_T26 l0 x13_1).f0) ((rd_T26 l0 x13_1).f1) ((rd_T26 l0 x13_1).f2) ((rd_T26 l0 x13_1).f3) ((rd_T26 l0 x13_1).f4) t302 t305 t306 _ ?side1 ?side2 A7.out).mono ?_); (case side1 => refine (Kd.R_reads' (e := 3) (base := w.heap.size) (ok := fun k_ => True) (n := x4_1.length) (c := co11) ?_).2.2; exact (by (with_reducible repeat (first | apply Ra | apply Rn | apply Rd)); exact (Kd.R_mono (Kd.R_far (p := ⟨gb301, 4, none⟩) (Kd.R_far (p := ⟨gb301, 3, none⟩) (Kd.R_far (p := ⟨gb301, 2, none⟩) (Kd.R_far (p := ⟨gb301, 1, none⟩) (Kd.R_far (p := ⟨gb301, 0, none⟩) (Kd.R_types HO_4.out BK301.out (by decide)) (fun _ hk => hk.2) (.int .i64 ((rd_T26 l0 x13_1).f0))) (fun _ hk => hk.2) (.int .i64 ((rd_T26 l0 x13_1).f1))) (fun _ hk => hk.2) (.int .i64 ((rd_T26 l0 x13_1).f2))) (fun _ hk => hk.2) (.int .i64 ((rd_T26 l0 x13_1).f3))) (fun _ hk => hk.2) (.int .i64 ((rd_T26 l0 x13_1).f4))) (fun _ h_ => h_.1)))); (case side2 => exact (Kd.R_reads' HO_4.out).2.1); rintro e w12 ⟨v303, rfl, ho0, hb⟩; refine ⟨_, rfl, ?_⟩; have n0_ := Am (Kd.R_elder' (by (with_reducible repeat (first | apply Ra | apply Rn | apply Rd)); exact (Kd.R_mono (Kd.R_far (p := ⟨gb301, 4, none⟩) (Kd.R_far (p := ⟨gb301, 3, none⟩) (Kd.R_far (p := ⟨gb301, 2, none⟩) (Kd.R_far (p := ⟨gb301, 1, none⟩) (Kd.R_far (p := ⟨gb301, 0, none⟩) (Kd.R_types HO_4.out BK301.out (by decide)) (fun _ hk => hk.2) (.int .i64 ((rd_T26 l0 x13_1).f0))) (fun _ hk => hk.2) (.int .i64 ((rd_T26 l0 x13_1).f1))) (fun _ hk => hk.2) (.int .i64 ((rd_T26 l0 x13_1).f2))) (fun _ hk => hk.2) (.int .i64 ((rd_T26 l0 x13_1).f3))) (fun _ hk => hk.2) (.int .i64 ((rd_T26 l0 x13_1).f4))) (fun _ h_ => h_.1))) (Kd.R_base ho0) hb); have n1_ := Am (Kd.R_below (by (with_reducible repeat (first | apply Ra | apply Rn | apply Rd)); exact (Kd.R_mono (Kd.R_far (p := ⟨gb301, 4, none⟩) (Kd.R_far (p := ⟨gb301, 3, none⟩) (Kd.R_far (p := ⟨gb301, 2, none⟩) (Kd.R_far (p := ⟨gb301, 1, none⟩) (Kd.R_far (p := ⟨gb301, 0, none⟩) (Kd.R_types HO_5.out BK301.out (by decide)) (fun _ hk => hk.2) (.int .i64 ((rd_T26 l0 x13_1).f0))) (fun _ hk => hk.2) (.int .i64 ((rd_T26 l0 x13_1).f1))) (fun _ hk => hk.2) (.int .i64 ((rd_T26 l0 x13_1).f2))) (fun _ hk => hk.2) (.int .i64 ((rd_T26 l0 x13_1).f3))) (fun _ hk => hk.2) (.int .i64 ((rd_T26 l0 x13_1).f4))) (fun _ h_ => h_.1))) hb); have n2_ := Am (Kd.R_lower (Kd.R_new' ho0 (Kd.R_lt (by (with_reducible repeat (first | apply Ra | apply Rn | apply Rd)); exact (Kd.R_mono (Kd.R_far (p := ⟨gb301, 4, none⟩) (Kd.R_far (p := ⟨gb301, 3, none⟩) (Kd.R_far (p := ⟨gb301, 2, none⟩) (Kd.R_far (p := ⟨gb301, 1, none⟩) (Kd.R_far (p := ⟨gb301, 0, none⟩) (Kd.R_types HO_4.out BK301.out (by decide)) (fun _ hk => hk.2) (.int .i64 ((rd_T26 l0 x13_1).f0))) (fun _ hk => hk.2) (.int .i64 ((rd_T26 l0 x13_1).f1))) (fun _ hk => hk.2) (.int .i64 ((rd_T26 l0 x13_1).f2))) (fun _ hk => hk.2) (.int .i64 ((rd_T26 l0 x13_1).f3))) (fun _ hk => hk.2) (.int .i64 ((rd_T26 l0 x13_1).f4))) (fun _ h_ => h_.1))))) (Bz (by repeat (first | (with_reducible first | exact HB.out | apply Ba | apply Bn | apply Bd | refine Bs ?_ GE301.out) | exact HB.out)))); have n3_ := Am (Kb (g := gb301) (o := .cells #[.int .i64 ((rd_T26 l0 x13_1).f0), .int .i64 ((rd_T26 l0 x13_1).f1), .int .i64 ((rd_T26 l0 x13_1).f2), .int .i64 ((rd_T26 l0 x13_1).f3), .int .i64 ((rd_T26 l0 x13_1).f4)] 26 (0, 0)) (by (with_reducible repeat (first | refine Kn ?_ _ | refine Ke ?_ | refine Ka ?_ _)); refine blk_put (cs := #[.int .i64 ((rd_T26 l0 x13_1).f0), .int .i64 ((rd_T26 l0 x13_1).f1), .int .i64 ((rd_T26 l0 x13_1).f2), .int .i64 ((rd_T26 l0 x13_1).f3), .int .i64 0]) ?_ 4 _ rfl; (with_reducible repeat (first | refine Kn ?_ _ | refine Ke ?_ | refine Ka ?_ _)); refine blk_put (cs := #[.int .i64 ((rd_T26 l0 x13_1).f0), .int .i64 ((rd_T26 l0 x13_1).f1), .int .i64 ((rd_T26 l0 x13_1).f2), .int .i64 0, .int .i64 0]) ?_ 3 _ rfl; (with_reducible repeat (first | refine Kn ?_ _ | refine Ke ?_ | refine Ka ?_ _)); refine blk_put (cs := #[.int .i64 ((rd_T26 l0 x13_1).f0), .int .i64 ((rd_T26 l0 x13_1).f1), .int .i64 0, .int .i64 0, .int .i64 0]) ?_ 2 _ rfl; (with_reducible repeat (first | refine Kn ?_ _ | refine Ke ?_ | refine Ka ?_ _)); refine blk_put (cs := #[.int .i64 ((rd_T26 l0 x13_1).f0), .int .i64 0, .int .i64 0, .int .i64 0, .int .i64 0]) ?_ 1 _ rfl; (with_reducible repeat (first | refine Kn ?_ _ | refine Ke ?_ | refine Ka ?_ _)); refine blk_put (cs := #[.int .i64 0, .int .i64 0, .int .i64 0, .int .i64 0, .int .i64 0]) ?_ 0 _ rfl; (with_reducible repeat (first | refine Kn ?_ _ | refine Ke ?_ | refine Ka ?_ _)); exact BK301.out) hb); have n4_ := Am (Bt (by repeat (first | (with_reducible first | exact HB.out | apply Ba | apply Bn | apply Bd | refine Bs ?_ GE301.out) | exact HB.out)) hb); clear HO_4; clear HO_5; clear BK301; clear HB; have HO_4 := n0_; have HO_5 := n1_; have HO304 := n2_; have BK301 := n3_; have HB := n4_; clear n0_ n1_ n2_ n3_ n4_; (try clear hb); (try clear hb2); (try clear hk); (try clear hi); (try clear ho0)) | ((refine Gd (N := 9) rfl ?_); refine Be ?hg (N := 9) ?hd (cs := #[.int .i64 0, .int .i64 0]) (t := 30) ?hr ?_; (case hd | hg => rfl); (case hr => first | (go_simp; done) | (go_simp; rfl)); intro gb307 hg w13 hbox hb; have n0_ := Am (Kd.R_below (by (with_reducible repeat (first | apply Ra | apply Rn | apply Rd)); exact HO_4.out) hb); have n1_ := Am (Kd.R_below (Kd.R_elderB (by (with_reducible repeat (first | apply Ra | apply Rn | apply Rd)); exact HO_5.out) gb307 (Nat.le_of_eq hg.symm)) hb); have n2_ := Am (Kd.R_below (by (with_reducible repeat (first | apply Ra | apply Rn | apply Rd)); exact HO304.out) hb); have n3_ := Am (Kb (g := gb301) (o := .cells #[.int .i64 ((rd_T26 l0 x13_1).f0), .int .i64 ((rd_T26 l0 x13_1).f1), .int .i64 ((rd_T26 l0 x13_1).f2), .int .i64 ((rd_T26 l0 x13_1).f3), .int .i64 ((rd_T26 l0 x13_1).f4)] 26 (0, 0)) (by (with_reducible repeat (first | refine Kn ?_ _ | refine Ke ?_ | refine Ka ?_ _)); exact BK301.out) hb); have n4_ := Am (Bt (by repeat (first | (with_reducible first | exact HB.out | apply Ba | apply Bn | apply Bd | refine Bs ?_ GE301.out) | exact HB.out)) hb); have n5_ := Am (hbox); have n6_ := Am ((by rw [hg]; exact (Bz (by repeat (first | (with_reducible first | exact HB.out | apply Ba | apply Bn | apply Bd | refine Bs ?_ GE301.out) | exact HB.out))) : w.heap.size ≤ gb307)); have n7_ := Am ((by rw [hg]; exact (Bz (by repeat (first | (with_reducible first | exact HB.out | apply Ba | apply Bn | apply Bd | refine Bs ?_ GE301.out) | exact HB.out))) : w.heap.size ≤ gb307)); have n8_ := Am ((by rw [hg]; exact Nat.ne_of_lt (blk_lt (g := gb301) (o := .cells #[.int .i64 ((rd_T26 l0 x13_1).f0), .int .i64 ((rd_T26 l0 x13_1).f1), .int .i64 ((rd_T26 l0 x13_1).f2), .int .i64 ((rd_T26 l0 x13_1).f3), .int .i64 ((rd_T26 l0 x13_1).f4)] 26 (0, 0)) (by (with_reducible repeat (first | refine Kn ?_ _ | refine Ke ?_ | refine Ka ?_ _)); exact BK301.out)) : gb301 ≠ gb307)); have n9_ := Am ((by rw [hg]; exact Nat.ne_of_gt (blk_lt (g := gb301) (o := .cells #[.int .i64 ((rd_T26 l0 x13_1).f0), .int .i64 ((rd_T26 l0 x13_1).f1), .int .i64 ((rd_T26 l0 x13_1).f2), .int .i64 ((rd_T26 l0 x13_1).f3), .int .i64 ((rd_T26 l0 x13_1).f4)] 26 (0, 0)) (by (with_reducible repeat (first | refine Kn ?_ _ | refine Ke ?_ | refine Ka ?_ _)); exact BK301.out)) : gb307 ≠ gb301)); clear HO_4; clear HO_5; clear HO304; clear BK301; clear HB; have HO_4 := n0_; have HO_5 := n1_; have HO304 := n2_; have BK301 := n3_; have HB := n4_; have BK307 := n5_; have GW307 := n6_; have GE307 := n7_; have NB301_307 := n8_; have NB307_301 := n9_; clear n0_ n1_ n2_ n3_ n4_ n5_ n6_ n7_ n8_ n9_; clear hb hbox hg; have hnb14 := NB307_301.out; have hnc14 := NB301_307.out; have hcz15_0 : w13.cell? ⟨gb307, 0, none⟩ = some (.int .i64 0) := (Kc BK307.out 0).trans rfl; have hcz15_1 : w13.cell? ⟨gb307, 1, none⟩ = some (.int .i64 0) := (Kc BK307.out 1).trans rfl; have hfz15_0 := Kz BK307.out 0; have hfz15_1 := Kz BK307.out 1) | ((with_reducible refine gate_builtin (b := .append) (xs := #[.tmp 24, .tmp 26]) rfl ?_); at_builtin; refine Kd.R_append k30 (w0 := w) w.heap.size rfl (.tmp 24) (.tmp 26) 42 30 (.agg #[(.int .i64 0), (.int .i64 0)]) 16 rfl Try.underlying42 info30 rfl (by decide) (by omega) u5 x5_1 (⟨t305, t306⟩ : S30) [.int .i64 t305, .int .i64 t306] (fun k_ => k_ ≠ gb307) (fun _ => False) rfl (by first | (go_simp; done) | (go_simp; rfl)) ?aP (fun _ hk => hk.elim) ?aF ?aO ?aB ?aS ?aL ?_; (case aP => exact k30_mkM _ _ _ (⟨t305, t306⟩ : S30)); (case aB => exact (by repeat (first | (with_reducible first | exact HB.out | apply Ba | apply Bn | apply Bd | refine Bs ?_ GE301.out | refine Bs ?_ GE307.out) | exact HB.out))); (case aF => exact (fun k_ hk => Kd.freshB (g := gb307) (o := .cells #[.int .i64 t305, .int .i64 t306] 30 (0, 0)) (by (with_reducible repeat (first | refine Kn ?_ _ | refine Ke ?_ | refine Ka ?_ _)); refine blk_put (cs := #[.int .i64 t305, .int .i64 0]) ?_ 1 _ rfl; (with_reducible repeat (first | refine Kn ?_ _ | refine Ke ?_ | refine Ka ?_ _)); refine blk_put (cs := #[.int .i64 0, .int .i64 0]) ?_ 0 _ rfl; (with_reducible repeat (first | refine Kn ?_ _ | refine Ke ?_ | refine Ka ?_ _)); exact BK307.out) k_ hk)); (case aO => exact (by (with_reducible repeat (first | apply Ra | apply Rn | apply Rd)); exact Kd.R_mono (Kd.R_far (p := ⟨gb307, 1, none⟩) (Kd.R_far (p := ⟨gb307, 0, none⟩) (Kd.R_mono HO_5.out (fun k_ hk => (⟨hk, hk.2⟩ : _ ∧ k_ ≠ gb307))) (fun _ hk => hk.2) (.int .i64 t305)) (fun _ hk => hk.2) (.int .i64 t306)) (fun _ hk => hk.1.2))); (case aS => exact (Bz (by repeat (first | (with_reducible first | exact HB.out | apply Ba | apply Bn | apply Bd | refine Bs ?_ GE301.out | refine Bs ?_ GE307.out) | exact HB.out)))); (case aL => have := LMc8.out; omega); intro v309 w16 ho hb hg hat; rw [← Ny308.out] at ho; have n0_ := Am (Kd.R_over' (by (with_reducible repeat (first | apply Ra | apply Rn | apply Rd)); exact (Kd.R_mono (Kd.R_far (p := ⟨gb307, 1, none⟩) (Kd.R_far (p := ⟨gb307, 0, none⟩) (Kd.R_types HO_4.out BK307.out (by decide)) (fun _ hk => hk.2) (.int .i64 t305)) (fun _ hk => hk.2) (.int .i64 t306)) (fun _ h_ => h_.1))) (Kd.R_typed (by (with_reducible repeat (first | apply Ra | apply Rn | apply Rd)); exact (Kd.R_mono (Kd.R_far (p := ⟨gb307, 1, none⟩) (Kd.R_far (p := ⟨gb307, 0, none⟩) (Kd.R_mono HO_5.out (fun k_ hk => (⟨hk, hk.2⟩ : _ ∧ k_ ≠ gb307))) (fun _ hk => hk.2) (.int .i64 t305)) (fun _ hk => hk.2) (.int .i64 t306)) (fun _ h_ => h_.1)))) (by decide) hg); have n1_ := Am (blk_grown (g := gb301) (o := .cells #[.int .i64 ((rd_T26 l0 x13_1).f0), .int .i64 ((rd_T26 l0 x13_1).f1), .int .i64 ((rd_T26 l0 x13_1).f2), .int .i64 ((rd_T26 l0 x13_1).f3), .int .i64 ((rd_T26 l0 x13_1).f4)] 26 (0, 0)) (by (with_reducible repeat (first | refine Kn ?_ _ | refine Ke ?_ | refine Ka ?_ _)); refine Kf ?_ NB301_307.out _; (with_reducible repeat (first | refine Kn ?_ _ | refine Ke ?_ | refine Ka ?_ _)); refine Kf ?_ NB301_307.out _; (with_reducible repeat (first | refine Kn ?_ _ | refine Ke ?_ | refine Ka ?_ _)); exact BK301.out) hg (Kd.R_ne HO_5.out BK301.out (by decide))); have n2_ := Am (Kd.R_over' (by (with_reducible repeat (first | apply Ra | apply Rn | apply Rd)); exact (Kd.R_mono (Kd.R_far (p := ⟨gb307, 1, none⟩) (Kd.R_far (p := ⟨gb307, 0, none⟩) (Kd.R_types HO304.out BK307.out (by decide)) (fun _ hk => hk.2) (.int .i64 t305)) (fun _ hk => hk.2) (.int .i64 t306)) (fun _ h_ => h_.1))) (Kd.R_typed (by (with_reducible repeat (first | apply Ra | apply Rn | apply Rd)); exact (Kd.R_mono (Kd.R_far (p := ⟨gb307, 1, none⟩) (Kd.R_far (p := ⟨gb307, 0, none⟩) (Kd.R_mono HO_5.out (fun k_ hk => (⟨hk, hk.2⟩ : _ ∧ k_ ≠ gb307))) (fun _ hk => hk.2) (.int .i64 t305)) (fun _ hk => hk.2) (.int .i64 t306)) (fun _ h_ => h_.1)))) (by decide) hg); have n3_ := Am (blk_grown (g := gb307) (o := .cells #[.int .i64 t305, .int .i64 t306] 30 (0, 0)) (by (with_reducible repeat (first | refine Kn ?_ _ | refine Ke ?_ | refine Ka ?_ _)); refine blk_put (cs := #[.int .i64 t305, .int .i64 0]) ?_ 1 _ rfl; (with_reducible repeat (first | refine Kn ?_ _ | refine Ke ?_ | refine Ka ?_ _)); refine blk_put (cs := #[.int .i64 0, .int .i64 0]) ?_ 0 _ rfl; (with_reducible repeat (first | refine Kn ?_ _ | refine Ke ?_ | refine Ka ?_ _)); exact BK307.out) hg (Kd.R_away HO_5.out (fun _ hk => hk.2))); have n4_ := Am (hb); have n5_ := Am (ho); clear HO_4; clear BK301; clear HO304; clear BK307; clear HB; clear HO_5; have HO_4 := n0_; have BK301 := n1_; have HO304 := n2_; have BK307 := n3_; have HB := n4_; have HO310 := n5_; clear n0_ n1_ n2_ n3_ n4_ n5_; clear ho hb hg hat))
       go_roundg k1
       case measure => have := HK1.out; omega
       case rel => exact ⟨(t302), (y308), (wrap64 (x13_1 + 1)), (by first | rfl | (simp; done) | (simp [*]; done)), H', ⟨by have := HK1.out; omega⟩, ⟨by (with_reducible repeat (first | apply Ra | apply Rn | apply Rd)); exact Kd.R_mono HO304.out (fun _ hk => trivial)⟩, ⟨by (with_reducible repeat (first | apply Ra | apply Rn | apply Rd)); exact Kd.R_mono HO310.out (fun _ hk => trivial)⟩, ⟨by repeat (first | (with_reducible first | exact HB.out | apply Ba | apply Bn | apply Bd | refine Bs ?_ GE301.out | refine Bs ?_ GE307.out) | exact HB.out)⟩⟩
      ·rw [if_neg c8] at H
       exact absurd H (by simp)
     ·rw [if_neg c6] at H
      exact absurd H (by simp)
    ·rw [if_neg c5] at H
     exact absurd H (by simp)
   ·rw [if_neg c4] at H
    have c4b0 : decide (x13_1 < (l0.length : Int)) = false := decide_eq_false c4
    clear c4
    simp only [Option.some.injEq, Prod.mk.injEq] at H
    obtain ⟨rfl, rfl⟩ := H
    go_wp2
    go_ret2
    exact ⟨_, _, by first | rfl | (simp [*, errW_none, errW_some] <;> rfl), by (with_reducible repeat (first | apply Ra | apply Rn | apply Rd)); exact HO_4.out, by (with_reducible repeat (first | apply Ra | apply Rn | apply Rd)); exact HO_5.out, by repeat (first | exact HB.out | apply Ba | apply Bn | apply Bd)⟩
end Go.Proofs.Yteecmbfebenjjaa.QFnTellsSame
