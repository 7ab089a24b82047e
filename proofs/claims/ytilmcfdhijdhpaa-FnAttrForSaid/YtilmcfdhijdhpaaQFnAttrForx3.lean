-- Written by a program of this session (wip/mk.py) over the kit's print: Lean checks it.
import Derived.Test.YtilmcfdhijdhpaaQFnAttrForx0
import Derived.Test.YtilmcfdhijdhpaaQFnAttrForx2
namespace Go.Proofs.Ytilmcfdhijdhpaa.QFnAttrFor
open Go.Proofs.YtilmcfdhijdhpaaW.PrintWords.Kd renaming R_alloc → Ra, R_drewN → Rn, R_drew → Rd
open Go.Proofs.YtilmcfdhijdhpaaW.PrintWords renaming below_alloc → Ba, pw_below_drewN → Bn, below_drew1 → Bd, below_set → Bs, below_step → Bt, gate_dst → Gd, gate_callee → Gc, box_event → Be, blk_alloc → Ka, blk_drewN → Kn, blk_drew → Ke, blk_below → Kb, blk_cell → Kc, blk_far → Kf, blk_frozen → Kz
open List renaming setIfInBounds_toArray → Lt, set_cons_zero → Lz, set_cons_succ → Ls
open Go.Proofs.YtilmcfdhijdhpaaW.PrintWords.Aside0 renaming mk → Am
open Go.Proofs.YtilmcfdhijdhpaaW.PrintWords renaming Aside0 → Ad
open Go.RowKit Go.Proofs.YtilmcfdhijdhpaaW.PrintWords Go.Proofs.YtilmcfdhijdhpaaW.PrintLast Go.Proofs.YtilmcfdhijdhpaaW.PrintMore
attribute [local go_sem] max2_int min2_int max_two min_two max_three min_three max_four min_four   -- for this text's walks alone
set_option linter.unusedVariables false
set_option linter.unusedSimpArgs false
def spec_l1Cur_row.l0 : Nat → Int → Int → List Int → Int → Int → Int → Int → Int → Int → Int → Int → Int → Int → Int → List Int → Option (Int × Int × Int × Int × Int × Int × Int × Int × Int × List Int × Int × Int)
 | 0, _, _, _, _, _, _, _, _, _, _, _, _, _, _, _ => none
 | k + 1, x1, x6, x1000, x1001, x1002, x157000, x157001, x157002, x157003, x157004, x157005, x157006, x157007, x157008, x157009 => if x6 < x1 then ((spec_l1Cur_pick.f x1000 x1001 x1002 3).bind fun bt157 => (if x157009.length < 17592186044416 then (spec_l1Cur_row.l0 k x1 (wrap64 (x6 + 1)) x1000 bt157.2.1 bt157.2.2 x157000 x157001 x157002 x157003 x157004 x157005 x157006 x157007 x157008 (x157009 ++ [bt157.1])) else (none))) else ((spec_l1Cur_one.f x1000 x1001 x1002 2).bind fun bt163 => (if bt163.1 = true then (if x157002 = 0 then ((spec_l3None.f x1).bind fun bt166 => (some (x157000, 0, 0, 0, 0, 0, 0, 0, bt166.1, bt166.2, bt163.2.1, bt163.2.2))) else (some (x157000, x157000, x157002, x157003, x157004, x157005, x157006, x157007, x157008, x157009, bt163.2.1, bt163.2.2))) else (if x157002 = 0 then ((spec_l3None.f x1).bind fun bt170 => (some (x157000, 0, 0, 0, 0, 0, 0, 0, bt170.1, bt170.2, bt163.2.1, bt163.2.2))) else (some (x157000, x157001, x157002, x157003, x157004, x157005, x157006, x157007, x157008, x157009, bt163.2.1, bt163.2.2)))))
def spec_l1Cur_row.f (k : Nat) (s0_0 : List Int) (s0_1 : Int) (s0_2 : Int) (a1 : Int) : Option (Int × Int × Int × Int × Int × Int × Int × Int × Int × List Int × Int × Int) := (spec_l1Cur_among.f s0_0 s0_1 s0_2 (([0, 0, 8, 9, 17] : List Int))).bind fun bt140 => ((spec_l1Cur_pick.f s0_0 bt140.2.1 bt140.2.2 4).bind fun bt143 => ((spec_l1Cur_cmd.f s0_0 bt143.2.1 bt143.2.2).bind fun bt146 => ((spec_l1Cur_pick.f s0_0 bt146.2.2.2.2.2.1 bt146.2.2.2.2.2.2 5).bind fun bt153 => (spec_l1Cur_row.l0 k a1 0 s0_0 bt153.2.1 bt153.2.2 bt140.1 0 bt143.1 bt146.1 bt146.2.1 bt146.2.2.1 bt146.2.2.2.1 bt146.2.2.2.2.1 bt153.1 ([] : List Int)))))
theorem spec_l1Cur_row.mono_l : ∀ k, (∀ y0 y1 y2 y3 y4 y5 y6 y7 y8 y9 y10 y11 y12 y13 y14, LeO (spec_l1Cur_row.l0 k y0 y1 y2 y3 y4 y5 y6 y7 y8 y9 y10 y11 y12 y13 y14) (spec_l1Cur_row.l0 (k + 1) y0 y1 y2 y3 y4 y5 y6 y7 y8 y9 y10 y11 y12 y13 y14))
 | 0 => fun _ _ _ _ _ _ _ _ _ _ _ _ _ _ _ r h => by simp [spec_l1Cur_row.l0] at h
 | k + 1 => by
  have ih0 := spec_l1Cur_row.mono_l k
  ·intro y0 y1 y2 y3 y4 y5 y6 y7 y8 y9 y10 y11 y12 y13 y14
   unfold spec_l1Cur_row.l0
   repeat' first
   | (with_reducible exact ih0 _ _ _ _ _ _ _ _ _ _ _ _ _ _ _)
   | (with_reducible exact LeO.refl _)
   | (with_reducible exact LeO.none _)
   | (with_reducible refine LeO.ite ?_ ?_)
   | (with_reducible refine LeO.bind ?_ (fun _ => ?_))
   | exact ih0 _ _ _ _ _ _ _ _ _ _ _ _ _ _ _
   | exact LeO.none _
   | refine LeO.ite ?_ ?_
   | refine LeO.bind ?_ (fun _ => ?_)
theorem spec_l1Cur_row.mono : ∀ a0 a1 a2 a3 k, LeO (spec_l1Cur_row.f k a0 a1 a2 a3) (spec_l1Cur_row.f (k + 1) a0 a1 a2 a3) := by
 intro a0 a1 a2 a3 k
 have ih0 := spec_l1Cur_row.mono_l k
 unfold spec_l1Cur_row.f
 repeat' first
   | (with_reducible exact ih0 _ _ _ _ _ _ _ _ _ _ _ _ _ _ _)
   | (with_reducible exact LeO.refl _)
   | (with_reducible exact LeO.none _)
   | (with_reducible refine LeO.ite ?_ ?_)
   | (with_reducible refine LeO.bind ?_ (fun _ => ?_))
   | exact ih0 _ _ _ _ _ _ _ _ _ _ _ _ _ _ _
   | exact LeO.none _
   | refine LeO.ite ?_ ?_
   | refine LeO.bind ?_ (fun _ => ?_)
def spec_l1Cur_row.T5 : Bool × List (List Nat × List Nat) := (true, [([], []), ([0], [0]), ([1], [1]), ([], []), ([3], [3]), ([4], [4]), ([2, 5, 4], [2, 5]), ([0, 1, 2, 3, 4, 5, 6], []), ([7, 0, 1, 2, 3, 4, 5, 6], [7]), ([8, 6, 6, 0, 1, 2, 3, 4, 5, 6], [6, 8])])
def spec_l1Cur_row.B5 : List Nat := [0, 1, 3, 0, 8, 24, 63, 127, 255, 511]
theorem spec_l1Cur_row.tab5 : rtab .any (opsOf Try.f45 5) = spec_l1Cur_row.T5 := by kernel_rfl
theorem spec_l1Cur_row.bits5 : waitsOk spec_l1Cur_row.T5.2 spec_l1Cur_row.B5 = true := by kernel_rfl
set_option maxHeartbeats 8000000 in
set_option maxRecDepth 100000 in
theorem spec_l1Cur_row.calls (k : Nat) (g : Nat) (s0_0 : List Int) (s0_1 : Int) (s0_2 : Int) (a1 : Int) (r1 : Int) (r2 : Int) (r3 : Int) (r4 : Int) (r5 : Int) (r6 : Int) (r7 : Int) (r8 : Int) (r9 : Int) (r10 : List Int) (r11 : Int) (r12 : Int) (w0 w : World) (hI : IsS60 w0 w g s0_0 s0_1 s0_2) (hB : Below w0.heap.size w0 w) (h : spec_l1Cur_row.f k s0_0 s0_1 s0_2 a1 = some (r1, r2, r3, r4, r5, r6, r7, r8, r9, r10, r11, r12)) :
  Calls Try.prog 45 #[.pointer (some ⟨g, 0, none⟩), .int .i64 a1] w fun e w' => ∃ v9_ : Value, e = .returned (.agg #[.int .i64 r1, .int .i64 r2, .int .i64 r3, .int .i64 r4, .int .i64 r5, .int .i64 r6, .int .i64 r7, .int .i64 r8, .int .i64 r9, v9_]) ∧ Kd.R (Kd.int .i64) 3 w' w.heap.size (fun _ => True) v9_ r10 ∧ IsS60 w0 w' g s0_0 r11 r12 ∧ Below w0.heap.size w0 w' ∧ KeepBut w w' g none := by
 have hu39 := Try.underlying39
 have hu33 := Try.underlying33
 have HI0 := Am hI
 have HK := Am (KeepBut.refl w g none)
 have HL := Am hB.size
 clear hI
 have HW0 := Am hB.size
 have HB := Am hB
 clear hB
 have H : ((spec_l1Cur_among.f s0_0 s0_1 s0_2 (([0, 0, 8, 9, 17] : List Int))).bind fun bt140 => ((spec_l1Cur_pick.f s0_0 bt140.2.1 bt140.2.2 4).bind fun bt143 => ((spec_l1Cur_cmd.f s0_0 bt143.2.1 bt143.2.2).bind fun bt146 => ((spec_l1Cur_pick.f s0_0 bt146.2.2.2.2.2.1 bt146.2.2.2.2.2.2 5).bind fun bt153 => (spec_l1Cur_row.l0 k a1 0 s0_0 bt153.2.1 bt153.2.2 bt140.1 0 bt143.1 bt146.1 bt146.2.1 bt146.2.2.1 bt146.2.2.2.1 bt146.2.2.2.2.1 bt153.1 ([] : List Int)))))) = some (r1, r2, r3, r4, r5, r6, r7, r8, r9, r10, r11, r12) := h
 clear h
 obtain ⟨y137, hy137⟩ : ∃ y_ : List Int, y_ = (([0, 0, 8, 9, 17] : List Int)) := ⟨_, rfl⟩
 replace H : ((spec_l1Cur_among.f s0_0 s0_1 s0_2 y137).bind fun bt140 => ((spec_l1Cur_pick.f s0_0 bt140.2.1 bt140.2.2 4).bind fun bt143 => ((spec_l1Cur_cmd.f s0_0 bt143.2.1 bt143.2.2).bind fun bt146 => ((spec_l1Cur_pick.f s0_0 bt146.2.2.2.2.2.1 bt146.2.2.2.2.2.2 5).bind fun bt153 => (spec_l1Cur_row.l0 k a1 0 s0_0 bt153.2.1 bt153.2.2 bt140.1 0 bt143.1 bt146.1 bt146.2.1 bt146.2.2.1 bt146.2.2.2.1 bt146.2.2.2.2.1 bt153.1 ([] : List Int)))))) = some (r1, r2, r3, r4, r5, r6, r7, r8, r9, r10, r11, r12) := by first | (rw [hy137]; with_reducible exact H) | (have H2_ := (Option.bind_some _ _).symm.trans H; rw [hy137]; with_reducible exact H2_) | (have H2_ := (Option.bind_some _ _).symm.trans H; with_reducible exact H2_) | with_reducible exact H | (rw [hy137]; exact H) | exact H
 have Ny137 := Am hy137
 clear hy137
 replace H := Option.bind_eq_some_iff.mp H
 obtain ⟨⟨t140, t141, t142⟩, A30, H⟩ := H
 replace H : ((spec_l1Cur_pick.f s0_0 t141 t142 4).bind fun bt143 => ((spec_l1Cur_cmd.f s0_0 bt143.2.1 bt143.2.2).bind fun bt146 => ((spec_l1Cur_pick.f s0_0 bt146.2.2.2.2.2.1 bt146.2.2.2.2.2.2 5).bind fun bt153 => (spec_l1Cur_row.l0 k a1 0 s0_0 bt153.2.1 bt153.2.2 t140 0 bt143.1 bt146.1 bt146.2.1 bt146.2.2.1 bt146.2.2.2.1 bt146.2.2.2.2.1 bt153.1 ([] : List Int))))) = some (r1, r2, r3, r4, r5, r6, r7, r8, r9, r10, r11, r12) := H
 have A3 := Am A30
 clear A30
 replace H := Option.bind_eq_some_iff.mp H
 obtain ⟨⟨t143, t144, t145⟩, A40, H⟩ := H
 replace H : ((spec_l1Cur_cmd.f s0_0 t144 t145).bind fun bt146 => ((spec_l1Cur_pick.f s0_0 bt146.2.2.2.2.2.1 bt146.2.2.2.2.2.2 5).bind fun bt153 => (spec_l1Cur_row.l0 k a1 0 s0_0 bt153.2.1 bt153.2.2 t140 0 t143 bt146.1 bt146.2.1 bt146.2.2.1 bt146.2.2.2.1 bt146.2.2.2.2.1 bt153.1 ([] : List Int)))) = some (r1, r2, r3, r4, r5, r6, r7, r8, r9, r10, r11, r12) := H
 have A4 := Am A40
 clear A40
 replace H := Option.bind_eq_some_iff.mp H
 obtain ⟨⟨t146, t147, t148, t149, t150, t151, t152⟩, A50, H⟩ := H
 replace H : ((spec_l1Cur_pick.f s0_0 t151 t152 5).bind fun bt153 => (spec_l1Cur_row.l0 k a1 0 s0_0 bt153.2.1 bt153.2.2 t140 0 t143 t146 t147 t148 t149 t150 bt153.1 ([] : List Int))) = some (r1, r2, r3, r4, r5, r6, r7, r8, r9, r10, r11, r12) := H
 have A5 := Am A50
 clear A50
 replace H := Option.bind_eq_some_iff.mp H
 obtain ⟨⟨t153, t154, t155⟩, A60, H⟩ := H
 replace H : (spec_l1Cur_row.l0 k a1 0 s0_0 t154 t155 t140 0 t143 t146 t147 t148 t149 t150 t153 ([] : List Int)) = some (r1, r2, r3, r4, r5, r6, r7, r8, r9, r10, r11, r12) := H
 have A6 := Am A60
 clear A60
 have H' := Am H
 clear H
 go_enter Try.func45, Try.ntmps45
 go_wp2_with (first | ((refine Gd (N := 4) rfl ?_); refine Be ?hg (N := 4) ?hd (cs := #[.int .i64 0, .int .i64 0, .int .i64 0, .int .i64 0, .int .i64 0, .int .i64 0, .int .i64 0, .int .i64 0, .int .i64 0, .slice none 0 0]) (t := 39) ?hr ?_; (case hd | hg => rfl); (case hr => first | (go_simp; done) | (go_simp; rfl)); intro gb136 hg w7 hbox hb; have n0_ := Am (IsS60.below (by repeat (first | (with_reducible first | exact HI0.out | apply IsS60.alloc | apply IsS60.drewN | apply IsS60.drew | apply IsS60.set_1 | apply IsS60.set_2) | exact HI0.out)) hb); have n1_ := Am (KeepBut.trans (by repeat (first | (with_reducible first | exact HK.out | apply KeepBut.set_ | apply keep_drewN | apply keep_drew | apply keep_alloc) | exact HK.out)) (KeepBut.of_below hb g none) (.inl rfl)); have n2_ := Am (Bt (by repeat (first | (with_reducible first | exact HB.out | apply Ba | apply Bn | apply Bd | refine Bs ?_ (IsS60.ge HI0.out)) | exact HB.out)) hb); have n3_ := Am (hbox); have n4_ := Am ((by rw [hg]; exact (keep_size (w := w) (g := g) (row := none) (by repeat (first | (with_reducible first | exact HK.out | apply KeepBut.set_ | apply keep_drewN | apply keep_drew | apply keep_alloc) | exact HK.out))) : w.heap.size ≤ gb136)); have n5_ := Am ((Nat.le_trans HW0.out (by rw [hg]; exact (keep_size (w := w) (g := g) (row := none) (by repeat (first | (with_reducible first | exact HK.out | apply KeepBut.set_ | apply keep_drewN | apply keep_drew | apply keep_alloc) | exact HK.out))) : w.heap.size ≤ gb136) : w0.heap.size ≤ gb136)); have n6_ := Am ((by rw [hg]; exact Nat.ne_of_lt (IsS60.lt (show IsS60 w0 _ g s0_0 s0_1 s0_2 from by repeat (first | (with_reducible first | exact HI0.out | apply IsS60.alloc | apply IsS60.drewN | apply IsS60.drew | apply IsS60.set_1 | apply IsS60.set_2) | exact HI0.out))) : g ≠ gb136)); have n7_ := Am ((by rw [hg]; exact Nat.ne_of_gt (IsS60.lt (show IsS60 w0 _ g s0_0 s0_1 s0_2 from by repeat (first | (with_reducible first | exact HI0.out | apply IsS60.alloc | apply IsS60.drewN | apply IsS60.drew | apply IsS60.set_1 | apply IsS60.set_2) | exact HI0.out))) : gb136 ≠ g)); clear HI0; clear HK; clear HB; have HI0 := n0_; have HK := n1_; have HB := n2_; have BK136 := n3_; have GW136 := n4_; have GE136 := n5_; have NB0_136 := n6_; have NB136_0 := n7_; clear n0_ n1_ n2_ n3_ n4_ n5_ n6_ n7_; clear hb hbox hg) | ((refine Gd (N := 8) rfl ?_); refine Kd.R_lit (Kd.int .i64) _ 3 ?hg (N := 8) ?hd (xs := ([0, 0, 8, 9, 17] : List Int)) (inner := [.int .i64 0, .int .i64 0, .int .i64 8, .int .i64 9, .int .i64 17]) (ok := fun _ => True) (okp := fun _ => True) ?hr ?hp (fun _ hk => hk) trivial (Below.refl _ _) (Nat.le_refl _) (by simp) ?_; (case hd | hg => rfl); (case hr => first | (go_simp; done) | (go_simp; rfl)); (case hp => exact (Reps.one (show Kd.M (Kd.int .i64) _ _ _ 0 [.int .i64 0] from rfl) (Reps.one (show Kd.M (Kd.int .i64) _ _ _ 0 [.int .i64 0] from rfl) (Reps.one (show Kd.M (Kd.int .i64) _ _ _ 8 [.int .i64 8] from rfl) (Reps.one (show Kd.M (Kd.int .i64) _ _ _ 9 [.int .i64 9] from rfl) (Reps.one (show Kd.M (Kd.int .i64) _ _ _ 17 [.int .i64 17] from rfl) (Reps.none _ _))))))); intro v138 w8 ho9 hb hg_ hnew_; clear hg_ hnew_; (first | rw [← Ny137.out] at ho9 | (simp only [Int.reduceToNat] at ho9; rw [← Ny137.out] at ho9)); have n0_ := Am (Kd.R_lower ho9 (keep_size (w := w) (g := g) (row := none) (by repeat (first | (with_reducible first | exact HK.out | apply KeepBut.set_ | apply keep_drewN | apply keep_drew | apply keep_alloc | refine keep_far ?_ GW136.out _) | exact HK.out)))); have n1_ := Am (IsS60.below (by repeat (first | (with_reducible first | exact HI0.out | apply IsS60.alloc | apply IsS60.drewN | apply IsS60.drew | apply IsS60.set_1 | apply IsS60.set_2 | refine IsS60.far ?_ NB0_136.out _) | exact HI0.out)) hb); have n2_ := Am (Kb (g := gb136) (o := .cells #[.int .i64 0, .int .i64 0, .int .i64 0, .int .i64 0, .int .i64 0, .int .i64 0, .int .i64 0, .int .i64 0, .int .i64 0, .slice none 0 0] 39 (0, 0)) (by (with_reducible repeat (first | refine Kn ?_ _ | refine Ke ?_ | refine Ka ?_ _)); exact BK136.out) hb); have n3_ := Am (KeepBut.trans (by repeat (first | (with_reducible first | exact HK.out | apply KeepBut.set_ | apply keep_drewN | apply keep_drew | apply keep_alloc | refine keep_far ?_ GW136.out _) | exact HK.out)) (KeepBut.of_below hb g none) (.inl rfl)); have n4_ := Am (Bt (by repeat (first | (with_reducible first | exact HB.out | apply Ba | apply Bn | apply Bd | refine Bs ?_ (IsS60.ge HI0.out) | refine Bs ?_ GE136.out) | exact HB.out)) hb); clear HI0; clear BK136; clear HK; clear HB; have HO139 := n0_; have HI0 := n1_; have BK136 := n2_; have HK := n3_; have HB := n4_; clear n0_ n1_ n2_ n3_ n4_; clear hb ho9; obtain ⟨Ao10, co10, eo10⟩ := Kd.R_slice HO139.out; subst eo10) | ((refine Gc (f := 42) rfl ?_); refine goesL_ (some 9) rfl rfl Try.func42 (by kernel_rfl) rfl #[.pointer (some ⟨g, 0, none⟩), .slice Ao10 y137.length co10] rfl (by first | rfl | (simp only [List.map_toArray, List.map_cons, List.map_nil]; first | done | rfl)) ?_; (with_reducible refine (spec_l1Cur_among.calls g s0_0 s0_1 s0_2 _ _ y137 t140 t141 t142 w0 _ ?side1 ?side2 ?side3 ?side4 ?side5 A3.out).mono ?_); (case side1 => repeat (first | (with_reducible first | exact HI0.out | apply IsS60.alloc | apply IsS60.drewN | apply IsS60.drew | apply IsS60.set_1 | apply IsS60.set_2 | refine IsS60.far ?_ NB0_136.out _) | exact HI0.out)); (case side2 => repeat (first | (with_reducible first | exact HB.out | apply Ba | apply Bn | apply Bd | refine Bs ?_ (IsS60.ge HI0.out) | refine Bs ?_ GE136.out) | exact HB.out)); (case side3 => repeat (first | exact (Kd.R_reads' HO139.out).2.2 | (with_reducible refine Kd.C_alloc ?_ _) | (with_reducible refine Kd.C_drewN ?_ _) | (with_reducible refine Kd.C_drew ?_))); (case side4 => exact (Kd.R_reads' HO139.out).2.1); (case side5 => exact far_slice (IsS60.own_ne HI0.out HO139.out (by decide))); rintro e w11 ⟨rfl, hi, hb, hk⟩; refine ⟨_, rfl, ?_⟩; have n0_ := Am (KeepBut.blk hk (g' := gb136) (o := .cells #[.int .i64 0, .int .i64 0, .int .i64 0, .int .i64 0, .int .i64 0, .int .i64 0, .int .i64 0, .int .i64 0, .int .i64 0, .slice none 0 0] 39 (0, 0)) (by (with_reducible repeat (first | refine Kn ?_ _ | refine Ke ?_ | refine Ka ?_ _)); exact BK136.out) NB136_0.out (by simp)); have n1_ := Am (Kd.R_mono (Kd.R_keep (IsS60.apart (show IsS60 w0 _ g s0_0 s0_1 s0_2 from by repeat (first | (with_reducible first | exact HI0.out | apply IsS60.alloc | apply IsS60.drewN | apply IsS60.drew | apply IsS60.set_1 | apply IsS60.set_2 | refine IsS60.far ?_ NB0_136.out _) | exact HI0.out)) (by (with_reducible repeat (first | apply Ra | apply Rn | apply Rd)); exact HO139.out) (by decide)) hk (fun _ h => h.2)) (fun _ h => h.1)); have n2_ := Am (KeepBut.trans (by repeat (first | (with_reducible first | exact HK.out | apply KeepBut.set_ | apply keep_drewN | apply keep_drew | apply keep_alloc | refine keep_far ?_ GW136.out _) | exact HK.out)) hk (.inl rfl)); have n3_ := Am (hb); have n4_ := Am (hi); clear BK136; clear HO139; clear HK; clear HB; clear HI0; have BK136 := n0_; have HO139 := n1_; have HK := n2_; have HB := n3_; have HI0 := n4_; clear n0_ n1_ n2_ n3_ n4_; (try clear hb); (try clear hb2); (try clear hk); (try clear hi)) | ((refine Gc (f := 44) rfl ?_); refine goesL_ (some 11) rfl rfl Try.func44 (by kernel_rfl) rfl #[.pointer (some ⟨g, 0, none⟩), .int .i64 4] rfl (by first | rfl | (simp only [List.map_toArray, List.map_cons, List.map_nil]; first | done | rfl)) ?_; (with_reducible refine (spec_l1Cur_pick.calls g s0_0 t141 t142 4 t143 t144 t145 w0 _ ?side1 ?side2 A4.out).mono ?_); (case side1 => repeat (first | (with_reducible first | exact HI0.out | apply IsS60.alloc | apply IsS60.drewN | apply IsS60.drew | apply IsS60.set_1 | apply IsS60.set_2 | refine IsS60.far ?_ NB0_136.out _) | exact HI0.out)); (case side2 => repeat (first | (with_reducible first | exact HB.out | apply Ba | apply Bn | apply Bd | refine Bs ?_ (IsS60.ge HI0.out) | refine Bs ?_ GE136.out) | exact HB.out)); rintro e w12 ⟨rfl, hi, hb, hk⟩; refine ⟨_, rfl, ?_⟩; have n0_ := Am (KeepBut.blk hk (g' := gb136) (o := .cells #[.int .i64 0, .int .i64 0, .int .i64 0, .int .i64 0, .int .i64 0, .int .i64 0, .int .i64 0, .int .i64 0, .int .i64 0, .slice none 0 0] 39 (0, 0)) (by (with_reducible repeat (first | refine Kn ?_ _ | refine Ke ?_ | refine Ka ?_ _)); exact BK136.out) NB136_0.out (by simp)); have n1_ := Am (Kd.R_mono (Kd.R_keep (IsS60.apart (show IsS60 w0 _ g s0_0 t141 t142 from by repeat (first | (with_reducible first | exact HI0.out | apply IsS60.alloc | apply IsS60.drewN | apply IsS60.drew | apply IsS60.set_1 | apply IsS60.set_2 | refine IsS60.far ?_ NB0_136.out _) | exact HI0.out)) (by (with_reducible repeat (first | apply Ra | apply Rn | apply Rd)); exact HO139.out) (by decide)) hk (fun _ h => h.2)) (fun _ h => h.1)); have n2_ := Am (KeepBut.trans (by repeat (first | (with_reducible first | exact HK.out | apply KeepBut.set_ | apply keep_drewN | apply keep_drew | apply keep_alloc | refine keep_far ?_ GW136.out _) | exact HK.out)) hk (.inl rfl)); have n3_ := Am (hb); have n4_ := Am (hi); clear BK136; clear HO139; clear HK; clear HB; clear HI0; have BK136 := n0_; have HO139 := n1_; have HK := n2_; have HB := n3_; have HI0 := n4_; clear n0_ n1_ n2_ n3_ n4_; (try clear hb); (try clear hb2); (try clear hk); (try clear hi)) | ((refine Gc (f := 46) rfl ?_); refine goesL_ (some 13) rfl rfl Try.func46 (by kernel_rfl) rfl #[.pointer (some ⟨g, 0, none⟩)] rfl (by first | rfl | (simp only [List.map_toArray, List.map_cons, List.map_nil]; first | done | rfl)) ?_; (with_reducible refine (spec_l1Cur_cmd.calls g s0_0 t144 t145 t146 t147 t148 t149 t150 t151 t152 w0 _ ?side1 ?side2 A5.out).mono ?_); (case side1 => repeat (first | (with_reducible first | exact HI0.out | apply IsS60.alloc | apply IsS60.drewN | apply IsS60.drew | apply IsS60.set_1 | apply IsS60.set_2 | refine IsS60.far ?_ NB0_136.out _) | exact HI0.out)); (case side2 => repeat (first | (with_reducible first | exact HB.out | apply Ba | apply Bn | apply Bd | refine Bs ?_ (IsS60.ge HI0.out) | refine Bs ?_ GE136.out) | exact HB.out)); rintro e w13 ⟨rfl, hi, hb, hk⟩; refine ⟨_, rfl, ?_⟩; have n0_ := Am (KeepBut.blk hk (g' := gb136) (o := .cells #[.int .i64 0, .int .i64 0, .int .i64 0, .int .i64 0, .int .i64 0, .int .i64 0, .int .i64 0, .int .i64 0, .int .i64 0, .slice none 0 0] 39 (0, 0)) (by (with_reducible repeat (first | refine Kn ?_ _ | refine Ke ?_ | refine Ka ?_ _)); exact BK136.out) NB136_0.out (by simp)); have n1_ := Am (Kd.R_mono (Kd.R_keep (IsS60.apart (show IsS60 w0 _ g s0_0 t144 t145 from by repeat (first | (with_reducible first | exact HI0.out | apply IsS60.alloc | apply IsS60.drewN | apply IsS60.drew | apply IsS60.set_1 | apply IsS60.set_2 | refine IsS60.far ?_ NB0_136.out _) | exact HI0.out)) (by (with_reducible repeat (first | apply Ra | apply Rn | apply Rd)); exact HO139.out) (by decide)) hk (fun _ h => h.2)) (fun _ h => h.1)); have n2_ := Am (KeepBut.trans (by repeat (first | (with_reducible first | exact HK.out | apply KeepBut.set_ | apply keep_drewN | apply keep_drew | apply keep_alloc | refine keep_far ?_ GW136.out _) | exact HK.out)) hk (.inl rfl)); have n3_ := Am (hb); have n4_ := Am (hi); clear BK136; clear HO139; clear HK; clear HB; clear HI0; have BK136 := n0_; have HO139 := n1_; have HK := n2_; have HB := n3_; have HI0 := n4_; clear n0_ n1_ n2_ n3_ n4_; (try clear hb); (try clear hb2); (try clear hk); (try clear hi)) | ((refine Gc (f := 44) rfl ?_); refine goesL_ (some 15) rfl rfl Try.func44 (by kernel_rfl) rfl #[.pointer (some ⟨g, 0, none⟩), .int .i64 5] rfl (by first | rfl | (simp only [List.map_toArray, List.map_cons, List.map_nil]; first | done | rfl)) ?_; (with_reducible refine (spec_l1Cur_pick.calls g s0_0 t151 t152 5 t153 t154 t155 w0 _ ?side1 ?side2 A6.out).mono ?_); (case side1 => repeat (first | (with_reducible first | exact HI0.out | apply IsS60.alloc | apply IsS60.drewN | apply IsS60.drew | apply IsS60.set_1 | apply IsS60.set_2 | refine IsS60.far ?_ NB0_136.out _) | exact HI0.out)); (case side2 => repeat (first | (with_reducible first | exact HB.out | apply Ba | apply Bn | apply Bd | refine Bs ?_ (IsS60.ge HI0.out) | refine Bs ?_ GE136.out) | exact HB.out)); rintro e w14 ⟨rfl, hi, hb, hk⟩; refine ⟨_, rfl, ?_⟩; have n0_ := Am (KeepBut.blk hk (g' := gb136) (o := .cells #[.int .i64 0, .int .i64 0, .int .i64 0, .int .i64 0, .int .i64 0, .int .i64 0, .int .i64 0, .int .i64 0, .int .i64 0, .slice none 0 0] 39 (0, 0)) (by (with_reducible repeat (first | refine Kn ?_ _ | refine Ke ?_ | refine Ka ?_ _)); exact BK136.out) NB136_0.out (by simp)); have n1_ := Am (Kd.R_mono (Kd.R_keep (IsS60.apart (show IsS60 w0 _ g s0_0 t151 t152 from by repeat (first | (with_reducible first | exact HI0.out | apply IsS60.alloc | apply IsS60.drewN | apply IsS60.drew | apply IsS60.set_1 | apply IsS60.set_2 | refine IsS60.far ?_ NB0_136.out _) | exact HI0.out)) (by (with_reducible repeat (first | apply Ra | apply Rn | apply Rd)); exact HO139.out) (by decide)) hk (fun _ h => h.2)) (fun _ h => h.1)); have n2_ := Am (KeepBut.trans (by repeat (first | (with_reducible first | exact HK.out | apply KeepBut.set_ | apply keep_drewN | apply keep_drew | apply keep_alloc | refine keep_far ?_ GW136.out _) | exact HK.out)) hk (.inl rfl)); have n3_ := Am (hb); have n4_ := Am (hi); clear BK136; clear HO139; clear HK; clear HB; clear HI0; have BK136 := n0_; have HO139 := n1_; have HK := n2_; have HB := n3_; have HI0 := n4_; clear n0_ n1_ n2_ n3_ n4_; (try clear hb); (try clear hb2); (try clear hk); (try clear hi)) | ((refine Gd (N := 5) rfl ?_); refine Be ?hg (N := 5) ?hd (cs := #[.int .i64 0, .int .i64 0, .int .i64 0, .int .i64 0, .int .i64 0, .int .i64 0, .int .i64 0, .int .i64 0, .int .i64 0, .slice none 0 0]) (t := 39) ?hr ?_; (case hd | hg => rfl); (case hr => first | (go_simp; done) | (go_simp; rfl)); intro gb156 hg w15 hbox hb; have n0_ := Am (Kd.R_below (by (with_reducible repeat (first | apply Ra | apply Rn | apply Rd)); exact HO139.out) hb); have n1_ := Am (IsS60.below (by repeat (first | (with_reducible first | exact HI0.out | apply IsS60.alloc | apply IsS60.drewN | apply IsS60.drew | apply IsS60.set_1 | apply IsS60.set_2 | refine IsS60.far ?_ NB0_136.out _) | exact HI0.out)) hb); have n2_ := Am (Kb (g := gb136) (o := .cells #[.int .i64 0, .int .i64 0, .int .i64 0, .int .i64 0, .int .i64 0, .int .i64 0, .int .i64 0, .int .i64 0, .int .i64 0, .slice none 0 0] 39 (0, 0)) (by (with_reducible repeat (first | refine Kn ?_ _ | refine Ke ?_ | refine Ka ?_ _)); exact BK136.out) hb); have n3_ := Am (KeepBut.trans (by repeat (first | (with_reducible first | exact HK.out | apply KeepBut.set_ | apply keep_drewN | apply keep_drew | apply keep_alloc | refine keep_far ?_ GW136.out _) | exact HK.out)) (KeepBut.of_below hb g none) (.inl rfl)); have n4_ := Am (Bt (by repeat (first | (with_reducible first | exact HB.out | apply Ba | apply Bn | apply Bd | refine Bs ?_ (IsS60.ge HI0.out) | refine Bs ?_ GE136.out) | exact HB.out)) hb); have n5_ := Am (hbox); have n6_ := Am ((by rw [hg]; exact (keep_size (w := w) (g := g) (row := none) (by repeat (first | (with_reducible first | exact HK.out | apply KeepBut.set_ | apply keep_drewN | apply keep_drew | apply keep_alloc | refine keep_far ?_ GW136.out _) | exact HK.out))) : w.heap.size ≤ gb156)); have n7_ := Am ((Nat.le_trans HW0.out (by rw [hg]; exact (keep_size (w := w) (g := g) (row := none) (by repeat (first | (with_reducible first | exact HK.out | apply KeepBut.set_ | apply keep_drewN | apply keep_drew | apply keep_alloc | refine keep_far ?_ GW136.out _) | exact HK.out))) : w.heap.size ≤ gb156) : w0.heap.size ≤ gb156)); have n8_ := Am ((by rw [hg]; exact Nat.ne_of_lt (blk_lt (g := gb136) (o := .cells #[.int .i64 0, .int .i64 0, .int .i64 0, .int .i64 0, .int .i64 0, .int .i64 0, .int .i64 0, .int .i64 0, .int .i64 0, .slice none 0 0] 39 (0, 0)) (by (with_reducible repeat (first | refine Kn ?_ _ | refine Ke ?_ | refine Ka ?_ _)); exact BK136.out)) : gb136 ≠ gb156)); have n9_ := Am ((by rw [hg]; exact Nat.ne_of_gt (blk_lt (g := gb136) (o := .cells #[.int .i64 0, .int .i64 0, .int .i64 0, .int .i64 0, .int .i64 0, .int .i64 0, .int .i64 0, .int .i64 0, .int .i64 0, .slice none 0 0] 39 (0, 0)) (by (with_reducible repeat (first | refine Kn ?_ _ | refine Ke ?_ | refine Ka ?_ _)); exact BK136.out)) : gb156 ≠ gb136)); have n10_ := Am ((by rw [hg]; exact Nat.ne_of_lt (IsS60.lt (show IsS60 w0 _ g s0_0 t154 t155 from by repeat (first | (with_reducible first | exact HI0.out | apply IsS60.alloc | apply IsS60.drewN | apply IsS60.drew | apply IsS60.set_1 | apply IsS60.set_2 | refine IsS60.far ?_ NB0_136.out _) | exact HI0.out))) : g ≠ gb156)); have n11_ := Am ((by rw [hg]; exact Nat.ne_of_gt (IsS60.lt (show IsS60 w0 _ g s0_0 t154 t155 from by repeat (first | (with_reducible first | exact HI0.out | apply IsS60.alloc | apply IsS60.drewN | apply IsS60.drew | apply IsS60.set_1 | apply IsS60.set_2 | refine IsS60.far ?_ NB0_136.out _) | exact HI0.out))) : gb156 ≠ g)); clear HO139; clear HI0; clear BK136; clear HK; clear HB; have HO139 := n0_; have HI0 := n1_; have BK136 := n2_; have HK := n3_; have HB := n4_; have BK156 := n5_; have GW156 := n6_; have GE156 := n7_; have NB136_156 := n8_; have NB156_136 := n9_; have NB0_156 := n10_; have NB156_0 := n11_; clear n0_ n1_ n2_ n3_ n4_ n5_ n6_ n7_ n8_ n9_ n10_ n11_; clear hb hbox hg; have hnb16 := NB156_136.out; have hnc16 := NB136_156.out; have hnb17 := NB156_0.out; have hnc17 := NB0_156.out; have hcz18_0 : w15.cell? ⟨gb156, 0, none⟩ = some (.int .i64 0) := (Kc BK156.out 0).trans rfl; have hcz18_1 : w15.cell? ⟨gb156, 1, none⟩ = some (.int .i64 0) := (Kc BK156.out 1).trans rfl; have hcz18_2 : w15.cell? ⟨gb156, 2, none⟩ = some (.int .i64 0) := (Kc BK156.out 2).trans rfl; have hcz18_3 : w15.cell? ⟨gb156, 3, none⟩ = some (.int .i64 0) := (Kc BK156.out 3).trans rfl; have hcz18_4 : w15.cell? ⟨gb156, 4, none⟩ = some (.int .i64 0) := (Kc BK156.out 4).trans rfl; have hcz18_5 : w15.cell? ⟨gb156, 5, none⟩ = some (.int .i64 0) := (Kc BK156.out 5).trans rfl; have hcz18_6 : w15.cell? ⟨gb156, 6, none⟩ = some (.int .i64 0) := (Kc BK156.out 6).trans rfl; have hcz18_7 : w15.cell? ⟨gb156, 7, none⟩ = some (.int .i64 0) := (Kc BK156.out 7).trans rfl; have hcz18_8 : w15.cell? ⟨gb156, 8, none⟩ = some (.int .i64 0) := (Kc BK156.out 8).trans rfl; have hcz18_9 : w15.cell? ⟨gb156, 9, none⟩ = some (.slice none 0 0) := (Kc BK156.out 9).trans rfl; have hfz18_0 := Kz BK156.out 0; have hfz18_1 := Kz BK156.out 1; have hfz18_2 := Kz BK156.out 2; have hfz18_3 := Kz BK156.out 3; have hfz18_4 := Kz BK156.out 4; have hfz18_5 := Kz BK156.out 5; have hfz18_6 := Kz BK156.out 6; have hfz18_7 := Kz BK156.out 7; have hfz18_8 := Kz BK156.out 8; have hfz18_9 := Kz BK156.out 9))
 go_loopg [6] k (fun kq v6 w' => ∃ (x6_1 : Int) (x1001_1 : Int) (x1002_1 : Int) (x157009_1 : List Int) (u157009 : Value), v6 = .int .i64 x6_1 ∧ Ad (spec_l1Cur_row.l0 kq a1 x6_1 s0_0 x1001_1 x1002_1 t140 0 t143 t146 t147 t148 t149 t150 t153 x157009_1 = some (r1, r2, r3, r4, r5, r6, r7, r8, r9, r10, r11, r12)) ∧ Ad (kq ≤ k) ∧ Ad (Kd.R (Kd.int .i64) 3 w' w.heap.size (fun _ => True) u157009 x157009_1) ∧ Ad (w'.heap[gb136]? = some (.cells #[.int .i64 0, .int .i64 0, .int .i64 0, .int .i64 0, .int .i64 0, .int .i64 0, .int .i64 0, .int .i64 0, .int .i64 0, (.slice none 0 0)] 39 (0, 0))) ∧ Ad (w'.heap[gb156]? = some (.cells #[.int .i64 t140, .int .i64 0, .int .i64 t143, .int .i64 t146, .int .i64 t147, .int .i64 t148, .int .i64 t149, .int .i64 t150, .int .i64 t153, u157009] 39 (0, 0))) ∧ Ad (IsS60 w0 w' g s0_0 x1001_1 x1002_1) ∧ Ad (KeepBut w w' g none) ∧ Ad (Below w0.heap.size w0 w'))
 case atStart => exact ⟨(0), (t154), (t155), (([] : List Int)), (.slice none 0 0), (by first | rfl | (simp; done) | (simp [*]; done)), H', ⟨Nat.le_refl _⟩, ⟨by first | exact Kd.R_nil _ _ _ _ _ | exact Kd.N_nil _ _ _ _ _ | exact Kd.V_nil _ _ _ _ _ | exact Kd.Q_nil _ _ _ _ _ | exact Kd.S_nil _ _ _ _ _⟩, ⟨by (with_reducible repeat (first | refine Kn ?_ _ | refine Ke ?_ | refine Ka ?_ _)); refine Kf ?_ NB136_156.out _; (with_reducible repeat (first | refine Kn ?_ _ | refine Ke ?_ | refine Ka ?_ _)); refine Kf ?_ NB136_156.out _; (with_reducible repeat (first | refine Kn ?_ _ | refine Ke ?_ | refine Ka ?_ _)); refine Kf ?_ NB136_156.out _; (with_reducible repeat (first | refine Kn ?_ _ | refine Ke ?_ | refine Ka ?_ _)); refine Kf ?_ NB136_156.out _; (with_reducible repeat (first | refine Kn ?_ _ | refine Ke ?_ | refine Ka ?_ _)); refine Kf ?_ NB136_156.out _; (with_reducible repeat (first | refine Kn ?_ _ | refine Ke ?_ | refine Ka ?_ _)); refine Kf ?_ NB136_156.out _; (with_reducible repeat (first | refine Kn ?_ _ | refine Ke ?_ | refine Ka ?_ _)); refine Kf ?_ NB136_156.out _; (with_reducible repeat (first | refine Kn ?_ _ | refine Ke ?_ | refine Ka ?_ _)); refine Kf ?_ NB136_156.out _; (with_reducible repeat (first | refine Kn ?_ _ | refine Ke ?_ | refine Ka ?_ _)); refine Kf ?_ NB136_156.out _; (with_reducible repeat (first | refine Kn ?_ _ | refine Ke ?_ | refine Ka ?_ _)); refine Kf ?_ NB136_156.out _; (with_reducible repeat (first | refine Kn ?_ _ | refine Ke ?_ | refine Ka ?_ _)); exact BK136.out⟩, ⟨by (with_reducible repeat (first | refine Kn ?_ _ | refine Ke ?_ | refine Ka ?_ _)); refine blk_put (cs := #[.int .i64 t140, .int .i64 0, .int .i64 t143, .int .i64 t146, .int .i64 t147, .int .i64 t148, .int .i64 t149, .int .i64 t150, .int .i64 t153, .slice none 0 0]) ?_ 9 _ rfl; (with_reducible repeat (first | refine Kn ?_ _ | refine Ke ?_ | refine Ka ?_ _)); refine blk_put (cs := #[.int .i64 t140, .int .i64 0, .int .i64 t143, .int .i64 t146, .int .i64 t147, .int .i64 t148, .int .i64 t149, .int .i64 t150, .int .i64 0, .slice none 0 0]) ?_ 8 _ rfl; (with_reducible repeat (first | refine Kn ?_ _ | refine Ke ?_ | refine Ka ?_ _)); refine blk_put (cs := #[.int .i64 t140, .int .i64 0, .int .i64 t143, .int .i64 t146, .int .i64 t147, .int .i64 t148, .int .i64 t149, .int .i64 0, .int .i64 0, .slice none 0 0]) ?_ 7 _ rfl; (with_reducible repeat (first | refine Kn ?_ _ | refine Ke ?_ | refine Ka ?_ _)); refine blk_put (cs := #[.int .i64 t140, .int .i64 0, .int .i64 t143, .int .i64 t146, .int .i64 t147, .int .i64 t148, .int .i64 0, .int .i64 0, .int .i64 0, .slice none 0 0]) ?_ 6 _ rfl; (with_reducible repeat (first | refine Kn ?_ _ | refine Ke ?_ | refine Ka ?_ _)); refine blk_put (cs := #[.int .i64 t140, .int .i64 0, .int .i64 t143, .int .i64 t146, .int .i64 t147, .int .i64 0, .int .i64 0, .int .i64 0, .int .i64 0, .slice none 0 0]) ?_ 5 _ rfl; (with_reducible repeat (first | refine Kn ?_ _ | refine Ke ?_ | refine Ka ?_ _)); refine blk_put (cs := #[.int .i64 t140, .int .i64 0, .int .i64 t143, .int .i64 t146, .int .i64 0, .int .i64 0, .int .i64 0, .int .i64 0, .int .i64 0, .slice none 0 0]) ?_ 4 _ rfl; (with_reducible repeat (first | refine Kn ?_ _ | refine Ke ?_ | refine Ka ?_ _)); refine blk_put (cs := #[.int .i64 t140, .int .i64 0, .int .i64 t143, .int .i64 0, .int .i64 0, .int .i64 0, .int .i64 0, .int .i64 0, .int .i64 0, .slice none 0 0]) ?_ 3 _ rfl; (with_reducible repeat (first | refine Kn ?_ _ | refine Ke ?_ | refine Ka ?_ _)); refine blk_put (cs := #[.int .i64 t140, .int .i64 0, .int .i64 0, .int .i64 0, .int .i64 0, .int .i64 0, .int .i64 0, .int .i64 0, .int .i64 0, .slice none 0 0]) ?_ 2 _ rfl; (with_reducible repeat (first | refine Kn ?_ _ | refine Ke ?_ | refine Ka ?_ _)); refine blk_put (cs := #[.int .i64 t140, .int .i64 0, .int .i64 0, .int .i64 0, .int .i64 0, .int .i64 0, .int .i64 0, .int .i64 0, .int .i64 0, .slice none 0 0]) ?_ 1 _ rfl; (with_reducible repeat (first | refine Kn ?_ _ | refine Ke ?_ | refine Ka ?_ _)); refine blk_put (cs := #[.int .i64 0, .int .i64 0, .int .i64 0, .int .i64 0, .int .i64 0, .int .i64 0, .int .i64 0, .int .i64 0, .int .i64 0, .slice none 0 0]) ?_ 0 _ rfl; (with_reducible repeat (first | refine Kn ?_ _ | refine Ke ?_ | refine Ka ?_ _)); exact BK156.out⟩, ⟨by repeat (first | (with_reducible first | exact HI0.out | apply IsS60.alloc | apply IsS60.drewN | apply IsS60.drew | apply IsS60.set_1 | apply IsS60.set_2 | refine IsS60.far ?_ NB0_136.out _ | refine IsS60.far ?_ NB0_156.out _) | exact HI0.out)⟩, ⟨by repeat (first | (with_reducible first | exact HK.out | apply KeepBut.set_ | apply keep_drewN | apply keep_drew | apply keep_alloc | refine keep_far ?_ GW136.out _ | refine keep_far ?_ GW156.out _) | exact HK.out)⟩, ⟨by repeat (first | (with_reducible first | exact HB.out | apply Ba | apply Bn | apply Bd | refine Bs ?_ (IsS60.ge HI0.out) | refine Bs ?_ GE136.out | refine Bs ?_ GE156.out) | exact HB.out)⟩⟩
 case round =>
  clear H'
  try clear c1
  try clear p2
  try clear c4
  try clear c16
  try clear c17
  try clear hcz18_0
  try clear hcz18_1
  try clear hcz18_2
  try clear hcz18_3
  try clear hcz18_4
  try clear hcz18_5
  try clear hcz18_6
  try clear hcz18_7
  try clear hcz18_8
  try clear hcz18_9
  try clear hfz18_0
  try clear hfz18_1
  try clear hfz18_2
  try clear hfz18_3
  try clear hfz18_4
  try clear hfz18_5
  try clear hfz18_6
  try clear hfz18_7
  try clear hfz18_8
  try clear hfz18_9
  obtain ⟨x6_1, x1001_1, x1002_1, x157009_1, u157009, rfl, HA, HK1, HO_157009, BK136, BK156, HI0, HK, HB⟩ := hrel
  cases gk with
  | zero => exact absurd HA.out (by simp [spec_l1Cur_row.l0])
  | succ k1 =>
   have H := HA.out
   clear HA
   simp only [spec_l1Cur_row.l0] at H
   by_cases c19 : x6_1 < a1
   ·rw [if_pos c19] at H
    have c19b0 : decide (x6_1 < a1) = true := decide_eq_true c19
    clear c19
    replace H := Option.bind_eq_some_iff.mp H
    obtain ⟨⟨t157, t158, t159⟩, A200, H⟩ := H
    replace H : (if x157009_1.length < 17592186044416 then (spec_l1Cur_row.l0 k1 a1 (wrap64 (x6_1 + 1)) s0_0 t158 t159 t140 0 t143 t146 t147 t148 t149 t150 t153 (x157009_1 ++ [t157])) else (none)) = some (r1, r2, r3, r4, r5, r6, r7, r8, r9, r10, r11, r12) := H
    have A20 := Am A200
    clear A200
    by_cases c21 : x157009_1.length < 17592186044416
    ·rw [if_pos c21] at H
     have LMc21 := Am c21
     clear c21
     obtain ⟨y160, hy160⟩ : ∃ y_ : List Int, y_ = (x157009_1 ++ [t157]) := ⟨_, rfl⟩
     replace H : (spec_l1Cur_row.l0 k1 a1 (wrap64 (x6_1 + 1)) s0_0 t158 t159 t140 0 t143 t146 t147 t148 t149 t150 t153 y160) = some (r1, r2, r3, r4, r5, r6, r7, r8, r9, r10, r11, r12) := by first | (rw [hy160]; with_reducible exact H) | (have H2_ := (Option.bind_some _ _).symm.trans H; rw [hy160]; with_reducible exact H2_) | (have H2_ := (Option.bind_some _ _).symm.trans H; with_reducible exact H2_) | with_reducible exact H | (rw [hy160]; exact H) | exact H
     have Ny160 := Am hy160
     clear hy160
     have H' := Am H
     clear H
     try go_wp2
     have n0_ := Am (Rd HO_157009.out)
     have n1_ := Am (Ke BK136.out)
     have n2_ := Am (Ke BK156.out)
     have n3_ := Am (IsS60.drew HI0.out)
     have n4_ := Am (keep_drew HK.out)
     have n5_ := Am (Bd HB.out)
     clear HO_157009
     clear BK136
     clear BK156
     clear HI0
     clear HK
     clear HB
     have HO_157009 := n0_
     have BK136 := n1_
     have BK156 := n2_
     have HI0 := n3_
     have HK := n4_
     have HB := n5_
     clear n0_ n1_ n2_ n3_ n4_ n5_
     refine start_ (n := 10) (S := fun w' => w'.cell? ⟨gb156, 0, none⟩ = some (.int .i64 t140) ∧ w'.cell? ⟨gb156, 1, none⟩ = some (.int .i64 0) ∧ w'.cell? ⟨gb156, 2, none⟩ = some (.int .i64 t143) ∧ w'.cell? ⟨gb156, 3, none⟩ = some (.int .i64 t146) ∧ w'.cell? ⟨gb156, 4, none⟩ = some (.int .i64 t147) ∧ w'.cell? ⟨gb156, 5, none⟩ = some (.int .i64 t148) ∧ w'.cell? ⟨gb156, 6, none⟩ = some (.int .i64 t149) ∧ w'.cell? ⟨gb156, 7, none⟩ = some (.int .i64 t150) ∧ w'.cell? ⟨gb156, 8, none⟩ = some (.int .i64 t153) ∧ w'.cell? ⟨gb156, 9, none⟩ = some (u157009)) (ds := [9]) #[false, false, false, false, false, false, false, false, false, false] (by kernel_rfl) rfl rfl ⟨(Kc BK156.out 0).trans rfl, (Kc BK156.out 1).trans rfl, (Kc BK156.out 2).trans rfl, (Kc BK156.out 3).trans rfl, (Kc BK156.out 4).trans rfl, (Kc BK156.out 5).trans rfl, (Kc BK156.out 6).trans rfl, (Kc BK156.out 7).trans rfl, (Kc BK156.out 8).trans rfl, (Kc BK156.out 9).trans rfl⟩ (fun hHeld => ?_); refine with_tabW spec_l1Cur_row.tab5 spec_l1Cur_row.bits5 (fun HT_ HW_ => ?_)
     generalize wr.drew = w22 at HO_157009 BK136 BK156 HI0 HK HB hHeld ⊢
     refine pure_ (i := 0) (N := some 23) (v := ?_) (a' := ?_) #[true, false, false, false, false, false, false, false, false, false] rfl rfl (any_of HT_.out (by kernel_rfl)) (fun _ _ _ h => h) (Or.inl ⟨by rfl, ?_⟩) ?_ ?_
     rotate_left
     ·intro w'
      go_simp
      with_reducible rfl
     rotate_left
     ·simp only [Act.put, Lt, Lz, Ls, i64_w, i32_w]
      rfl
     refine pure_ (i := 1) (N := some 24) (v := ?_) (a' := ?_) #[true, true, false, false, false, false, false, false, false, false] rfl rfl (any_of HT_.out (by kernel_rfl)) (fun _ _ _ h => h) (Or.inl ⟨by rfl, ?_⟩) ?_ ?_
     rotate_left
     ·intro w'
      go_simp
      with_reducible rfl
     rotate_left
     ·simp only [Act.put, Lt, Lz, Ls, i64_w, i32_w]
      rfl
     refine pure_ (i := 3) (N := some 26) (v := ?_) (a' := ?_) #[true, true, false, true, false, false, false, false, false, false] rfl rfl (any_of HT_.out (by kernel_rfl)) (fun _ _ _ h => h) (Or.inl ⟨by rfl, ?_⟩) ?_ ?_
     rotate_left
     ·intro w'
      go_simp
      with_reducible rfl
     rotate_left
     ·simp only [Act.put, Lt, Lz, Ls, i64_w, i32_w]
      rfl
     refine take_ (i := 2) (N := some 25) (v := ?_) (a' := ?_) #[true, true, true, true, false, false, false, false, false, false] rfl rfl (take_ofW HT_.out HW_.out (by kernel_rfl)) (fun _ _ _ h => h) (Or.inl ⟨by rfl, ?_⟩) hHeld ?_ ?_
     rotate_left
     ·rintro w' ⟨s0, s1, s2, s3, s4, s5, s6, s7, s8, s9⟩
      go_simp
      with_reducible rfl
     rotate_left
     ·simp only [Act.put, Lt, Lz, Ls, i64_w, i32_w]
      rfl
     refine one_ (i := 4) (N := some 27) #[true, true, true, true, true, false, false, false, false, false] rfl rfl (one_of HT_.out (by kernel_rfl)) (by decide) (fun K hK => ?_)
     refine goes_ Try.func44 (by kernel_rfl) rfl #[.pointer (some ⟨g, 0, none⟩), .int .i64 3] (by rfl) rfl rfl (by first | rfl | (simp only [List.map_toArray, List.map_cons, List.map_nil]; first | done | rfl)) ?_
     with_reducible refine (spec_l1Cur_pick.calls g s0_0 x1001_1 x1002_1 3 t157 t158 t159 w0 _ ?side1 ?side2 A20.out).mono ?_
     (case side1 => repeat (first | (with_reducible first | exact HI0.out | apply IsS60.alloc | apply IsS60.drewN | apply IsS60.drew | apply IsS60.set_1 | apply IsS60.set_2 | refine IsS60.far ?_ NB0_136.out _ | refine IsS60.far ?_ NB0_156.out _) | exact HI0.out))
     (case side2 => repeat (first | (with_reducible first | exact HB.out | apply Ba | apply Bn | apply Bd | refine Bs ?_ (IsS60.ge HI0.out) | refine Bs ?_ GE136.out | refine Bs ?_ GE156.out) | exact HB.out))
     rintro e w23 ⟨rfl, hi, hb, hk⟩
     refine ⟨_, rfl, ?_⟩
     have n0_ := Am (Kd.R_mono (Kd.R_keep (IsS60.apart (show IsS60 w0 _ g s0_0 x1001_1 x1002_1 from by repeat (first | (with_reducible first | exact HI0.out | apply IsS60.alloc | apply IsS60.drewN | apply IsS60.drew | apply IsS60.set_1 | apply IsS60.set_2 | refine IsS60.far ?_ NB0_136.out _ | refine IsS60.far ?_ NB0_156.out _) | exact HI0.out)) (by (with_reducible repeat (first | apply Ra | apply Rn | apply Rd)); exact HO_157009.out) (by decide)) hk (fun _ h => h.2)) (fun _ h => h.1))
     have n1_ := Am (KeepBut.blk hk (g' := gb136) (o := .cells #[.int .i64 0, .int .i64 0, .int .i64 0, .int .i64 0, .int .i64 0, .int .i64 0, .int .i64 0, .int .i64 0, .int .i64 0, .slice none 0 0] 39 (0, 0)) (by (with_reducible repeat (first | refine Kn ?_ _ | refine Ke ?_ | refine Ka ?_ _)); exact BK136.out) NB136_0.out (by simp))
     have n2_ := Am (KeepBut.blk hk (g' := gb156) (o := .cells #[.int .i64 t140, .int .i64 0, .int .i64 t143, .int .i64 t146, .int .i64 t147, .int .i64 t148, .int .i64 t149, .int .i64 t150, .int .i64 t153, u157009] 39 (0, 0)) (by (with_reducible repeat (first | refine Kn ?_ _ | refine Ke ?_ | refine Ka ?_ _)); exact BK156.out) NB156_0.out (by simp))
     have n3_ := Am (KeepBut.trans (by repeat (first | (with_reducible first | exact HK.out | apply KeepBut.set_ | apply keep_drewN | apply keep_drew | apply keep_alloc | refine keep_far ?_ GW136.out _ | refine keep_far ?_ GW156.out _) | exact HK.out)) hk (.inl rfl))
     have n4_ := Am (hb)
     have n5_ := Am (hi)
     clear HO_157009
     clear BK136
     clear BK156
     clear HK
     clear HB
     clear HI0
     have HO_157009 := n0_
     have BK136 := n1_
     have BK156 := n2_
     have HK := n3_
     have HB := n4_
     have HI0 := n5_
     clear n0_ n1_ n2_ n3_ n4_ n5_
     (try clear hb)
     (try clear hb2)
     (try clear hk)
     (try clear hi)
     refine hK.out _ _ ⟨(Kc BK156.out 0).trans rfl, (Kc BK156.out 1).trans rfl, (Kc BK156.out 2).trans rfl, (Kc BK156.out 3).trans rfl, (Kc BK156.out 4).trans rfl, (Kc BK156.out 5).trans rfl, (Kc BK156.out 6).trans rfl, (Kc BK156.out 7).trans rfl, (Kc BK156.out 8).trans rfl, (Kc BK156.out 9).trans rfl⟩ (fun hHeld => ?_)
     clear hK K
     refine norm_ (a' := ?_) ?_ ?_
     rotate_left
     ·show Act.put _ (some 27) _ = _
      simp only [Act.put, Lt, Lz, Ls, i64_w, i32_w]
      rfl
     refine one_ (i := 5) (N := some 28) #[true, true, true, true, true, true, false, false, false, false] rfl rfl (one_of HT_.out (by kernel_rfl)) (by decide) (fun K hK => ?_)
     refine value_ (w1 := ?_) (v := ?_) (by rfl) rfl ?_ ?_
     rotate_left 2
     ·go_simp
      constructor
      ·rfl
      ·rfl
     refine hK.out _ _ ⟨(Kc (Ka BK156.out _) 0).trans rfl, (Kc (Ka BK156.out _) 1).trans rfl, (Kc (Ka BK156.out _) 2).trans rfl, (Kc (Ka BK156.out _) 3).trans rfl, (Kc (Ka BK156.out _) 4).trans rfl, (Kc (Ka BK156.out _) 5).trans rfl, (Kc (Ka BK156.out _) 6).trans rfl, (Kc (Ka BK156.out _) 7).trans rfl, (Kc (Ka BK156.out _) 8).trans rfl, (Kc (Ka BK156.out _) 9).trans rfl⟩ (fun hHeld => ?_)
     clear hK K
     refine norm_ (a' := ?_) ?_ ?_
     rotate_left
     ·show Act.put _ (some 28) _ = _
      simp only [Act.put, Lt, Lz, Ls, i64_w, i32_w]
      rfl
     refine one_ (i := 6) (N := some 29) #[true, true, true, true, true, true, true, false, false, false] rfl rfl (one_of HT_.out (by kernel_rfl)) (by decide) (fun K hK => ?_)
     refine Kd.R_append_step (Kd.int .i64) w.heap.size (by rfl) (.tmp 25) (.tmp 28) 31 3 (.int .i64 0) 8 rfl Try.underlying31 info3 rfl (by decide) (by omega) u157009 x157009_1 t157 [.int .i64 t157] (fun _ => True) (fun _ => False) rfl rfl ?aP (fun _ hk => hk.elim) ?aF ?aO (Below.refl _ _) ?aS ?aL ?_
     (case aP => exact rfl)
     (case aF => exact (fun _ _ => trivial))
     (case aO => exact (by (with_reducible repeat (first | apply Ra | apply Rn | apply Rd)); exact HO_157009.out))
     (case aS => exact (keep_size (w := w) (g := g) (row := none) (by repeat (first | (with_reducible first | exact HK.out | apply KeepBut.set_ | apply keep_drewN | apply keep_drew | apply keep_alloc | refine keep_far ?_ GW136.out _ | refine keep_far ?_ GW156.out _) | exact HK.out))))
     (case aL => have := LMc21.out; omega)
     intro v161 w24 ho hb hg hat
     rw [← Ny160.out] at ho
     have n0_ := Am (blk_grown (g := gb136) (o := .cells #[.int .i64 0, .int .i64 0, .int .i64 0, .int .i64 0, .int .i64 0, .int .i64 0, .int .i64 0, .int .i64 0, .int .i64 0, .slice none 0 0] 39 (0, 0)) (by (with_reducible repeat (first | refine Kn ?_ _ | refine Ke ?_ | refine Ka ?_ _)); exact BK136.out) hg (Kd.R_ne HO_157009.out BK136.out (by decide)))
     have n1_ := Am (blk_grown (g := gb156) (o := .cells #[.int .i64 t140, .int .i64 0, .int .i64 t143, .int .i64 t146, .int .i64 t147, .int .i64 t148, .int .i64 t149, .int .i64 t150, .int .i64 t153, u157009] 39 (0, 0)) (by (with_reducible repeat (first | refine Kn ?_ _ | refine Ke ?_ | refine Ka ?_ _)); exact BK156.out) hg (Kd.R_ne HO_157009.out BK156.out (by decide)))
     have n2_ := Am (IsS60.grown (by repeat (first | (with_reducible first | exact HI0.out | apply IsS60.alloc | apply IsS60.drewN | apply IsS60.drew | apply IsS60.set_1 | apply IsS60.set_2 | refine IsS60.far ?_ NB0_136.out _ | refine IsS60.far ?_ NB0_156.out _) | exact HI0.out)) hg (IsS60.own_ne HI0.out HO_157009.out (by decide)))
     have n3_ := Am (below_weaken (by repeat (first | (with_reducible first | exact HB.out | apply Ba | apply Bn | apply Bd | refine Bs ?_ (IsS60.ge HI0.out) | refine Bs ?_ GE136.out | refine Bs ?_ GE156.out) | exact HB.out)) HL.out hb)
     have n4_ := Am (KeepBut.trans (by repeat (first | (with_reducible first | exact HK.out | apply KeepBut.set_ | apply keep_drewN | apply keep_drew | apply keep_alloc | refine keep_far ?_ GW136.out _ | refine keep_far ?_ GW156.out _) | exact HK.out)) (KeepBut.of_grown hg g) (Kd.R_base2 HO_157009.out))
     have n5_ := Am (ho)
     clear BK136
     clear BK156
     clear HI0
     clear HB
     clear HK
     clear HO_157009
     have BK136 := n0_
     have BK156 := n1_
     have HI0 := n2_
     have HB := n3_
     have HK := n4_
     have HO162 := n5_
     clear n0_ n1_ n2_ n3_ n4_ n5_
     clear ho hb hg hat
     obtain ⟨Ao25, co25, eo25⟩ := Kd.R_slice HO162.out
     (first | subst eo25 | (injection eo25 with f1_ f2_ f3_; have f4_ := f1_.symm; have f5_ := f3_.symm; clear f1_ f2_ f3_; subst f4_; subst f5_))
     refine hK.out _ _ ⟨(Kc BK156.out 0).trans rfl, (Kc BK156.out 1).trans rfl, (Kc BK156.out 2).trans rfl, (Kc BK156.out 3).trans rfl, (Kc BK156.out 4).trans rfl, (Kc BK156.out 5).trans rfl, (Kc BK156.out 6).trans rfl, (Kc BK156.out 7).trans rfl, (Kc BK156.out 8).trans rfl, (Kc BK156.out 9).trans rfl⟩ (fun hHeld => ?_)
     clear hK K
     refine norm_ (a' := ?_) ?_ ?_
     rotate_left
     ·show Act.put _ (some 29) _ = _
      simp only [Act.put, Lt, Lz, Ls, i64_w, i32_w]
      rfl
     refine pure_ (i := 7) (N := some 30) (v := ?_) (a' := ?_) #[true, true, true, true, true, true, true, true, false, false] rfl rfl (any_of HT_.out (by kernel_rfl)) (fun _ _ _ h => h) (Or.inl ⟨by rfl, ?_⟩) ?_ ?_
     rotate_left
     ·intro w'
      go_simp
      with_reducible rfl
     rotate_left
     ·simp only [Act.put, Lt, Lz, Ls, i64_w, i32_w]
      rfl
     refine pure_ (i := 8) (N := some 31) (v := ?_) (a' := ?_) #[true, true, true, true, true, true, true, true, true, false] rfl rfl (any_of HT_.out (by kernel_rfl)) (fun _ _ _ h => h) (Or.inl ⟨by rfl, ?_⟩) ?_ ?_
     rotate_left
     ·intro w'
      go_simp
      with_reducible rfl
     rotate_left
     ·simp only [Act.put, Lt, Lz, Ls, i64_w, i32_w]
      rfl
     refine last_ (i := 9) (N := none) #[true, true, true, true, true, true, true, true, true, true] rfl rfl (one_of HT_.out (by kernel_rfl)) (by decide) (fun K hK => ?_)
     have hs26 : w24.cell? ⟨gb156, 9, none⟩ = some (u157009) := (Kc BK156.out 9).trans rfl
     have hfs26 := Kz BK156.out 9
     have hns26_0 := NB136_156.out
     have hms26_0 := NB156_136.out
     refine skip_ (w1 := ?_) (by rfl) rfl ?_ ?_
     rotate_left
     ·go_simp
      rfl
     refine hK.out _ _ ?_
     clear hK K
     refine done_ (done_of HT_.out (by kernel_rfl)) ?_
     try go_wp2
     go_roundg k1
     case measure => have := HK1.out; omega
     case rel => exact ⟨(wrap64 (x6_1 + 1)), (t158), (t159), (y160), (.slice Ao25 y160.length co25), (by first | rfl | (simp; done) | (simp [*]; done)), H', ⟨by have := HK1.out; omega⟩, ⟨by (with_reducible repeat (first | apply Ra | apply Rn | apply Rd)); exact Kd.R_mono (Kd.R_far (p := ⟨gb156, 9, none⟩) (Kd.R_types HO162.out BK156.out (by decide)) (fun _ hk => hk.2) (.slice Ao25 y160.length co25)) (fun _ hk => trivial)⟩, ⟨by (with_reducible repeat (first | refine Kn ?_ _ | refine Ke ?_ | refine Ka ?_ _)); refine Kf ?_ NB136_156.out _; (with_reducible repeat (first | refine Kn ?_ _ | refine Ke ?_ | refine Ka ?_ _)); exact BK136.out⟩, ⟨by (with_reducible repeat (first | refine Kn ?_ _ | refine Ke ?_ | refine Ka ?_ _)); refine blk_put (cs := #[.int .i64 t140, .int .i64 0, .int .i64 t143, .int .i64 t146, .int .i64 t147, .int .i64 t148, .int .i64 t149, .int .i64 t150, .int .i64 t153, u157009]) ?_ 9 _ rfl; (with_reducible repeat (first | refine Kn ?_ _ | refine Ke ?_ | refine Ka ?_ _)); exact BK156.out⟩, ⟨by repeat (first | (with_reducible first | exact HI0.out | apply IsS60.alloc | apply IsS60.drewN | apply IsS60.drew | apply IsS60.set_1 | apply IsS60.set_2 | refine IsS60.far ?_ NB0_136.out _ | refine IsS60.far ?_ NB0_156.out _) | exact HI0.out)⟩, ⟨by repeat (first | (with_reducible first | exact HK.out | apply KeepBut.set_ | apply keep_drewN | apply keep_drew | apply keep_alloc | refine keep_far ?_ GW136.out _ | refine keep_far ?_ GW156.out _) | exact HK.out)⟩, ⟨by repeat (first | (with_reducible first | exact HB.out | apply Ba | apply Bn | apply Bd | refine Bs ?_ (IsS60.ge HI0.out) | refine Bs ?_ GE136.out | refine Bs ?_ GE156.out) | exact HB.out)⟩⟩
    ·rw [if_neg c21] at H
     exact absurd H (by simp)
   ·rw [if_neg c19] at H
    have c19b0 : decide (x6_1 < a1) = false := decide_eq_false c19
    clear c19
    replace H := Option.bind_eq_some_iff.mp H
    obtain ⟨⟨t163, t164, t165⟩, A270, H⟩ := H
    replace H : (if t163 = true then (if t143 = 0 then ((spec_l3None.f a1).bind fun bt166 => (some (t140, 0, 0, 0, 0, 0, 0, 0, bt166.1, bt166.2, t164, t165))) else (some (t140, t140, t143, t146, t147, t148, t149, t150, t153, x157009_1, t164, t165))) else (if t143 = 0 then ((spec_l3None.f a1).bind fun bt170 => (some (t140, 0, 0, 0, 0, 0, 0, 0, bt170.1, bt170.2, t164, t165))) else (some (t140, 0, t143, t146, t147, t148, t149, t150, t153, x157009_1, t164, t165)))) = some (r1, r2, r3, r4, r5, r6, r7, r8, r9, r10, r11, r12) := H
    have A27 := Am A270
    clear A270
    by_cases c28 : t163 = true
    ·subst c28
     have H1 : (if t143 = 0 then ((spec_l3None.f a1).bind fun bt166 => (some (t140, 0, 0, 0, 0, 0, 0, 0, bt166.1, bt166.2, t164, t165))) else (some (t140, t140, t143, t146, t147, t148, t149, t150, t153, x157009_1, t164, t165))) = some (r1, r2, r3, r4, r5, r6, r7, r8, r9, r10, r11, r12) := by rw [if_pos rfl] at H; exact H
     clear H
     have H := H1
     clear H1
     by_cases c29 : t143 = 0
     ·rw [if_pos c29] at H
      have c29b0 : (t143 == 0) = true := beq_iff_eq.mpr c29
      have c29b1 : (t143 != 0) = false := bne_eq_false_iff_eq.mpr c29
      clear c29
      replace H := Option.bind_eq_some_iff.mp H
      obtain ⟨⟨t166, t167⟩, A300, H⟩ := H
      replace H : (some (t140, 0, 0, 0, 0, 0, 0, 0, t166, t167, t164, t165)) = some (r1, r2, r3, r4, r5, r6, r7, r8, r9, r10, r11, r12) := H
      have A30 := Am A300
      clear A300
      simp only [Option.some.injEq, Prod.mk.injEq] at H
      obtain ⟨rfl, rfl, rfl, rfl, rfl, rfl, rfl, rfl, rfl, rfl, rfl, rfl⟩ := H
      try go_wp2_with (first | ((refine Gc (f := 84) rfl ?_); refine goesL_ (some 33) rfl rfl Try.func84 (by kernel_rfl) rfl #[.pointer (some ⟨g, 0, none⟩), .int .i64 2] rfl (by first | rfl | (simp only [List.map_toArray, List.map_cons, List.map_nil]; first | done | rfl)) ?_; (with_reducible refine (spec_l1Cur_one.calls g s0_0 x1001_1 x1002_1 2 true t164 t165 w0 _ ?side1 ?side2 A27.out).mono ?_); (case side1 => repeat (first | (with_reducible first | exact HI0.out | apply IsS60.alloc | apply IsS60.drewN | apply IsS60.drew | apply IsS60.set_1 | apply IsS60.set_2 | refine IsS60.far ?_ NB0_136.out _ | refine IsS60.far ?_ NB0_156.out _) | exact HI0.out)); (case side2 => repeat (first | (with_reducible first | exact HB.out | apply Ba | apply Bn | apply Bd | refine Bs ?_ (IsS60.ge HI0.out) | refine Bs ?_ GE136.out | refine Bs ?_ GE156.out) | exact HB.out)); rintro e w31 ⟨rfl, hi, hb, hk⟩; refine ⟨_, rfl, ?_⟩; have n0_ := Am (Kd.R_mono (Kd.R_keep (IsS60.apart (show IsS60 w0 _ g s0_0 x1001_1 x1002_1 from by repeat (first | (with_reducible first | exact HI0.out | apply IsS60.alloc | apply IsS60.drewN | apply IsS60.drew | apply IsS60.set_1 | apply IsS60.set_2 | refine IsS60.far ?_ NB0_136.out _ | refine IsS60.far ?_ NB0_156.out _) | exact HI0.out)) (by (with_reducible repeat (first | apply Ra | apply Rn | apply Rd)); exact HO_157009.out) (by decide)) hk (fun _ h => h.2)) (fun _ h => h.1)); have n1_ := Am (KeepBut.blk hk (g' := gb136) (o := .cells #[.int .i64 0, .int .i64 0, .int .i64 0, .int .i64 0, .int .i64 0, .int .i64 0, .int .i64 0, .int .i64 0, .int .i64 0, .slice none 0 0] 39 (0, 0)) (by (with_reducible repeat (first | refine Kn ?_ _ | refine Ke ?_ | refine Ka ?_ _)); exact BK136.out) NB136_0.out (by simp)); have n2_ := Am (KeepBut.blk hk (g' := gb156) (o := .cells #[.int .i64 t140, .int .i64 0, .int .i64 t143, .int .i64 t146, .int .i64 t147, .int .i64 t148, .int .i64 t149, .int .i64 t150, .int .i64 t153, u157009] 39 (0, 0)) (by (with_reducible repeat (first | refine Kn ?_ _ | refine Ke ?_ | refine Ka ?_ _)); exact BK156.out) NB156_0.out (by simp)); have n3_ := Am (KeepBut.trans (by repeat (first | (with_reducible first | exact HK.out | apply KeepBut.set_ | apply keep_drewN | apply keep_drew | apply keep_alloc | refine keep_far ?_ GW136.out _ | refine keep_far ?_ GW156.out _) | exact HK.out)) hk (.inl rfl)); have n4_ := Am (hb); have n5_ := Am (hi); clear HO_157009; clear BK136; clear BK156; clear HK; clear HB; clear HI0; have HO_157009 := n0_; have BK136 := n1_; have BK156 := n2_; have HK := n3_; have HB := n4_; have HI0 := n5_; clear n0_ n1_ n2_ n3_ n4_ n5_; (try clear hb); (try clear hb2); (try clear hk); (try clear hi); have hnb32 := NB156_136.out; have hnc32 := NB136_156.out; have hnb33 := NB156_0.out; have hnc33 := NB0_156.out; have hcz34_0 : w31.cell? ⟨gb156, 0, none⟩ = some (.int .i64 t140) := (Kc BK156.out 0).trans rfl; have hcz34_1 : w31.cell? ⟨gb156, 1, none⟩ = some (.int .i64 0) := (Kc BK156.out 1).trans rfl; have hcz34_2 : w31.cell? ⟨gb156, 2, none⟩ = some (.int .i64 t143) := (Kc BK156.out 2).trans rfl; have hcz34_3 : w31.cell? ⟨gb156, 3, none⟩ = some (.int .i64 t146) := (Kc BK156.out 3).trans rfl; have hcz34_4 : w31.cell? ⟨gb156, 4, none⟩ = some (.int .i64 t147) := (Kc BK156.out 4).trans rfl; have hcz34_5 : w31.cell? ⟨gb156, 5, none⟩ = some (.int .i64 t148) := (Kc BK156.out 5).trans rfl; have hcz34_6 : w31.cell? ⟨gb156, 6, none⟩ = some (.int .i64 t149) := (Kc BK156.out 6).trans rfl; have hcz34_7 : w31.cell? ⟨gb156, 7, none⟩ = some (.int .i64 t150) := (Kc BK156.out 7).trans rfl; have hcz34_8 : w31.cell? ⟨gb156, 8, none⟩ = some (.int .i64 t153) := (Kc BK156.out 8).trans rfl; have hcz34_9 : w31.cell? ⟨gb156, 9, none⟩ = some (u157009) := (Kc BK156.out 9).trans rfl; have hfz34_0 := Kz BK156.out 0; have hfz34_1 := Kz BK156.out 1; have hfz34_2 := Kz BK156.out 2; have hfz34_3 := Kz BK156.out 3; have hfz34_4 := Kz BK156.out 4; have hfz34_5 := Kz BK156.out 5; have hfz34_6 := Kz BK156.out 6; have hfz34_7 := Kz BK156.out 7; have hfz34_8 := Kz BK156.out 8; have hfz34_9 := Kz BK156.out 9))
      have n0_ : Ad (Kd.R (Kd.int .i64) 3 (w31.setCell ⟨gb156, 1, none⟩ (.int .i64 t140)) w.heap.size (fun _ => True) u157009 x157009_1) := ⟨by (with_reducible repeat (first | apply Ra | apply Rn | apply Rd)); exact Kd.R_mono (Kd.R_far (p := ⟨gb156, 1, none⟩) (Kd.R_types HO_157009.out BK156.out (by decide)) (fun _ hk => hk.2) (.int .i64 t140)) (fun _ hk => trivial)⟩
      have n1_ : Ad ((w31.setCell ⟨gb156, 1, none⟩ (.int .i64 t140)).heap[gb136]? = some (.cells #[.int .i64 0, .int .i64 0, .int .i64 0, .int .i64 0, .int .i64 0, .int .i64 0, .int .i64 0, .int .i64 0, .int .i64 0, .slice none 0 0] 39 (0, 0))) := ⟨by (with_reducible repeat (first | refine Kn ?_ _ | refine Ke ?_ | refine Ka ?_ _)); refine Kf ?_ NB136_156.out _; (with_reducible repeat (first | refine Kn ?_ _ | refine Ke ?_ | refine Ka ?_ _)); exact BK136.out⟩
      have n2_ : Ad ((w31.setCell ⟨gb156, 1, none⟩ (.int .i64 t140)).heap[gb156]? = some (.cells #[.int .i64 t140, .int .i64 t140, .int .i64 t143, .int .i64 t146, .int .i64 t147, .int .i64 t148, .int .i64 t149, .int .i64 t150, .int .i64 t153, u157009] 39 (0, 0))) := ⟨by (with_reducible repeat (first | refine Kn ?_ _ | refine Ke ?_ | refine Ka ?_ _)); refine blk_put (cs := #[.int .i64 t140, .int .i64 0, .int .i64 t143, .int .i64 t146, .int .i64 t147, .int .i64 t148, .int .i64 t149, .int .i64 t150, .int .i64 t153, u157009]) ?_ 1 _ rfl; (with_reducible repeat (first | refine Kn ?_ _ | refine Ke ?_ | refine Ka ?_ _)); exact BK156.out⟩
      have n3_ : Ad (IsS60 w0 (w31.setCell ⟨gb156, 1, none⟩ (.int .i64 t140)) g s0_0 t164 t165) := ⟨by repeat (first | (with_reducible first | exact HI0.out | apply IsS60.alloc | apply IsS60.drewN | apply IsS60.drew | apply IsS60.set_1 | apply IsS60.set_2 | refine IsS60.far ?_ NB0_136.out _ | refine IsS60.far ?_ NB0_156.out _) | exact HI0.out)⟩
      have n4_ : Ad (KeepBut w (w31.setCell ⟨gb156, 1, none⟩ (.int .i64 t140)) g none) := ⟨by repeat (first | (with_reducible first | exact HK.out | apply KeepBut.set_ | apply keep_drewN | apply keep_drew | apply keep_alloc | refine keep_far ?_ GW136.out _ | refine keep_far ?_ GW156.out _) | exact HK.out)⟩
      have n5_ : Ad (Below w0.heap.size w0 (w31.setCell ⟨gb156, 1, none⟩ (.int .i64 t140))) := ⟨by repeat (first | (with_reducible first | exact HB.out | apply Ba | apply Bn | apply Bd | refine Bs ?_ (IsS60.ge HI0.out) | refine Bs ?_ GE136.out | refine Bs ?_ GE156.out) | exact HB.out)⟩
      (try clear HO_157009)
      (try clear BK136)
      (try clear BK156)
      (try clear HI0)
      (try clear HK)
      (try clear HB)
      generalize (w31.setCell ⟨gb156, 1, none⟩ (.int .i64 t140)) = w35 at n0_ n1_ n2_ n3_ n4_ n5_ ⊢
      have HO_157009 := n0_
      have BK136 := n1_
      have BK156 := n2_
      have HI0 := n3_
      have HK := n4_
      have HB := n5_
      clear n0_ n1_ n2_ n3_ n4_ n5_
      have n0_ := Am (Rd HO_157009.out)
      have n1_ := Am (Ke BK136.out)
      have n2_ := Am (Ke BK156.out)
      have n3_ := Am (IsS60.drew HI0.out)
      have n4_ := Am (keep_drew HK.out)
      have n5_ := Am (Bd HB.out)
      clear HO_157009
      clear BK136
      clear BK156
      clear HI0
      clear HK
      clear HB
      have HO_157009 := n0_
      have BK136 := n1_
      have BK156 := n2_
      have HI0 := n3_
      have HK := n4_
      have HB := n5_
      clear n0_ n1_ n2_ n3_ n4_ n5_
      refine start_ (n := 6) (S := fun w' => w'.cell? ⟨gb156, 0, none⟩ = some (.int .i64 t140) ∧ w'.cell? ⟨gb156, 1, none⟩ = some (.int .i64 t140) ∧ w'.cell? ⟨gb156, 2, none⟩ = some (.int .i64 t143) ∧ w'.cell? ⟨gb156, 3, none⟩ = some (.int .i64 t146) ∧ w'.cell? ⟨gb156, 4, none⟩ = some (.int .i64 t147) ∧ w'.cell? ⟨gb156, 5, none⟩ = some (.int .i64 t148) ∧ w'.cell? ⟨gb156, 6, none⟩ = some (.int .i64 t149) ∧ w'.cell? ⟨gb156, 7, none⟩ = some (.int .i64 t150) ∧ w'.cell? ⟨gb156, 8, none⟩ = some (.int .i64 t153) ∧ w'.cell? ⟨gb156, 9, none⟩ = some (u157009)) (ds := [5]) #[false, false, false, false, false, false] (by kernel_rfl) rfl rfl ⟨(Kc BK156.out 0).trans rfl, (Kc BK156.out 1).trans rfl, (Kc BK156.out 2).trans rfl, (Kc BK156.out 3).trans rfl, (Kc BK156.out 4).trans rfl, (Kc BK156.out 5).trans rfl, (Kc BK156.out 6).trans rfl, (Kc BK156.out 7).trans rfl, (Kc BK156.out 8).trans rfl, (Kc BK156.out 9).trans rfl⟩ (fun hHeld => ?_)
      generalize w35.drew = w36 at HO_157009 BK136 BK156 HI0 HK HB hHeld ⊢
      refine pure_ (i := 0) (N := some 40) (v := ?_) (a' := ?_) #[true, false, false, false, false, false] rfl rfl (by kernel_rfl) (fun _ _ _ h => h) (Or.inl ⟨by rfl, ?_⟩) ?_ ?_
      rotate_left
      ·intro w'
       go_simp
       with_reducible rfl
      rotate_left
      ·simp only [Act.put, Lt, Lz, Ls, i64_w, i32_w]
       rfl
      refine pure_ (i := 2) (N := some 42) (v := ?_) (a' := ?_) #[true, false, true, false, false, false] rfl rfl (by kernel_rfl) (fun _ _ _ h => h) (Or.inl ⟨by rfl, ?_⟩) ?_ ?_
      rotate_left
      ·intro w'
       go_simp
       with_reducible rfl
      rotate_left
      ·simp only [Act.put, Lt, Lz, Ls, i64_w, i32_w]
       rfl
      refine take_ (i := 1) (N := some 41) (v := ?_) (a' := ?_) #[true, true, true, false, false, false] rfl rfl (by kernel_rfl) (fun _ _ _ h => h) (Or.inl ⟨by rfl, ?_⟩) hHeld ?_ ?_
      rotate_left
      ·rintro w' ⟨s0, s1, s2, s3, s4, s5, s6, s7, s8, s9⟩
       go_simp
       with_reducible rfl
      rotate_left
      ·simp only [Act.put, Lt, Lz, Ls, i64_w, i32_w]
       rfl
      refine one_ (i := 3) (N := some 43) #[true, true, true, true, false, false] rfl rfl (by kernel_rfl) (by decide) (fun K hK => ?_)
      refine goes_ Try.func59 (by kernel_rfl) rfl #[.int .i64 a1] (by rfl) rfl rfl (by first | rfl | (simp only [List.map_toArray, List.map_cons, List.map_nil]; first | done | rfl)) ?_
      with_reducible refine (spec_l3None.calls a1 t166 t167 _ A30.out).mono ?_
      rintro e w37 ⟨v168, rfl, ho0, hb⟩
      refine ⟨_, rfl, ?_⟩
      have n0_ := Am (Kd.R_elder' (by (with_reducible repeat (first | apply Ra | apply Rn | apply Rd)); exact HO_157009.out) (Kd.R_base ho0) hb)
      have n1_ := Am (Kd.R_lower (Kd.R_new' ho0 (Kd.R_lt (by (with_reducible repeat (first | apply Ra | apply Rn | apply Rd)); exact HO_157009.out))) (keep_size (w := w) (g := g) (row := none) (by repeat (first | (with_reducible first | exact HK.out | apply KeepBut.set_ | apply keep_drewN | apply keep_drew | apply keep_alloc | refine keep_far ?_ GW136.out _ | refine keep_far ?_ GW156.out _) | exact HK.out))))
      have n2_ := Am (Kb (g := gb136) (o := .cells #[.int .i64 0, .int .i64 0, .int .i64 0, .int .i64 0, .int .i64 0, .int .i64 0, .int .i64 0, .int .i64 0, .int .i64 0, .slice none 0 0] 39 (0, 0)) (by (with_reducible repeat (first | refine Kn ?_ _ | refine Ke ?_ | refine Ka ?_ _)); exact BK136.out) hb)
      have n3_ := Am (Kb (g := gb156) (o := .cells #[.int .i64 t140, .int .i64 t140, .int .i64 t143, .int .i64 t146, .int .i64 t147, .int .i64 t148, .int .i64 t149, .int .i64 t150, .int .i64 t153, u157009] 39 (0, 0)) (by (with_reducible repeat (first | refine Kn ?_ _ | refine Ke ?_ | refine Ka ?_ _)); exact BK156.out) hb)
      have n4_ := Am (IsS60.below (by repeat (first | (with_reducible first | exact HI0.out | apply IsS60.alloc | apply IsS60.drewN | apply IsS60.drew | apply IsS60.set_1 | apply IsS60.set_2 | refine IsS60.far ?_ NB0_136.out _ | refine IsS60.far ?_ NB0_156.out _) | exact HI0.out)) hb)
      have n5_ := Am (KeepBut.trans (by repeat (first | (with_reducible first | exact HK.out | apply KeepBut.set_ | apply keep_drewN | apply keep_drew | apply keep_alloc | refine keep_far ?_ GW136.out _ | refine keep_far ?_ GW156.out _) | exact HK.out)) (KeepBut.of_below hb g none) (.inl rfl))
      have n6_ := Am (Bt (by repeat (first | (with_reducible first | exact HB.out | apply Ba | apply Bn | apply Bd | refine Bs ?_ (IsS60.ge HI0.out) | refine Bs ?_ GE136.out | refine Bs ?_ GE156.out) | exact HB.out)) hb)
      clear HO_157009
      clear BK136
      clear BK156
      clear HI0
      clear HK
      clear HB
      have HO_157009 := n0_
      have HO169 := n1_
      have BK136 := n2_
      have BK156 := n3_
      have HI0 := n4_
      have HK := n5_
      have HB := n6_
      clear n0_ n1_ n2_ n3_ n4_ n5_ n6_
      (try clear hb)
      (try clear hb2)
      (try clear hk)
      (try clear hi)
      (try clear ho0)
      obtain ⟨Ao38, co38, eo38⟩ := Kd.R_slice HO169.out
      (first | subst eo38 | (injection eo38 with f1_ f2_ f3_; have f4_ := f1_.symm; have f5_ := f3_.symm; clear f1_ f2_ f3_; subst f4_; subst f5_))
      refine hK.out _ _ ⟨(Kc BK156.out 0).trans rfl, (Kc BK156.out 1).trans rfl, (Kc BK156.out 2).trans rfl, (Kc BK156.out 3).trans rfl, (Kc BK156.out 4).trans rfl, (Kc BK156.out 5).trans rfl, (Kc BK156.out 6).trans rfl, (Kc BK156.out 7).trans rfl, (Kc BK156.out 8).trans rfl, (Kc BK156.out 9).trans rfl⟩ (fun hHeld => ?_)
      clear hK K
      refine norm_ (a' := ?_) ?_ ?_
      rotate_left
      ·show Act.put _ (some 43) _ = _
       simp only [Act.put, Lt, Lz, Ls, i64_w, i32_w]
       rfl
      refine pure_ (i := 4) (N := some 44) (v := ?_) (a' := ?_) #[true, true, true, true, true, false] rfl rfl (by kernel_rfl) (fun _ _ _ h => h) (Or.inl ⟨by rfl, ?_⟩) ?_ ?_
      rotate_left
      ·intro w'
       go_simp
       with_reducible rfl
      rotate_left
      ·simp only [Act.put, Lt, Lz, Ls, i64_w, i32_w]
       rfl
      refine last_ (i := 5) (N := none) #[true, true, true, true, true, true] rfl rfl (by kernel_rfl) (by decide) (fun K hK => ?_)
      have hs39 : w37.cell? ⟨gb156, 0, none⟩ = some (.int .i64 t140) := (Kc BK156.out 0).trans rfl
      have hfs39 := Kz BK156.out 0
      have hns39_0 := NB136_156.out
      have hms39_0 := NB156_136.out
      have hs40 : w37.cell? ⟨gb156, 1, none⟩ = some (.int .i64 t140) := (Kc BK156.out 1).trans rfl
      have hfs40 := Kz BK156.out 1
      have hns40_0 := NB136_156.out
      have hms40_0 := NB156_136.out
      have hs41 : w37.cell? ⟨gb156, 2, none⟩ = some (.int .i64 t143) := (Kc BK156.out 2).trans rfl
      have hfs41 := Kz BK156.out 2
      have hns41_0 := NB136_156.out
      have hms41_0 := NB156_136.out
      have hs42 : w37.cell? ⟨gb156, 3, none⟩ = some (.int .i64 t146) := (Kc BK156.out 3).trans rfl
      have hfs42 := Kz BK156.out 3
      have hns42_0 := NB136_156.out
      have hms42_0 := NB156_136.out
      have hs43 : w37.cell? ⟨gb156, 4, none⟩ = some (.int .i64 t147) := (Kc BK156.out 4).trans rfl
      have hfs43 := Kz BK156.out 4
      have hns43_0 := NB136_156.out
      have hms43_0 := NB156_136.out
      have hs44 : w37.cell? ⟨gb156, 5, none⟩ = some (.int .i64 t148) := (Kc BK156.out 5).trans rfl
      have hfs44 := Kz BK156.out 5
      have hns44_0 := NB136_156.out
      have hms44_0 := NB156_136.out
      have hs45 : w37.cell? ⟨gb156, 6, none⟩ = some (.int .i64 t149) := (Kc BK156.out 6).trans rfl
      have hfs45 := Kz BK156.out 6
      have hns45_0 := NB136_156.out
      have hms45_0 := NB156_136.out
      have hs46 : w37.cell? ⟨gb156, 7, none⟩ = some (.int .i64 t150) := (Kc BK156.out 7).trans rfl
      have hfs46 := Kz BK156.out 7
      have hns46_0 := NB136_156.out
      have hms46_0 := NB156_136.out
      have hs47 : w37.cell? ⟨gb156, 8, none⟩ = some (.int .i64 t153) := (Kc BK156.out 8).trans rfl
      have hfs47 := Kz BK156.out 8
      have hns47_0 := NB136_156.out
      have hms47_0 := NB156_136.out
      have hs48 : w37.cell? ⟨gb156, 9, none⟩ = some (u157009) := (Kc BK156.out 9).trans rfl
      have hfs48 := Kz BK156.out 9
      have hns48_0 := NB136_156.out
      have hms48_0 := NB156_136.out
      refine skip_ (w1 := ?_) (by rfl) rfl ?_ ?_
      rotate_left
      ·go_simp
       rfl
      refine hK.out _ _ ?_
      clear hK K
      refine done_ (by kernel_rfl) ?_
      have hcz49_0 : w37.cell? ⟨gb156, 0, none⟩ = some (.int .i64 t140) := (Kc BK156.out 0).trans rfl
      have hcz49_1 : w37.cell? ⟨gb156, 1, none⟩ = some (.int .i64 t140) := (Kc BK156.out 1).trans rfl
      have hcz49_2 : w37.cell? ⟨gb156, 2, none⟩ = some (.int .i64 t143) := (Kc BK156.out 2).trans rfl
      have hcz49_3 : w37.cell? ⟨gb156, 3, none⟩ = some (.int .i64 t146) := (Kc BK156.out 3).trans rfl
      have hcz49_4 : w37.cell? ⟨gb156, 4, none⟩ = some (.int .i64 t147) := (Kc BK156.out 4).trans rfl
      have hcz49_5 : w37.cell? ⟨gb156, 5, none⟩ = some (.int .i64 t148) := (Kc BK156.out 5).trans rfl
      have hcz49_6 : w37.cell? ⟨gb156, 6, none⟩ = some (.int .i64 t149) := (Kc BK156.out 6).trans rfl
      have hcz49_7 : w37.cell? ⟨gb156, 7, none⟩ = some (.int .i64 t150) := (Kc BK156.out 7).trans rfl
      have hcz49_8 : w37.cell? ⟨gb156, 8, none⟩ = some (.int .i64 t153) := (Kc BK156.out 8).trans rfl
      have hcz49_9 : w37.cell? ⟨gb156, 9, none⟩ = some (u157009) := (Kc BK156.out 9).trans rfl
      have hfz49_0 := Kz BK156.out 0
      have hfz49_1 := Kz BK156.out 1
      have hfz49_2 := Kz BK156.out 2
      have hfz49_3 := Kz BK156.out 3
      have hfz49_4 := Kz BK156.out 4
      have hfz49_5 := Kz BK156.out 5
      have hfz49_6 := Kz BK156.out 6
      have hfz49_7 := Kz BK156.out 7
      have hfz49_8 := Kz BK156.out 8
      have hfz49_9 := Kz BK156.out 9
      have hnb50 := NB136_0.out
      have hnc50 := NB0_136.out
      have hcz51_0 : w37.cell? ⟨gb136, 0, none⟩ = some (.int .i64 0) := (Kc BK136.out 0).trans rfl
      have hcz51_1 : w37.cell? ⟨gb136, 1, none⟩ = some (.int .i64 0) := (Kc BK136.out 1).trans rfl
      have hcz51_2 : w37.cell? ⟨gb136, 2, none⟩ = some (.int .i64 0) := (Kc BK136.out 2).trans rfl
      have hcz51_3 : w37.cell? ⟨gb136, 3, none⟩ = some (.int .i64 0) := (Kc BK136.out 3).trans rfl
      have hcz51_4 : w37.cell? ⟨gb136, 4, none⟩ = some (.int .i64 0) := (Kc BK136.out 4).trans rfl
      have hcz51_5 : w37.cell? ⟨gb136, 5, none⟩ = some (.int .i64 0) := (Kc BK136.out 5).trans rfl
      have hcz51_6 : w37.cell? ⟨gb136, 6, none⟩ = some (.int .i64 0) := (Kc BK136.out 6).trans rfl
      have hcz51_7 : w37.cell? ⟨gb136, 7, none⟩ = some (.int .i64 0) := (Kc BK136.out 7).trans rfl
      have hcz51_8 : w37.cell? ⟨gb136, 8, none⟩ = some (.int .i64 0) := (Kc BK136.out 8).trans rfl
      have hcz51_9 : w37.cell? ⟨gb136, 9, none⟩ = some (.slice none 0 0) := (Kc BK136.out 9).trans rfl
      have hfz51_0 := Kz BK136.out 0
      have hfz51_1 := Kz BK136.out 1
      have hfz51_2 := Kz BK136.out 2
      have hfz51_3 := Kz BK136.out 3
      have hfz51_4 := Kz BK136.out 4
      have hfz51_5 := Kz BK136.out 5
      have hfz51_6 := Kz BK136.out 6
      have hfz51_7 := Kz BK136.out 7
      have hfz51_8 := Kz BK136.out 8
      have hfz51_9 := Kz BK136.out 9
      try go_wp2
      refine bodyPost_ret (results_cell_row rfl _ _ gb136 39 #[.int .i64 t140, .int .i64 0, .int .i64 0, .int .i64 0, .int .i64 0, .int .i64 0, .int .i64 0, .int .i64 0, .int .i64 t166, .slice Ao38 t167.length co38] (0, 0) _ rfl (by (with_reducible repeat (first | refine Kn ?_ _ | refine Ke ?_ | refine Ka ?_ _)); refine blk_put (cs := #[.int .i64 t140, .int .i64 0, .int .i64 0, .int .i64 0, .int .i64 0, .int .i64 0, .int .i64 0, .int .i64 0, .int .i64 t166, .slice none 0 0]) ?_ 9 _ rfl; (with_reducible repeat (first | refine Kn ?_ _ | refine Ke ?_ | refine Ka ?_ _)); refine blk_put (cs := #[.int .i64 t140, .int .i64 0, .int .i64 0, .int .i64 0, .int .i64 0, .int .i64 0, .int .i64 0, .int .i64 0, .int .i64 0, .slice none 0 0]) ?_ 8 _ rfl; (with_reducible repeat (first | refine Kn ?_ _ | refine Ke ?_ | refine Ka ?_ _)); refine blk_put (cs := #[.int .i64 t140, .int .i64 0, .int .i64 0, .int .i64 0, .int .i64 0, .int .i64 0, .int .i64 0, .int .i64 0, .int .i64 0, .slice none 0 0]) ?_ 7 _ rfl; (with_reducible repeat (first | refine Kn ?_ _ | refine Ke ?_ | refine Ka ?_ _)); refine blk_put (cs := #[.int .i64 t140, .int .i64 0, .int .i64 0, .int .i64 0, .int .i64 0, .int .i64 0, .int .i64 0, .int .i64 0, .int .i64 0, .slice none 0 0]) ?_ 6 _ rfl; (with_reducible repeat (first | refine Kn ?_ _ | refine Ke ?_ | refine Ka ?_ _)); refine blk_put (cs := #[.int .i64 t140, .int .i64 0, .int .i64 0, .int .i64 0, .int .i64 0, .int .i64 0, .int .i64 0, .int .i64 0, .int .i64 0, .slice none 0 0]) ?_ 5 _ rfl; (with_reducible repeat (first | refine Kn ?_ _ | refine Ke ?_ | refine Ka ?_ _)); refine blk_put (cs := #[.int .i64 t140, .int .i64 0, .int .i64 0, .int .i64 0, .int .i64 0, .int .i64 0, .int .i64 0, .int .i64 0, .int .i64 0, .slice none 0 0]) ?_ 4 _ rfl; (with_reducible repeat (first | refine Kn ?_ _ | refine Ke ?_ | refine Ka ?_ _)); refine blk_put (cs := #[.int .i64 t140, .int .i64 0, .int .i64 0, .int .i64 0, .int .i64 0, .int .i64 0, .int .i64 0, .int .i64 0, .int .i64 0, .slice none 0 0]) ?_ 3 _ rfl; (with_reducible repeat (first | refine Kn ?_ _ | refine Ke ?_ | refine Ka ?_ _)); refine blk_put (cs := #[.int .i64 t140, .int .i64 0, .int .i64 0, .int .i64 0, .int .i64 0, .int .i64 0, .int .i64 0, .int .i64 0, .int .i64 0, .slice none 0 0]) ?_ 2 _ rfl; (with_reducible repeat (first | refine Kn ?_ _ | refine Ke ?_ | refine Ka ?_ _)); refine blk_put (cs := #[.int .i64 t140, .int .i64 0, .int .i64 0, .int .i64 0, .int .i64 0, .int .i64 0, .int .i64 0, .int .i64 0, .int .i64 0, .slice none 0 0]) ?_ 1 _ rfl; (with_reducible repeat (first | refine Kn ?_ _ | refine Ke ?_ | refine Ka ?_ _)); refine blk_put (cs := #[.int .i64 0, .int .i64 0, .int .i64 0, .int .i64 0, .int .i64 0, .int .i64 0, .int .i64 0, .int .i64 0, .int .i64 0, .slice none 0 0]) ?_ 0 _ rfl; (with_reducible repeat (first | refine Kn ?_ _ | refine Ke ?_ | refine Ka ?_ _)); refine Kf ?_ NB136_156.out _; (with_reducible repeat (first | refine Kn ?_ _ | refine Ke ?_ | refine Ka ?_ _)); refine Kf ?_ NB136_156.out _; (with_reducible repeat (first | refine Kn ?_ _ | refine Ke ?_ | refine Ka ?_ _)); refine Kf ?_ NB136_156.out _; (with_reducible repeat (first | refine Kn ?_ _ | refine Ke ?_ | refine Ka ?_ _)); refine Kf ?_ NB136_156.out _; (with_reducible repeat (first | refine Kn ?_ _ | refine Ke ?_ | refine Ka ?_ _)); refine Kf ?_ NB136_156.out _; (with_reducible repeat (first | refine Kn ?_ _ | refine Ke ?_ | refine Ka ?_ _)); refine Kf ?_ NB136_156.out _; (with_reducible repeat (first | refine Kn ?_ _ | refine Ke ?_ | refine Ka ?_ _)); refine Kf ?_ NB136_156.out _; (with_reducible repeat (first | refine Kn ?_ _ | refine Ke ?_ | refine Ka ?_ _)); refine Kf ?_ NB136_156.out _; (with_reducible repeat (first | refine Kn ?_ _ | refine Ke ?_ | refine Ka ?_ _)); refine Kf ?_ NB136_156.out _; (with_reducible repeat (first | refine Kn ?_ _ | refine Ke ?_ | refine Ka ?_ _)); refine Kf ?_ NB136_156.out _; (with_reducible repeat (first | refine Kn ?_ _ | refine Ke ?_ | refine Ka ?_ _)); exact BK136.out) Try.underlying39 rfl (by kernel_rfl)) rfl ?_
      exact ⟨_, by first | rfl | (simp [*, errW_none, errW_some] <;> rfl), by (with_reducible repeat (first | apply Ra | apply Rn | apply Rd)); exact Kd.R_mono (Kd.R_far (p := ⟨gb136, 9, none⟩) (Kd.R_far (p := ⟨gb136, 8, none⟩) (Kd.R_far (p := ⟨gb136, 7, none⟩) (Kd.R_far (p := ⟨gb136, 6, none⟩) (Kd.R_far (p := ⟨gb136, 5, none⟩) (Kd.R_far (p := ⟨gb136, 4, none⟩) (Kd.R_far (p := ⟨gb136, 3, none⟩) (Kd.R_far (p := ⟨gb136, 2, none⟩) (Kd.R_far (p := ⟨gb136, 1, none⟩) (Kd.R_far (p := ⟨gb136, 0, none⟩) (Kd.R_far (p := ⟨gb156, 9, none⟩) (Kd.R_far (p := ⟨gb156, 8, none⟩) (Kd.R_far (p := ⟨gb156, 7, none⟩) (Kd.R_far (p := ⟨gb156, 6, none⟩) (Kd.R_far (p := ⟨gb156, 5, none⟩) (Kd.R_far (p := ⟨gb156, 4, none⟩) (Kd.R_far (p := ⟨gb156, 3, none⟩) (Kd.R_far (p := ⟨gb156, 2, none⟩) (Kd.R_far (p := ⟨gb156, 1, none⟩) (Kd.R_far (p := ⟨gb156, 0, none⟩) (Kd.R_types (Kd.R_types HO169.out BK156.out (by decide)) BK136.out (by decide)) (fun _ hk => hk.1.2) (.int .i64 t140)) (fun _ hk => hk.1.2) (.int .i64 0)) (fun _ hk => hk.1.2) (.int .i64 0)) (fun _ hk => hk.1.2) (.int .i64 0)) (fun _ hk => hk.1.2) (.int .i64 0)) (fun _ hk => hk.1.2) (.int .i64 0)) (fun _ hk => hk.1.2) (.int .i64 0)) (fun _ hk => hk.1.2) (.int .i64 0)) (fun _ hk => hk.1.2) (.int .i64 t166)) (fun _ hk => hk.1.2) (.slice Ao38 t167.length co38)) (fun _ hk => hk.2) (.int .i64 t140)) (fun _ hk => hk.2) (.int .i64 0)) (fun _ hk => hk.2) (.int .i64 0)) (fun _ hk => hk.2) (.int .i64 0)) (fun _ hk => hk.2) (.int .i64 0)) (fun _ hk => hk.2) (.int .i64 0)) (fun _ hk => hk.2) (.int .i64 0)) (fun _ hk => hk.2) (.int .i64 0)) (fun _ hk => hk.2) (.int .i64 t166)) (fun _ hk => hk.2) (.slice Ao38 t167.length co38)) (fun _ hk => trivial), by repeat (first | (with_reducible first | exact HI0.out | apply IsS60.alloc | apply IsS60.drewN | apply IsS60.drew | apply IsS60.set_1 | apply IsS60.set_2 | refine IsS60.far ?_ NB0_136.out _ | refine IsS60.far ?_ NB0_156.out _) | exact HI0.out), by repeat (first | (with_reducible first | exact HB.out | apply Ba | apply Bn | apply Bd | refine Bs ?_ (IsS60.ge HI0.out) | refine Bs ?_ GE136.out | refine Bs ?_ GE156.out) | exact HB.out), by repeat (first | (with_reducible first | exact HK.out | apply KeepBut.set_ | apply keep_drewN | apply keep_drew | apply keep_alloc | refine keep_far ?_ GW136.out _ | refine keep_far ?_ GW156.out _) | exact HK.out)⟩
     ·rw [if_neg c29] at H
      have c29b0 : (t143 == 0) = false := beq_eq_false_iff_ne.mpr c29
      have c29b1 : (t143 != 0) = true := bne_iff_ne.mpr c29
      simp only [Option.some.injEq, Prod.mk.injEq] at H
      obtain ⟨rfl, rfl, rfl, rfl, rfl, rfl, rfl, rfl, rfl, rfl, rfl, rfl⟩ := H
      go_wp2_with (first | ((refine Gc (f := 84) rfl ?_); refine goesL_ (some 33) rfl rfl Try.func84 (by kernel_rfl) rfl #[.pointer (some ⟨g, 0, none⟩), .int .i64 2] rfl (by first | rfl | (simp only [List.map_toArray, List.map_cons, List.map_nil]; first | done | rfl)) ?_; (with_reducible refine (spec_l1Cur_one.calls g s0_0 x1001_1 x1002_1 2 true t164 t165 w0 _ ?side1 ?side2 A27.out).mono ?_); (case side1 => repeat (first | (with_reducible first | exact HI0.out | apply IsS60.alloc | apply IsS60.drewN | apply IsS60.drew | apply IsS60.set_1 | apply IsS60.set_2 | refine IsS60.far ?_ NB0_136.out _ | refine IsS60.far ?_ NB0_156.out _) | exact HI0.out)); (case side2 => repeat (first | (with_reducible first | exact HB.out | apply Ba | apply Bn | apply Bd | refine Bs ?_ (IsS60.ge HI0.out) | refine Bs ?_ GE136.out | refine Bs ?_ GE156.out) | exact HB.out)); rintro e w52 ⟨rfl, hi, hb, hk⟩; refine ⟨_, rfl, ?_⟩; have n0_ := Am (Kd.R_mono (Kd.R_keep (IsS60.apart (show IsS60 w0 _ g s0_0 x1001_1 x1002_1 from by repeat (first | (with_reducible first | exact HI0.out | apply IsS60.alloc | apply IsS60.drewN | apply IsS60.drew | apply IsS60.set_1 | apply IsS60.set_2 | refine IsS60.far ?_ NB0_136.out _ | refine IsS60.far ?_ NB0_156.out _) | exact HI0.out)) (by (with_reducible repeat (first | apply Ra | apply Rn | apply Rd)); exact HO_157009.out) (by decide)) hk (fun _ h => h.2)) (fun _ h => h.1)); have n1_ := Am (KeepBut.blk hk (g' := gb136) (o := .cells #[.int .i64 0, .int .i64 0, .int .i64 0, .int .i64 0, .int .i64 0, .int .i64 0, .int .i64 0, .int .i64 0, .int .i64 0, .slice none 0 0] 39 (0, 0)) (by (with_reducible repeat (first | refine Kn ?_ _ | refine Ke ?_ | refine Ka ?_ _)); exact BK136.out) NB136_0.out (by simp)); have n2_ := Am (KeepBut.blk hk (g' := gb156) (o := .cells #[.int .i64 t140, .int .i64 0, .int .i64 t143, .int .i64 t146, .int .i64 t147, .int .i64 t148, .int .i64 t149, .int .i64 t150, .int .i64 t153, u157009] 39 (0, 0)) (by (with_reducible repeat (first | refine Kn ?_ _ | refine Ke ?_ | refine Ka ?_ _)); exact BK156.out) NB156_0.out (by simp)); have n3_ := Am (KeepBut.trans (by repeat (first | (with_reducible first | exact HK.out | apply KeepBut.set_ | apply keep_drewN | apply keep_drew | apply keep_alloc | refine keep_far ?_ GW136.out _ | refine keep_far ?_ GW156.out _) | exact HK.out)) hk (.inl rfl)); have n4_ := Am (hb); have n5_ := Am (hi); clear HO_157009; clear BK136; clear BK156; clear HK; clear HB; clear HI0; have HO_157009 := n0_; have BK136 := n1_; have BK156 := n2_; have HK := n3_; have HB := n4_; have HI0 := n5_; clear n0_ n1_ n2_ n3_ n4_ n5_; (try clear hb); (try clear hb2); (try clear hk); (try clear hi); have hnb53 := NB156_136.out; have hnc53 := NB136_156.out; have hnb54 := NB156_0.out; have hnc54 := NB0_156.out; have hcz55_0 : w52.cell? ⟨gb156, 0, none⟩ = some (.int .i64 t140) := (Kc BK156.out 0).trans rfl; have hcz55_1 : w52.cell? ⟨gb156, 1, none⟩ = some (.int .i64 0) := (Kc BK156.out 1).trans rfl; have hcz55_2 : w52.cell? ⟨gb156, 2, none⟩ = some (.int .i64 t143) := (Kc BK156.out 2).trans rfl; have hcz55_3 : w52.cell? ⟨gb156, 3, none⟩ = some (.int .i64 t146) := (Kc BK156.out 3).trans rfl; have hcz55_4 : w52.cell? ⟨gb156, 4, none⟩ = some (.int .i64 t147) := (Kc BK156.out 4).trans rfl; have hcz55_5 : w52.cell? ⟨gb156, 5, none⟩ = some (.int .i64 t148) := (Kc BK156.out 5).trans rfl; have hcz55_6 : w52.cell? ⟨gb156, 6, none⟩ = some (.int .i64 t149) := (Kc BK156.out 6).trans rfl; have hcz55_7 : w52.cell? ⟨gb156, 7, none⟩ = some (.int .i64 t150) := (Kc BK156.out 7).trans rfl; have hcz55_8 : w52.cell? ⟨gb156, 8, none⟩ = some (.int .i64 t153) := (Kc BK156.out 8).trans rfl; have hcz55_9 : w52.cell? ⟨gb156, 9, none⟩ = some (u157009) := (Kc BK156.out 9).trans rfl; have hfz55_0 := Kz BK156.out 0; have hfz55_1 := Kz BK156.out 1; have hfz55_2 := Kz BK156.out 2; have hfz55_3 := Kz BK156.out 3; have hfz55_4 := Kz BK156.out 4; have hfz55_5 := Kz BK156.out 5; have hfz55_6 := Kz BK156.out 6; have hfz55_7 := Kz BK156.out 7; have hfz55_8 := Kz BK156.out 8; have hfz55_9 := Kz BK156.out 9; have hnb56 := NB136_0.out; have hnc56 := NB0_136.out; have hcz57_0 : w52.cell? ⟨gb136, 0, none⟩ = some (.int .i64 0) := (Kc BK136.out 0).trans rfl; have hcz57_1 : w52.cell? ⟨gb136, 1, none⟩ = some (.int .i64 0) := (Kc BK136.out 1).trans rfl; have hcz57_2 : w52.cell? ⟨gb136, 2, none⟩ = some (.int .i64 0) := (Kc BK136.out 2).trans rfl; have hcz57_3 : w52.cell? ⟨gb136, 3, none⟩ = some (.int .i64 0) := (Kc BK136.out 3).trans rfl; have hcz57_4 : w52.cell? ⟨gb136, 4, none⟩ = some (.int .i64 0) := (Kc BK136.out 4).trans rfl; have hcz57_5 : w52.cell? ⟨gb136, 5, none⟩ = some (.int .i64 0) := (Kc BK136.out 5).trans rfl; have hcz57_6 : w52.cell? ⟨gb136, 6, none⟩ = some (.int .i64 0) := (Kc BK136.out 6).trans rfl; have hcz57_7 : w52.cell? ⟨gb136, 7, none⟩ = some (.int .i64 0) := (Kc BK136.out 7).trans rfl; have hcz57_8 : w52.cell? ⟨gb136, 8, none⟩ = some (.int .i64 0) := (Kc BK136.out 8).trans rfl; have hcz57_9 : w52.cell? ⟨gb136, 9, none⟩ = some (.slice none 0 0) := (Kc BK136.out 9).trans rfl; have hfz57_0 := Kz BK136.out 0; have hfz57_1 := Kz BK136.out 1; have hfz57_2 := Kz BK136.out 2; have hfz57_3 := Kz BK136.out 3; have hfz57_4 := Kz BK136.out 4; have hfz57_5 := Kz BK136.out 5; have hfz57_6 := Kz BK136.out 6; have hfz57_7 := Kz BK136.out 7; have hfz57_8 := Kz BK136.out 8; have hfz57_9 := Kz BK136.out 9; obtain ⟨Ao58, co58, eo58⟩ := Kd.R_slice HO_157009.out; subst eo58))
      refine bodyPost_ret (results_cell_row rfl _ _ gb136 39 #[.int .i64 t140, .int .i64 t140, .int .i64 t143, .int .i64 t146, .int .i64 t147, .int .i64 t148, .int .i64 t149, .int .i64 t150, .int .i64 t153, .slice Ao58 x157009_1.length co58] (0, 0) _ rfl (by (with_reducible repeat (first | refine Kn ?_ _ | refine Ke ?_ | refine Ka ?_ _)); refine blk_put (cs := #[.int .i64 t140, .int .i64 t140, .int .i64 t143, .int .i64 t146, .int .i64 t147, .int .i64 t148, .int .i64 t149, .int .i64 t150, .int .i64 t153, .slice none 0 0]) ?_ 9 _ rfl; (with_reducible repeat (first | refine Kn ?_ _ | refine Ke ?_ | refine Ka ?_ _)); refine blk_put (cs := #[.int .i64 t140, .int .i64 t140, .int .i64 t143, .int .i64 t146, .int .i64 t147, .int .i64 t148, .int .i64 t149, .int .i64 t150, .int .i64 0, .slice none 0 0]) ?_ 8 _ rfl; (with_reducible repeat (first | refine Kn ?_ _ | refine Ke ?_ | refine Ka ?_ _)); refine blk_put (cs := #[.int .i64 t140, .int .i64 t140, .int .i64 t143, .int .i64 t146, .int .i64 t147, .int .i64 t148, .int .i64 t149, .int .i64 0, .int .i64 0, .slice none 0 0]) ?_ 7 _ rfl; (with_reducible repeat (first | refine Kn ?_ _ | refine Ke ?_ | refine Ka ?_ _)); refine blk_put (cs := #[.int .i64 t140, .int .i64 t140, .int .i64 t143, .int .i64 t146, .int .i64 t147, .int .i64 t148, .int .i64 0, .int .i64 0, .int .i64 0, .slice none 0 0]) ?_ 6 _ rfl; (with_reducible repeat (first | refine Kn ?_ _ | refine Ke ?_ | refine Ka ?_ _)); refine blk_put (cs := #[.int .i64 t140, .int .i64 t140, .int .i64 t143, .int .i64 t146, .int .i64 t147, .int .i64 0, .int .i64 0, .int .i64 0, .int .i64 0, .slice none 0 0]) ?_ 5 _ rfl; (with_reducible repeat (first | refine Kn ?_ _ | refine Ke ?_ | refine Ka ?_ _)); refine blk_put (cs := #[.int .i64 t140, .int .i64 t140, .int .i64 t143, .int .i64 t146, .int .i64 0, .int .i64 0, .int .i64 0, .int .i64 0, .int .i64 0, .slice none 0 0]) ?_ 4 _ rfl; (with_reducible repeat (first | refine Kn ?_ _ | refine Ke ?_ | refine Ka ?_ _)); refine blk_put (cs := #[.int .i64 t140, .int .i64 t140, .int .i64 t143, .int .i64 0, .int .i64 0, .int .i64 0, .int .i64 0, .int .i64 0, .int .i64 0, .slice none 0 0]) ?_ 3 _ rfl; (with_reducible repeat (first | refine Kn ?_ _ | refine Ke ?_ | refine Ka ?_ _)); refine blk_put (cs := #[.int .i64 t140, .int .i64 t140, .int .i64 0, .int .i64 0, .int .i64 0, .int .i64 0, .int .i64 0, .int .i64 0, .int .i64 0, .slice none 0 0]) ?_ 2 _ rfl; (with_reducible repeat (first | refine Kn ?_ _ | refine Ke ?_ | refine Ka ?_ _)); refine blk_put (cs := #[.int .i64 t140, .int .i64 0, .int .i64 0, .int .i64 0, .int .i64 0, .int .i64 0, .int .i64 0, .int .i64 0, .int .i64 0, .slice none 0 0]) ?_ 1 _ rfl; (with_reducible repeat (first | refine Kn ?_ _ | refine Ke ?_ | refine Ka ?_ _)); refine blk_put (cs := #[.int .i64 0, .int .i64 0, .int .i64 0, .int .i64 0, .int .i64 0, .int .i64 0, .int .i64 0, .int .i64 0, .int .i64 0, .slice none 0 0]) ?_ 0 _ rfl; (with_reducible repeat (first | refine Kn ?_ _ | refine Ke ?_ | refine Ka ?_ _)); refine Kf ?_ NB136_156.out _; (with_reducible repeat (first | refine Kn ?_ _ | refine Ke ?_ | refine Ka ?_ _)); exact BK136.out) Try.underlying39 rfl (by kernel_rfl)) rfl ?_
      exact ⟨_, by first | rfl | (simp [*, errW_none, errW_some] <;> rfl), by (with_reducible repeat (first | apply Ra | apply Rn | apply Rd)); exact Kd.R_mono (Kd.R_far (p := ⟨gb136, 9, none⟩) (Kd.R_far (p := ⟨gb136, 8, none⟩) (Kd.R_far (p := ⟨gb136, 7, none⟩) (Kd.R_far (p := ⟨gb136, 6, none⟩) (Kd.R_far (p := ⟨gb136, 5, none⟩) (Kd.R_far (p := ⟨gb136, 4, none⟩) (Kd.R_far (p := ⟨gb136, 3, none⟩) (Kd.R_far (p := ⟨gb136, 2, none⟩) (Kd.R_far (p := ⟨gb136, 1, none⟩) (Kd.R_far (p := ⟨gb136, 0, none⟩) (Kd.R_far (p := ⟨gb156, 1, none⟩) (Kd.R_types (Kd.R_types HO_157009.out BK156.out (by decide)) BK136.out (by decide)) (fun _ hk => hk.1.2) (.int .i64 t140)) (fun _ hk => hk.2) (.int .i64 t140)) (fun _ hk => hk.2) (.int .i64 t140)) (fun _ hk => hk.2) (.int .i64 t143)) (fun _ hk => hk.2) (.int .i64 t146)) (fun _ hk => hk.2) (.int .i64 t147)) (fun _ hk => hk.2) (.int .i64 t148)) (fun _ hk => hk.2) (.int .i64 t149)) (fun _ hk => hk.2) (.int .i64 t150)) (fun _ hk => hk.2) (.int .i64 t153)) (fun _ hk => hk.2) (.slice Ao58 x157009_1.length co58)) (fun _ hk => trivial), by repeat (first | (with_reducible first | exact HI0.out | apply IsS60.alloc | apply IsS60.drewN | apply IsS60.drew | apply IsS60.set_1 | apply IsS60.set_2 | refine IsS60.far ?_ NB0_136.out _ | refine IsS60.far ?_ NB0_156.out _) | exact HI0.out), by repeat (first | (with_reducible first | exact HB.out | apply Ba | apply Bn | apply Bd | refine Bs ?_ (IsS60.ge HI0.out) | refine Bs ?_ GE136.out | refine Bs ?_ GE156.out) | exact HB.out), by repeat (first | (with_reducible first | exact HK.out | apply KeepBut.set_ | apply keep_drewN | apply keep_drew | apply keep_alloc | refine keep_far ?_ GW136.out _ | refine keep_far ?_ GW156.out _) | exact HK.out)⟩
    ·replace c28 := Bool.eq_false_iff.mpr c28
     subst c28
     have H1 : (if t143 = 0 then ((spec_l3None.f a1).bind fun bt170 => (some (t140, 0, 0, 0, 0, 0, 0, 0, bt170.1, bt170.2, t164, t165))) else (some (t140, 0, t143, t146, t147, t148, t149, t150, t153, x157009_1, t164, t165))) = some (r1, r2, r3, r4, r5, r6, r7, r8, r9, r10, r11, r12) := by rw [if_neg (show ¬ (false = true) by decide)] at H; exact H
     clear H
     have H := H1
     clear H1
     by_cases c59 : t143 = 0
     ·rw [if_pos c59] at H
      have c59b0 : (t143 == 0) = true := beq_iff_eq.mpr c59
      have c59b1 : (t143 != 0) = false := bne_eq_false_iff_eq.mpr c59
      clear c59
      replace H := Option.bind_eq_some_iff.mp H
      obtain ⟨⟨t170, t171⟩, A600, H⟩ := H
      replace H : (some (t140, 0, 0, 0, 0, 0, 0, 0, t170, t171, t164, t165)) = some (r1, r2, r3, r4, r5, r6, r7, r8, r9, r10, r11, r12) := H
      have A60 := Am A600
      clear A600
      simp only [Option.some.injEq, Prod.mk.injEq] at H
      obtain ⟨rfl, rfl, rfl, rfl, rfl, rfl, rfl, rfl, rfl, rfl, rfl, rfl⟩ := H
      try go_wp2_with (first | ((refine Gc (f := 84) rfl ?_); refine goesL_ (some 33) rfl rfl Try.func84 (by kernel_rfl) rfl #[.pointer (some ⟨g, 0, none⟩), .int .i64 2] rfl (by first | rfl | (simp only [List.map_toArray, List.map_cons, List.map_nil]; first | done | rfl)) ?_; (with_reducible refine (spec_l1Cur_one.calls g s0_0 x1001_1 x1002_1 2 false t164 t165 w0 _ ?side1 ?side2 A27.out).mono ?_); (case side1 => repeat (first | (with_reducible first | exact HI0.out | apply IsS60.alloc | apply IsS60.drewN | apply IsS60.drew | apply IsS60.set_1 | apply IsS60.set_2 | refine IsS60.far ?_ NB0_136.out _ | refine IsS60.far ?_ NB0_156.out _) | exact HI0.out)); (case side2 => repeat (first | (with_reducible first | exact HB.out | apply Ba | apply Bn | apply Bd | refine Bs ?_ (IsS60.ge HI0.out) | refine Bs ?_ GE136.out | refine Bs ?_ GE156.out) | exact HB.out)); rintro e w61 ⟨rfl, hi, hb, hk⟩; refine ⟨_, rfl, ?_⟩; have n0_ := Am (Kd.R_mono (Kd.R_keep (IsS60.apart (show IsS60 w0 _ g s0_0 x1001_1 x1002_1 from by repeat (first | (with_reducible first | exact HI0.out | apply IsS60.alloc | apply IsS60.drewN | apply IsS60.drew | apply IsS60.set_1 | apply IsS60.set_2 | refine IsS60.far ?_ NB0_136.out _ | refine IsS60.far ?_ NB0_156.out _) | exact HI0.out)) (by (with_reducible repeat (first | apply Ra | apply Rn | apply Rd)); exact HO_157009.out) (by decide)) hk (fun _ h => h.2)) (fun _ h => h.1)); have n1_ := Am (KeepBut.blk hk (g' := gb136) (o := .cells #[.int .i64 0, .int .i64 0, .int .i64 0, .int .i64 0, .int .i64 0, .int .i64 0, .int .i64 0, .int .i64 0, .int .i64 0, .slice none 0 0] 39 (0, 0)) (by (with_reducible repeat (first | refine Kn ?_ _ | refine Ke ?_ | refine Ka ?_ _)); exact BK136.out) NB136_0.out (by simp)); have n2_ := Am (KeepBut.blk hk (g' := gb156) (o := .cells #[.int .i64 t140, .int .i64 0, .int .i64 t143, .int .i64 t146, .int .i64 t147, .int .i64 t148, .int .i64 t149, .int .i64 t150, .int .i64 t153, u157009] 39 (0, 0)) (by (with_reducible repeat (first | refine Kn ?_ _ | refine Ke ?_ | refine Ka ?_ _)); exact BK156.out) NB156_0.out (by simp)); have n3_ := Am (KeepBut.trans (by repeat (first | (with_reducible first | exact HK.out | apply KeepBut.set_ | apply keep_drewN | apply keep_drew | apply keep_alloc | refine keep_far ?_ GW136.out _ | refine keep_far ?_ GW156.out _) | exact HK.out)) hk (.inl rfl)); have n4_ := Am (hb); have n5_ := Am (hi); clear HO_157009; clear BK136; clear BK156; clear HK; clear HB; clear HI0; have HO_157009 := n0_; have BK136 := n1_; have BK156 := n2_; have HK := n3_; have HB := n4_; have HI0 := n5_; clear n0_ n1_ n2_ n3_ n4_ n5_; (try clear hb); (try clear hb2); (try clear hk); (try clear hi); have hnb62 := NB156_136.out; have hnc62 := NB136_156.out; have hnb63 := NB156_0.out; have hnc63 := NB0_156.out; have hcz64_0 : w61.cell? ⟨gb156, 0, none⟩ = some (.int .i64 t140) := (Kc BK156.out 0).trans rfl; have hcz64_1 : w61.cell? ⟨gb156, 1, none⟩ = some (.int .i64 0) := (Kc BK156.out 1).trans rfl; have hcz64_2 : w61.cell? ⟨gb156, 2, none⟩ = some (.int .i64 t143) := (Kc BK156.out 2).trans rfl; have hcz64_3 : w61.cell? ⟨gb156, 3, none⟩ = some (.int .i64 t146) := (Kc BK156.out 3).trans rfl; have hcz64_4 : w61.cell? ⟨gb156, 4, none⟩ = some (.int .i64 t147) := (Kc BK156.out 4).trans rfl; have hcz64_5 : w61.cell? ⟨gb156, 5, none⟩ = some (.int .i64 t148) := (Kc BK156.out 5).trans rfl; have hcz64_6 : w61.cell? ⟨gb156, 6, none⟩ = some (.int .i64 t149) := (Kc BK156.out 6).trans rfl; have hcz64_7 : w61.cell? ⟨gb156, 7, none⟩ = some (.int .i64 t150) := (Kc BK156.out 7).trans rfl; have hcz64_8 : w61.cell? ⟨gb156, 8, none⟩ = some (.int .i64 t153) := (Kc BK156.out 8).trans rfl; have hcz64_9 : w61.cell? ⟨gb156, 9, none⟩ = some (u157009) := (Kc BK156.out 9).trans rfl; have hfz64_0 := Kz BK156.out 0; have hfz64_1 := Kz BK156.out 1; have hfz64_2 := Kz BK156.out 2; have hfz64_3 := Kz BK156.out 3; have hfz64_4 := Kz BK156.out 4; have hfz64_5 := Kz BK156.out 5; have hfz64_6 := Kz BK156.out 6; have hfz64_7 := Kz BK156.out 7; have hfz64_8 := Kz BK156.out 8; have hfz64_9 := Kz BK156.out 9))
      have n0_ := Am (Rd HO_157009.out)
      have n1_ := Am (Ke BK136.out)
      have n2_ := Am (Ke BK156.out)
      have n3_ := Am (IsS60.drew HI0.out)
      have n4_ := Am (keep_drew HK.out)
      have n5_ := Am (Bd HB.out)
      clear HO_157009
      clear BK136
      clear BK156
      clear HI0
      clear HK
      clear HB
      have HO_157009 := n0_
      have BK136 := n1_
      have BK156 := n2_
      have HI0 := n3_
      have HK := n4_
      have HB := n5_
      clear n0_ n1_ n2_ n3_ n4_ n5_
      refine start_ (n := 6) (S := fun w' => w'.cell? ⟨gb156, 0, none⟩ = some (.int .i64 t140) ∧ w'.cell? ⟨gb156, 1, none⟩ = some (.int .i64 0) ∧ w'.cell? ⟨gb156, 2, none⟩ = some (.int .i64 t143) ∧ w'.cell? ⟨gb156, 3, none⟩ = some (.int .i64 t146) ∧ w'.cell? ⟨gb156, 4, none⟩ = some (.int .i64 t147) ∧ w'.cell? ⟨gb156, 5, none⟩ = some (.int .i64 t148) ∧ w'.cell? ⟨gb156, 6, none⟩ = some (.int .i64 t149) ∧ w'.cell? ⟨gb156, 7, none⟩ = some (.int .i64 t150) ∧ w'.cell? ⟨gb156, 8, none⟩ = some (.int .i64 t153) ∧ w'.cell? ⟨gb156, 9, none⟩ = some (u157009)) (ds := [5]) #[false, false, false, false, false, false] (by kernel_rfl) rfl rfl ⟨(Kc BK156.out 0).trans rfl, (Kc BK156.out 1).trans rfl, (Kc BK156.out 2).trans rfl, (Kc BK156.out 3).trans rfl, (Kc BK156.out 4).trans rfl, (Kc BK156.out 5).trans rfl, (Kc BK156.out 6).trans rfl, (Kc BK156.out 7).trans rfl, (Kc BK156.out 8).trans rfl, (Kc BK156.out 9).trans rfl⟩ (fun hHeld => ?_)
      generalize w61.drew = w65 at HO_157009 BK136 BK156 HI0 HK HB hHeld ⊢
      refine pure_ (i := 0) (N := some 40) (v := ?_) (a' := ?_) #[true, false, false, false, false, false] rfl rfl (by kernel_rfl) (fun _ _ _ h => h) (Or.inl ⟨by rfl, ?_⟩) ?_ ?_
      rotate_left
      ·intro w'
       go_simp
       with_reducible rfl
      rotate_left
      ·simp only [Act.put, Lt, Lz, Ls, i64_w, i32_w]
       rfl
      refine pure_ (i := 2) (N := some 42) (v := ?_) (a' := ?_) #[true, false, true, false, false, false] rfl rfl (by kernel_rfl) (fun _ _ _ h => h) (Or.inl ⟨by rfl, ?_⟩) ?_ ?_
      rotate_left
      ·intro w'
       go_simp
       with_reducible rfl
      rotate_left
      ·simp only [Act.put, Lt, Lz, Ls, i64_w, i32_w]
       rfl
      refine take_ (i := 1) (N := some 41) (v := ?_) (a' := ?_) #[true, true, true, false, false, false] rfl rfl (by kernel_rfl) (fun _ _ _ h => h) (Or.inl ⟨by rfl, ?_⟩) hHeld ?_ ?_
      rotate_left
      ·rintro w' ⟨s0, s1, s2, s3, s4, s5, s6, s7, s8, s9⟩
       go_simp
       with_reducible rfl
      rotate_left
      ·simp only [Act.put, Lt, Lz, Ls, i64_w, i32_w]
       rfl
      refine one_ (i := 3) (N := some 43) #[true, true, true, true, false, false] rfl rfl (by kernel_rfl) (by decide) (fun K hK => ?_)
      refine goes_ Try.func59 (by kernel_rfl) rfl #[.int .i64 a1] (by rfl) rfl rfl (by first | rfl | (simp only [List.map_toArray, List.map_cons, List.map_nil]; first | done | rfl)) ?_
      with_reducible refine (spec_l3None.calls a1 t170 t171 _ A60.out).mono ?_
      rintro e w66 ⟨v172, rfl, ho0, hb⟩
      refine ⟨_, rfl, ?_⟩
      have n0_ := Am (Kd.R_elder' (by (with_reducible repeat (first | apply Ra | apply Rn | apply Rd)); exact HO_157009.out) (Kd.R_base ho0) hb)
      have n1_ := Am (Kd.R_lower (Kd.R_new' ho0 (Kd.R_lt (by (with_reducible repeat (first | apply Ra | apply Rn | apply Rd)); exact HO_157009.out))) (keep_size (w := w) (g := g) (row := none) (by repeat (first | (with_reducible first | exact HK.out | apply KeepBut.set_ | apply keep_drewN | apply keep_drew | apply keep_alloc | refine keep_far ?_ GW136.out _ | refine keep_far ?_ GW156.out _) | exact HK.out))))
      have n2_ := Am (Kb (g := gb136) (o := .cells #[.int .i64 0, .int .i64 0, .int .i64 0, .int .i64 0, .int .i64 0, .int .i64 0, .int .i64 0, .int .i64 0, .int .i64 0, .slice none 0 0] 39 (0, 0)) (by (with_reducible repeat (first | refine Kn ?_ _ | refine Ke ?_ | refine Ka ?_ _)); exact BK136.out) hb)
      have n3_ := Am (Kb (g := gb156) (o := .cells #[.int .i64 t140, .int .i64 0, .int .i64 t143, .int .i64 t146, .int .i64 t147, .int .i64 t148, .int .i64 t149, .int .i64 t150, .int .i64 t153, u157009] 39 (0, 0)) (by (with_reducible repeat (first | refine Kn ?_ _ | refine Ke ?_ | refine Ka ?_ _)); exact BK156.out) hb)
      have n4_ := Am (IsS60.below (by repeat (first | (with_reducible first | exact HI0.out | apply IsS60.alloc | apply IsS60.drewN | apply IsS60.drew | apply IsS60.set_1 | apply IsS60.set_2 | refine IsS60.far ?_ NB0_136.out _ | refine IsS60.far ?_ NB0_156.out _) | exact HI0.out)) hb)
      have n5_ := Am (KeepBut.trans (by repeat (first | (with_reducible first | exact HK.out | apply KeepBut.set_ | apply keep_drewN | apply keep_drew | apply keep_alloc | refine keep_far ?_ GW136.out _ | refine keep_far ?_ GW156.out _) | exact HK.out)) (KeepBut.of_below hb g none) (.inl rfl))
      have n6_ := Am (Bt (by repeat (first | (with_reducible first | exact HB.out | apply Ba | apply Bn | apply Bd | refine Bs ?_ (IsS60.ge HI0.out) | refine Bs ?_ GE136.out | refine Bs ?_ GE156.out) | exact HB.out)) hb)
      clear HO_157009
      clear BK136
      clear BK156
      clear HI0
      clear HK
      clear HB
      have HO_157009 := n0_
      have HO173 := n1_
      have BK136 := n2_
      have BK156 := n3_
      have HI0 := n4_
      have HK := n5_
      have HB := n6_
      clear n0_ n1_ n2_ n3_ n4_ n5_ n6_
      (try clear hb)
      (try clear hb2)
      (try clear hk)
      (try clear hi)
      (try clear ho0)
      obtain ⟨Ao67, co67, eo67⟩ := Kd.R_slice HO173.out
      (first | subst eo67 | (injection eo67 with f1_ f2_ f3_; have f4_ := f1_.symm; have f5_ := f3_.symm; clear f1_ f2_ f3_; subst f4_; subst f5_))
      refine hK.out _ _ ⟨(Kc BK156.out 0).trans rfl, (Kc BK156.out 1).trans rfl, (Kc BK156.out 2).trans rfl, (Kc BK156.out 3).trans rfl, (Kc BK156.out 4).trans rfl, (Kc BK156.out 5).trans rfl, (Kc BK156.out 6).trans rfl, (Kc BK156.out 7).trans rfl, (Kc BK156.out 8).trans rfl, (Kc BK156.out 9).trans rfl⟩ (fun hHeld => ?_)
      clear hK K
      refine norm_ (a' := ?_) ?_ ?_
      rotate_left
      ·show Act.put _ (some 43) _ = _
       simp only [Act.put, Lt, Lz, Ls, i64_w, i32_w]
       rfl
      refine pure_ (i := 4) (N := some 44) (v := ?_) (a' := ?_) #[true, true, true, true, true, false] rfl rfl (by kernel_rfl) (fun _ _ _ h => h) (Or.inl ⟨by rfl, ?_⟩) ?_ ?_
      rotate_left
      ·intro w'
       go_simp
       with_reducible rfl
      rotate_left
      ·simp only [Act.put, Lt, Lz, Ls, i64_w, i32_w]
       rfl
      refine last_ (i := 5) (N := none) #[true, true, true, true, true, true] rfl rfl (by kernel_rfl) (by decide) (fun K hK => ?_)
      have hs68 : w66.cell? ⟨gb156, 0, none⟩ = some (.int .i64 t140) := (Kc BK156.out 0).trans rfl
      have hfs68 := Kz BK156.out 0
      have hns68_0 := NB136_156.out
      have hms68_0 := NB156_136.out
      have hs69 : w66.cell? ⟨gb156, 1, none⟩ = some (.int .i64 0) := (Kc BK156.out 1).trans rfl
      have hfs69 := Kz BK156.out 1
      have hns69_0 := NB136_156.out
      have hms69_0 := NB156_136.out
      have hs70 : w66.cell? ⟨gb156, 2, none⟩ = some (.int .i64 t143) := (Kc BK156.out 2).trans rfl
      have hfs70 := Kz BK156.out 2
      have hns70_0 := NB136_156.out
      have hms70_0 := NB156_136.out
      have hs71 : w66.cell? ⟨gb156, 3, none⟩ = some (.int .i64 t146) := (Kc BK156.out 3).trans rfl
      have hfs71 := Kz BK156.out 3
      have hns71_0 := NB136_156.out
      have hms71_0 := NB156_136.out
      have hs72 : w66.cell? ⟨gb156, 4, none⟩ = some (.int .i64 t147) := (Kc BK156.out 4).trans rfl
      have hfs72 := Kz BK156.out 4
      have hns72_0 := NB136_156.out
      have hms72_0 := NB156_136.out
      have hs73 : w66.cell? ⟨gb156, 5, none⟩ = some (.int .i64 t148) := (Kc BK156.out 5).trans rfl
      have hfs73 := Kz BK156.out 5
      have hns73_0 := NB136_156.out
      have hms73_0 := NB156_136.out
      have hs74 : w66.cell? ⟨gb156, 6, none⟩ = some (.int .i64 t149) := (Kc BK156.out 6).trans rfl
      have hfs74 := Kz BK156.out 6
      have hns74_0 := NB136_156.out
      have hms74_0 := NB156_136.out
      have hs75 : w66.cell? ⟨gb156, 7, none⟩ = some (.int .i64 t150) := (Kc BK156.out 7).trans rfl
      have hfs75 := Kz BK156.out 7
      have hns75_0 := NB136_156.out
      have hms75_0 := NB156_136.out
      have hs76 : w66.cell? ⟨gb156, 8, none⟩ = some (.int .i64 t153) := (Kc BK156.out 8).trans rfl
      have hfs76 := Kz BK156.out 8
      have hns76_0 := NB136_156.out
      have hms76_0 := NB156_136.out
      have hs77 : w66.cell? ⟨gb156, 9, none⟩ = some (u157009) := (Kc BK156.out 9).trans rfl
      have hfs77 := Kz BK156.out 9
      have hns77_0 := NB136_156.out
      have hms77_0 := NB156_136.out
      refine skip_ (w1 := ?_) (by rfl) rfl ?_ ?_
      rotate_left
      ·go_simp
       rfl
      refine hK.out _ _ ?_
      clear hK K
      refine done_ (by kernel_rfl) ?_
      have hcz78_0 : w66.cell? ⟨gb156, 0, none⟩ = some (.int .i64 t140) := (Kc BK156.out 0).trans rfl
      have hcz78_1 : w66.cell? ⟨gb156, 1, none⟩ = some (.int .i64 0) := (Kc BK156.out 1).trans rfl
      have hcz78_2 : w66.cell? ⟨gb156, 2, none⟩ = some (.int .i64 t143) := (Kc BK156.out 2).trans rfl
      have hcz78_3 : w66.cell? ⟨gb156, 3, none⟩ = some (.int .i64 t146) := (Kc BK156.out 3).trans rfl
      have hcz78_4 : w66.cell? ⟨gb156, 4, none⟩ = some (.int .i64 t147) := (Kc BK156.out 4).trans rfl
      have hcz78_5 : w66.cell? ⟨gb156, 5, none⟩ = some (.int .i64 t148) := (Kc BK156.out 5).trans rfl
      have hcz78_6 : w66.cell? ⟨gb156, 6, none⟩ = some (.int .i64 t149) := (Kc BK156.out 6).trans rfl
      have hcz78_7 : w66.cell? ⟨gb156, 7, none⟩ = some (.int .i64 t150) := (Kc BK156.out 7).trans rfl
      have hcz78_8 : w66.cell? ⟨gb156, 8, none⟩ = some (.int .i64 t153) := (Kc BK156.out 8).trans rfl
      have hcz78_9 : w66.cell? ⟨gb156, 9, none⟩ = some (u157009) := (Kc BK156.out 9).trans rfl
      have hfz78_0 := Kz BK156.out 0
      have hfz78_1 := Kz BK156.out 1
      have hfz78_2 := Kz BK156.out 2
      have hfz78_3 := Kz BK156.out 3
      have hfz78_4 := Kz BK156.out 4
      have hfz78_5 := Kz BK156.out 5
      have hfz78_6 := Kz BK156.out 6
      have hfz78_7 := Kz BK156.out 7
      have hfz78_8 := Kz BK156.out 8
      have hfz78_9 := Kz BK156.out 9
      have hnb79 := NB136_0.out
      have hnc79 := NB0_136.out
      have hcz80_0 : w66.cell? ⟨gb136, 0, none⟩ = some (.int .i64 0) := (Kc BK136.out 0).trans rfl
      have hcz80_1 : w66.cell? ⟨gb136, 1, none⟩ = some (.int .i64 0) := (Kc BK136.out 1).trans rfl
      have hcz80_2 : w66.cell? ⟨gb136, 2, none⟩ = some (.int .i64 0) := (Kc BK136.out 2).trans rfl
      have hcz80_3 : w66.cell? ⟨gb136, 3, none⟩ = some (.int .i64 0) := (Kc BK136.out 3).trans rfl
      have hcz80_4 : w66.cell? ⟨gb136, 4, none⟩ = some (.int .i64 0) := (Kc BK136.out 4).trans rfl
      have hcz80_5 : w66.cell? ⟨gb136, 5, none⟩ = some (.int .i64 0) := (Kc BK136.out 5).trans rfl
      have hcz80_6 : w66.cell? ⟨gb136, 6, none⟩ = some (.int .i64 0) := (Kc BK136.out 6).trans rfl
      have hcz80_7 : w66.cell? ⟨gb136, 7, none⟩ = some (.int .i64 0) := (Kc BK136.out 7).trans rfl
      have hcz80_8 : w66.cell? ⟨gb136, 8, none⟩ = some (.int .i64 0) := (Kc BK136.out 8).trans rfl
      have hcz80_9 : w66.cell? ⟨gb136, 9, none⟩ = some (.slice none 0 0) := (Kc BK136.out 9).trans rfl
      have hfz80_0 := Kz BK136.out 0
      have hfz80_1 := Kz BK136.out 1
      have hfz80_2 := Kz BK136.out 2
      have hfz80_3 := Kz BK136.out 3
      have hfz80_4 := Kz BK136.out 4
      have hfz80_5 := Kz BK136.out 5
      have hfz80_6 := Kz BK136.out 6
      have hfz80_7 := Kz BK136.out 7
      have hfz80_8 := Kz BK136.out 8
      have hfz80_9 := Kz BK136.out 9
      try go_wp2
      refine bodyPost_ret (results_cell_row rfl _ _ gb136 39 #[.int .i64 t140, .int .i64 0, .int .i64 0, .int .i64 0, .int .i64 0, .int .i64 0, .int .i64 0, .int .i64 0, .int .i64 t170, .slice Ao67 t171.length co67] (0, 0) _ rfl (by (with_reducible repeat (first | refine Kn ?_ _ | refine Ke ?_ | refine Ka ?_ _)); refine blk_put (cs := #[.int .i64 t140, .int .i64 0, .int .i64 0, .int .i64 0, .int .i64 0, .int .i64 0, .int .i64 0, .int .i64 0, .int .i64 t170, .slice none 0 0]) ?_ 9 _ rfl; (with_reducible repeat (first | refine Kn ?_ _ | refine Ke ?_ | refine Ka ?_ _)); refine blk_put (cs := #[.int .i64 t140, .int .i64 0, .int .i64 0, .int .i64 0, .int .i64 0, .int .i64 0, .int .i64 0, .int .i64 0, .int .i64 0, .slice none 0 0]) ?_ 8 _ rfl; (with_reducible repeat (first | refine Kn ?_ _ | refine Ke ?_ | refine Ka ?_ _)); refine blk_put (cs := #[.int .i64 t140, .int .i64 0, .int .i64 0, .int .i64 0, .int .i64 0, .int .i64 0, .int .i64 0, .int .i64 0, .int .i64 0, .slice none 0 0]) ?_ 7 _ rfl; (with_reducible repeat (first | refine Kn ?_ _ | refine Ke ?_ | refine Ka ?_ _)); refine blk_put (cs := #[.int .i64 t140, .int .i64 0, .int .i64 0, .int .i64 0, .int .i64 0, .int .i64 0, .int .i64 0, .int .i64 0, .int .i64 0, .slice none 0 0]) ?_ 6 _ rfl; (with_reducible repeat (first | refine Kn ?_ _ | refine Ke ?_ | refine Ka ?_ _)); refine blk_put (cs := #[.int .i64 t140, .int .i64 0, .int .i64 0, .int .i64 0, .int .i64 0, .int .i64 0, .int .i64 0, .int .i64 0, .int .i64 0, .slice none 0 0]) ?_ 5 _ rfl; (with_reducible repeat (first | refine Kn ?_ _ | refine Ke ?_ | refine Ka ?_ _)); refine blk_put (cs := #[.int .i64 t140, .int .i64 0, .int .i64 0, .int .i64 0, .int .i64 0, .int .i64 0, .int .i64 0, .int .i64 0, .int .i64 0, .slice none 0 0]) ?_ 4 _ rfl; (with_reducible repeat (first | refine Kn ?_ _ | refine Ke ?_ | refine Ka ?_ _)); refine blk_put (cs := #[.int .i64 t140, .int .i64 0, .int .i64 0, .int .i64 0, .int .i64 0, .int .i64 0, .int .i64 0, .int .i64 0, .int .i64 0, .slice none 0 0]) ?_ 3 _ rfl; (with_reducible repeat (first | refine Kn ?_ _ | refine Ke ?_ | refine Ka ?_ _)); refine blk_put (cs := #[.int .i64 t140, .int .i64 0, .int .i64 0, .int .i64 0, .int .i64 0, .int .i64 0, .int .i64 0, .int .i64 0, .int .i64 0, .slice none 0 0]) ?_ 2 _ rfl; (with_reducible repeat (first | refine Kn ?_ _ | refine Ke ?_ | refine Ka ?_ _)); refine blk_put (cs := #[.int .i64 t140, .int .i64 0, .int .i64 0, .int .i64 0, .int .i64 0, .int .i64 0, .int .i64 0, .int .i64 0, .int .i64 0, .slice none 0 0]) ?_ 1 _ rfl; (with_reducible repeat (first | refine Kn ?_ _ | refine Ke ?_ | refine Ka ?_ _)); refine blk_put (cs := #[.int .i64 0, .int .i64 0, .int .i64 0, .int .i64 0, .int .i64 0, .int .i64 0, .int .i64 0, .int .i64 0, .int .i64 0, .slice none 0 0]) ?_ 0 _ rfl; (with_reducible repeat (first | refine Kn ?_ _ | refine Ke ?_ | refine Ka ?_ _)); refine Kf ?_ NB136_156.out _; (with_reducible repeat (first | refine Kn ?_ _ | refine Ke ?_ | refine Ka ?_ _)); refine Kf ?_ NB136_156.out _; (with_reducible repeat (first | refine Kn ?_ _ | refine Ke ?_ | refine Ka ?_ _)); refine Kf ?_ NB136_156.out _; (with_reducible repeat (first | refine Kn ?_ _ | refine Ke ?_ | refine Ka ?_ _)); refine Kf ?_ NB136_156.out _; (with_reducible repeat (first | refine Kn ?_ _ | refine Ke ?_ | refine Ka ?_ _)); refine Kf ?_ NB136_156.out _; (with_reducible repeat (first | refine Kn ?_ _ | refine Ke ?_ | refine Ka ?_ _)); refine Kf ?_ NB136_156.out _; (with_reducible repeat (first | refine Kn ?_ _ | refine Ke ?_ | refine Ka ?_ _)); refine Kf ?_ NB136_156.out _; (with_reducible repeat (first | refine Kn ?_ _ | refine Ke ?_ | refine Ka ?_ _)); refine Kf ?_ NB136_156.out _; (with_reducible repeat (first | refine Kn ?_ _ | refine Ke ?_ | refine Ka ?_ _)); refine Kf ?_ NB136_156.out _; (with_reducible repeat (first | refine Kn ?_ _ | refine Ke ?_ | refine Ka ?_ _)); refine Kf ?_ NB136_156.out _; (with_reducible repeat (first | refine Kn ?_ _ | refine Ke ?_ | refine Ka ?_ _)); exact BK136.out) Try.underlying39 rfl (by kernel_rfl)) rfl ?_
      exact ⟨_, by first | rfl | (simp [*, errW_none, errW_some] <;> rfl), by (with_reducible repeat (first | apply Ra | apply Rn | apply Rd)); exact Kd.R_mono (Kd.R_far (p := ⟨gb136, 9, none⟩) (Kd.R_far (p := ⟨gb136, 8, none⟩) (Kd.R_far (p := ⟨gb136, 7, none⟩) (Kd.R_far (p := ⟨gb136, 6, none⟩) (Kd.R_far (p := ⟨gb136, 5, none⟩) (Kd.R_far (p := ⟨gb136, 4, none⟩) (Kd.R_far (p := ⟨gb136, 3, none⟩) (Kd.R_far (p := ⟨gb136, 2, none⟩) (Kd.R_far (p := ⟨gb136, 1, none⟩) (Kd.R_far (p := ⟨gb136, 0, none⟩) (Kd.R_far (p := ⟨gb156, 9, none⟩) (Kd.R_far (p := ⟨gb156, 8, none⟩) (Kd.R_far (p := ⟨gb156, 7, none⟩) (Kd.R_far (p := ⟨gb156, 6, none⟩) (Kd.R_far (p := ⟨gb156, 5, none⟩) (Kd.R_far (p := ⟨gb156, 4, none⟩) (Kd.R_far (p := ⟨gb156, 3, none⟩) (Kd.R_far (p := ⟨gb156, 2, none⟩) (Kd.R_far (p := ⟨gb156, 1, none⟩) (Kd.R_far (p := ⟨gb156, 0, none⟩) (Kd.R_types (Kd.R_types HO173.out BK156.out (by decide)) BK136.out (by decide)) (fun _ hk => hk.1.2) (.int .i64 t140)) (fun _ hk => hk.1.2) (.int .i64 0)) (fun _ hk => hk.1.2) (.int .i64 0)) (fun _ hk => hk.1.2) (.int .i64 0)) (fun _ hk => hk.1.2) (.int .i64 0)) (fun _ hk => hk.1.2) (.int .i64 0)) (fun _ hk => hk.1.2) (.int .i64 0)) (fun _ hk => hk.1.2) (.int .i64 0)) (fun _ hk => hk.1.2) (.int .i64 t170)) (fun _ hk => hk.1.2) (.slice Ao67 t171.length co67)) (fun _ hk => hk.2) (.int .i64 t140)) (fun _ hk => hk.2) (.int .i64 0)) (fun _ hk => hk.2) (.int .i64 0)) (fun _ hk => hk.2) (.int .i64 0)) (fun _ hk => hk.2) (.int .i64 0)) (fun _ hk => hk.2) (.int .i64 0)) (fun _ hk => hk.2) (.int .i64 0)) (fun _ hk => hk.2) (.int .i64 0)) (fun _ hk => hk.2) (.int .i64 t170)) (fun _ hk => hk.2) (.slice Ao67 t171.length co67)) (fun _ hk => trivial), by repeat (first | (with_reducible first | exact HI0.out | apply IsS60.alloc | apply IsS60.drewN | apply IsS60.drew | apply IsS60.set_1 | apply IsS60.set_2 | refine IsS60.far ?_ NB0_136.out _ | refine IsS60.far ?_ NB0_156.out _) | exact HI0.out), by repeat (first | (with_reducible first | exact HB.out | apply Ba | apply Bn | apply Bd | refine Bs ?_ (IsS60.ge HI0.out) | refine Bs ?_ GE136.out | refine Bs ?_ GE156.out) | exact HB.out), by repeat (first | (with_reducible first | exact HK.out | apply KeepBut.set_ | apply keep_drewN | apply keep_drew | apply keep_alloc | refine keep_far ?_ GW136.out _ | refine keep_far ?_ GW156.out _) | exact HK.out)⟩
     ·rw [if_neg c59] at H
      have c59b0 : (t143 == 0) = false := beq_eq_false_iff_ne.mpr c59
      have c59b1 : (t143 != 0) = true := bne_iff_ne.mpr c59
      simp only [Option.some.injEq, Prod.mk.injEq] at H
      obtain ⟨rfl, rfl, rfl, rfl, rfl, rfl, rfl, rfl, rfl, rfl, rfl, rfl⟩ := H
      go_wp2_with (first | ((refine Gc (f := 84) rfl ?_); refine goesL_ (some 33) rfl rfl Try.func84 (by kernel_rfl) rfl #[.pointer (some ⟨g, 0, none⟩), .int .i64 2] rfl (by first | rfl | (simp only [List.map_toArray, List.map_cons, List.map_nil]; first | done | rfl)) ?_; (with_reducible refine (spec_l1Cur_one.calls g s0_0 x1001_1 x1002_1 2 false t164 t165 w0 _ ?side1 ?side2 A27.out).mono ?_); (case side1 => repeat (first | (with_reducible first | exact HI0.out | apply IsS60.alloc | apply IsS60.drewN | apply IsS60.drew | apply IsS60.set_1 | apply IsS60.set_2 | refine IsS60.far ?_ NB0_136.out _ | refine IsS60.far ?_ NB0_156.out _) | exact HI0.out)); (case side2 => repeat (first | (with_reducible first | exact HB.out | apply Ba | apply Bn | apply Bd | refine Bs ?_ (IsS60.ge HI0.out) | refine Bs ?_ GE136.out | refine Bs ?_ GE156.out) | exact HB.out)); rintro e w81 ⟨rfl, hi, hb, hk⟩; refine ⟨_, rfl, ?_⟩; have n0_ := Am (Kd.R_mono (Kd.R_keep (IsS60.apart (show IsS60 w0 _ g s0_0 x1001_1 x1002_1 from by repeat (first | (with_reducible first | exact HI0.out | apply IsS60.alloc | apply IsS60.drewN | apply IsS60.drew | apply IsS60.set_1 | apply IsS60.set_2 | refine IsS60.far ?_ NB0_136.out _ | refine IsS60.far ?_ NB0_156.out _) | exact HI0.out)) (by (with_reducible repeat (first | apply Ra | apply Rn | apply Rd)); exact HO_157009.out) (by decide)) hk (fun _ h => h.2)) (fun _ h => h.1)); have n1_ := Am (KeepBut.blk hk (g' := gb136) (o := .cells #[.int .i64 0, .int .i64 0, .int .i64 0, .int .i64 0, .int .i64 0, .int .i64 0, .int .i64 0, .int .i64 0, .int .i64 0, .slice none 0 0] 39 (0, 0)) (by (with_reducible repeat (first | refine Kn ?_ _ | refine Ke ?_ | refine Ka ?_ _)); exact BK136.out) NB136_0.out (by simp)); have n2_ := Am (KeepBut.blk hk (g' := gb156) (o := .cells #[.int .i64 t140, .int .i64 0, .int .i64 t143, .int .i64 t146, .int .i64 t147, .int .i64 t148, .int .i64 t149, .int .i64 t150, .int .i64 t153, u157009] 39 (0, 0)) (by (with_reducible repeat (first | refine Kn ?_ _ | refine Ke ?_ | refine Ka ?_ _)); exact BK156.out) NB156_0.out (by simp)); have n3_ := Am (KeepBut.trans (by repeat (first | (with_reducible first | exact HK.out | apply KeepBut.set_ | apply keep_drewN | apply keep_drew | apply keep_alloc | refine keep_far ?_ GW136.out _ | refine keep_far ?_ GW156.out _) | exact HK.out)) hk (.inl rfl)); have n4_ := Am (hb); have n5_ := Am (hi); clear HO_157009; clear BK136; clear BK156; clear HK; clear HB; clear HI0; have HO_157009 := n0_; have BK136 := n1_; have BK156 := n2_; have HK := n3_; have HB := n4_; have HI0 := n5_; clear n0_ n1_ n2_ n3_ n4_ n5_; (try clear hb); (try clear hb2); (try clear hk); (try clear hi); have hnb82 := NB156_136.out; have hnc82 := NB136_156.out; have hnb83 := NB156_0.out; have hnc83 := NB0_156.out; have hcz84_0 : w81.cell? ⟨gb156, 0, none⟩ = some (.int .i64 t140) := (Kc BK156.out 0).trans rfl; have hcz84_1 : w81.cell? ⟨gb156, 1, none⟩ = some (.int .i64 0) := (Kc BK156.out 1).trans rfl; have hcz84_2 : w81.cell? ⟨gb156, 2, none⟩ = some (.int .i64 t143) := (Kc BK156.out 2).trans rfl; have hcz84_3 : w81.cell? ⟨gb156, 3, none⟩ = some (.int .i64 t146) := (Kc BK156.out 3).trans rfl; have hcz84_4 : w81.cell? ⟨gb156, 4, none⟩ = some (.int .i64 t147) := (Kc BK156.out 4).trans rfl; have hcz84_5 : w81.cell? ⟨gb156, 5, none⟩ = some (.int .i64 t148) := (Kc BK156.out 5).trans rfl; have hcz84_6 : w81.cell? ⟨gb156, 6, none⟩ = some (.int .i64 t149) := (Kc BK156.out 6).trans rfl; have hcz84_7 : w81.cell? ⟨gb156, 7, none⟩ = some (.int .i64 t150) := (Kc BK156.out 7).trans rfl; have hcz84_8 : w81.cell? ⟨gb156, 8, none⟩ = some (.int .i64 t153) := (Kc BK156.out 8).trans rfl; have hcz84_9 : w81.cell? ⟨gb156, 9, none⟩ = some (u157009) := (Kc BK156.out 9).trans rfl; have hfz84_0 := Kz BK156.out 0; have hfz84_1 := Kz BK156.out 1; have hfz84_2 := Kz BK156.out 2; have hfz84_3 := Kz BK156.out 3; have hfz84_4 := Kz BK156.out 4; have hfz84_5 := Kz BK156.out 5; have hfz84_6 := Kz BK156.out 6; have hfz84_7 := Kz BK156.out 7; have hfz84_8 := Kz BK156.out 8; have hfz84_9 := Kz BK156.out 9; have hnb85 := NB136_0.out; have hnc85 := NB0_136.out; have hcz86_0 : w81.cell? ⟨gb136, 0, none⟩ = some (.int .i64 0) := (Kc BK136.out 0).trans rfl; have hcz86_1 : w81.cell? ⟨gb136, 1, none⟩ = some (.int .i64 0) := (Kc BK136.out 1).trans rfl; have hcz86_2 : w81.cell? ⟨gb136, 2, none⟩ = some (.int .i64 0) := (Kc BK136.out 2).trans rfl; have hcz86_3 : w81.cell? ⟨gb136, 3, none⟩ = some (.int .i64 0) := (Kc BK136.out 3).trans rfl; have hcz86_4 : w81.cell? ⟨gb136, 4, none⟩ = some (.int .i64 0) := (Kc BK136.out 4).trans rfl; have hcz86_5 : w81.cell? ⟨gb136, 5, none⟩ = some (.int .i64 0) := (Kc BK136.out 5).trans rfl; have hcz86_6 : w81.cell? ⟨gb136, 6, none⟩ = some (.int .i64 0) := (Kc BK136.out 6).trans rfl; have hcz86_7 : w81.cell? ⟨gb136, 7, none⟩ = some (.int .i64 0) := (Kc BK136.out 7).trans rfl; have hcz86_8 : w81.cell? ⟨gb136, 8, none⟩ = some (.int .i64 0) := (Kc BK136.out 8).trans rfl; have hcz86_9 : w81.cell? ⟨gb136, 9, none⟩ = some (.slice none 0 0) := (Kc BK136.out 9).trans rfl; have hfz86_0 := Kz BK136.out 0; have hfz86_1 := Kz BK136.out 1; have hfz86_2 := Kz BK136.out 2; have hfz86_3 := Kz BK136.out 3; have hfz86_4 := Kz BK136.out 4; have hfz86_5 := Kz BK136.out 5; have hfz86_6 := Kz BK136.out 6; have hfz86_7 := Kz BK136.out 7; have hfz86_8 := Kz BK136.out 8; have hfz86_9 := Kz BK136.out 9; obtain ⟨Ao87, co87, eo87⟩ := Kd.R_slice HO_157009.out; subst eo87))
      refine bodyPost_ret (results_cell_row rfl _ _ gb136 39 #[.int .i64 t140, .int .i64 0, .int .i64 t143, .int .i64 t146, .int .i64 t147, .int .i64 t148, .int .i64 t149, .int .i64 t150, .int .i64 t153, .slice Ao87 x157009_1.length co87] (0, 0) _ rfl (by (with_reducible repeat (first | refine Kn ?_ _ | refine Ke ?_ | refine Ka ?_ _)); refine blk_put (cs := #[.int .i64 t140, .int .i64 0, .int .i64 t143, .int .i64 t146, .int .i64 t147, .int .i64 t148, .int .i64 t149, .int .i64 t150, .int .i64 t153, .slice none 0 0]) ?_ 9 _ rfl; (with_reducible repeat (first | refine Kn ?_ _ | refine Ke ?_ | refine Ka ?_ _)); refine blk_put (cs := #[.int .i64 t140, .int .i64 0, .int .i64 t143, .int .i64 t146, .int .i64 t147, .int .i64 t148, .int .i64 t149, .int .i64 t150, .int .i64 0, .slice none 0 0]) ?_ 8 _ rfl; (with_reducible repeat (first | refine Kn ?_ _ | refine Ke ?_ | refine Ka ?_ _)); refine blk_put (cs := #[.int .i64 t140, .int .i64 0, .int .i64 t143, .int .i64 t146, .int .i64 t147, .int .i64 t148, .int .i64 t149, .int .i64 0, .int .i64 0, .slice none 0 0]) ?_ 7 _ rfl; (with_reducible repeat (first | refine Kn ?_ _ | refine Ke ?_ | refine Ka ?_ _)); refine blk_put (cs := #[.int .i64 t140, .int .i64 0, .int .i64 t143, .int .i64 t146, .int .i64 t147, .int .i64 t148, .int .i64 0, .int .i64 0, .int .i64 0, .slice none 0 0]) ?_ 6 _ rfl; (with_reducible repeat (first | refine Kn ?_ _ | refine Ke ?_ | refine Ka ?_ _)); refine blk_put (cs := #[.int .i64 t140, .int .i64 0, .int .i64 t143, .int .i64 t146, .int .i64 t147, .int .i64 0, .int .i64 0, .int .i64 0, .int .i64 0, .slice none 0 0]) ?_ 5 _ rfl; (with_reducible repeat (first | refine Kn ?_ _ | refine Ke ?_ | refine Ka ?_ _)); refine blk_put (cs := #[.int .i64 t140, .int .i64 0, .int .i64 t143, .int .i64 t146, .int .i64 0, .int .i64 0, .int .i64 0, .int .i64 0, .int .i64 0, .slice none 0 0]) ?_ 4 _ rfl; (with_reducible repeat (first | refine Kn ?_ _ | refine Ke ?_ | refine Ka ?_ _)); refine blk_put (cs := #[.int .i64 t140, .int .i64 0, .int .i64 t143, .int .i64 0, .int .i64 0, .int .i64 0, .int .i64 0, .int .i64 0, .int .i64 0, .slice none 0 0]) ?_ 3 _ rfl; (with_reducible repeat (first | refine Kn ?_ _ | refine Ke ?_ | refine Ka ?_ _)); refine blk_put (cs := #[.int .i64 t140, .int .i64 0, .int .i64 0, .int .i64 0, .int .i64 0, .int .i64 0, .int .i64 0, .int .i64 0, .int .i64 0, .slice none 0 0]) ?_ 2 _ rfl; (with_reducible repeat (first | refine Kn ?_ _ | refine Ke ?_ | refine Ka ?_ _)); refine blk_put (cs := #[.int .i64 t140, .int .i64 0, .int .i64 0, .int .i64 0, .int .i64 0, .int .i64 0, .int .i64 0, .int .i64 0, .int .i64 0, .slice none 0 0]) ?_ 1 _ rfl; (with_reducible repeat (first | refine Kn ?_ _ | refine Ke ?_ | refine Ka ?_ _)); refine blk_put (cs := #[.int .i64 0, .int .i64 0, .int .i64 0, .int .i64 0, .int .i64 0, .int .i64 0, .int .i64 0, .int .i64 0, .int .i64 0, .slice none 0 0]) ?_ 0 _ rfl; (with_reducible repeat (first | refine Kn ?_ _ | refine Ke ?_ | refine Ka ?_ _)); exact BK136.out) Try.underlying39 rfl (by kernel_rfl)) rfl ?_
      exact ⟨_, by first | rfl | (simp [*, errW_none, errW_some] <;> rfl), by (with_reducible repeat (first | apply Ra | apply Rn | apply Rd)); exact Kd.R_mono (Kd.R_far (p := ⟨gb136, 9, none⟩) (Kd.R_far (p := ⟨gb136, 8, none⟩) (Kd.R_far (p := ⟨gb136, 7, none⟩) (Kd.R_far (p := ⟨gb136, 6, none⟩) (Kd.R_far (p := ⟨gb136, 5, none⟩) (Kd.R_far (p := ⟨gb136, 4, none⟩) (Kd.R_far (p := ⟨gb136, 3, none⟩) (Kd.R_far (p := ⟨gb136, 2, none⟩) (Kd.R_far (p := ⟨gb136, 1, none⟩) (Kd.R_far (p := ⟨gb136, 0, none⟩) (Kd.R_types HO_157009.out BK136.out (by decide)) (fun _ hk => hk.2) (.int .i64 t140)) (fun _ hk => hk.2) (.int .i64 0)) (fun _ hk => hk.2) (.int .i64 t143)) (fun _ hk => hk.2) (.int .i64 t146)) (fun _ hk => hk.2) (.int .i64 t147)) (fun _ hk => hk.2) (.int .i64 t148)) (fun _ hk => hk.2) (.int .i64 t149)) (fun _ hk => hk.2) (.int .i64 t150)) (fun _ hk => hk.2) (.int .i64 t153)) (fun _ hk => hk.2) (.slice Ao87 x157009_1.length co87)) (fun _ hk => trivial), by repeat (first | (with_reducible first | exact HI0.out | apply IsS60.alloc | apply IsS60.drewN | apply IsS60.drew | apply IsS60.set_1 | apply IsS60.set_2 | refine IsS60.far ?_ NB0_136.out _ | refine IsS60.far ?_ NB0_156.out _) | exact HI0.out), by repeat (first | (with_reducible first | exact HB.out | apply Ba | apply Bn | apply Bd | refine Bs ?_ (IsS60.ge HI0.out) | refine Bs ?_ GE136.out | refine Bs ?_ GE156.out) | exact HB.out), by repeat (first | (with_reducible first | exact HK.out | apply KeepBut.set_ | apply keep_drewN | apply keep_drew | apply keep_alloc | refine keep_far ?_ GW136.out _ | refine keep_far ?_ GW156.out _) | exact HK.out)⟩
end Go.Proofs.Ytilmcfdhijdhpaa.QFnAttrFor
