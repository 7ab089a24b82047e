-- Written by a program of this session (wip/mk.py) over the kit's print: Lean checks it.
import Derived.Test.YtpboalgecejoeaaGreatDoorQFnAttrsx0
import Derived.Test.YtpboalgecejoeaaGreatDoorQFnAttrsx1
namespace Go.Proofs.YtpboalgecejoeaaGreatDoor.QFnAttrs
open Go.Proofs.YtpboalgecejoeaaGreatDoorW.PrintWords.Kd renaming R_alloc → Ra, R_drewN → Rn, R_drew → Rd
open Go.Proofs.YtpboalgecejoeaaGreatDoorW.PrintWords renaming below_alloc → Ba, pw_below_drewN → Bn, below_drew1 → Bd, below_set → Bs, below_step → Bt, gate_dst → Gd, gate_callee → Gc, box_event → Be, blk_alloc → Ka, blk_drewN → Kn, blk_drew → Ke, blk_below → Kb, blk_cell → Kc, blk_far → Kf, blk_frozen → Kz
open List renaming setIfInBounds_toArray → Lt, set_cons_zero → Lz, set_cons_succ → Ls
open Go.Proofs.YtpboalgecejoeaaGreatDoorW.PrintWords.Aside0 renaming mk → Am
open Go.Proofs.YtpboalgecejoeaaGreatDoorW.PrintWords renaming Aside0 → Ad
open Go.RowKit Go.Proofs.YtpboalgecejoeaaGreatDoorW.PrintWords Go.Proofs.YtpboalgecejoeaaGreatDoorW.PrintLast Go.Proofs.YtpboalgecejoeaaGreatDoorW.PrintMore
attribute [local go_sem] max2_int min2_int max_two min_two max_three min_three max_four min_four   -- for this text's walks alone
open Go.Proofs.YtpboalgecejoeaaGreatDoorW.PrintWords.Kd renaming R_mono → Rm, R_slice → Rs
set_option linter.unusedVariables false
set_option linter.unusedSimpArgs false
def spec_l1Cur_attr.l0 : Nat → Int → Int → List Int → Int → Int → Int → List Int → Option (Int × List Int × Int × Int)
 | 0, _, _, _, _, _, _, _ => none
 | k + 1, x1, x6, x1000, x1001, x1002, x123000, x123001 => if x6 < x1 then ((spec_l1Cur_pick.f x1000 x1001 x1002 4).bind fun bt123 => (if x123001.length < 17592186044416 then (spec_l1Cur_attr.l0 k x1 (wrap64 (x6 + 1)) x1000 bt123.2.1 bt123.2.2 x123000 (x123001 ++ [bt123.1])) else (none))) else ((spec_l1Cur_pick.f x1000 x1001 x1002 30).bind fun bt129 => (if bt129.1 = 0 then ((spec_l1Cur_among.f x1000 bt129.2.1 bt129.2.2 (([(-1), 999, 1000] : List Int))).bind fun bt135 => (some (bt135.1, x123001, bt135.2.1, bt135.2.2))) else (if bt129.1 = 1 then (if x1 > 0 then ((spec_l1Cur_among.f x1000 bt129.2.1 bt129.2.2 (([(-1), 6, 7] : List Int))).bind fun bt141 => (if 0 < (x123001.length : Int) then (some (x123000, (x123001.set (0 : Int).toNat bt141.1), bt141.2.1, bt141.2.2)) else (none))) else (some (x123000, x123001, bt129.2.1, bt129.2.2))) else (if bt129.1 = 2 then (if x123001.length < 17592186044416 then (some (x123000, (x123001 ++ [1]), bt129.2.1, bt129.2.2)) else (none)) else (some (x123000, x123001, bt129.2.1, bt129.2.2))))))
def spec_l1Cur_attr.f (k : Nat) (s0_0 : List Int) (s0_1 : Int) (s0_2 : Int) (a1 : Int) : Option (Int × List Int × Int × Int) := (spec_l1Cur_pick.f s0_0 s0_1 s0_2 5).bind fun bt119 => (spec_l1Cur_attr.l0 k a1 0 s0_0 bt119.2.1 bt119.2.2 bt119.1 ([] : List Int))
theorem spec_l1Cur_attr.mono_l : ∀ k, (∀ y0 y1 y2 y3 y4 y5 y6, LeO (spec_l1Cur_attr.l0 k y0 y1 y2 y3 y4 y5 y6) (spec_l1Cur_attr.l0 (k + 1) y0 y1 y2 y3 y4 y5 y6))
 | 0 => fun _ _ _ _ _ _ _ r h => by simp [spec_l1Cur_attr.l0] at h
 | k + 1 => by
  have ih0 := spec_l1Cur_attr.mono_l k
  ·intro y0 y1 y2 y3 y4 y5 y6
   unfold spec_l1Cur_attr.l0
   repeat' first
   | (with_reducible exact ih0 _ _ _ _ _ _ _)
   | (with_reducible exact LeO.refl _)
   | (with_reducible exact LeO.none _)
   | (with_reducible refine LeO.ite ?_ ?_)
   | (with_reducible refine LeO.bind ?_ (fun _ => ?_))
   | exact ih0 _ _ _ _ _ _ _
   | exact LeO.none _
   | refine LeO.ite ?_ ?_
   | refine LeO.bind ?_ (fun _ => ?_)
theorem spec_l1Cur_attr.mono : ∀ a0 a1 a2 a3 k, LeO (spec_l1Cur_attr.f k a0 a1 a2 a3) (spec_l1Cur_attr.f (k + 1) a0 a1 a2 a3) := by
 intro a0 a1 a2 a3 k
 have ih0 := spec_l1Cur_attr.mono_l k
 unfold spec_l1Cur_attr.f
 repeat' first
   | (with_reducible exact ih0 _ _ _ _ _ _ _)
   | (with_reducible exact LeO.refl _)
   | (with_reducible exact LeO.none _)
   | (with_reducible refine LeO.ite ?_ ?_)
   | (with_reducible refine LeO.bind ?_ (fun _ => ?_))
   | exact ih0 _ _ _ _ _ _ _
   | exact LeO.none _
   | refine LeO.ite ?_ ?_
   | refine LeO.bind ?_ (fun _ => ?_)
def spec_l1Cur_attr.T5 : Bool × List (List Nat × List Nat) := (true, [([], []), ([0], [0]), ([], []), ([2], [2]), ([3], [3]), ([1, 4, 3], [1, 4]), ([0, 1, 2, 3, 4, 5], []), ([6, 5, 5, 0, 1, 2, 3, 4, 5], [5, 6])])
def spec_l1Cur_attr.B5 : List Nat := [0, 1, 0, 4, 12, 31, 63, 127]
theorem spec_l1Cur_attr.tab5 : rtab .any (opsOf Tryz.f26 5) = spec_l1Cur_attr.T5 := by kernel_rfl
theorem spec_l1Cur_attr.bits5 : waitsOk spec_l1Cur_attr.T5.2 spec_l1Cur_attr.B5 = true := by kernel_rfl
set_option maxHeartbeats 8000000 in
set_option maxRecDepth 100000 in
theorem spec_l1Cur_attr.calls (k : Nat) (g : Nat) (s0_0 : List Int) (s0_1 : Int) (s0_2 : Int) (a1 : Int) (r1 : Int) (r2 : List Int) (r3 : Int) (r4 : Int) (w0 w : World) (hI : IsS49 w0 w g s0_0 s0_1 s0_2) (hB : Below w0.heap.size w0 w) (h : spec_l1Cur_attr.f k s0_0 s0_1 s0_2 a1 = some (r1, r2, r3, r4)) :
  Calls Tryz.prog 26 #[.pointer (some ⟨g, 0, none⟩), .int .i64 a1] w fun e w' => ∃ v1_ : Value, e = .returned (.agg #[.int .i64 r1, v1_]) ∧ Kd.R (Kd.int .i64) 3 w' w.heap.size (fun _ => True) v1_ r2 ∧ IsS49 w0 w' g s0_0 r3 r4 ∧ Below w0.heap.size w0 w' ∧ KeepBut w w' g none := by
 have hu26 := Tryz.underlying26
 have HI0 := Am hI
 have HK := Am (KeepBut.refl w g none)
 have HL := Am hB.size
 clear hI
 have HW0 := Am hB.size
 have HB := Am hB
 clear hB
 have H : ((spec_l1Cur_pick.f s0_0 s0_1 s0_2 5).bind fun bt119 => (spec_l1Cur_attr.l0 k a1 0 s0_0 bt119.2.1 bt119.2.2 bt119.1 ([] : List Int))) = some (r1, r2, r3, r4) := h
 clear h
 replace H := Option.bind_eq_some_iff.mp H
 obtain ⟨⟨t119, t120, t121⟩, A30, H⟩ := H
 replace H : (spec_l1Cur_attr.l0 k a1 0 s0_0 t120 t121 t119 ([] : List Int)) = some (r1, r2, r3, r4) := H
 have A3 := Am A30
 clear A30
 have H' := Am H
 clear H
 go_enter Tryz.func26, Tryz.ntmps26
 go_wp2_with (first | ((refine Gd (N := 4) rfl ?_); refine Be ?hg (N := 4) ?hd (cs := #[.int .i64 0, .slice none 0 0]) (t := 26) ?hr ?_; (case hd | hg => rfl); (case hr => first | (go_simp; done) | (go_simp; rfl)); intro gb118 hg w4 hbox hb; have n0_ := Am (IsS49.below (by repeat (first | (with_reducible first | exact HI0.out | apply IsS49.alloc | apply IsS49.drewN | apply IsS49.drew | apply IsS49.set_1 | apply IsS49.set_2) | exact HI0.out)) hb); have n1_ := Am (KeepBut.trans (by repeat (first | (with_reducible first | exact HK.out | apply KeepBut.set_ | apply keep_drewN | apply keep_drew | apply keep_alloc) | exact HK.out)) (KeepBut.of_below hb g none) (.inl rfl)); have n2_ := Am (Bt (by repeat (first | (with_reducible first | exact HB.out | apply Ba | apply Bn | apply Bd | refine Bs ?_ (IsS49.ge HI0.out)) | exact HB.out)) hb); have n3_ := Am (hbox); have n4_ := Am ((by rw [hg]; exact (keep_size (w := w) (g := g) (row := none) (by repeat (first | (with_reducible first | exact HK.out | apply KeepBut.set_ | apply keep_drewN | apply keep_drew | apply keep_alloc) | exact HK.out))) : w.heap.size ≤ gb118)); have n5_ := Am ((Nat.le_trans HW0.out (by rw [hg]; exact (keep_size (w := w) (g := g) (row := none) (by repeat (first | (with_reducible first | exact HK.out | apply KeepBut.set_ | apply keep_drewN | apply keep_drew | apply keep_alloc) | exact HK.out))) : w.heap.size ≤ gb118) : w0.heap.size ≤ gb118)); have n6_ := Am ((by rw [hg]; exact Nat.ne_of_lt (IsS49.lt (show IsS49 w0 _ g s0_0 s0_1 s0_2 from by repeat (first | (with_reducible first | exact HI0.out | apply IsS49.alloc | apply IsS49.drewN | apply IsS49.drew | apply IsS49.set_1 | apply IsS49.set_2) | exact HI0.out))) : g ≠ gb118)); have n7_ := Am ((by rw [hg]; exact Nat.ne_of_gt (IsS49.lt (show IsS49 w0 _ g s0_0 s0_1 s0_2 from by repeat (first | (with_reducible first | exact HI0.out | apply IsS49.alloc | apply IsS49.drewN | apply IsS49.drew | apply IsS49.set_1 | apply IsS49.set_2) | exact HI0.out))) : gb118 ≠ g)); clear HI0; clear HK; clear HB; have HI0 := n0_; have HK := n1_; have HB := n2_; have BK118 := n3_; have GW118 := n4_; have GE118 := n5_; have NB0_118 := n6_; have NB118_0 := n7_; clear n0_ n1_ n2_ n3_ n4_ n5_ n6_ n7_; clear hb hbox hg) | ((refine Gc (f := 50) rfl ?_); refine goesL_ (some 8) rfl rfl Tryz.func50 (by kernel_rfl) rfl #[.pointer (some ⟨g, 0, none⟩), .int .i64 5] rfl (by first | rfl | (simp only [List.map_toArray, List.map_cons, List.map_nil]; first | done | rfl)) ?_; (with_reducible refine (spec_l1Cur_pick.calls g s0_0 s0_1 s0_2 5 t119 t120 t121 w0 _ ?side1 ?side2 A3.out).mono ?_); (case side1 => repeat (first | (with_reducible first | exact HI0.out | apply IsS49.alloc | apply IsS49.drewN | apply IsS49.drew | apply IsS49.set_1 | apply IsS49.set_2 | refine IsS49.far ?_ NB0_118.out _) | exact HI0.out)); (case side2 => repeat (first | (with_reducible first | exact HB.out | apply Ba | apply Bn | apply Bd | refine Bs ?_ (IsS49.ge HI0.out) | refine Bs ?_ GE118.out) | exact HB.out)); rintro e w5 ⟨rfl, hi, hb, hk⟩; refine ⟨_, rfl, ?_⟩; have n0_ := Am (KeepBut.blk hk (g' := gb118) (o := .cells #[.int .i64 0, .slice none 0 0] 26 (0, 0)) (by (with_reducible repeat (first | refine Kn ?_ _ | refine Ke ?_ | refine Ka ?_ _)); exact BK118.out) NB118_0.out (by simp)); have n1_ := Am (KeepBut.trans (by repeat (first | (with_reducible first | exact HK.out | apply KeepBut.set_ | apply keep_drewN | apply keep_drew | apply keep_alloc | refine keep_far ?_ GW118.out _) | exact HK.out)) hk (.inl rfl)); have n2_ := Am (hb); have n3_ := Am (hi); clear BK118; clear HK; clear HB; clear HI0; have BK118 := n0_; have HK := n1_; have HB := n2_; have HI0 := n3_; clear n0_ n1_ n2_ n3_; (try clear hb); (try clear hb2); (try clear hk); (try clear hi)) | ((refine Gd (N := 5) rfl ?_); refine Be ?hg (N := 5) ?hd (cs := #[.int .i64 0, .slice none 0 0]) (t := 26) ?hr ?_; (case hd | hg => rfl); (case hr => first | (go_simp; done) | (go_simp; rfl)); intro gb122 hg w6 hbox hb; have n0_ := Am (IsS49.below (by repeat (first | (with_reducible first | exact HI0.out | apply IsS49.alloc | apply IsS49.drewN | apply IsS49.drew | apply IsS49.set_1 | apply IsS49.set_2 | refine IsS49.far ?_ NB0_118.out _) | exact HI0.out)) hb); have n1_ := Am (Kb (g := gb118) (o := .cells #[.int .i64 0, .slice none 0 0] 26 (0, 0)) (by (with_reducible repeat (first | refine Kn ?_ _ | refine Ke ?_ | refine Ka ?_ _)); exact BK118.out) hb); have n2_ := Am (KeepBut.trans (by repeat (first | (with_reducible first | exact HK.out | apply KeepBut.set_ | apply keep_drewN | apply keep_drew | apply keep_alloc | refine keep_far ?_ GW118.out _) | exact HK.out)) (KeepBut.of_below hb g none) (.inl rfl)); have n3_ := Am (Bt (by repeat (first | (with_reducible first | exact HB.out | apply Ba | apply Bn | apply Bd | refine Bs ?_ (IsS49.ge HI0.out) | refine Bs ?_ GE118.out) | exact HB.out)) hb); have n4_ := Am (hbox); have n5_ := Am ((by rw [hg]; exact (keep_size (w := w) (g := g) (row := none) (by repeat (first | (with_reducible first | exact HK.out | apply KeepBut.set_ | apply keep_drewN | apply keep_drew | apply keep_alloc | refine keep_far ?_ GW118.out _) | exact HK.out))) : w.heap.size ≤ gb122)); have n6_ := Am ((Nat.le_trans HW0.out (by rw [hg]; exact (keep_size (w := w) (g := g) (row := none) (by repeat (first | (with_reducible first | exact HK.out | apply KeepBut.set_ | apply keep_drewN | apply keep_drew | apply keep_alloc | refine keep_far ?_ GW118.out _) | exact HK.out))) : w.heap.size ≤ gb122) : w0.heap.size ≤ gb122)); have n7_ := Am ((by rw [hg]; exact Nat.ne_of_lt (blk_lt (g := gb118) (o := .cells #[.int .i64 0, .slice none 0 0] 26 (0, 0)) (by (with_reducible repeat (first | refine Kn ?_ _ | refine Ke ?_ | refine Ka ?_ _)); exact BK118.out)) : gb118 ≠ gb122)); have n8_ := Am ((by rw [hg]; exact Nat.ne_of_gt (blk_lt (g := gb118) (o := .cells #[.int .i64 0, .slice none 0 0] 26 (0, 0)) (by (with_reducible repeat (first | refine Kn ?_ _ | refine Ke ?_ | refine Ka ?_ _)); exact BK118.out)) : gb122 ≠ gb118)); have n9_ := Am ((by rw [hg]; exact Nat.ne_of_lt (IsS49.lt (show IsS49 w0 _ g s0_0 t120 t121 from by repeat (first | (with_reducible first | exact HI0.out | apply IsS49.alloc | apply IsS49.drewN | apply IsS49.drew | apply IsS49.set_1 | apply IsS49.set_2 | refine IsS49.far ?_ NB0_118.out _) | exact HI0.out))) : g ≠ gb122)); have n10_ := Am ((by rw [hg]; exact Nat.ne_of_gt (IsS49.lt (show IsS49 w0 _ g s0_0 t120 t121 from by repeat (first | (with_reducible first | exact HI0.out | apply IsS49.alloc | apply IsS49.drewN | apply IsS49.drew | apply IsS49.set_1 | apply IsS49.set_2 | refine IsS49.far ?_ NB0_118.out _) | exact HI0.out))) : gb122 ≠ g)); clear HI0; clear BK118; clear HK; clear HB; have HI0 := n0_; have BK118 := n1_; have HK := n2_; have HB := n3_; have BK122 := n4_; have GW122 := n5_; have GE122 := n6_; have NB118_122 := n7_; have NB122_118 := n8_; have NB0_122 := n9_; have NB122_0 := n10_; clear n0_ n1_ n2_ n3_ n4_ n5_ n6_ n7_ n8_ n9_ n10_; clear hb hbox hg; have hnb7 := NB122_118.out; have hnc7 := NB118_122.out; have hnb8 := NB122_0.out; have hnc8 := NB0_122.out; have hcz9_0 : w6.cell? ⟨gb122, 0, none⟩ = some (.int .i64 0) := (Kc BK122.out 0).trans rfl; have hcz9_1 : w6.cell? ⟨gb122, 1, none⟩ = some (.slice none 0 0) := (Kc BK122.out 1).trans rfl; have hfz9_0 := Kz BK122.out 0; have hfz9_1 := Kz BK122.out 1))
 go_loopg [6] k (fun kq v6 w' => ∃ (x6_1 : Int) (x1001_1 : Int) (x1002_1 : Int) (x123001_1 : List Int) (u123001 : Value), v6 = .int .i64 x6_1 ∧ Ad (spec_l1Cur_attr.l0 kq a1 x6_1 s0_0 x1001_1 x1002_1 t119 x123001_1 = some (r1, r2, r3, r4)) ∧ Ad (kq ≤ k) ∧ Ad (Kd.R (Kd.int .i64) 3 w' w.heap.size (fun _ => True) u123001 x123001_1) ∧ Ad (w'.heap[gb118]? = some (.cells #[.int .i64 0, (.slice none 0 0)] 26 (0, 0))) ∧ Ad (w'.heap[gb122]? = some (.cells #[.int .i64 t119, u123001] 26 (0, 0))) ∧ Ad (IsS49 w0 w' g s0_0 x1001_1 x1002_1) ∧ Ad (KeepBut w w' g none) ∧ Ad (Below w0.heap.size w0 w'))
 case atStart => exact ⟨(0), (t120), (t121), (([] : List Int)), (.slice none 0 0), (by first | rfl | (simp; done) | (simp [*]; done)), H', ⟨Nat.le_refl _⟩, ⟨by first | exact Kd.R_nil _ _ _ _ _ | exact Kd.N_nil _ _ _ _ _ | exact Kd.V_nil _ _ _ _ _ | exact Kd.Q_nil _ _ _ _ _ | exact Kd.S_nil _ _ _ _ _⟩, ⟨by (with_reducible repeat (first | refine Kn ?_ _ | refine Ke ?_ | refine Ka ?_ _)); refine Kf ?_ NB118_122.out _; (with_reducible repeat (first | refine Kn ?_ _ | refine Ke ?_ | refine Ka ?_ _)); refine Kf ?_ NB118_122.out _; (with_reducible repeat (first | refine Kn ?_ _ | refine Ke ?_ | refine Ka ?_ _)); exact BK118.out⟩, ⟨by (with_reducible repeat (first | refine Kn ?_ _ | refine Ke ?_ | refine Ka ?_ _)); refine blk_put (cs := #[.int .i64 t119, .slice none 0 0]) ?_ 1 _ rfl; (with_reducible repeat (first | refine Kn ?_ _ | refine Ke ?_ | refine Ka ?_ _)); refine blk_put (cs := #[.int .i64 0, .slice none 0 0]) ?_ 0 _ rfl; (with_reducible repeat (first | refine Kn ?_ _ | refine Ke ?_ | refine Ka ?_ _)); exact BK122.out⟩, ⟨by repeat (first | (with_reducible first | exact HI0.out | apply IsS49.alloc | apply IsS49.drewN | apply IsS49.drew | apply IsS49.set_1 | apply IsS49.set_2 | refine IsS49.far ?_ NB0_118.out _ | refine IsS49.far ?_ NB0_122.out _) | exact HI0.out)⟩, ⟨by repeat (first | (with_reducible first | exact HK.out | apply KeepBut.set_ | apply keep_drewN | apply keep_drew | apply keep_alloc | refine keep_far ?_ GW118.out _ | refine keep_far ?_ GW122.out _) | exact HK.out)⟩, ⟨by repeat (first | (with_reducible first | exact HB.out | apply Ba | apply Bn | apply Bd | refine Bs ?_ (IsS49.ge HI0.out) | refine Bs ?_ GE118.out | refine Bs ?_ GE122.out) | exact HB.out)⟩⟩
 case round =>
  clear H'
  try clear c2
  try clear p2
  try clear c5
  try clear c7
  try clear c8
  try clear hcz9_0
  try clear hcz9_1
  try clear hfz9_0
  try clear hfz9_1
  obtain ⟨x6_1, x1001_1, x1002_1, x123001_1, u123001, rfl, HA, HK1, HO_123001, BK118, BK122, HI0, HK, HB⟩ := hrel
  cases gk with
  | zero => exact absurd HA.out (by simp [spec_l1Cur_attr.l0])
  | succ k1 =>
   have H := HA.out
   clear HA
   simp only [spec_l1Cur_attr.l0] at H
   by_cases c10 : x6_1 < a1
   ·rw [if_pos c10] at H
    have c10b0 : decide (x6_1 < a1) = true := decide_eq_true c10
    clear c10
    replace H := Option.bind_eq_some_iff.mp H
    obtain ⟨⟨t123, t124, t125⟩, A110, H⟩ := H
    replace H : (if x123001_1.length < 17592186044416 then (spec_l1Cur_attr.l0 k1 a1 (wrap64 (x6_1 + 1)) s0_0 t124 t125 t119 (x123001_1 ++ [t123])) else (none)) = some (r1, r2, r3, r4) := H
    have A11 := Am A110
    clear A110
    by_cases c12 : x123001_1.length < 17592186044416
    ·rw [if_pos c12] at H
     have LMc12 := Am c12
     clear c12
     obtain ⟨y126, hy126⟩ : ∃ y_ : List Int, y_ = (x123001_1 ++ [t123]) := ⟨_, rfl⟩
     replace H : (spec_l1Cur_attr.l0 k1 a1 (wrap64 (x6_1 + 1)) s0_0 t124 t125 t119 y126) = some (r1, r2, r3, r4) := by first | (rw [hy126]; with_reducible exact H) | (have H2_ := (Option.bind_some _ _).symm.trans H; rw [hy126]; with_reducible exact H2_) | (have H2_ := (Option.bind_some _ _).symm.trans H; with_reducible exact H2_) | with_reducible exact H | (rw [hy126]; exact H) | exact H
     have Ny126 := Am hy126
     clear hy126
     have H' := Am H
     clear H
     try go_wp2
     have n0_ := Am (Rd HO_123001.out)
     have n1_ := Am (Ke BK118.out)
     have n2_ := Am (Ke BK122.out)
     have n3_ := Am (IsS49.drew HI0.out)
     have n4_ := Am (keep_drew HK.out)
     have n5_ := Am (Bd HB.out)
     clear HO_123001
     clear BK118
     clear BK122
     clear HI0
     clear HK
     clear HB
     have HO_123001 := n0_
     have BK118 := n1_
     have BK122 := n2_
     have HI0 := n3_
     have HK := n4_
     have HB := n5_
     clear n0_ n1_ n2_ n3_ n4_ n5_
     refine start_ (n := 8) (S := fun w' => w'.cell? ⟨gb122, 0, none⟩ = some (.int .i64 t119) ∧ w'.cell? ⟨gb122, 1, none⟩ = some (u123001)) (ds := [7]) #[false, false, false, false, false, false, false, false] (by kernel_rfl) rfl rfl ⟨(Kc BK122.out 0).trans rfl, (Kc BK122.out 1).trans rfl⟩ (fun hHeld => ?_); refine with_tabW spec_l1Cur_attr.tab5 spec_l1Cur_attr.bits5 (fun HT_ HW_ => ?_)
     generalize wr.drew = w13 at HO_123001 BK118 BK122 HI0 HK HB hHeld ⊢
     refine pure_ (i := 0) (N := some 15) (v := ?_) (a' := ?_) #[true, false, false, false, false, false, false, false] rfl rfl (any_of HT_.out (by kernel_rfl)) (fun _ _ _ h => h) (Or.inl ⟨by rfl, ?_⟩) ?_ ?_
     rotate_left
     ·intro w'
      go_simp
      with_reducible rfl
     rotate_left
     ·simp only [Act.put, Lt, Lz, Ls, i64_w, i32_w]
      rfl
     refine pure_ (i := 2) (N := some 17) (v := ?_) (a' := ?_) #[true, false, true, false, false, false, false, false] rfl rfl (any_of HT_.out (by kernel_rfl)) (fun _ _ _ h => h) (Or.inl ⟨by rfl, ?_⟩) ?_ ?_
     rotate_left
     ·intro w'
      go_simp
      with_reducible rfl
     rotate_left
     ·simp only [Act.put, Lt, Lz, Ls, i64_w, i32_w]
      rfl
     refine take_ (i := 1) (N := some 16) (v := ?_) (a' := ?_) #[true, true, true, false, false, false, false, false] rfl rfl (take_ofW HT_.out HW_.out (by kernel_rfl)) (fun _ _ _ h => h) (Or.inl ⟨by rfl, ?_⟩) hHeld ?_ ?_
     rotate_left
     ·rintro w' ⟨s0, s1⟩
      go_simp
      with_reducible rfl
     rotate_left
     ·simp only [Act.put, Lt, Lz, Ls, i64_w, i32_w]
      rfl
     refine one_ (i := 3) (N := some 18) #[true, true, true, true, false, false, false, false] rfl rfl (one_of HT_.out (by kernel_rfl)) (by decide) (fun K hK => ?_)
     refine goes_ Tryz.func50 (by kernel_rfl) rfl #[.pointer (some ⟨g, 0, none⟩), .int .i64 4] (by rfl) rfl rfl (by first | rfl | (simp only [List.map_toArray, List.map_cons, List.map_nil]; first | done | rfl)) ?_
     with_reducible refine (spec_l1Cur_pick.calls g s0_0 x1001_1 x1002_1 4 t123 t124 t125 w0 _ ?side1 ?side2 A11.out).mono ?_
     (case side1 => repeat (first | (with_reducible first | exact HI0.out | apply IsS49.alloc | apply IsS49.drewN | apply IsS49.drew | apply IsS49.set_1 | apply IsS49.set_2 | refine IsS49.far ?_ NB0_118.out _ | refine IsS49.far ?_ NB0_122.out _) | exact HI0.out))
     (case side2 => repeat (first | (with_reducible first | exact HB.out | apply Ba | apply Bn | apply Bd | refine Bs ?_ (IsS49.ge HI0.out) | refine Bs ?_ GE118.out | refine Bs ?_ GE122.out) | exact HB.out))
     rintro e w14 ⟨rfl, hi, hb, hk⟩
     refine ⟨_, rfl, ?_⟩
     have n0_ := Am (Rm (Kd.R_keep (IsS49.apart (show IsS49 w0 _ g s0_0 x1001_1 x1002_1 from by repeat (first | (with_reducible first | exact HI0.out | apply IsS49.alloc | apply IsS49.drewN | apply IsS49.drew | apply IsS49.set_1 | apply IsS49.set_2 | refine IsS49.far ?_ NB0_118.out _ | refine IsS49.far ?_ NB0_122.out _) | exact HI0.out)) (by (with_reducible repeat (first | apply Ra | apply Rn | apply Rd)); exact HO_123001.out) (by decide)) hk (fun _ h => h.2)) (fun _ h => h.1))
     have n1_ := Am (KeepBut.blk hk (g' := gb118) (o := .cells #[.int .i64 0, .slice none 0 0] 26 (0, 0)) (by (with_reducible repeat (first | refine Kn ?_ _ | refine Ke ?_ | refine Ka ?_ _)); exact BK118.out) NB118_0.out (by simp))
     have n2_ := Am (KeepBut.blk hk (g' := gb122) (o := .cells #[.int .i64 t119, u123001] 26 (0, 0)) (by (with_reducible repeat (first | refine Kn ?_ _ | refine Ke ?_ | refine Ka ?_ _)); exact BK122.out) NB122_0.out (by simp))
     have n3_ := Am (KeepBut.trans (by repeat (first | (with_reducible first | exact HK.out | apply KeepBut.set_ | apply keep_drewN | apply keep_drew | apply keep_alloc | refine keep_far ?_ GW118.out _ | refine keep_far ?_ GW122.out _) | exact HK.out)) hk (.inl rfl))
     have n4_ := Am (hb)
     have n5_ := Am (hi)
     clear HO_123001
     clear BK118
     clear BK122
     clear HK
     clear HB
     clear HI0
     have HO_123001 := n0_
     have BK118 := n1_
     have BK122 := n2_
     have HK := n3_
     have HB := n4_
     have HI0 := n5_
     clear n0_ n1_ n2_ n3_ n4_ n5_
     (try clear hb)
     (try clear hb2)
     (try clear hk)
     (try clear hi)
     refine hK.out _ _ ⟨(Kc BK122.out 0).trans rfl, (Kc BK122.out 1).trans rfl⟩ (fun hHeld => ?_)
     clear hK K
     refine norm_ (a' := ?_) ?_ ?_
     rotate_left
     ·show Act.put _ (some 18) _ = _
      simp only [Act.put, Lt, Lz, Ls, i64_w, i32_w]
      rfl
     refine one_ (i := 4) (N := some 19) #[true, true, true, true, true, false, false, false] rfl rfl (one_of HT_.out (by kernel_rfl)) (by decide) (fun K hK => ?_)
     refine value_ (w1 := ?_) (v := ?_) (by rfl) rfl ?_ ?_
     rotate_left 2
     ·go_simp
      constructor
      ·rfl
      ·rfl
     refine hK.out _ _ ⟨(Kc (Ka BK122.out _) 0).trans rfl, (Kc (Ka BK122.out _) 1).trans rfl⟩ (fun hHeld => ?_)
     clear hK K
     refine norm_ (a' := ?_) ?_ ?_
     rotate_left
     ·show Act.put _ (some 19) _ = _
      simp only [Act.put, Lt, Lz, Ls, i64_w, i32_w]
      rfl
     refine one_ (i := 5) (N := some 20) #[true, true, true, true, true, true, false, false] rfl rfl (one_of HT_.out (by kernel_rfl)) (by decide) (fun K hK => ?_)
     refine Kd.R_append_step (Kd.int .i64) w.heap.size (by rfl) (.tmp 16) (.tmp 19) 24 3 (.int .i64 0) 8 rfl Tryz.underlying24 info3 rfl (by decide) (by omega) u123001 x123001_1 t123 [.int .i64 t123] (fun _ => True) (fun _ => False) rfl rfl ?aP (fun _ hk => hk.elim) ?aF ?aO (Below.refl _ _) ?aS ?aL ?_
     (case aP => exact rfl)
     (case aF => exact (fun _ _ => trivial))
     (case aO => exact (by (with_reducible repeat (first | apply Ra | apply Rn | apply Rd)); exact HO_123001.out))
     (case aS => exact (keep_size (w := w) (g := g) (row := none) (by repeat (first | (with_reducible first | exact HK.out | apply KeepBut.set_ | apply keep_drewN | apply keep_drew | apply keep_alloc | refine keep_far ?_ GW118.out _ | refine keep_far ?_ GW122.out _) | exact HK.out))))
     (case aL => have := LMc12.out; omega)
     intro v127 w15 ho hb hg hat
     rw [← Ny126.out] at ho
     have n0_ := Am (blk_grown (g := gb118) (o := .cells #[.int .i64 0, .slice none 0 0] 26 (0, 0)) (by (with_reducible repeat (first | refine Kn ?_ _ | refine Ke ?_ | refine Ka ?_ _)); exact BK118.out) hg (Kd.R_ne HO_123001.out BK118.out (by decide)))
     have n1_ := Am (blk_grown (g := gb122) (o := .cells #[.int .i64 t119, u123001] 26 (0, 0)) (by (with_reducible repeat (first | refine Kn ?_ _ | refine Ke ?_ | refine Ka ?_ _)); exact BK122.out) hg (Kd.R_ne HO_123001.out BK122.out (by decide)))
     have n2_ := Am (IsS49.grown (by repeat (first | (with_reducible first | exact HI0.out | apply IsS49.alloc | apply IsS49.drewN | apply IsS49.drew | apply IsS49.set_1 | apply IsS49.set_2 | refine IsS49.far ?_ NB0_118.out _ | refine IsS49.far ?_ NB0_122.out _) | exact HI0.out)) hg (IsS49.own_ne HI0.out HO_123001.out (by decide)))
     have n3_ := Am (below_weaken (by repeat (first | (with_reducible first | exact HB.out | apply Ba | apply Bn | apply Bd | refine Bs ?_ (IsS49.ge HI0.out) | refine Bs ?_ GE118.out | refine Bs ?_ GE122.out) | exact HB.out)) HL.out hb)
     have n4_ := Am (KeepBut.trans (by repeat (first | (with_reducible first | exact HK.out | apply KeepBut.set_ | apply keep_drewN | apply keep_drew | apply keep_alloc | refine keep_far ?_ GW118.out _ | refine keep_far ?_ GW122.out _) | exact HK.out)) (KeepBut.of_grown hg g) (Kd.R_base2 HO_123001.out))
     have n5_ := Am (ho)
     clear BK118
     clear BK122
     clear HI0
     clear HB
     clear HK
     clear HO_123001
     have BK118 := n0_
     have BK122 := n1_
     have HI0 := n2_
     have HB := n3_
     have HK := n4_
     have HO128 := n5_
     clear n0_ n1_ n2_ n3_ n4_ n5_
     clear ho hb hg hat
     obtain ⟨Ao16, co16, eo16⟩ := Rs HO128.out
     (first | subst eo16 | (injection eo16 with f1_ f2_ f3_; have f4_ := f1_.symm; have f5_ := f3_.symm; clear f1_ f2_ f3_; subst f4_; subst f5_))
     refine hK.out _ _ ⟨(Kc BK122.out 0).trans rfl, (Kc BK122.out 1).trans rfl⟩ (fun hHeld => ?_)
     clear hK K
     refine norm_ (a' := ?_) ?_ ?_
     rotate_left
     ·show Act.put _ (some 20) _ = _
      simp only [Act.put, Lt, Lz, Ls, i64_w, i32_w]
      rfl
     refine pure_ (i := 6) (N := some 21) (v := ?_) (a' := ?_) #[true, true, true, true, true, true, true, false] rfl rfl (any_of HT_.out (by kernel_rfl)) (fun _ _ _ h => h) (Or.inl ⟨by rfl, ?_⟩) ?_ ?_
     rotate_left
     ·intro w'
      go_simp
      with_reducible rfl
     rotate_left
     ·simp only [Act.put, Lt, Lz, Ls, i64_w, i32_w]
      rfl
     refine last_ (i := 7) (N := none) #[true, true, true, true, true, true, true, true] rfl rfl (one_of HT_.out (by kernel_rfl)) (by decide) (fun K hK => ?_)
     have hs17 : w15.cell? ⟨gb122, 1, none⟩ = some (u123001) := (Kc BK122.out 1).trans rfl
     have hfs17 := Kz BK122.out 1
     have hns17_0 := NB118_122.out
     have hms17_0 := NB122_118.out
     refine skip_ (w1 := ?_) (by rfl) rfl ?_ ?_
     rotate_left
     ·go_simp
      rfl
     refine hK.out _ _ ?_
     clear hK K
     refine done_ (done_of HT_.out (by kernel_rfl)) ?_
     try go_wp2
     go_roundg k1
     case measure => have := HK1.out; omega
     case rel => exact ⟨(wrap64 (x6_1 + 1)), (t124), (t125), (y126), (.slice Ao16 y126.length co16), (by first | rfl | (simp; done) | (simp [*]; done)), H', ⟨by have := HK1.out; omega⟩, ⟨by (with_reducible repeat (first | apply Ra | apply Rn | apply Rd)); exact Rm (Kd.R_far (p := ⟨gb122, 1, none⟩) (Kd.R_types HO128.out BK122.out (by decide)) (fun _ hk => hk.2) (.slice Ao16 y126.length co16)) (fun _ hk => trivial)⟩, ⟨by (with_reducible repeat (first | refine Kn ?_ _ | refine Ke ?_ | refine Ka ?_ _)); refine Kf ?_ NB118_122.out _; (with_reducible repeat (first | refine Kn ?_ _ | refine Ke ?_ | refine Ka ?_ _)); exact BK118.out⟩, ⟨by (with_reducible repeat (first | refine Kn ?_ _ | refine Ke ?_ | refine Ka ?_ _)); refine blk_put (cs := #[.int .i64 t119, u123001]) ?_ 1 _ rfl; (with_reducible repeat (first | refine Kn ?_ _ | refine Ke ?_ | refine Ka ?_ _)); exact BK122.out⟩, ⟨by repeat (first | (with_reducible first | exact HI0.out | apply IsS49.alloc | apply IsS49.drewN | apply IsS49.drew | apply IsS49.set_1 | apply IsS49.set_2 | refine IsS49.far ?_ NB0_118.out _ | refine IsS49.far ?_ NB0_122.out _) | exact HI0.out)⟩, ⟨by repeat (first | (with_reducible first | exact HK.out | apply KeepBut.set_ | apply keep_drewN | apply keep_drew | apply keep_alloc | refine keep_far ?_ GW118.out _ | refine keep_far ?_ GW122.out _) | exact HK.out)⟩, ⟨by repeat (first | (with_reducible first | exact HB.out | apply Ba | apply Bn | apply Bd | refine Bs ?_ (IsS49.ge HI0.out) | refine Bs ?_ GE118.out | refine Bs ?_ GE122.out) | exact HB.out)⟩⟩
    ·rw [if_neg c12] at H
     exact absurd H (by simp)
   ·rw [if_neg c10] at H
    have c10b0 : decide (x6_1 < a1) = false := decide_eq_false c10
    clear c10
    replace H := Option.bind_eq_some_iff.mp H
    obtain ⟨⟨t129, t130, t131⟩, A180, H⟩ := H
    replace H : (if t129 = 0 then ((spec_l1Cur_among.f s0_0 t130 t131 (([(-1), 999, 1000] : List Int))).bind fun bt135 => (some (bt135.1, x123001_1, bt135.2.1, bt135.2.2))) else (if t129 = 1 then (if a1 > 0 then ((spec_l1Cur_among.f s0_0 t130 t131 (([(-1), 6, 7] : List Int))).bind fun bt141 => (if 0 < (x123001_1.length : Int) then (some (t119, (x123001_1.set (0 : Int).toNat bt141.1), bt141.2.1, bt141.2.2)) else (none))) else (some (t119, x123001_1, t130, t131))) else (if t129 = 2 then (if x123001_1.length < 17592186044416 then (some (t119, (x123001_1 ++ [1]), t130, t131)) else (none)) else (some (t119, x123001_1, t130, t131))))) = some (r1, r2, r3, r4) := H
    have A18 := Am A180
    clear A180
    by_cases c19 : t129 = 0
    ·rw [if_pos c19] at H
     have c19b0 : (t129 == 0) = true := beq_iff_eq.mpr c19
     have c19b1 : (t129 != 0) = false := bne_eq_false_iff_eq.mpr c19
     clear c19
     obtain ⟨y132, hy132⟩ : ∃ y_ : List Int, y_ = (([(-1), 999, 1000] : List Int)) := ⟨_, rfl⟩
     replace H : ((spec_l1Cur_among.f s0_0 t130 t131 y132).bind fun bt135 => (some (bt135.1, x123001_1, bt135.2.1, bt135.2.2))) = some (r1, r2, r3, r4) := by first | (rw [hy132]; with_reducible exact H) | (have H2_ := (Option.bind_some _ _).symm.trans H; rw [hy132]; with_reducible exact H2_) | (have H2_ := (Option.bind_some _ _).symm.trans H; with_reducible exact H2_) | with_reducible exact H | (rw [hy132]; exact H) | exact H
     have Ny132 := Am hy132
     clear hy132
     replace H := Option.bind_eq_some_iff.mp H
     obtain ⟨⟨t135, t136, t137⟩, A200, H⟩ := H
     replace H : (some (t135, x123001_1, t136, t137)) = some (r1, r2, r3, r4) := H
     have A20 := Am A200
     clear A200
     simp only [Option.some.injEq, Prod.mk.injEq] at H
     obtain ⟨rfl, rfl, rfl, rfl⟩ := H
     go_wp2_with (first | ((refine Gc (f := 50) rfl ?_); refine goesL_ (some 23) rfl rfl Tryz.func50 (by kernel_rfl) rfl #[.pointer (some ⟨g, 0, none⟩), .int .i64 30] rfl (by first | rfl | (simp only [List.map_toArray, List.map_cons, List.map_nil]; first | done | rfl)) ?_; (with_reducible refine (spec_l1Cur_pick.calls g s0_0 x1001_1 x1002_1 30 t129 t130 t131 w0 _ ?side1 ?side2 A18.out).mono ?_); (case side1 => repeat (first | (with_reducible first | exact HI0.out | apply IsS49.alloc | apply IsS49.drewN | apply IsS49.drew | apply IsS49.set_1 | apply IsS49.set_2 | refine IsS49.far ?_ NB0_118.out _ | refine IsS49.far ?_ NB0_122.out _) | exact HI0.out)); (case side2 => repeat (first | (with_reducible first | exact HB.out | apply Ba | apply Bn | apply Bd | refine Bs ?_ (IsS49.ge HI0.out) | refine Bs ?_ GE118.out | refine Bs ?_ GE122.out) | exact HB.out)); rintro e w21 ⟨rfl, hi, hb, hk⟩; refine ⟨_, rfl, ?_⟩; have n0_ := Am (Rm (Kd.R_keep (IsS49.apart (show IsS49 w0 _ g s0_0 x1001_1 x1002_1 from by repeat (first | (with_reducible first | exact HI0.out | apply IsS49.alloc | apply IsS49.drewN | apply IsS49.drew | apply IsS49.set_1 | apply IsS49.set_2 | refine IsS49.far ?_ NB0_118.out _ | refine IsS49.far ?_ NB0_122.out _) | exact HI0.out)) (by (with_reducible repeat (first | apply Ra | apply Rn | apply Rd)); exact HO_123001.out) (by decide)) hk (fun _ h => h.2)) (fun _ h => h.1)); have n1_ := Am (KeepBut.blk hk (g' := gb118) (o := .cells #[.int .i64 0, .slice none 0 0] 26 (0, 0)) (by (with_reducible repeat (first | refine Kn ?_ _ | refine Ke ?_ | refine Ka ?_ _)); exact BK118.out) NB118_0.out (by simp)); have n2_ := Am (KeepBut.blk hk (g' := gb122) (o := .cells #[.int .i64 t119, u123001] 26 (0, 0)) (by (with_reducible repeat (first | refine Kn ?_ _ | refine Ke ?_ | refine Ka ?_ _)); exact BK122.out) NB122_0.out (by simp)); have n3_ := Am (KeepBut.trans (by repeat (first | (with_reducible first | exact HK.out | apply KeepBut.set_ | apply keep_drewN | apply keep_drew | apply keep_alloc | refine keep_far ?_ GW118.out _ | refine keep_far ?_ GW122.out _) | exact HK.out)) hk (.inl rfl)); have n4_ := Am (hb); have n5_ := Am (hi); clear HO_123001; clear BK118; clear BK122; clear HK; clear HB; clear HI0; have HO_123001 := n0_; have BK118 := n1_; have BK122 := n2_; have HK := n3_; have HB := n4_; have HI0 := n5_; clear n0_ n1_ n2_ n3_ n4_ n5_; (try clear hb); (try clear hb2); (try clear hk); (try clear hi)) | ((refine Gd (N := 27) rfl ?_); refine Kd.R_lit (Kd.int .i64) _ 3 ?hg (N := 27) ?hd (xs := ([(-1), 999, 1000] : List Int)) (inner := [.int .i64 (-1), .int .i64 999, .int .i64 1000]) (ok := fun _ => True) (okp := fun _ => True) ?hr ?hp (fun _ hk => hk) trivial (Below.refl _ _) (Nat.le_refl _) (by simp) ?_; (case hd | hg => rfl); (case hr => first | (go_simp; done) | (go_simp; rfl)); (case hp => exact (Reps.one (show Kd.M (Kd.int .i64) _ _ _ (-1) [.int .i64 (-1)] from rfl) (Reps.one (show Kd.M (Kd.int .i64) _ _ _ 999 [.int .i64 999] from rfl) (Reps.one (show Kd.M (Kd.int .i64) _ _ _ 1000 [.int .i64 1000] from rfl) (Reps.none _ _))))); intro v133 w22 ho23 hb hg_ hnew_; clear hg_ hnew_; (first | rw [← Ny132.out] at ho23 | (simp only [Int.reduceToNat] at ho23; rw [← Ny132.out] at ho23)); have n0_ := Am (Kd.R_elder' (by (with_reducible repeat (first | apply Ra | apply Rn | apply Rd)); exact HO_123001.out) (Kd.R_base ho23) hb); have n1_ := Am (Kd.R_lower (Kd.R_new' ho23 (Kd.R_lt (by (with_reducible repeat (first | apply Ra | apply Rn | apply Rd)); exact HO_123001.out))) (keep_size (w := w) (g := g) (row := none) (by repeat (first | (with_reducible first | exact HK.out | apply KeepBut.set_ | apply keep_drewN | apply keep_drew | apply keep_alloc | refine keep_far ?_ GW118.out _ | refine keep_far ?_ GW122.out _) | exact HK.out)))); have n2_ := Am (Kb (g := gb118) (o := .cells #[.int .i64 0, .slice none 0 0] 26 (0, 0)) (by (with_reducible repeat (first | refine Kn ?_ _ | refine Ke ?_ | refine Ka ?_ _)); exact BK118.out) hb); have n3_ := Am (Kb (g := gb122) (o := .cells #[.int .i64 t119, u123001] 26 (0, 0)) (by (with_reducible repeat (first | refine Kn ?_ _ | refine Ke ?_ | refine Ka ?_ _)); exact BK122.out) hb); have n4_ := Am (IsS49.below (by repeat (first | (with_reducible first | exact HI0.out | apply IsS49.alloc | apply IsS49.drewN | apply IsS49.drew | apply IsS49.set_1 | apply IsS49.set_2 | refine IsS49.far ?_ NB0_118.out _ | refine IsS49.far ?_ NB0_122.out _) | exact HI0.out)) hb); have n5_ := Am (KeepBut.trans (by repeat (first | (with_reducible first | exact HK.out | apply KeepBut.set_ | apply keep_drewN | apply keep_drew | apply keep_alloc | refine keep_far ?_ GW118.out _ | refine keep_far ?_ GW122.out _) | exact HK.out)) (KeepBut.of_below hb g none) (.inl rfl)); have n6_ := Am (Bt (by repeat (first | (with_reducible first | exact HB.out | apply Ba | apply Bn | apply Bd | refine Bs ?_ (IsS49.ge HI0.out) | refine Bs ?_ GE118.out | refine Bs ?_ GE122.out) | exact HB.out)) hb); clear HO_123001; clear BK118; clear BK122; clear HI0; clear HK; clear HB; have HO_123001 := n0_; have HO134 := n1_; have BK118 := n2_; have BK122 := n3_; have HI0 := n4_; have HK := n5_; have HB := n6_; clear n0_ n1_ n2_ n3_ n4_ n5_ n6_; clear hb ho23; obtain ⟨Ao24, co24, eo24⟩ := Rs HO134.out; subst eo24) | ((refine Gc (f := 55) rfl ?_); refine goesL_ (some 28) rfl rfl Tryz.func55 (by kernel_rfl) rfl #[.pointer (some ⟨g, 0, none⟩), .slice Ao24 y132.length co24] rfl (by first | rfl | (simp only [List.map_toArray, List.map_cons, List.map_nil]; first | done | rfl)) ?_; (with_reducible refine (spec_l1Cur_among.calls g s0_0 t130 t131 _ _ y132 t135 t136 t137 w0 _ ?side1 ?side2 ?side3 ?side4 ?side5 A20.out).mono ?_); (case side1 => repeat (first | (with_reducible first | exact HI0.out | apply IsS49.alloc | apply IsS49.drewN | apply IsS49.drew | apply IsS49.set_1 | apply IsS49.set_2 | refine IsS49.far ?_ NB0_118.out _ | refine IsS49.far ?_ NB0_122.out _) | exact HI0.out)); (case side2 => repeat (first | (with_reducible first | exact HB.out | apply Ba | apply Bn | apply Bd | refine Bs ?_ (IsS49.ge HI0.out) | refine Bs ?_ GE118.out | refine Bs ?_ GE122.out) | exact HB.out)); (case side3 => repeat (first | exact (Kd.R_reads' HO134.out).2.2 | (with_reducible refine Kd.C_alloc ?_ _) | (with_reducible refine Kd.C_drewN ?_ _) | (with_reducible refine Kd.C_drew ?_))); (case side4 => exact (Kd.R_reads' HO134.out).2.1); (case side5 => exact far_slice (IsS49.own_ne HI0.out HO134.out (by decide))); rintro e w25 ⟨rfl, hi, hb, hk⟩; refine ⟨_, rfl, ?_⟩; have n0_ := Am (Rm (Kd.R_keep (IsS49.apart (show IsS49 w0 _ g s0_0 t130 t131 from by repeat (first | (with_reducible first | exact HI0.out | apply IsS49.alloc | apply IsS49.drewN | apply IsS49.drew | apply IsS49.set_1 | apply IsS49.set_2 | refine IsS49.far ?_ NB0_118.out _ | refine IsS49.far ?_ NB0_122.out _) | exact HI0.out)) (by (with_reducible repeat (first | apply Ra | apply Rn | apply Rd)); exact HO_123001.out) (by decide)) hk (fun _ h => h.2)) (fun _ h => h.1)); have n1_ := Am (KeepBut.blk hk (g' := gb118) (o := .cells #[.int .i64 0, .slice none 0 0] 26 (0, 0)) (by (with_reducible repeat (first | refine Kn ?_ _ | refine Ke ?_ | refine Ka ?_ _)); exact BK118.out) NB118_0.out (by simp)); have n2_ := Am (KeepBut.blk hk (g' := gb122) (o := .cells #[.int .i64 t119, u123001] 26 (0, 0)) (by (with_reducible repeat (first | refine Kn ?_ _ | refine Ke ?_ | refine Ka ?_ _)); exact BK122.out) NB122_0.out (by simp)); have n3_ := Am (Rm (Kd.R_keep (IsS49.apart (show IsS49 w0 _ g s0_0 t130 t131 from by repeat (first | (with_reducible first | exact HI0.out | apply IsS49.alloc | apply IsS49.drewN | apply IsS49.drew | apply IsS49.set_1 | apply IsS49.set_2 | refine IsS49.far ?_ NB0_118.out _ | refine IsS49.far ?_ NB0_122.out _) | exact HI0.out)) (by (with_reducible repeat (first | apply Ra | apply Rn | apply Rd)); exact HO134.out) (by decide)) hk (fun _ h => h.2)) (fun _ h => h.1)); have n4_ := Am (KeepBut.trans (by repeat (first | (with_reducible first | exact HK.out | apply KeepBut.set_ | apply keep_drewN | apply keep_drew | apply keep_alloc | refine keep_far ?_ GW118.out _ | refine keep_far ?_ GW122.out _) | exact HK.out)) hk (.inl rfl)); have n5_ := Am (hb); have n6_ := Am (hi); clear HO_123001; clear BK118; clear BK122; clear HO134; clear HK; clear HB; clear HI0; have HO_123001 := n0_; have BK118 := n1_; have BK122 := n2_; have HO134 := n3_; have HK := n4_; have HB := n5_; have HI0 := n6_; clear n0_ n1_ n2_ n3_ n4_ n5_ n6_; (try clear hb); (try clear hb2); (try clear hk); (try clear hi); have hnb26 := NB122_118.out; have hnc26 := NB118_122.out; have hnb27 := NB122_0.out; have hnc27 := NB0_122.out; have hcz28_0 : w25.cell? ⟨gb122, 0, none⟩ = some (.int .i64 t119) := (Kc BK122.out 0).trans rfl; have hcz28_1 : w25.cell? ⟨gb122, 1, none⟩ = some (u123001) := (Kc BK122.out 1).trans rfl; have hfz28_0 := Kz BK122.out 0; have hfz28_1 := Kz BK122.out 1; have hnb29 := NB118_0.out; have hnc29 := NB0_118.out; have hcz30_0 : w25.cell? ⟨gb118, 0, none⟩ = some (.int .i64 0) := (Kc BK118.out 0).trans rfl; have hcz30_1 : w25.cell? ⟨gb118, 1, none⟩ = some (.slice none 0 0) := (Kc BK118.out 1).trans rfl; have hfz30_0 := Kz BK118.out 0; have hfz30_1 := Kz BK118.out 1; obtain ⟨Ao31, co31, eo31⟩ := Rs HO_123001.out; subst eo31))
     refine bodyPost_ret (results_cell_row rfl _ _ gb118 26 #[.int .i64 t135, .slice Ao31 x123001_1.length co31] (0, 0) _ rfl (by (with_reducible repeat (first | refine Kn ?_ _ | refine Ke ?_ | refine Ka ?_ _)); refine blk_put (cs := #[.int .i64 t135, .slice none 0 0]) ?_ 1 _ rfl; (with_reducible repeat (first | refine Kn ?_ _ | refine Ke ?_ | refine Ka ?_ _)); refine blk_put (cs := #[.int .i64 0, .slice none 0 0]) ?_ 0 _ rfl; (with_reducible repeat (first | refine Kn ?_ _ | refine Ke ?_ | refine Ka ?_ _)); refine Kf ?_ NB118_122.out _; (with_reducible repeat (first | refine Kn ?_ _ | refine Ke ?_ | refine Ka ?_ _)); exact BK118.out) Tryz.underlying26 rfl (by kernel_rfl)) rfl ?_
     exact ⟨_, by first | rfl | (simp [*, errW_none, errW_some] <;> rfl), by (with_reducible repeat (first | apply Ra | apply Rn | apply Rd)); exact Rm (Kd.R_far (p := ⟨gb118, 1, none⟩) (Kd.R_far (p := ⟨gb118, 0, none⟩) (Kd.R_far (p := ⟨gb122, 0, none⟩) (Kd.R_types (Kd.R_types HO_123001.out BK122.out (by decide)) BK118.out (by decide)) (fun _ hk => hk.1.2) (.int .i64 t135)) (fun _ hk => hk.2) (.int .i64 t135)) (fun _ hk => hk.2) (.slice Ao31 x123001_1.length co31)) (fun _ hk => trivial), by repeat (first | (with_reducible first | exact HI0.out | apply IsS49.alloc | apply IsS49.drewN | apply IsS49.drew | apply IsS49.set_1 | apply IsS49.set_2 | refine IsS49.far ?_ NB0_118.out _ | refine IsS49.far ?_ NB0_122.out _) | exact HI0.out), by repeat (first | (with_reducible first | exact HB.out | apply Ba | apply Bn | apply Bd | refine Bs ?_ (IsS49.ge HI0.out) | refine Bs ?_ GE118.out | refine Bs ?_ GE122.out) | exact HB.out), by repeat (first | (with_reducible first | exact HK.out | apply KeepBut.set_ | apply keep_drewN | apply keep_drew | apply keep_alloc | refine keep_far ?_ GW118.out _ | refine keep_far ?_ GW122.out _) | exact HK.out)⟩
    ·rw [if_neg c19] at H
     have c19b0 : (t129 == 0) = false := beq_eq_false_iff_ne.mpr c19
     have c19b1 : (t129 != 0) = true := bne_iff_ne.mpr c19
     by_cases c32 : t129 = 1
     ·rw [if_pos c32] at H
      have c32b0 : (t129 == 1) = true := beq_iff_eq.mpr c32
      have c32b1 : (t129 != 1) = false := bne_eq_false_iff_eq.mpr c32
      clear c32
      by_cases c33 : a1 > 0
      ·rw [if_pos c33] at H
       have c33b0 : decide (0 < a1) = true := decide_eq_true c33
       clear c33
       obtain ⟨y138, hy138⟩ : ∃ y_ : List Int, y_ = (([(-1), 6, 7] : List Int)) := ⟨_, rfl⟩
       replace H : ((spec_l1Cur_among.f s0_0 t130 t131 y138).bind fun bt141 => (if 0 < (x123001_1.length : Int) then (some (t119, (x123001_1.set (0 : Int).toNat bt141.1), bt141.2.1, bt141.2.2)) else (none))) = some (r1, r2, r3, r4) := by first | (rw [hy138]; with_reducible exact H) | (have H2_ := (Option.bind_some _ _).symm.trans H; rw [hy138]; with_reducible exact H2_) | (have H2_ := (Option.bind_some _ _).symm.trans H; with_reducible exact H2_) | with_reducible exact H | (rw [hy138]; exact H) | exact H
       have Ny138 := Am hy138
       clear hy138
       replace H := Option.bind_eq_some_iff.mp H
       obtain ⟨⟨t141, t142, t143⟩, A340, H⟩ := H
       replace H : (if 0 < (x123001_1.length : Int) then (some (t119, (x123001_1.set (0 : Int).toNat t141), t142, t143)) else (none)) = some (r1, r2, r3, r4) := H
       have A34 := Am A340
       clear A340
       by_cases c35 : 0 < (x123001_1.length : Int)
       ·rw [if_pos c35] at H
        have c35b0 : decide (0 < (x123001_1.length : Int)) = true := decide_eq_true c35
        have c35b1 : decide (0 < x123001_1.length) = true := decide_eq_true (by omega)
        clear c35
        obtain ⟨y144, hy144⟩ : ∃ y_ : List Int, y_ = (x123001_1.set (0 : Int).toNat t141) := ⟨_, rfl⟩
        replace H : (some (t119, y144, t142, t143)) = some (r1, r2, r3, r4) := by first | (rw [hy144]; with_reducible exact H) | (have H2_ := (Option.bind_some _ _).symm.trans H; rw [hy144]; with_reducible exact H2_) | (have H2_ := (Option.bind_some _ _).symm.trans H; with_reducible exact H2_) | with_reducible exact H | (rw [hy144]; exact H) | exact H
        have Ny144 := Am hy144
        clear hy144
        simp only [Option.some.injEq, Prod.mk.injEq] at H
        obtain ⟨rfl, rfl, rfl, rfl⟩ := H
        try go_wp2_with (first | ((refine Gc (f := 50) rfl ?_); refine goesL_ (some 23) rfl rfl Tryz.func50 (by kernel_rfl) rfl #[.pointer (some ⟨g, 0, none⟩), .int .i64 30] rfl (by first | rfl | (simp only [List.map_toArray, List.map_cons, List.map_nil]; first | done | rfl)) ?_; (with_reducible refine (spec_l1Cur_pick.calls g s0_0 x1001_1 x1002_1 30 t129 t130 t131 w0 _ ?side1 ?side2 A18.out).mono ?_); (case side1 => repeat (first | (with_reducible first | exact HI0.out | apply IsS49.alloc | apply IsS49.drewN | apply IsS49.drew | apply IsS49.set_1 | apply IsS49.set_2 | refine IsS49.far ?_ NB0_118.out _ | refine IsS49.far ?_ NB0_122.out _) | exact HI0.out)); (case side2 => repeat (first | (with_reducible first | exact HB.out | apply Ba | apply Bn | apply Bd | refine Bs ?_ (IsS49.ge HI0.out) | refine Bs ?_ GE118.out | refine Bs ?_ GE122.out) | exact HB.out)); rintro e w37 ⟨rfl, hi, hb, hk⟩; refine ⟨_, rfl, ?_⟩; have n0_ := Am (Rm (Kd.R_keep (IsS49.apart (show IsS49 w0 _ g s0_0 x1001_1 x1002_1 from by repeat (first | (with_reducible first | exact HI0.out | apply IsS49.alloc | apply IsS49.drewN | apply IsS49.drew | apply IsS49.set_1 | apply IsS49.set_2 | refine IsS49.far ?_ NB0_118.out _ | refine IsS49.far ?_ NB0_122.out _) | exact HI0.out)) (by (with_reducible repeat (first | apply Ra | apply Rn | apply Rd)); exact HO_123001.out) (by decide)) hk (fun _ h => h.2)) (fun _ h => h.1)); have n1_ := Am (KeepBut.blk hk (g' := gb118) (o := .cells #[.int .i64 0, .slice none 0 0] 26 (0, 0)) (by (with_reducible repeat (first | refine Kn ?_ _ | refine Ke ?_ | refine Ka ?_ _)); exact BK118.out) NB118_0.out (by simp)); have n2_ := Am (KeepBut.blk hk (g' := gb122) (o := .cells #[.int .i64 t119, u123001] 26 (0, 0)) (by (with_reducible repeat (first | refine Kn ?_ _ | refine Ke ?_ | refine Ka ?_ _)); exact BK122.out) NB122_0.out (by simp)); have n3_ := Am (KeepBut.trans (by repeat (first | (with_reducible first | exact HK.out | apply KeepBut.set_ | apply keep_drewN | apply keep_drew | apply keep_alloc | refine keep_far ?_ GW118.out _ | refine keep_far ?_ GW122.out _) | exact HK.out)) hk (.inl rfl)); have n4_ := Am (hb); have n5_ := Am (hi); clear HO_123001; clear BK118; clear BK122; clear HK; clear HB; clear HI0; have HO_123001 := n0_; have BK118 := n1_; have BK122 := n2_; have HK := n3_; have HB := n4_; have HI0 := n5_; clear n0_ n1_ n2_ n3_ n4_ n5_; (try clear hb); (try clear hb2); (try clear hk); (try clear hi)))
        have n0_ := Am (Rd HO_123001.out)
        have n1_ := Am (Ke BK118.out)
        have n2_ := Am (Ke BK122.out)
        have n3_ := Am (IsS49.drew HI0.out)
        have n4_ := Am (keep_drew HK.out)
        have n5_ := Am (Bd HB.out)
        clear HO_123001
        clear BK118
        clear BK122
        clear HI0
        clear HK
        clear HB
        have HO_123001 := n0_
        have BK118 := n1_
        have BK122 := n2_
        have HI0 := n3_
        have HK := n4_
        have HB := n5_
        clear n0_ n1_ n2_ n3_ n4_ n5_
        refine start_ (n := 7) (S := fun w' => w'.cell? ⟨gb122, 0, none⟩ = some (.int .i64 t119) ∧ w'.cell? ⟨gb122, 1, none⟩ = some (u123001)) (ds := [6]) #[false, false, false, false, false, false, false] (by kernel_rfl) rfl rfl ⟨(Kc BK122.out 0).trans rfl, (Kc BK122.out 1).trans rfl⟩ (fun hHeld => ?_)
        generalize w37.drew = w38 at HO_123001 BK118 BK122 HI0 HK HB hHeld ⊢
        refine pure_ (i := 0) (N := some 34) (v := ?_) (a' := ?_) #[true, false, false, false, false, false, false] rfl rfl (by kernel_rfl) (fun _ _ _ h => h) (Or.inl ⟨by rfl, ?_⟩) ?_ ?_
        rotate_left
        ·intro w'
         go_simp
         with_reducible rfl
        rotate_left
        ·simp only [Act.put, Lt, Lz, Ls, i64_w, i32_w]
         rfl
        refine pure_ (i := 2) (N := some 36) (v := ?_) (a' := ?_) #[true, false, true, false, false, false, false] rfl rfl (by kernel_rfl) (fun _ _ _ h => h) (Or.inl ⟨by rfl, ?_⟩) ?_ ?_
        rotate_left
        ·intro w'
         go_simp
         with_reducible rfl
        rotate_left
        ·simp only [Act.put, Lt, Lz, Ls, i64_w, i32_w]
         rfl
        refine take_ (i := 1) (N := some 35) (v := ?_) (a' := ?_) #[true, true, true, false, false, false, false] rfl rfl (by kernel_rfl) (fun _ _ _ h => h) (Or.inl ⟨by rfl, ?_⟩) hHeld ?_ ?_
        rotate_left
        ·rintro w' ⟨s0, s1⟩
         go_simp
         with_reducible rfl
        rotate_left
        ·simp only [Act.put, Lt, Lz, Ls, i64_w, i32_w]
         rfl
        refine one_ (i := 3) (N := some 37) #[true, true, true, true, false, false, false] rfl rfl (by kernel_rfl) (by decide) (fun K hK => ?_)
        refine Kd.R_lit_step (Kd.int .i64) _ 3 ?hg (N := 37) ?hd (xs := ([(-1), 6, 7] : List Int)) (inner := [.int .i64 (-1), .int .i64 6, .int .i64 7]) (ok := fun _ => True) (okp := fun _ => True) ?hr ?hp (fun _ hk => hk) trivial (Below.refl _ _) (Nat.le_refl _) (by simp) ?_; (case hd | hg => rfl); (case hr => first | (go_simp; done) | (go_simp; rfl)); (case hp => exact (Reps.one (show Kd.M (Kd.int .i64) _ _ _ (-1) [.int .i64 (-1)] from rfl) (Reps.one (show Kd.M (Kd.int .i64) _ _ _ 6 [.int .i64 6] from rfl) (Reps.one (show Kd.M (Kd.int .i64) _ _ _ 7 [.int .i64 7] from rfl) (Reps.none _ _)))))
        intro v139 w39 ho40 hb hg_ hnew_
        clear hg_ hnew_
        (first | rw [← Ny138.out] at ho40 | (simp only [Int.reduceToNat] at ho40; rw [← Ny138.out] at ho40))
        have n0_ := Am (Kd.R_elder' (by (with_reducible repeat (first | apply Ra | apply Rn | apply Rd)); exact HO_123001.out) (Kd.R_base ho40) hb)
        have n1_ := Am (Kd.R_lower (Kd.R_new' ho40 (Kd.R_lt (by (with_reducible repeat (first | apply Ra | apply Rn | apply Rd)); exact HO_123001.out))) (keep_size (w := w) (g := g) (row := none) (by repeat (first | (with_reducible first | exact HK.out | apply KeepBut.set_ | apply keep_drewN | apply keep_drew | apply keep_alloc | refine keep_far ?_ GW118.out _ | refine keep_far ?_ GW122.out _) | exact HK.out))))
        have n2_ := Am (Kb (g := gb118) (o := .cells #[.int .i64 0, .slice none 0 0] 26 (0, 0)) (by (with_reducible repeat (first | refine Kn ?_ _ | refine Ke ?_ | refine Ka ?_ _)); exact BK118.out) hb)
        have n3_ := Am (Kb (g := gb122) (o := .cells #[.int .i64 t119, u123001] 26 (0, 0)) (by (with_reducible repeat (first | refine Kn ?_ _ | refine Ke ?_ | refine Ka ?_ _)); exact BK122.out) hb)
        have n4_ := Am (IsS49.below (by repeat (first | (with_reducible first | exact HI0.out | apply IsS49.alloc | apply IsS49.drewN | apply IsS49.drew | apply IsS49.set_1 | apply IsS49.set_2 | refine IsS49.far ?_ NB0_118.out _ | refine IsS49.far ?_ NB0_122.out _) | exact HI0.out)) hb)
        have n5_ := Am (KeepBut.trans (by repeat (first | (with_reducible first | exact HK.out | apply KeepBut.set_ | apply keep_drewN | apply keep_drew | apply keep_alloc | refine keep_far ?_ GW118.out _ | refine keep_far ?_ GW122.out _) | exact HK.out)) (KeepBut.of_below hb g none) (.inl rfl))
        have n6_ := Am (Bt (by repeat (first | (with_reducible first | exact HB.out | apply Ba | apply Bn | apply Bd | refine Bs ?_ (IsS49.ge HI0.out) | refine Bs ?_ GE118.out | refine Bs ?_ GE122.out) | exact HB.out)) hb)
        clear HO_123001
        clear BK118
        clear BK122
        clear HI0
        clear HK
        clear HB
        have HO_123001 := n0_
        have HO140 := n1_
        have BK118 := n2_
        have BK122 := n3_
        have HI0 := n4_
        have HK := n5_
        have HB := n6_
        clear n0_ n1_ n2_ n3_ n4_ n5_ n6_
        clear hb ho40
        obtain ⟨Ao41, co41, eo41⟩ := Rs HO140.out
        (first | subst eo41 | (injection eo41 with f1_ f2_ f3_; have f4_ := f1_.symm; have f5_ := f3_.symm; clear f1_ f2_ f3_; subst f4_; subst f5_))
        refine hK.out _ _ ⟨(Kc BK122.out 0).trans rfl, (Kc BK122.out 1).trans rfl⟩ (fun hHeld => ?_)
        clear hK K
        refine norm_ (a' := ?_) ?_ ?_
        rotate_left
        ·show Act.put _ (some 37) _ = _
         simp only [Act.put, Lt, Lz, Ls, i64_w, i32_w]
         rfl
        refine one_ (i := 4) (N := some 38) #[true, true, true, true, true, false, false] rfl rfl (by kernel_rfl) (by decide) (fun K hK => ?_)
        refine goes_ Tryz.func55 (by kernel_rfl) rfl #[.pointer (some ⟨g, 0, none⟩), .slice Ao41 y138.length co41] (by rfl) rfl rfl (by first | rfl | (simp only [List.map_toArray, List.map_cons, List.map_nil]; first | done | rfl)) ?_
        with_reducible refine (spec_l1Cur_among.calls g s0_0 t130 t131 _ _ y138 t141 t142 t143 w0 _ ?side1 ?side2 ?side3 ?side4 ?side5 A34.out).mono ?_
        (case side1 => repeat (first | (with_reducible first | exact HI0.out | apply IsS49.alloc | apply IsS49.drewN | apply IsS49.drew | apply IsS49.set_1 | apply IsS49.set_2 | refine IsS49.far ?_ NB0_118.out _ | refine IsS49.far ?_ NB0_122.out _) | exact HI0.out))
        (case side2 => repeat (first | (with_reducible first | exact HB.out | apply Ba | apply Bn | apply Bd | refine Bs ?_ (IsS49.ge HI0.out) | refine Bs ?_ GE118.out | refine Bs ?_ GE122.out) | exact HB.out))
        (case side3 => repeat (first | exact (Kd.R_reads' HO140.out).2.2 | (with_reducible refine Kd.C_alloc ?_ _) | (with_reducible refine Kd.C_drewN ?_ _) | (with_reducible refine Kd.C_drew ?_)))
        (case side4 => exact (Kd.R_reads' HO140.out).2.1)
        (case side5 => exact far_slice (IsS49.own_ne HI0.out HO140.out (by decide)))
        rintro e w42 ⟨rfl, hi, hb, hk⟩
        refine ⟨_, rfl, ?_⟩
        have n0_ := Am (Rm (Kd.R_keep (IsS49.apart (show IsS49 w0 _ g s0_0 t130 t131 from by repeat (first | (with_reducible first | exact HI0.out | apply IsS49.alloc | apply IsS49.drewN | apply IsS49.drew | apply IsS49.set_1 | apply IsS49.set_2 | refine IsS49.far ?_ NB0_118.out _ | refine IsS49.far ?_ NB0_122.out _) | exact HI0.out)) (by (with_reducible repeat (first | apply Ra | apply Rn | apply Rd)); exact HO_123001.out) (by decide)) hk (fun _ h => h.2)) (fun _ h => h.1))
        have n1_ := Am (KeepBut.blk hk (g' := gb118) (o := .cells #[.int .i64 0, .slice none 0 0] 26 (0, 0)) (by (with_reducible repeat (first | refine Kn ?_ _ | refine Ke ?_ | refine Ka ?_ _)); exact BK118.out) NB118_0.out (by simp))
        have n2_ := Am (KeepBut.blk hk (g' := gb122) (o := .cells #[.int .i64 t119, u123001] 26 (0, 0)) (by (with_reducible repeat (first | refine Kn ?_ _ | refine Ke ?_ | refine Ka ?_ _)); exact BK122.out) NB122_0.out (by simp))
        have n3_ := Am (Rm (Kd.R_keep (IsS49.apart (show IsS49 w0 _ g s0_0 t130 t131 from by repeat (first | (with_reducible first | exact HI0.out | apply IsS49.alloc | apply IsS49.drewN | apply IsS49.drew | apply IsS49.set_1 | apply IsS49.set_2 | refine IsS49.far ?_ NB0_118.out _ | refine IsS49.far ?_ NB0_122.out _) | exact HI0.out)) (by (with_reducible repeat (first | apply Ra | apply Rn | apply Rd)); exact HO140.out) (by decide)) hk (fun _ h => h.2)) (fun _ h => h.1))
        have n4_ := Am (KeepBut.trans (by repeat (first | (with_reducible first | exact HK.out | apply KeepBut.set_ | apply keep_drewN | apply keep_drew | apply keep_alloc | refine keep_far ?_ GW118.out _ | refine keep_far ?_ GW122.out _) | exact HK.out)) hk (.inl rfl))
        have n5_ := Am (hb)
        have n6_ := Am (hi)
        clear HO_123001
        clear BK118
        clear BK122
        clear HO140
        clear HK
        clear HB
        clear HI0
        have HO_123001 := n0_
        have BK118 := n1_
        have BK122 := n2_
        have HO140 := n3_
        have HK := n4_
        have HB := n5_
        have HI0 := n6_
        clear n0_ n1_ n2_ n3_ n4_ n5_ n6_
        (try clear hb)
        (try clear hb2)
        (try clear hk)
        (try clear hi)
        have p36 : 0 ≤ (0 : Int) := (by omega)
        have q36 : (0 : Int) < ((x123001_1.length : Int) : Int) := of_decide_eq_true (by assumption)
        have qi36 : (0 < x123001_1.length) = True := eq_true (by omega)
        obtain ⟨go36, co36, eo36, gb36, gl36, cl36, HG36⟩ := Kd.R_form HO_123001.out (by omega)
        (first | cases eo36 | (injection eo36 with ea_ en_ ec_; (first | subst ea_ | (injection ea_ with ea_; subst ea_)); subst ec_; clear en_))
        have GB36 := Am gb36
        have GG36 := Am HG36
        clear gb36 gl36 HG36
        obtain ⟨hx36_0, hf36_0⟩ := Kd.R_celln 0 HO_123001.out (0 : Int) p36 q36
        (try rw [show ((0 : Int)).toNat = 0 from rfl] at hx36_0)
        (try simp only [Nat.reduceMul, Nat.zero_mul, Nat.zero_add, Nat.reduceAdd] at hx36_0)
        (try rw [show ((0 : Int)).toNat = 0 from rfl] at hf36_0)
        (try simp only [Nat.reduceMul, Nat.zero_mul, Nat.zero_add, Nat.reduceAdd] at hf36_0)
        replace p36 := eq_true p36
        replace q36 := eq_true q36
        have HN0_go36 := Am (show g ≠ go36 from by have h_ := IsS49.own_ne HI0.out HO_123001.out (by decide); intro e_; exact h_ (by rw [e_]; rfl))
        have HP43 := Kd.R_putn HO_123001.out (0 : Int) t141
        rw [← Ny144.out] at HP43
        have HQ43 := Am HP43
        clear HP43
        refine hK.out _ _ ⟨(Kc BK122.out 0).trans rfl, (Kc BK122.out 1).trans rfl⟩ (fun hHeld => ?_)
        clear hK K
        refine norm_ (a' := ?_) ?_ ?_
        rotate_left
        ·show Act.put _ (some 38) _ = _
         simp only [Act.put, Lt, Lz, Ls, i64_w, i32_w]
         rfl
        refine pure_ (i := 5) (N := some 39) (v := ?_) (a' := ?_) #[true, true, true, true, true, true, false] rfl rfl (by kernel_rfl) (fun _ _ _ h => h) (Or.inl ⟨by rfl, ?_⟩) ?_ ?_
        rotate_left
        ·intro w'
         go_simp
         with_reducible rfl
        rotate_left
        ·simp only [Act.put, Lt, Lz, Ls, i64_w, i32_w]
         rfl
        refine last_ (i := 6) (N := none) #[true, true, true, true, true, true, true] rfl rfl (by kernel_rfl) (by decide) (fun K hK => ?_)
        refine skip_ (w1 := ?_) (by rfl) rfl ?_ ?_
        rotate_left
        ·go_simp
         rfl
        refine hK.out _ _ ?_
        clear hK K
        refine done_ (by kernel_rfl) ?_
        have n0_ : Ad (Kd.R (Kd.int .i64) 3 (w42.setCell ⟨go36, 0, none⟩ (.int .i64 t141)) w.heap.size (fun k_ => some k_ ≠ (.slice Ao41 y138.length co41 : Value).ownBlock) (.slice (some ⟨go36, 0, none⟩) x123001_1.length co36) y144) := ⟨by (with_reducible repeat (first | apply Ra | apply Rn | apply Rd)); exact Rm HQ43.out (fun _ hk => hk.2)⟩
        have n1_ : Ad (Kd.R (Kd.int .i64) 3 (w42.setCell ⟨go36, 0, none⟩ (.int .i64 t141)) w.heap.size (fun k_ => some k_ ≠ (.slice (some ⟨go36, 0, none⟩) x123001_1.length co36 : Value).ownBlock) (.slice Ao41 y138.length co41) y138) := ⟨by (with_reducible repeat (first | apply Ra | apply Rn | apply Rd)); exact Rm (Kd.R_far (p := ⟨go36, 0, none⟩) (Rm HO140.out (fun k_ hk => (⟨hk, fun e_ => hk.2 (by rw [e_]; rfl)⟩ : _ ∧ k_ ≠ go36))) (fun _ hk => hk.2) (.int .i64 t141)) (fun _ hk => hk.1.2)⟩
        have n2_ : Ad ((w42.setCell ⟨go36, 0, none⟩ (.int .i64 t141)).heap[gb118]? = some (.cells #[.int .i64 0, .slice none 0 0] 26 (0, 0))) := ⟨by (with_reducible repeat (first | refine Kn ?_ _ | refine Ke ?_ | refine Ka ?_ _)); refine Kf ?_ (by have h_ := Kd.R_ne HO_123001.out BK118.out (by decide); intro e_; exact h_ (by rw [e_]; rfl)) _; (with_reducible repeat (first | refine Kn ?_ _ | refine Ke ?_ | refine Ka ?_ _)); exact BK118.out⟩
        have n3_ : Ad ((w42.setCell ⟨go36, 0, none⟩ (.int .i64 t141)).heap[gb122]? = some (.cells #[.int .i64 t119, .slice (some ⟨go36, 0, none⟩) x123001_1.length co36] 26 (0, 0))) := ⟨by (with_reducible repeat (first | refine Kn ?_ _ | refine Ke ?_ | refine Ka ?_ _)); refine Kf ?_ (by have h_ := Kd.R_ne HO_123001.out BK122.out (by decide); intro e_; exact h_ (by rw [e_]; rfl)) _; (with_reducible repeat (first | refine Kn ?_ _ | refine Ke ?_ | refine Ka ?_ _)); exact BK122.out⟩
        have n4_ : Ad (IsS49 w0 (w42.setCell ⟨go36, 0, none⟩ (.int .i64 t141)) g s0_0 t142 t143) := ⟨by repeat (first | (with_reducible first | exact HI0.out | apply IsS49.alloc | apply IsS49.drewN | apply IsS49.drew | apply IsS49.set_1 | apply IsS49.set_2 | refine IsS49.far ?_ HN0_go36.out _ | refine IsS49.far ?_ NB0_118.out _ | refine IsS49.far ?_ NB0_122.out _) | exact HI0.out)⟩
        have n5_ : Ad (KeepBut w (w42.setCell ⟨go36, 0, none⟩ (.int .i64 t141)) g none) := ⟨by repeat (first | (with_reducible first | exact HK.out | apply KeepBut.set_ | apply keep_drewN | apply keep_drew | apply keep_alloc | refine keep_far ?_ GB36.out _ | refine keep_far ?_ GW118.out _ | refine keep_far ?_ GW122.out _) | exact HK.out)⟩
        have n6_ : Ad (Below w0.heap.size w0 (w42.setCell ⟨go36, 0, none⟩ (.int .i64 t141))) := ⟨by repeat (first | (with_reducible first | exact HB.out | apply Ba | apply Bn | apply Bd | refine Bs ?_ (Nat.le_trans HL.out GB36.out) | refine Bs ?_ (IsS49.ge HI0.out) | refine Bs ?_ GE118.out | refine Bs ?_ GE122.out) | exact HB.out)⟩
        (try clear HO_123001)
        (try clear HO140)
        (try clear BK118)
        (try clear BK122)
        (try clear HI0)
        (try clear HK)
        (try clear HB)
        generalize (w42.setCell ⟨go36, 0, none⟩ (.int .i64 t141)) = w44 at n0_ n1_ n2_ n3_ n4_ n5_ n6_ ⊢
        have HO_123001 := n0_
        have HO140 := n1_
        have BK118 := n2_
        have BK122 := n3_
        have HI0 := n4_
        have HK := n5_
        have HB := n6_
        clear n0_ n1_ n2_ n3_ n4_ n5_ n6_
        have hnb45 := NB122_118.out
        have hnc45 := NB118_122.out
        have hnb46 := NB122_0.out
        have hnc46 := NB0_122.out
        have hcz47_0 : w44.cell? ⟨gb122, 0, none⟩ = some (.int .i64 t119) := (Kc BK122.out 0).trans rfl
        have hcz47_1 : w44.cell? ⟨gb122, 1, none⟩ = some (.slice (some ⟨go36, 0, none⟩) x123001_1.length co36) := (Kc BK122.out 1).trans rfl
        have hfz47_0 := Kz BK122.out 0
        have hfz47_1 := Kz BK122.out 1
        have hnb48 := NB118_0.out
        have hnc48 := NB0_118.out
        have hcz49_0 : w44.cell? ⟨gb118, 0, none⟩ = some (.int .i64 0) := (Kc BK118.out 0).trans rfl
        have hcz49_1 : w44.cell? ⟨gb118, 1, none⟩ = some (.slice none 0 0) := (Kc BK118.out 1).trans rfl
        have hfz49_0 := Kz BK118.out 0
        have hfz49_1 := Kz BK118.out 1
        try go_wp2
        refine bodyPost_ret (results_cell_row rfl _ _ gb118 26 #[.int .i64 t119, .slice (some ⟨go36, 0, none⟩) x123001_1.length co36] (0, 0) _ rfl (by (with_reducible repeat (first | refine Kn ?_ _ | refine Ke ?_ | refine Ka ?_ _)); refine blk_put (cs := #[.int .i64 t119, .slice none 0 0]) ?_ 1 _ rfl; (with_reducible repeat (first | refine Kn ?_ _ | refine Ke ?_ | refine Ka ?_ _)); refine blk_put (cs := #[.int .i64 0, .slice none 0 0]) ?_ 0 _ rfl; (with_reducible repeat (first | refine Kn ?_ _ | refine Ke ?_ | refine Ka ?_ _)); exact BK118.out) Tryz.underlying26 rfl (by kernel_rfl)) rfl ?_
        exact ⟨_, by first | rfl | (simp [*, errW_none, errW_some] <;> rfl), by (with_reducible repeat (first | apply Ra | apply Rn | apply Rd)); exact Rm (Kd.R_far (p := ⟨gb118, 1, none⟩) (Kd.R_far (p := ⟨gb118, 0, none⟩) (Kd.R_types HO_123001.out BK118.out (by decide)) (fun _ hk => hk.2) (.int .i64 t119)) (fun _ hk => hk.2) (.slice (some ⟨go36, 0, none⟩) x123001_1.length co36)) (fun _ hk => trivial), by repeat (first | (with_reducible first | exact HI0.out | apply IsS49.alloc | apply IsS49.drewN | apply IsS49.drew | apply IsS49.set_1 | apply IsS49.set_2 | refine IsS49.far ?_ NB0_118.out _ | refine IsS49.far ?_ NB0_122.out _) | exact HI0.out), by repeat (first | (with_reducible first | exact HB.out | apply Ba | apply Bn | apply Bd | refine Bs ?_ (IsS49.ge HI0.out) | refine Bs ?_ GE118.out | refine Bs ?_ GE122.out) | exact HB.out), by repeat (first | (with_reducible first | exact HK.out | apply KeepBut.set_ | apply keep_drewN | apply keep_drew | apply keep_alloc | refine keep_far ?_ GW118.out _ | refine keep_far ?_ GW122.out _) | exact HK.out)⟩
       ·rw [if_neg c35] at H
        exact absurd H (by simp)
      ·rw [if_neg c33] at H
       have c33b0 : decide (0 < a1) = false := decide_eq_false c33
       clear c33
       simp only [Option.some.injEq, Prod.mk.injEq] at H
       obtain ⟨rfl, rfl, rfl, rfl⟩ := H
       go_wp2_with (first | ((refine Gc (f := 50) rfl ?_); refine goesL_ (some 23) rfl rfl Tryz.func50 (by kernel_rfl) rfl #[.pointer (some ⟨g, 0, none⟩), .int .i64 30] rfl (by first | rfl | (simp only [List.map_toArray, List.map_cons, List.map_nil]; first | done | rfl)) ?_; (with_reducible refine (spec_l1Cur_pick.calls g s0_0 x1001_1 x1002_1 30 t129 t130 t131 w0 _ ?side1 ?side2 A18.out).mono ?_); (case side1 => repeat (first | (with_reducible first | exact HI0.out | apply IsS49.alloc | apply IsS49.drewN | apply IsS49.drew | apply IsS49.set_1 | apply IsS49.set_2 | refine IsS49.far ?_ NB0_118.out _ | refine IsS49.far ?_ NB0_122.out _) | exact HI0.out)); (case side2 => repeat (first | (with_reducible first | exact HB.out | apply Ba | apply Bn | apply Bd | refine Bs ?_ (IsS49.ge HI0.out) | refine Bs ?_ GE118.out | refine Bs ?_ GE122.out) | exact HB.out)); rintro e w50 ⟨rfl, hi, hb, hk⟩; refine ⟨_, rfl, ?_⟩; have n0_ := Am (Rm (Kd.R_keep (IsS49.apart (show IsS49 w0 _ g s0_0 x1001_1 x1002_1 from by repeat (first | (with_reducible first | exact HI0.out | apply IsS49.alloc | apply IsS49.drewN | apply IsS49.drew | apply IsS49.set_1 | apply IsS49.set_2 | refine IsS49.far ?_ NB0_118.out _ | refine IsS49.far ?_ NB0_122.out _) | exact HI0.out)) (by (with_reducible repeat (first | apply Ra | apply Rn | apply Rd)); exact HO_123001.out) (by decide)) hk (fun _ h => h.2)) (fun _ h => h.1)); have n1_ := Am (KeepBut.blk hk (g' := gb118) (o := .cells #[.int .i64 0, .slice none 0 0] 26 (0, 0)) (by (with_reducible repeat (first | refine Kn ?_ _ | refine Ke ?_ | refine Ka ?_ _)); exact BK118.out) NB118_0.out (by simp)); have n2_ := Am (KeepBut.blk hk (g' := gb122) (o := .cells #[.int .i64 t119, u123001] 26 (0, 0)) (by (with_reducible repeat (first | refine Kn ?_ _ | refine Ke ?_ | refine Ka ?_ _)); exact BK122.out) NB122_0.out (by simp)); have n3_ := Am (KeepBut.trans (by repeat (first | (with_reducible first | exact HK.out | apply KeepBut.set_ | apply keep_drewN | apply keep_drew | apply keep_alloc | refine keep_far ?_ GW118.out _ | refine keep_far ?_ GW122.out _) | exact HK.out)) hk (.inl rfl)); have n4_ := Am (hb); have n5_ := Am (hi); clear HO_123001; clear BK118; clear BK122; clear HK; clear HB; clear HI0; have HO_123001 := n0_; have BK118 := n1_; have BK122 := n2_; have HK := n3_; have HB := n4_; have HI0 := n5_; clear n0_ n1_ n2_ n3_ n4_ n5_; (try clear hb); (try clear hb2); (try clear hk); (try clear hi); have hnb51 := NB122_118.out; have hnc51 := NB118_122.out; have hnb52 := NB122_0.out; have hnc52 := NB0_122.out; have hcz53_0 : w50.cell? ⟨gb122, 0, none⟩ = some (.int .i64 t119) := (Kc BK122.out 0).trans rfl; have hcz53_1 : w50.cell? ⟨gb122, 1, none⟩ = some (u123001) := (Kc BK122.out 1).trans rfl; have hfz53_0 := Kz BK122.out 0; have hfz53_1 := Kz BK122.out 1; have hnb54 := NB118_0.out; have hnc54 := NB0_118.out; have hcz55_0 : w50.cell? ⟨gb118, 0, none⟩ = some (.int .i64 0) := (Kc BK118.out 0).trans rfl; have hcz55_1 : w50.cell? ⟨gb118, 1, none⟩ = some (.slice none 0 0) := (Kc BK118.out 1).trans rfl; have hfz55_0 := Kz BK118.out 0; have hfz55_1 := Kz BK118.out 1; obtain ⟨Ao56, co56, eo56⟩ := Rs HO_123001.out; subst eo56))
       refine bodyPost_ret (results_cell_row rfl _ _ gb118 26 #[.int .i64 t119, .slice Ao56 x123001_1.length co56] (0, 0) _ rfl (by (with_reducible repeat (first | refine Kn ?_ _ | refine Ke ?_ | refine Ka ?_ _)); refine blk_put (cs := #[.int .i64 t119, .slice none 0 0]) ?_ 1 _ rfl; (with_reducible repeat (first | refine Kn ?_ _ | refine Ke ?_ | refine Ka ?_ _)); refine blk_put (cs := #[.int .i64 0, .slice none 0 0]) ?_ 0 _ rfl; (with_reducible repeat (first | refine Kn ?_ _ | refine Ke ?_ | refine Ka ?_ _)); exact BK118.out) Tryz.underlying26 rfl (by kernel_rfl)) rfl ?_
       exact ⟨_, by first | rfl | (simp [*, errW_none, errW_some] <;> rfl), by (with_reducible repeat (first | apply Ra | apply Rn | apply Rd)); exact Rm (Kd.R_far (p := ⟨gb118, 1, none⟩) (Kd.R_far (p := ⟨gb118, 0, none⟩) (Kd.R_types HO_123001.out BK118.out (by decide)) (fun _ hk => hk.2) (.int .i64 t119)) (fun _ hk => hk.2) (.slice Ao56 x123001_1.length co56)) (fun _ hk => trivial), by repeat (first | (with_reducible first | exact HI0.out | apply IsS49.alloc | apply IsS49.drewN | apply IsS49.drew | apply IsS49.set_1 | apply IsS49.set_2 | refine IsS49.far ?_ NB0_118.out _ | refine IsS49.far ?_ NB0_122.out _) | exact HI0.out), by repeat (first | (with_reducible first | exact HB.out | apply Ba | apply Bn | apply Bd | refine Bs ?_ (IsS49.ge HI0.out) | refine Bs ?_ GE118.out | refine Bs ?_ GE122.out) | exact HB.out), by repeat (first | (with_reducible first | exact HK.out | apply KeepBut.set_ | apply keep_drewN | apply keep_drew | apply keep_alloc | refine keep_far ?_ GW118.out _ | refine keep_far ?_ GW122.out _) | exact HK.out)⟩
     ·rw [if_neg c32] at H
      have c32b0 : (t129 == 1) = false := beq_eq_false_iff_ne.mpr c32
      have c32b1 : (t129 != 1) = true := bne_iff_ne.mpr c32
      by_cases c57 : t129 = 2
      ·rw [if_pos c57] at H
       have c57b0 : (t129 == 2) = true := beq_iff_eq.mpr c57
       have c57b1 : (t129 != 2) = false := bne_eq_false_iff_eq.mpr c57
       clear c57
       by_cases c58 : x123001_1.length < 17592186044416
       ·rw [if_pos c58] at H
        have LMc58 := Am c58
        clear c58
        obtain ⟨y145, hy145⟩ : ∃ y_ : List Int, y_ = (x123001_1 ++ [1]) := ⟨_, rfl⟩
        replace H : (some (t119, y145, t130, t131)) = some (r1, r2, r3, r4) := by first | (rw [hy145]; with_reducible exact H) | (have H2_ := (Option.bind_some _ _).symm.trans H; rw [hy145]; with_reducible exact H2_) | (have H2_ := (Option.bind_some _ _).symm.trans H; with_reducible exact H2_) | with_reducible exact H | (rw [hy145]; exact H) | exact H
        have Ny145 := Am hy145
        clear hy145
        simp only [Option.some.injEq, Prod.mk.injEq] at H
        obtain ⟨rfl, rfl, rfl, rfl⟩ := H
        go_wp2_with (first | ((refine Gc (f := 50) rfl ?_); refine goesL_ (some 23) rfl rfl Tryz.func50 (by kernel_rfl) rfl #[.pointer (some ⟨g, 0, none⟩), .int .i64 30] rfl (by first | rfl | (simp only [List.map_toArray, List.map_cons, List.map_nil]; first | done | rfl)) ?_; (with_reducible refine (spec_l1Cur_pick.calls g s0_0 x1001_1 x1002_1 30 t129 t130 t131 w0 _ ?side1 ?side2 A18.out).mono ?_); (case side1 => repeat (first | (with_reducible first | exact HI0.out | apply IsS49.alloc | apply IsS49.drewN | apply IsS49.drew | apply IsS49.set_1 | apply IsS49.set_2 | refine IsS49.far ?_ NB0_118.out _ | refine IsS49.far ?_ NB0_122.out _) | exact HI0.out)); (case side2 => repeat (first | (with_reducible first | exact HB.out | apply Ba | apply Bn | apply Bd | refine Bs ?_ (IsS49.ge HI0.out) | refine Bs ?_ GE118.out | refine Bs ?_ GE122.out) | exact HB.out)); rintro e w59 ⟨rfl, hi, hb, hk⟩; refine ⟨_, rfl, ?_⟩; have n0_ := Am (Rm (Kd.R_keep (IsS49.apart (show IsS49 w0 _ g s0_0 x1001_1 x1002_1 from by repeat (first | (with_reducible first | exact HI0.out | apply IsS49.alloc | apply IsS49.drewN | apply IsS49.drew | apply IsS49.set_1 | apply IsS49.set_2 | refine IsS49.far ?_ NB0_118.out _ | refine IsS49.far ?_ NB0_122.out _) | exact HI0.out)) (by (with_reducible repeat (first | apply Ra | apply Rn | apply Rd)); exact HO_123001.out) (by decide)) hk (fun _ h => h.2)) (fun _ h => h.1)); have n1_ := Am (KeepBut.blk hk (g' := gb118) (o := .cells #[.int .i64 0, .slice none 0 0] 26 (0, 0)) (by (with_reducible repeat (first | refine Kn ?_ _ | refine Ke ?_ | refine Ka ?_ _)); exact BK118.out) NB118_0.out (by simp)); have n2_ := Am (KeepBut.blk hk (g' := gb122) (o := .cells #[.int .i64 t119, u123001] 26 (0, 0)) (by (with_reducible repeat (first | refine Kn ?_ _ | refine Ke ?_ | refine Ka ?_ _)); exact BK122.out) NB122_0.out (by simp)); have n3_ := Am (KeepBut.trans (by repeat (first | (with_reducible first | exact HK.out | apply KeepBut.set_ | apply keep_drewN | apply keep_drew | apply keep_alloc | refine keep_far ?_ GW118.out _ | refine keep_far ?_ GW122.out _) | exact HK.out)) hk (.inl rfl)); have n4_ := Am (hb); have n5_ := Am (hi); clear HO_123001; clear BK118; clear BK122; clear HK; clear HB; clear HI0; have HO_123001 := n0_; have BK118 := n1_; have BK122 := n2_; have HK := n3_; have HB := n4_; have HI0 := n5_; clear n0_ n1_ n2_ n3_ n4_ n5_; (try clear hb); (try clear hb2); (try clear hk); (try clear hi); have hnb60 := NB122_118.out; have hnc60 := NB118_122.out; have hnb61 := NB122_0.out; have hnc61 := NB0_122.out; have hcz62_0 : w59.cell? ⟨gb122, 0, none⟩ = some (.int .i64 t119) := (Kc BK122.out 0).trans rfl; have hcz62_1 : w59.cell? ⟨gb122, 1, none⟩ = some (u123001) := (Kc BK122.out 1).trans rfl; have hfz62_0 := Kz BK122.out 0; have hfz62_1 := Kz BK122.out 1) | ((with_reducible refine gate_builtin (b := .append) (xs := #[.tmp 43, .tmp 44]) rfl ?_); at_builtin; refine Kd.R_append (Kd.int .i64) w.heap.size rfl (.tmp 43) (.tmp 44) 24 3 (.int .i64 0) 8 rfl Tryz.underlying24 info3 rfl (by decide) (by omega) u123001 x123001_1 1 [.int .i64 1] (fun _ => True) (fun _ => False) rfl rfl ?aP (fun _ hk => hk.elim) ?aF ?aO (Below.refl _ _) ?aS ?aL ?_; (case aP => exact rfl); (case aF => exact (fun _ _ => trivial)); (case aO => exact (by (with_reducible repeat (first | apply Ra | apply Rn | apply Rd)); exact HO_123001.out)); (case aS => exact (keep_size (w := w) (g := g) (row := none) (by repeat (first | (with_reducible first | exact HK.out | apply KeepBut.set_ | apply keep_drewN | apply keep_drew | apply keep_alloc | refine keep_far ?_ GW118.out _ | refine keep_far ?_ GW122.out _) | exact HK.out)))); (case aL => have := LMc58.out; omega); intro v146 w63 ho hb hg hat; rw [← Ny145.out] at ho; have n0_ := Am (blk_grown (g := gb118) (o := .cells #[.int .i64 0, .slice none 0 0] 26 (0, 0)) (by (with_reducible repeat (first | refine Kn ?_ _ | refine Ke ?_ | refine Ka ?_ _)); exact BK118.out) hg (Kd.R_ne HO_123001.out BK118.out (by decide))); have n1_ := Am (blk_grown (g := gb122) (o := .cells #[.int .i64 t119, u123001] 26 (0, 0)) (by (with_reducible repeat (first | refine Kn ?_ _ | refine Ke ?_ | refine Ka ?_ _)); exact BK122.out) hg (Kd.R_ne HO_123001.out BK122.out (by decide))); have n2_ := Am (IsS49.grown (by repeat (first | (with_reducible first | exact HI0.out | apply IsS49.alloc | apply IsS49.drewN | apply IsS49.drew | apply IsS49.set_1 | apply IsS49.set_2 | refine IsS49.far ?_ NB0_118.out _ | refine IsS49.far ?_ NB0_122.out _) | exact HI0.out)) hg (IsS49.own_ne HI0.out HO_123001.out (by decide))); have n3_ := Am (below_weaken (by repeat (first | (with_reducible first | exact HB.out | apply Ba | apply Bn | apply Bd | refine Bs ?_ (IsS49.ge HI0.out) | refine Bs ?_ GE118.out | refine Bs ?_ GE122.out) | exact HB.out)) HL.out hb); have n4_ := Am (KeepBut.trans (by repeat (first | (with_reducible first | exact HK.out | apply KeepBut.set_ | apply keep_drewN | apply keep_drew | apply keep_alloc | refine keep_far ?_ GW118.out _ | refine keep_far ?_ GW122.out _) | exact HK.out)) (KeepBut.of_grown hg g) (Kd.R_base2 HO_123001.out)); have n5_ := Am (ho); clear BK118; clear BK122; clear HI0; clear HB; clear HK; clear HO_123001; have BK118 := n0_; have BK122 := n1_; have HI0 := n2_; have HB := n3_; have HK := n4_; have HO147 := n5_; clear n0_ n1_ n2_ n3_ n4_ n5_; clear ho hb hg hat; obtain ⟨Ao64, co64, eo64⟩ := Rs HO147.out; subst eo64; have hcz65_0 : w63.cell? ⟨gb122, 0, none⟩ = some (.int .i64 t119) := (Kc BK122.out 0).trans rfl; have hcz65_1 : w63.cell? ⟨gb122, 1, none⟩ = some (u123001) := (Kc BK122.out 1).trans rfl; have hfz65_0 := Kz BK122.out 0; have hfz65_1 := Kz BK122.out 1; have hnb66 := NB118_0.out; have hnc66 := NB0_118.out; have hcz67_0 : w63.cell? ⟨gb118, 0, none⟩ = some (.int .i64 0) := (Kc BK118.out 0).trans rfl; have hcz67_1 : w63.cell? ⟨gb118, 1, none⟩ = some (.slice none 0 0) := (Kc BK118.out 1).trans rfl; have hfz67_0 := Kz BK118.out 0; have hfz67_1 := Kz BK118.out 1))
        refine bodyPost_ret (results_cell_row rfl _ _ gb118 26 #[.int .i64 t119, .slice Ao64 y145.length co64] (0, 0) _ rfl (by (with_reducible repeat (first | refine Kn ?_ _ | refine Ke ?_ | refine Ka ?_ _)); refine blk_put (cs := #[.int .i64 t119, .slice none 0 0]) ?_ 1 _ rfl; (with_reducible repeat (first | refine Kn ?_ _ | refine Ke ?_ | refine Ka ?_ _)); refine blk_put (cs := #[.int .i64 0, .slice none 0 0]) ?_ 0 _ rfl; (with_reducible repeat (first | refine Kn ?_ _ | refine Ke ?_ | refine Ka ?_ _)); refine Kf ?_ NB118_122.out _; (with_reducible repeat (first | refine Kn ?_ _ | refine Ke ?_ | refine Ka ?_ _)); exact BK118.out) Tryz.underlying26 rfl (by kernel_rfl)) rfl ?_
        exact ⟨_, by first | rfl | (simp [*, errW_none, errW_some] <;> rfl), by (with_reducible repeat (first | apply Ra | apply Rn | apply Rd)); exact Rm (Kd.R_far (p := ⟨gb118, 1, none⟩) (Kd.R_far (p := ⟨gb118, 0, none⟩) (Kd.R_far (p := ⟨gb122, 1, none⟩) (Kd.R_types (Kd.R_types HO147.out BK122.out (by decide)) BK118.out (by decide)) (fun _ hk => hk.1.2) (.slice Ao64 y145.length co64)) (fun _ hk => hk.2) (.int .i64 t119)) (fun _ hk => hk.2) (.slice Ao64 y145.length co64)) (fun _ hk => trivial), by repeat (first | (with_reducible first | exact HI0.out | apply IsS49.alloc | apply IsS49.drewN | apply IsS49.drew | apply IsS49.set_1 | apply IsS49.set_2 | refine IsS49.far ?_ NB0_118.out _ | refine IsS49.far ?_ NB0_122.out _) | exact HI0.out), by repeat (first | (with_reducible first | exact HB.out | apply Ba | apply Bn | apply Bd | refine Bs ?_ (IsS49.ge HI0.out) | refine Bs ?_ GE118.out | refine Bs ?_ GE122.out) | exact HB.out), by repeat (first | (with_reducible first | exact HK.out | apply KeepBut.set_ | apply keep_drewN | apply keep_drew | apply keep_alloc | refine keep_far ?_ GW118.out _ | refine keep_far ?_ GW122.out _) | exact HK.out)⟩
       ·rw [if_neg c58] at H
        exact absurd H (by simp)
      ·rw [if_neg c57] at H
       have c57b0 : (t129 == 2) = false := beq_eq_false_iff_ne.mpr c57
       have c57b1 : (t129 != 2) = true := bne_iff_ne.mpr c57
       simp only [Option.some.injEq, Prod.mk.injEq] at H
       obtain ⟨rfl, rfl, rfl, rfl⟩ := H
       go_wp2_with (first | ((refine Gc (f := 50) rfl ?_); refine goesL_ (some 23) rfl rfl Tryz.func50 (by kernel_rfl) rfl #[.pointer (some ⟨g, 0, none⟩), .int .i64 30] rfl (by first | rfl | (simp only [List.map_toArray, List.map_cons, List.map_nil]; first | done | rfl)) ?_; (with_reducible refine (spec_l1Cur_pick.calls g s0_0 x1001_1 x1002_1 30 t129 t130 t131 w0 _ ?side1 ?side2 A18.out).mono ?_); (case side1 => repeat (first | (with_reducible first | exact HI0.out | apply IsS49.alloc | apply IsS49.drewN | apply IsS49.drew | apply IsS49.set_1 | apply IsS49.set_2 | refine IsS49.far ?_ NB0_118.out _ | refine IsS49.far ?_ NB0_122.out _) | exact HI0.out)); (case side2 => repeat (first | (with_reducible first | exact HB.out | apply Ba | apply Bn | apply Bd | refine Bs ?_ (IsS49.ge HI0.out) | refine Bs ?_ GE118.out | refine Bs ?_ GE122.out) | exact HB.out)); rintro e w68 ⟨rfl, hi, hb, hk⟩; refine ⟨_, rfl, ?_⟩; have n0_ := Am (Rm (Kd.R_keep (IsS49.apart (show IsS49 w0 _ g s0_0 x1001_1 x1002_1 from by repeat (first | (with_reducible first | exact HI0.out | apply IsS49.alloc | apply IsS49.drewN | apply IsS49.drew | apply IsS49.set_1 | apply IsS49.set_2 | refine IsS49.far ?_ NB0_118.out _ | refine IsS49.far ?_ NB0_122.out _) | exact HI0.out)) (by (with_reducible repeat (first | apply Ra | apply Rn | apply Rd)); exact HO_123001.out) (by decide)) hk (fun _ h => h.2)) (fun _ h => h.1)); have n1_ := Am (KeepBut.blk hk (g' := gb118) (o := .cells #[.int .i64 0, .slice none 0 0] 26 (0, 0)) (by (with_reducible repeat (first | refine Kn ?_ _ | refine Ke ?_ | refine Ka ?_ _)); exact BK118.out) NB118_0.out (by simp)); have n2_ := Am (KeepBut.blk hk (g' := gb122) (o := .cells #[.int .i64 t119, u123001] 26 (0, 0)) (by (with_reducible repeat (first | refine Kn ?_ _ | refine Ke ?_ | refine Ka ?_ _)); exact BK122.out) NB122_0.out (by simp)); have n3_ := Am (KeepBut.trans (by repeat (first | (with_reducible first | exact HK.out | apply KeepBut.set_ | apply keep_drewN | apply keep_drew | apply keep_alloc | refine keep_far ?_ GW118.out _ | refine keep_far ?_ GW122.out _) | exact HK.out)) hk (.inl rfl)); have n4_ := Am (hb); have n5_ := Am (hi); clear HO_123001; clear BK118; clear BK122; clear HK; clear HB; clear HI0; have HO_123001 := n0_; have BK118 := n1_; have BK122 := n2_; have HK := n3_; have HB := n4_; have HI0 := n5_; clear n0_ n1_ n2_ n3_ n4_ n5_; (try clear hb); (try clear hb2); (try clear hk); (try clear hi); have hnb69 := NB122_118.out; have hnc69 := NB118_122.out; have hnb70 := NB122_0.out; have hnc70 := NB0_122.out; have hcz71_0 : w68.cell? ⟨gb122, 0, none⟩ = some (.int .i64 t119) := (Kc BK122.out 0).trans rfl; have hcz71_1 : w68.cell? ⟨gb122, 1, none⟩ = some (u123001) := (Kc BK122.out 1).trans rfl; have hfz71_0 := Kz BK122.out 0; have hfz71_1 := Kz BK122.out 1; have hnb72 := NB118_0.out; have hnc72 := NB0_118.out; have hcz73_0 : w68.cell? ⟨gb118, 0, none⟩ = some (.int .i64 0) := (Kc BK118.out 0).trans rfl; have hcz73_1 : w68.cell? ⟨gb118, 1, none⟩ = some (.slice none 0 0) := (Kc BK118.out 1).trans rfl; have hfz73_0 := Kz BK118.out 0; have hfz73_1 := Kz BK118.out 1; obtain ⟨Ao74, co74, eo74⟩ := Rs HO_123001.out; subst eo74))
       refine bodyPost_ret (results_cell_row rfl _ _ gb118 26 #[.int .i64 t119, .slice Ao74 x123001_1.length co74] (0, 0) _ rfl (by (with_reducible repeat (first | refine Kn ?_ _ | refine Ke ?_ | refine Ka ?_ _)); refine blk_put (cs := #[.int .i64 t119, .slice none 0 0]) ?_ 1 _ rfl; (with_reducible repeat (first | refine Kn ?_ _ | refine Ke ?_ | refine Ka ?_ _)); refine blk_put (cs := #[.int .i64 0, .slice none 0 0]) ?_ 0 _ rfl; (with_reducible repeat (first | refine Kn ?_ _ | refine Ke ?_ | refine Ka ?_ _)); exact BK118.out) Tryz.underlying26 rfl (by kernel_rfl)) rfl ?_
       exact ⟨_, by first | rfl | (simp [*, errW_none, errW_some] <;> rfl), by (with_reducible repeat (first | apply Ra | apply Rn | apply Rd)); exact Rm (Kd.R_far (p := ⟨gb118, 1, none⟩) (Kd.R_far (p := ⟨gb118, 0, none⟩) (Kd.R_types HO_123001.out BK118.out (by decide)) (fun _ hk => hk.2) (.int .i64 t119)) (fun _ hk => hk.2) (.slice Ao74 x123001_1.length co74)) (fun _ hk => trivial), by repeat (first | (with_reducible first | exact HI0.out | apply IsS49.alloc | apply IsS49.drewN | apply IsS49.drew | apply IsS49.set_1 | apply IsS49.set_2 | refine IsS49.far ?_ NB0_118.out _ | refine IsS49.far ?_ NB0_122.out _) | exact HI0.out), by repeat (first | (with_reducible first | exact HB.out | apply Ba | apply Bn | apply Bd | refine Bs ?_ (IsS49.ge HI0.out) | refine Bs ?_ GE118.out | refine Bs ?_ GE122.out) | exact HB.out), by repeat (first | (with_reducible first | exact HK.out | apply KeepBut.set_ | apply keep_drewN | apply keep_drew | apply keep_alloc | refine keep_far ?_ GW118.out _ | refine keep_far ?_ GW122.out _) | exact HK.out)⟩
def spec_DrawJoinAttr.f (k : Nat) (l0 : List Int) : Option (Int × Int × List Int × Int × List Int) := (spec_l1Cur_group.f l0 0 0).bind fun n => (spec_l1Cur_attr.f k l0 n.2.1 n.2.2 n.1).bind fun t => (spec_l1Cur_attr.f k l0 t.2.2.1 t.2.2.2 n.1).bind fun u => some (n.1, t.1, t.2.1, u.1, u.2.1)
theorem spec_DrawJoinAttr.mono : ∀ l0 k, LeO (spec_DrawJoinAttr.f k l0) (spec_DrawJoinAttr.f (k + 1) l0) := by
 intro l0 k
 unfold spec_DrawJoinAttr.f
 exact LeO.bind (LeO.refl _) (fun n => LeO.bind (spec_l1Cur_attr.mono _ _ _ _ k) (fun _ => LeO.bind (spec_l1Cur_attr.mono _ _ _ _ k) (fun _ => LeO.refl _)))
set_option maxHeartbeats 8000000 in
set_option maxRecDepth 100000 in
theorem spec_DrawJoinAttr.calls (k : Nat) (A0 : Option Addr) (c0 : Nat) (l0 : List Int) (r1 r2 : Int) (r3 : List Int) (r4 : Int) (r5 : List Int) (w : World) (hr0 : Kd.C (Kd.int .u8) w A0 l0.length l0) (hc0 : l0.length ≤ c0) (h : spec_DrawJoinAttr.f k l0 = some (r1, r2, r3, r4, r5)) :
  Calls Tryz.prog 5 #[.slice A0 l0.length c0] w fun e w' => ∃ v0_ v1_ : Value, e = .returned (.tuple #[.int .i64 r1, .agg #[.int .i64 r2, v0_], .agg #[.int .i64 r4, v1_]]) ∧ Kd.R (Kd.int .i64) 3 w' w.heap.size (fun k_ => some k_ ≠ (v1_ : Value).ownBlock) v0_ r3 ∧ Kd.R (Kd.int .i64) 3 w' w.heap.size (fun k_ => some k_ ≠ (v0_ : Value).ownBlock) v1_ r5 ∧ Below w.heap.size w w' := by
 have hu_ := Tryz.underlying26
 unfold spec_DrawJoinAttr.f at h
 obtain ⟨⟨n, a1, s1⟩, hn, h⟩ := Option.bind_eq_some_iff.1 h
 obtain ⟨⟨t, tl, a2, s2⟩, ha, h⟩ := Option.bind_eq_some_iff.1 h
 obtain ⟨⟨u, ul, a3, s3⟩, hb, h⟩ := Option.bind_eq_some_iff.1 h
 simp only [Option.some.injEq, Prod.mk.injEq] at h
 obtain ⟨rfl, rfl, rfl, rfl, rfl⟩ := h
 have HN := Am hn
 have HA := Am ha
 have HC := Am hb
 clear hn ha hb
 have HR := Am hr0
 clear hr0 hc0
 go_enter Tryz.func5, Tryz.ntmps5
 go_upto_region 2 with (fail)
 refine letC (fun W_ => ∃ gz gy g : Nat, gz = w.heap.size ∧ gy = w.heap.size + 1 ∧ g = w.heap.size + 1 + 1 ∧ Below w.heap.size w W_ ∧ W_.heap[gz]? = some (.cells #[.int .i64 0, .slice none 0 0] 26 (0, 0)) ∧ W_.heap[gy]? = some (.cells #[.int .i64 0, .slice none 0 0] 26 (0, 0)) ∧ W_.heap[g]? = some (.cells #[.slice A0 l0.length c0, .int .i64 0, .int .u64 0] 49 (0, 0))) ⟨_, _, _, rfl, rfl, rfl, Ba (Ba (Ba (Below.refl _ _) _) _) _, by simpa using Ka (Ka (blk_new w (.cells #[.int .i64 0, .slice none 0 0] 26)) (.cells #[.int .i64 0, .slice none 0 0] 26)) (.cells #[.slice A0 l0.length c0, .int .i64 0, .int .u64 0] 49), by simpa using Ka (blk_new (w.alloc (.cells #[.int .i64 0, .slice none 0 0] 26)) (.cells #[.int .i64 0, .slice none 0 0] 26)) (.cells #[.slice A0 l0.length c0, .int .i64 0, .int .u64 0] 49), by simpa using blk_new ((w.alloc (.cells #[.int .i64 0, .slice none 0 0] 26)).alloc (.cells #[.int .i64 0, .slice none 0 0] 26)) (.cells #[.slice A0 l0.length c0, .int .i64 0, .int .u64 0] 49)⟩ ?_
 rintro W0 ⟨gz, gy, g, e_gz, e_gy, e_g, hb, x_gz, x_gy, x_g⟩
 have HB0 := Am hb
 have HI0 : Ad (IsS49 w W0 g l0 0 0) := ⟨⟨A0, c0, x_g, by omega, HR.out⟩⟩
 have Bgz0 := Am x_gz
 have Ngz : Ad (gz ≠ g) := ⟨by omega⟩
 have Ggz : Ad (w.heap.size ≤ gz) := ⟨by omega⟩
 have Bgy0 := Am x_gy
 have Ngy : Ad (gy ≠ g) := ⟨by omega⟩
 have Ggy : Ad (w.heap.size ≤ gy) := ⟨by omega⟩
 have HZY : Ad (gz ≠ gy) := ⟨by omega⟩
 rw [← e_g, ← e_gy, ← e_gz]
 clear hb x_gz e_gz x_gy e_gy x_g e_g
 go_wp2_with fail
 refine (spec_l1Cur_group.calls g l0 0 0 n a1 s1 w W0 HI0.out HB0.out HN.out).mono ?_
 rintro e W1 ⟨rfl, hI, hB, hK⟩
 have HI1 := Am hI
 have HB1 := Am hB
 have Bgz1 := Am (hK.blk Bgz0.out Ngz.out (by simp))
 have Bgy1 := Am (hK.blk Bgy0.out Ngy.out (by simp))
 clear hI hB hK
 go_wp2_with fail
 refine (spec_l1Cur_attr.calls k g l0 a1 s1 n t tl a2 s2 w W1 HI1.out HB1.out HA.out).mono ?_
 rintro e W2 ⟨v, rfl, hR, hI, hB, hK⟩
 have HR2 := Am (Kd.R_lower hR HB1.out.size)
 have HI2 := Am hI
 have HB2 := Am hB
 have Bgz2 := Am (hK.blk Bgz1.out Ngz.out (by simp))
 have Bgy2 := Am (hK.blk Bgy1.out Ngy.out (by simp))
 clear hI hB hK hR HI0 HI1 HB0 HB1
 obtain ⟨A5, c5, e5⟩ := Rs HR2.out
 subst e5
 go_wp2_with fail
 refine (spec_l1Cur_attr.calls k g l0 a2 s2 n u ul a3 s3 w W2 HI2.out HB2.out HC.out).mono ?_
 rintro e W3 ⟨v, rfl, hR, hI, hB, hK⟩
 obtain ⟨A6, c6, e6⟩ := Rs hR
 subst e6
 have HU3 := Am (Rm (Kd.R_lower (Kd.R_newR hR HR2.out) HB2.out.size) (fun _ hk => hk.2))
 have HV : ∀ k, (Value.slice A6 ul.length c6).ownBlock = some k → W2.heap.size ≤ k := fun k hk => ((Kd.R_bound hR).1 k hk).2.1
 have HR3 : Ad (Kd.R (Kd.int .i64) 3 W3 w.heap.size (fun k_ => some k_ ≠ (Value.slice A6 ul.length c6).ownBlock) (.slice A5 tl.length c5) tl) := ⟨Rm (Kd.R_keep (IsS49.apart HI2.out (Kd.R_bound HR2.out) (by decide)) hK (fun _ h => h.2)) (fun k hk e => by have h1 := HV k e.symm; have h2 := hk.1.2.2.1; omega)⟩
 have HB3 := Am hB
 have Bgz3 := Am (hK.blk Bgz2.out Ngz.out (by simp))
 have Bgy3 := Am (hK.blk Bgy2.out Ngy.out (by simp))
 clear hI hB hK hR HV HI2 HB2 HR2
 have zgz0 : W3.cell? ⟨gz, 0, none⟩ = some (.int .i64 0) := (Kc Bgz3.out 0).trans rfl
 have zgz1 : W3.cell? ⟨gz, 1, none⟩ = some (.slice none 0 0) := (Kc Bgz3.out 1).trans rfl
 have ygz0 : W3.frozen? ⟨gz, 0, none⟩ = false := Kz Bgz3.out 0
 have ygz1 : W3.frozen? ⟨gz, 1, none⟩ = false := Kz Bgz3.out 1
 have zgy0 : W3.cell? ⟨gy, 0, none⟩ = some (.int .i64 0) := (Kc Bgy3.out 0).trans rfl
 have zgy1 : W3.cell? ⟨gy, 1, none⟩ = some (.slice none 0 0) := (Kc Bgy3.out 1).trans rfl
 have ygy0 : W3.frozen? ⟨gy, 0, none⟩ = false := Kz Bgy3.out 0
 have ygy1 : W3.frozen? ⟨gy, 1, none⟩ = false := Kz Bgy3.out 1
 have n1 := HZY.out
 have n2 := HZY.out.symm
 go_wp2
 refine bodyPost_ret (results_list (rs := [.tmp 2, .cell 3 26, .cell 4 26]) rfl (by simp) (.tmp (.cell gz 26 #[.int .i64 t, .slice A5 tl.length c5] (0, 0) _ rfl (Kf (Kf (blk_put (cs := #[.int .i64 t, .slice none 0 0]) (blk_put (cs := #[.int .i64 0, .slice none 0 0]) Bgz3.out 0 _ rfl) 1 _ rfl) HZY.out _) HZY.out _) Tryz.underlying26 rfl (by kernel_rfl) (.cell gy 26 #[.int .i64 u, .slice A6 ul.length c6] (0, 0) _ rfl (blk_put (cs := #[.int .i64 u, .slice none 0 0]) (blk_put (cs := #[.int .i64 0, .slice none 0 0]) (Kf (Kf Bgy3.out HZY.out.symm _) HZY.out.symm _) 0 _ rfl) 1 _ rfl) Tryz.underlying26 rfl (by kernel_rfl) .nil)))) rfl ?_
 exact ⟨_, _, rfl, Rm (Kd.R_far (p := ⟨gy, 1, none⟩) (Kd.R_far (p := ⟨gy, 0, none⟩) (Rm (Kd.R_far (p := ⟨gz, 1, none⟩) (Kd.R_far (p := ⟨gz, 0, none⟩) (Kd.R_types (Kd.R_types HR3.out Bgz3.out (by decide)) Bgy3.out (by decide)) (fun _ hk => hk.1.2) (.int .i64 t)) (fun _ hk => hk.1.2) (.slice A5 tl.length c5)) (fun _ hk => hk)) (fun _ hk => hk.2) (.int .i64 u)) (fun _ hk => hk.2) (.slice A6 ul.length c6)) (fun _ hk => hk.1.1), Rm (Kd.R_far (p := ⟨gy, 1, none⟩) (Kd.R_far (p := ⟨gy, 0, none⟩) (Rm (Kd.R_far (p := ⟨gz, 1, none⟩) (Kd.R_far (p := ⟨gz, 0, none⟩) (Kd.R_types (Kd.R_types HU3.out Bgz3.out (by decide)) Bgy3.out (by decide)) (fun _ hk => hk.1.2) (.int .i64 t)) (fun _ hk => hk.1.2) (.slice A5 tl.length c5)) (fun _ hk => hk)) (fun _ hk => hk.2) (.int .i64 u)) (fun _ hk => hk.2) (.slice A6 ul.length c6)) (fun _ hk => hk.1.1), (Bs (Bs (Bs (Bs HB3.out Ggz.out) Ggz.out) Ggy.out) Ggy.out)⟩
def impl_IsGroup.f (a0 : Int) : Option (Bool) := if a0 = 3 then (some true) else (some (a0 == 5))
set_option maxHeartbeats 8000000 in
set_option maxRecDepth 100000 in
theorem impl_IsGroup.calls (a0 : Int) (r : Bool) (w : World) (h : impl_IsGroup.f a0 = some r) :
  Calls Tryz.prog 46 #[.int .i64 a0] w fun e w' => e = .returned (.bool r) ∧ Drawn0 w w' := by
 have H : (if a0 = 3 then (some true) else (some (a0 == 5))) = some r := h
 clear h
 by_cases c2 : a0 = 3
 ·rw [if_pos c2] at H
  have c2b0 : (a0 == 3) = true := beq_iff_eq.mpr c2
  have c2b1 : (a0 != 3) = false := bne_eq_false_iff_eq.mpr c2
  clear c2
  obtain rfl := Option.some.inj H
  go_enter Tryz.func46, Tryz.ntmps46
  go_wp2
  go_ret
  exact ⟨by first | rfl | (simp; done) | (simp [*]; done), by repeat (first | exact Drawn0.refl _ | apply Drawn0.step)⟩
 ·rw [if_neg c2] at H
  have c2b0 : (a0 == 3) = false := beq_eq_false_iff_ne.mpr c2
  have c2b1 : (a0 != 3) = true := bne_iff_ne.mpr c2
  obtain rfl := Option.some.inj H
  go_enter Tryz.func46, Tryz.ntmps46
  go_wp2
  go_ret
  exact ⟨by first | rfl | (simp; done) | (simp [*]; done), by repeat (first | exact Drawn0.refl _ | apply Drawn0.step)⟩
def impl_within.f (a0 : Int) (a1 : Int) (a2 : Int) : Option (Bool) := if a1 ≤ a0 then (some (decide (a0 ≤ a2))) else (some false)
set_option maxHeartbeats 8000000 in
set_option maxRecDepth 100000 in
theorem impl_within.calls (a0 : Int) (a1 : Int) (a2 : Int) (r : Bool) (w : World) (h : impl_within.f a0 a1 a2 = some r) :
  Calls Tryz.prog 52 #[.int .i64 a0, .int .i64 a1, .int .i64 a2] w fun e w' => e = .returned (.bool r) ∧ Drawn0 w w' := by
 have H : (if a1 ≤ a0 then (some (decide (a0 ≤ a2))) else (some false)) = some r := h
 clear h
 by_cases c4 : a1 ≤ a0
 ·rw [if_pos c4] at H
  have c4b0 : decide (a1 ≤ a0) = true := decide_eq_true c4
  clear c4
  obtain rfl := Option.some.inj H
  go_enter Tryz.func52, Tryz.ntmps52
  go_wp2
  go_ret
  exact ⟨by first | rfl | (simp; done) | (simp [*]; done), by repeat (first | exact Drawn0.refl _ | apply Drawn0.step)⟩
 ·rw [if_neg c4] at H
  have c4b0 : decide (a1 ≤ a0) = false := decide_eq_false c4
  clear c4
  obtain rfl := Option.some.inj H
  go_enter Tryz.func52, Tryz.ntmps52
  go_wp2
  go_ret
  exact ⟨by first | rfl | (simp; done) | (simp [*]; done), by repeat (first | exact Drawn0.refl _ | apply Drawn0.step)⟩
set_option maxHeartbeats 2000000 in
set_option maxRecDepth 100000 in
theorem slices_IndexFunc_int_int.anyO (g : Nat) (lb : Array Value) (p : Int → Option Bool) (A : Option Addr) (c : Nat) (xs : List Int) (w : World) (r : Int)
  (eg : ∀ args w, (callFunc g args).run Tryz.prog w = .ok (.enter g args) w)
  (hr : Kd.C (Kd.int .i64) w A xs.length xs) (hc : xs.length ≤ c)
  (hp : ∀ (W : World) (x : Int), x ∈ xs → Below w.heap.size w W → ∀ b : Bool, p x = some b → Calls Tryz.prog g (#[.int .i64 x] ++ lb) W fun e w' => e = .returned (.bool b) ∧ Below W.heap.size W w') (h : Mine.idxO p xs 0 = some r) :
  Calls Tryz.prog 66 #[.slice A xs.length c, .func (.func g) #[] lb] w fun e w' => e = .returned (.int .i64 r) ∧ Below w.heap.size w w' := by
 have hm : xs.length ≤ 9223372036854775807 := hr.2.1
 have HR := Am hr
 have HP := Am hp
 have HI := Am h
 clear hr hp h
 go_enter Tryz.func66, Tryz.ntmps66
 go_wp2
 go_loopg [5, 8] xs.length (fun gg _ s8 wr => ∃ kk : Nat, kk ≤ xs.length ∧ xs.length - kk ≤ gg ∧ s8 = .int .i64 kk ∧ Ad (Below w.heap.size w wr) ∧ Ad (Mine.idxO p (xs.drop kk) (kk : Int) = some r))
 case atStart => exact ⟨0, Nat.zero_le _, by omega, rfl, ⟨Below.refl _ w⟩, ⟨by simpa using HI.out⟩⟩
 case round =>
  obtain ⟨kk, hkk, hg, rfl, BW, PF⟩ := hrel
  by_cases hlt : kk < xs.length
  ·have hltz : (kk : Int) < (xs.length : Int) := by omega
   obtain ⟨ad, rfl, hx0⟩ := Kd.at_int (Kd.C_below HR.out BW.out) (kk : Int) (by omega) hltz
   simp only [Int.toNat_natCast] at hx0
   have hy : Ad (xs.getD kk 0 = rd xs (kk : Int)) := ⟨by unfold rd; rw [Int.toNat_natCast]⟩
   have hmem : rd xs (kk : Int) ∈ xs := by rw [← hy.out]; exact Mine.getD_mem _ _ _ hlt
   have PG : Ad ((p (rd xs (kk : Int))).bind (fun b => if b = true then some (kk : Int) else Mine.idxO p (xs.drop (kk + 1)) ((kk : Int) + 1)) = some r) := ⟨by have h_ := PF.out; rw [Mine.drop_at xs 0 kk hlt, hy.out] at h_; exact h_⟩
   have hcall := HP.out wr (rd xs (kk : Int)) hmem BW.out
   clear hmem PF
   skip
   generalize rd xs (kk : Int) = y at hx0 hcall hy PG
   cases hq : p y with
   | none => exact absurd PG.out (by rw [hq]; simp)
   | some b =>
    have hcall := hcall b hq
    have PG : Ad ((if b = true then some (kk : Int) else Mine.idxO p (xs.drop (kk + 1)) ((kk : Int) + 1)) = some r) := ⟨by have h_ := PG.out; rw [hq] at h_; exact h_⟩
    clear hq hy
    cases b with
    | true =>
     obtain rfl := Option.some.inj PG.out
     clear PG
     go_wp2_with fail
     refine hcall.mono ?_; rintro e w' ⟨rfl, hb'⟩
     go_wp2
     go_ret
     exact ⟨rfl, below_then BW.out BW.out.size hb'⟩
    | false =>
     go_wp2_with fail
     refine hcall.mono ?_; rintro e w' ⟨rfl, hb'⟩
     go_wp2
     go_roundg (xs.length - (kk + 1))
     case measure => omega
     case rel => exact ⟨kk + 1, by omega, by omega, by go_num, ⟨below_then BW.out BW.out.size hb'⟩, ⟨by have h_ := PG.out; simpa using h_⟩⟩
  ·have hltz : ¬ (kk : Int) < (xs.length : Int) := by omega
   obtain rfl : kk = xs.length := by omega
   have PG : Ad ((-1 : Int) = r) := ⟨by have h_ := PF.out; rw [List.drop_eq_nil_of_le (Nat.le_refl _)] at h_; exact Option.some.inj h_⟩
   clear PF
   go_wp2
   go_ret
   refine ⟨?_, BW.out⟩
   rw [← PG.out]
   first | done | rfl
theorem slices_IndexFunc_int_int.any (g : Nat) (lb : Array Value) (p : Int → Bool) (A : Option Addr) (c : Nat) (xs : List Int) (w : World)
  (eg : ∀ args w, (callFunc g args).run Tryz.prog w = .ok (.enter g args) w)
  (hr : Kd.C (Kd.int .i64) w A xs.length xs) (hc : xs.length ≤ c)
  (hp : ∀ (W : World) (x : Int), x ∈ xs → Below w.heap.size w W → Calls Tryz.prog g (#[.int .i64 x] ++ lb) W fun e w' => e = .returned (.bool (p x)) ∧ Below W.heap.size W w') :
  Calls Tryz.prog 66 #[.slice A xs.length c, .func (.func g) #[] lb] w fun e w' => e = .returned (.int .i64 (Mine.idxP p xs 0)) ∧ Below w.heap.size w w' :=
 slices_IndexFunc_int_int.anyO g lb (fun x => some (p x)) A c xs w _ eg hr hc (fun W x hx bW b hb_ => by cases hb_; exact hp W x hx bW) (Mine.idxO_total (fun _ _ => rfl) 0)
set_option maxHeartbeats 2000000 in
theorem slices_ContainsFunc_int_int.anyO (g : Nat) (lb : Array Value) (p : Int → Option Bool) (A : Option Addr) (c : Nat) (xs : List Int) (w : World) (r : Bool)
  (eg : ∀ args w, (callFunc g args).run Tryz.prog w = .ok (.enter g args) w)
  (hr : Kd.C (Kd.int .i64) w A xs.length xs) (hc : xs.length ≤ c)
  (hp : ∀ (W : World) (x : Int), x ∈ xs → Below w.heap.size w W → ∀ b : Bool, p x = some b → Calls Tryz.prog g (#[.int .i64 x] ++ lb) W fun e w' => e = .returned (.bool b) ∧ Below W.heap.size W w') (h : Mine.anyO p xs = some r) :
  Calls Tryz.prog 53 #[.slice A xs.length c, .func (.func g) #[] lb] w fun e w' => e = .returned (.bool r) ∧ Below w.heap.size w w' := by
 obtain ⟨y, hi, he⟩ := Mine.anyO_idx p xs r h
 have hcall := slices_IndexFunc_int_int.anyO g lb p A c xs w y eg hr hc hp hi
 have he := Am he
 clear hp hr eg hi h
 go_enter Tryz.func53, Tryz.ntmps53
 go_wp2_with fail
 refine hcall.mono ?_; rintro e w' ⟨rfl, hb'⟩
 go_wp2
 go_ret
 refine ⟨?_, hb'⟩
 rw [← he.out]
 rfl
theorem slices_ContainsFunc_int_int.any (g : Nat) (lb : Array Value) (p : Int → Bool) (A : Option Addr) (c : Nat) (xs : List Int) (w : World)
  (eg : ∀ args w, (callFunc g args).run Tryz.prog w = .ok (.enter g args) w)
  (hr : Kd.C (Kd.int .i64) w A xs.length xs) (hc : xs.length ≤ c)
  (hp : ∀ (W : World) (x : Int), x ∈ xs → Below w.heap.size w W → Calls Tryz.prog g (#[.int .i64 x] ++ lb) W fun e w' => e = .returned (.bool (p x)) ∧ Below W.heap.size W w') :
  Calls Tryz.prog 53 #[.slice A xs.length c, .func (.func g) #[] lb] w fun e w' => e = .returned (.bool (Mine.anyP p xs)) ∧ Below w.heap.size w w' :=
 slices_ContainsFunc_int_int.anyO g lb (fun x => some (p x)) A c xs w _ eg hr hc (fun W x hx bW b hb_ => by cases hb_; exact hp W x hx bW) (Mine.anyO_total (fun _ _ => rfl))
theorem within_f_23 (a b c : Int) : impl_within.f a b c = some (Mine.inB b c a) := by
 unfold impl_within.f Mine.inB
 by_cases h : b ≤ a
 ·rw [if_pos h]; simp [h]
 ·rw [if_neg h]; simp [h]
theorem impl_GoodAttr.lit (x : Int) (W : World) :
  Calls Tryz.prog 54 #[.int .i64 x] W fun e w' => e = .returned (.bool (Mine.outB 0 6 x)) ∧ Below W.heap.size W w' := by
 have hw := Am (within_f_23 x 0 6)
 go_enter Tryz.func54, Tryz.ntmps54
 go_wp2_with fail
 refine (impl_within.calls _ _ _ _ _ hw.out).mono ?_; rintro e w' ⟨rfl, hd⟩
 go_wp2
 go_ret
 exact ⟨rfl, hd.below⟩
theorem impl_GoodAttr.grp (n : Int) : impl_IsGroup.f n = some (decide (n = 3 ∨ n = 5)) := by
 unfold impl_IsGroup.f
 by_cases h : n = 3
 ·rw [if_pos h]; simp [h]
 ·rw [if_neg h]; by_cases h5 : n = 5 <;> simp [h, h5]
def impl_GoodAttr.f (a0 : Int) (a1_0 : Int) (l1_1 : List Int) : Option Bool := some (decide (a0 = 3 ∨ a0 = 5) && (Mine.inB 0 999 a1_0 && (decide ((l1_1.length : Int) = a0) && !Mine.anyP (Mine.outB 0 6) l1_1)))
set_option maxHeartbeats 2000000 in
theorem impl_GoodAttr.calls (a0 : Int) (a1_0 : Int) (A1_1 : Option Addr) (c1_1 : Nat) (l1_1 : List Int) (r : Bool) (w : World) (hr1_1 : Kd.C (Kd.int .i64) w A1_1 l1_1.length l1_1) (hc1_1 : l1_1.length ≤ c1_1) (h : impl_GoodAttr.f a0 a1_0 l1_1 = some r) :
  Calls Tryz.prog 23 #[.int .i64 a0, .agg #[.int .i64 a1_0, .slice A1_1 l1_1.length c1_1]] w fun e w' => e = .returned (.bool r) ∧ Below w.heap.size w w' := by
 obtain rfl := Option.some.inj h
 have HE : Ad (∀ args w, (callFunc 54 args).run Tryz.prog w = .ok (.enter 54 args) w) := ⟨fun args w => enters_ Tryz.func54 (by kernel_rfl) rfl args w⟩
 have hm := hr1_1.2.1
 have hu := Tryz.underlying26
 have HG := Am (impl_GoodAttr.grp a0)
 have HW := Am (within_f_23 a1_0 0 999)
 have HR := Am hr1_1
 clear h hr1_1
 cases hg : decide (a0 = 3 ∨ a0 = 5) with
 | false =>
  rw [hg] at HG
  clear hg
  go_enter Tryz.func23, Tryz.ntmps23
  go_wp2_with fail
  refine (impl_IsGroup.calls _ _ _ HG.out).mono ?_; rintro e w' ⟨rfl, hd⟩
  have hb := hd.below
  go_wp2
  go_ret
  exact ⟨rfl, Bt (Ba (Below.refl _ _) _) hb⟩
 | true =>
  rw [hg] at HG
  clear hg
  cases hi : Mine.inB 0 999 a1_0 with
  | false =>
   rw [hi] at HW
   clear hi
   go_enter Tryz.func23, Tryz.ntmps23
   go_wp2_with fail
   refine (impl_IsGroup.calls _ _ _ HG.out).mono ?_; rintro e w1 ⟨rfl, hd⟩
   have hbk := Kb (blk_new w (.cells #[.int .i64 a1_0, .slice A1_1 l1_1.length c1_1] 26)) hd.below
   have HB := Am (Bt (Ba (Below.refl _ _) _) hd.below)
   have hc0 := Kc hbk 0
   have hc1 := Kc hbk 1
   clear hd
   go_wp2_with fail
   refine (impl_within.calls _ _ _ _ _ HW.out).mono ?_; rintro e w2 ⟨rfl, hd⟩
   have HB2 := Am (Bt HB.out hd.below)
   clear hd
   go_wp2
   go_ret
   exact ⟨rfl, HB2.out⟩
  | true =>
   rw [hi] at HW
   clear hi
   have hlen : (((l1_1.length : Int) == a0) = decide ((l1_1.length : Int) = a0)) := by by_cases h : (l1_1.length : Int) = a0 <;> simp [h]
   cases hl : decide ((l1_1.length : Int) = a0) with
   | false =>
    rw [hl] at hlen
    go_enter Tryz.func23, Tryz.ntmps23
    go_wp2_with fail
    refine (impl_IsGroup.calls _ _ _ HG.out).mono ?_; rintro e w1 ⟨rfl, hd⟩
    have hbk := Kb (blk_new w (.cells #[.int .i64 a1_0, .slice A1_1 l1_1.length c1_1] 26)) hd.below
    have HB := Am (Bt (Ba (Below.refl _ _) _) hd.below)
    have hc0 := Kc hbk 0
    have hc1 := Kc hbk 1
    clear hd
    go_wp2_with fail
    refine (impl_within.calls _ _ _ _ _ HW.out).mono ?_; rintro e w2 ⟨rfl, hd⟩
    have HB2 := Am (Bt HB.out hd.below)
    have hc2 := pw_cell_below hd.below hc1
    clear hd hc0 hc1 hbk
    go_wp2
    go_ret
    exact ⟨rfl, HB2.out⟩
   | true =>
    rw [hl] at hlen
    go_enter Tryz.func23, Tryz.ntmps23
    go_wp2_with fail
    refine (impl_IsGroup.calls _ _ _ HG.out).mono ?_; rintro e w1 ⟨rfl, hd⟩
    have hbk := Kb (blk_new w (.cells #[.int .i64 a1_0, .slice A1_1 l1_1.length c1_1] 26)) hd.below
    have HB := Am (Bt (Ba (Below.refl _ _) _) hd.below)
    have hc0 := Kc hbk 0
    have hc1 := Kc hbk 1
    clear hd
    go_wp2_with fail
    refine (impl_within.calls _ _ _ _ _ HW.out).mono ?_; rintro e w2 ⟨rfl, hd⟩
    have HB2 := Am (Bt HB.out hd.below)
    have hc2 := pw_cell_below hd.below hc1
    clear hd hc0 hc1 hbk
    go_wp2_with fail
    refine (slices_ContainsFunc_int_int.any 54 #[] (Mine.outB 0 6) A1_1 c1_1 l1_1 w2 HE.out (Kd.C_below HR.out HB2.out) hc1_1 (fun W x _ hW => impl_GoodAttr.lit x W)).mono ?_; rintro e w3 ⟨rfl, hb⟩
    have HB3 := Am (Bt HB2.out hb)
    clear hb
    go_wp2
    go_ret
    exact ⟨rfl, HB3.out⟩
end Go.Proofs.YtpboalgecejoeaaGreatDoor.QFnAttrs
