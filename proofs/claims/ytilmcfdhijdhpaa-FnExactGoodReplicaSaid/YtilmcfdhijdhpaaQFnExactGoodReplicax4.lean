-- Written by a program of this session (wip/mk.py) over the kit's print: Lean checks it.
import Derived.Test.YtilmcfdhijdhpaaQFnExactGoodReplicax0
import Derived.Test.YtilmcfdhijdhpaaQFnExactGoodReplicax1
import Derived.Test.YtilmcfdhijdhpaaQFnExactGoodReplicax2
import Derived.Test.YtilmcfdhijdhpaaQFnExactGoodReplicax3
namespace Go.Proofs.Ytilmcfdhijdhpaa.QFnExactGoodReplica
open Go.Proofs.YtilmcfdhijdhpaaW.PrintWords.Kd renaming R_alloc → Ra, R_drewN → Rn, R_drew → Rd
open Go.Proofs.YtilmcfdhijdhpaaW.PrintWords renaming below_alloc → Ba, pw_below_drewN → Bn, below_drew1 → Bd, below_set → Bs, below_size → Bz, below_step → Bt, gate_dst → Gd, gate_callee → Gc, box_event → Be, blk_alloc → Ka, blk_drewN → Kn, blk_drew → Ke, blk_below → Kb, blk_cell → Kc, blk_frozen → Kz
open List renaming setIfInBounds_toArray → Lt, set_cons_zero → Lz, set_cons_succ → Ls
open Go.Proofs.YtilmcfdhijdhpaaW.PrintWords.Aside0 renaming mk → Am
open Go.Proofs.YtilmcfdhijdhpaaW.PrintWords renaming Aside0 → Ad
open Go.RowKit Go.Proofs.YtilmcfdhijdhpaaW.PrintWords Go.Proofs.YtilmcfdhijdhpaaW.PrintLast Go.Proofs.YtilmcfdhijdhpaaW.PrintMore
attribute [local go_sem] max2_int min2_int max_two min_two max_three min_three max_four min_four   -- for this text's walks alone
set_option linter.unusedVariables false
set_option linter.unusedSimpArgs false
attribute [local go_sem high] eqA28
def spec_l4Row.j0 : Nat → Int → Bool → Int → Int → Int → Int → Int → Int → Int → Int → Int → List Int → Option (Bool)
 | 0, _, _, _, _, _, _, _, _, _, _, _, _ => none
 | k + 1, x0, x22, x141000, x141001, x141002, x141003, x141004, x141005, x141006, x141007, x141008, x141009 => if x22 = true then (some false) else (if x141002 = 0 then (if x141001 = 0 then (if (x141003 == 0 && (x141004 == 0 && (x141005 == 0 && (x141006 == 0 && (x141007 == 0))))) = true then ((spec_l3None.f x0).bind fun bt144 => ((spec_SameAttr.f k x141008 x141009 bt144.1 bt144.2).bind fun t148 => (some t148))) else (some false)) else (some false)) else ((spec_GoodCmd.f x141003 x141004 x141005 x141006 x141007).bind fun t149 => (if t149 = true then ((spec_l3Attr.f k x0 x141008 x141009).bind fun t150 => (some t150)) else (some false))))
def spec_l4Row.f (k : Nat) (a0 : Int) (a1_0 : Int) (a1_1 : Int) (a1_2 : Int) (a1_3 : Int) (a1_4 : Int) (a1_5 : Int) (a1_6 : Int) (a1_7 : Int) (a1_8 : Int) (l1_9 : List Int) : Option (Bool) := (spec_l1In.f a1_0 0 9999).bind fun t141 => (if t141 = true then ((spec_l1In.f a1_1 0 a1_0).bind fun t142 => (if t142 = true then ((spec_l1In.f a1_2 0 3).bind fun t143 => (spec_l4Row.j0 k a0 (!t143) a1_0 a1_1 a1_2 a1_3 a1_4 a1_5 a1_6 a1_7 a1_8 l1_9)) else (spec_l4Row.j0 k a0 true a1_0 a1_1 a1_2 a1_3 a1_4 a1_5 a1_6 a1_7 a1_8 l1_9))) else (spec_l4Row.j0 k a0 true a1_0 a1_1 a1_2 a1_3 a1_4 a1_5 a1_6 a1_7 a1_8 l1_9))
theorem spec_l4Row.mono_l : ∀ k, (∀ y0 y1 y2 y3 y4 y5 y6 y7 y8 y9 y10 y11, LeO (spec_l4Row.j0 k y0 y1 y2 y3 y4 y5 y6 y7 y8 y9 y10 y11) (spec_l4Row.j0 (k + 1) y0 y1 y2 y3 y4 y5 y6 y7 y8 y9 y10 y11))
 | 0 => fun _ _ _ _ _ _ _ _ _ _ _ _ r h => by simp [spec_l4Row.j0] at h
 | k + 1 => by
  have ih0 := spec_l4Row.mono_l k
  ·intro y0 y1 y2 y3 y4 y5 y6 y7 y8 y9 y10 y11
   unfold spec_l4Row.j0
   repeat' first
   | (with_reducible exact ih0 _ _ _ _ _ _ _ _ _ _ _ _)
   | (with_reducible exact spec_SameAttr.mono _ _ _ _ _)
   | (with_reducible exact spec_l3Attr.mono _ _ _ _)
   | (with_reducible exact LeO.refl _)
   | (with_reducible exact LeO.none _)
   | (with_reducible refine LeO.ite ?_ ?_)
   | (with_reducible refine LeO.bind ?_ (fun _ => ?_))
   | exact ih0 _ _ _ _ _ _ _ _ _ _ _ _
   | exact spec_SameAttr.mono _ _ _ _ _
   | exact spec_l3Attr.mono _ _ _ _
   | exact LeO.none _
   | refine LeO.ite ?_ ?_
   | refine LeO.bind ?_ (fun _ => ?_)
theorem spec_l4Row.mono : ∀ a0 a1 a2 a3 a4 a5 a6 a7 a8 a9 a10 k, LeO (spec_l4Row.f k a0 a1 a2 a3 a4 a5 a6 a7 a8 a9 a10) (spec_l4Row.f (k + 1) a0 a1 a2 a3 a4 a5 a6 a7 a8 a9 a10) := by
 intro a0 a1 a2 a3 a4 a5 a6 a7 a8 a9 a10 k
 have ih0 := spec_l4Row.mono_l k
 unfold spec_l4Row.f
 repeat' first
   | (with_reducible exact ih0 _ _ _ _ _ _ _ _ _ _ _ _)
   | (with_reducible exact spec_SameAttr.mono _ _ _ _ _)
   | (with_reducible exact spec_l3Attr.mono _ _ _ _)
   | (with_reducible exact LeO.refl _)
   | (with_reducible exact LeO.none _)
   | (with_reducible refine LeO.ite ?_ ?_)
   | (with_reducible refine LeO.bind ?_ (fun _ => ?_))
   | exact ih0 _ _ _ _ _ _ _ _ _ _ _ _
   | exact spec_SameAttr.mono _ _ _ _ _
   | exact spec_l3Attr.mono _ _ _ _
   | exact LeO.none _
   | refine LeO.ite ?_ ?_
   | refine LeO.bind ?_ (fun _ => ?_)
def spec_l4Row.T4 : Bool × List (List Nat × List Nat) := (true, [([], []), ([0], [0]), ([1], [1]), ([2], [2]), ([3], [3]), ([4, 3], [3, 4]), ([3], [3]), ([5, 6, 3], [3, 5, 6]), ([3, 7], [3, 7]), ([8, 3], [8]), ([9], [9]), ([10, 9], [9, 10]), ([9], [9]), ([12, 9, 9], [9, 12]), ([11, 13, 13, 9], [9, 11, 13]), ([9, 14], [9, 14]), ([15, 14, 0, 1, 2, 3, 4, 5, 6, 7, 8, 9, 10, 11, 12, 13, 14, 15], [15])])
def spec_l4Row.B4 : List Nat := [0, 1, 3, 7, 15, 31, 15, 127, 255, 511, 1023, 2047, 1023, 5119, 16383, 32767, 65535]
theorem spec_l4Row.tab4 : rtab .any (opsOf Try.f70 4) = spec_l4Row.T4 := by kernel_rfl
theorem spec_l4Row.bits4 : waitsOk spec_l4Row.T4.2 spec_l4Row.B4 = true := by kernel_rfl
set_option maxHeartbeats 8000000 in
set_option maxRecDepth 100000 in
theorem spec_l4Row.calls (k : Nat) (a0 : Int) (a1_0 : Int) (a1_1 : Int) (a1_2 : Int) (a1_3 : Int) (a1_4 : Int) (a1_5 : Int) (a1_6 : Int) (a1_7 : Int) (a1_8 : Int) (A1_9 : Option Addr) (c1_9 : Nat) (l1_9 : List Int) (r : Bool) (w : World) (hr1_9 : Kd.C (Kd.int .i64) w A1_9 l1_9.length l1_9) (hc1_9 : l1_9.length ≤ c1_9) (h : spec_l4Row.f k a0 a1_0 a1_1 a1_2 a1_3 a1_4 a1_5 a1_6 a1_7 a1_8 l1_9 = some r) :
  Calls Try.prog 70 #[.int .i64 a0, .agg #[.int .i64 a1_0, .int .i64 a1_1, .int .i64 a1_2, .int .i64 a1_3, .int .i64 a1_4, .int .i64 a1_5, .int .i64 a1_6, .int .i64 a1_7, .int .i64 a1_8, .slice A1_9 l1_9.length c1_9]] w fun e w' => e = .returned (.bool r) ∧ Below w.heap.size w w' := by
 have hu39 := Try.underlying39
 have hu28 := Try.underlying28
 have hu33 := Try.underlying33
 have HR1_9 := Am hr1_9
 have HC1_9 := Am hc1_9
 clear hr1_9 hc1_9
 have HB := Am (Below.refl w.heap.size w)
 have H : ((spec_l1In.f a1_0 0 9999).bind fun t141 => (if t141 = true then ((spec_l1In.f a1_1 0 a1_0).bind fun t142 => (if t142 = true then ((spec_l1In.f a1_2 0 3).bind fun t143 => (spec_l4Row.j0 k a0 (!t143) a1_0 a1_1 a1_2 a1_3 a1_4 a1_5 a1_6 a1_7 a1_8 l1_9)) else (spec_l4Row.j0 k a0 true a1_0 a1_1 a1_2 a1_3 a1_4 a1_5 a1_6 a1_7 a1_8 l1_9))) else (spec_l4Row.j0 k a0 true a1_0 a1_1 a1_2 a1_3 a1_4 a1_5 a1_6 a1_7 a1_8 l1_9))) = some r := h
 clear h
 have HC3 := Am H
 clear H
 go_enter Try.func70, Try.ntmps70
 go_upto_region 1 with (first | ((refine Gd (N := 3) rfl ?_); refine Be ?hg (N := 3) ?hd (cs := #[.int .i64 a1_0, .int .i64 a1_1, .int .i64 a1_2, .int .i64 a1_3, .int .i64 a1_4, .int .i64 a1_5, .int .i64 a1_6, .int .i64 a1_7, .int .i64 a1_8, .slice A1_9 l1_9.length c1_9]) (t := 39) ?hr ?_; (case hd | hg => rfl); (case hr => first | (go_simp; done) | (go_simp; rfl)); intro gb140 hg w4 hbox hb; have n0_ := Am (Bt (by repeat (first | exact HB.out | apply Ba | apply Bn | apply Bd)) hb); have n1_ := Am (hbox); have n2_ := Am ((by rw [hg]; exact (Bz (by repeat (first | exact HB.out | apply Ba | apply Bn | apply Bd))) : w.heap.size ≤ gb140)); have n3_ := Am ((by rw [hg]; exact (Bz (by repeat (first | exact HB.out | apply Ba | apply Bn | apply Bd))) : w.heap.size ≤ gb140)); clear HB; have HB := n0_; have BK140 := n1_; have GW140 := n2_; have GE140 := n3_; clear n0_ n1_ n2_ n3_; clear hb hbox hg))
 (try simp only [Act.put, Lt, Lz, Ls])
 go_cut [22] (fun v22 wc => ∃ (kq : Nat) (x22_2 : Bool), v22 = .bool x22_2 ∧ Ad (spec_l4Row.j0 kq a0 x22_2 a1_0 a1_1 a1_2 a1_3 a1_4 a1_5 a1_6 a1_7 a1_8 l1_9 = some r) ∧ Ad (kq ≤ k) ∧ Ad (wc.heap[gb140]? = some (.cells #[.int .i64 a1_0, .int .i64 a1_1, .int .i64 a1_2, .int .i64 a1_3, .int .i64 a1_4, .int .i64 a1_5, .int .i64 a1_6, .int .i64 a1_7, .int .i64 a1_8, (.slice A1_9 l1_9.length c1_9)] 39 (0, 0))) ∧ Ad (Below w.heap.size w wc))
 case first =>
  have H := HC3.out
  clear HC3
  replace H := Option.bind_eq_some_iff.mp H
  obtain ⟨t141, A50, H⟩ := H
  replace H : (if t141 = true then ((spec_l1In.f a1_1 0 a1_0).bind fun t142 => (if t142 = true then ((spec_l1In.f a1_2 0 3).bind fun t143 => (spec_l4Row.j0 k a0 (!t143) a1_0 a1_1 a1_2 a1_3 a1_4 a1_5 a1_6 a1_7 a1_8 l1_9)) else (spec_l4Row.j0 k a0 true a1_0 a1_1 a1_2 a1_3 a1_4 a1_5 a1_6 a1_7 a1_8 l1_9))) else (spec_l4Row.j0 k a0 true a1_0 a1_1 a1_2 a1_3 a1_4 a1_5 a1_6 a1_7 a1_8 l1_9)) = some r := H
  have A5 := Am A50
  clear A50
  by_cases c6 : t141 = true
  ·subst c6
   have H1 : ((spec_l1In.f a1_1 0 a1_0).bind fun t142 => (if t142 = true then ((spec_l1In.f a1_2 0 3).bind fun t143 => (spec_l4Row.j0 k a0 (!t143) a1_0 a1_1 a1_2 a1_3 a1_4 a1_5 a1_6 a1_7 a1_8 l1_9)) else (spec_l4Row.j0 k a0 true a1_0 a1_1 a1_2 a1_3 a1_4 a1_5 a1_6 a1_7 a1_8 l1_9))) = some r := by rw [if_pos rfl] at H; exact H
   clear H
   have H := H1
   clear H1
   replace H := Option.bind_eq_some_iff.mp H
   obtain ⟨t142, A70, H⟩ := H
   replace H : (if t142 = true then ((spec_l1In.f a1_2 0 3).bind fun t143 => (spec_l4Row.j0 k a0 (!t143) a1_0 a1_1 a1_2 a1_3 a1_4 a1_5 a1_6 a1_7 a1_8 l1_9)) else (spec_l4Row.j0 k a0 true a1_0 a1_1 a1_2 a1_3 a1_4 a1_5 a1_6 a1_7 a1_8 l1_9)) = some r := H
   have A7 := Am A70
   clear A70
   by_cases c8 : t142 = true
   ·subst c8
    have H1 : ((spec_l1In.f a1_2 0 3).bind fun t143 => (spec_l4Row.j0 k a0 (!t143) a1_0 a1_1 a1_2 a1_3 a1_4 a1_5 a1_6 a1_7 a1_8 l1_9)) = some r := by rw [if_pos rfl] at H; exact H
    clear H
    have H := H1
    clear H1
    replace H := Option.bind_eq_some_iff.mp H
    obtain ⟨t143, A90, H⟩ := H
    replace H : (spec_l4Row.j0 k a0 (!t143) a1_0 a1_1 a1_2 a1_3 a1_4 a1_5 a1_6 a1_7 a1_8 l1_9) = some r := H
    have A9 := Am A90
    clear A90
    have H' := Am H
    clear H
    have hcz10_0 : w4.cell? ⟨gb140, 0, none⟩ = some (.int .i64 a1_0) := (Kc BK140.out 0).trans rfl
    have hcz10_1 : w4.cell? ⟨gb140, 1, none⟩ = some (.int .i64 a1_1) := (Kc BK140.out 1).trans rfl
    have hcz10_2 : w4.cell? ⟨gb140, 2, none⟩ = some (.int .i64 a1_2) := (Kc BK140.out 2).trans rfl
    have hcz10_3 : w4.cell? ⟨gb140, 3, none⟩ = some (.int .i64 a1_3) := (Kc BK140.out 3).trans rfl
    have hcz10_4 : w4.cell? ⟨gb140, 4, none⟩ = some (.int .i64 a1_4) := (Kc BK140.out 4).trans rfl
    have hcz10_5 : w4.cell? ⟨gb140, 5, none⟩ = some (.int .i64 a1_5) := (Kc BK140.out 5).trans rfl
    have hcz10_6 : w4.cell? ⟨gb140, 6, none⟩ = some (.int .i64 a1_6) := (Kc BK140.out 6).trans rfl
    have hcz10_7 : w4.cell? ⟨gb140, 7, none⟩ = some (.int .i64 a1_7) := (Kc BK140.out 7).trans rfl
    have hcz10_8 : w4.cell? ⟨gb140, 8, none⟩ = some (.int .i64 a1_8) := (Kc BK140.out 8).trans rfl
    have hcz10_9 : w4.cell? ⟨gb140, 9, none⟩ = some (.slice A1_9 l1_9.length c1_9) := (Kc BK140.out 9).trans rfl
    have hfz10_0 := Kz BK140.out 0
    have hfz10_1 := Kz BK140.out 1
    have hfz10_2 := Kz BK140.out 2
    have hfz10_3 := Kz BK140.out 3
    have hfz10_4 := Kz BK140.out 4
    have hfz10_5 := Kz BK140.out 5
    have hfz10_6 := Kz BK140.out 6
    have hfz10_7 := Kz BK140.out 7
    have hfz10_8 := Kz BK140.out 8
    have hfz10_9 := Kz BK140.out 9
    go_wp2_with (first | ((refine Gc (f := 33) rfl ?_); refine goesL_ (some 7) rfl rfl Try.func33 (by kernel_rfl) rfl #[.int .i64 a1_0, .int .i64 0, .int .i64 9999] rfl (by first | rfl | (simp only [List.map_toArray, List.map_cons, List.map_nil]; first | done | rfl)) ?_; (with_reducible refine (spec_l1In.calls a1_0 0 9999 true _ A5.out).mono ?_); rintro e w' ⟨rfl, ⟨nd, rfl⟩⟩; refine ⟨_, rfl, ?_⟩) | (go_at_call 33; (with_reducible refine (spec_l1In.calls a1_1 0 a1_0 true _ A7.out).mono ?_); rintro e w' ⟨rfl, ⟨nd, rfl⟩⟩) | (go_at_call 33; (with_reducible refine (spec_l1In.calls a1_2 0 3 t143 _ A9.out).mono ?_); rintro e w' ⟨rfl, ⟨nd, rfl⟩⟩))
    go_meet
    case rel => exact ⟨_, (!t143), (by first | rfl | (simp; done) | (simp [*]; done)), H', ⟨by first | omega | exact Nat.le_refl _⟩, ⟨by (with_reducible repeat (first | refine Kn ?_ _ | refine Ke ?_ | refine Ka ?_ _)); exact BK140.out⟩, ⟨by repeat (first | (with_reducible first | exact HB.out | apply Ba | apply Bn | apply Bd | refine Bs ?_ GE140.out) | exact HB.out)⟩⟩
   ·replace c8 := Bool.eq_false_iff.mpr c8
    subst c8
    have H1 : (spec_l4Row.j0 k a0 true a1_0 a1_1 a1_2 a1_3 a1_4 a1_5 a1_6 a1_7 a1_8 l1_9) = some r := by rw [if_neg (show ¬ (false = true) by decide)] at H; exact H
    clear H
    have H := H1
    clear H1
    have H' := Am H
    clear H
    have hcz11_0 : w4.cell? ⟨gb140, 0, none⟩ = some (.int .i64 a1_0) := (Kc BK140.out 0).trans rfl
    have hcz11_1 : w4.cell? ⟨gb140, 1, none⟩ = some (.int .i64 a1_1) := (Kc BK140.out 1).trans rfl
    have hcz11_2 : w4.cell? ⟨gb140, 2, none⟩ = some (.int .i64 a1_2) := (Kc BK140.out 2).trans rfl
    have hcz11_3 : w4.cell? ⟨gb140, 3, none⟩ = some (.int .i64 a1_3) := (Kc BK140.out 3).trans rfl
    have hcz11_4 : w4.cell? ⟨gb140, 4, none⟩ = some (.int .i64 a1_4) := (Kc BK140.out 4).trans rfl
    have hcz11_5 : w4.cell? ⟨gb140, 5, none⟩ = some (.int .i64 a1_5) := (Kc BK140.out 5).trans rfl
    have hcz11_6 : w4.cell? ⟨gb140, 6, none⟩ = some (.int .i64 a1_6) := (Kc BK140.out 6).trans rfl
    have hcz11_7 : w4.cell? ⟨gb140, 7, none⟩ = some (.int .i64 a1_7) := (Kc BK140.out 7).trans rfl
    have hcz11_8 : w4.cell? ⟨gb140, 8, none⟩ = some (.int .i64 a1_8) := (Kc BK140.out 8).trans rfl
    have hcz11_9 : w4.cell? ⟨gb140, 9, none⟩ = some (.slice A1_9 l1_9.length c1_9) := (Kc BK140.out 9).trans rfl
    have hfz11_0 := Kz BK140.out 0
    have hfz11_1 := Kz BK140.out 1
    have hfz11_2 := Kz BK140.out 2
    have hfz11_3 := Kz BK140.out 3
    have hfz11_4 := Kz BK140.out 4
    have hfz11_5 := Kz BK140.out 5
    have hfz11_6 := Kz BK140.out 6
    have hfz11_7 := Kz BK140.out 7
    have hfz11_8 := Kz BK140.out 8
    have hfz11_9 := Kz BK140.out 9
    go_wp2_with (first | ((refine Gc (f := 33) rfl ?_); refine goesL_ (some 7) rfl rfl Try.func33 (by kernel_rfl) rfl #[.int .i64 a1_0, .int .i64 0, .int .i64 9999] rfl (by first | rfl | (simp only [List.map_toArray, List.map_cons, List.map_nil]; first | done | rfl)) ?_; (with_reducible refine (spec_l1In.calls a1_0 0 9999 true _ A5.out).mono ?_); rintro e w' ⟨rfl, ⟨nd, rfl⟩⟩; refine ⟨_, rfl, ?_⟩) | (go_at_call 33; (with_reducible refine (spec_l1In.calls a1_1 0 a1_0 false _ A7.out).mono ?_); rintro e w' ⟨rfl, ⟨nd, rfl⟩⟩))
    go_meet
    case rel => exact ⟨_, (true), (by first | rfl | (simp; done) | (simp [*]; done)), H', ⟨by first | omega | exact Nat.le_refl _⟩, ⟨by (with_reducible repeat (first | refine Kn ?_ _ | refine Ke ?_ | refine Ka ?_ _)); exact BK140.out⟩, ⟨by repeat (first | (with_reducible first | exact HB.out | apply Ba | apply Bn | apply Bd | refine Bs ?_ GE140.out) | exact HB.out)⟩⟩
  ·replace c6 := Bool.eq_false_iff.mpr c6
   subst c6
   have H1 : (spec_l4Row.j0 k a0 true a1_0 a1_1 a1_2 a1_3 a1_4 a1_5 a1_6 a1_7 a1_8 l1_9) = some r := by rw [if_neg (show ¬ (false = true) by decide)] at H; exact H
   clear H
   have H := H1
   clear H1
   have H' := Am H
   clear H
   have hcz12_0 : w4.cell? ⟨gb140, 0, none⟩ = some (.int .i64 a1_0) := (Kc BK140.out 0).trans rfl
   have hcz12_1 : w4.cell? ⟨gb140, 1, none⟩ = some (.int .i64 a1_1) := (Kc BK140.out 1).trans rfl
   have hcz12_2 : w4.cell? ⟨gb140, 2, none⟩ = some (.int .i64 a1_2) := (Kc BK140.out 2).trans rfl
   have hcz12_3 : w4.cell? ⟨gb140, 3, none⟩ = some (.int .i64 a1_3) := (Kc BK140.out 3).trans rfl
   have hcz12_4 : w4.cell? ⟨gb140, 4, none⟩ = some (.int .i64 a1_4) := (Kc BK140.out 4).trans rfl
   have hcz12_5 : w4.cell? ⟨gb140, 5, none⟩ = some (.int .i64 a1_5) := (Kc BK140.out 5).trans rfl
   have hcz12_6 : w4.cell? ⟨gb140, 6, none⟩ = some (.int .i64 a1_6) := (Kc BK140.out 6).trans rfl
   have hcz12_7 : w4.cell? ⟨gb140, 7, none⟩ = some (.int .i64 a1_7) := (Kc BK140.out 7).trans rfl
   have hcz12_8 : w4.cell? ⟨gb140, 8, none⟩ = some (.int .i64 a1_8) := (Kc BK140.out 8).trans rfl
   have hcz12_9 : w4.cell? ⟨gb140, 9, none⟩ = some (.slice A1_9 l1_9.length c1_9) := (Kc BK140.out 9).trans rfl
   have hfz12_0 := Kz BK140.out 0
   have hfz12_1 := Kz BK140.out 1
   have hfz12_2 := Kz BK140.out 2
   have hfz12_3 := Kz BK140.out 3
   have hfz12_4 := Kz BK140.out 4
   have hfz12_5 := Kz BK140.out 5
   have hfz12_6 := Kz BK140.out 6
   have hfz12_7 := Kz BK140.out 7
   have hfz12_8 := Kz BK140.out 8
   have hfz12_9 := Kz BK140.out 9
   go_wp2_with (first | ((refine Gc (f := 33) rfl ?_); refine goesL_ (some 7) rfl rfl Try.func33 (by kernel_rfl) rfl #[.int .i64 a1_0, .int .i64 0, .int .i64 9999] rfl (by first | rfl | (simp only [List.map_toArray, List.map_cons, List.map_nil]; first | done | rfl)) ?_; (with_reducible refine (spec_l1In.calls a1_0 0 9999 false _ A5.out).mono ?_); rintro e w' ⟨rfl, ⟨nd, rfl⟩⟩; refine ⟨_, rfl, ?_⟩))
   go_meet
   case rel => exact ⟨_, (true), (by first | rfl | (simp; done) | (simp [*]; done)), H', ⟨by first | omega | exact Nat.le_refl _⟩, ⟨by (with_reducible repeat (first | refine Kn ?_ _ | refine Ke ?_ | refine Ka ?_ _)); exact BK140.out⟩, ⟨by repeat (first | (with_reducible first | exact HB.out | apply Ba | apply Bn | apply Bd | refine Bs ?_ GE140.out) | exact HB.out)⟩⟩
 case rest =>
  clear HC3
  try clear c1
  try clear p2
  try clear c3
  try clear c6
  try clear c7
  try clear c8
  try clear hcz10_0
  try clear hcz10_1
  try clear hcz10_2
  try clear hcz10_3
  try clear hcz10_4
  try clear hcz10_5
  try clear hcz10_6
  try clear hcz10_7
  try clear hcz10_8
  try clear hcz10_9
  try clear hcz11_0
  try clear hcz11_1
  try clear hcz11_2
  try clear hcz11_3
  try clear hcz11_4
  try clear hcz11_5
  try clear hcz11_6
  try clear hcz11_7
  try clear hcz11_8
  try clear hcz11_9
  try clear hcz12_0
  try clear hcz12_1
  try clear hcz12_2
  try clear hcz12_3
  try clear hcz12_4
  try clear hcz12_5
  try clear hcz12_6
  try clear hcz12_7
  try clear hcz12_8
  try clear hcz12_9
  try clear hfz10_0
  try clear hfz10_1
  try clear hfz10_2
  try clear hfz10_3
  try clear hfz10_4
  try clear hfz10_5
  try clear hfz10_6
  try clear hfz10_7
  try clear hfz10_8
  try clear hfz10_9
  try clear hfz11_0
  try clear hfz11_1
  try clear hfz11_2
  try clear hfz11_3
  try clear hfz11_4
  try clear hfz11_5
  try clear hfz11_6
  try clear hfz11_7
  try clear hfz11_8
  try clear hfz11_9
  try clear hfz12_0
  try clear hfz12_1
  try clear hfz12_2
  try clear hfz12_3
  try clear hfz12_4
  try clear hfz12_5
  try clear hfz12_6
  try clear hfz12_7
  try clear hfz12_8
  try clear hfz12_9
  obtain ⟨kq, x22_2, rfl, HA, HJ2, BK140, HB⟩ := hcut
  cases kq with
  | zero => exact absurd HA.out (by simp [spec_l4Row.j0])
  | succ kj2 =>
   have H := HA.out
   clear HA
   simp only [spec_l4Row.j0] at H
   by_cases c13 : x22_2 = true
   ·subst c13
    have H1 : (some false) = some r := by rw [if_pos rfl] at H; exact H
    clear H
    have H := H1
    clear H1
    obtain rfl := Option.some.inj H
    go_wp2
    go_ret
    exact ⟨by first | rfl | (simp [*, errW_none, errW_some] <;> rfl), by repeat (first | (with_reducible first | exact HB.out | apply Ba | apply Bn | apply Bd | refine Bs ?_ GE140.out) | exact HB.out)⟩
   ·replace c13 := Bool.eq_false_iff.mpr c13
    subst c13
    have H1 : (if a1_2 = 0 then (if a1_1 = 0 then (if (a1_3 == 0 && (a1_4 == 0 && (a1_5 == 0 && (a1_6 == 0 && (a1_7 == 0))))) = true then ((spec_l3None.f a0).bind fun bt144 => ((spec_SameAttr.f kj2 a1_8 l1_9 bt144.1 bt144.2).bind fun t148 => (some t148))) else (some false)) else (some false)) else ((spec_GoodCmd.f a1_3 a1_4 a1_5 a1_6 a1_7).bind fun t149 => (if t149 = true then ((spec_l3Attr.f kj2 a0 a1_8 l1_9).bind fun t150 => (some t150)) else (some false)))) = some r := by rw [if_neg (show ¬ (false = true) by decide)] at H; exact H
    clear H
    have H := H1
    clear H1
    by_cases c14 : a1_2 = 0
    ·rw [if_pos c14] at H
     have c14b0 : (a1_2 == 0) = true := beq_iff_eq.mpr c14
     have c14b1 : (a1_2 != 0) = false := bne_eq_false_iff_eq.mpr c14
     clear c14
     by_cases c15 : a1_1 = 0
     ·rw [if_pos c15] at H
      have c15b0 : (a1_1 == 0) = true := beq_iff_eq.mpr c15
      have c15b1 : (a1_1 != 0) = false := bne_eq_false_iff_eq.mpr c15
      clear c15
      by_cases c16 : (a1_3 == 0 && (a1_4 == 0 && (a1_5 == 0 && (a1_6 == 0 && (a1_7 == 0))))) = true
      ·rw [if_pos c16] at H
       have c16b0 : (a1_3 == 0 && (a1_4 == 0 && (a1_5 == 0 && (a1_6 == 0 && (a1_7 == 0))))) = true := c16
       (try (have c16b1 : decide (a1_3 = 0 && (a1_4 == 0 && (a1_5 == 0 && (a1_6 == 0 && (a1_7 == 0))))) = true := by simpa using c16))
       (try (have c16b2 : (a1_3 == 0 && (a1_4 == 0 && (a1_5 == 0 && (a1_6 == 0 && (a1_7 == 0))))) = true := by simpa using c16))
       clear c16
       replace H := Option.bind_eq_some_iff.mp H
       obtain ⟨⟨t144, t145⟩, A170, H⟩ := H
       replace H : ((spec_SameAttr.f kj2 a1_8 l1_9 t144 t145).bind fun t148 => (some t148)) = some r := H
       have A17 := Am A170
       clear A170
       replace H := Option.bind_eq_some_iff.mp H
       obtain ⟨t148, A180, H⟩ := H
       replace H : (some t148) = some r := H
       have A18 := Am A180
       clear A180
       obtain rfl := Option.some.inj H
       have hcz19_0 : wc.cell? ⟨gb140, 0, none⟩ = some (.int .i64 a1_0) := (Kc BK140.out 0).trans rfl
       have hcz19_1 : wc.cell? ⟨gb140, 1, none⟩ = some (.int .i64 a1_1) := (Kc BK140.out 1).trans rfl
       have hcz19_2 : wc.cell? ⟨gb140, 2, none⟩ = some (.int .i64 a1_2) := (Kc BK140.out 2).trans rfl
       have hcz19_3 : wc.cell? ⟨gb140, 3, none⟩ = some (.int .i64 a1_3) := (Kc BK140.out 3).trans rfl
       have hcz19_4 : wc.cell? ⟨gb140, 4, none⟩ = some (.int .i64 a1_4) := (Kc BK140.out 4).trans rfl
       have hcz19_5 : wc.cell? ⟨gb140, 5, none⟩ = some (.int .i64 a1_5) := (Kc BK140.out 5).trans rfl
       have hcz19_6 : wc.cell? ⟨gb140, 6, none⟩ = some (.int .i64 a1_6) := (Kc BK140.out 6).trans rfl
       have hcz19_7 : wc.cell? ⟨gb140, 7, none⟩ = some (.int .i64 a1_7) := (Kc BK140.out 7).trans rfl
       have hcz19_8 : wc.cell? ⟨gb140, 8, none⟩ = some (.int .i64 a1_8) := (Kc BK140.out 8).trans rfl
       have hcz19_9 : wc.cell? ⟨gb140, 9, none⟩ = some (.slice A1_9 l1_9.length c1_9) := (Kc BK140.out 9).trans rfl
       have hfz19_0 := Kz BK140.out 0
       have hfz19_1 := Kz BK140.out 1
       have hfz19_2 := Kz BK140.out 2
       have hfz19_3 := Kz BK140.out 3
       have hfz19_4 := Kz BK140.out 4
       have hfz19_5 := Kz BK140.out 5
       have hfz19_6 := Kz BK140.out 6
       have hfz19_7 := Kz BK140.out 7
       have hfz19_8 := Kz BK140.out 8
       have hfz19_9 := Kz BK140.out 9
       try go_wp2
       have n0_ := Am (Ke BK140.out)
       have n1_ := Am (Bd HB.out)
       clear BK140
       clear HB
       have BK140 := n0_
       have HB := n1_
       clear n0_ n1_
       refine start_ (n := 17) (S := fun w' => w'.cell? ⟨gb140, 0, none⟩ = some (.int .i64 a1_0) ∧ w'.cell? ⟨gb140, 1, none⟩ = some (.int .i64 a1_1) ∧ w'.cell? ⟨gb140, 2, none⟩ = some (.int .i64 a1_2) ∧ w'.cell? ⟨gb140, 3, none⟩ = some (.int .i64 a1_3) ∧ w'.cell? ⟨gb140, 4, none⟩ = some (.int .i64 a1_4) ∧ w'.cell? ⟨gb140, 5, none⟩ = some (.int .i64 a1_5) ∧ w'.cell? ⟨gb140, 6, none⟩ = some (.int .i64 a1_6) ∧ w'.cell? ⟨gb140, 7, none⟩ = some (.int .i64 a1_7) ∧ w'.cell? ⟨gb140, 8, none⟩ = some (.int .i64 a1_8) ∧ w'.cell? ⟨gb140, 9, none⟩ = some (.slice A1_9 l1_9.length c1_9)) (ds := []) #[false, false, false, false, false, false, false, false, false, false, false, false, false, false, false, false, false] (by kernel_rfl) rfl rfl ⟨(Kc BK140.out 0).trans rfl, (Kc BK140.out 1).trans rfl, (Kc BK140.out 2).trans rfl, (Kc BK140.out 3).trans rfl, (Kc BK140.out 4).trans rfl, (Kc BK140.out 5).trans rfl, (Kc BK140.out 6).trans rfl, (Kc BK140.out 7).trans rfl, (Kc BK140.out 8).trans rfl, (Kc BK140.out 9).trans rfl⟩ (fun hHeld => ?_); refine with_tabW spec_l4Row.tab4 spec_l4Row.bits4 (fun HT_ HW_ => ?_)
       generalize wc.drew = w20 at BK140 HB hHeld ⊢
       refine pure_ (i := 0) (N := some 26) (v := ?_) (a' := ?_) #[true, false, false, false, false, false, false, false, false, false, false, false, false, false, false, false, false] rfl rfl (any_of HT_.out (by kernel_rfl)) (fun _ _ _ h => h) (Or.inl ⟨by rfl, ?_⟩) ?_ ?_
       rotate_left
       ·intro w'
        go_simp
        with_reducible rfl
       rotate_left
       ·simp only [Act.put, Lt, Lz, Ls, i64_w, i32_w]
        rfl
       refine take_ (i := 1) (N := some 27) (v := ?_) (a' := ?_) #[true, true, false, false, false, false, false, false, false, false, false, false, false, false, false, false, false] rfl rfl (take_ofW HT_.out HW_.out (by kernel_rfl)) (fun _ _ _ h => h) (Or.inl ⟨by rfl, ?_⟩) hHeld ?_ ?_
       rotate_left
       ·rintro w' ⟨s0, s1, s2, s3, s4, s5, s6, s7, s8, s9⟩
        go_simp
        with_reducible rfl
       rotate_left
       ·simp only [Act.put, Lt, Lz, Ls, i64_w, i32_w]
        rfl
       refine pure_ (i := 2) (N := some 28) (v := ?_) (a' := ?_) #[true, true, true, false, false, false, false, false, false, false, false, false, false, false, false, false, false] rfl rfl (any_of HT_.out (by kernel_rfl)) (fun _ _ _ h => h) (Or.inl ⟨by rfl, ?_⟩) ?_ ?_
       rotate_left
       ·intro w'
        go_simp
        with_reducible rfl
       rotate_left
       ·simp only [Act.put, Lt, Lz, Ls, i64_w, i32_w]
        rfl
       refine pure_ (i := 3) (N := some 29) (v := ?_) (a' := ?_) #[true, true, true, true, false, false, false, false, false, false, false, false, false, false, false, false, false] rfl rfl (any_of HT_.out (by kernel_rfl)) (fun _ _ _ h => h) (Or.inl ⟨by rfl, ?_⟩) ?_ ?_
       rotate_left
       ·intro w'
        go_simp
        with_reducible rfl
       rotate_left
       ·simp only [Act.put, Lt, Lz, Ls, i64_w, i32_w]
        rfl
       refine pure_ (i := 4) (N := some 30) (v := ?_) (a' := ?_) #[true, true, true, true, true, false, false, false, false, false, false, false, false, false, false, false, false] rfl rfl (any_of HT_.out (by kernel_rfl)) (fun _ _ _ h => h) (Or.inl ⟨by rfl, ?_⟩) ?_ ?_
       rotate_left
       ·intro w'
        go_simp
        with_reducible rfl
       rotate_left
       ·simp only [Act.put, Lt, Lz, Ls, i64_w, i32_w]
        rfl
       refine pure_ (i := 6) (N := some 32) (v := ?_) (a' := ?_) #[true, true, true, true, true, false, true, false, false, false, false, false, false, false, false, false, false] rfl rfl (any_of HT_.out (by kernel_rfl)) (fun _ _ _ h => h) (Or.inl ⟨by rfl, ?_⟩) ?_ ?_
       rotate_left
       ·intro w'
        go_simp
        with_reducible rfl
       rotate_left
       ·simp only [Act.put, Lt, Lz, Ls, i64_w, i32_w]
        rfl
       refine take_ (i := 5) (N := some 31) (v := ?_) (a' := ?_) #[true, true, true, true, true, true, true, false, false, false, false, false, false, false, false, false, false] rfl rfl (take_ofW HT_.out HW_.out (by kernel_rfl)) (fun _ _ _ h => h) (Or.inl ⟨by rfl, ?_⟩) hHeld ?_ ?_
       rotate_left
       ·rintro w' ⟨s0, s1, s2, s3, s4, s5, s6, s7, s8, s9⟩
        go_simp
        with_reducible rfl
       rotate_left
       ·simp only [Act.put, Lt, Lz, Ls, i64_w, i32_w]
        rfl
       refine pure_ (i := 7) (N := some 33) (v := ?_) (a' := ?_) #[true, true, true, true, true, true, true, true, false, false, false, false, false, false, false, false, false] rfl rfl (any_of HT_.out (by kernel_rfl)) (fun _ _ _ h => h) (Or.inl ⟨by rfl, ?_⟩) ?_ ?_
       rotate_left
       ·intro w'
        go_simp
        with_reducible rfl
       rotate_left
       ·simp only [Act.put, Lt, Lz, Ls, i64_w, i32_w]
        rfl
       refine pure_ (i := 8) (N := some 34) (v := ?_) (a' := ?_) #[true, true, true, true, true, true, true, true, true, false, false, false, false, false, false, false, false] rfl rfl (any_of HT_.out (by kernel_rfl)) (fun _ _ _ h => h) (Or.inl ⟨by rfl, ?_⟩) ?_ ?_
       rotate_left
       ·intro w'
        go_simp
        with_reducible rfl
       rotate_left
       ·simp only [Act.put, Lt, Lz, Ls, i64_w, i32_w]
        rfl
       refine pure_ (i := 9) (N := some 35) (v := ?_) (a' := ?_) #[true, true, true, true, true, true, true, true, true, true, false, false, false, false, false, false, false] rfl rfl (any_of HT_.out (by kernel_rfl)) (fun _ _ _ h => h) (Or.inl ⟨by rfl, ?_⟩) ?_ ?_
       rotate_left
       ·intro w'
        go_simp
        with_reducible rfl
       rotate_left
       ·simp only [Act.put, Lt, Lz, Ls, i64_w, i32_w]
        rfl
       refine pure_ (i := 10) (N := some 36) (v := ?_) (a' := ?_) #[true, true, true, true, true, true, true, true, true, true, true, false, false, false, false, false, false] rfl rfl (any_of HT_.out (by kernel_rfl)) (fun _ _ _ h => h) (Or.inl ⟨by rfl, ?_⟩) ?_ ?_
       rotate_left
       ·intro w'
        go_simp
        with_reducible rfl
       rotate_left
       ·simp only [Act.put, Lt, Lz, Ls, i64_w, i32_w]
        rfl
       refine pure_ (i := 12) (N := some 38) (v := ?_) (a' := ?_) #[true, true, true, true, true, true, true, true, true, true, true, false, true, false, false, false, false] rfl rfl (any_of HT_.out (by kernel_rfl)) (fun _ _ _ h => h) (Or.inl ⟨by rfl, ?_⟩) ?_ ?_
       rotate_left
       ·intro w'
        go_simp
        with_reducible rfl
       rotate_left
       ·simp only [Act.put, Lt, Lz, Ls, i64_w, i32_w]
        rfl
       refine take_ (i := 11) (N := some 37) (v := ?_) (a' := ?_) #[true, true, true, true, true, true, true, true, true, true, true, true, true, false, false, false, false] rfl rfl (take_ofW HT_.out HW_.out (by kernel_rfl)) (fun _ _ _ h => h) (Or.inl ⟨by rfl, ?_⟩) hHeld ?_ ?_
       rotate_left
       ·rintro w' ⟨s0, s1, s2, s3, s4, s5, s6, s7, s8, s9⟩
        go_simp
        with_reducible rfl
       rotate_left
       ·simp only [Act.put, Lt, Lz, Ls, i64_w, i32_w]
        rfl
       refine one_ (i := 13) (N := some 39) #[true, true, true, true, true, true, true, true, true, true, true, true, true, true, false, false, false] rfl rfl (one_of HT_.out (by kernel_rfl)) (by decide) (fun K hK => ?_)
       refine goes_ Try.func59 (by kernel_rfl) rfl #[.int .i64 a0] (by rfl) rfl rfl (by first | rfl | (simp only [List.map_toArray, List.map_cons, List.map_nil]; first | done | rfl)) ?_
       with_reducible refine (spec_l3None.calls a0 t144 t145 _ A17.out).mono ?_
       rintro e w21 ⟨v146, rfl, ho0, hb⟩
       refine ⟨_, rfl, ?_⟩
       have n0_ := Am (Kd.R_lower ho0 (Bz (by repeat (first | (with_reducible first | exact HB.out | apply Ba | apply Bn | apply Bd | refine Bs ?_ GE140.out) | exact HB.out))))
       have n1_ := Am (Kb (g := gb140) (o := .cells #[.int .i64 a1_0, .int .i64 a1_1, .int .i64 a1_2, .int .i64 a1_3, .int .i64 a1_4, .int .i64 a1_5, .int .i64 a1_6, .int .i64 a1_7, .int .i64 a1_8, .slice A1_9 l1_9.length c1_9] 39 (0, 0)) (by (with_reducible repeat (first | refine Kn ?_ _ | refine Ke ?_ | refine Ka ?_ _)); exact BK140.out) hb)
       have n2_ := Am (Bt (by repeat (first | (with_reducible first | exact HB.out | apply Ba | apply Bn | apply Bd | refine Bs ?_ GE140.out) | exact HB.out)) hb)
       clear BK140
       clear HB
       have HO147 := n0_
       have BK140 := n1_
       have HB := n2_
       clear n0_ n1_ n2_
       (try clear hb)
       (try clear hb2)
       (try clear hk)
       (try clear hi)
       (try clear ho0)
       obtain ⟨Ao22, co22, eo22⟩ := Kd.R_slice HO147.out
       (first | subst eo22 | (injection eo22 with f1_ f2_ f3_; have f4_ := f1_.symm; have f5_ := f3_.symm; clear f1_ f2_ f3_; subst f4_; subst f5_))
       refine hK.out _ _ ⟨(Kc BK140.out 0).trans rfl, (Kc BK140.out 1).trans rfl, (Kc BK140.out 2).trans rfl, (Kc BK140.out 3).trans rfl, (Kc BK140.out 4).trans rfl, (Kc BK140.out 5).trans rfl, (Kc BK140.out 6).trans rfl, (Kc BK140.out 7).trans rfl, (Kc BK140.out 8).trans rfl, (Kc BK140.out 9).trans rfl⟩ (fun hHeld => ?_)
       clear hK K
       refine norm_ (a' := ?_) ?_ ?_
       rotate_left
       ·show Act.put _ (some 39) _ = _
        simp only [Act.put, Lt, Lz, Ls, i64_w, i32_w]
        rfl
       refine one_ (i := 14) (N := some 40) #[true, true, true, true, true, true, true, true, true, true, true, true, true, true, true, false, false] rfl rfl (one_of HT_.out (by kernel_rfl)) (by decide) (fun K hK => ?_)
       refine goes_ Try.func74 (by kernel_rfl) rfl #[.agg #[.int .i64 a1_8, .slice A1_9 l1_9.length c1_9], .agg #[.int .i64 t144, .slice Ao22 t145.length co22]] (by rfl) rfl rfl (by first | rfl | (simp only [List.map_toArray, List.map_cons, List.map_nil]; first | done | rfl)) ?_
       with_reducible refine (spec_SameAttr.calls kj2 a1_8 _ _ l1_9 t144 _ _ t145 t148 _ ?side1 ?side2 ?side3 ?side4 A18.out).mono ?_
       (case side1 => repeat (first | exact (Kd.C_below HR1_9.out HB.out) | (with_reducible refine Kd.C_alloc ?_ _) | (with_reducible refine Kd.C_drewN ?_ _) | (with_reducible refine Kd.C_drew ?_)))
       (case side2 => exact HC1_9.out)
       (case side3 => repeat (first | exact (Kd.R_reads' HO147.out).2.2 | (with_reducible refine Kd.C_alloc ?_ _) | (with_reducible refine Kd.C_drewN ?_ _) | (with_reducible refine Kd.C_drew ?_)))
       (case side4 => exact (Kd.R_reads' HO147.out).2.1)
       rintro e w23 ⟨rfl, hb⟩
       refine ⟨_, rfl, ?_⟩
       have n0_ := Am (Kd.R_below (by (with_reducible repeat (first | apply Ra | apply Rn | apply Rd)); exact HO147.out) hb)
       have n1_ := Am (Kb (g := gb140) (o := .cells #[.int .i64 a1_0, .int .i64 a1_1, .int .i64 a1_2, .int .i64 a1_3, .int .i64 a1_4, .int .i64 a1_5, .int .i64 a1_6, .int .i64 a1_7, .int .i64 a1_8, .slice A1_9 l1_9.length c1_9] 39 (0, 0)) (by (with_reducible repeat (first | refine Kn ?_ _ | refine Ke ?_ | refine Ka ?_ _)); exact BK140.out) hb)
       have n2_ := Am (Bt (by repeat (first | (with_reducible first | exact HB.out | apply Ba | apply Bn | apply Bd | refine Bs ?_ GE140.out) | exact HB.out)) hb)
       clear HO147
       clear BK140
       clear HB
       have HO147 := n0_
       have BK140 := n1_
       have HB := n2_
       clear n0_ n1_ n2_
       (try clear hb)
       (try clear hb2)
       (try clear hk)
       (try clear hi)
       refine hK.out _ _ ⟨(Kc BK140.out 0).trans rfl, (Kc BK140.out 1).trans rfl, (Kc BK140.out 2).trans rfl, (Kc BK140.out 3).trans rfl, (Kc BK140.out 4).trans rfl, (Kc BK140.out 5).trans rfl, (Kc BK140.out 6).trans rfl, (Kc BK140.out 7).trans rfl, (Kc BK140.out 8).trans rfl, (Kc BK140.out 9).trans rfl⟩ (fun hHeld => ?_)
       clear hK K
       refine norm_ (a' := ?_) ?_ ?_
       rotate_left
       ·show Act.put _ (some 40) _ = _
        simp only [Act.put, Lt, Lz, Ls, i64_w, i32_w]
        rfl
       refine pure_ (i := 15) (N := some 41) (v := ?_) (a' := ?_) #[true, true, true, true, true, true, true, true, true, true, true, true, true, true, true, true, false] rfl rfl (any_of HT_.out (by kernel_rfl)) (fun _ _ _ h => h) (Or.inl ⟨by rfl, ?_⟩) ?_ ?_
       rotate_left
       ·intro w'
        go_simp
        with_reducible rfl
       rotate_left
       ·simp only [Act.put, Lt, Lz, Ls, i64_w, i32_w]
        rfl
       refine pure_ (i := 16) (N := some 4) (v := ?_) (a' := ?_) #[true, true, true, true, true, true, true, true, true, true, true, true, true, true, true, true, true] rfl rfl (any_of HT_.out (by kernel_rfl)) (fun _ _ _ h => h) (Or.inl ⟨by rfl, ?_⟩) ?_ ?_
       rotate_left
       ·intro w'
        go_simp
        with_reducible rfl
       rotate_left
       ·simp only [Act.put, Lt, Lz, Ls, i64_w, i32_w]
        rfl
       refine done_ (done_of HT_.out (by kernel_rfl)) ?_
       try go_wp2
       go_ret
       exact ⟨by first | rfl | (simp [*, errW_none, errW_some] <;> rfl), by repeat (first | (with_reducible first | exact HB.out | apply Ba | apply Bn | apply Bd | refine Bs ?_ GE140.out) | exact HB.out)⟩
      ·rw [if_neg c16] at H
       have c16b0 : (a1_3 == 0 && (a1_4 == 0 && (a1_5 == 0 && (a1_6 == 0 && (a1_7 == 0))))) = false := by simpa using c16
       (try (have c16b1 : decide (a1_3 = 0 && (a1_4 == 0 && (a1_5 == 0 && (a1_6 == 0 && (a1_7 == 0))))) = false := by simpa using c16))
       (try (have c16b2 : (a1_3 == 0 && (a1_4 == 0 && (a1_5 == 0 && (a1_6 == 0 && (a1_7 == 0))))) = false := by simpa using c16))
       (try (have c16b3 : ¬ (a1_3 = 0 && (a1_4 == 0 && (a1_5 == 0 && (a1_6 == 0 && (a1_7 == 0))))) := by simpa using c16))
       clear c16
       obtain rfl := Option.some.inj H
       have hcz24_0 : wc.cell? ⟨gb140, 0, none⟩ = some (.int .i64 a1_0) := (Kc BK140.out 0).trans rfl
       have hcz24_1 : wc.cell? ⟨gb140, 1, none⟩ = some (.int .i64 a1_1) := (Kc BK140.out 1).trans rfl
       have hcz24_2 : wc.cell? ⟨gb140, 2, none⟩ = some (.int .i64 a1_2) := (Kc BK140.out 2).trans rfl
       have hcz24_3 : wc.cell? ⟨gb140, 3, none⟩ = some (.int .i64 a1_3) := (Kc BK140.out 3).trans rfl
       have hcz24_4 : wc.cell? ⟨gb140, 4, none⟩ = some (.int .i64 a1_4) := (Kc BK140.out 4).trans rfl
       have hcz24_5 : wc.cell? ⟨gb140, 5, none⟩ = some (.int .i64 a1_5) := (Kc BK140.out 5).trans rfl
       have hcz24_6 : wc.cell? ⟨gb140, 6, none⟩ = some (.int .i64 a1_6) := (Kc BK140.out 6).trans rfl
       have hcz24_7 : wc.cell? ⟨gb140, 7, none⟩ = some (.int .i64 a1_7) := (Kc BK140.out 7).trans rfl
       have hcz24_8 : wc.cell? ⟨gb140, 8, none⟩ = some (.int .i64 a1_8) := (Kc BK140.out 8).trans rfl
       have hcz24_9 : wc.cell? ⟨gb140, 9, none⟩ = some (.slice A1_9 l1_9.length c1_9) := (Kc BK140.out 9).trans rfl
       have hfz24_0 := Kz BK140.out 0
       have hfz24_1 := Kz BK140.out 1
       have hfz24_2 := Kz BK140.out 2
       have hfz24_3 := Kz BK140.out 3
       have hfz24_4 := Kz BK140.out 4
       have hfz24_5 := Kz BK140.out 5
       have hfz24_6 := Kz BK140.out 6
       have hfz24_7 := Kz BK140.out 7
       have hfz24_8 := Kz BK140.out 8
       have hfz24_9 := Kz BK140.out 9
       try go_wp2
       have n0_ := Am (Ke BK140.out)
       have n1_ := Am (Bd HB.out)
       clear BK140
       clear HB
       have BK140 := n0_
       have HB := n1_
       clear n0_ n1_
       refine start_ (n := 17) (S := fun w' => w'.cell? ⟨gb140, 0, none⟩ = some (.int .i64 a1_0) ∧ w'.cell? ⟨gb140, 1, none⟩ = some (.int .i64 a1_1) ∧ w'.cell? ⟨gb140, 2, none⟩ = some (.int .i64 a1_2) ∧ w'.cell? ⟨gb140, 3, none⟩ = some (.int .i64 a1_3) ∧ w'.cell? ⟨gb140, 4, none⟩ = some (.int .i64 a1_4) ∧ w'.cell? ⟨gb140, 5, none⟩ = some (.int .i64 a1_5) ∧ w'.cell? ⟨gb140, 6, none⟩ = some (.int .i64 a1_6) ∧ w'.cell? ⟨gb140, 7, none⟩ = some (.int .i64 a1_7) ∧ w'.cell? ⟨gb140, 8, none⟩ = some (.int .i64 a1_8) ∧ w'.cell? ⟨gb140, 9, none⟩ = some (.slice A1_9 l1_9.length c1_9)) (ds := []) #[false, false, false, false, false, false, false, false, false, false, false, false, false, false, false, false, false] (by kernel_rfl) rfl rfl ⟨(Kc BK140.out 0).trans rfl, (Kc BK140.out 1).trans rfl, (Kc BK140.out 2).trans rfl, (Kc BK140.out 3).trans rfl, (Kc BK140.out 4).trans rfl, (Kc BK140.out 5).trans rfl, (Kc BK140.out 6).trans rfl, (Kc BK140.out 7).trans rfl, (Kc BK140.out 8).trans rfl, (Kc BK140.out 9).trans rfl⟩ (fun hHeld => ?_); refine with_tabW spec_l4Row.tab4 spec_l4Row.bits4 (fun HT_ HW_ => ?_)
       generalize wc.drew = w25 at BK140 HB hHeld ⊢
       refine pure_ (i := 0) (N := some 26) (v := ?_) (a' := ?_) #[true, false, false, false, false, false, false, false, false, false, false, false, false, false, false, false, false] rfl rfl (any_of HT_.out (by kernel_rfl)) (fun _ _ _ h => h) (Or.inl ⟨by rfl, ?_⟩) ?_ ?_
       rotate_left
       ·intro w'
        go_simp
        with_reducible rfl
       rotate_left
       ·simp only [Act.put, Lt, Lz, Ls, i64_w, i32_w]
        rfl
       refine take_ (i := 1) (N := some 27) (v := ?_) (a' := ?_) #[true, true, false, false, false, false, false, false, false, false, false, false, false, false, false, false, false] rfl rfl (take_ofW HT_.out HW_.out (by kernel_rfl)) (fun _ _ _ h => h) (Or.inl ⟨by rfl, ?_⟩) hHeld ?_ ?_
       rotate_left
       ·rintro w' ⟨s0, s1, s2, s3, s4, s5, s6, s7, s8, s9⟩
        go_simp
        with_reducible rfl
       rotate_left
       ·simp only [Act.put, Lt, Lz, Ls, i64_w, i32_w]
        rfl
       refine pure_ (i := 2) (N := some 28) (v := ?_) (a' := ?_) #[true, true, true, false, false, false, false, false, false, false, false, false, false, false, false, false, false] rfl rfl (any_of HT_.out (by kernel_rfl)) (fun _ _ _ h => h) (Or.inl ⟨by rfl, ?_⟩) ?_ ?_
       rotate_left
       ·intro w'
        go_simp
        with_reducible rfl
       rotate_left
       ·simp only [Act.put, Lt, Lz, Ls, i64_w, i32_w]
        rfl
       refine pure_ (i := 3) (N := some 29) (v := ?_) (a' := ?_) #[true, true, true, true, false, false, false, false, false, false, false, false, false, false, false, false, false] rfl rfl (any_of HT_.out (by kernel_rfl)) (fun _ _ _ h => h) (Or.inl ⟨by rfl, ?_⟩) ?_ ?_
       rotate_left
       ·intro w'
        go_simp
        with_reducible rfl
       rotate_left
       ·simp only [Act.put, Lt, Lz, Ls, i64_w, i32_w]
        rfl
       refine pure_ (i := 4) (N := some 30) (v := ?_) (a' := ?_) #[true, true, true, true, true, false, false, false, false, false, false, false, false, false, false, false, false] rfl rfl (any_of HT_.out (by kernel_rfl)) (fun _ _ _ h => h) (Or.inl ⟨by rfl, ?_⟩) ?_ ?_
       rotate_left
       ·intro w'
        go_simp
        with_reducible rfl
       rotate_left
       ·simp only [Act.put, Lt, Lz, Ls, i64_w, i32_w]
        rfl
       refine pure_ (i := 6) (N := some 32) (v := ?_) (a' := ?_) #[true, true, true, true, true, false, true, false, false, false, false, false, false, false, false, false, false] rfl rfl (any_of HT_.out (by kernel_rfl)) (fun _ _ _ h => h) (Or.inl ⟨by rfl, ?_⟩) ?_ ?_
       rotate_left
       ·intro w'
        go_simp
        with_reducible rfl
       rotate_left
       ·simp only [Act.put, Lt, Lz, Ls, i64_w, i32_w]
        rfl
       refine take_ (i := 5) (N := some 31) (v := ?_) (a' := ?_) #[true, true, true, true, true, true, true, false, false, false, false, false, false, false, false, false, false] rfl rfl (take_ofW HT_.out HW_.out (by kernel_rfl)) (fun _ _ _ h => h) (Or.inl ⟨by rfl, ?_⟩) hHeld ?_ ?_
       rotate_left
       ·rintro w' ⟨s0, s1, s2, s3, s4, s5, s6, s7, s8, s9⟩
        go_simp
        with_reducible rfl
       rotate_left
       ·simp only [Act.put, Lt, Lz, Ls, i64_w, i32_w]
        rfl
       refine pure_ (i := 7) (N := some 33) (v := ?_) (a' := ?_) #[true, true, true, true, true, true, true, true, false, false, false, false, false, false, false, false, false] rfl rfl (any_of HT_.out (by kernel_rfl)) (fun _ _ _ h => h) (Or.inl ⟨by rfl, ?_⟩) ?_ ?_
       rotate_left
       ·intro w'
        go_simp
        with_reducible rfl
       rotate_left
       ·simp only [Act.put, Lt, Lz, Ls, i64_w, i32_w]
        rfl
       refine pure_ (i := 8) (N := some 34) (v := ?_) (a' := ?_) #[true, true, true, true, true, true, true, true, true, false, false, false, false, false, false, false, false] rfl rfl (any_of HT_.out (by kernel_rfl)) (fun _ _ _ h => h) (Or.inl ⟨by rfl, ?_⟩) ?_ ?_
       rotate_left
       ·intro w'
        go_simp
        with_reducible rfl
       rotate_left
       ·simp only [Act.put, Lt, Lz, Ls, i64_w, i32_w]
        rfl
       refine pure_ (i := 9) (N := some 35) (v := ?_) (a' := ?_) #[true, true, true, true, true, true, true, true, true, true, false, false, false, false, false, false, false] rfl rfl (any_of HT_.out (by kernel_rfl)) (fun _ _ _ h => h) (Or.inl ⟨by rfl, ?_⟩) ?_ ?_
       rotate_left
       ·intro w'
        go_simp
        with_reducible rfl
       rotate_left
       ·simp only [Act.put, Lt, Lz, Ls, i64_w, i32_w]
        rfl
       refine pure_ (i := 10) (N := some 36) (v := undef) (a' := ?_) #[true, true, true, true, true, true, true, true, true, true, true, false, false, false, false, false, false] rfl rfl (any_of HT_.out (by kernel_rfl)) (fun _ _ _ h => h) (Or.inr ⟨by rfl, rfl⟩) ?_ ?_
       rotate_left
       ·simp only [Act.put, Lt, Lz, Ls, i64_w, i32_w]
        rfl
       refine pure_ (i := 11) (N := some 37) (v := undef) (a' := ?_) #[true, true, true, true, true, true, true, true, true, true, true, true, false, false, false, false, false] rfl rfl (any_of HT_.out (by kernel_rfl)) (fun _ _ _ h => h) (Or.inr ⟨by rfl, rfl⟩) ?_ ?_
       rotate_left
       ·simp only [Act.put, Lt, Lz, Ls, i64_w, i32_w]
        rfl
       refine pure_ (i := 12) (N := some 38) (v := undef) (a' := ?_) #[true, true, true, true, true, true, true, true, true, true, true, true, true, false, false, false, false] rfl rfl (any_of HT_.out (by kernel_rfl)) (fun _ _ _ h => h) (Or.inr ⟨by rfl, rfl⟩) ?_ ?_
       rotate_left
       ·simp only [Act.put, Lt, Lz, Ls, i64_w, i32_w]
        rfl
       refine pure_ (i := 13) (N := some 39) (v := undef) (a' := ?_) #[true, true, true, true, true, true, true, true, true, true, true, true, true, true, false, false, false] rfl rfl (any_of HT_.out (by kernel_rfl)) (fun _ _ _ h => h) (Or.inr ⟨by rfl, rfl⟩) ?_ ?_
       rotate_left
       ·simp only [Act.put, Lt, Lz, Ls, i64_w, i32_w]
        rfl
       refine pure_ (i := 14) (N := some 40) (v := undef) (a' := ?_) #[true, true, true, true, true, true, true, true, true, true, true, true, true, true, true, false, false] rfl rfl (any_of HT_.out (by kernel_rfl)) (fun _ _ _ h => h) (Or.inr ⟨by rfl, rfl⟩) ?_ ?_
       rotate_left
       ·simp only [Act.put, Lt, Lz, Ls, i64_w, i32_w]
        rfl
       refine pure_ (i := 15) (N := some 41) (v := ?_) (a' := ?_) #[true, true, true, true, true, true, true, true, true, true, true, true, true, true, true, true, false] rfl rfl (any_of HT_.out (by kernel_rfl)) (fun _ _ _ h => h) (Or.inl ⟨by rfl, ?_⟩) ?_ ?_
       rotate_left
       ·intro w'
        go_simp
        with_reducible rfl
       rotate_left
       ·simp only [Act.put, Lt, Lz, Ls, i64_w, i32_w]
        rfl
       refine pure_ (i := 16) (N := some 4) (v := ?_) (a' := ?_) #[true, true, true, true, true, true, true, true, true, true, true, true, true, true, true, true, true] rfl rfl (any_of HT_.out (by kernel_rfl)) (fun _ _ _ h => h) (Or.inl ⟨by rfl, ?_⟩) ?_ ?_
       rotate_left
       ·intro w'
        go_simp
        with_reducible rfl
       rotate_left
       ·simp only [Act.put, Lt, Lz, Ls, i64_w, i32_w]
        rfl
       refine done_ (done_of HT_.out (by kernel_rfl)) ?_
       try go_wp2
       go_ret
       exact ⟨by first | rfl | (simp [*, errW_none, errW_some] <;> rfl), by repeat (first | (with_reducible first | exact HB.out | apply Ba | apply Bn | apply Bd | refine Bs ?_ GE140.out) | exact HB.out)⟩
     ·rw [if_neg c15] at H
      have c15b0 : (a1_1 == 0) = false := beq_eq_false_iff_ne.mpr c15
      have c15b1 : (a1_1 != 0) = true := bne_iff_ne.mpr c15
      obtain rfl := Option.some.inj H
      have hcz26_0 : wc.cell? ⟨gb140, 0, none⟩ = some (.int .i64 a1_0) := (Kc BK140.out 0).trans rfl
      have hcz26_1 : wc.cell? ⟨gb140, 1, none⟩ = some (.int .i64 a1_1) := (Kc BK140.out 1).trans rfl
      have hcz26_2 : wc.cell? ⟨gb140, 2, none⟩ = some (.int .i64 a1_2) := (Kc BK140.out 2).trans rfl
      have hcz26_3 : wc.cell? ⟨gb140, 3, none⟩ = some (.int .i64 a1_3) := (Kc BK140.out 3).trans rfl
      have hcz26_4 : wc.cell? ⟨gb140, 4, none⟩ = some (.int .i64 a1_4) := (Kc BK140.out 4).trans rfl
      have hcz26_5 : wc.cell? ⟨gb140, 5, none⟩ = some (.int .i64 a1_5) := (Kc BK140.out 5).trans rfl
      have hcz26_6 : wc.cell? ⟨gb140, 6, none⟩ = some (.int .i64 a1_6) := (Kc BK140.out 6).trans rfl
      have hcz26_7 : wc.cell? ⟨gb140, 7, none⟩ = some (.int .i64 a1_7) := (Kc BK140.out 7).trans rfl
      have hcz26_8 : wc.cell? ⟨gb140, 8, none⟩ = some (.int .i64 a1_8) := (Kc BK140.out 8).trans rfl
      have hcz26_9 : wc.cell? ⟨gb140, 9, none⟩ = some (.slice A1_9 l1_9.length c1_9) := (Kc BK140.out 9).trans rfl
      have hfz26_0 := Kz BK140.out 0
      have hfz26_1 := Kz BK140.out 1
      have hfz26_2 := Kz BK140.out 2
      have hfz26_3 := Kz BK140.out 3
      have hfz26_4 := Kz BK140.out 4
      have hfz26_5 := Kz BK140.out 5
      have hfz26_6 := Kz BK140.out 6
      have hfz26_7 := Kz BK140.out 7
      have hfz26_8 := Kz BK140.out 8
      have hfz26_9 := Kz BK140.out 9
      try go_wp2
      have n0_ := Am (Ke BK140.out)
      have n1_ := Am (Bd HB.out)
      clear BK140
      clear HB
      have BK140 := n0_
      have HB := n1_
      clear n0_ n1_
      refine start_ (n := 17) (S := fun w' => w'.cell? ⟨gb140, 0, none⟩ = some (.int .i64 a1_0) ∧ w'.cell? ⟨gb140, 1, none⟩ = some (.int .i64 a1_1) ∧ w'.cell? ⟨gb140, 2, none⟩ = some (.int .i64 a1_2) ∧ w'.cell? ⟨gb140, 3, none⟩ = some (.int .i64 a1_3) ∧ w'.cell? ⟨gb140, 4, none⟩ = some (.int .i64 a1_4) ∧ w'.cell? ⟨gb140, 5, none⟩ = some (.int .i64 a1_5) ∧ w'.cell? ⟨gb140, 6, none⟩ = some (.int .i64 a1_6) ∧ w'.cell? ⟨gb140, 7, none⟩ = some (.int .i64 a1_7) ∧ w'.cell? ⟨gb140, 8, none⟩ = some (.int .i64 a1_8) ∧ w'.cell? ⟨gb140, 9, none⟩ = some (.slice A1_9 l1_9.length c1_9)) (ds := []) #[false, false, false, false, false, false, false, false, false, false, false, false, false, false, false, false, false] (by kernel_rfl) rfl rfl ⟨(Kc BK140.out 0).trans rfl, (Kc BK140.out 1).trans rfl, (Kc BK140.out 2).trans rfl, (Kc BK140.out 3).trans rfl, (Kc BK140.out 4).trans rfl, (Kc BK140.out 5).trans rfl, (Kc BK140.out 6).trans rfl, (Kc BK140.out 7).trans rfl, (Kc BK140.out 8).trans rfl, (Kc BK140.out 9).trans rfl⟩ (fun hHeld => ?_); refine with_tabW spec_l4Row.tab4 spec_l4Row.bits4 (fun HT_ HW_ => ?_)
      generalize wc.drew = w27 at BK140 HB hHeld ⊢
      refine pure_ (i := 0) (N := some 26) (v := ?_) (a' := ?_) #[true, false, false, false, false, false, false, false, false, false, false, false, false, false, false, false, false] rfl rfl (any_of HT_.out (by kernel_rfl)) (fun _ _ _ h => h) (Or.inl ⟨by rfl, ?_⟩) ?_ ?_
      rotate_left
      ·intro w'
       go_simp
       with_reducible rfl
      rotate_left
      ·simp only [Act.put, Lt, Lz, Ls, i64_w, i32_w]
       rfl
      refine take_ (i := 1) (N := some 27) (v := ?_) (a' := ?_) #[true, true, false, false, false, false, false, false, false, false, false, false, false, false, false, false, false] rfl rfl (take_ofW HT_.out HW_.out (by kernel_rfl)) (fun _ _ _ h => h) (Or.inl ⟨by rfl, ?_⟩) hHeld ?_ ?_
      rotate_left
      ·rintro w' ⟨s0, s1, s2, s3, s4, s5, s6, s7, s8, s9⟩
       go_simp
       with_reducible rfl
      rotate_left
      ·simp only [Act.put, Lt, Lz, Ls, i64_w, i32_w]
       rfl
      refine pure_ (i := 2) (N := some 28) (v := ?_) (a' := ?_) #[true, true, true, false, false, false, false, false, false, false, false, false, false, false, false, false, false] rfl rfl (any_of HT_.out (by kernel_rfl)) (fun _ _ _ h => h) (Or.inl ⟨by rfl, ?_⟩) ?_ ?_
      rotate_left
      ·intro w'
       go_simp
       with_reducible rfl
      rotate_left
      ·simp only [Act.put, Lt, Lz, Ls, i64_w, i32_w]
       rfl
      refine pure_ (i := 3) (N := some 29) (v := ?_) (a' := ?_) #[true, true, true, true, false, false, false, false, false, false, false, false, false, false, false, false, false] rfl rfl (any_of HT_.out (by kernel_rfl)) (fun _ _ _ h => h) (Or.inl ⟨by rfl, ?_⟩) ?_ ?_
      rotate_left
      ·intro w'
       go_simp
       with_reducible rfl
      rotate_left
      ·simp only [Act.put, Lt, Lz, Ls, i64_w, i32_w]
       rfl
      refine pure_ (i := 4) (N := some 30) (v := undef) (a' := ?_) #[true, true, true, true, true, false, false, false, false, false, false, false, false, false, false, false, false] rfl rfl (any_of HT_.out (by kernel_rfl)) (fun _ _ _ h => h) (Or.inr ⟨by rfl, rfl⟩) ?_ ?_
      rotate_left
      ·simp only [Act.put, Lt, Lz, Ls, i64_w, i32_w]
       rfl
      refine pure_ (i := 5) (N := some 31) (v := undef) (a' := ?_) #[true, true, true, true, true, true, false, false, false, false, false, false, false, false, false, false, false] rfl rfl (any_of HT_.out (by kernel_rfl)) (fun _ _ _ h => h) (Or.inr ⟨by rfl, rfl⟩) ?_ ?_
      rotate_left
      ·simp only [Act.put, Lt, Lz, Ls, i64_w, i32_w]
       rfl
      refine pure_ (i := 6) (N := some 32) (v := undef) (a' := ?_) #[true, true, true, true, true, true, true, false, false, false, false, false, false, false, false, false, false] rfl rfl (any_of HT_.out (by kernel_rfl)) (fun _ _ _ h => h) (Or.inr ⟨by rfl, rfl⟩) ?_ ?_
      rotate_left
      ·simp only [Act.put, Lt, Lz, Ls, i64_w, i32_w]
       rfl
      refine pure_ (i := 7) (N := some 33) (v := undef) (a' := ?_) #[true, true, true, true, true, true, true, true, false, false, false, false, false, false, false, false, false] rfl rfl (any_of HT_.out (by kernel_rfl)) (fun _ _ _ h => h) (Or.inr ⟨by rfl, rfl⟩) ?_ ?_
      rotate_left
      ·simp only [Act.put, Lt, Lz, Ls, i64_w, i32_w]
       rfl
      refine pure_ (i := 8) (N := some 34) (v := ?_) (a' := ?_) #[true, true, true, true, true, true, true, true, true, false, false, false, false, false, false, false, false] rfl rfl (any_of HT_.out (by kernel_rfl)) (fun _ _ _ h => h) (Or.inl ⟨by rfl, ?_⟩) ?_ ?_
      rotate_left
      ·intro w'
       go_simp
       with_reducible rfl
      rotate_left
      ·simp only [Act.put, Lt, Lz, Ls, i64_w, i32_w]
       rfl
      refine pure_ (i := 9) (N := some 35) (v := ?_) (a' := ?_) #[true, true, true, true, true, true, true, true, true, true, false, false, false, false, false, false, false] rfl rfl (any_of HT_.out (by kernel_rfl)) (fun _ _ _ h => h) (Or.inl ⟨by rfl, ?_⟩) ?_ ?_
      rotate_left
      ·intro w'
       go_simp
       with_reducible rfl
      rotate_left
      ·simp only [Act.put, Lt, Lz, Ls, i64_w, i32_w]
       rfl
      refine pure_ (i := 10) (N := some 36) (v := undef) (a' := ?_) #[true, true, true, true, true, true, true, true, true, true, true, false, false, false, false, false, false] rfl rfl (any_of HT_.out (by kernel_rfl)) (fun _ _ _ h => h) (Or.inr ⟨by rfl, rfl⟩) ?_ ?_
      rotate_left
      ·simp only [Act.put, Lt, Lz, Ls, i64_w, i32_w]
       rfl
      refine pure_ (i := 11) (N := some 37) (v := undef) (a' := ?_) #[true, true, true, true, true, true, true, true, true, true, true, true, false, false, false, false, false] rfl rfl (any_of HT_.out (by kernel_rfl)) (fun _ _ _ h => h) (Or.inr ⟨by rfl, rfl⟩) ?_ ?_
      rotate_left
      ·simp only [Act.put, Lt, Lz, Ls, i64_w, i32_w]
       rfl
      refine pure_ (i := 12) (N := some 38) (v := undef) (a' := ?_) #[true, true, true, true, true, true, true, true, true, true, true, true, true, false, false, false, false] rfl rfl (any_of HT_.out (by kernel_rfl)) (fun _ _ _ h => h) (Or.inr ⟨by rfl, rfl⟩) ?_ ?_
      rotate_left
      ·simp only [Act.put, Lt, Lz, Ls, i64_w, i32_w]
       rfl
      refine pure_ (i := 13) (N := some 39) (v := undef) (a' := ?_) #[true, true, true, true, true, true, true, true, true, true, true, true, true, true, false, false, false] rfl rfl (any_of HT_.out (by kernel_rfl)) (fun _ _ _ h => h) (Or.inr ⟨by rfl, rfl⟩) ?_ ?_
      rotate_left
      ·simp only [Act.put, Lt, Lz, Ls, i64_w, i32_w]
       rfl
      refine pure_ (i := 14) (N := some 40) (v := undef) (a' := ?_) #[true, true, true, true, true, true, true, true, true, true, true, true, true, true, true, false, false] rfl rfl (any_of HT_.out (by kernel_rfl)) (fun _ _ _ h => h) (Or.inr ⟨by rfl, rfl⟩) ?_ ?_
      rotate_left
      ·simp only [Act.put, Lt, Lz, Ls, i64_w, i32_w]
       rfl
      refine pure_ (i := 15) (N := some 41) (v := ?_) (a' := ?_) #[true, true, true, true, true, true, true, true, true, true, true, true, true, true, true, true, false] rfl rfl (any_of HT_.out (by kernel_rfl)) (fun _ _ _ h => h) (Or.inl ⟨by rfl, ?_⟩) ?_ ?_
      rotate_left
      ·intro w'
       go_simp
       with_reducible rfl
      rotate_left
      ·simp only [Act.put, Lt, Lz, Ls, i64_w, i32_w]
       rfl
      refine pure_ (i := 16) (N := some 4) (v := ?_) (a' := ?_) #[true, true, true, true, true, true, true, true, true, true, true, true, true, true, true, true, true] rfl rfl (any_of HT_.out (by kernel_rfl)) (fun _ _ _ h => h) (Or.inl ⟨by rfl, ?_⟩) ?_ ?_
      rotate_left
      ·intro w'
       go_simp
       with_reducible rfl
      rotate_left
      ·simp only [Act.put, Lt, Lz, Ls, i64_w, i32_w]
       rfl
      refine done_ (done_of HT_.out (by kernel_rfl)) ?_
      try go_wp2
      go_ret
      exact ⟨by first | rfl | (simp [*, errW_none, errW_some] <;> rfl), by repeat (first | (with_reducible first | exact HB.out | apply Ba | apply Bn | apply Bd | refine Bs ?_ GE140.out) | exact HB.out)⟩
    ·rw [if_neg c14] at H
     have c14b0 : (a1_2 == 0) = false := beq_eq_false_iff_ne.mpr c14
     have c14b1 : (a1_2 != 0) = true := bne_iff_ne.mpr c14
     replace H := Option.bind_eq_some_iff.mp H
     obtain ⟨t149, A280, H⟩ := H
     replace H : (if t149 = true then ((spec_l3Attr.f kj2 a0 a1_8 l1_9).bind fun t150 => (some t150)) else (some false)) = some r := H
     have A28 := Am A280
     clear A280
     by_cases c29 : t149 = true
     ·subst c29
      have H1 : ((spec_l3Attr.f kj2 a0 a1_8 l1_9).bind fun t150 => (some t150)) = some r := by rw [if_pos rfl] at H; exact H
      clear H
      have H := H1
      clear H1
      replace H := Option.bind_eq_some_iff.mp H
      obtain ⟨t150, A300, H⟩ := H
      replace H : (some t150) = some r := H
      have A30 := Am A300
      clear A300
      obtain rfl := Option.some.inj H
      have hcz31_0 : wc.cell? ⟨gb140, 0, none⟩ = some (.int .i64 a1_0) := (Kc BK140.out 0).trans rfl
      have hcz31_1 : wc.cell? ⟨gb140, 1, none⟩ = some (.int .i64 a1_1) := (Kc BK140.out 1).trans rfl
      have hcz31_2 : wc.cell? ⟨gb140, 2, none⟩ = some (.int .i64 a1_2) := (Kc BK140.out 2).trans rfl
      have hcz31_3 : wc.cell? ⟨gb140, 3, none⟩ = some (.int .i64 a1_3) := (Kc BK140.out 3).trans rfl
      have hcz31_4 : wc.cell? ⟨gb140, 4, none⟩ = some (.int .i64 a1_4) := (Kc BK140.out 4).trans rfl
      have hcz31_5 : wc.cell? ⟨gb140, 5, none⟩ = some (.int .i64 a1_5) := (Kc BK140.out 5).trans rfl
      have hcz31_6 : wc.cell? ⟨gb140, 6, none⟩ = some (.int .i64 a1_6) := (Kc BK140.out 6).trans rfl
      have hcz31_7 : wc.cell? ⟨gb140, 7, none⟩ = some (.int .i64 a1_7) := (Kc BK140.out 7).trans rfl
      have hcz31_8 : wc.cell? ⟨gb140, 8, none⟩ = some (.int .i64 a1_8) := (Kc BK140.out 8).trans rfl
      have hcz31_9 : wc.cell? ⟨gb140, 9, none⟩ = some (.slice A1_9 l1_9.length c1_9) := (Kc BK140.out 9).trans rfl
      have hfz31_0 := Kz BK140.out 0
      have hfz31_1 := Kz BK140.out 1
      have hfz31_2 := Kz BK140.out 2
      have hfz31_3 := Kz BK140.out 3
      have hfz31_4 := Kz BK140.out 4
      have hfz31_5 := Kz BK140.out 5
      have hfz31_6 := Kz BK140.out 6
      have hfz31_7 := Kz BK140.out 7
      have hfz31_8 := Kz BK140.out 8
      have hfz31_9 := Kz BK140.out 9
      go_wp2_with (first | ((refine Gc (f := 25) rfl ?_); refine goesL_ (some 44) rfl rfl Try.func25 (by kernel_rfl) rfl #[.agg #[.int .i64 a1_3, .int .i64 a1_4, .int .i64 a1_5, .int .i64 a1_6, .int .i64 a1_7]] rfl (by first | rfl | (simp only [List.map_toArray, List.map_cons, List.map_nil]; first | done | rfl)) ?_; (with_reducible refine (spec_GoodCmd.calls a1_3 a1_4 a1_5 a1_6 a1_7 true _ A28.out).mono ?_); rintro e w32 ⟨rfl, hb⟩; refine ⟨_, rfl, ?_⟩; have n0_ := Am (Kb (g := gb140) (o := .cells #[.int .i64 a1_0, .int .i64 a1_1, .int .i64 a1_2, .int .i64 a1_3, .int .i64 a1_4, .int .i64 a1_5, .int .i64 a1_6, .int .i64 a1_7, .int .i64 a1_8, .slice A1_9 l1_9.length c1_9] 39 (0, 0)) (by (with_reducible repeat (first | refine Kn ?_ _ | refine Ke ?_ | refine Ka ?_ _)); exact BK140.out) hb); have n1_ := Am (Bt (by repeat (first | (with_reducible first | exact HB.out | apply Ba | apply Bn | apply Bd | refine Bs ?_ GE140.out) | exact HB.out)) hb); clear BK140; clear HB; have BK140 := n0_; have HB := n1_; clear n0_ n1_; (try clear hb); (try clear hb2); (try clear hk); (try clear hi); have hcz33_0 : w32.cell? ⟨gb140, 0, none⟩ = some (.int .i64 a1_0) := (Kc BK140.out 0).trans rfl; have hcz33_1 : w32.cell? ⟨gb140, 1, none⟩ = some (.int .i64 a1_1) := (Kc BK140.out 1).trans rfl; have hcz33_2 : w32.cell? ⟨gb140, 2, none⟩ = some (.int .i64 a1_2) := (Kc BK140.out 2).trans rfl; have hcz33_3 : w32.cell? ⟨gb140, 3, none⟩ = some (.int .i64 a1_3) := (Kc BK140.out 3).trans rfl; have hcz33_4 : w32.cell? ⟨gb140, 4, none⟩ = some (.int .i64 a1_4) := (Kc BK140.out 4).trans rfl; have hcz33_5 : w32.cell? ⟨gb140, 5, none⟩ = some (.int .i64 a1_5) := (Kc BK140.out 5).trans rfl; have hcz33_6 : w32.cell? ⟨gb140, 6, none⟩ = some (.int .i64 a1_6) := (Kc BK140.out 6).trans rfl; have hcz33_7 : w32.cell? ⟨gb140, 7, none⟩ = some (.int .i64 a1_7) := (Kc BK140.out 7).trans rfl; have hcz33_8 : w32.cell? ⟨gb140, 8, none⟩ = some (.int .i64 a1_8) := (Kc BK140.out 8).trans rfl; have hcz33_9 : w32.cell? ⟨gb140, 9, none⟩ = some (.slice A1_9 l1_9.length c1_9) := (Kc BK140.out 9).trans rfl; have hfz33_0 := Kz BK140.out 0; have hfz33_1 := Kz BK140.out 1; have hfz33_2 := Kz BK140.out 2; have hfz33_3 := Kz BK140.out 3; have hfz33_4 := Kz BK140.out 4; have hfz33_5 := Kz BK140.out 5; have hfz33_6 := Kz BK140.out 6; have hfz33_7 := Kz BK140.out 7; have hfz33_8 := Kz BK140.out 8; have hfz33_9 := Kz BK140.out 9) | (go_at_call 73; (with_reducible refine (spec_l3Attr.calls kj2 a0 a1_8 _ _ l1_9 t150 _ ?side1 ?side2 A30.out).mono ?_); (case side1 => repeat (first | exact (Kd.C_below HR1_9.out HB.out) | (with_reducible refine Kd.C_alloc ?_ _) | (with_reducible refine Kd.C_drewN ?_ _) | (with_reducible refine Kd.C_drew ?_))); (case side2 => exact HC1_9.out); rintro e w34 ⟨rfl, hb⟩; have n0_ := Am (Kb (g := gb140) (o := .cells #[.int .i64 a1_0, .int .i64 a1_1, .int .i64 a1_2, .int .i64 a1_3, .int .i64 a1_4, .int .i64 a1_5, .int .i64 a1_6, .int .i64 a1_7, .int .i64 a1_8, .slice A1_9 l1_9.length c1_9] 39 (0, 0)) (by (with_reducible repeat (first | refine Kn ?_ _ | refine Ke ?_ | refine Ka ?_ _)); exact BK140.out) hb); have n1_ := Am (Bt (by repeat (first | (with_reducible first | exact HB.out | apply Ba | apply Bn | apply Bd | refine Bs ?_ GE140.out) | exact HB.out)) hb); clear BK140; clear HB; have BK140 := n0_; have HB := n1_; clear n0_ n1_; (try clear hb); (try clear hb2); (try clear hk); (try clear hi)))
      go_ret
      exact ⟨by first | rfl | (simp [*, errW_none, errW_some] <;> rfl), by repeat (first | (with_reducible first | exact HB.out | apply Ba | apply Bn | apply Bd | refine Bs ?_ GE140.out) | exact HB.out)⟩
     ·replace c29 := Bool.eq_false_iff.mpr c29
      subst c29
      have H1 : (some false) = some r := by rw [if_neg (show ¬ (false = true) by decide)] at H; exact H
      clear H
      have H := H1
      clear H1
      obtain rfl := Option.some.inj H
      have hcz35_0 : wc.cell? ⟨gb140, 0, none⟩ = some (.int .i64 a1_0) := (Kc BK140.out 0).trans rfl
      have hcz35_1 : wc.cell? ⟨gb140, 1, none⟩ = some (.int .i64 a1_1) := (Kc BK140.out 1).trans rfl
      have hcz35_2 : wc.cell? ⟨gb140, 2, none⟩ = some (.int .i64 a1_2) := (Kc BK140.out 2).trans rfl
      have hcz35_3 : wc.cell? ⟨gb140, 3, none⟩ = some (.int .i64 a1_3) := (Kc BK140.out 3).trans rfl
      have hcz35_4 : wc.cell? ⟨gb140, 4, none⟩ = some (.int .i64 a1_4) := (Kc BK140.out 4).trans rfl
      have hcz35_5 : wc.cell? ⟨gb140, 5, none⟩ = some (.int .i64 a1_5) := (Kc BK140.out 5).trans rfl
      have hcz35_6 : wc.cell? ⟨gb140, 6, none⟩ = some (.int .i64 a1_6) := (Kc BK140.out 6).trans rfl
      have hcz35_7 : wc.cell? ⟨gb140, 7, none⟩ = some (.int .i64 a1_7) := (Kc BK140.out 7).trans rfl
      have hcz35_8 : wc.cell? ⟨gb140, 8, none⟩ = some (.int .i64 a1_8) := (Kc BK140.out 8).trans rfl
      have hcz35_9 : wc.cell? ⟨gb140, 9, none⟩ = some (.slice A1_9 l1_9.length c1_9) := (Kc BK140.out 9).trans rfl
      have hfz35_0 := Kz BK140.out 0
      have hfz35_1 := Kz BK140.out 1
      have hfz35_2 := Kz BK140.out 2
      have hfz35_3 := Kz BK140.out 3
      have hfz35_4 := Kz BK140.out 4
      have hfz35_5 := Kz BK140.out 5
      have hfz35_6 := Kz BK140.out 6
      have hfz35_7 := Kz BK140.out 7
      have hfz35_8 := Kz BK140.out 8
      have hfz35_9 := Kz BK140.out 9
      go_wp2_with (first | ((refine Gc (f := 25) rfl ?_); refine goesL_ (some 44) rfl rfl Try.func25 (by kernel_rfl) rfl #[.agg #[.int .i64 a1_3, .int .i64 a1_4, .int .i64 a1_5, .int .i64 a1_6, .int .i64 a1_7]] rfl (by first | rfl | (simp only [List.map_toArray, List.map_cons, List.map_nil]; first | done | rfl)) ?_; (with_reducible refine (spec_GoodCmd.calls a1_3 a1_4 a1_5 a1_6 a1_7 false _ A28.out).mono ?_); rintro e w36 ⟨rfl, hb⟩; refine ⟨_, rfl, ?_⟩; have n0_ := Am (Kb (g := gb140) (o := .cells #[.int .i64 a1_0, .int .i64 a1_1, .int .i64 a1_2, .int .i64 a1_3, .int .i64 a1_4, .int .i64 a1_5, .int .i64 a1_6, .int .i64 a1_7, .int .i64 a1_8, .slice A1_9 l1_9.length c1_9] 39 (0, 0)) (by (with_reducible repeat (first | refine Kn ?_ _ | refine Ke ?_ | refine Ka ?_ _)); exact BK140.out) hb); have n1_ := Am (Bt (by repeat (first | (with_reducible first | exact HB.out | apply Ba | apply Bn | apply Bd | refine Bs ?_ GE140.out) | exact HB.out)) hb); clear BK140; clear HB; have BK140 := n0_; have HB := n1_; clear n0_ n1_; (try clear hb); (try clear hb2); (try clear hk); (try clear hi)))
      go_ret
      exact ⟨by first | rfl | (simp [*, errW_none, errW_some] <;> rfl), by repeat (first | (with_reducible first | exact HB.out | apply Ba | apply Bn | apply Bd | refine Bs ?_ GE140.out) | exact HB.out)⟩
end Go.Proofs.Ytilmcfdhijdhpaa.QFnExactGoodReplica
