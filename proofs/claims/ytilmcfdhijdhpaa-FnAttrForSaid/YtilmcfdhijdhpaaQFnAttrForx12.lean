-- Written by a program of this session (wip/mk.py) over the kit's print: Lean checks it.
import Derived.Test.YtilmcfdhijdhpaaQFnAttrForx0
import Derived.Test.YtilmcfdhijdhpaaQFnAttrForx9
import Derived.Test.YtilmcfdhijdhpaaQFnAttrForx11
namespace Go.Proofs.Ytilmcfdhijdhpaa.QFnAttrFor
open Go.Proofs.YtilmcfdhijdhpaaW.PrintWords.Kd renaming R_alloc → Ra, R_drewN → Rn, R_drew → Rd
open Go.Proofs.YtilmcfdhijdhpaaW.PrintWords renaming below_alloc → Ba, pw_below_drewN → Bn, below_drew1 → Bd, below_set → Bs, below_size → Bz, below_step → Bt, gate_dst → Gd, gate_callee → Gc, box_event → Be, blk_alloc → Ka, blk_drewN → Kn, blk_drew → Ke, blk_below → Kb, blk_cell → Kc, blk_far → Kf, blk_frozen → Kz
open List renaming setIfInBounds_toArray → Lt, set_cons_zero → Lz, set_cons_succ → Ls
open Go.World renaming block_lt_of_cell? → bl_
open Go.Proofs.YtilmcfdhijdhpaaW.PrintWords.Aside0 renaming mk → Am
open Go.Proofs.YtilmcfdhijdhpaaW.PrintWords renaming Aside0 → Ad
open Go.RowKit Go.Proofs.YtilmcfdhijdhpaaW.PrintWords Go.Proofs.YtilmcfdhijdhpaaW.PrintLast Go.Proofs.YtilmcfdhijdhpaaW.PrintMore
attribute [local go_sem] max2_int min2_int max_two min_two max_three min_three max_four min_four   -- for this text's walks alone
set_option linter.unusedVariables false
set_option linter.unusedSimpArgs false
mutual
def spec_GoodTable.j0 : Nat → Bool → Int → List (List (S39)) → Option (Bool)
 | 0, _, _, _ => none
 | k + 1, x18, x313000, x313001 => if x18 = true then (some false) else (spec_GoodTable.l0 k x313001 (x313001.length : Int) 0 x313000 x313001)
def spec_GoodTable.l0 : Nat → List (List (S39)) → Int → Int → Int → List (List (S39)) → Option (Bool)
 | 0, _, _, _, _, _ => none
 | k + 1, x20, x21, x22, x313000, x313001 => if x22 < x21 then (if 0 ≤ x22 then (if x22 < (x20.length : Int) then (spec_GoodTable.l1 k (rd_L6 x20 x22) x20 x21 x22 (rd_L6 x20 x22) ((rd_L6 x20 x22).length : Int) 0 x313000 x313001) else (none)) else (none)) else (some true)
def spec_GoodTable.l1 : Nat → List (S39) → List (List (S39)) → Int → Int → List (S39) → Int → Int → Int → List (List (S39)) → Option (Bool)
 | 0, _, _, _, _, _, _, _, _, _ => none
 | k + 1, x4, x20, x21, x22, x26, x27, x28, x313000, x313001 => if x28 < x27 then (if 0 ≤ x28 then (if x28 < (x26.length : Int) then ((spec_l4Row.f k x313000 ((rd_T39 x26 x28).f0) ((rd_T39 x26 x28).f1) ((rd_T39 x26 x28).f2) ((rd_T39 x26 x28).f3.f0) ((rd_T39 x26 x28).f3.f1) ((rd_T39 x26 x28).f3.f2) ((rd_T39 x26 x28).f3.f3) ((rd_T39 x26 x28).f3.f4) ((rd_T39 x26 x28).f4.f0) ((rd_T39 x26 x28).f4.f1)).bind fun t317 => (if t317 = true then (spec_GoodTable.l1 k x4 x20 x21 x22 x26 x27 (wrap64 (x28 + 1)) x313000 x313001) else (some false))) else (none)) else (none)) else (if (x4.length : Int) > 6 then (some false) else (spec_GoodTable.l0 k x20 x21 (wrap64 (x22 + 1)) x313000 x313001))
end
def spec_GoodTable.f (k : Nat) (a0_0 : Int) (l0_1 : List (List (S39))) : Option (Bool) := (spec_IsGroup.f a0_0).bind fun t313 => (if t313 = true then (spec_GoodTable.j0 k ((l0_1.length : Int) != a0_0) a0_0 l0_1) else (spec_GoodTable.j0 k true a0_0 l0_1))
theorem spec_GoodTable.mono_l : ∀ k, (∀ y0 y1 y2, LeO (spec_GoodTable.j0 k y0 y1 y2) (spec_GoodTable.j0 (k + 1) y0 y1 y2)) ∧ (∀ y0 y1 y2 y3 y4, LeO (spec_GoodTable.l0 k y0 y1 y2 y3 y4) (spec_GoodTable.l0 (k + 1) y0 y1 y2 y3 y4)) ∧ (∀ y0 y1 y2 y3 y4 y5 y6 y7 y8, LeO (spec_GoodTable.l1 k y0 y1 y2 y3 y4 y5 y6 y7 y8) (spec_GoodTable.l1 (k + 1) y0 y1 y2 y3 y4 y5 y6 y7 y8))
 | 0 => ⟨fun _ _ _ r h => by simp [spec_GoodTable.j0] at h, fun _ _ _ _ _ r h => by simp [spec_GoodTable.l0] at h, fun _ _ _ _ _ _ _ _ _ r h => by simp [spec_GoodTable.l1] at h⟩
 | k + 1 => by
  obtain ⟨ih0, ih1, ih2⟩ := spec_GoodTable.mono_l k
  refine ⟨?_, ?_, ?_⟩
  ·intro y0 y1 y2
   unfold spec_GoodTable.j0
   repeat' first
   | (with_reducible exact ih0 _ _ _)
   | (with_reducible exact ih1 _ _ _ _ _)
   | (with_reducible exact ih2 _ _ _ _ _ _ _ _ _)
   | (with_reducible exact spec_l4Row.mono _ _ _ _ _ _ _ _ _ _ _ _)
   | (with_reducible exact LeO.refl _)
   | (with_reducible exact LeO.none _)
   | (with_reducible refine LeO.ite ?_ ?_)
   | (with_reducible refine LeO.bind ?_ (fun _ => ?_))
   | exact ih0 _ _ _
   | exact ih1 _ _ _ _ _
   | exact ih2 _ _ _ _ _ _ _ _ _
   | exact spec_l4Row.mono _ _ _ _ _ _ _ _ _ _ _ _
   | exact LeO.none _
   | refine LeO.ite ?_ ?_
   | refine LeO.bind ?_ (fun _ => ?_)
  ·intro y0 y1 y2 y3 y4
   unfold spec_GoodTable.l0
   repeat' first
   | (with_reducible exact ih0 _ _ _)
   | (with_reducible exact ih1 _ _ _ _ _)
   | (with_reducible exact ih2 _ _ _ _ _ _ _ _ _)
   | (with_reducible exact spec_l4Row.mono _ _ _ _ _ _ _ _ _ _ _ _)
   | (with_reducible exact LeO.refl _)
   | (with_reducible exact LeO.none _)
   | (with_reducible refine LeO.ite ?_ ?_)
   | (with_reducible refine LeO.bind ?_ (fun _ => ?_))
   | exact ih0 _ _ _
   | exact ih1 _ _ _ _ _
   | exact ih2 _ _ _ _ _ _ _ _ _
   | exact spec_l4Row.mono _ _ _ _ _ _ _ _ _ _ _ _
   | exact LeO.none _
   | refine LeO.ite ?_ ?_
   | refine LeO.bind ?_ (fun _ => ?_)
  ·intro y0 y1 y2 y3 y4 y5 y6 y7 y8
   unfold spec_GoodTable.l1
   repeat' first
   | (with_reducible exact ih0 _ _ _)
   | (with_reducible exact ih1 _ _ _ _ _)
   | (with_reducible exact ih2 _ _ _ _ _ _ _ _ _)
   | (with_reducible exact spec_l4Row.mono _ _ _ _ _ _ _ _ _ _ _ _)
   | (with_reducible exact LeO.refl _)
   | (with_reducible exact LeO.none _)
   | (with_reducible refine LeO.ite ?_ ?_)
   | (with_reducible refine LeO.bind ?_ (fun _ => ?_))
   | exact ih0 _ _ _
   | exact ih1 _ _ _ _ _
   | exact ih2 _ _ _ _ _ _ _ _ _
   | exact spec_l4Row.mono _ _ _ _ _ _ _ _ _ _ _ _
   | exact LeO.none _
   | refine LeO.ite ?_ ?_
   | refine LeO.bind ?_ (fun _ => ?_)
theorem spec_GoodTable.mono : ∀ a0 a1 k, LeO (spec_GoodTable.f k a0 a1) (spec_GoodTable.f (k + 1) a0 a1) := by
 intro a0 a1 k
 obtain ⟨ih0, ih1, ih2⟩ := spec_GoodTable.mono_l k
 unfold spec_GoodTable.f
 repeat' first
   | (with_reducible exact ih0 _ _ _)
   | (with_reducible exact ih1 _ _ _ _ _)
   | (with_reducible exact ih2 _ _ _ _ _ _ _ _ _)
   | (with_reducible exact spec_l4Row.mono _ _ _ _ _ _ _ _ _ _ _ _)
   | (with_reducible exact LeO.refl _)
   | (with_reducible exact LeO.none _)
   | (with_reducible refine LeO.ite ?_ ?_)
   | (with_reducible refine LeO.bind ?_ (fun _ => ?_))
   | exact ih0 _ _ _
   | exact ih1 _ _ _ _ _
   | exact ih2 _ _ _ _ _ _ _ _ _
   | exact spec_l4Row.mono _ _ _ _ _ _ _ _ _ _ _ _
   | exact LeO.none _
   | refine LeO.ite ?_ ?_
   | refine LeO.bind ?_ (fun _ => ?_)
set_option maxHeartbeats 8000000 in
set_option maxRecDepth 100000 in
theorem spec_GoodTable.calls (k : Nat) (a0_0 : Int) (A0_1 : Option Addr) (c0_1 : Nat) (l0_1 : List (List (S39))) (r : Bool) (w : World) (hr0_1 : Kd.C (Kd.slice 39 k39) w A0_1 l0_1.length l0_1) (hc0_1 : l0_1.length ≤ c0_1) (h : spec_GoodTable.f k a0_0 l0_1 = some r) :
  Calls Try.prog 32 #[.agg #[.int .i64 a0_0, .slice A0_1 l0_1.length c0_1]] w fun e w' => e = .returned (.bool r) ∧ Below w.heap.size w w' := by
 have hu26 := Try.underlying26
 have hu39 := Try.underlying39
 have HR0_1 := Am hr0_1
 have HC0_1 := Am hc0_1
 clear hr0_1 hc0_1
 have HB := Am (Below.refl w.heap.size w)
 have H : ((spec_IsGroup.f a0_0).bind fun t313 => (if t313 = true then (spec_GoodTable.j0 k ((l0_1.length : Int) != a0_0) a0_0 l0_1) else (spec_GoodTable.j0 k true a0_0 l0_1))) = some r := h
 clear h
 have HC2 := Am H
 clear H
 go_enter Try.func32, Try.ntmps32
 go_upto_region 1 with (first | ((refine Gd (N := 1) rfl ?_); (try (refine gate_guard (by rfl) ?_; dsimp only)); refine Be ?hg (N := 1) ?hd (cs := #[.int .i64 a0_0, .slice A0_1 l0_1.length c0_1]) (t := 26) ?hr ?_; (case hd | hg => rfl); (case hr => first | (go_simp; done) | (go_simp; rfl)); intro gb312 hg w3 hbox hb; have n0_ := Am (Bt (by repeat (first | exact HB.out | apply Ba | apply Bn | apply Bd)) hb); have n1_ := Am (hbox); have n2_ := Am ((by rw [hg]; exact (Bz (by repeat (first | exact HB.out | apply Ba | apply Bn | apply Bd))) : w.heap.size ≤ gb312)); have n3_ := Am ((by rw [hg]; exact (Bz (by repeat (first | exact HB.out | apply Ba | apply Bn | apply Bd))) : w.heap.size ≤ gb312)); clear HB; have HB := n0_; have BK312 := n1_; have GW312 := n2_; have GE312 := n3_; clear n0_ n1_ n2_ n3_; clear hb hbox hg))
 (try simp only [Act.put, Lt, Lz, Ls])
 go_cut [18] (fun v18 wc => ∃ (kq : Nat) (x18_1 : Bool), v18 = .bool x18_1 ∧ Ad (spec_GoodTable.j0 kq x18_1 a0_0 l0_1 = some r) ∧ Ad (kq ≤ k) ∧ Ad (wc.heap[gb312]? = some (.cells #[.int .i64 a0_0, (.slice A0_1 l0_1.length c0_1)] 26 (0, 0))) ∧ Ad (Below w.heap.size w wc))
 case first =>
  have H := HC2.out
  clear HC2
  replace H := Option.bind_eq_some_iff.mp H
  obtain ⟨t313, A40, H⟩ := H
  replace H : (if t313 = true then (spec_GoodTable.j0 k ((l0_1.length : Int) != a0_0) a0_0 l0_1) else (spec_GoodTable.j0 k true a0_0 l0_1)) = some r := H
  have A4 := Am A40
  clear A40
  by_cases c5 : t313 = true
  ·subst c5
   have H1 : (spec_GoodTable.j0 k ((l0_1.length : Int) != a0_0) a0_0 l0_1) = some r := by rw [if_pos rfl] at H; exact H
   clear H
   have H := H1
   clear H1
   have H' := Am H
   clear H
   have hcz6_0 : w3.cell? ⟨gb312, 0, none⟩ = some (.int .i64 a0_0) := (Kc BK312.out 0).trans rfl
   have hcz6_1 : w3.cell? ⟨gb312, 1, none⟩ = some (.slice A0_1 l0_1.length c0_1) := (Kc BK312.out 1).trans rfl
   have hfz6_0 := Kz BK312.out 0
   have hfz6_1 := Kz BK312.out 1
   go_wp2_with (first | ((refine Gc (f := 69) rfl ?_); refine goesL_ (some 9) rfl rfl Try.func69 (by kernel_rfl) rfl #[.int .i64 a0_0] rfl (by first | rfl | (simp only [List.map_toArray, List.map_cons, List.map_nil]; first | done | rfl)) ?_; (with_reducible refine (spec_IsGroup.calls a0_0 true _ A4.out).mono ?_); rintro e w' ⟨rfl, ⟨nd, rfl⟩⟩; refine ⟨_, rfl, ?_⟩))
   go_meet
   case rel => exact ⟨_, (((l0_1.length : Int) != a0_0)), (by first | rfl | (simp; done) | (simp [*]; done)), H', ⟨by first | omega | exact Nat.le_refl _⟩, ⟨by (with_reducible repeat (first | refine Kn ?_ _ | refine Ke ?_ | refine Ka ?_ _)); exact BK312.out⟩, ⟨by repeat (first | (with_reducible first | exact HB.out | apply Ba | apply Bn | apply Bd | refine Bs ?_ GE312.out) | exact HB.out)⟩⟩
  ·replace c5 := Bool.eq_false_iff.mpr c5
   subst c5
   have H1 : (spec_GoodTable.j0 k true a0_0 l0_1) = some r := by rw [if_neg (show ¬ (false = true) by decide)] at H; exact H
   clear H
   have H := H1
   clear H1
   have H' := Am H
   clear H
   have hcz7_0 : w3.cell? ⟨gb312, 0, none⟩ = some (.int .i64 a0_0) := (Kc BK312.out 0).trans rfl
   have hcz7_1 : w3.cell? ⟨gb312, 1, none⟩ = some (.slice A0_1 l0_1.length c0_1) := (Kc BK312.out 1).trans rfl
   have hfz7_0 := Kz BK312.out 0
   have hfz7_1 := Kz BK312.out 1
   go_wp2_with (first | ((refine Gc (f := 69) rfl ?_); refine goesL_ (some 9) rfl rfl Try.func69 (by kernel_rfl) rfl #[.int .i64 a0_0] rfl (by first | rfl | (simp only [List.map_toArray, List.map_cons, List.map_nil]; first | done | rfl)) ?_; (with_reducible refine (spec_IsGroup.calls a0_0 false _ A4.out).mono ?_); rintro e w' ⟨rfl, ⟨nd, rfl⟩⟩; refine ⟨_, rfl, ?_⟩))
   go_meet
   case rel => exact ⟨_, (true), (by first | rfl | (simp; done) | (simp [*]; done)), H', ⟨by first | omega | exact Nat.le_refl _⟩, ⟨by (with_reducible repeat (first | refine Kn ?_ _ | refine Ke ?_ | refine Ka ?_ _)); exact BK312.out⟩, ⟨by repeat (first | (with_reducible first | exact HB.out | apply Ba | apply Bn | apply Bd | refine Bs ?_ GE312.out) | exact HB.out)⟩⟩
 case rest =>
  clear HC2
  try clear p2
  try clear c3
  try clear c5
  try clear c6
  try clear hcz6_0
  try clear hcz6_1
  try clear hcz7_0
  try clear hcz7_1
  try clear hfz6_0
  try clear hfz6_1
  try clear hfz7_0
  try clear hfz7_1
  obtain ⟨kq, x18_1, rfl, HA, HJ1, BK312, HB⟩ := hcut
  cases kq with
  | zero => exact absurd HA.out (by simp [spec_GoodTable.j0])
  | succ kj1 =>
   have H := HA.out
   clear HA
   simp only [spec_GoodTable.j0] at H
   by_cases c8 : x18_1 = true
   ·subst c8
    have H1 : (some false) = some r := by rw [if_pos rfl] at H; exact H
    clear H
    have H := H1
    clear H1
    obtain rfl := Option.some.inj H
    go_wp2
    go_ret
    exact ⟨by first | rfl | (simp [*, errW_none, errW_some] <;> rfl), by repeat (first | (with_reducible first | exact HB.out | apply Ba | apply Bn | apply Bd | refine Bs ?_ GE312.out) | exact HB.out)⟩
   ·replace c8 := Bool.eq_false_iff.mpr c8
    subst c8
    have H1 : (spec_GoodTable.l0 kj1 l0_1 (l0_1.length : Int) 0 a0_0 l0_1) = some r := by rw [if_neg (show ¬ (false = true) by decide)] at H; exact H
    clear H
    have H := H1
    clear H1
    have H' := Am H
    clear H
    have hcz9_0 : wc.cell? ⟨gb312, 0, none⟩ = some (.int .i64 a0_0) := (Kc BK312.out 0).trans rfl
    have hcz9_1 : wc.cell? ⟨gb312, 1, none⟩ = some (.slice A0_1 l0_1.length c0_1) := (Kc BK312.out 1).trans rfl
    have hfz9_0 := Kz BK312.out 0
    have hfz9_1 := Kz BK312.out 1
    go_wp2
    go_loopg [22] kj1 (fun kq v22 w' => ∃ (x22_2 : Int), v22 = .int .i64 x22_2 ∧ Ad (spec_GoodTable.l0 kq l0_1 (l0_1.length : Int) x22_2 a0_0 l0_1 = some r) ∧ Ad (kq ≤ kj1) ∧ Ad (w'.heap[gb312]? = some (.cells #[.int .i64 a0_0, (.slice A0_1 l0_1.length c0_1)] 26 (0, 0))) ∧ Ad (Below w.heap.size w w'))
    case atStart => exact ⟨(0), (by first | rfl | (simp; done) | (simp [*]; done)), H', ⟨Nat.le_refl _⟩, ⟨by (with_reducible repeat (first | refine Kn ?_ _ | refine Ke ?_ | refine Ka ?_ _)); exact BK312.out⟩, ⟨by repeat (first | (with_reducible first | exact HB.out | apply Ba | apply Bn | apply Bd | refine Bs ?_ GE312.out) | exact HB.out)⟩⟩
    case round =>
     clear H'
     try clear p2
     try clear c3
     try clear c5
     try clear c6
     try clear c8
     try clear hcz6_0
     try clear hcz6_1
     try clear hcz7_0
     try clear hcz7_1
     try clear hcz9_0
     try clear hcz9_1
     try clear hfz6_0
     try clear hfz6_1
     try clear hfz7_0
     try clear hfz7_1
     try clear hfz9_0
     try clear hfz9_1
     try clear p2
     obtain ⟨x22_2, rfl, HA, HK2, BK312, HB⟩ := hrel
     cases gk with
     | zero => exact absurd HA.out (by simp [spec_GoodTable.l0])
     | succ k2 =>
      have H := HA.out
      clear HA
      simp only [spec_GoodTable.l0] at H
      by_cases c10 : x22_2 < (l0_1.length : Int)
      ·rw [if_pos c10] at H
       have c10b0 : decide (x22_2 < (l0_1.length : Int)) = true := decide_eq_true c10
       clear c10
       by_cases c11 : 0 ≤ x22_2
       ·rw [if_pos c11] at H
        have c11b0 : decide (0 ≤ x22_2) = true := decide_eq_true c11
        clear c11
        by_cases c12 : x22_2 < (l0_1.length : Int)
        ·rw [if_pos c12] at H
         have c12b0 : decide (x22_2 < (l0_1.length : Int)) = true := decide_eq_true c12
         clear c12
         have H' := Am H
         clear H
         have p314 : 0 ≤ (x22_2 : Int) := of_decide_eq_true (by assumption)
         have q314 : x22_2 < (l0_1.length : Int) := of_decide_eq_true (by assumption)
         obtain ⟨ad314, A314_0, c314_0, e314, hx314_0, hl314_0, hi314_0⟩ := at_L6 HR0_1.out x22_2 p314 q314
         cases e314
         replace hx314_0 := (HB.out.cell (bl_ w _ hx314_0)).trans hx314_0
         have HR314_0 := Am hi314_0
         have HC314_0 := Am hl314_0
         clear hi314_0 hl314_0
         replace p314 := eq_true p314
         replace q314 := eq_true q314
         go_wp2
         go_loopg [28] k2 (fun kq v28 w' => ∃ (x28_3 : Int), v28 = .int .i64 x28_3 ∧ Ad (spec_GoodTable.l1 kq (rd_L6 l0_1 x22_2) l0_1 (l0_1.length : Int) x22_2 (rd_L6 l0_1 x22_2) ((rd_L6 l0_1 x22_2).length : Int) x28_3 a0_0 l0_1 = some r) ∧ Ad (kq ≤ k2) ∧ Ad (w'.heap[gb312]? = some (.cells #[.int .i64 a0_0, (.slice (some ad314) l0_1.length c0_1)] 26 (0, 0))) ∧ Ad (Below w.heap.size w w'))
         case atStart => exact ⟨(0), (by first | rfl | (simp; done) | (simp [*]; done)), H', ⟨Nat.le_refl _⟩, ⟨by (with_reducible repeat (first | refine Kn ?_ _ | refine Ke ?_ | refine Ka ?_ _)); exact BK312.out⟩, ⟨by repeat (first | (with_reducible first | exact HB.out | apply Ba | apply Bn | apply Bd | refine Bs ?_ GE312.out) | exact HB.out)⟩⟩
         case round =>
          clear H'
          try clear c1
          try clear p2
          try clear c3
          try clear p3
          try clear q3
          try clear hx3
          try clear c5
          try clear c6
          try clear c8
          try clear c10
          try clear c10b0
          try clear c11
          try clear c11b0
          try clear c12
          try clear c12b0
          try clear hcz6_0
          try clear hcz6_1
          try clear hcz7_0
          try clear hcz7_1
          try clear hcz9_0
          try clear hcz9_1
          try clear hfz6_0
          try clear hfz6_1
          try clear hfz7_0
          try clear hfz7_1
          try clear hfz9_0
          try clear hfz9_1
          try clear hx314_0
          try clear p2
          try clear p314
          try clear q314
          obtain ⟨x28_3, rfl, HA, HK3, BK312, HB⟩ := hrel
          cases gk with
          | zero => exact absurd HA.out (by simp [spec_GoodTable.l1])
          | succ k3 =>
           have H := HA.out
           clear HA
           simp only [spec_GoodTable.l1] at H
           by_cases c13 : x28_3 < ((rd_L6 l0_1 x22_2).length : Int)
           ·rw [if_pos c13] at H
            have c13b0 : decide (x28_3 < ((rd_L6 l0_1 x22_2).length : Int)) = true := decide_eq_true c13
            clear c13
            by_cases c14 : 0 ≤ x28_3
            ·rw [if_pos c14] at H
             have c14b0 : decide (0 ≤ x28_3) = true := decide_eq_true c14
             clear c14
             by_cases c15 : x28_3 < ((rd_L6 l0_1 x22_2).length : Int)
             ·rw [if_pos c15] at H
              have c15b0 : decide (x28_3 < ((rd_L6 l0_1 x22_2).length : Int)) = true := decide_eq_true c15
              clear c15
              replace H := Option.bind_eq_some_iff.mp H
              obtain ⟨t317, A160, H⟩ := H
              replace H : (if t317 = true then (spec_GoodTable.l1 k3 (rd_L6 l0_1 x22_2) l0_1 (l0_1.length : Int) x22_2 (rd_L6 l0_1 x22_2) ((rd_L6 l0_1 x22_2).length : Int) (wrap64 (x28_3 + 1)) a0_0 l0_1) else (some false)) = some r := H
              have A16 := Am A160
              clear A160
              by_cases c17 : t317 = true
              ·subst c17
               have H1 : (spec_GoodTable.l1 k3 (rd_L6 l0_1 x22_2) l0_1 (l0_1.length : Int) x22_2 (rd_L6 l0_1 x22_2) ((rd_L6 l0_1 x22_2).length : Int) (wrap64 (x28_3 + 1)) a0_0 l0_1) = some r := by rw [if_pos rfl] at H; exact H
               clear H
               have H := H1
               clear H1
               have H' := Am H
               clear H
               have p315 : 0 ≤ (x28_3 : Int) := of_decide_eq_true (by assumption)
               have q315 : x28_3 < ((rd_L6 l0_1 x22_2).length : Int) := of_decide_eq_true (by assumption)
               obtain ⟨ad315, A315_9, c315_9, e315, hx315_0, hx315_1, hx315_2, hx315_3, hx315_4, hx315_5, hx315_6, hx315_7, hx315_8, hx315_9, hl315_9, hi315_9⟩ := at_T39 HR314_0.out x28_3 p315 q315
               cases e315
               replace hx315_0 := (HB.out.cell (bl_ w _ hx315_0)).trans hx315_0
               replace hx315_1 := (HB.out.cell (bl_ w _ hx315_1)).trans hx315_1
               replace hx315_2 := (HB.out.cell (bl_ w _ hx315_2)).trans hx315_2
               replace hx315_3 := (HB.out.cell (bl_ w _ hx315_3)).trans hx315_3
               replace hx315_4 := (HB.out.cell (bl_ w _ hx315_4)).trans hx315_4
               replace hx315_5 := (HB.out.cell (bl_ w _ hx315_5)).trans hx315_5
               replace hx315_6 := (HB.out.cell (bl_ w _ hx315_6)).trans hx315_6
               replace hx315_7 := (HB.out.cell (bl_ w _ hx315_7)).trans hx315_7
               replace hx315_8 := (HB.out.cell (bl_ w _ hx315_8)).trans hx315_8
               replace hx315_9 := (HB.out.cell (bl_ w _ hx315_9)).trans hx315_9
               have HR315_9 := Am hi315_9
               have HC315_9 := Am hl315_9
               clear hi315_9 hl315_9
               replace p315 := eq_true p315
               replace q315 := eq_true q315
               go_wp2_with (first | ((refine Gd (N := 6) rfl ?_); (try (refine gate_guard (by rfl) ?_; dsimp only)); refine Be ?hg (N := 6) ?hd (cs := #[.int .i64 0, .int .i64 0, .int .i64 0, .int .i64 0, .int .i64 0, .int .i64 0, .int .i64 0, .int .i64 0, .int .i64 0, .slice none 0 0]) (t := 39) ?hr ?_; (case hd | hg => rfl); (case hr => first | (go_simp; done) | (go_simp; rfl)); intro gb316 hg w18 hbox hb; have n0_ := Am (Kb (g := gb312) (o := .cells #[.int .i64 a0_0, .slice (some ad314) l0_1.length c0_1] 26 (0, 0)) (by (with_reducible repeat (first | refine Kn ?_ _ | refine Ke ?_ | refine Ka ?_ _)); exact BK312.out) hb); have n1_ := Am (Bt (by repeat (first | (with_reducible first | exact HB.out | apply Ba | apply Bn | apply Bd | refine Bs ?_ GE312.out) | exact HB.out)) hb); have n2_ := Am (hbox); have n3_ := Am ((by rw [hg]; exact (Bz (by repeat (first | (with_reducible first | exact HB.out | apply Ba | apply Bn | apply Bd | refine Bs ?_ GE312.out) | exact HB.out))) : w.heap.size ≤ gb316)); have n4_ := Am ((by rw [hg]; exact (Bz (by repeat (first | (with_reducible first | exact HB.out | apply Ba | apply Bn | apply Bd | refine Bs ?_ GE312.out) | exact HB.out))) : w.heap.size ≤ gb316)); have n5_ := Am ((by rw [hg]; exact Nat.ne_of_lt (blk_lt (g := gb312) (o := .cells #[.int .i64 a0_0, .slice (some ad314) l0_1.length c0_1] 26 (0, 0)) (by (with_reducible repeat (first | refine Kn ?_ _ | refine Ke ?_ | refine Ka ?_ _)); exact BK312.out)) : gb312 ≠ gb316)); have n6_ := Am ((by rw [hg]; exact Nat.ne_of_gt (blk_lt (g := gb312) (o := .cells #[.int .i64 a0_0, .slice (some ad314) l0_1.length c0_1] 26 (0, 0)) (by (with_reducible repeat (first | refine Kn ?_ _ | refine Ke ?_ | refine Ka ?_ _)); exact BK312.out)) : gb316 ≠ gb312)); clear BK312; clear HB; have BK312 := n0_; have HB := n1_; have BK316 := n2_; have GW316 := n3_; have GE316 := n4_; have NB312_316 := n5_; have NB316_312 := n6_; clear n0_ n1_ n2_ n3_ n4_ n5_ n6_; clear hb hbox hg; have hnb19 := NB316_312.out; have hnc19 := NB312_316.out; have hcz20_0 : w18.cell? ⟨gb316, 0, none⟩ = some (.int .i64 0) := (Kc BK316.out 0).trans rfl; have hcz20_1 : w18.cell? ⟨gb316, 1, none⟩ = some (.int .i64 0) := (Kc BK316.out 1).trans rfl; have hcz20_2 : w18.cell? ⟨gb316, 2, none⟩ = some (.int .i64 0) := (Kc BK316.out 2).trans rfl; have hcz20_3 : w18.cell? ⟨gb316, 3, none⟩ = some (.int .i64 0) := (Kc BK316.out 3).trans rfl; have hcz20_4 : w18.cell? ⟨gb316, 4, none⟩ = some (.int .i64 0) := (Kc BK316.out 4).trans rfl; have hcz20_5 : w18.cell? ⟨gb316, 5, none⟩ = some (.int .i64 0) := (Kc BK316.out 5).trans rfl; have hcz20_6 : w18.cell? ⟨gb316, 6, none⟩ = some (.int .i64 0) := (Kc BK316.out 6).trans rfl; have hcz20_7 : w18.cell? ⟨gb316, 7, none⟩ = some (.int .i64 0) := (Kc BK316.out 7).trans rfl; have hcz20_8 : w18.cell? ⟨gb316, 8, none⟩ = some (.int .i64 0) := (Kc BK316.out 8).trans rfl; have hcz20_9 : w18.cell? ⟨gb316, 9, none⟩ = some (.slice none 0 0) := (Kc BK316.out 9).trans rfl; have hfz20_0 := Kz BK316.out 0; have hfz20_1 := Kz BK316.out 1; have hfz20_2 := Kz BK316.out 2; have hfz20_3 := Kz BK316.out 3; have hfz20_4 := Kz BK316.out 4; have hfz20_5 := Kz BK316.out 5; have hfz20_6 := Kz BK316.out 6; have hfz20_7 := Kz BK316.out 7; have hfz20_8 := Kz BK316.out 8; have hfz20_9 := Kz BK316.out 9; have hcz21_0 : w18.cell? ⟨gb312, 0, none⟩ = some (.int .i64 a0_0) := (Kc BK312.out 0).trans rfl; have hcz21_1 : w18.cell? ⟨gb312, 1, none⟩ = some (.slice (some ad314) l0_1.length c0_1) := (Kc BK312.out 1).trans rfl; have hfz21_0 := Kz BK312.out 0; have hfz21_1 := Kz BK312.out 1) | ((refine Gc (f := 70) rfl ?_); refine goesL_ (some 35) rfl rfl Try.func70 (by kernel_rfl) rfl #[.int .i64 a0_0, .agg #[.int .i64 ((rd_T39 (rd_L6 l0_1 x22_2) x28_3).f0), .int .i64 ((rd_T39 (rd_L6 l0_1 x22_2) x28_3).f1), .int .i64 ((rd_T39 (rd_L6 l0_1 x22_2) x28_3).f2), .int .i64 ((rd_T39 (rd_L6 l0_1 x22_2) x28_3).f3.f0), .int .i64 ((rd_T39 (rd_L6 l0_1 x22_2) x28_3).f3.f1), .int .i64 ((rd_T39 (rd_L6 l0_1 x22_2) x28_3).f3.f2), .int .i64 ((rd_T39 (rd_L6 l0_1 x22_2) x28_3).f3.f3), .int .i64 ((rd_T39 (rd_L6 l0_1 x22_2) x28_3).f3.f4), .int .i64 ((rd_T39 (rd_L6 l0_1 x22_2) x28_3).f4.f0), .slice A315_9 ((rd_T39 (rd_L6 l0_1 x22_2) x28_3).f4.f1).length c315_9]] rfl (by first | rfl | (simp only [List.map_toArray, List.map_cons, List.map_nil]; first | done | rfl)) ?_; (with_reducible refine (spec_l4Row.calls k3 a0_0 ((rd_T39 (rd_L6 l0_1 x22_2) x28_3).f0) ((rd_T39 (rd_L6 l0_1 x22_2) x28_3).f1) ((rd_T39 (rd_L6 l0_1 x22_2) x28_3).f2) ((rd_T39 (rd_L6 l0_1 x22_2) x28_3).f3.f0) ((rd_T39 (rd_L6 l0_1 x22_2) x28_3).f3.f1) ((rd_T39 (rd_L6 l0_1 x22_2) x28_3).f3.f2) ((rd_T39 (rd_L6 l0_1 x22_2) x28_3).f3.f3) ((rd_T39 (rd_L6 l0_1 x22_2) x28_3).f3.f4) ((rd_T39 (rd_L6 l0_1 x22_2) x28_3).f4.f0) _ _ ((rd_T39 (rd_L6 l0_1 x22_2) x28_3).f4.f1) true _ ?side1 ?side2 A16.out).mono ?_); (case side1 => exact Kd.C_below HR315_9.out (by repeat (first | (with_reducible first | exact HB.out | apply Ba | apply Bn | apply Bd | refine Bs ?_ GE312.out | refine Bs ?_ GE316.out) | exact HB.out))); (case side2 => exact HC315_9.out); rintro e w22 ⟨rfl, hb⟩; refine ⟨_, rfl, ?_⟩; have n0_ := Am (Kb (g := gb312) (o := .cells #[.int .i64 a0_0, .slice (some ad314) l0_1.length c0_1] 26 (0, 0)) (by (with_reducible repeat (first | refine Kn ?_ _ | refine Ke ?_ | refine Ka ?_ _)); refine Kf ?_ NB312_316.out _; (with_reducible repeat (first | refine Kn ?_ _ | refine Ke ?_ | refine Ka ?_ _)); refine Kf ?_ NB312_316.out _; (with_reducible repeat (first | refine Kn ?_ _ | refine Ke ?_ | refine Ka ?_ _)); refine Kf ?_ NB312_316.out _; (with_reducible repeat (first | refine Kn ?_ _ | refine Ke ?_ | refine Ka ?_ _)); refine Kf ?_ NB312_316.out _; (with_reducible repeat (first | refine Kn ?_ _ | refine Ke ?_ | refine Ka ?_ _)); refine Kf ?_ NB312_316.out _; (with_reducible repeat (first | refine Kn ?_ _ | refine Ke ?_ | refine Ka ?_ _)); refine Kf ?_ NB312_316.out _; (with_reducible repeat (first | refine Kn ?_ _ | refine Ke ?_ | refine Ka ?_ _)); refine Kf ?_ NB312_316.out _; (with_reducible repeat (first | refine Kn ?_ _ | refine Ke ?_ | refine Ka ?_ _)); refine Kf ?_ NB312_316.out _; (with_reducible repeat (first | refine Kn ?_ _ | refine Ke ?_ | refine Ka ?_ _)); refine Kf ?_ NB312_316.out _; (with_reducible repeat (first | refine Kn ?_ _ | refine Ke ?_ | refine Ka ?_ _)); refine Kf ?_ NB312_316.out _; (with_reducible repeat (first | refine Kn ?_ _ | refine Ke ?_ | refine Ka ?_ _)); exact BK312.out) hb); have n1_ := Am (Kb (g := gb316) (o := .cells #[.int .i64 ((rd_T39 (rd_L6 l0_1 x22_2) x28_3).f0), .int .i64 ((rd_T39 (rd_L6 l0_1 x22_2) x28_3).f1), .int .i64 ((rd_T39 (rd_L6 l0_1 x22_2) x28_3).f2), .int .i64 ((rd_T39 (rd_L6 l0_1 x22_2) x28_3).f3.f0), .int .i64 ((rd_T39 (rd_L6 l0_1 x22_2) x28_3).f3.f1), .int .i64 ((rd_T39 (rd_L6 l0_1 x22_2) x28_3).f3.f2), .int .i64 ((rd_T39 (rd_L6 l0_1 x22_2) x28_3).f3.f3), .int .i64 ((rd_T39 (rd_L6 l0_1 x22_2) x28_3).f3.f4), .int .i64 ((rd_T39 (rd_L6 l0_1 x22_2) x28_3).f4.f0), .slice A315_9 ((rd_T39 (rd_L6 l0_1 x22_2) x28_3).f4.f1).length c315_9] 39 (0, 0)) (by (with_reducible repeat (first | refine Kn ?_ _ | refine Ke ?_ | refine Ka ?_ _)); refine blk_put (cs := #[.int .i64 ((rd_T39 (rd_L6 l0_1 x22_2) x28_3).f0), .int .i64 ((rd_T39 (rd_L6 l0_1 x22_2) x28_3).f1), .int .i64 ((rd_T39 (rd_L6 l0_1 x22_2) x28_3).f2), .int .i64 ((rd_T39 (rd_L6 l0_1 x22_2) x28_3).f3.f0), .int .i64 ((rd_T39 (rd_L6 l0_1 x22_2) x28_3).f3.f1), .int .i64 ((rd_T39 (rd_L6 l0_1 x22_2) x28_3).f3.f2), .int .i64 ((rd_T39 (rd_L6 l0_1 x22_2) x28_3).f3.f3), .int .i64 ((rd_T39 (rd_L6 l0_1 x22_2) x28_3).f3.f4), .int .i64 ((rd_T39 (rd_L6 l0_1 x22_2) x28_3).f4.f0), .slice none 0 0]) ?_ 9 _ rfl; (with_reducible repeat (first | refine Kn ?_ _ | refine Ke ?_ | refine Ka ?_ _)); refine blk_put (cs := #[.int .i64 ((rd_T39 (rd_L6 l0_1 x22_2) x28_3).f0), .int .i64 ((rd_T39 (rd_L6 l0_1 x22_2) x28_3).f1), .int .i64 ((rd_T39 (rd_L6 l0_1 x22_2) x28_3).f2), .int .i64 ((rd_T39 (rd_L6 l0_1 x22_2) x28_3).f3.f0), .int .i64 ((rd_T39 (rd_L6 l0_1 x22_2) x28_3).f3.f1), .int .i64 ((rd_T39 (rd_L6 l0_1 x22_2) x28_3).f3.f2), .int .i64 ((rd_T39 (rd_L6 l0_1 x22_2) x28_3).f3.f3), .int .i64 ((rd_T39 (rd_L6 l0_1 x22_2) x28_3).f3.f4), .int .i64 0, .slice none 0 0]) ?_ 8 _ rfl; (with_reducible repeat (first | refine Kn ?_ _ | refine Ke ?_ | refine Ka ?_ _)); refine blk_put (cs := #[.int .i64 ((rd_T39 (rd_L6 l0_1 x22_2) x28_3).f0), .int .i64 ((rd_T39 (rd_L6 l0_1 x22_2) x28_3).f1), .int .i64 ((rd_T39 (rd_L6 l0_1 x22_2) x28_3).f2), .int .i64 ((rd_T39 (rd_L6 l0_1 x22_2) x28_3).f3.f0), .int .i64 ((rd_T39 (rd_L6 l0_1 x22_2) x28_3).f3.f1), .int .i64 ((rd_T39 (rd_L6 l0_1 x22_2) x28_3).f3.f2), .int .i64 ((rd_T39 (rd_L6 l0_1 x22_2) x28_3).f3.f3), .int .i64 0, .int .i64 0, .slice none 0 0]) ?_ 7 _ rfl; (with_reducible repeat (first | refine Kn ?_ _ | refine Ke ?_ | refine Ka ?_ _)); refine blk_put (cs := #[.int .i64 ((rd_T39 (rd_L6 l0_1 x22_2) x28_3).f0), .int .i64 ((rd_T39 (rd_L6 l0_1 x22_2) x28_3).f1), .int .i64 ((rd_T39 (rd_L6 l0_1 x22_2) x28_3).f2), .int .i64 ((rd_T39 (rd_L6 l0_1 x22_2) x28_3).f3.f0), .int .i64 ((rd_T39 (rd_L6 l0_1 x22_2) x28_3).f3.f1), .int .i64 ((rd_T39 (rd_L6 l0_1 x22_2) x28_3).f3.f2), .int .i64 0, .int .i64 0, .int .i64 0, .slice none 0 0]) ?_ 6 _ rfl; (with_reducible repeat (first | refine Kn ?_ _ | refine Ke ?_ | refine Ka ?_ _)); refine blk_put (cs := #[.int .i64 ((rd_T39 (rd_L6 l0_1 x22_2) x28_3).f0), .int .i64 ((rd_T39 (rd_L6 l0_1 x22_2) x28_3).f1), .int .i64 ((rd_T39 (rd_L6 l0_1 x22_2) x28_3).f2), .int .i64 ((rd_T39 (rd_L6 l0_1 x22_2) x28_3).f3.f0), .int .i64 ((rd_T39 (rd_L6 l0_1 x22_2) x28_3).f3.f1), .int .i64 0, .int .i64 0, .int .i64 0, .int .i64 0, .slice none 0 0]) ?_ 5 _ rfl; (with_reducible repeat (first | refine Kn ?_ _ | refine Ke ?_ | refine Ka ?_ _)); refine blk_put (cs := #[.int .i64 ((rd_T39 (rd_L6 l0_1 x22_2) x28_3).f0), .int .i64 ((rd_T39 (rd_L6 l0_1 x22_2) x28_3).f1), .int .i64 ((rd_T39 (rd_L6 l0_1 x22_2) x28_3).f2), .int .i64 ((rd_T39 (rd_L6 l0_1 x22_2) x28_3).f3.f0), .int .i64 0, .int .i64 0, .int .i64 0, .int .i64 0, .int .i64 0, .slice none 0 0]) ?_ 4 _ rfl; (with_reducible repeat (first | refine Kn ?_ _ | refine Ke ?_ | refine Ka ?_ _)); refine blk_put (cs := #[.int .i64 ((rd_T39 (rd_L6 l0_1 x22_2) x28_3).f0), .int .i64 ((rd_T39 (rd_L6 l0_1 x22_2) x28_3).f1), .int .i64 ((rd_T39 (rd_L6 l0_1 x22_2) x28_3).f2), .int .i64 0, .int .i64 0, .int .i64 0, .int .i64 0, .int .i64 0, .int .i64 0, .slice none 0 0]) ?_ 3 _ rfl; (with_reducible repeat (first | refine Kn ?_ _ | refine Ke ?_ | refine Ka ?_ _)); refine blk_put (cs := #[.int .i64 ((rd_T39 (rd_L6 l0_1 x22_2) x28_3).f0), .int .i64 ((rd_T39 (rd_L6 l0_1 x22_2) x28_3).f1), .int .i64 0, .int .i64 0, .int .i64 0, .int .i64 0, .int .i64 0, .int .i64 0, .int .i64 0, .slice none 0 0]) ?_ 2 _ rfl; (with_reducible repeat (first | refine Kn ?_ _ | refine Ke ?_ | refine Ka ?_ _)); refine blk_put (cs := #[.int .i64 ((rd_T39 (rd_L6 l0_1 x22_2) x28_3).f0), .int .i64 0, .int .i64 0, .int .i64 0, .int .i64 0, .int .i64 0, .int .i64 0, .int .i64 0, .int .i64 0, .slice none 0 0]) ?_ 1 _ rfl; (with_reducible repeat (first | refine Kn ?_ _ | refine Ke ?_ | refine Ka ?_ _)); refine blk_put (cs := #[.int .i64 0, .int .i64 0, .int .i64 0, .int .i64 0, .int .i64 0, .int .i64 0, .int .i64 0, .int .i64 0, .int .i64 0, .slice none 0 0]) ?_ 0 _ rfl; (with_reducible repeat (first | refine Kn ?_ _ | refine Ke ?_ | refine Ka ?_ _)); exact BK316.out) hb); have n2_ := Am (Bt (by repeat (first | (with_reducible first | exact HB.out | apply Ba | apply Bn | apply Bd | refine Bs ?_ GE312.out | refine Bs ?_ GE316.out) | exact HB.out)) hb); clear BK312; clear BK316; clear HB; have BK312 := n0_; have BK316 := n1_; have HB := n2_; clear n0_ n1_ n2_; (try clear hb); (try clear hb2); (try clear hk); (try clear hi)))
               go_roundg k3
               case measure => have := HJ1.out; have := HK2.out; have := HK3.out; omega
               case rel => exact ⟨(wrap64 (x28_3 + 1)), (by first | rfl | (simp; done) | (simp [*]; done)), H', ⟨by have := HJ1.out; have := HK2.out; have := HK3.out; omega⟩, ⟨by (with_reducible repeat (first | refine Kn ?_ _ | refine Ke ?_ | refine Ka ?_ _)); exact BK312.out⟩, ⟨by repeat (first | (with_reducible first | exact HB.out | apply Ba | apply Bn | apply Bd | refine Bs ?_ GE312.out | refine Bs ?_ GE316.out) | exact HB.out)⟩⟩
              ·replace c17 := Bool.eq_false_iff.mpr c17
               subst c17
               have H1 : (some false) = some r := by rw [if_neg (show ¬ (false = true) by decide)] at H; exact H
               clear H
               have H := H1
               clear H1
               obtain rfl := Option.some.inj H
               have p315 : 0 ≤ (x28_3 : Int) := of_decide_eq_true (by assumption)
               have q315 : x28_3 < ((rd_L6 l0_1 x22_2).length : Int) := of_decide_eq_true (by assumption)
               obtain ⟨ad315, A315_9, c315_9, e315, hx315_0, hx315_1, hx315_2, hx315_3, hx315_4, hx315_5, hx315_6, hx315_7, hx315_8, hx315_9, hl315_9, hi315_9⟩ := at_T39 HR314_0.out x28_3 p315 q315
               cases e315
               replace hx315_0 := (HB.out.cell (bl_ w _ hx315_0)).trans hx315_0
               replace hx315_1 := (HB.out.cell (bl_ w _ hx315_1)).trans hx315_1
               replace hx315_2 := (HB.out.cell (bl_ w _ hx315_2)).trans hx315_2
               replace hx315_3 := (HB.out.cell (bl_ w _ hx315_3)).trans hx315_3
               replace hx315_4 := (HB.out.cell (bl_ w _ hx315_4)).trans hx315_4
               replace hx315_5 := (HB.out.cell (bl_ w _ hx315_5)).trans hx315_5
               replace hx315_6 := (HB.out.cell (bl_ w _ hx315_6)).trans hx315_6
               replace hx315_7 := (HB.out.cell (bl_ w _ hx315_7)).trans hx315_7
               replace hx315_8 := (HB.out.cell (bl_ w _ hx315_8)).trans hx315_8
               replace hx315_9 := (HB.out.cell (bl_ w _ hx315_9)).trans hx315_9
               have HR315_9 := Am hi315_9
               have HC315_9 := Am hl315_9
               clear hi315_9 hl315_9
               replace p315 := eq_true p315
               replace q315 := eq_true q315
               go_wp2_with (first | ((refine Gd (N := 6) rfl ?_); (try (refine gate_guard (by rfl) ?_; dsimp only)); refine Be ?hg (N := 6) ?hd (cs := #[.int .i64 0, .int .i64 0, .int .i64 0, .int .i64 0, .int .i64 0, .int .i64 0, .int .i64 0, .int .i64 0, .int .i64 0, .slice none 0 0]) (t := 39) ?hr ?_; (case hd | hg => rfl); (case hr => first | (go_simp; done) | (go_simp; rfl)); intro gb316 hg w23 hbox hb; have n0_ := Am (Kb (g := gb312) (o := .cells #[.int .i64 a0_0, .slice (some ad314) l0_1.length c0_1] 26 (0, 0)) (by (with_reducible repeat (first | refine Kn ?_ _ | refine Ke ?_ | refine Ka ?_ _)); exact BK312.out) hb); have n1_ := Am (Bt (by repeat (first | (with_reducible first | exact HB.out | apply Ba | apply Bn | apply Bd | refine Bs ?_ GE312.out) | exact HB.out)) hb); have n2_ := Am (hbox); have n3_ := Am ((by rw [hg]; exact (Bz (by repeat (first | (with_reducible first | exact HB.out | apply Ba | apply Bn | apply Bd | refine Bs ?_ GE312.out) | exact HB.out))) : w.heap.size ≤ gb316)); have n4_ := Am ((by rw [hg]; exact (Bz (by repeat (first | (with_reducible first | exact HB.out | apply Ba | apply Bn | apply Bd | refine Bs ?_ GE312.out) | exact HB.out))) : w.heap.size ≤ gb316)); have n5_ := Am ((by rw [hg]; exact Nat.ne_of_lt (blk_lt (g := gb312) (o := .cells #[.int .i64 a0_0, .slice (some ad314) l0_1.length c0_1] 26 (0, 0)) (by (with_reducible repeat (first | refine Kn ?_ _ | refine Ke ?_ | refine Ka ?_ _)); exact BK312.out)) : gb312 ≠ gb316)); have n6_ := Am ((by rw [hg]; exact Nat.ne_of_gt (blk_lt (g := gb312) (o := .cells #[.int .i64 a0_0, .slice (some ad314) l0_1.length c0_1] 26 (0, 0)) (by (with_reducible repeat (first | refine Kn ?_ _ | refine Ke ?_ | refine Ka ?_ _)); exact BK312.out)) : gb316 ≠ gb312)); clear BK312; clear HB; have BK312 := n0_; have HB := n1_; have BK316 := n2_; have GW316 := n3_; have GE316 := n4_; have NB312_316 := n5_; have NB316_312 := n6_; clear n0_ n1_ n2_ n3_ n4_ n5_ n6_; clear hb hbox hg; have hnb24 := NB316_312.out; have hnc24 := NB312_316.out; have hcz25_0 : w23.cell? ⟨gb316, 0, none⟩ = some (.int .i64 0) := (Kc BK316.out 0).trans rfl; have hcz25_1 : w23.cell? ⟨gb316, 1, none⟩ = some (.int .i64 0) := (Kc BK316.out 1).trans rfl; have hcz25_2 : w23.cell? ⟨gb316, 2, none⟩ = some (.int .i64 0) := (Kc BK316.out 2).trans rfl; have hcz25_3 : w23.cell? ⟨gb316, 3, none⟩ = some (.int .i64 0) := (Kc BK316.out 3).trans rfl; have hcz25_4 : w23.cell? ⟨gb316, 4, none⟩ = some (.int .i64 0) := (Kc BK316.out 4).trans rfl; have hcz25_5 : w23.cell? ⟨gb316, 5, none⟩ = some (.int .i64 0) := (Kc BK316.out 5).trans rfl; have hcz25_6 : w23.cell? ⟨gb316, 6, none⟩ = some (.int .i64 0) := (Kc BK316.out 6).trans rfl; have hcz25_7 : w23.cell? ⟨gb316, 7, none⟩ = some (.int .i64 0) := (Kc BK316.out 7).trans rfl; have hcz25_8 : w23.cell? ⟨gb316, 8, none⟩ = some (.int .i64 0) := (Kc BK316.out 8).trans rfl; have hcz25_9 : w23.cell? ⟨gb316, 9, none⟩ = some (.slice none 0 0) := (Kc BK316.out 9).trans rfl; have hfz25_0 := Kz BK316.out 0; have hfz25_1 := Kz BK316.out 1; have hfz25_2 := Kz BK316.out 2; have hfz25_3 := Kz BK316.out 3; have hfz25_4 := Kz BK316.out 4; have hfz25_5 := Kz BK316.out 5; have hfz25_6 := Kz BK316.out 6; have hfz25_7 := Kz BK316.out 7; have hfz25_8 := Kz BK316.out 8; have hfz25_9 := Kz BK316.out 9; have hcz26_0 : w23.cell? ⟨gb312, 0, none⟩ = some (.int .i64 a0_0) := (Kc BK312.out 0).trans rfl; have hcz26_1 : w23.cell? ⟨gb312, 1, none⟩ = some (.slice (some ad314) l0_1.length c0_1) := (Kc BK312.out 1).trans rfl; have hfz26_0 := Kz BK312.out 0; have hfz26_1 := Kz BK312.out 1) | ((refine Gc (f := 70) rfl ?_); refine goesL_ (some 35) rfl rfl Try.func70 (by kernel_rfl) rfl #[.int .i64 a0_0, .agg #[.int .i64 ((rd_T39 (rd_L6 l0_1 x22_2) x28_3).f0), .int .i64 ((rd_T39 (rd_L6 l0_1 x22_2) x28_3).f1), .int .i64 ((rd_T39 (rd_L6 l0_1 x22_2) x28_3).f2), .int .i64 ((rd_T39 (rd_L6 l0_1 x22_2) x28_3).f3.f0), .int .i64 ((rd_T39 (rd_L6 l0_1 x22_2) x28_3).f3.f1), .int .i64 ((rd_T39 (rd_L6 l0_1 x22_2) x28_3).f3.f2), .int .i64 ((rd_T39 (rd_L6 l0_1 x22_2) x28_3).f3.f3), .int .i64 ((rd_T39 (rd_L6 l0_1 x22_2) x28_3).f3.f4), .int .i64 ((rd_T39 (rd_L6 l0_1 x22_2) x28_3).f4.f0), .slice A315_9 ((rd_T39 (rd_L6 l0_1 x22_2) x28_3).f4.f1).length c315_9]] rfl (by first | rfl | (simp only [List.map_toArray, List.map_cons, List.map_nil]; first | done | rfl)) ?_; (with_reducible refine (spec_l4Row.calls k3 a0_0 ((rd_T39 (rd_L6 l0_1 x22_2) x28_3).f0) ((rd_T39 (rd_L6 l0_1 x22_2) x28_3).f1) ((rd_T39 (rd_L6 l0_1 x22_2) x28_3).f2) ((rd_T39 (rd_L6 l0_1 x22_2) x28_3).f3.f0) ((rd_T39 (rd_L6 l0_1 x22_2) x28_3).f3.f1) ((rd_T39 (rd_L6 l0_1 x22_2) x28_3).f3.f2) ((rd_T39 (rd_L6 l0_1 x22_2) x28_3).f3.f3) ((rd_T39 (rd_L6 l0_1 x22_2) x28_3).f3.f4) ((rd_T39 (rd_L6 l0_1 x22_2) x28_3).f4.f0) _ _ ((rd_T39 (rd_L6 l0_1 x22_2) x28_3).f4.f1) false _ ?side1 ?side2 A16.out).mono ?_); (case side1 => exact Kd.C_below HR315_9.out (by repeat (first | (with_reducible first | exact HB.out | apply Ba | apply Bn | apply Bd | refine Bs ?_ GE312.out | refine Bs ?_ GE316.out) | exact HB.out))); (case side2 => exact HC315_9.out); rintro e w27 ⟨rfl, hb⟩; refine ⟨_, rfl, ?_⟩; have n0_ := Am (Kb (g := gb312) (o := .cells #[.int .i64 a0_0, .slice (some ad314) l0_1.length c0_1] 26 (0, 0)) (by (with_reducible repeat (first | refine Kn ?_ _ | refine Ke ?_ | refine Ka ?_ _)); refine Kf ?_ NB312_316.out _; (with_reducible repeat (first | refine Kn ?_ _ | refine Ke ?_ | refine Ka ?_ _)); refine Kf ?_ NB312_316.out _; (with_reducible repeat (first | refine Kn ?_ _ | refine Ke ?_ | refine Ka ?_ _)); refine Kf ?_ NB312_316.out _; (with_reducible repeat (first | refine Kn ?_ _ | refine Ke ?_ | refine Ka ?_ _)); refine Kf ?_ NB312_316.out _; (with_reducible repeat (first | refine Kn ?_ _ | refine Ke ?_ | refine Ka ?_ _)); refine Kf ?_ NB312_316.out _; (with_reducible repeat (first | refine Kn ?_ _ | refine Ke ?_ | refine Ka ?_ _)); refine Kf ?_ NB312_316.out _; (with_reducible repeat (first | refine Kn ?_ _ | refine Ke ?_ | refine Ka ?_ _)); refine Kf ?_ NB312_316.out _; (with_reducible repeat (first | refine Kn ?_ _ | refine Ke ?_ | refine Ka ?_ _)); refine Kf ?_ NB312_316.out _; (with_reducible repeat (first | refine Kn ?_ _ | refine Ke ?_ | refine Ka ?_ _)); refine Kf ?_ NB312_316.out _; (with_reducible repeat (first | refine Kn ?_ _ | refine Ke ?_ | refine Ka ?_ _)); refine Kf ?_ NB312_316.out _; (with_reducible repeat (first | refine Kn ?_ _ | refine Ke ?_ | refine Ka ?_ _)); exact BK312.out) hb); have n1_ := Am (Kb (g := gb316) (o := .cells #[.int .i64 ((rd_T39 (rd_L6 l0_1 x22_2) x28_3).f0), .int .i64 ((rd_T39 (rd_L6 l0_1 x22_2) x28_3).f1), .int .i64 ((rd_T39 (rd_L6 l0_1 x22_2) x28_3).f2), .int .i64 ((rd_T39 (rd_L6 l0_1 x22_2) x28_3).f3.f0), .int .i64 ((rd_T39 (rd_L6 l0_1 x22_2) x28_3).f3.f1), .int .i64 ((rd_T39 (rd_L6 l0_1 x22_2) x28_3).f3.f2), .int .i64 ((rd_T39 (rd_L6 l0_1 x22_2) x28_3).f3.f3), .int .i64 ((rd_T39 (rd_L6 l0_1 x22_2) x28_3).f3.f4), .int .i64 ((rd_T39 (rd_L6 l0_1 x22_2) x28_3).f4.f0), .slice A315_9 ((rd_T39 (rd_L6 l0_1 x22_2) x28_3).f4.f1).length c315_9] 39 (0, 0)) (by (with_reducible repeat (first | refine Kn ?_ _ | refine Ke ?_ | refine Ka ?_ _)); refine blk_put (cs := #[.int .i64 ((rd_T39 (rd_L6 l0_1 x22_2) x28_3).f0), .int .i64 ((rd_T39 (rd_L6 l0_1 x22_2) x28_3).f1), .int .i64 ((rd_T39 (rd_L6 l0_1 x22_2) x28_3).f2), .int .i64 ((rd_T39 (rd_L6 l0_1 x22_2) x28_3).f3.f0), .int .i64 ((rd_T39 (rd_L6 l0_1 x22_2) x28_3).f3.f1), .int .i64 ((rd_T39 (rd_L6 l0_1 x22_2) x28_3).f3.f2), .int .i64 ((rd_T39 (rd_L6 l0_1 x22_2) x28_3).f3.f3), .int .i64 ((rd_T39 (rd_L6 l0_1 x22_2) x28_3).f3.f4), .int .i64 ((rd_T39 (rd_L6 l0_1 x22_2) x28_3).f4.f0), .slice none 0 0]) ?_ 9 _ rfl; (with_reducible repeat (first | refine Kn ?_ _ | refine Ke ?_ | refine Ka ?_ _)); refine blk_put (cs := #[.int .i64 ((rd_T39 (rd_L6 l0_1 x22_2) x28_3).f0), .int .i64 ((rd_T39 (rd_L6 l0_1 x22_2) x28_3).f1), .int .i64 ((rd_T39 (rd_L6 l0_1 x22_2) x28_3).f2), .int .i64 ((rd_T39 (rd_L6 l0_1 x22_2) x28_3).f3.f0), .int .i64 ((rd_T39 (rd_L6 l0_1 x22_2) x28_3).f3.f1), .int .i64 ((rd_T39 (rd_L6 l0_1 x22_2) x28_3).f3.f2), .int .i64 ((rd_T39 (rd_L6 l0_1 x22_2) x28_3).f3.f3), .int .i64 ((rd_T39 (rd_L6 l0_1 x22_2) x28_3).f3.f4), .int .i64 0, .slice none 0 0]) ?_ 8 _ rfl; (with_reducible repeat (first | refine Kn ?_ _ | refine Ke ?_ | refine Ka ?_ _)); refine blk_put (cs := #[.int .i64 ((rd_T39 (rd_L6 l0_1 x22_2) x28_3).f0), .int .i64 ((rd_T39 (rd_L6 l0_1 x22_2) x28_3).f1), .int .i64 ((rd_T39 (rd_L6 l0_1 x22_2) x28_3).f2), .int .i64 ((rd_T39 (rd_L6 l0_1 x22_2) x28_3).f3.f0), .int .i64 ((rd_T39 (rd_L6 l0_1 x22_2) x28_3).f3.f1), .int .i64 ((rd_T39 (rd_L6 l0_1 x22_2) x28_3).f3.f2), .int .i64 ((rd_T39 (rd_L6 l0_1 x22_2) x28_3).f3.f3), .int .i64 0, .int .i64 0, .slice none 0 0]) ?_ 7 _ rfl; (with_reducible repeat (first | refine Kn ?_ _ | refine Ke ?_ | refine Ka ?_ _)); refine blk_put (cs := #[.int .i64 ((rd_T39 (rd_L6 l0_1 x22_2) x28_3).f0), .int .i64 ((rd_T39 (rd_L6 l0_1 x22_2) x28_3).f1), .int .i64 ((rd_T39 (rd_L6 l0_1 x22_2) x28_3).f2), .int .i64 ((rd_T39 (rd_L6 l0_1 x22_2) x28_3).f3.f0), .int .i64 ((rd_T39 (rd_L6 l0_1 x22_2) x28_3).f3.f1), .int .i64 ((rd_T39 (rd_L6 l0_1 x22_2) x28_3).f3.f2), .int .i64 0, .int .i64 0, .int .i64 0, .slice none 0 0]) ?_ 6 _ rfl; (with_reducible repeat (first | refine Kn ?_ _ | refine Ke ?_ | refine Ka ?_ _)); refine blk_put (cs := #[.int .i64 ((rd_T39 (rd_L6 l0_1 x22_2) x28_3).f0), .int .i64 ((rd_T39 (rd_L6 l0_1 x22_2) x28_3).f1), .int .i64 ((rd_T39 (rd_L6 l0_1 x22_2) x28_3).f2), .int .i64 ((rd_T39 (rd_L6 l0_1 x22_2) x28_3).f3.f0), .int .i64 ((rd_T39 (rd_L6 l0_1 x22_2) x28_3).f3.f1), .int .i64 0, .int .i64 0, .int .i64 0, .int .i64 0, .slice none 0 0]) ?_ 5 _ rfl; (with_reducible repeat (first | refine Kn ?_ _ | refine Ke ?_ | refine Ka ?_ _)); refine blk_put (cs := #[.int .i64 ((rd_T39 (rd_L6 l0_1 x22_2) x28_3).f0), .int .i64 ((rd_T39 (rd_L6 l0_1 x22_2) x28_3).f1), .int .i64 ((rd_T39 (rd_L6 l0_1 x22_2) x28_3).f2), .int .i64 ((rd_T39 (rd_L6 l0_1 x22_2) x28_3).f3.f0), .int .i64 0, .int .i64 0, .int .i64 0, .int .i64 0, .int .i64 0, .slice none 0 0]) ?_ 4 _ rfl; (with_reducible repeat (first | refine Kn ?_ _ | refine Ke ?_ | refine Ka ?_ _)); refine blk_put (cs := #[.int .i64 ((rd_T39 (rd_L6 l0_1 x22_2) x28_3).f0), .int .i64 ((rd_T39 (rd_L6 l0_1 x22_2) x28_3).f1), .int .i64 ((rd_T39 (rd_L6 l0_1 x22_2) x28_3).f2), .int .i64 0, .int .i64 0, .int .i64 0, .int .i64 0, .int .i64 0, .int .i64 0, .slice none 0 0]) ?_ 3 _ rfl; (with_reducible repeat (first | refine Kn ?_ _ | refine Ke ?_ | refine Ka ?_ _)); refine blk_put (cs := #[.int .i64 ((rd_T39 (rd_L6 l0_1 x22_2) x28_3).f0), .int .i64 ((rd_T39 (rd_L6 l0_1 x22_2) x28_3).f1), .int .i64 0, .int .i64 0, .int .i64 0, .int .i64 0, .int .i64 0, .int .i64 0, .int .i64 0, .slice none 0 0]) ?_ 2 _ rfl; (with_reducible repeat (first | refine Kn ?_ _ | refine Ke ?_ | refine Ka ?_ _)); refine blk_put (cs := #[.int .i64 ((rd_T39 (rd_L6 l0_1 x22_2) x28_3).f0), .int .i64 0, .int .i64 0, .int .i64 0, .int .i64 0, .int .i64 0, .int .i64 0, .int .i64 0, .int .i64 0, .slice none 0 0]) ?_ 1 _ rfl; (with_reducible repeat (first | refine Kn ?_ _ | refine Ke ?_ | refine Ka ?_ _)); refine blk_put (cs := #[.int .i64 0, .int .i64 0, .int .i64 0, .int .i64 0, .int .i64 0, .int .i64 0, .int .i64 0, .int .i64 0, .int .i64 0, .slice none 0 0]) ?_ 0 _ rfl; (with_reducible repeat (first | refine Kn ?_ _ | refine Ke ?_ | refine Ka ?_ _)); exact BK316.out) hb); have n2_ := Am (Bt (by repeat (first | (with_reducible first | exact HB.out | apply Ba | apply Bn | apply Bd | refine Bs ?_ GE312.out | refine Bs ?_ GE316.out) | exact HB.out)) hb); clear BK312; clear BK316; clear HB; have BK312 := n0_; have BK316 := n1_; have HB := n2_; clear n0_ n1_ n2_; (try clear hb); (try clear hb2); (try clear hk); (try clear hi)))
               go_ret
               exact ⟨by first | rfl | (simp [*, errW_none, errW_some] <;> rfl), by repeat (first | (with_reducible first | exact HB.out | apply Ba | apply Bn | apply Bd | refine Bs ?_ GE312.out | refine Bs ?_ GE316.out) | exact HB.out)⟩
             ·rw [if_neg c15] at H
              exact absurd H (by simp)
            ·rw [if_neg c14] at H
             exact absurd H (by simp)
           ·rw [if_neg c13] at H
            have c13b0 : decide (x28_3 < ((rd_L6 l0_1 x22_2).length : Int)) = false := decide_eq_false c13
            clear c13
            by_cases c28 : ((rd_L6 l0_1 x22_2).length : Int) > 6
            ·rw [if_pos c28] at H
             have c28b0 : decide (6 < ((rd_L6 l0_1 x22_2).length : Int)) = true := decide_eq_true c28
             have c28b1 : decide (6 < (rd_L6 l0_1 x22_2).length) = true := decide_eq_true (by omega)
             clear c28
             obtain rfl := Option.some.inj H
             go_wp2
             go_ret
             exact ⟨by first | rfl | (simp [*, errW_none, errW_some] <;> rfl), by repeat (first | (with_reducible first | exact HB.out | apply Ba | apply Bn | apply Bd | refine Bs ?_ GE312.out) | exact HB.out)⟩
            ·rw [if_neg c28] at H
             have c28b0 : decide (6 < ((rd_L6 l0_1 x22_2).length : Int)) = false := decide_eq_false c28
             have c28b1 : decide (6 < (rd_L6 l0_1 x22_2).length) = false := decide_eq_false (by omega)
             clear c28
             have H' := Am H
             clear H
             go_wp2
             go_roundg k3
             case measure => have := HJ1.out; have := HK2.out; have := HK3.out; omega
             case rel => exact ⟨(wrap64 (x22_2 + 1)), (by first | rfl | (simp; done) | (simp [*]; done)), H', ⟨by have := HJ1.out; have := HK2.out; have := HK3.out; omega⟩, ⟨by (with_reducible repeat (first | refine Kn ?_ _ | refine Ke ?_ | refine Ka ?_ _)); exact BK312.out⟩, ⟨by repeat (first | (with_reducible first | exact HB.out | apply Ba | apply Bn | apply Bd | refine Bs ?_ GE312.out) | exact HB.out)⟩⟩
        ·rw [if_neg c12] at H
         exact absurd H (by simp)
       ·rw [if_neg c11] at H
        exact absurd H (by simp)
      ·rw [if_neg c10] at H
       have c10b0 : decide (x22_2 < (l0_1.length : Int)) = false := decide_eq_false c10
       clear c10
       obtain rfl := Option.some.inj H
       go_wp2
       go_ret
       exact ⟨by first | rfl | (simp [*, errW_none, errW_some] <;> rfl), by repeat (first | (with_reducible first | exact HB.out | apply Ba | apply Bn | apply Bd | refine Bs ?_ GE312.out) | exact HB.out)⟩
def spec_l3Inst.f (a0 : Int) (a1 : Int) (a2 : Int) : Option (Bool) := (spec_l1In.f a1 0 (wrap64 (a0 - 1))).bind fun t318 => (if t318 = true then ((spec_l1In.f a2 1 6).bind fun t319 => (some t319)) else (some false))
set_option maxHeartbeats 8000000 in
set_option maxRecDepth 100000 in
theorem spec_l3Inst.calls (a0 : Int) (a1 : Int) (a2 : Int) (r : Bool) (w : World) (h : spec_l3Inst.f a0 a1 a2 = some r) :
  Calls Try.prog 57 #[.int .i64 a0, .int .i64 a1, .int .i64 a2] w fun e w' => e = .returned (.bool r) ∧ Drawn0 w w' := by
 have H : ((spec_l1In.f a1 0 (wrap64 (a0 - 1))).bind fun t318 => (if t318 = true then ((spec_l1In.f a2 1 6).bind fun t319 => (some t319)) else (some false))) = some r := h
 clear h
 replace H := Option.bind_eq_some_iff.mp H
 obtain ⟨t318, A40, H⟩ := H
 replace H : (if t318 = true then ((spec_l1In.f a2 1 6).bind fun t319 => (some t319)) else (some false)) = some r := H
 have A4 := Am A40
 clear A40
 by_cases c5 : t318 = true
 ·subst c5
  have H1 : ((spec_l1In.f a2 1 6).bind fun t319 => (some t319)) = some r := by rw [if_pos rfl] at H; exact H
  clear H
  have H := H1
  clear H1
  replace H := Option.bind_eq_some_iff.mp H
  obtain ⟨t319, A60, H⟩ := H
  replace H : (some t319) = some r := H
  have A6 := Am A60
  clear A60
  obtain rfl := Option.some.inj H
  go_enter Try.func57, Try.ntmps57
  go_wp2_with (first | ((refine Gc (f := 33) rfl ?_); refine goesL_ (some 10) rfl rfl Try.func33 (by kernel_rfl) rfl #[.int .i64 a1, .int .i64 0, .int .i64 (wrap64 (a0 - 1))] rfl (by first | rfl | (simp only [List.map_toArray, List.map_cons, List.map_nil]; first | done | rfl)) ?_; (with_reducible refine (spec_l1In.calls a1 0 (wrap64 (a0 - 1)) true _ A4.out).mono ?_); rintro e w' ⟨rfl, ⟨nd, rfl⟩⟩; refine ⟨_, rfl, ?_⟩) | (go_at_call 33; (with_reducible refine (spec_l1In.calls a2 1 6 t319 _ A6.out).mono ?_); rintro e w' ⟨rfl, ⟨nd, rfl⟩⟩))
  go_ret
  exact ⟨by first | rfl | (simp; done) | (simp [*]; done), by repeat (first | exact Drawn0.refl _ | apply Drawn0.step)⟩
 ·replace c5 := Bool.eq_false_iff.mpr c5
  subst c5
  have H1 : (some false) = some r := by rw [if_neg (show ¬ (false = true) by decide)] at H; exact H
  clear H
  have H := H1
  clear H1
  obtain rfl := Option.some.inj H
  go_enter Try.func57, Try.ntmps57
  go_wp2_with (first | ((refine Gc (f := 33) rfl ?_); refine goesL_ (some 10) rfl rfl Try.func33 (by kernel_rfl) rfl #[.int .i64 a1, .int .i64 0, .int .i64 (wrap64 (a0 - 1))] rfl (by first | rfl | (simp only [List.map_toArray, List.map_cons, List.map_nil]; first | done | rfl)) ?_; (with_reducible refine (spec_l1In.calls a1 0 (wrap64 (a0 - 1)) false _ A4.out).mono ?_); rintro e w' ⟨rfl, ⟨nd, rfl⟩⟩; refine ⟨_, rfl, ?_⟩))
  go_ret
  exact ⟨by first | rfl | (simp; done) | (simp [*]; done), by repeat (first | exact Drawn0.refl _ | apply Drawn0.step)⟩
def spec_l4Asked.f (k : Nat) (a0_0 : Int) (l0_1 : List (List (S39))) (a1 : Int) (a2 : Int) : Option (Bool) := (spec_GoodTable.f k a0_0 l0_1).bind fun t321 => (if t321 = true then ((spec_l3Inst.f a0_0 a1 a2).bind fun t322 => (some t322)) else (some false))
theorem spec_l4Asked.mono : ∀ a0 a1 a2 a3 k, LeO (spec_l4Asked.f k a0 a1 a2 a3) (spec_l4Asked.f (k + 1) a0 a1 a2 a3) := by
 intro a0 a1 a2 a3 k
 unfold spec_l4Asked.f
 repeat' first
   | (with_reducible exact spec_GoodTable.mono _ _ _)
   | (with_reducible exact LeO.refl _)
   | (with_reducible exact LeO.none _)
   | (with_reducible refine LeO.ite ?_ ?_)
   | (with_reducible refine LeO.bind ?_ (fun _ => ?_))
   | exact spec_GoodTable.mono _ _ _
   | exact LeO.none _
   | refine LeO.ite ?_ ?_
   | refine LeO.bind ?_ (fun _ => ?_)
set_option maxHeartbeats 8000000 in
set_option maxRecDepth 100000 in
theorem spec_l4Asked.calls (k : Nat) (a0_0 : Int) (A0_1 : Option Addr) (c0_1 : Nat) (l0_1 : List (List (S39))) (a1 : Int) (a2 : Int) (r : Bool) (w : World) (hr0_1 : Kd.C (Kd.slice 39 k39) w A0_1 l0_1.length l0_1) (hc0_1 : l0_1.length ≤ c0_1) (h : spec_l4Asked.f k a0_0 l0_1 a1 a2 = some r) :
  Calls Try.prog 24 #[.agg #[.int .i64 a0_0, .slice A0_1 l0_1.length c0_1], .int .i64 a1, .int .i64 a2] w fun e w' => e = .returned (.bool r) ∧ Below w.heap.size w w' := by
 have hu26 := Try.underlying26
 have HR0_1 := Am hr0_1
 have HC0_1 := Am hc0_1
 clear hr0_1 hc0_1
 have HB := Am (Below.refl w.heap.size w)
 have H : ((spec_GoodTable.f k a0_0 l0_1).bind fun t321 => (if t321 = true then ((spec_l3Inst.f a0_0 a1 a2).bind fun t322 => (some t322)) else (some false))) = some r := h
 clear h
 replace H := Option.bind_eq_some_iff.mp H
 obtain ⟨t321, A40, H⟩ := H
 replace H : (if t321 = true then ((spec_l3Inst.f a0_0 a1 a2).bind fun t322 => (some t322)) else (some false)) = some r := H
 have A4 := Am A40
 clear A40
 by_cases c5 : t321 = true
 ·subst c5
  have H1 : ((spec_l3Inst.f a0_0 a1 a2).bind fun t322 => (some t322)) = some r := by rw [if_pos rfl] at H; exact H
  clear H
  have H := H1
  clear H1
  replace H := Option.bind_eq_some_iff.mp H
  obtain ⟨t322, A60, H⟩ := H
  replace H : (some t322) = some r := H
  have A6 := Am A60
  clear A60
  obtain rfl := Option.some.inj H
  go_enter Try.func24, Try.ntmps24
  go_wp2_with (first | ((refine Gd (N := 3) rfl ?_); refine Be ?hg (N := 3) ?hd (cs := #[.int .i64 a0_0, .slice A0_1 l0_1.length c0_1]) (t := 26) ?hr ?_; (case hd | hg => rfl); (case hr => first | (go_simp; done) | (go_simp; rfl)); intro gb320 hg w7 hbox hb; have n0_ := Am (Bt (by repeat (first | exact HB.out | apply Ba | apply Bn | apply Bd)) hb); have n1_ := Am (hbox); have n2_ := Am ((by rw [hg]; exact (Bz (by repeat (first | exact HB.out | apply Ba | apply Bn | apply Bd))) : w.heap.size ≤ gb320)); have n3_ := Am ((by rw [hg]; exact (Bz (by repeat (first | exact HB.out | apply Ba | apply Bn | apply Bd))) : w.heap.size ≤ gb320)); clear HB; have HB := n0_; have BK320 := n1_; have GW320 := n2_; have GE320 := n3_; clear n0_ n1_ n2_ n3_; clear hb hbox hg; have hcz8_0 : w7.cell? ⟨gb320, 0, none⟩ = some (.int .i64 a0_0) := (Kc BK320.out 0).trans rfl; have hcz8_1 : w7.cell? ⟨gb320, 1, none⟩ = some (.slice A0_1 l0_1.length c0_1) := (Kc BK320.out 1).trans rfl; have hfz8_0 := Kz BK320.out 0; have hfz8_1 := Kz BK320.out 1) | ((refine Gc (f := 32) rfl ?_); refine goesL_ (some 8) rfl rfl Try.func32 (by kernel_rfl) rfl #[.agg #[.int .i64 a0_0, .slice A0_1 l0_1.length c0_1]] rfl (by first | rfl | (simp only [List.map_toArray, List.map_cons, List.map_nil]; first | done | rfl)) ?_; (with_reducible refine (spec_GoodTable.calls k a0_0 _ _ l0_1 true _ ?side1 ?side2 A4.out).mono ?_); (case side1 => repeat (first | exact (Kd.C_below HR0_1.out HB.out) | (with_reducible refine Kd.C_alloc ?_ _) | (with_reducible refine Kd.C_drewN ?_ _) | (with_reducible refine Kd.C_drew ?_))); (case side2 => exact HC0_1.out); rintro e w9 ⟨rfl, hb⟩; refine ⟨_, rfl, ?_⟩; have n0_ := Am (Kb (g := gb320) (o := .cells #[.int .i64 a0_0, .slice A0_1 l0_1.length c0_1] 26 (0, 0)) (by (with_reducible repeat (first | refine Kn ?_ _ | refine Ke ?_ | refine Ka ?_ _)); exact BK320.out) hb); have n1_ := Am (Bt (by repeat (first | (with_reducible first | exact HB.out | apply Ba | apply Bn | apply Bd | refine Bs ?_ GE320.out) | exact HB.out)) hb); clear BK320; clear HB; have BK320 := n0_; have HB := n1_; clear n0_ n1_; (try clear hb); (try clear hb2); (try clear hk); (try clear hi); have hcz10_0 : w9.cell? ⟨gb320, 0, none⟩ = some (.int .i64 a0_0) := (Kc BK320.out 0).trans rfl; have hcz10_1 : w9.cell? ⟨gb320, 1, none⟩ = some (.slice A0_1 l0_1.length c0_1) := (Kc BK320.out 1).trans rfl; have hfz10_0 := Kz BK320.out 0; have hfz10_1 := Kz BK320.out 1) | (go_at_call 57; (with_reducible refine (spec_l3Inst.calls a0_0 a1 a2 t322 _ A6.out).mono ?_); rintro e w' ⟨rfl, ⟨nd, rfl⟩⟩))
  go_ret
  exact ⟨by first | rfl | (simp [*, errW_none, errW_some] <;> rfl), by repeat (first | (with_reducible first | exact HB.out | apply Ba | apply Bn | apply Bd | refine Bs ?_ GE320.out) | exact HB.out)⟩
 ·replace c5 := Bool.eq_false_iff.mpr c5
  subst c5
  have H1 : (some false) = some r := by rw [if_neg (show ¬ (false = true) by decide)] at H; exact H
  clear H
  have H := H1
  clear H1
  obtain rfl := Option.some.inj H
  go_enter Try.func24, Try.ntmps24
  go_wp2_with (first | ((refine Gd (N := 3) rfl ?_); refine Be ?hg (N := 3) ?hd (cs := #[.int .i64 a0_0, .slice A0_1 l0_1.length c0_1]) (t := 26) ?hr ?_; (case hd | hg => rfl); (case hr => first | (go_simp; done) | (go_simp; rfl)); intro gb320 hg w11 hbox hb; have n0_ := Am (Bt (by repeat (first | exact HB.out | apply Ba | apply Bn | apply Bd)) hb); have n1_ := Am (hbox); have n2_ := Am ((by rw [hg]; exact (Bz (by repeat (first | exact HB.out | apply Ba | apply Bn | apply Bd))) : w.heap.size ≤ gb320)); have n3_ := Am ((by rw [hg]; exact (Bz (by repeat (first | exact HB.out | apply Ba | apply Bn | apply Bd))) : w.heap.size ≤ gb320)); clear HB; have HB := n0_; have BK320 := n1_; have GW320 := n2_; have GE320 := n3_; clear n0_ n1_ n2_ n3_; clear hb hbox hg; have hcz12_0 : w11.cell? ⟨gb320, 0, none⟩ = some (.int .i64 a0_0) := (Kc BK320.out 0).trans rfl; have hcz12_1 : w11.cell? ⟨gb320, 1, none⟩ = some (.slice A0_1 l0_1.length c0_1) := (Kc BK320.out 1).trans rfl; have hfz12_0 := Kz BK320.out 0; have hfz12_1 := Kz BK320.out 1) | ((refine Gc (f := 32) rfl ?_); refine goesL_ (some 8) rfl rfl Try.func32 (by kernel_rfl) rfl #[.agg #[.int .i64 a0_0, .slice A0_1 l0_1.length c0_1]] rfl (by first | rfl | (simp only [List.map_toArray, List.map_cons, List.map_nil]; first | done | rfl)) ?_; (with_reducible refine (spec_GoodTable.calls k a0_0 _ _ l0_1 false _ ?side1 ?side2 A4.out).mono ?_); (case side1 => repeat (first | exact (Kd.C_below HR0_1.out HB.out) | (with_reducible refine Kd.C_alloc ?_ _) | (with_reducible refine Kd.C_drewN ?_ _) | (with_reducible refine Kd.C_drew ?_))); (case side2 => exact HC0_1.out); rintro e w13 ⟨rfl, hb⟩; refine ⟨_, rfl, ?_⟩; have n0_ := Am (Kb (g := gb320) (o := .cells #[.int .i64 a0_0, .slice A0_1 l0_1.length c0_1] 26 (0, 0)) (by (with_reducible repeat (first | refine Kn ?_ _ | refine Ke ?_ | refine Ka ?_ _)); exact BK320.out) hb); have n1_ := Am (Bt (by repeat (first | (with_reducible first | exact HB.out | apply Ba | apply Bn | apply Bd | refine Bs ?_ GE320.out) | exact HB.out)) hb); clear BK320; clear HB; have BK320 := n0_; have HB := n1_; clear n0_ n1_; (try clear hb); (try clear hb2); (try clear hk); (try clear hi)))
  go_ret
  exact ⟨by first | rfl | (simp [*, errW_none, errW_some] <;> rfl), by repeat (first | (with_reducible first | exact HB.out | apply Ba | apply Bn | apply Bd | refine Bs ?_ GE320.out) | exact HB.out)⟩
def spec_l1Has.l0 : Nat → Int → List Int → Int → Int → Option (Bool)
 | 0, _, _, _, _ => none
 | k + 1, x1, x7, x8, x9 => if x9 < x8 then (if 0 ≤ x9 then (if x9 < (x7.length : Int) then (if (rd x7 x9) = x1 then (some true) else (spec_l1Has.l0 k x1 x7 x8 (wrap64 (x9 + 1)))) else (none)) else (none)) else (some false)
def spec_l1Has.f (k : Nat) (l0 : List Int) (a1 : Int) : Option (Bool) := spec_l1Has.l0 k a1 l0 (l0.length : Int) 0
theorem spec_l1Has.mono_l : ∀ k, (∀ y0 y1 y2 y3, LeO (spec_l1Has.l0 k y0 y1 y2 y3) (spec_l1Has.l0 (k + 1) y0 y1 y2 y3))
 | 0 => fun _ _ _ _ r h => by simp [spec_l1Has.l0] at h
 | k + 1 => by
  have ih0 := spec_l1Has.mono_l k
  ·intro y0 y1 y2 y3
   unfold spec_l1Has.l0
   repeat' first
   | (with_reducible exact ih0 _ _ _ _)
   | (with_reducible exact LeO.refl _)
   | (with_reducible exact LeO.none _)
   | (with_reducible refine LeO.ite ?_ ?_)
   | (with_reducible refine LeO.bind ?_ (fun _ => ?_))
   | exact ih0 _ _ _ _
   | exact LeO.none _
   | refine LeO.ite ?_ ?_
   | refine LeO.bind ?_ (fun _ => ?_)
theorem spec_l1Has.mono : ∀ a0 a1 k, LeO (spec_l1Has.f k a0 a1) (spec_l1Has.f (k + 1) a0 a1) := by
 intro a0 a1 k
 have ih0 := spec_l1Has.mono_l k
 unfold spec_l1Has.f
 repeat' first
   | (with_reducible exact ih0 _ _ _ _)
   | (with_reducible exact LeO.refl _)
   | (with_reducible exact LeO.none _)
   | (with_reducible refine LeO.ite ?_ ?_)
   | (with_reducible refine LeO.bind ?_ (fun _ => ?_))
   | exact ih0 _ _ _ _
   | exact LeO.none _
   | refine LeO.ite ?_ ?_
   | refine LeO.bind ?_ (fun _ => ?_)
set_option maxHeartbeats 8000000 in
set_option maxRecDepth 100000 in
theorem spec_l1Has.calls (k : Nat) (A0 : Option Addr) (c0 : Nat) (l0 : List Int) (a1 : Int) (r : Bool) (w : World) (hr0 : Kd.C (Kd.int .i64) w A0 l0.length l0) (hc0 : l0.length ≤ c0) (h : spec_l1Has.f k l0 a1 = some r) :
  Calls Try.prog 72 #[.slice A0 l0.length c0, .int .i64 a1] w fun e w' => e = .returned (.bool r) ∧ Drawn0 w w' := by
 have HR0 := Am hr0
 have HC0 := Am hc0
 clear hr0 hc0
 have H : (spec_l1Has.l0 k a1 l0 (l0.length : Int) 0) = some r := h
 clear h
 have H' := Am H
 clear H
 go_enter Try.func72, Try.ntmps72
 go_wp2
 go_loopg [9] k (fun kq v9 w' => ∃ (x9_1 : Int), v9 = .int .i64 x9_1 ∧ Ad (spec_l1Has.l0 kq a1 l0 (l0.length : Int) x9_1 = some r) ∧ Ad (kq ≤ k) ∧ Drawn0 w w')
 case atStart => exact ⟨(0), (by first | rfl | (simp; done) | (simp [*]; done)), H', ⟨Nat.le_refl _⟩, by repeat (first | exact Drawn0.refl _ | apply Drawn0.step)⟩
 case round =>
  clear H'
  try clear p2
  obtain ⟨x9_1, rfl, HA, HK1, ⟨m1, rfl⟩⟩ := hrel
  cases gk with
  | zero => exact absurd HA.out (by simp [spec_l1Has.l0])
  | succ k1 =>
   have H := HA.out
   clear HA
   simp only [spec_l1Has.l0] at H
   by_cases c3 : x9_1 < (l0.length : Int)
   ·rw [if_pos c3] at H
    have c3b0 : decide (x9_1 < (l0.length : Int)) = true := decide_eq_true c3
    clear c3
    by_cases c4 : 0 ≤ x9_1
    ·rw [if_pos c4] at H
     have c4b0 : decide (0 ≤ x9_1) = true := decide_eq_true c4
     clear c4
     by_cases c5 : x9_1 < (l0.length : Int)
     ·rw [if_pos c5] at H
      have c5b0 : decide (x9_1 < (l0.length : Int)) = true := decide_eq_true c5
      clear c5
      by_cases c6 : (rd l0 x9_1) = a1
      ·rw [if_pos c6] at H
       have c6b0 : ((rd l0 x9_1) == a1) = true := beq_iff_eq.mpr c6
       have c6b1 : ((rd l0 x9_1) != a1) = false := bne_eq_false_iff_eq.mpr c6
       clear c6
       obtain rfl := Option.some.inj H
       have p323 : 0 ≤ (x9_1 : Int) := of_decide_eq_true (by assumption)
       have q323 : x9_1 < (l0.length : Int) := of_decide_eq_true (by assumption)
       obtain ⟨ad323, e323, hx323_0⟩ := Kd.at_int HR0.out x9_1 p323 q323
       cases e323
       replace p323 := eq_true p323
       replace q323 := eq_true q323
       go_wp2
       go_ret
       exact ⟨by first | rfl | (simp; done) | (simp [*]; done), by repeat (first | exact Drawn0.refl _ | apply Drawn0.step)⟩
      ·rw [if_neg c6] at H
       have c6b0 : ((rd l0 x9_1) == a1) = false := beq_eq_false_iff_ne.mpr c6
       have c6b1 : ((rd l0 x9_1) != a1) = true := bne_iff_ne.mpr c6
       have H' := Am H
       clear H
       have p323 : 0 ≤ (x9_1 : Int) := of_decide_eq_true (by assumption)
       have q323 : x9_1 < (l0.length : Int) := of_decide_eq_true (by assumption)
       obtain ⟨ad323, e323, hx323_0⟩ := Kd.at_int HR0.out x9_1 p323 q323
       cases e323
       replace p323 := eq_true p323
       replace q323 := eq_true q323
       go_wp2
       go_roundg k1
       case measure => have := HK1.out; omega
       case rel => exact ⟨(wrap64 (x9_1 + 1)), (by first | rfl | (simp; done) | (simp [*]; done)), H', ⟨by have := HK1.out; omega⟩, by repeat (first | exact Drawn0.refl _ | apply Drawn0.step)⟩
     ·rw [if_neg c5] at H
      exact absurd H (by simp)
    ·rw [if_neg c4] at H
     exact absurd H (by simp)
   ·rw [if_neg c3] at H
    have c3b0 : decide (x9_1 < (l0.length : Int)) = false := decide_eq_false c3
    clear c3
    obtain rfl := Option.some.inj H
    go_wp2
    go_ret
    exact ⟨by first | rfl | (simp; done) | (simp [*]; done), by repeat (first | exact Drawn0.refl _ | apply Drawn0.step)⟩
def spec_l1Put.l0 : Nat → List Int → Int → Int → Option (List Int)
 | 0, _, _, _ => none
 | k + 1, x0, x1, x5 => if x5 < (x0.length : Int) then (if 0 ≤ x5 then (if (rd x0 x5) < x1 then (spec_l1Put.l0 k x0 x1 (wrap64 (x5 + 1))) else (if (rd x0 x5) = x1 then (some x0) else ((some (([] : List Int) : List Int)).bind fun y326 => (if x5 ≤ (x0.length : Int) then ((some (x0.take (x5 : Int).toNat : List Int)).bind fun y329 => (if y326.length + y329.length < 17592186044416 then ((some (y326 ++ y329 : List Int)).bind fun y333 => (if y333.length < 17592186044416 then ((some (y333 ++ [x1] : List Int)).bind fun y336 => ((some (x0.drop (x5 : Int).toNat : List Int)).bind fun y339 => (if y336.length + y339.length < 17592186044416 then (some (y336 ++ y339)) else (none)))) else (none))) else (none))) else (none))))) else (none)) else ((some (([] : List Int) : List Int)).bind fun y346 => (if 0 ≤ x5 then (if x5 ≤ (x0.length : Int) then ((some (x0.take (x5 : Int).toNat : List Int)).bind fun y349 => (if y346.length + y349.length < 17592186044416 then ((some (y346 ++ y349 : List Int)).bind fun y353 => (if y353.length < 17592186044416 then ((some (y353 ++ [x1] : List Int)).bind fun y356 => ((some (x0.drop (x5 : Int).toNat : List Int)).bind fun y359 => (if y356.length + y359.length < 17592186044416 then (some (y356 ++ y359)) else (none)))) else (none))) else (none))) else (none)) else (none)))
def spec_l1Put.f (k : Nat) (l0 : List Int) (a1 : Int) : Option (List Int) := spec_l1Put.l0 k l0 a1 0
theorem spec_l1Put.mono_l : ∀ k, (∀ y0 y1 y2, LeO (spec_l1Put.l0 k y0 y1 y2) (spec_l1Put.l0 (k + 1) y0 y1 y2))
 | 0 => fun _ _ _ r h => by simp [spec_l1Put.l0] at h
 | k + 1 => by
  have ih0 := spec_l1Put.mono_l k
  ·intro y0 y1 y2
   unfold spec_l1Put.l0
   repeat' first
   | (with_reducible exact ih0 _ _ _)
   | (with_reducible exact LeO.refl _)
   | (with_reducible exact LeO.none _)
   | (with_reducible refine LeO.ite ?_ ?_)
   | (with_reducible refine LeO.bind ?_ (fun _ => ?_))
   | exact ih0 _ _ _
   | exact LeO.none _
   | refine LeO.ite ?_ ?_
   | refine LeO.bind ?_ (fun _ => ?_)
theorem spec_l1Put.mono : ∀ a0 a1 k, LeO (spec_l1Put.f k a0 a1) (spec_l1Put.f (k + 1) a0 a1) := by
 intro a0 a1 k
 have ih0 := spec_l1Put.mono_l k
 unfold spec_l1Put.f
 repeat' first
   | (with_reducible exact ih0 _ _ _)
   | (with_reducible exact LeO.refl _)
   | (with_reducible exact LeO.none _)
   | (with_reducible refine LeO.ite ?_ ?_)
   | (with_reducible refine LeO.bind ?_ (fun _ => ?_))
   | exact ih0 _ _ _
   | exact LeO.none _
   | refine LeO.ite ?_ ?_
   | refine LeO.bind ?_ (fun _ => ?_)
set_option maxHeartbeats 8000000 in
set_option maxRecDepth 100000 in
theorem spec_l1Put.calls (k : Nat) (P0_ : Nat → Prop) (u9000_ : Value) (l0 : List Int) (a1 : Int) (r : List Int) (w0 w : World) (hB : Below w0.heap.size w0 w) (ho0 : Kd.R (Kd.int .i64) 3 w w0.heap.size P0_ u9000_ l0) (h : spec_l1Put.f k l0 a1 = some r) :
  Calls Try.prog 108 #[u9000_, .int .i64 a1] w fun e w' => ∃ v0_ : Value, e = .returned (v0_) ∧ Kd.R (Kd.int .i64) 3 w' w0.heap.size (fun k_ => (P0_ k_ ∨ w.heap.size ≤ k_)) v0_ r ∧ Below w0.heap.size w0 w' ∧ Kept w w' (fun k_ => P0_ k_) := by
 have HO0 := Am (show Kd.R (Kd.int .i64) 3 w w0.heap.size (fun k_ => (P0_ k_ ∨ w.heap.size ≤ k_)) u9000_ l0 from Kd.R_mono ho0 (fun k_ hk => (.inl hk)))
 have HK := Am (Kept.refl w (fun k_ => P0_ k_))
 have HW0 := Am hB.size
 have HB := Am hB
 clear hB
 have H : (spec_l1Put.l0 k l0 a1 0) = some r := h
 clear h
 have H' := Am H
 clear H
 go_enter Try.func108, Try.ntmps108
 go_wp2
 go_loopg [5] k (fun kq v5 w' => ∃ (x5_1 : Int), v5 = .int .i64 x5_1 ∧ Ad (spec_l1Put.l0 kq l0 a1 x5_1 = some r) ∧ Ad (kq ≤ k) ∧ Ad (Kd.R (Kd.int .i64) 3 w' w0.heap.size (fun k_ => (P0_ k_ ∨ w.heap.size ≤ k_)) u9000_ l0) ∧ Ad (Kept w w' (fun k_ => P0_ k_)) ∧ Ad (Below w0.heap.size w0 w'))
 case atStart => exact ⟨(0), (by first | rfl | (simp; done) | (simp [*]; done)), H', ⟨Nat.le_refl _⟩, ⟨by (with_reducible repeat (first | apply Ra | apply Rn | apply Rd)); exact HO0.out⟩, ⟨by repeat (first | (with_reducible first | exact HK.out | apply Kept.alloc | apply Kept.drewN | apply Kept.drew) | exact HK.out)⟩, ⟨by repeat (first | exact HB.out | apply Ba | apply Bn | apply Bd)⟩⟩
 case round =>
  clear H'
  try clear c1
  try clear p2
  obtain ⟨x5_1, rfl, HA, HK1, HO_0, HK, HB⟩ := hrel
  cases gk with
  | zero => exact absurd HA.out (by simp [spec_l1Put.l0])
  | succ k1 =>
   have H := HA.out
   clear HA
   simp only [spec_l1Put.l0] at H
   by_cases c3 : x5_1 < (l0.length : Int)
   ·rw [if_pos c3] at H
    have c3b0 : decide (x5_1 < (l0.length : Int)) = true := decide_eq_true c3
    clear c3
    by_cases c4 : 0 ≤ x5_1
    ·rw [if_pos c4] at H
     have c4b0 : decide (0 ≤ x5_1) = true := decide_eq_true c4
     clear c4
     by_cases c5 : (rd l0 x5_1) < a1
     ·rw [if_pos c5] at H
      have c5b0 : decide ((rd l0 x5_1) < a1) = true := decide_eq_true c5
      clear c5
      have H' := Am H
      clear H
      obtain ⟨Ao6, co6, eo6⟩ := Kd.R_slice HO_0.out
      subst eo6
      have p324 : 0 ≤ (x5_1 : Int) := of_decide_eq_true (by assumption)
      have q324 : x5_1 < (l0.length : Int) := of_decide_eq_true (by assumption)
      obtain ⟨ad324, e324, hx324_0⟩ := Kd.at_int (Kd.R_reads' HO_0.out).2.2 x5_1 p324 q324
      cases e324
      replace p324 := eq_true p324
      replace q324 := eq_true q324
      go_wp2
      go_roundg k1
      case measure => have := HK1.out; omega
      case rel => exact ⟨(wrap64 (x5_1 + 1)), (by first | rfl | (simp; done) | (simp [*]; done)), H', ⟨by have := HK1.out; omega⟩, ⟨by (with_reducible repeat (first | apply Ra | apply Rn | apply Rd)); exact HO_0.out⟩, ⟨by repeat (first | (with_reducible first | exact HK.out | apply Kept.alloc | apply Kept.drewN | apply Kept.drew) | exact HK.out)⟩, ⟨by repeat (first | exact HB.out | apply Ba | apply Bn | apply Bd)⟩⟩
     ·rw [if_neg c5] at H
      have c5b0 : decide ((rd l0 x5_1) < a1) = false := decide_eq_false c5
      clear c5
      by_cases c7 : (rd l0 x5_1) = a1
      ·rw [if_pos c7] at H
       have c7b0 : ((rd l0 x5_1) == a1) = true := beq_iff_eq.mpr c7
       have c7b1 : ((rd l0 x5_1) != a1) = false := bne_eq_false_iff_eq.mpr c7
       clear c7
       obtain rfl := Option.some.inj H
       obtain ⟨Ao8, co8, eo8⟩ := Kd.R_slice HO_0.out
       subst eo8
       have p324 : 0 ≤ (x5_1 : Int) := of_decide_eq_true (by assumption)
       have q324 : x5_1 < (l0.length : Int) := of_decide_eq_true (by assumption)
       obtain ⟨ad324, e324, hx324_0⟩ := Kd.at_int (Kd.R_reads' HO_0.out).2.2 x5_1 p324 q324
       cases e324
       replace p324 := eq_true p324
       replace q324 := eq_true q324
       have p325 : 0 ≤ (x5_1 : Int) := of_decide_eq_true (by assumption)
       have q325 : x5_1 < (l0.length : Int) := of_decide_eq_true (by assumption)
       obtain ⟨ad325, e325, hx325_0⟩ := Kd.at_int (Kd.R_reads' HO_0.out).2.2 x5_1 p325 q325
       obtain rfl : ad324 = ad325 := (by injection e325)
       replace p325 := eq_true p325
       replace q325 := eq_true q325
       go_wp2
       go_ret
       exact ⟨_, by first | rfl | (simp [*, errW_none, errW_some] <;> rfl), by (with_reducible repeat (first | apply Ra | apply Rn | apply Rd)); exact HO_0.out, by repeat (first | exact HB.out | apply Ba | apply Bn | apply Bd), by repeat (first | (with_reducible first | exact HK.out | apply Kept.alloc | apply Kept.drewN | apply Kept.drew) | exact HK.out)⟩
      ·rw [if_neg c7] at H
       have c7b0 : ((rd l0 x5_1) == a1) = false := beq_eq_false_iff_ne.mpr c7
       have c7b1 : ((rd l0 x5_1) != a1) = true := bne_iff_ne.mpr c7
       obtain ⟨y326, hy326⟩ : ∃ y_ : List Int, y_ = (([] : List Int)) := ⟨_, rfl⟩
       replace H : (if x5_1 ≤ (l0.length : Int) then ((some (l0.take (x5_1 : Int).toNat : List Int)).bind fun y329 => (if y326.length + y329.length < 17592186044416 then ((some (y326 ++ y329 : List Int)).bind fun y333 => (if y333.length < 17592186044416 then ((some (y333 ++ [a1] : List Int)).bind fun y336 => ((some (l0.drop (x5_1 : Int).toNat : List Int)).bind fun y339 => (if y336.length + y339.length < 17592186044416 then (some (y336 ++ y339)) else (none)))) else (none))) else (none))) else (none)) = some r := by first | (rw [hy326]; with_reducible exact H) | (have H2_ := (Option.bind_some _ _).symm.trans H; rw [hy326]; with_reducible exact H2_) | (have H2_ := (Option.bind_some _ _).symm.trans H; with_reducible exact H2_) | with_reducible exact H | (rw [hy326]; exact H) | exact H
       have Ny326 := Am hy326
       clear hy326
       have c9b0 := eq_true (of_decide_eq_true (by assumption) : 0 ≤ x5_1)
       by_cases c10 : x5_1 ≤ (l0.length : Int)
       ·rw [if_pos c10] at H
        have c10b0 := eq_true c10
        have c10b1 : decide (x5_1 ≤ (l0.length : Int)) = true := decide_eq_true c10
        clear c10
        obtain ⟨y329, hy329⟩ : ∃ y_ : List Int, y_ = (l0.take (x5_1 : Int).toNat) := ⟨_, rfl⟩
        replace H : (if y326.length + y329.length < 17592186044416 then ((some (y326 ++ y329 : List Int)).bind fun y333 => (if y333.length < 17592186044416 then ((some (y333 ++ [a1] : List Int)).bind fun y336 => ((some (l0.drop (x5_1 : Int).toNat : List Int)).bind fun y339 => (if y336.length + y339.length < 17592186044416 then (some (y336 ++ y339)) else (none)))) else (none))) else (none)) = some r := by first | (rw [hy329]; with_reducible exact H) | (have H2_ := (Option.bind_some _ _).symm.trans H; rw [hy329]; with_reducible exact H2_) | (have H2_ := (Option.bind_some _ _).symm.trans H; with_reducible exact H2_) | with_reducible exact H | (rw [hy329]; exact H) | exact H
        have Ny329 := Am hy329
        clear hy329
        by_cases c11 : y326.length + y329.length < 17592186044416
        ·rw [if_pos c11] at H
         have LMc11 := Am c11
         clear c11
         obtain ⟨y333, hy333⟩ : ∃ y_ : List Int, y_ = (y326 ++ y329) := ⟨_, rfl⟩
         replace H : (if y333.length < 17592186044416 then ((some (y333 ++ [a1] : List Int)).bind fun y336 => ((some (l0.drop (x5_1 : Int).toNat : List Int)).bind fun y339 => (if y336.length + y339.length < 17592186044416 then (some (y336 ++ y339)) else (none)))) else (none)) = some r := by first | (rw [hy333]; with_reducible exact H) | (have H2_ := (Option.bind_some _ _).symm.trans H; rw [hy333]; with_reducible exact H2_) | (have H2_ := (Option.bind_some _ _).symm.trans H; with_reducible exact H2_) | with_reducible exact H | (rw [hy333]; exact H) | exact H
         have Ny333 := Am hy333
         clear hy333
         by_cases c12 : y333.length < 17592186044416
         ·rw [if_pos c12] at H
          have LMc12 := Am c12
          clear c12
          obtain ⟨y336, hy336⟩ : ∃ y_ : List Int, y_ = (y333 ++ [a1]) := ⟨_, rfl⟩
          replace H : ((some (l0.drop (x5_1 : Int).toNat : List Int)).bind fun y339 => (if y336.length + y339.length < 17592186044416 then (some (y336 ++ y339)) else (none))) = some r := by first | (rw [hy336]; with_reducible exact H) | (have H2_ := (Option.bind_some _ _).symm.trans H; rw [hy336]; with_reducible exact H2_) | (have H2_ := (Option.bind_some _ _).symm.trans H; with_reducible exact H2_) | with_reducible exact H | (rw [hy336]; exact H) | exact H
          have Ny336 := Am hy336
          clear hy336
          have c13b0 := eq_true (of_decide_eq_true (by assumption) : 0 ≤ x5_1)
          have c14b0 := eq_true (of_decide_eq_true (by assumption) : x5_1 ≤ (l0.length : Int))
          obtain ⟨y339, hy339⟩ : ∃ y_ : List Int, y_ = (l0.drop (x5_1 : Int).toNat) := ⟨_, rfl⟩
          replace H : (if y336.length + y339.length < 17592186044416 then (some (y336 ++ y339)) else (none)) = some r := by first | (rw [hy339]; with_reducible exact H) | (have H2_ := (Option.bind_some _ _).symm.trans H; rw [hy339]; with_reducible exact H2_) | (have H2_ := (Option.bind_some _ _).symm.trans H; with_reducible exact H2_) | with_reducible exact H | (rw [hy339]; exact H) | exact H
          have Ny339 := Am hy339
          clear hy339
          by_cases c15 : y336.length + y339.length < 17592186044416
          ·rw [if_pos c15] at H
           have LMc15 := Am c15
           clear c15
           obtain ⟨y343, hy343⟩ : ∃ y_ : List Int, y_ = (y336 ++ y339) := ⟨_, rfl⟩
           replace H : (some y343) = some r := by first | (rw [hy343]; with_reducible exact H) | (have H2_ := (Option.bind_some _ _).symm.trans H; rw [hy343]; with_reducible exact H2_) | (have H2_ := (Option.bind_some _ _).symm.trans H; with_reducible exact H2_) | with_reducible exact H | (rw [hy343]; exact H) | exact H
           have Ny343 := Am hy343
           clear hy343
           obtain rfl := Option.some.inj H
           obtain ⟨Ao16, co16, eo16⟩ := Kd.R_slice HO_0.out
           subst eo16
           have p324 : 0 ≤ (x5_1 : Int) := of_decide_eq_true (by assumption)
           have q324 : x5_1 < (l0.length : Int) := of_decide_eq_true (by assumption)
           obtain ⟨ad324, e324, hx324_0⟩ := Kd.at_int (Kd.R_reads' HO_0.out).2.2 x5_1 p324 q324
           cases e324
           replace p324 := eq_true p324
           replace q324 := eq_true q324
           have p325 : 0 ≤ (x5_1 : Int) := of_decide_eq_true (by assumption)
           have q325 : x5_1 < (l0.length : Int) := of_decide_eq_true (by assumption)
           obtain ⟨ad325, e325, hx325_0⟩ := Kd.at_int (Kd.R_reads' HO_0.out).2.2 x5_1 p325 q325
           obtain rfl : ad324 = ad325 := (by injection e325)
           replace p325 := eq_true p325
           replace q325 := eq_true q325
           go_wp2_with (first | ((refine Gd (N := 34) rfl ?_); refine Kd.R_lit (Kd.int .i64) _ 3 ?hg (N := 34) ?hd (xs := ([] : List Int)) (inner := []) (ok := fun _ => True) (okp := fun _ => True) ?hr ?hp (fun _ hk => hk) trivial (Below.refl _ _) (Nat.le_refl _) (by simp) ?_; (case hd | hg => rfl); (case hr => first | (go_simp; done) | (go_simp; rfl)); (case hp => exact (Reps.none _ _)); intro v327 w17 ho18 hb hg_ hnew_; clear hg_ hnew_; (first | rw [← Ny326.out] at ho18 | (simp only [Int.reduceToNat] at ho18; rw [← Ny326.out] at ho18)); have n0_ := Am (Kd.R_elder' (by (with_reducible repeat (first | apply Ra | apply Rn | apply Rd)); exact HO_0.out) (Kd.R_base ho18) hb); have n1_ := Am (Kd.R_lower (Kd.R_new' (Kd.R_newM (M := fun k_ => (P0_ k_ ∨ w.heap.size ≤ k_)) ho18 (by first | exact HK.out.1 | exact (show Kept w _ (fun k_ => P0_ k_) from by repeat (first | (with_reducible first | exact HK.out | apply Kept.alloc | apply Kept.drewN | apply Kept.drew) | exact HK.out)).1) (fun k_ h_ => .inr h_)) (Kd.R_lt (by (with_reducible repeat (first | apply Ra | apply Rn | apply Rd)); exact HO_0.out))) (Bz (by repeat (first | exact HB.out | apply Ba | apply Bn | apply Bd)))); have n2_ := Am (Kept.below (S := (fun k_ => P0_ k_)) (by repeat (first | (with_reducible first | exact HK.out | apply Kept.alloc | apply Kept.drewN | apply Kept.drew) | exact HK.out)) hb); have n3_ := Am (Bt (by repeat (first | exact HB.out | apply Ba | apply Bn | apply Bd)) hb); clear HO_0; clear HK; clear HB; have HO_0 := n0_; have HO328 := n1_; have HK := n2_; have HB := n3_; clear n0_ n1_ n2_ n3_; clear hb ho18; have q19 : (x5_1 : Int) ≤ ((l0.length : Int) : Int) := of_decide_eq_true (by assumption); obtain ⟨i019, hi019, _, hsz19, _⟩ := info_parts info3; have hroom19 : l0.length ≤ co16 := (Kd.R_reads' HO_0.out).2.1; have hC19 : Kd.C (Kd.int .i64) _ (some ad324) l0.length l0 := (Kd.R_reads' HO_0.out).2.2; have hcut19 := cut_to (P := Try.prog) 31 3 .i64 Try.underlying31 hi019 (some ad324) l0.length co16 x5_1 (of_decide_eq_true (by assumption)) q19 hroom19; have hr19 := Kd.C_take (m := (x5_1 : Int).toNat) hC19 (by omega); have hy19 : y329.length = (x5_1 : Int).toNat := (by rw [Ny329.out, List.length_take]; omega); rw [← Ny329.out] at hr19; rw [← hy19] at hcut19; have HR332 := Am hr19; have HC332 := Am (show y329.length ≤ co16 from by omega); clear hr19 hC19 hroom19 hi019 hsz19; have KY19 := Am hy19; clear hy19; have KL19 := Am (show (x5_1 : Int).toNat ≤ l0.length from by omega); replace q19 := eq_true q19) | ((with_reducible refine gate_builtin (b := .append) (xs := #[.tmp 34, .tmp 37]) rfl ?_); at_builtin; refine Kd.R_append_rows (Kd.int .i64) (w0 := w0) w0.heap.size rfl (.tmp 34) (.tmp 37) 31 3 (.int .i64 0) 8 rfl Try.underlying31 info3 rfl (by decide) (by omega) v327 y326 y329 _ _ _ (fun k_ => (P0_ k_ ∨ w.heap.size ≤ k_) ∧ some k_ ≠ (.slice (some ad324) l0.length co16 : Value).ownBlock) (fun _ => False) rfl rfl ?aO ?aR (fun _ _ h => h) (fun _ h => h.elim) ?aF ?aB ?aS ?aL ?_; (case aR => repeat (first | exact (by repeat (first | (with_reducible exact HR332.out) | (with_reducible refine Kd.C_alloc ?_ _) | (with_reducible refine Kd.C_drewN ?_ _) | (with_reducible refine Kd.C_drew ?_) | exact HR332.out)) | (with_reducible refine Kd.C_alloc ?_ _) | (with_reducible refine Kd.C_drewN ?_ _) | (with_reducible refine Kd.C_drew ?_))); (case aB => exact (by repeat (first | exact HB.out | apply Ba | apply Bn | apply Bd))); (case aF => exact (fun k_ hk => ⟨(.inr (Nat.le_trans (by first | exact HK.out.1 | exact (show Kept w _ (fun k_ => P0_ k_) from by repeat (first | (with_reducible first | exact HK.out | apply Kept.alloc | apply Kept.drewN | apply Kept.drew) | exact HK.out)).1) hk)), Kd.fresh' (Kd.R_lt (by (with_reducible repeat (first | apply Ra | apply Rn | apply Rd)); exact HO_0.out)) k_ hk⟩)); (case aO => exact (by (with_reducible repeat (first | apply Ra | apply Rn | apply Rd)); exact Kd.R_mono HO328.out (fun _ hk => ⟨hk.1.1, hk.2⟩))); (case aS => exact (Bz (by repeat (first | exact HB.out | apply Ba | apply Bn | apply Bd)))); (case aL => have := LMc11.out; omega); intro v334 w20 ho hb hg hat; rw [← Ny333.out] at ho; have n0_ := Am (Kd.R_after (ok := (fun k_ => (P0_ k_ ∨ w.heap.size ≤ k_))) (by (with_reducible repeat (first | apply Ra | apply Rn | apply Rd)); exact HO_0.out) hg hat); have n1_ := Am (hb); have n2_ := Am (Kept.of_grown (S := (fun k_ => P0_ k_)) hg (by repeat (first | (with_reducible first | exact HK.out | apply Kept.alloc | apply Kept.drewN | apply Kept.drew) | exact HK.out)) (fun k_ e_ => (HO328.out.1 k_ e_).1.1)); have n3_ := Am ((show Kd.C (Kd.int .i64) w20 (some ad324) y329.length y329 from by rw [Ny329.out]; exact Kd.C_take (m := (x5_1 : Int).toNat) ((Kd.R_reads' (Kd.R_after (ok := (fun k_ => (P0_ k_ ∨ w.heap.size ≤ k_))) (by (with_reducible repeat (first | apply Ra | apply Rn | apply Rd)); exact HO_0.out) hg hat)).2.2) KL19.out)); have n4_ := Am (ho); clear HO_0; clear HB; clear HK; clear HR332; clear HO328; have HO_0 := n0_; have HB := n1_; have HK := n2_; have HR332 := n3_; have HO335 := n4_; clear n0_ n1_ n2_ n3_ n4_; clear ho hb hg hat) | ((with_reducible refine gate_builtin (b := .append) (xs := #[.tmp 39, .tmp 41]) rfl ?_); at_builtin; refine Kd.R_append (Kd.int .i64) (w0 := w0) w0.heap.size rfl (.tmp 39) (.tmp 41) 31 3 (.int .i64 0) 8 rfl Try.underlying31 info3 rfl (by decide) (by omega) v334 y333 a1 [.int .i64 a1] (fun k_ => (P0_ k_ ∨ w.heap.size ≤ k_) ∧ some k_ ≠ (.slice (some ad324) l0.length co16 : Value).ownBlock) (fun _ => False) rfl rfl ?aP (fun _ hk => hk.elim) ?aF ?aO ?aB ?aS ?aL ?_; (case aP => exact rfl); (case aB => exact (by repeat (first | exact HB.out | apply Ba | apply Bn | apply Bd))); (case aF => exact (fun k_ hk => ⟨(.inr (Nat.le_trans (by first | exact HK.out.1 | exact (show Kept w _ (fun k_ => P0_ k_) from by repeat (first | (with_reducible first | exact HK.out | apply Kept.alloc | apply Kept.drewN | apply Kept.drew) | exact HK.out)).1) hk)), Kd.fresh' (Kd.R_lt (by (with_reducible repeat (first | apply Ra | apply Rn | apply Rd)); exact HO_0.out)) k_ hk⟩)); (case aO => exact (by (with_reducible repeat (first | apply Ra | apply Rn | apply Rd)); exact HO335.out)); (case aS => exact (Bz (by repeat (first | exact HB.out | apply Ba | apply Bn | apply Bd)))); (case aL => have := LMc12.out; omega); intro v337 w21 ho hb hg hat; rw [← Ny336.out] at ho; have n0_ := Am (Kd.R_after (ok := (fun k_ => (P0_ k_ ∨ w.heap.size ≤ k_))) (by (with_reducible repeat (first | apply Ra | apply Rn | apply Rd)); exact HO_0.out) hg hat); have n1_ := Am (hb); have n2_ := Am (Kept.of_grown (S := (fun k_ => P0_ k_)) hg (by repeat (first | (with_reducible first | exact HK.out | apply Kept.alloc | apply Kept.drewN | apply Kept.drew) | exact HK.out)) (fun k_ e_ => (HO335.out.1 k_ e_).1)); have n3_ := Am ((show Kd.C (Kd.int .i64) w21 (some ad324) y329.length y329 from by rw [Ny329.out]; exact Kd.C_take (m := (x5_1 : Int).toNat) ((Kd.R_reads' (Kd.R_after (ok := (fun k_ => (P0_ k_ ∨ w.heap.size ≤ k_))) (by (with_reducible repeat (first | apply Ra | apply Rn | apply Rd)); exact HO_0.out) hg hat)).2.2) KL19.out)); have n4_ := Am (ho); clear HO_0; clear HB; clear HK; clear HR332; clear HO335; have HO_0 := n0_; have HB := n1_; have HK := n2_; have HR332 := n3_; have HO338 := n4_; clear n0_ n1_ n2_ n3_ n4_; clear ho hb hg hat; have q22 : (x5_1 : Int) ≤ ((l0.length : Int) : Int) := of_decide_eq_true (by assumption); obtain ⟨i022, hi022, _, hsz22, _⟩ := info_parts info3; have hroom22 : l0.length ≤ co16 := (Kd.R_reads' HO_0.out).2.1; have hC22 : Kd.C (Kd.int .i64) _ (some ad324) l0.length l0 := (Kd.R_reads' HO_0.out).2.2; have q022 : (0 : Int) ≤ (x5_1 : Int) := of_decide_eq_true (by assumption); have hcut22 := cut_from (P := Try.prog) 31 3 .i64 Try.underlying31 hi022 1 hsz22 (some ad324) l0.length co16 x5_1 q022 q22; have hr22 := Kd.C_drop (m := (x5_1 : Int).toNat) (c := co16) hC22 (by omega) hroom22; obtain ⟨A22, hA22⟩ : ∃ A1, A1 = (if co16 = (x5_1 : Int).toNat then (some ad324) else ((some ad324) : Option Addr).map (·.add ((x5_1 : Int).toNat * 1))) := ⟨_, rfl⟩; obtain ⟨c22, hc22⟩ : ∃ c1, c1 = co16 - (x5_1 : Int).toNat := ⟨_, rfl⟩; have hy22 : y339.length = l0.length - (x5_1 : Int).toNat := (by rw [Ny339.out, List.length_drop] <;> omega); rw [show (l0).drop (x5_1 : Int).toNat = y339 from Ny339.out.symm] at hr22; replace hr22 : Kd.C (Kd.int .i64) _ A22 y339.length y339 := (by rw [hA22]; exact hr22); rw [← hy22, ← hA22, ← hc22] at hcut22; have HR342 := Am hr22; have HC342 := Am (show y339.length ≤ c22 from by rw [hy22, hc22]; exact Nat.sub_le_sub_right hroom22 _); clear hr22 hC22 hroom22 hi022 hsz22 hc22; have KY22 := Am hy22; have KA22 := Am hA22; clear hy22 hA22; have KL22 := Am (show (x5_1 : Int).toNat ≤ l0.length from by omega); replace q22 := eq_true q22) | ((with_reducible refine gate_builtin (b := .append) (xs := #[.tmp 43, .tmp 46]) rfl ?_); at_builtin; refine Kd.R_append_rows (Kd.int .i64) (w0 := w0) w0.heap.size rfl (.tmp 43) (.tmp 46) 31 3 (.int .i64 0) 8 rfl Try.underlying31 info3 rfl (by decide) (by omega) v337 y336 y339 _ _ _ (fun k_ => (P0_ k_ ∨ w.heap.size ≤ k_) ∧ some k_ ≠ (.slice (some ad324) l0.length co16 : Value).ownBlock) (fun _ => False) rfl rfl ?aO ?aR (fun _ _ h => h) (fun _ h => h.elim) ?aF ?aB ?aS ?aL ?_; (case aR => repeat (first | exact (by repeat (first | (with_reducible exact HR342.out) | (with_reducible refine Kd.C_alloc ?_ _) | (with_reducible refine Kd.C_drewN ?_ _) | (with_reducible refine Kd.C_drew ?_) | exact HR342.out)) | (with_reducible refine Kd.C_alloc ?_ _) | (with_reducible refine Kd.C_drewN ?_ _) | (with_reducible refine Kd.C_drew ?_))); (case aB => exact (by repeat (first | exact HB.out | apply Ba | apply Bn | apply Bd))); (case aF => exact (fun k_ hk => ⟨(.inr (Nat.le_trans (by first | exact HK.out.1 | exact (show Kept w _ (fun k_ => P0_ k_) from by repeat (first | (with_reducible first | exact HK.out | apply Kept.alloc | apply Kept.drewN | apply Kept.drew) | exact HK.out)).1) hk)), Kd.fresh' (Kd.R_lt (by (with_reducible repeat (first | apply Ra | apply Rn | apply Rd)); exact HO_0.out)) k_ hk⟩)); (case aO => exact (by (with_reducible repeat (first | apply Ra | apply Rn | apply Rd)); exact HO338.out)); (case aS => exact (Bz (by repeat (first | exact HB.out | apply Ba | apply Bn | apply Bd)))); (case aL => have := LMc15.out; omega); intro v344 w23 ho hb hg hat; rw [← Ny343.out] at ho; have n0_ := Am (Kd.R_after (ok := (fun k_ => (P0_ k_ ∨ w.heap.size ≤ k_))) (by (with_reducible repeat (first | apply Ra | apply Rn | apply Rd)); exact HO_0.out) hg hat); have n1_ := Am (hb); have n2_ := Am (Kept.of_grown (S := (fun k_ => P0_ k_)) hg (by repeat (first | (with_reducible first | exact HK.out | apply Kept.alloc | apply Kept.drewN | apply Kept.drew) | exact HK.out)) (fun k_ e_ => (HO338.out.1 k_ e_).1)); have n3_ := Am ((show Kd.C (Kd.int .i64) w23 (some ad324) y329.length y329 from by rw [Ny329.out]; exact Kd.C_take (m := (x5_1 : Int).toNat) ((Kd.R_reads' (Kd.R_after (ok := (fun k_ => (P0_ k_ ∨ w.heap.size ≤ k_))) (by (with_reducible repeat (first | apply Ra | apply Rn | apply Rd)); exact HO_0.out) hg hat)).2.2) KL19.out)); have n4_ := Am ((show Kd.C (Kd.int .i64) w23 A22 y339.length y339 from by rw [Ny339.out, KA22.out]; exact Kd.C_drop (m := (x5_1 : Int).toNat) (c := co16) ((Kd.R_reads' (Kd.R_after (ok := (fun k_ => (P0_ k_ ∨ w.heap.size ≤ k_))) (by (with_reducible repeat (first | apply Ra | apply Rn | apply Rd)); exact HO_0.out) hg hat)).2.2) KL22.out ((Kd.R_reads' (Kd.R_after (ok := (fun k_ => (P0_ k_ ∨ w.heap.size ≤ k_))) (by (with_reducible repeat (first | apply Ra | apply Rn | apply Rd)); exact HO_0.out) hg hat)).2.1))); have n5_ := Am (ho); clear HO_0; clear HB; clear HK; clear HR332; clear HR342; clear HO338; have HO_0 := n0_; have HB := n1_; have HK := n2_; have HR332 := n3_; have HR342 := n4_; have HO345 := n5_; clear n0_ n1_ n2_ n3_ n4_ n5_; clear ho hb hg hat))
           go_ret
           exact ⟨_, by first | rfl | (simp [*, errW_none, errW_some] <;> rfl), by (with_reducible repeat (first | apply Ra | apply Rn | apply Rd)); exact Kd.R_mono HO345.out (fun _ hk => hk.1), by repeat (first | exact HB.out | apply Ba | apply Bn | apply Bd), by repeat (first | (with_reducible first | exact HK.out | apply Kept.alloc | apply Kept.drewN | apply Kept.drew) | exact HK.out)⟩
          ·rw [if_neg c15] at H
           exact absurd H (by simp)
         ·rw [if_neg c12] at H
          exact absurd H (by simp)
        ·rw [if_neg c11] at H
         exact absurd H (by simp)
       ·rw [if_neg c10] at H
        exact absurd H (by simp)
    ·rw [if_neg c4] at H
     exact absurd H (by simp)
   ·rw [if_neg c3] at H
    have c3b0 : decide (x5_1 < (l0.length : Int)) = false := decide_eq_false c3
    clear c3
    obtain ⟨y346, hy346⟩ : ∃ y_ : List Int, y_ = (([] : List Int)) := ⟨_, rfl⟩
    replace H : (if 0 ≤ x5_1 then (if x5_1 ≤ (l0.length : Int) then ((some (l0.take (x5_1 : Int).toNat : List Int)).bind fun y349 => (if y346.length + y349.length < 17592186044416 then ((some (y346 ++ y349 : List Int)).bind fun y353 => (if y353.length < 17592186044416 then ((some (y353 ++ [a1] : List Int)).bind fun y356 => ((some (l0.drop (x5_1 : Int).toNat : List Int)).bind fun y359 => (if y356.length + y359.length < 17592186044416 then (some (y356 ++ y359)) else (none)))) else (none))) else (none))) else (none)) else (none)) = some r := by first | (rw [hy346]; with_reducible exact H) | (have H2_ := (Option.bind_some _ _).symm.trans H; rw [hy346]; with_reducible exact H2_) | (have H2_ := (Option.bind_some _ _).symm.trans H; with_reducible exact H2_) | with_reducible exact H | (rw [hy346]; exact H) | exact H
    have Ny346 := Am hy346
    clear hy346
    by_cases c24 : 0 ≤ x5_1
    ·rw [if_pos c24] at H
     have c24b0 := eq_true c24
     have c24b1 : decide (0 ≤ x5_1) = true := decide_eq_true c24
     clear c24
     by_cases c25 : x5_1 ≤ (l0.length : Int)
     ·rw [if_pos c25] at H
      have c25b0 := eq_true c25
      have c25b1 : decide (x5_1 ≤ (l0.length : Int)) = true := decide_eq_true c25
      clear c25
      obtain ⟨y349, hy349⟩ : ∃ y_ : List Int, y_ = (l0.take (x5_1 : Int).toNat) := ⟨_, rfl⟩
      replace H : (if y346.length + y349.length < 17592186044416 then ((some (y346 ++ y349 : List Int)).bind fun y353 => (if y353.length < 17592186044416 then ((some (y353 ++ [a1] : List Int)).bind fun y356 => ((some (l0.drop (x5_1 : Int).toNat : List Int)).bind fun y359 => (if y356.length + y359.length < 17592186044416 then (some (y356 ++ y359)) else (none)))) else (none))) else (none)) = some r := by first | (rw [hy349]; with_reducible exact H) | (have H2_ := (Option.bind_some _ _).symm.trans H; rw [hy349]; with_reducible exact H2_) | (have H2_ := (Option.bind_some _ _).symm.trans H; with_reducible exact H2_) | with_reducible exact H | (rw [hy349]; exact H) | exact H
      have Ny349 := Am hy349
      clear hy349
      by_cases c26 : y346.length + y349.length < 17592186044416
      ·rw [if_pos c26] at H
       have LMc26 := Am c26
       clear c26
       obtain ⟨y353, hy353⟩ : ∃ y_ : List Int, y_ = (y346 ++ y349) := ⟨_, rfl⟩
       replace H : (if y353.length < 17592186044416 then ((some (y353 ++ [a1] : List Int)).bind fun y356 => ((some (l0.drop (x5_1 : Int).toNat : List Int)).bind fun y359 => (if y356.length + y359.length < 17592186044416 then (some (y356 ++ y359)) else (none)))) else (none)) = some r := by first | (rw [hy353]; with_reducible exact H) | (have H2_ := (Option.bind_some _ _).symm.trans H; rw [hy353]; with_reducible exact H2_) | (have H2_ := (Option.bind_some _ _).symm.trans H; with_reducible exact H2_) | with_reducible exact H | (rw [hy353]; exact H) | exact H
       have Ny353 := Am hy353
       clear hy353
       by_cases c27 : y353.length < 17592186044416
       ·rw [if_pos c27] at H
        have LMc27 := Am c27
        clear c27
        obtain ⟨y356, hy356⟩ : ∃ y_ : List Int, y_ = (y353 ++ [a1]) := ⟨_, rfl⟩
        replace H : ((some (l0.drop (x5_1 : Int).toNat : List Int)).bind fun y359 => (if y356.length + y359.length < 17592186044416 then (some (y356 ++ y359)) else (none))) = some r := by first | (rw [hy356]; with_reducible exact H) | (have H2_ := (Option.bind_some _ _).symm.trans H; rw [hy356]; with_reducible exact H2_) | (have H2_ := (Option.bind_some _ _).symm.trans H; with_reducible exact H2_) | with_reducible exact H | (rw [hy356]; exact H) | exact H
        have Ny356 := Am hy356
        clear hy356
        have c28b0 := eq_true (of_decide_eq_true (by assumption) : 0 ≤ x5_1)
        have c29b0 := eq_true (of_decide_eq_true (by assumption) : x5_1 ≤ (l0.length : Int))
        obtain ⟨y359, hy359⟩ : ∃ y_ : List Int, y_ = (l0.drop (x5_1 : Int).toNat) := ⟨_, rfl⟩
        replace H : (if y356.length + y359.length < 17592186044416 then (some (y356 ++ y359)) else (none)) = some r := by first | (rw [hy359]; with_reducible exact H) | (have H2_ := (Option.bind_some _ _).symm.trans H; rw [hy359]; with_reducible exact H2_) | (have H2_ := (Option.bind_some _ _).symm.trans H; with_reducible exact H2_) | with_reducible exact H | (rw [hy359]; exact H) | exact H
        have Ny359 := Am hy359
        clear hy359
        by_cases c30 : y356.length + y359.length < 17592186044416
        ·rw [if_pos c30] at H
         have LMc30 := Am c30
         clear c30
         obtain ⟨y363, hy363⟩ : ∃ y_ : List Int, y_ = (y356 ++ y359) := ⟨_, rfl⟩
         replace H : (some y363) = some r := by first | (rw [hy363]; with_reducible exact H) | (have H2_ := (Option.bind_some _ _).symm.trans H; rw [hy363]; with_reducible exact H2_) | (have H2_ := (Option.bind_some _ _).symm.trans H; with_reducible exact H2_) | with_reducible exact H | (rw [hy363]; exact H) | exact H
         have Ny363 := Am hy363
         clear hy363
         obtain rfl := Option.some.inj H
         obtain ⟨Ao31, co31, eo31⟩ := Kd.R_slice HO_0.out
         subst eo31
         go_wp2_with (first | ((refine Gd (N := 34) rfl ?_); refine Kd.R_lit (Kd.int .i64) _ 3 ?hg (N := 34) ?hd (xs := ([] : List Int)) (inner := []) (ok := fun _ => True) (okp := fun _ => True) ?hr ?hp (fun _ hk => hk) trivial (Below.refl _ _) (Nat.le_refl _) (by simp) ?_; (case hd | hg => rfl); (case hr => first | (go_simp; done) | (go_simp; rfl)); (case hp => exact (Reps.none _ _)); intro v347 w32 ho33 hb hg_ hnew_; clear hg_ hnew_; (first | rw [← Ny346.out] at ho33 | (simp only [Int.reduceToNat] at ho33; rw [← Ny346.out] at ho33)); have n0_ := Am (Kd.R_elder' (by (with_reducible repeat (first | apply Ra | apply Rn | apply Rd)); exact HO_0.out) (Kd.R_base ho33) hb); have n1_ := Am (Kd.R_lower (Kd.R_new' (Kd.R_newM (M := fun k_ => (P0_ k_ ∨ w.heap.size ≤ k_)) ho33 (by first | exact HK.out.1 | exact (show Kept w _ (fun k_ => P0_ k_) from by repeat (first | (with_reducible first | exact HK.out | apply Kept.alloc | apply Kept.drewN | apply Kept.drew) | exact HK.out)).1) (fun k_ h_ => .inr h_)) (Kd.R_lt (by (with_reducible repeat (first | apply Ra | apply Rn | apply Rd)); exact HO_0.out))) (Bz (by repeat (first | exact HB.out | apply Ba | apply Bn | apply Bd)))); have n2_ := Am (Kept.below (S := (fun k_ => P0_ k_)) (by repeat (first | (with_reducible first | exact HK.out | apply Kept.alloc | apply Kept.drewN | apply Kept.drew) | exact HK.out)) hb); have n3_ := Am (Bt (by repeat (first | exact HB.out | apply Ba | apply Bn | apply Bd)) hb); clear HO_0; clear HK; clear HB; have HO_0 := n0_; have HO348 := n1_; have HK := n2_; have HB := n3_; clear n0_ n1_ n2_ n3_; clear hb ho33; have q34 : (x5_1 : Int) ≤ ((l0.length : Int) : Int) := of_decide_eq_true (by assumption); obtain ⟨i034, hi034, _, hsz34, _⟩ := info_parts info3; have hroom34 : l0.length ≤ co31 := (Kd.R_reads' HO_0.out).2.1; have hC34 : Kd.C (Kd.int .i64) _ Ao31 l0.length l0 := (Kd.R_reads' HO_0.out).2.2; have hcut34 := cut_to (P := Try.prog) 31 3 .i64 Try.underlying31 hi034 Ao31 l0.length co31 x5_1 (of_decide_eq_true (by assumption)) q34 hroom34; have hr34 := Kd.C_take (m := (x5_1 : Int).toNat) hC34 (by omega); have hy34 : y349.length = (x5_1 : Int).toNat := (by rw [Ny349.out, List.length_take]; omega); rw [← Ny349.out] at hr34; rw [← hy34] at hcut34; have HR352 := Am hr34; have HC352 := Am (show y349.length ≤ co31 from by omega); clear hr34 hC34 hroom34 hi034 hsz34; have KY34 := Am hy34; clear hy34; have KL34 := Am (show (x5_1 : Int).toNat ≤ l0.length from by omega); replace q34 := eq_true q34) | ((with_reducible refine gate_builtin (b := .append) (xs := #[.tmp 34, .tmp 37]) rfl ?_); at_builtin; refine Kd.R_append_rows (Kd.int .i64) (w0 := w0) w0.heap.size rfl (.tmp 34) (.tmp 37) 31 3 (.int .i64 0) 8 rfl Try.underlying31 info3 rfl (by decide) (by omega) v347 y346 y349 _ _ _ (fun k_ => (P0_ k_ ∨ w.heap.size ≤ k_) ∧ some k_ ≠ (.slice Ao31 l0.length co31 : Value).ownBlock) (fun _ => False) rfl rfl ?aO ?aR (fun _ _ h => h) (fun _ h => h.elim) ?aF ?aB ?aS ?aL ?_; (case aR => repeat (first | exact (by repeat (first | (with_reducible exact HR352.out) | (with_reducible refine Kd.C_alloc ?_ _) | (with_reducible refine Kd.C_drewN ?_ _) | (with_reducible refine Kd.C_drew ?_) | exact HR352.out)) | (with_reducible refine Kd.C_alloc ?_ _) | (with_reducible refine Kd.C_drewN ?_ _) | (with_reducible refine Kd.C_drew ?_))); (case aB => exact (by repeat (first | exact HB.out | apply Ba | apply Bn | apply Bd))); (case aF => exact (fun k_ hk => ⟨(.inr (Nat.le_trans (by first | exact HK.out.1 | exact (show Kept w _ (fun k_ => P0_ k_) from by repeat (first | (with_reducible first | exact HK.out | apply Kept.alloc | apply Kept.drewN | apply Kept.drew) | exact HK.out)).1) hk)), Kd.fresh' (Kd.R_lt (by (with_reducible repeat (first | apply Ra | apply Rn | apply Rd)); exact HO_0.out)) k_ hk⟩)); (case aO => exact (by (with_reducible repeat (first | apply Ra | apply Rn | apply Rd)); exact Kd.R_mono HO348.out (fun _ hk => ⟨hk.1.1, hk.2⟩))); (case aS => exact (Bz (by repeat (first | exact HB.out | apply Ba | apply Bn | apply Bd)))); (case aL => have := LMc26.out; omega); intro v354 w35 ho hb hg hat; rw [← Ny353.out] at ho; have n0_ := Am (Kd.R_after (ok := (fun k_ => (P0_ k_ ∨ w.heap.size ≤ k_))) (by (with_reducible repeat (first | apply Ra | apply Rn | apply Rd)); exact HO_0.out) hg hat); have n1_ := Am (hb); have n2_ := Am (Kept.of_grown (S := (fun k_ => P0_ k_)) hg (by repeat (first | (with_reducible first | exact HK.out | apply Kept.alloc | apply Kept.drewN | apply Kept.drew) | exact HK.out)) (fun k_ e_ => (HO348.out.1 k_ e_).1.1)); have n3_ := Am ((show Kd.C (Kd.int .i64) w35 Ao31 y349.length y349 from by rw [Ny349.out]; exact Kd.C_take (m := (x5_1 : Int).toNat) ((Kd.R_reads' (Kd.R_after (ok := (fun k_ => (P0_ k_ ∨ w.heap.size ≤ k_))) (by (with_reducible repeat (first | apply Ra | apply Rn | apply Rd)); exact HO_0.out) hg hat)).2.2) KL34.out)); have n4_ := Am (ho); clear HO_0; clear HB; clear HK; clear HR352; clear HO348; have HO_0 := n0_; have HB := n1_; have HK := n2_; have HR352 := n3_; have HO355 := n4_; clear n0_ n1_ n2_ n3_ n4_; clear ho hb hg hat) | ((with_reducible refine gate_builtin (b := .append) (xs := #[.tmp 39, .tmp 41]) rfl ?_); at_builtin; refine Kd.R_append (Kd.int .i64) (w0 := w0) w0.heap.size rfl (.tmp 39) (.tmp 41) 31 3 (.int .i64 0) 8 rfl Try.underlying31 info3 rfl (by decide) (by omega) v354 y353 a1 [.int .i64 a1] (fun k_ => (P0_ k_ ∨ w.heap.size ≤ k_) ∧ some k_ ≠ (.slice Ao31 l0.length co31 : Value).ownBlock) (fun _ => False) rfl rfl ?aP (fun _ hk => hk.elim) ?aF ?aO ?aB ?aS ?aL ?_; (case aP => exact rfl); (case aB => exact (by repeat (first | exact HB.out | apply Ba | apply Bn | apply Bd))); (case aF => exact (fun k_ hk => ⟨(.inr (Nat.le_trans (by first | exact HK.out.1 | exact (show Kept w _ (fun k_ => P0_ k_) from by repeat (first | (with_reducible first | exact HK.out | apply Kept.alloc | apply Kept.drewN | apply Kept.drew) | exact HK.out)).1) hk)), Kd.fresh' (Kd.R_lt (by (with_reducible repeat (first | apply Ra | apply Rn | apply Rd)); exact HO_0.out)) k_ hk⟩)); (case aO => exact (by (with_reducible repeat (first | apply Ra | apply Rn | apply Rd)); exact HO355.out)); (case aS => exact (Bz (by repeat (first | exact HB.out | apply Ba | apply Bn | apply Bd)))); (case aL => have := LMc27.out; omega); intro v357 w36 ho hb hg hat; rw [← Ny356.out] at ho; have n0_ := Am (Kd.R_after (ok := (fun k_ => (P0_ k_ ∨ w.heap.size ≤ k_))) (by (with_reducible repeat (first | apply Ra | apply Rn | apply Rd)); exact HO_0.out) hg hat); have n1_ := Am (hb); have n2_ := Am (Kept.of_grown (S := (fun k_ => P0_ k_)) hg (by repeat (first | (with_reducible first | exact HK.out | apply Kept.alloc | apply Kept.drewN | apply Kept.drew) | exact HK.out)) (fun k_ e_ => (HO355.out.1 k_ e_).1)); have n3_ := Am ((show Kd.C (Kd.int .i64) w36 Ao31 y349.length y349 from by rw [Ny349.out]; exact Kd.C_take (m := (x5_1 : Int).toNat) ((Kd.R_reads' (Kd.R_after (ok := (fun k_ => (P0_ k_ ∨ w.heap.size ≤ k_))) (by (with_reducible repeat (first | apply Ra | apply Rn | apply Rd)); exact HO_0.out) hg hat)).2.2) KL34.out)); have n4_ := Am (ho); clear HO_0; clear HB; clear HK; clear HR352; clear HO355; have HO_0 := n0_; have HB := n1_; have HK := n2_; have HR352 := n3_; have HO358 := n4_; clear n0_ n1_ n2_ n3_ n4_; clear ho hb hg hat; have q37 : (x5_1 : Int) ≤ ((l0.length : Int) : Int) := of_decide_eq_true (by assumption); obtain ⟨i037, hi037, _, hsz37, _⟩ := info_parts info3; have hroom37 : l0.length ≤ co31 := (Kd.R_reads' HO_0.out).2.1; have hC37 : Kd.C (Kd.int .i64) _ Ao31 l0.length l0 := (Kd.R_reads' HO_0.out).2.2; have q037 : (0 : Int) ≤ (x5_1 : Int) := of_decide_eq_true (by assumption); have hcut37 := cut_from (P := Try.prog) 31 3 .i64 Try.underlying31 hi037 1 hsz37 Ao31 l0.length co31 x5_1 q037 q37; have hr37 := Kd.C_drop (m := (x5_1 : Int).toNat) (c := co31) hC37 (by omega) hroom37; obtain ⟨A37, hA37⟩ : ∃ A1, A1 = (if co31 = (x5_1 : Int).toNat then Ao31 else (Ao31 : Option Addr).map (·.add ((x5_1 : Int).toNat * 1))) := ⟨_, rfl⟩; obtain ⟨c37, hc37⟩ : ∃ c1, c1 = co31 - (x5_1 : Int).toNat := ⟨_, rfl⟩; have hy37 : y359.length = l0.length - (x5_1 : Int).toNat := (by rw [Ny359.out, List.length_drop] <;> omega); rw [show (l0).drop (x5_1 : Int).toNat = y359 from Ny359.out.symm] at hr37; replace hr37 : Kd.C (Kd.int .i64) _ A37 y359.length y359 := (by rw [hA37]; exact hr37); rw [← hy37, ← hA37, ← hc37] at hcut37; have HR362 := Am hr37; have HC362 := Am (show y359.length ≤ c37 from by rw [hy37, hc37]; exact Nat.sub_le_sub_right hroom37 _); clear hr37 hC37 hroom37 hi037 hsz37 hc37; have KY37 := Am hy37; have KA37 := Am hA37; clear hy37 hA37; have KL37 := Am (show (x5_1 : Int).toNat ≤ l0.length from by omega); replace q37 := eq_true q37) | ((with_reducible refine gate_builtin (b := .append) (xs := #[.tmp 43, .tmp 46]) rfl ?_); at_builtin; refine Kd.R_append_rows (Kd.int .i64) (w0 := w0) w0.heap.size rfl (.tmp 43) (.tmp 46) 31 3 (.int .i64 0) 8 rfl Try.underlying31 info3 rfl (by decide) (by omega) v357 y356 y359 _ _ _ (fun k_ => (P0_ k_ ∨ w.heap.size ≤ k_) ∧ some k_ ≠ (.slice Ao31 l0.length co31 : Value).ownBlock) (fun _ => False) rfl rfl ?aO ?aR (fun _ _ h => h) (fun _ h => h.elim) ?aF ?aB ?aS ?aL ?_; (case aR => repeat (first | exact (by repeat (first | (with_reducible exact HR362.out) | (with_reducible refine Kd.C_alloc ?_ _) | (with_reducible refine Kd.C_drewN ?_ _) | (with_reducible refine Kd.C_drew ?_) | exact HR362.out)) | (with_reducible refine Kd.C_alloc ?_ _) | (with_reducible refine Kd.C_drewN ?_ _) | (with_reducible refine Kd.C_drew ?_))); (case aB => exact (by repeat (first | exact HB.out | apply Ba | apply Bn | apply Bd))); (case aF => exact (fun k_ hk => ⟨(.inr (Nat.le_trans (by first | exact HK.out.1 | exact (show Kept w _ (fun k_ => P0_ k_) from by repeat (first | (with_reducible first | exact HK.out | apply Kept.alloc | apply Kept.drewN | apply Kept.drew) | exact HK.out)).1) hk)), Kd.fresh' (Kd.R_lt (by (with_reducible repeat (first | apply Ra | apply Rn | apply Rd)); exact HO_0.out)) k_ hk⟩)); (case aO => exact (by (with_reducible repeat (first | apply Ra | apply Rn | apply Rd)); exact HO358.out)); (case aS => exact (Bz (by repeat (first | exact HB.out | apply Ba | apply Bn | apply Bd)))); (case aL => have := LMc30.out; omega); intro v364 w38 ho hb hg hat; rw [← Ny363.out] at ho; have n0_ := Am (Kd.R_after (ok := (fun k_ => (P0_ k_ ∨ w.heap.size ≤ k_))) (by (with_reducible repeat (first | apply Ra | apply Rn | apply Rd)); exact HO_0.out) hg hat); have n1_ := Am (hb); have n2_ := Am (Kept.of_grown (S := (fun k_ => P0_ k_)) hg (by repeat (first | (with_reducible first | exact HK.out | apply Kept.alloc | apply Kept.drewN | apply Kept.drew) | exact HK.out)) (fun k_ e_ => (HO358.out.1 k_ e_).1)); have n3_ := Am ((show Kd.C (Kd.int .i64) w38 Ao31 y349.length y349 from by rw [Ny349.out]; exact Kd.C_take (m := (x5_1 : Int).toNat) ((Kd.R_reads' (Kd.R_after (ok := (fun k_ => (P0_ k_ ∨ w.heap.size ≤ k_))) (by (with_reducible repeat (first | apply Ra | apply Rn | apply Rd)); exact HO_0.out) hg hat)).2.2) KL34.out)); have n4_ := Am ((show Kd.C (Kd.int .i64) w38 A37 y359.length y359 from by rw [Ny359.out, KA37.out]; exact Kd.C_drop (m := (x5_1 : Int).toNat) (c := co31) ((Kd.R_reads' (Kd.R_after (ok := (fun k_ => (P0_ k_ ∨ w.heap.size ≤ k_))) (by (with_reducible repeat (first | apply Ra | apply Rn | apply Rd)); exact HO_0.out) hg hat)).2.2) KL37.out ((Kd.R_reads' (Kd.R_after (ok := (fun k_ => (P0_ k_ ∨ w.heap.size ≤ k_))) (by (with_reducible repeat (first | apply Ra | apply Rn | apply Rd)); exact HO_0.out) hg hat)).2.1))); have n5_ := Am (ho); clear HO_0; clear HB; clear HK; clear HR352; clear HR362; clear HO358; have HO_0 := n0_; have HB := n1_; have HK := n2_; have HR352 := n3_; have HR362 := n4_; have HO365 := n5_; clear n0_ n1_ n2_ n3_ n4_ n5_; clear ho hb hg hat))
         go_ret
         exact ⟨_, by first | rfl | (simp [*, errW_none, errW_some] <;> rfl), by (with_reducible repeat (first | apply Ra | apply Rn | apply Rd)); exact Kd.R_mono HO365.out (fun _ hk => hk.1), by repeat (first | exact HB.out | apply Ba | apply Bn | apply Bd), by repeat (first | (with_reducible first | exact HK.out | apply Kept.alloc | apply Kept.drewN | apply Kept.drew) | exact HK.out)⟩
        ·rw [if_neg c30] at H
         exact absurd H (by simp)
       ·rw [if_neg c27] at H
        exact absurd H (by simp)
      ·rw [if_neg c26] at H
       exact absurd H (by simp)
     ·rw [if_neg c25] at H
      exact absurd H (by simp)
    ·rw [if_neg c24] at H
     exact absurd H (by simp)
end Go.Proofs.Ytilmcfdhijdhpaa.QFnAttrFor
