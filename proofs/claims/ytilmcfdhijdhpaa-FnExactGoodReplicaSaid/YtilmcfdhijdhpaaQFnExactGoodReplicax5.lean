-- Written by a program of this session (wip/mk.py) over the kit's print: Lean checks it.
import Derived.Test.YtilmcfdhijdhpaaQFnExactGoodReplicax0
import Derived.Test.YtilmcfdhijdhpaaQFnExactGoodReplicax2
import Derived.Test.YtilmcfdhijdhpaaQFnExactGoodReplicax4
namespace Go.Proofs.Ytilmcfdhijdhpaa.QFnExactGoodReplica
open Go.Proofs.YtilmcfdhijdhpaaW.PrintWords renaming below_alloc → Ba, pw_below_drewN → Bn, below_drew1 → Bd, below_set → Bs, below_size → Bz, below_step → Bt, gate_dst → Gd, gate_callee → Gc, box_event → Be, blk_alloc → Ka, blk_drewN → Kn, blk_drew → Ke, blk_below → Kb, blk_cell → Kc, blk_far → Kf, blk_frozen → Kz
open List renaming setIfInBounds_toArray → Lt, set_cons_zero → Lz, set_cons_succ → Ls
open Go.World renaming block_lt_of_cell? → bl_
open Go.Proofs.YtilmcfdhijdhpaaW.PrintWords.Aside0 renaming mk → Am
open Go.Proofs.YtilmcfdhijdhpaaW.PrintWords renaming Aside0 → Ad
open Go.RowKit Go.Proofs.YtilmcfdhijdhpaaW.PrintWords Go.Proofs.YtilmcfdhijdhpaaW.PrintLast Go.Proofs.YtilmcfdhijdhpaaW.PrintMore
attribute [local go_sem] max2_int min2_int max_two min_two max_three min_three max_four min_four   -- for this text's walks alone
set_option linter.unusedVariables false
set_option linter.unusedSimpArgs false
mutual
def spec_GoodTable.j0 : Nat → Bool → Int → List (List (S39)) → Option (Bool)
 | 0, _, _, _ => none
 | k + 1, x18, x152000, x152001 => if x18 = true then (some false) else (spec_GoodTable.l0 k x152001 (x152001.length : Int) 0 x152000 x152001)
def spec_GoodTable.l0 : Nat → List (List (S39)) → Int → Int → Int → List (List (S39)) → Option (Bool)
 | 0, _, _, _, _, _ => none
 | k + 1, x20, x21, x22, x152000, x152001 => if x22 < x21 then (if 0 ≤ x22 then (if x22 < (x20.length : Int) then (spec_GoodTable.l1 k (rd_L11 x20 x22) x20 x21 x22 (rd_L11 x20 x22) ((rd_L11 x20 x22).length : Int) 0 x152000 x152001) else (none)) else (none)) else (some true)
def spec_GoodTable.l1 : Nat → List (S39) → List (List (S39)) → Int → Int → List (S39) → Int → Int → Int → List (List (S39)) → Option (Bool)
 | 0, _, _, _, _, _, _, _, _, _ => none
 | k + 1, x4, x20, x21, x22, x26, x27, x28, x152000, x152001 => if x28 < x27 then (if 0 ≤ x28 then (if x28 < (x26.length : Int) then ((spec_l4Row.f k x152000 ((rd_T39 x26 x28).f0) ((rd_T39 x26 x28).f1) ((rd_T39 x26 x28).f2) ((rd_T39 x26 x28).f3.f0) ((rd_T39 x26 x28).f3.f1) ((rd_T39 x26 x28).f3.f2) ((rd_T39 x26 x28).f3.f3) ((rd_T39 x26 x28).f3.f4) ((rd_T39 x26 x28).f4.f0) ((rd_T39 x26 x28).f4.f1)).bind fun t156 => (if t156 = true then (spec_GoodTable.l1 k x4 x20 x21 x22 x26 x27 (wrap64 (x28 + 1)) x152000 x152001) else (some false))) else (none)) else (none)) else (if (x4.length : Int) > 6 then (some false) else (spec_GoodTable.l0 k x20 x21 (wrap64 (x22 + 1)) x152000 x152001))
end
def spec_GoodTable.f (k : Nat) (a0_0 : Int) (l0_1 : List (List (S39))) : Option (Bool) := (spec_IsGroup.f a0_0).bind fun t152 => (if t152 = true then (spec_GoodTable.j0 k ((l0_1.length : Int) != a0_0) a0_0 l0_1) else (spec_GoodTable.j0 k true a0_0 l0_1))
theorem spec_GoodTable.mono_l : ∀ k, (∀ y0 y1 y2, LeO (spec_GoodTable.j0 k y0 y1 y2) (spec_GoodTable.j0 (k + 1) y0 y1 y2)) ∧ (∀ y0 y1 y2 y3 y4, LeO (spec_GoodTable.l0 k y0 y1 y2 y3 y4) (spec_GoodTable.l0 (k + 1) y0 y1 y2 y3 y4)) ∧ (∀ y0 y1 y2 y3 y4 y5 y6 y7 y8, LeO (spec_GoodTable.l1 k y0 y1 y2 y3 y4 y5 y6 y7 y8) (spec_GoodTable.l1 (k + 1) y0 y1 y2 y3 y4 y5 y6 y7 y8))
 | 0 => ⟨fun _ _ _ r h => by simp [spec_GoodTable.j0] at h, fun _ _ _ _ _ r h => by simp [spec_GoodTable.l0] at h, fun _ _ _ _ _ _ _ _ _ r h => by simp [spec_GoodTable.l1] at h⟩
 | k + 1 => by
  obtain ⟨ih0, ih1, ih2⟩ := spec_GoodTable.mono_l k
  refine ⟨?_, ?_, ?_⟩
  ·intro y0 y1 y2
   unfold spec_GoodTable.j0
   repeat' first
   | (with_reducible exact ih0 _ _ _)
   | (with_reducible exact ih1 _ _ _ _ _)
   | (with_reducible exact ih2 _ _ _ _ _ _ _ _ _)
   | (with_reducible exact spec_l4Row.mono _ _ _ _ _ _ _ _ _ _ _ _)
   | (with_reducible exact LeO.refl _)
   | (with_reducible exact LeO.none _)
   | (with_reducible refine LeO.ite ?_ ?_)
   | (with_reducible refine LeO.bind ?_ (fun _ => ?_))
   | exact ih0 _ _ _
   | exact ih1 _ _ _ _ _
   | exact ih2 _ _ _ _ _ _ _ _ _
   | exact spec_l4Row.mono _ _ _ _ _ _ _ _ _ _ _ _
   | exact LeO.none _
   | refine LeO.ite ?_ ?_
   | refine LeO.bind ?_ (fun _ => ?_)
  ·intro y0 y1 y2 y3 y4
   unfold spec_GoodTable.l0
   repeat' first
   | (with_reducible exact ih0 _ _ _)
   | (with_reducible exact ih1 _ _ _ _ _)
   | (with_reducible exact ih2 _ _ _ _ _ _ _ _ _)
   | (with_reducible exact spec_l4Row.mono _ _ _ _ _ _ _ _ _ _ _ _)
   | (with_reducible exact LeO.refl _)
   | (with_reducible exact LeO.none _)
   | (with_reducible refine LeO.ite ?_ ?_)
   | (with_reducible refine LeO.bind ?_ (fun _ => ?_))
   | exact ih0 _ _ _
   | exact ih1 _ _ _ _ _
   | exact ih2 _ _ _ _ _ _ _ _ _
   | exact spec_l4Row.mono _ _ _ _ _ _ _ _ _ _ _ _
   | exact LeO.none _
   | refine LeO.ite ?_ ?_
   | refine LeO.bind ?_ (fun _ => ?_)
  ·intro y0 y1 y2 y3 y4 y5 y6 y7 y8
   unfold spec_GoodTable.l1
   repeat' first
   | (with_reducible exact ih0 _ _ _)
   | (with_reducible exact ih1 _ _ _ _ _)
   | (with_reducible exact ih2 _ _ _ _ _ _ _ _ _)
   | (with_reducible exact spec_l4Row.mono _ _ _ _ _ _ _ _ _ _ _ _)
   | (with_reducible exact LeO.refl _)
   | (with_reducible exact LeO.none _)
   | (with_reducible refine LeO.ite ?_ ?_)
   | (with_reducible refine LeO.bind ?_ (fun _ => ?_))
   | exact ih0 _ _ _
   | exact ih1 _ _ _ _ _
   | exact ih2 _ _ _ _ _ _ _ _ _
   | exact spec_l4Row.mono _ _ _ _ _ _ _ _ _ _ _ _
   | exact LeO.none _
   | refine LeO.ite ?_ ?_
   | refine LeO.bind ?_ (fun _ => ?_)
theorem spec_GoodTable.mono : ∀ a0 a1 k, LeO (spec_GoodTable.f k a0 a1) (spec_GoodTable.f (k + 1) a0 a1) := by
 intro a0 a1 k
 obtain ⟨ih0, ih1, ih2⟩ := spec_GoodTable.mono_l k
 unfold spec_GoodTable.f
 repeat' first
   | (with_reducible exact ih0 _ _ _)
   | (with_reducible exact ih1 _ _ _ _ _)
   | (with_reducible exact ih2 _ _ _ _ _ _ _ _ _)
   | (with_reducible exact spec_l4Row.mono _ _ _ _ _ _ _ _ _ _ _ _)
   | (with_reducible exact LeO.refl _)
   | (with_reducible exact LeO.none _)
   | (with_reducible refine LeO.ite ?_ ?_)
   | (with_reducible refine LeO.bind ?_ (fun _ => ?_))
   | exact ih0 _ _ _
   | exact ih1 _ _ _ _ _
   | exact ih2 _ _ _ _ _ _ _ _ _
   | exact spec_l4Row.mono _ _ _ _ _ _ _ _ _ _ _ _
   | exact LeO.none _
   | refine LeO.ite ?_ ?_
   | refine LeO.bind ?_ (fun _ => ?_)
set_option maxHeartbeats 8000000 in
set_option maxRecDepth 100000 in
theorem spec_GoodTable.calls (k : Nat) (a0_0 : Int) (A0_1 : Option Addr) (c0_1 : Nat) (l0_1 : List (List (S39))) (r : Bool) (w : World) (hr0_1 : Kd.C (Kd.slice 39 k39) w A0_1 l0_1.length l0_1) (hc0_1 : l0_1.length ≤ c0_1) (h : spec_GoodTable.f k a0_0 l0_1 = some r) :
  Calls Try.prog 32 #[.agg #[.int .i64 a0_0, .slice A0_1 l0_1.length c0_1]] w fun e w' => e = .returned (.bool r) ∧ Below w.heap.size w w' := by
 have hu26 := Try.underlying26
 have hu39 := Try.underlying39
 have HR0_1 := Am hr0_1
 have HC0_1 := Am hc0_1
 clear hr0_1 hc0_1
 have HB := Am (Below.refl w.heap.size w)
 have H : ((spec_IsGroup.f a0_0).bind fun t152 => (if t152 = true then (spec_GoodTable.j0 k ((l0_1.length : Int) != a0_0) a0_0 l0_1) else (spec_GoodTable.j0 k true a0_0 l0_1))) = some r := h
 clear h
 have HC2 := Am H
 clear H
 go_enter Try.func32, Try.ntmps32
 go_upto_region 1 with (first | ((refine Gd (N := 1) rfl ?_); (try (refine gate_guard (by rfl) ?_; dsimp only)); refine Be ?hg (N := 1) ?hd (cs := #[.int .i64 a0_0, .slice A0_1 l0_1.length c0_1]) (t := 26) ?hr ?_; (case hd | hg => rfl); (case hr => first | (go_simp; done) | (go_simp; rfl)); intro gb151 hg w3 hbox hb; have n0_ := Am (Bt (by repeat (first | exact HB.out | apply Ba | apply Bn | apply Bd)) hb); have n1_ := Am (hbox); have n2_ := Am ((by rw [hg]; exact (Bz (by repeat (first | exact HB.out | apply Ba | apply Bn | apply Bd))) : w.heap.size ≤ gb151)); have n3_ := Am ((by rw [hg]; exact (Bz (by repeat (first | exact HB.out | apply Ba | apply Bn | apply Bd))) : w.heap.size ≤ gb151)); clear HB; have HB := n0_; have BK151 := n1_; have GW151 := n2_; have GE151 := n3_; clear n0_ n1_ n2_ n3_; clear hb hbox hg))
 (try simp only [Act.put, Lt, Lz, Ls])
 go_cut [18] (fun v18 wc => ∃ (kq : Nat) (x18_1 : Bool), v18 = .bool x18_1 ∧ Ad (spec_GoodTable.j0 kq x18_1 a0_0 l0_1 = some r) ∧ Ad (kq ≤ k) ∧ Ad (wc.heap[gb151]? = some (.cells #[.int .i64 a0_0, (.slice A0_1 l0_1.length c0_1)] 26 (0, 0))) ∧ Ad (Below w.heap.size w wc))
 case first =>
  have H := HC2.out
  clear HC2
  replace H := Option.bind_eq_some_iff.mp H
  obtain ⟨t152, A40, H⟩ := H
  replace H : (if t152 = true then (spec_GoodTable.j0 k ((l0_1.length : Int) != a0_0) a0_0 l0_1) else (spec_GoodTable.j0 k true a0_0 l0_1)) = some r := H
  have A4 := Am A40
  clear A40
  by_cases c5 : t152 = true
  ·subst c5
   have H1 : (spec_GoodTable.j0 k ((l0_1.length : Int) != a0_0) a0_0 l0_1) = some r := by rw [if_pos rfl] at H; exact H
   clear H
   have H := H1
   clear H1
   have H' := Am H
   clear H
   have hcz6_0 : w3.cell? ⟨gb151, 0, none⟩ = some (.int .i64 a0_0) := (Kc BK151.out 0).trans rfl
   have hcz6_1 : w3.cell? ⟨gb151, 1, none⟩ = some (.slice A0_1 l0_1.length c0_1) := (Kc BK151.out 1).trans rfl
   have hfz6_0 := Kz BK151.out 0
   have hfz6_1 := Kz BK151.out 1
   go_wp2_with (first | ((refine Gc (f := 69) rfl ?_); refine goesL_ (some 9) rfl rfl Try.func69 (by kernel_rfl) rfl #[.int .i64 a0_0] rfl (by first | rfl | (simp only [List.map_toArray, List.map_cons, List.map_nil]; first | done | rfl)) ?_; (with_reducible refine (spec_IsGroup.calls a0_0 true _ A4.out).mono ?_); rintro e w' ⟨rfl, ⟨nd, rfl⟩⟩; refine ⟨_, rfl, ?_⟩))
   go_meet
   case rel => exact ⟨_, (((l0_1.length : Int) != a0_0)), (by first | rfl | (simp; done) | (simp [*]; done)), H', ⟨by first | omega | exact Nat.le_refl _⟩, ⟨by (with_reducible repeat (first | refine Kn ?_ _ | refine Ke ?_ | refine Ka ?_ _)); exact BK151.out⟩, ⟨by repeat (first | (with_reducible first | exact HB.out | apply Ba | apply Bn | apply Bd | refine Bs ?_ GE151.out) | exact HB.out)⟩⟩
  ·replace c5 := Bool.eq_false_iff.mpr c5
   subst c5
   have H1 : (spec_GoodTable.j0 k true a0_0 l0_1) = some r := by rw [if_neg (show ¬ (false = true) by decide)] at H; exact H
   clear H
   have H := H1
   clear H1
   have H' := Am H
   clear H
   have hcz7_0 : w3.cell? ⟨gb151, 0, none⟩ = some (.int .i64 a0_0) := (Kc BK151.out 0).trans rfl
   have hcz7_1 : w3.cell? ⟨gb151, 1, none⟩ = some (.slice A0_1 l0_1.length c0_1) := (Kc BK151.out 1).trans rfl
   have hfz7_0 := Kz BK151.out 0
   have hfz7_1 := Kz BK151.out 1
   go_wp2_with (first | ((refine Gc (f := 69) rfl ?_); refine goesL_ (some 9) rfl rfl Try.func69 (by kernel_rfl) rfl #[.int .i64 a0_0] rfl (by first | rfl | (simp only [List.map_toArray, List.map_cons, List.map_nil]; first | done | rfl)) ?_; (with_reducible refine (spec_IsGroup.calls a0_0 false _ A4.out).mono ?_); rintro e w' ⟨rfl, ⟨nd, rfl⟩⟩; refine ⟨_, rfl, ?_⟩))
   go_meet
   case rel => exact ⟨_, (true), (by first | rfl | (simp; done) | (simp [*]; done)), H', ⟨by first | omega | exact Nat.le_refl _⟩, ⟨by (with_reducible repeat (first | refine Kn ?_ _ | refine Ke ?_ | refine Ka ?_ _)); exact BK151.out⟩, ⟨by repeat (first | (with_reducible first | exact HB.out | apply Ba | apply Bn | apply Bd | refine Bs ?_ GE151.out) | exact HB.out)⟩⟩
 case rest =>
  clear HC2
  try clear p2
  try clear c3
  try clear c5
  try clear c6
  try clear hcz6_0
  try clear hcz6_1
  try clear hcz7_0
  try clear hcz7_1
  try clear hfz6_0
  try clear hfz6_1
  try clear hfz7_0
  try clear hfz7_1
  obtain ⟨kq, x18_1, rfl, HA, HJ1, BK151, HB⟩ := hcut
  cases kq with
  | zero => exact absurd HA.out (by simp [spec_GoodTable.j0])
  | succ kj1 =>
   have H := HA.out
   clear HA
   simp only [spec_GoodTable.j0] at H
   by_cases c8 : x18_1 = true
   ·subst c8
    have H1 : (some false) = some r := by rw [if_pos rfl] at H; exact H
    clear H
    have H := H1
    clear H1
    obtain rfl := Option.some.inj H
    go_wp2
    go_ret
    exact ⟨by first | rfl | (simp [*, errW_none, errW_some] <;> rfl), by repeat (first | (with_reducible first | exact HB.out | apply Ba | apply Bn | apply Bd | refine Bs ?_ GE151.out) | exact HB.out)⟩
   ·replace c8 := Bool.eq_false_iff.mpr c8
    subst c8
    have H1 : (spec_GoodTable.l0 kj1 l0_1 (l0_1.length : Int) 0 a0_0 l0_1) = some r := by rw [if_neg (show ¬ (false = true) by decide)] at H; exact H
    clear H
    have H := H1
    clear H1
    have H' := Am H
    clear H
    have hcz9_0 : wc.cell? ⟨gb151, 0, none⟩ = some (.int .i64 a0_0) := (Kc BK151.out 0).trans rfl
    have hcz9_1 : wc.cell? ⟨gb151, 1, none⟩ = some (.slice A0_1 l0_1.length c0_1) := (Kc BK151.out 1).trans rfl
    have hfz9_0 := Kz BK151.out 0
    have hfz9_1 := Kz BK151.out 1
    go_wp2
    go_loopg [22] kj1 (fun kq v22 w' => ∃ (x22_2 : Int), v22 = .int .i64 x22_2 ∧ Ad (spec_GoodTable.l0 kq l0_1 (l0_1.length : Int) x22_2 a0_0 l0_1 = some r) ∧ Ad (kq ≤ kj1) ∧ Ad (w'.heap[gb151]? = some (.cells #[.int .i64 a0_0, (.slice A0_1 l0_1.length c0_1)] 26 (0, 0))) ∧ Ad (Below w.heap.size w w'))
    case atStart => exact ⟨(0), (by first | rfl | (simp; done) | (simp [*]; done)), H', ⟨Nat.le_refl _⟩, ⟨by (with_reducible repeat (first | refine Kn ?_ _ | refine Ke ?_ | refine Ka ?_ _)); exact BK151.out⟩, ⟨by repeat (first | (with_reducible first | exact HB.out | apply Ba | apply Bn | apply Bd | refine Bs ?_ GE151.out) | exact HB.out)⟩⟩
    case round =>
     clear H'
     try clear p2
     try clear c3
     try clear c5
     try clear c6
     try clear c8
     try clear hcz6_0
     try clear hcz6_1
     try clear hcz7_0
     try clear hcz7_1
     try clear hcz9_0
     try clear hcz9_1
     try clear hfz6_0
     try clear hfz6_1
     try clear hfz7_0
     try clear hfz7_1
     try clear hfz9_0
     try clear hfz9_1
     try clear p2
     obtain ⟨x22_2, rfl, HA, HK2, BK151, HB⟩ := hrel
     cases gk with
     | zero => exact absurd HA.out (by simp [spec_GoodTable.l0])
     | succ k2 =>
      have H := HA.out
      clear HA
      simp only [spec_GoodTable.l0] at H
      by_cases c10 : x22_2 < (l0_1.length : Int)
      ·rw [if_pos c10] at H
       have c10b0 : decide (x22_2 < (l0_1.length : Int)) = true := decide_eq_true c10
       clear c10
       by_cases c11 : 0 ≤ x22_2
       ·rw [if_pos c11] at H
        have c11b0 : decide (0 ≤ x22_2) = true := decide_eq_true c11
        clear c11
        by_cases c12 : x22_2 < (l0_1.length : Int)
        ·rw [if_pos c12] at H
         have c12b0 : decide (x22_2 < (l0_1.length : Int)) = true := decide_eq_true c12
         clear c12
         have H' := Am H
         clear H
         have p153 : 0 ≤ (x22_2 : Int) := of_decide_eq_true (by assumption)
         have q153 : x22_2 < (l0_1.length : Int) := of_decide_eq_true (by assumption)
         obtain ⟨ad153, A153_0, c153_0, e153, hx153_0, hl153_0, hi153_0⟩ := at_L11 HR0_1.out x22_2 p153 q153
         cases e153
         replace hx153_0 := (HB.out.cell (bl_ w _ hx153_0)).trans hx153_0
         have HR153_0 := Am hi153_0
         have HC153_0 := Am hl153_0
         clear hi153_0 hl153_0
         replace p153 := eq_true p153
         replace q153 := eq_true q153
         go_wp2
         go_loopg [28] k2 (fun kq v28 w' => ∃ (x28_3 : Int), v28 = .int .i64 x28_3 ∧ Ad (spec_GoodTable.l1 kq (rd_L11 l0_1 x22_2) l0_1 (l0_1.length : Int) x22_2 (rd_L11 l0_1 x22_2) ((rd_L11 l0_1 x22_2).length : Int) x28_3 a0_0 l0_1 = some r) ∧ Ad (kq ≤ k2) ∧ Ad (w'.heap[gb151]? = some (.cells #[.int .i64 a0_0, (.slice (some ad153) l0_1.length c0_1)] 26 (0, 0))) ∧ Ad (Below w.heap.size w w'))
         case atStart => exact ⟨(0), (by first | rfl | (simp; done) | (simp [*]; done)), H', ⟨Nat.le_refl _⟩, ⟨by (with_reducible repeat (first | refine Kn ?_ _ | refine Ke ?_ | refine Ka ?_ _)); exact BK151.out⟩, ⟨by repeat (first | (with_reducible first | exact HB.out | apply Ba | apply Bn | apply Bd | refine Bs ?_ GE151.out) | exact HB.out)⟩⟩
         case round =>
          clear H'
          try clear c1
          try clear p1
          try clear q1
          try clear hx1
          try clear p2
          try clear c3
          try clear c5
          try clear c6
          try clear c8
          try clear c10
          try clear c10b0
          try clear c11
          try clear c11b0
          try clear c12
          try clear c12b0
          try clear hcz6_0
          try clear hcz6_1
          try clear hcz7_0
          try clear hcz7_1
          try clear hcz9_0
          try clear hcz9_1
          try clear hfz6_0
          try clear hfz6_1
          try clear hfz7_0
          try clear hfz7_1
          try clear hfz9_0
          try clear hfz9_1
          try clear hx153_0
          try clear p153
          try clear p2
          try clear q153
          obtain ⟨x28_3, rfl, HA, HK3, BK151, HB⟩ := hrel
          cases gk with
          | zero => exact absurd HA.out (by simp [spec_GoodTable.l1])
          | succ k3 =>
           have H := HA.out
           clear HA
           simp only [spec_GoodTable.l1] at H
           by_cases c13 : x28_3 < ((rd_L11 l0_1 x22_2).length : Int)
           ·rw [if_pos c13] at H
            have c13b0 : decide (x28_3 < ((rd_L11 l0_1 x22_2).length : Int)) = true := decide_eq_true c13
            clear c13
            by_cases c14 : 0 ≤ x28_3
            ·rw [if_pos c14] at H
             have c14b0 : decide (0 ≤ x28_3) = true := decide_eq_true c14
             clear c14
             by_cases c15 : x28_3 < ((rd_L11 l0_1 x22_2).length : Int)
             ·rw [if_pos c15] at H
              have c15b0 : decide (x28_3 < ((rd_L11 l0_1 x22_2).length : Int)) = true := decide_eq_true c15
              clear c15
              replace H := Option.bind_eq_some_iff.mp H
              obtain ⟨t156, A160, H⟩ := H
              replace H : (if t156 = true then (spec_GoodTable.l1 k3 (rd_L11 l0_1 x22_2) l0_1 (l0_1.length : Int) x22_2 (rd_L11 l0_1 x22_2) ((rd_L11 l0_1 x22_2).length : Int) (wrap64 (x28_3 + 1)) a0_0 l0_1) else (some false)) = some r := H
              have A16 := Am A160
              clear A160
              by_cases c17 : t156 = true
              ·subst c17
               have H1 : (spec_GoodTable.l1 k3 (rd_L11 l0_1 x22_2) l0_1 (l0_1.length : Int) x22_2 (rd_L11 l0_1 x22_2) ((rd_L11 l0_1 x22_2).length : Int) (wrap64 (x28_3 + 1)) a0_0 l0_1) = some r := by rw [if_pos rfl] at H; exact H
               clear H
               have H := H1
               clear H1
               have H' := Am H
               clear H
               have p154 : 0 ≤ (x28_3 : Int) := of_decide_eq_true (by assumption)
               have q154 : x28_3 < ((rd_L11 l0_1 x22_2).length : Int) := of_decide_eq_true (by assumption)
               obtain ⟨ad154, A154_9, c154_9, e154, hx154_0, hx154_1, hx154_2, hx154_3, hx154_4, hx154_5, hx154_6, hx154_7, hx154_8, hx154_9, hl154_9, hi154_9⟩ := at_T39 HR153_0.out x28_3 p154 q154
               cases e154
               replace hx154_0 := (HB.out.cell (bl_ w _ hx154_0)).trans hx154_0
               replace hx154_1 := (HB.out.cell (bl_ w _ hx154_1)).trans hx154_1
               replace hx154_2 := (HB.out.cell (bl_ w _ hx154_2)).trans hx154_2
               replace hx154_3 := (HB.out.cell (bl_ w _ hx154_3)).trans hx154_3
               replace hx154_4 := (HB.out.cell (bl_ w _ hx154_4)).trans hx154_4
               replace hx154_5 := (HB.out.cell (bl_ w _ hx154_5)).trans hx154_5
               replace hx154_6 := (HB.out.cell (bl_ w _ hx154_6)).trans hx154_6
               replace hx154_7 := (HB.out.cell (bl_ w _ hx154_7)).trans hx154_7
               replace hx154_8 := (HB.out.cell (bl_ w _ hx154_8)).trans hx154_8
               replace hx154_9 := (HB.out.cell (bl_ w _ hx154_9)).trans hx154_9
               have HR154_9 := Am hi154_9
               have HC154_9 := Am hl154_9
               clear hi154_9 hl154_9
               replace p154 := eq_true p154
               replace q154 := eq_true q154
               go_wp2_with (first | ((refine Gd (N := 6) rfl ?_); (try (refine gate_guard (by rfl) ?_; dsimp only)); refine Be ?hg (N := 6) ?hd (cs := #[.int .i64 0, .int .i64 0, .int .i64 0, .int .i64 0, .int .i64 0, .int .i64 0, .int .i64 0, .int .i64 0, .int .i64 0, .slice none 0 0]) (t := 39) ?hr ?_; (case hd | hg => rfl); (case hr => first | (go_simp; done) | (go_simp; rfl)); intro gb155 hg w18 hbox hb; have n0_ := Am (Kb (g := gb151) (o := .cells #[.int .i64 a0_0, .slice (some ad153) l0_1.length c0_1] 26 (0, 0)) (by (with_reducible repeat (first | refine Kn ?_ _ | refine Ke ?_ | refine Ka ?_ _)); exact BK151.out) hb); have n1_ := Am (Bt (by repeat (first | (with_reducible first | exact HB.out | apply Ba | apply Bn | apply Bd | refine Bs ?_ GE151.out) | exact HB.out)) hb); have n2_ := Am (hbox); have n3_ := Am ((by rw [hg]; exact (Bz (by repeat (first | (with_reducible first | exact HB.out | apply Ba | apply Bn | apply Bd | refine Bs ?_ GE151.out) | exact HB.out))) : w.heap.size ≤ gb155)); have n4_ := Am ((by rw [hg]; exact (Bz (by repeat (first | (with_reducible first | exact HB.out | apply Ba | apply Bn | apply Bd | refine Bs ?_ GE151.out) | exact HB.out))) : w.heap.size ≤ gb155)); have n5_ := Am ((by rw [hg]; exact Nat.ne_of_lt (blk_lt (g := gb151) (o := .cells #[.int .i64 a0_0, .slice (some ad153) l0_1.length c0_1] 26 (0, 0)) (by (with_reducible repeat (first | refine Kn ?_ _ | refine Ke ?_ | refine Ka ?_ _)); exact BK151.out)) : gb151 ≠ gb155)); have n6_ := Am ((by rw [hg]; exact Nat.ne_of_gt (blk_lt (g := gb151) (o := .cells #[.int .i64 a0_0, .slice (some ad153) l0_1.length c0_1] 26 (0, 0)) (by (with_reducible repeat (first | refine Kn ?_ _ | refine Ke ?_ | refine Ka ?_ _)); exact BK151.out)) : gb155 ≠ gb151)); clear BK151; clear HB; have BK151 := n0_; have HB := n1_; have BK155 := n2_; have GW155 := n3_; have GE155 := n4_; have NB151_155 := n5_; have NB155_151 := n6_; clear n0_ n1_ n2_ n3_ n4_ n5_ n6_; clear hb hbox hg; have hnb19 := NB155_151.out; have hnc19 := NB151_155.out; have hcz20_0 : w18.cell? ⟨gb155, 0, none⟩ = some (.int .i64 0) := (Kc BK155.out 0).trans rfl; have hcz20_1 : w18.cell? ⟨gb155, 1, none⟩ = some (.int .i64 0) := (Kc BK155.out 1).trans rfl; have hcz20_2 : w18.cell? ⟨gb155, 2, none⟩ = some (.int .i64 0) := (Kc BK155.out 2).trans rfl; have hcz20_3 : w18.cell? ⟨gb155, 3, none⟩ = some (.int .i64 0) := (Kc BK155.out 3).trans rfl; have hcz20_4 : w18.cell? ⟨gb155, 4, none⟩ = some (.int .i64 0) := (Kc BK155.out 4).trans rfl; have hcz20_5 : w18.cell? ⟨gb155, 5, none⟩ = some (.int .i64 0) := (Kc BK155.out 5).trans rfl; have hcz20_6 : w18.cell? ⟨gb155, 6, none⟩ = some (.int .i64 0) := (Kc BK155.out 6).trans rfl; have hcz20_7 : w18.cell? ⟨gb155, 7, none⟩ = some (.int .i64 0) := (Kc BK155.out 7).trans rfl; have hcz20_8 : w18.cell? ⟨gb155, 8, none⟩ = some (.int .i64 0) := (Kc BK155.out 8).trans rfl; have hcz20_9 : w18.cell? ⟨gb155, 9, none⟩ = some (.slice none 0 0) := (Kc BK155.out 9).trans rfl; have hfz20_0 := Kz BK155.out 0; have hfz20_1 := Kz BK155.out 1; have hfz20_2 := Kz BK155.out 2; have hfz20_3 := Kz BK155.out 3; have hfz20_4 := Kz BK155.out 4; have hfz20_5 := Kz BK155.out 5; have hfz20_6 := Kz BK155.out 6; have hfz20_7 := Kz BK155.out 7; have hfz20_8 := Kz BK155.out 8; have hfz20_9 := Kz BK155.out 9; have hcz21_0 : w18.cell? ⟨gb151, 0, none⟩ = some (.int .i64 a0_0) := (Kc BK151.out 0).trans rfl; have hcz21_1 : w18.cell? ⟨gb151, 1, none⟩ = some (.slice (some ad153) l0_1.length c0_1) := (Kc BK151.out 1).trans rfl; have hfz21_0 := Kz BK151.out 0; have hfz21_1 := Kz BK151.out 1) | ((refine Gc (f := 70) rfl ?_); refine goesL_ (some 35) rfl rfl Try.func70 (by kernel_rfl) rfl #[.int .i64 a0_0, .agg #[.int .i64 ((rd_T39 (rd_L11 l0_1 x22_2) x28_3).f0), .int .i64 ((rd_T39 (rd_L11 l0_1 x22_2) x28_3).f1), .int .i64 ((rd_T39 (rd_L11 l0_1 x22_2) x28_3).f2), .int .i64 ((rd_T39 (rd_L11 l0_1 x22_2) x28_3).f3.f0), .int .i64 ((rd_T39 (rd_L11 l0_1 x22_2) x28_3).f3.f1), .int .i64 ((rd_T39 (rd_L11 l0_1 x22_2) x28_3).f3.f2), .int .i64 ((rd_T39 (rd_L11 l0_1 x22_2) x28_3).f3.f3), .int .i64 ((rd_T39 (rd_L11 l0_1 x22_2) x28_3).f3.f4), .int .i64 ((rd_T39 (rd_L11 l0_1 x22_2) x28_3).f4.f0), .slice A154_9 ((rd_T39 (rd_L11 l0_1 x22_2) x28_3).f4.f1).length c154_9]] rfl (by first | rfl | (simp only [List.map_toArray, List.map_cons, List.map_nil]; first | done | rfl)) ?_; (with_reducible refine (spec_l4Row.calls k3 a0_0 ((rd_T39 (rd_L11 l0_1 x22_2) x28_3).f0) ((rd_T39 (rd_L11 l0_1 x22_2) x28_3).f1) ((rd_T39 (rd_L11 l0_1 x22_2) x28_3).f2) ((rd_T39 (rd_L11 l0_1 x22_2) x28_3).f3.f0) ((rd_T39 (rd_L11 l0_1 x22_2) x28_3).f3.f1) ((rd_T39 (rd_L11 l0_1 x22_2) x28_3).f3.f2) ((rd_T39 (rd_L11 l0_1 x22_2) x28_3).f3.f3) ((rd_T39 (rd_L11 l0_1 x22_2) x28_3).f3.f4) ((rd_T39 (rd_L11 l0_1 x22_2) x28_3).f4.f0) _ _ ((rd_T39 (rd_L11 l0_1 x22_2) x28_3).f4.f1) true _ ?side1 ?side2 A16.out).mono ?_); (case side1 => exact Kd.C_below HR154_9.out (by repeat (first | (with_reducible first | exact HB.out | apply Ba | apply Bn | apply Bd | refine Bs ?_ GE151.out | refine Bs ?_ GE155.out) | exact HB.out))); (case side2 => exact HC154_9.out); rintro e w22 ⟨rfl, hb⟩; refine ⟨_, rfl, ?_⟩; have n0_ := Am (Kb (g := gb151) (o := .cells #[.int .i64 a0_0, .slice (some ad153) l0_1.length c0_1] 26 (0, 0)) (by (with_reducible repeat (first | refine Kn ?_ _ | refine Ke ?_ | refine Ka ?_ _)); refine Kf ?_ NB151_155.out _; (with_reducible repeat (first | refine Kn ?_ _ | refine Ke ?_ | refine Ka ?_ _)); refine Kf ?_ NB151_155.out _; (with_reducible repeat (first | refine Kn ?_ _ | refine Ke ?_ | refine Ka ?_ _)); refine Kf ?_ NB151_155.out _; (with_reducible repeat (first | refine Kn ?_ _ | refine Ke ?_ | refine Ka ?_ _)); refine Kf ?_ NB151_155.out _; (with_reducible repeat (first | refine Kn ?_ _ | refine Ke ?_ | refine Ka ?_ _)); refine Kf ?_ NB151_155.out _; (with_reducible repeat (first | refine Kn ?_ _ | refine Ke ?_ | refine Ka ?_ _)); refine Kf ?_ NB151_155.out _; (with_reducible repeat (first | refine Kn ?_ _ | refine Ke ?_ | refine Ka ?_ _)); refine Kf ?_ NB151_155.out _; (with_reducible repeat (first | refine Kn ?_ _ | refine Ke ?_ | refine Ka ?_ _)); refine Kf ?_ NB151_155.out _; (with_reducible repeat (first | refine Kn ?_ _ | refine Ke ?_ | refine Ka ?_ _)); refine Kf ?_ NB151_155.out _; (with_reducible repeat (first | refine Kn ?_ _ | refine Ke ?_ | refine Ka ?_ _)); refine Kf ?_ NB151_155.out _; (with_reducible repeat (first | refine Kn ?_ _ | refine Ke ?_ | refine Ka ?_ _)); exact BK151.out) hb); have n1_ := Am (Kb (g := gb155) (o := .cells #[.int .i64 ((rd_T39 (rd_L11 l0_1 x22_2) x28_3).f0), .int .i64 ((rd_T39 (rd_L11 l0_1 x22_2) x28_3).f1), .int .i64 ((rd_T39 (rd_L11 l0_1 x22_2) x28_3).f2), .int .i64 ((rd_T39 (rd_L11 l0_1 x22_2) x28_3).f3.f0), .int .i64 ((rd_T39 (rd_L11 l0_1 x22_2) x28_3).f3.f1), .int .i64 ((rd_T39 (rd_L11 l0_1 x22_2) x28_3).f3.f2), .int .i64 ((rd_T39 (rd_L11 l0_1 x22_2) x28_3).f3.f3), .int .i64 ((rd_T39 (rd_L11 l0_1 x22_2) x28_3).f3.f4), .int .i64 ((rd_T39 (rd_L11 l0_1 x22_2) x28_3).f4.f0), .slice A154_9 ((rd_T39 (rd_L11 l0_1 x22_2) x28_3).f4.f1).length c154_9] 39 (0, 0)) (by (with_reducible repeat (first | refine Kn ?_ _ | refine Ke ?_ | refine Ka ?_ _)); refine blk_put (cs := #[.int .i64 ((rd_T39 (rd_L11 l0_1 x22_2) x28_3).f0), .int .i64 ((rd_T39 (rd_L11 l0_1 x22_2) x28_3).f1), .int .i64 ((rd_T39 (rd_L11 l0_1 x22_2) x28_3).f2), .int .i64 ((rd_T39 (rd_L11 l0_1 x22_2) x28_3).f3.f0), .int .i64 ((rd_T39 (rd_L11 l0_1 x22_2) x28_3).f3.f1), .int .i64 ((rd_T39 (rd_L11 l0_1 x22_2) x28_3).f3.f2), .int .i64 ((rd_T39 (rd_L11 l0_1 x22_2) x28_3).f3.f3), .int .i64 ((rd_T39 (rd_L11 l0_1 x22_2) x28_3).f3.f4), .int .i64 ((rd_T39 (rd_L11 l0_1 x22_2) x28_3).f4.f0), .slice none 0 0]) ?_ 9 _ rfl; (with_reducible repeat (first | refine Kn ?_ _ | refine Ke ?_ | refine Ka ?_ _)); refine blk_put (cs := #[.int .i64 ((rd_T39 (rd_L11 l0_1 x22_2) x28_3).f0), .int .i64 ((rd_T39 (rd_L11 l0_1 x22_2) x28_3).f1), .int .i64 ((rd_T39 (rd_L11 l0_1 x22_2) x28_3).f2), .int .i64 ((rd_T39 (rd_L11 l0_1 x22_2) x28_3).f3.f0), .int .i64 ((rd_T39 (rd_L11 l0_1 x22_2) x28_3).f3.f1), .int .i64 ((rd_T39 (rd_L11 l0_1 x22_2) x28_3).f3.f2), .int .i64 ((rd_T39 (rd_L11 l0_1 x22_2) x28_3).f3.f3), .int .i64 ((rd_T39 (rd_L11 l0_1 x22_2) x28_3).f3.f4), .int .i64 0, .slice none 0 0]) ?_ 8 _ rfl; (with_reducible repeat (first | refine Kn ?_ _ | refine Ke ?_ | refine Ka ?_ _)); refine blk_put (cs := #[.int .i64 ((rd_T39 (rd_L11 l0_1 x22_2) x28_3).f0), .int .i64 ((rd_T39 (rd_L11 l0_1 x22_2) x28_3).f1), .int .i64 ((rd_T39 (rd_L11 l0_1 x22_2) x28_3).f2), .int .i64 ((rd_T39 (rd_L11 l0_1 x22_2) x28_3).f3.f0), .int .i64 ((rd_T39 (rd_L11 l0_1 x22_2) x28_3).f3.f1), .int .i64 ((rd_T39 (rd_L11 l0_1 x22_2) x28_3).f3.f2), .int .i64 ((rd_T39 (rd_L11 l0_1 x22_2) x28_3).f3.f3), .int .i64 0, .int .i64 0, .slice none 0 0]) ?_ 7 _ rfl; (with_reducible repeat (first | refine Kn ?_ _ | refine Ke ?_ | refine Ka ?_ _)); refine blk_put (cs := #[.int .i64 ((rd_T39 (rd_L11 l0_1 x22_2) x28_3).f0), .int .i64 ((rd_T39 (rd_L11 l0_1 x22_2) x28_3).f1), .int .i64 ((rd_T39 (rd_L11 l0_1 x22_2) x28_3).f2), .int .i64 ((rd_T39 (rd_L11 l0_1 x22_2) x28_3).f3.f0), .int .i64 ((rd_T39 (rd_L11 l0_1 x22_2) x28_3).f3.f1), .int .i64 ((rd_T39 (rd_L11 l0_1 x22_2) x28_3).f3.f2), .int .i64 0, .int .i64 0, .int .i64 0, .slice none 0 0]) ?_ 6 _ rfl; (with_reducible repeat (first | refine Kn ?_ _ | refine Ke ?_ | refine Ka ?_ _)); refine blk_put (cs := #[.int .i64 ((rd_T39 (rd_L11 l0_1 x22_2) x28_3).f0), .int .i64 ((rd_T39 (rd_L11 l0_1 x22_2) x28_3).f1), .int .i64 ((rd_T39 (rd_L11 l0_1 x22_2) x28_3).f2), .int .i64 ((rd_T39 (rd_L11 l0_1 x22_2) x28_3).f3.f0), .int .i64 ((rd_T39 (rd_L11 l0_1 x22_2) x28_3).f3.f1), .int .i64 0, .int .i64 0, .int .i64 0, .int .i64 0, .slice none 0 0]) ?_ 5 _ rfl; (with_reducible repeat (first | refine Kn ?_ _ | refine Ke ?_ | refine Ka ?_ _)); refine blk_put (cs := #[.int .i64 ((rd_T39 (rd_L11 l0_1 x22_2) x28_3).f0), .int .i64 ((rd_T39 (rd_L11 l0_1 x22_2) x28_3).f1), .int .i64 ((rd_T39 (rd_L11 l0_1 x22_2) x28_3).f2), .int .i64 ((rd_T39 (rd_L11 l0_1 x22_2) x28_3).f3.f0), .int .i64 0, .int .i64 0, .int .i64 0, .int .i64 0, .int .i64 0, .slice none 0 0]) ?_ 4 _ rfl; (with_reducible repeat (first | refine Kn ?_ _ | refine Ke ?_ | refine Ka ?_ _)); refine blk_put (cs := #[.int .i64 ((rd_T39 (rd_L11 l0_1 x22_2) x28_3).f0), .int .i64 ((rd_T39 (rd_L11 l0_1 x22_2) x28_3).f1), .int .i64 ((rd_T39 (rd_L11 l0_1 x22_2) x28_3).f2), .int .i64 0, .int .i64 0, .int .i64 0, .int .i64 0, .int .i64 0, .int .i64 0, .slice none 0 0]) ?_ 3 _ rfl; (with_reducible repeat (first | refine Kn ?_ _ | refine Ke ?_ | refine Ka ?_ _)); refine blk_put (cs := #[.int .i64 ((rd_T39 (rd_L11 l0_1 x22_2) x28_3).f0), .int .i64 ((rd_T39 (rd_L11 l0_1 x22_2) x28_3).f1), .int .i64 0, .int .i64 0, .int .i64 0, .int .i64 0, .int .i64 0, .int .i64 0, .int .i64 0, .slice none 0 0]) ?_ 2 _ rfl; (with_reducible repeat (first | refine Kn ?_ _ | refine Ke ?_ | refine Ka ?_ _)); refine blk_put (cs := #[.int .i64 ((rd_T39 (rd_L11 l0_1 x22_2) x28_3).f0), .int .i64 0, .int .i64 0, .int .i64 0, .int .i64 0, .int .i64 0, .int .i64 0, .int .i64 0, .int .i64 0, .slice none 0 0]) ?_ 1 _ rfl; (with_reducible repeat (first | refine Kn ?_ _ | refine Ke ?_ | refine Ka ?_ _)); refine blk_put (cs := #[.int .i64 0, .int .i64 0, .int .i64 0, .int .i64 0, .int .i64 0, .int .i64 0, .int .i64 0, .int .i64 0, .int .i64 0, .slice none 0 0]) ?_ 0 _ rfl; (with_reducible repeat (first | refine Kn ?_ _ | refine Ke ?_ | refine Ka ?_ _)); exact BK155.out) hb); have n2_ := Am (Bt (by repeat (first | (with_reducible first | exact HB.out | apply Ba | apply Bn | apply Bd | refine Bs ?_ GE151.out | refine Bs ?_ GE155.out) | exact HB.out)) hb); clear BK151; clear BK155; clear HB; have BK151 := n0_; have BK155 := n1_; have HB := n2_; clear n0_ n1_ n2_; (try clear hb); (try clear hb2); (try clear hk); (try clear hi)))
               go_roundg k3
               case measure => have := HJ1.out; have := HK2.out; have := HK3.out; omega
               case rel => exact ⟨(wrap64 (x28_3 + 1)), (by first | rfl | (simp; done) | (simp [*]; done)), H', ⟨by have := HJ1.out; have := HK2.out; have := HK3.out; omega⟩, ⟨by (with_reducible repeat (first | refine Kn ?_ _ | refine Ke ?_ | refine Ka ?_ _)); exact BK151.out⟩, ⟨by repeat (first | (with_reducible first | exact HB.out | apply Ba | apply Bn | apply Bd | refine Bs ?_ GE151.out | refine Bs ?_ GE155.out) | exact HB.out)⟩⟩
              ·replace c17 := Bool.eq_false_iff.mpr c17
               subst c17
               have H1 : (some false) = some r := by rw [if_neg (show ¬ (false = true) by decide)] at H; exact H
               clear H
               have H := H1
               clear H1
               obtain rfl := Option.some.inj H
               have p154 : 0 ≤ (x28_3 : Int) := of_decide_eq_true (by assumption)
               have q154 : x28_3 < ((rd_L11 l0_1 x22_2).length : Int) := of_decide_eq_true (by assumption)
               obtain ⟨ad154, A154_9, c154_9, e154, hx154_0, hx154_1, hx154_2, hx154_3, hx154_4, hx154_5, hx154_6, hx154_7, hx154_8, hx154_9, hl154_9, hi154_9⟩ := at_T39 HR153_0.out x28_3 p154 q154
               cases e154
               replace hx154_0 := (HB.out.cell (bl_ w _ hx154_0)).trans hx154_0
               replace hx154_1 := (HB.out.cell (bl_ w _ hx154_1)).trans hx154_1
               replace hx154_2 := (HB.out.cell (bl_ w _ hx154_2)).trans hx154_2
               replace hx154_3 := (HB.out.cell (bl_ w _ hx154_3)).trans hx154_3
               replace hx154_4 := (HB.out.cell (bl_ w _ hx154_4)).trans hx154_4
               replace hx154_5 := (HB.out.cell (bl_ w _ hx154_5)).trans hx154_5
               replace hx154_6 := (HB.out.cell (bl_ w _ hx154_6)).trans hx154_6
               replace hx154_7 := (HB.out.cell (bl_ w _ hx154_7)).trans hx154_7
               replace hx154_8 := (HB.out.cell (bl_ w _ hx154_8)).trans hx154_8
               replace hx154_9 := (HB.out.cell (bl_ w _ hx154_9)).trans hx154_9
               have HR154_9 := Am hi154_9
               have HC154_9 := Am hl154_9
               clear hi154_9 hl154_9
               replace p154 := eq_true p154
               replace q154 := eq_true q154
               go_wp2_with (first | ((refine Gd (N := 6) rfl ?_); (try (refine gate_guard (by rfl) ?_; dsimp only)); refine Be ?hg (N := 6) ?hd (cs := #[.int .i64 0, .int .i64 0, .int .i64 0, .int .i64 0, .int .i64 0, .int .i64 0, .int .i64 0, .int .i64 0, .int .i64 0, .slice none 0 0]) (t := 39) ?hr ?_; (case hd | hg => rfl); (case hr => first | (go_simp; done) | (go_simp; rfl)); intro gb155 hg w23 hbox hb; have n0_ := Am (Kb (g := gb151) (o := .cells #[.int .i64 a0_0, .slice (some ad153) l0_1.length c0_1] 26 (0, 0)) (by (with_reducible repeat (first | refine Kn ?_ _ | refine Ke ?_ | refine Ka ?_ _)); exact BK151.out) hb); have n1_ := Am (Bt (by repeat (first | (with_reducible first | exact HB.out | apply Ba | apply Bn | apply Bd | refine Bs ?_ GE151.out) | exact HB.out)) hb); have n2_ := Am (hbox); have n3_ := Am ((by rw [hg]; exact (Bz (by repeat (first | (with_reducible first | exact HB.out | apply Ba | apply Bn | apply Bd | refine Bs ?_ GE151.out) | exact HB.out))) : w.heap.size ≤ gb155)); have n4_ := Am ((by rw [hg]; exact (Bz (by repeat (first | (with_reducible first | exact HB.out | apply Ba | apply Bn | apply Bd | refine Bs ?_ GE151.out) | exact HB.out))) : w.heap.size ≤ gb155)); have n5_ := Am ((by rw [hg]; exact Nat.ne_of_lt (blk_lt (g := gb151) (o := .cells #[.int .i64 a0_0, .slice (some ad153) l0_1.length c0_1] 26 (0, 0)) (by (with_reducible repeat (first | refine Kn ?_ _ | refine Ke ?_ | refine Ka ?_ _)); exact BK151.out)) : gb151 ≠ gb155)); have n6_ := Am ((by rw [hg]; exact Nat.ne_of_gt (blk_lt (g := gb151) (o := .cells #[.int .i64 a0_0, .slice (some ad153) l0_1.length c0_1] 26 (0, 0)) (by (with_reducible repeat (first | refine Kn ?_ _ | refine Ke ?_ | refine Ka ?_ _)); exact BK151.out)) : gb155 ≠ gb151)); clear BK151; clear HB; have BK151 := n0_; have HB := n1_; have BK155 := n2_; have GW155 := n3_; have GE155 := n4_; have NB151_155 := n5_; have NB155_151 := n6_; clear n0_ n1_ n2_ n3_ n4_ n5_ n6_; clear hb hbox hg; have hnb24 := NB155_151.out; have hnc24 := NB151_155.out; have hcz25_0 : w23.cell? ⟨gb155, 0, none⟩ = some (.int .i64 0) := (Kc BK155.out 0).trans rfl; have hcz25_1 : w23.cell? ⟨gb155, 1, none⟩ = some (.int .i64 0) := (Kc BK155.out 1).trans rfl; have hcz25_2 : w23.cell? ⟨gb155, 2, none⟩ = some (.int .i64 0) := (Kc BK155.out 2).trans rfl; have hcz25_3 : w23.cell? ⟨gb155, 3, none⟩ = some (.int .i64 0) := (Kc BK155.out 3).trans rfl; have hcz25_4 : w23.cell? ⟨gb155, 4, none⟩ = some (.int .i64 0) := (Kc BK155.out 4).trans rfl; have hcz25_5 : w23.cell? ⟨gb155, 5, none⟩ = some (.int .i64 0) := (Kc BK155.out 5).trans rfl; have hcz25_6 : w23.cell? ⟨gb155, 6, none⟩ = some (.int .i64 0) := (Kc BK155.out 6).trans rfl; have hcz25_7 : w23.cell? ⟨gb155, 7, none⟩ = some (.int .i64 0) := (Kc BK155.out 7).trans rfl; have hcz25_8 : w23.cell? ⟨gb155, 8, none⟩ = some (.int .i64 0) := (Kc BK155.out 8).trans rfl; have hcz25_9 : w23.cell? ⟨gb155, 9, none⟩ = some (.slice none 0 0) := (Kc BK155.out 9).trans rfl; have hfz25_0 := Kz BK155.out 0; have hfz25_1 := Kz BK155.out 1; have hfz25_2 := Kz BK155.out 2; have hfz25_3 := Kz BK155.out 3; have hfz25_4 := Kz BK155.out 4; have hfz25_5 := Kz BK155.out 5; have hfz25_6 := Kz BK155.out 6; have hfz25_7 := Kz BK155.out 7; have hfz25_8 := Kz BK155.out 8; have hfz25_9 := Kz BK155.out 9; have hcz26_0 : w23.cell? ⟨gb151, 0, none⟩ = some (.int .i64 a0_0) := (Kc BK151.out 0).trans rfl; have hcz26_1 : w23.cell? ⟨gb151, 1, none⟩ = some (.slice (some ad153) l0_1.length c0_1) := (Kc BK151.out 1).trans rfl; have hfz26_0 := Kz BK151.out 0; have hfz26_1 := Kz BK151.out 1) | ((refine Gc (f := 70) rfl ?_); refine goesL_ (some 35) rfl rfl Try.func70 (by kernel_rfl) rfl #[.int .i64 a0_0, .agg #[.int .i64 ((rd_T39 (rd_L11 l0_1 x22_2) x28_3).f0), .int .i64 ((rd_T39 (rd_L11 l0_1 x22_2) x28_3).f1), .int .i64 ((rd_T39 (rd_L11 l0_1 x22_2) x28_3).f2), .int .i64 ((rd_T39 (rd_L11 l0_1 x22_2) x28_3).f3.f0), .int .i64 ((rd_T39 (rd_L11 l0_1 x22_2) x28_3).f3.f1), .int .i64 ((rd_T39 (rd_L11 l0_1 x22_2) x28_3).f3.f2), .int .i64 ((rd_T39 (rd_L11 l0_1 x22_2) x28_3).f3.f3), .int .i64 ((rd_T39 (rd_L11 l0_1 x22_2) x28_3).f3.f4), .int .i64 ((rd_T39 (rd_L11 l0_1 x22_2) x28_3).f4.f0), .slice A154_9 ((rd_T39 (rd_L11 l0_1 x22_2) x28_3).f4.f1).length c154_9]] rfl (by first | rfl | (simp only [List.map_toArray, List.map_cons, List.map_nil]; first | done | rfl)) ?_; (with_reducible refine (spec_l4Row.calls k3 a0_0 ((rd_T39 (rd_L11 l0_1 x22_2) x28_3).f0) ((rd_T39 (rd_L11 l0_1 x22_2) x28_3).f1) ((rd_T39 (rd_L11 l0_1 x22_2) x28_3).f2) ((rd_T39 (rd_L11 l0_1 x22_2) x28_3).f3.f0) ((rd_T39 (rd_L11 l0_1 x22_2) x28_3).f3.f1) ((rd_T39 (rd_L11 l0_1 x22_2) x28_3).f3.f2) ((rd_T39 (rd_L11 l0_1 x22_2) x28_3).f3.f3) ((rd_T39 (rd_L11 l0_1 x22_2) x28_3).f3.f4) ((rd_T39 (rd_L11 l0_1 x22_2) x28_3).f4.f0) _ _ ((rd_T39 (rd_L11 l0_1 x22_2) x28_3).f4.f1) false _ ?side1 ?side2 A16.out).mono ?_); (case side1 => exact Kd.C_below HR154_9.out (by repeat (first | (with_reducible first | exact HB.out | apply Ba | apply Bn | apply Bd | refine Bs ?_ GE151.out | refine Bs ?_ GE155.out) | exact HB.out))); (case side2 => exact HC154_9.out); rintro e w27 ⟨rfl, hb⟩; refine ⟨_, rfl, ?_⟩; have n0_ := Am (Kb (g := gb151) (o := .cells #[.int .i64 a0_0, .slice (some ad153) l0_1.length c0_1] 26 (0, 0)) (by (with_reducible repeat (first | refine Kn ?_ _ | refine Ke ?_ | refine Ka ?_ _)); refine Kf ?_ NB151_155.out _; (with_reducible repeat (first | refine Kn ?_ _ | refine Ke ?_ | refine Ka ?_ _)); refine Kf ?_ NB151_155.out _; (with_reducible repeat (first | refine Kn ?_ _ | refine Ke ?_ | refine Ka ?_ _)); refine Kf ?_ NB151_155.out _; (with_reducible repeat (first | refine Kn ?_ _ | refine Ke ?_ | refine Ka ?_ _)); refine Kf ?_ NB151_155.out _; (with_reducible repeat (first | refine Kn ?_ _ | refine Ke ?_ | refine Ka ?_ _)); refine Kf ?_ NB151_155.out _; (with_reducible repeat (first | refine Kn ?_ _ | refine Ke ?_ | refine Ka ?_ _)); refine Kf ?_ NB151_155.out _; (with_reducible repeat (first | refine Kn ?_ _ | refine Ke ?_ | refine Ka ?_ _)); refine Kf ?_ NB151_155.out _; (with_reducible repeat (first | refine Kn ?_ _ | refine Ke ?_ | refine Ka ?_ _)); refine Kf ?_ NB151_155.out _; (with_reducible repeat (first | refine Kn ?_ _ | refine Ke ?_ | refine Ka ?_ _)); refine Kf ?_ NB151_155.out _; (with_reducible repeat (first | refine Kn ?_ _ | refine Ke ?_ | refine Ka ?_ _)); refine Kf ?_ NB151_155.out _; (with_reducible repeat (first | refine Kn ?_ _ | refine Ke ?_ | refine Ka ?_ _)); exact BK151.out) hb); have n1_ := Am (Kb (g := gb155) (o := .cells #[.int .i64 ((rd_T39 (rd_L11 l0_1 x22_2) x28_3).f0), .int .i64 ((rd_T39 (rd_L11 l0_1 x22_2) x28_3).f1), .int .i64 ((rd_T39 (rd_L11 l0_1 x22_2) x28_3).f2), .int .i64 ((rd_T39 (rd_L11 l0_1 x22_2) x28_3).f3.f0), .int .i64 ((rd_T39 (rd_L11 l0_1 x22_2) x28_3).f3.f1), .int .i64 ((rd_T39 (rd_L11 l0_1 x22_2) x28_3).f3.f2), .int .i64 ((rd_T39 (rd_L11 l0_1 x22_2) x28_3).f3.f3), .int .i64 ((rd_T39 (rd_L11 l0_1 x22_2) x28_3).f3.f4), .int .i64 ((rd_T39 (rd_L11 l0_1 x22_2) x28_3).f4.f0), .slice A154_9 ((rd_T39 (rd_L11 l0_1 x22_2) x28_3).f4.f1).length c154_9] 39 (0, 0)) (by (with_reducible repeat (first | refine Kn ?_ _ | refine Ke ?_ | refine Ka ?_ _)); refine blk_put (cs := #[.int .i64 ((rd_T39 (rd_L11 l0_1 x22_2) x28_3).f0), .int .i64 ((rd_T39 (rd_L11 l0_1 x22_2) x28_3).f1), .int .i64 ((rd_T39 (rd_L11 l0_1 x22_2) x28_3).f2), .int .i64 ((rd_T39 (rd_L11 l0_1 x22_2) x28_3).f3.f0), .int .i64 ((rd_T39 (rd_L11 l0_1 x22_2) x28_3).f3.f1), .int .i64 ((rd_T39 (rd_L11 l0_1 x22_2) x28_3).f3.f2), .int .i64 ((rd_T39 (rd_L11 l0_1 x22_2) x28_3).f3.f3), .int .i64 ((rd_T39 (rd_L11 l0_1 x22_2) x28_3).f3.f4), .int .i64 ((rd_T39 (rd_L11 l0_1 x22_2) x28_3).f4.f0), .slice none 0 0]) ?_ 9 _ rfl; (with_reducible repeat (first | refine Kn ?_ _ | refine Ke ?_ | refine Ka ?_ _)); refine blk_put (cs := #[.int .i64 ((rd_T39 (rd_L11 l0_1 x22_2) x28_3).f0), .int .i64 ((rd_T39 (rd_L11 l0_1 x22_2) x28_3).f1), .int .i64 ((rd_T39 (rd_L11 l0_1 x22_2) x28_3).f2), .int .i64 ((rd_T39 (rd_L11 l0_1 x22_2) x28_3).f3.f0), .int .i64 ((rd_T39 (rd_L11 l0_1 x22_2) x28_3).f3.f1), .int .i64 ((rd_T39 (rd_L11 l0_1 x22_2) x28_3).f3.f2), .int .i64 ((rd_T39 (rd_L11 l0_1 x22_2) x28_3).f3.f3), .int .i64 ((rd_T39 (rd_L11 l0_1 x22_2) x28_3).f3.f4), .int .i64 0, .slice none 0 0]) ?_ 8 _ rfl; (with_reducible repeat (first | refine Kn ?_ _ | refine Ke ?_ | refine Ka ?_ _)); refine blk_put (cs := #[.int .i64 ((rd_T39 (rd_L11 l0_1 x22_2) x28_3).f0), .int .i64 ((rd_T39 (rd_L11 l0_1 x22_2) x28_3).f1), .int .i64 ((rd_T39 (rd_L11 l0_1 x22_2) x28_3).f2), .int .i64 ((rd_T39 (rd_L11 l0_1 x22_2) x28_3).f3.f0), .int .i64 ((rd_T39 (rd_L11 l0_1 x22_2) x28_3).f3.f1), .int .i64 ((rd_T39 (rd_L11 l0_1 x22_2) x28_3).f3.f2), .int .i64 ((rd_T39 (rd_L11 l0_1 x22_2) x28_3).f3.f3), .int .i64 0, .int .i64 0, .slice none 0 0]) ?_ 7 _ rfl; (with_reducible repeat (first | refine Kn ?_ _ | refine Ke ?_ | refine Ka ?_ _)); refine blk_put (cs := #[.int .i64 ((rd_T39 (rd_L11 l0_1 x22_2) x28_3).f0), .int .i64 ((rd_T39 (rd_L11 l0_1 x22_2) x28_3).f1), .int .i64 ((rd_T39 (rd_L11 l0_1 x22_2) x28_3).f2), .int .i64 ((rd_T39 (rd_L11 l0_1 x22_2) x28_3).f3.f0), .int .i64 ((rd_T39 (rd_L11 l0_1 x22_2) x28_3).f3.f1), .int .i64 ((rd_T39 (rd_L11 l0_1 x22_2) x28_3).f3.f2), .int .i64 0, .int .i64 0, .int .i64 0, .slice none 0 0]) ?_ 6 _ rfl; (with_reducible repeat (first | refine Kn ?_ _ | refine Ke ?_ | refine Ka ?_ _)); refine blk_put (cs := #[.int .i64 ((rd_T39 (rd_L11 l0_1 x22_2) x28_3).f0), .int .i64 ((rd_T39 (rd_L11 l0_1 x22_2) x28_3).f1), .int .i64 ((rd_T39 (rd_L11 l0_1 x22_2) x28_3).f2), .int .i64 ((rd_T39 (rd_L11 l0_1 x22_2) x28_3).f3.f0), .int .i64 ((rd_T39 (rd_L11 l0_1 x22_2) x28_3).f3.f1), .int .i64 0, .int .i64 0, .int .i64 0, .int .i64 0, .slice none 0 0]) ?_ 5 _ rfl; (with_reducible repeat (first | refine Kn ?_ _ | refine Ke ?_ | refine Ka ?_ _)); refine blk_put (cs := #[.int .i64 ((rd_T39 (rd_L11 l0_1 x22_2) x28_3).f0), .int .i64 ((rd_T39 (rd_L11 l0_1 x22_2) x28_3).f1), .int .i64 ((rd_T39 (rd_L11 l0_1 x22_2) x28_3).f2), .int .i64 ((rd_T39 (rd_L11 l0_1 x22_2) x28_3).f3.f0), .int .i64 0, .int .i64 0, .int .i64 0, .int .i64 0, .int .i64 0, .slice none 0 0]) ?_ 4 _ rfl; (with_reducible repeat (first | refine Kn ?_ _ | refine Ke ?_ | refine Ka ?_ _)); refine blk_put (cs := #[.int .i64 ((rd_T39 (rd_L11 l0_1 x22_2) x28_3).f0), .int .i64 ((rd_T39 (rd_L11 l0_1 x22_2) x28_3).f1), .int .i64 ((rd_T39 (rd_L11 l0_1 x22_2) x28_3).f2), .int .i64 0, .int .i64 0, .int .i64 0, .int .i64 0, .int .i64 0, .int .i64 0, .slice none 0 0]) ?_ 3 _ rfl; (with_reducible repeat (first | refine Kn ?_ _ | refine Ke ?_ | refine Ka ?_ _)); refine blk_put (cs := #[.int .i64 ((rd_T39 (rd_L11 l0_1 x22_2) x28_3).f0), .int .i64 ((rd_T39 (rd_L11 l0_1 x22_2) x28_3).f1), .int .i64 0, .int .i64 0, .int .i64 0, .int .i64 0, .int .i64 0, .int .i64 0, .int .i64 0, .slice none 0 0]) ?_ 2 _ rfl; (with_reducible repeat (first | refine Kn ?_ _ | refine Ke ?_ | refine Ka ?_ _)); refine blk_put (cs := #[.int .i64 ((rd_T39 (rd_L11 l0_1 x22_2) x28_3).f0), .int .i64 0, .int .i64 0, .int .i64 0, .int .i64 0, .int .i64 0, .int .i64 0, .int .i64 0, .int .i64 0, .slice none 0 0]) ?_ 1 _ rfl; (with_reducible repeat (first | refine Kn ?_ _ | refine Ke ?_ | refine Ka ?_ _)); refine blk_put (cs := #[.int .i64 0, .int .i64 0, .int .i64 0, .int .i64 0, .int .i64 0, .int .i64 0, .int .i64 0, .int .i64 0, .int .i64 0, .slice none 0 0]) ?_ 0 _ rfl; (with_reducible repeat (first | refine Kn ?_ _ | refine Ke ?_ | refine Ka ?_ _)); exact BK155.out) hb); have n2_ := Am (Bt (by repeat (first | (with_reducible first | exact HB.out | apply Ba | apply Bn | apply Bd | refine Bs ?_ GE151.out | refine Bs ?_ GE155.out) | exact HB.out)) hb); clear BK151; clear BK155; clear HB; have BK151 := n0_; have BK155 := n1_; have HB := n2_; clear n0_ n1_ n2_; (try clear hb); (try clear hb2); (try clear hk); (try clear hi)))
               go_ret
               exact ⟨by first | rfl | (simp [*, errW_none, errW_some] <;> rfl), by repeat (first | (with_reducible first | exact HB.out | apply Ba | apply Bn | apply Bd | refine Bs ?_ GE151.out | refine Bs ?_ GE155.out) | exact HB.out)⟩
             ·rw [if_neg c15] at H
              exact absurd H (by simp)
            ·rw [if_neg c14] at H
             exact absurd H (by simp)
           ·rw [if_neg c13] at H
            have c13b0 : decide (x28_3 < ((rd_L11 l0_1 x22_2).length : Int)) = false := decide_eq_false c13
            clear c13
            by_cases c28 : ((rd_L11 l0_1 x22_2).length : Int) > 6
            ·rw [if_pos c28] at H
             have c28b0 : decide (6 < ((rd_L11 l0_1 x22_2).length : Int)) = true := decide_eq_true c28
             have c28b1 : decide (6 < (rd_L11 l0_1 x22_2).length) = true := decide_eq_true (by omega)
             clear c28
             obtain rfl := Option.some.inj H
             go_wp2
             go_ret
             exact ⟨by first | rfl | (simp [*, errW_none, errW_some] <;> rfl), by repeat (first | (with_reducible first | exact HB.out | apply Ba | apply Bn | apply Bd | refine Bs ?_ GE151.out) | exact HB.out)⟩
            ·rw [if_neg c28] at H
             have c28b0 : decide (6 < ((rd_L11 l0_1 x22_2).length : Int)) = false := decide_eq_false c28
             have c28b1 : decide (6 < (rd_L11 l0_1 x22_2).length) = false := decide_eq_false (by omega)
             clear c28
             have H' := Am H
             clear H
             go_wp2
             go_roundg k3
             case measure => have := HJ1.out; have := HK2.out; have := HK3.out; omega
             case rel => exact ⟨(wrap64 (x22_2 + 1)), (by first | rfl | (simp; done) | (simp [*]; done)), H', ⟨by have := HJ1.out; have := HK2.out; have := HK3.out; omega⟩, ⟨by (with_reducible repeat (first | refine Kn ?_ _ | refine Ke ?_ | refine Ka ?_ _)); exact BK151.out⟩, ⟨by repeat (first | (with_reducible first | exact HB.out | apply Ba | apply Bn | apply Bd | refine Bs ?_ GE151.out) | exact HB.out)⟩⟩
        ·rw [if_neg c12] at H
         exact absurd H (by simp)
       ·rw [if_neg c11] at H
        exact absurd H (by simp)
      ·rw [if_neg c10] at H
       have c10b0 : decide (x22_2 < (l0_1.length : Int)) = false := decide_eq_false c10
       clear c10
       obtain rfl := Option.some.inj H
       go_wp2
       go_ret
       exact ⟨by first | rfl | (simp [*, errW_none, errW_some] <;> rfl), by repeat (first | (with_reducible first | exact HB.out | apply Ba | apply Bn | apply Bd | refine Bs ?_ GE151.out) | exact HB.out)⟩
def spec_l3Inst.f (a0 : Int) (a1 : Int) (a2 : Int) : Option (Bool) := (spec_l1In.f a1 0 (wrap64 (a0 - 1))).bind fun t157 => (if t157 = true then ((spec_l1In.f a2 1 6).bind fun t158 => (some t158)) else (some false))
set_option maxHeartbeats 8000000 in
set_option maxRecDepth 100000 in
theorem spec_l3Inst.calls (a0 : Int) (a1 : Int) (a2 : Int) (r : Bool) (w : World) (h : spec_l3Inst.f a0 a1 a2 = some r) :
  Calls Try.prog 57 #[.int .i64 a0, .int .i64 a1, .int .i64 a2] w fun e w' => e = .returned (.bool r) ∧ Drawn0 w w' := by
 have H : ((spec_l1In.f a1 0 (wrap64 (a0 - 1))).bind fun t157 => (if t157 = true then ((spec_l1In.f a2 1 6).bind fun t158 => (some t158)) else (some false))) = some r := h
 clear h
 replace H := Option.bind_eq_some_iff.mp H
 obtain ⟨t157, A40, H⟩ := H
 replace H : (if t157 = true then ((spec_l1In.f a2 1 6).bind fun t158 => (some t158)) else (some false)) = some r := H
 have A4 := Am A40
 clear A40
 by_cases c5 : t157 = true
 ·subst c5
  have H1 : ((spec_l1In.f a2 1 6).bind fun t158 => (some t158)) = some r := by rw [if_pos rfl] at H; exact H
  clear H
  have H := H1
  clear H1
  replace H := Option.bind_eq_some_iff.mp H
  obtain ⟨t158, A60, H⟩ := H
  replace H : (some t158) = some r := H
  have A6 := Am A60
  clear A60
  obtain rfl := Option.some.inj H
  go_enter Try.func57, Try.ntmps57
  go_wp2_with (first | ((refine Gc (f := 33) rfl ?_); refine goesL_ (some 10) rfl rfl Try.func33 (by kernel_rfl) rfl #[.int .i64 a1, .int .i64 0, .int .i64 (wrap64 (a0 - 1))] rfl (by first | rfl | (simp only [List.map_toArray, List.map_cons, List.map_nil]; first | done | rfl)) ?_; (with_reducible refine (spec_l1In.calls a1 0 (wrap64 (a0 - 1)) true _ A4.out).mono ?_); rintro e w' ⟨rfl, ⟨nd, rfl⟩⟩; refine ⟨_, rfl, ?_⟩) | (go_at_call 33; (with_reducible refine (spec_l1In.calls a2 1 6 t158 _ A6.out).mono ?_); rintro e w' ⟨rfl, ⟨nd, rfl⟩⟩))
  go_ret
  exact ⟨by first | rfl | (simp; done) | (simp [*]; done), by repeat (first | exact Drawn0.refl _ | apply Drawn0.step)⟩
 ·replace c5 := Bool.eq_false_iff.mpr c5
  subst c5
  have H1 : (some false) = some r := by rw [if_neg (show ¬ (false = true) by decide)] at H; exact H
  clear H
  have H := H1
  clear H1
  obtain rfl := Option.some.inj H
  go_enter Try.func57, Try.ntmps57
  go_wp2_with (first | ((refine Gc (f := 33) rfl ?_); refine goesL_ (some 10) rfl rfl Try.func33 (by kernel_rfl) rfl #[.int .i64 a1, .int .i64 0, .int .i64 (wrap64 (a0 - 1))] rfl (by first | rfl | (simp only [List.map_toArray, List.map_cons, List.map_nil]; first | done | rfl)) ?_; (with_reducible refine (spec_l1In.calls a1 0 (wrap64 (a0 - 1)) false _ A4.out).mono ?_); rintro e w' ⟨rfl, ⟨nd, rfl⟩⟩; refine ⟨_, rfl, ?_⟩))
  go_ret
  exact ⟨by first | rfl | (simp; done) | (simp [*]; done), by repeat (first | exact Drawn0.refl _ | apply Drawn0.step)⟩
def spec_l1Rising.l0 : Nat → List Int → Int → Int → List Int → Int → Int → Option (Bool)
 | 0, _, _, _, _, _, _ => none
 | k + 1, x0, x1, x2, x9, x10, x11 => if x11 < x10 then (if 0 ≤ x11 then (if x11 < (x9.length : Int) then ((spec_l1In.f (rd x9 x11) x1 x2).bind fun t160 => (if t160 = true then (if x11 > 0 then (if 0 ≤ (wrap64 (x11 - 1)) then (if (wrap64 (x11 - 1)) < (x0.length : Int) then (if (rd x0 (wrap64 (x11 - 1))) ≥ (rd x9 x11) then (some false) else (spec_l1Rising.l0 k x0 x1 x2 x9 x10 (wrap64 (x11 + 1)))) else (none)) else (none)) else (spec_l1Rising.l0 k x0 x1 x2 x9 x10 (wrap64 (x11 + 1)))) else (some false))) else (none)) else (none)) else (some true)
def spec_l1Rising.f (k : Nat) (l0 : List Int) (a1 : Int) (a2 : Int) : Option (Bool) := spec_l1Rising.l0 k l0 a1 a2 l0 (l0.length : Int) 0
theorem spec_l1Rising.mono_l : ∀ k, (∀ y0 y1 y2 y3 y4 y5, LeO (spec_l1Rising.l0 k y0 y1 y2 y3 y4 y5) (spec_l1Rising.l0 (k + 1) y0 y1 y2 y3 y4 y5))
 | 0 => fun _ _ _ _ _ _ r h => by simp [spec_l1Rising.l0] at h
 | k + 1 => by
  have ih0 := spec_l1Rising.mono_l k
  ·intro y0 y1 y2 y3 y4 y5
   unfold spec_l1Rising.l0
   repeat' first
   | (with_reducible exact ih0 _ _ _ _ _ _)
   | (with_reducible exact LeO.refl _)
   | (with_reducible exact LeO.none _)
   | (with_reducible refine LeO.ite ?_ ?_)
   | (with_reducible refine LeO.bind ?_ (fun _ => ?_))
   | exact ih0 _ _ _ _ _ _
   | exact LeO.none _
   | refine LeO.ite ?_ ?_
   | refine LeO.bind ?_ (fun _ => ?_)
theorem spec_l1Rising.mono : ∀ a0 a1 a2 k, LeO (spec_l1Rising.f k a0 a1 a2) (spec_l1Rising.f (k + 1) a0 a1 a2) := by
 intro a0 a1 a2 k
 have ih0 := spec_l1Rising.mono_l k
 unfold spec_l1Rising.f
 repeat' first
   | (with_reducible exact ih0 _ _ _ _ _ _)
   | (with_reducible exact LeO.refl _)
   | (with_reducible exact LeO.none _)
   | (with_reducible refine LeO.ite ?_ ?_)
   | (with_reducible refine LeO.bind ?_ (fun _ => ?_))
   | exact ih0 _ _ _ _ _ _
   | exact LeO.none _
   | refine LeO.ite ?_ ?_
   | refine LeO.bind ?_ (fun _ => ?_)
set_option maxHeartbeats 8000000 in
set_option maxRecDepth 100000 in
theorem spec_l1Rising.calls (k : Nat) (A0 : Option Addr) (c0 : Nat) (l0 : List Int) (a1 : Int) (a2 : Int) (r : Bool) (w : World) (hr0 : Kd.C (Kd.int .i64) w A0 l0.length l0) (hc0 : l0.length ≤ c0) (h : spec_l1Rising.f k l0 a1 a2 = some r) :
  Calls Try.prog 71 #[.slice A0 l0.length c0, .int .i64 a1, .int .i64 a2] w fun e w' => e = .returned (.bool r) ∧ Drawn0 w w' := by
 have HR0 := Am hr0
 have HC0 := Am hc0
 clear hr0 hc0
 have H : (spec_l1Rising.l0 k l0 a1 a2 l0 (l0.length : Int) 0) = some r := h
 clear h
 have H' := Am H
 clear H
 go_enter Try.func71, Try.ntmps71
 go_wp2
 go_loopg [11] k (fun kq v11 w' => ∃ (x11_1 : Int), v11 = .int .i64 x11_1 ∧ Ad (spec_l1Rising.l0 kq l0 a1 a2 l0 (l0.length : Int) x11_1 = some r) ∧ Ad (kq ≤ k) ∧ Drawn0 w w')
 case atStart => exact ⟨(0), (by first | rfl | (simp; done) | (simp [*]; done)), H', ⟨Nat.le_refl _⟩, by repeat (first | exact Drawn0.refl _ | apply Drawn0.step)⟩
 case round =>
  clear H'
  try clear p2
  obtain ⟨x11_1, rfl, HA, HK1, ⟨m1, rfl⟩⟩ := hrel
  cases gk with
  | zero => exact absurd HA.out (by simp [spec_l1Rising.l0])
  | succ k1 =>
   have H := HA.out
   clear HA
   simp only [spec_l1Rising.l0] at H
   by_cases c4 : x11_1 < (l0.length : Int)
   ·rw [if_pos c4] at H
    have c4b0 : decide (x11_1 < (l0.length : Int)) = true := decide_eq_true c4
    clear c4
    by_cases c5 : 0 ≤ x11_1
    ·rw [if_pos c5] at H
     have c5b0 : decide (0 ≤ x11_1) = true := decide_eq_true c5
     clear c5
     by_cases c6 : x11_1 < (l0.length : Int)
     ·rw [if_pos c6] at H
      have c6b0 : decide (x11_1 < (l0.length : Int)) = true := decide_eq_true c6
      clear c6
      replace H := Option.bind_eq_some_iff.mp H
      obtain ⟨t160, A70, H⟩ := H
      replace H : (if t160 = true then (if x11_1 > 0 then (if 0 ≤ (wrap64 (x11_1 - 1)) then (if (wrap64 (x11_1 - 1)) < (l0.length : Int) then (if (rd l0 (wrap64 (x11_1 - 1))) ≥ (rd l0 x11_1) then (some false) else (spec_l1Rising.l0 k1 l0 a1 a2 l0 (l0.length : Int) (wrap64 (x11_1 + 1)))) else (none)) else (none)) else (spec_l1Rising.l0 k1 l0 a1 a2 l0 (l0.length : Int) (wrap64 (x11_1 + 1)))) else (some false)) = some r := H
      have A7 := Am A70
      clear A70
      by_cases c8 : t160 = true
      ·subst c8
       have H1 : (if x11_1 > 0 then (if 0 ≤ (wrap64 (x11_1 - 1)) then (if (wrap64 (x11_1 - 1)) < (l0.length : Int) then (if (rd l0 (wrap64 (x11_1 - 1))) ≥ (rd l0 x11_1) then (some false) else (spec_l1Rising.l0 k1 l0 a1 a2 l0 (l0.length : Int) (wrap64 (x11_1 + 1)))) else (none)) else (none)) else (spec_l1Rising.l0 k1 l0 a1 a2 l0 (l0.length : Int) (wrap64 (x11_1 + 1)))) = some r := by rw [if_pos rfl] at H; exact H
       clear H
       have H := H1
       clear H1
       by_cases c9 : x11_1 > 0
       ·rw [if_pos c9] at H
        have c9b0 : decide (0 < x11_1) = true := decide_eq_true c9
        clear c9
        obtain ⟨ji10, hji10⟩ : ∃ j_ : Int, (wrap64 (x11_1 - 1)) = j_ := ⟨_, rfl⟩
        replace H : (if 0 ≤ (ji10) then (if (ji10) < (l0.length : Int) then (if (rd l0 (ji10)) ≥ (rd l0 x11_1) then (some false) else (spec_l1Rising.l0 k1 l0 a1 a2 l0 (l0.length : Int) (wrap64 (x11_1 + 1)))) else (none)) else (none)) = some r := by first | (rw [hji10] at H; exact H) | (simp only [hji10] at H ⊢; exact H)
        (try rw [hji10] at A7)
        have hji10w : (IntKind.i64.wrap (x11_1 - 1)) = ji10 := (i64_w _).trans hji10
        by_cases c11 : 0 ≤ (ji10)
        ·rw [if_pos c11] at H
         have c11b0 : decide (0 ≤ (ji10)) = true := decide_eq_true c11
         clear c11
         by_cases c12 : (ji10) < (l0.length : Int)
         ·rw [if_pos c12] at H
          have c12b0 : decide ((ji10) < (l0.length : Int)) = true := decide_eq_true c12
          clear c12
          by_cases c13 : (rd l0 (ji10)) ≥ (rd l0 x11_1)
          ·rw [if_pos c13] at H
           have c13b0 : decide ((rd l0 x11_1) ≤ (rd l0 (ji10))) = true := decide_eq_true c13
           clear c13
           obtain rfl := Option.some.inj H
           have p159 : 0 ≤ (x11_1 : Int) := of_decide_eq_true (by assumption)
           have q159 : x11_1 < (l0.length : Int) := of_decide_eq_true (by assumption)
           obtain ⟨ad159, e159, hx159_0⟩ := Kd.at_int HR0.out x11_1 p159 q159
           cases e159
           replace p159 := eq_true p159
           replace q159 := eq_true q159
           go_wp2_with (first | ((refine Gc (f := 33) rfl ?_); refine goesL_ (some 19) rfl rfl Try.func33 (by kernel_rfl) rfl #[.int .i64 (rd l0 x11_1), .int .i64 a1, .int .i64 a2] rfl (by first | rfl | (simp only [List.map_toArray, List.map_cons, List.map_nil]; first | done | rfl)) ?_; (with_reducible refine (spec_l1In.calls (rd l0 x11_1) a1 a2 true _ A7.out).mono ?_); rintro e w' ⟨rfl, ⟨nd, rfl⟩⟩; refine ⟨_, rfl, ?_⟩; have p161 : 0 ≤ ((ji10) : Int) := of_decide_eq_true (by assumption); have q161 : (ji10) < (l0.length : Int) := of_decide_eq_true (by assumption); obtain ⟨ad161, e161, hx161_0⟩ := Kd.at_int HR0.out (ji10) p161 q161; obtain rfl : ad159 = ad161 := (by injection e161); replace p161 := eq_true p161; replace q161 := eq_true q161))
           go_ret
           exact ⟨by first | rfl | (simp; done) | (simp only [← hji10] <;> (first | rfl | simp)) | (simp [*]; done), by repeat (first | exact Drawn0.refl _ | apply Drawn0.step)⟩
          ·rw [if_neg c13] at H
           have c13b0 : decide ((rd l0 x11_1) ≤ (rd l0 (ji10))) = false := decide_eq_false c13
           clear c13
           have H' := Am H
           clear H
           have p159 : 0 ≤ (x11_1 : Int) := of_decide_eq_true (by assumption)
           have q159 : x11_1 < (l0.length : Int) := of_decide_eq_true (by assumption)
           obtain ⟨ad159, e159, hx159_0⟩ := Kd.at_int HR0.out x11_1 p159 q159
           cases e159
           replace p159 := eq_true p159
           replace q159 := eq_true q159
           go_wp2_with (first | ((refine Gc (f := 33) rfl ?_); refine goesL_ (some 19) rfl rfl Try.func33 (by kernel_rfl) rfl #[.int .i64 (rd l0 x11_1), .int .i64 a1, .int .i64 a2] rfl (by first | rfl | (simp only [List.map_toArray, List.map_cons, List.map_nil]; first | done | rfl)) ?_; (with_reducible refine (spec_l1In.calls (rd l0 x11_1) a1 a2 true _ A7.out).mono ?_); rintro e w' ⟨rfl, ⟨nd, rfl⟩⟩; refine ⟨_, rfl, ?_⟩; have p161 : 0 ≤ ((ji10) : Int) := of_decide_eq_true (by assumption); have q161 : (ji10) < (l0.length : Int) := of_decide_eq_true (by assumption); obtain ⟨ad161, e161, hx161_0⟩ := Kd.at_int HR0.out (ji10) p161 q161; obtain rfl : ad159 = ad161 := (by injection e161); replace p161 := eq_true p161; replace q161 := eq_true q161))
           go_roundg k1
           case measure => have := HK1.out; omega
           case rel => exact ⟨(wrap64 (x11_1 + 1)), (by first | rfl | (simp; done) | (simp [*]; done)), H', ⟨by have := HK1.out; omega⟩, by repeat (first | exact Drawn0.refl _ | apply Drawn0.step)⟩
         ·rw [if_neg c12] at H
          exact absurd H (by simp)
        ·rw [if_neg c11] at H
         exact absurd H (by simp)
       ·rw [if_neg c9] at H
        have c9b0 : decide (0 < x11_1) = false := decide_eq_false c9
        clear c9
        have H' := Am H
        clear H
        have p159 : 0 ≤ (x11_1 : Int) := of_decide_eq_true (by assumption)
        have q159 : x11_1 < (l0.length : Int) := of_decide_eq_true (by assumption)
        obtain ⟨ad159, e159, hx159_0⟩ := Kd.at_int HR0.out x11_1 p159 q159
        cases e159
        replace p159 := eq_true p159
        replace q159 := eq_true q159
        go_wp2_with (first | ((refine Gc (f := 33) rfl ?_); refine goesL_ (some 19) rfl rfl Try.func33 (by kernel_rfl) rfl #[.int .i64 (rd l0 x11_1), .int .i64 a1, .int .i64 a2] rfl (by first | rfl | (simp only [List.map_toArray, List.map_cons, List.map_nil]; first | done | rfl)) ?_; (with_reducible refine (spec_l1In.calls (rd l0 x11_1) a1 a2 true _ A7.out).mono ?_); rintro e w' ⟨rfl, ⟨nd, rfl⟩⟩; refine ⟨_, rfl, ?_⟩))
        go_roundg k1
        case measure => have := HK1.out; omega
        case rel => exact ⟨(wrap64 (x11_1 + 1)), (by first | rfl | (simp; done) | (simp [*]; done)), H', ⟨by have := HK1.out; omega⟩, by repeat (first | exact Drawn0.refl _ | apply Drawn0.step)⟩
      ·replace c8 := Bool.eq_false_iff.mpr c8
       subst c8
       have H1 : (some false) = some r := by rw [if_neg (show ¬ (false = true) by decide)] at H; exact H
       clear H
       have H := H1
       clear H1
       obtain rfl := Option.some.inj H
       have p159 : 0 ≤ (x11_1 : Int) := of_decide_eq_true (by assumption)
       have q159 : x11_1 < (l0.length : Int) := of_decide_eq_true (by assumption)
       obtain ⟨ad159, e159, hx159_0⟩ := Kd.at_int HR0.out x11_1 p159 q159
       cases e159
       replace p159 := eq_true p159
       replace q159 := eq_true q159
       go_wp2_with (first | ((refine Gc (f := 33) rfl ?_); refine goesL_ (some 19) rfl rfl Try.func33 (by kernel_rfl) rfl #[.int .i64 (rd l0 x11_1), .int .i64 a1, .int .i64 a2] rfl (by first | rfl | (simp only [List.map_toArray, List.map_cons, List.map_nil]; first | done | rfl)) ?_; (with_reducible refine (spec_l1In.calls (rd l0 x11_1) a1 a2 false _ A7.out).mono ?_); rintro e w' ⟨rfl, ⟨nd, rfl⟩⟩; refine ⟨_, rfl, ?_⟩))
       go_ret
       exact ⟨by first | rfl | (simp; done) | (simp [*]; done), by repeat (first | exact Drawn0.refl _ | apply Drawn0.step)⟩
     ·rw [if_neg c6] at H
      exact absurd H (by simp)
    ·rw [if_neg c5] at H
     exact absurd H (by simp)
   ·rw [if_neg c4] at H
    have c4b0 : decide (x11_1 < (l0.length : Int)) = false := decide_eq_false c4
    clear c4
    obtain rfl := Option.some.inj H
    go_wp2
    go_ret
    exact ⟨by first | rfl | (simp; done) | (simp [*]; done), by repeat (first | exact Drawn0.refl _ | apply Drawn0.step)⟩
def spec_l1Has.l0 : Nat → Int → List Int → Int → Int → Option (Bool)
 | 0, _, _, _, _ => none
 | k + 1, x1, x7, x8, x9 => if x9 < x8 then (if 0 ≤ x9 then (if x9 < (x7.length : Int) then (if (rd x7 x9) = x1 then (some true) else (spec_l1Has.l0 k x1 x7 x8 (wrap64 (x9 + 1)))) else (none)) else (none)) else (some false)
def spec_l1Has.f (k : Nat) (l0 : List Int) (a1 : Int) : Option (Bool) := spec_l1Has.l0 k a1 l0 (l0.length : Int) 0
theorem spec_l1Has.mono_l : ∀ k, (∀ y0 y1 y2 y3, LeO (spec_l1Has.l0 k y0 y1 y2 y3) (spec_l1Has.l0 (k + 1) y0 y1 y2 y3))
 | 0 => fun _ _ _ _ r h => by simp [spec_l1Has.l0] at h
 | k + 1 => by
  have ih0 := spec_l1Has.mono_l k
  ·intro y0 y1 y2 y3
   unfold spec_l1Has.l0
   repeat' first
   | (with_reducible exact ih0 _ _ _ _)
   | (with_reducible exact LeO.refl _)
   | (with_reducible exact LeO.none _)
   | (with_reducible refine LeO.ite ?_ ?_)
   | (with_reducible refine LeO.bind ?_ (fun _ => ?_))
   | exact ih0 _ _ _ _
   | exact LeO.none _
   | refine LeO.ite ?_ ?_
   | refine LeO.bind ?_ (fun _ => ?_)
theorem spec_l1Has.mono : ∀ a0 a1 k, LeO (spec_l1Has.f k a0 a1) (spec_l1Has.f (k + 1) a0 a1) := by
 intro a0 a1 k
 have ih0 := spec_l1Has.mono_l k
 unfold spec_l1Has.f
 repeat' first
   | (with_reducible exact ih0 _ _ _ _)
   | (with_reducible exact LeO.refl _)
   | (with_reducible exact LeO.none _)
   | (with_reducible refine LeO.ite ?_ ?_)
   | (with_reducible refine LeO.bind ?_ (fun _ => ?_))
   | exact ih0 _ _ _ _
   | exact LeO.none _
   | refine LeO.ite ?_ ?_
   | refine LeO.bind ?_ (fun _ => ?_)
set_option maxHeartbeats 8000000 in
set_option maxRecDepth 100000 in
theorem spec_l1Has.calls (k : Nat) (A0 : Option Addr) (c0 : Nat) (l0 : List Int) (a1 : Int) (r : Bool) (w : World) (hr0 : Kd.C (Kd.int .i64) w A0 l0.length l0) (hc0 : l0.length ≤ c0) (h : spec_l1Has.f k l0 a1 = some r) :
  Calls Try.prog 72 #[.slice A0 l0.length c0, .int .i64 a1] w fun e w' => e = .returned (.bool r) ∧ Drawn0 w w' := by
 have HR0 := Am hr0
 have HC0 := Am hc0
 clear hr0 hc0
 have H : (spec_l1Has.l0 k a1 l0 (l0.length : Int) 0) = some r := h
 clear h
 have H' := Am H
 clear H
 go_enter Try.func72, Try.ntmps72
 go_wp2
 go_loopg [9] k (fun kq v9 w' => ∃ (x9_1 : Int), v9 = .int .i64 x9_1 ∧ Ad (spec_l1Has.l0 kq a1 l0 (l0.length : Int) x9_1 = some r) ∧ Ad (kq ≤ k) ∧ Drawn0 w w')
 case atStart => exact ⟨(0), (by first | rfl | (simp; done) | (simp [*]; done)), H', ⟨Nat.le_refl _⟩, by repeat (first | exact Drawn0.refl _ | apply Drawn0.step)⟩
 case round =>
  clear H'
  try clear p2
  obtain ⟨x9_1, rfl, HA, HK1, ⟨m1, rfl⟩⟩ := hrel
  cases gk with
  | zero => exact absurd HA.out (by simp [spec_l1Has.l0])
  | succ k1 =>
   have H := HA.out
   clear HA
   simp only [spec_l1Has.l0] at H
   by_cases c3 : x9_1 < (l0.length : Int)
   ·rw [if_pos c3] at H
    have c3b0 : decide (x9_1 < (l0.length : Int)) = true := decide_eq_true c3
    clear c3
    by_cases c4 : 0 ≤ x9_1
    ·rw [if_pos c4] at H
     have c4b0 : decide (0 ≤ x9_1) = true := decide_eq_true c4
     clear c4
     by_cases c5 : x9_1 < (l0.length : Int)
     ·rw [if_pos c5] at H
      have c5b0 : decide (x9_1 < (l0.length : Int)) = true := decide_eq_true c5
      clear c5
      by_cases c6 : (rd l0 x9_1) = a1
      ·rw [if_pos c6] at H
       have c6b0 : ((rd l0 x9_1) == a1) = true := beq_iff_eq.mpr c6
       have c6b1 : ((rd l0 x9_1) != a1) = false := bne_eq_false_iff_eq.mpr c6
       clear c6
       obtain rfl := Option.some.inj H
       have p162 : 0 ≤ (x9_1 : Int) := of_decide_eq_true (by assumption)
       have q162 : x9_1 < (l0.length : Int) := of_decide_eq_true (by assumption)
       obtain ⟨ad162, e162, hx162_0⟩ := Kd.at_int HR0.out x9_1 p162 q162
       cases e162
       replace p162 := eq_true p162
       replace q162 := eq_true q162
       go_wp2
       go_ret
       exact ⟨by first | rfl | (simp; done) | (simp [*]; done), by repeat (first | exact Drawn0.refl _ | apply Drawn0.step)⟩
      ·rw [if_neg c6] at H
       have c6b0 : ((rd l0 x9_1) == a1) = false := beq_eq_false_iff_ne.mpr c6
       have c6b1 : ((rd l0 x9_1) != a1) = true := bne_iff_ne.mpr c6
       have H' := Am H
       clear H
       have p162 : 0 ≤ (x9_1 : Int) := of_decide_eq_true (by assumption)
       have q162 : x9_1 < (l0.length : Int) := of_decide_eq_true (by assumption)
       obtain ⟨ad162, e162, hx162_0⟩ := Kd.at_int HR0.out x9_1 p162 q162
       cases e162
       replace p162 := eq_true p162
       replace q162 := eq_true q162
       go_wp2
       go_roundg k1
       case measure => have := HK1.out; omega
       case rel => exact ⟨(wrap64 (x9_1 + 1)), (by first | rfl | (simp; done) | (simp [*]; done)), H', ⟨by have := HK1.out; omega⟩, by repeat (first | exact Drawn0.refl _ | apply Drawn0.step)⟩
     ·rw [if_neg c5] at H
      exact absurd H (by simp)
    ·rw [if_neg c4] at H
     exact absurd H (by simp)
   ·rw [if_neg c3] at H
    have c3b0 : decide (x9_1 < (l0.length : Int)) = false := decide_eq_false c3
    clear c3
    obtain rfl := Option.some.inj H
    go_wp2
    go_ret
    exact ⟨by first | rfl | (simp; done) | (simp [*]; done), by repeat (first | exact Drawn0.refl _ | apply Drawn0.step)⟩
end Go.Proofs.Ytilmcfdhijdhpaa.QFnExactGoodReplica
