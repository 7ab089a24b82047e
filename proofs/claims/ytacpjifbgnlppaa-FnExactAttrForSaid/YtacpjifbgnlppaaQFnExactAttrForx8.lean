-- Written by a program of this session (wip/mk.py) over the kit's print: Lean checks it.
import Derived.Test.YtacpjifbgnlppaaQFnExactAttrForx0
import Derived.Test.YtacpjifbgnlppaaQFnExactAttrForx5
import Derived.Test.YtacpjifbgnlppaaQFnExactAttrForx7
namespace Go.Proofs.Ytacpjifbgnlppaa.QFnExactAttrFor
open Go.Proofs.YtacpjifbgnlppaaW.PrintWords renaming below_alloc → Ba, pw_below_drewN → Bn, below_drew1 → Bd, below_set → Bs, below_size → Bz, below_step → Bt, gate_dst → Gd, gate_callee → Gc, box_event → Be, blk_alloc → Ka, blk_drewN → Kn, blk_drew → Ke, blk_below → Kb, blk_cell → Kc, blk_far → Kf, blk_frozen → Kz
open List renaming setIfInBounds_toArray → Lt, set_cons_zero → Lz, set_cons_succ → Ls
open Go.World renaming block_lt_of_cell? → bl_
open Go.Proofs.YtacpjifbgnlppaaW.PrintWords.Aside0 renaming mk → Am
open Go.Proofs.YtacpjifbgnlppaaW.PrintWords renaming Aside0 → Ad
open Go.RowKit Go.Proofs.YtacpjifbgnlppaaW.PrintWords Go.Proofs.YtacpjifbgnlppaaW.PrintLast Go.Proofs.YtacpjifbgnlppaaW.PrintMore
attribute [local go_sem] max2_int min2_int max_two min_two max_three min_three max_four min_four   -- for this text's walks alone
set_option linter.unusedVariables false
set_option linter.unusedSimpArgs false
mutual
def spec_GoodTable.j0 : Nat → Bool → Int → List (List (S72)) → Option (Bool)
 | 0, _, _, _ => none
 | k + 1, x18, x225000, x225001 => if x18 = true then (some false) else (spec_GoodTable.l0 k x225001 (x225001.length : Int) 0 x225000 x225001)
def spec_GoodTable.l0 : Nat → List (List (S72)) → Int → Int → Int → List (List (S72)) → Option (Bool)
 | 0, _, _, _, _, _ => none
 | k + 1, x20, x21, x22, x225000, x225001 => if x22 < x21 then (if 0 ≤ x22 then (if x22 < (x20.length : Int) then (spec_GoodTable.l1 k (rd_L9 x20 x22) x20 x21 x22 (rd_L9 x20 x22) ((rd_L9 x20 x22).length : Int) 0 x225000 x225001) else (none)) else (none)) else (some true)
def spec_GoodTable.l1 : Nat → List (S72) → List (List (S72)) → Int → Int → List (S72) → Int → Int → Int → List (List (S72)) → Option (Bool)
 | 0, _, _, _, _, _, _, _, _, _ => none
 | k + 1, x4, x20, x21, x22, x26, x27, x28, x225000, x225001 => if x28 < x27 then (if 0 ≤ x28 then (if x28 < (x26.length : Int) then ((spec_l4Row.f k x225000 ((rd_T72 x26 x28).f0) ((rd_T72 x26 x28).f1) ((rd_T72 x26 x28).f2) ((rd_T72 x26 x28).f3.f0) ((rd_T72 x26 x28).f3.f1) ((rd_T72 x26 x28).f3.f2) ((rd_T72 x26 x28).f3.f3) ((rd_T72 x26 x28).f3.f4) ((rd_T72 x26 x28).f4.f0) ((rd_T72 x26 x28).f4.f1)).bind fun t229 => (if t229 = true then (spec_GoodTable.l1 k x4 x20 x21 x22 x26 x27 (wrap64 (x28 + 1)) x225000 x225001) else (some false))) else (none)) else (none)) else (if (x4.length : Int) > 6 then (some false) else (spec_GoodTable.l0 k x20 x21 (wrap64 (x22 + 1)) x225000 x225001))
end
def spec_GoodTable.f (k : Nat) (a0_0 : Int) (l0_1 : List (List (S72))) : Option (Bool) := (spec_IsGroup.f a0_0).bind fun t225 => (if t225 = true then (spec_GoodTable.j0 k ((l0_1.length : Int) != a0_0) a0_0 l0_1) else (spec_GoodTable.j0 k true a0_0 l0_1))
theorem spec_GoodTable.mono_l : ∀ k, (∀ y0 y1 y2, LeO (spec_GoodTable.j0 k y0 y1 y2) (spec_GoodTable.j0 (k + 1) y0 y1 y2)) ∧ (∀ y0 y1 y2 y3 y4, LeO (spec_GoodTable.l0 k y0 y1 y2 y3 y4) (spec_GoodTable.l0 (k + 1) y0 y1 y2 y3 y4)) ∧ (∀ y0 y1 y2 y3 y4 y5 y6 y7 y8, LeO (spec_GoodTable.l1 k y0 y1 y2 y3 y4 y5 y6 y7 y8) (spec_GoodTable.l1 (k + 1) y0 y1 y2 y3 y4 y5 y6 y7 y8))
 | 0 => ⟨fun _ _ _ r h => by simp [spec_GoodTable.j0] at h, fun _ _ _ _ _ r h => by simp [spec_GoodTable.l0] at h, fun _ _ _ _ _ _ _ _ _ r h => by simp [spec_GoodTable.l1] at h⟩
 | k + 1 => by
  obtain ⟨ih0, ih1, ih2⟩ := spec_GoodTable.mono_l k
  refine ⟨?_, ?_, ?_⟩
  ·intro y0 y1 y2
   unfold spec_GoodTable.j0
   repeat' first
   | (with_reducible exact ih0 _ _ _)
   | (with_reducible exact ih1 _ _ _ _ _)
   | (with_reducible exact ih2 _ _ _ _ _ _ _ _ _)
   | (with_reducible exact spec_l4Row.mono _ _ _ _ _ _ _ _ _ _ _ _)
   | (with_reducible exact LeO.refl _)
   | (with_reducible exact LeO.none _)
   | (with_reducible refine LeO.ite ?_ ?_)
   | (with_reducible refine LeO.bind ?_ (fun _ => ?_))
   | exact ih0 _ _ _
   | exact ih1 _ _ _ _ _
   | exact ih2 _ _ _ _ _ _ _ _ _
   | exact spec_l4Row.mono _ _ _ _ _ _ _ _ _ _ _ _
   | exact LeO.none _
   | refine LeO.ite ?_ ?_
   | refine LeO.bind ?_ (fun _ => ?_)
  ·intro y0 y1 y2 y3 y4
   unfold spec_GoodTable.l0
   repeat' first
   | (with_reducible exact ih0 _ _ _)
   | (with_reducible exact ih1 _ _ _ _ _)
   | (with_reducible exact ih2 _ _ _ _ _ _ _ _ _)
   | (with_reducible exact spec_l4Row.mono _ _ _ _ _ _ _ _ _ _ _ _)
   | (with_reducible exact LeO.refl _)
   | (with_reducible exact LeO.none _)
   | (with_reducible refine LeO.ite ?_ ?_)
   | (with_reducible refine LeO.bind ?_ (fun _ => ?_))
   | exact ih0 _ _ _
   | exact ih1 _ _ _ _ _
   | exact ih2 _ _ _ _ _ _ _ _ _
   | exact spec_l4Row.mono _ _ _ _ _ _ _ _ _ _ _ _
   | exact LeO.none _
   | refine LeO.ite ?_ ?_
   | refine LeO.bind ?_ (fun _ => ?_)
  ·intro y0 y1 y2 y3 y4 y5 y6 y7 y8
   unfold spec_GoodTable.l1
   repeat' first
   | (with_reducible exact ih0 _ _ _)
   | (with_reducible exact ih1 _ _ _ _ _)
   | (with_reducible exact ih2 _ _ _ _ _ _ _ _ _)
   | (with_reducible exact spec_l4Row.mono _ _ _ _ _ _ _ _ _ _ _ _)
   | (with_reducible exact LeO.refl _)
   | (with_reducible exact LeO.none _)
   | (with_reducible refine LeO.ite ?_ ?_)
   | (with_reducible refine LeO.bind ?_ (fun _ => ?_))
   | exact ih0 _ _ _
   | exact ih1 _ _ _ _ _
   | exact ih2 _ _ _ _ _ _ _ _ _
   | exact spec_l4Row.mono _ _ _ _ _ _ _ _ _ _ _ _
   | exact LeO.none _
   | refine LeO.ite ?_ ?_
   | refine LeO.bind ?_ (fun _ => ?_)
theorem spec_GoodTable.mono : ∀ a0 a1 k, LeO (spec_GoodTable.f k a0 a1) (spec_GoodTable.f (k + 1) a0 a1) := by
 intro a0 a1 k
 obtain ⟨ih0, ih1, ih2⟩ := spec_GoodTable.mono_l k
 unfold spec_GoodTable.f
 repeat' first
   | (with_reducible exact ih0 _ _ _)
   | (with_reducible exact ih1 _ _ _ _ _)
   | (with_reducible exact ih2 _ _ _ _ _ _ _ _ _)
   | (with_reducible exact spec_l4Row.mono _ _ _ _ _ _ _ _ _ _ _ _)
   | (with_reducible exact LeO.refl _)
   | (with_reducible exact LeO.none _)
   | (with_reducible refine LeO.ite ?_ ?_)
   | (with_reducible refine LeO.bind ?_ (fun _ => ?_))
   | exact ih0 _ _ _
   | exact ih1 _ _ _ _ _
   | exact ih2 _ _ _ _ _ _ _ _ _
   | exact spec_l4Row.mono _ _ _ _ _ _ _ _ _ _ _ _
   | exact LeO.none _
   | refine LeO.ite ?_ ?_
   | refine LeO.bind ?_ (fun _ => ?_)
set_option maxHeartbeats 8000000 in
set_option maxRecDepth 100000 in
theorem spec_GoodTable.calls (k : Nat) (a0_0 : Int) (A0_1 : Option Addr) (c0_1 : Nat) (l0_1 : List (List (S72))) (r : Bool) (w : World) (hr0_1 : Kd.C (Kd.slice 72 k72) w A0_1 l0_1.length l0_1) (hc0_1 : l0_1.length ≤ c0_1) (h : spec_GoodTable.f k a0_0 l0_1 = some r) :
  Calls Try.prog 10 #[.agg #[.int .i64 a0_0, .slice A0_1 l0_1.length c0_1]] w fun e w' => e = .returned (.bool r) ∧ Below w.heap.size w w' := by
 have hu29 := Try.underlying29
 have hu72 := Try.underlying72
 have HR0_1 := Am hr0_1
 have HC0_1 := Am hc0_1
 clear hr0_1 hc0_1
 have HB := Am (Below.refl w.heap.size w)
 have H : ((spec_IsGroup.f a0_0).bind fun t225 => (if t225 = true then (spec_GoodTable.j0 k ((l0_1.length : Int) != a0_0) a0_0 l0_1) else (spec_GoodTable.j0 k true a0_0 l0_1))) = some r := h
 clear h
 have HC2 := Am H
 clear H
 go_enter Try.func10, Try.ntmps10
 go_upto_region 1 with (first | ((refine Gd (N := 1) rfl ?_); (try (refine gate_guard (by rfl) ?_; dsimp only)); refine Be ?hg (N := 1) ?hd (cs := #[.int .i64 a0_0, .slice A0_1 l0_1.length c0_1]) (t := 29) ?hr ?_; (case hd | hg => rfl); (case hr => first | (go_simp; done) | (go_simp; rfl)); intro gb224 hg w3 hbox hb; have n0_ := Am (Bt (by repeat (first | exact HB.out | apply Ba | apply Bn | apply Bd)) hb); have n1_ := Am (hbox); have n2_ := Am ((by rw [hg]; exact (Bz (by repeat (first | exact HB.out | apply Ba | apply Bn | apply Bd))) : w.heap.size ≤ gb224)); have n3_ := Am ((by rw [hg]; exact (Bz (by repeat (first | exact HB.out | apply Ba | apply Bn | apply Bd))) : w.heap.size ≤ gb224)); clear HB; have HB := n0_; have BK224 := n1_; have GW224 := n2_; have GE224 := n3_; clear n0_ n1_ n2_ n3_; clear hb hbox hg))
 (try simp only [Act.put, Lt, Lz, Ls])
 go_cut [18] (fun v18 wc => ∃ (kq : Nat) (x18_1 : Bool), v18 = .bool x18_1 ∧ Ad (spec_GoodTable.j0 kq x18_1 a0_0 l0_1 = some r) ∧ Ad (kq ≤ k) ∧ Ad (wc.heap[gb224]? = some (.cells #[.int .i64 a0_0, (.slice A0_1 l0_1.length c0_1)] 29 (0, 0))) ∧ Ad (Below w.heap.size w wc))
 case first =>
  have H := HC2.out
  clear HC2
  replace H := Option.bind_eq_some_iff.mp H
  obtain ⟨t225, A40, H⟩ := H
  replace H : (if t225 = true then (spec_GoodTable.j0 k ((l0_1.length : Int) != a0_0) a0_0 l0_1) else (spec_GoodTable.j0 k true a0_0 l0_1)) = some r := H
  have A4 := Am A40
  clear A40
  by_cases c5 : t225 = true
  ·subst c5
   have H1 : (spec_GoodTable.j0 k ((l0_1.length : Int) != a0_0) a0_0 l0_1) = some r := by rw [if_pos rfl] at H; exact H
   clear H
   have H := H1
   clear H1
   have H' := Am H
   clear H
   have hcz6_0 : w3.cell? ⟨gb224, 0, none⟩ = some (.int .i64 a0_0) := (Kc BK224.out 0).trans rfl
   have hcz6_1 : w3.cell? ⟨gb224, 1, none⟩ = some (.slice A0_1 l0_1.length c0_1) := (Kc BK224.out 1).trans rfl
   have hfz6_0 := Kz BK224.out 0
   have hfz6_1 := Kz BK224.out 1
   go_wp2_with (first | ((refine Gc (f := 39) rfl ?_); refine goesL_ (some 9) rfl rfl Try.func39 (by kernel_rfl) rfl #[.int .i64 a0_0] rfl (by first | rfl | (simp only [List.map_toArray, List.map_cons, List.map_nil]; first | done | rfl)) ?_; (with_reducible refine (spec_IsGroup.calls a0_0 true _ A4.out).mono ?_); rintro e w' ⟨rfl, ⟨nd, rfl⟩⟩; refine ⟨_, rfl, ?_⟩))
   go_meet
   case rel => exact ⟨_, (((l0_1.length : Int) != a0_0)), (by first | rfl | (simp; done) | (simp [*]; done)), H', ⟨by first | omega | exact Nat.le_refl _⟩, ⟨by (with_reducible repeat (first | refine Kn ?_ _ | refine Ke ?_ | refine Ka ?_ _)); exact BK224.out⟩, ⟨by repeat (first | (with_reducible first | exact HB.out | apply Ba | apply Bn | apply Bd | refine Bs ?_ GE224.out) | exact HB.out)⟩⟩
  ·replace c5 := Bool.eq_false_iff.mpr c5
   subst c5
   have H1 : (spec_GoodTable.j0 k true a0_0 l0_1) = some r := by rw [if_neg (show ¬ (false = true) by decide)] at H; exact H
   clear H
   have H := H1
   clear H1
   have H' := Am H
   clear H
   have hcz7_0 : w3.cell? ⟨gb224, 0, none⟩ = some (.int .i64 a0_0) := (Kc BK224.out 0).trans rfl
   have hcz7_1 : w3.cell? ⟨gb224, 1, none⟩ = some (.slice A0_1 l0_1.length c0_1) := (Kc BK224.out 1).trans rfl
   have hfz7_0 := Kz BK224.out 0
   have hfz7_1 := Kz BK224.out 1
   go_wp2_with (first | ((refine Gc (f := 39) rfl ?_); refine goesL_ (some 9) rfl rfl Try.func39 (by kernel_rfl) rfl #[.int .i64 a0_0] rfl (by first | rfl | (simp only [List.map_toArray, List.map_cons, List.map_nil]; first | done | rfl)) ?_; (with_reducible refine (spec_IsGroup.calls a0_0 false _ A4.out).mono ?_); rintro e w' ⟨rfl, ⟨nd, rfl⟩⟩; refine ⟨_, rfl, ?_⟩))
   go_meet
   case rel => exact ⟨_, (true), (by first | rfl | (simp; done) | (simp [*]; done)), H', ⟨by first | omega | exact Nat.le_refl _⟩, ⟨by (with_reducible repeat (first | refine Kn ?_ _ | refine Ke ?_ | refine Ka ?_ _)); exact BK224.out⟩, ⟨by repeat (first | (with_reducible first | exact HB.out | apply Ba | apply Bn | apply Bd | refine Bs ?_ GE224.out) | exact HB.out)⟩⟩
 case rest =>
  clear HC2
  try clear c1
  try clear p2
  try clear c3
  try clear c5
  try clear hcz6_0
  try clear hcz6_1
  try clear hcz7_0
  try clear hcz7_1
  try clear hfz6_0
  try clear hfz6_1
  try clear hfz7_0
  try clear hfz7_1
  obtain ⟨kq, x18_1, rfl, HA, HJ1, BK224, HB⟩ := hcut
  cases kq with
  | zero => exact absurd HA.out (by simp [spec_GoodTable.j0])
  | succ kj1 =>
   have H := HA.out
   clear HA
   simp only [spec_GoodTable.j0] at H
   by_cases c8 : x18_1 = true
   ·subst c8
    have H1 : (some false) = some r := by rw [if_pos rfl] at H; exact H
    clear H
    have H := H1
    clear H1
    obtain rfl := Option.some.inj H
    go_wp2
    go_ret
    exact ⟨by first | rfl | (simp [*, errW_none, errW_some] <;> rfl), by repeat (first | (with_reducible first | exact HB.out | apply Ba | apply Bn | apply Bd | refine Bs ?_ GE224.out) | exact HB.out)⟩
   ·replace c8 := Bool.eq_false_iff.mpr c8
    subst c8
    have H1 : (spec_GoodTable.l0 kj1 l0_1 (l0_1.length : Int) 0 a0_0 l0_1) = some r := by rw [if_neg (show ¬ (false = true) by decide)] at H; exact H
    clear H
    have H := H1
    clear H1
    have H' := Am H
    clear H
    have hcz9_0 : wc.cell? ⟨gb224, 0, none⟩ = some (.int .i64 a0_0) := (Kc BK224.out 0).trans rfl
    have hcz9_1 : wc.cell? ⟨gb224, 1, none⟩ = some (.slice A0_1 l0_1.length c0_1) := (Kc BK224.out 1).trans rfl
    have hfz9_0 := Kz BK224.out 0
    have hfz9_1 := Kz BK224.out 1
    go_wp2
    go_loopg [22] kj1 (fun kq v22 w' => ∃ (x22_2 : Int), v22 = .int .i64 x22_2 ∧ Ad (spec_GoodTable.l0 kq l0_1 (l0_1.length : Int) x22_2 a0_0 l0_1 = some r) ∧ Ad (kq ≤ kj1) ∧ Ad (w'.heap[gb224]? = some (.cells #[.int .i64 a0_0, (.slice A0_1 l0_1.length c0_1)] 29 (0, 0))) ∧ Ad (Below w.heap.size w w'))
    case atStart => exact ⟨(0), (by first | rfl | (simp; done) | (simp [*]; done)), H', ⟨Nat.le_refl _⟩, ⟨by (with_reducible repeat (first | refine Kn ?_ _ | refine Ke ?_ | refine Ka ?_ _)); exact BK224.out⟩, ⟨by repeat (first | (with_reducible first | exact HB.out | apply Ba | apply Bn | apply Bd | refine Bs ?_ GE224.out) | exact HB.out)⟩⟩
    case round =>
     clear H'
     try clear c1
     try clear p2
     try clear c3
     try clear c5
     try clear c8
     try clear hcz6_0
     try clear hcz6_1
     try clear hcz7_0
     try clear hcz7_1
     try clear hcz9_0
     try clear hcz9_1
     try clear hfz6_0
     try clear hfz6_1
     try clear hfz7_0
     try clear hfz7_1
     try clear hfz9_0
     try clear hfz9_1
     try clear p2
     obtain ⟨x22_2, rfl, HA, HK2, BK224, HB⟩ := hrel
     cases gk with
     | zero => exact absurd HA.out (by simp [spec_GoodTable.l0])
     | succ k2 =>
      have H := HA.out
      clear HA
      simp only [spec_GoodTable.l0] at H
      by_cases c10 : x22_2 < (l0_1.length : Int)
      ·rw [if_pos c10] at H
       have c10b0 : decide (x22_2 < (l0_1.length : Int)) = true := decide_eq_true c10
       clear c10
       by_cases c11 : 0 ≤ x22_2
       ·rw [if_pos c11] at H
        have c11b0 : decide (0 ≤ x22_2) = true := decide_eq_true c11
        clear c11
        by_cases c12 : x22_2 < (l0_1.length : Int)
        ·rw [if_pos c12] at H
         have c12b0 : decide (x22_2 < (l0_1.length : Int)) = true := decide_eq_true c12
         clear c12
         have H' := Am H
         clear H
         have p226 : 0 ≤ (x22_2 : Int) := of_decide_eq_true (by assumption)
         have q226 : x22_2 < (l0_1.length : Int) := of_decide_eq_true (by assumption)
         obtain ⟨ad226, A226_0, c226_0, e226, hx226_0, hl226_0, hi226_0⟩ := at_L9 HR0_1.out x22_2 p226 q226
         cases e226
         replace hx226_0 := (HB.out.cell (bl_ w _ hx226_0)).trans hx226_0
         have HR226_0 := Am hi226_0
         have HC226_0 := Am hl226_0
         clear hi226_0 hl226_0
         replace p226 := eq_true p226
         replace q226 := eq_true q226
         go_wp2
         go_loopg [28] k2 (fun kq v28 w' => ∃ (x28_3 : Int), v28 = .int .i64 x28_3 ∧ Ad (spec_GoodTable.l1 kq (rd_L9 l0_1 x22_2) l0_1 (l0_1.length : Int) x22_2 (rd_L9 l0_1 x22_2) ((rd_L9 l0_1 x22_2).length : Int) x28_3 a0_0 l0_1 = some r) ∧ Ad (kq ≤ k2) ∧ Ad (w'.heap[gb224]? = some (.cells #[.int .i64 a0_0, (.slice (some ad226) l0_1.length c0_1)] 29 (0, 0))) ∧ Ad (Below w.heap.size w w'))
         case atStart => exact ⟨(0), (by first | rfl | (simp; done) | (simp [*]; done)), H', ⟨Nat.le_refl _⟩, ⟨by (with_reducible repeat (first | refine Kn ?_ _ | refine Ke ?_ | refine Ka ?_ _)); exact BK224.out⟩, ⟨by repeat (first | (with_reducible first | exact HB.out | apply Ba | apply Bn | apply Bd | refine Bs ?_ GE224.out) | exact HB.out)⟩⟩
         case round =>
          clear H'
          try clear c1
          try clear c2
          try clear p2
          try clear q2
          try clear hx2
          try clear c3
          try clear c5
          try clear c8
          try clear c10
          try clear c10b0
          try clear c11
          try clear c11b0
          try clear c12
          try clear c12b0
          try clear hcz6_0
          try clear hcz6_1
          try clear hcz7_0
          try clear hcz7_1
          try clear hcz9_0
          try clear hcz9_1
          try clear hfz6_0
          try clear hfz6_1
          try clear hfz7_0
          try clear hfz7_1
          try clear hfz9_0
          try clear hfz9_1
          try clear hx226_0
          try clear p2
          try clear p226
          try clear q226
          obtain ⟨x28_3, rfl, HA, HK3, BK224, HB⟩ := hrel
          cases gk with
          | zero => exact absurd HA.out (by simp [spec_GoodTable.l1])
          | succ k3 =>
           have H := HA.out
           clear HA
           simp only [spec_GoodTable.l1] at H
           by_cases c13 : x28_3 < ((rd_L9 l0_1 x22_2).length : Int)
           ·rw [if_pos c13] at H
            have c13b0 : decide (x28_3 < ((rd_L9 l0_1 x22_2).length : Int)) = true := decide_eq_true c13
            clear c13
            by_cases c14 : 0 ≤ x28_3
            ·rw [if_pos c14] at H
             have c14b0 : decide (0 ≤ x28_3) = true := decide_eq_true c14
             clear c14
             by_cases c15 : x28_3 < ((rd_L9 l0_1 x22_2).length : Int)
             ·rw [if_pos c15] at H
              have c15b0 : decide (x28_3 < ((rd_L9 l0_1 x22_2).length : Int)) = true := decide_eq_true c15
              clear c15
              replace H := Option.bind_eq_some_iff.mp H
              obtain ⟨t229, A160, H⟩ := H
              replace H : (if t229 = true then (spec_GoodTable.l1 k3 (rd_L9 l0_1 x22_2) l0_1 (l0_1.length : Int) x22_2 (rd_L9 l0_1 x22_2) ((rd_L9 l0_1 x22_2).length : Int) (wrap64 (x28_3 + 1)) a0_0 l0_1) else (some false)) = some r := H
              have A16 := Am A160
              clear A160
              by_cases c17 : t229 = true
              ·subst c17
               have H1 : (spec_GoodTable.l1 k3 (rd_L9 l0_1 x22_2) l0_1 (l0_1.length : Int) x22_2 (rd_L9 l0_1 x22_2) ((rd_L9 l0_1 x22_2).length : Int) (wrap64 (x28_3 + 1)) a0_0 l0_1) = some r := by rw [if_pos rfl] at H; exact H
               clear H
               have H := H1
               clear H1
               have H' := Am H
               clear H
               have p227 : 0 ≤ (x28_3 : Int) := of_decide_eq_true (by assumption)
               have q227 : x28_3 < ((rd_L9 l0_1 x22_2).length : Int) := of_decide_eq_true (by assumption)
               obtain ⟨ad227, A227_9, c227_9, e227, hx227_0, hx227_1, hx227_2, hx227_3, hx227_4, hx227_5, hx227_6, hx227_7, hx227_8, hx227_9, hl227_9, hi227_9⟩ := at_T72 HR226_0.out x28_3 p227 q227
               cases e227
               replace hx227_0 := (HB.out.cell (bl_ w _ hx227_0)).trans hx227_0
               replace hx227_1 := (HB.out.cell (bl_ w _ hx227_1)).trans hx227_1
               replace hx227_2 := (HB.out.cell (bl_ w _ hx227_2)).trans hx227_2
               replace hx227_3 := (HB.out.cell (bl_ w _ hx227_3)).trans hx227_3
               replace hx227_4 := (HB.out.cell (bl_ w _ hx227_4)).trans hx227_4
               replace hx227_5 := (HB.out.cell (bl_ w _ hx227_5)).trans hx227_5
               replace hx227_6 := (HB.out.cell (bl_ w _ hx227_6)).trans hx227_6
               replace hx227_7 := (HB.out.cell (bl_ w _ hx227_7)).trans hx227_7
               replace hx227_8 := (HB.out.cell (bl_ w _ hx227_8)).trans hx227_8
               replace hx227_9 := (HB.out.cell (bl_ w _ hx227_9)).trans hx227_9
               have HR227_9 := Am hi227_9
               have HC227_9 := Am hl227_9
               clear hi227_9 hl227_9
               replace p227 := eq_true p227
               replace q227 := eq_true q227
               go_wp2_with (first | ((refine Gd (N := 6) rfl ?_); (try (refine gate_guard (by rfl) ?_; dsimp only)); refine Be ?hg (N := 6) ?hd (cs := #[.int .i64 0, .int .i64 0, .int .i64 0, .int .i64 0, .int .i64 0, .int .i64 0, .int .i64 0, .int .i64 0, .int .i64 0, .slice none 0 0]) (t := 72) ?hr ?_; (case hd | hg => rfl); (case hr => first | (go_simp; done) | (go_simp; rfl)); intro gb228 hg w18 hbox hb; have n0_ := Am (Kb (g := gb224) (o := .cells #[.int .i64 a0_0, .slice (some ad226) l0_1.length c0_1] 29 (0, 0)) (by (with_reducible repeat (first | refine Kn ?_ _ | refine Ke ?_ | refine Ka ?_ _)); exact BK224.out) hb); have n1_ := Am (Bt (by repeat (first | (with_reducible first | exact HB.out | apply Ba | apply Bn | apply Bd | refine Bs ?_ GE224.out) | exact HB.out)) hb); have n2_ := Am (hbox); have n3_ := Am ((by rw [hg]; exact (Bz (by repeat (first | (with_reducible first | exact HB.out | apply Ba | apply Bn | apply Bd | refine Bs ?_ GE224.out) | exact HB.out))) : w.heap.size ≤ gb228)); have n4_ := Am ((by rw [hg]; exact (Bz (by repeat (first | (with_reducible first | exact HB.out | apply Ba | apply Bn | apply Bd | refine Bs ?_ GE224.out) | exact HB.out))) : w.heap.size ≤ gb228)); have n5_ := Am ((by rw [hg]; exact Nat.ne_of_lt (blk_lt (g := gb224) (o := .cells #[.int .i64 a0_0, .slice (some ad226) l0_1.length c0_1] 29 (0, 0)) (by (with_reducible repeat (first | refine Kn ?_ _ | refine Ke ?_ | refine Ka ?_ _)); exact BK224.out)) : gb224 ≠ gb228)); have n6_ := Am ((by rw [hg]; exact Nat.ne_of_gt (blk_lt (g := gb224) (o := .cells #[.int .i64 a0_0, .slice (some ad226) l0_1.length c0_1] 29 (0, 0)) (by (with_reducible repeat (first | refine Kn ?_ _ | refine Ke ?_ | refine Ka ?_ _)); exact BK224.out)) : gb228 ≠ gb224)); clear BK224; clear HB; have BK224 := n0_; have HB := n1_; have BK228 := n2_; have GW228 := n3_; have GE228 := n4_; have NB224_228 := n5_; have NB228_224 := n6_; clear n0_ n1_ n2_ n3_ n4_ n5_ n6_; clear hb hbox hg; have hnb19 := NB228_224.out; have hnc19 := NB224_228.out; have hcz20_0 : w18.cell? ⟨gb228, 0, none⟩ = some (.int .i64 0) := (Kc BK228.out 0).trans rfl; have hcz20_1 : w18.cell? ⟨gb228, 1, none⟩ = some (.int .i64 0) := (Kc BK228.out 1).trans rfl; have hcz20_2 : w18.cell? ⟨gb228, 2, none⟩ = some (.int .i64 0) := (Kc BK228.out 2).trans rfl; have hcz20_3 : w18.cell? ⟨gb228, 3, none⟩ = some (.int .i64 0) := (Kc BK228.out 3).trans rfl; have hcz20_4 : w18.cell? ⟨gb228, 4, none⟩ = some (.int .i64 0) := (Kc BK228.out 4).trans rfl; have hcz20_5 : w18.cell? ⟨gb228, 5, none⟩ = some (.int .i64 0) := (Kc BK228.out 5).trans rfl; have hcz20_6 : w18.cell? ⟨gb228, 6, none⟩ = some (.int .i64 0) := (Kc BK228.out 6).trans rfl; have hcz20_7 : w18.cell? ⟨gb228, 7, none⟩ = some (.int .i64 0) := (Kc BK228.out 7).trans rfl; have hcz20_8 : w18.cell? ⟨gb228, 8, none⟩ = some (.int .i64 0) := (Kc BK228.out 8).trans rfl; have hcz20_9 : w18.cell? ⟨gb228, 9, none⟩ = some (.slice none 0 0) := (Kc BK228.out 9).trans rfl; have hfz20_0 := Kz BK228.out 0; have hfz20_1 := Kz BK228.out 1; have hfz20_2 := Kz BK228.out 2; have hfz20_3 := Kz BK228.out 3; have hfz20_4 := Kz BK228.out 4; have hfz20_5 := Kz BK228.out 5; have hfz20_6 := Kz BK228.out 6; have hfz20_7 := Kz BK228.out 7; have hfz20_8 := Kz BK228.out 8; have hfz20_9 := Kz BK228.out 9; have hcz21_0 : w18.cell? ⟨gb224, 0, none⟩ = some (.int .i64 a0_0) := (Kc BK224.out 0).trans rfl; have hcz21_1 : w18.cell? ⟨gb224, 1, none⟩ = some (.slice (some ad226) l0_1.length c0_1) := (Kc BK224.out 1).trans rfl; have hfz21_0 := Kz BK224.out 0; have hfz21_1 := Kz BK224.out 1) | ((refine Gc (f := 40) rfl ?_); refine goesL_ (some 35) rfl rfl Try.func40 (by kernel_rfl) rfl #[.int .i64 a0_0, .agg #[.int .i64 ((rd_T72 (rd_L9 l0_1 x22_2) x28_3).f0), .int .i64 ((rd_T72 (rd_L9 l0_1 x22_2) x28_3).f1), .int .i64 ((rd_T72 (rd_L9 l0_1 x22_2) x28_3).f2), .int .i64 ((rd_T72 (rd_L9 l0_1 x22_2) x28_3).f3.f0), .int .i64 ((rd_T72 (rd_L9 l0_1 x22_2) x28_3).f3.f1), .int .i64 ((rd_T72 (rd_L9 l0_1 x22_2) x28_3).f3.f2), .int .i64 ((rd_T72 (rd_L9 l0_1 x22_2) x28_3).f3.f3), .int .i64 ((rd_T72 (rd_L9 l0_1 x22_2) x28_3).f3.f4), .int .i64 ((rd_T72 (rd_L9 l0_1 x22_2) x28_3).f4.f0), .slice A227_9 ((rd_T72 (rd_L9 l0_1 x22_2) x28_3).f4.f1).length c227_9]] rfl (by first | rfl | (simp only [List.map_toArray, List.map_cons, List.map_nil]; first | done | rfl)) ?_; (with_reducible refine (spec_l4Row.calls k3 a0_0 ((rd_T72 (rd_L9 l0_1 x22_2) x28_3).f0) ((rd_T72 (rd_L9 l0_1 x22_2) x28_3).f1) ((rd_T72 (rd_L9 l0_1 x22_2) x28_3).f2) ((rd_T72 (rd_L9 l0_1 x22_2) x28_3).f3.f0) ((rd_T72 (rd_L9 l0_1 x22_2) x28_3).f3.f1) ((rd_T72 (rd_L9 l0_1 x22_2) x28_3).f3.f2) ((rd_T72 (rd_L9 l0_1 x22_2) x28_3).f3.f3) ((rd_T72 (rd_L9 l0_1 x22_2) x28_3).f3.f4) ((rd_T72 (rd_L9 l0_1 x22_2) x28_3).f4.f0) _ _ ((rd_T72 (rd_L9 l0_1 x22_2) x28_3).f4.f1) true _ ?side1 ?side2 A16.out).mono ?_); (case side1 => exact Kd.C_below HR227_9.out (by repeat (first | (with_reducible first | exact HB.out | apply Ba | apply Bn | apply Bd | refine Bs ?_ GE224.out | refine Bs ?_ GE228.out) | exact HB.out))); (case side2 => exact HC227_9.out); rintro e w22 ⟨rfl, hb⟩; refine ⟨_, rfl, ?_⟩; have n0_ := Am (Kb (g := gb224) (o := .cells #[.int .i64 a0_0, .slice (some ad226) l0_1.length c0_1] 29 (0, 0)) (by (with_reducible repeat (first | refine Kn ?_ _ | refine Ke ?_ | refine Ka ?_ _)); refine Kf ?_ NB224_228.out _; (with_reducible repeat (first | refine Kn ?_ _ | refine Ke ?_ | refine Ka ?_ _)); refine Kf ?_ NB224_228.out _; (with_reducible repeat (first | refine Kn ?_ _ | refine Ke ?_ | refine Ka ?_ _)); refine Kf ?_ NB224_228.out _; (with_reducible repeat (first | refine Kn ?_ _ | refine Ke ?_ | refine Ka ?_ _)); refine Kf ?_ NB224_228.out _; (with_reducible repeat (first | refine Kn ?_ _ | refine Ke ?_ | refine Ka ?_ _)); refine Kf ?_ NB224_228.out _; (with_reducible repeat (first | refine Kn ?_ _ | refine Ke ?_ | refine Ka ?_ _)); refine Kf ?_ NB224_228.out _; (with_reducible repeat (first | refine Kn ?_ _ | refine Ke ?_ | refine Ka ?_ _)); refine Kf ?_ NB224_228.out _; (with_reducible repeat (first | refine Kn ?_ _ | refine Ke ?_ | refine Ka ?_ _)); refine Kf ?_ NB224_228.out _; (with_reducible repeat (first | refine Kn ?_ _ | refine Ke ?_ | refine Ka ?_ _)); refine Kf ?_ NB224_228.out _; (with_reducible repeat (first | refine Kn ?_ _ | refine Ke ?_ | refine Ka ?_ _)); refine Kf ?_ NB224_228.out _; (with_reducible repeat (first | refine Kn ?_ _ | refine Ke ?_ | refine Ka ?_ _)); exact BK224.out) hb); have n1_ := Am (Kb (g := gb228) (o := .cells #[.int .i64 ((rd_T72 (rd_L9 l0_1 x22_2) x28_3).f0), .int .i64 ((rd_T72 (rd_L9 l0_1 x22_2) x28_3).f1), .int .i64 ((rd_T72 (rd_L9 l0_1 x22_2) x28_3).f2), .int .i64 ((rd_T72 (rd_L9 l0_1 x22_2) x28_3).f3.f0), .int .i64 ((rd_T72 (rd_L9 l0_1 x22_2) x28_3).f3.f1), .int .i64 ((rd_T72 (rd_L9 l0_1 x22_2) x28_3).f3.f2), .int .i64 ((rd_T72 (rd_L9 l0_1 x22_2) x28_3).f3.f3), .int .i64 ((rd_T72 (rd_L9 l0_1 x22_2) x28_3).f3.f4), .int .i64 ((rd_T72 (rd_L9 l0_1 x22_2) x28_3).f4.f0), .slice A227_9 ((rd_T72 (rd_L9 l0_1 x22_2) x28_3).f4.f1).length c227_9] 72 (0, 0)) (by (with_reducible repeat (first | refine Kn ?_ _ | refine Ke ?_ | refine Ka ?_ _)); refine blk_put (cs := #[.int .i64 ((rd_T72 (rd_L9 l0_1 x22_2) x28_3).f0), .int .i64 ((rd_T72 (rd_L9 l0_1 x22_2) x28_3).f1), .int .i64 ((rd_T72 (rd_L9 l0_1 x22_2) x28_3).f2), .int .i64 ((rd_T72 (rd_L9 l0_1 x22_2) x28_3).f3.f0), .int .i64 ((rd_T72 (rd_L9 l0_1 x22_2) x28_3).f3.f1), .int .i64 ((rd_T72 (rd_L9 l0_1 x22_2) x28_3).f3.f2), .int .i64 ((rd_T72 (rd_L9 l0_1 x22_2) x28_3).f3.f3), .int .i64 ((rd_T72 (rd_L9 l0_1 x22_2) x28_3).f3.f4), .int .i64 ((rd_T72 (rd_L9 l0_1 x22_2) x28_3).f4.f0), .slice none 0 0]) ?_ 9 _ rfl; (with_reducible repeat (first | refine Kn ?_ _ | refine Ke ?_ | refine Ka ?_ _)); refine blk_put (cs := #[.int .i64 ((rd_T72 (rd_L9 l0_1 x22_2) x28_3).f0), .int .i64 ((rd_T72 (rd_L9 l0_1 x22_2) x28_3).f1), .int .i64 ((rd_T72 (rd_L9 l0_1 x22_2) x28_3).f2), .int .i64 ((rd_T72 (rd_L9 l0_1 x22_2) x28_3).f3.f0), .int .i64 ((rd_T72 (rd_L9 l0_1 x22_2) x28_3).f3.f1), .int .i64 ((rd_T72 (rd_L9 l0_1 x22_2) x28_3).f3.f2), .int .i64 ((rd_T72 (rd_L9 l0_1 x22_2) x28_3).f3.f3), .int .i64 ((rd_T72 (rd_L9 l0_1 x22_2) x28_3).f3.f4), .int .i64 0, .slice none 0 0]) ?_ 8 _ rfl; (with_reducible repeat (first | refine Kn ?_ _ | refine Ke ?_ | refine Ka ?_ _)); refine blk_put (cs := #[.int .i64 ((rd_T72 (rd_L9 l0_1 x22_2) x28_3).f0), .int .i64 ((rd_T72 (rd_L9 l0_1 x22_2) x28_3).f1), .int .i64 ((rd_T72 (rd_L9 l0_1 x22_2) x28_3).f2), .int .i64 ((rd_T72 (rd_L9 l0_1 x22_2) x28_3).f3.f0), .int .i64 ((rd_T72 (rd_L9 l0_1 x22_2) x28_3).f3.f1), .int .i64 ((rd_T72 (rd_L9 l0_1 x22_2) x28_3).f3.f2), .int .i64 ((rd_T72 (rd_L9 l0_1 x22_2) x28_3).f3.f3), .int .i64 0, .int .i64 0, .slice none 0 0]) ?_ 7 _ rfl; (with_reducible repeat (first | refine Kn ?_ _ | refine Ke ?_ | refine Ka ?_ _)); refine blk_put (cs := #[.int .i64 ((rd_T72 (rd_L9 l0_1 x22_2) x28_3).f0), .int .i64 ((rd_T72 (rd_L9 l0_1 x22_2) x28_3).f1), .int .i64 ((rd_T72 (rd_L9 l0_1 x22_2) x28_3).f2), .int .i64 ((rd_T72 (rd_L9 l0_1 x22_2) x28_3).f3.f0), .int .i64 ((rd_T72 (rd_L9 l0_1 x22_2) x28_3).f3.f1), .int .i64 ((rd_T72 (rd_L9 l0_1 x22_2) x28_3).f3.f2), .int .i64 0, .int .i64 0, .int .i64 0, .slice none 0 0]) ?_ 6 _ rfl; (with_reducible repeat (first | refine Kn ?_ _ | refine Ke ?_ | refine Ka ?_ _)); refine blk_put (cs := #[.int .i64 ((rd_T72 (rd_L9 l0_1 x22_2) x28_3).f0), .int .i64 ((rd_T72 (rd_L9 l0_1 x22_2) x28_3).f1), .int .i64 ((rd_T72 (rd_L9 l0_1 x22_2) x28_3).f2), .int .i64 ((rd_T72 (rd_L9 l0_1 x22_2) x28_3).f3.f0), .int .i64 ((rd_T72 (rd_L9 l0_1 x22_2) x28_3).f3.f1), .int .i64 0, .int .i64 0, .int .i64 0, .int .i64 0, .slice none 0 0]) ?_ 5 _ rfl; (with_reducible repeat (first | refine Kn ?_ _ | refine Ke ?_ | refine Ka ?_ _)); refine blk_put (cs := #[.int .i64 ((rd_T72 (rd_L9 l0_1 x22_2) x28_3).f0), .int .i64 ((rd_T72 (rd_L9 l0_1 x22_2) x28_3).f1), .int .i64 ((rd_T72 (rd_L9 l0_1 x22_2) x28_3).f2), .int .i64 ((rd_T72 (rd_L9 l0_1 x22_2) x28_3).f3.f0), .int .i64 0, .int .i64 0, .int .i64 0, .int .i64 0, .int .i64 0, .slice none 0 0]) ?_ 4 _ rfl; (with_reducible repeat (first | refine Kn ?_ _ | refine Ke ?_ | refine Ka ?_ _)); refine blk_put (cs := #[.int .i64 ((rd_T72 (rd_L9 l0_1 x22_2) x28_3).f0), .int .i64 ((rd_T72 (rd_L9 l0_1 x22_2) x28_3).f1), .int .i64 ((rd_T72 (rd_L9 l0_1 x22_2) x28_3).f2), .int .i64 0, .int .i64 0, .int .i64 0, .int .i64 0, .int .i64 0, .int .i64 0, .slice none 0 0]) ?_ 3 _ rfl; (with_reducible repeat (first | refine Kn ?_ _ | refine Ke ?_ | refine Ka ?_ _)); refine blk_put (cs := #[.int .i64 ((rd_T72 (rd_L9 l0_1 x22_2) x28_3).f0), .int .i64 ((rd_T72 (rd_L9 l0_1 x22_2) x28_3).f1), .int .i64 0, .int .i64 0, .int .i64 0, .int .i64 0, .int .i64 0, .int .i64 0, .int .i64 0, .slice none 0 0]) ?_ 2 _ rfl; (with_reducible repeat (first | refine Kn ?_ _ | refine Ke ?_ | refine Ka ?_ _)); refine blk_put (cs := #[.int .i64 ((rd_T72 (rd_L9 l0_1 x22_2) x28_3).f0), .int .i64 0, .int .i64 0, .int .i64 0, .int .i64 0, .int .i64 0, .int .i64 0, .int .i64 0, .int .i64 0, .slice none 0 0]) ?_ 1 _ rfl; (with_reducible repeat (first | refine Kn ?_ _ | refine Ke ?_ | refine Ka ?_ _)); refine blk_put (cs := #[.int .i64 0, .int .i64 0, .int .i64 0, .int .i64 0, .int .i64 0, .int .i64 0, .int .i64 0, .int .i64 0, .int .i64 0, .slice none 0 0]) ?_ 0 _ rfl; (with_reducible repeat (first | refine Kn ?_ _ | refine Ke ?_ | refine Ka ?_ _)); exact BK228.out) hb); have n2_ := Am (Bt (by repeat (first | (with_reducible first | exact HB.out | apply Ba | apply Bn | apply Bd | refine Bs ?_ GE224.out | refine Bs ?_ GE228.out) | exact HB.out)) hb); clear BK224; clear BK228; clear HB; have BK224 := n0_; have BK228 := n1_; have HB := n2_; clear n0_ n1_ n2_; (try clear hb); (try clear hb2); (try clear hk); (try clear hi)))
               go_roundg k3
               case measure => have := HJ1.out; have := HK2.out; have := HK3.out; omega
               case rel => exact ⟨(wrap64 (x28_3 + 1)), (by first | rfl | (simp; done) | (simp [*]; done)), H', ⟨by have := HJ1.out; have := HK2.out; have := HK3.out; omega⟩, ⟨by (with_reducible repeat (first | refine Kn ?_ _ | refine Ke ?_ | refine Ka ?_ _)); exact BK224.out⟩, ⟨by repeat (first | (with_reducible first | exact HB.out | apply Ba | apply Bn | apply Bd | refine Bs ?_ GE224.out | refine Bs ?_ GE228.out) | exact HB.out)⟩⟩
              ·replace c17 := Bool.eq_false_iff.mpr c17
               subst c17
               have H1 : (some false) = some r := by rw [if_neg (show ¬ (false = true) by decide)] at H; exact H
               clear H
               have H := H1
               clear H1
               obtain rfl := Option.some.inj H
               have p227 : 0 ≤ (x28_3 : Int) := of_decide_eq_true (by assumption)
               have q227 : x28_3 < ((rd_L9 l0_1 x22_2).length : Int) := of_decide_eq_true (by assumption)
               obtain ⟨ad227, A227_9, c227_9, e227, hx227_0, hx227_1, hx227_2, hx227_3, hx227_4, hx227_5, hx227_6, hx227_7, hx227_8, hx227_9, hl227_9, hi227_9⟩ := at_T72 HR226_0.out x28_3 p227 q227
               cases e227
               replace hx227_0 := (HB.out.cell (bl_ w _ hx227_0)).trans hx227_0
               replace hx227_1 := (HB.out.cell (bl_ w _ hx227_1)).trans hx227_1
               replace hx227_2 := (HB.out.cell (bl_ w _ hx227_2)).trans hx227_2
               replace hx227_3 := (HB.out.cell (bl_ w _ hx227_3)).trans hx227_3
               replace hx227_4 := (HB.out.cell (bl_ w _ hx227_4)).trans hx227_4
               replace hx227_5 := (HB.out.cell (bl_ w _ hx227_5)).trans hx227_5
               replace hx227_6 := (HB.out.cell (bl_ w _ hx227_6)).trans hx227_6
               replace hx227_7 := (HB.out.cell (bl_ w _ hx227_7)).trans hx227_7
               replace hx227_8 := (HB.out.cell (bl_ w _ hx227_8)).trans hx227_8
               replace hx227_9 := (HB.out.cell (bl_ w _ hx227_9)).trans hx227_9
               have HR227_9 := Am hi227_9
               have HC227_9 := Am hl227_9
               clear hi227_9 hl227_9
               replace p227 := eq_true p227
               replace q227 := eq_true q227
               go_wp2_with (first | ((refine Gd (N := 6) rfl ?_); (try (refine gate_guard (by rfl) ?_; dsimp only)); refine Be ?hg (N := 6) ?hd (cs := #[.int .i64 0, .int .i64 0, .int .i64 0, .int .i64 0, .int .i64 0, .int .i64 0, .int .i64 0, .int .i64 0, .int .i64 0, .slice none 0 0]) (t := 72) ?hr ?_; (case hd | hg => rfl); (case hr => first | (go_simp; done) | (go_simp; rfl)); intro gb228 hg w23 hbox hb; have n0_ := Am (Kb (g := gb224) (o := .cells #[.int .i64 a0_0, .slice (some ad226) l0_1.length c0_1] 29 (0, 0)) (by (with_reducible repeat (first | refine Kn ?_ _ | refine Ke ?_ | refine Ka ?_ _)); exact BK224.out) hb); have n1_ := Am (Bt (by repeat (first | (with_reducible first | exact HB.out | apply Ba | apply Bn | apply Bd | refine Bs ?_ GE224.out) | exact HB.out)) hb); have n2_ := Am (hbox); have n3_ := Am ((by rw [hg]; exact (Bz (by repeat (first | (with_reducible first | exact HB.out | apply Ba | apply Bn | apply Bd | refine Bs ?_ GE224.out) | exact HB.out))) : w.heap.size ≤ gb228)); have n4_ := Am ((by rw [hg]; exact (Bz (by repeat (first | (with_reducible first | exact HB.out | apply Ba | apply Bn | apply Bd | refine Bs ?_ GE224.out) | exact HB.out))) : w.heap.size ≤ gb228)); have n5_ := Am ((by rw [hg]; exact Nat.ne_of_lt (blk_lt (g := gb224) (o := .cells #[.int .i64 a0_0, .slice (some ad226) l0_1.length c0_1] 29 (0, 0)) (by (with_reducible repeat (first | refine Kn ?_ _ | refine Ke ?_ | refine Ka ?_ _)); exact BK224.out)) : gb224 ≠ gb228)); have n6_ := Am ((by rw [hg]; exact Nat.ne_of_gt (blk_lt (g := gb224) (o := .cells #[.int .i64 a0_0, .slice (some ad226) l0_1.length c0_1] 29 (0, 0)) (by (with_reducible repeat (first | refine Kn ?_ _ | refine Ke ?_ | refine Ka ?_ _)); exact BK224.out)) : gb228 ≠ gb224)); clear BK224; clear HB; have BK224 := n0_; have HB := n1_; have BK228 := n2_; have GW228 := n3_; have GE228 := n4_; have NB224_228 := n5_; have NB228_224 := n6_; clear n0_ n1_ n2_ n3_ n4_ n5_ n6_; clear hb hbox hg; have hnb24 := NB228_224.out; have hnc24 := NB224_228.out; have hcz25_0 : w23.cell? ⟨gb228, 0, none⟩ = some (.int .i64 0) := (Kc BK228.out 0).trans rfl; have hcz25_1 : w23.cell? ⟨gb228, 1, none⟩ = some (.int .i64 0) := (Kc BK228.out 1).trans rfl; have hcz25_2 : w23.cell? ⟨gb228, 2, none⟩ = some (.int .i64 0) := (Kc BK228.out 2).trans rfl; have hcz25_3 : w23.cell? ⟨gb228, 3, none⟩ = some (.int .i64 0) := (Kc BK228.out 3).trans rfl; have hcz25_4 : w23.cell? ⟨gb228, 4, none⟩ = some (.int .i64 0) := (Kc BK228.out 4).trans rfl; have hcz25_5 : w23.cell? ⟨gb228, 5, none⟩ = some (.int .i64 0) := (Kc BK228.out 5).trans rfl; have hcz25_6 : w23.cell? ⟨gb228, 6, none⟩ = some (.int .i64 0) := (Kc BK228.out 6).trans rfl; have hcz25_7 : w23.cell? ⟨gb228, 7, none⟩ = some (.int .i64 0) := (Kc BK228.out 7).trans rfl; have hcz25_8 : w23.cell? ⟨gb228, 8, none⟩ = some (.int .i64 0) := (Kc BK228.out 8).trans rfl; have hcz25_9 : w23.cell? ⟨gb228, 9, none⟩ = some (.slice none 0 0) := (Kc BK228.out 9).trans rfl; have hfz25_0 := Kz BK228.out 0; have hfz25_1 := Kz BK228.out 1; have hfz25_2 := Kz BK228.out 2; have hfz25_3 := Kz BK228.out 3; have hfz25_4 := Kz BK228.out 4; have hfz25_5 := Kz BK228.out 5; have hfz25_6 := Kz BK228.out 6; have hfz25_7 := Kz BK228.out 7; have hfz25_8 := Kz BK228.out 8; have hfz25_9 := Kz BK228.out 9; have hcz26_0 : w23.cell? ⟨gb224, 0, none⟩ = some (.int .i64 a0_0) := (Kc BK224.out 0).trans rfl; have hcz26_1 : w23.cell? ⟨gb224, 1, none⟩ = some (.slice (some ad226) l0_1.length c0_1) := (Kc BK224.out 1).trans rfl; have hfz26_0 := Kz BK224.out 0; have hfz26_1 := Kz BK224.out 1) | ((refine Gc (f := 40) rfl ?_); refine goesL_ (some 35) rfl rfl Try.func40 (by kernel_rfl) rfl #[.int .i64 a0_0, .agg #[.int .i64 ((rd_T72 (rd_L9 l0_1 x22_2) x28_3).f0), .int .i64 ((rd_T72 (rd_L9 l0_1 x22_2) x28_3).f1), .int .i64 ((rd_T72 (rd_L9 l0_1 x22_2) x28_3).f2), .int .i64 ((rd_T72 (rd_L9 l0_1 x22_2) x28_3).f3.f0), .int .i64 ((rd_T72 (rd_L9 l0_1 x22_2) x28_3).f3.f1), .int .i64 ((rd_T72 (rd_L9 l0_1 x22_2) x28_3).f3.f2), .int .i64 ((rd_T72 (rd_L9 l0_1 x22_2) x28_3).f3.f3), .int .i64 ((rd_T72 (rd_L9 l0_1 x22_2) x28_3).f3.f4), .int .i64 ((rd_T72 (rd_L9 l0_1 x22_2) x28_3).f4.f0), .slice A227_9 ((rd_T72 (rd_L9 l0_1 x22_2) x28_3).f4.f1).length c227_9]] rfl (by first | rfl | (simp only [List.map_toArray, List.map_cons, List.map_nil]; first | done | rfl)) ?_; (with_reducible refine (spec_l4Row.calls k3 a0_0 ((rd_T72 (rd_L9 l0_1 x22_2) x28_3).f0) ((rd_T72 (rd_L9 l0_1 x22_2) x28_3).f1) ((rd_T72 (rd_L9 l0_1 x22_2) x28_3).f2) ((rd_T72 (rd_L9 l0_1 x22_2) x28_3).f3.f0) ((rd_T72 (rd_L9 l0_1 x22_2) x28_3).f3.f1) ((rd_T72 (rd_L9 l0_1 x22_2) x28_3).f3.f2) ((rd_T72 (rd_L9 l0_1 x22_2) x28_3).f3.f3) ((rd_T72 (rd_L9 l0_1 x22_2) x28_3).f3.f4) ((rd_T72 (rd_L9 l0_1 x22_2) x28_3).f4.f0) _ _ ((rd_T72 (rd_L9 l0_1 x22_2) x28_3).f4.f1) false _ ?side1 ?side2 A16.out).mono ?_); (case side1 => exact Kd.C_below HR227_9.out (by repeat (first | (with_reducible first | exact HB.out | apply Ba | apply Bn | apply Bd | refine Bs ?_ GE224.out | refine Bs ?_ GE228.out) | exact HB.out))); (case side2 => exact HC227_9.out); rintro e w27 ⟨rfl, hb⟩; refine ⟨_, rfl, ?_⟩; have n0_ := Am (Kb (g := gb224) (o := .cells #[.int .i64 a0_0, .slice (some ad226) l0_1.length c0_1] 29 (0, 0)) (by (with_reducible repeat (first | refine Kn ?_ _ | refine Ke ?_ | refine Ka ?_ _)); refine Kf ?_ NB224_228.out _; (with_reducible repeat (first | refine Kn ?_ _ | refine Ke ?_ | refine Ka ?_ _)); refine Kf ?_ NB224_228.out _; (with_reducible repeat (first | refine Kn ?_ _ | refine Ke ?_ | refine Ka ?_ _)); refine Kf ?_ NB224_228.out _; (with_reducible repeat (first | refine Kn ?_ _ | refine Ke ?_ | refine Ka ?_ _)); refine Kf ?_ NB224_228.out _; (with_reducible repeat (first | refine Kn ?_ _ | refine Ke ?_ | refine Ka ?_ _)); refine Kf ?_ NB224_228.out _; (with_reducible repeat (first | refine Kn ?_ _ | refine Ke ?_ | refine Ka ?_ _)); refine Kf ?_ NB224_228.out _; (with_reducible repeat (first | refine Kn ?_ _ | refine Ke ?_ | refine Ka ?_ _)); refine Kf ?_ NB224_228.out _; (with_reducible repeat (first | refine Kn ?_ _ | refine Ke ?_ | refine Ka ?_ _)); refine Kf ?_ NB224_228.out _; (with_reducible repeat (first | refine Kn ?_ _ | refine Ke ?_ | refine Ka ?_ _)); refine Kf ?_ NB224_228.out _; (with_reducible repeat (first | refine Kn ?_ _ | refine Ke ?_ | refine Ka ?_ _)); refine Kf ?_ NB224_228.out _; (with_reducible repeat (first | refine Kn ?_ _ | refine Ke ?_ | refine Ka ?_ _)); exact BK224.out) hb); have n1_ := Am (Kb (g := gb228) (o := .cells #[.int .i64 ((rd_T72 (rd_L9 l0_1 x22_2) x28_3).f0), .int .i64 ((rd_T72 (rd_L9 l0_1 x22_2) x28_3).f1), .int .i64 ((rd_T72 (rd_L9 l0_1 x22_2) x28_3).f2), .int .i64 ((rd_T72 (rd_L9 l0_1 x22_2) x28_3).f3.f0), .int .i64 ((rd_T72 (rd_L9 l0_1 x22_2) x28_3).f3.f1), .int .i64 ((rd_T72 (rd_L9 l0_1 x22_2) x28_3).f3.f2), .int .i64 ((rd_T72 (rd_L9 l0_1 x22_2) x28_3).f3.f3), .int .i64 ((rd_T72 (rd_L9 l0_1 x22_2) x28_3).f3.f4), .int .i64 ((rd_T72 (rd_L9 l0_1 x22_2) x28_3).f4.f0), .slice A227_9 ((rd_T72 (rd_L9 l0_1 x22_2) x28_3).f4.f1).length c227_9] 72 (0, 0)) (by (with_reducible repeat (first | refine Kn ?_ _ | refine Ke ?_ | refine Ka ?_ _)); refine blk_put (cs := #[.int .i64 ((rd_T72 (rd_L9 l0_1 x22_2) x28_3).f0), .int .i64 ((rd_T72 (rd_L9 l0_1 x22_2) x28_3).f1), .int .i64 ((rd_T72 (rd_L9 l0_1 x22_2) x28_3).f2), .int .i64 ((rd_T72 (rd_L9 l0_1 x22_2) x28_3).f3.f0), .int .i64 ((rd_T72 (rd_L9 l0_1 x22_2) x28_3).f3.f1), .int .i64 ((rd_T72 (rd_L9 l0_1 x22_2) x28_3).f3.f2), .int .i64 ((rd_T72 (rd_L9 l0_1 x22_2) x28_3).f3.f3), .int .i64 ((rd_T72 (rd_L9 l0_1 x22_2) x28_3).f3.f4), .int .i64 ((rd_T72 (rd_L9 l0_1 x22_2) x28_3).f4.f0), .slice none 0 0]) ?_ 9 _ rfl; (with_reducible repeat (first | refine Kn ?_ _ | refine Ke ?_ | refine Ka ?_ _)); refine blk_put (cs := #[.int .i64 ((rd_T72 (rd_L9 l0_1 x22_2) x28_3).f0), .int .i64 ((rd_T72 (rd_L9 l0_1 x22_2) x28_3).f1), .int .i64 ((rd_T72 (rd_L9 l0_1 x22_2) x28_3).f2), .int .i64 ((rd_T72 (rd_L9 l0_1 x22_2) x28_3).f3.f0), .int .i64 ((rd_T72 (rd_L9 l0_1 x22_2) x28_3).f3.f1), .int .i64 ((rd_T72 (rd_L9 l0_1 x22_2) x28_3).f3.f2), .int .i64 ((rd_T72 (rd_L9 l0_1 x22_2) x28_3).f3.f3), .int .i64 ((rd_T72 (rd_L9 l0_1 x22_2) x28_3).f3.f4), .int .i64 0, .slice none 0 0]) ?_ 8 _ rfl; (with_reducible repeat (first | refine Kn ?_ _ | refine Ke ?_ | refine Ka ?_ _)); refine blk_put (cs := #[.int .i64 ((rd_T72 (rd_L9 l0_1 x22_2) x28_3).f0), .int .i64 ((rd_T72 (rd_L9 l0_1 x22_2) x28_3).f1), .int .i64 ((rd_T72 (rd_L9 l0_1 x22_2) x28_3).f2), .int .i64 ((rd_T72 (rd_L9 l0_1 x22_2) x28_3).f3.f0), .int .i64 ((rd_T72 (rd_L9 l0_1 x22_2) x28_3).f3.f1), .int .i64 ((rd_T72 (rd_L9 l0_1 x22_2) x28_3).f3.f2), .int .i64 ((rd_T72 (rd_L9 l0_1 x22_2) x28_3).f3.f3), .int .i64 0, .int .i64 0, .slice none 0 0]) ?_ 7 _ rfl; (with_reducible repeat (first | refine Kn ?_ _ | refine Ke ?_ | refine Ka ?_ _)); refine blk_put (cs := #[.int .i64 ((rd_T72 (rd_L9 l0_1 x22_2) x28_3).f0), .int .i64 ((rd_T72 (rd_L9 l0_1 x22_2) x28_3).f1), .int .i64 ((rd_T72 (rd_L9 l0_1 x22_2) x28_3).f2), .int .i64 ((rd_T72 (rd_L9 l0_1 x22_2) x28_3).f3.f0), .int .i64 ((rd_T72 (rd_L9 l0_1 x22_2) x28_3).f3.f1), .int .i64 ((rd_T72 (rd_L9 l0_1 x22_2) x28_3).f3.f2), .int .i64 0, .int .i64 0, .int .i64 0, .slice none 0 0]) ?_ 6 _ rfl; (with_reducible repeat (first | refine Kn ?_ _ | refine Ke ?_ | refine Ka ?_ _)); refine blk_put (cs := #[.int .i64 ((rd_T72 (rd_L9 l0_1 x22_2) x28_3).f0), .int .i64 ((rd_T72 (rd_L9 l0_1 x22_2) x28_3).f1), .int .i64 ((rd_T72 (rd_L9 l0_1 x22_2) x28_3).f2), .int .i64 ((rd_T72 (rd_L9 l0_1 x22_2) x28_3).f3.f0), .int .i64 ((rd_T72 (rd_L9 l0_1 x22_2) x28_3).f3.f1), .int .i64 0, .int .i64 0, .int .i64 0, .int .i64 0, .slice none 0 0]) ?_ 5 _ rfl; (with_reducible repeat (first | refine Kn ?_ _ | refine Ke ?_ | refine Ka ?_ _)); refine blk_put (cs := #[.int .i64 ((rd_T72 (rd_L9 l0_1 x22_2) x28_3).f0), .int .i64 ((rd_T72 (rd_L9 l0_1 x22_2) x28_3).f1), .int .i64 ((rd_T72 (rd_L9 l0_1 x22_2) x28_3).f2), .int .i64 ((rd_T72 (rd_L9 l0_1 x22_2) x28_3).f3.f0), .int .i64 0, .int .i64 0, .int .i64 0, .int .i64 0, .int .i64 0, .slice none 0 0]) ?_ 4 _ rfl; (with_reducible repeat (first | refine Kn ?_ _ | refine Ke ?_ | refine Ka ?_ _)); refine blk_put (cs := #[.int .i64 ((rd_T72 (rd_L9 l0_1 x22_2) x28_3).f0), .int .i64 ((rd_T72 (rd_L9 l0_1 x22_2) x28_3).f1), .int .i64 ((rd_T72 (rd_L9 l0_1 x22_2) x28_3).f2), .int .i64 0, .int .i64 0, .int .i64 0, .int .i64 0, .int .i64 0, .int .i64 0, .slice none 0 0]) ?_ 3 _ rfl; (with_reducible repeat (first | refine Kn ?_ _ | refine Ke ?_ | refine Ka ?_ _)); refine blk_put (cs := #[.int .i64 ((rd_T72 (rd_L9 l0_1 x22_2) x28_3).f0), .int .i64 ((rd_T72 (rd_L9 l0_1 x22_2) x28_3).f1), .int .i64 0, .int .i64 0, .int .i64 0, .int .i64 0, .int .i64 0, .int .i64 0, .int .i64 0, .slice none 0 0]) ?_ 2 _ rfl; (with_reducible repeat (first | refine Kn ?_ _ | refine Ke ?_ | refine Ka ?_ _)); refine blk_put (cs := #[.int .i64 ((rd_T72 (rd_L9 l0_1 x22_2) x28_3).f0), .int .i64 0, .int .i64 0, .int .i64 0, .int .i64 0, .int .i64 0, .int .i64 0, .int .i64 0, .int .i64 0, .slice none 0 0]) ?_ 1 _ rfl; (with_reducible repeat (first | refine Kn ?_ _ | refine Ke ?_ | refine Ka ?_ _)); refine blk_put (cs := #[.int .i64 0, .int .i64 0, .int .i64 0, .int .i64 0, .int .i64 0, .int .i64 0, .int .i64 0, .int .i64 0, .int .i64 0, .slice none 0 0]) ?_ 0 _ rfl; (with_reducible repeat (first | refine Kn ?_ _ | refine Ke ?_ | refine Ka ?_ _)); exact BK228.out) hb); have n2_ := Am (Bt (by repeat (first | (with_reducible first | exact HB.out | apply Ba | apply Bn | apply Bd | refine Bs ?_ GE224.out | refine Bs ?_ GE228.out) | exact HB.out)) hb); clear BK224; clear BK228; clear HB; have BK224 := n0_; have BK228 := n1_; have HB := n2_; clear n0_ n1_ n2_; (try clear hb); (try clear hb2); (try clear hk); (try clear hi)))
               go_ret
               exact ⟨by first | rfl | (simp [*, errW_none, errW_some] <;> rfl), by repeat (first | (with_reducible first | exact HB.out | apply Ba | apply Bn | apply Bd | refine Bs ?_ GE224.out | refine Bs ?_ GE228.out) | exact HB.out)⟩
             ·rw [if_neg c15] at H
              exact absurd H (by simp)
            ·rw [if_neg c14] at H
             exact absurd H (by simp)
           ·rw [if_neg c13] at H
            have c13b0 : decide (x28_3 < ((rd_L9 l0_1 x22_2).length : Int)) = false := decide_eq_false c13
            clear c13
            by_cases c28 : ((rd_L9 l0_1 x22_2).length : Int) > 6
            ·rw [if_pos c28] at H
             have c28b0 : decide (6 < ((rd_L9 l0_1 x22_2).length : Int)) = true := decide_eq_true c28
             have c28b1 : decide (6 < (rd_L9 l0_1 x22_2).length) = true := decide_eq_true (by omega)
             clear c28
             obtain rfl := Option.some.inj H
             go_wp2
             go_ret
             exact ⟨by first | rfl | (simp [*, errW_none, errW_some] <;> rfl), by repeat (first | (with_reducible first | exact HB.out | apply Ba | apply Bn | apply Bd | refine Bs ?_ GE224.out) | exact HB.out)⟩
            ·rw [if_neg c28] at H
             have c28b0 : decide (6 < ((rd_L9 l0_1 x22_2).length : Int)) = false := decide_eq_false c28
             have c28b1 : decide (6 < (rd_L9 l0_1 x22_2).length) = false := decide_eq_false (by omega)
             clear c28
             have H' := Am H
             clear H
             go_wp2
             go_roundg k3
             case measure => have := HJ1.out; have := HK2.out; have := HK3.out; omega
             case rel => exact ⟨(wrap64 (x22_2 + 1)), (by first | rfl | (simp; done) | (simp [*]; done)), H', ⟨by have := HJ1.out; have := HK2.out; have := HK3.out; omega⟩, ⟨by (with_reducible repeat (first | refine Kn ?_ _ | refine Ke ?_ | refine Ka ?_ _)); exact BK224.out⟩, ⟨by repeat (first | (with_reducible first | exact HB.out | apply Ba | apply Bn | apply Bd | refine Bs ?_ GE224.out) | exact HB.out)⟩⟩
        ·rw [if_neg c12] at H
         exact absurd H (by simp)
       ·rw [if_neg c11] at H
        exact absurd H (by simp)
      ·rw [if_neg c10] at H
       have c10b0 : decide (x22_2 < (l0_1.length : Int)) = false := decide_eq_false c10
       clear c10
       obtain rfl := Option.some.inj H
       go_wp2
       go_ret
       exact ⟨by first | rfl | (simp [*, errW_none, errW_some] <;> rfl), by repeat (first | (with_reducible first | exact HB.out | apply Ba | apply Bn | apply Bd | refine Bs ?_ GE224.out) | exact HB.out)⟩
def spec_l3Inst.f (a0 : Int) (a1 : Int) (a2 : Int) : Option (Bool) := (spec_l1In.f a1 0 (wrap64 (a0 - 1))).bind fun t230 => (if t230 = true then ((spec_l1In.f a2 1 6).bind fun t231 => (some t231)) else (some false))
set_option maxHeartbeats 8000000 in
set_option maxRecDepth 100000 in
theorem spec_l3Inst.calls (a0 : Int) (a1 : Int) (a2 : Int) (r : Bool) (w : World) (h : spec_l3Inst.f a0 a1 a2 = some r) :
  Calls Try.prog 90 #[.int .i64 a0, .int .i64 a1, .int .i64 a2] w fun e w' => e = .returned (.bool r) ∧ Drawn0 w w' := by
 have H : ((spec_l1In.f a1 0 (wrap64 (a0 - 1))).bind fun t230 => (if t230 = true then ((spec_l1In.f a2 1 6).bind fun t231 => (some t231)) else (some false))) = some r := h
 clear h
 replace H := Option.bind_eq_some_iff.mp H
 obtain ⟨t230, A40, H⟩ := H
 replace H : (if t230 = true then ((spec_l1In.f a2 1 6).bind fun t231 => (some t231)) else (some false)) = some r := H
 have A4 := Am A40
 clear A40
 by_cases c5 : t230 = true
 ·subst c5
  have H1 : ((spec_l1In.f a2 1 6).bind fun t231 => (some t231)) = some r := by rw [if_pos rfl] at H; exact H
  clear H
  have H := H1
  clear H1
  replace H := Option.bind_eq_some_iff.mp H
  obtain ⟨t231, A60, H⟩ := H
  replace H : (some t231) = some r := H
  have A6 := Am A60
  clear A60
  obtain rfl := Option.some.inj H
  go_enter Try.func90, Try.ntmps90
  go_wp2_with (first | ((refine Gc (f := 65) rfl ?_); refine goesL_ (some 10) rfl rfl Try.func65 (by kernel_rfl) rfl #[.int .i64 a1, .int .i64 0, .int .i64 (wrap64 (a0 - 1))] rfl (by first | rfl | (simp only [List.map_toArray, List.map_cons, List.map_nil]; first | done | rfl)) ?_; (with_reducible refine (spec_l1In.calls a1 0 (wrap64 (a0 - 1)) true _ A4.out).mono ?_); rintro e w' ⟨rfl, ⟨nd, rfl⟩⟩; refine ⟨_, rfl, ?_⟩) | (go_at_call 65; (with_reducible refine (spec_l1In.calls a2 1 6 t231 _ A6.out).mono ?_); rintro e w' ⟨rfl, ⟨nd, rfl⟩⟩))
  go_ret
  exact ⟨by first | rfl | (simp; done) | (simp [*]; done), by repeat (first | exact Drawn0.refl _ | apply Drawn0.step)⟩
 ·replace c5 := Bool.eq_false_iff.mpr c5
  subst c5
  have H1 : (some false) = some r := by rw [if_neg (show ¬ (false = true) by decide)] at H; exact H
  clear H
  have H := H1
  clear H1
  obtain rfl := Option.some.inj H
  go_enter Try.func90, Try.ntmps90
  go_wp2_with (first | ((refine Gc (f := 65) rfl ?_); refine goesL_ (some 10) rfl rfl Try.func65 (by kernel_rfl) rfl #[.int .i64 a1, .int .i64 0, .int .i64 (wrap64 (a0 - 1))] rfl (by first | rfl | (simp only [List.map_toArray, List.map_cons, List.map_nil]; first | done | rfl)) ?_; (with_reducible refine (spec_l1In.calls a1 0 (wrap64 (a0 - 1)) false _ A4.out).mono ?_); rintro e w' ⟨rfl, ⟨nd, rfl⟩⟩; refine ⟨_, rfl, ?_⟩))
  go_ret
  exact ⟨by first | rfl | (simp; done) | (simp [*]; done), by repeat (first | exact Drawn0.refl _ | apply Drawn0.step)⟩
def spec_l4Asked.f (k : Nat) (a0_0 : Int) (l0_1 : List (List (S72))) (a1 : Int) (a2 : Int) : Option (Bool) := (spec_GoodTable.f k a0_0 l0_1).bind fun t233 => (if t233 = true then ((spec_l3Inst.f a0_0 a1 a2).bind fun t234 => (some t234)) else (some false))
theorem spec_l4Asked.mono : ∀ a0 a1 a2 a3 k, LeO (spec_l4Asked.f k a0 a1 a2 a3) (spec_l4Asked.f (k + 1) a0 a1 a2 a3) := by
 intro a0 a1 a2 a3 k
 unfold spec_l4Asked.f
 repeat' first
   | (with_reducible exact spec_GoodTable.mono _ _ _)
   | (with_reducible exact LeO.refl _)
   | (with_reducible exact LeO.none _)
   | (with_reducible refine LeO.ite ?_ ?_)
   | (with_reducible refine LeO.bind ?_ (fun _ => ?_))
   | exact spec_GoodTable.mono _ _ _
   | exact LeO.none _
   | refine LeO.ite ?_ ?_
   | refine LeO.bind ?_ (fun _ => ?_)
set_option maxHeartbeats 8000000 in
set_option maxRecDepth 100000 in
theorem spec_l4Asked.calls (k : Nat) (a0_0 : Int) (A0_1 : Option Addr) (c0_1 : Nat) (l0_1 : List (List (S72))) (a1 : Int) (a2 : Int) (r : Bool) (w : World) (hr0_1 : Kd.C (Kd.slice 72 k72) w A0_1 l0_1.length l0_1) (hc0_1 : l0_1.length ≤ c0_1) (h : spec_l4Asked.f k a0_0 l0_1 a1 a2 = some r) :
  Calls Try.prog 58 #[.agg #[.int .i64 a0_0, .slice A0_1 l0_1.length c0_1], .int .i64 a1, .int .i64 a2] w fun e w' => e = .returned (.bool r) ∧ Below w.heap.size w w' := by
 have hu29 := Try.underlying29
 have HR0_1 := Am hr0_1
 have HC0_1 := Am hc0_1
 clear hr0_1 hc0_1
 have HB := Am (Below.refl w.heap.size w)
 have H : ((spec_GoodTable.f k a0_0 l0_1).bind fun t233 => (if t233 = true then ((spec_l3Inst.f a0_0 a1 a2).bind fun t234 => (some t234)) else (some false))) = some r := h
 clear h
 replace H := Option.bind_eq_some_iff.mp H
 obtain ⟨t233, A40, H⟩ := H
 replace H : (if t233 = true then ((spec_l3Inst.f a0_0 a1 a2).bind fun t234 => (some t234)) else (some false)) = some r := H
 have A4 := Am A40
 clear A40
 by_cases c5 : t233 = true
 ·subst c5
  have H1 : ((spec_l3Inst.f a0_0 a1 a2).bind fun t234 => (some t234)) = some r := by rw [if_pos rfl] at H; exact H
  clear H
  have H := H1
  clear H1
  replace H := Option.bind_eq_some_iff.mp H
  obtain ⟨t234, A60, H⟩ := H
  replace H : (some t234) = some r := H
  have A6 := Am A60
  clear A60
  obtain rfl := Option.some.inj H
  go_enter Try.func58, Try.ntmps58
  go_wp2_with (first | ((refine Gd (N := 3) rfl ?_); refine Be ?hg (N := 3) ?hd (cs := #[.int .i64 a0_0, .slice A0_1 l0_1.length c0_1]) (t := 29) ?hr ?_; (case hd | hg => rfl); (case hr => first | (go_simp; done) | (go_simp; rfl)); intro gb232 hg w7 hbox hb; have n0_ := Am (Bt (by repeat (first | exact HB.out | apply Ba | apply Bn | apply Bd)) hb); have n1_ := Am (hbox); have n2_ := Am ((by rw [hg]; exact (Bz (by repeat (first | exact HB.out | apply Ba | apply Bn | apply Bd))) : w.heap.size ≤ gb232)); have n3_ := Am ((by rw [hg]; exact (Bz (by repeat (first | exact HB.out | apply Ba | apply Bn | apply Bd))) : w.heap.size ≤ gb232)); clear HB; have HB := n0_; have BK232 := n1_; have GW232 := n2_; have GE232 := n3_; clear n0_ n1_ n2_ n3_; clear hb hbox hg; have hcz8_0 : w7.cell? ⟨gb232, 0, none⟩ = some (.int .i64 a0_0) := (Kc BK232.out 0).trans rfl; have hcz8_1 : w7.cell? ⟨gb232, 1, none⟩ = some (.slice A0_1 l0_1.length c0_1) := (Kc BK232.out 1).trans rfl; have hfz8_0 := Kz BK232.out 0; have hfz8_1 := Kz BK232.out 1) | ((refine Gc (f := 10) rfl ?_); refine goesL_ (some 8) rfl rfl Try.func10 (by kernel_rfl) rfl #[.agg #[.int .i64 a0_0, .slice A0_1 l0_1.length c0_1]] rfl (by first | rfl | (simp only [List.map_toArray, List.map_cons, List.map_nil]; first | done | rfl)) ?_; (with_reducible refine (spec_GoodTable.calls k a0_0 _ _ l0_1 true _ ?side1 ?side2 A4.out).mono ?_); (case side1 => repeat (first | exact (Kd.C_below HR0_1.out HB.out) | (with_reducible refine Kd.C_alloc ?_ _) | (with_reducible refine Kd.C_drewN ?_ _) | (with_reducible refine Kd.C_drew ?_))); (case side2 => exact HC0_1.out); rintro e w9 ⟨rfl, hb⟩; refine ⟨_, rfl, ?_⟩; have n0_ := Am (Kb (g := gb232) (o := .cells #[.int .i64 a0_0, .slice A0_1 l0_1.length c0_1] 29 (0, 0)) (by (with_reducible repeat (first | refine Kn ?_ _ | refine Ke ?_ | refine Ka ?_ _)); exact BK232.out) hb); have n1_ := Am (Bt (by repeat (first | (with_reducible first | exact HB.out | apply Ba | apply Bn | apply Bd | refine Bs ?_ GE232.out) | exact HB.out)) hb); clear BK232; clear HB; have BK232 := n0_; have HB := n1_; clear n0_ n1_; (try clear hb); (try clear hb2); (try clear hk); (try clear hi); have hcz10_0 : w9.cell? ⟨gb232, 0, none⟩ = some (.int .i64 a0_0) := (Kc BK232.out 0).trans rfl; have hcz10_1 : w9.cell? ⟨gb232, 1, none⟩ = some (.slice A0_1 l0_1.length c0_1) := (Kc BK232.out 1).trans rfl; have hfz10_0 := Kz BK232.out 0; have hfz10_1 := Kz BK232.out 1) | (go_at_call 90; (with_reducible refine (spec_l3Inst.calls a0_0 a1 a2 t234 _ A6.out).mono ?_); rintro e w' ⟨rfl, ⟨nd, rfl⟩⟩))
  go_ret
  exact ⟨by first | rfl | (simp [*, errW_none, errW_some] <;> rfl), by repeat (first | (with_reducible first | exact HB.out | apply Ba | apply Bn | apply Bd | refine Bs ?_ GE232.out) | exact HB.out)⟩
 ·replace c5 := Bool.eq_false_iff.mpr c5
  subst c5
  have H1 : (some false) = some r := by rw [if_neg (show ¬ (false = true) by decide)] at H; exact H
  clear H
  have H := H1
  clear H1
  obtain rfl := Option.some.inj H
  go_enter Try.func58, Try.ntmps58
  go_wp2_with (first | ((refine Gd (N := 3) rfl ?_); refine Be ?hg (N := 3) ?hd (cs := #[.int .i64 a0_0, .slice A0_1 l0_1.length c0_1]) (t := 29) ?hr ?_; (case hd | hg => rfl); (case hr => first | (go_simp; done) | (go_simp; rfl)); intro gb232 hg w11 hbox hb; have n0_ := Am (Bt (by repeat (first | exact HB.out | apply Ba | apply Bn | apply Bd)) hb); have n1_ := Am (hbox); have n2_ := Am ((by rw [hg]; exact (Bz (by repeat (first | exact HB.out | apply Ba | apply Bn | apply Bd))) : w.heap.size ≤ gb232)); have n3_ := Am ((by rw [hg]; exact (Bz (by repeat (first | exact HB.out | apply Ba | apply Bn | apply Bd))) : w.heap.size ≤ gb232)); clear HB; have HB := n0_; have BK232 := n1_; have GW232 := n2_; have GE232 := n3_; clear n0_ n1_ n2_ n3_; clear hb hbox hg; have hcz12_0 : w11.cell? ⟨gb232, 0, none⟩ = some (.int .i64 a0_0) := (Kc BK232.out 0).trans rfl; have hcz12_1 : w11.cell? ⟨gb232, 1, none⟩ = some (.slice A0_1 l0_1.length c0_1) := (Kc BK232.out 1).trans rfl; have hfz12_0 := Kz BK232.out 0; have hfz12_1 := Kz BK232.out 1) | ((refine Gc (f := 10) rfl ?_); refine goesL_ (some 8) rfl rfl Try.func10 (by kernel_rfl) rfl #[.agg #[.int .i64 a0_0, .slice A0_1 l0_1.length c0_1]] rfl (by first | rfl | (simp only [List.map_toArray, List.map_cons, List.map_nil]; first | done | rfl)) ?_; (with_reducible refine (spec_GoodTable.calls k a0_0 _ _ l0_1 false _ ?side1 ?side2 A4.out).mono ?_); (case side1 => repeat (first | exact (Kd.C_below HR0_1.out HB.out) | (with_reducible refine Kd.C_alloc ?_ _) | (with_reducible refine Kd.C_drewN ?_ _) | (with_reducible refine Kd.C_drew ?_))); (case side2 => exact HC0_1.out); rintro e w13 ⟨rfl, hb⟩; refine ⟨_, rfl, ?_⟩; have n0_ := Am (Kb (g := gb232) (o := .cells #[.int .i64 a0_0, .slice A0_1 l0_1.length c0_1] 29 (0, 0)) (by (with_reducible repeat (first | refine Kn ?_ _ | refine Ke ?_ | refine Ka ?_ _)); exact BK232.out) hb); have n1_ := Am (Bt (by repeat (first | (with_reducible first | exact HB.out | apply Ba | apply Bn | apply Bd | refine Bs ?_ GE232.out) | exact HB.out)) hb); clear BK232; clear HB; have BK232 := n0_; have HB := n1_; clear n0_ n1_; (try clear hb); (try clear hb2); (try clear hk); (try clear hi)))
  go_ret
  exact ⟨by first | rfl | (simp [*, errW_none, errW_some] <;> rfl), by repeat (first | (with_reducible first | exact HB.out | apply Ba | apply Bn | apply Bd | refine Bs ?_ GE232.out) | exact HB.out)⟩
def impl_Table_each.rowO {α : Type} (step : α → Int → Int → S72 → Option α) (i : Int) : List S72 → Nat → α → Option α
 | [], _, s => some s
 | x :: xs, j, s => (step s i ((j : Int) + 1) x).bind fun s' => impl_Table_each.rowO step i xs (j + 1) s'
def impl_Table_each.allO {α : Type} (step : α → Int → Int → S72 → Option α) : List (List S72) → Nat → α → Option α
 | [], _, s => some s
 | y :: ys, i, s => (impl_Table_each.rowO step (i : Int) y 0 s).bind fun s' => impl_Table_each.allO step ys (i + 1) s'
set_option maxHeartbeats 4000000 in
set_option maxRecDepth 100000 in
theorem impl_Table_each.gen {α : Type} (g : FuncId) (lb : Array Value) (Rel : α → World → Prop) (step : α → Int → Int → S72 → Option α) (n : Int) (A : Option Addr) (c : Nat) (l : List (List S72)) (s r : α) (wb w : World)
  (eg : ∀ args w, (callFunc g args).run Try.prog w = .ok (.enter g args) w)
  (hr : Kd.C (Kd.slice 72 k72) wb A l.length l)
  (hbel : ∀ s W, Rel s W → Below wb.heap.size wb W) (hmono : ∀ s W W', Rel s W → Below W.heap.size W W' → Rel s W')
  (hstep : ∀ (s s' : α) (i j : Int) (x : S72) (A9 : Option Addr) (c9 : Nat) (W : World), Rel s W → step s i j x = some s' → Calls Try.prog g (#[.int .i64 i, .int .i64 j, .agg #[.int .i64 x.f0, .int .i64 x.f1, .int .i64 x.f2, .int .i64 x.f3.f0, .int .i64 x.f3.f1, .int .i64 x.f3.f2, .int .i64 x.f3.f3, .int .i64 x.f3.f4, .int .i64 x.f4.f0, .slice A9 x.f4.f1.length c9]] ++ lb) W fun e W' => e = .returned (.tuple #[]) ∧ Rel s' W')
  (h0 : Rel s w) (h : impl_Table_each.allO step l 0 s = some r) :
  Calls Try.prog 88 #[.agg #[.int .i64 n, .slice A l.length c], .func (.func g) #[] lb] w fun e w' => e = .returned (.tuple #[]) ∧ Rel r w' := by
 have hu := Try.underlying72
 have hu2 := Try.underlying29
 have hm : l.length ≤ 9223372036854775807 := hr.2.1
 have HR := Am hr
 have HB := Am hbel
 have HM := Am hmono
 have HS := Am hstep
 have H0 := Am h0
 have HI := Am h
 clear hr hbel hmono hstep h0 h
 go_enter Try.func88, Try.ntmps88
 go_upto_region 1 with (fail)
 refine letC (fun W_ => Below w.heap.size w W_ ∧ W_.heap[w.heap.size]? = some (.cells #[.int .i64 n, .slice A l.length c] 29 (0, 0))) ⟨Ba (Below.refl _ _) _, blk_new w (.cells #[.int .i64 n, .slice A l.length c] 29)⟩ ?_
 rintro W0 ⟨hb, hx⟩
 have HR0 := Am (HM.out _ _ _ H0.out hb)
 have qt : W0.cell? ⟨w.heap.size, 1, none⟩ = some (.slice A l.length c) := (Kc hx 1).trans rfl
 clear hb hx H0
 go_wp2
 clear qt
 go_loopg [11] l.length (fun gg s11 wr => ∃ (kk : Nat) (t : α), kk ≤ l.length ∧ l.length - kk ≤ gg ∧ s11 = .int .i64 kk ∧ Ad (Rel t wr) ∧ Ad (impl_Table_each.allO step (l.drop kk) kk t = some r))
 case atStart => exact ⟨0, s, Nat.zero_le _, by omega, rfl, HR0, ⟨by simpa using HI.out⟩⟩
 case round =>
  clear HI HR0
  obtain ⟨kk, t, hkk, hg, rfl, HT, PF⟩ := hrel
  by_cases hlt : kk < l.length
  ·have hltz : (kk : Int) < (l.length : Int) := by omega
   obtain ⟨ad, Ay, cy, rfl, hy0, hly, hiy⟩ := at_L9 HR.out (kk : Int) (by omega) hltz
   have hy0 := ((HB.out _ _ HT.out).cell (bl_ wb _ hy0)).trans hy0
   simp only [Int.toNat_natCast] at hy0
   have he : Ad (l.getD kk [] = rd_L9 l (kk : Int)) := ⟨by unfold rd_L9; rw [Int.toNat_natCast]⟩
   have PG : Ad ((impl_Table_each.rowO step (kk : Int) (rd_L9 l (kk : Int)) 0 t).bind (fun s' => impl_Table_each.allO step (l.drop (kk + 1)) (kk + 1) s') = some r) := ⟨by have h_ := PF.out; rw [Mine.drop_at l [] kk hlt, he.out] at h_; exact h_⟩
   have HIY := Am hiy
   clear PF he hiy
   generalize rd_L9 l (kk : Int) = y at hy0 hly HIY PG
   have hmy : y.length ≤ 9223372036854775807 := HIY.out.2.1
   go_wp2
   go_loopg [18] y.length (fun gg s18 wr2 => ∃ (jj : Nat) (t2 : α), jj ≤ y.length ∧ y.length - jj ≤ gg ∧ s18 = .int .i64 jj ∧ Ad (Rel t2 wr2) ∧ Ad ((impl_Table_each.rowO step (kk : Int) (y.drop jj) jj t2).bind (fun s' => impl_Table_each.allO step (l.drop (kk + 1)) (kk + 1) s') = some r))
   case atStart => exact ⟨0, t, Nat.zero_le _, by omega, rfl, HT, ⟨by simpa using PG.out⟩⟩
   case round =>
    clear HT PG hy0
    obtain ⟨jj, t2, hjj, hg2, rfl, HT, PF⟩ := hrel
    by_cases hlt2 : jj < y.length
    ·have hltz2 : (jj : Int) < (y.length : Int) := by omega
     obtain ⟨ad2, A9, c9, rfl, hx0, hx1, hx2, hx3, hx4, hx5, hx6, hx7, hx8, hx9, hl9, hi9⟩ := at_T72 (Kd.C_below HIY.out (HB.out _ _ HT.out)) (jj : Int) (by omega) hltz2
     simp only [Int.toNat_natCast] at hx0 hx1 hx2 hx3 hx4 hx5 hx6 hx7 hx8 hx9
     have he : Ad (y.getD jj z72 = rd_T72 y (jj : Int)) := ⟨by unfold rd_T72; rw [Int.toNat_natCast]⟩
     have PG : Ad (((step t2 (kk : Int) ((jj : Int) + 1) (rd_T72 y (jj : Int))).bind fun s' => impl_Table_each.rowO step (kk : Int) (y.drop (jj + 1)) (jj + 1) s').bind (fun s' => impl_Table_each.allO step (l.drop (kk + 1)) (kk + 1) s') = some r) := ⟨by have h_ := PF.out; rw [Mine.drop_at y z72 jj hlt2, he.out] at h_; exact h_⟩
     clear PF he hl9 hi9
     generalize rd_T72 y (jj : Int) = x at hx0 hx1 hx2 hx3 hx4 hx5 hx6 hx7 hx8 hx9 PG
     cases hq : step t2 (kk : Int) ((jj : Int) + 1) x with
     | none => exact absurd PG.out (by rw [hq]; simp)
     | some t3 =>
     have PG : Ad ((impl_Table_each.rowO step (kk : Int) (y.drop (jj + 1)) (jj + 1) t3).bind (fun s' => impl_Table_each.allO step (l.drop (kk + 1)) (kk + 1) s') = some r) := ⟨by have h_ := PG.out; rw [hq, Option.bind_some] at h_; exact h_⟩
     have HQ := Am hq
     clear hq
     go_upto_region 7 with (fail)
     refine letC (fun W_ => Below wr.heap.size wr W_ ∧ W_.heap[wr.heap.size]? = some (.cells #[.int .i64 x.f0, .int .i64 x.f1, .int .i64 x.f2, .int .i64 x.f3.f0, .int .i64 x.f3.f1, .int .i64 x.f3.f2, .int .i64 x.f3.f3, .int .i64 x.f3.f4, .int .i64 x.f4.f0, .slice A9 x.f4.f1.length c9] 72 (0, 0))) ⟨Ba (Below.refl _ _) _, blk_new wr (.cells #[.int .i64 x.f0, .int .i64 x.f1, .int .i64 x.f2, .int .i64 x.f3.f0, .int .i64 x.f3.f1, .int .i64 x.f3.f2, .int .i64 x.f3.f3, .int .i64 x.f3.f4, .int .i64 x.f4.f0, .slice A9 x.f4.f1.length c9] 72)⟩ ?_
     rintro W1 ⟨hb, hbx⟩
     have HT1 := Am (HM.out _ _ _ HT.out hb)
     have HX1 := Am hbx
     clear hb hbx HT hx0 hx1 hx2 hx3 hx4 hx5 hx6 hx7 hx8 hx9
     generalize wr.heap.size = gb at HX1
     have q0 : W1.cell? ⟨gb, 0, none⟩ = some (.int .i64 x.f0) := (Kc HX1.out 0).trans rfl
     have q1 : W1.cell? ⟨gb, 1, none⟩ = some (.int .i64 x.f1) := (Kc HX1.out 1).trans rfl
     have q2 : W1.cell? ⟨gb, 2, none⟩ = some (.int .i64 x.f2) := (Kc HX1.out 2).trans rfl
     have q3 : W1.cell? ⟨gb, 3, none⟩ = some (.int .i64 x.f3.f0) := (Kc HX1.out 3).trans rfl
     have q4 : W1.cell? ⟨gb, 4, none⟩ = some (.int .i64 x.f3.f1) := (Kc HX1.out 4).trans rfl
     have q5 : W1.cell? ⟨gb, 5, none⟩ = some (.int .i64 x.f3.f2) := (Kc HX1.out 5).trans rfl
     have q6 : W1.cell? ⟨gb, 6, none⟩ = some (.int .i64 x.f3.f3) := (Kc HX1.out 6).trans rfl
     have q7 : W1.cell? ⟨gb, 7, none⟩ = some (.int .i64 x.f3.f4) := (Kc HX1.out 7).trans rfl
     have q8 : W1.cell? ⟨gb, 8, none⟩ = some (.int .i64 x.f4.f0) := (Kc HX1.out 8).trans rfl
     have q9 : W1.cell? ⟨gb, 9, none⟩ = some (.slice A9 x.f4.f1.length c9) := (Kc HX1.out 9).trans rfl
     go_wp2_with fail
     refine (HS.out t2 t3 (kk : Int) ((jj : Int) + 1) x A9 c9 W1 HT1.out HQ.out).mono ?_
     rintro e W2 ⟨rfl, hT⟩
     have HT2 := Am hT
     clear hT q0 q1 q2 q3 q4 q5 q6 q7 q8 q9
     go_wp2
     go_roundg (y.length - (jj + 1))
     case measure => omega
     case rel => exact ⟨jj + 1, t3, by omega, by omega, by go_num, HT2, PG⟩
    ·have hltz2 : ¬ (jj : Int) < (y.length : Int) := by omega
     have PG : Ad (impl_Table_each.allO step (l.drop (kk + 1)) (kk + 1) t2 = some r) := ⟨by have h_ := PF.out; rw [List.drop_eq_nil_of_le (by omega)] at h_; simpa [impl_Table_each.rowO] using h_⟩
     go_wp2
     go_roundg (l.length - (kk + 1))
     case measure => omega
     case rel => exact ⟨kk + 1, t2, by omega, by omega, by go_num, HT, PG⟩
  ·have hltz : ¬ (kk : Int) < (l.length : Int) := by omega
   have PG : Ad (t = r) := ⟨by have h_ := PF.out; rw [List.drop_eq_nil_of_le (by omega)] at h_; simpa [impl_Table_each.allO] using h_⟩
   go_wp2
   go_end0
   exact ⟨rfl, by have e_ := PG.out; subst e_; exact HT.out⟩
def spec_l1Has.l0 : Nat → Int → List Int → Int → Int → Option (Bool)
 | 0, _, _, _, _ => none
 | k + 1, x1, x7, x8, x9 => if x9 < x8 then (if 0 ≤ x9 then (if x9 < (x7.length : Int) then (if (rd x7 x9) = x1 then (some true) else (spec_l1Has.l0 k x1 x7 x8 (wrap64 (x9 + 1)))) else (none)) else (none)) else (some false)
def spec_l1Has.f (k : Nat) (l0 : List Int) (a1 : Int) : Option (Bool) := spec_l1Has.l0 k a1 l0 (l0.length : Int) 0
theorem spec_l1Has.mono_l : ∀ k, (∀ y0 y1 y2 y3, LeO (spec_l1Has.l0 k y0 y1 y2 y3) (spec_l1Has.l0 (k + 1) y0 y1 y2 y3))
 | 0 => fun _ _ _ _ r h => by simp [spec_l1Has.l0] at h
 | k + 1 => by
  have ih0 := spec_l1Has.mono_l k
  ·intro y0 y1 y2 y3
   unfold spec_l1Has.l0
   repeat' first
   | (with_reducible exact ih0 _ _ _ _)
   | (with_reducible exact LeO.refl _)
   | (with_reducible exact LeO.none _)
   | (with_reducible refine LeO.ite ?_ ?_)
   | (with_reducible refine LeO.bind ?_ (fun _ => ?_))
   | exact ih0 _ _ _ _
   | exact LeO.none _
   | refine LeO.ite ?_ ?_
   | refine LeO.bind ?_ (fun _ => ?_)
theorem spec_l1Has.mono : ∀ a0 a1 k, LeO (spec_l1Has.f k a0 a1) (spec_l1Has.f (k + 1) a0 a1) := by
 intro a0 a1 k
 have ih0 := spec_l1Has.mono_l k
 unfold spec_l1Has.f
 repeat' first
   | (with_reducible exact ih0 _ _ _ _)
   | (with_reducible exact LeO.refl _)
   | (with_reducible exact LeO.none _)
   | (with_reducible refine LeO.ite ?_ ?_)
   | (with_reducible refine LeO.bind ?_ (fun _ => ?_))
   | exact ih0 _ _ _ _
   | exact LeO.none _
   | refine LeO.ite ?_ ?_
   | refine LeO.bind ?_ (fun _ => ?_)
set_option maxHeartbeats 8000000 in
set_option maxRecDepth 100000 in
theorem spec_l1Has.calls (k : Nat) (A0 : Option Addr) (c0 : Nat) (l0 : List Int) (a1 : Int) (r : Bool) (w : World) (hr0 : Kd.C (Kd.int .i64) w A0 l0.length l0) (hc0 : l0.length ≤ c0) (h : spec_l1Has.f k l0 a1 = some r) :
  Calls Try.prog 99 #[.slice A0 l0.length c0, .int .i64 a1] w fun e w' => e = .returned (.bool r) ∧ Drawn0 w w' := by
 have HR0 := Am hr0
 have HC0 := Am hc0
 clear hr0 hc0
 have H : (spec_l1Has.l0 k a1 l0 (l0.length : Int) 0) = some r := h
 clear h
 have H' := Am H
 clear H
 go_enter Try.func99, Try.ntmps99
 go_wp2
 go_loopg [9] k (fun kq v9 w' => ∃ (x9_1 : Int), v9 = .int .i64 x9_1 ∧ Ad (spec_l1Has.l0 kq a1 l0 (l0.length : Int) x9_1 = some r) ∧ Ad (kq ≤ k) ∧ Drawn0 w w')
 case atStart => exact ⟨(0), (by first | rfl | (simp; done) | (simp [*]; done)), H', ⟨Nat.le_refl _⟩, by repeat (first | exact Drawn0.refl _ | apply Drawn0.step)⟩
 case round =>
  clear H'
  try clear p2
  obtain ⟨x9_1, rfl, HA, HK1, ⟨m1, rfl⟩⟩ := hrel
  cases gk with
  | zero => exact absurd HA.out (by simp [spec_l1Has.l0])
  | succ k1 =>
   have H := HA.out
   clear HA
   simp only [spec_l1Has.l0] at H
   by_cases c3 : x9_1 < (l0.length : Int)
   ·rw [if_pos c3] at H
    have c3b0 : decide (x9_1 < (l0.length : Int)) = true := decide_eq_true c3
    clear c3
    by_cases c4 : 0 ≤ x9_1
    ·rw [if_pos c4] at H
     have c4b0 : decide (0 ≤ x9_1) = true := decide_eq_true c4
     clear c4
     by_cases c5 : x9_1 < (l0.length : Int)
     ·rw [if_pos c5] at H
      have c5b0 : decide (x9_1 < (l0.length : Int)) = true := decide_eq_true c5
      clear c5
      by_cases c6 : (rd l0 x9_1) = a1
      ·rw [if_pos c6] at H
       have c6b0 : ((rd l0 x9_1) == a1) = true := beq_iff_eq.mpr c6
       have c6b1 : ((rd l0 x9_1) != a1) = false := bne_eq_false_iff_eq.mpr c6
       clear c6
       obtain rfl := Option.some.inj H
       have p235 : 0 ≤ (x9_1 : Int) := of_decide_eq_true (by assumption)
       have q235 : x9_1 < (l0.length : Int) := of_decide_eq_true (by assumption)
       obtain ⟨ad235, e235, hx235_0⟩ := Kd.at_int HR0.out x9_1 p235 q235
       cases e235
       replace p235 := eq_true p235
       replace q235 := eq_true q235
       go_wp2
       go_ret
       exact ⟨by first | rfl | (simp; done) | (simp [*]; done), by repeat (first | exact Drawn0.refl _ | apply Drawn0.step)⟩
      ·rw [if_neg c6] at H
       have c6b0 : ((rd l0 x9_1) == a1) = false := beq_eq_false_iff_ne.mpr c6
       have c6b1 : ((rd l0 x9_1) != a1) = true := bne_iff_ne.mpr c6
       have H' := Am H
       clear H
       have p235 : 0 ≤ (x9_1 : Int) := of_decide_eq_true (by assumption)
       have q235 : x9_1 < (l0.length : Int) := of_decide_eq_true (by assumption)
       obtain ⟨ad235, e235, hx235_0⟩ := Kd.at_int HR0.out x9_1 p235 q235
       cases e235
       replace p235 := eq_true p235
       replace q235 := eq_true q235
       go_wp2
       go_roundg k1
       case measure => have := HK1.out; omega
       case rel => exact ⟨(wrap64 (x9_1 + 1)), (by first | rfl | (simp; done) | (simp [*]; done)), H', ⟨by have := HK1.out; omega⟩, by repeat (first | exact Drawn0.refl _ | apply Drawn0.step)⟩
     ·rw [if_neg c5] at H
      exact absurd H (by simp)
    ·rw [if_neg c4] at H
     exact absurd H (by simp)
   ·rw [if_neg c3] at H
    have c3b0 : decide (x9_1 < (l0.length : Int)) = false := decide_eq_false c3
    clear c3
    obtain rfl := Option.some.inj H
    go_wp2
    go_ret
    exact ⟨by first | rfl | (simp; done) | (simp [*]; done), by repeat (first | exact Drawn0.refl _ | apply Drawn0.step)⟩
end Go.Proofs.Ytacpjifbgnlppaa.QFnExactAttrFor
