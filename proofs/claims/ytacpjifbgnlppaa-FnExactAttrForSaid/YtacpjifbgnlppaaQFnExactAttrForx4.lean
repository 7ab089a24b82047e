-- Written by a program of this session (wip/mk.py) over the kit's print: Lean checks it.
import Derived.Test.YtacpjifbgnlppaaQFnExactAttrForx0
import Derived.Test.YtacpjifbgnlppaaQFnExactAttrForx3
namespace Go.Proofs.Ytacpjifbgnlppaa.QFnExactAttrFor
open Go.Proofs.YtacpjifbgnlppaaW.PrintWords renaming below_alloc → Ba, pw_below_drewN → Bn, below_drew1 → Bd, below_step → Bt
open List renaming setIfInBounds_toArray → Lt, set_cons_zero → Lz, set_cons_succ → Ls
open Go.World renaming block_lt_of_cell? → bl_
open Go.Proofs.YtacpjifbgnlppaaW.PrintWords.Aside0 renaming mk → Am
open Go.Proofs.YtacpjifbgnlppaaW.PrintWords renaming Aside0 → Ad
open Go.RowKit Go.Proofs.YtacpjifbgnlppaaW.PrintWords Go.Proofs.YtacpjifbgnlppaaW.PrintLast Go.Proofs.YtacpjifbgnlppaaW.PrintMore
attribute [local go_sem] max2_int min2_int max_two min_two max_three min_three max_four min_four   -- for this text's walks alone
set_option linter.unusedVariables false
set_option linter.unusedSimpArgs false
def laws_eqRowS.l0 : Nat → List (S72) → List (S72) → Int → Option (Bool)
 | 0, _, _, _ => none
 | k + 1, x0, x1, x5 => if x5 < (x0.length : Int) then (if 0 ≤ x5 then (if x5 < (x1.length : Int) then ((laws_eqRow.f k ((rd_T72 x0 x5).f0) ((rd_T72 x0 x5).f1) ((rd_T72 x0 x5).f2) ((rd_T72 x0 x5).f3.f0) ((rd_T72 x0 x5).f3.f1) ((rd_T72 x0 x5).f3.f2) ((rd_T72 x0 x5).f3.f3) ((rd_T72 x0 x5).f3.f4) ((rd_T72 x0 x5).f4.f0) ((rd_T72 x0 x5).f4.f1) ((rd_T72 x1 x5).f0) ((rd_T72 x1 x5).f1) ((rd_T72 x1 x5).f2) ((rd_T72 x1 x5).f3.f0) ((rd_T72 x1 x5).f3.f1) ((rd_T72 x1 x5).f3.f2) ((rd_T72 x1 x5).f3.f3) ((rd_T72 x1 x5).f3.f4) ((rd_T72 x1 x5).f4.f0) ((rd_T72 x1 x5).f4.f1)).bind fun t181 => (if t181 = true then (laws_eqRowS.l0 k x0 x1 (wrap64 (x5 + 1))) else (some false))) else (none)) else (none)) else (some true)
def laws_eqRowS.f (k : Nat) (l0 : List (S72)) (l1 : List (S72)) : Option (Bool) := if (l0.length : Int) = (l1.length : Int) then (laws_eqRowS.l0 k l0 l1 0) else (some false)
theorem laws_eqRowS.mono_l : ∀ k, (∀ y0 y1 y2, LeO (laws_eqRowS.l0 k y0 y1 y2) (laws_eqRowS.l0 (k + 1) y0 y1 y2))
 | 0 => fun _ _ _ r h => by simp [laws_eqRowS.l0] at h
 | k + 1 => by
  have ih0 := laws_eqRowS.mono_l k
  ·intro y0 y1 y2
   unfold laws_eqRowS.l0
   repeat' first
   | (with_reducible exact ih0 _ _ _)
   | (with_reducible exact laws_eqRow.mono _ _ _ _ _ _ _ _ _ _ _ _ _ _ _ _ _ _ _ _ _)
   | (with_reducible exact LeO.refl _)
   | (with_reducible exact LeO.none _)
   | (with_reducible refine LeO.ite ?_ ?_)
   | (with_reducible refine LeO.bind ?_ (fun _ => ?_))
   | exact ih0 _ _ _
   | exact laws_eqRow.mono _ _ _ _ _ _ _ _ _ _ _ _ _ _ _ _ _ _ _ _ _
   | exact LeO.none _
   | refine LeO.ite ?_ ?_
   | refine LeO.bind ?_ (fun _ => ?_)
theorem laws_eqRowS.mono : ∀ a0 a1 k, LeO (laws_eqRowS.f k a0 a1) (laws_eqRowS.f (k + 1) a0 a1) := by
 intro a0 a1 k
 have ih0 := laws_eqRowS.mono_l k
 unfold laws_eqRowS.f
 repeat' first
   | (with_reducible exact ih0 _ _ _)
   | (with_reducible exact laws_eqRow.mono _ _ _ _ _ _ _ _ _ _ _ _ _ _ _ _ _ _ _ _ _)
   | (with_reducible exact LeO.refl _)
   | (with_reducible exact LeO.none _)
   | (with_reducible refine LeO.ite ?_ ?_)
   | (with_reducible refine LeO.bind ?_ (fun _ => ?_))
   | exact ih0 _ _ _
   | exact laws_eqRow.mono _ _ _ _ _ _ _ _ _ _ _ _ _ _ _ _ _ _ _ _ _
   | exact LeO.none _
   | refine LeO.ite ?_ ?_
   | refine LeO.bind ?_ (fun _ => ?_)
def laws_eqRowS.T6 : Bool × List (List Nat × List Nat) := (true, [([], []), ([], []), ([0, 1], [0, 1]), ([2], [2]), ([], []), ([], []), ([4, 5], [4, 5]), ([6], [6]), ([3, 7], [3, 7]), ([8], [8])])
def laws_eqRowS.B6 : List Nat := [0, 0, 3, 7, 0, 0, 48, 112, 255, 511]
theorem laws_eqRowS.tab6 : rtab .any (opsOf Try.f85 6) = laws_eqRowS.T6 := by kernel_rfl
theorem laws_eqRowS.bits6 : waitsOk laws_eqRowS.T6.2 laws_eqRowS.B6 = true := by kernel_rfl
set_option maxHeartbeats 8000000 in
set_option maxRecDepth 100000 in
theorem laws_eqRowS.calls (k : Nat) (A0 : Option Addr) (c0 : Nat) (l0 : List (S72)) (A1 : Option Addr) (c1 : Nat) (l1 : List (S72)) (r : Bool) (w : World) (hr0 : Kd.C k72 w A0 l0.length l0) (hc0 : l0.length ≤ c0) (hr1 : Kd.C k72 w A1 l1.length l1) (hc1 : l1.length ≤ c1) (h : laws_eqRowS.f k l0 l1 = some r) :
  Calls Try.prog 85 #[.slice A0 l0.length c0, .slice A1 l1.length c1] w fun e w' => e = .returned (.bool r) ∧ Below w.heap.size w w' := by
 have hu72 := Try.underlying72
 have HR0 := Am hr0
 have HC0 := Am hc0
 clear hr0 hc0
 have HR1 := Am hr1
 have HC1 := Am hc1
 clear hr1 hc1
 have HB := Am (Below.refl w.heap.size w)
 have H : (if (l0.length : Int) = (l1.length : Int) then (laws_eqRowS.l0 k l0 l1 0) else (some false)) = some r := h
 clear h
 by_cases c3 : (l0.length : Int) = (l1.length : Int)
 ·rw [if_pos c3] at H
  have c3b0 : ((l0.length : Int) == (l1.length : Int)) = true := beq_iff_eq.mpr c3
  have c3b1 : ((l0.length : Int) != (l1.length : Int)) = false := bne_eq_false_iff_eq.mpr c3
  have c3b2 : (l0.length == l1.length) = true := by first | simpa using c3 | (simp at c3 ⊢; omega)
  clear c3
  have H' := Am H
  clear H
  go_enter Try.func85, Try.ntmps85
  go_wp2
  go_loopg [5] k (fun kq v5 w' => ∃ (x5_1 : Int), v5 = .int .i64 x5_1 ∧ Ad (laws_eqRowS.l0 kq l0 l1 x5_1 = some r) ∧ Ad (kq ≤ k) ∧ Ad (Below w.heap.size w w'))
  case atStart => exact ⟨(0), (by first | rfl | (simp; done) | (simp [*]; done)), H', ⟨Nat.le_refl _⟩, ⟨by repeat (first | exact HB.out | apply Ba | apply Bn | apply Bd)⟩⟩
  case round =>
   clear H'
   try clear c1
   try clear p2
   try clear c3
   try clear c3b0
   try clear c3b1
   try clear c3b2
   obtain ⟨x5_1, rfl, HA, HK1, HB⟩ := hrel
   cases gk with
   | zero => exact absurd HA.out (by simp [laws_eqRowS.l0])
   | succ k1 =>
    have H := HA.out
    clear HA
    simp only [laws_eqRowS.l0] at H
    by_cases c4 : x5_1 < (l0.length : Int)
    ·rw [if_pos c4] at H
     have c4b0 : decide (x5_1 < (l0.length : Int)) = true := decide_eq_true c4
     clear c4
     by_cases c5 : 0 ≤ x5_1
     ·rw [if_pos c5] at H
      have c5b0 : decide (0 ≤ x5_1) = true := decide_eq_true c5
      clear c5
      by_cases c6 : x5_1 < (l1.length : Int)
      ·rw [if_pos c6] at H
       have c6b0 : decide (x5_1 < (l1.length : Int)) = true := decide_eq_true c6
       clear c6
       replace H := Option.bind_eq_some_iff.mp H
       obtain ⟨t181, A70, H⟩ := H
       replace H : (if t181 = true then (laws_eqRowS.l0 k1 l0 l1 (wrap64 (x5_1 + 1))) else (some false)) = some r := H
       have A7 := Am A70
       clear A70
       by_cases c8 : t181 = true
       ·subst c8
        have H1 : (laws_eqRowS.l0 k1 l0 l1 (wrap64 (x5_1 + 1))) = some r := by rw [if_pos rfl] at H; exact H
        clear H
        have H := H1
        clear H1
        have H' := Am H
        clear H
        try go_wp2
        have n0_ := Am (Bd HB.out)
        clear HB
        have HB := n0_
        clear n0_
        have p179 : 0 ≤ (x5_1 : Int) := of_decide_eq_true (by assumption)
        have q179 : x5_1 < (l0.length : Int) := of_decide_eq_true (by assumption)
        obtain ⟨ad179, A179_9, c179_9, e179, hx179_0, hx179_1, hx179_2, hx179_3, hx179_4, hx179_5, hx179_6, hx179_7, hx179_8, hx179_9, hl179_9, hi179_9⟩ := at_T72 HR0.out x5_1 p179 q179
        have hw179_9 := hx179_9
        have hw179_8 := hx179_8
        have hw179_7 := hx179_7
        have hw179_6 := hx179_6
        have hw179_5 := hx179_5
        have hw179_4 := hx179_4
        have hw179_3 := hx179_3
        have hw179_2 := hx179_2
        have hw179_1 := hx179_1
        have hw179_0 := hx179_0
        cases e179
        replace hx179_0 := (HB.out.cell (bl_ w _ hx179_0)).trans hx179_0
        replace hx179_1 := (HB.out.cell (bl_ w _ hx179_1)).trans hx179_1
        replace hx179_2 := (HB.out.cell (bl_ w _ hx179_2)).trans hx179_2
        replace hx179_3 := (HB.out.cell (bl_ w _ hx179_3)).trans hx179_3
        replace hx179_4 := (HB.out.cell (bl_ w _ hx179_4)).trans hx179_4
        replace hx179_5 := (HB.out.cell (bl_ w _ hx179_5)).trans hx179_5
        replace hx179_6 := (HB.out.cell (bl_ w _ hx179_6)).trans hx179_6
        replace hx179_7 := (HB.out.cell (bl_ w _ hx179_7)).trans hx179_7
        replace hx179_8 := (HB.out.cell (bl_ w _ hx179_8)).trans hx179_8
        replace hx179_9 := (HB.out.cell (bl_ w _ hx179_9)).trans hx179_9
        have HR179_9 := Am hi179_9
        have HC179_9 := Am hl179_9
        clear hi179_9 hl179_9
        replace p179 := eq_true p179
        replace q179 := eq_true q179
        have p180 : 0 ≤ (x5_1 : Int) := of_decide_eq_true (by assumption)
        have q180 : x5_1 < (l1.length : Int) := of_decide_eq_true (by assumption)
        obtain ⟨ad180, A180_9, c180_9, e180, hx180_0, hx180_1, hx180_2, hx180_3, hx180_4, hx180_5, hx180_6, hx180_7, hx180_8, hx180_9, hl180_9, hi180_9⟩ := at_T72 HR1.out x5_1 p180 q180
        have hw180_9 := hx180_9
        have hw180_8 := hx180_8
        have hw180_7 := hx180_7
        have hw180_6 := hx180_6
        have hw180_5 := hx180_5
        have hw180_4 := hx180_4
        have hw180_3 := hx180_3
        have hw180_2 := hx180_2
        have hw180_1 := hx180_1
        have hw180_0 := hx180_0
        cases e180
        replace hx180_0 := (HB.out.cell (bl_ w _ hx180_0)).trans hx180_0
        replace hx180_1 := (HB.out.cell (bl_ w _ hx180_1)).trans hx180_1
        replace hx180_2 := (HB.out.cell (bl_ w _ hx180_2)).trans hx180_2
        replace hx180_3 := (HB.out.cell (bl_ w _ hx180_3)).trans hx180_3
        replace hx180_4 := (HB.out.cell (bl_ w _ hx180_4)).trans hx180_4
        replace hx180_5 := (HB.out.cell (bl_ w _ hx180_5)).trans hx180_5
        replace hx180_6 := (HB.out.cell (bl_ w _ hx180_6)).trans hx180_6
        replace hx180_7 := (HB.out.cell (bl_ w _ hx180_7)).trans hx180_7
        replace hx180_8 := (HB.out.cell (bl_ w _ hx180_8)).trans hx180_8
        replace hx180_9 := (HB.out.cell (bl_ w _ hx180_9)).trans hx180_9
        have HR180_9 := Am hi180_9
        have HC180_9 := Am hl180_9
        clear hi180_9 hl180_9
        replace p180 := eq_true p180
        replace q180 := eq_true q180
        refine start_ (n := 10) (S := fun w' => w'.cell? (ad179.add ((x5_1).toNat * 10)) = some (.int .i64 ((rd_T72 l0 x5_1).f0)) ∧ w'.cell? ⟨(ad179.add ((x5_1).toNat * 10)).block, (ad179.add ((x5_1).toNat * 10)).off + 1, none⟩ = some (.int .i64 ((rd_T72 l0 x5_1).f1)) ∧ w'.cell? ⟨(ad179.add ((x5_1).toNat * 10)).block, (ad179.add ((x5_1).toNat * 10)).off + 2, none⟩ = some (.int .i64 ((rd_T72 l0 x5_1).f2)) ∧ w'.cell? ⟨(ad179.add ((x5_1).toNat * 10)).block, (ad179.add ((x5_1).toNat * 10)).off + 3, none⟩ = some (.int .i64 ((rd_T72 l0 x5_1).f3.f0)) ∧ w'.cell? ⟨(ad179.add ((x5_1).toNat * 10)).block, (ad179.add ((x5_1).toNat * 10)).off + 4, none⟩ = some (.int .i64 ((rd_T72 l0 x5_1).f3.f1)) ∧ w'.cell? ⟨(ad179.add ((x5_1).toNat * 10)).block, (ad179.add ((x5_1).toNat * 10)).off + 5, none⟩ = some (.int .i64 ((rd_T72 l0 x5_1).f3.f2)) ∧ w'.cell? ⟨(ad179.add ((x5_1).toNat * 10)).block, (ad179.add ((x5_1).toNat * 10)).off + 6, none⟩ = some (.int .i64 ((rd_T72 l0 x5_1).f3.f3)) ∧ w'.cell? ⟨(ad179.add ((x5_1).toNat * 10)).block, (ad179.add ((x5_1).toNat * 10)).off + 7, none⟩ = some (.int .i64 ((rd_T72 l0 x5_1).f3.f4)) ∧ w'.cell? ⟨(ad179.add ((x5_1).toNat * 10)).block, (ad179.add ((x5_1).toNat * 10)).off + 8, none⟩ = some (.int .i64 ((rd_T72 l0 x5_1).f4.f0)) ∧ w'.cell? ⟨(ad179.add ((x5_1).toNat * 10)).block, (ad179.add ((x5_1).toNat * 10)).off + 9, none⟩ = some (.slice A179_9 ((rd_T72 l0 x5_1).f4.f1).length c179_9) ∧ w'.cell? (ad180.add ((x5_1).toNat * 10)) = some (.int .i64 ((rd_T72 l1 x5_1).f0)) ∧ w'.cell? ⟨(ad180.add ((x5_1).toNat * 10)).block, (ad180.add ((x5_1).toNat * 10)).off + 1, none⟩ = some (.int .i64 ((rd_T72 l1 x5_1).f1)) ∧ w'.cell? ⟨(ad180.add ((x5_1).toNat * 10)).block, (ad180.add ((x5_1).toNat * 10)).off + 2, none⟩ = some (.int .i64 ((rd_T72 l1 x5_1).f2)) ∧ w'.cell? ⟨(ad180.add ((x5_1).toNat * 10)).block, (ad180.add ((x5_1).toNat * 10)).off + 3, none⟩ = some (.int .i64 ((rd_T72 l1 x5_1).f3.f0)) ∧ w'.cell? ⟨(ad180.add ((x5_1).toNat * 10)).block, (ad180.add ((x5_1).toNat * 10)).off + 4, none⟩ = some (.int .i64 ((rd_T72 l1 x5_1).f3.f1)) ∧ w'.cell? ⟨(ad180.add ((x5_1).toNat * 10)).block, (ad180.add ((x5_1).toNat * 10)).off + 5, none⟩ = some (.int .i64 ((rd_T72 l1 x5_1).f3.f2)) ∧ w'.cell? ⟨(ad180.add ((x5_1).toNat * 10)).block, (ad180.add ((x5_1).toNat * 10)).off + 6, none⟩ = some (.int .i64 ((rd_T72 l1 x5_1).f3.f3)) ∧ w'.cell? ⟨(ad180.add ((x5_1).toNat * 10)).block, (ad180.add ((x5_1).toNat * 10)).off + 7, none⟩ = some (.int .i64 ((rd_T72 l1 x5_1).f3.f4)) ∧ w'.cell? ⟨(ad180.add ((x5_1).toNat * 10)).block, (ad180.add ((x5_1).toNat * 10)).off + 8, none⟩ = some (.int .i64 ((rd_T72 l1 x5_1).f4.f0)) ∧ w'.cell? ⟨(ad180.add ((x5_1).toNat * 10)).block, (ad180.add ((x5_1).toNat * 10)).off + 9, none⟩ = some (.slice A180_9 ((rd_T72 l1 x5_1).f4.f1).length c180_9)) (ds := []) #[false, false, false, false, false, false, false, false, false, false] (by kernel_rfl) rfl rfl ⟨((HB.out.cell (bl_ w _ hw179_0)).trans hw179_0), ((HB.out.cell (bl_ w _ hw179_1)).trans hw179_1), ((HB.out.cell (bl_ w _ hw179_2)).trans hw179_2), ((HB.out.cell (bl_ w _ hw179_3)).trans hw179_3), ((HB.out.cell (bl_ w _ hw179_4)).trans hw179_4), ((HB.out.cell (bl_ w _ hw179_5)).trans hw179_5), ((HB.out.cell (bl_ w _ hw179_6)).trans hw179_6), ((HB.out.cell (bl_ w _ hw179_7)).trans hw179_7), ((HB.out.cell (bl_ w _ hw179_8)).trans hw179_8), ((HB.out.cell (bl_ w _ hw179_9)).trans hw179_9), ((HB.out.cell (bl_ w _ hw180_0)).trans hw180_0), ((HB.out.cell (bl_ w _ hw180_1)).trans hw180_1), ((HB.out.cell (bl_ w _ hw180_2)).trans hw180_2), ((HB.out.cell (bl_ w _ hw180_3)).trans hw180_3), ((HB.out.cell (bl_ w _ hw180_4)).trans hw180_4), ((HB.out.cell (bl_ w _ hw180_5)).trans hw180_5), ((HB.out.cell (bl_ w _ hw180_6)).trans hw180_6), ((HB.out.cell (bl_ w _ hw180_7)).trans hw180_7), ((HB.out.cell (bl_ w _ hw180_8)).trans hw180_8), ((HB.out.cell (bl_ w _ hw180_9)).trans hw180_9)⟩ (fun hHeld => ?_); refine with_tabW laws_eqRowS.tab6 laws_eqRowS.bits6 (fun HT_ HW_ => ?_)
        generalize wr.drew = w9 at HB HR179_9 HR180_9 hx179_0 hx179_1 hx179_2 hx179_3 hx179_4 hx179_5 hx179_6 hx179_7 hx179_8 hx179_9 hx180_0 hx180_1 hx180_2 hx180_3 hx180_4 hx180_5 hx180_6 hx180_7 hx180_8 hx180_9 hHeld ⊢
        refine pure_ (i := 0) (N := some 17) (v := ?_) (a' := ?_) #[true, false, false, false, false, false, false, false, false, false] rfl rfl (any_of HT_.out (by kernel_rfl)) (fun _ _ _ h => h) (Or.inl ⟨by rfl, ?_⟩) ?_ ?_
        rotate_left
        ·intro w'
         go_simp
         with_reducible rfl
        rotate_left
        ·simp only [Act.put, Lt, Lz, Ls, i64_w, i32_w]
         rfl
        refine pure_ (i := 1) (N := some 18) (v := ?_) (a' := ?_) #[true, true, false, false, false, false, false, false, false, false] rfl rfl (any_of HT_.out (by kernel_rfl)) (fun _ _ _ h => h) (Or.inl ⟨by rfl, ?_⟩) ?_ ?_
        rotate_left
        ·intro w'
         go_simp
         with_reducible rfl
        rotate_left
        ·simp only [Act.put, Lt, Lz, Ls, i64_w, i32_w]
         rfl
        refine pure_ (i := 2) (N := some 19) (v := ?_) (a' := ?_) #[true, true, true, false, false, false, false, false, false, false] rfl rfl (any_of HT_.out (by kernel_rfl)) (fun _ _ _ h => h) (Or.inl ⟨by rfl, ?_⟩) ?_ ?_
        rotate_left
        ·intro w'
         go_simp
         with_reducible rfl
        rotate_left
        ·simp only [Act.put, Lt, Lz, Ls, i64_w, i32_w]
         rfl
        refine pure_ (i := 4) (N := some 21) (v := ?_) (a' := ?_) #[true, true, true, false, true, false, false, false, false, false] rfl rfl (any_of HT_.out (by kernel_rfl)) (fun _ _ _ h => h) (Or.inl ⟨by rfl, ?_⟩) ?_ ?_
        rotate_left
        ·intro w'
         go_simp
         with_reducible rfl
        rotate_left
        ·simp only [Act.put, Lt, Lz, Ls, i64_w, i32_w]
         rfl
        refine pure_ (i := 5) (N := some 22) (v := ?_) (a' := ?_) #[true, true, true, false, true, true, false, false, false, false] rfl rfl (any_of HT_.out (by kernel_rfl)) (fun _ _ _ h => h) (Or.inl ⟨by rfl, ?_⟩) ?_ ?_
        rotate_left
        ·intro w'
         go_simp
         with_reducible rfl
        rotate_left
        ·simp only [Act.put, Lt, Lz, Ls, i64_w, i32_w]
         rfl
        refine pure_ (i := 6) (N := some 23) (v := ?_) (a' := ?_) #[true, true, true, false, true, true, true, false, false, false] rfl rfl (any_of HT_.out (by kernel_rfl)) (fun _ _ _ h => h) (Or.inl ⟨by rfl, ?_⟩) ?_ ?_
        rotate_left
        ·intro w'
         go_simp
         with_reducible rfl
        rotate_left
        ·simp only [Act.put, Lt, Lz, Ls, i64_w, i32_w]
         rfl
        refine take_ (i := 3) (N := some 20) (v := ?_) (a' := ?_) #[true, true, true, true, true, true, true, false, false, false] rfl rfl (take_ofW HT_.out HW_.out (by kernel_rfl)) (fun _ _ _ h => h) (Or.inl ⟨by rfl, ?_⟩) hHeld ?_ ?_
        rotate_left
        ·rintro w' ⟨s0, s1, s2, s3, s4, s5, s6, s7, s8, s9, s10, s11, s12, s13, s14, s15, s16, s17, s18, s19⟩
         go_simp
         with_reducible rfl
        rotate_left
        ·simp only [Act.put, Lt, Lz, Ls, i64_w, i32_w]
         rfl
        refine take_ (i := 7) (N := some 24) (v := ?_) (a' := ?_) #[true, true, true, true, true, true, true, true, false, false] rfl rfl (take_ofW HT_.out HW_.out (by kernel_rfl)) (fun _ _ _ h => h) (Or.inl ⟨by rfl, ?_⟩) hHeld ?_ ?_
        rotate_left
        ·rintro w' ⟨s0, s1, s2, s3, s4, s5, s6, s7, s8, s9, s10, s11, s12, s13, s14, s15, s16, s17, s18, s19⟩
         go_simp
         with_reducible rfl
        rotate_left
        ·simp only [Act.put, Lt, Lz, Ls, i64_w, i32_w]
         rfl
        refine one_ (i := 8) (N := some 25) #[true, true, true, true, true, true, true, true, true, false] rfl rfl (one_of HT_.out (by kernel_rfl)) (by decide) (fun K hK => ?_)
        refine goes_ Try.func113 (by kernel_rfl) rfl #[.agg #[.int .i64 ((rd_T72 l0 x5_1).f0), .int .i64 ((rd_T72 l0 x5_1).f1), .int .i64 ((rd_T72 l0 x5_1).f2), .int .i64 ((rd_T72 l0 x5_1).f3.f0), .int .i64 ((rd_T72 l0 x5_1).f3.f1), .int .i64 ((rd_T72 l0 x5_1).f3.f2), .int .i64 ((rd_T72 l0 x5_1).f3.f3), .int .i64 ((rd_T72 l0 x5_1).f3.f4), .int .i64 ((rd_T72 l0 x5_1).f4.f0), .slice A179_9 ((rd_T72 l0 x5_1).f4.f1).length c179_9], .agg #[.int .i64 ((rd_T72 l1 x5_1).f0), .int .i64 ((rd_T72 l1 x5_1).f1), .int .i64 ((rd_T72 l1 x5_1).f2), .int .i64 ((rd_T72 l1 x5_1).f3.f0), .int .i64 ((rd_T72 l1 x5_1).f3.f1), .int .i64 ((rd_T72 l1 x5_1).f3.f2), .int .i64 ((rd_T72 l1 x5_1).f3.f3), .int .i64 ((rd_T72 l1 x5_1).f3.f4), .int .i64 ((rd_T72 l1 x5_1).f4.f0), .slice A180_9 ((rd_T72 l1 x5_1).f4.f1).length c180_9]] (by rfl) rfl rfl (by first | rfl | (simp only [List.map_toArray, List.map_cons, List.map_nil]; first | done | rfl)) ?_
        with_reducible refine (laws_eqRow.calls k1 ((rd_T72 l0 x5_1).f0) ((rd_T72 l0 x5_1).f1) ((rd_T72 l0 x5_1).f2) ((rd_T72 l0 x5_1).f3.f0) ((rd_T72 l0 x5_1).f3.f1) ((rd_T72 l0 x5_1).f3.f2) ((rd_T72 l0 x5_1).f3.f3) ((rd_T72 l0 x5_1).f3.f4) ((rd_T72 l0 x5_1).f4.f0) _ _ ((rd_T72 l0 x5_1).f4.f1) ((rd_T72 l1 x5_1).f0) ((rd_T72 l1 x5_1).f1) ((rd_T72 l1 x5_1).f2) ((rd_T72 l1 x5_1).f3.f0) ((rd_T72 l1 x5_1).f3.f1) ((rd_T72 l1 x5_1).f3.f2) ((rd_T72 l1 x5_1).f3.f3) ((rd_T72 l1 x5_1).f3.f4) ((rd_T72 l1 x5_1).f4.f0) _ _ ((rd_T72 l1 x5_1).f4.f1) true _ ?side1 ?side2 ?side3 ?side4 A7.out).mono ?_
        (case side1 => repeat (first | exact (Kd.C_below HR179_9.out HB.out) | (with_reducible refine Kd.C_alloc ?_ _) | (with_reducible refine Kd.C_drewN ?_ _) | (with_reducible refine Kd.C_drew ?_)))
        (case side2 => exact HC179_9.out)
        (case side3 => repeat (first | exact (Kd.C_below HR180_9.out HB.out) | (with_reducible refine Kd.C_alloc ?_ _) | (with_reducible refine Kd.C_drewN ?_ _) | (with_reducible refine Kd.C_drew ?_)))
        (case side4 => exact HC180_9.out)
        rintro e w10 ⟨rfl, hb⟩
        refine ⟨_, rfl, ?_⟩
        have n0_ := Am (Bt (by repeat (first | exact HB.out | apply Ba | apply Bn | apply Bd)) hb)
        clear HB
        have HB := n0_
        clear n0_
        (try clear hb)
        (try clear hb2)
        (try clear hk)
        (try clear hi)
        refine hK.out _ _ ⟨((HB.out.cell (bl_ w _ hw179_0)).trans hw179_0), ((HB.out.cell (bl_ w _ hw179_1)).trans hw179_1), ((HB.out.cell (bl_ w _ hw179_2)).trans hw179_2), ((HB.out.cell (bl_ w _ hw179_3)).trans hw179_3), ((HB.out.cell (bl_ w _ hw179_4)).trans hw179_4), ((HB.out.cell (bl_ w _ hw179_5)).trans hw179_5), ((HB.out.cell (bl_ w _ hw179_6)).trans hw179_6), ((HB.out.cell (bl_ w _ hw179_7)).trans hw179_7), ((HB.out.cell (bl_ w _ hw179_8)).trans hw179_8), ((HB.out.cell (bl_ w _ hw179_9)).trans hw179_9), ((HB.out.cell (bl_ w _ hw180_0)).trans hw180_0), ((HB.out.cell (bl_ w _ hw180_1)).trans hw180_1), ((HB.out.cell (bl_ w _ hw180_2)).trans hw180_2), ((HB.out.cell (bl_ w _ hw180_3)).trans hw180_3), ((HB.out.cell (bl_ w _ hw180_4)).trans hw180_4), ((HB.out.cell (bl_ w _ hw180_5)).trans hw180_5), ((HB.out.cell (bl_ w _ hw180_6)).trans hw180_6), ((HB.out.cell (bl_ w _ hw180_7)).trans hw180_7), ((HB.out.cell (bl_ w _ hw180_8)).trans hw180_8), ((HB.out.cell (bl_ w _ hw180_9)).trans hw180_9)⟩ (fun hHeld => ?_)
        clear hK K
        refine norm_ (a' := ?_) ?_ ?_
        rotate_left
        ·show Act.put _ (some 25) _ = _
         simp only [Act.put, Lt, Lz, Ls, i64_w, i32_w]
         rfl
        refine pure_ (i := 9) (N := some 26) (v := ?_) (a' := ?_) #[true, true, true, true, true, true, true, true, true, true] rfl rfl (any_of HT_.out (by kernel_rfl)) (fun _ _ _ h => h) (Or.inl ⟨by rfl, ?_⟩) ?_ ?_
        rotate_left
        ·intro w'
         go_simp
         with_reducible rfl
        rotate_left
        ·simp only [Act.put, Lt, Lz, Ls, i64_w, i32_w]
         rfl
        refine done_ (done_of HT_.out (by kernel_rfl)) ?_
        try go_wp2
        go_roundg k1
        case measure => have := HK1.out; omega
        case rel => exact ⟨(wrap64 (x5_1 + 1)), (by first | rfl | (simp; done) | (simp [*]; done)), H', ⟨by have := HK1.out; omega⟩, ⟨by repeat (first | exact HB.out | apply Ba | apply Bn | apply Bd)⟩⟩
       ·replace c8 := Bool.eq_false_iff.mpr c8
        subst c8
        have H1 : (some false) = some r := by rw [if_neg (show ¬ (false = true) by decide)] at H; exact H
        clear H
        have H := H1
        clear H1
        obtain rfl := Option.some.inj H
        try go_wp2
        have n0_ := Am (Bd HB.out)
        clear HB
        have HB := n0_
        clear n0_
        have p179 : 0 ≤ (x5_1 : Int) := of_decide_eq_true (by assumption)
        have q179 : x5_1 < (l0.length : Int) := of_decide_eq_true (by assumption)
        obtain ⟨ad179, A179_9, c179_9, e179, hx179_0, hx179_1, hx179_2, hx179_3, hx179_4, hx179_5, hx179_6, hx179_7, hx179_8, hx179_9, hl179_9, hi179_9⟩ := at_T72 HR0.out x5_1 p179 q179
        have hw179_9 := hx179_9
        have hw179_8 := hx179_8
        have hw179_7 := hx179_7
        have hw179_6 := hx179_6
        have hw179_5 := hx179_5
        have hw179_4 := hx179_4
        have hw179_3 := hx179_3
        have hw179_2 := hx179_2
        have hw179_1 := hx179_1
        have hw179_0 := hx179_0
        cases e179
        replace hx179_0 := (HB.out.cell (bl_ w _ hx179_0)).trans hx179_0
        replace hx179_1 := (HB.out.cell (bl_ w _ hx179_1)).trans hx179_1
        replace hx179_2 := (HB.out.cell (bl_ w _ hx179_2)).trans hx179_2
        replace hx179_3 := (HB.out.cell (bl_ w _ hx179_3)).trans hx179_3
        replace hx179_4 := (HB.out.cell (bl_ w _ hx179_4)).trans hx179_4
        replace hx179_5 := (HB.out.cell (bl_ w _ hx179_5)).trans hx179_5
        replace hx179_6 := (HB.out.cell (bl_ w _ hx179_6)).trans hx179_6
        replace hx179_7 := (HB.out.cell (bl_ w _ hx179_7)).trans hx179_7
        replace hx179_8 := (HB.out.cell (bl_ w _ hx179_8)).trans hx179_8
        replace hx179_9 := (HB.out.cell (bl_ w _ hx179_9)).trans hx179_9
        have HR179_9 := Am hi179_9
        have HC179_9 := Am hl179_9
        clear hi179_9 hl179_9
        replace p179 := eq_true p179
        replace q179 := eq_true q179
        have p180 : 0 ≤ (x5_1 : Int) := of_decide_eq_true (by assumption)
        have q180 : x5_1 < (l1.length : Int) := of_decide_eq_true (by assumption)
        obtain ⟨ad180, A180_9, c180_9, e180, hx180_0, hx180_1, hx180_2, hx180_3, hx180_4, hx180_5, hx180_6, hx180_7, hx180_8, hx180_9, hl180_9, hi180_9⟩ := at_T72 HR1.out x5_1 p180 q180
        have hw180_9 := hx180_9
        have hw180_8 := hx180_8
        have hw180_7 := hx180_7
        have hw180_6 := hx180_6
        have hw180_5 := hx180_5
        have hw180_4 := hx180_4
        have hw180_3 := hx180_3
        have hw180_2 := hx180_2
        have hw180_1 := hx180_1
        have hw180_0 := hx180_0
        cases e180
        replace hx180_0 := (HB.out.cell (bl_ w _ hx180_0)).trans hx180_0
        replace hx180_1 := (HB.out.cell (bl_ w _ hx180_1)).trans hx180_1
        replace hx180_2 := (HB.out.cell (bl_ w _ hx180_2)).trans hx180_2
        replace hx180_3 := (HB.out.cell (bl_ w _ hx180_3)).trans hx180_3
        replace hx180_4 := (HB.out.cell (bl_ w _ hx180_4)).trans hx180_4
        replace hx180_5 := (HB.out.cell (bl_ w _ hx180_5)).trans hx180_5
        replace hx180_6 := (HB.out.cell (bl_ w _ hx180_6)).trans hx180_6
        replace hx180_7 := (HB.out.cell (bl_ w _ hx180_7)).trans hx180_7
        replace hx180_8 := (HB.out.cell (bl_ w _ hx180_8)).trans hx180_8
        replace hx180_9 := (HB.out.cell (bl_ w _ hx180_9)).trans hx180_9
        have HR180_9 := Am hi180_9
        have HC180_9 := Am hl180_9
        clear hi180_9 hl180_9
        replace p180 := eq_true p180
        replace q180 := eq_true q180
        refine start_ (n := 10) (S := fun w' => w'.cell? (ad179.add ((x5_1).toNat * 10)) = some (.int .i64 ((rd_T72 l0 x5_1).f0)) ∧ w'.cell? ⟨(ad179.add ((x5_1).toNat * 10)).block, (ad179.add ((x5_1).toNat * 10)).off + 1, none⟩ = some (.int .i64 ((rd_T72 l0 x5_1).f1)) ∧ w'.cell? ⟨(ad179.add ((x5_1).toNat * 10)).block, (ad179.add ((x5_1).toNat * 10)).off + 2, none⟩ = some (.int .i64 ((rd_T72 l0 x5_1).f2)) ∧ w'.cell? ⟨(ad179.add ((x5_1).toNat * 10)).block, (ad179.add ((x5_1).toNat * 10)).off + 3, none⟩ = some (.int .i64 ((rd_T72 l0 x5_1).f3.f0)) ∧ w'.cell? ⟨(ad179.add ((x5_1).toNat * 10)).block, (ad179.add ((x5_1).toNat * 10)).off + 4, none⟩ = some (.int .i64 ((rd_T72 l0 x5_1).f3.f1)) ∧ w'.cell? ⟨(ad179.add ((x5_1).toNat * 10)).block, (ad179.add ((x5_1).toNat * 10)).off + 5, none⟩ = some (.int .i64 ((rd_T72 l0 x5_1).f3.f2)) ∧ w'.cell? ⟨(ad179.add ((x5_1).toNat * 10)).block, (ad179.add ((x5_1).toNat * 10)).off + 6, none⟩ = some (.int .i64 ((rd_T72 l0 x5_1).f3.f3)) ∧ w'.cell? ⟨(ad179.add ((x5_1).toNat * 10)).block, (ad179.add ((x5_1).toNat * 10)).off + 7, none⟩ = some (.int .i64 ((rd_T72 l0 x5_1).f3.f4)) ∧ w'.cell? ⟨(ad179.add ((x5_1).toNat * 10)).block, (ad179.add ((x5_1).toNat * 10)).off + 8, none⟩ = some (.int .i64 ((rd_T72 l0 x5_1).f4.f0)) ∧ w'.cell? ⟨(ad179.add ((x5_1).toNat * 10)).block, (ad179.add ((x5_1).toNat * 10)).off + 9, none⟩ = some (.slice A179_9 ((rd_T72 l0 x5_1).f4.f1).length c179_9) ∧ w'.cell? (ad180.add ((x5_1).toNat * 10)) = some (.int .i64 ((rd_T72 l1 x5_1).f0)) ∧ w'.cell? ⟨(ad180.add ((x5_1).toNat * 10)).block, (ad180.add ((x5_1).toNat * 10)).off + 1, none⟩ = some (.int .i64 ((rd_T72 l1 x5_1).f1)) ∧ w'.cell? ⟨(ad180.add ((x5_1).toNat * 10)).block, (ad180.add ((x5_1).toNat * 10)).off + 2, none⟩ = some (.int .i64 ((rd_T72 l1 x5_1).f2)) ∧ w'.cell? ⟨(ad180.add ((x5_1).toNat * 10)).block, (ad180.add ((x5_1).toNat * 10)).off + 3, none⟩ = some (.int .i64 ((rd_T72 l1 x5_1).f3.f0)) ∧ w'.cell? ⟨(ad180.add ((x5_1).toNat * 10)).block, (ad180.add ((x5_1).toNat * 10)).off + 4, none⟩ = some (.int .i64 ((rd_T72 l1 x5_1).f3.f1)) ∧ w'.cell? ⟨(ad180.add ((x5_1).toNat * 10)).block, (ad180.add ((x5_1).toNat * 10)).off + 5, none⟩ = some (.int .i64 ((rd_T72 l1 x5_1).f3.f2)) ∧ w'.cell? ⟨(ad180.add ((x5_1).toNat * 10)).block, (ad180.add ((x5_1).toNat * 10)).off + 6, none⟩ = some (.int .i64 ((rd_T72 l1 x5_1).f3.f3)) ∧ w'.cell? ⟨(ad180.add ((x5_1).toNat * 10)).block, (ad180.add ((x5_1).toNat * 10)).off + 7, none⟩ = some (.int .i64 ((rd_T72 l1 x5_1).f3.f4)) ∧ w'.cell? ⟨(ad180.add ((x5_1).toNat * 10)).block, (ad180.add ((x5_1).toNat * 10)).off + 8, none⟩ = some (.int .i64 ((rd_T72 l1 x5_1).f4.f0)) ∧ w'.cell? ⟨(ad180.add ((x5_1).toNat * 10)).block, (ad180.add ((x5_1).toNat * 10)).off + 9, none⟩ = some (.slice A180_9 ((rd_T72 l1 x5_1).f4.f1).length c180_9)) (ds := []) #[false, false, false, false, false, false, false, false, false, false] (by kernel_rfl) rfl rfl ⟨((HB.out.cell (bl_ w _ hw179_0)).trans hw179_0), ((HB.out.cell (bl_ w _ hw179_1)).trans hw179_1), ((HB.out.cell (bl_ w _ hw179_2)).trans hw179_2), ((HB.out.cell (bl_ w _ hw179_3)).trans hw179_3), ((HB.out.cell (bl_ w _ hw179_4)).trans hw179_4), ((HB.out.cell (bl_ w _ hw179_5)).trans hw179_5), ((HB.out.cell (bl_ w _ hw179_6)).trans hw179_6), ((HB.out.cell (bl_ w _ hw179_7)).trans hw179_7), ((HB.out.cell (bl_ w _ hw179_8)).trans hw179_8), ((HB.out.cell (bl_ w _ hw179_9)).trans hw179_9), ((HB.out.cell (bl_ w _ hw180_0)).trans hw180_0), ((HB.out.cell (bl_ w _ hw180_1)).trans hw180_1), ((HB.out.cell (bl_ w _ hw180_2)).trans hw180_2), ((HB.out.cell (bl_ w _ hw180_3)).trans hw180_3), ((HB.out.cell (bl_ w _ hw180_4)).trans hw180_4), ((HB.out.cell (bl_ w _ hw180_5)).trans hw180_5), ((HB.out.cell (bl_ w _ hw180_6)).trans hw180_6), ((HB.out.cell (bl_ w _ hw180_7)).trans hw180_7), ((HB.out.cell (bl_ w _ hw180_8)).trans hw180_8), ((HB.out.cell (bl_ w _ hw180_9)).trans hw180_9)⟩ (fun hHeld => ?_); refine with_tabW laws_eqRowS.tab6 laws_eqRowS.bits6 (fun HT_ HW_ => ?_)
        generalize wr.drew = w11 at HB HR179_9 HR180_9 hx179_0 hx179_1 hx179_2 hx179_3 hx179_4 hx179_5 hx179_6 hx179_7 hx179_8 hx179_9 hx180_0 hx180_1 hx180_2 hx180_3 hx180_4 hx180_5 hx180_6 hx180_7 hx180_8 hx180_9 hHeld ⊢
        refine pure_ (i := 0) (N := some 17) (v := ?_) (a' := ?_) #[true, false, false, false, false, false, false, false, false, false] rfl rfl (any_of HT_.out (by kernel_rfl)) (fun _ _ _ h => h) (Or.inl ⟨by rfl, ?_⟩) ?_ ?_
        rotate_left
        ·intro w'
         go_simp
         with_reducible rfl
        rotate_left
        ·simp only [Act.put, Lt, Lz, Ls, i64_w, i32_w]
         rfl
        refine pure_ (i := 1) (N := some 18) (v := ?_) (a' := ?_) #[true, true, false, false, false, false, false, false, false, false] rfl rfl (any_of HT_.out (by kernel_rfl)) (fun _ _ _ h => h) (Or.inl ⟨by rfl, ?_⟩) ?_ ?_
        rotate_left
        ·intro w'
         go_simp
         with_reducible rfl
        rotate_left
        ·simp only [Act.put, Lt, Lz, Ls, i64_w, i32_w]
         rfl
        refine pure_ (i := 2) (N := some 19) (v := ?_) (a' := ?_) #[true, true, true, false, false, false, false, false, false, false] rfl rfl (any_of HT_.out (by kernel_rfl)) (fun _ _ _ h => h) (Or.inl ⟨by rfl, ?_⟩) ?_ ?_
        rotate_left
        ·intro w'
         go_simp
         with_reducible rfl
        rotate_left
        ·simp only [Act.put, Lt, Lz, Ls, i64_w, i32_w]
         rfl
        refine pure_ (i := 4) (N := some 21) (v := ?_) (a' := ?_) #[true, true, true, false, true, false, false, false, false, false] rfl rfl (any_of HT_.out (by kernel_rfl)) (fun _ _ _ h => h) (Or.inl ⟨by rfl, ?_⟩) ?_ ?_
        rotate_left
        ·intro w'
         go_simp
         with_reducible rfl
        rotate_left
        ·simp only [Act.put, Lt, Lz, Ls, i64_w, i32_w]
         rfl
        refine pure_ (i := 5) (N := some 22) (v := ?_) (a' := ?_) #[true, true, true, false, true, true, false, false, false, false] rfl rfl (any_of HT_.out (by kernel_rfl)) (fun _ _ _ h => h) (Or.inl ⟨by rfl, ?_⟩) ?_ ?_
        rotate_left
        ·intro w'
         go_simp
         with_reducible rfl
        rotate_left
        ·simp only [Act.put, Lt, Lz, Ls, i64_w, i32_w]
         rfl
        refine pure_ (i := 6) (N := some 23) (v := ?_) (a' := ?_) #[true, true, true, false, true, true, true, false, false, false] rfl rfl (any_of HT_.out (by kernel_rfl)) (fun _ _ _ h => h) (Or.inl ⟨by rfl, ?_⟩) ?_ ?_
        rotate_left
        ·intro w'
         go_simp
         with_reducible rfl
        rotate_left
        ·simp only [Act.put, Lt, Lz, Ls, i64_w, i32_w]
         rfl
        refine take_ (i := 3) (N := some 20) (v := ?_) (a' := ?_) #[true, true, true, true, true, true, true, false, false, false] rfl rfl (take_ofW HT_.out HW_.out (by kernel_rfl)) (fun _ _ _ h => h) (Or.inl ⟨by rfl, ?_⟩) hHeld ?_ ?_
        rotate_left
        ·rintro w' ⟨s0, s1, s2, s3, s4, s5, s6, s7, s8, s9, s10, s11, s12, s13, s14, s15, s16, s17, s18, s19⟩
         go_simp
         with_reducible rfl
        rotate_left
        ·simp only [Act.put, Lt, Lz, Ls, i64_w, i32_w]
         rfl
        refine take_ (i := 7) (N := some 24) (v := ?_) (a' := ?_) #[true, true, true, true, true, true, true, true, false, false] rfl rfl (take_ofW HT_.out HW_.out (by kernel_rfl)) (fun _ _ _ h => h) (Or.inl ⟨by rfl, ?_⟩) hHeld ?_ ?_
        rotate_left
        ·rintro w' ⟨s0, s1, s2, s3, s4, s5, s6, s7, s8, s9, s10, s11, s12, s13, s14, s15, s16, s17, s18, s19⟩
         go_simp
         with_reducible rfl
        rotate_left
        ·simp only [Act.put, Lt, Lz, Ls, i64_w, i32_w]
         rfl
        refine one_ (i := 8) (N := some 25) #[true, true, true, true, true, true, true, true, true, false] rfl rfl (one_of HT_.out (by kernel_rfl)) (by decide) (fun K hK => ?_)
        refine goes_ Try.func113 (by kernel_rfl) rfl #[.agg #[.int .i64 ((rd_T72 l0 x5_1).f0), .int .i64 ((rd_T72 l0 x5_1).f1), .int .i64 ((rd_T72 l0 x5_1).f2), .int .i64 ((rd_T72 l0 x5_1).f3.f0), .int .i64 ((rd_T72 l0 x5_1).f3.f1), .int .i64 ((rd_T72 l0 x5_1).f3.f2), .int .i64 ((rd_T72 l0 x5_1).f3.f3), .int .i64 ((rd_T72 l0 x5_1).f3.f4), .int .i64 ((rd_T72 l0 x5_1).f4.f0), .slice A179_9 ((rd_T72 l0 x5_1).f4.f1).length c179_9], .agg #[.int .i64 ((rd_T72 l1 x5_1).f0), .int .i64 ((rd_T72 l1 x5_1).f1), .int .i64 ((rd_T72 l1 x5_1).f2), .int .i64 ((rd_T72 l1 x5_1).f3.f0), .int .i64 ((rd_T72 l1 x5_1).f3.f1), .int .i64 ((rd_T72 l1 x5_1).f3.f2), .int .i64 ((rd_T72 l1 x5_1).f3.f3), .int .i64 ((rd_T72 l1 x5_1).f3.f4), .int .i64 ((rd_T72 l1 x5_1).f4.f0), .slice A180_9 ((rd_T72 l1 x5_1).f4.f1).length c180_9]] (by rfl) rfl rfl (by first | rfl | (simp only [List.map_toArray, List.map_cons, List.map_nil]; first | done | rfl)) ?_
        with_reducible refine (laws_eqRow.calls k1 ((rd_T72 l0 x5_1).f0) ((rd_T72 l0 x5_1).f1) ((rd_T72 l0 x5_1).f2) ((rd_T72 l0 x5_1).f3.f0) ((rd_T72 l0 x5_1).f3.f1) ((rd_T72 l0 x5_1).f3.f2) ((rd_T72 l0 x5_1).f3.f3) ((rd_T72 l0 x5_1).f3.f4) ((rd_T72 l0 x5_1).f4.f0) _ _ ((rd_T72 l0 x5_1).f4.f1) ((rd_T72 l1 x5_1).f0) ((rd_T72 l1 x5_1).f1) ((rd_T72 l1 x5_1).f2) ((rd_T72 l1 x5_1).f3.f0) ((rd_T72 l1 x5_1).f3.f1) ((rd_T72 l1 x5_1).f3.f2) ((rd_T72 l1 x5_1).f3.f3) ((rd_T72 l1 x5_1).f3.f4) ((rd_T72 l1 x5_1).f4.f0) _ _ ((rd_T72 l1 x5_1).f4.f1) false _ ?side1 ?side2 ?side3 ?side4 A7.out).mono ?_
        (case side1 => repeat (first | exact (Kd.C_below HR179_9.out HB.out) | (with_reducible refine Kd.C_alloc ?_ _) | (with_reducible refine Kd.C_drewN ?_ _) | (with_reducible refine Kd.C_drew ?_)))
        (case side2 => exact HC179_9.out)
        (case side3 => repeat (first | exact (Kd.C_below HR180_9.out HB.out) | (with_reducible refine Kd.C_alloc ?_ _) | (with_reducible refine Kd.C_drewN ?_ _) | (with_reducible refine Kd.C_drew ?_)))
        (case side4 => exact HC180_9.out)
        rintro e w12 ⟨rfl, hb⟩
        refine ⟨_, rfl, ?_⟩
        have n0_ := Am (Bt (by repeat (first | exact HB.out | apply Ba | apply Bn | apply Bd)) hb)
        clear HB
        have HB := n0_
        clear n0_
        (try clear hb)
        (try clear hb2)
        (try clear hk)
        (try clear hi)
        refine hK.out _ _ ⟨((HB.out.cell (bl_ w _ hw179_0)).trans hw179_0), ((HB.out.cell (bl_ w _ hw179_1)).trans hw179_1), ((HB.out.cell (bl_ w _ hw179_2)).trans hw179_2), ((HB.out.cell (bl_ w _ hw179_3)).trans hw179_3), ((HB.out.cell (bl_ w _ hw179_4)).trans hw179_4), ((HB.out.cell (bl_ w _ hw179_5)).trans hw179_5), ((HB.out.cell (bl_ w _ hw179_6)).trans hw179_6), ((HB.out.cell (bl_ w _ hw179_7)).trans hw179_7), ((HB.out.cell (bl_ w _ hw179_8)).trans hw179_8), ((HB.out.cell (bl_ w _ hw179_9)).trans hw179_9), ((HB.out.cell (bl_ w _ hw180_0)).trans hw180_0), ((HB.out.cell (bl_ w _ hw180_1)).trans hw180_1), ((HB.out.cell (bl_ w _ hw180_2)).trans hw180_2), ((HB.out.cell (bl_ w _ hw180_3)).trans hw180_3), ((HB.out.cell (bl_ w _ hw180_4)).trans hw180_4), ((HB.out.cell (bl_ w _ hw180_5)).trans hw180_5), ((HB.out.cell (bl_ w _ hw180_6)).trans hw180_6), ((HB.out.cell (bl_ w _ hw180_7)).trans hw180_7), ((HB.out.cell (bl_ w _ hw180_8)).trans hw180_8), ((HB.out.cell (bl_ w _ hw180_9)).trans hw180_9)⟩ (fun hHeld => ?_)
        clear hK K
        refine norm_ (a' := ?_) ?_ ?_
        rotate_left
        ·show Act.put _ (some 25) _ = _
         simp only [Act.put, Lt, Lz, Ls, i64_w, i32_w]
         rfl
        refine pure_ (i := 9) (N := some 26) (v := ?_) (a' := ?_) #[true, true, true, true, true, true, true, true, true, true] rfl rfl (any_of HT_.out (by kernel_rfl)) (fun _ _ _ h => h) (Or.inl ⟨by rfl, ?_⟩) ?_ ?_
        rotate_left
        ·intro w'
         go_simp
         with_reducible rfl
        rotate_left
        ·simp only [Act.put, Lt, Lz, Ls, i64_w, i32_w]
         rfl
        refine done_ (done_of HT_.out (by kernel_rfl)) ?_
        try go_wp2
        go_ret
        exact ⟨by first | rfl | (simp [*, errW_none, errW_some] <;> rfl), by repeat (first | exact HB.out | apply Ba | apply Bn | apply Bd)⟩
      ·rw [if_neg c6] at H
       exact absurd H (by simp)
     ·rw [if_neg c5] at H
      exact absurd H (by simp)
    ·rw [if_neg c4] at H
     have c4b0 : decide (x5_1 < (l0.length : Int)) = false := decide_eq_false c4
     clear c4
     obtain rfl := Option.some.inj H
     go_wp2
     go_ret
     exact ⟨by first | rfl | (simp [*, errW_none, errW_some] <;> rfl), by repeat (first | exact HB.out | apply Ba | apply Bn | apply Bd)⟩
 ·rw [if_neg c3] at H
  have c3b0 : ((l0.length : Int) == (l1.length : Int)) = false := beq_eq_false_iff_ne.mpr c3
  have c3b1 : ((l0.length : Int) != (l1.length : Int)) = true := bne_iff_ne.mpr c3
  have c3b2 : (l0.length == l1.length) = false := by first | simpa using c3 | (simp at c3 ⊢; omega)
  obtain rfl := Option.some.inj H
  go_enter Try.func85, Try.ntmps85
  go_wp2
  go_ret
  exact ⟨by first | rfl | (simp [*, errW_none, errW_some] <;> rfl), by repeat (first | exact HB.out | apply Ba | apply Bn | apply Bd)⟩
def laws_eqRowSS.l0 : Nat → List (List (S72)) → List (List (S72)) → Int → Option (Bool)
 | 0, _, _, _ => none
 | k + 1, x0, x1, x5 => if x5 < (x0.length : Int) then (if 0 ≤ x5 then (if x5 < (x1.length : Int) then ((laws_eqRowS.f k (rd_L9 x0 x5) (rd_L9 x1 x5)).bind fun t184 => (if t184 = true then (laws_eqRowSS.l0 k x0 x1 (wrap64 (x5 + 1))) else (some false))) else (none)) else (none)) else (some true)
def laws_eqRowSS.f (k : Nat) (l0 : List (List (S72))) (l1 : List (List (S72))) : Option (Bool) := if (l0.length : Int) = (l1.length : Int) then (laws_eqRowSS.l0 k l0 l1 0) else (some false)
theorem laws_eqRowSS.mono_l : ∀ k, (∀ y0 y1 y2, LeO (laws_eqRowSS.l0 k y0 y1 y2) (laws_eqRowSS.l0 (k + 1) y0 y1 y2))
 | 0 => fun _ _ _ r h => by simp [laws_eqRowSS.l0] at h
 | k + 1 => by
  have ih0 := laws_eqRowSS.mono_l k
  ·intro y0 y1 y2
   unfold laws_eqRowSS.l0
   repeat' first
   | (with_reducible exact ih0 _ _ _)
   | (with_reducible exact laws_eqRowS.mono _ _ _)
   | (with_reducible exact LeO.refl _)
   | (with_reducible exact LeO.none _)
   | (with_reducible refine LeO.ite ?_ ?_)
   | (with_reducible refine LeO.bind ?_ (fun _ => ?_))
   | exact ih0 _ _ _
   | exact laws_eqRowS.mono _ _ _
   | exact LeO.none _
   | refine LeO.ite ?_ ?_
   | refine LeO.bind ?_ (fun _ => ?_)
theorem laws_eqRowSS.mono : ∀ a0 a1 k, LeO (laws_eqRowSS.f k a0 a1) (laws_eqRowSS.f (k + 1) a0 a1) := by
 intro a0 a1 k
 have ih0 := laws_eqRowSS.mono_l k
 unfold laws_eqRowSS.f
 repeat' first
   | (with_reducible exact ih0 _ _ _)
   | (with_reducible exact laws_eqRowS.mono _ _ _)
   | (with_reducible exact LeO.refl _)
   | (with_reducible exact LeO.none _)
   | (with_reducible refine LeO.ite ?_ ?_)
   | (with_reducible refine LeO.bind ?_ (fun _ => ?_))
   | exact ih0 _ _ _
   | exact laws_eqRowS.mono _ _ _
   | exact LeO.none _
   | refine LeO.ite ?_ ?_
   | refine LeO.bind ?_ (fun _ => ?_)
def laws_eqRowSS.T6 : Bool × List (List Nat × List Nat) := (true, [([], []), ([], []), ([0, 1], [0, 1]), ([2], [2]), ([], []), ([], []), ([4, 5], [4, 5]), ([6], [6]), ([3, 7], [3, 7]), ([8], [8])])
def laws_eqRowSS.B6 : List Nat := [0, 0, 3, 7, 0, 0, 48, 112, 255, 511]
theorem laws_eqRowSS.tab6 : rtab .any (opsOf Try.f48 6) = laws_eqRowSS.T6 := by kernel_rfl
theorem laws_eqRowSS.bits6 : waitsOk laws_eqRowSS.T6.2 laws_eqRowSS.B6 = true := by kernel_rfl
set_option maxHeartbeats 8000000 in
set_option maxRecDepth 100000 in
theorem laws_eqRowSS.calls (k : Nat) (A0 : Option Addr) (c0 : Nat) (l0 : List (List (S72))) (A1 : Option Addr) (c1 : Nat) (l1 : List (List (S72))) (r : Bool) (w : World) (hr0 : Kd.C (Kd.slice 72 k72) w A0 l0.length l0) (hc0 : l0.length ≤ c0) (hr1 : Kd.C (Kd.slice 72 k72) w A1 l1.length l1) (hc1 : l1.length ≤ c1) (h : laws_eqRowSS.f k l0 l1 = some r) :
  Calls Try.prog 48 #[.slice A0 l0.length c0, .slice A1 l1.length c1] w fun e w' => e = .returned (.bool r) ∧ Below w.heap.size w w' := by
 have HR0 := Am hr0
 have HC0 := Am hc0
 clear hr0 hc0
 have HR1 := Am hr1
 have HC1 := Am hc1
 clear hr1 hc1
 have HB := Am (Below.refl w.heap.size w)
 have H : (if (l0.length : Int) = (l1.length : Int) then (laws_eqRowSS.l0 k l0 l1 0) else (some false)) = some r := h
 clear h
 by_cases c3 : (l0.length : Int) = (l1.length : Int)
 ·rw [if_pos c3] at H
  have c3b0 : ((l0.length : Int) == (l1.length : Int)) = true := beq_iff_eq.mpr c3
  have c3b1 : ((l0.length : Int) != (l1.length : Int)) = false := bne_eq_false_iff_eq.mpr c3
  have c3b2 : (l0.length == l1.length) = true := by first | simpa using c3 | (simp at c3 ⊢; omega)
  clear c3
  have H' := Am H
  clear H
  go_enter Try.func48, Try.ntmps48
  go_wp2
  go_loopg [5] k (fun kq v5 w' => ∃ (x5_1 : Int), v5 = .int .i64 x5_1 ∧ Ad (laws_eqRowSS.l0 kq l0 l1 x5_1 = some r) ∧ Ad (kq ≤ k) ∧ Ad (Below w.heap.size w w'))
  case atStart => exact ⟨(0), (by first | rfl | (simp; done) | (simp [*]; done)), H', ⟨Nat.le_refl _⟩, ⟨by repeat (first | exact HB.out | apply Ba | apply Bn | apply Bd)⟩⟩
  case round =>
   clear H'
   try clear c1
   try clear p2
   try clear c3
   try clear c3b0
   try clear c3b1
   try clear c3b2
   obtain ⟨x5_1, rfl, HA, HK1, HB⟩ := hrel
   cases gk with
   | zero => exact absurd HA.out (by simp [laws_eqRowSS.l0])
   | succ k1 =>
    have H := HA.out
    clear HA
    simp only [laws_eqRowSS.l0] at H
    by_cases c4 : x5_1 < (l0.length : Int)
    ·rw [if_pos c4] at H
     have c4b0 : decide (x5_1 < (l0.length : Int)) = true := decide_eq_true c4
     clear c4
     by_cases c5 : 0 ≤ x5_1
     ·rw [if_pos c5] at H
      have c5b0 : decide (0 ≤ x5_1) = true := decide_eq_true c5
      clear c5
      by_cases c6 : x5_1 < (l1.length : Int)
      ·rw [if_pos c6] at H
       have c6b0 : decide (x5_1 < (l1.length : Int)) = true := decide_eq_true c6
       clear c6
       replace H := Option.bind_eq_some_iff.mp H
       obtain ⟨t184, A70, H⟩ := H
       replace H : (if t184 = true then (laws_eqRowSS.l0 k1 l0 l1 (wrap64 (x5_1 + 1))) else (some false)) = some r := H
       have A7 := Am A70
       clear A70
       by_cases c8 : t184 = true
       ·subst c8
        have H1 : (laws_eqRowSS.l0 k1 l0 l1 (wrap64 (x5_1 + 1))) = some r := by rw [if_pos rfl] at H; exact H
        clear H
        have H := H1
        clear H1
        have H' := Am H
        clear H
        try go_wp2
        have n0_ := Am (Bd HB.out)
        clear HB
        have HB := n0_
        clear n0_
        have p182 : 0 ≤ (x5_1 : Int) := of_decide_eq_true (by assumption)
        have q182 : x5_1 < (l0.length : Int) := of_decide_eq_true (by assumption)
        obtain ⟨ad182, A182_0, c182_0, e182, hx182_0, hl182_0, hi182_0⟩ := at_L9 HR0.out x5_1 p182 q182
        have hw182_0 := hx182_0
        cases e182
        replace hx182_0 := (HB.out.cell (bl_ w _ hx182_0)).trans hx182_0
        have HR182_0 := Am hi182_0
        have HC182_0 := Am hl182_0
        clear hi182_0 hl182_0
        replace p182 := eq_true p182
        replace q182 := eq_true q182
        have p183 : 0 ≤ (x5_1 : Int) := of_decide_eq_true (by assumption)
        have q183 : x5_1 < (l1.length : Int) := of_decide_eq_true (by assumption)
        obtain ⟨ad183, A183_0, c183_0, e183, hx183_0, hl183_0, hi183_0⟩ := at_L9 HR1.out x5_1 p183 q183
        have hw183_0 := hx183_0
        cases e183
        replace hx183_0 := (HB.out.cell (bl_ w _ hx183_0)).trans hx183_0
        have HR183_0 := Am hi183_0
        have HC183_0 := Am hl183_0
        clear hi183_0 hl183_0
        replace p183 := eq_true p183
        replace q183 := eq_true q183
        refine start_ (n := 10) (S := fun w' => w'.cell? (ad182.add (x5_1).toNat) = some (.slice A182_0 (rd_L9 l0 x5_1).length c182_0) ∧ w'.cell? (ad183.add (x5_1).toNat) = some (.slice A183_0 (rd_L9 l1 x5_1).length c183_0)) (ds := []) #[false, false, false, false, false, false, false, false, false, false] (by kernel_rfl) rfl rfl ⟨((HB.out.cell (bl_ w _ hw182_0)).trans hw182_0), ((HB.out.cell (bl_ w _ hw183_0)).trans hw183_0)⟩ (fun hHeld => ?_); refine with_tabW laws_eqRowSS.tab6 laws_eqRowSS.bits6 (fun HT_ HW_ => ?_)
        generalize wr.drew = w9 at HB HR182_0 HR183_0 hx182_0 hx183_0 hHeld ⊢
        refine pure_ (i := 0) (N := some 17) (v := ?_) (a' := ?_) #[true, false, false, false, false, false, false, false, false, false] rfl rfl (any_of HT_.out (by kernel_rfl)) (fun _ _ _ h => h) (Or.inl ⟨by rfl, ?_⟩) ?_ ?_
        rotate_left
        ·intro w'
         go_simp
         with_reducible rfl
        rotate_left
        ·simp only [Act.put, Lt, Lz, Ls, i64_w, i32_w]
         rfl
        refine pure_ (i := 1) (N := some 18) (v := ?_) (a' := ?_) #[true, true, false, false, false, false, false, false, false, false] rfl rfl (any_of HT_.out (by kernel_rfl)) (fun _ _ _ h => h) (Or.inl ⟨by rfl, ?_⟩) ?_ ?_
        rotate_left
        ·intro w'
         go_simp
         with_reducible rfl
        rotate_left
        ·simp only [Act.put, Lt, Lz, Ls, i64_w, i32_w]
         rfl
        refine pure_ (i := 2) (N := some 19) (v := ?_) (a' := ?_) #[true, true, true, false, false, false, false, false, false, false] rfl rfl (any_of HT_.out (by kernel_rfl)) (fun _ _ _ h => h) (Or.inl ⟨by rfl, ?_⟩) ?_ ?_
        rotate_left
        ·intro w'
         go_simp
         with_reducible rfl
        rotate_left
        ·simp only [Act.put, Lt, Lz, Ls, i64_w, i32_w]
         rfl
        refine pure_ (i := 4) (N := some 21) (v := ?_) (a' := ?_) #[true, true, true, false, true, false, false, false, false, false] rfl rfl (any_of HT_.out (by kernel_rfl)) (fun _ _ _ h => h) (Or.inl ⟨by rfl, ?_⟩) ?_ ?_
        rotate_left
        ·intro w'
         go_simp
         with_reducible rfl
        rotate_left
        ·simp only [Act.put, Lt, Lz, Ls, i64_w, i32_w]
         rfl
        refine pure_ (i := 5) (N := some 22) (v := ?_) (a' := ?_) #[true, true, true, false, true, true, false, false, false, false] rfl rfl (any_of HT_.out (by kernel_rfl)) (fun _ _ _ h => h) (Or.inl ⟨by rfl, ?_⟩) ?_ ?_
        rotate_left
        ·intro w'
         go_simp
         with_reducible rfl
        rotate_left
        ·simp only [Act.put, Lt, Lz, Ls, i64_w, i32_w]
         rfl
        refine pure_ (i := 6) (N := some 23) (v := ?_) (a' := ?_) #[true, true, true, false, true, true, true, false, false, false] rfl rfl (any_of HT_.out (by kernel_rfl)) (fun _ _ _ h => h) (Or.inl ⟨by rfl, ?_⟩) ?_ ?_
        rotate_left
        ·intro w'
         go_simp
         with_reducible rfl
        rotate_left
        ·simp only [Act.put, Lt, Lz, Ls, i64_w, i32_w]
         rfl
        refine take_ (i := 3) (N := some 20) (v := ?_) (a' := ?_) #[true, true, true, true, true, true, true, false, false, false] rfl rfl (take_ofW HT_.out HW_.out (by kernel_rfl)) (fun _ _ _ h => h) (Or.inl ⟨by rfl, ?_⟩) hHeld ?_ ?_
        rotate_left
        ·rintro w' ⟨s0, s1⟩
         go_simp
         with_reducible rfl
        rotate_left
        ·simp only [Act.put, Lt, Lz, Ls, i64_w, i32_w]
         rfl
        refine take_ (i := 7) (N := some 24) (v := ?_) (a' := ?_) #[true, true, true, true, true, true, true, true, false, false] rfl rfl (take_ofW HT_.out HW_.out (by kernel_rfl)) (fun _ _ _ h => h) (Or.inl ⟨by rfl, ?_⟩) hHeld ?_ ?_
        rotate_left
        ·rintro w' ⟨s0, s1⟩
         go_simp
         with_reducible rfl
        rotate_left
        ·simp only [Act.put, Lt, Lz, Ls, i64_w, i32_w]
         rfl
        refine one_ (i := 8) (N := some 25) #[true, true, true, true, true, true, true, true, true, false] rfl rfl (one_of HT_.out (by kernel_rfl)) (by decide) (fun K hK => ?_)
        refine goes_ Try.func85 (by kernel_rfl) rfl #[.slice A182_0 (rd_L9 l0 x5_1).length c182_0, .slice A183_0 (rd_L9 l1 x5_1).length c183_0] (by rfl) rfl rfl (by first | rfl | (simp only [List.map_toArray, List.map_cons, List.map_nil]; first | done | rfl)) ?_
        with_reducible refine (laws_eqRowS.calls k1 _ _ (rd_L9 l0 x5_1) _ _ (rd_L9 l1 x5_1) true _ ?side1 ?side2 ?side3 ?side4 A7.out).mono ?_
        (case side1 => repeat (first | exact (Kd.C_below HR182_0.out HB.out) | (with_reducible refine Kd.C_alloc ?_ _) | (with_reducible refine Kd.C_drewN ?_ _) | (with_reducible refine Kd.C_drew ?_)))
        (case side2 => exact HC182_0.out)
        (case side3 => repeat (first | exact (Kd.C_below HR183_0.out HB.out) | (with_reducible refine Kd.C_alloc ?_ _) | (with_reducible refine Kd.C_drewN ?_ _) | (with_reducible refine Kd.C_drew ?_)))
        (case side4 => exact HC183_0.out)
        rintro e w10 ⟨rfl, hb⟩
        refine ⟨_, rfl, ?_⟩
        have n0_ := Am (Bt (by repeat (first | exact HB.out | apply Ba | apply Bn | apply Bd)) hb)
        clear HB
        have HB := n0_
        clear n0_
        (try clear hb)
        (try clear hb2)
        (try clear hk)
        (try clear hi)
        refine hK.out _ _ ⟨((HB.out.cell (bl_ w _ hw182_0)).trans hw182_0), ((HB.out.cell (bl_ w _ hw183_0)).trans hw183_0)⟩ (fun hHeld => ?_)
        clear hK K
        refine norm_ (a' := ?_) ?_ ?_
        rotate_left
        ·show Act.put _ (some 25) _ = _
         simp only [Act.put, Lt, Lz, Ls, i64_w, i32_w]
         rfl
        refine pure_ (i := 9) (N := some 26) (v := ?_) (a' := ?_) #[true, true, true, true, true, true, true, true, true, true] rfl rfl (any_of HT_.out (by kernel_rfl)) (fun _ _ _ h => h) (Or.inl ⟨by rfl, ?_⟩) ?_ ?_
        rotate_left
        ·intro w'
         go_simp
         with_reducible rfl
        rotate_left
        ·simp only [Act.put, Lt, Lz, Ls, i64_w, i32_w]
         rfl
        refine done_ (done_of HT_.out (by kernel_rfl)) ?_
        try go_wp2
        go_roundg k1
        case measure => have := HK1.out; omega
        case rel => exact ⟨(wrap64 (x5_1 + 1)), (by first | rfl | (simp; done) | (simp [*]; done)), H', ⟨by have := HK1.out; omega⟩, ⟨by repeat (first | exact HB.out | apply Ba | apply Bn | apply Bd)⟩⟩
       ·replace c8 := Bool.eq_false_iff.mpr c8
        subst c8
        have H1 : (some false) = some r := by rw [if_neg (show ¬ (false = true) by decide)] at H; exact H
        clear H
        have H := H1
        clear H1
        obtain rfl := Option.some.inj H
        try go_wp2
        have n0_ := Am (Bd HB.out)
        clear HB
        have HB := n0_
        clear n0_
        have p182 : 0 ≤ (x5_1 : Int) := of_decide_eq_true (by assumption)
        have q182 : x5_1 < (l0.length : Int) := of_decide_eq_true (by assumption)
        obtain ⟨ad182, A182_0, c182_0, e182, hx182_0, hl182_0, hi182_0⟩ := at_L9 HR0.out x5_1 p182 q182
        have hw182_0 := hx182_0
        cases e182
        replace hx182_0 := (HB.out.cell (bl_ w _ hx182_0)).trans hx182_0
        have HR182_0 := Am hi182_0
        have HC182_0 := Am hl182_0
        clear hi182_0 hl182_0
        replace p182 := eq_true p182
        replace q182 := eq_true q182
        have p183 : 0 ≤ (x5_1 : Int) := of_decide_eq_true (by assumption)
        have q183 : x5_1 < (l1.length : Int) := of_decide_eq_true (by assumption)
        obtain ⟨ad183, A183_0, c183_0, e183, hx183_0, hl183_0, hi183_0⟩ := at_L9 HR1.out x5_1 p183 q183
        have hw183_0 := hx183_0
        cases e183
        replace hx183_0 := (HB.out.cell (bl_ w _ hx183_0)).trans hx183_0
        have HR183_0 := Am hi183_0
        have HC183_0 := Am hl183_0
        clear hi183_0 hl183_0
        replace p183 := eq_true p183
        replace q183 := eq_true q183
        refine start_ (n := 10) (S := fun w' => w'.cell? (ad182.add (x5_1).toNat) = some (.slice A182_0 (rd_L9 l0 x5_1).length c182_0) ∧ w'.cell? (ad183.add (x5_1).toNat) = some (.slice A183_0 (rd_L9 l1 x5_1).length c183_0)) (ds := []) #[false, false, false, false, false, false, false, false, false, false] (by kernel_rfl) rfl rfl ⟨((HB.out.cell (bl_ w _ hw182_0)).trans hw182_0), ((HB.out.cell (bl_ w _ hw183_0)).trans hw183_0)⟩ (fun hHeld => ?_); refine with_tabW laws_eqRowSS.tab6 laws_eqRowSS.bits6 (fun HT_ HW_ => ?_)
        generalize wr.drew = w11 at HB HR182_0 HR183_0 hx182_0 hx183_0 hHeld ⊢
        refine pure_ (i := 0) (N := some 17) (v := ?_) (a' := ?_) #[true, false, false, false, false, false, false, false, false, false] rfl rfl (any_of HT_.out (by kernel_rfl)) (fun _ _ _ h => h) (Or.inl ⟨by rfl, ?_⟩) ?_ ?_
        rotate_left
        ·intro w'
         go_simp
         with_reducible rfl
        rotate_left
        ·simp only [Act.put, Lt, Lz, Ls, i64_w, i32_w]
         rfl
        refine pure_ (i := 1) (N := some 18) (v := ?_) (a' := ?_) #[true, true, false, false, false, false, false, false, false, false] rfl rfl (any_of HT_.out (by kernel_rfl)) (fun _ _ _ h => h) (Or.inl ⟨by rfl, ?_⟩) ?_ ?_
        rotate_left
        ·intro w'
         go_simp
         with_reducible rfl
        rotate_left
        ·simp only [Act.put, Lt, Lz, Ls, i64_w, i32_w]
         rfl
        refine pure_ (i := 2) (N := some 19) (v := ?_) (a' := ?_) #[true, true, true, false, false, false, false, false, false, false] rfl rfl (any_of HT_.out (by kernel_rfl)) (fun _ _ _ h => h) (Or.inl ⟨by rfl, ?_⟩) ?_ ?_
        rotate_left
        ·intro w'
         go_simp
         with_reducible rfl
        rotate_left
        ·simp only [Act.put, Lt, Lz, Ls, i64_w, i32_w]
         rfl
        refine pure_ (i := 4) (N := some 21) (v := ?_) (a' := ?_) #[true, true, true, false, true, false, false, false, false, false] rfl rfl (any_of HT_.out (by kernel_rfl)) (fun _ _ _ h => h) (Or.inl ⟨by rfl, ?_⟩) ?_ ?_
        rotate_left
        ·intro w'
         go_simp
         with_reducible rfl
        rotate_left
        ·simp only [Act.put, Lt, Lz, Ls, i64_w, i32_w]
         rfl
        refine pure_ (i := 5) (N := some 22) (v := ?_) (a' := ?_) #[true, true, true, false, true, true, false, false, false, false] rfl rfl (any_of HT_.out (by kernel_rfl)) (fun _ _ _ h => h) (Or.inl ⟨by rfl, ?_⟩) ?_ ?_
        rotate_left
        ·intro w'
         go_simp
         with_reducible rfl
        rotate_left
        ·simp only [Act.put, Lt, Lz, Ls, i64_w, i32_w]
         rfl
        refine pure_ (i := 6) (N := some 23) (v := ?_) (a' := ?_) #[true, true, true, false, true, true, true, false, false, false] rfl rfl (any_of HT_.out (by kernel_rfl)) (fun _ _ _ h => h) (Or.inl ⟨by rfl, ?_⟩) ?_ ?_
        rotate_left
        ·intro w'
         go_simp
         with_reducible rfl
        rotate_left
        ·simp only [Act.put, Lt, Lz, Ls, i64_w, i32_w]
         rfl
        refine take_ (i := 3) (N := some 20) (v := ?_) (a' := ?_) #[true, true, true, true, true, true, true, false, false, false] rfl rfl (take_ofW HT_.out HW_.out (by kernel_rfl)) (fun _ _ _ h => h) (Or.inl ⟨by rfl, ?_⟩) hHeld ?_ ?_
        rotate_left
        ·rintro w' ⟨s0, s1⟩
         go_simp
         with_reducible rfl
        rotate_left
        ·simp only [Act.put, Lt, Lz, Ls, i64_w, i32_w]
         rfl
        refine take_ (i := 7) (N := some 24) (v := ?_) (a' := ?_) #[true, true, true, true, true, true, true, true, false, false] rfl rfl (take_ofW HT_.out HW_.out (by kernel_rfl)) (fun _ _ _ h => h) (Or.inl ⟨by rfl, ?_⟩) hHeld ?_ ?_
        rotate_left
        ·rintro w' ⟨s0, s1⟩
         go_simp
         with_reducible rfl
        rotate_left
        ·simp only [Act.put, Lt, Lz, Ls, i64_w, i32_w]
         rfl
        refine one_ (i := 8) (N := some 25) #[true, true, true, true, true, true, true, true, true, false] rfl rfl (one_of HT_.out (by kernel_rfl)) (by decide) (fun K hK => ?_)
        refine goes_ Try.func85 (by kernel_rfl) rfl #[.slice A182_0 (rd_L9 l0 x5_1).length c182_0, .slice A183_0 (rd_L9 l1 x5_1).length c183_0] (by rfl) rfl rfl (by first | rfl | (simp only [List.map_toArray, List.map_cons, List.map_nil]; first | done | rfl)) ?_
        with_reducible refine (laws_eqRowS.calls k1 _ _ (rd_L9 l0 x5_1) _ _ (rd_L9 l1 x5_1) false _ ?side1 ?side2 ?side3 ?side4 A7.out).mono ?_
        (case side1 => repeat (first | exact (Kd.C_below HR182_0.out HB.out) | (with_reducible refine Kd.C_alloc ?_ _) | (with_reducible refine Kd.C_drewN ?_ _) | (with_reducible refine Kd.C_drew ?_)))
        (case side2 => exact HC182_0.out)
        (case side3 => repeat (first | exact (Kd.C_below HR183_0.out HB.out) | (with_reducible refine Kd.C_alloc ?_ _) | (with_reducible refine Kd.C_drewN ?_ _) | (with_reducible refine Kd.C_drew ?_)))
        (case side4 => exact HC183_0.out)
        rintro e w12 ⟨rfl, hb⟩
        refine ⟨_, rfl, ?_⟩
        have n0_ := Am (Bt (by repeat (first | exact HB.out | apply Ba | apply Bn | apply Bd)) hb)
        clear HB
        have HB := n0_
        clear n0_
        (try clear hb)
        (try clear hb2)
        (try clear hk)
        (try clear hi)
        refine hK.out _ _ ⟨((HB.out.cell (bl_ w _ hw182_0)).trans hw182_0), ((HB.out.cell (bl_ w _ hw183_0)).trans hw183_0)⟩ (fun hHeld => ?_)
        clear hK K
        refine norm_ (a' := ?_) ?_ ?_
        rotate_left
        ·show Act.put _ (some 25) _ = _
         simp only [Act.put, Lt, Lz, Ls, i64_w, i32_w]
         rfl
        refine pure_ (i := 9) (N := some 26) (v := ?_) (a' := ?_) #[true, true, true, true, true, true, true, true, true, true] rfl rfl (any_of HT_.out (by kernel_rfl)) (fun _ _ _ h => h) (Or.inl ⟨by rfl, ?_⟩) ?_ ?_
        rotate_left
        ·intro w'
         go_simp
         with_reducible rfl
        rotate_left
        ·simp only [Act.put, Lt, Lz, Ls, i64_w, i32_w]
         rfl
        refine done_ (done_of HT_.out (by kernel_rfl)) ?_
        try go_wp2
        go_ret
        exact ⟨by first | rfl | (simp [*, errW_none, errW_some] <;> rfl), by repeat (first | exact HB.out | apply Ba | apply Bn | apply Bd)⟩
      ·rw [if_neg c6] at H
       exact absurd H (by simp)
     ·rw [if_neg c5] at H
      exact absurd H (by simp)
    ·rw [if_neg c4] at H
     have c4b0 : decide (x5_1 < (l0.length : Int)) = false := decide_eq_false c4
     clear c4
     obtain rfl := Option.some.inj H
     go_wp2
     go_ret
     exact ⟨by first | rfl | (simp [*, errW_none, errW_some] <;> rfl), by repeat (first | exact HB.out | apply Ba | apply Bn | apply Bd)⟩
 ·rw [if_neg c3] at H
  have c3b0 : ((l0.length : Int) == (l1.length : Int)) = false := beq_eq_false_iff_ne.mpr c3
  have c3b1 : ((l0.length : Int) != (l1.length : Int)) = true := bne_iff_ne.mpr c3
  have c3b2 : (l0.length == l1.length) = false := by first | simpa using c3 | (simp at c3 ⊢; omega)
  obtain rfl := Option.some.inj H
  go_enter Try.func48, Try.ntmps48
  go_wp2
  go_ret
  exact ⟨by first | rfl | (simp [*, errW_none, errW_some] <;> rfl), by repeat (first | exact HB.out | apply Ba | apply Bn | apply Bd)⟩
end Go.Proofs.Ytacpjifbgnlppaa.QFnExactAttrFor
