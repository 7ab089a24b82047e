-- Written by a program of this session (wip/mk.py) over the kit's print: Lean checks it.
import Derived.Test.YtpboalgecejoeaaQFnComponentsx0
import Derived.Test.YtpboalgecejoeaaQFnComponentsx1
namespace Go.Proofs.Ytpboalgecejoeaa.QFnComponents
open Go.Proofs.YtpboalgecejoeaaW.PrintWords.Kd renaming R_alloc → Ra, R_drewN → Rn, R_drew → Rd
open Go.Proofs.YtpboalgecejoeaaW.PrintWords renaming below_alloc → Ba, pw_below_drewN → Bn, below_drew1 → Bd, below_set → Bs, below_size → Bz, below_step → Bt, gate_dst → Gd, gate_callee → Gc, gate_store → Gs
open Go.World renaming block_lt_of_cell? → bl_
open Go.Proofs.YtpboalgecejoeaaW.PrintWords.Aside0 renaming mk → Am
open Go.Proofs.YtpboalgecejoeaaW.PrintWords renaming Aside0 → Ad
open Go.RowKit Go.Proofs.YtpboalgecejoeaaW.PrintWords Go.Proofs.YtpboalgecejoeaaW.PrintLast Go.Proofs.YtpboalgecejoeaaW.PrintMore
attribute [local go_sem] max2_int min2_int max_two min_two max_three min_three max_four min_four   -- for this text's walks alone
set_option linter.unusedVariables false
set_option linter.unusedSimpArgs false
mutual
def impl_reached.l0 : Nat → List (List Int) → List Bool → List Int → Option (List Int)
 | 0, _, _, _ => none
 | k + 1, x0, x5, x6 => if (x6.length : Int) > 0 then (if 0 < (x6.length : Int) then (if 0 ≤ (rd x6 0) then (if (rd x6 0) < (x0.length : Int) then (impl_reached.l1 k x0 x5 x6 (rd_L2 x0 (rd x6 0)) ((rd_L2 x0 (rd x6 0)).length : Int) 0) else (none)) else (none)) else (none)) else (impl_reached.l2 k (([] : List Int)) x5 (x5.length : Int) 0)
def impl_reached.l1 : Nat → List (List Int) → List Bool → List Int → List Int → Int → Int → Option (List Int)
 | 0, _, _, _, _, _, _ => none
 | k + 1, x0, x5, x6, x30, x31, x32 => if x32 < x31 then (if 0 ≤ x32 then (if x32 < (x30.length : Int) then (if 0 ≤ (rd x30 x32) then (if (rd x30 x32) < (x5.length : Int) then (if (rdOf false x5 (rd x30 x32) = true) then (impl_reached.l1 k x0 x5 x6 x30 x31 (wrap64 (x32 + 1))) else (if x6.length < 17592186044416 then (impl_reached.l1 k x0 (x5.set ((rd x30 x32) : Int).toNat true) (x6 ++ [rd x30 x32]) x30 x31 (wrap64 (x32 + 1))) else (none))) else (none)) else (none)) else (none)) else (none)) else (if 1 ≤ (x6.length : Int) then (impl_reached.l0 k x0 x5 (x6.drop (1 : Int).toNat)) else (none))
def impl_reached.l2 : Nat → List Int → List Bool → Int → Int → Option (List Int)
 | 0, _, _, _, _ => none
 | k + 1, x9, x50, x51, x52 => if x52 < x51 then (if 0 ≤ x52 then (if x52 < (x50.length : Int) then (if rdOf false x50 x52 = true then (if x9.length < 17592186044416 then (impl_reached.l2 k (x9 ++ [x52]) x50 x51 (wrap64 (x52 + 1))) else (none)) else (impl_reached.l2 k x9 x50 x51 (wrap64 (x52 + 1)))) else (none)) else (none)) else (some x9)
end
def impl_reached.f (k : Nat) (l0 : List (List Int)) (a1 : Int) : Option (List Int) := if 0 ≤ (l0.length : Int) then (if ((l0.length : Int) : Int).toNat ≤ 281474976710656 then ((some (List.replicate ((l0.length : Int) : Int).toNat false : List Bool)).bind fun y109 => (if 0 ≤ a1 then (if a1 < (y109.length : Int) then (impl_reached.l0 k l0 (y109.set (a1 : Int).toNat true) (([a1] : List Int))) else (none)) else (none))) else (none)) else (none)
theorem impl_reached.mono_l : ∀ k, (∀ y0 y1 y2, LeO (impl_reached.l0 k y0 y1 y2) (impl_reached.l0 (k + 1) y0 y1 y2)) ∧ (∀ y0 y1 y2 y3 y4 y5, LeO (impl_reached.l1 k y0 y1 y2 y3 y4 y5) (impl_reached.l1 (k + 1) y0 y1 y2 y3 y4 y5)) ∧ (∀ y0 y1 y2 y3, LeO (impl_reached.l2 k y0 y1 y2 y3) (impl_reached.l2 (k + 1) y0 y1 y2 y3))
 | 0 => ⟨fun _ _ _ r h => by simp [impl_reached.l0] at h, fun _ _ _ _ _ _ r h => by simp [impl_reached.l1] at h, fun _ _ _ _ r h => by simp [impl_reached.l2] at h⟩
 | k + 1 => by
  obtain ⟨ih0, ih1, ih2⟩ := impl_reached.mono_l k
  refine ⟨?_, ?_, ?_⟩
  ·intro y0 y1 y2
   unfold impl_reached.l0
   repeat' first
   | (with_reducible exact ih0 _ _ _)
   | (with_reducible exact ih1 _ _ _ _ _ _)
   | (with_reducible exact ih2 _ _ _ _)
   | (with_reducible exact LeO.refl _)
   | (with_reducible exact LeO.none _)
   | (with_reducible refine LeO.ite ?_ ?_)
   | (with_reducible refine LeO.bind ?_ (fun _ => ?_))
   | exact ih0 _ _ _
   | exact ih1 _ _ _ _ _ _
   | exact ih2 _ _ _ _
   | exact LeO.none _
   | refine LeO.ite ?_ ?_
   | refine LeO.bind ?_ (fun _ => ?_)
  ·intro y0 y1 y2 y3 y4 y5
   unfold impl_reached.l1
   repeat' first
   | (with_reducible exact ih0 _ _ _)
   | (with_reducible exact ih1 _ _ _ _ _ _)
   | (with_reducible exact ih2 _ _ _ _)
   | (with_reducible exact LeO.refl _)
   | (with_reducible exact LeO.none _)
   | (with_reducible refine LeO.ite ?_ ?_)
   | (with_reducible refine LeO.bind ?_ (fun _ => ?_))
   | exact ih0 _ _ _
   | exact ih1 _ _ _ _ _ _
   | exact ih2 _ _ _ _
   | exact LeO.none _
   | refine LeO.ite ?_ ?_
   | refine LeO.bind ?_ (fun _ => ?_)
  ·intro y0 y1 y2 y3
   unfold impl_reached.l2
   repeat' first
   | (with_reducible exact ih0 _ _ _)
   | (with_reducible exact ih1 _ _ _ _ _ _)
   | (with_reducible exact ih2 _ _ _ _)
   | (with_reducible exact LeO.refl _)
   | (with_reducible exact LeO.none _)
   | (with_reducible refine LeO.ite ?_ ?_)
   | (with_reducible refine LeO.bind ?_ (fun _ => ?_))
   | exact ih0 _ _ _
   | exact ih1 _ _ _ _ _ _
   | exact ih2 _ _ _ _
   | exact LeO.none _
   | refine LeO.ite ?_ ?_
   | refine LeO.bind ?_ (fun _ => ?_)
theorem impl_reached.mono : ∀ a0 a1 k, LeO (impl_reached.f k a0 a1) (impl_reached.f (k + 1) a0 a1) := by
 intro a0 a1 k
 obtain ⟨ih0, ih1, ih2⟩ := impl_reached.mono_l k
 unfold impl_reached.f
 repeat' first
   | (with_reducible exact ih0 _ _ _)
   | (with_reducible exact ih1 _ _ _ _ _ _)
   | (with_reducible exact ih2 _ _ _ _)
   | (with_reducible exact LeO.refl _)
   | (with_reducible exact LeO.none _)
   | (with_reducible refine LeO.ite ?_ ?_)
   | (with_reducible refine LeO.bind ?_ (fun _ => ?_))
   | exact ih0 _ _ _
   | exact ih1 _ _ _ _ _ _
   | exact ih2 _ _ _ _
   | exact LeO.none _
   | refine LeO.ite ?_ ?_
   | refine LeO.bind ?_ (fun _ => ?_)
set_option maxHeartbeats 8000000 in
set_option maxRecDepth 100000 in
theorem impl_reached.calls (k : Nat) (A0 : Option Addr) (c0 : Nat) (l0 : List (List Int)) (a1 : Int) (r : List Int) (w : World) (hr0 : Kd.C (Kd.slice 3 (Kd.int .i64)) w A0 l0.length l0) (hc0 : l0.length ≤ c0) (h : impl_reached.f k l0 a1 = some r) :
  Calls Try.prog 58 #[.slice A0 l0.length c0, .int .i64 a1] w fun e w' => ∃ v0_ : Value, e = .returned (v0_) ∧ Kd.R (Kd.int .i64) 3 w' w.heap.size (fun _ => True) v0_ r ∧ Below w.heap.size w w' := by
 have HR0 := Am hr0
 have HC0 := Am hc0
 clear hr0 hc0
 have HB := Am (Below.refl w.heap.size w)
 have H : (if 0 ≤ (l0.length : Int) then (if ((l0.length : Int) : Int).toNat ≤ 281474976710656 then ((some (List.replicate ((l0.length : Int) : Int).toNat false : List Bool)).bind fun y109 => (if 0 ≤ a1 then (if a1 < (y109.length : Int) then (impl_reached.l0 k l0 (y109.set (a1 : Int).toNat true) (([a1] : List Int))) else (none)) else (none))) else (none)) else (none)) = some r := h
 clear h
 by_cases c3 : 0 ≤ (l0.length : Int)
 ·rw [if_pos c3] at H
  have c3b0 := eq_true c3
  have c3b1 : decide (0 ≤ (l0.length : Int)) = true := decide_eq_true c3
  clear c3
  by_cases c4 : ((l0.length : Int) : Int).toNat ≤ 281474976710656
  ·rw [if_pos c4] at H
   have c4b0 := eq_true c4
   have c4b1 : decide (((l0.length : Int) : Int).toNat ≤ 281474976710656) = true := decide_eq_true c4
   clear c4
   obtain ⟨y109, hy109⟩ : ∃ y_ : List Bool, y_ = (List.replicate ((l0.length : Int) : Int).toNat false) := ⟨_, rfl⟩
   replace H : (if 0 ≤ a1 then (if a1 < (y109.length : Int) then (impl_reached.l0 k l0 (y109.set (a1 : Int).toNat true) (([a1] : List Int))) else (none)) else (none)) = some r := by first | (rw [hy109]; with_reducible exact H) | (have H2_ := (Option.bind_some _ _).symm.trans H; rw [hy109]; with_reducible exact H2_) | (have H2_ := (Option.bind_some _ _).symm.trans H; with_reducible exact H2_) | with_reducible exact H | (rw [hy109]; exact H) | exact H
   have Ny109 := Am hy109
   clear hy109
   by_cases c5 : 0 ≤ a1
   ·rw [if_pos c5] at H
    have c5b0 : decide (0 ≤ a1) = true := decide_eq_true c5
    clear c5
    by_cases c6 : a1 < (y109.length : Int)
    ·rw [if_pos c6] at H
     have c6b0 : decide (a1 < (y109.length : Int)) = true := decide_eq_true c6
     clear c6
     obtain ⟨y112, hy112⟩ : ∃ y_ : List Bool, y_ = (y109.set (a1 : Int).toNat true) := ⟨_, rfl⟩
     replace H : (impl_reached.l0 k l0 y112 (([a1] : List Int))) = some r := by first | (rw [hy112]; with_reducible exact H) | (have H2_ := (Option.bind_some _ _).symm.trans H; rw [hy112]; with_reducible exact H2_) | (have H2_ := (Option.bind_some _ _).symm.trans H; with_reducible exact H2_) | with_reducible exact H | (rw [hy112]; exact H) | exact H
     have Ny112 := Am hy112
     clear hy112
     obtain ⟨y113, hy113⟩ : ∃ y_ : List Int, y_ = (([a1] : List Int)) := ⟨_, rfl⟩
     replace H : (impl_reached.l0 k l0 y112 y113) = some r := by first | (rw [hy113]; with_reducible exact H) | (have H2_ := (Option.bind_some _ _).symm.trans H; rw [hy113]; with_reducible exact H2_) | (have H2_ := (Option.bind_some _ _).symm.trans H; with_reducible exact H2_) | with_reducible exact H | (rw [hy113]; exact H) | exact H
     have Ny113 := Am hy113
     clear hy113
     have H' := Am H
     clear H
     go_enter Try.func58, Try.ntmps58
     go_wp2_with (first | ((refine Gd (N := 14) rfl ?_); refine Kd.R_make Kd.bool _ 4 rfl (N := 14) rfl 129 _ _ rfl (l0.length : Int) rfl rfl Try.underlying129 (.bool false) 1 info4 rfl (by decide) (by omega) false (ok := fun _ => True) (okp := fun _ => True) rfl (fun _ hk => hk) trivial (of_decide_eq_true (by assumption)) (Nat.le_trans (Nat.mul_le_mul_right _ (of_decide_eq_true (by assumption) : (l0.length : Int).toNat ≤ 281474976710656)) (by omega)) (Below.refl _ _) (Nat.le_refl _) ?_; intro v110 w8 ho9 hb hg_ hnew_; clear hg_ hnew_; (first | rw [← Ny109.out] at ho9 | (simp only [Int.reduceToNat] at ho9; rw [← Ny109.out] at ho9)); have n0_ := Am (Kd.R_lower ho9 (Bz (by repeat (first | exact HB.out | apply Ba | apply Bn | apply Bd)))); have n1_ := Am (Bt (by repeat (first | exact HB.out | apply Ba | apply Bn | apply Bd)) hb); clear HB; have HO111 := n0_; have HB := n1_; clear n0_ n1_; clear hb ho9; have p7 : 0 ≤ (a1 : Int) := of_decide_eq_true (by assumption); have q7 : (a1 : Int) < ((y109.length : Int) : Int) := of_decide_eq_true (by assumption); obtain ⟨go7, co7, eo7, gb7, gl7, cl7, HG7⟩ := Kd.R_form HO111.out (by omega); (first | cases eo7 | (injection eo7 with ea_ en_ ec_; (first | subst ea_ | (injection ea_ with ea_; subst ea_)); subst ec_; clear en_)); have GB7 := Am gb7; have GG7 := Am HG7; clear gb7 gl7 HG7; obtain ⟨hx7_0, hf7_0⟩ := Kd.R_celln false HO111.out (a1 : Int) p7 q7; replace p7 := eq_true p7; replace q7 := eq_true q7; obtain ⟨hy10_, hz10_⟩ := Kd.R_celln false HO111.out (a1 : Int) (of_decide_eq_true (by assumption)) (of_decide_eq_true (by assumption)); have HP10 := Kd.R_putg HO111.out (a1 : Int) true) | ((refine Gs (t := 4) (p := 17) rfl ?_); refine store_event (t := 4) (p := 17) (v := ?vo_w11) (w1 := (w8.setCell ⟨go7, (a1 : Int).toNat, none⟩ (.bool true))) ?hg ?ho ?hn ?hr ?_; (case ho => rfl); (case hg => rfl); (case hn => rfl); (case hr => first | (go_simp; done) | (go_simp; rfl)); intro w11 hw; have hg : w8.grownBy w11 (some go7) := (by rw [hw]; exact HP10.2); have hp_ : Kd.R Kd.bool 4 w11 w.heap.size (fun _ => True) (.slice (some ⟨go7, 0, none⟩) y109.length co7) y112 := (by rw [hw, Ny112.out]; exact HP10.1); clear HP10; have n0_ := Am (hp_); have n1_ := Am ((by rw [hw]; exact Bs (HB.out) GB7.out : Below w.heap.size w w11)); clear HO111; clear HB; have HO111 := n0_; have HB := n1_; clear n0_ n1_; clear hg hw hp_) | ((refine Gd (N := 19) rfl ?_); refine Kd.R_lit (Kd.int .i64) _ 3 ?hg (N := 19) ?hd (xs := ([a1] : List Int)) (inner := [.int .i64 a1]) (ok := fun _ => True) (okp := fun _ => True) ?hr ?hp (fun _ hk => hk) trivial (Below.refl _ _) (Nat.le_refl _) (by simp) ?_; (case hd | hg => rfl); (case hr => first | (go_simp; done) | (go_simp; rfl)); (case hp => exact (Reps.one (show Kd.M (Kd.int .i64) _ _ _ a1 [.int .i64 a1] from rfl) (Reps.none _ _))); intro v114 w12 ho13 hb hg_ hnew_; clear hg_ hnew_; (first | rw [← Ny113.out] at ho13 | (simp only [Int.reduceToNat] at ho13; rw [← Ny113.out] at ho13)); have n0_ := Am (Kd.R_below (by (with_reducible repeat (first | apply Ra | apply Rn | apply Rd)); exact HO111.out) hb); have n1_ := Am (Kd.R_lower ho13 (Bz (by repeat (first | exact HB.out | apply Ba | apply Bn | apply Bd)))); have n2_ := Am (Bt (by repeat (first | exact HB.out | apply Ba | apply Bn | apply Bd)) hb); clear HO111; clear HB; have HO111 := n0_; have HO115 := n1_; have HB := n2_; clear n0_ n1_ n2_; clear hb ho13))
     go_loopg [6] k (fun kq v6 w' => ∃ (x5_1 : List Bool) (x6_1 : List Int), Ad (impl_reached.l0 kq l0 x5_1 x6_1 = some r) ∧ Ad (kq ≤ k) ∧ Ad (Kd.R Kd.bool 4 w' w.heap.size (fun _ => True) (.slice (some ⟨go7, 0, none⟩) y109.length co7) x5_1) ∧ Ad (Kd.Q (Kd.int .i64) 3 w' w.heap.size (fun _ => True) v6 x6_1) ∧ Ad (Below w.heap.size w w'))
     case atStart => exact ⟨(y112), (y113), H', ⟨Nat.le_refl _⟩, ⟨by (with_reducible repeat (first | apply Ra | apply Rn | apply Rd)); exact HO111.out⟩, ⟨Kd.Q_of_R (by (with_reducible repeat (first | apply Ra | apply Rn | apply Rd)); exact HO115.out)⟩, ⟨by repeat (first | exact HB.out | apply Ba | apply Bn | apply Bd)⟩⟩
     case round =>
      clear H'
      try clear p2
      try clear c3
      try clear c3b0
      try clear c3b1
      try clear c4
      try clear c4b0
      try clear c4b1
      try clear c5
      try clear c5b0
      try clear c6
      try clear c6b0
      try clear p7
      try clear q7
      try clear hx7
      try clear hf7
      try clear hx7_0
      try clear p7
      try clear q7
      obtain ⟨x5_1, x6_1, HA, HK1, HO_5, HO_6, HB⟩ := hrel
      have hl5_1 := (Kd.R_reads' HO_5.out).1
      rw [hl5_1] at HO_5
      (try simp only [hl5_1])
      (try simp only [hl5_1] at HO_6)
      cases gk with
      | zero => exact absurd HA.out (by simp [impl_reached.l0])
      | succ k1 =>
       have H := HA.out
       clear HA
       simp only [impl_reached.l0] at H
       by_cases c14 : (x6_1.length : Int) > 0
       ·rw [if_pos c14] at H
        have c14b0 : decide (0 < (x6_1.length : Int)) = true := decide_eq_true c14
        have c14b1 : decide (0 < x6_1.length) = true := decide_eq_true (by omega)
        clear c14
        by_cases c15 : 0 < (x6_1.length : Int)
        ·rw [if_pos c15] at H
         have c15b0 : decide (0 < (x6_1.length : Int)) = true := decide_eq_true c15
         have c15b1 : decide (0 < x6_1.length) = true := decide_eq_true (by omega)
         clear c15
         by_cases c16 : 0 ≤ (rd x6_1 0)
         ·rw [if_pos c16] at H
          have c16b0 : decide (0 ≤ (rd x6_1 0)) = true := decide_eq_true c16
          clear c16
          by_cases c17 : (rd x6_1 0) < (l0.length : Int)
          ·rw [if_pos c17] at H
           have c17b0 : decide ((rd x6_1 0) < (l0.length : Int)) = true := decide_eq_true c17
           clear c17
           have H' := Am H
           clear H
           obtain ⟨Ao18, co18, eo18, _⟩ := Kd.Q_slice HO_6.out
           subst eo18
           have p116 : 0 ≤ (0 : Int) := (by omega)
           have q116 : 0 < (x6_1.length : Int) := of_decide_eq_true (by assumption)
           obtain ⟨ad116, e116, hx116_0⟩ := Kd.at_int (Kd.Q_reads' HO_6.out).2.2 0 p116 q116
           cases e116
           have qi116 : (0 < x6_1.length) = True := eq_true (by omega)
           (try rw [show ((0 : Int)).toNat = 0 from rfl] at hx116_0)
           (try rw [Addr.add_zero'] at hx116_0)
           replace p116 := eq_true p116
           replace q116 := eq_true q116
           have p117 : 0 ≤ ((rd x6_1 0) : Int) := of_decide_eq_true (by assumption)
           have q117 : (rd x6_1 0) < (l0.length : Int) := of_decide_eq_true (by assumption)
           obtain ⟨ad117, A117_0, c117_0, e117, hx117_0, hl117_0, hi117_0⟩ := at_L2 HR0.out (rd x6_1 0) p117 q117
           cases e117
           replace hx117_0 := (HB.out.cell (bl_ w _ hx117_0)).trans hx117_0
           have HR117_0 := Am hi117_0
           have HC117_0 := Am hl117_0
           clear hi117_0 hl117_0
           replace p117 := eq_true p117
           replace q117 := eq_true q117
           go_wp2
           go_loopg [6, 32] k1 (fun kq v6 v32 w' => ∃ (x5_2 : List Bool) (x6_2 : List Int) (x32_2 : Int), v32 = .int .i64 x32_2 ∧ Ad (impl_reached.l1 kq l0 x5_2 x6_2 (rd_L2 l0 (rd x6_1 0)) ((rd_L2 l0 (rd x6_1 0)).length : Int) x32_2 = some r) ∧ Ad (kq ≤ k1) ∧ Ad (Kd.R Kd.bool 4 w' w.heap.size (fun _ => True) (.slice (some ⟨go7, 0, none⟩) x5_1.length co7) x5_2) ∧ Ad (Kd.Q (Kd.int .i64) 3 w' w.heap.size (fun _ => True) v6 x6_2) ∧ Ad (Below w.heap.size w w'))
           case atStart => exact ⟨(x5_1), (x6_1), (0), (by first | rfl | (simp; done) | (simp [*]; done)), H', ⟨Nat.le_refl _⟩, ⟨by (try simp only [hl5_1]); (with_reducible repeat (first | apply Ra | apply Rn | apply Rd)); exact HO_5.out⟩, ⟨by (try simp only [hl5_1]); (with_reducible repeat (first | apply Kd.Q_alloc | apply Kd.Q_drewN | apply Kd.Q_drew)); exact HO_6.out⟩, ⟨by repeat (first | exact HB.out | apply Ba | apply Bn | apply Bd)⟩⟩
           case round =>
            clear H'
            try clear c1
            try clear p1
            try clear q1
            try clear hx1
            try clear qi1
            try clear p2
            try clear c3
            try clear c3b0
            try clear c3b1
            try clear c4
            try clear c4b0
            try clear c4b1
            try clear c5
            try clear c5b0
            try clear c6
            try clear c6b0
            try clear p7
            try clear q7
            try clear hx7
            try clear hf7
            try clear c11
            try clear p11
            try clear q11
            try clear hx11
            try clear qi11
            try clear c14
            try clear c14b0
            try clear c14b1
            try clear c15
            try clear c15b0
            try clear c15b1
            try clear c16
            try clear c16b0
            try clear c17
            try clear c17b0
            try clear hx116_0
            try clear hx117_0
            try clear hx7_0
            try clear p116
            try clear p117
            try clear p2
            try clear p7
            try clear q116
            try clear q117
            try clear q7
            obtain ⟨x5_2, x6_2, x32_2, rfl, HA, HK2, HO_5, HO_6, HB⟩ := hrel
            have hl5_2 := (Kd.R_reads' HO_5.out).1
            rw [hl5_2] at HO_5
            (try simp only [hl5_2])
            (try simp only [hl5_2] at HO_6)
            cases gk with
            | zero => exact absurd HA.out (by simp [impl_reached.l1])
            | succ k2 =>
             have H := HA.out
             clear HA
             simp only [impl_reached.l1] at H
             by_cases c19 : x32_2 < ((rd_L2 l0 (rd x6_1 0)).length : Int)
             ·rw [if_pos c19] at H
              have c19b0 : decide (x32_2 < ((rd_L2 l0 (rd x6_1 0)).length : Int)) = true := decide_eq_true c19
              clear c19
              by_cases c20 : 0 ≤ x32_2
              ·rw [if_pos c20] at H
               have c20b0 : decide (0 ≤ x32_2) = true := decide_eq_true c20
               clear c20
               by_cases c21 : x32_2 < ((rd_L2 l0 (rd x6_1 0)).length : Int)
               ·rw [if_pos c21] at H
                have c21b0 : decide (x32_2 < ((rd_L2 l0 (rd x6_1 0)).length : Int)) = true := decide_eq_true c21
                clear c21
                by_cases c22 : 0 ≤ (rd (rd_L2 l0 (rd x6_1 0)) x32_2)
                ·rw [if_pos c22] at H
                 have c22b0 : decide (0 ≤ (rd (rd_L2 l0 (rd x6_1 0)) x32_2)) = true := decide_eq_true c22
                 clear c22
                 by_cases c23 : (rd (rd_L2 l0 (rd x6_1 0)) x32_2) < (x5_2.length : Int)
                 ·rw [if_pos c23] at H
                  have c23b0 : decide ((rd (rd_L2 l0 (rd x6_1 0)) x32_2) < (x5_2.length : Int)) = true := decide_eq_true c23
                  clear c23
                  obtain ⟨bq24, hbq24⟩ : ∃ b_ : Bool, b_ = (rdOf false x5_2 (rd (rd_L2 l0 (rd x6_1 0)) x32_2)) := ⟨_, rfl⟩
                  replace H : (if (bq24 = true) then (impl_reached.l1 k2 l0 x5_2 x6_2 (rd_L2 l0 (rd x6_1 0)) ((rd_L2 l0 (rd x6_1 0)).length : Int) (wrap64 (x32_2 + 1))) else (if x6_2.length < 17592186044416 then (impl_reached.l1 k2 l0 (x5_2.set ((rd (rd_L2 l0 (rd x6_1 0)) x32_2) : Int).toNat true) (x6_2 ++ [rd (rd_L2 l0 (rd x6_1 0)) x32_2]) (rd_L2 l0 (rd x6_1 0)) ((rd_L2 l0 (rd x6_1 0)).length : Int) (wrap64 (x32_2 + 1))) else (none))) = some r := by rw [← hbq24] at H; exact H
                  have Nbq24 := Am hbq24
                  clear hbq24
                  by_cases c25 : (bq24 = true)
                  ·subst c25
                   have H1 : (impl_reached.l1 k2 l0 x5_2 x6_2 (rd_L2 l0 (rd x6_1 0)) ((rd_L2 l0 (rd x6_1 0)).length : Int) (wrap64 (x32_2 + 1))) = some r := by rw [if_pos rfl] at H; exact H
                   clear H
                   have H := H1
                   clear H1
                   have H' := Am H
                   clear H
                   have p118 : 0 ≤ (x32_2 : Int) := of_decide_eq_true (by assumption)
                   have q118 : x32_2 < ((rd_L2 l0 (rd x6_1 0)).length : Int) := of_decide_eq_true (by assumption)
                   obtain ⟨ad118, e118, hx118_0⟩ := Kd.at_int HR117_0.out x32_2 p118 q118
                   cases e118
                   replace hx118_0 := (HB.out.cell (bl_ w _ hx118_0)).trans hx118_0
                   replace p118 := eq_true p118
                   replace q118 := eq_true q118
                   have p119 : 0 ≤ ((rd (rd_L2 l0 (rd x6_1 0)) x32_2) : Int) := of_decide_eq_true (by assumption)
                   have q119 : (rd (rd_L2 l0 (rd x6_1 0)) x32_2) < (x5_2.length : Int) := of_decide_eq_true (by assumption)
                   obtain ⟨ad119, e119, hx119_0⟩ := Kd.at_bool (Kd.R_reads' HO_5.out).2.2 (rd (rd_L2 l0 (rd x6_1 0)) x32_2) p119 q119
                   (try rw [← Nbq24.out] at hx119_0)
                   obtain rfl : (⟨go7, 0, none⟩ : Addr) = ad119 := (by injection e119)
                   (first | simp only [add_plain] at hx119_0 | simp only [add_at] at hx119_0 | simp only [Addr.add, Nat.zero_add] at hx119_0 | skip)
                   replace p119 := eq_true p119
                   replace q119 := eq_true q119
                   go_wp2
                   (try simp only [← hl5_2])
                   go_roundg k2
                   case measure => have := HK1.out; have := HK2.out; omega
                   case rel => exact ⟨(x5_2), (x6_2), (wrap64 (x32_2 + 1)), (by first | rfl | (simp; done) | (simp [*]; done)), H', ⟨by have := HK1.out; have := HK2.out; omega⟩, ⟨by (try simp only [hl5_1]); (try simp only [hl5_2]); (with_reducible repeat (first | apply Ra | apply Rn | apply Rd)); exact HO_5.out⟩, ⟨by (try simp only [hl5_1]); (try simp only [hl5_2]); (with_reducible repeat (first | apply Kd.Q_alloc | apply Kd.Q_drewN | apply Kd.Q_drew)); exact HO_6.out⟩, ⟨by repeat (first | exact HB.out | apply Ba | apply Bn | apply Bd)⟩⟩
                  ·replace c25 := Bool.eq_false_iff.mpr c25
                   subst c25
                   have H1 : (if x6_2.length < 17592186044416 then (impl_reached.l1 k2 l0 (x5_2.set ((rd (rd_L2 l0 (rd x6_1 0)) x32_2) : Int).toNat true) (x6_2 ++ [rd (rd_L2 l0 (rd x6_1 0)) x32_2]) (rd_L2 l0 (rd x6_1 0)) ((rd_L2 l0 (rd x6_1 0)).length : Int) (wrap64 (x32_2 + 1))) else (none)) = some r := by rw [if_neg (show ¬ (false = true) by decide)] at H; exact H
                   clear H
                   have H := H1
                   clear H1
                   obtain ⟨y120, hy120⟩ : ∃ y_ : List Bool, y_ = (x5_2.set ((rd (rd_L2 l0 (rd x6_1 0)) x32_2) : Int).toNat true) := ⟨_, rfl⟩
                   replace H : (if x6_2.length < 17592186044416 then (impl_reached.l1 k2 l0 y120 (x6_2 ++ [rd (rd_L2 l0 (rd x6_1 0)) x32_2]) (rd_L2 l0 (rd x6_1 0)) ((rd_L2 l0 (rd x6_1 0)).length : Int) (wrap64 (x32_2 + 1))) else (none)) = some r := by first | (rw [hy120]; with_reducible exact H) | (have H2_ := (Option.bind_some _ _).symm.trans H; rw [hy120]; with_reducible exact H2_) | (have H2_ := (Option.bind_some _ _).symm.trans H; with_reducible exact H2_) | with_reducible exact H | (rw [hy120]; exact H) | exact H
                   have Ny120 := Am hy120
                   clear hy120
                   by_cases c27 : x6_2.length < 17592186044416
                   ·rw [if_pos c27] at H
                    have LMc27 := Am c27
                    clear c27
                    obtain ⟨y121, hy121⟩ : ∃ y_ : List Int, y_ = (x6_2 ++ [rd (rd_L2 l0 (rd x6_1 0)) x32_2]) := ⟨_, rfl⟩
                    replace H : (impl_reached.l1 k2 l0 y120 y121 (rd_L2 l0 (rd x6_1 0)) ((rd_L2 l0 (rd x6_1 0)).length : Int) (wrap64 (x32_2 + 1))) = some r := by first | (rw [hy121]; with_reducible exact H) | (have H2_ := (Option.bind_some _ _).symm.trans H; rw [hy121]; with_reducible exact H2_) | (have H2_ := (Option.bind_some _ _).symm.trans H; with_reducible exact H2_) | with_reducible exact H | (rw [hy121]; exact H) | exact H
                    have Ny121 := Am hy121
                    clear hy121
                    have H' := Am H
                    clear H
                    have p118 : 0 ≤ (x32_2 : Int) := of_decide_eq_true (by assumption)
                    have q118 : x32_2 < ((rd_L2 l0 (rd x6_1 0)).length : Int) := of_decide_eq_true (by assumption)
                    obtain ⟨ad118, e118, hx118_0⟩ := Kd.at_int HR117_0.out x32_2 p118 q118
                    cases e118
                    replace hx118_0 := (HB.out.cell (bl_ w _ hx118_0)).trans hx118_0
                    replace p118 := eq_true p118
                    replace q118 := eq_true q118
                    have p119 : 0 ≤ ((rd (rd_L2 l0 (rd x6_1 0)) x32_2) : Int) := of_decide_eq_true (by assumption)
                    have q119 : (rd (rd_L2 l0 (rd x6_1 0)) x32_2) < (x5_2.length : Int) := of_decide_eq_true (by assumption)
                    obtain ⟨ad119, e119, hx119_0⟩ := Kd.at_bool (Kd.R_reads' HO_5.out).2.2 (rd (rd_L2 l0 (rd x6_1 0)) x32_2) p119 q119
                    (try rw [← Nbq24.out] at hx119_0)
                    obtain rfl : (⟨go7, 0, none⟩ : Addr) = ad119 := (by injection e119)
                    (first | simp only [add_plain] at hx119_0 | simp only [add_at] at hx119_0 | simp only [Addr.add, Nat.zero_add] at hx119_0 | skip)
                    replace p119 := eq_true p119
                    replace q119 := eq_true q119
                    have p26 : 0 ≤ ((rd (rd_L2 l0 (rd x6_1 0)) x32_2) : Int) := of_decide_eq_true (by assumption)
                    have q26 : ((rd (rd_L2 l0 (rd x6_1 0)) x32_2) : Int) < ((x5_2.length : Int) : Int) := of_decide_eq_true (by assumption)
                    obtain ⟨hx26_0, hf26_0⟩ := Kd.R_celln false HO_5.out ((rd (rd_L2 l0 (rd x6_1 0)) x32_2) : Int) p26 q26
                    replace p26 := eq_true p26
                    replace q26 := eq_true q26
                    have HP28 := Kd.R_putg HO_5.out ((rd (rd_L2 l0 (rd x6_1 0)) x32_2) : Int) true
                    go_wp2_with (first | ((refine Gs (t := 4) (p := 43) rfl ?_); refine store_event (t := 4) (p := 43) (v := ?vo_w29) (w1 := (wr.setCell ⟨go7, ((rd (rd_L2 l0 (rd x6_1 0)) x32_2) : Int).toNat, none⟩ (.bool true))) ?hg ?ho ?hn ?hr ?_; (case ho => rfl); (case hg => rfl); (case hn => rfl); (case hr => first | (go_simp; done) | (go_simp; rfl)); intro w29 hw; have hg : wr.grownBy w29 (some go7) := (by rw [hw]; exact HP28.2); have hp_ : Kd.R Kd.bool 4 w29 w.heap.size (fun _ => True) (.slice (some ⟨go7, 0, none⟩) x5_2.length co7) y120 := (by rw [hw, Ny120.out]; exact HP28.1); clear HP28; have n0_ := Am (hp_); have n1_ := Am (Kd.Q_over' (v := (.slice (some ⟨go7, 0, none⟩) x5_2.length co7)) (by (with_reducible repeat (first | apply Kd.Q_alloc | apply Kd.Q_drewN | apply Kd.Q_drew)); exact HO_6.out) (Kd.R_typed HO_5.out) (by decide) hg); have n2_ := Am ((by rw [hw]; exact Bs (HB.out) GB7.out : Below w.heap.size w w29)); clear HO_5; clear HO_6; clear HB; have HO_5 := n0_; have HO_6 := n1_; have HB := n2_; clear n0_ n1_ n2_; clear hg hw hp_) | ((with_reducible refine gate_builtin (b := .append) (xs := #[.tmp 44, .tmp 46]) rfl ?_); at_builtin; refine Kd.Q_append (Kd.int .i64) (w0 := w) w.heap.size rfl (.tmp 44) (.tmp 46) 23 3 (.int .i64 0) 8 rfl Try.underlying23 info3 rfl (by decide) (by omega) u6 x6_2 (rd (rd_L2 l0 (rd x6_1 0)) x32_2) [.int .i64 (rd (rd_L2 l0 (rd x6_1 0)) x32_2)] (fun _ => True) (fun _ => False) rfl rfl ?aP (fun _ hk => hk.elim) ?aF ?aO ?aB ?aS ?aL ?_; (case aP => exact rfl); (case aB => exact (by repeat (first | exact HB.out | apply Ba | apply Bn | apply Bd))); (case aF => exact (fun _ _ => trivial)); (case aO => exact (by (with_reducible repeat (first | apply Kd.Q_alloc | apply Kd.Q_drewN | apply Kd.Q_drew)); exact HO_6.out)); (case aS => exact (Bz (by repeat (first | exact HB.out | apply Ba | apply Bn | apply Bd)))); (case aL => have := LMc27.out; omega); intro v122 w30 ho hb hg hat; rw [← Ny121.out] at ho; have n0_ := Am (Kd.R_over' (by (with_reducible repeat (first | apply Ra | apply Rn | apply Rd)); exact HO_5.out) (Kd.Q_typed (by (with_reducible repeat (first | apply Kd.Q_alloc | apply Kd.Q_drewN | apply Kd.Q_drew)); exact HO_6.out)) (by decide) hg); have n1_ := Am (hb); have n2_ := Am (ho); clear HO_5; clear HB; clear HO_6; have HO_5 := n0_; have HB := n1_; have HO123 := n2_; clear n0_ n1_ n2_; clear ho hb hg hat))
                    (try simp only [← hl5_2])
                    go_roundg k2
                    case measure => have := HK1.out; have := HK2.out; omega
                    case rel => exact ⟨(y120), (y121), (wrap64 (x32_2 + 1)), (by first | rfl | (simp; done) | (simp [*]; done)), H', ⟨by have := HK1.out; have := HK2.out; omega⟩, ⟨by (try simp only [hl5_1]); (try simp only [hl5_2]); (with_reducible repeat (first | apply Ra | apply Rn | apply Rd)); exact HO_5.out⟩, ⟨by (try simp only [hl5_1]); (try simp only [hl5_2]); (with_reducible repeat (first | apply Kd.Q_alloc | apply Kd.Q_drewN | apply Kd.Q_drew)); exact HO123.out⟩, ⟨by repeat (first | exact HB.out | apply Ba | apply Bn | apply Bd)⟩⟩
                   ·rw [if_neg c27] at H
                    exact absurd H (by simp)
                 ·rw [if_neg c23] at H
                  exact absurd H (by simp)
                ·rw [if_neg c22] at H
                 exact absurd H (by simp)
               ·rw [if_neg c21] at H
                exact absurd H (by simp)
              ·rw [if_neg c20] at H
               exact absurd H (by simp)
             ·rw [if_neg c19] at H
              have c19b0 : decide (x32_2 < ((rd_L2 l0 (rd x6_1 0)).length : Int)) = false := decide_eq_false c19
              clear c19
              by_cases c31 : 1 ≤ (x6_2.length : Int)
              ·rw [if_pos c31] at H
               have c31b0 := eq_true c31
               have c31b1 : decide (1 ≤ (x6_2.length : Int)) = true := decide_eq_true c31
               clear c31
               obtain ⟨y124, hy124⟩ : ∃ y_ : List Int, y_ = (x6_2.drop (1 : Int).toNat) := ⟨_, rfl⟩
               replace H : (impl_reached.l0 k2 l0 x5_2 y124) = some r := by first | (rw [hy124]; with_reducible exact H) | (have H2_ := (Option.bind_some _ _).symm.trans H; rw [hy124]; with_reducible exact H2_) | (have H2_ := (Option.bind_some _ _).symm.trans H; with_reducible exact H2_) | with_reducible exact H | (rw [hy124]; exact H) | exact H
               have Ny124 := Am hy124
               clear hy124
               have H' := Am H
               clear H
               obtain ⟨Ao32, co32, eo32, _⟩ := Kd.Q_slice HO_6.out
               subst eo32
               have q33 : (1 : Int) ≤ ((x6_2.length : Int) : Int) := of_decide_eq_true (by assumption)
               obtain ⟨i033, hi033, _, hsz33, _⟩ := info_parts info3
               have hcut33 := cut_from (P := Try.prog) 23 3 .i64 Try.underlying23 hi033 1 hsz33 Ao32 x6_2.length co32 1 (by omega) q33
               have hr33 := Kd.Q_drop (k := (1 : Int).toNat) HO_6.out (by omega)
               obtain ⟨A33, hA33⟩ : ∃ A1, A1 = (if co32 = (1 : Int).toNat then Ao32 else (Ao32 : Option Addr).map (·.add ((1 : Int).toNat * 1))) := ⟨_, rfl⟩
               obtain ⟨c33, hc33⟩ : ∃ c1, c1 = co32 - (1 : Int).toNat := ⟨_, rfl⟩
               have hy33 : y124.length = x6_2.length - (1 : Int).toNat := (by rw [Ny124.out, List.length_drop])
               rw [← Ny124.out] at hr33
               rw [← hy33, ← hA33, ← hc33] at hcut33
               replace hr33 : Kd.Q (Kd.int .i64) 3 wr w.heap.size (fun _ => True) (.slice A33 y124.length c33) y124 := (by rw [hA33, hc33, hy33]; exact hr33)
               have HE33 : Ad ((Value.slice A33 y124.length c33).ownBlock = (.slice Ao32 x6_2.length co32 : Value).ownBlock) := ⟨by rw [hA33]; split <;> (cases (Ao32 : Option Addr) <;> rfl)⟩
               clear hy33 hi033 hsz33 HO_6 hA33 hc33
               have HO126 := Am hr33
               clear hr33
               replace q33 := eq_true q33
               go_wp2
               (try simp only [← hl5_1, ← hl5_2])
               go_roundg k2
               case measure => have := HK1.out; have := HK2.out; omega
               case rel => exact ⟨(x5_2), (y124), H', ⟨by have := HK1.out; have := HK2.out; omega⟩, ⟨by (try simp only [hl5_1]); (try simp only [hl5_2]); (with_reducible repeat (first | apply Ra | apply Rn | apply Rd)); exact HO_5.out⟩, ⟨by (try simp only [hl5_1]); (try simp only [hl5_2]); (with_reducible repeat (first | apply Kd.Q_alloc | apply Kd.Q_drewN | apply Kd.Q_drew)); exact HO126.out⟩, ⟨by repeat (first | exact HB.out | apply Ba | apply Bn | apply Bd)⟩⟩
              ·rw [if_neg c31] at H
               exact absurd H (by simp)
          ·rw [if_neg c17] at H
           exact absurd H (by simp)
         ·rw [if_neg c16] at H
          exact absurd H (by simp)
        ·rw [if_neg c15] at H
         exact absurd H (by simp)
       ·rw [if_neg c14] at H
        have c14b0 : decide (0 < (x6_1.length : Int)) = false := decide_eq_false c14
        have c14b1 : decide (0 < x6_1.length) = false := decide_eq_false (by omega)
        clear c14
        obtain ⟨y127, hy127⟩ : ∃ y_ : List Int, y_ = (([] : List Int)) := ⟨_, rfl⟩
        replace H : (impl_reached.l2 k1 y127 x5_1 (x5_1.length : Int) 0) = some r := by first | (rw [hy127]; with_reducible exact H) | (have H2_ := (Option.bind_some _ _).symm.trans H; rw [hy127]; with_reducible exact H2_) | (have H2_ := (Option.bind_some _ _).symm.trans H; with_reducible exact H2_) | with_reducible exact H | (rw [hy127]; exact H) | exact H
        have Ny127 := Am hy127
        clear hy127
        have H' := Am H
        clear H
        obtain ⟨Ao34, co34, eo34, _⟩ := Kd.Q_slice HO_6.out
        subst eo34
        go_wp2_with (first | ((refine Gd (N := 49) rfl ?_); refine Kd.R_lit (Kd.int .i64) _ 3 ?hg (N := 49) ?hd (xs := ([] : List Int)) (inner := []) (ok := fun _ => True) (okp := fun _ => True) ?hr ?hp (fun _ hk => hk) trivial (Below.refl _ _) (Nat.le_refl _) (by simp) ?_; (case hd | hg => rfl); (case hr => first | (go_simp; done) | (go_simp; rfl)); (case hp => exact (Reps.none _ _)); intro v128 w35 ho36 hb hg_ hnew_; clear hg_ hnew_; (first | rw [← Ny127.out] at ho36 | (simp only [Int.reduceToNat] at ho36; rw [← Ny127.out] at ho36)); have n0_ := Am (Kd.R_below (by (with_reducible repeat (first | apply Ra | apply Rn | apply Rd)); exact HO_5.out) hb); have n1_ := Am (Kd.Q_elder' (by (with_reducible repeat (first | apply Kd.Q_alloc | apply Kd.Q_drewN | apply Kd.Q_drew)); exact HO_6.out) (Kd.R_base ho36) hb); have n2_ := Am (Kd.R_lower (Kd.R_new' ho36 (Kd.Q_lt (by (with_reducible repeat (first | apply Kd.Q_alloc | apply Kd.Q_drewN | apply Kd.Q_drew)); exact HO_6.out))) (Bz (by repeat (first | exact HB.out | apply Ba | apply Bn | apply Bd)))); have n3_ := Am (Bt (by repeat (first | exact HB.out | apply Ba | apply Bn | apply Bd)) hb); clear HO_5; clear HO_6; clear HB; have HO_5 := n0_; have HO_6 := n1_; have HO129 := n2_; have HB := n3_; clear n0_ n1_ n2_ n3_; clear hb ho36))
        go_loopg [9, 52] k1 (fun kq v9 v52 w' => ∃ (x9_2 : List Int) (x52_2 : Int), v52 = .int .i64 x52_2 ∧ Ad (impl_reached.l2 kq x9_2 x5_1 (x5_1.length : Int) x52_2 = some r) ∧ Ad (kq ≤ k1) ∧ Ad (Kd.R (Kd.int .i64) 3 w' w.heap.size (fun _ => True) v9 x9_2) ∧ Ad (Kd.R Kd.bool 4 w' w.heap.size (fun _ => True) (.slice (some ⟨go7, 0, none⟩) x5_1.length co7) x5_1) ∧ Ad (Below w.heap.size w w'))
        case atStart => exact ⟨(y127), (0), (by first | rfl | (simp; done) | (simp [*]; done)), H', ⟨Nat.le_refl _⟩, ⟨by (try simp only [hl5_1]); (with_reducible repeat (first | apply Ra | apply Rn | apply Rd)); exact Kd.R_mono HO129.out (fun _ hk => trivial)⟩, ⟨by (try simp only [hl5_1]); (with_reducible repeat (first | apply Ra | apply Rn | apply Rd)); exact HO_5.out⟩, ⟨by repeat (first | exact HB.out | apply Ba | apply Bn | apply Bd)⟩⟩
        case round =>
         clear H'
         try clear c1
         try clear p1
         try clear q1
         try clear hx1
         try clear qi1
         try clear c2
         try clear p2
         try clear q2
         try clear hx2
         try clear hf2
         try clear c3
         try clear c3b0
         try clear c3b1
         try clear q3
         try clear c4
         try clear c4b0
         try clear c4b1
         try clear c5
         try clear c5b0
         try clear c6
         try clear c6b0
         try clear p6
         try clear p7
         try clear q7
         try clear hx7
         try clear hf7
         try clear c11
         try clear p11
         try clear q11
         try clear hx11
         try clear qi11
         try clear c14
         try clear c14b0
         try clear c14b1
         try clear c15
         try clear c15b0
         try clear c15b1
         try clear c16
         try clear c16b0
         try clear c17
         try clear c17b0
         try clear c19
         try clear c19b0
         try clear c20
         try clear c20b0
         try clear c21
         try clear c21b0
         try clear c22
         try clear c22b0
         try clear c23
         try clear c23b0
         try clear q24
         try clear c25
         try clear p26
         try clear q26
         try clear hx26
         try clear hf26
         try clear c27
         try clear c31
         try clear c31b0
         try clear c31b1
         try clear c33
         try clear q33
         try clear hx116_0
         try clear hx117_0
         try clear hx118_0
         try clear hx119_0
         try clear hx26_0
         try clear hx7_0
         try clear p1
         try clear p11
         try clear p116
         try clear p117
         try clear p118
         try clear p119
         try clear p2
         try clear p26
         try clear p7
         try clear q1
         try clear q11
         try clear q116
         try clear q117
         try clear q118
         try clear q119
         try clear q26
         try clear q33
         try clear q7
         obtain ⟨x9_2, x52_2, rfl, HA, HK2, HO_9, HO_50, HB⟩ := hrel
         cases gk with
         | zero => exact absurd HA.out (by simp [impl_reached.l2])
         | succ k2 =>
          have H := HA.out
          clear HA
          simp only [impl_reached.l2] at H
          by_cases c37 : x52_2 < (x5_1.length : Int)
          ·rw [if_pos c37] at H
           have c37b0 : decide (x52_2 < (x5_1.length : Int)) = true := decide_eq_true c37
           clear c37
           by_cases c38 : 0 ≤ x52_2
           ·rw [if_pos c38] at H
            have c38b0 : decide (0 ≤ x52_2) = true := decide_eq_true c38
            clear c38
            by_cases c39 : x52_2 < (x5_1.length : Int)
            ·rw [if_pos c39] at H
             have c39b0 : decide (x52_2 < (x5_1.length : Int)) = true := decide_eq_true c39
             clear c39
             obtain ⟨bq40, hbq40⟩ : ∃ b_ : Bool, b_ = (rdOf false x5_1 x52_2) := ⟨_, rfl⟩
             replace H : (if bq40 = true then (if x9_2.length < 17592186044416 then (impl_reached.l2 k2 (x9_2 ++ [x52_2]) x5_1 (x5_1.length : Int) (wrap64 (x52_2 + 1))) else (none)) else (impl_reached.l2 k2 x9_2 x5_1 (x5_1.length : Int) (wrap64 (x52_2 + 1)))) = some r := by rw [← hbq40] at H; exact H
             have Nbq40 := Am hbq40
             clear hbq40
             by_cases c41 : bq40 = true
             ·subst c41
              have H1 : (if x9_2.length < 17592186044416 then (impl_reached.l2 k2 (x9_2 ++ [x52_2]) x5_1 (x5_1.length : Int) (wrap64 (x52_2 + 1))) else (none)) = some r := by rw [if_pos rfl] at H; exact H
              clear H
              have H := H1
              clear H1
              by_cases c42 : x9_2.length < 17592186044416
              ·rw [if_pos c42] at H
               have LMc42 := Am c42
               clear c42
               obtain ⟨y131, hy131⟩ : ∃ y_ : List Int, y_ = (x9_2 ++ [x52_2]) := ⟨_, rfl⟩
               replace H : (impl_reached.l2 k2 y131 x5_1 (x5_1.length : Int) (wrap64 (x52_2 + 1))) = some r := by first | (rw [hy131]; with_reducible exact H) | (have H2_ := (Option.bind_some _ _).symm.trans H; rw [hy131]; with_reducible exact H2_) | (have H2_ := (Option.bind_some _ _).symm.trans H; with_reducible exact H2_) | with_reducible exact H | (rw [hy131]; exact H) | exact H
               have Ny131 := Am hy131
               clear hy131
               have H' := Am H
               clear H
               have p130 : 0 ≤ (x52_2 : Int) := of_decide_eq_true (by assumption)
               have q130 : x52_2 < (x5_1.length : Int) := of_decide_eq_true (by assumption)
               obtain ⟨ad130, e130, hx130_0⟩ := Kd.at_bool (Kd.R_reads' HO_50.out).2.2 x52_2 p130 q130
               (try rw [← Nbq40.out] at hx130_0)
               obtain rfl : (⟨go7, 0, none⟩ : Addr) = ad130 := (by injection e130)
               (first | simp only [add_plain] at hx130_0 | simp only [add_at] at hx130_0 | simp only [Addr.add, Nat.zero_add] at hx130_0 | skip)
               replace p130 := eq_true p130
               replace q130 := eq_true q130
               go_wp2_with (first | ((with_reducible refine gate_builtin (b := .append) (xs := #[.tmp 58, .tmp 60]) rfl ?_); at_builtin; refine Kd.R_append (Kd.int .i64) (w0 := w) w.heap.size rfl (.tmp 58) (.tmp 60) 23 3 (.int .i64 0) 8 rfl Try.underlying23 info3 rfl (by decide) (by omega) u9 x9_2 x52_2 [.int .i64 x52_2] (fun _ => True) (fun _ => False) rfl rfl ?aP (fun _ hk => hk.elim) ?aF ?aO ?aB ?aS ?aL ?_; (case aP => exact rfl); (case aB => exact (by repeat (first | exact HB.out | apply Ba | apply Bn | apply Bd))); (case aF => exact (fun _ _ => trivial)); (case aO => exact (by (with_reducible repeat (first | apply Ra | apply Rn | apply Rd)); exact HO_9.out)); (case aS => exact (Bz (by repeat (first | exact HB.out | apply Ba | apply Bn | apply Bd)))); (case aL => have := LMc42.out; omega); intro v132 w43 ho hb hg hat; rw [← Ny131.out] at ho; have n0_ := Am (Kd.R_over' (by (with_reducible repeat (first | apply Ra | apply Rn | apply Rd)); exact HO_50.out) (Kd.R_typed (by (with_reducible repeat (first | apply Ra | apply Rn | apply Rd)); exact HO_9.out)) (by decide) hg); have n1_ := Am (hb); have n2_ := Am (ho); clear HO_50; clear HB; clear HO_9; have HO_50 := n0_; have HB := n1_; have HO133 := n2_; clear n0_ n1_ n2_; clear ho hb hg hat))
               go_roundg k2
               case measure => have := HK1.out; have := HK2.out; omega
               case rel => exact ⟨(y131), (wrap64 (x52_2 + 1)), (by first | rfl | (simp; done) | (simp [*]; done)), H', ⟨by have := HK1.out; have := HK2.out; omega⟩, ⟨by (try simp only [hl5_1]); (with_reducible repeat (first | apply Ra | apply Rn | apply Rd)); exact HO133.out⟩, ⟨by (try simp only [hl5_1]); (with_reducible repeat (first | apply Ra | apply Rn | apply Rd)); exact HO_50.out⟩, ⟨by repeat (first | exact HB.out | apply Ba | apply Bn | apply Bd)⟩⟩
              ·rw [if_neg c42] at H
               exact absurd H (by simp)
             ·replace c41 := Bool.eq_false_iff.mpr c41
              subst c41
              have H1 : (impl_reached.l2 k2 x9_2 x5_1 (x5_1.length : Int) (wrap64 (x52_2 + 1))) = some r := by rw [if_neg (show ¬ (false = true) by decide)] at H; exact H
              clear H
              have H := H1
              clear H1
              have H' := Am H
              clear H
              have p130 : 0 ≤ (x52_2 : Int) := of_decide_eq_true (by assumption)
              have q130 : x52_2 < (x5_1.length : Int) := of_decide_eq_true (by assumption)
              obtain ⟨ad130, e130, hx130_0⟩ := Kd.at_bool (Kd.R_reads' HO_50.out).2.2 x52_2 p130 q130
              (try rw [← Nbq40.out] at hx130_0)
              obtain rfl : (⟨go7, 0, none⟩ : Addr) = ad130 := (by injection e130)
              (first | simp only [add_plain] at hx130_0 | simp only [add_at] at hx130_0 | simp only [Addr.add, Nat.zero_add] at hx130_0 | skip)
              replace p130 := eq_true p130
              replace q130 := eq_true q130
              go_wp2
              go_roundg k2
              case measure => have := HK1.out; have := HK2.out; omega
              case rel => exact ⟨(x9_2), (wrap64 (x52_2 + 1)), (by first | rfl | (simp; done) | (simp [*]; done)), H', ⟨by have := HK1.out; have := HK2.out; omega⟩, ⟨by (try simp only [hl5_1]); (with_reducible repeat (first | apply Ra | apply Rn | apply Rd)); exact HO_9.out⟩, ⟨by (try simp only [hl5_1]); (with_reducible repeat (first | apply Ra | apply Rn | apply Rd)); exact HO_50.out⟩, ⟨by repeat (first | exact HB.out | apply Ba | apply Bn | apply Bd)⟩⟩
            ·rw [if_neg c39] at H
             exact absurd H (by simp)
           ·rw [if_neg c38] at H
            exact absurd H (by simp)
          ·rw [if_neg c37] at H
           have c37b0 : decide (x52_2 < (x5_1.length : Int)) = false := decide_eq_false c37
           clear c37
           obtain rfl := Option.some.inj H
           go_wp2
           go_ret
           exact ⟨_, by first | rfl | (simp [*, errW_none, errW_some] <;> rfl), by (with_reducible repeat (first | apply Ra | apply Rn | apply Rd)); exact HO_9.out, by repeat (first | exact HB.out | apply Ba | apply Bn | apply Bd)⟩
    ·rw [if_neg c6] at H
     exact absurd H (by simp)
   ·rw [if_neg c5] at H
    exact absurd H (by simp)
  ·rw [if_neg c4] at H
   exact absurd H (by simp)
 ·rw [if_neg c3] at H
  exact absurd H (by simp)
def impl_ReachedFrom.f (k : Nat) (l0 : List (List Int)) (a1 : Int) : Option (List Int × Bool) := (impl_GoodGraph.f l0).bind fun t134 => (if t134 = true then ((impl_within.f a1 0 (wrap64 ((l0.length : Int) - 1))).bind fun t135 => (if t135 = true then ((impl_reached.f k l0 a1).bind fun t136 => (some (t136, true))) else (some (([] : List Int), false)))) else (some (([] : List Int), false)))
theorem impl_ReachedFrom.mono : ∀ a0 a1 k, LeO (impl_ReachedFrom.f k a0 a1) (impl_ReachedFrom.f (k + 1) a0 a1) := by
 intro a0 a1 k
 unfold impl_ReachedFrom.f
 repeat' first
   | (with_reducible exact impl_reached.mono _ _ _)
   | (with_reducible exact LeO.refl _)
   | (with_reducible exact LeO.none _)
   | (with_reducible refine LeO.ite ?_ ?_)
   | (with_reducible refine LeO.bind ?_ (fun _ => ?_))
   | exact impl_reached.mono _ _ _
   | exact LeO.none _
   | refine LeO.ite ?_ ?_
   | refine LeO.bind ?_ (fun _ => ?_)
set_option maxHeartbeats 8000000 in
set_option maxRecDepth 100000 in
theorem impl_ReachedFrom.calls (k : Nat) (A0 : Option Addr) (c0 : Nat) (l0 : List (List Int)) (a1 : Int) (r1 : List Int) (r2 : Bool) (w : World) (hr0 : Kd.C (Kd.slice 3 (Kd.int .i64)) w A0 l0.length l0) (hc0 : l0.length ≤ c0) (h : impl_ReachedFrom.f k l0 a1 = some (r1, r2)) :
  Calls Try.prog 21 #[.slice A0 l0.length c0, .int .i64 a1] w fun e w' => ∃ v0_ : Value, e = .returned (.tuple #[v0_, .bool r2]) ∧ Kd.R (Kd.int .i64) 3 w' w.heap.size (fun _ => True) v0_ r1 ∧ Below w.heap.size w w' := by
 have HR0 := Am hr0
 have HC0 := Am hc0
 clear hr0 hc0
 have HB := Am (Below.refl w.heap.size w)
 have H : ((impl_GoodGraph.f l0).bind fun t134 => (if t134 = true then ((impl_within.f a1 0 (wrap64 ((l0.length : Int) - 1))).bind fun t135 => (if t135 = true then ((impl_reached.f k l0 a1).bind fun t136 => (some (t136, true))) else (some (([] : List Int), false)))) else (some (([] : List Int), false)))) = some (r1, r2) := h
 clear h
 replace H := Option.bind_eq_some_iff.mp H
 obtain ⟨t134, A30, H⟩ := H
 replace H : (if t134 = true then ((impl_within.f a1 0 (wrap64 ((l0.length : Int) - 1))).bind fun t135 => (if t135 = true then ((impl_reached.f k l0 a1).bind fun t136 => (some (t136, true))) else (some (([] : List Int), false)))) else (some (([] : List Int), false))) = some (r1, r2) := H
 have A3 := Am A30
 clear A30
 by_cases c4 : t134 = true
 ·subst c4
  have H1 : ((impl_within.f a1 0 (wrap64 ((l0.length : Int) - 1))).bind fun t135 => (if t135 = true then ((impl_reached.f k l0 a1).bind fun t136 => (some (t136, true))) else (some (([] : List Int), false)))) = some (r1, r2) := by rw [if_pos rfl] at H; exact H
  clear H
  have H := H1
  clear H1
  replace H := Option.bind_eq_some_iff.mp H
  obtain ⟨t135, A50, H⟩ := H
  replace H : (if t135 = true then ((impl_reached.f k l0 a1).bind fun t136 => (some (t136, true))) else (some (([] : List Int), false))) = some (r1, r2) := H
  have A5 := Am A50
  clear A50
  by_cases c6 : t135 = true
  ·subst c6
   have H1 : ((impl_reached.f k l0 a1).bind fun t136 => (some (t136, true))) = some (r1, r2) := by rw [if_pos rfl] at H; exact H
   clear H
   have H := H1
   clear H1
   replace H := Option.bind_eq_some_iff.mp H
   obtain ⟨t136, A70, H⟩ := H
   replace H : (some (t136, true)) = some (r1, r2) := H
   have A7 := Am A70
   clear A70
   simp only [Option.some.injEq, Prod.mk.injEq] at H
   obtain ⟨rfl, rfl⟩ := H
   go_enter Try.func21, Try.ntmps21
   go_wp2_with (first | ((refine Gc (f := 28) rfl ?_); refine goesL_ (some 7) rfl rfl Try.func28 (by kernel_rfl) rfl #[.slice A0 l0.length c0] rfl (by first | rfl | (simp only [List.map_toArray, List.map_cons, List.map_nil]; first | done | rfl)) ?_; (with_reducible refine (impl_GoodGraph.calls _ _ l0 true _ ?side1 ?side2 A3.out).mono ?_); (case side1 => repeat (first | exact HR0.out | (with_reducible refine Kd.C_alloc ?_ _) | (with_reducible refine Kd.C_drewN ?_ _) | (with_reducible refine Kd.C_drew ?_))); (case side2 => exact HC0.out); rintro e w8 ⟨rfl, hb⟩; refine ⟨_, rfl, ?_⟩; have n0_ := Am (Bt (by repeat (first | exact HB.out | apply Ba | apply Bn | apply Bd)) hb); clear HB; have HB := n0_; clear n0_; (try clear hb); (try clear hb2); (try clear hk); (try clear hi)) | (go_at_call 68; (with_reducible refine (impl_within.calls a1 0 (wrap64 ((l0.length : Int) - 1)) true _ A5.out).mono ?_); rintro e w' ⟨rfl, ⟨nd, rfl⟩⟩) | ((refine Gc (f := 58) rfl ?_); refine goesL_ (some 19) rfl rfl Try.func58 (by kernel_rfl) rfl #[.slice A0 l0.length c0, .int .i64 a1] rfl (by first | rfl | (simp only [List.map_toArray, List.map_cons, List.map_nil]; first | done | rfl)) ?_; (with_reducible refine (impl_reached.calls k _ _ l0 a1 t136 _ ?side1 ?side2 A7.out).mono ?_); (case side1 => repeat (first | exact (Kd.C_below HR0.out (by repeat (first | exact HB.out | apply Ba | apply Bn | apply Bd))) | (with_reducible refine Kd.C_alloc ?_ _) | (with_reducible refine Kd.C_drewN ?_ _) | (with_reducible refine Kd.C_drew ?_))); (case side2 => exact HC0.out); rintro e w9 ⟨v137, rfl, ho0, hb⟩; refine ⟨_, rfl, ?_⟩; have n0_ := Am (Kd.R_lower ho0 (Bz (by repeat (first | exact HB.out | apply Ba | apply Bn | apply Bd)))); have n1_ := Am (Bt (by repeat (first | exact HB.out | apply Ba | apply Bn | apply Bd)) hb); clear HB; have HO138 := n0_; have HB := n1_; clear n0_ n1_; (try clear hb); (try clear hb2); (try clear hk); (try clear hi); (try clear ho0)))
   go_ret2
   exact ⟨_, by first | rfl | (simp [*, errW_none, errW_some] <;> rfl), by (with_reducible repeat (first | apply Ra | apply Rn | apply Rd)); exact HO138.out, by repeat (first | exact HB.out | apply Ba | apply Bn | apply Bd)⟩
  ·replace c6 := Bool.eq_false_iff.mpr c6
   subst c6
   have H1 : (some (([] : List Int), false)) = some (r1, r2) := by rw [if_neg (show ¬ (false = true) by decide)] at H; exact H
   clear H
   have H := H1
   clear H1
   simp only [Option.some.injEq, Prod.mk.injEq] at H
   obtain ⟨rfl, rfl⟩ := H
   go_enter Try.func21, Try.ntmps21
   go_wp2_with (first | ((refine Gc (f := 28) rfl ?_); refine goesL_ (some 7) rfl rfl Try.func28 (by kernel_rfl) rfl #[.slice A0 l0.length c0] rfl (by first | rfl | (simp only [List.map_toArray, List.map_cons, List.map_nil]; first | done | rfl)) ?_; (with_reducible refine (impl_GoodGraph.calls _ _ l0 true _ ?side1 ?side2 A3.out).mono ?_); (case side1 => repeat (first | exact HR0.out | (with_reducible refine Kd.C_alloc ?_ _) | (with_reducible refine Kd.C_drewN ?_ _) | (with_reducible refine Kd.C_drew ?_))); (case side2 => exact HC0.out); rintro e w10 ⟨rfl, hb⟩; refine ⟨_, rfl, ?_⟩; have n0_ := Am (Bt (by repeat (first | exact HB.out | apply Ba | apply Bn | apply Bd)) hb); clear HB; have HB := n0_; clear n0_; (try clear hb); (try clear hb2); (try clear hk); (try clear hi)) | (go_at_call 68; (with_reducible refine (impl_within.calls a1 0 (wrap64 ((l0.length : Int) - 1)) false _ A5.out).mono ?_); rintro e w' ⟨rfl, ⟨nd, rfl⟩⟩))
   go_ret2
   exact ⟨_, by first | rfl | (simp [*, errW_none, errW_some] <;> rfl), by first | exact Kd.R_nil _ _ _ _ _ | exact Kd.N_nil _ _ _ _ _ | exact Kd.V_nil _ _ _ _ _ | exact Kd.Q_nil _ _ _ _ _ | exact Kd.S_nil _ _ _ _ _, by repeat (first | exact HB.out | apply Ba | apply Bn | apply Bd)⟩
 ·replace c4 := Bool.eq_false_iff.mpr c4
  subst c4
  have H1 : (some (([] : List Int), false)) = some (r1, r2) := by rw [if_neg (show ¬ (false = true) by decide)] at H; exact H
  clear H
  have H := H1
  clear H1
  simp only [Option.some.injEq, Prod.mk.injEq] at H
  obtain ⟨rfl, rfl⟩ := H
  go_enter Try.func21, Try.ntmps21
  go_wp2_with (first | ((refine Gc (f := 28) rfl ?_); refine goesL_ (some 7) rfl rfl Try.func28 (by kernel_rfl) rfl #[.slice A0 l0.length c0] rfl (by first | rfl | (simp only [List.map_toArray, List.map_cons, List.map_nil]; first | done | rfl)) ?_; (with_reducible refine (impl_GoodGraph.calls _ _ l0 false _ ?side1 ?side2 A3.out).mono ?_); (case side1 => repeat (first | exact HR0.out | (with_reducible refine Kd.C_alloc ?_ _) | (with_reducible refine Kd.C_drewN ?_ _) | (with_reducible refine Kd.C_drew ?_))); (case side2 => exact HC0.out); rintro e w11 ⟨rfl, hb⟩; refine ⟨_, rfl, ?_⟩; have n0_ := Am (Bt (by repeat (first | exact HB.out | apply Ba | apply Bn | apply Bd)) hb); clear HB; have HB := n0_; clear n0_; (try clear hb); (try clear hb2); (try clear hk); (try clear hi)))
  go_ret2
  exact ⟨_, by first | rfl | (simp [*, errW_none, errW_some] <;> rfl), by first | exact Kd.R_nil _ _ _ _ _ | exact Kd.N_nil _ _ _ _ _ | exact Kd.V_nil _ _ _ _ _ | exact Kd.Q_nil _ _ _ _ _ | exact Kd.S_nil _ _ _ _ _, by repeat (first | exact HB.out | apply Ba | apply Bn | apply Bd)⟩
theorem slices_DeleteFunc_int_int.clear {e base : Nat} {P : Nat → Prop} {gb n cap : Nat} {w0 : World} (hg : w0.heap.size ≤ gb) : ∀ (m o : Nat) (w : World) (l : List Int), Kd.R (Kd.int .i64) e w base P (.slice (some ⟨gb, 0, none⟩) n cap) l → Below w0.heap.size w0 w →
  ∃ l' : List Int, l'.length = l.length ∧ l'.take o = l.take o ∧ Kd.R (Kd.int .i64) e (w.setCells gb o (List.replicate m (.int .i64 0))) base P (.slice (some ⟨gb, 0, none⟩) n cap) l' ∧ Below w0.heap.size w0 (w.setCells gb o (List.replicate m (.int .i64 0)))
 | 0, o, w, l, h, hb => ⟨l, rfl, rfl, h, hb⟩
 | m + 1, o, w, l, h, hb => by
  have h1 := Kd.R_putn (enc := Value.int .i64) (h1 := fun _ => rfl) h (o : Int) 0
  simp only [Int.toNat_natCast] at h1
  obtain ⟨l', hl, ht, hR, hB⟩ := slices_DeleteFunc_int_int.clear hg m (o + 1) (w.setCell ⟨gb, o, none⟩ (.int .i64 0)) (l.set o 0) h1 (Bs hb hg)
  refine ⟨l', by rw [hl, List.length_set], ?_, hR, hB⟩
  have := congrArg (List.take o) ht
  rw [List.take_take, List.take_take, Nat.min_eq_left (by omega)] at this
  rw [this, List.take_set_of_le (Nat.le_refl _)]
set_option maxHeartbeats 4000000 in
set_option maxRecDepth 100000 in
theorem slices_DeleteFunc_int_int.del (g : Nat) (lb : Array Value) (p : Int → Option Bool) (P : Nat → Prop) (v : Value) (xs r : List Int) (w0 w : World)
  (eg : ∀ args w, (callFunc g args).run Try.prog w = .ok (.enter g args) w) (hB : Below w0.heap.size w0 w)
  (ho : Kd.R (Kd.int .i64) 3 w w0.heap.size P v xs)
  (hp : ∀ (W : World) (x : Int), x ∈ xs → Below w0.heap.size w0 W → ∀ b : Bool, p x = some b → Calls Try.prog g (#[.int .i64 x] ++ lb) W fun e w' => e = .returned (.bool b) ∧ Below W.heap.size W w')
  (h : Mine.delO p xs = some r) :
  Calls Try.prog 69 #[v, .func (.func g) #[] lb] w fun e w' => ∃ v0_ : Value, e = .returned v0_ ∧ Kd.R (Kd.int .i64) 3 w' w0.heap.size P v0_ r ∧ Below w0.heap.size w0 w' := by
 obtain ⟨A0, c0, rfl⟩ := Kd.R_slice ho
 obtain ⟨i, hi, hcase⟩ := Mine.delO_idx p xs r 0 (Int.le_refl 0) h
 have hmax : xs.length ≤ 9223372036854775807 := (Kd.R_reads' ho).2.2.2.1
 have HO := Am ho
 have HB := Am hB
 have HP := Am hp
 have HC := Am hcase
 have HI := Am hi
 clear ho hB hp hcase hi h
 go_enter Try.func69, Try.ntmps69
 go_wp2_with fail
 refine (slices_IndexFunc_int_int_119.anyO g lb p A0 c0 xs w i eg (Kd.R_reads' HO.out).2.2 (Kd.R_reads' HO.out).2.1 (fun W x hx bW b hb => HP.out W x hx (below_then HB.out HB.out.size bW) b hb) HI.out).mono ?_
 rintro e w1 ⟨rfl, hb1⟩
 have n0_ := Am (Kd.R_below HO.out hb1)
 have n1_ := Am (below_then HB.out HB.out.size hb1)
 clear HO HB HI hb1
 have HO := n0_
 have HB := n1_
 clear n0_ n1_
 rcases HC.out with ⟨rfl, rfl⟩ | ⟨m, rfl, hm, rest, hr1, rfl⟩
 ·clear HC HP
  go_wp2
  go_ret
  exact ⟨_, rfl, HO.out, HB.out⟩
 ·clear HC
  obtain ⟨gb, cap, hv, hbg, hgl, _⟩ := Kd.R_form HO.out (by omega)
  injection hv with hv1 hv2 hv3
  subst hv1
  subst hv3
  clear hv2 hgl
  have HG := Am hbg
  clear hbg
  have hcap : xs.length ≤ c0 := (Kd.R_reads' HO.out).2.1
  have HS := Am (show Mine.delO p (xs.drop (m + 1)) = some rest from hr1)
  clear hr1
  have hz : (0 : Int) + (m : Int) = (m : Int) := by omega
  simp only [hz]
  clear hz
  have hne : ((m : Int) == -1) = false := by rw [beq_eq_false_iff_ne]; omega
  have hw : IntKind.i64.wrap ((m : Int) + 1) = ((m + 1 : Nat) : Int) := by rw [IntWalk.i64_in _ (by omega)]; omega
  go_wp2
  clear hw hne
  go_loopg [5, 6] xs.length (fun gg s5 s6 wr => ∃ (kk jj : Nat) (acc rs : List Int), kk < jj ∧ jj ≤ xs.length ∧ xs.length - jj ≤ gg ∧ s5 = .int .i64 kk ∧ s6 = .int .i64 jj ∧ Ad (acc.length = xs.length) ∧ Ad (acc.drop jj = xs.drop jj) ∧ Ad (Mine.delO p (xs.drop jj) = some rs) ∧ Ad (xs.take m ++ rest = acc.take kk ++ rs) ∧ Ad (Kd.R (Kd.int .i64) 3 wr w0.heap.size P (.slice (some ⟨gb, 0, none⟩) xs.length c0) acc) ∧ Ad (Below w0.heap.size w0 wr))
  case atStart => exact ⟨m, m + 1, xs, rest, by omega, by omega, by omega, rfl, (by first | rfl | go_num), ⟨rfl⟩, ⟨rfl⟩, HS, ⟨rfl⟩, HO, HB⟩
  case round =>
   obtain ⟨kk, jj, acc, rs, hkj, hjn, hg, rfl, rfl, HL, HD, HS, HR, HO, HB⟩ := hrel
   by_cases hlt : jj < xs.length
   ·have hltz : (jj : Int) < (xs.length : Int) := by omega
    have hxe : Ad (acc.getD jj 0 = xs.getD jj 0) := ⟨by
     have h1 := HD.out
     rw [Mine.drop_at acc 0 jj (by rw [HL.out]; exact hlt), Mine.drop_at xs 0 jj hlt] at h1
     exact (List.cons.inj h1).1⟩
    have hde : Ad (acc.drop (jj + 1) = xs.drop (jj + 1)) := ⟨by
     have h1 := HD.out
     rw [Mine.drop_at acc 0 jj (by rw [HL.out]; exact hlt), Mine.drop_at xs 0 jj hlt] at h1
     exact (List.cons.inj h1).2⟩
    obtain ⟨ad, had, hx⟩ := Kd.at_int (Kd.R_reads' HO.out).2.2 (jj : Int) (by omega) (by rw [HL.out]; exact hltz)
    injection had with had
    subst had
    rw [add_plain, rd, Int.toNat_natCast, hxe.out] at hx
    have PS : Ad ((p (xs.getD jj 0)).bind (fun b => (Mine.delO p (xs.drop (jj + 1))).bind fun r => some (if b = true then r else xs.getD jj 0 :: r)) = some rs) := ⟨by have h1 := HS.out; rw [Mine.drop_at xs 0 jj hlt] at h1; exact h1⟩
    have hcall := HP.out wr (xs.getD jj 0) (Mine.getD_mem xs 0 jj hlt) HB.out
    clear HS HD hxe
    generalize xs.getD jj 0 = y at hx hcall PS
    cases hq : p y with
    | none => exact absurd PS.out (by rw [hq]; simp)
    | some b =>
     cases hd : Mine.delO p (xs.drop (jj + 1)) with
     | none => exact absurd PS.out (by rw [hq, hd]; simp)
     | some rs' =>
     have HS' := Am hd
     have hcall := hcall b hq
     have PG : Ad ((if b = true then rs' else y :: rs') = rs) := ⟨by have h1 := PS.out; rw [hq, hd] at h1; simpa using h1⟩
     clear PS hq hd
     have hwj : IntKind.i64.wrap ((jj : Int) + 1) = ((jj + 1 : Nat) : Int) := by rw [IntWalk.i64_in _ (by omega)]; omega
     have hwk : IntKind.i64.wrap ((kk : Int) + 1) = ((kk + 1 : Nat) : Int) := by rw [IntWalk.i64_in _ (by omega)]; omega
     have HWJ := Am hwj
     have HWK := Am hwk
     clear hwj hwk
     cases b with
     | true =>
      go_wp2_with fail
      refine hcall.mono ?_; rintro e w' ⟨rfl, hb'⟩
      have HO' := Am (Kd.R_below HO.out hb')
      have HB' := Am (below_then HB.out HB.out.size hb')
      clear hx hcall hb'
      go_wp2
      go_roundg (xs.length - (jj + 1))
      case measure => omega
      case rel => exact ⟨kk, jj + 1, acc, rs', by omega, by omega, by omega, rfl, by go_num, HL, hde, HS', ⟨HR.out.trans (by rw [show rs' = rs by simpa using PG.out])⟩, HO', HB'⟩
     | false =>
      go_wp2_with fail
      refine hcall.mono ?_; rintro e w' ⟨rfl, hb'⟩
      have HO' := Am (Kd.R_below HO.out hb')
      have HB' := Am (below_then HB.out HB.out.size hb')
      clear hx hcall hb'
      obtain ⟨c, hcl, hM, hcc, hfr⟩ := Kd.R_elem HO'.out 0 (kk : Int) (by omega) (by omega)
      have hM : c = [.int .i64 (acc.getD kk 0)] := by have h1 := hM; rw [Int.toNat_natCast] at h1; exact h1
      subst hM
      have hck := hcc 0 _ rfl
      have hfk := hfr 0
      have hck : w'.cell? (⟨gb, kk, none⟩ : Addr) = some (.int .i64 (acc.getD kk 0)) := by simpa [Kd.int, Kd.scalar] using hck
      have hfk : w'.frozen? (⟨gb, kk, none⟩ : Addr) = false := by simpa [Kd.int, Kd.scalar] using hfk
      clear hcl hcc hfr
      have hki : (kk : Int) < (xs.length : Int) := by omega
      generalize acc.getD kk 0 = y0 at hck
      go_wp2
      go_roundg (xs.length - (jj + 1))
      case measure => omega
      case rel =>
       refine ⟨kk + 1, jj + 1, acc.set kk y, rs', by omega, by omega, by omega, by go_num, by go_num, ⟨by rw [List.length_set]; exact HL.out⟩, ⟨by rw [List.drop_set_of_lt (by omega)]; exact hde.out⟩, HS', ⟨?_⟩, ⟨?_⟩, ⟨Bs HB'.out HG.out⟩⟩
       ·have h1 := HR.out
        have h2 : y :: rs' = rs := by simpa using PG.out
        rw [h1, ← h2, List.take_add_one, List.take_set_of_le (Nat.le_refl _)]
        have : (acc.set kk y)[kk]? = some y := List.getElem?_set_self (by rw [HL.out]; omega)
        rw [this]
        simp
       ·have h1 := Kd.R_putn (enc := Value.int .i64) (h1 := fun _ => rfl) HO'.out (kk : Int) y
        rw [Int.toNat_natCast] at h1
        exact h1
   ·obtain rfl : jj = xs.length := by omega
    have PR : Ad (xs.take m ++ rest = acc.take kk) := ⟨by
     have h1 := HS.out
     rw [List.drop_eq_nil_of_le (Nat.le_refl _)] at h1
     have h2 : ([] : List Int) = rs := Option.some.inj h1
     rw [HR.out, ← h2, List.append_nil]⟩
    have hltz : ¬ (xs.length : Int) < (xs.length : Int) := by omega
    have hcell : ∀ j, j < xs.length - kk → (wr.cell? (⟨gb, kk + j, none⟩ : Addr)).isSome = true := fun j hj => by
     obtain ⟨ad, had, hx⟩ := Kd.at_int (Kd.R_reads' HO.out).2.2 ((kk + j : Nat) : Int) (by omega) (by rw [HL.out]; omega)
     injection had with had
     subst had
     rw [add_plain, Int.toNat_natCast] at hx
     rw [hx]; rfl
    have hfro : ∀ j, j < xs.length - kk → wr.frozen? (⟨gb, kk + j, none⟩ : Addr) = false := fun j hj => by
     obtain ⟨_, _, _, _, hfr⟩ := Kd.R_elem HO.out 0 ((kk + j : Nat) : Int) (by omega) (by omega)
     have h1 := hfr 0
     rw [Int.toNat_natCast] at h1
     simpa [Kd.int, Kd.scalar] using h1
    have hcl : ∀ ty, (Builtin.clear_ #[23] ty #[.slice (some ⟨gb, kk, none⟩) (xs.length - kk) (c0 - kk)]).run Try.prog wr = .ok (.tuple #[]) (wr.setCells gb kk (List.replicate (xs.length - kk) (.int .i64 0))) := fun ty => Lib.run_clear_slice wr 23 3 ty (.int .i64 0) Try.underlying23 (fun w => by rfl) rfl rfl gb kk (xs.length - kk) (c0 - kk) (by omega) hcell hfro
    clear hcell hfro
    have hkn : (kk : Int) ≤ (xs.length : Int) := by omega
    have hkc : ¬ c0 = kk := by omega
    have hk0 : (0 : Int) ≤ (kk : Int) := by omega
    obtain ⟨l', hl', ht', hR', hB'⟩ := slices_DeleteFunc_int_int.clear HG.out (xs.length - kk) kk wr acc HO.out HB.out
    have HR' := Am hR'
    have HB' := Am hB'
    have HT' := Am ht'
    have HL' := Am hl'
    clear hR' hB' ht' hl'
    go_wp2
    go_ret
    refine ⟨_, rfl, ?_, HB'.out⟩
    rw [PR.out, ← HT'.out]
    exact Kd.R_take HR'.out (by rw [HL'.out, HL.out]; omega)
end Go.Proofs.Ytpboalgecejoeaa.QFnComponents
