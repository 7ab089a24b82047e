-- Written by a program of this session (wip/mk.py) over the kit's print: Lean checks it.
import Derived.Test.YtacpjifbgnlppaaQFnExactAttrForx0
import Derived.Test.YtacpjifbgnlppaaQFnExactAttrForx6
import Derived.Test.YtacpjifbgnlppaaQFnExactAttrForx8
namespace Go.Proofs.Ytacpjifbgnlppaa.QFnExactAttrFor
open Go.Proofs.YtacpjifbgnlppaaW.PrintWords.Kd renaming R_alloc → Ra, R_drewN → Rn, R_drew → Rd
open Go.Proofs.YtacpjifbgnlppaaW.PrintWords renaming below_alloc → Ba, pw_below_drewN → Bn, below_drew1 → Bd, below_set → Bs, below_size → Bz, below_step → Bt, gate_dst → Gd, gate_callee → Gc, box_event → Be, blk_alloc → Ka, blk_drewN → Kn, blk_drew → Ke, blk_below → Kb, blk_cell → Kc, blk_far → Kf, blk_frozen → Kz
open Go.World renaming block_lt_of_cell? → bl_
open Go.Proofs.YtacpjifbgnlppaaW.PrintWords.Aside0 renaming mk → Am
open Go.Proofs.YtacpjifbgnlppaaW.PrintWords renaming Aside0 → Ad
open Go.RowKit Go.Proofs.YtacpjifbgnlppaaW.PrintWords Go.Proofs.YtacpjifbgnlppaaW.PrintLast Go.Proofs.YtacpjifbgnlppaaW.PrintMore
attribute [local go_sem] max2_int min2_int max_two min_two max_three min_three max_four min_four   -- for this text's walks alone
set_option linter.unusedVariables false
set_option linter.unusedSimpArgs false
def spec_l1Put.l0 : Nat → List Int → Int → Int → Option (List Int)
 | 0, _, _, _ => none
 | k + 1, x0, x1, x5 => if x5 < (x0.length : Int) then (if 0 ≤ x5 then (if (rd x0 x5) < x1 then (spec_l1Put.l0 k x0 x1 (wrap64 (x5 + 1))) else (if (rd x0 x5) = x1 then (some x0) else ((some (([] : List Int) : List Int)).bind fun y238 => (if x5 ≤ (x0.length : Int) then ((some (x0.take (x5 : Int).toNat : List Int)).bind fun y241 => (if y238.length + y241.length < 17592186044416 then ((some (y238 ++ y241 : List Int)).bind fun y245 => (if y245.length < 17592186044416 then ((some (y245 ++ [x1] : List Int)).bind fun y248 => ((some (x0.drop (x5 : Int).toNat : List Int)).bind fun y251 => (if y248.length + y251.length < 17592186044416 then (some (y248 ++ y251)) else (none)))) else (none))) else (none))) else (none))))) else (none)) else ((some (([] : List Int) : List Int)).bind fun y258 => (if 0 ≤ x5 then (if x5 ≤ (x0.length : Int) then ((some (x0.take (x5 : Int).toNat : List Int)).bind fun y261 => (if y258.length + y261.length < 17592186044416 then ((some (y258 ++ y261 : List Int)).bind fun y265 => (if y265.length < 17592186044416 then ((some (y265 ++ [x1] : List Int)).bind fun y268 => ((some (x0.drop (x5 : Int).toNat : List Int)).bind fun y271 => (if y268.length + y271.length < 17592186044416 then (some (y268 ++ y271)) else (none)))) else (none))) else (none))) else (none)) else (none)))
def spec_l1Put.f (k : Nat) (l0 : List Int) (a1 : Int) : Option (List Int) := spec_l1Put.l0 k l0 a1 0
theorem spec_l1Put.mono_l : ∀ k, (∀ y0 y1 y2, LeO (spec_l1Put.l0 k y0 y1 y2) (spec_l1Put.l0 (k + 1) y0 y1 y2))
 | 0 => fun _ _ _ r h => by simp [spec_l1Put.l0] at h
 | k + 1 => by
  have ih0 := spec_l1Put.mono_l k
  ·intro y0 y1 y2
   unfold spec_l1Put.l0
   repeat' first
   | (with_reducible exact ih0 _ _ _)
   | (with_reducible exact LeO.refl _)
   | (with_reducible exact LeO.none _)
   | (with_reducible refine LeO.ite ?_ ?_)
   | (with_reducible refine LeO.bind ?_ (fun _ => ?_))
   | exact ih0 _ _ _
   | exact LeO.none _
   | refine LeO.ite ?_ ?_
   | refine LeO.bind ?_ (fun _ => ?_)
theorem spec_l1Put.mono : ∀ a0 a1 k, LeO (spec_l1Put.f k a0 a1) (spec_l1Put.f (k + 1) a0 a1) := by
 intro a0 a1 k
 have ih0 := spec_l1Put.mono_l k
 unfold spec_l1Put.f
 repeat' first
   | (with_reducible exact ih0 _ _ _)
   | (with_reducible exact LeO.refl _)
   | (with_reducible exact LeO.none _)
   | (with_reducible refine LeO.ite ?_ ?_)
   | (with_reducible refine LeO.bind ?_ (fun _ => ?_))
   | exact ih0 _ _ _
   | exact LeO.none _
   | refine LeO.ite ?_ ?_
   | refine LeO.bind ?_ (fun _ => ?_)
set_option maxHeartbeats 8000000 in
set_option maxRecDepth 100000 in
theorem spec_l1Put.calls (k : Nat) (P0_ : Nat → Prop) (u9000_ : Value) (l0 : List Int) (a1 : Int) (r : List Int) (w0 w : World) (hB : Below w0.heap.size w0 w) (ho0 : Kd.R (Kd.int .i64) 3 w w0.heap.size P0_ u9000_ l0) (h : spec_l1Put.f k l0 a1 = some r) :
  Calls Try.prog 128 #[u9000_, .int .i64 a1] w fun e w' => ∃ v0_ : Value, e = .returned (v0_) ∧ Kd.R (Kd.int .i64) 3 w' w0.heap.size (fun k_ => (P0_ k_ ∨ w.heap.size ≤ k_)) v0_ r ∧ Below w0.heap.size w0 w' ∧ Kept w w' (fun k_ => P0_ k_) := by
 have HO0 := Am (show Kd.R (Kd.int .i64) 3 w w0.heap.size (fun k_ => (P0_ k_ ∨ w.heap.size ≤ k_)) u9000_ l0 from Kd.R_mono ho0 (fun k_ hk => (.inl hk)))
 have HK := Am (Kept.refl w (fun k_ => P0_ k_))
 have HW0 := Am hB.size
 have HB := Am hB
 clear hB
 have H : (spec_l1Put.l0 k l0 a1 0) = some r := h
 clear h
 have H' := Am H
 clear H
 go_enter Try.func128, Try.ntmps128
 go_wp2
 go_loopg [5] k (fun kq v5 w' => ∃ (x5_1 : Int), v5 = .int .i64 x5_1 ∧ Ad (spec_l1Put.l0 kq l0 a1 x5_1 = some r) ∧ Ad (kq ≤ k) ∧ Ad (Kd.R (Kd.int .i64) 3 w' w0.heap.size (fun k_ => (P0_ k_ ∨ w.heap.size ≤ k_)) u9000_ l0) ∧ Ad (Kept w w' (fun k_ => P0_ k_)) ∧ Ad (Below w0.heap.size w0 w'))
 case atStart => exact ⟨(0), (by first | rfl | (simp; done) | (simp [*]; done)), H', ⟨Nat.le_refl _⟩, ⟨by (with_reducible repeat (first | apply Ra | apply Rn | apply Rd)); exact HO0.out⟩, ⟨by repeat (first | (with_reducible first | exact HK.out | apply Kept.alloc | apply Kept.drewN | apply Kept.drew) | exact HK.out)⟩, ⟨by repeat (first | exact HB.out | apply Ba | apply Bn | apply Bd)⟩⟩
 case round =>
  clear H'
  try clear c1
  try clear p2
  obtain ⟨x5_1, rfl, HA, HK1, HO_0, HK, HB⟩ := hrel
  cases gk with
  | zero => exact absurd HA.out (by simp [spec_l1Put.l0])
  | succ k1 =>
   have H := HA.out
   clear HA
   simp only [spec_l1Put.l0] at H
   by_cases c3 : x5_1 < (l0.length : Int)
   ·rw [if_pos c3] at H
    have c3b0 : decide (x5_1 < (l0.length : Int)) = true := decide_eq_true c3
    clear c3
    by_cases c4 : 0 ≤ x5_1
    ·rw [if_pos c4] at H
     have c4b0 : decide (0 ≤ x5_1) = true := decide_eq_true c4
     clear c4
     by_cases c5 : (rd l0 x5_1) < a1
     ·rw [if_pos c5] at H
      have c5b0 : decide ((rd l0 x5_1) < a1) = true := decide_eq_true c5
      clear c5
      have H' := Am H
      clear H
      obtain ⟨Ao6, co6, eo6⟩ := Kd.R_slice HO_0.out
      subst eo6
      have p236 : 0 ≤ (x5_1 : Int) := of_decide_eq_true (by assumption)
      have q236 : x5_1 < (l0.length : Int) := of_decide_eq_true (by assumption)
      obtain ⟨ad236, e236, hx236_0⟩ := Kd.at_int (Kd.R_reads' HO_0.out).2.2 x5_1 p236 q236
      cases e236
      replace p236 := eq_true p236
      replace q236 := eq_true q236
      go_wp2
      go_roundg k1
      case measure => have := HK1.out; omega
      case rel => exact ⟨(wrap64 (x5_1 + 1)), (by first | rfl | (simp; done) | (simp [*]; done)), H', ⟨by have := HK1.out; omega⟩, ⟨by (with_reducible repeat (first | apply Ra | apply Rn | apply Rd)); exact HO_0.out⟩, ⟨by repeat (first | (with_reducible first | exact HK.out | apply Kept.alloc | apply Kept.drewN | apply Kept.drew) | exact HK.out)⟩, ⟨by repeat (first | exact HB.out | apply Ba | apply Bn | apply Bd)⟩⟩
     ·rw [if_neg c5] at H
      have c5b0 : decide ((rd l0 x5_1) < a1) = false := decide_eq_false c5
      clear c5
      by_cases c7 : (rd l0 x5_1) = a1
      ·rw [if_pos c7] at H
       have c7b0 : ((rd l0 x5_1) == a1) = true := beq_iff_eq.mpr c7
       have c7b1 : ((rd l0 x5_1) != a1) = false := bne_eq_false_iff_eq.mpr c7
       clear c7
       obtain rfl := Option.some.inj H
       obtain ⟨Ao8, co8, eo8⟩ := Kd.R_slice HO_0.out
       subst eo8
       have p236 : 0 ≤ (x5_1 : Int) := of_decide_eq_true (by assumption)
       have q236 : x5_1 < (l0.length : Int) := of_decide_eq_true (by assumption)
       obtain ⟨ad236, e236, hx236_0⟩ := Kd.at_int (Kd.R_reads' HO_0.out).2.2 x5_1 p236 q236
       cases e236
       replace p236 := eq_true p236
       replace q236 := eq_true q236
       have p237 : 0 ≤ (x5_1 : Int) := of_decide_eq_true (by assumption)
       have q237 : x5_1 < (l0.length : Int) := of_decide_eq_true (by assumption)
       obtain ⟨ad237, e237, hx237_0⟩ := Kd.at_int (Kd.R_reads' HO_0.out).2.2 x5_1 p237 q237
       obtain rfl : ad236 = ad237 := (by injection e237)
       replace p237 := eq_true p237
       replace q237 := eq_true q237
       go_wp2
       go_ret
       exact ⟨_, by first | rfl | (simp [*, errW_none, errW_some] <;> rfl), by (with_reducible repeat (first | apply Ra | apply Rn | apply Rd)); exact HO_0.out, by repeat (first | exact HB.out | apply Ba | apply Bn | apply Bd), by repeat (first | (with_reducible first | exact HK.out | apply Kept.alloc | apply Kept.drewN | apply Kept.drew) | exact HK.out)⟩
      ·rw [if_neg c7] at H
       have c7b0 : ((rd l0 x5_1) == a1) = false := beq_eq_false_iff_ne.mpr c7
       have c7b1 : ((rd l0 x5_1) != a1) = true := bne_iff_ne.mpr c7
       obtain ⟨y238, hy238⟩ : ∃ y_ : List Int, y_ = (([] : List Int)) := ⟨_, rfl⟩
       replace H : (if x5_1 ≤ (l0.length : Int) then ((some (l0.take (x5_1 : Int).toNat : List Int)).bind fun y241 => (if y238.length + y241.length < 17592186044416 then ((some (y238 ++ y241 : List Int)).bind fun y245 => (if y245.length < 17592186044416 then ((some (y245 ++ [a1] : List Int)).bind fun y248 => ((some (l0.drop (x5_1 : Int).toNat : List Int)).bind fun y251 => (if y248.length + y251.length < 17592186044416 then (some (y248 ++ y251)) else (none)))) else (none))) else (none))) else (none)) = some r := by first | (rw [hy238]; with_reducible exact H) | (have H2_ := (Option.bind_some _ _).symm.trans H; rw [hy238]; with_reducible exact H2_) | (have H2_ := (Option.bind_some _ _).symm.trans H; with_reducible exact H2_) | with_reducible exact H | (rw [hy238]; exact H) | exact H
       have Ny238 := Am hy238
       clear hy238
       have c9b0 := eq_true (of_decide_eq_true (by assumption) : 0 ≤ x5_1)
       by_cases c10 : x5_1 ≤ (l0.length : Int)
       ·rw [if_pos c10] at H
        have c10b0 := eq_true c10
        have c10b1 : decide (x5_1 ≤ (l0.length : Int)) = true := decide_eq_true c10
        clear c10
        obtain ⟨y241, hy241⟩ : ∃ y_ : List Int, y_ = (l0.take (x5_1 : Int).toNat) := ⟨_, rfl⟩
        replace H : (if y238.length + y241.length < 17592186044416 then ((some (y238 ++ y241 : List Int)).bind fun y245 => (if y245.length < 17592186044416 then ((some (y245 ++ [a1] : List Int)).bind fun y248 => ((some (l0.drop (x5_1 : Int).toNat : List Int)).bind fun y251 => (if y248.length + y251.length < 17592186044416 then (some (y248 ++ y251)) else (none)))) else (none))) else (none)) = some r := by first | (rw [hy241]; with_reducible exact H) | (have H2_ := (Option.bind_some _ _).symm.trans H; rw [hy241]; with_reducible exact H2_) | (have H2_ := (Option.bind_some _ _).symm.trans H; with_reducible exact H2_) | with_reducible exact H | (rw [hy241]; exact H) | exact H
        have Ny241 := Am hy241
        clear hy241
        by_cases c11 : y238.length + y241.length < 17592186044416
        ·rw [if_pos c11] at H
         have LMc11 := Am c11
         clear c11
         obtain ⟨y245, hy245⟩ : ∃ y_ : List Int, y_ = (y238 ++ y241) := ⟨_, rfl⟩
         replace H : (if y245.length < 17592186044416 then ((some (y245 ++ [a1] : List Int)).bind fun y248 => ((some (l0.drop (x5_1 : Int).toNat : List Int)).bind fun y251 => (if y248.length + y251.length < 17592186044416 then (some (y248 ++ y251)) else (none)))) else (none)) = some r := by first | (rw [hy245]; with_reducible exact H) | (have H2_ := (Option.bind_some _ _).symm.trans H; rw [hy245]; with_reducible exact H2_) | (have H2_ := (Option.bind_some _ _).symm.trans H; with_reducible exact H2_) | with_reducible exact H | (rw [hy245]; exact H) | exact H
         have Ny245 := Am hy245
         clear hy245
         by_cases c12 : y245.length < 17592186044416
         ·rw [if_pos c12] at H
          have LMc12 := Am c12
          clear c12
          obtain ⟨y248, hy248⟩ : ∃ y_ : List Int, y_ = (y245 ++ [a1]) := ⟨_, rfl⟩
          replace H : ((some (l0.drop (x5_1 : Int).toNat : List Int)).bind fun y251 => (if y248.length + y251.length < 17592186044416 then (some (y248 ++ y251)) else (none))) = some r := by first | (rw [hy248]; with_reducible exact H) | (have H2_ := (Option.bind_some _ _).symm.trans H; rw [hy248]; with_reducible exact H2_) | (have H2_ := (Option.bind_some _ _).symm.trans H; with_reducible exact H2_) | with_reducible exact H | (rw [hy248]; exact H) | exact H
          have Ny248 := Am hy248
          clear hy248
          have c13b0 := eq_true (of_decide_eq_true (by assumption) : 0 ≤ x5_1)
          have c14b0 := eq_true (of_decide_eq_true (by assumption) : x5_1 ≤ (l0.length : Int))
          obtain ⟨y251, hy251⟩ : ∃ y_ : List Int, y_ = (l0.drop (x5_1 : Int).toNat) := ⟨_, rfl⟩
          replace H : (if y248.length + y251.length < 17592186044416 then (some (y248 ++ y251)) else (none)) = some r := by first | (rw [hy251]; with_reducible exact H) | (have H2_ := (Option.bind_some _ _).symm.trans H; rw [hy251]; with_reducible exact H2_) | (have H2_ := (Option.bind_some _ _).symm.trans H; with_reducible exact H2_) | with_reducible exact H | (rw [hy251]; exact H) | exact H
          have Ny251 := Am hy251
          clear hy251
          by_cases c15 : y248.length + y251.length < 17592186044416
          ·rw [if_pos c15] at H
           have LMc15 := Am c15
           clear c15
           obtain ⟨y255, hy255⟩ : ∃ y_ : List Int, y_ = (y248 ++ y251) := ⟨_, rfl⟩
           replace H : (some y255) = some r := by first | (rw [hy255]; with_reducible exact H) | (have H2_ := (Option.bind_some _ _).symm.trans H; rw [hy255]; with_reducible exact H2_) | (have H2_ := (Option.bind_some _ _).symm.trans H; with_reducible exact H2_) | with_reducible exact H | (rw [hy255]; exact H) | exact H
           have Ny255 := Am hy255
           clear hy255
           obtain rfl := Option.some.inj H
           obtain ⟨Ao16, co16, eo16⟩ := Kd.R_slice HO_0.out
           subst eo16
           have p236 : 0 ≤ (x5_1 : Int) := of_decide_eq_true (by assumption)
           have q236 : x5_1 < (l0.length : Int) := of_decide_eq_true (by assumption)
           obtain ⟨ad236, e236, hx236_0⟩ := Kd.at_int (Kd.R_reads' HO_0.out).2.2 x5_1 p236 q236
           cases e236
           replace p236 := eq_true p236
           replace q236 := eq_true q236
           have p237 : 0 ≤ (x5_1 : Int) := of_decide_eq_true (by assumption)
           have q237 : x5_1 < (l0.length : Int) := of_decide_eq_true (by assumption)
           obtain ⟨ad237, e237, hx237_0⟩ := Kd.at_int (Kd.R_reads' HO_0.out).2.2 x5_1 p237 q237
           obtain rfl : ad236 = ad237 := (by injection e237)
           replace p237 := eq_true p237
           replace q237 := eq_true q237
           go_wp2_with (first | ((refine Gd (N := 34) rfl ?_); refine Kd.R_lit (Kd.int .i64) _ 3 ?hg (N := 34) ?hd (xs := ([] : List Int)) (inner := []) (ok := fun _ => True) (okp := fun _ => True) ?hr ?hp (fun _ hk => hk) trivial (Below.refl _ _) (Nat.le_refl _) (by simp) ?_; (case hd | hg => rfl); (case hr => first | (go_simp; done) | (go_simp; rfl)); (case hp => exact (Reps.none _ _)); intro v239 w17 ho18 hb hg_ hnew_; clear hg_ hnew_; (first | rw [← Ny238.out] at ho18 | (simp only [Int.reduceToNat] at ho18; rw [← Ny238.out] at ho18)); have n0_ := Am (Kd.R_elder' (by (with_reducible repeat (first | apply Ra | apply Rn | apply Rd)); exact HO_0.out) (Kd.R_base ho18) hb); have n1_ := Am (Kd.R_lower (Kd.R_new' (Kd.R_newM (M := fun k_ => (P0_ k_ ∨ w.heap.size ≤ k_)) ho18 (by first | exact HK.out.1 | exact (show Kept w _ (fun k_ => P0_ k_) from by repeat (first | (with_reducible first | exact HK.out | apply Kept.alloc | apply Kept.drewN | apply Kept.drew) | exact HK.out)).1) (fun k_ h_ => .inr h_)) (Kd.R_lt (by (with_reducible repeat (first | apply Ra | apply Rn | apply Rd)); exact HO_0.out))) (Bz (by repeat (first | exact HB.out | apply Ba | apply Bn | apply Bd)))); have n2_ := Am (Kept.below (S := (fun k_ => P0_ k_)) (by repeat (first | (with_reducible first | exact HK.out | apply Kept.alloc | apply Kept.drewN | apply Kept.drew) | exact HK.out)) hb); have n3_ := Am (Bt (by repeat (first | exact HB.out | apply Ba | apply Bn | apply Bd)) hb); clear HO_0; clear HK; clear HB; have HO_0 := n0_; have HO240 := n1_; have HK := n2_; have HB := n3_; clear n0_ n1_ n2_ n3_; clear hb ho18; have q19 : (x5_1 : Int) ≤ ((l0.length : Int) : Int) := of_decide_eq_true (by assumption); obtain ⟨i019, hi019, _, hsz19, _⟩ := info_parts info3; have hroom19 : l0.length ≤ co16 := (Kd.R_reads' HO_0.out).2.1; have hC19 : Kd.C (Kd.int .i64) _ (some ad236) l0.length l0 := (Kd.R_reads' HO_0.out).2.2; have hcut19 := cut_to (P := Try.prog) 44 3 .i64 Try.underlying44 hi019 (some ad236) l0.length co16 x5_1 (of_decide_eq_true (by assumption)) q19 hroom19; have hr19 := Kd.C_take (m := (x5_1 : Int).toNat) hC19 (by omega); have hy19 : y241.length = (x5_1 : Int).toNat := (by rw [Ny241.out, List.length_take]; omega); rw [← Ny241.out] at hr19; rw [← hy19] at hcut19; have HR244 := Am hr19; have HC244 := Am (show y241.length ≤ co16 from by omega); clear hr19 hC19 hroom19 hi019 hsz19; have KY19 := Am hy19; clear hy19; have KL19 := Am (show (x5_1 : Int).toNat ≤ l0.length from by omega); replace q19 := eq_true q19) | ((with_reducible refine gate_builtin (b := .append) (xs := #[.tmp 34, .tmp 37]) rfl ?_); at_builtin; refine Kd.R_append_rows (Kd.int .i64) (w0 := w0) w0.heap.size rfl (.tmp 34) (.tmp 37) 44 3 (.int .i64 0) 8 rfl Try.underlying44 info3 rfl (by decide) (by omega) v239 y238 y241 _ _ _ (fun k_ => (P0_ k_ ∨ w.heap.size ≤ k_) ∧ some k_ ≠ (.slice (some ad236) l0.length co16 : Value).ownBlock) (fun _ => False) rfl rfl ?aO ?aR (fun _ _ h => h) (fun _ h => h.elim) ?aF ?aB ?aS ?aL ?_; (case aR => repeat (first | exact (by repeat (first | (with_reducible exact HR244.out) | (with_reducible refine Kd.C_alloc ?_ _) | (with_reducible refine Kd.C_drewN ?_ _) | (with_reducible refine Kd.C_drew ?_) | exact HR244.out)) | (with_reducible refine Kd.C_alloc ?_ _) | (with_reducible refine Kd.C_drewN ?_ _) | (with_reducible refine Kd.C_drew ?_))); (case aB => exact (by repeat (first | exact HB.out | apply Ba | apply Bn | apply Bd))); (case aF => exact (fun k_ hk => ⟨(.inr (Nat.le_trans (by first | exact HK.out.1 | exact (show Kept w _ (fun k_ => P0_ k_) from by repeat (first | (with_reducible first | exact HK.out | apply Kept.alloc | apply Kept.drewN | apply Kept.drew) | exact HK.out)).1) hk)), Kd.fresh' (Kd.R_lt (by (with_reducible repeat (first | apply Ra | apply Rn | apply Rd)); exact HO_0.out)) k_ hk⟩)); (case aO => exact (by (with_reducible repeat (first | apply Ra | apply Rn | apply Rd)); exact Kd.R_mono HO240.out (fun _ hk => ⟨hk.1.1, hk.2⟩))); (case aS => exact (Bz (by repeat (first | exact HB.out | apply Ba | apply Bn | apply Bd)))); (case aL => have := LMc11.out; omega); intro v246 w20 ho hb hg hat; rw [← Ny245.out] at ho; have n0_ := Am (Kd.R_after (ok := (fun k_ => (P0_ k_ ∨ w.heap.size ≤ k_))) (by (with_reducible repeat (first | apply Ra | apply Rn | apply Rd)); exact HO_0.out) hg hat); have n1_ := Am (hb); have n2_ := Am (Kept.of_grown (S := (fun k_ => P0_ k_)) hg (by repeat (first | (with_reducible first | exact HK.out | apply Kept.alloc | apply Kept.drewN | apply Kept.drew) | exact HK.out)) (fun k_ e_ => (HO240.out.1 k_ e_).1.1)); have n3_ := Am ((show Kd.C (Kd.int .i64) w20 (some ad236) y241.length y241 from by rw [Ny241.out]; exact Kd.C_take (m := (x5_1 : Int).toNat) ((Kd.R_reads' (Kd.R_after (ok := (fun k_ => (P0_ k_ ∨ w.heap.size ≤ k_))) (by (with_reducible repeat (first | apply Ra | apply Rn | apply Rd)); exact HO_0.out) hg hat)).2.2) KL19.out)); have n4_ := Am (ho); clear HO_0; clear HB; clear HK; clear HR244; clear HO240; have HO_0 := n0_; have HB := n1_; have HK := n2_; have HR244 := n3_; have HO247 := n4_; clear n0_ n1_ n2_ n3_ n4_; clear ho hb hg hat) | ((with_reducible refine gate_builtin (b := .append) (xs := #[.tmp 39, .tmp 41]) rfl ?_); at_builtin; refine Kd.R_append (Kd.int .i64) (w0 := w0) w0.heap.size rfl (.tmp 39) (.tmp 41) 44 3 (.int .i64 0) 8 rfl Try.underlying44 info3 rfl (by decide) (by omega) v246 y245 a1 [.int .i64 a1] (fun k_ => (P0_ k_ ∨ w.heap.size ≤ k_) ∧ some k_ ≠ (.slice (some ad236) l0.length co16 : Value).ownBlock) (fun _ => False) rfl rfl ?aP (fun _ hk => hk.elim) ?aF ?aO ?aB ?aS ?aL ?_; (case aP => exact rfl); (case aB => exact (by repeat (first | exact HB.out | apply Ba | apply Bn | apply Bd))); (case aF => exact (fun k_ hk => ⟨(.inr (Nat.le_trans (by first | exact HK.out.1 | exact (show Kept w _ (fun k_ => P0_ k_) from by repeat (first | (with_reducible first | exact HK.out | apply Kept.alloc | apply Kept.drewN | apply Kept.drew) | exact HK.out)).1) hk)), Kd.fresh' (Kd.R_lt (by (with_reducible repeat (first | apply Ra | apply Rn | apply Rd)); exact HO_0.out)) k_ hk⟩)); (case aO => exact (by (with_reducible repeat (first | apply Ra | apply Rn | apply Rd)); exact HO247.out)); (case aS => exact (Bz (by repeat (first | exact HB.out | apply Ba | apply Bn | apply Bd)))); (case aL => have := LMc12.out; omega); intro v249 w21 ho hb hg hat; rw [← Ny248.out] at ho; have n0_ := Am (Kd.R_after (ok := (fun k_ => (P0_ k_ ∨ w.heap.size ≤ k_))) (by (with_reducible repeat (first | apply Ra | apply Rn | apply Rd)); exact HO_0.out) hg hat); have n1_ := Am (hb); have n2_ := Am (Kept.of_grown (S := (fun k_ => P0_ k_)) hg (by repeat (first | (with_reducible first | exact HK.out | apply Kept.alloc | apply Kept.drewN | apply Kept.drew) | exact HK.out)) (fun k_ e_ => (HO247.out.1 k_ e_).1)); have n3_ := Am ((show Kd.C (Kd.int .i64) w21 (some ad236) y241.length y241 from by rw [Ny241.out]; exact Kd.C_take (m := (x5_1 : Int).toNat) ((Kd.R_reads' (Kd.R_after (ok := (fun k_ => (P0_ k_ ∨ w.heap.size ≤ k_))) (by (with_reducible repeat (first | apply Ra | apply Rn | apply Rd)); exact HO_0.out) hg hat)).2.2) KL19.out)); have n4_ := Am (ho); clear HO_0; clear HB; clear HK; clear HR244; clear HO247; have HO_0 := n0_; have HB := n1_; have HK := n2_; have HR244 := n3_; have HO250 := n4_; clear n0_ n1_ n2_ n3_ n4_; clear ho hb hg hat; have q22 : (x5_1 : Int) ≤ ((l0.length : Int) : Int) := of_decide_eq_true (by assumption); obtain ⟨i022, hi022, _, hsz22, _⟩ := info_parts info3; have hroom22 : l0.length ≤ co16 := (Kd.R_reads' HO_0.out).2.1; have hC22 : Kd.C (Kd.int .i64) _ (some ad236) l0.length l0 := (Kd.R_reads' HO_0.out).2.2; have q022 : (0 : Int) ≤ (x5_1 : Int) := of_decide_eq_true (by assumption); have hcut22 := cut_from (P := Try.prog) 44 3 .i64 Try.underlying44 hi022 1 hsz22 (some ad236) l0.length co16 x5_1 q022 q22; have hr22 := Kd.C_drop (m := (x5_1 : Int).toNat) (c := co16) hC22 (by omega) hroom22; obtain ⟨A22, hA22⟩ : ∃ A1, A1 = (if co16 = (x5_1 : Int).toNat then (some ad236) else ((some ad236) : Option Addr).map (·.add ((x5_1 : Int).toNat * 1))) := ⟨_, rfl⟩; obtain ⟨c22, hc22⟩ : ∃ c1, c1 = co16 - (x5_1 : Int).toNat := ⟨_, rfl⟩; have hy22 : y251.length = l0.length - (x5_1 : Int).toNat := (by rw [Ny251.out, List.length_drop] <;> omega); rw [show (l0).drop (x5_1 : Int).toNat = y251 from Ny251.out.symm] at hr22; replace hr22 : Kd.C (Kd.int .i64) _ A22 y251.length y251 := (by rw [hA22]; exact hr22); rw [← hy22, ← hA22, ← hc22] at hcut22; have HR254 := Am hr22; have HC254 := Am (show y251.length ≤ c22 from by rw [hy22, hc22]; exact Nat.sub_le_sub_right hroom22 _); clear hr22 hC22 hroom22 hi022 hsz22 hc22; have KY22 := Am hy22; have KA22 := Am hA22; clear hy22 hA22; have KL22 := Am (show (x5_1 : Int).toNat ≤ l0.length from by omega); replace q22 := eq_true q22) | ((with_reducible refine gate_builtin (b := .append) (xs := #[.tmp 43, .tmp 46]) rfl ?_); at_builtin; refine Kd.R_append_rows (Kd.int .i64) (w0 := w0) w0.heap.size rfl (.tmp 43) (.tmp 46) 44 3 (.int .i64 0) 8 rfl Try.underlying44 info3 rfl (by decide) (by omega) v249 y248 y251 _ _ _ (fun k_ => (P0_ k_ ∨ w.heap.size ≤ k_) ∧ some k_ ≠ (.slice (some ad236) l0.length co16 : Value).ownBlock) (fun _ => False) rfl rfl ?aO ?aR (fun _ _ h => h) (fun _ h => h.elim) ?aF ?aB ?aS ?aL ?_; (case aR => repeat (first | exact (by repeat (first | (with_reducible exact HR254.out) | (with_reducible refine Kd.C_alloc ?_ _) | (with_reducible refine Kd.C_drewN ?_ _) | (with_reducible refine Kd.C_drew ?_) | exact HR254.out)) | (with_reducible refine Kd.C_alloc ?_ _) | (with_reducible refine Kd.C_drewN ?_ _) | (with_reducible refine Kd.C_drew ?_))); (case aB => exact (by repeat (first | exact HB.out | apply Ba | apply Bn | apply Bd))); (case aF => exact (fun k_ hk => ⟨(.inr (Nat.le_trans (by first | exact HK.out.1 | exact (show Kept w _ (fun k_ => P0_ k_) from by repeat (first | (with_reducible first | exact HK.out | apply Kept.alloc | apply Kept.drewN | apply Kept.drew) | exact HK.out)).1) hk)), Kd.fresh' (Kd.R_lt (by (with_reducible repeat (first | apply Ra | apply Rn | apply Rd)); exact HO_0.out)) k_ hk⟩)); (case aO => exact (by (with_reducible repeat (first | apply Ra | apply Rn | apply Rd)); exact HO250.out)); (case aS => exact (Bz (by repeat (first | exact HB.out | apply Ba | apply Bn | apply Bd)))); (case aL => have := LMc15.out; omega); intro v256 w23 ho hb hg hat; rw [← Ny255.out] at ho; have n0_ := Am (Kd.R_after (ok := (fun k_ => (P0_ k_ ∨ w.heap.size ≤ k_))) (by (with_reducible repeat (first | apply Ra | apply Rn | apply Rd)); exact HO_0.out) hg hat); have n1_ := Am (hb); have n2_ := Am (Kept.of_grown (S := (fun k_ => P0_ k_)) hg (by repeat (first | (with_reducible first | exact HK.out | apply Kept.alloc | apply Kept.drewN | apply Kept.drew) | exact HK.out)) (fun k_ e_ => (HO250.out.1 k_ e_).1)); have n3_ := Am ((show Kd.C (Kd.int .i64) w23 (some ad236) y241.length y241 from by rw [Ny241.out]; exact Kd.C_take (m := (x5_1 : Int).toNat) ((Kd.R_reads' (Kd.R_after (ok := (fun k_ => (P0_ k_ ∨ w.heap.size ≤ k_))) (by (with_reducible repeat (first | apply Ra | apply Rn | apply Rd)); exact HO_0.out) hg hat)).2.2) KL19.out)); have n4_ := Am ((show Kd.C (Kd.int .i64) w23 A22 y251.length y251 from by rw [Ny251.out, KA22.out]; exact Kd.C_drop (m := (x5_1 : Int).toNat) (c := co16) ((Kd.R_reads' (Kd.R_after (ok := (fun k_ => (P0_ k_ ∨ w.heap.size ≤ k_))) (by (with_reducible repeat (first | apply Ra | apply Rn | apply Rd)); exact HO_0.out) hg hat)).2.2) KL22.out ((Kd.R_reads' (Kd.R_after (ok := (fun k_ => (P0_ k_ ∨ w.heap.size ≤ k_))) (by (with_reducible repeat (first | apply Ra | apply Rn | apply Rd)); exact HO_0.out) hg hat)).2.1))); have n5_ := Am (ho); clear HO_0; clear HB; clear HK; clear HR244; clear HR254; clear HO250; have HO_0 := n0_; have HB := n1_; have HK := n2_; have HR244 := n3_; have HR254 := n4_; have HO257 := n5_; clear n0_ n1_ n2_ n3_ n4_ n5_; clear ho hb hg hat))
           go_ret
           exact ⟨_, by first | rfl | (simp [*, errW_none, errW_some] <;> rfl), by (with_reducible repeat (first | apply Ra | apply Rn | apply Rd)); exact Kd.R_mono HO257.out (fun _ hk => hk.1), by repeat (first | exact HB.out | apply Ba | apply Bn | apply Bd), by repeat (first | (with_reducible first | exact HK.out | apply Kept.alloc | apply Kept.drewN | apply Kept.drew) | exact HK.out)⟩
          ·rw [if_neg c15] at H
           exact absurd H (by simp)
         ·rw [if_neg c12] at H
          exact absurd H (by simp)
        ·rw [if_neg c11] at H
         exact absurd H (by simp)
       ·rw [if_neg c10] at H
        exact absurd H (by simp)
    ·rw [if_neg c4] at H
     exact absurd H (by simp)
   ·rw [if_neg c3] at H
    have c3b0 : decide (x5_1 < (l0.length : Int)) = false := decide_eq_false c3
    clear c3
    obtain ⟨y258, hy258⟩ : ∃ y_ : List Int, y_ = (([] : List Int)) := ⟨_, rfl⟩
    replace H : (if 0 ≤ x5_1 then (if x5_1 ≤ (l0.length : Int) then ((some (l0.take (x5_1 : Int).toNat : List Int)).bind fun y261 => (if y258.length + y261.length < 17592186044416 then ((some (y258 ++ y261 : List Int)).bind fun y265 => (if y265.length < 17592186044416 then ((some (y265 ++ [a1] : List Int)).bind fun y268 => ((some (l0.drop (x5_1 : Int).toNat : List Int)).bind fun y271 => (if y268.length + y271.length < 17592186044416 then (some (y268 ++ y271)) else (none)))) else (none))) else (none))) else (none)) else (none)) = some r := by first | (rw [hy258]; with_reducible exact H) | (have H2_ := (Option.bind_some _ _).symm.trans H; rw [hy258]; with_reducible exact H2_) | (have H2_ := (Option.bind_some _ _).symm.trans H; with_reducible exact H2_) | with_reducible exact H | (rw [hy258]; exact H) | exact H
    have Ny258 := Am hy258
    clear hy258
    by_cases c24 : 0 ≤ x5_1
    ·rw [if_pos c24] at H
     have c24b0 := eq_true c24
     have c24b1 : decide (0 ≤ x5_1) = true := decide_eq_true c24
     clear c24
     by_cases c25 : x5_1 ≤ (l0.length : Int)
     ·rw [if_pos c25] at H
      have c25b0 := eq_true c25
      have c25b1 : decide (x5_1 ≤ (l0.length : Int)) = true := decide_eq_true c25
      clear c25
      obtain ⟨y261, hy261⟩ : ∃ y_ : List Int, y_ = (l0.take (x5_1 : Int).toNat) := ⟨_, rfl⟩
      replace H : (if y258.length + y261.length < 17592186044416 then ((some (y258 ++ y261 : List Int)).bind fun y265 => (if y265.length < 17592186044416 then ((some (y265 ++ [a1] : List Int)).bind fun y268 => ((some (l0.drop (x5_1 : Int).toNat : List Int)).bind fun y271 => (if y268.length + y271.length < 17592186044416 then (some (y268 ++ y271)) else (none)))) else (none))) else (none)) = some r := by first | (rw [hy261]; with_reducible exact H) | (have H2_ := (Option.bind_some _ _).symm.trans H; rw [hy261]; with_reducible exact H2_) | (have H2_ := (Option.bind_some _ _).symm.trans H; with_reducible exact H2_) | with_reducible exact H | (rw [hy261]; exact H) | exact H
      have Ny261 := Am hy261
      clear hy261
      by_cases c26 : y258.length + y261.length < 17592186044416
      ·rw [if_pos c26] at H
       have LMc26 := Am c26
       clear c26
       obtain ⟨y265, hy265⟩ : ∃ y_ : List Int, y_ = (y258 ++ y261) := ⟨_, rfl⟩
       replace H : (if y265.length < 17592186044416 then ((some (y265 ++ [a1] : List Int)).bind fun y268 => ((some (l0.drop (x5_1 : Int).toNat : List Int)).bind fun y271 => (if y268.length + y271.length < 17592186044416 then (some (y268 ++ y271)) else (none)))) else (none)) = some r := by first | (rw [hy265]; with_reducible exact H) | (have H2_ := (Option.bind_some _ _).symm.trans H; rw [hy265]; with_reducible exact H2_) | (have H2_ := (Option.bind_some _ _).symm.trans H; with_reducible exact H2_) | with_reducible exact H | (rw [hy265]; exact H) | exact H
       have Ny265 := Am hy265
       clear hy265
       by_cases c27 : y265.length < 17592186044416
       ·rw [if_pos c27] at H
        have LMc27 := Am c27
        clear c27
        obtain ⟨y268, hy268⟩ : ∃ y_ : List Int, y_ = (y265 ++ [a1]) := ⟨_, rfl⟩
        replace H : ((some (l0.drop (x5_1 : Int).toNat : List Int)).bind fun y271 => (if y268.length + y271.length < 17592186044416 then (some (y268 ++ y271)) else (none))) = some r := by first | (rw [hy268]; with_reducible exact H) | (have H2_ := (Option.bind_some _ _).symm.trans H; rw [hy268]; with_reducible exact H2_) | (have H2_ := (Option.bind_some _ _).symm.trans H; with_reducible exact H2_) | with_reducible exact H | (rw [hy268]; exact H) | exact H
        have Ny268 := Am hy268
        clear hy268
        have c28b0 := eq_true (of_decide_eq_true (by assumption) : 0 ≤ x5_1)
        have c29b0 := eq_true (of_decide_eq_true (by assumption) : x5_1 ≤ (l0.length : Int))
        obtain ⟨y271, hy271⟩ : ∃ y_ : List Int, y_ = (l0.drop (x5_1 : Int).toNat) := ⟨_, rfl⟩
        replace H : (if y268.length + y271.length < 17592186044416 then (some (y268 ++ y271)) else (none)) = some r := by first | (rw [hy271]; with_reducible exact H) | (have H2_ := (Option.bind_some _ _).symm.trans H; rw [hy271]; with_reducible exact H2_) | (have H2_ := (Option.bind_some _ _).symm.trans H; with_reducible exact H2_) | with_reducible exact H | (rw [hy271]; exact H) | exact H
        have Ny271 := Am hy271
        clear hy271
        by_cases c30 : y268.length + y271.length < 17592186044416
        ·rw [if_pos c30] at H
         have LMc30 := Am c30
         clear c30
         obtain ⟨y275, hy275⟩ : ∃ y_ : List Int, y_ = (y268 ++ y271) := ⟨_, rfl⟩
         replace H : (some y275) = some r := by first | (rw [hy275]; with_reducible exact H) | (have H2_ := (Option.bind_some _ _).symm.trans H; rw [hy275]; with_reducible exact H2_) | (have H2_ := (Option.bind_some _ _).symm.trans H; with_reducible exact H2_) | with_reducible exact H | (rw [hy275]; exact H) | exact H
         have Ny275 := Am hy275
         clear hy275
         obtain rfl := Option.some.inj H
         obtain ⟨Ao31, co31, eo31⟩ := Kd.R_slice HO_0.out
         subst eo31
         go_wp2_with (first | ((refine Gd (N := 34) rfl ?_); refine Kd.R_lit (Kd.int .i64) _ 3 ?hg (N := 34) ?hd (xs := ([] : List Int)) (inner := []) (ok := fun _ => True) (okp := fun _ => True) ?hr ?hp (fun _ hk => hk) trivial (Below.refl _ _) (Nat.le_refl _) (by simp) ?_; (case hd | hg => rfl); (case hr => first | (go_simp; done) | (go_simp; rfl)); (case hp => exact (Reps.none _ _)); intro v259 w32 ho33 hb hg_ hnew_; clear hg_ hnew_; (first | rw [← Ny258.out] at ho33 | (simp only [Int.reduceToNat] at ho33; rw [← Ny258.out] at ho33)); have n0_ := Am (Kd.R_elder' (by (with_reducible repeat (first | apply Ra | apply Rn | apply Rd)); exact HO_0.out) (Kd.R_base ho33) hb); have n1_ := Am (Kd.R_lower (Kd.R_new' (Kd.R_newM (M := fun k_ => (P0_ k_ ∨ w.heap.size ≤ k_)) ho33 (by first | exact HK.out.1 | exact (show Kept w _ (fun k_ => P0_ k_) from by repeat (first | (with_reducible first | exact HK.out | apply Kept.alloc | apply Kept.drewN | apply Kept.drew) | exact HK.out)).1) (fun k_ h_ => .inr h_)) (Kd.R_lt (by (with_reducible repeat (first | apply Ra | apply Rn | apply Rd)); exact HO_0.out))) (Bz (by repeat (first | exact HB.out | apply Ba | apply Bn | apply Bd)))); have n2_ := Am (Kept.below (S := (fun k_ => P0_ k_)) (by repeat (first | (with_reducible first | exact HK.out | apply Kept.alloc | apply Kept.drewN | apply Kept.drew) | exact HK.out)) hb); have n3_ := Am (Bt (by repeat (first | exact HB.out | apply Ba | apply Bn | apply Bd)) hb); clear HO_0; clear HK; clear HB; have HO_0 := n0_; have HO260 := n1_; have HK := n2_; have HB := n3_; clear n0_ n1_ n2_ n3_; clear hb ho33; have q34 : (x5_1 : Int) ≤ ((l0.length : Int) : Int) := of_decide_eq_true (by assumption); obtain ⟨i034, hi034, _, hsz34, _⟩ := info_parts info3; have hroom34 : l0.length ≤ co31 := (Kd.R_reads' HO_0.out).2.1; have hC34 : Kd.C (Kd.int .i64) _ Ao31 l0.length l0 := (Kd.R_reads' HO_0.out).2.2; have hcut34 := cut_to (P := Try.prog) 44 3 .i64 Try.underlying44 hi034 Ao31 l0.length co31 x5_1 (of_decide_eq_true (by assumption)) q34 hroom34; have hr34 := Kd.C_take (m := (x5_1 : Int).toNat) hC34 (by omega); have hy34 : y261.length = (x5_1 : Int).toNat := (by rw [Ny261.out, List.length_take]; omega); rw [← Ny261.out] at hr34; rw [← hy34] at hcut34; have HR264 := Am hr34; have HC264 := Am (show y261.length ≤ co31 from by omega); clear hr34 hC34 hroom34 hi034 hsz34; have KY34 := Am hy34; clear hy34; have KL34 := Am (show (x5_1 : Int).toNat ≤ l0.length from by omega); replace q34 := eq_true q34) | ((with_reducible refine gate_builtin (b := .append) (xs := #[.tmp 34, .tmp 37]) rfl ?_); at_builtin; refine Kd.R_append_rows (Kd.int .i64) (w0 := w0) w0.heap.size rfl (.tmp 34) (.tmp 37) 44 3 (.int .i64 0) 8 rfl Try.underlying44 info3 rfl (by decide) (by omega) v259 y258 y261 _ _ _ (fun k_ => (P0_ k_ ∨ w.heap.size ≤ k_) ∧ some k_ ≠ (.slice Ao31 l0.length co31 : Value).ownBlock) (fun _ => False) rfl rfl ?aO ?aR (fun _ _ h => h) (fun _ h => h.elim) ?aF ?aB ?aS ?aL ?_; (case aR => repeat (first | exact (by repeat (first | (with_reducible exact HR264.out) | (with_reducible refine Kd.C_alloc ?_ _) | (with_reducible refine Kd.C_drewN ?_ _) | (with_reducible refine Kd.C_drew ?_) | exact HR264.out)) | (with_reducible refine Kd.C_alloc ?_ _) | (with_reducible refine Kd.C_drewN ?_ _) | (with_reducible refine Kd.C_drew ?_))); (case aB => exact (by repeat (first | exact HB.out | apply Ba | apply Bn | apply Bd))); (case aF => exact (fun k_ hk => ⟨(.inr (Nat.le_trans (by first | exact HK.out.1 | exact (show Kept w _ (fun k_ => P0_ k_) from by repeat (first | (with_reducible first | exact HK.out | apply Kept.alloc | apply Kept.drewN | apply Kept.drew) | exact HK.out)).1) hk)), Kd.fresh' (Kd.R_lt (by (with_reducible repeat (first | apply Ra | apply Rn | apply Rd)); exact HO_0.out)) k_ hk⟩)); (case aO => exact (by (with_reducible repeat (first | apply Ra | apply Rn | apply Rd)); exact Kd.R_mono HO260.out (fun _ hk => ⟨hk.1.1, hk.2⟩))); (case aS => exact (Bz (by repeat (first | exact HB.out | apply Ba | apply Bn | apply Bd)))); (case aL => have := LMc26.out; omega); intro v266 w35 ho hb hg hat; rw [← Ny265.out] at ho; have n0_ := Am (Kd.R_after (ok := (fun k_ => (P0_ k_ ∨ w.heap.size ≤ k_))) (by (with_reducible repeat (first | apply Ra | apply Rn | apply Rd)); exact HO_0.out) hg hat); have n1_ := Am (hb); have n2_ := Am (Kept.of_grown (S := (fun k_ => P0_ k_)) hg (by repeat (first | (with_reducible first | exact HK.out | apply Kept.alloc | apply Kept.drewN | apply Kept.drew) | exact HK.out)) (fun k_ e_ => (HO260.out.1 k_ e_).1.1)); have n3_ := Am ((show Kd.C (Kd.int .i64) w35 Ao31 y261.length y261 from by rw [Ny261.out]; exact Kd.C_take (m := (x5_1 : Int).toNat) ((Kd.R_reads' (Kd.R_after (ok := (fun k_ => (P0_ k_ ∨ w.heap.size ≤ k_))) (by (with_reducible repeat (first | apply Ra | apply Rn | apply Rd)); exact HO_0.out) hg hat)).2.2) KL34.out)); have n4_ := Am (ho); clear HO_0; clear HB; clear HK; clear HR264; clear HO260; have HO_0 := n0_; have HB := n1_; have HK := n2_; have HR264 := n3_; have HO267 := n4_; clear n0_ n1_ n2_ n3_ n4_; clear ho hb hg hat) | ((with_reducible refine gate_builtin (b := .append) (xs := #[.tmp 39, .tmp 41]) rfl ?_); at_builtin; refine Kd.R_append (Kd.int .i64) (w0 := w0) w0.heap.size rfl (.tmp 39) (.tmp 41) 44 3 (.int .i64 0) 8 rfl Try.underlying44 info3 rfl (by decide) (by omega) v266 y265 a1 [.int .i64 a1] (fun k_ => (P0_ k_ ∨ w.heap.size ≤ k_) ∧ some k_ ≠ (.slice Ao31 l0.length co31 : Value).ownBlock) (fun _ => False) rfl rfl ?aP (fun _ hk => hk.elim) ?aF ?aO ?aB ?aS ?aL ?_; (case aP => exact rfl); (case aB => exact (by repeat (first | exact HB.out | apply Ba | apply Bn | apply Bd))); (case aF => exact (fun k_ hk => ⟨(.inr (Nat.le_trans (by first | exact HK.out.1 | exact (show Kept w _ (fun k_ => P0_ k_) from by repeat (first | (with_reducible first | exact HK.out | apply Kept.alloc | apply Kept.drewN | apply Kept.drew) | exact HK.out)).1) hk)), Kd.fresh' (Kd.R_lt (by (with_reducible repeat (first | apply Ra | apply Rn | apply Rd)); exact HO_0.out)) k_ hk⟩)); (case aO => exact (by (with_reducible repeat (first | apply Ra | apply Rn | apply Rd)); exact HO267.out)); (case aS => exact (Bz (by repeat (first | exact HB.out | apply Ba | apply Bn | apply Bd)))); (case aL => have := LMc27.out; omega); intro v269 w36 ho hb hg hat; rw [← Ny268.out] at ho; have n0_ := Am (Kd.R_after (ok := (fun k_ => (P0_ k_ ∨ w.heap.size ≤ k_))) (by (with_reducible repeat (first | apply Ra | apply Rn | apply Rd)); exact HO_0.out) hg hat); have n1_ := Am (hb); have n2_ := Am (Kept.of_grown (S := (fun k_ => P0_ k_)) hg (by repeat (first | (with_reducible first | exact HK.out | apply Kept.alloc | apply Kept.drewN | apply Kept.drew) | exact HK.out)) (fun k_ e_ => (HO267.out.1 k_ e_).1)); have n3_ := Am ((show Kd.C (Kd.int .i64) w36 Ao31 y261.length y261 from by rw [Ny261.out]; exact Kd.C_take (m := (x5_1 : Int).toNat) ((Kd.R_reads' (Kd.R_after (ok := (fun k_ => (P0_ k_ ∨ w.heap.size ≤ k_))) (by (with_reducible repeat (first | apply Ra | apply Rn | apply Rd)); exact HO_0.out) hg hat)).2.2) KL34.out)); have n4_ := Am (ho); clear HO_0; clear HB; clear HK; clear HR264; clear HO267; have HO_0 := n0_; have HB := n1_; have HK := n2_; have HR264 := n3_; have HO270 := n4_; clear n0_ n1_ n2_ n3_ n4_; clear ho hb hg hat; have q37 : (x5_1 : Int) ≤ ((l0.length : Int) : Int) := of_decide_eq_true (by assumption); obtain ⟨i037, hi037, _, hsz37, _⟩ := info_parts info3; have hroom37 : l0.length ≤ co31 := (Kd.R_reads' HO_0.out).2.1; have hC37 : Kd.C (Kd.int .i64) _ Ao31 l0.length l0 := (Kd.R_reads' HO_0.out).2.2; have q037 : (0 : Int) ≤ (x5_1 : Int) := of_decide_eq_true (by assumption); have hcut37 := cut_from (P := Try.prog) 44 3 .i64 Try.underlying44 hi037 1 hsz37 Ao31 l0.length co31 x5_1 q037 q37; have hr37 := Kd.C_drop (m := (x5_1 : Int).toNat) (c := co31) hC37 (by omega) hroom37; obtain ⟨A37, hA37⟩ : ∃ A1, A1 = (if co31 = (x5_1 : Int).toNat then Ao31 else (Ao31 : Option Addr).map (·.add ((x5_1 : Int).toNat * 1))) := ⟨_, rfl⟩; obtain ⟨c37, hc37⟩ : ∃ c1, c1 = co31 - (x5_1 : Int).toNat := ⟨_, rfl⟩; have hy37 : y271.length = l0.length - (x5_1 : Int).toNat := (by rw [Ny271.out, List.length_drop] <;> omega); rw [show (l0).drop (x5_1 : Int).toNat = y271 from Ny271.out.symm] at hr37; replace hr37 : Kd.C (Kd.int .i64) _ A37 y271.length y271 := (by rw [hA37]; exact hr37); rw [← hy37, ← hA37, ← hc37] at hcut37; have HR274 := Am hr37; have HC274 := Am (show y271.length ≤ c37 from by rw [hy37, hc37]; exact Nat.sub_le_sub_right hroom37 _); clear hr37 hC37 hroom37 hi037 hsz37 hc37; have KY37 := Am hy37; have KA37 := Am hA37; clear hy37 hA37; have KL37 := Am (show (x5_1 : Int).toNat ≤ l0.length from by omega); replace q37 := eq_true q37) | ((with_reducible refine gate_builtin (b := .append) (xs := #[.tmp 43, .tmp 46]) rfl ?_); at_builtin; refine Kd.R_append_rows (Kd.int .i64) (w0 := w0) w0.heap.size rfl (.tmp 43) (.tmp 46) 44 3 (.int .i64 0) 8 rfl Try.underlying44 info3 rfl (by decide) (by omega) v269 y268 y271 _ _ _ (fun k_ => (P0_ k_ ∨ w.heap.size ≤ k_) ∧ some k_ ≠ (.slice Ao31 l0.length co31 : Value).ownBlock) (fun _ => False) rfl rfl ?aO ?aR (fun _ _ h => h) (fun _ h => h.elim) ?aF ?aB ?aS ?aL ?_; (case aR => repeat (first | exact (by repeat (first | (with_reducible exact HR274.out) | (with_reducible refine Kd.C_alloc ?_ _) | (with_reducible refine Kd.C_drewN ?_ _) | (with_reducible refine Kd.C_drew ?_) | exact HR274.out)) | (with_reducible refine Kd.C_alloc ?_ _) | (with_reducible refine Kd.C_drewN ?_ _) | (with_reducible refine Kd.C_drew ?_))); (case aB => exact (by repeat (first | exact HB.out | apply Ba | apply Bn | apply Bd))); (case aF => exact (fun k_ hk => ⟨(.inr (Nat.le_trans (by first | exact HK.out.1 | exact (show Kept w _ (fun k_ => P0_ k_) from by repeat (first | (with_reducible first | exact HK.out | apply Kept.alloc | apply Kept.drewN | apply Kept.drew) | exact HK.out)).1) hk)), Kd.fresh' (Kd.R_lt (by (with_reducible repeat (first | apply Ra | apply Rn | apply Rd)); exact HO_0.out)) k_ hk⟩)); (case aO => exact (by (with_reducible repeat (first | apply Ra | apply Rn | apply Rd)); exact HO270.out)); (case aS => exact (Bz (by repeat (first | exact HB.out | apply Ba | apply Bn | apply Bd)))); (case aL => have := LMc30.out; omega); intro v276 w38 ho hb hg hat; rw [← Ny275.out] at ho; have n0_ := Am (Kd.R_after (ok := (fun k_ => (P0_ k_ ∨ w.heap.size ≤ k_))) (by (with_reducible repeat (first | apply Ra | apply Rn | apply Rd)); exact HO_0.out) hg hat); have n1_ := Am (hb); have n2_ := Am (Kept.of_grown (S := (fun k_ => P0_ k_)) hg (by repeat (first | (with_reducible first | exact HK.out | apply Kept.alloc | apply Kept.drewN | apply Kept.drew) | exact HK.out)) (fun k_ e_ => (HO270.out.1 k_ e_).1)); have n3_ := Am ((show Kd.C (Kd.int .i64) w38 Ao31 y261.length y261 from by rw [Ny261.out]; exact Kd.C_take (m := (x5_1 : Int).toNat) ((Kd.R_reads' (Kd.R_after (ok := (fun k_ => (P0_ k_ ∨ w.heap.size ≤ k_))) (by (with_reducible repeat (first | apply Ra | apply Rn | apply Rd)); exact HO_0.out) hg hat)).2.2) KL34.out)); have n4_ := Am ((show Kd.C (Kd.int .i64) w38 A37 y271.length y271 from by rw [Ny271.out, KA37.out]; exact Kd.C_drop (m := (x5_1 : Int).toNat) (c := co31) ((Kd.R_reads' (Kd.R_after (ok := (fun k_ => (P0_ k_ ∨ w.heap.size ≤ k_))) (by (with_reducible repeat (first | apply Ra | apply Rn | apply Rd)); exact HO_0.out) hg hat)).2.2) KL37.out ((Kd.R_reads' (Kd.R_after (ok := (fun k_ => (P0_ k_ ∨ w.heap.size ≤ k_))) (by (with_reducible repeat (first | apply Ra | apply Rn | apply Rd)); exact HO_0.out) hg hat)).2.1))); have n5_ := Am (ho); clear HO_0; clear HB; clear HK; clear HR264; clear HR274; clear HO270; have HO_0 := n0_; have HB := n1_; have HK := n2_; have HR264 := n3_; have HR274 := n4_; have HO277 := n5_; clear n0_ n1_ n2_ n3_ n4_ n5_; clear ho hb hg hat))
         go_ret
         exact ⟨_, by first | rfl | (simp [*, errW_none, errW_some] <;> rfl), by (with_reducible repeat (first | apply Ra | apply Rn | apply Rd)); exact Kd.R_mono HO277.out (fun _ hk => hk.1), by repeat (first | exact HB.out | apply Ba | apply Bn | apply Bd), by repeat (first | (with_reducible first | exact HK.out | apply Kept.alloc | apply Kept.drewN | apply Kept.drew) | exact HK.out)⟩
        ·rw [if_neg c30] at H
         exact absurd H (by simp)
       ·rw [if_neg c27] at H
        exact absurd H (by simp)
      ·rw [if_neg c26] at H
       exact absurd H (by simp)
     ·rw [if_neg c25] at H
      exact absurd H (by simp)
    ·rw [if_neg c24] at H
     exact absurd H (by simp)
def spec_l2Touches.f (k : Nat) (a0_0 : Int) (a0_1 : Int) (a0_2 : Int) (a0_3 : Int) (a0_4 : Int) : Option (List Int) := if a0_0 = 1 then ((spec_l1Put.f k (([a0_2] : List Int)) a0_3).bind fun t282 => (some t282)) else (if a0_0 = 2 then (some (([a0_2] : List Int))) else (some ([] : List Int)))
theorem spec_l2Touches.mono : ∀ a0 a1 a2 a3 a4 k, LeO (spec_l2Touches.f k a0 a1 a2 a3 a4) (spec_l2Touches.f (k + 1) a0 a1 a2 a3 a4) := by
 intro a0 a1 a2 a3 a4 k
 unfold spec_l2Touches.f
 repeat' first
   | (with_reducible exact spec_l1Put.mono _ _ _)
   | (with_reducible exact LeO.refl _)
   | (with_reducible exact LeO.none _)
   | (with_reducible refine LeO.ite ?_ ?_)
   | (with_reducible refine LeO.bind ?_ (fun _ => ?_))
   | exact spec_l1Put.mono _ _ _
   | exact LeO.none _
   | refine LeO.ite ?_ ?_
   | refine LeO.bind ?_ (fun _ => ?_)
set_option maxHeartbeats 8000000 in
set_option maxRecDepth 100000 in
theorem spec_l2Touches.calls (k : Nat) (a0_0 : Int) (a0_1 : Int) (a0_2 : Int) (a0_3 : Int) (a0_4 : Int) (r : List Int) (w : World) (h : spec_l2Touches.f k a0_0 a0_1 a0_2 a0_3 a0_4 = some r) :
  Calls Try.prog 115 #[.agg #[.int .i64 a0_0, .int .i64 a0_1, .int .i64 a0_2, .int .i64 a0_3, .int .i64 a0_4]] w fun e w' => ∃ v0_ : Value, e = .returned (v0_) ∧ Kd.R (Kd.int .i64) 3 w' w.heap.size (fun _ => True) v0_ r ∧ Below w.heap.size w w' := by
 have hu49 := Try.underlying49
 have HB := Am (Below.refl w.heap.size w)
 have H : (if a0_0 = 1 then ((spec_l1Put.f k (([a0_2] : List Int)) a0_3).bind fun t282 => (some t282)) else (if a0_0 = 2 then (some (([a0_2] : List Int))) else (some ([] : List Int)))) = some r := h
 clear h
 by_cases c2 : a0_0 = 1
 ·rw [if_pos c2] at H
  have c2b0 : (a0_0 == 1) = true := beq_iff_eq.mpr c2
  have c2b1 : (a0_0 != 1) = false := bne_eq_false_iff_eq.mpr c2
  clear c2
  obtain ⟨y279, hy279⟩ : ∃ y_ : List Int, y_ = (([a0_2] : List Int)) := ⟨_, rfl⟩
  replace H : ((spec_l1Put.f k y279 a0_3).bind fun t282 => (some t282)) = some r := by first | (rw [hy279]; with_reducible exact H) | (have H2_ := (Option.bind_some _ _).symm.trans H; rw [hy279]; with_reducible exact H2_) | (have H2_ := (Option.bind_some _ _).symm.trans H; with_reducible exact H2_) | with_reducible exact H | (rw [hy279]; exact H) | exact H
  have Ny279 := Am hy279
  clear hy279
  replace H := Option.bind_eq_some_iff.mp H
  obtain ⟨t282, A30, H⟩ := H
  replace H : (some t282) = some r := H
  have A3 := Am A30
  clear A30
  obtain rfl := Option.some.inj H
  go_enter Try.func115, Try.ntmps115
  go_wp2_with (first | ((refine Gd (N := 1) rfl ?_); refine Be ?hg (N := 1) ?hd (cs := #[.int .i64 a0_0, .int .i64 a0_1, .int .i64 a0_2, .int .i64 a0_3, .int .i64 a0_4]) (t := 49) ?hr ?_; (case hd | hg => rfl); (case hr => first | (go_simp; done) | (go_simp; rfl)); intro gb278 hg w4 hbox hb; have n0_ := Am (Bt (by repeat (first | exact HB.out | apply Ba | apply Bn | apply Bd)) hb); have n1_ := Am (hbox); have n2_ := Am ((by rw [hg]; exact (Bz (by repeat (first | exact HB.out | apply Ba | apply Bn | apply Bd))) : w.heap.size ≤ gb278)); have n3_ := Am ((by rw [hg]; exact (Bz (by repeat (first | exact HB.out | apply Ba | apply Bn | apply Bd))) : w.heap.size ≤ gb278)); clear HB; have HB := n0_; have BK278 := n1_; have GW278 := n2_; have GE278 := n3_; clear n0_ n1_ n2_ n3_; clear hb hbox hg; have hcz5_0 : w4.cell? ⟨gb278, 0, none⟩ = some (.int .i64 a0_0) := (Kc BK278.out 0).trans rfl; have hcz5_1 : w4.cell? ⟨gb278, 1, none⟩ = some (.int .i64 a0_1) := (Kc BK278.out 1).trans rfl; have hcz5_2 : w4.cell? ⟨gb278, 2, none⟩ = some (.int .i64 a0_2) := (Kc BK278.out 2).trans rfl; have hcz5_3 : w4.cell? ⟨gb278, 3, none⟩ = some (.int .i64 a0_3) := (Kc BK278.out 3).trans rfl; have hcz5_4 : w4.cell? ⟨gb278, 4, none⟩ = some (.int .i64 a0_4) := (Kc BK278.out 4).trans rfl; have hfz5_0 := Kz BK278.out 0; have hfz5_1 := Kz BK278.out 1; have hfz5_2 := Kz BK278.out 2; have hfz5_3 := Kz BK278.out 3; have hfz5_4 := Kz BK278.out 4) | ((refine Gd (N := 9) rfl ?_); refine Kd.R_lit (Kd.int .i64) _ 3 ?hg (N := 9) ?hd (xs := ([a0_2] : List Int)) (inner := [.int .i64 a0_2]) (ok := fun _ => True) (okp := fun _ => True) ?hr ?hp (fun _ hk => hk) trivial (Below.refl _ _) (Nat.le_refl _) (by simp) ?_; (case hd | hg => rfl); (case hr => first | (go_simp; done) | (go_simp; rfl)); (case hp => exact (Reps.one (show Kd.M (Kd.int .i64) _ _ _ a0_2 [.int .i64 a0_2] from rfl) (Reps.none _ _))); intro v280 w6 ho7 hb hg_ hnew_; clear hg_ hnew_; (first | rw [← Ny279.out] at ho7 | (simp only [Int.reduceToNat] at ho7; rw [← Ny279.out] at ho7)); have n0_ := Am (Kd.R_lower ho7 (Bz (by repeat (first | (with_reducible first | exact HB.out | apply Ba | apply Bn | apply Bd | refine Bs ?_ GE278.out) | exact HB.out)))); have n1_ := Am (Kb (g := gb278) (o := .cells #[.int .i64 a0_0, .int .i64 a0_1, .int .i64 a0_2, .int .i64 a0_3, .int .i64 a0_4] 49 (0, 0)) (by (with_reducible repeat (first | refine Kn ?_ _ | refine Ke ?_ | refine Ka ?_ _)); exact BK278.out) hb); have n2_ := Am (Bt (by repeat (first | (with_reducible first | exact HB.out | apply Ba | apply Bn | apply Bd | refine Bs ?_ GE278.out) | exact HB.out)) hb); clear BK278; clear HB; have HO281 := n0_; have BK278 := n1_; have HB := n2_; clear n0_ n1_ n2_; clear hb ho7; have hcz8_0 : w6.cell? ⟨gb278, 0, none⟩ = some (.int .i64 a0_0) := (Kc BK278.out 0).trans rfl; have hcz8_1 : w6.cell? ⟨gb278, 1, none⟩ = some (.int .i64 a0_1) := (Kc BK278.out 1).trans rfl; have hcz8_2 : w6.cell? ⟨gb278, 2, none⟩ = some (.int .i64 a0_2) := (Kc BK278.out 2).trans rfl; have hcz8_3 : w6.cell? ⟨gb278, 3, none⟩ = some (.int .i64 a0_3) := (Kc BK278.out 3).trans rfl; have hcz8_4 : w6.cell? ⟨gb278, 4, none⟩ = some (.int .i64 a0_4) := (Kc BK278.out 4).trans rfl; have hfz8_0 := Kz BK278.out 0; have hfz8_1 := Kz BK278.out 1; have hfz8_2 := Kz BK278.out 2; have hfz8_3 := Kz BK278.out 3; have hfz8_4 := Kz BK278.out 4; obtain ⟨Ao9, co9, eo9⟩ := Kd.R_slice HO281.out; subst eo9) | ((refine Gc (f := 128) rfl ?_); refine goesL_ (some 12) rfl rfl Try.func128 (by kernel_rfl) rfl #[.slice Ao9 y279.length co9, .int .i64 a0_3] rfl (by first | rfl | (simp only [List.map_toArray, List.map_cons, List.map_nil]; first | done | rfl)) ?_; (with_reducible refine (spec_l1Put.calls k (fun k_ => some k_ = (.slice Ao9 y279.length co9 : Value).ownBlock) (.slice Ao9 y279.length co9) y279 a0_3 t282 w _ ?side1 ?side2 A3.out).mono ?_); (case side1 => repeat (first | (with_reducible first | exact HB.out | apply Ba | apply Bn | apply Bd | refine Bs ?_ GE278.out) | exact HB.out)); (case side2 => exact Kd.R_tight rfl HO281.out); rintro e w10 ⟨v283, rfl, ho0, hb, hkp⟩; refine ⟨_, rfl, ?_⟩; have n0_ := Am (blk_kept (by (with_reducible repeat (first | refine Kn ?_ _ | refine Ke ?_ | refine Ka ?_ _)); exact BK278.out) hkp (fun hs_ => (fun e_ => (Kd.R_ne HO281.out BK278.out (by decide)) e_) hs_)); have n1_ := Am (Kd.R_mono (ok' := fun k_ => True) ho0 (fun k_ hk_ => trivial)); have n2_ := Am (hb); clear BK278; clear HB; clear HO281; have BK278 := n0_; have HO284 := n1_; have HB := n2_; clear n0_ n1_ n2_; (try clear hb); (try clear hkp); (try clear ho0)))
  go_ret
  exact ⟨_, by first | rfl | (simp [*, errW_none, errW_some] <;> rfl), by (with_reducible repeat (first | apply Ra | apply Rn | apply Rd)); exact HO284.out, by repeat (first | (with_reducible first | exact HB.out | apply Ba | apply Bn | apply Bd | refine Bs ?_ GE278.out) | exact HB.out)⟩
 ·rw [if_neg c2] at H
  have c2b0 : (a0_0 == 1) = false := beq_eq_false_iff_ne.mpr c2
  have c2b1 : (a0_0 != 1) = true := bne_iff_ne.mpr c2
  by_cases c11 : a0_0 = 2
  ·rw [if_pos c11] at H
   have c11b0 : (a0_0 == 2) = true := beq_iff_eq.mpr c11
   have c11b1 : (a0_0 != 2) = false := bne_eq_false_iff_eq.mpr c11
   clear c11
   obtain ⟨y285, hy285⟩ : ∃ y_ : List Int, y_ = (([a0_2] : List Int)) := ⟨_, rfl⟩
   replace H : (some y285) = some r := by first | (rw [hy285]; with_reducible exact H) | (have H2_ := (Option.bind_some _ _).symm.trans H; rw [hy285]; with_reducible exact H2_) | (have H2_ := (Option.bind_some _ _).symm.trans H; with_reducible exact H2_) | with_reducible exact H | (rw [hy285]; exact H) | exact H
   have Ny285 := Am hy285
   clear hy285
   obtain rfl := Option.some.inj H
   go_enter Try.func115, Try.ntmps115
   go_wp2_with (first | ((refine Gd (N := 1) rfl ?_); refine Be ?hg (N := 1) ?hd (cs := #[.int .i64 a0_0, .int .i64 a0_1, .int .i64 a0_2, .int .i64 a0_3, .int .i64 a0_4]) (t := 49) ?hr ?_; (case hd | hg => rfl); (case hr => first | (go_simp; done) | (go_simp; rfl)); intro gb278 hg w12 hbox hb; have n0_ := Am (Bt (by repeat (first | exact HB.out | apply Ba | apply Bn | apply Bd)) hb); have n1_ := Am (hbox); have n2_ := Am ((by rw [hg]; exact (Bz (by repeat (first | exact HB.out | apply Ba | apply Bn | apply Bd))) : w.heap.size ≤ gb278)); have n3_ := Am ((by rw [hg]; exact (Bz (by repeat (first | exact HB.out | apply Ba | apply Bn | apply Bd))) : w.heap.size ≤ gb278)); clear HB; have HB := n0_; have BK278 := n1_; have GW278 := n2_; have GE278 := n3_; clear n0_ n1_ n2_ n3_; clear hb hbox hg; have hcz13_0 : w12.cell? ⟨gb278, 0, none⟩ = some (.int .i64 a0_0) := (Kc BK278.out 0).trans rfl; have hcz13_1 : w12.cell? ⟨gb278, 1, none⟩ = some (.int .i64 a0_1) := (Kc BK278.out 1).trans rfl; have hcz13_2 : w12.cell? ⟨gb278, 2, none⟩ = some (.int .i64 a0_2) := (Kc BK278.out 2).trans rfl; have hcz13_3 : w12.cell? ⟨gb278, 3, none⟩ = some (.int .i64 a0_3) := (Kc BK278.out 3).trans rfl; have hcz13_4 : w12.cell? ⟨gb278, 4, none⟩ = some (.int .i64 a0_4) := (Kc BK278.out 4).trans rfl; have hfz13_0 := Kz BK278.out 0; have hfz13_1 := Kz BK278.out 1; have hfz13_2 := Kz BK278.out 2; have hfz13_3 := Kz BK278.out 3; have hfz13_4 := Kz BK278.out 4) | ((refine Gd (N := 17) rfl ?_); refine Kd.R_lit (Kd.int .i64) _ 3 ?hg (N := 17) ?hd (xs := ([a0_2] : List Int)) (inner := [.int .i64 a0_2]) (ok := fun _ => True) (okp := fun _ => True) ?hr ?hp (fun _ hk => hk) trivial (Below.refl _ _) (Nat.le_refl _) (by simp) ?_; (case hd | hg => rfl); (case hr => first | (go_simp; done) | (go_simp; rfl)); (case hp => exact (Reps.one (show Kd.M (Kd.int .i64) _ _ _ a0_2 [.int .i64 a0_2] from rfl) (Reps.none _ _))); intro v286 w14 ho15 hb hg_ hnew_; clear hg_ hnew_; (first | rw [← Ny285.out] at ho15 | (simp only [Int.reduceToNat] at ho15; rw [← Ny285.out] at ho15)); have n0_ := Am (Kd.R_lower ho15 (Bz (by repeat (first | (with_reducible first | exact HB.out | apply Ba | apply Bn | apply Bd | refine Bs ?_ GE278.out) | exact HB.out)))); have n1_ := Am (Kb (g := gb278) (o := .cells #[.int .i64 a0_0, .int .i64 a0_1, .int .i64 a0_2, .int .i64 a0_3, .int .i64 a0_4] 49 (0, 0)) (by (with_reducible repeat (first | refine Kn ?_ _ | refine Ke ?_ | refine Ka ?_ _)); exact BK278.out) hb); have n2_ := Am (Bt (by repeat (first | (with_reducible first | exact HB.out | apply Ba | apply Bn | apply Bd | refine Bs ?_ GE278.out) | exact HB.out)) hb); clear BK278; clear HB; have HO287 := n0_; have BK278 := n1_; have HB := n2_; clear n0_ n1_ n2_; clear hb ho15))
   go_ret
   exact ⟨_, by first | rfl | (simp [*, errW_none, errW_some] <;> rfl), by (with_reducible repeat (first | apply Ra | apply Rn | apply Rd)); exact HO287.out, by repeat (first | (with_reducible first | exact HB.out | apply Ba | apply Bn | apply Bd | refine Bs ?_ GE278.out) | exact HB.out)⟩
  ·rw [if_neg c11] at H
   have c11b0 : (a0_0 == 2) = false := beq_eq_false_iff_ne.mpr c11
   have c11b1 : (a0_0 != 2) = true := bne_iff_ne.mpr c11
   obtain rfl := Option.some.inj H
   go_enter Try.func115, Try.ntmps115
   go_wp2_with (first | ((refine Gd (N := 1) rfl ?_); refine Be ?hg (N := 1) ?hd (cs := #[.int .i64 a0_0, .int .i64 a0_1, .int .i64 a0_2, .int .i64 a0_3, .int .i64 a0_4]) (t := 49) ?hr ?_; (case hd | hg => rfl); (case hr => first | (go_simp; done) | (go_simp; rfl)); intro gb278 hg w16 hbox hb; have n0_ := Am (Bt (by repeat (first | exact HB.out | apply Ba | apply Bn | apply Bd)) hb); have n1_ := Am (hbox); have n2_ := Am ((by rw [hg]; exact (Bz (by repeat (first | exact HB.out | apply Ba | apply Bn | apply Bd))) : w.heap.size ≤ gb278)); have n3_ := Am ((by rw [hg]; exact (Bz (by repeat (first | exact HB.out | apply Ba | apply Bn | apply Bd))) : w.heap.size ≤ gb278)); clear HB; have HB := n0_; have BK278 := n1_; have GW278 := n2_; have GE278 := n3_; clear n0_ n1_ n2_ n3_; clear hb hbox hg; have hcz17_0 : w16.cell? ⟨gb278, 0, none⟩ = some (.int .i64 a0_0) := (Kc BK278.out 0).trans rfl; have hcz17_1 : w16.cell? ⟨gb278, 1, none⟩ = some (.int .i64 a0_1) := (Kc BK278.out 1).trans rfl; have hcz17_2 : w16.cell? ⟨gb278, 2, none⟩ = some (.int .i64 a0_2) := (Kc BK278.out 2).trans rfl; have hcz17_3 : w16.cell? ⟨gb278, 3, none⟩ = some (.int .i64 a0_3) := (Kc BK278.out 3).trans rfl; have hcz17_4 : w16.cell? ⟨gb278, 4, none⟩ = some (.int .i64 a0_4) := (Kc BK278.out 4).trans rfl; have hfz17_0 := Kz BK278.out 0; have hfz17_1 := Kz BK278.out 1; have hfz17_2 := Kz BK278.out 2; have hfz17_3 := Kz BK278.out 3; have hfz17_4 := Kz BK278.out 4))
   go_ret
   exact ⟨_, by first | rfl | (simp [*, errW_none, errW_some] <;> rfl), by first | exact Kd.R_nil _ _ _ _ _ | exact Kd.N_nil _ _ _ _ _ | exact Kd.V_nil _ _ _ _ _ | exact Kd.Q_nil _ _ _ _ _ | exact Kd.S_nil _ _ _ _ _, by repeat (first | (with_reducible first | exact HB.out | apply Ba | apply Bn | apply Bd | refine Bs ?_ GE278.out) | exact HB.out)⟩
def spec_l2Interfere.l0 : Nat → List Int → Int → Int → Int → Int → Int → Int → Int → Option (Bool)
 | 0, _, _, _, _, _, _, _, _ => none
 | k + 1, x8, x9, x10, x290000, x290001, x290002, x290003, x290004 => if x10 < x9 then (if 0 ≤ x10 then (if x10 < (x8.length : Int) then ((spec_l2Touches.f k x290000 x290001 x290002 x290003 x290004).bind fun t294 => ((spec_l1Has.f k t294 (rd x8 x10)).bind fun t297 => (if t297 = true then (some true) else (spec_l2Interfere.l0 k x8 x9 (wrap64 (x10 + 1)) x290000 x290001 x290002 x290003 x290004)))) else (none)) else (none)) else (some false)
def spec_l2Interfere.f (k : Nat) (a0_0 : Int) (a0_1 : Int) (a0_2 : Int) (a0_3 : Int) (a0_4 : Int) (a1_0 : Int) (a1_1 : Int) (a1_2 : Int) (a1_3 : Int) (a1_4 : Int) : Option (Bool) := (spec_l2Touches.f k a0_0 a0_1 a0_2 a0_3 a0_4).bind fun t290 => (spec_l2Interfere.l0 k t290 (t290.length : Int) 0 a1_0 a1_1 a1_2 a1_3 a1_4)
theorem spec_l2Interfere.mono_l : ∀ k, (∀ y0 y1 y2 y3 y4 y5 y6 y7, LeO (spec_l2Interfere.l0 k y0 y1 y2 y3 y4 y5 y6 y7) (spec_l2Interfere.l0 (k + 1) y0 y1 y2 y3 y4 y5 y6 y7))
 | 0 => fun _ _ _ _ _ _ _ _ r h => by simp [spec_l2Interfere.l0] at h
 | k + 1 => by
  have ih0 := spec_l2Interfere.mono_l k
  ·intro y0 y1 y2 y3 y4 y5 y6 y7
   unfold spec_l2Interfere.l0
   repeat' first
   | (with_reducible exact ih0 _ _ _ _ _ _ _ _)
   | (with_reducible exact spec_l1Has.mono _ _ _)
   | (with_reducible exact spec_l2Touches.mono _ _ _ _ _ _)
   | (with_reducible exact LeO.refl _)
   | (with_reducible exact LeO.none _)
   | (with_reducible refine LeO.ite ?_ ?_)
   | (with_reducible refine LeO.bind ?_ (fun _ => ?_))
   | exact ih0 _ _ _ _ _ _ _ _
   | exact spec_l1Has.mono _ _ _
   | exact spec_l2Touches.mono _ _ _ _ _ _
   | exact LeO.none _
   | refine LeO.ite ?_ ?_
   | refine LeO.bind ?_ (fun _ => ?_)
theorem spec_l2Interfere.mono : ∀ a0 a1 a2 a3 a4 a5 a6 a7 a8 a9 k, LeO (spec_l2Interfere.f k a0 a1 a2 a3 a4 a5 a6 a7 a8 a9) (spec_l2Interfere.f (k + 1) a0 a1 a2 a3 a4 a5 a6 a7 a8 a9) := by
 intro a0 a1 a2 a3 a4 a5 a6 a7 a8 a9 k
 have ih0 := spec_l2Interfere.mono_l k
 unfold spec_l2Interfere.f
 repeat' first
   | (with_reducible exact ih0 _ _ _ _ _ _ _ _)
   | (with_reducible exact spec_l1Has.mono _ _ _)
   | (with_reducible exact spec_l2Touches.mono _ _ _ _ _ _)
   | (with_reducible exact LeO.refl _)
   | (with_reducible exact LeO.none _)
   | (with_reducible refine LeO.ite ?_ ?_)
   | (with_reducible refine LeO.bind ?_ (fun _ => ?_))
   | exact ih0 _ _ _ _ _ _ _ _
   | exact spec_l1Has.mono _ _ _
   | exact spec_l2Touches.mono _ _ _ _ _ _
   | exact LeO.none _
   | refine LeO.ite ?_ ?_
   | refine LeO.bind ?_ (fun _ => ?_)
set_option maxHeartbeats 8000000 in
set_option maxRecDepth 100000 in
theorem spec_l2Interfere.calls (k : Nat) (a0_0 : Int) (a0_1 : Int) (a0_2 : Int) (a0_3 : Int) (a0_4 : Int) (a1_0 : Int) (a1_1 : Int) (a1_2 : Int) (a1_3 : Int) (a1_4 : Int) (r : Bool) (w : World) (h : spec_l2Interfere.f k a0_0 a0_1 a0_2 a0_3 a0_4 a1_0 a1_1 a1_2 a1_3 a1_4 = some r) :
  Calls Try.prog 92 #[.agg #[.int .i64 a0_0, .int .i64 a0_1, .int .i64 a0_2, .int .i64 a0_3, .int .i64 a0_4], .agg #[.int .i64 a1_0, .int .i64 a1_1, .int .i64 a1_2, .int .i64 a1_3, .int .i64 a1_4]] w fun e w' => e = .returned (.bool r) ∧ Below w.heap.size w w' := by
 have hu49 := Try.underlying49
 have HB := Am (Below.refl w.heap.size w)
 have H : ((spec_l2Touches.f k a0_0 a0_1 a0_2 a0_3 a0_4).bind fun t290 => (spec_l2Interfere.l0 k t290 (t290.length : Int) 0 a1_0 a1_1 a1_2 a1_3 a1_4)) = some r := h
 clear h
 replace H := Option.bind_eq_some_iff.mp H
 obtain ⟨t290, A30, H⟩ := H
 replace H : (spec_l2Interfere.l0 k t290 (t290.length : Int) 0 a1_0 a1_1 a1_2 a1_3 a1_4) = some r := H
 have A3 := Am A30
 clear A30
 have H' := Am H
 clear H
 go_enter Try.func92, Try.ntmps92
 go_wp2_with (first | ((refine Gd (N := 2) rfl ?_); refine Be ?hg (N := 2) ?hd (cs := #[.int .i64 a0_0, .int .i64 a0_1, .int .i64 a0_2, .int .i64 a0_3, .int .i64 a0_4]) (t := 49) ?hr ?_; (case hd | hg => rfl); (case hr => first | (go_simp; done) | (go_simp; rfl)); intro gb288 hg w4 hbox hb; have n0_ := Am (Bt (by repeat (first | exact HB.out | apply Ba | apply Bn | apply Bd)) hb); have n1_ := Am (hbox); have n2_ := Am ((by rw [hg]; exact (Bz (by repeat (first | exact HB.out | apply Ba | apply Bn | apply Bd))) : w.heap.size ≤ gb288)); have n3_ := Am ((by rw [hg]; exact (Bz (by repeat (first | exact HB.out | apply Ba | apply Bn | apply Bd))) : w.heap.size ≤ gb288)); clear HB; have HB := n0_; have BK288 := n1_; have GW288 := n2_; have GE288 := n3_; clear n0_ n1_ n2_ n3_; clear hb hbox hg) | ((refine Gd (N := 3) rfl ?_); refine Be ?hg (N := 3) ?hd (cs := #[.int .i64 a1_0, .int .i64 a1_1, .int .i64 a1_2, .int .i64 a1_3, .int .i64 a1_4]) (t := 49) ?hr ?_; (case hd | hg => rfl); (case hr => first | (go_simp; done) | (go_simp; rfl)); intro gb289 hg w5 hbox hb; have n0_ := Am (Kb (g := gb288) (o := .cells #[.int .i64 a0_0, .int .i64 a0_1, .int .i64 a0_2, .int .i64 a0_3, .int .i64 a0_4] 49 (0, 0)) (by (with_reducible repeat (first | refine Kn ?_ _ | refine Ke ?_ | refine Ka ?_ _)); exact BK288.out) hb); have n1_ := Am (Bt (by repeat (first | (with_reducible first | exact HB.out | apply Ba | apply Bn | apply Bd | refine Bs ?_ GE288.out) | exact HB.out)) hb); have n2_ := Am (hbox); have n3_ := Am ((by rw [hg]; exact (Bz (by repeat (first | (with_reducible first | exact HB.out | apply Ba | apply Bn | apply Bd | refine Bs ?_ GE288.out) | exact HB.out))) : w.heap.size ≤ gb289)); have n4_ := Am ((by rw [hg]; exact (Bz (by repeat (first | (with_reducible first | exact HB.out | apply Ba | apply Bn | apply Bd | refine Bs ?_ GE288.out) | exact HB.out))) : w.heap.size ≤ gb289)); have n5_ := Am ((by rw [hg]; exact Nat.ne_of_lt (blk_lt (g := gb288) (o := .cells #[.int .i64 a0_0, .int .i64 a0_1, .int .i64 a0_2, .int .i64 a0_3, .int .i64 a0_4] 49 (0, 0)) (by (with_reducible repeat (first | refine Kn ?_ _ | refine Ke ?_ | refine Ka ?_ _)); exact BK288.out)) : gb288 ≠ gb289)); have n6_ := Am ((by rw [hg]; exact Nat.ne_of_gt (blk_lt (g := gb288) (o := .cells #[.int .i64 a0_0, .int .i64 a0_1, .int .i64 a0_2, .int .i64 a0_3, .int .i64 a0_4] 49 (0, 0)) (by (with_reducible repeat (first | refine Kn ?_ _ | refine Ke ?_ | refine Ka ?_ _)); exact BK288.out)) : gb289 ≠ gb288)); clear BK288; clear HB; have BK288 := n0_; have HB := n1_; have BK289 := n2_; have GW289 := n3_; have GE289 := n4_; have NB288_289 := n5_; have NB289_288 := n6_; clear n0_ n1_ n2_ n3_ n4_ n5_ n6_; clear hb hbox hg; have hnb6 := NB288_289.out; have hnc6 := NB289_288.out; have hcz7_0 : w5.cell? ⟨gb288, 0, none⟩ = some (.int .i64 a0_0) := (Kc BK288.out 0).trans rfl; have hcz7_1 : w5.cell? ⟨gb288, 1, none⟩ = some (.int .i64 a0_1) := (Kc BK288.out 1).trans rfl; have hcz7_2 : w5.cell? ⟨gb288, 2, none⟩ = some (.int .i64 a0_2) := (Kc BK288.out 2).trans rfl; have hcz7_3 : w5.cell? ⟨gb288, 3, none⟩ = some (.int .i64 a0_3) := (Kc BK288.out 3).trans rfl; have hcz7_4 : w5.cell? ⟨gb288, 4, none⟩ = some (.int .i64 a0_4) := (Kc BK288.out 4).trans rfl; have hfz7_0 := Kz BK288.out 0; have hfz7_1 := Kz BK288.out 1; have hfz7_2 := Kz BK288.out 2; have hfz7_3 := Kz BK288.out 3; have hfz7_4 := Kz BK288.out 4) | ((refine Gc (f := 115) rfl ?_); refine goesL_ (some 8) rfl rfl Try.func115 (by kernel_rfl) rfl #[.agg #[.int .i64 a0_0, .int .i64 a0_1, .int .i64 a0_2, .int .i64 a0_3, .int .i64 a0_4]] rfl (by first | rfl | (simp only [List.map_toArray, List.map_cons, List.map_nil]; first | done | rfl)) ?_; (with_reducible refine (spec_l2Touches.calls k a0_0 a0_1 a0_2 a0_3 a0_4 t290 _ A3.out).mono ?_); rintro e w8 ⟨v291, rfl, ho0, hb⟩; refine ⟨_, rfl, ?_⟩; have n0_ := Am (Kd.R_lower ho0 (Bz (by repeat (first | (with_reducible first | exact HB.out | apply Ba | apply Bn | apply Bd | refine Bs ?_ GE288.out | refine Bs ?_ GE289.out) | exact HB.out)))); have n1_ := Am (Kb (g := gb288) (o := .cells #[.int .i64 a0_0, .int .i64 a0_1, .int .i64 a0_2, .int .i64 a0_3, .int .i64 a0_4] 49 (0, 0)) (by (with_reducible repeat (first | refine Kn ?_ _ | refine Ke ?_ | refine Ka ?_ _)); exact BK288.out) hb); have n2_ := Am (Kb (g := gb289) (o := .cells #[.int .i64 a1_0, .int .i64 a1_1, .int .i64 a1_2, .int .i64 a1_3, .int .i64 a1_4] 49 (0, 0)) (by (with_reducible repeat (first | refine Kn ?_ _ | refine Ke ?_ | refine Ka ?_ _)); exact BK289.out) hb); have n3_ := Am (Bt (by repeat (first | (with_reducible first | exact HB.out | apply Ba | apply Bn | apply Bd | refine Bs ?_ GE288.out | refine Bs ?_ GE289.out) | exact HB.out)) hb); clear BK288; clear BK289; clear HB; have HO292 := n0_; have BK288 := n1_; have BK289 := n2_; have HB := n3_; clear n0_ n1_ n2_ n3_; (try clear hb); (try clear hb2); (try clear hk); (try clear hi); (try clear ho0); obtain ⟨Ao9, co9, eo9⟩ := Kd.R_slice HO292.out; subst eo9))
 go_loopg [10] k (fun kq v10 w' => ∃ (x10_1 : Int), v10 = .int .i64 x10_1 ∧ Ad (spec_l2Interfere.l0 kq t290 (t290.length : Int) x10_1 a1_0 a1_1 a1_2 a1_3 a1_4 = some r) ∧ Ad (kq ≤ k) ∧ Ad (Kd.R (Kd.int .i64) 3 w' w.heap.size (fun _ => True) (.slice Ao9 t290.length co9) t290) ∧ Ad (w'.heap[gb288]? = some (.cells #[.int .i64 a0_0, .int .i64 a0_1, .int .i64 a0_2, .int .i64 a0_3, .int .i64 a0_4] 49 (0, 0))) ∧ Ad (w'.heap[gb289]? = some (.cells #[.int .i64 a1_0, .int .i64 a1_1, .int .i64 a1_2, .int .i64 a1_3, .int .i64 a1_4] 49 (0, 0))) ∧ Ad (Below w.heap.size w w'))
 case atStart => exact ⟨(0), (by first | rfl | (simp; done) | (simp [*]; done)), H', ⟨Nat.le_refl _⟩, ⟨by (with_reducible repeat (first | apply Ra | apply Rn | apply Rd)); exact HO292.out⟩, ⟨by (with_reducible repeat (first | refine Kn ?_ _ | refine Ke ?_ | refine Ka ?_ _)); exact BK288.out⟩, ⟨by (with_reducible repeat (first | refine Kn ?_ _ | refine Ke ?_ | refine Ka ?_ _)); exact BK289.out⟩, ⟨by repeat (first | (with_reducible first | exact HB.out | apply Ba | apply Bn | apply Bd | refine Bs ?_ GE288.out | refine Bs ?_ GE289.out) | exact HB.out)⟩⟩
 case round =>
  clear H'
  try clear c1
  try clear p2
  try clear c6
  try clear c9
  try clear hcz7_0
  try clear hcz7_1
  try clear hcz7_2
  try clear hcz7_3
  try clear hcz7_4
  try clear hfz7_0
  try clear hfz7_1
  try clear hfz7_2
  try clear hfz7_3
  try clear hfz7_4
  obtain ⟨x10_1, rfl, HA, HK1, HO_8, BK288, BK289, HB⟩ := hrel
  cases gk with
  | zero => exact absurd HA.out (by simp [spec_l2Interfere.l0])
  | succ k1 =>
   have H := HA.out
   clear HA
   simp only [spec_l2Interfere.l0] at H
   by_cases c10 : x10_1 < (t290.length : Int)
   ·rw [if_pos c10] at H
    have c10b0 : decide (x10_1 < (t290.length : Int)) = true := decide_eq_true c10
    clear c10
    by_cases c11 : 0 ≤ x10_1
    ·rw [if_pos c11] at H
     have c11b0 : decide (0 ≤ x10_1) = true := decide_eq_true c11
     clear c11
     by_cases c12 : x10_1 < (t290.length : Int)
     ·rw [if_pos c12] at H
      have c12b0 : decide (x10_1 < (t290.length : Int)) = true := decide_eq_true c12
      clear c12
      replace H := Option.bind_eq_some_iff.mp H
      obtain ⟨t294, A130, H⟩ := H
      replace H : ((spec_l1Has.f k1 t294 (rd t290 x10_1)).bind fun t297 => (if t297 = true then (some true) else (spec_l2Interfere.l0 k1 t290 (t290.length : Int) (wrap64 (x10_1 + 1)) a1_0 a1_1 a1_2 a1_3 a1_4))) = some r := H
      have A13 := Am A130
      clear A130
      replace H := Option.bind_eq_some_iff.mp H
      obtain ⟨t297, A140, H⟩ := H
      replace H : (if t297 = true then (some true) else (spec_l2Interfere.l0 k1 t290 (t290.length : Int) (wrap64 (x10_1 + 1)) a1_0 a1_1 a1_2 a1_3 a1_4)) = some r := H
      have A14 := Am A140
      clear A140
      by_cases c15 : t297 = true
      ·subst c15
       have H1 : (some true) = some r := by rw [if_pos rfl] at H; exact H
       clear H
       have H := H1
       clear H1
       obtain rfl := Option.some.inj H
       have p293 : 0 ≤ (x10_1 : Int) := of_decide_eq_true (by assumption)
       have q293 : x10_1 < (t290.length : Int) := of_decide_eq_true (by assumption)
       obtain ⟨ad293, e293, hx293_0⟩ := Kd.at_int (Kd.R_reads' HO_8.out).2.2 x10_1 p293 q293
       cases e293
       replace p293 := eq_true p293
       replace q293 := eq_true q293
       have hnb16 := NB289_288.out
       have hnc16 := NB288_289.out
       have hcz17_0 : wr.cell? ⟨gb289, 0, none⟩ = some (.int .i64 a1_0) := (Kc BK289.out 0).trans rfl
       have hcz17_1 : wr.cell? ⟨gb289, 1, none⟩ = some (.int .i64 a1_1) := (Kc BK289.out 1).trans rfl
       have hcz17_2 : wr.cell? ⟨gb289, 2, none⟩ = some (.int .i64 a1_2) := (Kc BK289.out 2).trans rfl
       have hcz17_3 : wr.cell? ⟨gb289, 3, none⟩ = some (.int .i64 a1_3) := (Kc BK289.out 3).trans rfl
       have hcz17_4 : wr.cell? ⟨gb289, 4, none⟩ = some (.int .i64 a1_4) := (Kc BK289.out 4).trans rfl
       have hfz17_0 := Kz BK289.out 0
       have hfz17_1 := Kz BK289.out 1
       have hfz17_2 := Kz BK289.out 2
       have hfz17_3 := Kz BK289.out 3
       have hfz17_4 := Kz BK289.out 4
       go_wp2_with (first | ((refine Gc (f := 115) rfl ?_); refine goesL_ (some 15) rfl rfl Try.func115 (by kernel_rfl) rfl #[.agg #[.int .i64 a1_0, .int .i64 a1_1, .int .i64 a1_2, .int .i64 a1_3, .int .i64 a1_4]] rfl (by first | rfl | (simp only [List.map_toArray, List.map_cons, List.map_nil]; first | done | rfl)) ?_; (with_reducible refine (spec_l2Touches.calls k1 a1_0 a1_1 a1_2 a1_3 a1_4 t294 _ A13.out).mono ?_); rintro e w18 ⟨v295, rfl, ho0, hb⟩; refine ⟨_, rfl, ?_⟩; have n0_ := Am (Kd.R_elder' (by (with_reducible repeat (first | apply Ra | apply Rn | apply Rd)); exact HO_8.out) (Kd.R_base ho0) hb); have n1_ := Am (Kd.R_lower (Kd.R_new' ho0 (Kd.R_lt (by (with_reducible repeat (first | apply Ra | apply Rn | apply Rd)); exact HO_8.out))) (Bz (by repeat (first | (with_reducible first | exact HB.out | apply Ba | apply Bn | apply Bd | refine Bs ?_ GE288.out | refine Bs ?_ GE289.out) | exact HB.out)))); have n2_ := Am (Kb (g := gb288) (o := .cells #[.int .i64 a0_0, .int .i64 a0_1, .int .i64 a0_2, .int .i64 a0_3, .int .i64 a0_4] 49 (0, 0)) (by (with_reducible repeat (first | refine Kn ?_ _ | refine Ke ?_ | refine Ka ?_ _)); exact BK288.out) hb); have n3_ := Am (Kb (g := gb289) (o := .cells #[.int .i64 a1_0, .int .i64 a1_1, .int .i64 a1_2, .int .i64 a1_3, .int .i64 a1_4] 49 (0, 0)) (by (with_reducible repeat (first | refine Kn ?_ _ | refine Ke ?_ | refine Ka ?_ _)); exact BK289.out) hb); have n4_ := Am (Bt (by repeat (first | (with_reducible first | exact HB.out | apply Ba | apply Bn | apply Bd | refine Bs ?_ GE288.out | refine Bs ?_ GE289.out) | exact HB.out)) hb); clear HO_8; clear BK288; clear BK289; clear HB; have HO_8 := n0_; have HO296 := n1_; have BK288 := n2_; have BK289 := n3_; have HB := n4_; clear n0_ n1_ n2_ n3_ n4_; (try clear hb); (try clear hb2); (try clear hk); (try clear hi); (try clear ho0); obtain ⟨Ao19, co19, eo19⟩ := Kd.R_slice HO296.out; subst eo19) | ((refine Gc (f := 99) rfl ?_); refine goesL_ (some 17) rfl rfl Try.func99 (by kernel_rfl) rfl #[.slice Ao19 t294.length co19, .int .i64 (rd t290 x10_1)] rfl (by first | rfl | (simp only [List.map_toArray, List.map_cons, List.map_nil]; first | done | rfl)) ?_; (with_reducible refine (spec_l1Has.calls k1 _ _ t294 (rd t290 x10_1) true _ ?side1 ?side2 A14.out).mono ?_); (case side1 => repeat (first | exact (Kd.R_reads' HO296.out).2.2 | (with_reducible refine Kd.C_alloc ?_ _) | (with_reducible refine Kd.C_drewN ?_ _) | (with_reducible refine Kd.C_drew ?_))); (case side2 => exact (Kd.R_reads' HO296.out).2.1); rintro e w' ⟨rfl, ⟨nd, rfl⟩⟩; refine ⟨_, rfl, ?_⟩))
       go_ret
       exact ⟨by first | rfl | (simp [*, errW_none, errW_some] <;> rfl), by repeat (first | (with_reducible first | exact HB.out | apply Ba | apply Bn | apply Bd | refine Bs ?_ GE288.out | refine Bs ?_ GE289.out) | exact HB.out)⟩
      ·replace c15 := Bool.eq_false_iff.mpr c15
       subst c15
       have H1 : (spec_l2Interfere.l0 k1 t290 (t290.length : Int) (wrap64 (x10_1 + 1)) a1_0 a1_1 a1_2 a1_3 a1_4) = some r := by rw [if_neg (show ¬ (false = true) by decide)] at H; exact H
       clear H
       have H := H1
       clear H1
       have H' := Am H
       clear H
       have p293 : 0 ≤ (x10_1 : Int) := of_decide_eq_true (by assumption)
       have q293 : x10_1 < (t290.length : Int) := of_decide_eq_true (by assumption)
       obtain ⟨ad293, e293, hx293_0⟩ := Kd.at_int (Kd.R_reads' HO_8.out).2.2 x10_1 p293 q293
       cases e293
       replace p293 := eq_true p293
       replace q293 := eq_true q293
       have hnb20 := NB289_288.out
       have hnc20 := NB288_289.out
       have hcz21_0 : wr.cell? ⟨gb289, 0, none⟩ = some (.int .i64 a1_0) := (Kc BK289.out 0).trans rfl
       have hcz21_1 : wr.cell? ⟨gb289, 1, none⟩ = some (.int .i64 a1_1) := (Kc BK289.out 1).trans rfl
       have hcz21_2 : wr.cell? ⟨gb289, 2, none⟩ = some (.int .i64 a1_2) := (Kc BK289.out 2).trans rfl
       have hcz21_3 : wr.cell? ⟨gb289, 3, none⟩ = some (.int .i64 a1_3) := (Kc BK289.out 3).trans rfl
       have hcz21_4 : wr.cell? ⟨gb289, 4, none⟩ = some (.int .i64 a1_4) := (Kc BK289.out 4).trans rfl
       have hfz21_0 := Kz BK289.out 0
       have hfz21_1 := Kz BK289.out 1
       have hfz21_2 := Kz BK289.out 2
       have hfz21_3 := Kz BK289.out 3
       have hfz21_4 := Kz BK289.out 4
       go_wp2_with (first | ((refine Gc (f := 115) rfl ?_); refine goesL_ (some 15) rfl rfl Try.func115 (by kernel_rfl) rfl #[.agg #[.int .i64 a1_0, .int .i64 a1_1, .int .i64 a1_2, .int .i64 a1_3, .int .i64 a1_4]] rfl (by first | rfl | (simp only [List.map_toArray, List.map_cons, List.map_nil]; first | done | rfl)) ?_; (with_reducible refine (spec_l2Touches.calls k1 a1_0 a1_1 a1_2 a1_3 a1_4 t294 _ A13.out).mono ?_); rintro e w22 ⟨v295, rfl, ho0, hb⟩; refine ⟨_, rfl, ?_⟩; have n0_ := Am (Kd.R_elder' (by (with_reducible repeat (first | apply Ra | apply Rn | apply Rd)); exact HO_8.out) (Kd.R_base ho0) hb); have n1_ := Am (Kd.R_lower (Kd.R_new' ho0 (Kd.R_lt (by (with_reducible repeat (first | apply Ra | apply Rn | apply Rd)); exact HO_8.out))) (Bz (by repeat (first | (with_reducible first | exact HB.out | apply Ba | apply Bn | apply Bd | refine Bs ?_ GE288.out | refine Bs ?_ GE289.out) | exact HB.out)))); have n2_ := Am (Kb (g := gb288) (o := .cells #[.int .i64 a0_0, .int .i64 a0_1, .int .i64 a0_2, .int .i64 a0_3, .int .i64 a0_4] 49 (0, 0)) (by (with_reducible repeat (first | refine Kn ?_ _ | refine Ke ?_ | refine Ka ?_ _)); exact BK288.out) hb); have n3_ := Am (Kb (g := gb289) (o := .cells #[.int .i64 a1_0, .int .i64 a1_1, .int .i64 a1_2, .int .i64 a1_3, .int .i64 a1_4] 49 (0, 0)) (by (with_reducible repeat (first | refine Kn ?_ _ | refine Ke ?_ | refine Ka ?_ _)); exact BK289.out) hb); have n4_ := Am (Bt (by repeat (first | (with_reducible first | exact HB.out | apply Ba | apply Bn | apply Bd | refine Bs ?_ GE288.out | refine Bs ?_ GE289.out) | exact HB.out)) hb); clear HO_8; clear BK288; clear BK289; clear HB; have HO_8 := n0_; have HO296 := n1_; have BK288 := n2_; have BK289 := n3_; have HB := n4_; clear n0_ n1_ n2_ n3_ n4_; (try clear hb); (try clear hb2); (try clear hk); (try clear hi); (try clear ho0); obtain ⟨Ao23, co23, eo23⟩ := Kd.R_slice HO296.out; subst eo23) | ((refine Gc (f := 99) rfl ?_); refine goesL_ (some 17) rfl rfl Try.func99 (by kernel_rfl) rfl #[.slice Ao23 t294.length co23, .int .i64 (rd t290 x10_1)] rfl (by first | rfl | (simp only [List.map_toArray, List.map_cons, List.map_nil]; first | done | rfl)) ?_; (with_reducible refine (spec_l1Has.calls k1 _ _ t294 (rd t290 x10_1) false _ ?side1 ?side2 A14.out).mono ?_); (case side1 => repeat (first | exact (Kd.R_reads' HO296.out).2.2 | (with_reducible refine Kd.C_alloc ?_ _) | (with_reducible refine Kd.C_drewN ?_ _) | (with_reducible refine Kd.C_drew ?_))); (case side2 => exact (Kd.R_reads' HO296.out).2.1); rintro e w' ⟨rfl, ⟨nd, rfl⟩⟩; refine ⟨_, rfl, ?_⟩))
       go_roundg k1
       case measure => have := HK1.out; omega
       case rel => exact ⟨(wrap64 (x10_1 + 1)), (by first | rfl | (simp; done) | (simp [*]; done)), H', ⟨by have := HK1.out; omega⟩, ⟨by (with_reducible repeat (first | apply Ra | apply Rn | apply Rd)); exact Kd.R_mono HO_8.out (fun _ hk => trivial)⟩, ⟨by (with_reducible repeat (first | refine Kn ?_ _ | refine Ke ?_ | refine Ka ?_ _)); exact BK288.out⟩, ⟨by (with_reducible repeat (first | refine Kn ?_ _ | refine Ke ?_ | refine Ka ?_ _)); exact BK289.out⟩, ⟨by repeat (first | (with_reducible first | exact HB.out | apply Ba | apply Bn | apply Bd | refine Bs ?_ GE288.out | refine Bs ?_ GE289.out) | exact HB.out)⟩⟩
     ·rw [if_neg c12] at H
      exact absurd H (by simp)
    ·rw [if_neg c11] at H
     exact absurd H (by simp)
   ·rw [if_neg c10] at H
    have c10b0 : decide (x10_1 < (t290.length : Int)) = false := decide_eq_false c10
    clear c10
    obtain rfl := Option.some.inj H
    go_wp2
    go_ret
    exact ⟨by first | rfl | (simp [*, errW_none, errW_some] <;> rfl), by repeat (first | (with_reducible first | exact HB.out | apply Ba | apply Bn | apply Bd | refine Bs ?_ GE288.out | refine Bs ?_ GE289.out) | exact HB.out)⟩
def spec_l1Most.f (a0 : Int) (a1 : Int) : Option (Int) := if a0 > a1 then (some a0) else (some a1)
set_option maxHeartbeats 8000000 in
set_option maxRecDepth 100000 in
theorem spec_l1Most.calls (a0 : Int) (a1 : Int) (r : Int) (w : World) (h : spec_l1Most.f a0 a1 = some r) :
  Calls Try.prog 93 #[.int .i64 a0, .int .i64 a1] w fun e w' => e = .returned (.int .i64 r) ∧ Drawn0 w w' := by
 have H : (if a0 > a1 then (some a0) else (some a1)) = some r := h
 clear h
 by_cases c3 : a0 > a1
 ·rw [if_pos c3] at H
  have c3b0 : decide (a1 < a0) = true := decide_eq_true c3
  clear c3
  obtain rfl := Option.some.inj H
  go_enter Try.func93, Try.ntmps93
  go_wp2
  go_ret
  exact ⟨by first | rfl | (simp; done) | (simp [*]; done), by repeat (first | exact Drawn0.refl _ | apply Drawn0.step)⟩
 ·rw [if_neg c3] at H
  have c3b0 : decide (a1 < a0) = false := decide_eq_false c3
  clear c3
  obtain rfl := Option.some.inj H
  go_enter Try.func93, Try.ntmps93
  go_wp2
  go_ret
  exact ⟨by first | rfl | (simp; done) | (simp [*]; done), by repeat (first | exact Drawn0.refl _ | apply Drawn0.step)⟩
def spec_l4Attr.stepS (K : Nat) (rep no : Int) (c : S49) (s : Int × List Int) (i j : Int) (x : S72) : Option (Int × List Int) :=
 if x.f2 = 0 then some s else (spec_l2Interfere.f K c.f0 c.f1 c.f2 c.f3 c.f4 x.f3.f0 x.f3.f1 x.f3.f2 x.f3.f3 x.f3.f4).bind fun b => if b = true then (if i = rep ∧ j = no then some s else if 0 ≤ i ∧ i < (s.2.length : Int) then ((spec_l1Most.f s.1 x.f4.f0).bind fun m => some (m, s.2.set i.toNat j)) else none) else some s
def spec_l4Attr.f (K : Nat) (n : Int) (l : List (List S72)) (c0 c1 c2 c3 c4 : Int) (rep no : Int) : Option (Int × List Int) :=
 (spec_l3None.f n).bind fun bt => (impl_Table_each.allO (spec_l4Attr.stepS K rep no ⟨c0, c1, c2, c3, c4⟩) l 0 (bt.1, bt.2)).bind fun s => some (wrap64 (s.1 + 1), s.2)
def spec_l4Attr.RS (go gc gt g8 B : Nat) (n : Int) (A : Option Addr) (l : List (List S72)) (cl : Nat) (c : S49) (w : World) (s : Int × List Int) (W : World) : Prop :=
 ∃ v, W.heap[go]? = some (.cells #[.int .i64 s.1, v] 46 (0, 0)) ∧ Kd.R (Kd.int .i64) 3 W B (fun _ => True) v s.2 ∧ W.heap[gc]? = some (.cells #[.int .i64 c.f0, .int .i64 c.f1, .int .i64 c.f2, .int .i64 c.f3, .int .i64 c.f4] 49 (0, 0)) ∧ W.heap[gt]? = some (.cells #[.int .i64 n, .slice A l.length cl] 29 (0, 0)) ∧ W.heap[g8]? = some (.cells #[.int .i64 0, .slice none 0 0] 46 (0, 0)) ∧ Below w.heap.size w W ∧ (w.heap.size ≤ B ∧ w.heap.size ≤ go ∧ g8 ≠ go)
theorem spec_l4Attr.monoR {go gc gt g8 B : Nat} {n : Int} {A : Option Addr} {l : List (List S72)} {cl : Nat} {c : S49} {w : World} {s : Int × List Int} {W W' : World} (h : spec_l4Attr.RS go gc gt g8 B n A l cl c w s W) (hb : Below W.heap.size W W') : spec_l4Attr.RS go gc gt g8 B n A l cl c w s W' := by
 obtain ⟨v, h1, h2, h3, h4, h5, h6, h7⟩ := h
 exact ⟨v, Kb h1 hb, Kd.R_below h2 hb, Kb h3 hb, Kb h4 hb, Kb h5 hb, below_then h6 h6.size hb, h7⟩
theorem spec_l4Attr.bel {go gc gt g8 B : Nat} {n : Int} {A : Option Addr} {l : List (List S72)} {cl : Nat} {c : S49} {w : World} {s : Int × List Int} {W : World} (h : spec_l4Attr.RS go gc gt g8 B n A l cl c w s W) : Below w.heap.size w W := by
 obtain ⟨v, _, _, _, _, _, h6, _⟩ := h
 exact h6
theorem spec_l4Attr.stepS_mono (K : Nat) (rep no : Int) (c : S49) (s : Int × List Int) (i j : Int) (x : S72) : LeO (spec_l4Attr.stepS K rep no c s i j x) (spec_l4Attr.stepS (K + 1) rep no c s i j x) := by
 unfold spec_l4Attr.stepS
 exact LeO.ite (LeO.refl _) (LeO.bind (spec_l2Interfere.mono _ _ _ _ _ _ _ _ _ _ _) (fun _ => LeO.refl _))
theorem spec_l4Attr.rowO_mono (K : Nat) (rep no : Int) (c : S49) (i : Int) : ∀ (y : List S72) (j : Nat) (s : Int × List Int), LeO (impl_Table_each.rowO (spec_l4Attr.stepS K rep no c) i y j s) (impl_Table_each.rowO (spec_l4Attr.stepS (K + 1) rep no c) i y j s)
 | [], _, _ => LeO.refl _
 | x :: xs, j, s => LeO.bind (spec_l4Attr.stepS_mono K rep no c s i _ x) (fun s' => spec_l4Attr.rowO_mono K rep no c i xs (j + 1) s')
theorem spec_l4Attr.allO_mono (K : Nat) (rep no : Int) (c : S49) : ∀ (l : List (List S72)) (i : Nat) (s : Int × List Int), LeO (impl_Table_each.allO (spec_l4Attr.stepS K rep no c) l i s) (impl_Table_each.allO (spec_l4Attr.stepS (K + 1) rep no c) l i s)
 | [], _, _ => LeO.refl _
 | y :: ys, i, s => LeO.bind (spec_l4Attr.rowO_mono K rep no c (i : Int) y 0 s) (fun s' => spec_l4Attr.allO_mono K rep no c ys (i + 1) s')
theorem spec_l4Attr.mono : ∀ n l c0 c1 c2 c3 c4 rep no K, LeO (spec_l4Attr.f K n l c0 c1 c2 c3 c4 rep no) (spec_l4Attr.f (K + 1) n l c0 c1 c2 c3 c4 rep no) := by
 intro n l c0 c1 c2 c3 c4 rep no K
 unfold spec_l4Attr.f
 exact LeO.bind (LeO.refl _) (fun bt => LeO.bind (spec_l4Attr.allO_mono K rep no _ l 0 _) (fun _ => LeO.refl _))
set_option maxHeartbeats 4000000 in
set_option maxRecDepth 100000 in
theorem spec_l4Attr.calls (K : Nat) (n : Int) (A : Option Addr) (cl : Nat) (l : List (List S72)) (c0 c1 c2 c3 c4 : Int) (rep no : Int) (r1 : Int) (r2 : List Int) (w : World) (hr : Kd.C (Kd.slice 72 k72) w A l.length l) (hcl : l.length ≤ cl) (h : spec_l4Attr.f K n l c0 c1 c2 c3 c4 rep no = some (r1, r2)) :
  Calls Try.prog 60 #[.agg #[.int .i64 n, .slice A l.length cl], .agg #[.int .i64 c0, .int .i64 c1, .int .i64 c2, .int .i64 c3, .int .i64 c4], .int .i64 rep, .int .i64 no] w fun e w' => ∃ v1_ : Value, e = .returned (.agg #[.int .i64 r1, v1_]) ∧ Kd.R (Kd.int .i64) 3 w' w.heap.size (fun _ => True) v1_ r2 ∧ Below w.heap.size w w' := by
 have hu := Try.underlying72
 have hu2 := Try.underlying49
 have hu3 := Try.underlying29
 have hu4 := Try.underlying46
 have hm : l.length ≤ 9223372036854775807 := hr.2.1
 obtain ⟨c, hcc⟩ : ∃ c : S49, c = ⟨c0, c1, c2, c3, c4⟩ := ⟨_, rfl⟩
 have e0 : c0 = c.f0 := by rw [hcc]
 have e1 : c1 = c.f1 := by rw [hcc]
 have e2 : c2 = c.f2 := by rw [hcc]
 have e3 : c3 = c.f3 := by rw [hcc]
 have e4 : c4 = c.f4 := by rw [hcc]
 unfold spec_l4Attr.f at h
 rw [← hcc] at h
 rw [e0, e1, e2, e3, e4]
 clear hcc e0 e1 e2 e3 e4 hcl
 cases hn : spec_l3None.f n with
 | none => rw [hn] at h; cases h
 | some bt =>
 obtain ⟨b1, b2⟩ := bt
 rw [hn, Option.bind_some] at h
 dsimp only at h
 cases ha : impl_Table_each.allO (spec_l4Attr.stepS K rep no c) l 0 (b1, b2) with
 | none => rw [ha] at h; cases h
 | some sr =>
 have HE : Ad (wrap64 (sr.1 + 1) = r1 ∧ sr.2 = r2) := ⟨by rw [ha, Option.bind_some] at h; simpa using h⟩
 have HR := Am hr
 have HN := Am hn
 have HA := Am ha
 clear h hn ha hr
 go_enter Try.func60, Try.ntmps60
 go_upto_region 1 with (fail)
 refine letC (fun W_ => Below w.heap.size w W_ ∧ W_.heap[w.heap.size]? = some (.cells #[.int .i64 n, .slice A l.length cl] 29 (0, 0)) ∧ W_.heap[w.heap.size + 1]? = some (.cells #[.int .i64 c.f0, .int .i64 c.f1, .int .i64 c.f2, .int .i64 c.f3, .int .i64 c.f4] 49 (0, 0)) ∧ W_.heap[w.heap.size + 2]? = some (.cells #[.int .i64 0, .slice none 0 0] 46 (0, 0))) ⟨Ba (Ba (Ba (Below.refl _ _) _) _) _, ?_, ?_, ?_⟩ ?_
 ·simpa using Ka (Ka (blk_new w (.cells #[.int .i64 n, .slice A l.length cl] 29)) (.cells #[.int .i64 c.f0, .int .i64 c.f1, .int .i64 c.f2, .int .i64 c.f3, .int .i64 c.f4] 49)) (.cells #[.int .i64 0, .slice none 0 0] 46)
 ·simpa using Ka (blk_new (w.alloc (.cells #[.int .i64 n, .slice A l.length cl] 29)) (.cells #[.int .i64 c.f0, .int .i64 c.f1, .int .i64 c.f2, .int .i64 c.f3, .int .i64 c.f4] 49)) (.cells #[.int .i64 0, .slice none 0 0] 46)
 ·simpa using blk_new ((w.alloc (.cells #[.int .i64 n, .slice A l.length cl] 29)).alloc (.cells #[.int .i64 c.f0, .int .i64 c.f1, .int .i64 c.f2, .int .i64 c.f3, .int .i64 c.f4] 49)) (.cells #[.int .i64 0, .slice none 0 0] 46)
 rintro W1 ⟨hb, ht, hc, h8⟩
 have HB1 := Am hb
 have HT1 := Am ht
 have HC1 := Am hc
 have H81 := Am h8
 have q0 : W1.cell? ⟨w.heap.size, 0, none⟩ = some (.int .i64 n) := (Kc ht 0).trans rfl
 clear hb ht hc h8
 go_wp2_with fail
 refine (spec_l3None.calls n b1 b2 W1 HN.out).mono ?_
 rintro e W2 ⟨v1, rfl, hR, hb⟩
 have HR2 := Am hR
 have HB2 := Am (below_then HB1.out HB1.out.size hb)
 have HT2 := Am (Kb HT1.out hb)
 have HC2 := Am (Kb HC1.out hb)
 have H82 := Am (Kb H81.out hb)
 have HLT := Am (blk_lt H82.out)
 have HBB := Am HB1.out.size
 clear hR hb q0 HT1 HC1 H81 HB1
 obtain ⟨Av, cv, rfl⟩ := Kd.R_slice HR2.out
 generalize W1.heap.size = B at HR2 HBB
 go_upto_region 2 with (fail)
 refine letC (fun W_ => Below W2.heap.size W2 W_ ∧ W_.heap[W2.heap.size]? = some (.cells #[.int .i64 b1, .slice Av b2.length cv] 46 (0, 0))) ⟨Ba (Below.refl _ _) _, blk_new W2 (.cells #[.int .i64 b1, .slice Av b2.length cv] 46)⟩ ?_
 rintro W3 ⟨hb, ho⟩
 obtain ⟨go, hgo⟩ : ∃ go, go = W2.heap.size := ⟨_, rfl⟩
 obtain ⟨gc, hgc⟩ : ∃ gc, gc = w.heap.size + 1 := ⟨_, rfl⟩
 obtain ⟨g8, hg8⟩ : ∃ g8, g8 = w.heap.size + 2 := ⟨_, rfl⟩
 obtain ⟨gt, hgt⟩ : ∃ gt, gt = w.heap.size := ⟨_, rfl⟩
 have HREL : Ad (spec_l4Attr.RS go gc gt g8 B n A l cl c w (b1, b2) W3) := ⟨_, by rw [hgo]; exact ho, Kd.R_below HR2.out hb, by rw [hgc]; exact Kb HC2.out hb, by rw [hgt]; exact Kb HT2.out hb, by rw [hg8]; exact Kb H82.out hb, below_then HB2.out HB2.out.size hb, HBB.out, by rw [hgo]; exact HB2.out.size, by rw [hgo, hg8]; exact Nat.ne_of_lt HLT.out⟩
 have q1 : W3.cell? ⟨w.heap.size, 1, none⟩ = some (.slice A l.length cl) := (Kc (Kb HT2.out hb) 1).trans rfl
 have H8G : Ad (w.heap.size ≤ g8) := ⟨by rw [hg8]; omega⟩
 rw [← hgo]
 (first | rw [← hg8] | rw [show w.heap.size + 1 + 1 = g8 from hg8.symm])
 rw [← hgc, ← hgt]
 rw [← hgt] at q1
 clear hgo hgc hg8 hgt hb ho HR2 HB2 HT2 HC2 H82 HLT HBB
 go_wp2
 clear q1
 go_loopg [20] l.length (fun gg s20 wr => ∃ (kk : Nat) (s : Int × List Int), kk ≤ l.length ∧ l.length - kk ≤ gg ∧ s20 = .int .i64 kk ∧ Ad (spec_l4Attr.RS go gc gt g8 B n A l cl c w s wr) ∧ Ad (impl_Table_each.allO (spec_l4Attr.stepS K rep no c) (l.drop kk) kk s = some sr))
 case atStart => exact ⟨0, _, Nat.zero_le _, by omega, rfl, HREL, ⟨by simpa using HA.out⟩⟩
 case round =>
  clear HA HREL
  obtain ⟨kk, t, hkk, hg, rfl, HT, PF⟩ := hrel
  by_cases hlt : kk < l.length
  ·have hltz : (kk : Int) < (l.length : Int) := by omega
   obtain ⟨ad, Ay, cy, rfl, hy0, hly, hiy⟩ := at_L9 HR.out (kk : Int) (by omega) hltz
   have hy0 := ((spec_l4Attr.bel HT.out).cell (bl_ w _ hy0)).trans hy0
   simp only [Int.toNat_natCast] at hy0
   have he : Ad (l.getD kk [] = rd_L9 l (kk : Int)) := ⟨by unfold rd_L9; rw [Int.toNat_natCast]⟩
   have PG : Ad ((impl_Table_each.rowO (spec_l4Attr.stepS K rep no c) (kk : Int) (rd_L9 l (kk : Int)) 0 t).bind (fun s' => impl_Table_each.allO (spec_l4Attr.stepS K rep no c) (l.drop (kk + 1)) (kk + 1) s') = some sr) := ⟨by have h_ := PF.out; rw [Mine.drop_at l [] kk hlt, he.out] at h_; exact h_⟩
   have HIY := Am hiy
   clear PF he hiy
   generalize rd_L9 l (kk : Int) = y at hy0 hly HIY PG
   have hmy : y.length ≤ 9223372036854775807 := HIY.out.2.1
   go_wp2
   go_loopg [27] y.length (fun gg s27 wr2 => ∃ (jj : Nat) (s : Int × List Int), jj ≤ y.length ∧ y.length - jj ≤ gg ∧ s27 = .int .i64 jj ∧ Ad (spec_l4Attr.RS go gc gt g8 B n (some ad) l cl c w s wr2) ∧ Ad ((impl_Table_each.rowO (spec_l4Attr.stepS K rep no c) (kk : Int) (y.drop jj) jj s).bind (fun s' => impl_Table_each.allO (spec_l4Attr.stepS K rep no c) (l.drop (kk + 1)) (kk + 1) s') = some sr))
   case atStart => exact ⟨0, t, Nat.zero_le _, by omega, rfl, HT, ⟨by simpa using PG.out⟩⟩
   case round =>
    clear HT PG hy0
    obtain ⟨jj, s, hjj, hg2, rfl, HT, PF⟩ := hrel
    by_cases hlt2 : jj < y.length
    ·have hltz2 : (jj : Int) < (y.length : Int) := by omega
     obtain ⟨ad2, A9, c9, rfl, hx0, hx1, hx2, hx3, hx4, hx5, hx6, hx7, hx8, hx9, hl9, hi9⟩ := at_T72 (Kd.C_below HIY.out (spec_l4Attr.bel HT.out)) (jj : Int) (by omega) hltz2
     simp only [Int.toNat_natCast] at hx0 hx1 hx2 hx3 hx4 hx5 hx6 hx7 hx8 hx9
     have he : Ad (y.getD jj z72 = rd_T72 y (jj : Int)) := ⟨by unfold rd_T72; rw [Int.toNat_natCast]⟩
     have PG : Ad (((spec_l4Attr.stepS K rep no c s (kk : Int) ((jj : Int) + 1) (rd_T72 y (jj : Int))).bind fun s' => impl_Table_each.rowO (spec_l4Attr.stepS K rep no c) (kk : Int) (y.drop (jj + 1)) (jj + 1) s').bind (fun s' => impl_Table_each.allO (spec_l4Attr.stepS K rep no c) (l.drop (kk + 1)) (kk + 1) s') = some sr) := ⟨by have h_ := PF.out; rw [Mine.drop_at y z72 jj hlt2, he.out] at h_; exact h_⟩
     clear PF he hl9 hi9
     generalize rd_T72 y (jj : Int) = x at hx0 hx1 hx2 hx3 hx4 hx5 hx6 hx7 hx8 hx9 PG
     go_upto_region 8 with (fail)
     refine letC (fun W_ => Below wr.heap.size wr W_ ∧ W_.heap[wr.heap.size]? = some (.cells #[.int .i64 x.f0, .int .i64 x.f1, .int .i64 x.f2, .int .i64 x.f3.f0, .int .i64 x.f3.f1, .int .i64 x.f3.f2, .int .i64 x.f3.f3, .int .i64 x.f3.f4, .int .i64 x.f4.f0, .slice A9 x.f4.f1.length c9] 72 (0, 0))) ⟨Ba (Below.refl _ _) _, blk_new wr (.cells #[.int .i64 x.f0, .int .i64 x.f1, .int .i64 x.f2, .int .i64 x.f3.f0, .int .i64 x.f3.f1, .int .i64 x.f3.f2, .int .i64 x.f3.f3, .int .i64 x.f3.f4, .int .i64 x.f4.f0, .slice A9 x.f4.f1.length c9] 72)⟩ ?_
     rintro W1 ⟨hb, hbx⟩
     have HR1 := Am (spec_l4Attr.monoR HT.out hb)
     have HX1 := Am hbx
     clear hb hbx HT hx0 hx1 hx2 hx3 hx4 hx5 hx6 hx7 hx8 hx9
     generalize wr.heap.size = gx at HX1
     have hw : wrap64 ((jj : Int) + 1) = ((jj + 1 : Nat) : Int) := by unfold wrap64; omega
     by_cases h2 : x.f2 = 0
     ·have PG : Ad ((impl_Table_each.rowO (spec_l4Attr.stepS K rep no c) (kk : Int) (y.drop (jj + 1)) (jj + 1) s).bind (fun s' => impl_Table_each.allO (spec_l4Attr.stepS K rep no c) (l.drop (kk + 1)) (kk + 1) s') = some sr) := ⟨by have h_ := PG.out; rw [show spec_l4Attr.stepS K rep no c s (kk : Int) ((jj : Int) + 1) x = some s from if_pos h2, Option.bind_some] at h_; exact h_⟩
      have e2 : (x.f2 == 0) = true := by rw [h2]; rfl
      have qx2 : W1.cell? ⟨gx, 2, none⟩ = some (.int .i64 x.f2) := (Kc HX1.out 2).trans rfl
      clear h2 hw
      go_wp2
      go_roundg (y.length - (jj + 1))
      case measure => omega
      case rel => exact ⟨jj + 1, s, by omega, by omega, by go_num, HR1, PG⟩
     ·cases hq : spec_l2Interfere.f K c.f0 c.f1 c.f2 c.f3 c.f4 x.f3.f0 x.f3.f1 x.f3.f2 x.f3.f3 x.f3.f4 with
      | none => exact absurd PG.out (by unfold spec_l4Attr.stepS; rw [if_neg h2, hq]; simp)
      | some b =>
      have HF := Am hq
      have e2 : (x.f2 == 0) = false := by rw [beq_eq_false_iff_ne]; exact h2
      obtain ⟨v_, ho_, hr_, hgc, _, _, _, _⟩ := HR1.out
      have qx0 : W1.cell? ⟨gx, 0, none⟩ = some (.int .i64 x.f0) := (Kc HX1.out 0).trans rfl
      have qx1 : W1.cell? ⟨gx, 1, none⟩ = some (.int .i64 x.f1) := (Kc HX1.out 1).trans rfl
      have qx2 : W1.cell? ⟨gx, 2, none⟩ = some (.int .i64 x.f2) := (Kc HX1.out 2).trans rfl
      have qx3 : W1.cell? ⟨gx, 3, none⟩ = some (.int .i64 x.f3.f0) := (Kc HX1.out 3).trans rfl
      have qx4 : W1.cell? ⟨gx, 4, none⟩ = some (.int .i64 x.f3.f1) := (Kc HX1.out 4).trans rfl
      have qx5 : W1.cell? ⟨gx, 5, none⟩ = some (.int .i64 x.f3.f2) := (Kc HX1.out 5).trans rfl
      have qx6 : W1.cell? ⟨gx, 6, none⟩ = some (.int .i64 x.f3.f3) := (Kc HX1.out 6).trans rfl
      have qx7 : W1.cell? ⟨gx, 7, none⟩ = some (.int .i64 x.f3.f4) := (Kc HX1.out 7).trans rfl
      have qx8 : W1.cell? ⟨gx, 8, none⟩ = some (.int .i64 x.f4.f0) := (Kc HX1.out 8).trans rfl
      have qc0 : W1.cell? ⟨gc, 0, none⟩ = some (.int .i64 c.f0) := (Kc hgc 0).trans rfl
      have qc1 : W1.cell? ⟨gc, 1, none⟩ = some (.int .i64 c.f1) := (Kc hgc 1).trans rfl
      have qc2 : W1.cell? ⟨gc, 2, none⟩ = some (.int .i64 c.f2) := (Kc hgc 2).trans rfl
      have qc3 : W1.cell? ⟨gc, 3, none⟩ = some (.int .i64 c.f3) := (Kc hgc 3).trans rfl
      have qc4 : W1.cell? ⟨gc, 4, none⟩ = some (.int .i64 c.f4) := (Kc hgc 4).trans rfl
      clear ho_ hr_ hgc v_
      have PG : Ad (((if b = true then (if (kk : Int) = rep ∧ ((jj : Int) + 1) = no then some s else if (0 : Int) ≤ (kk : Int) ∧ (kk : Int) < (s.2.length : Int) then ((spec_l1Most.f s.1 x.f4.f0).bind fun m => some (m, s.2.set (kk : Int).toNat ((jj : Int) + 1))) else none) else some s).bind fun s' => impl_Table_each.rowO (spec_l4Attr.stepS K rep no c) (kk : Int) (y.drop (jj + 1)) (jj + 1) s').bind (fun s' => impl_Table_each.allO (spec_l4Attr.stepS K rep no c) (l.drop (kk + 1)) (kk + 1) s') = some sr) := ⟨by have h_ := PG.out; unfold spec_l4Attr.stepS at h_; rw [if_neg h2, hq, Option.bind_some] at h_; exact h_⟩
      clear hq h2
      go_wp2_with fail
      refine (spec_l2Interfere.calls K c.f0 c.f1 c.f2 c.f3 c.f4 x.f3.f0 x.f3.f1 x.f3.f2 x.f3.f3 x.f3.f4 b W1 HF.out).mono ?_
      rintro e W2 ⟨rfl, hb⟩
      have hb : Below W1.heap.size W1 W2 := by first | exact hb | exact hb.below
      have HR2 := Am (spec_l4Attr.monoR HR1.out hb)
      have HX2 := Am (Kb HX1.out hb)
      clear hb qx0 qx1 qx2 qx3 qx4 qx5 qx6 qx7 qx8 qc0 qc1 qc2 qc3 qc4 HR1 HX1
      cases b with
      | false =>
       replace PG : Ad ((impl_Table_each.rowO (spec_l4Attr.stepS K rep no c) (kk : Int) (y.drop (jj + 1)) (jj + 1) s).bind (fun s' => impl_Table_each.allO (spec_l4Attr.stepS K rep no c) (l.drop (kk + 1)) (kk + 1) s') = some sr) := ⟨by simpa using PG.out⟩
       clear hw
       go_wp2
       go_roundg (y.length - (jj + 1))
       case measure => omega
       case rel => exact ⟨jj + 1, s, by omega, by omega, by go_num, HR2, PG⟩
      | true =>
       by_cases hsk : (kk : Int) = rep ∧ ((jj : Int) + 1) = no
       ·replace PG : Ad ((impl_Table_each.rowO (spec_l4Attr.stepS K rep no c) (kk : Int) (y.drop (jj + 1)) (jj + 1) s).bind (fun s' => impl_Table_each.allO (spec_l4Attr.stepS K rep no c) (l.drop (kk + 1)) (kk + 1) s') = some sr) := ⟨by have h_ := PG.out; rw [if_pos rfl, if_pos hsk, Option.bind_some] at h_; exact h_⟩
        have ei : ((kk : Int) == rep) = true := by rw [hsk.1]; simp
        have ej : (((jj : Int) + 1) == no) = true := by rw [hsk.2]; simp
        clear hw hsk
        go_wp2
        go_roundg (y.length - (jj + 1))
        case measure => omega
        case rel => exact ⟨jj + 1, s, by omega, by omega, by go_num, HR2, PG⟩
       ·by_cases hin0 : (0 : Int) ≤ (kk : Int) ∧ (kk : Int) < (s.2.length : Int)
        ·obtain ⟨_, hin⟩ := hin0
         cases hmx : spec_l1Most.f s.1 x.f4.f0 with
         | none => exact absurd PG.out (by rw [if_pos rfl, if_neg hsk, if_pos ⟨by omega, hin⟩, hmx]; simp)
         | some mo =>
         have HMX := Am hmx
         replace PG : Ad ((impl_Table_each.rowO (spec_l4Attr.stepS K rep no c) (kk : Int) (y.drop (jj + 1)) (jj + 1) (mo, s.2.set kk ((jj : Int) + 1))).bind (fun s' => impl_Table_each.allO (spec_l4Attr.stepS K rep no c) (l.drop (kk + 1)) (kk + 1) s') = some sr) := ⟨by have h_ := PG.out; rw [if_pos rfl, if_neg hsk, if_pos ⟨by omega, hin⟩, hmx, Option.bind_some, Option.bind_some, Int.toNat_natCast] at h_; exact h_⟩
         clear hmx hw
         by_cases hi : (kk : Int) = rep
         ·have ei : ((kk : Int) == rep) = true := by rw [hi]; simp
          have ej : (((jj : Int) + 1) == no) = false := by rw [beq_eq_false_iff_ne]; exact fun h => hsk ⟨hi, h⟩
          clear hsk hi
          have ein : decide ((kk : Int) < (s.2.length : Int)) = true := decide_eq_true hin
          obtain ⟨v, ho, hr, hgc, hgt, hg8, hB, hbase⟩ := HR2.out
          obtain ⟨g, cap, rfl, hbg, hgl, cells, hcells⟩ := Kd.R_form hr (by omega)
          obtain ⟨ce, hcl, hM, hcc, hfr⟩ := Kd.R_elem hr 0 (kk : Int) (by omega) hin
          have hM' : ce = [.int .i64 (s.2.getD kk 0)] := by have h1 := hM; rw [Int.toNat_natCast] at h1; exact h1
          subst hM'
          have hd : W2.cell? ⟨g, kk, none⟩ = some (.int .i64 (s.2.getD kk 0)) := by have h1 := hcc 0 _ rfl; rw [Int.toNat_natCast] at h1; simpa [Kd.int, Kd.scalar] using h1
          have hf : W2.frozen? ⟨g, kk, none⟩ = false := by have h1 := hfr 0; rw [Int.toNat_natCast] at h1; simpa [Kd.int, Kd.scalar] using h1
          have hs1 : W2.cell? ⟨go, 1, none⟩ = some (.slice (some ⟨g, 0, none⟩) s.2.length cap) := (Kc ho 1).trans rfl
          have hng : go ≠ g := blk_ne ho hcells (by decide)
          have HNEW : Ad (spec_l4Attr.RS go gc gt g8 B n (some ad) l cl c w (s.1, s.2.set kk ((jj : Int) + 1)) (W2.setCell ⟨g, kk, none⟩ (.int .i64 ((jj : Int) + 1)))) := ⟨_, Kf ho hng _, by have h1 := Kd.R_putn (enc := Value.int .i64) (h1 := fun _ => rfl) hr (kk : Int) ((jj : Int) + 1); rw [Int.toNat_natCast] at h1; exact h1, Kf hgc (blk_ne hgc hcells (by decide)) _, Kf hgt (blk_ne hgt hcells (by decide)) _, Kf hg8 (blk_ne hg8 hcells (by decide)) _, Bs hB (Nat.le_trans hbase.1 hbg), hbase⟩
          have HXN : Ad ((W2.setCell ⟨g, kk, none⟩ (.int .i64 ((jj : Int) + 1))).heap[gx]? = some (.cells #[.int .i64 x.f0, .int .i64 x.f1, .int .i64 x.f2, .int .i64 x.f3.f0, .int .i64 x.f3.f1, .int .i64 x.f3.f2, .int .i64 x.f3.f3, .int .i64 x.f3.f4, .int .i64 x.f4.f0, .slice A9 x.f4.f1.length c9] 72 (0, 0))) := ⟨Kf HX2.out (blk_ne HX2.out hcells (by decide)) _⟩
          have HIN := Am hin
          clear hcl hM hcc hfr ho hr hgc hgt hg8 hB hbase hbg hgl hcells HR2 HX2 hng
          generalize s.2.getD kk 0 = dd at hd
          go_upto_region 10 with (fail)
          refine letC (fun W_ => spec_l4Attr.RS go gc gt g8 B n (some ad) l cl c w (s.1, s.2.set kk ((jj : Int) + 1)) W_ ∧ W_.heap[gx]? = some (.cells #[.int .i64 x.f0, .int .i64 x.f1, .int .i64 x.f2, .int .i64 x.f3.f0, .int .i64 x.f3.f1, .int .i64 x.f3.f2, .int .i64 x.f3.f3, .int .i64 x.f3.f4, .int .i64 x.f4.f0, .slice A9 x.f4.f1.length c9] 72 (0, 0))) ⟨HNEW.out, HXN.out⟩ ?_
          rintro W3 ⟨hR3, hX3⟩
          have HR3 := Am hR3
          have hx8 : W3.cell? ⟨gx, 8, none⟩ = some (.int .i64 x.f4.f0) := (Kc hX3 8).trans rfl
          have hs0 : W3.cell? ⟨go, 0, none⟩ = some (.int .i64 s.1) := (Kc hR3.choose_spec.1 0).trans rfl
          clear hR3 hX3 HNEW HXN hd hf hs1
          go_wp2_with fail
          refine (spec_l1Most.calls s.1 x.f4.f0 mo W3 HMX.out).mono ?_
          rintro e W4 ⟨rfl, hb⟩
          have hb : Below W3.heap.size W3 W4 := by first | exact hb | exact hb.below
          have HR4 := Am (spec_l4Attr.monoR HR3.out hb)
          clear hb hx8 hs0 HR3
          obtain ⟨v4, ho, hr, hgc, hgt, hg8, hB, hbase⟩ := HR4.out
          have hs0 : W4.cell? ⟨go, 0, none⟩ = some (.int .i64 s.1) := (Kc ho 0).trans rfl
          have hsf : W4.frozen? ⟨go, 0, none⟩ = false := Kz ho 0
          have HNEW : Ad (spec_l4Attr.RS go gc gt g8 B n (some ad) l cl c w (mo, s.2.set kk ((jj : Int) + 1)) (W4.setCell ⟨go, 0, none⟩ (.int .i64 mo))) := ⟨_, blk_put ho 0 _ rfl, Kd.R_set hr ho (by decide) 0 _, Kf hgc (blk_ne hgc ho (by decide)) _, Kf hgt (blk_ne hgt ho (by decide)) _, Kf hg8 hbase.2.2 _, Bs hB hbase.2.1, hbase⟩
          clear ho hr hgc hgt hg8 hB hbase HR4
          go_wp2
          go_roundg (y.length - (jj + 1))
          case measure => omega
          case rel => exact ⟨jj + 1, (mo, s.2.set kk ((jj : Int) + 1)), by omega, by omega, by go_num, HNEW, PG⟩
         ·have ei : ((kk : Int) == rep) = false := by rw [beq_eq_false_iff_ne]; exact hi
          clear hsk hi
          have ein : decide ((kk : Int) < (s.2.length : Int)) = true := decide_eq_true hin
          obtain ⟨v, ho, hr, hgc, hgt, hg8, hB, hbase⟩ := HR2.out
          obtain ⟨g, cap, rfl, hbg, hgl, cells, hcells⟩ := Kd.R_form hr (by omega)
          obtain ⟨ce, hcl, hM, hcc, hfr⟩ := Kd.R_elem hr 0 (kk : Int) (by omega) hin
          have hM' : ce = [.int .i64 (s.2.getD kk 0)] := by have h1 := hM; rw [Int.toNat_natCast] at h1; exact h1
          subst hM'
          have hd : W2.cell? ⟨g, kk, none⟩ = some (.int .i64 (s.2.getD kk 0)) := by have h1 := hcc 0 _ rfl; rw [Int.toNat_natCast] at h1; simpa [Kd.int, Kd.scalar] using h1
          have hf : W2.frozen? ⟨g, kk, none⟩ = false := by have h1 := hfr 0; rw [Int.toNat_natCast] at h1; simpa [Kd.int, Kd.scalar] using h1
          have hs1 : W2.cell? ⟨go, 1, none⟩ = some (.slice (some ⟨g, 0, none⟩) s.2.length cap) := (Kc ho 1).trans rfl
          have hng : go ≠ g := blk_ne ho hcells (by decide)
          have HNEW : Ad (spec_l4Attr.RS go gc gt g8 B n (some ad) l cl c w (s.1, s.2.set kk ((jj : Int) + 1)) (W2.setCell ⟨g, kk, none⟩ (.int .i64 ((jj : Int) + 1)))) := ⟨_, Kf ho hng _, by have h1 := Kd.R_putn (enc := Value.int .i64) (h1 := fun _ => rfl) hr (kk : Int) ((jj : Int) + 1); rw [Int.toNat_natCast] at h1; exact h1, Kf hgc (blk_ne hgc hcells (by decide)) _, Kf hgt (blk_ne hgt hcells (by decide)) _, Kf hg8 (blk_ne hg8 hcells (by decide)) _, Bs hB (Nat.le_trans hbase.1 hbg), hbase⟩
          have HXN : Ad ((W2.setCell ⟨g, kk, none⟩ (.int .i64 ((jj : Int) + 1))).heap[gx]? = some (.cells #[.int .i64 x.f0, .int .i64 x.f1, .int .i64 x.f2, .int .i64 x.f3.f0, .int .i64 x.f3.f1, .int .i64 x.f3.f2, .int .i64 x.f3.f3, .int .i64 x.f3.f4, .int .i64 x.f4.f0, .slice A9 x.f4.f1.length c9] 72 (0, 0))) := ⟨Kf HX2.out (blk_ne HX2.out hcells (by decide)) _⟩
          have HIN := Am hin
          clear hcl hM hcc hfr ho hr hgc hgt hg8 hB hbase hbg hgl hcells HR2 HX2 hng
          generalize s.2.getD kk 0 = dd at hd
          go_upto_region 10 with (fail)
          refine letC (fun W_ => spec_l4Attr.RS go gc gt g8 B n (some ad) l cl c w (s.1, s.2.set kk ((jj : Int) + 1)) W_ ∧ W_.heap[gx]? = some (.cells #[.int .i64 x.f0, .int .i64 x.f1, .int .i64 x.f2, .int .i64 x.f3.f0, .int .i64 x.f3.f1, .int .i64 x.f3.f2, .int .i64 x.f3.f3, .int .i64 x.f3.f4, .int .i64 x.f4.f0, .slice A9 x.f4.f1.length c9] 72 (0, 0))) ⟨HNEW.out, HXN.out⟩ ?_
          rintro W3 ⟨hR3, hX3⟩
          have HR3 := Am hR3
          have hx8 : W3.cell? ⟨gx, 8, none⟩ = some (.int .i64 x.f4.f0) := (Kc hX3 8).trans rfl
          have hs0 : W3.cell? ⟨go, 0, none⟩ = some (.int .i64 s.1) := (Kc hR3.choose_spec.1 0).trans rfl
          clear hR3 hX3 HNEW HXN hd hf hs1
          go_wp2_with fail
          refine (spec_l1Most.calls s.1 x.f4.f0 mo W3 HMX.out).mono ?_
          rintro e W4 ⟨rfl, hb⟩
          have hb : Below W3.heap.size W3 W4 := by first | exact hb | exact hb.below
          have HR4 := Am (spec_l4Attr.monoR HR3.out hb)
          clear hb hx8 hs0 HR3
          obtain ⟨v4, ho, hr, hgc, hgt, hg8, hB, hbase⟩ := HR4.out
          have hs0 : W4.cell? ⟨go, 0, none⟩ = some (.int .i64 s.1) := (Kc ho 0).trans rfl
          have hsf : W4.frozen? ⟨go, 0, none⟩ = false := Kz ho 0
          have HNEW : Ad (spec_l4Attr.RS go gc gt g8 B n (some ad) l cl c w (mo, s.2.set kk ((jj : Int) + 1)) (W4.setCell ⟨go, 0, none⟩ (.int .i64 mo))) := ⟨_, blk_put ho 0 _ rfl, Kd.R_set hr ho (by decide) 0 _, Kf hgc (blk_ne hgc ho (by decide)) _, Kf hgt (blk_ne hgt ho (by decide)) _, Kf hg8 hbase.2.2 _, Bs hB hbase.2.1, hbase⟩
          clear ho hr hgc hgt hg8 hB hbase HR4
          go_wp2
          go_roundg (y.length - (jj + 1))
          case measure => omega
          case rel => exact ⟨jj + 1, (mo, s.2.set kk ((jj : Int) + 1)), by omega, by omega, by go_num, HNEW, PG⟩
        ·exact absurd PG.out (by rw [if_pos rfl, if_neg hsk, if_neg hin0]; simp)
    ·have hltz2 : ¬ (jj : Int) < (y.length : Int) := by omega
     have PG : Ad (impl_Table_each.allO (spec_l4Attr.stepS K rep no c) (l.drop (kk + 1)) (kk + 1) s = some sr) := ⟨by have h_ := PF.out; rw [List.drop_eq_nil_of_le (by omega)] at h_; simpa [impl_Table_each.rowO] using h_⟩
     go_wp2
     go_roundg (l.length - (kk + 1))
     case measure => omega
     case rel => exact ⟨kk + 1, s, by omega, by omega, by go_num, HT, PG⟩
  ·have hltz : ¬ (kk : Int) < (l.length : Int) := by omega
   have PG : Ad (t = sr) := ⟨by have h_ := PF.out; rw [List.drop_eq_nil_of_le (by omega)] at h_; simpa [impl_Table_each.allO] using h_⟩
   obtain ⟨v, ho, hr, hgc, hgt, hg8, hB, hbase⟩ := HT.out
   have hs0 : wr.cell? ⟨go, 0, none⟩ = some (.int .i64 t.1) := (Kc ho 0).trans rfl
   have hsf : wr.frozen? ⟨go, 0, none⟩ = false := Kz ho 0
   have HNEW : Ad (spec_l4Attr.RS go gc gt g8 B n A l cl c w (wrap64 (t.1 + 1), t.2) (wr.setCell ⟨go, 0, none⟩ (.int .i64 (wrap64 (t.1 + 1))))) := ⟨_, blk_put ho 0 _ rfl, Kd.R_set hr ho (by decide) 0 _, Kf hgc (blk_ne hgc ho (by decide)) _, Kf hgt (blk_ne hgt ho (by decide)) _, Kf hg8 hbase.2.2 _, Bs hB hbase.2.1, hbase⟩
   clear ho hr hgc hgt hg8 hB hbase HT
   go_upto_region 14 with (fail)
   refine letC (fun W_ => spec_l4Attr.RS go gc gt g8 B n A l cl c w (wrap64 (t.1 + 1), t.2) W_) HNEW.out ?_
   intro W5 hR5
   clear HNEW hs0 hsf
   obtain ⟨v, ho, hr, hgc, hgt, hg8, hB, hbase⟩ := hR5
   obtain ⟨Ae, ce, rfl⟩ := Kd.R_slice hr
   have qo0 : W5.cell? ⟨go, 0, none⟩ = some (.int .i64 (wrap64 (t.1 + 1))) := (Kc ho 0).trans rfl
   have qo1 : W5.cell? ⟨go, 1, none⟩ = some (.slice Ae t.2.length ce) := (Kc ho 1).trans rfl
   have HFIN : Ad (((W5.setCell ⟨g8, 0, none⟩ (.int .i64 (wrap64 (t.1 + 1)))).setCell ⟨g8, 1, none⟩ (.slice Ae t.2.length ce)).heap[g8]? = some (.cells #[.int .i64 (wrap64 (t.1 + 1)), .slice Ae t.2.length ce] 46 (0, 0))) := ⟨blk_put (cs := #[.int .i64 (wrap64 (t.1 + 1)), .slice none 0 0]) (blk_put hg8 0 _ rfl) 1 _ rfl⟩
   have q80 : W5.cell? ⟨g8, 0, none⟩ = some (.int .i64 0) := (Kc hg8 0).trans rfl
   have q81 : W5.cell? ⟨g8, 1, none⟩ = some (.slice none 0 0) := (Kc hg8 1).trans rfl
   have f80 := Kz hg8 0
   have f81 := Kz hg8 1
   have HRR := Am (Kd.R_set (Kd.R_set hr hg8 (by decide) 0 (.int .i64 (wrap64 (t.1 + 1)))) (blk_put hg8 0 _ rfl) (by decide) 1 (.slice Ae t.2.length ce))
   have HBB := Am hB
   have HBS := Am hbase
   have HG8 : Ad (w.heap.size ≤ g8) := H8G
   clear ho hr hgc hgt hg8 hB hbase
   go_wp2
   (try simp only [Exit.inBlock, Exit.then])
   refine bodyPost_ret (results_cell_row rfl _ _ g8 46 #[.int .i64 (wrap64 (t.1 + 1)), .slice Ae t.2.length ce] (0, 0) _ rfl HFIN.out Try.underlying46 rfl (by kernel_rfl)) rfl ?_
   have e_ := PG.out
   subst e_
   obtain ⟨h1, h2⟩ := HE.out
   rw [← h1, ← h2]
   exact ⟨_, rfl, Kd.R_lower HRR.out HBS.out.1, Bs (Bs HBB.out HG8.out) HG8.out⟩
end Go.Proofs.Ytacpjifbgnlppaa.QFnExactAttrFor
