-- Written by a program of this session (wip/mk.py) over the kit's print: Lean checks it.
import Derived.Test.YtmknjfnhfcljcaaDoorQFnCmdsx0
import Derived.Test.YtmknjfnhfcljcaaDoorQFnCmdsx2
import Derived.Test.YtmknjfnhfcljcaaDoorQFnCmdsx3
import Derived.Test.YtmknjfnhfcljcaaDoorQFnCmdsx5
import Derived.Test.YtmknjfnhfcljcaaDoorQFnCmdsx9
namespace Go.Proofs.YtmknjfnhfcljcaaDoor.QFnCmds
set_option maxHeartbeats 8000000
set_option maxRecDepth 100000
open List renaming map_toArray → Lm, map_cons → Lc, map_nil → Ln
open Go.Proofs.YtmknjfnhfcljcaaDoorW.PrintWords.Kd renaming R_alloc → Ra, R_drewN → Rn, R_drew → Rd
open Go.Proofs.YtmknjfnhfcljcaaDoorW.PrintWords renaming below_alloc → Ba, pw_below_drewN → Bn, below_drew1 → Bd, below_size → Bz, gate_dst → Gd, gate_callee → Gc
open Go.Proofs.YtmknjfnhfcljcaaDoorW.PrintWords.Aside0 renaming mk → Am
open Go.Proofs.YtmknjfnhfcljcaaDoorW.PrintWords renaming Aside0 → Ad
open Go.RowKit Go.Proofs.YtmknjfnhfcljcaaDoorW.PrintWords Go.Proofs.YtmknjfnhfcljcaaDoorW.PrintLast Go.Proofs.YtmknjfnhfcljcaaDoorW.PrintMore
attribute [local go_sem] max2_int min2_int max_two min_two max_three min_three max_four min_four   -- for this text's walks alone
set_option linter.unusedVariables false
set_option linter.unusedSimpArgs false
def spec_DrawReadCmd.txt : List ByteArray := ([(⟨#[]⟩ : ByteArray), (⟨#[109, 111, 118, 101]⟩ : ByteArray), (⟨#[109, 111, 118, 101, 32, 49, 32, 48, 32, 49]⟩ : ByteArray), (⟨#[109, 111, 118, 101, 32, 49, 32, 48, 32, 48, 32, 53]⟩ : ByteArray), (⟨#[109, 111, 118, 101, 32, 49, 32, 48, 32, 52, 32, 53]⟩ : ByteArray), (⟨#[109, 111, 118, 101, 32, 48, 32, 48, 32, 49, 32, 53]⟩ : ByteArray), (⟨#[109, 111, 118, 101, 32, 49, 32, 48, 32, 49, 32, 48]⟩ : ByteArray), (⟨#[114, 101, 97, 100, 32, 49, 32, 52]⟩ : ByteArray), (⟨#[114, 101, 97, 100, 32, 48, 49, 32, 49]⟩ : ByteArray), (⟨#[114, 101, 97, 100, 32, 49, 32, 49, 32, 49]⟩ : ByteArray), (⟨#[45, 32, 49]⟩ : ByteArray), (⟨#[102, 108, 121, 32, 49]⟩ : ByteArray), (⟨#[109, 111, 118, 101, 32, 49, 32, 52, 32, 52, 32, 120]⟩ : ByteArray), (⟨#[109, 111, 118, 101, 32, 49, 48, 48, 48, 48, 32, 48, 32, 49, 32, 53]⟩ : ByteArray)] : List ByteArray)
def spec_DrawReadCmd.f (k : Nat) (l0 : List Int) : Option ByteArray := (spec_l1Cur_anyCmd.f l0 0 0).bind fun q => (spec_CmdText.f k q.1 q.2.1 q.2.2.1 q.2.2.2.1 q.2.2.2.2.1).bind fun t => (spec_l1Cur_pick.f l0 q.2.2.2.2.2.1 q.2.2.2.2.2.2 4).bind fun p => if p.1 = 0 then (spec_l1Cur_spoilt.f k l0 p.2.1 p.2.2 t.1 (⟨#[48, 32, 49, 57, 109, 45]⟩ : ByteArray)).bind fun r => some r.1 else if p.1 = 1 then (spec_l1Cur_of.f l0 p.2.1 p.2.2 spec_DrawReadCmd.txt).bind fun r => some r.1 else some t.1
theorem spec_DrawReadCmd.mono : ∀ l0 k, LeO (spec_DrawReadCmd.f k l0) (spec_DrawReadCmd.f (k + 1) l0) := by
 intro l0 k
 unfold spec_DrawReadCmd.f
 exact LeO.bind (LeO.refl _) (fun _ => LeO.bind (spec_CmdText.mono _ _ _ _ _ k) (fun _ => LeO.bind (LeO.refl _) (fun _ => LeO.ite (LeO.bind (spec_l1Cur_spoilt.mono _ _ _ _ _ k) (fun _ => LeO.refl _)) (LeO.refl _))))
theorem spec_DrawReadCmd.calls (k : Nat) (A0 : Option Addr) (c0 : Nat) (l0 : List Int) (r : ByteArray) (w : World) (hr0 : Kd.C (Kd.int .u8) w A0 l0.length l0) (hc0 : l0.length ≤ c0) (h : spec_DrawReadCmd.f k l0 = some r) :
  Calls Tryd.prog 19 #[.slice A0 l0.length c0] w fun e w' => e = .returned (.string r) ∧ Below w.heap.size w w' := by
 unfold spec_DrawReadCmd.f at h
 obtain ⟨⟨q1, q2, q3, q4, q5, a2, s2⟩, hc, h⟩ := Option.bind_eq_some_iff.1 h
 obtain ⟨⟨s, ok⟩, hd, h⟩ := Option.bind_eq_some_iff.1 h
 obtain ⟨⟨p, a3, s3⟩, hp, h⟩ := Option.bind_eq_some_iff.1 h
 have HC := Am hc
 have HD := Am hd
 have HP := Am hp
 have HE := Am h
 clear hc hd hp h
 have HR := Am hr0
 clear hr0 hc0
 go_enter Tryd.func19, Tryd.ntmps19
 go_upto_region 2 with (fail)
 refine letC (fun W_ => Below w.heap.size w W_ ∧ W_.heap[w.heap.size]? = some (.cells #[.slice A0 l0.length c0, .int .i64 0, .int .u64 0] 70 (0, 0))) ⟨Ba (Below.refl _ _) _, blk_new w (.cells #[.slice A0 l0.length c0, .int .i64 0, .int .u64 0] 70)⟩ ?_
 rintro W0 ⟨hb, hx⟩
 have HB0 := Am hb
 have HI0 : Ad (J70 w W0 w.heap.size l0 0 0) := ⟨⟨A0, c0, hx, Nat.le_refl _, HR.out⟩⟩
 clear hb hx
 generalize w.heap.size = g at HI0
 go_wp2_with fail
 refine (spec_l1Cur_anyCmd.calls g l0 0 0 q1 q2 q3 q4 q5 a2 s2 w W0 HI0.out HB0.out HC.out).mono ?_
 rintro e W1 ⟨rfl, hI, hB, hK⟩
 have HI1 := Am hI
 have HB1 := Am hB
 clear hI hB hK HI0 HB0
 go_wp2_with fail
 refine (spec_CmdText.calls k q1 q2 q3 q4 q5 s ok W1 HD.out).mono ?_
 rintro e W2 ⟨rfl, hb⟩
 have HI2 := Am (J70.below HI1.out hb)
 have HB2 := Am (below_then HB1.out HB1.out.size hb)
 clear hb HI1 HB1
 go_wp2_with fail
 refine (spec_l1Cur_pick.calls g l0 a2 s2 4 p a3 s3 w W2 HI2.out HB2.out HP.out).mono ?_
 rintro e W3 ⟨rfl, hI, hB, hK⟩
 have HI3 := Am hI
 have HB3 := Am hB
 clear hI hB hK HI2 HB2
 have h := HE.out
 clear HE
 try dsimp only at h
 by_cases h0 : p = 0
 ·rw [if_pos h0] at h
  obtain ⟨⟨t, a4, s4⟩, hs, h⟩ := Option.bind_eq_some_iff.1 h
  obtain rfl := Option.some.inj h
  have HS := Am hs
  have h0b : (p == 0) = true := beq_iff_eq.2 h0
  clear hs h h0
  go_wp2_with fail
  refine (spec_l1Cur_spoilt.calls k g l0 a3 s3 s (⟨#[48, 32, 49, 57, 109, 45]⟩ : ByteArray) t a4 s4 w W3 HI3.out HB3.out HS.out).mono ?_
  rintro e W4 ⟨rfl, hI, hB, hK⟩
  go_wp2
  go_ret
  exact ⟨rfl, hB⟩
 ·rw [if_neg h0] at h
  have h0b : (p == 0) = false := beq_eq_false_iff_ne.2 h0
  by_cases h1 : p = 1
  ·rw [if_pos h1] at h
   obtain ⟨⟨t, a4, s4⟩, hs, h⟩ := Option.bind_eq_some_iff.1 h
   obtain rfl := Option.some.inj h
   have HS := Am hs
   have h1b : (p == 1) = true := beq_iff_eq.2 h1
   clear hs h h0 h1
   go_wp2_with (first | ((refine Gd (N := 25) rfl ?_); refine Kd.R_lit Kd.string _ 9 ?hg (N := 25) ?hd (xs := ([(⟨#[]⟩ : ByteArray), (⟨#[109, 111, 118, 101]⟩ : ByteArray), (⟨#[109, 111, 118, 101, 32, 49, 32, 48, 32, 49]⟩ : ByteArray), (⟨#[109, 111, 118, 101, 32, 49, 32, 48, 32, 48, 32, 53]⟩ : ByteArray), (⟨#[109, 111, 118, 101, 32, 49, 32, 48, 32, 52, 32, 53]⟩ : ByteArray), (⟨#[109, 111, 118, 101, 32, 48, 32, 48, 32, 49, 32, 53]⟩ : ByteArray), (⟨#[109, 111, 118, 101, 32, 49, 32, 48, 32, 49, 32, 48]⟩ : ByteArray), (⟨#[114, 101, 97, 100, 32, 49, 32, 52]⟩ : ByteArray), (⟨#[114, 101, 97, 100, 32, 48, 49, 32, 49]⟩ : ByteArray), (⟨#[114, 101, 97, 100, 32, 49, 32, 49, 32, 49]⟩ : ByteArray), (⟨#[45, 32, 49]⟩ : ByteArray), (⟨#[102, 108, 121, 32, 49]⟩ : ByteArray), (⟨#[109, 111, 118, 101, 32, 49, 32, 52, 32, 52, 32, 120]⟩ : ByteArray), (⟨#[109, 111, 118, 101, 32, 49, 48, 48, 48, 48, 32, 48, 32, 49, 32, 53]⟩ : ByteArray)] : List ByteArray)) (inner := [.string (⟨#[]⟩ : ByteArray), .string (⟨#[109, 111, 118, 101]⟩ : ByteArray), .string (⟨#[109, 111, 118, 101, 32, 49, 32, 48, 32, 49]⟩ : ByteArray), .string (⟨#[109, 111, 118, 101, 32, 49, 32, 48, 32, 48, 32, 53]⟩ : ByteArray), .string (⟨#[109, 111, 118, 101, 32, 49, 32, 48, 32, 52, 32, 53]⟩ : ByteArray), .string (⟨#[109, 111, 118, 101, 32, 48, 32, 48, 32, 49, 32, 53]⟩ : ByteArray), .string (⟨#[109, 111, 118, 101, 32, 49, 32, 48, 32, 49, 32, 48]⟩ : ByteArray), .string (⟨#[114, 101, 97, 100, 32, 49, 32, 52]⟩ : ByteArray), .string (⟨#[114, 101, 97, 100, 32, 48, 49, 32, 49]⟩ : ByteArray), .string (⟨#[114, 101, 97, 100, 32, 49, 32, 49, 32, 49]⟩ : ByteArray), .string (⟨#[45, 32, 49]⟩ : ByteArray), .string (⟨#[102, 108, 121, 32, 49]⟩ : ByteArray), .string (⟨#[109, 111, 118, 101, 32, 49, 32, 52, 32, 52, 32, 120]⟩ : ByteArray), .string (⟨#[109, 111, 118, 101, 32, 49, 48, 48, 48, 48, 32, 48, 32, 49, 32, 53]⟩ : ByteArray)]) (ok := fun _ => True) (okp := fun _ => True) ?hr ?hp (fun _ hk => hk) trivial (Below.refl _ _) (Nat.le_refl _) (by decide) ?_; (case hd | hg => rfl); (case hr => go_simp <;> rfl); (case hp => exact (Reps.one (show Kd.M Kd.string _ _ _ _ [.string (⟨#[]⟩ : ByteArray)] from rfl) (Reps.one (show Kd.M Kd.string _ _ _ _ [.string (⟨#[109, 111, 118, 101]⟩ : ByteArray)] from rfl) (Reps.one (show Kd.M Kd.string _ _ _ _ [.string (⟨#[109, 111, 118, 101, 32, 49, 32, 48, 32, 49]⟩ : ByteArray)] from rfl) (Reps.one (show Kd.M Kd.string _ _ _ _ [.string (⟨#[109, 111, 118, 101, 32, 49, 32, 48, 32, 48, 32, 53]⟩ : ByteArray)] from rfl) (Reps.one (show Kd.M Kd.string _ _ _ _ [.string (⟨#[109, 111, 118, 101, 32, 49, 32, 48, 32, 52, 32, 53]⟩ : ByteArray)] from rfl) (Reps.one (show Kd.M Kd.string _ _ _ _ [.string (⟨#[109, 111, 118, 101, 32, 48, 32, 48, 32, 49, 32, 53]⟩ : ByteArray)] from rfl) (Reps.one (show Kd.M Kd.string _ _ _ _ [.string (⟨#[109, 111, 118, 101, 32, 49, 32, 48, 32, 49, 32, 48]⟩ : ByteArray)] from rfl) (Reps.one (show Kd.M Kd.string _ _ _ _ [.string (⟨#[114, 101, 97, 100, 32, 49, 32, 52]⟩ : ByteArray)] from rfl) (Reps.one (show Kd.M Kd.string _ _ _ _ [.string (⟨#[114, 101, 97, 100, 32, 48, 49, 32, 49]⟩ : ByteArray)] from rfl) (Reps.one (show Kd.M Kd.string _ _ _ _ [.string (⟨#[114, 101, 97, 100, 32, 49, 32, 49, 32, 49]⟩ : ByteArray)] from rfl) (Reps.one (show Kd.M Kd.string _ _ _ _ [.string (⟨#[45, 32, 49]⟩ : ByteArray)] from rfl) (Reps.one (show Kd.M Kd.string _ _ _ _ [.string (⟨#[102, 108, 121, 32, 49]⟩ : ByteArray)] from rfl) (Reps.one (show Kd.M Kd.string _ _ _ _ [.string (⟨#[109, 111, 118, 101, 32, 49, 32, 52, 32, 52, 32, 120]⟩ : ByteArray)] from rfl) (Reps.one (show Kd.M Kd.string _ _ _ _ [.string (⟨#[109, 111, 118, 101, 32, 49, 48, 48, 48, 48, 32, 48, 32, 49, 32, 53]⟩ : ByteArray)] from rfl) (Reps.none _ _)))))))))))))))); intro v25 w4 ho hb hg_ hnew_; clear hg_ hnew_; obtain ⟨A5, c5, e5⟩ := Kd.R_slice ho; subst e5; have HI4 := Am (J70.below HI3.out hb); have HB4 := Am (below_then HB3.out HB3.out.size hb); have HO4 := Am ho; clear ho hb HI3 HB3) | (go_at_call 50; refine (spec_l1Cur_of.calls g l0 a3 s3 A5 c5 _ t a4 s4 w w4 HI4.out HB4.out (Kd.R_reads' HO4.out).2.2 (Kd.R_reads' HO4.out).2.1 (fun ad e _ => by subst e; exact Kd.own_blk (J70.own_ne HI4.out HO4.out (by decide))) HS.out).mono ?_; rintro e w5 ⟨rfl, hI, hB, hK⟩))
   go_ret
   exact ⟨rfl, hB⟩
  ·rw [if_neg h1] at h
   obtain rfl := Option.some.inj h
   have h1b : (p == 1) = false := beq_eq_false_iff_ne.2 h1
   clear h h0 h1
   go_wp2
   go_ret
   exact ⟨rfl, HB3.out⟩
def spec_l1Split.l0 : Nat → ByteArray → Int → List ByteArray → Int → Int → Option (List ByteArray)
 | 0, _, _, _, _, _ => none
 | k + 1, x0, x1, x5, x6, x7 => if x7 < (x0.size : Int) then (if 0 ≤ x7 then (if (bt x0 x7) = x1 then (if 0 ≤ x6 then (if x6 ≤ x7 then (if x7 ≤ (x0.size : Int) then (if x5.length < 8796093022208 then (spec_l1Split.l0 k x0 x1 (x5 ++ [x0.extract (x6 : Int).toNat (x7 : Int).toNat]) (wrap64 (x7 + 1)) (wrap64 (x7 + 1))) else (none)) else (none)) else (none)) else (none)) else (spec_l1Split.l0 k x0 x1 x5 x6 (wrap64 (x7 + 1)))) else (none)) else (if 0 ≤ x6 then (if x6 ≤ (x0.size : Int) then (if x5.length < 8796093022208 then (some (x5 ++ [x0.extract (x6 : Int).toNat x0.size])) else (none)) else (none)) else (none))
def spec_l1Split.f (k : Nat) (a0 : ByteArray) (a1 : Int) : Option (List ByteArray) := spec_l1Split.l0 k a0 a1 ([] : List ByteArray) 0 0
theorem spec_l1Split.mono_l : ∀ k, (∀ y0 y1 y2 y3 y4, LeO (spec_l1Split.l0 k y0 y1 y2 y3 y4) (spec_l1Split.l0 (k + 1) y0 y1 y2 y3 y4))
 | 0 => fun _ _ _ _ _ r h => by simp [spec_l1Split.l0] at h
 | k + 1 => by
  have ih0 := spec_l1Split.mono_l k
  ·intro y0 y1 y2 y3 y4
   unfold spec_l1Split.l0
   repeat' first
   | (with_reducible exact ih0 _ _ _ _ _)
   | (with_reducible exact LeO.refl _)
   | (with_reducible exact LeO.none _)
   | (with_reducible refine LeO.ite ?_ ?_)
   | (with_reducible refine LeO.bind ?_ (fun _ => ?_))
   | exact ih0 _ _ _ _ _
   | exact LeO.none _
   | refine LeO.ite ?_ ?_
   | refine LeO.bind ?_ (fun _ => ?_)
theorem spec_l1Split.mono : ∀ a0 a1 k, LeO (spec_l1Split.f k a0 a1) (spec_l1Split.f (k + 1) a0 a1) := by
 intro a0 a1 k
 have ih0 := spec_l1Split.mono_l k
 unfold spec_l1Split.f
 repeat' first
   | (with_reducible exact ih0 _ _ _ _ _)
   | (with_reducible exact LeO.refl _)
   | (with_reducible exact LeO.none _)
   | (with_reducible refine LeO.ite ?_ ?_)
   | (with_reducible refine LeO.bind ?_ (fun _ => ?_))
   | exact ih0 _ _ _ _ _
   | exact LeO.none _
   | refine LeO.ite ?_ ?_
   | refine LeO.bind ?_ (fun _ => ?_)
theorem spec_l1Split.calls (k : Nat) (a0 : ByteArray) (a1 : Int) (r : List ByteArray) (w : World) (h : spec_l1Split.f k a0 a1 = some r) :
  Calls Tryd.prog 51 #[.string a0, .int .u8 a1] w fun e w' => ∃ v0_ : Value, e = .returned (v0_) ∧ Kd.R Kd.string 9 w' w.heap.size (fun _ => True) v0_ r ∧ Below w.heap.size w w' := by
 have HB := Am (Below.refl w.heap.size w)
 have H : (spec_l1Split.l0 k a0 a1 ([] : List ByteArray) 0 0) = some r := h
 clear h
 have H' := Am H
 clear H
 go_enter Tryd.func51, Tryd.ntmps51
 go_wp2
 go_loopg [5, 6, 7] k (fun kq v5 v6 v7 w' => ∃ (x5_1 : List ByteArray) (x6_1 : Int) (x7_1 : Int), v6 = .int .i64 x6_1 ∧ v7 = .int .i64 x7_1 ∧ Ad (spec_l1Split.l0 kq a0 a1 x5_1 x6_1 x7_1 = some r) ∧ Ad (kq ≤ k) ∧ Ad (Kd.R Kd.string 9 w' w.heap.size (fun _ => True) v5 x5_1) ∧ Ad (Below w.heap.size w w'))
 case atStart => exact ⟨(([] : List ByteArray)), (0), (0), (by first | rfl | (simp; done) | (simp [*]; done)), (by first | rfl | (simp; done) | (simp [*]; done)), H', ⟨Nat.le_refl _⟩, ⟨by first | exact Kd.R_nil _ _ _ _ _ | exact Kd.N_nil _ _ _ _ _ | exact Kd.V_nil _ _ _ _ _ | exact Kd.Q_nil _ _ _ _ _ | exact Kd.S_nil _ _ _ _ _⟩, ⟨by repeat (first | exact HB.out | apply Ba | apply Bn | apply Bd)⟩⟩
 case round =>
  clear H'
  try clear p2
  obtain ⟨x5_1, x6_1, x7_1, rfl, rfl, HA, HK1, HO_5, HB⟩ := hrel
  cases gk with
  | zero => exact absurd HA.out (by simp [spec_l1Split.l0])
  | succ k1 =>
   have H := HA.out
   clear HA
   simp only [spec_l1Split.l0] at H
   by_cases c3 : x7_1 < (a0.size : Int)
   ·rw [if_pos c3] at H
    have c3b0 : decide (x7_1 < (a0.size : Int)) = true := Od c3
    clear c3
    by_cases c4 : 0 ≤ x7_1
    ·rw [if_pos c4] at H
     have c4b0 : decide (0 ≤ x7_1) = true := Od c4
     clear c4
     by_cases c6 : (bt a0 x7_1) = a1
     ·rw [if_pos c6] at H
      have c6b0 : ((bt a0 x7_1) == a1) = true := beq_iff_eq.mpr c6
      have c6b1 : ((bt a0 x7_1) != a1) = false := bne_eq_false_iff_eq.mpr c6
      clear c6
      by_cases c7 : 0 ≤ x6_1
      ·rw [if_pos c7] at H
       have c7b0 := eq_true c7
       have c7b1 : decide (0 ≤ x6_1) = true := Od c7
       clear c7
       by_cases c8 : x6_1 ≤ x7_1
       ·rw [if_pos c8] at H
        have c8b0 := eq_true c8
        have c8b1 : decide (x6_1 ≤ x7_1) = true := Od c8
        clear c8
        by_cases c9 : x7_1 ≤ (a0.size : Int)
        ·rw [if_pos c9] at H
         have c9b0 := eq_true c9
         have c9b1 : decide (x7_1 ≤ (a0.size : Int)) = true := Od c9
         clear c9
         by_cases c10 : x5_1.length < 8796093022208
         ·rw [if_pos c10] at H
          have LMc10 := Am c10
          clear c10
          obtain ⟨y388, hy388⟩ : ∃ y_ : List ByteArray, y_ = (x5_1 ++ [a0.extract (x6_1 : Int).toNat (x7_1 : Int).toNat]) := ⟨_, rfl⟩
          replace H : (spec_l1Split.l0 k1 a0 a1 y388 (wrap64 (x7_1 + 1)) (wrap64 (x7_1 + 1))) = some r := by first | (rw [hy388]; with_reducible exact H) | (have H2_ := (Option.bind_some _ _).symm.trans H; rw [hy388]; with_reducible exact H2_) | (have H2_ := (Option.bind_some _ _).symm.trans H; with_reducible exact H2_) | with_reducible exact H | (rw [hy388]; exact H) | exact H
          have Ny388 := Am hy388
          clear hy388
          have H' := Am H
          clear H
          have p5 : 0 ≤ (x7_1 : Int) := Oq (by assumption)
          have q5 : x7_1 < (a0.size : Int) := Oq (by assumption)
          have hx5 := bt_at a0 x7_1
          replace p5 := eq_true p5
          replace q5 := eq_true q5
          go_wp2_with (first | ((with_reducible refine gate_builtin (b := .append) (xs := #[.tmp 19, .tmp 24]) rfl ?_); at_builtin; refine Kd.R_append Kd.string (w0 := w) w.heap.size rfl (.tmp 19) (.tmp 24) 62 9 (.string ⟨#[]⟩) 16 rfl Tryd.underlying62 info9 rfl (by decide) (by omega) u5 x5_1 (a0.extract (x6_1 : Int).toNat (x7_1 : Int).toNat) [.string (a0.extract (x6_1 : Int).toNat (x7_1 : Int).toNat)] (fun _ => True) (fun _ => False) rfl rfl ?aP (fun _ hk => hk.elim) ?aF ?aO ?aB ?aS ?aL ?_; (case aP => exact rfl); (case aB => exact (by repeat (first | exact HB.out | apply Ba | apply Bn | apply Bd))); (case aF => exact (fun _ _ => trivial)); (case aO => exact (by (with_reducible repeat (first | apply Ra | apply Rn | apply Rd)); exact HO_5.out)); (case aS => exact (Bz (by repeat (first | exact HB.out | apply Ba | apply Bn | apply Bd)))); (case aL => have := LMc10.out; omega); intro v389 w11 ho hb hg hat; rw [← Ny388.out] at ho; have n0_ := Am (hb); have n1_ := Am (ho); clear HB; clear HO_5; have HB := n0_; have HO390 := n1_; clear n0_ n1_; clear ho hb hg hat))
          go_roundg k1
          case measure => have := HK1.out; omega
          case rel => exact ⟨(y388), (wrap64 (x7_1 + 1)), (wrap64 (x7_1 + 1)), (by first | rfl | (simp; done) | (simp [*]; done)), (by first | rfl | (simp; done) | (simp [*]; done)), H', ⟨by have := HK1.out; omega⟩, ⟨by (with_reducible repeat (first | apply Ra | apply Rn | apply Rd)); exact HO390.out⟩, ⟨by repeat (first | exact HB.out | apply Ba | apply Bn | apply Bd)⟩⟩
         ·rw [if_neg c10] at H
          exact absurd H (by simp)
        ·rw [if_neg c9] at H
         exact absurd H (by simp)
       ·rw [if_neg c8] at H
        exact absurd H (by simp)
      ·rw [if_neg c7] at H
       exact absurd H (by simp)
     ·rw [if_neg c6] at H
      have c6b0 : ((bt a0 x7_1) == a1) = false := beq_eq_false_iff_ne.mpr c6
      have c6b1 : ((bt a0 x7_1) != a1) = true := bne_iff_ne.mpr c6
      have H' := Am H
      clear H
      have p5 : 0 ≤ (x7_1 : Int) := Oq (by assumption)
      have q5 : x7_1 < (a0.size : Int) := Oq (by assumption)
      have hx5 := bt_at a0 x7_1
      replace p5 := eq_true p5
      replace q5 := eq_true q5
      go_wp2
      go_roundg k1
      case measure => have := HK1.out; omega
      case rel => exact ⟨(x5_1), (x6_1), (wrap64 (x7_1 + 1)), (by first | rfl | (simp; done) | (simp [*]; done)), (by first | rfl | (simp; done) | (simp [*]; done)), H', ⟨by have := HK1.out; omega⟩, ⟨by (with_reducible repeat (first | apply Ra | apply Rn | apply Rd)); exact HO_5.out⟩, ⟨by repeat (first | exact HB.out | apply Ba | apply Bn | apply Bd)⟩⟩
    ·rw [if_neg c4] at H
     exact absurd H (by simp)
   ·rw [if_neg c3] at H
    have c3b0 : decide (x7_1 < (a0.size : Int)) = false := decide_eq_false c3
    clear c3
    by_cases c12 : 0 ≤ x6_1
    ·rw [if_pos c12] at H
     have c12b0 := eq_true c12
     have c12b1 : decide (0 ≤ x6_1) = true := Od c12
     clear c12
     by_cases c13 : x6_1 ≤ (a0.size : Int)
     ·rw [if_pos c13] at H
      have c13b0 := eq_true c13
      have c13b1 : decide (x6_1 ≤ (a0.size : Int)) = true := Od c13
      clear c13
      by_cases c14 : x5_1.length < 8796093022208
      ·rw [if_pos c14] at H
       have LMc14 := Am c14
       clear c14
       obtain ⟨y391, hy391⟩ : ∃ y_ : List ByteArray, y_ = (x5_1 ++ [a0.extract (x6_1 : Int).toNat a0.size]) := ⟨_, rfl⟩
       replace H : (some y391) = some r := by first | (rw [hy391]; with_reducible exact H) | (have H2_ := (Option.bind_some _ _).symm.trans H; rw [hy391]; with_reducible exact H2_) | (have H2_ := (Option.bind_some _ _).symm.trans H; with_reducible exact H2_) | with_reducible exact H | (rw [hy391]; exact H) | exact H
       have Ny391 := Am hy391
       clear hy391
       obtain rfl := Option.some.inj H
       go_wp2_with (first | ((with_reducible refine gate_builtin (b := .append) (xs := #[.tmp 28, .tmp 32]) rfl ?_); at_builtin; refine Kd.R_append Kd.string (w0 := w) w.heap.size rfl (.tmp 28) (.tmp 32) 62 9 (.string ⟨#[]⟩) 16 rfl Tryd.underlying62 info9 rfl (by decide) (by omega) u5 x5_1 (a0.extract (x6_1 : Int).toNat a0.size) [.string (a0.extract (x6_1 : Int).toNat a0.size)] (fun _ => True) (fun _ => False) rfl rfl ?aP (fun _ hk => hk.elim) ?aF ?aO ?aB ?aS ?aL ?_; (case aP => exact rfl); (case aB => exact (by repeat (first | exact HB.out | apply Ba | apply Bn | apply Bd))); (case aF => exact (fun _ _ => trivial)); (case aO => exact (by (with_reducible repeat (first | apply Ra | apply Rn | apply Rd)); exact HO_5.out)); (case aS => exact (Bz (by repeat (first | exact HB.out | apply Ba | apply Bn | apply Bd)))); (case aL => have := LMc14.out; omega); intro v392 w15 ho hb hg hat; rw [← Ny391.out] at ho; have n0_ := Am (hb); have n1_ := Am (ho); clear HB; clear HO_5; have HB := n0_; have HO393 := n1_; clear n0_ n1_; clear ho hb hg hat))
       go_ret
       exact ⟨_, by first | rfl | (simp [*, errW_none, errW_some] <;> rfl), by (with_reducible repeat (first | apply Ra | apply Rn | apply Rd)); exact HO393.out, by repeat (first | exact HB.out | apply Ba | apply Bn | apply Bd)⟩
      ·rw [if_neg c14] at H
       exact absurd H (by simp)
     ·rw [if_neg c13] at H
      exact absurd H (by simp)
    ·rw [if_neg c12] at H
     exact absurd H (by simp)
mutual
def spec_l1Read.j0 : Nat → ByteArray → Bool → Option (Int)
 | 0, _, _ => none
 | k + 1, x0, x18 => if x18 = true then (some (-1)) else (spec_l1Read.l0 k x0 0 0)
def spec_l1Read.l0 : Nat → ByteArray → Int → Int → Option (Int)
 | 0, _, _, _ => none
 | k + 1, x0, x3, x4 => if x4 < (x0.size : Int) then (if 0 ≤ x4 then (if (bt x0 x4) < 48 then (some (-1)) else (if (bt x0 x4) > 57 then (some (-1)) else (spec_l1Read.l0 k x0 (wrap64 ((wrap64 (10 * x3)) + (((bt x0 x4) - 48) % 256))) (wrap64 (x4 + 1))))) else (none)) else (some x3)
end
def spec_l1Read.f (k : Nat) (a0 : ByteArray) : Option (Int) := (spec_l1In.f (a0.size : Int) 1 6).bind fun t394 => (if t394 = true then (if 0 < (a0.size : Int) then (if (bt a0 0) = 48 then (spec_l1Read.j0 k a0 (decide ((a0.size : Int) > 1))) else (spec_l1Read.j0 k a0 false)) else (none)) else (spec_l1Read.j0 k a0 true))
theorem spec_l1Read.mono_l : ∀ k, (∀ y0 y1, LeO (spec_l1Read.j0 k y0 y1) (spec_l1Read.j0 (k + 1) y0 y1)) ∧ (∀ y0 y1 y2, LeO (spec_l1Read.l0 k y0 y1 y2) (spec_l1Read.l0 (k + 1) y0 y1 y2))
 | 0 => ⟨fun _ _ r h => by simp [spec_l1Read.j0] at h, fun _ _ _ r h => by simp [spec_l1Read.l0] at h⟩
 | k + 1 => by
  obtain ⟨ih0, ih1⟩ := spec_l1Read.mono_l k
  refine ⟨?_, ?_⟩
  ·intro y0 y1
   unfold spec_l1Read.j0
   repeat' first
   | (with_reducible exact ih0 _ _)
   | (with_reducible exact ih1 _ _ _)
   | (with_reducible exact LeO.refl _)
   | (with_reducible exact LeO.none _)
   | (with_reducible refine LeO.ite ?_ ?_)
   | (with_reducible refine LeO.bind ?_ (fun _ => ?_))
   | exact ih0 _ _
   | exact ih1 _ _ _
   | exact LeO.none _
   | refine LeO.ite ?_ ?_
   | refine LeO.bind ?_ (fun _ => ?_)
  ·intro y0 y1 y2
   unfold spec_l1Read.l0
   repeat' first
   | (with_reducible exact ih0 _ _)
   | (with_reducible exact ih1 _ _ _)
   | (with_reducible exact LeO.refl _)
   | (with_reducible exact LeO.none _)
   | (with_reducible refine LeO.ite ?_ ?_)
   | (with_reducible refine LeO.bind ?_ (fun _ => ?_))
   | exact ih0 _ _
   | exact ih1 _ _ _
   | exact LeO.none _
   | refine LeO.ite ?_ ?_
   | refine LeO.bind ?_ (fun _ => ?_)
theorem spec_l1Read.mono : ∀ a0 k, LeO (spec_l1Read.f k a0) (spec_l1Read.f (k + 1) a0) := by
 intro a0 k
 obtain ⟨ih0, ih1⟩ := spec_l1Read.mono_l k
 unfold spec_l1Read.f
 repeat' first
   | (with_reducible exact ih0 _ _)
   | (with_reducible exact ih1 _ _ _)
   | (with_reducible exact LeO.refl _)
   | (with_reducible exact LeO.none _)
   | (with_reducible refine LeO.ite ?_ ?_)
   | (with_reducible refine LeO.bind ?_ (fun _ => ?_))
   | exact ih0 _ _
   | exact ih1 _ _ _
   | exact LeO.none _
   | refine LeO.ite ?_ ?_
   | refine LeO.bind ?_ (fun _ => ?_)
theorem spec_l1Read.calls (k : Nat) (a0 : ByteArray) (r : Int) (w : World) (h : spec_l1Read.f k a0 = some r) :
  Calls Tryd.prog 52 #[.string a0] w fun e w' => e = .returned (.int .i64 r) ∧ Drawn0 w w' := by
 have H : ((spec_l1In.f (a0.size : Int) 1 6).bind fun t394 => (if t394 = true then (if 0 < (a0.size : Int) then (if (bt a0 0) = 48 then (spec_l1Read.j0 k a0 (decide ((a0.size : Int) > 1))) else (spec_l1Read.j0 k a0 false)) else (none)) else (spec_l1Read.j0 k a0 true))) = some r := h
 clear h
 have HC2 := Am H
 clear H
 go_enter Tryd.func52, Tryd.ntmps52
 go_upto_region 1 with (fail)
 go_cut [18] (fun v18 wc => ∃ (kq : Nat) (x18_1 : Bool), v18 = .bool x18_1 ∧ Ad (spec_l1Read.j0 kq a0 x18_1 = some r) ∧ Ad (kq ≤ k) ∧ Drawn0 w wc)
 case first =>
  have H := HC2.out
  clear HC2
  replace H := Option.bind_eq_some_iff.mp H
  obtain ⟨t394, A30, H⟩ := H
  replace H : (if t394 = true then (if 0 < (a0.size : Int) then (if (bt a0 0) = 48 then (spec_l1Read.j0 k a0 (decide ((a0.size : Int) > 1))) else (spec_l1Read.j0 k a0 false)) else (none)) else (spec_l1Read.j0 k a0 true)) = some r := H
  have A3 := Am A30
  clear A30
  by_cases c4 : t394 = true
  ·subst c4
   have H1 : (if 0 < (a0.size : Int) then (if (bt a0 0) = 48 then (spec_l1Read.j0 k a0 (decide ((a0.size : Int) > 1))) else (spec_l1Read.j0 k a0 false)) else (none)) = some r := by rw [if_pos rfl] at H; exact H
   clear H
   have H := H1
   clear H1
   by_cases c5 : 0 < (a0.size : Int)
   ·rw [if_pos c5] at H
    have c5b0 : decide (0 < (a0.size : Int)) = true := Od c5
    have c5b1 : decide (0 < a0.size) = true := Od (by omega)
    clear c5
    (first | rw [c5b0] | (simp only [i64_w, i32_w]; rw [c5b0]) | skip)
    by_cases c7 : (bt a0 0) = 48
    ·rw [if_pos c7] at H
     have c7b0 : ((bt a0 0) == 48) = true := beq_iff_eq.mpr c7
     have c7b1 : ((bt a0 0) != 48) = false := bne_eq_false_iff_eq.mpr c7
     clear c7
     have H' := Am H
     clear H
     go_wp2_with (first | ((refine Gc (f := 68) rfl ?_); refine goesL_ (some 7) rfl rfl Tryd.func68 (by kernel_rfl) rfl #[.int .i64 (a0.size : Int), .int .i64 1, .int .i64 6] rfl (by first | rfl | simp only [Lm, Lc, Ln] <;> rfl) ?_; (with_reducible refine (spec_l1In.calls (a0.size : Int) 1 6 true _ A3.out).mono ?_); rintro e w' ⟨rfl, ⟨nd, rfl⟩⟩; refine ⟨_, rfl, ?_⟩; have p6 : 0 ≤ (0 : Int) := (by omega); have q6 : 0 < a0.size := (by have : (0 : Int) < (a0.size : Int) := Oq (by assumption); omega); have hx6 : ∀ h : 0 < a0.size, ((a0[0]'h).toNat : Int) = bt a0 0 := bt_at a0 0; clear p6; have qi6 : (0 < (a0.size : Int)) = True := eq_true (Oq (by assumption)); replace q6 := eq_true q6))
     go_meet
     case rel => exact ⟨_, (decide ((a0.size : Int) > 1)), (by first | rfl | (simp; done) | (simp [*]; done)), H', ⟨by first | omega | exact Nat.le_refl _⟩, by repeat (first | exact Drawn0.refl _ | apply Drawn0.step)⟩
    ·rw [if_neg c7] at H
     have c7b0 : ((bt a0 0) == 48) = false := beq_eq_false_iff_ne.mpr c7
     have c7b1 : ((bt a0 0) != 48) = true := bne_iff_ne.mpr c7
     have H' := Am H
     clear H
     go_wp2_with (first | ((refine Gc (f := 68) rfl ?_); refine goesL_ (some 7) rfl rfl Tryd.func68 (by kernel_rfl) rfl #[.int .i64 (a0.size : Int), .int .i64 1, .int .i64 6] rfl (by first | rfl | simp only [Lm, Lc, Ln] <;> rfl) ?_; (with_reducible refine (spec_l1In.calls (a0.size : Int) 1 6 true _ A3.out).mono ?_); rintro e w' ⟨rfl, ⟨nd, rfl⟩⟩; refine ⟨_, rfl, ?_⟩; have p6 : 0 ≤ (0 : Int) := (by omega); have q6 : 0 < a0.size := (by have : (0 : Int) < (a0.size : Int) := Oq (by assumption); omega); have hx6 : ∀ h : 0 < a0.size, ((a0[0]'h).toNat : Int) = bt a0 0 := bt_at a0 0; clear p6; have qi6 : (0 < (a0.size : Int)) = True := eq_true (Oq (by assumption)); replace q6 := eq_true q6))
     go_meet
     case rel => exact ⟨_, (false), (by first | rfl | (simp; done) | (simp [*]; done)), H', ⟨by first | omega | exact Nat.le_refl _⟩, by repeat (first | exact Drawn0.refl _ | apply Drawn0.step)⟩
   ·rw [if_neg c5] at H
    exact absurd H (by simp)
  ·replace c4 := Bool.eq_false_iff.mpr c4
   subst c4
   have H1 : (spec_l1Read.j0 k a0 true) = some r := by rw [if_neg (show ¬ (false = true) by decide)] at H; exact H
   clear H
   have H := H1
   clear H1
   have H' := Am H
   clear H
   go_wp2_with (first | ((refine Gc (f := 68) rfl ?_); refine goesL_ (some 7) rfl rfl Tryd.func68 (by kernel_rfl) rfl #[.int .i64 (a0.size : Int), .int .i64 1, .int .i64 6] rfl (by first | rfl | simp only [Lm, Lc, Ln] <;> rfl) ?_; (with_reducible refine (spec_l1In.calls (a0.size : Int) 1 6 false _ A3.out).mono ?_); rintro e w' ⟨rfl, ⟨nd, rfl⟩⟩; refine ⟨_, rfl, ?_⟩))
   go_meet
   case rel => exact ⟨_, (true), (by first | rfl | (simp; done) | (simp [*]; done)), H', ⟨by first | omega | exact Nat.le_refl _⟩, by repeat (first | exact Drawn0.refl _ | apply Drawn0.step)⟩
 case rest =>
  clear HC2
  try clear p2
  try clear c4
  try clear c5
  try clear c5b0
  try clear c5b1
  try clear c6
  try clear p6
  try clear q6
  try clear hx6
  try clear qi6
  try clear c7
  try clear c7b0
  try clear c7b1
  try clear p6
  try clear q6
  obtain ⟨kq, x18_1, rfl, HA, HJ1, ⟨mc1, rfl⟩⟩ := hcut
  cases kq with
  | zero => exact absurd HA.out (by simp [spec_l1Read.j0])
  | succ kj1 =>
   have H := HA.out
   clear HA
   simp only [spec_l1Read.j0] at H
   by_cases c8 : x18_1 = true
   ·subst c8
    have H1 : (some (-1)) = some r := by rw [if_pos rfl] at H; exact H
    clear H
    have H := H1
    clear H1
    obtain rfl := Option.some.inj H
    go_wp2
    go_ret
    exact ⟨by first | rfl | (simp; done) | (simp [*]; done), by repeat (first | exact Drawn0.refl _ | apply Drawn0.step)⟩
   ·replace c8 := Bool.eq_false_iff.mpr c8
    subst c8
    have H1 : (spec_l1Read.l0 kj1 a0 0 0) = some r := by rw [if_neg (show ¬ (false = true) by decide)] at H; exact H
    clear H
    have H := H1
    clear H1
    have H' := Am H
    clear H
    go_wp2
    go_loopg [3, 4] kj1 (fun kq v3 v4 w' => ∃ (x3_2 : Int) (x4_2 : Int), v3 = .int .i64 x3_2 ∧ v4 = .int .i64 x4_2 ∧ Ad (spec_l1Read.l0 kq a0 x3_2 x4_2 = some r) ∧ Ad (kq ≤ kj1) ∧ Drawn0 w w')
    case atStart => exact ⟨(0), (0), (by first | rfl | (simp; done) | (simp [*]; done)), (by first | rfl | (simp; done) | (simp [*]; done)), H', ⟨Nat.le_refl _⟩, by repeat (first | exact Drawn0.refl _ | apply Drawn0.step)⟩
    case round =>
     clear H'
     try clear c1
     try clear p2
     try clear c4
     try clear c5
     try clear c5b0
     try clear c5b1
     try clear c6
     try clear p6
     try clear q6
     try clear hx6
     try clear qi6
     try clear c7
     try clear c7b0
     try clear c7b1
     try clear c8
     try clear p2
     try clear p6
     try clear q6
     obtain ⟨x3_2, x4_2, rfl, rfl, HA, HK2, ⟨m2, rfl⟩⟩ := hrel
     cases gk with
     | zero => exact absurd HA.out (by simp [spec_l1Read.l0])
     | succ k2 =>
      have H := HA.out
      clear HA
      simp only [spec_l1Read.l0] at H
      by_cases c9 : x4_2 < (a0.size : Int)
      ·rw [if_pos c9] at H
       have c9b0 : decide (x4_2 < (a0.size : Int)) = true := Od c9
       clear c9
       by_cases c10 : 0 ≤ x4_2
       ·rw [if_pos c10] at H
        have c10b0 : decide (0 ≤ x4_2) = true := Od c10
        clear c10
        by_cases c12 : (bt a0 x4_2) < 48
        ·rw [if_pos c12] at H
         have c12b0 : decide ((bt a0 x4_2) < 48) = true := Od c12
         clear c12
         obtain rfl := Option.some.inj H
         have p11 : 0 ≤ (x4_2 : Int) := Oq (by assumption)
         have q11 : x4_2 < (a0.size : Int) := Oq (by assumption)
         have hx11 := bt_at a0 x4_2
         replace p11 := eq_true p11
         replace q11 := eq_true q11
         go_wp2
         go_ret
         exact ⟨by first | rfl | (simp; done) | (simp [*]; done), by repeat (first | exact Drawn0.refl _ | apply Drawn0.step)⟩
        ·rw [if_neg c12] at H
         have c12b0 : decide ((bt a0 x4_2) < 48) = false := decide_eq_false c12
         clear c12
         by_cases c14 : (bt a0 x4_2) > 57
         ·rw [if_pos c14] at H
          have c14b0 : decide (57 < (bt a0 x4_2)) = true := Od c14
          clear c14
          obtain rfl := Option.some.inj H
          have p11 : 0 ≤ (x4_2 : Int) := Oq (by assumption)
          have q11 : x4_2 < (a0.size : Int) := Oq (by assumption)
          have hx11 := bt_at a0 x4_2
          replace p11 := eq_true p11
          replace q11 := eq_true q11
          have p13 : 0 ≤ (x4_2 : Int) := Oq (by assumption)
          have q13 : x4_2 < (a0.size : Int) := Oq (by assumption)
          have hx13 := bt_at a0 x4_2
          replace p13 := eq_true p13
          replace q13 := eq_true q13
          go_wp2
          go_ret
          exact ⟨by first | rfl | (simp; done) | (simp [*]; done), by repeat (first | exact Drawn0.refl _ | apply Drawn0.step)⟩
         ·rw [if_neg c14] at H
          have c14b0 : decide (57 < (bt a0 x4_2)) = false := decide_eq_false c14
          clear c14
          have H' := Am H
          clear H
          have p11 : 0 ≤ (x4_2 : Int) := Oq (by assumption)
          have q11 : x4_2 < (a0.size : Int) := Oq (by assumption)
          have hx11 := bt_at a0 x4_2
          replace p11 := eq_true p11
          replace q11 := eq_true q11
          have p13 : 0 ≤ (x4_2 : Int) := Oq (by assumption)
          have q13 : x4_2 < (a0.size : Int) := Oq (by assumption)
          have hx13 := bt_at a0 x4_2
          replace p13 := eq_true p13
          replace q13 := eq_true q13
          have p15 : 0 ≤ (x4_2 : Int) := Oq (by assumption)
          have q15 : x4_2 < (a0.size : Int) := Oq (by assumption)
          have hx15 := bt_at a0 x4_2
          replace p15 := eq_true p15
          replace q15 := eq_true q15
          go_wp2
          go_roundg k2
          case measure => have := HJ1.out; have := HK2.out; omega
          case rel => exact ⟨(wrap64 ((wrap64 (10 * x3_2)) + (((bt a0 x4_2) - 48) % 256))), (wrap64 (x4_2 + 1)), (by first | rfl | (simp; done) | (simp [*]; done)), (by first | rfl | (simp; done) | (simp [*]; done)), H', ⟨by have := HJ1.out; have := HK2.out; omega⟩, by repeat (first | exact Drawn0.refl _ | apply Drawn0.step)⟩
       ·rw [if_neg c10] at H
        exact absurd H (by simp)
      ·rw [if_neg c9] at H
       have c9b0 : decide (x4_2 < (a0.size : Int)) = false := decide_eq_false c9
       clear c9
       obtain rfl := Option.some.inj H
       go_wp2
       go_ret
       exact ⟨by first | rfl | (simp; done) | (simp [*]; done), by repeat (first | exact Drawn0.refl _ | apply Drawn0.step)⟩
end Go.Proofs.YtmknjfnhfcljcaaDoor.QFnCmds
