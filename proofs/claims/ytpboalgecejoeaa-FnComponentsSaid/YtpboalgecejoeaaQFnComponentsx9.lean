-- Written by a program of this session (wip/mk.py) over the kit's print: Lean checks it.
import Derived.Test.YtpboalgecejoeaaQFnComponentsx0
import Derived.Test.YtpboalgecejoeaaQFnComponentsx3
import Derived.Test.YtpboalgecejoeaaQFnComponentsx4
import Derived.Test.YtpboalgecejoeaaQFnComponentsx6
import Derived.Test.YtpboalgecejoeaaQFnComponentsx7
namespace Go.Proofs.Ytpboalgecejoeaa.QFnComponents
open Go.Proofs.YtpboalgecejoeaaW.PrintWords.Kd renaming R_alloc → Ra, R_drewN → Rn, R_drew → Rd
open Go.Proofs.YtpboalgecejoeaaW.PrintWords renaming below_alloc → Ba, pw_below_drewN → Bn, below_drew1 → Bd, below_size → Bz, below_step → Bt, gate_callee → Gc
open Go.World renaming block_lt_of_cell? → bl_
open Go.Proofs.YtpboalgecejoeaaW.PrintWords.Aside0 renaming mk → Am
open Go.Proofs.YtpboalgecejoeaaW.PrintWords renaming Aside0 → Ad
open Go.RowKit Go.Proofs.YtpboalgecejoeaaW.PrintWords Go.Proofs.YtpboalgecejoeaaW.PrintLast Go.Proofs.YtpboalgecejoeaaW.PrintMore
attribute [local go_sem] max2_int min2_int max_two min_two max_three min_three max_four min_four   -- for this text's walks alone
set_option linter.unusedVariables false
set_option linter.unusedSimpArgs false
def spec_DrawClosedIn.l (l0 : List Int) : Nat → Nat → Int → Int → Option (List Int × Int × Int)
 | 0, _, a, s => some ([], a, s)
 | d + 1, i, a, s => (spec_l1Cur_one.f l0 a s 4).bind fun b => (spec_DrawClosedIn.l l0 d (i + 1) b.2.1 b.2.2).map fun r => ((if b.1 = true then r.1 else (i : Int) :: r.1), r.2)
def spec_DrawClosedIn.f (k : Nat) (l0 : List Int) : Option (List (List Int) × List Int) := (spec_l1Cur_graph.f k l0 0 0).bind fun t => if t.1.length ≤ 1000 then (spec_DrawClosedIn.l l0 t.1.length 0 t.2.1 t.2.2).bind fun q => some (t.1, q.1) else none
theorem spec_DrawClosedIn.mono : ∀ l0 k, LeO (spec_DrawClosedIn.f k l0) (spec_DrawClosedIn.f (k + 1) l0) := by
 intro l0 k
 unfold spec_DrawClosedIn.f
 exact LeO.bind (spec_l1Cur_graph.mono l0 0 0 k) (fun _ => LeO.refl _)
set_option maxHeartbeats 8000000 in
set_option maxRecDepth 100000 in
theorem spec_DrawClosedIn.calls (k : Nat) (A0 : Option Addr) (c0 : Nat) (l0 : List Int) (r1 : List (List Int)) (r2 : List Int) (w : World) (hr0 : Kd.C (Kd.int .u8) w A0 l0.length l0) (hc0 : l0.length ≤ c0) (h : spec_DrawClosedIn.f k l0 = some (r1, r2)) :
  Calls Try.prog 33 #[.slice A0 l0.length c0] w fun e w' => ∃ v0_ v1_ : Value, e = .returned (.tuple #[v0_, v1_]) ∧ Kd.S (Kd.slice 3 (Kd.int .i64)) 23 w' w.heap.size (fun _ => True) v0_ r1 ∧ Kd.R (Kd.int .i64) 3 w' w.heap.size (fun _ => True) v1_ r2 ∧ Below w.heap.size w w' := by
 unfold spec_DrawClosedIn.f at h
 obtain ⟨⟨t1, a1, s1⟩, hg, h⟩ := Option.bind_eq_some_iff.1 h
 try dsimp only at h
 by_cases hl : t1.length ≤ 1000
 case neg => rw [if_neg hl] at h; cases h
 rw [if_pos hl] at h
 obtain ⟨⟨q1, a2, s2⟩, hq, h⟩ := Option.bind_eq_some_iff.1 h
 simp only [Option.some.injEq, Prod.mk.injEq] at h
 obtain ⟨rfl, rfl⟩ := h
 try dsimp only at hq
 have HG := Am hg
 have HQ : Ad (∃ r, spec_DrawClosedIn.l l0 (t1.length - 0) 0 a1 s1 = some r ∧ ([] : List Int) ++ r.1 = q1) := ⟨⟨_, hq, rfl⟩⟩
 clear hg hq
 have HR := Am hr0
 clear hr0 hc0
 go_enter Try.func33, Try.ntmps33
 go_upto_region 2 with (fail)
 refine letC (fun W_ => Below w.heap.size w W_ ∧ W_.heap[w.heap.size]? = some (.cells #[.slice A0 l0.length c0, .int .i64 0, .int .u64 0] 94 (0, 0))) ⟨Ba (Below.refl _ _) _, blk_new w (.cells #[.slice A0 l0.length c0, .int .i64 0, .int .u64 0] 94)⟩ ?_
 rintro W0 ⟨hb, hx⟩
 have HB0 := Am hb
 have HI0 : Ad (IsS94 w W0 w.heap.size l0 0 0) := ⟨⟨A0, c0, hx, Nat.le_refl _, HR.out⟩⟩
 clear hb hx
 generalize w.heap.size = g at HI0
 go_wp2_with fail
 refine (spec_l1Cur_graph.calls k g l0 0 0 t1 a1 s1 w W0 HI0.out HB0.out HG.out).mono ?_
 rintro e W1 ⟨v, rfl, hS, hI, hB, hK⟩
 have HS1 := Am (Kd.S_lower hS HB0.out.size)
 have HI1 := Am hI
 have HB1 := Am hB
 clear hS hI hB hK HI0 HB0
 obtain ⟨A5, c5, e5⟩ := Kd.S_slice HS1.out
 subst e5
 obtain ⟨L, hL⟩ : ∃ L, L = W1.heap.size := ⟨_, rfl⟩
 have HSb : Ad (Kd.S (Kd.slice 3 (Kd.int .i64)) 23 W1 w.heap.size (fun k_ => k_ < L) (.slice A5 t1.length c5) t1) := ⟨Kd.S_mono (Kd.S_bound HS1.out) (fun k_ hk_ => by have h1_ := hk_.2.2.1; omega)⟩
 have HLb : Ad (L ≤ W1.heap.size) := ⟨by omega⟩
 clear hL HS1
 go_wp2
 go_loopg [6, 15] t1.length (fun gg v6 v15 wr => ∃ (i : Nat) (out : List Int) (a s : Int), i ≤ t1.length ∧ t1.length - i ≤ gg ∧ v15 = .int .i64 i ∧ out.length ≤ i ∧ Ad (∃ r, spec_DrawClosedIn.l l0 (t1.length - i) i a s = some r ∧ out ++ r.1 = q1) ∧ Ad (Kd.S (Kd.slice 3 (Kd.int .i64)) 23 wr w.heap.size (fun k_ => k_ < L) (.slice A5 t1.length c5) t1) ∧ Ad (Kd.R (Kd.int .i64) 3 wr w.heap.size (fun k_ => L ≤ k_) v6 out) ∧ Ad (IsS94 w wr g l0 a s) ∧ Ad (Below w.heap.size w wr) ∧ Ad (L ≤ wr.heap.size))
 case atStart => exact ⟨0, [], a1, s1, Nat.zero_le _, by omega, by first | rfl | simp, by simp, HQ, HSb, ⟨Kd.R_nil _ _ _ _ _⟩, HI1, HB1, HLb⟩
 case round =>
  clear HQ HSb HI1 HB1 HLb
  obtain ⟨i, out, a, s, hi, hgg, rfl, hol, HQ, HS, HO, HI, HB, HL⟩ := hrel
  obtain ⟨A6, c6, e6⟩ := Kd.R_slice HO.out
  subst e6
  by_cases hlt : i < t1.length
  ·have hltz : (i : Int) < (t1.length : Int) := by omega
   obtain ⟨d, hd⟩ : ∃ d, t1.length - i = d + 1 := ⟨t1.length - i - 1, by omega⟩
   obtain ⟨r, hr, hre⟩ := HQ.out
   rw [hd] at hr
   unfold spec_DrawClosedIn.l at hr
   obtain ⟨⟨b, a', s'⟩, hb1, hr⟩ := Option.bind_eq_some_iff.1 hr
   obtain ⟨r', hr', hr2⟩ := Option.map_eq_some_iff.1 hr
   try dsimp only at hr' hr2
   have HON := Am hb1
   have HR' : Ad (spec_DrawClosedIn.l l0 (t1.length - (i + 1)) (i + 1) a' s' = some r') := ⟨by rw [show t1.length - (i + 1) = d by omega]; exact hr'⟩
   have HRE : Ad (out ++ (if b = true then r'.1 else (i : Int) :: r'.1) = q1) := ⟨by rw [← hre, ← hr2]⟩
   clear hr hr' hr2 hre hb1 HQ
   go_wp2_with fail
   refine (spec_l1Cur_one.calls g l0 a s 4 b a' s' w wr HI.out HB.out HON.out).mono ?_
   rintro e w2 ⟨rfl, hI, hB, hK⟩
   obtain ⟨_, _, hc_, _, _⟩ := HI.out
   have HS2 := Am (Kd.S_mono (Kd.S_keep (Kd.S_types HS.out hc_ (by decide)) hK (fun k_ hk => hk.2)) (fun _ h => h.1))
   have HO2 := Am (Kd.R_mono (Kd.R_keep (IsS94.apart HI.out HO.out (by decide)) hK (fun _ h => h.2)) (fun _ h => h.1))
   have HL2 : Ad (L ≤ w2.heap.size) := ⟨Nat.le_trans HL.out hK.1⟩
   have HI2 := Am hI
   have HB2 := Am hB
   clear hI hB hK hc_ HI HB HS HO HL HON
   cases b with
   | true =>
    go_wp2
    go_roundg (t1.length - (i + 1))
    case measure => omega
    case rel => exact ⟨i + 1, out, a', s', by omega, by omega, by go_num, by omega, ⟨⟨r', HR'.out, by have h1 := HRE.out; simpa using h1⟩⟩, HS2, HO2, HI2, HB2, HL2⟩
   | false =>
    go_wp2_with (first | ((with_reducible refine gate_builtin (b := .append) (xs := #[.tmp 21, .tmp 23]) rfl ?_); at_builtin; refine Kd.R_append (Kd.int .i64) (w0 := w) w.heap.size rfl (.tmp 21) (.tmp 23) 23 3 (.int .i64 0) 8 rfl Try.underlying23 info3 rfl (by decide) (by omega) (.slice A6 out.length c6) out (i : Int) [.int .i64 (i : Int)] (fun k_ => L ≤ k_) (fun _ => False) rfl rfl ?aP (fun _ hk => hk.elim) ?aF ?aO ?aB ?aS ?aL ?_; (case aP => exact rfl); (case aB => exact HB2.out); (case aF => exact (fun k_ hk_ => Nat.le_trans HL2.out hk_)); (case aO => exact HO2.out); (case aS => exact HB2.out.size); (case aL => omega); intro v6 w6 ho hb hg hat; have HO6 := Am ho; have HB6 := Am hb; have HI6 := Am (IsS94.grown HI2.out hg (IsS94.own_ne HI2.out HO2.out (by decide))); have HS6 := Am (Kd.S_kept HS2.out (S := fun k_ => some k_ = (Value.slice A6 out.length c6).ownBlock) ⟨hg.size, fun k_ hk_ hn_ => hg.block k_ hk_ hn_⟩ (fun k_ h1_ h2_ => by have := HO2.out.1 k_ h2_.symm; omega)); have HL6 : Ad (L ≤ w6.heap.size) := ⟨Nat.le_trans HL2.out hg.size⟩; clear ho hb hg hat HO2 HB2 HI2 HS2 HL2))
    go_roundg (t1.length - (i + 1))
    case measure => omega
    case rel => exact ⟨i + 1, out ++ [(i : Int)], a', s', by omega, by omega, by go_num, by rw [List.length_append, List.length_singleton]; omega, ⟨⟨r', HR'.out, by have h1 := HRE.out; simpa using h1⟩⟩, HS6, HO6, HI6, HB6, HL6⟩
  ·obtain rfl : i = t1.length := by omega
   have hltz : ¬ (t1.length : Int) < (t1.length : Int) := by omega
   have he : out = q1 := by
    obtain ⟨r, hr, hre⟩ := HQ.out
    rw [Nat.sub_self] at hr
    simp only [spec_DrawClosedIn.l, Option.some.injEq] at hr
    rw [← hr] at hre
    simpa using hre
   subst he
   go_wp2
   go_ret2
   exact ⟨_, _, rfl, Kd.S_mono HS.out (fun _ _ => trivial), Kd.R_mono HO.out (fun _ _ => trivial), HB.out⟩
mutual
def spec_ClosedIn.j0 : Nat → List (List Int) → List Int → Bool → Option (List Int × Bool)
 | 0, _, _, _ => none
 | k + 1, x0, x1, x22 => if x22 = true then (some (([] : List Int), false)) else (spec_ClosedIn.l0 k x0 x1 ([] : List Int) x1 (x1.length : Int) 0)
def spec_ClosedIn.l0 : Nat → List (List Int) → List Int → List Int → List Int → Int → Int → Option (List Int × Bool)
 | 0, _, _, _, _, _, _ => none
 | k + 1, x0, x1, x6, x23, x24, x25 => if x25 < x24 then (if 0 ≤ x25 then (if x25 < (x23.length : Int) then ((spec_l5Reached.f k x0 (rd x23 x25)).bind fun t256 => (spec_ClosedIn.l1 k x0 x1 x6 (rd x23 x25) true x23 x24 x25 t256 (t256.length : Int) 0)) else (none)) else (none)) else (some (x6, true))
def spec_ClosedIn.l1 : Nat → List (List Int) → List Int → List Int → Int → Bool → List Int → Int → Int → List Int → Int → Int → Option (List Int × Bool)
 | 0, _, _, _, _, _, _, _, _, _, _, _ => none
 | k + 1, x0, x1, x6, x8, x9, x23, x24, x25, x31, x32, x33 => if x33 < x32 then (if 0 ≤ x33 then (if x33 < (x31.length : Int) then (if x9 = true then ((spec_l1Has.f k x1 (rd x31 x33)).bind fun t260 => (spec_ClosedIn.l1 k x0 x1 x6 x8 t260 x23 x24 x25 x31 x32 (wrap64 (x33 + 1)))) else (spec_ClosedIn.l1 k x0 x1 x6 x8 false x23 x24 x25 x31 x32 (wrap64 (x33 + 1)))) else (none)) else (none)) else (if x9 = true then (if x6.length < 17592186044416 then (spec_ClosedIn.l0 k x0 x1 (x6 ++ [x8]) x23 x24 (wrap64 (x25 + 1))) else (none)) else (spec_ClosedIn.l0 k x0 x1 x6 x23 x24 (wrap64 (x25 + 1))))
end
def spec_ClosedIn.f (k : Nat) (l0 : List (List Int)) (l1 : List Int) : Option (List Int × Bool) := (spec_GoodGraph.f k l0).bind fun t253 => (if t253 = true then ((spec_l1Rising.f k l1 0 (wrap64 ((l0.length : Int) - 1))).bind fun t254 => (spec_ClosedIn.j0 k l0 l1 (!t254))) else (spec_ClosedIn.j0 k l0 l1 true))
theorem spec_ClosedIn.mono_l : ∀ k, (∀ y0 y1 y2, LeO (spec_ClosedIn.j0 k y0 y1 y2) (spec_ClosedIn.j0 (k + 1) y0 y1 y2)) ∧ (∀ y0 y1 y2 y3 y4 y5, LeO (spec_ClosedIn.l0 k y0 y1 y2 y3 y4 y5) (spec_ClosedIn.l0 (k + 1) y0 y1 y2 y3 y4 y5)) ∧ (∀ y0 y1 y2 y3 y4 y5 y6 y7 y8 y9 y10, LeO (spec_ClosedIn.l1 k y0 y1 y2 y3 y4 y5 y6 y7 y8 y9 y10) (spec_ClosedIn.l1 (k + 1) y0 y1 y2 y3 y4 y5 y6 y7 y8 y9 y10))
 | 0 => ⟨fun _ _ _ r h => by simp [spec_ClosedIn.j0] at h, fun _ _ _ _ _ _ r h => by simp [spec_ClosedIn.l0] at h, fun _ _ _ _ _ _ _ _ _ _ _ r h => by simp [spec_ClosedIn.l1] at h⟩
 | k + 1 => by
  obtain ⟨ih0, ih1, ih2⟩ := spec_ClosedIn.mono_l k
  refine ⟨?_, ?_, ?_⟩
  ·intro y0 y1 y2
   unfold spec_ClosedIn.j0
   repeat' first
   | (with_reducible exact ih0 _ _ _)
   | (with_reducible exact ih1 _ _ _ _ _ _)
   | (with_reducible exact ih2 _ _ _ _ _ _ _ _ _ _ _)
   | (with_reducible exact spec_GoodGraph.mono _ _)
   | (with_reducible exact spec_l1Has.mono _ _ _)
   | (with_reducible exact spec_l1Rising.mono _ _ _ _)
   | (with_reducible exact spec_l5Reached.mono _ _ _)
   | (with_reducible exact LeO.refl _)
   | (with_reducible exact LeO.none _)
   | (with_reducible refine LeO.ite ?_ ?_)
   | (with_reducible refine LeO.bind ?_ (fun _ => ?_))
   | exact ih0 _ _ _
   | exact ih1 _ _ _ _ _ _
   | exact ih2 _ _ _ _ _ _ _ _ _ _ _
   | exact spec_GoodGraph.mono _ _
   | exact spec_l1Has.mono _ _ _
   | exact spec_l1Rising.mono _ _ _ _
   | exact spec_l5Reached.mono _ _ _
   | exact LeO.none _
   | refine LeO.ite ?_ ?_
   | refine LeO.bind ?_ (fun _ => ?_)
  ·intro y0 y1 y2 y3 y4 y5
   unfold spec_ClosedIn.l0
   repeat' first
   | (with_reducible exact ih0 _ _ _)
   | (with_reducible exact ih1 _ _ _ _ _ _)
   | (with_reducible exact ih2 _ _ _ _ _ _ _ _ _ _ _)
   | (with_reducible exact spec_GoodGraph.mono _ _)
   | (with_reducible exact spec_l1Has.mono _ _ _)
   | (with_reducible exact spec_l1Rising.mono _ _ _ _)
   | (with_reducible exact spec_l5Reached.mono _ _ _)
   | (with_reducible exact LeO.refl _)
   | (with_reducible exact LeO.none _)
   | (with_reducible refine LeO.ite ?_ ?_)
   | (with_reducible refine LeO.bind ?_ (fun _ => ?_))
   | exact ih0 _ _ _
   | exact ih1 _ _ _ _ _ _
   | exact ih2 _ _ _ _ _ _ _ _ _ _ _
   | exact spec_GoodGraph.mono _ _
   | exact spec_l1Has.mono _ _ _
   | exact spec_l1Rising.mono _ _ _ _
   | exact spec_l5Reached.mono _ _ _
   | exact LeO.none _
   | refine LeO.ite ?_ ?_
   | refine LeO.bind ?_ (fun _ => ?_)
  ·intro y0 y1 y2 y3 y4 y5 y6 y7 y8 y9 y10
   unfold spec_ClosedIn.l1
   repeat' first
   | (with_reducible exact ih0 _ _ _)
   | (with_reducible exact ih1 _ _ _ _ _ _)
   | (with_reducible exact ih2 _ _ _ _ _ _ _ _ _ _ _)
   | (with_reducible exact spec_GoodGraph.mono _ _)
   | (with_reducible exact spec_l1Has.mono _ _ _)
   | (with_reducible exact spec_l1Rising.mono _ _ _ _)
   | (with_reducible exact spec_l5Reached.mono _ _ _)
   | (with_reducible exact LeO.refl _)
   | (with_reducible exact LeO.none _)
   | (with_reducible refine LeO.ite ?_ ?_)
   | (with_reducible refine LeO.bind ?_ (fun _ => ?_))
   | exact ih0 _ _ _
   | exact ih1 _ _ _ _ _ _
   | exact ih2 _ _ _ _ _ _ _ _ _ _ _
   | exact spec_GoodGraph.mono _ _
   | exact spec_l1Has.mono _ _ _
   | exact spec_l1Rising.mono _ _ _ _
   | exact spec_l5Reached.mono _ _ _
   | exact LeO.none _
   | refine LeO.ite ?_ ?_
   | refine LeO.bind ?_ (fun _ => ?_)
theorem spec_ClosedIn.mono : ∀ a0 a1 k, LeO (spec_ClosedIn.f k a0 a1) (spec_ClosedIn.f (k + 1) a0 a1) := by
 intro a0 a1 k
 obtain ⟨ih0, ih1, ih2⟩ := spec_ClosedIn.mono_l k
 unfold spec_ClosedIn.f
 repeat' first
   | (with_reducible exact ih0 _ _ _)
   | (with_reducible exact ih1 _ _ _ _ _ _)
   | (with_reducible exact ih2 _ _ _ _ _ _ _ _ _ _ _)
   | (with_reducible exact spec_GoodGraph.mono _ _)
   | (with_reducible exact spec_l1Has.mono _ _ _)
   | (with_reducible exact spec_l1Rising.mono _ _ _ _)
   | (with_reducible exact spec_l5Reached.mono _ _ _)
   | (with_reducible exact LeO.refl _)
   | (with_reducible exact LeO.none _)
   | (with_reducible refine LeO.ite ?_ ?_)
   | (with_reducible refine LeO.bind ?_ (fun _ => ?_))
   | exact ih0 _ _ _
   | exact ih1 _ _ _ _ _ _
   | exact ih2 _ _ _ _ _ _ _ _ _ _ _
   | exact spec_GoodGraph.mono _ _
   | exact spec_l1Has.mono _ _ _
   | exact spec_l1Rising.mono _ _ _ _
   | exact spec_l5Reached.mono _ _ _
   | exact LeO.none _
   | refine LeO.ite ?_ ?_
   | refine LeO.bind ?_ (fun _ => ?_)
set_option maxHeartbeats 8000000 in
set_option maxRecDepth 100000 in
theorem spec_ClosedIn.calls (k : Nat) (A0 : Option Addr) (c0 : Nat) (l0 : List (List Int)) (A1 : Option Addr) (c1 : Nat) (l1 : List Int) (r1 : List Int) (r2 : Bool) (w : World) (hr0 : Kd.C (Kd.slice 3 (Kd.int .i64)) w A0 l0.length l0) (hc0 : l0.length ≤ c0) (hr1 : Kd.C (Kd.int .i64) w A1 l1.length l1) (hc1 : l1.length ≤ c1) (h : spec_ClosedIn.f k l0 l1 = some (r1, r2)) :
  Calls Try.prog 34 #[.slice A0 l0.length c0, .slice A1 l1.length c1] w fun e w' => ∃ v0_ : Value, e = .returned (.tuple #[v0_, .bool r2]) ∧ Kd.R (Kd.int .i64) 3 w' w.heap.size (fun _ => True) v0_ r1 ∧ Below w.heap.size w w' := by
 have HR0 := Am hr0
 have HC0 := Am hc0
 clear hr0 hc0
 have HR1 := Am hr1
 have HC1 := Am hc1
 clear hr1 hc1
 have HB := Am (Below.refl w.heap.size w)
 have H : ((spec_GoodGraph.f k l0).bind fun t253 => (if t253 = true then ((spec_l1Rising.f k l1 0 (wrap64 ((l0.length : Int) - 1))).bind fun t254 => (spec_ClosedIn.j0 k l0 l1 (!t254))) else (spec_ClosedIn.j0 k l0 l1 true))) = some (r1, r2) := h
 clear h
 have HC3 := Am H
 clear H
 go_enter Try.func34, Try.ntmps34
 go_upto_region 1 with (fail)
 go_cut [22] (fun v22 wc => ∃ (kq : Nat) (x22_2 : Bool), v22 = .bool x22_2 ∧ Ad (spec_ClosedIn.j0 kq l0 l1 x22_2 = some (r1, r2)) ∧ Ad (kq ≤ k) ∧ Ad (Below w.heap.size w wc))
 case first =>
  have H := HC3.out
  clear HC3
  replace H := Option.bind_eq_some_iff.mp H
  obtain ⟨t253, A40, H⟩ := H
  replace H : (if t253 = true then ((spec_l1Rising.f k l1 0 (wrap64 ((l0.length : Int) - 1))).bind fun t254 => (spec_ClosedIn.j0 k l0 l1 (!t254))) else (spec_ClosedIn.j0 k l0 l1 true)) = some (r1, r2) := H
  have A4 := Am A40
  clear A40
  by_cases c5 : t253 = true
  ·subst c5
   have H1 : ((spec_l1Rising.f k l1 0 (wrap64 ((l0.length : Int) - 1))).bind fun t254 => (spec_ClosedIn.j0 k l0 l1 (!t254))) = some (r1, r2) := by rw [if_pos rfl] at H; exact H
   clear H
   have H := H1
   clear H1
   replace H := Option.bind_eq_some_iff.mp H
   obtain ⟨t254, A60, H⟩ := H
   replace H : (spec_ClosedIn.j0 k l0 l1 (!t254)) = some (r1, r2) := H
   have A6 := Am A60
   clear A60
   have H' := Am H
   clear H
   go_wp2_with (first | ((refine Gc (f := 29) rfl ?_); refine goesL_ (some 13) rfl rfl Try.func29 (by kernel_rfl) rfl #[.slice A0 l0.length c0] rfl (by first | rfl | (simp only [List.map_toArray, List.map_cons, List.map_nil]; first | done | rfl)) ?_; (with_reducible refine (spec_GoodGraph.calls k _ _ l0 true _ ?side1 ?side2 A4.out).mono ?_); (case side1 => repeat (first | exact (Kd.C_below HR0.out HB.out) | (with_reducible refine Kd.C_alloc ?_ _) | (with_reducible refine Kd.C_drewN ?_ _) | (with_reducible refine Kd.C_drew ?_))); (case side2 => exact HC0.out); rintro e w' ⟨rfl, ⟨nd, rfl⟩⟩; refine ⟨_, rfl, ?_⟩) | (go_at_call 78; (with_reducible refine (spec_l1Rising.calls k _ _ l1 0 (wrap64 ((l0.length : Int) - 1)) t254 _ ?side1 ?side2 A6.out).mono ?_); (case side1 => repeat (first | exact (Kd.C_below HR1.out (by repeat (first | exact HB.out | apply Ba | apply Bn | apply Bd))) | (with_reducible refine Kd.C_alloc ?_ _) | (with_reducible refine Kd.C_drewN ?_ _) | (with_reducible refine Kd.C_drew ?_))); (case side2 => exact HC1.out); rintro e w' ⟨rfl, ⟨nd, rfl⟩⟩))
   go_meet
   case rel => exact ⟨_, (!t254), (by first | rfl | (simp; done) | (simp [*]; done)), H', ⟨by first | omega | exact Nat.le_refl _⟩, ⟨by repeat (first | exact HB.out | apply Ba | apply Bn | apply Bd)⟩⟩
  ·replace c5 := Bool.eq_false_iff.mpr c5
   subst c5
   have H1 : (spec_ClosedIn.j0 k l0 l1 true) = some (r1, r2) := by rw [if_neg (show ¬ (false = true) by decide)] at H; exact H
   clear H
   have H := H1
   clear H1
   have H' := Am H
   clear H
   go_wp2_with (first | ((refine Gc (f := 29) rfl ?_); refine goesL_ (some 13) rfl rfl Try.func29 (by kernel_rfl) rfl #[.slice A0 l0.length c0] rfl (by first | rfl | (simp only [List.map_toArray, List.map_cons, List.map_nil]; first | done | rfl)) ?_; (with_reducible refine (spec_GoodGraph.calls k _ _ l0 false _ ?side1 ?side2 A4.out).mono ?_); (case side1 => repeat (first | exact (Kd.C_below HR0.out HB.out) | (with_reducible refine Kd.C_alloc ?_ _) | (with_reducible refine Kd.C_drewN ?_ _) | (with_reducible refine Kd.C_drew ?_))); (case side2 => exact HC0.out); rintro e w' ⟨rfl, ⟨nd, rfl⟩⟩; refine ⟨_, rfl, ?_⟩))
   go_meet
   case rel => exact ⟨_, (true), (by first | rfl | (simp; done) | (simp [*]; done)), H', ⟨by first | omega | exact Nat.le_refl _⟩, ⟨by repeat (first | exact HB.out | apply Ba | apply Bn | apply Bd)⟩⟩
 case rest =>
  clear HC3
  try clear c1
  try clear c2
  try clear p2
  try clear c3
  try clear c5
  try clear p6
  obtain ⟨kq, x22_2, rfl, HA, HJ2, HB⟩ := hcut
  cases kq with
  | zero => exact absurd HA.out (by simp [spec_ClosedIn.j0])
  | succ kj2 =>
   have H := HA.out
   clear HA
   simp only [spec_ClosedIn.j0] at H
   by_cases c7 : x22_2 = true
   ·subst c7
    have H1 : (some (([] : List Int), false)) = some (r1, r2) := by rw [if_pos rfl] at H; exact H
    clear H
    have H := H1
    clear H1
    simp only [Option.some.injEq, Prod.mk.injEq] at H
    obtain ⟨rfl, rfl⟩ := H
    go_wp2
    go_ret2
    exact ⟨_, by first | rfl | (simp [*, errW_none, errW_some] <;> rfl), by first | exact Kd.R_nil _ _ _ _ _ | exact Kd.N_nil _ _ _ _ _ | exact Kd.V_nil _ _ _ _ _ | exact Kd.Q_nil _ _ _ _ _ | exact Kd.S_nil _ _ _ _ _, by repeat (first | exact HB.out | apply Ba | apply Bn | apply Bd)⟩
   ·replace c7 := Bool.eq_false_iff.mpr c7
    subst c7
    have H1 : (spec_ClosedIn.l0 kj2 l0 l1 ([] : List Int) l1 (l1.length : Int) 0) = some (r1, r2) := by rw [if_neg (show ¬ (false = true) by decide)] at H; exact H
    clear H
    have H := H1
    clear H1
    have H' := Am H
    clear H
    go_wp2
    go_loopg [6, 25] kj2 (fun kq v6 v25 w' => ∃ (x6_2 : List Int) (x25_2 : Int), v25 = .int .i64 x25_2 ∧ Ad (spec_ClosedIn.l0 kq l0 l1 x6_2 l1 (l1.length : Int) x25_2 = some (r1, r2)) ∧ Ad (kq ≤ kj2) ∧ Ad (Kd.R (Kd.int .i64) 3 w' w.heap.size (fun _ => True) v6 x6_2) ∧ Ad (Below w.heap.size w w'))
    case atStart => exact ⟨(([] : List Int)), (0), (by first | rfl | (simp; done) | (simp [*]; done)), H', ⟨Nat.le_refl _⟩, ⟨by first | exact Kd.R_nil _ _ _ _ _ | exact Kd.N_nil _ _ _ _ _ | exact Kd.V_nil _ _ _ _ _ | exact Kd.Q_nil _ _ _ _ _ | exact Kd.S_nil _ _ _ _ _⟩, ⟨by repeat (first | exact HB.out | apply Ba | apply Bn | apply Bd)⟩⟩
    case round =>
     clear H'
     try clear c1
     try clear c2
     try clear p2
     try clear c3
     try clear c5
     try clear p6
     try clear c7
     try clear p2
     try clear p6
     obtain ⟨x6_2, x25_2, rfl, HA, HK2, HO_6, HB⟩ := hrel
     cases gk with
     | zero => exact absurd HA.out (by simp [spec_ClosedIn.l0])
     | succ k2 =>
      have H := HA.out
      clear HA
      simp only [spec_ClosedIn.l0] at H
      by_cases c8 : x25_2 < (l1.length : Int)
      ·rw [if_pos c8] at H
       have c8b0 : decide (x25_2 < (l1.length : Int)) = true := decide_eq_true c8
       clear c8
       by_cases c9 : 0 ≤ x25_2
       ·rw [if_pos c9] at H
        have c9b0 : decide (0 ≤ x25_2) = true := decide_eq_true c9
        clear c9
        by_cases c10 : x25_2 < (l1.length : Int)
        ·rw [if_pos c10] at H
         have c10b0 : decide (x25_2 < (l1.length : Int)) = true := decide_eq_true c10
         clear c10
         replace H := Option.bind_eq_some_iff.mp H
         obtain ⟨t256, A110, H⟩ := H
         replace H : (spec_ClosedIn.l1 k2 l0 l1 x6_2 (rd l1 x25_2) true l1 (l1.length : Int) x25_2 t256 (t256.length : Int) 0) = some (r1, r2) := H
         have A11 := Am A110
         clear A110
         have H' := Am H
         clear H
         have p255 : 0 ≤ (x25_2 : Int) := of_decide_eq_true (by assumption)
         have q255 : x25_2 < (l1.length : Int) := of_decide_eq_true (by assumption)
         obtain ⟨ad255, e255, hx255_0⟩ := Kd.at_int HR1.out x25_2 p255 q255
         cases e255
         replace hx255_0 := (HB.out.cell (bl_ w _ hx255_0)).trans hx255_0
         replace p255 := eq_true p255
         replace q255 := eq_true q255
         go_wp2_with (first | ((refine Gc (f := 50) rfl ?_); refine goesL_ (some 31) rfl rfl Try.func50 (by kernel_rfl) rfl #[.slice A0 l0.length c0, .int .i64 (rd l1 x25_2)] rfl (by first | rfl | (simp only [List.map_toArray, List.map_cons, List.map_nil]; first | done | rfl)) ?_; (with_reducible refine (spec_l5Reached.calls k2 _ _ l0 (rd l1 x25_2) t256 _ ?side1 ?side2 A11.out).mono ?_); (case side1 => repeat (first | exact (Kd.C_below HR0.out HB.out) | (with_reducible refine Kd.C_alloc ?_ _) | (with_reducible refine Kd.C_drewN ?_ _) | (with_reducible refine Kd.C_drew ?_))); (case side2 => exact HC0.out); rintro e w12 ⟨v257, rfl, ho0, hb⟩; refine ⟨_, rfl, ?_⟩; have n0_ := Am (Kd.R_elder' (by (with_reducible repeat (first | apply Ra | apply Rn | apply Rd)); exact HO_6.out) (Kd.R_base ho0) hb); have n1_ := Am (Kd.R_lower (Kd.R_new' ho0 (Kd.R_lt (by (with_reducible repeat (first | apply Ra | apply Rn | apply Rd)); exact HO_6.out))) (Bz (by repeat (first | exact HB.out | apply Ba | apply Bn | apply Bd)))); have n2_ := Am (Bt (by repeat (first | exact HB.out | apply Ba | apply Bn | apply Bd)) hb); clear HO_6; clear HB; have HO_6 := n0_; have HO258 := n1_; have HB := n2_; clear n0_ n1_ n2_; (try clear hb); (try clear hb2); (try clear hk); (try clear hi); (try clear ho0); obtain ⟨Ao13, co13, eo13⟩ := Kd.R_slice HO258.out; subst eo13))
         go_loopg [9, 33] k2 (fun kq v9 v33 w' => ∃ (x9_3 : Bool) (x33_3 : Int), v9 = .bool x9_3 ∧ v33 = .int .i64 x33_3 ∧ Ad (spec_ClosedIn.l1 kq l0 l1 x6_2 (rd l1 x25_2) x9_3 l1 (l1.length : Int) x25_2 t256 (t256.length : Int) x33_3 = some (r1, r2)) ∧ Ad (kq ≤ k2) ∧ Ad (Kd.R (Kd.int .i64) 3 w' w.heap.size (fun k_ => some k_ ≠ ((.slice Ao13 t256.length co13) : Value).ownBlock) u6 x6_2) ∧ Ad (Kd.R (Kd.int .i64) 3 w' w.heap.size (fun k_ => some k_ ≠ (u6 : Value).ownBlock) (.slice Ao13 t256.length co13) t256) ∧ Ad (Below w.heap.size w w'))
         case atStart => exact ⟨(true), (0), (by first | rfl | (simp; done) | (simp [*]; done)), (by first | rfl | (simp; done) | (simp [*]; done)), H', ⟨Nat.le_refl _⟩, ⟨by (with_reducible repeat (first | apply Ra | apply Rn | apply Rd)); exact Kd.R_mono HO_6.out (fun _ hk => hk.2)⟩, ⟨by (with_reducible repeat (first | apply Ra | apply Rn | apply Rd)); exact Kd.R_mono HO258.out (fun _ hk => hk.2)⟩, ⟨by repeat (first | exact HB.out | apply Ba | apply Bn | apply Bd)⟩⟩
         case round =>
          clear H'
          try clear c1
          try clear c2
          try clear p2
          try clear q2
          try clear hx2
          try clear c3
          try clear c5
          try clear p6
          try clear c7
          try clear c8
          try clear c8b0
          try clear c9
          try clear c9b0
          try clear c10
          try clear c10b0
          try clear hx255_0
          try clear p2
          try clear p255
          try clear p6
          try clear q255
          obtain ⟨x9_3, x33_3, rfl, rfl, HA, HK3, HO_6, HO_31, HB⟩ := hrel
          cases gk with
          | zero => exact absurd HA.out (by simp [spec_ClosedIn.l1])
          | succ k3 =>
           have H := HA.out
           clear HA
           simp only [spec_ClosedIn.l1] at H
           by_cases c14 : x33_3 < (t256.length : Int)
           ·rw [if_pos c14] at H
            have c14b0 : decide (x33_3 < (t256.length : Int)) = true := decide_eq_true c14
            clear c14
            by_cases c15 : 0 ≤ x33_3
            ·rw [if_pos c15] at H
             have c15b0 : decide (0 ≤ x33_3) = true := decide_eq_true c15
             clear c15
             by_cases c16 : x33_3 < (t256.length : Int)
             ·rw [if_pos c16] at H
              have c16b0 : decide (x33_3 < (t256.length : Int)) = true := decide_eq_true c16
              clear c16
              by_cases c17 : x9_3 = true
              ·subst c17
               have H1 : ((spec_l1Has.f k3 l1 (rd t256 x33_3)).bind fun t260 => (spec_ClosedIn.l1 k3 l0 l1 x6_2 (rd l1 x25_2) t260 l1 (l1.length : Int) x25_2 t256 (t256.length : Int) (wrap64 (x33_3 + 1)))) = some (r1, r2) := by rw [if_pos rfl] at H; exact H
               clear H
               have H := H1
               clear H1
               replace H := Option.bind_eq_some_iff.mp H
               obtain ⟨t260, A180, H⟩ := H
               replace H : (spec_ClosedIn.l1 k3 l0 l1 x6_2 (rd l1 x25_2) t260 l1 (l1.length : Int) x25_2 t256 (t256.length : Int) (wrap64 (x33_3 + 1))) = some (r1, r2) := H
               have A18 := Am A180
               clear A180
               have H' := Am H
               clear H
               have p259 : 0 ≤ (x33_3 : Int) := of_decide_eq_true (by assumption)
               have q259 : x33_3 < (t256.length : Int) := of_decide_eq_true (by assumption)
               obtain ⟨ad259, e259, hx259_0⟩ := Kd.at_int (Kd.R_reads' HO_31.out).2.2 x33_3 p259 q259
               cases e259
               replace p259 := eq_true p259
               replace q259 := eq_true q259
               go_wp2_with (first | (go_at_call 49; (with_reducible refine (spec_l1Has.calls k3 _ _ l1 (rd t256 x33_3) t260 _ ?side1 ?side2 A18.out).mono ?_); (case side1 => repeat (first | exact (Kd.C_below HR1.out HB.out) | (with_reducible refine Kd.C_alloc ?_ _) | (with_reducible refine Kd.C_drewN ?_ _) | (with_reducible refine Kd.C_drew ?_))); (case side2 => exact HC1.out); rintro e w' ⟨rfl, ⟨nd, rfl⟩⟩))
               go_roundg k3
               case measure => have := HJ2.out; have := HK2.out; have := HK3.out; omega
               case rel => exact ⟨(t260), (wrap64 (x33_3 + 1)), (by first | rfl | (simp; done) | (simp [*]; done)), (by first | rfl | (simp; done) | (simp [*]; done)), H', ⟨by have := HJ2.out; have := HK2.out; have := HK3.out; omega⟩, ⟨by (with_reducible repeat (first | apply Ra | apply Rn | apply Rd)); exact HO_6.out⟩, ⟨by (with_reducible repeat (first | apply Ra | apply Rn | apply Rd)); exact HO_31.out⟩, ⟨by repeat (first | exact HB.out | apply Ba | apply Bn | apply Bd)⟩⟩
              ·replace c17 := Bool.eq_false_iff.mpr c17
               subst c17
               have H1 : (spec_ClosedIn.l1 k3 l0 l1 x6_2 (rd l1 x25_2) false l1 (l1.length : Int) x25_2 t256 (t256.length : Int) (wrap64 (x33_3 + 1))) = some (r1, r2) := by rw [if_neg (show ¬ (false = true) by decide)] at H; exact H
               clear H
               have H := H1
               clear H1
               have H' := Am H
               clear H
               have p259 : 0 ≤ (x33_3 : Int) := of_decide_eq_true (by assumption)
               have q259 : x33_3 < (t256.length : Int) := of_decide_eq_true (by assumption)
               obtain ⟨ad259, e259, hx259_0⟩ := Kd.at_int (Kd.R_reads' HO_31.out).2.2 x33_3 p259 q259
               cases e259
               replace p259 := eq_true p259
               replace q259 := eq_true q259
               go_wp2
               go_roundg k3
               case measure => have := HJ2.out; have := HK2.out; have := HK3.out; omega
               case rel => exact ⟨(false), (wrap64 (x33_3 + 1)), (by first | rfl | (simp; done) | (simp [*]; done)), (by first | rfl | (simp; done) | (simp [*]; done)), H', ⟨by have := HJ2.out; have := HK2.out; have := HK3.out; omega⟩, ⟨by (with_reducible repeat (first | apply Ra | apply Rn | apply Rd)); exact HO_6.out⟩, ⟨by (with_reducible repeat (first | apply Ra | apply Rn | apply Rd)); exact HO_31.out⟩, ⟨by repeat (first | exact HB.out | apply Ba | apply Bn | apply Bd)⟩⟩
             ·rw [if_neg c16] at H
              exact absurd H (by simp)
            ·rw [if_neg c15] at H
             exact absurd H (by simp)
           ·rw [if_neg c14] at H
            have c14b0 : decide (x33_3 < (t256.length : Int)) = false := decide_eq_false c14
            clear c14
            by_cases c19 : x9_3 = true
            ·subst c19
             have H1 : (if x6_2.length < 17592186044416 then (spec_ClosedIn.l0 k3 l0 l1 (x6_2 ++ [(rd l1 x25_2)]) l1 (l1.length : Int) (wrap64 (x25_2 + 1))) else (none)) = some (r1, r2) := by rw [if_pos rfl] at H; exact H
             clear H
             have H := H1
             clear H1
             by_cases c20 : x6_2.length < 17592186044416
             ·rw [if_pos c20] at H
              have LMc20 := Am c20
              clear c20
              obtain ⟨y261, hy261⟩ : ∃ y_ : List Int, y_ = (x6_2 ++ [(rd l1 x25_2)]) := ⟨_, rfl⟩
              replace H : (spec_ClosedIn.l0 k3 l0 l1 y261 l1 (l1.length : Int) (wrap64 (x25_2 + 1))) = some (r1, r2) := by first | (rw [hy261]; with_reducible exact H) | (have H2_ := (Option.bind_some _ _).symm.trans H; rw [hy261]; with_reducible exact H2_) | (have H2_ := (Option.bind_some _ _).symm.trans H; with_reducible exact H2_) | with_reducible exact H | (rw [hy261]; exact H) | exact H
              have Ny261 := Am hy261
              clear hy261
              have H' := Am H
              clear H
              go_wp2_with (first | ((with_reducible refine gate_builtin (b := .append) (xs := #[.tmp 45, .tmp 47]) rfl ?_); (try (refine gate_guard (by rfl) ?_; dsimp only)); at_builtin; refine Kd.R_append (Kd.int .i64) (w0 := w) w.heap.size rfl (.tmp 45) (.tmp 47) 23 3 (.int .i64 0) 8 rfl Try.underlying23 info3 rfl (by decide) (by omega) u6 x6_2 (rd l1 x25_2) [.int .i64 (rd l1 x25_2)] (fun k_ => some k_ ≠ (.slice Ao13 t256.length co13 : Value).ownBlock) (fun _ => False) rfl rfl ?aP (fun _ hk => hk.elim) ?aF ?aO ?aB ?aS ?aL ?_; (case aP => exact rfl); (case aB => exact (by repeat (first | exact HB.out | apply Ba | apply Bn | apply Bd))); (case aF => exact (fun k_ hk => Kd.fresh' (Kd.R_lt (by (with_reducible repeat (first | apply Ra | apply Rn | apply Rd)); exact HO_31.out)) k_ hk)); (case aO => exact (by (with_reducible repeat (first | apply Ra | apply Rn | apply Rd)); exact HO_6.out)); (case aS => exact (Bz (by repeat (first | exact HB.out | apply Ba | apply Bn | apply Bd)))); (case aL => have := LMc20.out; omega); intro v262 w21 ho hb hg hat; rw [← Ny261.out] at ho; have n0_ := Am (Kd.R_after (ok := (fun _ => True)) (by (with_reducible repeat (first | apply Ra | apply Rn | apply Rd)); exact Kd.R_mono HO_31.out (fun _ hk => ⟨trivial, hk⟩)) hg hat); have n1_ := Am (hb); have n2_ := Am (ho); clear HO_31; clear HB; clear HO_6; have HO_31 := n0_; have HB := n1_; have HO263 := n2_; clear n0_ n1_ n2_; clear ho hb hg hat))
              go_roundg k3
              case measure => have := HJ2.out; have := HK2.out; have := HK3.out; omega
              case rel => exact ⟨(y261), (wrap64 (x25_2 + 1)), (by first | rfl | (simp; done) | (simp [*]; done)), H', ⟨by have := HJ2.out; have := HK2.out; have := HK3.out; omega⟩, ⟨by (with_reducible repeat (first | apply Ra | apply Rn | apply Rd)); exact Kd.R_mono HO263.out (fun _ hk => trivial)⟩, ⟨by repeat (first | exact HB.out | apply Ba | apply Bn | apply Bd)⟩⟩
             ·rw [if_neg c20] at H
              exact absurd H (by simp)
            ·replace c19 := Bool.eq_false_iff.mpr c19
             subst c19
             have H1 : (spec_ClosedIn.l0 k3 l0 l1 x6_2 l1 (l1.length : Int) (wrap64 (x25_2 + 1))) = some (r1, r2) := by rw [if_neg (show ¬ (false = true) by decide)] at H; exact H
             clear H
             have H := H1
             clear H1
             have H' := Am H
             clear H
             go_wp2
             go_roundg k3
             case measure => have := HJ2.out; have := HK2.out; have := HK3.out; omega
             case rel => exact ⟨(x6_2), (wrap64 (x25_2 + 1)), (by first | rfl | (simp; done) | (simp [*]; done)), H', ⟨by have := HJ2.out; have := HK2.out; have := HK3.out; omega⟩, ⟨by (with_reducible repeat (first | apply Ra | apply Rn | apply Rd)); exact Kd.R_mono HO_6.out (fun _ hk => trivial)⟩, ⟨by repeat (first | exact HB.out | apply Ba | apply Bn | apply Bd)⟩⟩
        ·rw [if_neg c10] at H
         exact absurd H (by simp)
       ·rw [if_neg c9] at H
        exact absurd H (by simp)
      ·rw [if_neg c8] at H
       have c8b0 : decide (x25_2 < (l1.length : Int)) = false := decide_eq_false c8
       clear c8
       simp only [Option.some.injEq, Prod.mk.injEq] at H
       obtain ⟨rfl, rfl⟩ := H
       go_wp2
       go_ret2
       exact ⟨_, by first | rfl | (simp [*, errW_none, errW_some] <;> rfl), by (with_reducible repeat (first | apply Ra | apply Rn | apply Rd)); exact HO_6.out, by repeat (first | exact HB.out | apply Ba | apply Bn | apply Bd)⟩
end Go.Proofs.Ytpboalgecejoeaa.QFnComponents
