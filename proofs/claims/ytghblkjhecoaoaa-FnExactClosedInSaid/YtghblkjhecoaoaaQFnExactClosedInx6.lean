-- Written by a program of this session (wip/mk.py) over the kit's print: Lean checks it.
import Derived.Test.YtghblkjhecoaoaaQFnExactClosedInx0
import Derived.Test.YtghblkjhecoaoaaQFnExactClosedInx1
import Derived.Test.YtghblkjhecoaoaaQFnExactClosedInx2
import Derived.Test.YtghblkjhecoaoaaQFnExactClosedInx3
import Derived.Test.YtghblkjhecoaoaaQFnExactClosedInx4
import Derived.Test.YtghblkjhecoaoaaQFnExactClosedInx5
namespace Go.Proofs.Ytghblkjhecoaoaa.QFnExactClosedIn
open Go.RowKit Go.Proofs.YtghblkjhecoaoaaW.PrintWords Go.Proofs.YtghblkjhecoaoaaW.PrintLast Go.Proofs.YtghblkjhecoaoaaW.PrintMore
attribute [local go_sem] max2_int min2_int max_two min_two max_three min_three max_four min_four   -- for this text's walks alone
set_option linter.unusedVariables false
set_option linter.unusedSimpArgs false

/-! ### impl_ClosedIn: function 31 -/
def impl_ClosedIn.f (k : Nat) (l0 : List (List Int)) (l1 : List Int) : Option (List Int × Bool) :=
  (impl_GoodGraph.f l0).bind fun b => if b = true then ((impl_areMembers.f (l0.length : Int) l1).bind fun b2 => if b2 = true then ((slices_Clone_int_int.f l1).bind fun l => (Mine.delO (fun x => impl_ClosedIn_1.f k x l0 l1) l).bind fun r => some (r, true)) else some ([], false)) else some ([], false)
set_option maxHeartbeats 4000000 in
set_option maxRecDepth 100000 in
theorem impl_ClosedIn.calls (k : Nat) (A0 : Option Addr) (c0 : Nat) (l0 : List (List Int)) (A1 : Option Addr) (c1 : Nat) (l1 : List Int) (r1 : List Int) (r2 : Bool) (w : World) (hr0 : Kd.C (Kd.slice 3 (Kd.int .i64)) w A0 l0.length l0) (hc0 : l0.length ≤ c0) (hr1 : Kd.C (Kd.int .i64) w A1 l1.length l1) (hc1 : l1.length ≤ c1) (h : impl_ClosedIn.f k l0 l1 = some (r1, r2)) :
    Calls Try.prog 31 #[.slice A0 l0.length c0, .slice A1 l1.length c1] w fun e w' => ∃ v0_ : Value, e = .returned (.tuple #[v0_, .bool r2]) ∧ Kd.R (Kd.int .i64) 3 w' w.heap.size (fun _ => True) v0_ r1 ∧ Below w.heap.size w w' := by
  have HR0 := Aside0.mk hr0
  have HC0 := Aside0.mk hc0
  have HR1 := Aside0.mk hr1
  have HC1 := Aside0.mk hc1
  clear hr0 hc0 hr1 hc1
  unfold impl_ClosedIn.f at h
  cases hg : impl_GoodGraph.f l0 with
  | none => rw [hg] at h; cases h
  | some b =>
  rw [hg, Option.bind_some] at h
  have HG := Aside0.mk hg
  have HF := Aside0.mk h
  clear hg h
  go_enter Try.func31, Try.ntmps31
  go_wp2_with fail
  refine letW (fun W_ => Below w.heap.size w W_ ∧ W_.heap[w.heap.size]? = some (.cells #[.slice A0 l0.length c0] 22 (0, 0)) ∧ W_.heap[w.heap.size + 1]? = some (.cells #[.slice A1 l1.length c1] 27 (0, 0))) ?_ ?_
  · refine ⟨below_alloc (below_alloc (Below.refl _ _) _) _, ?_, ?_⟩
    · simpa using blk_alloc (blk_new w (.cells #[.slice A0 l0.length c0] 22)) (.cells #[.slice A1 l1.length c1] 27)
    · simpa using blk_new (w.alloc (.cells #[.slice A0 l0.length c0] 22)) (.cells #[.slice A1 l1.length c1] 27)
  intro w1 hq_
  obtain ⟨hb, hx0, hx1⟩ := hq_
  have HB := Aside0.mk hb
  have BX0 := Aside0.mk hx0
  have BX1 := Aside0.mk hx1
  clear hb hx0 hx1
  refine (impl_GoodGraph.calls A0 c0 l0 b w1 (Kd.C_below HR0.out HB.out) HC0.out HG.out).mono ?_
  rintro e w2 ⟨rfl, hb⟩
  have hb : Below w1.heap.size w1 w2 := by first | exact hb | exact hb.below
  have n0_ := Aside0.mk (blk_below BX0.out hb)
  have n1_ := Aside0.mk (blk_below BX1.out hb)
  have n2_ := Aside0.mk (below_then HB.out HB.out.size hb)
  clear BX0 BX1 HB hb
  have BX0 := n0_
  have BX1 := n1_
  have HB := n2_
  clear n0_ n1_ n2_
  have q0 : w2.cell? ⟨w.heap.size, 0, none⟩ = some (.slice A0 l0.length c0) := (blk_cell BX0.out 0).trans rfl
  have q1 : w2.cell? ⟨w.heap.size + 1, 0, none⟩ = some (.slice A1 l1.length c1) := (blk_cell BX1.out 0).trans rfl
  cases b with
  | false =>
    have HF : Aside0 (([] : List Int) = r1 ∧ false = r2) := ⟨by simpa using HF.out⟩
    go_wp2
    go_ret2
    obtain ⟨rfl, rfl⟩ := HF.out
    exact ⟨_, rfl, Kd.R_nil _ _ _ _ _, HB.out⟩
  | true =>
    cases hm : impl_areMembers.f (l0.length : Int) l1 with
    | none => exact absurd HF.out (by simp [hm])
    | some b2 =>
    have HM := Aside0.mk hm
    have HF : Aside0 ((if b2 = true then ((slices_Clone_int_int.f l1).bind fun l => (Mine.delO (fun x => impl_ClosedIn_1.f k x l0 l1) l).bind fun r => some (r, true)) else some ([], false)) = some (r1, r2)) := ⟨by have h_ := HF.out; rw [if_pos rfl, hm] at h_; exact h_⟩
    clear hm
    go_wp2_with fail
    refine (impl_areMembers.calls (l0.length : Int) A1 c1 l1 b2 w2 (Kd.C_below HR1.out HB.out) HC1.out HM.out).mono ?_
    rintro e w3 ⟨rfl, hb⟩
    have hb : Below w2.heap.size w2 w3 := by first | exact hb | exact hb.below
    have n0_ := Aside0.mk (blk_below BX0.out hb)
    have n1_ := Aside0.mk (blk_below BX1.out hb)
    have n2_ := Aside0.mk (below_then HB.out HB.out.size hb)
    clear BX0 BX1 HB hb q0 q1
    have BX0 := n0_
    have BX1 := n1_
    have HB := n2_
    clear n0_ n1_ n2_
    have q0 : w3.cell? ⟨w.heap.size, 0, none⟩ = some (.slice A0 l0.length c0) := (blk_cell BX0.out 0).trans rfl
    have q1 : w3.cell? ⟨w.heap.size + 1, 0, none⟩ = some (.slice A1 l1.length c1) := (blk_cell BX1.out 0).trans rfl
    cases b2 with
    | false =>
      have HF : Aside0 (([] : List Int) = r1 ∧ false = r2) := ⟨by simpa using HF.out⟩
      go_wp2
      go_ret2
      obtain ⟨rfl, rfl⟩ := HF.out
      exact ⟨_, rfl, Kd.R_nil _ _ _ _ _, HB.out⟩
    | true =>
      cases hl : slices_Clone_int_int.f l1 with
      | none => exact absurd HF.out (by simp [hl])
      | some l =>
      cases hd : Mine.delO (fun x => impl_ClosedIn_1.f k x l0 l1) l with
      | none => exact absurd HF.out (by simp [hl, hd])
      | some r =>
      have HL := Aside0.mk hl
      have HD := Aside0.mk hd
      have HE : Aside0 (r = r1 ∧ true = r2) := ⟨by simpa [hl, hd] using HF.out⟩
      clear hl hd HF
      go_wp2_with fail
      refine (slices_Clone_int_int.calls A1 c1 l1 l w3 (Kd.C_below HR1.out HB.out) HC1.out HL.out).mono ?_
      rintro e w4 ⟨v, rfl, hR, hb⟩
      have HR := Aside0.mk hR
      have n0_ := Aside0.mk (blk_below BX0.out hb)
      have n1_ := Aside0.mk (blk_below BX1.out hb)
      have HB4 := Aside0.mk hb
      have n2_ := Aside0.mk (below_then HB.out HB.out.size hb)
      clear q0 q1 hb hR
      go_wp2_with fail
      refine (slices_DeleteFunc_int_int.del 68 #[.pointer (some ⟨w.heap.size, 0, none⟩), .pointer (some ⟨w.heap.size + 1, 0, none⟩)] (fun x => impl_ClosedIn_1.f k x l0 l1) (fun _ => True) v l r w3 w4 (fun args w => enters_ Try.func68 (by kernel_rfl) rfl args w) HB4.out HR.out (fun W x hx bW b hb => (impl_ClosedIn_1.calls k x w.heap.size A0 c0 l0 (w.heap.size + 1) A1 c1 l1 b W (Kd.C_below HR0.out (below_then HB.out HB.out.size bW)) HC0.out (Kd.C_below HR1.out (below_then HB.out HB.out.size bW)) HC1.out (blk_below BX0.out bW) (blk_below BX1.out bW) hb).mono (fun e w' hh => ⟨hh.1, by first | exact hh.2 | exact hh.2.below⟩)) HD.out).mono ?_
      rintro e w5 ⟨v5, rfl, hR5, hb5⟩
      have HR5 := Aside0.mk hR5
      have HB5 := Aside0.mk hb5
      clear hR5 hb5
      go_wp2
      go_ret2
      obtain ⟨rfl, rfl⟩ := HE.out
      exact ⟨_, rfl, Kd.R_lower HR5.out HB.out.size, below_then HB.out HB.out.size HB5.out⟩

/-! ### laws_FnExactClosedIn: function 6 -/
/-- What the law's calls answer. -/
def laws_FnExactClosedIn.Facts (l0 : List (List Int)) (l1 : List Int) : Prop :=
  1048576 < (l1.length : Int) ∨ ((l1.length : Int) ≤ 1048576 ∧ ∃ z1 : Int, (∃ K, laws_szIntSS.f K l0 1048576 = some z1) ∧ (z1 < 0 ∨ (0 ≤ z1 ∧ (∃ K, laws_toIntSS.f K l0 = some l0) ∧ (∃ K, laws_toIntS.f K l1 = some l1) ∧ ∃ r2 : List Int, ∃ r3 : Bool, (∃ K, spec_ClosedIn.f K l0 l1 = some (r2, r3)) ∧ (∃ K, impl_ClosedIn.f K l0 l1 = some (r2, r3)) ∧ (∃ K, laws_eqIntS.f K r2 r2 = some true) ∧ (∃ K, laws_eqIntSS.f K l0 l0 = some true) ∧ (∃ K, laws_eqIntS.f K l1 l1 = some true) ∧ ∃ m4 : Int, ∃ rm4 : List (List Int), (∃ K, 0 ≤ m4 ∧ laws_markIntSS.f K l0 1 = some (m4, rm4)) ∧ ∃ m5 : Int, ∃ rm5 : List Int, (∃ K, 0 ≤ m5 ∧ laws_markIntS.f K l1 m4 = some (m5, rm5)) ∧ ∃ m6 : Int, ∃ rm6 : List Int, (∃ K, 0 ≤ m6 ∧ laws_markIntS.f K r2 1 = some (m6, rm6)) ∧ (∃ K, laws_heldIntS.f K rm6 1 = some m6) ∧ True)))
set_option maxHeartbeats 8000000 in
set_option maxRecDepth 100000 in
theorem laws_FnExactClosedIn.calls (A0 : Option Addr) (c0 : Nat) (l0 : List (List Int)) (A1 : Option Addr) (c1 : Nat) (l1 : List Int) (w : World) (hr0 : Kd.C (Kd.slice 3 (Kd.int .i64)) w A0 l0.length l0) (hc0 : l0.length ≤ c0) (hr1 : Kd.C (Kd.int .i64) w A1 l1.length l1) (hc1 : l1.length ≤ c1) (h : laws_FnExactClosedIn.Facts l0 l1) :
    Calls Try.prog 6 #[.slice A0 l0.length c0, .slice A1 l1.length c1] w fun e w' => e = .returned (.bool true) ∧ Below w.heap.size w w' := by
  unfold laws_FnExactClosedIn.Facts at h
  have HR0 := Aside0.mk hr0
  have HC0 := Aside0.mk hc0
  clear hr0 hc0
  have HR1 := Aside0.mk hr1
  have HC1 := Aside0.mk hc1
  clear hr1 hc1
  have HF := Aside0.mk h
  clear h
  have HB := Aside0.mk (Below.refl w.heap.size w)
  rcases HF.out with hbig | ⟨hsmall, hF⟩
  · clear HF
    go_enter Try.func6, Try.ntmps6
    go_wp2
    go_ret
    exact ⟨rfl, HB.out⟩
  clear HF
  have HF := Aside0.mk hF
  clear hF
  obtain ⟨z1, ⟨Kz1, hs⟩, hF⟩ := HF.out
  clear HF
  have HF := Aside0.mk hF
  clear hF
  have HSz1 := Aside0.mk hs
  clear hs
  go_enter Try.func6, Try.ntmps6
  go_wp2_with fail
  (refine (laws_szIntSS.calls Kz1 A0 c0 l0 1048576 z1 w (Kd.C_below HR0.out HB.out) HC0.out HSz1.out).mono ?_)
  rintro e w1 ⟨rfl, hd⟩
  have hb := hd.below
  clear hd
  have Z1 : Aside0 (w.heap.size ≤ w1.heap.size) := ⟨hb.size⟩
  have hb_ := Aside0.mk (below_then HB.out HB.out.size hb)
  clear HB
  have HB := hb_
  clear hb_
  clear hb
  rcases HF.out with hneg | ⟨hpos, hF⟩
  · clear HF
    go_wp2
    go_ret
    exact ⟨rfl, HB.out⟩
  clear HF
  have HF := Aside0.mk hF
  clear hF
  obtain ⟨⟨K1, h1⟩, hF⟩ := HF.out
  clear HF
  have HF := Aside0.mk hF
  clear hF
  have H1 := Aside0.mk h1
  clear h1
  go_wp2_with fail
  (refine (laws_toIntSS.calls K1 A0 c0 l0 l0 w1 (Kd.C_below HR0.out HB.out) HC0.out H1.out).mono ?_)
  rintro e w2 ⟨v0_, rfl, hS0, hb⟩
  have X1 : Aside0 (Kd.S (Kd.slice 3 (Kd.int .i64)) 27 w2 w.heap.size (fun k => w1.heap.size ≤ k ∧ k < w2.heap.size) v0_ l0) := ⟨Kd.S_mono (Kd.S_lower (Kd.S_bound hS0) HB.out.size) (fun k hk => ⟨hk.2.1, hk.2.2.1⟩)⟩
  have Z2 : Aside0 (w1.heap.size ≤ w2.heap.size) := ⟨hb.size⟩
  have hb_ := Aside0.mk (below_then HB.out HB.out.size hb)
  clear HB
  have HB := hb_
  clear hb_
  clear hb hS0
  obtain ⟨A1_, c1_, rfl⟩ := Kd.S_slice X1.out
  obtain ⟨⟨K2, h2⟩, hF⟩ := HF.out
  clear HF
  have HF := Aside0.mk hF
  clear hF
  have H2 := Aside0.mk h2
  clear h2
  go_wp2_with fail
  (refine (laws_toIntS.calls K2 A1 c1 l1 l1 w2 (Kd.C_below HR1.out HB.out) HC1.out H2.out).mono ?_)
  rintro e w3 ⟨v0_, rfl, hS0, hb⟩
  have X2 : Aside0 (Kd.R (Kd.int .i64) 3 w3 w.heap.size (fun k => w2.heap.size ≤ k ∧ k < w3.heap.size) v0_ l1) := ⟨Kd.R_mono (Kd.R_lower (Kd.R_bound hS0) HB.out.size) (fun k hk => ⟨hk.2.1, hk.2.2.1⟩)⟩
  have Z3 : Aside0 (w2.heap.size ≤ w3.heap.size) := ⟨hb.size⟩
  have n0_ := Aside0.mk (Kd.S_below X1.out hb)
  have hb_ := Aside0.mk (below_then HB.out HB.out.size hb)
  clear X1
  have X1 := n0_
  clear n0_
  clear HB
  have HB := hb_
  clear hb_
  clear hb hS0
  obtain ⟨A2_, c2_, rfl⟩ := Kd.R_slice X2.out
  obtain ⟨r2, r3, ⟨K3, h3⟩, hF⟩ := HF.out
  clear HF
  have HF := Aside0.mk hF
  clear hF
  have H3 := Aside0.mk h3
  clear h3
  go_wp2_with fail
  (refine (spec_ClosedIn.calls K3 A1_ c1_ l0 A2_ c2_ l1 r2 r3 w3 (Kd.S_reads' X1.out).2.2 (Kd.S_reads' X1.out).2.1 (Kd.R_reads' X2.out).2.2 (Kd.R_reads' X2.out).2.1 H3.out).mono ?_)
  rintro e w4 ⟨v0_, rfl, hS0, hb⟩
  have X3 : Aside0 (Kd.R (Kd.int .i64) 3 w4 w.heap.size (fun k => w3.heap.size ≤ k ∧ k < w4.heap.size) v0_ r2) := ⟨Kd.R_mono (Kd.R_lower (Kd.R_bound hS0) HB.out.size) (fun k hk => ⟨hk.2.1, hk.2.2.1⟩)⟩
  have Z4 : Aside0 (w3.heap.size ≤ w4.heap.size) := ⟨hb.size⟩
  have n0_ := Aside0.mk (Kd.S_below X1.out hb)
  have n1_ := Aside0.mk (Kd.R_below X2.out hb)
  have hb_ := Aside0.mk (below_then HB.out HB.out.size hb)
  clear X1 X2
  have X1 := n0_
  have X2 := n1_
  clear n0_ n1_
  clear HB
  have HB := hb_
  clear hb_
  clear hb hS0
  obtain ⟨A3_, c3_, rfl⟩ := Kd.R_slice X3.out
  go_wp2_with fail
  (refine (laws_toIntSS.calls K1 A0 c0 l0 l0 w4 (Kd.C_below HR0.out HB.out) HC0.out H1.out).mono ?_)
  rintro e w5 ⟨v0_, rfl, hS0, hb⟩
  have X4 : Aside0 (Kd.S (Kd.slice 3 (Kd.int .i64)) 27 w5 w.heap.size (fun k => w4.heap.size ≤ k ∧ k < w5.heap.size) v0_ l0) := ⟨Kd.S_mono (Kd.S_lower (Kd.S_bound hS0) HB.out.size) (fun k hk => ⟨hk.2.1, hk.2.2.1⟩)⟩
  have Z5 : Aside0 (w4.heap.size ≤ w5.heap.size) := ⟨hb.size⟩
  have n0_ := Aside0.mk (Kd.S_below X1.out hb)
  have n1_ := Aside0.mk (Kd.R_below X2.out hb)
  have n2_ := Aside0.mk (Kd.R_below X3.out hb)
  have hb_ := Aside0.mk (below_then HB.out HB.out.size hb)
  clear X1 X2 X3
  have X1 := n0_
  have X2 := n1_
  have X3 := n2_
  clear n0_ n1_ n2_
  clear HB
  have HB := hb_
  clear hb_
  clear hb hS0
  obtain ⟨A4_, c4_, rfl⟩ := Kd.S_slice X4.out
  go_wp2_with fail
  (refine (laws_toIntS.calls K2 A1 c1 l1 l1 w5 (Kd.C_below HR1.out HB.out) HC1.out H2.out).mono ?_)
  rintro e w6 ⟨v0_, rfl, hS0, hb⟩
  have X5 : Aside0 (Kd.R (Kd.int .i64) 3 w6 w.heap.size (fun k => w5.heap.size ≤ k ∧ k < w6.heap.size) v0_ l1) := ⟨Kd.R_mono (Kd.R_lower (Kd.R_bound hS0) HB.out.size) (fun k hk => ⟨hk.2.1, hk.2.2.1⟩)⟩
  have Z6 : Aside0 (w5.heap.size ≤ w6.heap.size) := ⟨hb.size⟩
  have n0_ := Aside0.mk (Kd.S_below X1.out hb)
  have n1_ := Aside0.mk (Kd.R_below X2.out hb)
  have n2_ := Aside0.mk (Kd.R_below X3.out hb)
  have n3_ := Aside0.mk (Kd.S_below X4.out hb)
  have hb_ := Aside0.mk (below_then HB.out HB.out.size hb)
  clear X1 X2 X3 X4
  have X1 := n0_
  have X2 := n1_
  have X3 := n2_
  have X4 := n3_
  clear n0_ n1_ n2_ n3_
  clear HB
  have HB := hb_
  clear hb_
  clear hb hS0
  obtain ⟨A5_, c5_, rfl⟩ := Kd.R_slice X5.out
  obtain ⟨⟨K4, h4⟩, hF⟩ := HF.out
  clear HF
  have HF := Aside0.mk hF
  clear hF
  have H4 := Aside0.mk h4
  clear h4
  go_wp2_with fail
  (refine (impl_ClosedIn.calls K4 A4_ c4_ l0 A5_ c5_ l1 r2 r3 w6 (Kd.S_reads' X4.out).2.2 (Kd.S_reads' X4.out).2.1 (Kd.R_reads' X5.out).2.2 (Kd.R_reads' X5.out).2.1 H4.out).mono ?_)
  rintro e w7 ⟨v0_, rfl, hS0, hb⟩
  have X6 : Aside0 (Kd.R (Kd.int .i64) 3 w7 w.heap.size (fun k => w6.heap.size ≤ k ∧ k < w7.heap.size) v0_ r2) := ⟨Kd.R_mono (Kd.R_lower (Kd.R_bound hS0) HB.out.size) (fun k hk => ⟨hk.2.1, hk.2.2.1⟩)⟩
  have Z7 : Aside0 (w6.heap.size ≤ w7.heap.size) := ⟨hb.size⟩
  have n0_ := Aside0.mk (Kd.S_below X1.out hb)
  have n1_ := Aside0.mk (Kd.R_below X2.out hb)
  have n2_ := Aside0.mk (Kd.R_below X3.out hb)
  have n3_ := Aside0.mk (Kd.S_below X4.out hb)
  have n4_ := Aside0.mk (Kd.R_below X5.out hb)
  have hb_ := Aside0.mk (below_then HB.out HB.out.size hb)
  clear X1 X2 X3 X4 X5
  have X1 := n0_
  have X2 := n1_
  have X3 := n2_
  have X4 := n3_
  have X5 := n4_
  clear n0_ n1_ n2_ n3_ n4_
  clear HB
  have HB := hb_
  clear hb_
  clear hb hS0
  obtain ⟨A6_, c6_, rfl⟩ := Kd.R_slice X6.out
  obtain ⟨⟨K5, h5⟩, hF⟩ := HF.out
  clear HF
  have HF := Aside0.mk hF
  clear hF
  have H5 := Aside0.mk h5
  clear h5
  go_wp2_with fail
  (refine (laws_eqIntS.calls K5 A6_ c6_ r2 A3_ c3_ r2 true w7 (Kd.R_reads' X6.out).2.2 (Kd.R_reads' X6.out).2.1 (Kd.R_reads' X3.out).2.2 (Kd.R_reads' X3.out).2.1 H5.out).mono ?_)
  rintro e w8 ⟨rfl, hd⟩
  have hb := hd.below
  clear hd
  have Z8 : Aside0 (w7.heap.size ≤ w8.heap.size) := ⟨hb.size⟩
  have n0_ := Aside0.mk (Kd.S_below X1.out hb)
  have n1_ := Aside0.mk (Kd.R_below X2.out hb)
  have n2_ := Aside0.mk (Kd.R_below X3.out hb)
  have n3_ := Aside0.mk (Kd.S_below X4.out hb)
  have n4_ := Aside0.mk (Kd.R_below X5.out hb)
  have n5_ := Aside0.mk (Kd.R_below X6.out hb)
  have hb_ := Aside0.mk (below_then HB.out HB.out.size hb)
  clear X1 X2 X3 X4 X5 X6
  have X1 := n0_
  have X2 := n1_
  have X3 := n2_
  have X4 := n3_
  have X5 := n4_
  have X6 := n5_
  clear n0_ n1_ n2_ n3_ n4_ n5_
  clear HB
  have HB := hb_
  clear hb_
  clear hb
  go_wp2_with fail
  (refine (laws_toIntSS.calls K1 A0 c0 l0 l0 w8 (Kd.C_below HR0.out HB.out) HC0.out H1.out).mono ?_)
  rintro e w9 ⟨v0_, rfl, hS0, hb⟩
  have X7 : Aside0 (Kd.S (Kd.slice 3 (Kd.int .i64)) 27 w9 w.heap.size (fun k => w8.heap.size ≤ k ∧ k < w9.heap.size) v0_ l0) := ⟨Kd.S_mono (Kd.S_lower (Kd.S_bound hS0) HB.out.size) (fun k hk => ⟨hk.2.1, hk.2.2.1⟩)⟩
  have Z9 : Aside0 (w8.heap.size ≤ w9.heap.size) := ⟨hb.size⟩
  have n0_ := Aside0.mk (Kd.S_below X1.out hb)
  have n1_ := Aside0.mk (Kd.R_below X2.out hb)
  have n2_ := Aside0.mk (Kd.R_below X3.out hb)
  have n3_ := Aside0.mk (Kd.S_below X4.out hb)
  have n4_ := Aside0.mk (Kd.R_below X5.out hb)
  have n5_ := Aside0.mk (Kd.R_below X6.out hb)
  have hb_ := Aside0.mk (below_then HB.out HB.out.size hb)
  clear X1 X2 X3 X4 X5 X6
  have X1 := n0_
  have X2 := n1_
  have X3 := n2_
  have X4 := n3_
  have X5 := n4_
  have X6 := n5_
  clear n0_ n1_ n2_ n3_ n4_ n5_
  clear HB
  have HB := hb_
  clear hb_
  clear hb hS0
  obtain ⟨A7_, c7_, rfl⟩ := Kd.S_slice X7.out
  obtain ⟨⟨K6, h6⟩, hF⟩ := HF.out
  clear HF
  have HF := Aside0.mk hF
  clear hF
  have H6 := Aside0.mk h6
  clear h6
  go_wp2_with fail
  (refine (laws_eqIntSS.calls K6 A4_ c4_ l0 A7_ c7_ l0 true w9 (Kd.S_reads' X4.out).2.2 (Kd.S_reads' X4.out).2.1 (Kd.S_reads' X7.out).2.2 (Kd.S_reads' X7.out).2.1 H6.out).mono ?_)
  rintro e w10 ⟨rfl, hd⟩
  have hb := hd.below
  clear hd
  have Z10 : Aside0 (w9.heap.size ≤ w10.heap.size) := ⟨hb.size⟩
  have n0_ := Aside0.mk (Kd.S_below X1.out hb)
  have n1_ := Aside0.mk (Kd.R_below X2.out hb)
  have n2_ := Aside0.mk (Kd.R_below X3.out hb)
  have n3_ := Aside0.mk (Kd.S_below X4.out hb)
  have n4_ := Aside0.mk (Kd.R_below X5.out hb)
  have n5_ := Aside0.mk (Kd.R_below X6.out hb)
  have n6_ := Aside0.mk (Kd.S_below X7.out hb)
  have hb_ := Aside0.mk (below_then HB.out HB.out.size hb)
  clear X1 X2 X3 X4 X5 X6 X7
  have X1 := n0_
  have X2 := n1_
  have X3 := n2_
  have X4 := n3_
  have X5 := n4_
  have X6 := n5_
  have X7 := n6_
  clear n0_ n1_ n2_ n3_ n4_ n5_ n6_
  clear HB
  have HB := hb_
  clear hb_
  clear hb
  go_wp2_with fail
  (refine (laws_toIntS.calls K2 A1 c1 l1 l1 w10 (Kd.C_below HR1.out HB.out) HC1.out H2.out).mono ?_)
  rintro e w11 ⟨v0_, rfl, hS0, hb⟩
  have X8 : Aside0 (Kd.R (Kd.int .i64) 3 w11 w.heap.size (fun k => w10.heap.size ≤ k ∧ k < w11.heap.size) v0_ l1) := ⟨Kd.R_mono (Kd.R_lower (Kd.R_bound hS0) HB.out.size) (fun k hk => ⟨hk.2.1, hk.2.2.1⟩)⟩
  have Z11 : Aside0 (w10.heap.size ≤ w11.heap.size) := ⟨hb.size⟩
  have n0_ := Aside0.mk (Kd.S_below X1.out hb)
  have n1_ := Aside0.mk (Kd.R_below X2.out hb)
  have n2_ := Aside0.mk (Kd.R_below X3.out hb)
  have n3_ := Aside0.mk (Kd.S_below X4.out hb)
  have n4_ := Aside0.mk (Kd.R_below X5.out hb)
  have n5_ := Aside0.mk (Kd.R_below X6.out hb)
  have n6_ := Aside0.mk (Kd.S_below X7.out hb)
  have hb_ := Aside0.mk (below_then HB.out HB.out.size hb)
  clear X1 X2 X3 X4 X5 X6 X7
  have X1 := n0_
  have X2 := n1_
  have X3 := n2_
  have X4 := n3_
  have X5 := n4_
  have X6 := n5_
  have X7 := n6_
  clear n0_ n1_ n2_ n3_ n4_ n5_ n6_
  clear HB
  have HB := hb_
  clear hb_
  clear hb hS0
  obtain ⟨A8_, c8_, rfl⟩ := Kd.R_slice X8.out
  obtain ⟨⟨K7, h7⟩, hF⟩ := HF.out
  clear HF
  have HF := Aside0.mk hF
  clear hF
  have H7 := Aside0.mk h7
  clear h7
  go_wp2_with fail
  (refine (laws_eqIntS.calls K7 A5_ c5_ l1 A8_ c8_ l1 true w11 (Kd.R_reads' X5.out).2.2 (Kd.R_reads' X5.out).2.1 (Kd.R_reads' X8.out).2.2 (Kd.R_reads' X8.out).2.1 H7.out).mono ?_)
  rintro e w12 ⟨rfl, hd⟩
  have hb := hd.below
  clear hd
  have Z12 : Aside0 (w11.heap.size ≤ w12.heap.size) := ⟨hb.size⟩
  have n0_ := Aside0.mk (Kd.S_below X1.out hb)
  have n1_ := Aside0.mk (Kd.R_below X2.out hb)
  have n2_ := Aside0.mk (Kd.R_below X3.out hb)
  have n3_ := Aside0.mk (Kd.S_below X4.out hb)
  have n4_ := Aside0.mk (Kd.R_below X5.out hb)
  have n5_ := Aside0.mk (Kd.R_below X6.out hb)
  have n6_ := Aside0.mk (Kd.S_below X7.out hb)
  have n7_ := Aside0.mk (Kd.R_below X8.out hb)
  have hb_ := Aside0.mk (below_then HB.out HB.out.size hb)
  clear X1 X2 X3 X4 X5 X6 X7 X8
  have X1 := n0_
  have X2 := n1_
  have X3 := n2_
  have X4 := n3_
  have X5 := n4_
  have X6 := n5_
  have X7 := n6_
  have X8 := n7_
  clear n0_ n1_ n2_ n3_ n4_ n5_ n6_ n7_
  clear HB
  have HB := hb_
  clear hb_
  clear hb
  obtain ⟨m4, rm4, ⟨K8, h8⟩, hF⟩ := HF.out
  clear HF
  have HF := Aside0.mk hF
  clear hF
  have H8 := Aside0.mk h8
  clear h8
  go_wp2_with fail
  (refine (laws_markIntSS.calls K8 (fun k => w4.heap.size ≤ k ∧ k < w5.heap.size) _ l0 1 m4 rm4 w w12 HB.out X4.out H8.out.2).mono ?_)
  rintro e w13 ⟨rfl, hS, hb, hk⟩
  have hm4 := H8.out.1
  have Z13 : Aside0 (w12.heap.size ≤ w13.heap.size) := ⟨hk.1⟩
  have n0_ := Aside0.mk (Kd.S_kept X1.out hk (fun k h1_ h2_ => by have := Z1.out; have := Z2.out; have := Z3.out; have := Z4.out; have := Z5.out; have := Z6.out; have := Z7.out; have := Z8.out; have := Z9.out; have := Z10.out; have := Z11.out; have := Z12.out; (try dsimp only at h1_ h2_); omega))
  have n1_ := Aside0.mk (Kd.R_kept X2.out hk (fun k h1_ h2_ => by have := Z1.out; have := Z2.out; have := Z3.out; have := Z4.out; have := Z5.out; have := Z6.out; have := Z7.out; have := Z8.out; have := Z9.out; have := Z10.out; have := Z11.out; have := Z12.out; (try dsimp only at h1_ h2_); omega))
  have n2_ := Aside0.mk (Kd.R_kept X3.out hk (fun k h1_ h2_ => by have := Z1.out; have := Z2.out; have := Z3.out; have := Z4.out; have := Z5.out; have := Z6.out; have := Z7.out; have := Z8.out; have := Z9.out; have := Z10.out; have := Z11.out; have := Z12.out; (try dsimp only at h1_ h2_); omega))
  have n3_ := Aside0.mk (hS)
  have n4_ := Aside0.mk (Kd.R_kept X5.out hk (fun k h1_ h2_ => by have := Z1.out; have := Z2.out; have := Z3.out; have := Z4.out; have := Z5.out; have := Z6.out; have := Z7.out; have := Z8.out; have := Z9.out; have := Z10.out; have := Z11.out; have := Z12.out; (try dsimp only at h1_ h2_); omega))
  have n5_ := Aside0.mk (Kd.R_kept X6.out hk (fun k h1_ h2_ => by have := Z1.out; have := Z2.out; have := Z3.out; have := Z4.out; have := Z5.out; have := Z6.out; have := Z7.out; have := Z8.out; have := Z9.out; have := Z10.out; have := Z11.out; have := Z12.out; (try dsimp only at h1_ h2_); omega))
  have n6_ := Aside0.mk (Kd.S_kept X7.out hk (fun k h1_ h2_ => by have := Z1.out; have := Z2.out; have := Z3.out; have := Z4.out; have := Z5.out; have := Z6.out; have := Z7.out; have := Z8.out; have := Z9.out; have := Z10.out; have := Z11.out; have := Z12.out; (try dsimp only at h1_ h2_); omega))
  have n7_ := Aside0.mk (Kd.R_kept X8.out hk (fun k h1_ h2_ => by have := Z1.out; have := Z2.out; have := Z3.out; have := Z4.out; have := Z5.out; have := Z6.out; have := Z7.out; have := Z8.out; have := Z9.out; have := Z10.out; have := Z11.out; have := Z12.out; (try dsimp only at h1_ h2_); omega))
  have hb_ := Aside0.mk (hb)
  clear X1 X2 X3 X4 X5 X6 X7 X8
  have X1 := n0_
  have X2 := n1_
  have X3 := n2_
  have X4 := n3_
  have X5 := n4_
  have X6 := n5_
  have X7 := n6_
  have X8 := n7_
  clear n0_ n1_ n2_ n3_ n4_ n5_ n6_ n7_
  clear HB
  have HB := hb_
  clear hb_
  clear hS hb hk
  obtain ⟨m5, rm5, ⟨K9, h9⟩, hF⟩ := HF.out
  clear HF
  have HF := Aside0.mk hF
  clear hF
  have H9 := Aside0.mk h9
  clear h9
  go_wp2_with fail
  (refine (laws_markIntS.calls K9 (fun k => some k = (Value.slice A5_ (l1.length) c5_).ownBlock) _ l1 m4 m5 rm5 w w13 HB.out (Kd.R_tight rfl X5.out) H9.out.2).mono ?_)
  rintro e w14 ⟨rfl, hS, hb, hk⟩
  have hm5 := H9.out.1
  have Z14 : Aside0 (w13.heap.size ≤ w14.heap.size) := ⟨hk.1⟩
  have n0_ := Aside0.mk (Kd.S_kept X1.out hk (fun k h1_ h2_ => by have h3_ := X5.out.1 k h2_.symm; have := Z1.out; have := Z2.out; have := Z3.out; have := Z4.out; have := Z5.out; have := Z6.out; have := Z7.out; have := Z8.out; have := Z9.out; have := Z10.out; have := Z11.out; have := Z12.out; have := Z13.out; (try dsimp only at h1_ h3_); omega))
  have n1_ := Aside0.mk (Kd.R_kept X2.out hk (fun k h1_ h2_ => by have h3_ := X5.out.1 k h2_.symm; have := Z1.out; have := Z2.out; have := Z3.out; have := Z4.out; have := Z5.out; have := Z6.out; have := Z7.out; have := Z8.out; have := Z9.out; have := Z10.out; have := Z11.out; have := Z12.out; have := Z13.out; (try dsimp only at h1_ h3_); omega))
  have n2_ := Aside0.mk (Kd.R_kept X3.out hk (fun k h1_ h2_ => by have h3_ := X5.out.1 k h2_.symm; have := Z1.out; have := Z2.out; have := Z3.out; have := Z4.out; have := Z5.out; have := Z6.out; have := Z7.out; have := Z8.out; have := Z9.out; have := Z10.out; have := Z11.out; have := Z12.out; have := Z13.out; (try dsimp only at h1_ h3_); omega))
  have n3_ := Aside0.mk (Kd.S_kept X4.out hk (fun k h1_ h2_ => by have h3_ := X5.out.1 k h2_.symm; have := Z1.out; have := Z2.out; have := Z3.out; have := Z4.out; have := Z5.out; have := Z6.out; have := Z7.out; have := Z8.out; have := Z9.out; have := Z10.out; have := Z11.out; have := Z12.out; have := Z13.out; (try dsimp only at h1_ h3_); omega))
  have n4_ := Aside0.mk (Kd.R_reok rfl hS (fun k hk => X5.out.1 k hk))
  have n5_ := Aside0.mk (Kd.R_kept X6.out hk (fun k h1_ h2_ => by have h3_ := X5.out.1 k h2_.symm; have := Z1.out; have := Z2.out; have := Z3.out; have := Z4.out; have := Z5.out; have := Z6.out; have := Z7.out; have := Z8.out; have := Z9.out; have := Z10.out; have := Z11.out; have := Z12.out; have := Z13.out; (try dsimp only at h1_ h3_); omega))
  have n6_ := Aside0.mk (Kd.S_kept X7.out hk (fun k h1_ h2_ => by have h3_ := X5.out.1 k h2_.symm; have := Z1.out; have := Z2.out; have := Z3.out; have := Z4.out; have := Z5.out; have := Z6.out; have := Z7.out; have := Z8.out; have := Z9.out; have := Z10.out; have := Z11.out; have := Z12.out; have := Z13.out; (try dsimp only at h1_ h3_); omega))
  have n7_ := Aside0.mk (Kd.R_kept X8.out hk (fun k h1_ h2_ => by have h3_ := X5.out.1 k h2_.symm; have := Z1.out; have := Z2.out; have := Z3.out; have := Z4.out; have := Z5.out; have := Z6.out; have := Z7.out; have := Z8.out; have := Z9.out; have := Z10.out; have := Z11.out; have := Z12.out; have := Z13.out; (try dsimp only at h1_ h3_); omega))
  have hb_ := Aside0.mk (hb)
  clear X1 X2 X3 X4 X5 X6 X7 X8
  have X1 := n0_
  have X2 := n1_
  have X3 := n2_
  have X4 := n3_
  have X5 := n4_
  have X6 := n5_
  have X7 := n6_
  have X8 := n7_
  clear n0_ n1_ n2_ n3_ n4_ n5_ n6_ n7_
  clear HB
  have HB := hb_
  clear hb_
  clear hS hb hk
  go_wp2_with fail
  (refine (laws_eqIntS.calls K5 A6_ c6_ r2 A3_ c3_ r2 true w14 (Kd.R_reads' X6.out).2.2 (Kd.R_reads' X6.out).2.1 (Kd.R_reads' X3.out).2.2 (Kd.R_reads' X3.out).2.1 H5.out).mono ?_)
  rintro e w15 ⟨rfl, hd⟩
  have hb := hd.below
  clear hd
  have Z15 : Aside0 (w14.heap.size ≤ w15.heap.size) := ⟨hb.size⟩
  have n0_ := Aside0.mk (Kd.S_below X1.out hb)
  have n1_ := Aside0.mk (Kd.R_below X2.out hb)
  have n2_ := Aside0.mk (Kd.R_below X3.out hb)
  have n3_ := Aside0.mk (Kd.S_below X4.out hb)
  have n4_ := Aside0.mk (Kd.R_below X5.out hb)
  have n5_ := Aside0.mk (Kd.R_below X6.out hb)
  have n6_ := Aside0.mk (Kd.S_below X7.out hb)
  have n7_ := Aside0.mk (Kd.R_below X8.out hb)
  have hb_ := Aside0.mk (below_then HB.out HB.out.size hb)
  clear X1 X2 X3 X4 X5 X6 X7 X8
  have X1 := n0_
  have X2 := n1_
  have X3 := n2_
  have X4 := n3_
  have X5 := n4_
  have X6 := n5_
  have X7 := n6_
  have X8 := n7_
  clear n0_ n1_ n2_ n3_ n4_ n5_ n6_ n7_
  clear HB
  have HB := hb_
  clear hb_
  clear hb
  obtain ⟨m6, rm6, ⟨K10, h10⟩, hF⟩ := HF.out
  clear HF
  have HF := Aside0.mk hF
  clear hF
  have H10 := Aside0.mk h10
  clear h10
  go_wp2_with fail
  (refine (laws_markIntS.calls K10 (fun k => some k = (Value.slice A6_ (r2.length) c6_).ownBlock) _ r2 1 m6 rm6 w w15 HB.out (Kd.R_tight rfl X6.out) H10.out.2).mono ?_)
  rintro e w16 ⟨rfl, hS, hb, hk⟩
  have hm6 := H10.out.1
  have Z16 : Aside0 (w15.heap.size ≤ w16.heap.size) := ⟨hk.1⟩
  have n0_ := Aside0.mk (Kd.S_kept X1.out hk (fun k h1_ h2_ => by have h3_ := X6.out.1 k h2_.symm; have := Z1.out; have := Z2.out; have := Z3.out; have := Z4.out; have := Z5.out; have := Z6.out; have := Z7.out; have := Z8.out; have := Z9.out; have := Z10.out; have := Z11.out; have := Z12.out; have := Z13.out; have := Z14.out; have := Z15.out; (try dsimp only at h1_ h3_); omega))
  have n1_ := Aside0.mk (Kd.R_kept X2.out hk (fun k h1_ h2_ => by have h3_ := X6.out.1 k h2_.symm; have := Z1.out; have := Z2.out; have := Z3.out; have := Z4.out; have := Z5.out; have := Z6.out; have := Z7.out; have := Z8.out; have := Z9.out; have := Z10.out; have := Z11.out; have := Z12.out; have := Z13.out; have := Z14.out; have := Z15.out; (try dsimp only at h1_ h3_); omega))
  have n2_ := Aside0.mk (Kd.R_kept X3.out hk (fun k h1_ h2_ => by have h3_ := X6.out.1 k h2_.symm; have := Z1.out; have := Z2.out; have := Z3.out; have := Z4.out; have := Z5.out; have := Z6.out; have := Z7.out; have := Z8.out; have := Z9.out; have := Z10.out; have := Z11.out; have := Z12.out; have := Z13.out; have := Z14.out; have := Z15.out; (try dsimp only at h1_ h3_); omega))
  have n3_ := Aside0.mk (Kd.S_kept X4.out hk (fun k h1_ h2_ => by have h3_ := X6.out.1 k h2_.symm; have := Z1.out; have := Z2.out; have := Z3.out; have := Z4.out; have := Z5.out; have := Z6.out; have := Z7.out; have := Z8.out; have := Z9.out; have := Z10.out; have := Z11.out; have := Z12.out; have := Z13.out; have := Z14.out; have := Z15.out; (try dsimp only at h1_ h3_); omega))
  have n4_ := Aside0.mk (Kd.R_kept X5.out hk (fun k h1_ h2_ => by have h3_ := X6.out.1 k h2_.symm; have := Z1.out; have := Z2.out; have := Z3.out; have := Z4.out; have := Z5.out; have := Z6.out; have := Z7.out; have := Z8.out; have := Z9.out; have := Z10.out; have := Z11.out; have := Z12.out; have := Z13.out; have := Z14.out; have := Z15.out; (try dsimp only at h1_ h3_); omega))
  have n5_ := Aside0.mk (Kd.R_reok rfl hS (fun k hk => X6.out.1 k hk))
  have n6_ := Aside0.mk (Kd.S_kept X7.out hk (fun k h1_ h2_ => by have h3_ := X6.out.1 k h2_.symm; have := Z1.out; have := Z2.out; have := Z3.out; have := Z4.out; have := Z5.out; have := Z6.out; have := Z7.out; have := Z8.out; have := Z9.out; have := Z10.out; have := Z11.out; have := Z12.out; have := Z13.out; have := Z14.out; have := Z15.out; (try dsimp only at h1_ h3_); omega))
  have n7_ := Aside0.mk (Kd.R_kept X8.out hk (fun k h1_ h2_ => by have h3_ := X6.out.1 k h2_.symm; have := Z1.out; have := Z2.out; have := Z3.out; have := Z4.out; have := Z5.out; have := Z6.out; have := Z7.out; have := Z8.out; have := Z9.out; have := Z10.out; have := Z11.out; have := Z12.out; have := Z13.out; have := Z14.out; have := Z15.out; (try dsimp only at h1_ h3_); omega))
  have hb_ := Aside0.mk (hb)
  clear X1 X2 X3 X4 X5 X6 X7 X8
  have X1 := n0_
  have X2 := n1_
  have X3 := n2_
  have X4 := n3_
  have X5 := n4_
  have X6 := n5_
  have X7 := n6_
  have X8 := n7_
  clear n0_ n1_ n2_ n3_ n4_ n5_ n6_ n7_
  clear HB
  have HB := hb_
  clear hb_
  clear hS hb hk
  obtain ⟨⟨K11, h11⟩, hF⟩ := HF.out
  clear HF
  have HF := Aside0.mk hF
  clear hF
  have H11 := Aside0.mk h11
  clear h11
  go_wp2_with fail
  have hc_ := laws_heldIntS.calls K11 A6_ c6_ rm6 1 m6 w16 (Kd.R_reads' X6.out).2.2 (Nat.le_trans (Nat.le_of_eq (Kd.R_reads' X6.out).1.symm) (Kd.R_reads' X6.out).2.1) H11.out
  rw [← (Kd.R_reads' X6.out).1] at hc_
  (refine (hc_).mono ?_)
  clear hc_
  rintro e w17 ⟨rfl, hd⟩
  have hb := hd.below
  clear hd
  have Z17 : Aside0 (w16.heap.size ≤ w17.heap.size) := ⟨hb.size⟩
  have n0_ := Aside0.mk (Kd.S_below X1.out hb)
  have n1_ := Aside0.mk (Kd.R_below X2.out hb)
  have n2_ := Aside0.mk (Kd.R_below X3.out hb)
  have n3_ := Aside0.mk (Kd.S_below X4.out hb)
  have n4_ := Aside0.mk (Kd.R_below X5.out hb)
  have n5_ := Aside0.mk (Kd.R_below X6.out hb)
  have n6_ := Aside0.mk (Kd.S_below X7.out hb)
  have n7_ := Aside0.mk (Kd.R_below X8.out hb)
  have hb_ := Aside0.mk (below_then HB.out HB.out.size hb)
  clear X1 X2 X3 X4 X5 X6 X7 X8
  have X1 := n0_
  have X2 := n1_
  have X3 := n2_
  have X4 := n3_
  have X5 := n4_
  have X6 := n5_
  have X7 := n6_
  have X8 := n7_
  clear n0_ n1_ n2_ n3_ n4_ n5_ n6_ n7_
  clear HB
  have HB := hb_
  clear hb_
  clear hb
  go_wp2_with fail
  (refine (laws_toIntSS.calls K1 A0 c0 l0 l0 w17 (Kd.C_below HR0.out HB.out) HC0.out H1.out).mono ?_)
  rintro e w18 ⟨v0_, rfl, hS0, hb⟩
  have X9 : Aside0 (Kd.S (Kd.slice 3 (Kd.int .i64)) 27 w18 w.heap.size (fun k => w17.heap.size ≤ k ∧ k < w18.heap.size) v0_ l0) := ⟨Kd.S_mono (Kd.S_lower (Kd.S_bound hS0) HB.out.size) (fun k hk => ⟨hk.2.1, hk.2.2.1⟩)⟩
  have Z18 : Aside0 (w17.heap.size ≤ w18.heap.size) := ⟨hb.size⟩
  have n0_ := Aside0.mk (Kd.S_below X1.out hb)
  have n1_ := Aside0.mk (Kd.R_below X2.out hb)
  have n2_ := Aside0.mk (Kd.R_below X3.out hb)
  have n3_ := Aside0.mk (Kd.S_below X4.out hb)
  have n4_ := Aside0.mk (Kd.R_below X5.out hb)
  have n5_ := Aside0.mk (Kd.R_below X6.out hb)
  have n6_ := Aside0.mk (Kd.S_below X7.out hb)
  have n7_ := Aside0.mk (Kd.R_below X8.out hb)
  have hb_ := Aside0.mk (below_then HB.out HB.out.size hb)
  clear X1 X2 X3 X4 X5 X6 X7 X8
  have X1 := n0_
  have X2 := n1_
  have X3 := n2_
  have X4 := n3_
  have X5 := n4_
  have X6 := n5_
  have X7 := n6_
  have X8 := n7_
  clear n0_ n1_ n2_ n3_ n4_ n5_ n6_ n7_
  clear HB
  have HB := hb_
  clear hb_
  clear hb hS0
  obtain ⟨A9_, c9_, rfl⟩ := Kd.S_slice X9.out
  go_wp2_with fail
  (refine (laws_toIntS.calls K2 A1 c1 l1 l1 w18 (Kd.C_below HR1.out HB.out) HC1.out H2.out).mono ?_)
  rintro e w19 ⟨v0_, rfl, hS0, hb⟩
  have X10 : Aside0 (Kd.R (Kd.int .i64) 3 w19 w.heap.size (fun k => w18.heap.size ≤ k ∧ k < w19.heap.size) v0_ l1) := ⟨Kd.R_mono (Kd.R_lower (Kd.R_bound hS0) HB.out.size) (fun k hk => ⟨hk.2.1, hk.2.2.1⟩)⟩
  have Z19 : Aside0 (w18.heap.size ≤ w19.heap.size) := ⟨hb.size⟩
  have n0_ := Aside0.mk (Kd.S_below X1.out hb)
  have n1_ := Aside0.mk (Kd.R_below X2.out hb)
  have n2_ := Aside0.mk (Kd.R_below X3.out hb)
  have n3_ := Aside0.mk (Kd.S_below X4.out hb)
  have n4_ := Aside0.mk (Kd.R_below X5.out hb)
  have n5_ := Aside0.mk (Kd.R_below X6.out hb)
  have n6_ := Aside0.mk (Kd.S_below X7.out hb)
  have n7_ := Aside0.mk (Kd.R_below X8.out hb)
  have n8_ := Aside0.mk (Kd.S_below X9.out hb)
  have hb_ := Aside0.mk (below_then HB.out HB.out.size hb)
  clear X1 X2 X3 X4 X5 X6 X7 X8 X9
  have X1 := n0_
  have X2 := n1_
  have X3 := n2_
  have X4 := n3_
  have X5 := n4_
  have X6 := n5_
  have X7 := n6_
  have X8 := n7_
  have X9 := n8_
  clear n0_ n1_ n2_ n3_ n4_ n5_ n6_ n7_ n8_
  clear HB
  have HB := hb_
  clear hb_
  clear hb hS0
  obtain ⟨A10_, c10_, rfl⟩ := Kd.R_slice X10.out
  go_wp2_with fail
  (refine (impl_ClosedIn.calls K4 A9_ c9_ l0 A10_ c10_ l1 r2 r3 w19 (Kd.S_reads' X9.out).2.2 (Kd.S_reads' X9.out).2.1 (Kd.R_reads' X10.out).2.2 (Kd.R_reads' X10.out).2.1 H4.out).mono ?_)
  rintro e w20 ⟨v0_, rfl, hS0, hb⟩
  have X11 : Aside0 (Kd.R (Kd.int .i64) 3 w20 w.heap.size (fun k => w19.heap.size ≤ k ∧ k < w20.heap.size) v0_ r2) := ⟨Kd.R_mono (Kd.R_lower (Kd.R_bound hS0) HB.out.size) (fun k hk => ⟨hk.2.1, hk.2.2.1⟩)⟩
  have Z20 : Aside0 (w19.heap.size ≤ w20.heap.size) := ⟨hb.size⟩
  have n0_ := Aside0.mk (Kd.S_below X1.out hb)
  have n1_ := Aside0.mk (Kd.R_below X2.out hb)
  have n2_ := Aside0.mk (Kd.R_below X3.out hb)
  have n3_ := Aside0.mk (Kd.S_below X4.out hb)
  have n4_ := Aside0.mk (Kd.R_below X5.out hb)
  have n5_ := Aside0.mk (Kd.R_below X6.out hb)
  have n6_ := Aside0.mk (Kd.S_below X7.out hb)
  have n7_ := Aside0.mk (Kd.R_below X8.out hb)
  have n8_ := Aside0.mk (Kd.S_below X9.out hb)
  have n9_ := Aside0.mk (Kd.R_below X10.out hb)
  have hb_ := Aside0.mk (below_then HB.out HB.out.size hb)
  clear X1 X2 X3 X4 X5 X6 X7 X8 X9 X10
  have X1 := n0_
  have X2 := n1_
  have X3 := n2_
  have X4 := n3_
  have X5 := n4_
  have X6 := n5_
  have X7 := n6_
  have X8 := n7_
  have X9 := n8_
  have X10 := n9_
  clear n0_ n1_ n2_ n3_ n4_ n5_ n6_ n7_ n8_ n9_
  clear HB
  have HB := hb_
  clear hb_
  clear hb hS0
  obtain ⟨A11_, c11_, rfl⟩ := Kd.R_slice X11.out
  go_wp2_with fail
  (refine (laws_eqIntS.calls K5 A11_ c11_ r2 A3_ c3_ r2 true w20 (Kd.R_reads' X11.out).2.2 (Kd.R_reads' X11.out).2.1 (Kd.R_reads' X3.out).2.2 (Kd.R_reads' X3.out).2.1 H5.out).mono ?_)
  rintro e w21 ⟨rfl, hd⟩
  have hb := hd.below
  clear hd
  have Z21 : Aside0 (w20.heap.size ≤ w21.heap.size) := ⟨hb.size⟩
  have n0_ := Aside0.mk (Kd.S_below X1.out hb)
  have n1_ := Aside0.mk (Kd.R_below X2.out hb)
  have n2_ := Aside0.mk (Kd.R_below X3.out hb)
  have n3_ := Aside0.mk (Kd.S_below X4.out hb)
  have n4_ := Aside0.mk (Kd.R_below X5.out hb)
  have n5_ := Aside0.mk (Kd.R_below X6.out hb)
  have n6_ := Aside0.mk (Kd.S_below X7.out hb)
  have n7_ := Aside0.mk (Kd.R_below X8.out hb)
  have n8_ := Aside0.mk (Kd.S_below X9.out hb)
  have n9_ := Aside0.mk (Kd.R_below X10.out hb)
  have n10_ := Aside0.mk (Kd.R_below X11.out hb)
  have hb_ := Aside0.mk (below_then HB.out HB.out.size hb)
  clear X1 X2 X3 X4 X5 X6 X7 X8 X9 X10 X11
  have X1 := n0_
  have X2 := n1_
  have X3 := n2_
  have X4 := n3_
  have X5 := n4_
  have X6 := n5_
  have X7 := n6_
  have X8 := n7_
  have X9 := n8_
  have X10 := n9_
  have X11 := n10_
  clear n0_ n1_ n2_ n3_ n4_ n5_ n6_ n7_ n8_ n9_ n10_
  clear HB
  have HB := hb_
  clear hb_
  clear hb
  go_wp2_with fail
  have hc_ := laws_heldIntS.calls K11 A6_ c6_ rm6 1 m6 w21 (Kd.R_reads' X6.out).2.2 (Nat.le_trans (Nat.le_of_eq (Kd.R_reads' X6.out).1.symm) (Kd.R_reads' X6.out).2.1) H11.out
  rw [← (Kd.R_reads' X6.out).1] at hc_
  (refine (hc_).mono ?_)
  clear hc_
  rintro e w22 ⟨rfl, hd⟩
  have hb := hd.below
  clear hd
  have Z22 : Aside0 (w21.heap.size ≤ w22.heap.size) := ⟨hb.size⟩
  have n0_ := Aside0.mk (Kd.S_below X1.out hb)
  have n1_ := Aside0.mk (Kd.R_below X2.out hb)
  have n2_ := Aside0.mk (Kd.R_below X3.out hb)
  have n3_ := Aside0.mk (Kd.S_below X4.out hb)
  have n4_ := Aside0.mk (Kd.R_below X5.out hb)
  have n5_ := Aside0.mk (Kd.R_below X6.out hb)
  have n6_ := Aside0.mk (Kd.S_below X7.out hb)
  have n7_ := Aside0.mk (Kd.R_below X8.out hb)
  have n8_ := Aside0.mk (Kd.S_below X9.out hb)
  have n9_ := Aside0.mk (Kd.R_below X10.out hb)
  have n10_ := Aside0.mk (Kd.R_below X11.out hb)
  have hb_ := Aside0.mk (below_then HB.out HB.out.size hb)
  clear X1 X2 X3 X4 X5 X6 X7 X8 X9 X10 X11
  have X1 := n0_
  have X2 := n1_
  have X3 := n2_
  have X4 := n3_
  have X5 := n4_
  have X6 := n5_
  have X7 := n6_
  have X8 := n7_
  have X9 := n8_
  have X10 := n9_
  have X11 := n10_
  clear n0_ n1_ n2_ n3_ n4_ n5_ n6_ n7_ n8_ n9_ n10_
  clear HB
  have HB := hb_
  clear hb_
  clear hb
  go_wp2
  go_ret
  exact ⟨rfl, HB.out⟩

/-- THE ONE PURE STATEMENT of laws_FnExactClosedIn. -/
def laws_FnExactClosedIn.Pure : Prop := ∀ (l0 : List (List Int)) (l1 : List Int), (l0.length ≤ 9223372036854775807 ∧ ∀ y ∈ l0, (y.length ≤ 9223372036854775807 ∧ ∀ yy ∈ y, (Lit.int .i64 yy).wf = true)) → (l1.length ≤ 9223372036854775807 ∧ ∀ y ∈ l1, (Lit.int .i64 y).wf = true) → laws_FnExactClosedIn.Facts l0 l1

end Go.Proofs.Ytghblkjhecoaoaa.QFnExactClosedIn
