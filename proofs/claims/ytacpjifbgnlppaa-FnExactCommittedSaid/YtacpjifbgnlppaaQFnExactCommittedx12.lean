-- Written by a program of this session (wip/mk.py) over the kit's print: Lean checks it.
import Derived.Test.YtacpjifbgnlppaaQFnExactCommittedx0
import Derived.Test.YtacpjifbgnlppaaQFnExactCommittedx2
import Derived.Test.YtacpjifbgnlppaaQFnExactCommittedx3
import Derived.Test.YtacpjifbgnlppaaQFnExactCommittedx5
import Derived.Test.YtacpjifbgnlppaaQFnExactCommittedx8
import Derived.Test.YtacpjifbgnlppaaQFnExactCommittedx11
namespace Go.Proofs.Ytacpjifbgnlppaa.QFnExactCommitted
open Go.RowKit Go.Proofs.YtacpjifbgnlppaaW.PrintWords Go.Proofs.YtacpjifbgnlppaaW.PrintLast Go.Proofs.YtacpjifbgnlppaaW.PrintMore
attribute [local go_sem] max2_int min2_int max_two min_two max_three min_three max_four min_four   -- for this text's walks alone
set_option linter.unusedVariables false
set_option linter.unusedSimpArgs false

/-! ### laws_heldIntSS: function 22 -/
def laws_heldIntSS.l0 : Nat → List (List Int) → Int → Int → Option (Int)
  | 0, _, _, _ => none
  | k + 1, x0, x1, x5 => if x5 < (x0.length : Int) then (if 0 ≤ x5 then ((laws_heldIntS.f k (rd_L2 x0 x5) x1).bind fun t286 => (if t286 < 0 then (some (-1)) else (laws_heldIntSS.l0 k x0 t286 (wrap64 (x5 + 1))))) else (none)) else (some x1)
def laws_heldIntSS.f (k : Nat) (l0 : List (List Int)) (a1 : Int) : Option (Int) := laws_heldIntSS.l0 k l0 a1 0
theorem laws_heldIntSS.mono_l : ∀ k, (∀ y0 y1 y2, LeO (laws_heldIntSS.l0 k y0 y1 y2) (laws_heldIntSS.l0 (k + 1) y0 y1 y2))
  | 0 => fun _ _ _ r h => by simp [laws_heldIntSS.l0] at h
  | k + 1 => by
    have ih0 := laws_heldIntSS.mono_l k
    · intro y0 y1 y2
      unfold laws_heldIntSS.l0
      repeat' first
      | (with_reducible exact ih0 _ _ _)
      | (with_reducible exact laws_heldIntS.mono _ _ _)
      | (with_reducible exact LeO.refl _)
      | (with_reducible exact LeO.none _)
      | (with_reducible refine LeO.ite ?_ ?_)
      | (with_reducible refine LeO.bind ?_ (fun _ => ?_))
      | exact ih0 _ _ _
      | exact laws_heldIntS.mono _ _ _
      | exact LeO.none _
      | refine LeO.ite ?_ ?_
      | refine LeO.bind ?_ (fun _ => ?_)
theorem laws_heldIntSS.mono : ∀ a0 a1 k, LeO (laws_heldIntSS.f k a0 a1) (laws_heldIntSS.f (k + 1) a0 a1) := by
  intro a0 a1 k
  have ih0 := laws_heldIntSS.mono_l k
  unfold laws_heldIntSS.f
  repeat' first
      | (with_reducible exact ih0 _ _ _)
      | (with_reducible exact laws_heldIntS.mono _ _ _)
      | (with_reducible exact LeO.refl _)
      | (with_reducible exact LeO.none _)
      | (with_reducible refine LeO.ite ?_ ?_)
      | (with_reducible refine LeO.bind ?_ (fun _ => ?_))
      | exact ih0 _ _ _
      | exact laws_heldIntS.mono _ _ _
      | exact LeO.none _
      | refine LeO.ite ?_ ?_
      | refine LeO.bind ?_ (fun _ => ?_)
set_option maxHeartbeats 8000000 in
set_option maxRecDepth 100000 in
theorem laws_heldIntSS.calls (k : Nat) (A0 : Option Addr) (c0 : Nat) (l0 : List (List Int)) (a1 : Int) (r : Int) (w : World) (hr0 : Kd.C (Kd.slice 3 (Kd.int .i64)) w A0 l0.length l0) (hc0 : l0.length ≤ c0) (h : laws_heldIntSS.f k l0 a1 = some r) :
    Calls Try.prog 22 #[.slice A0 l0.length c0, .int .i64 a1] w fun e w' => e = .returned (.int .i64 r) ∧ Drawn0 w w' := by
  have HR0 := Aside0.mk hr0
  have HC0 := Aside0.mk hc0
  clear hr0 hc0
  have H : (laws_heldIntSS.l0 k l0 a1 0) = some r := h
  clear h
  have H' := Aside0.mk H
  clear H
  go_enter Try.func22, Try.ntmps22
  go_wp2
  go_loopg [1, 5] k (fun kq v1 v5 w' => ∃ (x1_1 : Int) (x5_1 : Int), v1 = .int .i64 x1_1 ∧ v5 = .int .i64 x5_1 ∧ Aside0 (laws_heldIntSS.l0 kq l0 x1_1 x5_1 = some r) ∧ Aside0 (kq ≤ k) ∧ Drawn0 w w')
  case atStart => exact ⟨(a1), (0), (by first | rfl | (simp; done) | (simp [*]; done)), (by first | rfl | (simp; done) | (simp [*]; done)), H', ⟨Nat.le_refl _⟩, by repeat (first | exact Drawn0.refl _ | apply Drawn0.step)⟩
  case round =>
    clear H'
    try clear c2
    try clear p2
    obtain ⟨x1_1, x5_1, rfl, rfl, HA, HK1, ⟨m1, rfl⟩⟩ := hrel
    cases gk with
    | zero => exact absurd HA.out (by simp [laws_heldIntSS.l0])
    | succ k1 =>
      have H := HA.out
      clear HA
      simp only [laws_heldIntSS.l0] at H
      by_cases c3 : x5_1 < (l0.length : Int)
      · rw [if_pos c3] at H
        have c3b0 : decide (x5_1 < (l0.length : Int)) = true := decide_eq_true c3
        clear c3
        by_cases c4 : 0 ≤ x5_1
        · rw [if_pos c4] at H
          have c4b0 : decide (0 ≤ x5_1) = true := decide_eq_true c4
          clear c4
          replace H := Option.bind_eq_some_iff.mp H
          obtain ⟨t286, A50, H⟩ := H
          replace H : (if t286 < 0 then (some (-1)) else (laws_heldIntSS.l0 k1 l0 t286 (wrap64 (x5_1 + 1)))) = some r := H
          have A5 := Aside0.mk A50
          clear A50
          by_cases c6 : t286 < 0
          · rw [if_pos c6] at H
            have c6b0 : decide (t286 < 0) = true := decide_eq_true c6
            clear c6
            obtain rfl := Option.some.inj H
            have p285 : 0 ≤ (x5_1 : Int) := of_decide_eq_true (by first | (with_reducible assumption) | assumption)
            have q285 : x5_1 < (l0.length : Int) := of_decide_eq_true (by first | (with_reducible assumption) | assumption)
            obtain ⟨ad285, A285_0, c285_0, e285, hx285_0, hl285_0, hi285_0⟩ := at_L2 HR0.out x5_1 p285 q285
            cases e285
            have HR285_0 := Aside0.mk hi285_0
            have HC285_0 := Aside0.mk hl285_0
            clear hi285_0 hl285_0
            replace p285 := eq_true p285
            replace q285 := eq_true q285
            go_wp2_with (first | ((with_reducible refine gate_callee (f := 57) rfl ?_); refine goesL_ (some 17) rfl rfl Try.func57 (by kernel_rfl) rfl #[.slice A285_0 (rd_L2 l0 x5_1).length c285_0, .int .i64 x1_1] rfl (by (try simp only [List.map_toArray, List.map_cons, List.map_nil]); first | done | rfl | (simp only [List.length_drop, List.length_take]; rfl)) ?_; (with_reducible refine (laws_heldIntS.calls k1 _ _ (rd_L2 l0 x5_1) x1_1 t286 _ ?side1 ?side2 A5.out).mono ?_); (case side1 => repeat (first | exact HR285_0.out | (with_reducible refine Kd.C_alloc ?_ _) | (with_reducible refine Kd.C_drewN ?_ _) | (with_reducible refine Kd.C_drew ?_))); (case side2 => exact HC285_0.out); rintro e w' ⟨rfl, ⟨nd, rfl⟩⟩; refine ⟨_, rfl, ?_⟩))
            go_ret
            exact ⟨by first | rfl | (simp; done) | (simp [*]; done), by repeat (first | exact Drawn0.refl _ | apply Drawn0.step)⟩
          · rw [if_neg c6] at H
            have c6b0 : decide (t286 < 0) = false := decide_eq_false c6
            clear c6
            have H' := Aside0.mk H
            clear H
            have p285 : 0 ≤ (x5_1 : Int) := of_decide_eq_true (by first | (with_reducible assumption) | assumption)
            have q285 : x5_1 < (l0.length : Int) := of_decide_eq_true (by first | (with_reducible assumption) | assumption)
            obtain ⟨ad285, A285_0, c285_0, e285, hx285_0, hl285_0, hi285_0⟩ := at_L2 HR0.out x5_1 p285 q285
            cases e285
            have HR285_0 := Aside0.mk hi285_0
            have HC285_0 := Aside0.mk hl285_0
            clear hi285_0 hl285_0
            replace p285 := eq_true p285
            replace q285 := eq_true q285
            go_wp2_with (first | ((with_reducible refine gate_callee (f := 57) rfl ?_); refine goesL_ (some 17) rfl rfl Try.func57 (by kernel_rfl) rfl #[.slice A285_0 (rd_L2 l0 x5_1).length c285_0, .int .i64 x1_1] rfl (by (try simp only [List.map_toArray, List.map_cons, List.map_nil]); first | done | rfl | (simp only [List.length_drop, List.length_take]; rfl)) ?_; (with_reducible refine (laws_heldIntS.calls k1 _ _ (rd_L2 l0 x5_1) x1_1 t286 _ ?side1 ?side2 A5.out).mono ?_); (case side1 => repeat (first | exact HR285_0.out | (with_reducible refine Kd.C_alloc ?_ _) | (with_reducible refine Kd.C_drewN ?_ _) | (with_reducible refine Kd.C_drew ?_))); (case side2 => exact HC285_0.out); rintro e w' ⟨rfl, ⟨nd, rfl⟩⟩; refine ⟨_, rfl, ?_⟩))
            go_roundg k1
            case measure => have := HK1.out; omega
            case rel => exact ⟨(t286), (wrap64 (x5_1 + 1)), (by first | rfl | (simp; done) | (simp [*]; done)), (by first | rfl | (simp; done) | (simp [*]; done)), H', ⟨by have := HK1.out; omega⟩, by repeat (first | exact Drawn0.refl _ | apply Drawn0.step)⟩
        · rw [if_neg c4] at H
          exact absurd H (by simp)
      · rw [if_neg c3] at H
        have c3b0 : decide (x5_1 < (l0.length : Int)) = false := decide_eq_false c3
        clear c3
        obtain rfl := Option.some.inj H
        go_wp2
        go_ret
        exact ⟨by first | rfl | (simp; done) | (simp [*]; done), by repeat (first | exact Drawn0.refl _ | apply Drawn0.step)⟩

/-! ### laws_FnExactCommitted: function 5 -/
section
open Go.RowKit
/-- A struct's variable is loaded whole. -/
theorem load_run {P : Program} {o : Oper} {a : Act} {W : World} {g : Nat} {cs : Array Value} {t : TypeId} (hg : W.heap[g]? = some (.cells cs t (0, 0))) (n : Nat) (hn : cs.size = n) (ty : TypeId) (x : Operand) (ho : o.op = .load ty x)
    (hx : a.eval x = .pointer (some ⟨g, 0, none⟩)) (d : TypeDesc) (hu : P.underlying ty = some d) (hd : (match d with | .struct _ | .array _ _ => true | _ => false) = true) (hi : (P.info? ty).map (·.size) = some n) :
    (execOp a.eval o).run P W = .ok (.value (.agg cs)) W := by
  subst hn
  unfold execOp
  simp only [ho, hx, Instr.loadAt, Instr.sureAddr, Sem.run_bind, Sem.run_pure, Result.andThen_ok, run_loadVar_row W g t ty cs (0, 0) d hg hu hd hi]

theorem store_run {P : Program} {o : Oper} {a : Act} {W : World} {g : Nat} {cs cs' : Array Value} {t : TypeId} (hg : W.heap[g]? = some (.cells cs t (0, 0))) (n : Nat) (hn : cs.size = n) (hn' : cs'.size = n) (ty : TypeId) (x y : Operand) (ho : o.op = .store ty x y)
    (hx : a.eval x = .pointer (some ⟨g, 0, none⟩)) (hy : a.eval y = .agg cs') (hi : (P.info? ty).map (·.size) = some n) (h1 : cs'.all (·.oneCell') = true) :
    (execOp a.eval o).run P W = .ok .skip (W.setRow g cs') := by
  unfold execOp
  simp only [ho, hx, hy, Instr.storeAt, Instr.sureAddr, Sem.run_bind, Sem.run_pure, Result.andThen_ok, run_storeVar_row W g t ty cs cs' hg (by rw [hn']; exact hi) (by rw [hn, hn']) h1]
theorem kept_setRow (W : World) (g : Nat) (cs : Array Value) : Kept W (W.setRow g cs) (fun k => k = g) := ⟨by simp, fun i _ hi => setRow_other W g i cs hi⟩
theorem below_setRow_ {B g : Nat} {w0 w : World} (hb : Below B w0 w) (hBg : B ≤ g) (cs : Array Value) : Below B w0 (w.setRow g cs) :=
  ⟨hb.os, hb.tape, hb.output, by simpa using hb.size, fun k hk => (setRow_other w g k cs (by omega)).trans (hb.block k hk)⟩
end
/-- What the law's calls answer. -/
def laws_FnExactCommitted.Facts (a0_0 : Int) (l0_1 : List (List (S125))) : Prop :=
  ∃ z1 : Int, (∃ K, laws_szTable.f K a0_0 l0_1 1048576 = some z1) ∧ (z1 < 0 ∨ (0 ≤ z1 ∧ ∃ r2 : Int, ∃ r3 : List (List (S72)), (∃ K, laws_toTable.f K a0_0 l0_1 = some (r2, r3)) ∧ ∃ r4 : List (List Int), ∃ r5 : Bool, (∃ K, spec_Committed.f K r2 r3 = some (r4, r5)) ∧ (∃ K, impl_Committed.f K r2 r3 = some (r4, r5)) ∧ (∃ K, laws_eqIntSS.f K r4 r4 = some true) ∧ (∃ K, laws_eqTable.f K r2 r3 r2 r3 = some true) ∧ ∃ m6 : Int, (0 ≤ m6 ∧ laws_markTable.f r2 r3 1 = some m6) ∧ ∃ m7 : Int, ∃ rm7 : List (List Int), (∃ K, 0 ≤ m7 ∧ laws_markIntSS.f K r4 1 = some (m7, rm7)) ∧ (∃ K, laws_heldIntSS.f K rm7 1 = some m7) ∧ True))
set_option maxHeartbeats 8000000 in
set_option maxRecDepth 100000 in
theorem laws_FnExactCommitted.calls (a0_0 : Int) (A0_1 : Option Addr) (c0_1 : Nat) (l0_1 : List (List (S125))) (w : World) (hr0_1 : Kd.C (Kd.slice 125 k125) w A0_1 l0_1.length l0_1) (hc0_1 : l0_1.length ≤ c0_1) (h : laws_FnExactCommitted.Facts a0_0 l0_1) :
    Calls Try.prog 5 #[.agg #[.int .i64 a0_0, .slice A0_1 l0_1.length c0_1]] w fun e w' => e = .returned (.bool true) ∧ Below w.heap.size w w' := by
  unfold laws_FnExactCommitted.Facts at h
  have HR0_1 := Aside0.mk hr0_1
  have HC0_1 := Aside0.mk hc0_1
  clear hr0_1 hc0_1
  have HF := Aside0.mk h
  clear h
  have HB := Aside0.mk (Below.refl w.heap.size w)
  obtain ⟨z1, ⟨Kz1, hs⟩, hF⟩ := HF.out
  clear HF
  have HF := Aside0.mk hF
  clear hF
  have HSz1 := Aside0.mk hs
  clear hs
  go_enter Try.func5, Try.ntmps5
  go_upto_region 2 with (fail)
  refine letC (fun W_ => Below w.heap.size w W_ ∧ W_.heap[w.heap.size]? = some (.cells #[.int .i64 a0_0, .slice A0_1 l0_1.length c0_1] 24 (0, 0))) ?_ ?_
  · refine ⟨?_, ?_⟩
    · repeat (first | exact Below.refl _ _ | apply below_alloc | refine below_set ?_ (by first | exact Nat.le_refl _ | omega | (simp; done)))
    · simpa using blk_new w (.cells #[.int .i64 a0_0, .slice A0_1 l0_1.length c0_1] 24)
  intro w1 hq_
  obtain ⟨hb, hx0_⟩ := hq_
  have Z1 : Aside0 (w.heap.size ≤ w1.heap.size) := ⟨hb.size⟩
  have hb_ := Aside0.mk (below_then HB.out HB.out.size hb)
  clear HB
  have HB := hb_
  clear hb_
  clear hb
  have BX1 : Aside0 (w1.heap[w.heap.size]? = some (.cells #[.int .i64 a0_0, .slice A0_1 l0_1.length c0_1] 24 (0, 0))) := ⟨hx0_⟩
  clear hx0_
  have GBX1 : Aside0 (w.heap.size < w1.heap.size) := ⟨blk_lt BX1.out⟩
  go_wp2_with (first | ((with_reducible refine gate_dst (N := 14) rfl ?_); first | refine Kd.event_run rfl (load_run BX1.out 2 rfl 24 _ (by rfl) (by rfl) _ Try.underlying24 rfl (by kernel_rfl)) ?_) | ((with_reducible refine gate_dst (N := 20) rfl ?_); first | refine Kd.event_run rfl (load_run BX1.out 2 rfl 24 _ (by rfl) (by rfl) _ Try.underlying24 rfl (by kernel_rfl)) ?_) | ((with_reducible refine gate_dst (N := 25) rfl ?_); first | refine Kd.event_run rfl (load_run BX1.out 2 rfl 24 _ (by rfl) (by rfl) _ Try.underlying24 rfl (by kernel_rfl)) ?_) | ((with_reducible refine gate_dst (N := 28) rfl ?_); first | refine Kd.event_run rfl (load_run BX1.out 2 rfl 24 _ (by rfl) (by rfl) _ Try.underlying24 rfl (by kernel_rfl)) ?_) | ((with_reducible refine gate_dst (N := 41) rfl ?_); first | refine Kd.event_run rfl (load_run BX1.out 2 rfl 24 _ (by rfl) (by rfl) _ Try.underlying24 rfl (by kernel_rfl)) ?_) | ((with_reducible refine gate_dst (N := 42) rfl ?_); first | refine Kd.event_run rfl (load_run BX1.out 2 rfl 24 _ (by rfl) (by rfl) _ Try.underlying24 rfl (by kernel_rfl)) ?_) | ((with_reducible refine gate_dst (N := 46) rfl ?_); first | refine Kd.event_run rfl (load_run BX1.out 2 rfl 24 _ (by rfl) (by rfl) _ Try.underlying24 rfl (by kernel_rfl)) ?_) | ((with_reducible refine gate_dst (N := 74) rfl ?_); first | refine Kd.event_run rfl (load_run BX1.out 2 rfl 24 _ (by rfl) (by rfl) _ Try.underlying24 rfl (by kernel_rfl)) ?_))
  (refine (laws_szTable.calls Kz1 a0_0 A0_1 c0_1 l0_1 1048576 z1 w1 (Kd.C_below HR0_1.out HB.out) HC0_1.out HSz1.out).mono ?_)
  rintro e w2 ⟨rfl, hb⟩
  have Z2 : Aside0 (w1.heap.size ≤ w2.heap.size) := ⟨hb.size⟩
  have n0_ := Aside0.mk (blk_below BX1.out hb)
  have hb_ := Aside0.mk (below_then HB.out HB.out.size hb)
  clear BX1
  have BX1 := n0_
  clear n0_
  clear HB
  have HB := hb_
  clear hb_
  clear hb
  rcases HF.out with hneg | ⟨hpos, hF⟩
  · clear HF
    go_wp2
    go_ret
    exact ⟨rfl, HB.out⟩
  clear HF
  have HF := Aside0.mk hF
  clear hF
  obtain ⟨r2, r3, ⟨K1, h1⟩, hF⟩ := HF.out
  clear HF
  have HF := Aside0.mk hF
  clear hF
  have H1 := Aside0.mk h1
  clear h1
  go_wp2_with (first | ((with_reducible refine gate_dst (N := 14) rfl ?_); first | refine Kd.event_run rfl (load_run BX1.out 2 rfl 24 _ (by rfl) (by rfl) _ Try.underlying24 rfl (by kernel_rfl)) ?_) | ((with_reducible refine gate_dst (N := 20) rfl ?_); first | refine Kd.event_run rfl (load_run BX1.out 2 rfl 24 _ (by rfl) (by rfl) _ Try.underlying24 rfl (by kernel_rfl)) ?_) | ((with_reducible refine gate_dst (N := 25) rfl ?_); first | refine Kd.event_run rfl (load_run BX1.out 2 rfl 24 _ (by rfl) (by rfl) _ Try.underlying24 rfl (by kernel_rfl)) ?_) | ((with_reducible refine gate_dst (N := 28) rfl ?_); first | refine Kd.event_run rfl (load_run BX1.out 2 rfl 24 _ (by rfl) (by rfl) _ Try.underlying24 rfl (by kernel_rfl)) ?_) | ((with_reducible refine gate_dst (N := 41) rfl ?_); first | refine Kd.event_run rfl (load_run BX1.out 2 rfl 24 _ (by rfl) (by rfl) _ Try.underlying24 rfl (by kernel_rfl)) ?_) | ((with_reducible refine gate_dst (N := 42) rfl ?_); first | refine Kd.event_run rfl (load_run BX1.out 2 rfl 24 _ (by rfl) (by rfl) _ Try.underlying24 rfl (by kernel_rfl)) ?_) | ((with_reducible refine gate_dst (N := 46) rfl ?_); first | refine Kd.event_run rfl (load_run BX1.out 2 rfl 24 _ (by rfl) (by rfl) _ Try.underlying24 rfl (by kernel_rfl)) ?_) | ((with_reducible refine gate_dst (N := 74) rfl ?_); first | refine Kd.event_run rfl (load_run BX1.out 2 rfl 24 _ (by rfl) (by rfl) _ Try.underlying24 rfl (by kernel_rfl)) ?_))
  (refine (laws_toTable.calls K1 a0_0 A0_1 c0_1 l0_1 r2 r3 w2 (Kd.C_below HR0_1.out HB.out) HC0_1.out H1.out).mono ?_)
  rintro e w3 ⟨v1_, rfl, hS0, hb⟩
  have X1 : Aside0 (Kd.R (Kd.slice 72 k72) 70 w3 w.heap.size (fun k => w2.heap.size ≤ k ∧ k < w3.heap.size) v1_ r3) := ⟨Kd.R_mono (Kd.R_lower (Kd.R_bound hS0) HB.out.size) (fun k hk => ⟨hk.2.1, hk.2.2.1⟩)⟩
  have Z3 : Aside0 (w2.heap.size ≤ w3.heap.size) := ⟨hb.size⟩
  have n0_ := Aside0.mk (blk_below BX1.out hb)
  have hb_ := Aside0.mk (below_then HB.out HB.out.size hb)
  clear BX1
  have BX1 := n0_
  clear n0_
  clear HB
  have HB := hb_
  clear hb_
  clear hb hS0
  obtain ⟨A1_, c1_, rfl⟩ := Kd.R_slice X1.out
  obtain ⟨r4, r5, ⟨K2, h2⟩, hF⟩ := HF.out
  clear HF
  have HF := Aside0.mk hF
  clear hF
  have H2 := Aside0.mk h2
  clear h2
  go_wp2_with (first | ((with_reducible refine gate_dst (N := 14) rfl ?_); first | refine Kd.event_run rfl (load_run BX1.out 2 rfl 24 _ (by rfl) (by rfl) _ Try.underlying24 rfl (by kernel_rfl)) ?_) | ((with_reducible refine gate_dst (N := 20) rfl ?_); first | refine Kd.event_run rfl (load_run BX1.out 2 rfl 24 _ (by rfl) (by rfl) _ Try.underlying24 rfl (by kernel_rfl)) ?_) | ((with_reducible refine gate_dst (N := 25) rfl ?_); first | refine Kd.event_run rfl (load_run BX1.out 2 rfl 24 _ (by rfl) (by rfl) _ Try.underlying24 rfl (by kernel_rfl)) ?_) | ((with_reducible refine gate_dst (N := 28) rfl ?_); first | refine Kd.event_run rfl (load_run BX1.out 2 rfl 24 _ (by rfl) (by rfl) _ Try.underlying24 rfl (by kernel_rfl)) ?_) | ((with_reducible refine gate_dst (N := 41) rfl ?_); first | refine Kd.event_run rfl (load_run BX1.out 2 rfl 24 _ (by rfl) (by rfl) _ Try.underlying24 rfl (by kernel_rfl)) ?_) | ((with_reducible refine gate_dst (N := 42) rfl ?_); first | refine Kd.event_run rfl (load_run BX1.out 2 rfl 24 _ (by rfl) (by rfl) _ Try.underlying24 rfl (by kernel_rfl)) ?_) | ((with_reducible refine gate_dst (N := 46) rfl ?_); first | refine Kd.event_run rfl (load_run BX1.out 2 rfl 24 _ (by rfl) (by rfl) _ Try.underlying24 rfl (by kernel_rfl)) ?_) | ((with_reducible refine gate_dst (N := 74) rfl ?_); first | refine Kd.event_run rfl (load_run BX1.out 2 rfl 24 _ (by rfl) (by rfl) _ Try.underlying24 rfl (by kernel_rfl)) ?_))
  (refine (spec_Committed.calls K2 r2 A1_ c1_ r3 r4 r5 w3 (Kd.R_reads' X1.out).2.2 (Kd.R_reads' X1.out).2.1 H2.out).mono ?_)
  rintro e w4 ⟨v0_, rfl, hS0, hb⟩
  have X2 : Aside0 (Kd.S (Kd.slice 3 (Kd.int .i64)) 44 w4 w.heap.size (fun k => w3.heap.size ≤ k ∧ k < w4.heap.size) v0_ r4) := ⟨Kd.S_mono (Kd.S_lower (Kd.S_bound hS0) HB.out.size) (fun k hk => ⟨hk.2.1, hk.2.2.1⟩)⟩
  have Z4 : Aside0 (w3.heap.size ≤ w4.heap.size) := ⟨hb.size⟩
  have n0_ := Aside0.mk (Kd.R_below X1.out hb)
  have n1_ := Aside0.mk (blk_below BX1.out hb)
  have hb_ := Aside0.mk (below_then HB.out HB.out.size hb)
  clear X1 BX1
  have X1 := n0_
  have BX1 := n1_
  clear n0_ n1_
  clear HB
  have HB := hb_
  clear hb_
  clear hb hS0
  obtain ⟨A2_, c2_, rfl⟩ := Kd.S_slice X2.out
  go_wp2_with (first | ((with_reducible refine gate_dst (N := 14) rfl ?_); first | refine Kd.event_run rfl (load_run BX1.out 2 rfl 24 _ (by rfl) (by rfl) _ Try.underlying24 rfl (by kernel_rfl)) ?_) | ((with_reducible refine gate_dst (N := 20) rfl ?_); first | refine Kd.event_run rfl (load_run BX1.out 2 rfl 24 _ (by rfl) (by rfl) _ Try.underlying24 rfl (by kernel_rfl)) ?_) | ((with_reducible refine gate_dst (N := 25) rfl ?_); first | refine Kd.event_run rfl (load_run BX1.out 2 rfl 24 _ (by rfl) (by rfl) _ Try.underlying24 rfl (by kernel_rfl)) ?_) | ((with_reducible refine gate_dst (N := 28) rfl ?_); first | refine Kd.event_run rfl (load_run BX1.out 2 rfl 24 _ (by rfl) (by rfl) _ Try.underlying24 rfl (by kernel_rfl)) ?_) | ((with_reducible refine gate_dst (N := 41) rfl ?_); first | refine Kd.event_run rfl (load_run BX1.out 2 rfl 24 _ (by rfl) (by rfl) _ Try.underlying24 rfl (by kernel_rfl)) ?_) | ((with_reducible refine gate_dst (N := 42) rfl ?_); first | refine Kd.event_run rfl (load_run BX1.out 2 rfl 24 _ (by rfl) (by rfl) _ Try.underlying24 rfl (by kernel_rfl)) ?_) | ((with_reducible refine gate_dst (N := 46) rfl ?_); first | refine Kd.event_run rfl (load_run BX1.out 2 rfl 24 _ (by rfl) (by rfl) _ Try.underlying24 rfl (by kernel_rfl)) ?_) | ((with_reducible refine gate_dst (N := 74) rfl ?_); first | refine Kd.event_run rfl (load_run BX1.out 2 rfl 24 _ (by rfl) (by rfl) _ Try.underlying24 rfl (by kernel_rfl)) ?_))
  (refine (laws_toTable.calls K1 a0_0 A0_1 c0_1 l0_1 r2 r3 w4 (Kd.C_below HR0_1.out HB.out) HC0_1.out H1.out).mono ?_)
  rintro e w5 ⟨v1_, rfl, hS0, hb⟩
  have X3 : Aside0 (Kd.R (Kd.slice 72 k72) 70 w5 w.heap.size (fun k => w4.heap.size ≤ k ∧ k < w5.heap.size) v1_ r3) := ⟨Kd.R_mono (Kd.R_lower (Kd.R_bound hS0) HB.out.size) (fun k hk => ⟨hk.2.1, hk.2.2.1⟩)⟩
  have Z5 : Aside0 (w4.heap.size ≤ w5.heap.size) := ⟨hb.size⟩
  have n0_ := Aside0.mk (Kd.R_below X1.out hb)
  have n1_ := Aside0.mk (Kd.S_below X2.out hb)
  have n2_ := Aside0.mk (blk_below BX1.out hb)
  have hb_ := Aside0.mk (below_then HB.out HB.out.size hb)
  clear X1 X2 BX1
  have X1 := n0_
  have X2 := n1_
  have BX1 := n2_
  clear n0_ n1_ n2_
  clear HB
  have HB := hb_
  clear hb_
  clear hb hS0
  obtain ⟨A3_, c3_, rfl⟩ := Kd.R_slice X3.out
  obtain ⟨⟨K3, h3⟩, hF⟩ := HF.out
  clear HF
  have HF := Aside0.mk hF
  clear hF
  have H3 := Aside0.mk h3
  clear h3
  go_upto_region 7 with (fail)
  refine letC (fun W_ => Below w5.heap.size w5 W_ ∧ W_.heap[w5.heap.size]? = some (.cells #[.int .i64 r2, .slice A3_ r3.length c3_] 29 (0, 0))) ?_ ?_
  · refine ⟨?_, ?_⟩
    · repeat (first | exact Below.refl _ _ | apply below_alloc | refine below_set ?_ (by first | exact Nat.le_refl _ | omega | (simp; done)))
    · exact blk_new w5 (.cells #[.int .i64 r2, .slice A3_ r3.length c3_] 29)
  intro w6 hq_
  obtain ⟨hb, hx0_⟩ := hq_
  have Z6 : Aside0 (w5.heap.size ≤ w6.heap.size) := ⟨hb.size⟩
  have n0_ := Aside0.mk (Kd.R_below X1.out hb)
  have n1_ := Aside0.mk (Kd.S_below X2.out hb)
  have n2_ := Aside0.mk (Kd.R_below X3.out hb)
  have n3_ := Aside0.mk (blk_below BX1.out hb)
  have hb_ := Aside0.mk (below_then HB.out HB.out.size hb)
  clear X1 X2 X3 BX1
  have X1 := n0_
  have X2 := n1_
  have X3 := n2_
  have BX1 := n3_
  clear n0_ n1_ n2_ n3_
  clear HB
  have HB := hb_
  clear hb_
  clear hb
  have BX2 : Aside0 (w6.heap[w5.heap.size]? = some (.cells #[.int .i64 r2, .slice A3_ r3.length c3_] 29 (0, 0))) := ⟨hx0_⟩
  clear hx0_
  have GBX2 : Aside0 (w5.heap.size < w6.heap.size) := ⟨blk_lt BX2.out⟩
  go_wp2_with (first | ((with_reducible refine gate_dst (N := 14) rfl ?_); first | refine Kd.event_run rfl (load_run BX2.out 2 rfl 29 _ (by rfl) (by rfl) _ Try.underlying29 rfl (by kernel_rfl)) ?_) | ((with_reducible refine gate_dst (N := 20) rfl ?_); first | refine Kd.event_run rfl (load_run BX2.out 2 rfl 29 _ (by rfl) (by rfl) _ Try.underlying29 rfl (by kernel_rfl)) ?_) | ((with_reducible refine gate_dst (N := 25) rfl ?_); first | refine Kd.event_run rfl (load_run BX2.out 2 rfl 29 _ (by rfl) (by rfl) _ Try.underlying29 rfl (by kernel_rfl)) ?_) | ((with_reducible refine gate_dst (N := 28) rfl ?_); first | refine Kd.event_run rfl (load_run BX2.out 2 rfl 29 _ (by rfl) (by rfl) _ Try.underlying29 rfl (by kernel_rfl)) ?_) | ((with_reducible refine gate_dst (N := 41) rfl ?_); first | refine Kd.event_run rfl (load_run BX2.out 2 rfl 29 _ (by rfl) (by rfl) _ Try.underlying29 rfl (by kernel_rfl)) ?_) | ((with_reducible refine gate_dst (N := 42) rfl ?_); first | refine Kd.event_run rfl (load_run BX2.out 2 rfl 29 _ (by rfl) (by rfl) _ Try.underlying29 rfl (by kernel_rfl)) ?_) | ((with_reducible refine gate_dst (N := 46) rfl ?_); first | refine Kd.event_run rfl (load_run BX2.out 2 rfl 29 _ (by rfl) (by rfl) _ Try.underlying29 rfl (by kernel_rfl)) ?_) | ((with_reducible refine gate_dst (N := 74) rfl ?_); first | refine Kd.event_run rfl (load_run BX2.out 2 rfl 29 _ (by rfl) (by rfl) _ Try.underlying29 rfl (by kernel_rfl)) ?_))
  (refine (impl_Committed.calls K3 r2 A3_ c3_ r3 r4 r5 w6 (Kd.R_reads' X3.out).2.2 (Kd.R_reads' X3.out).2.1 H3.out).mono ?_)
  rintro e w7 ⟨v0_, rfl, hS0, hb⟩
  have X4 : Aside0 (Kd.S (Kd.slice 3 (Kd.int .i64)) 44 w7 w.heap.size (fun k => w6.heap.size ≤ k ∧ k < w7.heap.size) v0_ r4) := ⟨Kd.S_mono (Kd.S_lower (Kd.S_bound hS0) HB.out.size) (fun k hk => ⟨hk.2.1, hk.2.2.1⟩)⟩
  have Z7 : Aside0 (w6.heap.size ≤ w7.heap.size) := ⟨hb.size⟩
  have n0_ := Aside0.mk (Kd.R_below X1.out hb)
  have n1_ := Aside0.mk (Kd.S_below X2.out hb)
  have n2_ := Aside0.mk (Kd.R_below X3.out hb)
  have n3_ := Aside0.mk (blk_below BX1.out hb)
  have n4_ := Aside0.mk (blk_below BX2.out hb)
  have hb_ := Aside0.mk (below_then HB.out HB.out.size hb)
  clear X1 X2 X3 BX1 BX2
  have X1 := n0_
  have X2 := n1_
  have X3 := n2_
  have BX1 := n3_
  have BX2 := n4_
  clear n0_ n1_ n2_ n3_ n4_
  clear HB
  have HB := hb_
  clear hb_
  clear hb hS0
  obtain ⟨A4_, c4_, rfl⟩ := Kd.S_slice X4.out
  obtain ⟨⟨K4, h4⟩, hF⟩ := HF.out
  clear HF
  have HF := Aside0.mk hF
  clear hF
  have H4 := Aside0.mk h4
  clear h4
  go_wp2_with fail
  (refine (laws_eqIntSS.calls K4 A4_ c4_ r4 A2_ c2_ r4 true w7 (Kd.S_reads' X4.out).2.2 (Kd.S_reads' X4.out).2.1 (Kd.S_reads' X2.out).2.2 (Kd.S_reads' X2.out).2.1 H4.out).mono ?_)
  rintro e w8 ⟨rfl, hd⟩
  have hb := hd.below
  clear hd
  have Z8 : Aside0 (w7.heap.size ≤ w8.heap.size) := ⟨hb.size⟩
  have n0_ := Aside0.mk (Kd.R_below X1.out hb)
  have n1_ := Aside0.mk (Kd.S_below X2.out hb)
  have n2_ := Aside0.mk (Kd.R_below X3.out hb)
  have n3_ := Aside0.mk (Kd.S_below X4.out hb)
  have n4_ := Aside0.mk (blk_below BX1.out hb)
  have n5_ := Aside0.mk (blk_below BX2.out hb)
  have hb_ := Aside0.mk (below_then HB.out HB.out.size hb)
  clear X1 X2 X3 X4 BX1 BX2
  have X1 := n0_
  have X2 := n1_
  have X3 := n2_
  have X4 := n3_
  have BX1 := n4_
  have BX2 := n5_
  clear n0_ n1_ n2_ n3_ n4_ n5_
  clear HB
  have HB := hb_
  clear hb_
  clear hb
  go_wp2_with (first | ((with_reducible refine gate_dst (N := 14) rfl ?_); first | refine Kd.event_run rfl (load_run BX1.out 2 rfl 24 _ (by rfl) (by rfl) _ Try.underlying24 rfl (by kernel_rfl)) ?_ | refine Kd.event_run rfl (load_run BX2.out 2 rfl 29 _ (by rfl) (by rfl) _ Try.underlying29 rfl (by kernel_rfl)) ?_) | ((with_reducible refine gate_dst (N := 20) rfl ?_); first | refine Kd.event_run rfl (load_run BX1.out 2 rfl 24 _ (by rfl) (by rfl) _ Try.underlying24 rfl (by kernel_rfl)) ?_ | refine Kd.event_run rfl (load_run BX2.out 2 rfl 29 _ (by rfl) (by rfl) _ Try.underlying29 rfl (by kernel_rfl)) ?_) | ((with_reducible refine gate_dst (N := 25) rfl ?_); first | refine Kd.event_run rfl (load_run BX1.out 2 rfl 24 _ (by rfl) (by rfl) _ Try.underlying24 rfl (by kernel_rfl)) ?_ | refine Kd.event_run rfl (load_run BX2.out 2 rfl 29 _ (by rfl) (by rfl) _ Try.underlying29 rfl (by kernel_rfl)) ?_) | ((with_reducible refine gate_dst (N := 28) rfl ?_); first | refine Kd.event_run rfl (load_run BX1.out 2 rfl 24 _ (by rfl) (by rfl) _ Try.underlying24 rfl (by kernel_rfl)) ?_ | refine Kd.event_run rfl (load_run BX2.out 2 rfl 29 _ (by rfl) (by rfl) _ Try.underlying29 rfl (by kernel_rfl)) ?_) | ((with_reducible refine gate_dst (N := 41) rfl ?_); first | refine Kd.event_run rfl (load_run BX1.out 2 rfl 24 _ (by rfl) (by rfl) _ Try.underlying24 rfl (by kernel_rfl)) ?_ | refine Kd.event_run rfl (load_run BX2.out 2 rfl 29 _ (by rfl) (by rfl) _ Try.underlying29 rfl (by kernel_rfl)) ?_) | ((with_reducible refine gate_dst (N := 42) rfl ?_); first | refine Kd.event_run rfl (load_run BX1.out 2 rfl 24 _ (by rfl) (by rfl) _ Try.underlying24 rfl (by kernel_rfl)) ?_ | refine Kd.event_run rfl (load_run BX2.out 2 rfl 29 _ (by rfl) (by rfl) _ Try.underlying29 rfl (by kernel_rfl)) ?_) | ((with_reducible refine gate_dst (N := 46) rfl ?_); first | refine Kd.event_run rfl (load_run BX1.out 2 rfl 24 _ (by rfl) (by rfl) _ Try.underlying24 rfl (by kernel_rfl)) ?_ | refine Kd.event_run rfl (load_run BX2.out 2 rfl 29 _ (by rfl) (by rfl) _ Try.underlying29 rfl (by kernel_rfl)) ?_) | ((with_reducible refine gate_dst (N := 74) rfl ?_); first | refine Kd.event_run rfl (load_run BX1.out 2 rfl 24 _ (by rfl) (by rfl) _ Try.underlying24 rfl (by kernel_rfl)) ?_ | refine Kd.event_run rfl (load_run BX2.out 2 rfl 29 _ (by rfl) (by rfl) _ Try.underlying29 rfl (by kernel_rfl)) ?_))
  refine start_ (n := 5) (S := fun w' => w'.heap[w.heap.size]? = some (.cells #[.int .i64 a0_0, .slice A0_1 l0_1.length c0_1] 24 (0, 0)) ∧ w'.heap[w5.heap.size]? = some (.cells #[.int .i64 r2, .slice A3_ r3.length c3_] 29 (0, 0))) (ds := []) #[false, false, false, false, false] (by kernel_rfl) rfl rfl ⟨BX1.out, BX2.out⟩ (fun hHeld => ?_)
  have hb : Below w8.heap.size w8 w8.drew := below_drew (Below.refl _ _)
  generalize w8.drew = w9 at hb hHeld ⊢
  have Z9 : Aside0 (w8.heap.size ≤ w9.heap.size) := ⟨hb.size⟩
  have n0_ := Aside0.mk (Kd.R_below X1.out hb)
  have n1_ := Aside0.mk (Kd.S_below X2.out hb)
  have n2_ := Aside0.mk (Kd.R_below X3.out hb)
  have n3_ := Aside0.mk (Kd.S_below X4.out hb)
  have n4_ := Aside0.mk (blk_below BX1.out hb)
  have n5_ := Aside0.mk (blk_below BX2.out hb)
  have hb_ := Aside0.mk (below_then HB.out HB.out.size hb)
  clear X1 X2 X3 X4 BX1 BX2
  have X1 := n0_
  have X2 := n1_
  have X3 := n2_
  have X4 := n3_
  have BX1 := n4_
  have BX2 := n5_
  clear n0_ n1_ n2_ n3_ n4_ n5_
  clear HB
  have HB := hb_
  clear hb_
  clear hb
  refine take_ (i := 0) (N := some 41) (v := ?_) (a' := ?_) #[true, false, false, false, false] rfl rfl (by kernel_rfl) (fun _ _ _ h => h) (Or.inl ⟨by rfl, ?_⟩) hHeld ?_ ?_
  rotate_left
  · rintro w' ⟨s0, s1⟩
    first | (refine Eq.trans (load_run s0 2 rfl 24 _ (by rfl) (by rfl) _ Try.underlying24 rfl (by kernel_rfl)) ?_; with_reducible rfl) | (refine Eq.trans (load_run s1 2 rfl 29 _ (by rfl) (by rfl) _ Try.underlying29 rfl (by kernel_rfl)) ?_; with_reducible rfl)
  rotate_left
  · simp only [Act.put, List.setIfInBounds_toArray, List.set_cons_zero, List.set_cons_succ, i64_w, i32_w]
    rfl
  refine take_ (i := 1) (N := some 42) (v := ?_) (a' := ?_) #[true, true, false, false, false] rfl rfl (by kernel_rfl) (fun _ _ _ h => h) (Or.inl ⟨by rfl, ?_⟩) hHeld ?_ ?_
  rotate_left
  · rintro w' ⟨s0, s1⟩
    first | (refine Eq.trans (load_run s0 2 rfl 24 _ (by rfl) (by rfl) _ Try.underlying24 rfl (by kernel_rfl)) ?_; with_reducible rfl) | (refine Eq.trans (load_run s1 2 rfl 29 _ (by rfl) (by rfl) _ Try.underlying29 rfl (by kernel_rfl)) ?_; with_reducible rfl)
  rotate_left
  · simp only [Act.put, List.setIfInBounds_toArray, List.set_cons_zero, List.set_cons_succ, i64_w, i32_w]
    rfl
  refine one_ (i := 2) (N := some 43) #[true, true, true, false, false] rfl rfl (by kernel_rfl) (by decide) (fun K hK => ?_)
  refine goes_ Try.func11 (by kernel_rfl) rfl #[.agg #[.int .i64 a0_0, .slice A0_1 l0_1.length c0_1]] (by rfl) rfl rfl (by (try simp only [List.map_toArray, List.map_cons, List.map_nil]); first | done | rfl) ?_
  (refine (laws_toTable.calls K1 a0_0 A0_1 c0_1 l0_1 r2 r3 w9 (Kd.C_below HR0_1.out HB.out) HC0_1.out H1.out).mono ?_)
  rintro e w10 ⟨v1_, rfl, hS0, hb⟩
  refine ⟨_, rfl, ?_⟩
  have X5 : Aside0 (Kd.R (Kd.slice 72 k72) 70 w10 w.heap.size (fun k => w9.heap.size ≤ k ∧ k < w10.heap.size) v1_ r3) := ⟨Kd.R_mono (Kd.R_lower (Kd.R_bound hS0) HB.out.size) (fun k hk => ⟨hk.2.1, hk.2.2.1⟩)⟩
  have Z10 : Aside0 (w9.heap.size ≤ w10.heap.size) := ⟨hb.size⟩
  have n0_ := Aside0.mk (Kd.R_below X1.out hb)
  have n1_ := Aside0.mk (Kd.S_below X2.out hb)
  have n2_ := Aside0.mk (Kd.R_below X3.out hb)
  have n3_ := Aside0.mk (Kd.S_below X4.out hb)
  have n4_ := Aside0.mk (blk_below BX1.out hb)
  have n5_ := Aside0.mk (blk_below BX2.out hb)
  have hb_ := Aside0.mk (below_then HB.out HB.out.size hb)
  clear X1 X2 X3 X4 BX1 BX2
  have X1 := n0_
  have X2 := n1_
  have X3 := n2_
  have X4 := n3_
  have BX1 := n4_
  have BX2 := n5_
  clear n0_ n1_ n2_ n3_ n4_ n5_
  clear HB
  have HB := hb_
  clear hb_
  clear hb hS0
  obtain ⟨A5_, c5_, rfl⟩ := Kd.R_slice X5.out
  refine hK.out _ _ ⟨BX1.out, BX2.out⟩ (fun hHeld => ?_)
  clear hK K
  refine norm_ (a' := ?_) ?_ ?_
  rotate_left
  · show Act.put _ (some 43) _ = _
    simp only [Act.put, List.setIfInBounds_toArray, List.set_cons_zero, List.set_cons_succ, i64_w, i32_w]
    rfl
  obtain ⟨⟨K5, h5⟩, hF⟩ := HF.out
  clear HF
  have HF := Aside0.mk hF
  clear hF
  have H5 := Aside0.mk h5
  clear h5
  refine one_ (i := 3) (N := some 44) #[true, true, true, true, false] rfl rfl (by kernel_rfl) (by decide) (fun K hK => ?_)
  refine goes_ Try.func13 (by kernel_rfl) rfl #[.agg #[.int .i64 r2, .slice A3_ r3.length c3_], .agg #[.int .i64 r2, .slice A5_ r3.length c5_]] (by rfl) rfl rfl (by (try simp only [List.map_toArray, List.map_cons, List.map_nil]); first | done | rfl) ?_
  (refine (laws_eqTable.calls K5 r2 A3_ c3_ r3 r2 A5_ c5_ r3 true w10 (Kd.R_reads' X3.out).2.2 (Kd.R_reads' X3.out).2.1 (Kd.R_reads' X5.out).2.2 (Kd.R_reads' X5.out).2.1 H5.out).mono ?_)
  rintro e w11 ⟨rfl, hb⟩
  refine ⟨_, rfl, ?_⟩
  have Z11 : Aside0 (w10.heap.size ≤ w11.heap.size) := ⟨hb.size⟩
  have n0_ := Aside0.mk (Kd.R_below X1.out hb)
  have n1_ := Aside0.mk (Kd.S_below X2.out hb)
  have n2_ := Aside0.mk (Kd.R_below X3.out hb)
  have n3_ := Aside0.mk (Kd.S_below X4.out hb)
  have n4_ := Aside0.mk (Kd.R_below X5.out hb)
  have n5_ := Aside0.mk (blk_below BX1.out hb)
  have n6_ := Aside0.mk (blk_below BX2.out hb)
  have hb_ := Aside0.mk (below_then HB.out HB.out.size hb)
  clear X1 X2 X3 X4 X5 BX1 BX2
  have X1 := n0_
  have X2 := n1_
  have X3 := n2_
  have X4 := n3_
  have X5 := n4_
  have BX1 := n5_
  have BX2 := n6_
  clear n0_ n1_ n2_ n3_ n4_ n5_ n6_
  clear HB
  have HB := hb_
  clear hb_
  clear hb
  refine hK.out _ _ ⟨BX1.out, BX2.out⟩ (fun hHeld => ?_)
  clear hK K
  refine norm_ (a' := ?_) ?_ ?_
  rotate_left
  · show Act.put _ (some 44) _ = _
    simp only [Act.put, List.setIfInBounds_toArray, List.set_cons_zero, List.set_cons_succ, i64_w, i32_w]
    rfl
  refine pure_ (i := 4) (N := some 45) (v := ?_) (a' := ?_) #[true, true, true, true, true] rfl rfl (by kernel_rfl) (fun _ _ _ h => h) (Or.inl ⟨by rfl, ?_⟩) ?_ ?_
  rotate_left
  · intro w'
    go_simp
    with_reducible rfl
  rotate_left
  · simp only [Act.put, List.setIfInBounds_toArray, List.set_cons_zero, List.set_cons_succ, i64_w, i32_w]
    rfl
  refine done_ (by kernel_rfl) ?_
  obtain ⟨m6, h6, hF⟩ := HF.out
  clear HF
  have HF := Aside0.mk hF
  clear hF
  have H6 := Aside0.mk h6
  clear h6
  go_wp2_with (first | ((with_reducible refine gate_dst (N := 14) rfl ?_); first | refine Kd.event_run rfl (load_run BX2.out 2 rfl 29 _ (by rfl) (by rfl) _ Try.underlying29 rfl (by kernel_rfl)) ?_) | ((with_reducible refine gate_dst (N := 20) rfl ?_); first | refine Kd.event_run rfl (load_run BX2.out 2 rfl 29 _ (by rfl) (by rfl) _ Try.underlying29 rfl (by kernel_rfl)) ?_) | ((with_reducible refine gate_dst (N := 25) rfl ?_); first | refine Kd.event_run rfl (load_run BX2.out 2 rfl 29 _ (by rfl) (by rfl) _ Try.underlying29 rfl (by kernel_rfl)) ?_) | ((with_reducible refine gate_dst (N := 28) rfl ?_); first | refine Kd.event_run rfl (load_run BX2.out 2 rfl 29 _ (by rfl) (by rfl) _ Try.underlying29 rfl (by kernel_rfl)) ?_) | ((with_reducible refine gate_dst (N := 41) rfl ?_); first | refine Kd.event_run rfl (load_run BX2.out 2 rfl 29 _ (by rfl) (by rfl) _ Try.underlying29 rfl (by kernel_rfl)) ?_) | ((with_reducible refine gate_dst (N := 42) rfl ?_); first | refine Kd.event_run rfl (load_run BX2.out 2 rfl 29 _ (by rfl) (by rfl) _ Try.underlying29 rfl (by kernel_rfl)) ?_) | ((with_reducible refine gate_dst (N := 46) rfl ?_); first | refine Kd.event_run rfl (load_run BX2.out 2 rfl 29 _ (by rfl) (by rfl) _ Try.underlying29 rfl (by kernel_rfl)) ?_) | ((with_reducible refine gate_dst (N := 74) rfl ?_); first | refine Kd.event_run rfl (load_run BX2.out 2 rfl 29 _ (by rfl) (by rfl) _ Try.underlying29 rfl (by kernel_rfl)) ?_))
  (refine (laws_markTable.calls r2 (fun k => w4.heap.size ≤ k ∧ k < w5.heap.size) _ r3 1 m6 w w11 HB.out X3.out H6.out.2).mono ?_)
  rintro e w12 ⟨rfl, hb, hk⟩
  have hm6 := H6.out.1
  clear X3
  have Z12 : Aside0 (w11.heap.size ≤ w12.heap.size) := ⟨hk.1⟩
  have n0_ := Aside0.mk (Kd.R_kept X1.out hk (fun k h1_ h2_ => by have := Z1.out; have := GBX1.out; have := Z2.out; have := Z3.out; have := Z4.out; have := Z5.out; have := Z6.out; have := GBX2.out; have := Z7.out; have := Z8.out; have := Z9.out; have := Z10.out; have := Z11.out; (try dsimp only at h1_ h2_); omega))
  have n1_ := Aside0.mk (Kd.S_kept X2.out hk (fun k h1_ h2_ => by have := Z1.out; have := GBX1.out; have := Z2.out; have := Z3.out; have := Z4.out; have := Z5.out; have := Z6.out; have := GBX2.out; have := Z7.out; have := Z8.out; have := Z9.out; have := Z10.out; have := Z11.out; (try dsimp only at h1_ h2_); omega))
  have n2_ := Aside0.mk (Kd.S_kept X4.out hk (fun k h1_ h2_ => by have := Z1.out; have := GBX1.out; have := Z2.out; have := Z3.out; have := Z4.out; have := Z5.out; have := Z6.out; have := GBX2.out; have := Z7.out; have := Z8.out; have := Z9.out; have := Z10.out; have := Z11.out; (try dsimp only at h1_ h2_); omega))
  have n3_ := Aside0.mk (Kd.R_kept X5.out hk (fun k h1_ h2_ => by have := Z1.out; have := GBX1.out; have := Z2.out; have := Z3.out; have := Z4.out; have := Z5.out; have := Z6.out; have := GBX2.out; have := Z7.out; have := Z8.out; have := Z9.out; have := Z10.out; have := Z11.out; (try dsimp only at h1_ h2_); omega))
  have n4_ := Aside0.mk (blk_kept BX1.out hk (fun h1_ => by have := Z1.out; have := GBX1.out; have := Z2.out; have := Z3.out; have := Z4.out; have := Z5.out; have := Z6.out; have := GBX2.out; have := Z7.out; have := Z8.out; have := Z9.out; have := Z10.out; have := Z11.out; (try dsimp only at h1_); omega))
  have n5_ := Aside0.mk (blk_kept BX2.out hk (fun h1_ => by have := Z1.out; have := GBX1.out; have := Z2.out; have := Z3.out; have := Z4.out; have := Z5.out; have := Z6.out; have := GBX2.out; have := Z7.out; have := Z8.out; have := Z9.out; have := Z10.out; have := Z11.out; (try dsimp only at h1_); omega))
  have hb_ := Aside0.mk (hb)
  clear X1 X2 X4 X5 BX1 BX2
  have X1 := n0_
  have X2 := n1_
  have X4 := n2_
  have X5 := n3_
  have BX1 := n4_
  have BX2 := n5_
  clear n0_ n1_ n2_ n3_ n4_ n5_
  clear HB
  have HB := hb_
  clear hb_
  clear hb hk
  go_wp2_with fail
  (refine (laws_eqIntSS.calls K4 A4_ c4_ r4 A2_ c2_ r4 true w12 (Kd.S_reads' X4.out).2.2 (Kd.S_reads' X4.out).2.1 (Kd.S_reads' X2.out).2.2 (Kd.S_reads' X2.out).2.1 H4.out).mono ?_)
  rintro e w13 ⟨rfl, hd⟩
  have hb := hd.below
  clear hd
  have Z13 : Aside0 (w12.heap.size ≤ w13.heap.size) := ⟨hb.size⟩
  have n0_ := Aside0.mk (Kd.R_below X1.out hb)
  have n1_ := Aside0.mk (Kd.S_below X2.out hb)
  have n2_ := Aside0.mk (Kd.S_below X4.out hb)
  have n3_ := Aside0.mk (Kd.R_below X5.out hb)
  have n4_ := Aside0.mk (blk_below BX1.out hb)
  have n5_ := Aside0.mk (blk_below BX2.out hb)
  have hb_ := Aside0.mk (below_then HB.out HB.out.size hb)
  clear X1 X2 X4 X5 BX1 BX2
  have X1 := n0_
  have X2 := n1_
  have X4 := n2_
  have X5 := n3_
  have BX1 := n4_
  have BX2 := n5_
  clear n0_ n1_ n2_ n3_ n4_ n5_
  clear HB
  have HB := hb_
  clear hb_
  clear hb
  obtain ⟨m7, rm7, ⟨K7, h7⟩, hF⟩ := HF.out
  clear HF
  have HF := Aside0.mk hF
  clear hF
  have H7 := Aside0.mk h7
  clear h7
  go_wp2_with fail
  (refine (laws_markIntSS.calls K7 (fun k => w6.heap.size ≤ k ∧ k < w7.heap.size) _ r4 1 m7 rm7 w w13 HB.out X4.out H7.out.2).mono ?_)
  rintro e w14 ⟨rfl, hS, hb, hk⟩
  have hm7 := H7.out.1
  have Z14 : Aside0 (w13.heap.size ≤ w14.heap.size) := ⟨hk.1⟩
  have n0_ := Aside0.mk (Kd.R_kept X1.out hk (fun k h1_ h2_ => by have := Z1.out; have := GBX1.out; have := Z2.out; have := Z3.out; have := Z4.out; have := Z5.out; have := Z6.out; have := GBX2.out; have := Z7.out; have := Z8.out; have := Z9.out; have := Z10.out; have := Z11.out; have := Z12.out; have := Z13.out; (try dsimp only at h1_ h2_); omega))
  have n1_ := Aside0.mk (Kd.S_kept X2.out hk (fun k h1_ h2_ => by have := Z1.out; have := GBX1.out; have := Z2.out; have := Z3.out; have := Z4.out; have := Z5.out; have := Z6.out; have := GBX2.out; have := Z7.out; have := Z8.out; have := Z9.out; have := Z10.out; have := Z11.out; have := Z12.out; have := Z13.out; (try dsimp only at h1_ h2_); omega))
  have n2_ := Aside0.mk (hS)
  have n3_ := Aside0.mk (Kd.R_kept X5.out hk (fun k h1_ h2_ => by have := Z1.out; have := GBX1.out; have := Z2.out; have := Z3.out; have := Z4.out; have := Z5.out; have := Z6.out; have := GBX2.out; have := Z7.out; have := Z8.out; have := Z9.out; have := Z10.out; have := Z11.out; have := Z12.out; have := Z13.out; (try dsimp only at h1_ h2_); omega))
  have n4_ := Aside0.mk (blk_kept BX1.out hk (fun h1_ => by have := Z1.out; have := GBX1.out; have := Z2.out; have := Z3.out; have := Z4.out; have := Z5.out; have := Z6.out; have := GBX2.out; have := Z7.out; have := Z8.out; have := Z9.out; have := Z10.out; have := Z11.out; have := Z12.out; have := Z13.out; (try dsimp only at h1_); omega))
  have n5_ := Aside0.mk (blk_kept BX2.out hk (fun h1_ => by have := Z1.out; have := GBX1.out; have := Z2.out; have := Z3.out; have := Z4.out; have := Z5.out; have := Z6.out; have := GBX2.out; have := Z7.out; have := Z8.out; have := Z9.out; have := Z10.out; have := Z11.out; have := Z12.out; have := Z13.out; (try dsimp only at h1_); omega))
  have hb_ := Aside0.mk (hb)
  clear X1 X2 X4 X5 BX1 BX2
  have X1 := n0_
  have X2 := n1_
  have X4 := n2_
  have X5 := n3_
  have BX1 := n4_
  have BX2 := n5_
  clear n0_ n1_ n2_ n3_ n4_ n5_
  clear HB
  have HB := hb_
  clear hb_
  clear hS hb hk
  obtain ⟨⟨K8, h8⟩, hF⟩ := HF.out
  clear HF
  have HF := Aside0.mk hF
  clear hF
  have H8 := Aside0.mk h8
  clear h8
  go_wp2_with fail
  have hc_ := laws_heldIntSS.calls K8 A4_ c4_ rm7 1 m7 w14 (Kd.S_reads' X4.out).2.2 (Nat.le_trans (Nat.le_of_eq (Kd.S_reads' X4.out).1.symm) (Kd.S_reads' X4.out).2.1) H8.out
  rw [← (Kd.S_reads' X4.out).1] at hc_
  (refine (hc_).mono ?_)
  clear hc_
  rintro e w15 ⟨rfl, hd⟩
  have hb := hd.below
  clear hd
  have Z15 : Aside0 (w14.heap.size ≤ w15.heap.size) := ⟨hb.size⟩
  have n0_ := Aside0.mk (Kd.R_below X1.out hb)
  have n1_ := Aside0.mk (Kd.S_below X2.out hb)
  have n2_ := Aside0.mk (Kd.S_below X4.out hb)
  have n3_ := Aside0.mk (Kd.R_below X5.out hb)
  have n4_ := Aside0.mk (blk_below BX1.out hb)
  have n5_ := Aside0.mk (blk_below BX2.out hb)
  have hb_ := Aside0.mk (below_then HB.out HB.out.size hb)
  clear X1 X2 X4 X5 BX1 BX2
  have X1 := n0_
  have X2 := n1_
  have X4 := n2_
  have X5 := n3_
  have BX1 := n4_
  have BX2 := n5_
  clear n0_ n1_ n2_ n3_ n4_ n5_
  clear HB
  have HB := hb_
  clear hb_
  clear hb
  go_wp2_with (first | ((with_reducible refine gate_dst (N := 14) rfl ?_); first | refine Kd.event_run rfl (load_run BX1.out 2 rfl 24 _ (by rfl) (by rfl) _ Try.underlying24 rfl (by kernel_rfl)) ?_) | ((with_reducible refine gate_dst (N := 20) rfl ?_); first | refine Kd.event_run rfl (load_run BX1.out 2 rfl 24 _ (by rfl) (by rfl) _ Try.underlying24 rfl (by kernel_rfl)) ?_) | ((with_reducible refine gate_dst (N := 25) rfl ?_); first | refine Kd.event_run rfl (load_run BX1.out 2 rfl 24 _ (by rfl) (by rfl) _ Try.underlying24 rfl (by kernel_rfl)) ?_) | ((with_reducible refine gate_dst (N := 28) rfl ?_); first | refine Kd.event_run rfl (load_run BX1.out 2 rfl 24 _ (by rfl) (by rfl) _ Try.underlying24 rfl (by kernel_rfl)) ?_) | ((with_reducible refine gate_dst (N := 41) rfl ?_); first | refine Kd.event_run rfl (load_run BX1.out 2 rfl 24 _ (by rfl) (by rfl) _ Try.underlying24 rfl (by kernel_rfl)) ?_) | ((with_reducible refine gate_dst (N := 42) rfl ?_); first | refine Kd.event_run rfl (load_run BX1.out 2 rfl 24 _ (by rfl) (by rfl) _ Try.underlying24 rfl (by kernel_rfl)) ?_) | ((with_reducible refine gate_dst (N := 46) rfl ?_); first | refine Kd.event_run rfl (load_run BX1.out 2 rfl 24 _ (by rfl) (by rfl) _ Try.underlying24 rfl (by kernel_rfl)) ?_) | ((with_reducible refine gate_dst (N := 74) rfl ?_); first | refine Kd.event_run rfl (load_run BX1.out 2 rfl 24 _ (by rfl) (by rfl) _ Try.underlying24 rfl (by kernel_rfl)) ?_))
  (refine (laws_toTable.calls K1 a0_0 A0_1 c0_1 l0_1 r2 r3 w15 (Kd.C_below HR0_1.out HB.out) HC0_1.out H1.out).mono ?_)
  rintro e w16 ⟨v1_, rfl, hS0, hb⟩
  have X6 : Aside0 (Kd.R (Kd.slice 72 k72) 70 w16 w.heap.size (fun k => w15.heap.size ≤ k ∧ k < w16.heap.size) v1_ r3) := ⟨Kd.R_mono (Kd.R_lower (Kd.R_bound hS0) HB.out.size) (fun k hk => ⟨hk.2.1, hk.2.2.1⟩)⟩
  have Z16 : Aside0 (w15.heap.size ≤ w16.heap.size) := ⟨hb.size⟩
  have n0_ := Aside0.mk (Kd.R_below X1.out hb)
  have n1_ := Aside0.mk (Kd.S_below X2.out hb)
  have n2_ := Aside0.mk (Kd.S_below X4.out hb)
  have n3_ := Aside0.mk (Kd.R_below X5.out hb)
  have n4_ := Aside0.mk (blk_below BX1.out hb)
  have n5_ := Aside0.mk (blk_below BX2.out hb)
  have hb_ := Aside0.mk (below_then HB.out HB.out.size hb)
  clear X1 X2 X4 X5 BX1 BX2
  have X1 := n0_
  have X2 := n1_
  have X4 := n2_
  have X5 := n3_
  have BX1 := n4_
  have BX2 := n5_
  clear n0_ n1_ n2_ n3_ n4_ n5_
  clear HB
  have HB := hb_
  clear hb_
  clear hb hS0
  obtain ⟨A6_, c6_, rfl⟩ := Kd.R_slice X6.out
  go_wp2_with (first | ((with_reducible refine gate_dst (N := 14) rfl ?_); first | refine Kd.event_run rfl (load_run BX1.out 2 rfl 24 _ (by rfl) (by rfl) _ Try.underlying24 rfl (by kernel_rfl)) ?_) | ((with_reducible refine gate_dst (N := 20) rfl ?_); first | refine Kd.event_run rfl (load_run BX1.out 2 rfl 24 _ (by rfl) (by rfl) _ Try.underlying24 rfl (by kernel_rfl)) ?_) | ((with_reducible refine gate_dst (N := 25) rfl ?_); first | refine Kd.event_run rfl (load_run BX1.out 2 rfl 24 _ (by rfl) (by rfl) _ Try.underlying24 rfl (by kernel_rfl)) ?_) | ((with_reducible refine gate_dst (N := 28) rfl ?_); first | refine Kd.event_run rfl (load_run BX1.out 2 rfl 24 _ (by rfl) (by rfl) _ Try.underlying24 rfl (by kernel_rfl)) ?_) | ((with_reducible refine gate_dst (N := 41) rfl ?_); first | refine Kd.event_run rfl (load_run BX1.out 2 rfl 24 _ (by rfl) (by rfl) _ Try.underlying24 rfl (by kernel_rfl)) ?_) | ((with_reducible refine gate_dst (N := 42) rfl ?_); first | refine Kd.event_run rfl (load_run BX1.out 2 rfl 24 _ (by rfl) (by rfl) _ Try.underlying24 rfl (by kernel_rfl)) ?_) | ((with_reducible refine gate_dst (N := 46) rfl ?_); first | refine Kd.event_run rfl (load_run BX1.out 2 rfl 24 _ (by rfl) (by rfl) _ Try.underlying24 rfl (by kernel_rfl)) ?_) | ((with_reducible refine gate_dst (N := 74) rfl ?_); first | refine Kd.event_run rfl (load_run BX1.out 2 rfl 24 _ (by rfl) (by rfl) _ Try.underlying24 rfl (by kernel_rfl)) ?_))
  (refine (impl_Committed.calls K3 r2 A6_ c6_ r3 r4 r5 w16 (Kd.R_reads' X6.out).2.2 (Kd.R_reads' X6.out).2.1 H3.out).mono ?_)
  rintro e w17 ⟨v0_, rfl, hS0, hb⟩
  have X7 : Aside0 (Kd.S (Kd.slice 3 (Kd.int .i64)) 44 w17 w.heap.size (fun k => w16.heap.size ≤ k ∧ k < w17.heap.size) v0_ r4) := ⟨Kd.S_mono (Kd.S_lower (Kd.S_bound hS0) HB.out.size) (fun k hk => ⟨hk.2.1, hk.2.2.1⟩)⟩
  have Z17 : Aside0 (w16.heap.size ≤ w17.heap.size) := ⟨hb.size⟩
  have n0_ := Aside0.mk (Kd.R_below X1.out hb)
  have n1_ := Aside0.mk (Kd.S_below X2.out hb)
  have n2_ := Aside0.mk (Kd.S_below X4.out hb)
  have n3_ := Aside0.mk (Kd.R_below X5.out hb)
  have n4_ := Aside0.mk (Kd.R_below X6.out hb)
  have n5_ := Aside0.mk (blk_below BX1.out hb)
  have n6_ := Aside0.mk (blk_below BX2.out hb)
  have hb_ := Aside0.mk (below_then HB.out HB.out.size hb)
  clear X1 X2 X4 X5 X6 BX1 BX2
  have X1 := n0_
  have X2 := n1_
  have X4 := n2_
  have X5 := n3_
  have X6 := n4_
  have BX1 := n5_
  have BX2 := n6_
  clear n0_ n1_ n2_ n3_ n4_ n5_ n6_
  clear HB
  have HB := hb_
  clear hb_
  clear hb hS0
  obtain ⟨A7_, c7_, rfl⟩ := Kd.S_slice X7.out
  go_wp2_with fail
  (refine (laws_eqIntSS.calls K4 A7_ c7_ r4 A2_ c2_ r4 true w17 (Kd.S_reads' X7.out).2.2 (Kd.S_reads' X7.out).2.1 (Kd.S_reads' X2.out).2.2 (Kd.S_reads' X2.out).2.1 H4.out).mono ?_)
  rintro e w18 ⟨rfl, hd⟩
  have hb := hd.below
  clear hd
  have Z18 : Aside0 (w17.heap.size ≤ w18.heap.size) := ⟨hb.size⟩
  have n0_ := Aside0.mk (Kd.R_below X1.out hb)
  have n1_ := Aside0.mk (Kd.S_below X2.out hb)
  have n2_ := Aside0.mk (Kd.S_below X4.out hb)
  have n3_ := Aside0.mk (Kd.R_below X5.out hb)
  have n4_ := Aside0.mk (Kd.R_below X6.out hb)
  have n5_ := Aside0.mk (Kd.S_below X7.out hb)
  have n6_ := Aside0.mk (blk_below BX1.out hb)
  have n7_ := Aside0.mk (blk_below BX2.out hb)
  have hb_ := Aside0.mk (below_then HB.out HB.out.size hb)
  clear X1 X2 X4 X5 X6 X7 BX1 BX2
  have X1 := n0_
  have X2 := n1_
  have X4 := n2_
  have X5 := n3_
  have X6 := n4_
  have X7 := n5_
  have BX1 := n6_
  have BX2 := n7_
  clear n0_ n1_ n2_ n3_ n4_ n5_ n6_ n7_
  clear HB
  have HB := hb_
  clear hb_
  clear hb
  go_wp2_with fail
  have hc_ := laws_heldIntSS.calls K8 A4_ c4_ rm7 1 m7 w18 (Kd.S_reads' X4.out).2.2 (Nat.le_trans (Nat.le_of_eq (Kd.S_reads' X4.out).1.symm) (Kd.S_reads' X4.out).2.1) H8.out
  rw [← (Kd.S_reads' X4.out).1] at hc_
  (refine (hc_).mono ?_)
  clear hc_
  rintro e w19 ⟨rfl, hd⟩
  have hb := hd.below
  clear hd
  have Z19 : Aside0 (w18.heap.size ≤ w19.heap.size) := ⟨hb.size⟩
  have n0_ := Aside0.mk (Kd.R_below X1.out hb)
  have n1_ := Aside0.mk (Kd.S_below X2.out hb)
  have n2_ := Aside0.mk (Kd.S_below X4.out hb)
  have n3_ := Aside0.mk (Kd.R_below X5.out hb)
  have n4_ := Aside0.mk (Kd.R_below X6.out hb)
  have n5_ := Aside0.mk (Kd.S_below X7.out hb)
  have n6_ := Aside0.mk (blk_below BX1.out hb)
  have n7_ := Aside0.mk (blk_below BX2.out hb)
  have hb_ := Aside0.mk (below_then HB.out HB.out.size hb)
  clear X1 X2 X4 X5 X6 X7 BX1 BX2
  have X1 := n0_
  have X2 := n1_
  have X4 := n2_
  have X5 := n3_
  have X6 := n4_
  have X7 := n5_
  have BX1 := n6_
  have BX2 := n7_
  clear n0_ n1_ n2_ n3_ n4_ n5_ n6_ n7_
  clear HB
  have HB := hb_
  clear hb_
  clear hb
  go_wp2
  go_ret
  exact ⟨rfl, HB.out⟩

def q43 (x : S43) : Prop := (Lit.int .i64 x.f0).wf = true ∧ (Lit.int .i64 x.f1).wf = true ∧ (Lit.int .i64 x.f2).wf = true ∧ (Lit.int .i64 x.f3).wf = true ∧ (Lit.int .i64 x.f4).wf = true
def q115 (x : S115) : Prop := (Lit.int .i64 x.f0).wf = true ∧ (x.f1.length ≤ 9223372036854775807 ∧ ∀ y ∈ x.f1, (Lit.int .i64 y).wf = true)
def q125 (x : S125) : Prop := (Lit.int .i64 x.f0).wf = true ∧ (Lit.int .i64 x.f1).wf = true ∧ (Lit.int .i64 x.f2).wf = true ∧ q43 x.f3 ∧ q115 x.f4
def q24 (x : S24) : Prop := (Lit.int .i64 x.f0).wf = true ∧ (x.f1.length ≤ 9223372036854775807 ∧ ∀ y ∈ x.f1, (y.length ≤ 9223372036854775807 ∧ ∀ yy ∈ y, q125 yy))
/-- THE ONE PURE STATEMENT of laws_FnExactCommitted. -/
def laws_FnExactCommitted.Pure : Prop := ∀ (x0 : S24), q24 x0 → laws_FnExactCommitted.Facts x0.f0 x0.f1

end Go.Proofs.Ytacpjifbgnlppaa.QFnExactCommitted
