-- Written by a program of this session (wip/mk.py) over the kit's print: Lean checks it.
import Derived.Test.YtacpjifbgnlppaaQFnExactAttrForx0
import Derived.Test.YtacpjifbgnlppaaQFnExactAttrForx2
import Derived.Test.YtacpjifbgnlppaaQFnExactAttrForx3
import Derived.Test.YtacpjifbgnlppaaQFnExactAttrForx5
import Derived.Test.YtacpjifbgnlppaaQFnExactAttrForx10
import Derived.Test.YtacpjifbgnlppaaQFnExactAttrForx14
namespace Go.Proofs.Ytacpjifbgnlppaa.QFnExactAttrFor
open Go.Proofs.YtacpjifbgnlppaaW.PrintWords renaming below_alloc → Ba, below_set → Bs, gate_dst → Gd, blk_alloc → Ka, blk_below → Kb, blk_cell → Kc
open List renaming setIfInBounds_toArray → Lt, set_cons_zero → Lz, set_cons_succ → Ls
open Go.Proofs.YtacpjifbgnlppaaW.PrintWords.Aside0 renaming mk → Am
open Go.Proofs.YtacpjifbgnlppaaW.PrintWords renaming Aside0 → Ad
open Go.RowKit Go.Proofs.YtacpjifbgnlppaaW.PrintWords Go.Proofs.YtacpjifbgnlppaaW.PrintLast Go.Proofs.YtacpjifbgnlppaaW.PrintMore
attribute [local go_sem] max2_int min2_int max_two min_two max_three min_three max_four min_four   -- for this text's walks alone
open Go.Proofs.YtacpjifbgnlppaaW.PrintWords.Kd renaming R_below → Rb, R_kept → Rk, R_mono → Rm, R_bound → Ro, C_below → Cb, R_reads' → Rr, R_slice → Rs, event_run → Er
open Go.Proofs.YtacpjifbgnlppaaW.PrintWords renaming blk_kept → Kq, below_then → Bh, blk_lt → Kl
set_option linter.unusedVariables false
set_option linter.unusedSimpArgs false
section
open Go.RowKit
theorem load_run {P : Program} {o : Oper} {a : Act} {W : World} {g : Nat} {cs : Array Value} {t : TypeId} (hg : W.heap[g]? = some (.cells cs t (0, 0))) (n : Nat) (hn : cs.size = n) (ty : TypeId) (x : Operand) (ho : o.op = .load ty x)
  (hx : a.eval x = .pointer (some ⟨g, 0, none⟩)) (d : TypeDesc) (hu : P.underlying ty = some d) (hd : (match d with | .struct _ | .array _ _ => true | _ => false) = true) (hi : (P.info? ty).map (·.size) = some n) :
  (execOp a.eval o).run P W = .ok (.value (.agg cs)) W := by
 subst hn
 unfold execOp
 simp only [ho, hx, Instr.loadAt, Instr.sureAddr, Sem.run_bind, Sem.run_pure, Result.andThen_ok, run_loadVar_row W g t ty cs (0, 0) d hg hu hd hi]
theorem store_run {P : Program} {o : Oper} {a : Act} {W : World} {g : Nat} {cs cs' : Array Value} {t : TypeId} (hg : W.heap[g]? = some (.cells cs t (0, 0))) (n : Nat) (hn : cs.size = n) (hn' : cs'.size = n) (ty : TypeId) (x y : Operand) (ho : o.op = .store ty x y)
  (hx : a.eval x = .pointer (some ⟨g, 0, none⟩)) (hy : a.eval y = .agg cs') (hi : (P.info? ty).map (·.size) = some n) (h1 : cs'.all (·.oneCell') = true) :
  (execOp a.eval o).run P W = .ok .skip (W.setRow g cs') := by
 unfold execOp
 simp only [ho, hx, hy, Instr.storeAt, Instr.sureAddr, Sem.run_bind, Sem.run_pure, Result.andThen_ok, run_storeVar_row W g t ty cs cs' hg (by rw [hn']; exact hi) (by rw [hn, hn']) h1]
theorem kept_setRow (W : World) (g : Nat) (cs : Array Value) : Kept W (W.setRow g cs) (fun k => k = g) := ⟨by simp, fun i _ hi => setRow_other W g i cs hi⟩
theorem below_setRow_ {B g : Nat} {w0 w : World} (hb : Below B w0 w) (hBg : B ≤ g) (cs : Array Value) : Below B w0 (w.setRow g cs) :=
 ⟨hb.os, hb.tape, hb.output, by simpa using hb.size, fun k hk => (setRow_other w g k cs (by omega)).trans (hb.block k hk)⟩
end
def laws_FnExactAttrFor.Facts (a0_0 : Int) (l0_1 : List (List (S125))) (a1_0 : Int) (a1_1 : Int) (a1_2 : Int) (a1_3 : Int) (a1_4 : Int) (a2 : Int) (a3 : Int) : Prop :=
 ∃ z1 : Int, (∃ K, laws_szTable.f K a0_0 l0_1 1048576 = some z1) ∧ (z1 < 0 ∨ (0 ≤ z1 ∧ ∃ r2 : Int, ∃ r3 : List (List (S72)), (∃ K, laws_toTable.f K a0_0 l0_1 = some (r2, r3)) ∧ (laws_toCmd.f a1_0 a1_1 a1_2 a1_3 a1_4 = some (a1_0, a1_1, a1_2, a1_3, a1_4)) ∧ ∃ r4 : Int, ∃ r5 : List Int, ∃ r6 : Bool, (∃ K, spec_AttrFor.f K r2 r3 a1_0 a1_1 a1_2 a1_3 a1_4 a2 a3 = some (r4, r5, r6)) ∧ (∃ K, impl_AttrFor.f K r2 r3 a1_0 a1_1 a1_2 a1_3 a1_4 a2 a3 = some (r4, r5, r6)) ∧ (∃ K, laws_eqAttr.f K r4 r5 r4 r5 = some true) ∧ (∃ K, laws_eqTable.f K r2 r3 r2 r3 = some true) ∧ ∃ m7 : Int, (0 ≤ m7 ∧ laws_markTable.f r2 r3 1 = some m7) ∧ ∃ m8 : Int, ∃ rm8 : List Int, (∃ K, 0 ≤ m8 ∧ laws_markAttr.f K r4 r5 1 = some (m8, rm8)) ∧ (∃ K, laws_heldAttr.f K r4 rm8 1 = some m8) ∧ True))
set_option maxHeartbeats 8000000 in
set_option maxRecDepth 100000 in
theorem laws_FnExactAttrFor.calls (a0_0 : Int) (A0_1 : Option Addr) (c0_1 : Nat) (l0_1 : List (List (S125))) (a1_0 : Int) (a1_1 : Int) (a1_2 : Int) (a1_3 : Int) (a1_4 : Int) (a2 : Int) (a3 : Int) (w : World) (hr0_1 : Kd.C (Kd.slice 125 k125) w A0_1 l0_1.length l0_1) (hc0_1 : l0_1.length ≤ c0_1) (h : laws_FnExactAttrFor.Facts a0_0 l0_1 a1_0 a1_1 a1_2 a1_3 a1_4 a2 a3) :
  Calls Try.prog 6 #[.agg #[.int .i64 a0_0, .slice A0_1 l0_1.length c0_1], .agg #[.int .i64 a1_0, .int .i64 a1_1, .int .i64 a1_2, .int .i64 a1_3, .int .i64 a1_4], .int .i64 a2, .int .i64 a3] w fun e w' => e = .returned (.bool true) ∧ Below w.heap.size w w' := by
 unfold laws_FnExactAttrFor.Facts at h
 have HR0_1 := Am hr0_1
 have HC0_1 := Am hc0_1
 clear hr0_1 hc0_1
 have HF := Am h
 clear h
 have HB := Am (Below.refl w.heap.size w)
 obtain ⟨z1, ⟨Kz1, hs⟩, hF⟩ := HF.1
 clear HF
 have HF := Am hF
 clear hF
 have HSz1 := Am hs
 clear hs
 go_enter Try.func6, Try.ntmps6
 go_upto_region 2 with (fail)
 refine letC (fun W_ => Below w.heap.size w W_ ∧ W_.heap[w.heap.size]? = some (.cells #[.int .i64 a0_0, .slice A0_1 l0_1.length c0_1] 24 (0, 0)) ∧ W_.heap[w.heap.size + 1]? = some (.cells #[.int .i64 a1_0, .int .i64 a1_1, .int .i64 a1_2, .int .i64 a1_3, .int .i64 a1_4] 43 (0, 0))) ?_ ?_
 ·refine ⟨?_, ?_, ?_⟩
  ·repeat (first | exact Below.refl _ _ | apply Ba | refine Bs ?_ (by first | exact Nat.le_refl _ | omega | (simp; done)))
  ·simpa using Ka (blk_new w (.cells #[.int .i64 a0_0, .slice A0_1 l0_1.length c0_1] 24)) (.cells #[.int .i64 a1_0, .int .i64 a1_1, .int .i64 a1_2, .int .i64 a1_3, .int .i64 a1_4] 43)
  ·simpa using blk_new (w.alloc (.cells #[.int .i64 a0_0, .slice A0_1 l0_1.length c0_1] 24)) (.cells #[.int .i64 a1_0, .int .i64 a1_1, .int .i64 a1_2, .int .i64 a1_3, .int .i64 a1_4] 43)
 intro w1 hq_
 obtain ⟨hb, hx0_, hx1_⟩ := hq_
 have Z1 : Ad (w.heap.size ≤ w1.heap.size) := ⟨hb.size⟩
 replace HB := Am (Bh HB.1 HB.1.size hb)
 clear hb
 have BX1 : Ad (w1.heap[w.heap.size]? = some (.cells #[.int .i64 a0_0, .slice A0_1 l0_1.length c0_1] 24 (0, 0))) := ⟨hx0_⟩
 clear hx0_
 have GBX1 : Ad (w.heap.size < w1.heap.size) := ⟨Kl BX1.1⟩
 have BX2 : Ad (w1.heap[w.heap.size + 1]? = some (.cells #[.int .i64 a1_0, .int .i64 a1_1, .int .i64 a1_2, .int .i64 a1_3, .int .i64 a1_4] 43 (0, 0))) := ⟨hx1_⟩
 clear hx1_
 have GBX2 : Ad (w.heap.size + 1 < w1.heap.size) := ⟨Kl BX2.1⟩
 go_wp2_with (first | ((refine Gd (N := 20) rfl ?_); first | refine Er rfl (load_run BX1.1 2 rfl 24 _ (by rfl) (by rfl) _ Try.underlying24 rfl (by kernel_rfl)) ?_) | ((refine Gd (N := 26) rfl ?_); first | refine Er rfl (load_run BX1.1 2 rfl 24 _ (by rfl) (by rfl) _ Try.underlying24 rfl (by kernel_rfl)) ?_) | ((refine Gd (N := 35) rfl ?_); first | refine Er rfl (load_run BX1.1 2 rfl 24 _ (by rfl) (by rfl) _ Try.underlying24 rfl (by kernel_rfl)) ?_) | ((refine Gd (N := 56) rfl ?_); first | refine Er rfl (load_run BX1.1 2 rfl 24 _ (by rfl) (by rfl) _ Try.underlying24 rfl (by kernel_rfl)) ?_) | ((refine Gd (N := 88) rfl ?_); first | refine Er rfl (load_run BX1.1 2 rfl 24 _ (by rfl) (by rfl) _ Try.underlying24 rfl (by kernel_rfl)) ?_))
 (refine (laws_szTable.calls Kz1 a0_0 A0_1 c0_1 l0_1 1048576 z1 w1 (Cb HR0_1.1 HB.1) HC0_1.1 HSz1.1).mono ?_)
 rintro e w2 ⟨rfl, hb⟩
 have Z2 : Ad (w1.heap.size ≤ w2.heap.size) := ⟨hb.size⟩
 replace BX1 := Am (Kb BX1.1 hb)
 replace BX2 := Am (Kb BX2.1 hb)
 replace HB := Am (Bh HB.1 HB.1.size hb)
 clear hb
 rcases HF.1 with hneg | ⟨hpos, hF⟩
 ·clear HF
  go_wp2
  go_ret
  exact ⟨rfl, HB.1⟩
 clear HF
 have HF := Am hF
 clear hF
 go_wp2_with (first | ((refine Gd (N := 20) rfl ?_); first | refine Er rfl (load_run BX1.1 2 rfl 24 _ (by rfl) (by rfl) _ Try.underlying24 rfl (by kernel_rfl)) ?_) | ((refine Gd (N := 26) rfl ?_); first | refine Er rfl (load_run BX1.1 2 rfl 24 _ (by rfl) (by rfl) _ Try.underlying24 rfl (by kernel_rfl)) ?_) | ((refine Gd (N := 28) rfl ?_); first | refine Er rfl (load_run BX2.1 5 rfl 43 _ (by rfl) (by rfl) _ Try.underlying43 rfl (by kernel_rfl)) ?_) | ((refine Gd (N := 35) rfl ?_); first | refine Er rfl (load_run BX1.1 2 rfl 24 _ (by rfl) (by rfl) _ Try.underlying24 rfl (by kernel_rfl)) ?_) | ((refine Gd (N := 39) rfl ?_); first | refine Er rfl (load_run BX2.1 5 rfl 43 _ (by rfl) (by rfl) _ Try.underlying43 rfl (by kernel_rfl)) ?_) | ((refine Gd (N := 56) rfl ?_); first | refine Er rfl (load_run BX1.1 2 rfl 24 _ (by rfl) (by rfl) _ Try.underlying24 rfl (by kernel_rfl)) ?_) | ((refine Gd (N := 88) rfl ?_); first | refine Er rfl (load_run BX1.1 2 rfl 24 _ (by rfl) (by rfl) _ Try.underlying24 rfl (by kernel_rfl)) ?_) | ((refine Gd (N := 90) rfl ?_); first | refine Er rfl (load_run BX2.1 5 rfl 43 _ (by rfl) (by rfl) _ Try.underlying43 rfl (by kernel_rfl)) ?_))
 refine start_ (n := 13) (S := fun w' => w'.heap[w.heap.size]? = some (.cells #[.int .i64 a0_0, .slice A0_1 l0_1.length c0_1] 24 (0, 0)) ∧ w'.heap[w.heap.size + 1]? = some (.cells #[.int .i64 a1_0, .int .i64 a1_1, .int .i64 a1_2, .int .i64 a1_3, .int .i64 a1_4] 43 (0, 0))) (ds := []) #[false, false, false, false, false, false, false, false, false, false, false, false, false] (by kernel_rfl) rfl rfl ⟨BX1.1, BX2.1⟩ (fun hHeld => ?_)
 have hb : Below w2.heap.size w2 w2.drew := below_drew (Below.refl _ _)
 generalize w2.drew = w3 at hb hHeld ⊢
 have Z3 : Ad (w2.heap.size ≤ w3.heap.size) := ⟨hb.size⟩
 replace BX1 := Am (Kb BX1.1 hb)
 replace BX2 := Am (Kb BX2.1 hb)
 replace HB := Am (Bh HB.1 HB.1.size hb)
 clear hb
 refine take_ (i := 0) (N := some 26) (v := ?_) (a' := ?_) #[true, false, false, false, false, false, false, false, false, false, false, false, false] rfl rfl (by kernel_rfl) (fun _ _ _ h => h) (Or.inl ⟨by rfl, ?_⟩) hHeld ?_ ?_
 rotate_left
 ·rintro w' ⟨s0, s1⟩
  first | (refine Eq.trans (load_run s0 2 rfl 24 _ (by rfl) (by rfl) _ Try.underlying24 rfl (by kernel_rfl)) ?_; with_reducible rfl) | (refine Eq.trans (load_run s1 5 rfl 43 _ (by rfl) (by rfl) _ Try.underlying43 rfl (by kernel_rfl)) ?_; with_reducible rfl)
 rotate_left
 ·simp only [Act.put, Lt, Lz, Ls, i64_w, i32_w]
  rfl
 refine take_ (i := 2) (N := some 28) (v := ?_) (a' := ?_) #[true, false, true, false, false, false, false, false, false, false, false, false, false] rfl rfl (by kernel_rfl) (fun _ _ _ h => h) (Or.inl ⟨by rfl, ?_⟩) hHeld ?_ ?_
 rotate_left
 ·rintro w' ⟨s0, s1⟩
  first | (refine Eq.trans (load_run s0 2 rfl 24 _ (by rfl) (by rfl) _ Try.underlying24 rfl (by kernel_rfl)) ?_; with_reducible rfl) | (refine Eq.trans (load_run s1 5 rfl 43 _ (by rfl) (by rfl) _ Try.underlying43 rfl (by kernel_rfl)) ?_; with_reducible rfl)
 rotate_left
 ·simp only [Act.put, Lt, Lz, Ls, i64_w, i32_w]
  rfl
 refine pure_ (i := 4) (N := some 30) (v := ?_) (a' := ?_) #[true, false, true, false, true, false, false, false, false, false, false, false, false] rfl rfl (by kernel_rfl) (fun _ _ _ h => h) (Or.inl ⟨by rfl, ?_⟩) ?_ ?_
 rotate_left
 ·intro w'
  go_simp
  with_reducible rfl
 rotate_left
 ·simp only [Act.put, Lt, Lz, Ls, i64_w, i32_w]
  rfl
 refine pure_ (i := 5) (N := some 31) (v := ?_) (a' := ?_) #[true, false, true, false, true, true, false, false, false, false, false, false, false] rfl rfl (by kernel_rfl) (fun _ _ _ h => h) (Or.inl ⟨by rfl, ?_⟩) ?_ ?_
 rotate_left
 ·intro w'
  go_simp
  with_reducible rfl
 rotate_left
 ·simp only [Act.put, Lt, Lz, Ls, i64_w, i32_w]
  rfl
 have HBr := Am (Below.refl w3.heap.size w3)
 obtain ⟨r2, r3, ⟨K1, h1⟩, hF⟩ := HF.1
 clear HF
 have HF := Am hF
 clear hF
 have H1 := Am h1
 clear h1
 obtain ⟨h2, hF⟩ := HF.1
 clear HF
 have HF := Am hF
 clear hF
 have H2 := Am h2
 clear h2
 obtain ⟨r4, r5, r6, ⟨K3, h3⟩, hF⟩ := HF.1
 clear HF
 have HF := Am hF
 clear hF
 have H3 := Am h3
 clear h3
 refine join_ (σ := Value × Value × Nat) 2 #[true, true, true, true, true, true, true, true, true, true, true, false, false] (fun s_ => [(27, .agg #[.int .i64 r2, s_.1]), (29, .agg #[.int .i64 a1_0, .int .i64 a1_1, .int .i64 a1_2, .int .i64 a1_3, .int .i64 a1_4]), (32, .tuple #[.agg #[.int .i64 r4, s_.2.1], .bool r6]), (10, .pointer (some ⟨s_.2.2, 0, none⟩)), (25, .tuple #[.agg #[.int .i64 r4, s_.2.1], .bool r6]), (33, .agg #[.int .i64 r4, s_.2.1]), (34, .bool r6)]) (fun s_ w' => (w'.heap[w.heap.size]? = some (.cells #[.int .i64 a0_0, .slice A0_1 l0_1.length c0_1] 24 (0, 0)) ∧ w'.heap[w.heap.size + 1]? = some (.cells #[.int .i64 a1_0, .int .i64 a1_1, .int .i64 a1_2, .int .i64 a1_3, .int .i64 a1_4] 43 (0, 0))) ∧ Below w3.heap.size w3 w' ∧ Kd.R (Kd.int .i64) 3 w' w.heap.size (fun k => w3.heap.size ≤ k ∧ k < w'.heap.size) s_.2.1 r5 ∧ w'.heap[s_.2.2]? = some (.cells #[.int .i64 0, .slice none 0 0] 46 (0, 0)) ∧ w3.heap.size ≤ s_.2.2) ?_ ?_
 rotate_left
 ·intro hCont
  refine two_ (i := 1) (j := 10) (Ni := some 27) (Nj := some 10) #[true, true, true, false, true, true, false, false, false, false, false, false, false] #[true, false, true, false, true, true, false, false, false, false, true, false, false] rfl rfl rfl rfl (by kernel_rfl) (by decide) (by decide) (fun K hK => ?_) (fun K hK => ?_)
  ·skip
   refine goes_ Try.func11 (by kernel_rfl) rfl #[.agg #[.int .i64 a0_0, .slice A0_1 l0_1.length c0_1]] (by rfl) rfl rfl (by (try simp only [List.map_toArray, List.map_cons, List.map_nil]); first | done | rfl) ?_
   (refine (laws_toTable.calls K1 a0_0 A0_1 c0_1 l0_1 r2 r3 w3 (Cb HR0_1.1 HB.1) HC0_1.1 H1.1).mono ?_)
   rintro e w4 ⟨v1_, rfl, hS0, hb⟩
   refine ⟨_, rfl, ?_⟩
   have X1 : Ad (Kd.R (Kd.slice 72 k72) 70 w4 w.heap.size (fun k => w3.heap.size ≤ k ∧ k < w4.heap.size) v1_ r3) := ⟨Rm (Kd.R_lower (Ro hS0) HB.1.size) (fun k hk => ⟨hk.2.1, hk.2.2.1⟩)⟩
   have Z4 : Ad (w3.heap.size ≤ w4.heap.size) := ⟨hb.size⟩
   replace BX1 := Am (Kb BX1.1 hb)
   replace BX2 := Am (Kb BX2.1 hb)
   replace HB := Am (Bh HB.1 HB.1.size hb)
   replace HBr := Am (Bh HBr.1 HBr.1.size hb)
   clear hb hS0
   obtain ⟨A1_, c1_, rfl⟩ := Rs X1.1
   refine hK.out _ _ ⟨BX1.1, BX2.1⟩ (fun hHeld => ?_)
   clear hK K
   refine norm_ (a' := ?_) ?_ ?_
   rotate_left
   ·show Act.put _ (some 27) _ = _
    simp only [Act.put, Lt, Lz, Ls, i64_w, i32_w]
    rfl
   refine two_ (i := 3) (j := 10) (Ni := some 29) (Nj := some 10) #[true, true, true, true, true, true, false, false, false, false, false, false, false] #[true, true, true, false, true, true, false, false, false, false, true, false, false] rfl rfl rfl rfl (by kernel_rfl) (by decide) (by decide) (fun K hK => ?_) (fun K hK => ?_)
   ·skip
    refine goes_ Try.func24 (by kernel_rfl) rfl #[.agg #[.int .i64 a1_0, .int .i64 a1_1, .int .i64 a1_2, .int .i64 a1_3, .int .i64 a1_4]] (by rfl) rfl rfl (by (try simp only [List.map_toArray, List.map_cons, List.map_nil]); first | done | rfl) ?_
    (refine (laws_toCmd.calls a1_0 a1_1 a1_2 a1_3 a1_4 a1_0 a1_1 a1_2 a1_3 a1_4 w4 H2.1).mono ?_)
    rintro e w5 ⟨rfl, hb⟩
    refine ⟨_, rfl, ?_⟩
    have Z5 : Ad (w4.heap.size ≤ w5.heap.size) := ⟨hb.size⟩
    replace X1 := Am (Rb X1.1 hb)
    replace BX1 := Am (Kb BX1.1 hb)
    replace BX2 := Am (Kb BX2.1 hb)
    replace HB := Am (Bh HB.1 HB.1.size hb)
    replace HBr := Am (Bh HBr.1 HBr.1.size hb)
    clear hb
    refine hK.out _ _ ⟨BX1.1, BX2.1⟩ (fun hHeld => ?_)
    clear hK K
    refine norm_ (a' := ?_) ?_ ?_
    rotate_left
    ·show Act.put _ (some 29) _ = _
     simp only [Act.put, Lt, Lz, Ls, i64_w, i32_w]
     rfl
    refine two_ (i := 6) (j := 10) (Ni := some 32) (Nj := some 10) #[true, true, true, true, true, true, true, false, false, false, false, false, false] #[true, true, true, true, true, true, false, false, false, false, true, false, false] rfl rfl rfl rfl (by kernel_rfl) (by decide) (by decide) (fun K hK => ?_) (fun K hK => ?_)
    ·skip
     refine goes_ Try.func23 (by kernel_rfl) rfl #[.agg #[.int .i64 r2, .slice A1_ r3.length c1_], .agg #[.int .i64 a1_0, .int .i64 a1_1, .int .i64 a1_2, .int .i64 a1_3, .int .i64 a1_4], .int .i64 a2, .int .i64 a3] (by rfl) rfl rfl (by (try simp only [List.map_toArray, List.map_cons, List.map_nil]); first | done | rfl) ?_
     (refine (spec_AttrFor.calls K3 r2 A1_ c1_ r3 a1_0 a1_1 a1_2 a1_3 a1_4 a2 a3 r4 r5 r6 w5 (Rr X1.1).2.2 (Rr X1.1).2.1 H3.1).mono ?_)
     rintro e w6 ⟨v1_, rfl, hS0, hb⟩
     refine ⟨_, rfl, ?_⟩
     have X2 : Ad (Kd.R (Kd.int .i64) 3 w6 w.heap.size (fun k => w5.heap.size ≤ k ∧ k < w6.heap.size) v1_ r5) := ⟨Rm (Kd.R_lower (Ro hS0) HB.1.size) (fun k hk => ⟨hk.2.1, hk.2.2.1⟩)⟩
     have Z6 : Ad (w5.heap.size ≤ w6.heap.size) := ⟨hb.size⟩
     replace X1 := Am (Rb X1.1 hb)
     replace BX1 := Am (Kb BX1.1 hb)
     replace BX2 := Am (Kb BX2.1 hb)
     replace HB := Am (Bh HB.1 HB.1.size hb)
     replace HBr := Am (Bh HBr.1 HBr.1.size hb)
     clear hb hS0
     obtain ⟨A2_, c2_, rfl⟩ := Rs X2.1
     refine hK.out _ _ ⟨BX1.1, BX2.1⟩ (fun hHeld => ?_)
     clear hK K
     refine norm_ (a' := ?_) ?_ ?_
     rotate_left
     ·show Act.put _ (some 32) _ = _
      simp only [Act.put, Lt, Lz, Ls, i64_w, i32_w]
      rfl
     refine pure_ (i := 7) (N := some 25) (v := ?_) (a' := ?_) #[true, true, true, true, true, true, true, true, false, false, false, false, false] rfl rfl (by kernel_rfl) (fun _ _ _ h => h) (Or.inl ⟨by rfl, ?_⟩) ?_ ?_
     rotate_left
     ·intro w'
      go_simp
      with_reducible rfl
     rotate_left
     ·simp only [Act.put, Lt, Lz, Ls, i64_w, i32_w]
      rfl
     refine pure_ (i := 8) (N := some 33) (v := ?_) (a' := ?_) #[true, true, true, true, true, true, true, true, true, false, false, false, false] rfl rfl (by kernel_rfl) (fun _ _ _ h => h) (Or.inl ⟨by rfl, ?_⟩) ?_ ?_
     rotate_left
     ·intro w'
      go_simp
      with_reducible rfl
     rotate_left
     ·simp only [Act.put, Lt, Lz, Ls, i64_w, i32_w]
      rfl
     refine pure_ (i := 9) (N := some 34) (v := ?_) (a' := ?_) #[true, true, true, true, true, true, true, true, true, true, false, false, false] rfl rfl (by kernel_rfl) (fun _ _ _ h => h) (Or.inl ⟨by rfl, ?_⟩) ?_ ?_
     rotate_left
     ·intro w'
      go_simp
      with_reducible rfl
     rotate_left
     ·simp only [Act.put, Lt, Lz, Ls, i64_w, i32_w]
      rfl
     refine one_ (i := 10) (N := some 10) #[true, true, true, true, true, true, true, true, true, true, true, false, false] rfl rfl (by kernel_rfl) (by decide) (fun K hK => ?_)
     refine box_step ?hg (N := 10) ?hd (cs := #[.int .i64 0, .slice none 0 0]) (t := 46) ?hr ?_; (case hd | hg => rfl); (case hr => first | (go_simp; done) | (go_simp; rfl))
     intro gb6 hg w7 hbox hb
     have GW_ : Ad (w3.heap.size ≤ gb6) := ⟨by rw [hg]; exact HBr.1.size⟩
     have Z7 : Ad (w6.heap.size ≤ w7.heap.size) := ⟨hb.size⟩
     replace X1 := Am (Rb X1.1 hb)
     replace X2 := Am (Rb X2.1 hb)
     replace BX1 := Am (Kb BX1.1 hb)
     replace BX2 := Am (Kb BX2.1 hb)
     replace HB := Am (Bh HB.1 HB.1.size hb)
     replace HBr := Am (Bh HBr.1 HBr.1.size hb)
     have BXz : Ad (w7.heap[gb6]? = some (.cells #[.int .i64 0, .slice none 0 0] 46 (0, 0))) := ⟨hbox⟩
     clear hg hb hbox
     refine hK.out _ _ ⟨BX1.1, BX2.1⟩ (fun hHeld => ?_)
     clear hK K
     refine norm_ (a' := ?_) ?_ ?_
     rotate_left
     ·show Act.put _ (some 10) _ = _
      simp only [Act.put, Lt, Lz, Ls, i64_w, i32_w]
      rfl
     exact norm_ (by simp only [putAll, Act.put, Lt, Lz, Ls]) (hCont (.slice A1_ r3.length c1_, .slice A2_ r5.length c2_, gb6) _ ⟨⟨BX1.1, BX2.1⟩, HBr.1, Rm (Ro X2.1) (fun k hk => ⟨by have := Z1.1; have := GBX1.1; have := GBX2.1; have := Z2.1; have := Z3.1; have := Z4.1; have := Z5.1; have := Z6.1; have := Z7.1; have h3_ := hk.1; (try dsimp only at h3_); omega, hk.2.2.1⟩), BXz.1, GW_.1⟩)
    ·skip
     refine box_step ?hg (N := 10) ?hd (cs := #[.int .i64 0, .slice none 0 0]) (t := 46) ?hr ?_; (case hd | hg => rfl); (case hr => first | (go_simp; done) | (go_simp; rfl))
     intro gb7 hg w8 hbox hb
     have GW_ : Ad (w3.heap.size ≤ gb7) := ⟨by rw [hg]; exact HBr.1.size⟩
     have Z8 : Ad (w5.heap.size ≤ w8.heap.size) := ⟨hb.size⟩
     replace X1 := Am (Rb X1.1 hb)
     replace BX1 := Am (Kb BX1.1 hb)
     replace BX2 := Am (Kb BX2.1 hb)
     replace HB := Am (Bh HB.1 HB.1.size hb)
     replace HBr := Am (Bh HBr.1 HBr.1.size hb)
     have BXz : Ad (w8.heap[gb7]? = some (.cells #[.int .i64 0, .slice none 0 0] 46 (0, 0))) := ⟨hbox⟩
     clear hg hb hbox
     refine hK.out _ _ ⟨BX1.1, BX2.1⟩ (fun hHeld => ?_)
     clear hK K
     refine norm_ (a' := ?_) ?_ ?_
     rotate_left
     ·show Act.put _ (some 10) _ = _
      simp only [Act.put, Lt, Lz, Ls, i64_w, i32_w]
      rfl
     refine one_ (i := 6) (N := some 32) #[true, true, true, true, true, true, true, false, false, false, true, false, false] rfl rfl (by kernel_rfl) (by decide) (fun K hK => ?_)
     refine goes_ Try.func23 (by kernel_rfl) rfl #[.agg #[.int .i64 r2, .slice A1_ r3.length c1_], .agg #[.int .i64 a1_0, .int .i64 a1_1, .int .i64 a1_2, .int .i64 a1_3, .int .i64 a1_4], .int .i64 a2, .int .i64 a3] (by rfl) rfl rfl (by (try simp only [List.map_toArray, List.map_cons, List.map_nil]); first | done | rfl) ?_
     (refine (spec_AttrFor.calls K3 r2 A1_ c1_ r3 a1_0 a1_1 a1_2 a1_3 a1_4 a2 a3 r4 r5 r6 w8 (Rr X1.1).2.2 (Rr X1.1).2.1 H3.1).mono ?_)
     rintro e w9 ⟨v1_, rfl, hS0, hb⟩
     refine ⟨_, rfl, ?_⟩
     have X3 : Ad (Kd.R (Kd.int .i64) 3 w9 w.heap.size (fun k => w8.heap.size ≤ k ∧ k < w9.heap.size) v1_ r5) := ⟨Rm (Kd.R_lower (Ro hS0) HB.1.size) (fun k hk => ⟨hk.2.1, hk.2.2.1⟩)⟩
     have Z9 : Ad (w8.heap.size ≤ w9.heap.size) := ⟨hb.size⟩
     replace X1 := Am (Rb X1.1 hb)
     replace BX1 := Am (Kb BX1.1 hb)
     replace BX2 := Am (Kb BX2.1 hb)
     replace BXz := Am (Kb BXz.1 hb)
     replace HB := Am (Bh HB.1 HB.1.size hb)
     replace HBr := Am (Bh HBr.1 HBr.1.size hb)
     clear hb hS0
     obtain ⟨A3_, c3_, rfl⟩ := Rs X3.1
     refine hK.out _ _ ⟨BX1.1, BX2.1⟩ (fun hHeld => ?_)
     clear hK K
     refine norm_ (a' := ?_) ?_ ?_
     rotate_left
     ·show Act.put _ (some 32) _ = _
      simp only [Act.put, Lt, Lz, Ls, i64_w, i32_w]
      rfl
     refine pure_ (i := 7) (N := some 25) (v := ?_) (a' := ?_) #[true, true, true, true, true, true, true, true, false, false, true, false, false] rfl rfl (by kernel_rfl) (fun _ _ _ h => h) (Or.inl ⟨by rfl, ?_⟩) ?_ ?_
     rotate_left
     ·intro w'
      go_simp
      with_reducible rfl
     rotate_left
     ·simp only [Act.put, Lt, Lz, Ls, i64_w, i32_w]
      rfl
     refine pure_ (i := 8) (N := some 33) (v := ?_) (a' := ?_) #[true, true, true, true, true, true, true, true, true, false, true, false, false] rfl rfl (by kernel_rfl) (fun _ _ _ h => h) (Or.inl ⟨by rfl, ?_⟩) ?_ ?_
     rotate_left
     ·intro w'
      go_simp
      with_reducible rfl
     rotate_left
     ·simp only [Act.put, Lt, Lz, Ls, i64_w, i32_w]
      rfl
     refine pure_ (i := 9) (N := some 34) (v := ?_) (a' := ?_) #[true, true, true, true, true, true, true, true, true, true, true, false, false] rfl rfl (by kernel_rfl) (fun _ _ _ h => h) (Or.inl ⟨by rfl, ?_⟩) ?_ ?_
     rotate_left
     ·intro w'
      go_simp
      with_reducible rfl
     rotate_left
     ·simp only [Act.put, Lt, Lz, Ls, i64_w, i32_w]
      rfl
     exact norm_ (by simp only [putAll, Act.put, Lt, Lz, Ls]) (hCont (.slice A1_ r3.length c1_, .slice A3_ r5.length c3_, gb7) _ ⟨⟨BX1.1, BX2.1⟩, HBr.1, Rm (Ro X3.1) (fun k hk => ⟨by have := Z1.1; have := GBX1.1; have := GBX2.1; have := Z2.1; have := Z3.1; have := Z4.1; have := Z5.1; have := Z8.1; have := Z9.1; have h3_ := hk.1; (try dsimp only at h3_); omega, hk.2.2.1⟩), BXz.1, GW_.1⟩)
   ·skip
    refine box_step ?hg (N := 10) ?hd (cs := #[.int .i64 0, .slice none 0 0]) (t := 46) ?hr ?_; (case hd | hg => rfl); (case hr => first | (go_simp; done) | (go_simp; rfl))
    intro gb9 hg w10 hbox hb
    have GW_ : Ad (w3.heap.size ≤ gb9) := ⟨by rw [hg]; exact HBr.1.size⟩
    have Z10 : Ad (w4.heap.size ≤ w10.heap.size) := ⟨hb.size⟩
    replace X1 := Am (Rb X1.1 hb)
    replace BX1 := Am (Kb BX1.1 hb)
    replace BX2 := Am (Kb BX2.1 hb)
    replace HB := Am (Bh HB.1 HB.1.size hb)
    replace HBr := Am (Bh HBr.1 HBr.1.size hb)
    have BXz : Ad (w10.heap[gb9]? = some (.cells #[.int .i64 0, .slice none 0 0] 46 (0, 0))) := ⟨hbox⟩
    clear hg hb hbox
    refine hK.out _ _ ⟨BX1.1, BX2.1⟩ (fun hHeld => ?_)
    clear hK K
    refine norm_ (a' := ?_) ?_ ?_
    rotate_left
    ·show Act.put _ (some 10) _ = _
     simp only [Act.put, Lt, Lz, Ls, i64_w, i32_w]
     rfl
    refine one_ (i := 3) (N := some 29) #[true, true, true, true, true, true, false, false, false, false, true, false, false] rfl rfl (by kernel_rfl) (by decide) (fun K hK => ?_)
    refine goes_ Try.func24 (by kernel_rfl) rfl #[.agg #[.int .i64 a1_0, .int .i64 a1_1, .int .i64 a1_2, .int .i64 a1_3, .int .i64 a1_4]] (by rfl) rfl rfl (by (try simp only [List.map_toArray, List.map_cons, List.map_nil]); first | done | rfl) ?_
    (refine (laws_toCmd.calls a1_0 a1_1 a1_2 a1_3 a1_4 a1_0 a1_1 a1_2 a1_3 a1_4 w10 H2.1).mono ?_)
    rintro e w11 ⟨rfl, hb⟩
    refine ⟨_, rfl, ?_⟩
    have Z11 : Ad (w10.heap.size ≤ w11.heap.size) := ⟨hb.size⟩
    replace X1 := Am (Rb X1.1 hb)
    replace BX1 := Am (Kb BX1.1 hb)
    replace BX2 := Am (Kb BX2.1 hb)
    replace BXz := Am (Kb BXz.1 hb)
    replace HB := Am (Bh HB.1 HB.1.size hb)
    replace HBr := Am (Bh HBr.1 HBr.1.size hb)
    clear hb
    refine hK.out _ _ ⟨BX1.1, BX2.1⟩ (fun hHeld => ?_)
    clear hK K
    refine norm_ (a' := ?_) ?_ ?_
    rotate_left
    ·show Act.put _ (some 29) _ = _
     simp only [Act.put, Lt, Lz, Ls, i64_w, i32_w]
     rfl
    refine one_ (i := 6) (N := some 32) #[true, true, true, true, true, true, true, false, false, false, true, false, false] rfl rfl (by kernel_rfl) (by decide) (fun K hK => ?_)
    refine goes_ Try.func23 (by kernel_rfl) rfl #[.agg #[.int .i64 r2, .slice A1_ r3.length c1_], .agg #[.int .i64 a1_0, .int .i64 a1_1, .int .i64 a1_2, .int .i64 a1_3, .int .i64 a1_4], .int .i64 a2, .int .i64 a3] (by rfl) rfl rfl (by (try simp only [List.map_toArray, List.map_cons, List.map_nil]); first | done | rfl) ?_
    (refine (spec_AttrFor.calls K3 r2 A1_ c1_ r3 a1_0 a1_1 a1_2 a1_3 a1_4 a2 a3 r4 r5 r6 w11 (Rr X1.1).2.2 (Rr X1.1).2.1 H3.1).mono ?_)
    rintro e w12 ⟨v1_, rfl, hS0, hb⟩
    refine ⟨_, rfl, ?_⟩
    have X4 : Ad (Kd.R (Kd.int .i64) 3 w12 w.heap.size (fun k => w11.heap.size ≤ k ∧ k < w12.heap.size) v1_ r5) := ⟨Rm (Kd.R_lower (Ro hS0) HB.1.size) (fun k hk => ⟨hk.2.1, hk.2.2.1⟩)⟩
    have Z12 : Ad (w11.heap.size ≤ w12.heap.size) := ⟨hb.size⟩
    replace X1 := Am (Rb X1.1 hb)
    replace BX1 := Am (Kb BX1.1 hb)
    replace BX2 := Am (Kb BX2.1 hb)
    replace BXz := Am (Kb BXz.1 hb)
    replace HB := Am (Bh HB.1 HB.1.size hb)
    replace HBr := Am (Bh HBr.1 HBr.1.size hb)
    clear hb hS0
    obtain ⟨A4_, c4_, rfl⟩ := Rs X4.1
    refine hK.out _ _ ⟨BX1.1, BX2.1⟩ (fun hHeld => ?_)
    clear hK K
    refine norm_ (a' := ?_) ?_ ?_
    rotate_left
    ·show Act.put _ (some 32) _ = _
     simp only [Act.put, Lt, Lz, Ls, i64_w, i32_w]
     rfl
    refine pure_ (i := 7) (N := some 25) (v := ?_) (a' := ?_) #[true, true, true, true, true, true, true, true, false, false, true, false, false] rfl rfl (by kernel_rfl) (fun _ _ _ h => h) (Or.inl ⟨by rfl, ?_⟩) ?_ ?_
    rotate_left
    ·intro w'
     go_simp
     with_reducible rfl
    rotate_left
    ·simp only [Act.put, Lt, Lz, Ls, i64_w, i32_w]
     rfl
    refine pure_ (i := 8) (N := some 33) (v := ?_) (a' := ?_) #[true, true, true, true, true, true, true, true, true, false, true, false, false] rfl rfl (by kernel_rfl) (fun _ _ _ h => h) (Or.inl ⟨by rfl, ?_⟩) ?_ ?_
    rotate_left
    ·intro w'
     go_simp
     with_reducible rfl
    rotate_left
    ·simp only [Act.put, Lt, Lz, Ls, i64_w, i32_w]
     rfl
    refine pure_ (i := 9) (N := some 34) (v := ?_) (a' := ?_) #[true, true, true, true, true, true, true, true, true, true, true, false, false] rfl rfl (by kernel_rfl) (fun _ _ _ h => h) (Or.inl ⟨by rfl, ?_⟩) ?_ ?_
    rotate_left
    ·intro w'
     go_simp
     with_reducible rfl
    rotate_left
    ·simp only [Act.put, Lt, Lz, Ls, i64_w, i32_w]
     rfl
    exact norm_ (by simp only [putAll, Act.put, Lt, Lz, Ls]) (hCont (.slice A1_ r3.length c1_, .slice A4_ r5.length c4_, gb9) _ ⟨⟨BX1.1, BX2.1⟩, HBr.1, Rm (Ro X4.1) (fun k hk => ⟨by have := Z1.1; have := GBX1.1; have := GBX2.1; have := Z2.1; have := Z3.1; have := Z4.1; have := Z10.1; have := Z11.1; have := Z12.1; have h3_ := hk.1; (try dsimp only at h3_); omega, hk.2.2.1⟩), BXz.1, GW_.1⟩)
  ·skip
   refine box_step ?hg (N := 10) ?hd (cs := #[.int .i64 0, .slice none 0 0]) (t := 46) ?hr ?_; (case hd | hg => rfl); (case hr => first | (go_simp; done) | (go_simp; rfl))
   intro gb12 hg w13 hbox hb
   have GW_ : Ad (w3.heap.size ≤ gb12) := ⟨by rw [hg]; exact HBr.1.size⟩
   have Z13 : Ad (w3.heap.size ≤ w13.heap.size) := ⟨hb.size⟩
   replace BX1 := Am (Kb BX1.1 hb)
   replace BX2 := Am (Kb BX2.1 hb)
   replace HB := Am (Bh HB.1 HB.1.size hb)
   replace HBr := Am (Bh HBr.1 HBr.1.size hb)
   have BXz : Ad (w13.heap[gb12]? = some (.cells #[.int .i64 0, .slice none 0 0] 46 (0, 0))) := ⟨hbox⟩
   clear hg hb hbox
   refine hK.out _ _ ⟨BX1.1, BX2.1⟩ (fun hHeld => ?_)
   clear hK K
   refine norm_ (a' := ?_) ?_ ?_
   rotate_left
   ·show Act.put _ (some 10) _ = _
    simp only [Act.put, Lt, Lz, Ls, i64_w, i32_w]
    rfl
   refine one_ (i := 1) (N := some 27) #[true, true, true, false, true, true, false, false, false, false, true, false, false] rfl rfl (by kernel_rfl) (by decide) (fun K hK => ?_)
   refine goes_ Try.func11 (by kernel_rfl) rfl #[.agg #[.int .i64 a0_0, .slice A0_1 l0_1.length c0_1]] (by rfl) rfl rfl (by (try simp only [List.map_toArray, List.map_cons, List.map_nil]); first | done | rfl) ?_
   (refine (laws_toTable.calls K1 a0_0 A0_1 c0_1 l0_1 r2 r3 w13 (Cb HR0_1.1 HB.1) HC0_1.1 H1.1).mono ?_)
   rintro e w14 ⟨v1_, rfl, hS0, hb⟩
   refine ⟨_, rfl, ?_⟩
   have X5 : Ad (Kd.R (Kd.slice 72 k72) 70 w14 w.heap.size (fun k => w13.heap.size ≤ k ∧ k < w14.heap.size) v1_ r3) := ⟨Rm (Kd.R_lower (Ro hS0) HB.1.size) (fun k hk => ⟨hk.2.1, hk.2.2.1⟩)⟩
   have Z14 : Ad (w13.heap.size ≤ w14.heap.size) := ⟨hb.size⟩
   replace BX1 := Am (Kb BX1.1 hb)
   replace BX2 := Am (Kb BX2.1 hb)
   replace BXz := Am (Kb BXz.1 hb)
   replace HB := Am (Bh HB.1 HB.1.size hb)
   replace HBr := Am (Bh HBr.1 HBr.1.size hb)
   clear hb hS0
   obtain ⟨A5_, c5_, rfl⟩ := Rs X5.1
   refine hK.out _ _ ⟨BX1.1, BX2.1⟩ (fun hHeld => ?_)
   clear hK K
   refine norm_ (a' := ?_) ?_ ?_
   rotate_left
   ·show Act.put _ (some 27) _ = _
    simp only [Act.put, Lt, Lz, Ls, i64_w, i32_w]
    rfl
   refine one_ (i := 3) (N := some 29) #[true, true, true, true, true, true, false, false, false, false, true, false, false] rfl rfl (by kernel_rfl) (by decide) (fun K hK => ?_)
   refine goes_ Try.func24 (by kernel_rfl) rfl #[.agg #[.int .i64 a1_0, .int .i64 a1_1, .int .i64 a1_2, .int .i64 a1_3, .int .i64 a1_4]] (by rfl) rfl rfl (by (try simp only [List.map_toArray, List.map_cons, List.map_nil]); first | done | rfl) ?_
   (refine (laws_toCmd.calls a1_0 a1_1 a1_2 a1_3 a1_4 a1_0 a1_1 a1_2 a1_3 a1_4 w14 H2.1).mono ?_)
   rintro e w15 ⟨rfl, hb⟩
   refine ⟨_, rfl, ?_⟩
   have Z15 : Ad (w14.heap.size ≤ w15.heap.size) := ⟨hb.size⟩
   replace X5 := Am (Rb X5.1 hb)
   replace BX1 := Am (Kb BX1.1 hb)
   replace BX2 := Am (Kb BX2.1 hb)
   replace BXz := Am (Kb BXz.1 hb)
   replace HB := Am (Bh HB.1 HB.1.size hb)
   replace HBr := Am (Bh HBr.1 HBr.1.size hb)
   clear hb
   refine hK.out _ _ ⟨BX1.1, BX2.1⟩ (fun hHeld => ?_)
   clear hK K
   refine norm_ (a' := ?_) ?_ ?_
   rotate_left
   ·show Act.put _ (some 29) _ = _
    simp only [Act.put, Lt, Lz, Ls, i64_w, i32_w]
    rfl
   refine one_ (i := 6) (N := some 32) #[true, true, true, true, true, true, true, false, false, false, true, false, false] rfl rfl (by kernel_rfl) (by decide) (fun K hK => ?_)
   refine goes_ Try.func23 (by kernel_rfl) rfl #[.agg #[.int .i64 r2, .slice A5_ r3.length c5_], .agg #[.int .i64 a1_0, .int .i64 a1_1, .int .i64 a1_2, .int .i64 a1_3, .int .i64 a1_4], .int .i64 a2, .int .i64 a3] (by rfl) rfl rfl (by (try simp only [List.map_toArray, List.map_cons, List.map_nil]); first | done | rfl) ?_
   (refine (spec_AttrFor.calls K3 r2 A5_ c5_ r3 a1_0 a1_1 a1_2 a1_3 a1_4 a2 a3 r4 r5 r6 w15 (Rr X5.1).2.2 (Rr X5.1).2.1 H3.1).mono ?_)
   rintro e w16 ⟨v1_, rfl, hS0, hb⟩
   refine ⟨_, rfl, ?_⟩
   have X6 : Ad (Kd.R (Kd.int .i64) 3 w16 w.heap.size (fun k => w15.heap.size ≤ k ∧ k < w16.heap.size) v1_ r5) := ⟨Rm (Kd.R_lower (Ro hS0) HB.1.size) (fun k hk => ⟨hk.2.1, hk.2.2.1⟩)⟩
   have Z16 : Ad (w15.heap.size ≤ w16.heap.size) := ⟨hb.size⟩
   replace X5 := Am (Rb X5.1 hb)
   replace BX1 := Am (Kb BX1.1 hb)
   replace BX2 := Am (Kb BX2.1 hb)
   replace BXz := Am (Kb BXz.1 hb)
   replace HB := Am (Bh HB.1 HB.1.size hb)
   replace HBr := Am (Bh HBr.1 HBr.1.size hb)
   clear hb hS0
   obtain ⟨A6_, c6_, rfl⟩ := Rs X6.1
   refine hK.out _ _ ⟨BX1.1, BX2.1⟩ (fun hHeld => ?_)
   clear hK K
   refine norm_ (a' := ?_) ?_ ?_
   rotate_left
   ·show Act.put _ (some 32) _ = _
    simp only [Act.put, Lt, Lz, Ls, i64_w, i32_w]
    rfl
   refine pure_ (i := 7) (N := some 25) (v := ?_) (a' := ?_) #[true, true, true, true, true, true, true, true, false, false, true, false, false] rfl rfl (by kernel_rfl) (fun _ _ _ h => h) (Or.inl ⟨by rfl, ?_⟩) ?_ ?_
   rotate_left
   ·intro w'
    go_simp
    with_reducible rfl
   rotate_left
   ·simp only [Act.put, Lt, Lz, Ls, i64_w, i32_w]
    rfl
   refine pure_ (i := 8) (N := some 33) (v := ?_) (a' := ?_) #[true, true, true, true, true, true, true, true, true, false, true, false, false] rfl rfl (by kernel_rfl) (fun _ _ _ h => h) (Or.inl ⟨by rfl, ?_⟩) ?_ ?_
   rotate_left
   ·intro w'
    go_simp
    with_reducible rfl
   rotate_left
   ·simp only [Act.put, Lt, Lz, Ls, i64_w, i32_w]
    rfl
   refine pure_ (i := 9) (N := some 34) (v := ?_) (a' := ?_) #[true, true, true, true, true, true, true, true, true, true, true, false, false] rfl rfl (by kernel_rfl) (fun _ _ _ h => h) (Or.inl ⟨by rfl, ?_⟩) ?_ ?_
   rotate_left
   ·intro w'
    go_simp
    with_reducible rfl
   rotate_left
   ·simp only [Act.put, Lt, Lz, Ls, i64_w, i32_w]
    rfl
   exact norm_ (by simp only [putAll, Act.put, Lt, Lz, Ls]) (hCont (.slice A5_ r3.length c5_, .slice A6_ r5.length c6_, gb12) _ ⟨⟨BX1.1, BX2.1⟩, HBr.1, Rm (Ro X6.1) (fun k hk => ⟨by have := Z1.1; have := GBX1.1; have := GBX2.1; have := Z2.1; have := Z3.1; have := Z13.1; have := Z14.1; have := Z15.1; have := Z16.1; have h3_ := hk.1; (try dsimp only at h3_); omega, hk.2.2.1⟩), BXz.1, GW_.1⟩)
 clear HBr
 rintro ⟨v16_0, v16_1, gb16⟩ w17 ⟨hHeld, hb, hS0, hbox, hge⟩
 have Z17 : Ad (w3.heap.size ≤ w17.heap.size) := ⟨hb.size⟩
 replace BX1 := Am (Kb BX1.1 hb)
 replace BX2 := Am (Kb BX2.1 hb)
 replace HB := Am (Bh HB.1 HB.1.size hb)
 clear hb
 have X7 : Ad (Kd.R (Kd.int .i64) 3 w17 w.heap.size (fun k => w3.heap.size ≤ k ∧ k < w17.heap.size) v16_1 r5) := ⟨hS0⟩
 obtain ⟨A7_, c7_, rfl⟩ := Rs X7.1
 clear hS0
 have GEBX3 : Ad (w3.heap.size ≤ gb16) := ⟨hge⟩
 have BX3 := Am hbox
 clear hge hbox
 have GLBX3 : Ad (gb16 < w17.heap.size) := ⟨Kl BX3.1⟩
 refine norm_ (a' := ?_) ?_ ?_
 rotate_left
 ·simp only [putAll, Act.put, Lt, Lz, Ls]
  rfl
 refine one_ (i := 11) (N := none) #[true, true, true, true, true, true, true, true, true, true, true, true, false] rfl rfl (by kernel_rfl) (by decide) (fun K hK => ?_)
 refine skip_ (by rfl) rfl (store_run (cs' := #[.int .i64 r4, .slice A7_ r5.length c7_]) BX3.1 2 rfl rfl 46 _ _ (by rfl) (by rfl) (by rfl) (by kernel_rfl) (by first | (simp [Value.oneCell']; done) | kernel_rfl)) ?_
 have hk := kept_setRow w17 gb16 #[.int .i64 r4, .slice A7_ r5.length c7_]
 have hbx := setRow_heap w17 gb16 _ #[.int .i64 r4, .slice A7_ r5.length c7_] _ _ BX3.1
 have hb := below_setRow_ HB.1 (g := gb16) (by have h3_ := GEBX3.1; have := Z1.1; have := GBX1.1; have := GBX2.1; have := Z2.1; have := Z3.1; have := Z17.1; have := GEBX3.1; have := GLBX3.1; omega) #[.int .i64 r4, .slice A7_ r5.length c7_]
 generalize w17.setRow gb16 #[.int .i64 r4, .slice A7_ r5.length c7_] = w18 at hk hbx hb ⊢
 have Z18 : Ad (w17.heap.size ≤ w18.heap.size) := ⟨hk.1⟩
 have n0_ := Am (Rm (Rk (Kd.R_types X7.1 BX3.1 (by decide)) hk (fun k h1_ h2_ => h1_.2 h2_)) (fun k h1_ => h1_.1))
 have n1_ := Am (Kq BX1.1 hk (fun h1_ => by have := Z1.1; have := GBX1.1; have := GBX2.1; have := Z2.1; have := Z3.1; have := Z17.1; have := GEBX3.1; have := GLBX3.1; (try dsimp only at h1_); omega))
 have n2_ := Am (Kq BX2.1 hk (fun h1_ => by have := Z1.1; have := GBX1.1; have := GBX2.1; have := Z2.1; have := Z3.1; have := Z17.1; have := GEBX3.1; have := GLBX3.1; (try dsimp only at h1_); omega))
 have n3_ := Am (hb)
 clear X7 BX1 BX2 HB BX3
 have X7 := n0_
 have BX1 := n1_
 have BX2 := n2_
 have HB := n3_
 clear n0_ n1_ n2_ n3_
 have BX3 : Ad (w18.heap[gb16]? = some (.cells #[.int .i64 r4, .slice A7_ r5.length c7_] 46 (0, 0))) := ⟨hbx⟩
 clear hbx hb hk
 refine hK.out _ _ ⟨BX1.1, BX2.1⟩ (fun hHeld => ?_)
 clear hK K
 refine pure_ (i := 12) (N := some 11) (v := ?_) (a' := ?_) #[true, true, true, true, true, true, true, true, true, true, true, true, true] rfl rfl (by kernel_rfl) (fun _ _ _ h => h) (Or.inl ⟨by rfl, ?_⟩) ?_ ?_
 rotate_left
 ·intro w'
  go_simp
  with_reducible rfl
 rotate_left
 ·simp only [Act.put, Lt, Lz, Ls, i64_w, i32_w]
  rfl
 refine done_ (by kernel_rfl) ?_
 go_wp2_with (first | ((refine Gd (N := 20) rfl ?_); first | refine Er rfl (load_run BX1.1 2 rfl 24 _ (by rfl) (by rfl) _ Try.underlying24 rfl (by kernel_rfl)) ?_) | ((refine Gd (N := 26) rfl ?_); first | refine Er rfl (load_run BX1.1 2 rfl 24 _ (by rfl) (by rfl) _ Try.underlying24 rfl (by kernel_rfl)) ?_) | ((refine Gd (N := 35) rfl ?_); first | refine Er rfl (load_run BX1.1 2 rfl 24 _ (by rfl) (by rfl) _ Try.underlying24 rfl (by kernel_rfl)) ?_) | ((refine Gd (N := 56) rfl ?_); first | refine Er rfl (load_run BX1.1 2 rfl 24 _ (by rfl) (by rfl) _ Try.underlying24 rfl (by kernel_rfl)) ?_) | ((refine Gd (N := 88) rfl ?_); first | refine Er rfl (load_run BX1.1 2 rfl 24 _ (by rfl) (by rfl) _ Try.underlying24 rfl (by kernel_rfl)) ?_))
 (refine (laws_toTable.calls K1 a0_0 A0_1 c0_1 l0_1 r2 r3 w18 (Cb HR0_1.1 HB.1) HC0_1.1 H1.1).mono ?_)
 rintro e w19 ⟨v1_, rfl, hS0, hb⟩
 have X8 : Ad (Kd.R (Kd.slice 72 k72) 70 w19 w.heap.size (fun k => w18.heap.size ≤ k ∧ k < w19.heap.size) v1_ r3) := ⟨Rm (Kd.R_lower (Ro hS0) HB.1.size) (fun k hk => ⟨hk.2.1, hk.2.2.1⟩)⟩
 have Z19 : Ad (w18.heap.size ≤ w19.heap.size) := ⟨hb.size⟩
 replace X7 := Am (Rb X7.1 hb)
 replace BX1 := Am (Kb BX1.1 hb)
 replace BX2 := Am (Kb BX2.1 hb)
 replace BX3 := Am (Kb BX3.1 hb)
 replace HB := Am (Bh HB.1 HB.1.size hb)
 clear hb hS0
 obtain ⟨A8_, c8_, rfl⟩ := Rs X8.1
 go_upto_region 7 with (first | ((refine Gd (N := 28) rfl ?_); first | refine Er rfl (load_run BX2.1 5 rfl 43 _ (by rfl) (by rfl) _ Try.underlying43 rfl (by kernel_rfl)) ?_) | ((refine Gd (N := 39) rfl ?_); first | refine Er rfl (load_run BX2.1 5 rfl 43 _ (by rfl) (by rfl) _ Try.underlying43 rfl (by kernel_rfl)) ?_) | ((refine Gd (N := 90) rfl ?_); first | refine Er rfl (load_run BX2.1 5 rfl 43 _ (by rfl) (by rfl) _ Try.underlying43 rfl (by kernel_rfl)) ?_))
 refine letC (fun W_ => Below w19.heap.size w19 W_ ∧ W_.heap[w19.heap.size]? = some (.cells #[.int .i64 r2, .slice A8_ r3.length c8_] 29 (0, 0))) ?_ ?_
 ·refine ⟨?_, ?_⟩
  ·repeat (first | exact Below.refl _ _ | apply Ba | refine Bs ?_ (by first | exact Nat.le_refl _ | omega | (simp; done)))
  ·exact blk_new w19 (.cells #[.int .i64 r2, .slice A8_ r3.length c8_] 29)
 intro w20 hq_
 obtain ⟨hb, hx0_⟩ := hq_
 have Z20 : Ad (w19.heap.size ≤ w20.heap.size) := ⟨hb.size⟩
 replace X7 := Am (Rb X7.1 hb)
 replace X8 := Am (Rb X8.1 hb)
 replace BX1 := Am (Kb BX1.1 hb)
 replace BX2 := Am (Kb BX2.1 hb)
 replace BX3 := Am (Kb BX3.1 hb)
 replace HB := Am (Bh HB.1 HB.1.size hb)
 clear hb
 have BX4 : Ad (w20.heap[w19.heap.size]? = some (.cells #[.int .i64 r2, .slice A8_ r3.length c8_] 29 (0, 0))) := ⟨hx0_⟩
 clear hx0_
 have GBX4 : Ad (w19.heap.size < w20.heap.size) := ⟨Kl BX4.1⟩
 go_wp2_with (first | ((refine Gd (N := 28) rfl ?_); first | refine Er rfl (load_run BX2.1 5 rfl 43 _ (by rfl) (by rfl) _ Try.underlying43 rfl (by kernel_rfl)) ?_) | ((refine Gd (N := 38) rfl ?_); first | refine Er rfl (load_run BX4.1 2 rfl 29 _ (by rfl) (by rfl) _ Try.underlying29 rfl (by kernel_rfl)) ?_) | ((refine Gd (N := 39) rfl ?_); first | refine Er rfl (load_run BX2.1 5 rfl 43 _ (by rfl) (by rfl) _ Try.underlying43 rfl (by kernel_rfl)) ?_) | ((refine Gd (N := 55) rfl ?_); first | refine Er rfl (load_run BX4.1 2 rfl 29 _ (by rfl) (by rfl) _ Try.underlying29 rfl (by kernel_rfl)) ?_) | ((refine Gd (N := 60) rfl ?_); first | refine Er rfl (load_run BX4.1 2 rfl 29 _ (by rfl) (by rfl) _ Try.underlying29 rfl (by kernel_rfl)) ?_) | ((refine Gd (N := 90) rfl ?_); first | refine Er rfl (load_run BX2.1 5 rfl 43 _ (by rfl) (by rfl) _ Try.underlying43 rfl (by kernel_rfl)) ?_))
 refine start_ (n := 12) (S := fun w' => w'.heap[w.heap.size + 1]? = some (.cells #[.int .i64 a1_0, .int .i64 a1_1, .int .i64 a1_2, .int .i64 a1_3, .int .i64 a1_4] 43 (0, 0)) ∧ w'.heap[w19.heap.size]? = some (.cells #[.int .i64 r2, .slice A8_ r3.length c8_] 29 (0, 0))) (ds := []) #[false, false, false, false, false, false, false, false, false, false, false, false] (by kernel_rfl) rfl rfl ⟨BX2.1, BX4.1⟩ (fun hHeld => ?_)
 have hb : Below w20.heap.size w20 w20.drew := below_drew (Below.refl _ _)
 generalize w20.drew = w21 at hb hHeld ⊢
 have Z21 : Ad (w20.heap.size ≤ w21.heap.size) := ⟨hb.size⟩
 replace X7 := Am (Rb X7.1 hb)
 replace X8 := Am (Rb X8.1 hb)
 replace BX1 := Am (Kb BX1.1 hb)
 replace BX2 := Am (Kb BX2.1 hb)
 replace BX3 := Am (Kb BX3.1 hb)
 replace BX4 := Am (Kb BX4.1 hb)
 replace HB := Am (Bh HB.1 HB.1.size hb)
 clear hb
 refine take_ (i := 0) (N := some 38) (v := ?_) (a' := ?_) #[true, false, false, false, false, false, false, false, false, false, false, false] rfl rfl (by kernel_rfl) (fun _ _ _ h => h) (Or.inl ⟨by rfl, ?_⟩) hHeld ?_ ?_
 rotate_left
 ·rintro w' ⟨s0, s1⟩
  first | (refine Eq.trans (load_run s0 5 rfl 43 _ (by rfl) (by rfl) _ Try.underlying43 rfl (by kernel_rfl)) ?_; with_reducible rfl) | (refine Eq.trans (load_run s1 2 rfl 29 _ (by rfl) (by rfl) _ Try.underlying29 rfl (by kernel_rfl)) ?_; with_reducible rfl)
 rotate_left
 ·simp only [Act.put, Lt, Lz, Ls, i64_w, i32_w]
  rfl
 refine take_ (i := 1) (N := some 39) (v := ?_) (a' := ?_) #[true, true, false, false, false, false, false, false, false, false, false, false] rfl rfl (by kernel_rfl) (fun _ _ _ h => h) (Or.inl ⟨by rfl, ?_⟩) hHeld ?_ ?_
 rotate_left
 ·rintro w' ⟨s0, s1⟩
  first | (refine Eq.trans (load_run s0 5 rfl 43 _ (by rfl) (by rfl) _ Try.underlying43 rfl (by kernel_rfl)) ?_; with_reducible rfl) | (refine Eq.trans (load_run s1 2 rfl 29 _ (by rfl) (by rfl) _ Try.underlying29 rfl (by kernel_rfl)) ?_; with_reducible rfl)
 rotate_left
 ·simp only [Act.put, Lt, Lz, Ls, i64_w, i32_w]
  rfl
 refine pure_ (i := 3) (N := some 41) (v := ?_) (a' := ?_) #[true, true, false, true, false, false, false, false, false, false, false, false] rfl rfl (by kernel_rfl) (fun _ _ _ h => h) (Or.inl ⟨by rfl, ?_⟩) ?_ ?_
 rotate_left
 ·intro w'
  go_simp
  with_reducible rfl
 rotate_left
 ·simp only [Act.put, Lt, Lz, Ls, i64_w, i32_w]
  rfl
 refine pure_ (i := 4) (N := some 42) (v := ?_) (a' := ?_) #[true, true, false, true, true, false, false, false, false, false, false, false] rfl rfl (by kernel_rfl) (fun _ _ _ h => h) (Or.inl ⟨by rfl, ?_⟩) ?_ ?_
 rotate_left
 ·intro w'
  go_simp
  with_reducible rfl
 rotate_left
 ·simp only [Act.put, Lt, Lz, Ls, i64_w, i32_w]
  rfl
 have HBr := Am (Below.refl w21.heap.size w21)
 obtain ⟨⟨K4, h4⟩, hF⟩ := HF.1
 clear HF
 have HF := Am hF
 clear hF
 have H4 := Am h4
 clear h4
 refine join_ (σ := Value × Nat) 2 #[true, true, true, true, true, true, true, true, true, true, false, false] (fun s_ => [(40, .agg #[.int .i64 a1_0, .int .i64 a1_1, .int .i64 a1_2, .int .i64 a1_3, .int .i64 a1_4]), (43, .tuple #[.agg #[.int .i64 r4, s_.1], .bool r6]), (13, .pointer (some ⟨s_.2, 0, none⟩)), (37, .tuple #[.agg #[.int .i64 r4, s_.1], .bool r6]), (44, .agg #[.int .i64 r4, s_.1]), (45, .bool r6)]) (fun s_ w' => (w'.heap[w.heap.size + 1]? = some (.cells #[.int .i64 a1_0, .int .i64 a1_1, .int .i64 a1_2, .int .i64 a1_3, .int .i64 a1_4] 43 (0, 0)) ∧ w'.heap[w19.heap.size]? = some (.cells #[.int .i64 r2, .slice A8_ r3.length c8_] 29 (0, 0))) ∧ Below w21.heap.size w21 w' ∧ Kd.R (Kd.int .i64) 3 w' w.heap.size (fun k => w21.heap.size ≤ k ∧ k < w'.heap.size) s_.1 r5 ∧ w'.heap[s_.2]? = some (.cells #[.int .i64 0, .slice none 0 0] 46 (0, 0)) ∧ w21.heap.size ≤ s_.2) ?_ ?_
 rotate_left
 ·intro hCont
  refine two_ (i := 2) (j := 9) (Ni := some 40) (Nj := some 13) #[true, true, true, true, true, false, false, false, false, false, false, false] #[true, true, false, true, true, false, false, false, false, true, false, false] rfl rfl rfl rfl (by kernel_rfl) (by decide) (by decide) (fun K hK => ?_) (fun K hK => ?_)
  ·skip
   refine goes_ Try.func24 (by kernel_rfl) rfl #[.agg #[.int .i64 a1_0, .int .i64 a1_1, .int .i64 a1_2, .int .i64 a1_3, .int .i64 a1_4]] (by rfl) rfl rfl (by (try simp only [List.map_toArray, List.map_cons, List.map_nil]); first | done | rfl) ?_
   (refine (laws_toCmd.calls a1_0 a1_1 a1_2 a1_3 a1_4 a1_0 a1_1 a1_2 a1_3 a1_4 w21 H2.1).mono ?_)
   rintro e w22 ⟨rfl, hb⟩
   refine ⟨_, rfl, ?_⟩
   have Z22 : Ad (w21.heap.size ≤ w22.heap.size) := ⟨hb.size⟩
   replace X7 := Am (Rb X7.1 hb)
   replace X8 := Am (Rb X8.1 hb)
   replace BX1 := Am (Kb BX1.1 hb)
   replace BX2 := Am (Kb BX2.1 hb)
   replace BX3 := Am (Kb BX3.1 hb)
   replace BX4 := Am (Kb BX4.1 hb)
   replace HB := Am (Bh HB.1 HB.1.size hb)
   replace HBr := Am (Bh HBr.1 HBr.1.size hb)
   clear hb
   refine hK.out _ _ ⟨BX2.1, BX4.1⟩ (fun hHeld => ?_)
   clear hK K
   refine norm_ (a' := ?_) ?_ ?_
   rotate_left
   ·show Act.put _ (some 40) _ = _
    simp only [Act.put, Lt, Lz, Ls, i64_w, i32_w]
    rfl
   refine two_ (i := 5) (j := 9) (Ni := some 43) (Nj := some 13) #[true, true, true, true, true, true, false, false, false, false, false, false] #[true, true, true, true, true, false, false, false, false, true, false, false] rfl rfl rfl rfl (by kernel_rfl) (by decide) (by decide) (fun K hK => ?_) (fun K hK => ?_)
   ·skip
    refine goes_ Try.func25 (by kernel_rfl) rfl #[.agg #[.int .i64 r2, .slice A8_ r3.length c8_], .agg #[.int .i64 a1_0, .int .i64 a1_1, .int .i64 a1_2, .int .i64 a1_3, .int .i64 a1_4], .int .i64 a2, .int .i64 a3] (by rfl) rfl rfl (by (try simp only [List.map_toArray, List.map_cons, List.map_nil]); first | done | rfl) ?_
    (refine (impl_AttrFor.calls K4 r2 A8_ c8_ r3 a1_0 a1_1 a1_2 a1_3 a1_4 a2 a3 r4 r5 r6 w22 (Rr X8.1).2.2 (Rr X8.1).2.1 H4.1).mono ?_)
    rintro e w23 ⟨v1_, rfl, hS0, hb⟩
    refine ⟨_, rfl, ?_⟩
    have X9 : Ad (Kd.R (Kd.int .i64) 3 w23 w.heap.size (fun k => w22.heap.size ≤ k ∧ k < w23.heap.size) v1_ r5) := ⟨Rm (Kd.R_lower (Ro hS0) HB.1.size) (fun k hk => ⟨hk.2.1, hk.2.2.1⟩)⟩
    have Z23 : Ad (w22.heap.size ≤ w23.heap.size) := ⟨hb.size⟩
    replace X7 := Am (Rb X7.1 hb)
    replace X8 := Am (Rb X8.1 hb)
    replace BX1 := Am (Kb BX1.1 hb)
    replace BX2 := Am (Kb BX2.1 hb)
    replace BX3 := Am (Kb BX3.1 hb)
    replace BX4 := Am (Kb BX4.1 hb)
    replace HB := Am (Bh HB.1 HB.1.size hb)
    replace HBr := Am (Bh HBr.1 HBr.1.size hb)
    clear hb hS0
    obtain ⟨A9_, c9_, rfl⟩ := Rs X9.1
    refine hK.out _ _ ⟨BX2.1, BX4.1⟩ (fun hHeld => ?_)
    clear hK K
    refine norm_ (a' := ?_) ?_ ?_
    rotate_left
    ·show Act.put _ (some 43) _ = _
     simp only [Act.put, Lt, Lz, Ls, i64_w, i32_w]
     rfl
    refine pure_ (i := 6) (N := some 37) (v := ?_) (a' := ?_) #[true, true, true, true, true, true, true, false, false, false, false, false] rfl rfl (by kernel_rfl) (fun _ _ _ h => h) (Or.inl ⟨by rfl, ?_⟩) ?_ ?_
    rotate_left
    ·intro w'
     go_simp
     with_reducible rfl
    rotate_left
    ·simp only [Act.put, Lt, Lz, Ls, i64_w, i32_w]
     rfl
    refine pure_ (i := 7) (N := some 44) (v := ?_) (a' := ?_) #[true, true, true, true, true, true, true, true, false, false, false, false] rfl rfl (by kernel_rfl) (fun _ _ _ h => h) (Or.inl ⟨by rfl, ?_⟩) ?_ ?_
    rotate_left
    ·intro w'
     go_simp
     with_reducible rfl
    rotate_left
    ·simp only [Act.put, Lt, Lz, Ls, i64_w, i32_w]
     rfl
    refine pure_ (i := 8) (N := some 45) (v := ?_) (a' := ?_) #[true, true, true, true, true, true, true, true, true, false, false, false] rfl rfl (by kernel_rfl) (fun _ _ _ h => h) (Or.inl ⟨by rfl, ?_⟩) ?_ ?_
    rotate_left
    ·intro w'
     go_simp
     with_reducible rfl
    rotate_left
    ·simp only [Act.put, Lt, Lz, Ls, i64_w, i32_w]
     rfl
    refine one_ (i := 9) (N := some 13) #[true, true, true, true, true, true, true, true, true, true, false, false] rfl rfl (by kernel_rfl) (by decide) (fun K hK => ?_)
    refine box_step ?hg (N := 13) ?hd (cs := #[.int .i64 0, .slice none 0 0]) (t := 46) ?hr ?_; (case hd | hg => rfl); (case hr => first | (go_simp; done) | (go_simp; rfl))
    intro gb23 hg w24 hbox hb
    have GW_ : Ad (w21.heap.size ≤ gb23) := ⟨by rw [hg]; exact HBr.1.size⟩
    have Z24 : Ad (w23.heap.size ≤ w24.heap.size) := ⟨hb.size⟩
    replace X7 := Am (Rb X7.1 hb)
    replace X8 := Am (Rb X8.1 hb)
    replace X9 := Am (Rb X9.1 hb)
    replace BX1 := Am (Kb BX1.1 hb)
    replace BX2 := Am (Kb BX2.1 hb)
    replace BX3 := Am (Kb BX3.1 hb)
    replace BX4 := Am (Kb BX4.1 hb)
    replace HB := Am (Bh HB.1 HB.1.size hb)
    replace HBr := Am (Bh HBr.1 HBr.1.size hb)
    have BXz : Ad (w24.heap[gb23]? = some (.cells #[.int .i64 0, .slice none 0 0] 46 (0, 0))) := ⟨hbox⟩
    clear hg hb hbox
    refine hK.out _ _ ⟨BX2.1, BX4.1⟩ (fun hHeld => ?_)
    clear hK K
    refine norm_ (a' := ?_) ?_ ?_
    rotate_left
    ·show Act.put _ (some 13) _ = _
     simp only [Act.put, Lt, Lz, Ls, i64_w, i32_w]
     rfl
    exact norm_ (by simp only [putAll, Act.put, Lt, Lz, Ls]) (hCont (.slice A9_ r5.length c9_, gb23) _ ⟨⟨BX2.1, BX4.1⟩, HBr.1, Rm (Ro X9.1) (fun k hk => ⟨by have := Z1.1; have := GBX1.1; have := GBX2.1; have := Z2.1; have := Z3.1; have := Z17.1; have := GEBX3.1; have := GLBX3.1; have := Z18.1; have := Z19.1; have := Z20.1; have := GBX4.1; have := Z21.1; have := Z22.1; have := Z23.1; have := Z24.1; have h3_ := hk.1; (try dsimp only at h3_); omega, hk.2.2.1⟩), BXz.1, GW_.1⟩)
   ·skip
    refine box_step ?hg (N := 13) ?hd (cs := #[.int .i64 0, .slice none 0 0]) (t := 46) ?hr ?_; (case hd | hg => rfl); (case hr => first | (go_simp; done) | (go_simp; rfl))
    intro gb24 hg w25 hbox hb
    have GW_ : Ad (w21.heap.size ≤ gb24) := ⟨by rw [hg]; exact HBr.1.size⟩
    have Z25 : Ad (w22.heap.size ≤ w25.heap.size) := ⟨hb.size⟩
    replace X7 := Am (Rb X7.1 hb)
    replace X8 := Am (Rb X8.1 hb)
    replace BX1 := Am (Kb BX1.1 hb)
    replace BX2 := Am (Kb BX2.1 hb)
    replace BX3 := Am (Kb BX3.1 hb)
    replace BX4 := Am (Kb BX4.1 hb)
    replace HB := Am (Bh HB.1 HB.1.size hb)
    replace HBr := Am (Bh HBr.1 HBr.1.size hb)
    have BXz : Ad (w25.heap[gb24]? = some (.cells #[.int .i64 0, .slice none 0 0] 46 (0, 0))) := ⟨hbox⟩
    clear hg hb hbox
    refine hK.out _ _ ⟨BX2.1, BX4.1⟩ (fun hHeld => ?_)
    clear hK K
    refine norm_ (a' := ?_) ?_ ?_
    rotate_left
    ·show Act.put _ (some 13) _ = _
     simp only [Act.put, Lt, Lz, Ls, i64_w, i32_w]
     rfl
    refine one_ (i := 5) (N := some 43) #[true, true, true, true, true, true, false, false, false, true, false, false] rfl rfl (by kernel_rfl) (by decide) (fun K hK => ?_)
    refine goes_ Try.func25 (by kernel_rfl) rfl #[.agg #[.int .i64 r2, .slice A8_ r3.length c8_], .agg #[.int .i64 a1_0, .int .i64 a1_1, .int .i64 a1_2, .int .i64 a1_3, .int .i64 a1_4], .int .i64 a2, .int .i64 a3] (by rfl) rfl rfl (by (try simp only [List.map_toArray, List.map_cons, List.map_nil]); first | done | rfl) ?_
    (refine (impl_AttrFor.calls K4 r2 A8_ c8_ r3 a1_0 a1_1 a1_2 a1_3 a1_4 a2 a3 r4 r5 r6 w25 (Rr X8.1).2.2 (Rr X8.1).2.1 H4.1).mono ?_)
    rintro e w26 ⟨v1_, rfl, hS0, hb⟩
    refine ⟨_, rfl, ?_⟩
    have X10 : Ad (Kd.R (Kd.int .i64) 3 w26 w.heap.size (fun k => w25.heap.size ≤ k ∧ k < w26.heap.size) v1_ r5) := ⟨Rm (Kd.R_lower (Ro hS0) HB.1.size) (fun k hk => ⟨hk.2.1, hk.2.2.1⟩)⟩
    have Z26 : Ad (w25.heap.size ≤ w26.heap.size) := ⟨hb.size⟩
    replace X7 := Am (Rb X7.1 hb)
    replace X8 := Am (Rb X8.1 hb)
    replace BX1 := Am (Kb BX1.1 hb)
    replace BX2 := Am (Kb BX2.1 hb)
    replace BX3 := Am (Kb BX3.1 hb)
    replace BX4 := Am (Kb BX4.1 hb)
    replace BXz := Am (Kb BXz.1 hb)
    replace HB := Am (Bh HB.1 HB.1.size hb)
    replace HBr := Am (Bh HBr.1 HBr.1.size hb)
    clear hb hS0
    obtain ⟨A10_, c10_, rfl⟩ := Rs X10.1
    refine hK.out _ _ ⟨BX2.1, BX4.1⟩ (fun hHeld => ?_)
    clear hK K
    refine norm_ (a' := ?_) ?_ ?_
    rotate_left
    ·show Act.put _ (some 43) _ = _
     simp only [Act.put, Lt, Lz, Ls, i64_w, i32_w]
     rfl
    refine pure_ (i := 6) (N := some 37) (v := ?_) (a' := ?_) #[true, true, true, true, true, true, true, false, false, true, false, false] rfl rfl (by kernel_rfl) (fun _ _ _ h => h) (Or.inl ⟨by rfl, ?_⟩) ?_ ?_
    rotate_left
    ·intro w'
     go_simp
     with_reducible rfl
    rotate_left
    ·simp only [Act.put, Lt, Lz, Ls, i64_w, i32_w]
     rfl
    refine pure_ (i := 7) (N := some 44) (v := ?_) (a' := ?_) #[true, true, true, true, true, true, true, true, false, true, false, false] rfl rfl (by kernel_rfl) (fun _ _ _ h => h) (Or.inl ⟨by rfl, ?_⟩) ?_ ?_
    rotate_left
    ·intro w'
     go_simp
     with_reducible rfl
    rotate_left
    ·simp only [Act.put, Lt, Lz, Ls, i64_w, i32_w]
     rfl
    refine pure_ (i := 8) (N := some 45) (v := ?_) (a' := ?_) #[true, true, true, true, true, true, true, true, true, true, false, false] rfl rfl (by kernel_rfl) (fun _ _ _ h => h) (Or.inl ⟨by rfl, ?_⟩) ?_ ?_
    rotate_left
    ·intro w'
     go_simp
     with_reducible rfl
    rotate_left
    ·simp only [Act.put, Lt, Lz, Ls, i64_w, i32_w]
     rfl
    exact norm_ (by simp only [putAll, Act.put, Lt, Lz, Ls]) (hCont (.slice A10_ r5.length c10_, gb24) _ ⟨⟨BX2.1, BX4.1⟩, HBr.1, Rm (Ro X10.1) (fun k hk => ⟨by have := Z1.1; have := GBX1.1; have := GBX2.1; have := Z2.1; have := Z3.1; have := Z17.1; have := GEBX3.1; have := GLBX3.1; have := Z18.1; have := Z19.1; have := Z20.1; have := GBX4.1; have := Z21.1; have := Z22.1; have := Z25.1; have := Z26.1; have h3_ := hk.1; (try dsimp only at h3_); omega, hk.2.2.1⟩), BXz.1, GW_.1⟩)
  ·skip
   refine box_step ?hg (N := 13) ?hd (cs := #[.int .i64 0, .slice none 0 0]) (t := 46) ?hr ?_; (case hd | hg => rfl); (case hr => first | (go_simp; done) | (go_simp; rfl))
   intro gb26 hg w27 hbox hb
   have GW_ : Ad (w21.heap.size ≤ gb26) := ⟨by rw [hg]; exact HBr.1.size⟩
   have Z27 : Ad (w21.heap.size ≤ w27.heap.size) := ⟨hb.size⟩
   replace X7 := Am (Rb X7.1 hb)
   replace X8 := Am (Rb X8.1 hb)
   replace BX1 := Am (Kb BX1.1 hb)
   replace BX2 := Am (Kb BX2.1 hb)
   replace BX3 := Am (Kb BX3.1 hb)
   replace BX4 := Am (Kb BX4.1 hb)
   replace HB := Am (Bh HB.1 HB.1.size hb)
   replace HBr := Am (Bh HBr.1 HBr.1.size hb)
   have BXz : Ad (w27.heap[gb26]? = some (.cells #[.int .i64 0, .slice none 0 0] 46 (0, 0))) := ⟨hbox⟩
   clear hg hb hbox
   refine hK.out _ _ ⟨BX2.1, BX4.1⟩ (fun hHeld => ?_)
   clear hK K
   refine norm_ (a' := ?_) ?_ ?_
   rotate_left
   ·show Act.put _ (some 13) _ = _
    simp only [Act.put, Lt, Lz, Ls, i64_w, i32_w]
    rfl
   refine one_ (i := 2) (N := some 40) #[true, true, true, true, true, false, false, false, false, true, false, false] rfl rfl (by kernel_rfl) (by decide) (fun K hK => ?_)
   refine goes_ Try.func24 (by kernel_rfl) rfl #[.agg #[.int .i64 a1_0, .int .i64 a1_1, .int .i64 a1_2, .int .i64 a1_3, .int .i64 a1_4]] (by rfl) rfl rfl (by (try simp only [List.map_toArray, List.map_cons, List.map_nil]); first | done | rfl) ?_
   (refine (laws_toCmd.calls a1_0 a1_1 a1_2 a1_3 a1_4 a1_0 a1_1 a1_2 a1_3 a1_4 w27 H2.1).mono ?_)
   rintro e w28 ⟨rfl, hb⟩
   refine ⟨_, rfl, ?_⟩
   have Z28 : Ad (w27.heap.size ≤ w28.heap.size) := ⟨hb.size⟩
   replace X7 := Am (Rb X7.1 hb)
   replace X8 := Am (Rb X8.1 hb)
   replace BX1 := Am (Kb BX1.1 hb)
   replace BX2 := Am (Kb BX2.1 hb)
   replace BX3 := Am (Kb BX3.1 hb)
   replace BX4 := Am (Kb BX4.1 hb)
   replace BXz := Am (Kb BXz.1 hb)
   replace HB := Am (Bh HB.1 HB.1.size hb)
   replace HBr := Am (Bh HBr.1 HBr.1.size hb)
   clear hb
   refine hK.out _ _ ⟨BX2.1, BX4.1⟩ (fun hHeld => ?_)
   clear hK K
   refine norm_ (a' := ?_) ?_ ?_
   rotate_left
   ·show Act.put _ (some 40) _ = _
    simp only [Act.put, Lt, Lz, Ls, i64_w, i32_w]
    rfl
   refine one_ (i := 5) (N := some 43) #[true, true, true, true, true, true, false, false, false, true, false, false] rfl rfl (by kernel_rfl) (by decide) (fun K hK => ?_)
   refine goes_ Try.func25 (by kernel_rfl) rfl #[.agg #[.int .i64 r2, .slice A8_ r3.length c8_], .agg #[.int .i64 a1_0, .int .i64 a1_1, .int .i64 a1_2, .int .i64 a1_3, .int .i64 a1_4], .int .i64 a2, .int .i64 a3] (by rfl) rfl rfl (by (try simp only [List.map_toArray, List.map_cons, List.map_nil]); first | done | rfl) ?_
   (refine (impl_AttrFor.calls K4 r2 A8_ c8_ r3 a1_0 a1_1 a1_2 a1_3 a1_4 a2 a3 r4 r5 r6 w28 (Rr X8.1).2.2 (Rr X8.1).2.1 H4.1).mono ?_)
   rintro e w29 ⟨v1_, rfl, hS0, hb⟩
   refine ⟨_, rfl, ?_⟩
   have X11 : Ad (Kd.R (Kd.int .i64) 3 w29 w.heap.size (fun k => w28.heap.size ≤ k ∧ k < w29.heap.size) v1_ r5) := ⟨Rm (Kd.R_lower (Ro hS0) HB.1.size) (fun k hk => ⟨hk.2.1, hk.2.2.1⟩)⟩
   have Z29 : Ad (w28.heap.size ≤ w29.heap.size) := ⟨hb.size⟩
   replace X7 := Am (Rb X7.1 hb)
   replace X8 := Am (Rb X8.1 hb)
   replace BX1 := Am (Kb BX1.1 hb)
   replace BX2 := Am (Kb BX2.1 hb)
   replace BX3 := Am (Kb BX3.1 hb)
   replace BX4 := Am (Kb BX4.1 hb)
   replace BXz := Am (Kb BXz.1 hb)
   replace HB := Am (Bh HB.1 HB.1.size hb)
   replace HBr := Am (Bh HBr.1 HBr.1.size hb)
   clear hb hS0
   obtain ⟨A11_, c11_, rfl⟩ := Rs X11.1
   refine hK.out _ _ ⟨BX2.1, BX4.1⟩ (fun hHeld => ?_)
   clear hK K
   refine norm_ (a' := ?_) ?_ ?_
   rotate_left
   ·show Act.put _ (some 43) _ = _
    simp only [Act.put, Lt, Lz, Ls, i64_w, i32_w]
    rfl
   refine pure_ (i := 6) (N := some 37) (v := ?_) (a' := ?_) #[true, true, true, true, true, true, true, false, false, true, false, false] rfl rfl (by kernel_rfl) (fun _ _ _ h => h) (Or.inl ⟨by rfl, ?_⟩) ?_ ?_
   rotate_left
   ·intro w'
    go_simp
    with_reducible rfl
   rotate_left
   ·simp only [Act.put, Lt, Lz, Ls, i64_w, i32_w]
    rfl
   refine pure_ (i := 7) (N := some 44) (v := ?_) (a' := ?_) #[true, true, true, true, true, true, true, true, false, true, false, false] rfl rfl (by kernel_rfl) (fun _ _ _ h => h) (Or.inl ⟨by rfl, ?_⟩) ?_ ?_
   rotate_left
   ·intro w'
    go_simp
    with_reducible rfl
   rotate_left
   ·simp only [Act.put, Lt, Lz, Ls, i64_w, i32_w]
    rfl
   refine pure_ (i := 8) (N := some 45) (v := ?_) (a' := ?_) #[true, true, true, true, true, true, true, true, true, true, false, false] rfl rfl (by kernel_rfl) (fun _ _ _ h => h) (Or.inl ⟨by rfl, ?_⟩) ?_ ?_
   rotate_left
   ·intro w'
    go_simp
    with_reducible rfl
   rotate_left
   ·simp only [Act.put, Lt, Lz, Ls, i64_w, i32_w]
    rfl
   exact norm_ (by simp only [putAll, Act.put, Lt, Lz, Ls]) (hCont (.slice A11_ r5.length c11_, gb26) _ ⟨⟨BX2.1, BX4.1⟩, HBr.1, Rm (Ro X11.1) (fun k hk => ⟨by have := Z1.1; have := GBX1.1; have := GBX2.1; have := Z2.1; have := Z3.1; have := Z17.1; have := GEBX3.1; have := GLBX3.1; have := Z18.1; have := Z19.1; have := Z20.1; have := GBX4.1; have := Z21.1; have := Z27.1; have := Z28.1; have := Z29.1; have h3_ := hk.1; (try dsimp only at h3_); omega, hk.2.2.1⟩), BXz.1, GW_.1⟩)
 clear HBr
 rintro ⟨v29_0, gb29⟩ w30 ⟨hHeld, hb, hS0, hbox, hge⟩
 have Z30 : Ad (w21.heap.size ≤ w30.heap.size) := ⟨hb.size⟩
 replace X7 := Am (Rb X7.1 hb)
 replace X8 := Am (Rb X8.1 hb)
 replace BX1 := Am (Kb BX1.1 hb)
 replace BX2 := Am (Kb BX2.1 hb)
 replace BX3 := Am (Kb BX3.1 hb)
 replace BX4 := Am (Kb BX4.1 hb)
 replace HB := Am (Bh HB.1 HB.1.size hb)
 clear hb
 have X12 : Ad (Kd.R (Kd.int .i64) 3 w30 w.heap.size (fun k => w21.heap.size ≤ k ∧ k < w30.heap.size) v29_0 r5) := ⟨hS0⟩
 obtain ⟨A12_, c12_, rfl⟩ := Rs X12.1
 clear hS0
 have GEBX5 : Ad (w21.heap.size ≤ gb29) := ⟨hge⟩
 have BX5 := Am hbox
 clear hge hbox
 have GLBX5 : Ad (gb29 < w30.heap.size) := ⟨Kl BX5.1⟩
 refine norm_ (a' := ?_) ?_ ?_
 rotate_left
 ·simp only [putAll, Act.put, Lt, Lz, Ls]
  rfl
 refine one_ (i := 10) (N := none) #[true, true, true, true, true, true, true, true, true, true, true, false] rfl rfl (by kernel_rfl) (by decide) (fun K hK => ?_)
 refine skip_ (by rfl) rfl (store_run (cs' := #[.int .i64 r4, .slice A12_ r5.length c12_]) BX5.1 2 rfl rfl 46 _ _ (by rfl) (by rfl) (by rfl) (by kernel_rfl) (by first | (simp [Value.oneCell']; done) | kernel_rfl)) ?_
 have hk := kept_setRow w30 gb29 #[.int .i64 r4, .slice A12_ r5.length c12_]
 have hbx := setRow_heap w30 gb29 _ #[.int .i64 r4, .slice A12_ r5.length c12_] _ _ BX5.1
 have hb := below_setRow_ HB.1 (g := gb29) (by have h3_ := GEBX5.1; have := Z1.1; have := GBX1.1; have := GBX2.1; have := Z2.1; have := Z3.1; have := Z17.1; have := GEBX3.1; have := GLBX3.1; have := Z18.1; have := Z19.1; have := Z20.1; have := GBX4.1; have := Z21.1; have := Z30.1; have := GEBX5.1; have := GLBX5.1; omega) #[.int .i64 r4, .slice A12_ r5.length c12_]
 generalize w30.setRow gb29 #[.int .i64 r4, .slice A12_ r5.length c12_] = w31 at hk hbx hb ⊢
 have Z31 : Ad (w30.heap.size ≤ w31.heap.size) := ⟨hk.1⟩
 have n0_ := Am (Rk X7.1 hk (fun k h1_ h2_ => by have := Z1.1; have := GBX1.1; have := GBX2.1; have := Z2.1; have := Z3.1; have := Z17.1; have := GEBX3.1; have := GLBX3.1; have := Z18.1; have := Z19.1; have := Z20.1; have := GBX4.1; have := Z21.1; have := Z30.1; have := GEBX5.1; have := GLBX5.1; (try dsimp only at h1_ h2_); omega))
 have n1_ := Am (Rk X8.1 hk (fun k h1_ h2_ => by have := Z1.1; have := GBX1.1; have := GBX2.1; have := Z2.1; have := Z3.1; have := Z17.1; have := GEBX3.1; have := GLBX3.1; have := Z18.1; have := Z19.1; have := Z20.1; have := GBX4.1; have := Z21.1; have := Z30.1; have := GEBX5.1; have := GLBX5.1; (try dsimp only at h1_ h2_); omega))
 have n2_ := Am (Rm (Rk (Kd.R_types X12.1 BX5.1 (by decide)) hk (fun k h1_ h2_ => h1_.2 h2_)) (fun k h1_ => h1_.1))
 have n3_ := Am (Kq BX1.1 hk (fun h1_ => by have := Z1.1; have := GBX1.1; have := GBX2.1; have := Z2.1; have := Z3.1; have := Z17.1; have := GEBX3.1; have := GLBX3.1; have := Z18.1; have := Z19.1; have := Z20.1; have := GBX4.1; have := Z21.1; have := Z30.1; have := GEBX5.1; have := GLBX5.1; (try dsimp only at h1_); omega))
 have n4_ := Am (Kq BX2.1 hk (fun h1_ => by have := Z1.1; have := GBX1.1; have := GBX2.1; have := Z2.1; have := Z3.1; have := Z17.1; have := GEBX3.1; have := GLBX3.1; have := Z18.1; have := Z19.1; have := Z20.1; have := GBX4.1; have := Z21.1; have := Z30.1; have := GEBX5.1; have := GLBX5.1; (try dsimp only at h1_); omega))
 have n5_ := Am (Kq BX3.1 hk (fun h1_ => by have := Z1.1; have := GBX1.1; have := GBX2.1; have := Z2.1; have := Z3.1; have := Z17.1; have := GEBX3.1; have := GLBX3.1; have := Z18.1; have := Z19.1; have := Z20.1; have := GBX4.1; have := Z21.1; have := Z30.1; have := GEBX5.1; have := GLBX5.1; (try dsimp only at h1_); omega))
 have n6_ := Am (Kq BX4.1 hk (fun h1_ => by have := Z1.1; have := GBX1.1; have := GBX2.1; have := Z2.1; have := Z3.1; have := Z17.1; have := GEBX3.1; have := GLBX3.1; have := Z18.1; have := Z19.1; have := Z20.1; have := GBX4.1; have := Z21.1; have := Z30.1; have := GEBX5.1; have := GLBX5.1; (try dsimp only at h1_); omega))
 have n7_ := Am (hb)
 clear X7 X8 X12 BX1 BX2 BX3 BX4 HB BX5
 have X7 := n0_
 have X8 := n1_
 have X12 := n2_
 have BX1 := n3_
 have BX2 := n4_
 have BX3 := n5_
 have BX4 := n6_
 have HB := n7_
 clear n0_ n1_ n2_ n3_ n4_ n5_ n6_ n7_
 have BX5 : Ad (w31.heap[gb29]? = some (.cells #[.int .i64 r4, .slice A12_ r5.length c12_] 46 (0, 0))) := ⟨hbx⟩
 clear hbx hb hk
 refine hK.out _ _ ⟨BX2.1, BX4.1⟩ (fun hHeld => ?_)
 clear hK K
 refine pure_ (i := 11) (N := some 14) (v := ?_) (a' := ?_) #[true, true, true, true, true, true, true, true, true, true, true, true] rfl rfl (by kernel_rfl) (fun _ _ _ h => h) (Or.inl ⟨by rfl, ?_⟩) ?_ ?_
 rotate_left
 ·intro w'
  go_simp
  with_reducible rfl
 rotate_left
 ·simp only [Act.put, Lt, Lz, Ls, i64_w, i32_w]
  rfl
 refine done_ (by kernel_rfl) ?_
 obtain ⟨⟨K5, h5⟩, hF⟩ := HF.1
 clear HF
 have HF := Am hF
 clear hF
 have H5 := Am h5
 clear h5
 go_wp2_with (first | ((refine Gd (N := 46) rfl ?_); first | refine Er rfl (load_run BX3.1 2 rfl 46 _ (by rfl) (by rfl) _ Try.underlying46 rfl (by kernel_rfl)) ?_ | refine Er rfl (load_run BX5.1 2 rfl 46 _ (by rfl) (by rfl) _ Try.underlying46 rfl (by kernel_rfl)) ?_) | ((refine Gd (N := 47) rfl ?_); first | refine Er rfl (load_run BX3.1 2 rfl 46 _ (by rfl) (by rfl) _ Try.underlying46 rfl (by kernel_rfl)) ?_ | refine Er rfl (load_run BX5.1 2 rfl 46 _ (by rfl) (by rfl) _ Try.underlying46 rfl (by kernel_rfl)) ?_) | ((refine Gd (N := 66) rfl ?_); first | refine Er rfl (load_run BX3.1 2 rfl 46 _ (by rfl) (by rfl) _ Try.underlying46 rfl (by kernel_rfl)) ?_ | refine Er rfl (load_run BX5.1 2 rfl 46 _ (by rfl) (by rfl) _ Try.underlying46 rfl (by kernel_rfl)) ?_) | ((refine Gd (N := 67) rfl ?_); first | refine Er rfl (load_run BX3.1 2 rfl 46 _ (by rfl) (by rfl) _ Try.underlying46 rfl (by kernel_rfl)) ?_ | refine Er rfl (load_run BX5.1 2 rfl 46 _ (by rfl) (by rfl) _ Try.underlying46 rfl (by kernel_rfl)) ?_) | ((refine Gd (N := 76) rfl ?_); first | refine Er rfl (load_run BX3.1 2 rfl 46 _ (by rfl) (by rfl) _ Try.underlying46 rfl (by kernel_rfl)) ?_ | refine Er rfl (load_run BX5.1 2 rfl 46 _ (by rfl) (by rfl) _ Try.underlying46 rfl (by kernel_rfl)) ?_) | ((refine Gd (N := 79) rfl ?_); first | refine Er rfl (load_run BX3.1 2 rfl 46 _ (by rfl) (by rfl) _ Try.underlying46 rfl (by kernel_rfl)) ?_ | refine Er rfl (load_run BX5.1 2 rfl 46 _ (by rfl) (by rfl) _ Try.underlying46 rfl (by kernel_rfl)) ?_) | ((refine Gd (N := 97) rfl ?_); first | refine Er rfl (load_run BX3.1 2 rfl 46 _ (by rfl) (by rfl) _ Try.underlying46 rfl (by kernel_rfl)) ?_ | refine Er rfl (load_run BX5.1 2 rfl 46 _ (by rfl) (by rfl) _ Try.underlying46 rfl (by kernel_rfl)) ?_) | ((refine Gd (N := 98) rfl ?_); first | refine Er rfl (load_run BX3.1 2 rfl 46 _ (by rfl) (by rfl) _ Try.underlying46 rfl (by kernel_rfl)) ?_ | refine Er rfl (load_run BX5.1 2 rfl 46 _ (by rfl) (by rfl) _ Try.underlying46 rfl (by kernel_rfl)) ?_) | ((refine Gd (N := 106) rfl ?_); first | refine Er rfl (load_run BX3.1 2 rfl 46 _ (by rfl) (by rfl) _ Try.underlying46 rfl (by kernel_rfl)) ?_ | refine Er rfl (load_run BX5.1 2 rfl 46 _ (by rfl) (by rfl) _ Try.underlying46 rfl (by kernel_rfl)) ?_))
 (refine (laws_eqAttr.calls K5 r4 A12_ c12_ r5 r4 A7_ c7_ r5 true w31 (Rr X12.1).2.2 (Rr X12.1).2.1 (Rr X7.1).2.2 (Rr X7.1).2.1 H5.1).mono ?_)
 rintro e w32 ⟨rfl, hb⟩
 have Z32 : Ad (w31.heap.size ≤ w32.heap.size) := ⟨hb.size⟩
 replace X7 := Am (Rb X7.1 hb)
 replace X8 := Am (Rb X8.1 hb)
 replace X12 := Am (Rb X12.1 hb)
 replace BX1 := Am (Kb BX1.1 hb)
 replace BX2 := Am (Kb BX2.1 hb)
 replace BX3 := Am (Kb BX3.1 hb)
 replace BX4 := Am (Kb BX4.1 hb)
 replace BX5 := Am (Kb BX5.1 hb)
 replace HB := Am (Bh HB.1 HB.1.size hb)
 clear hb
 go_wp2_with (first | ((refine Gd (N := 20) rfl ?_); first | refine Er rfl (load_run BX1.1 2 rfl 24 _ (by rfl) (by rfl) _ Try.underlying24 rfl (by kernel_rfl)) ?_) | ((refine Gd (N := 26) rfl ?_); first | refine Er rfl (load_run BX1.1 2 rfl 24 _ (by rfl) (by rfl) _ Try.underlying24 rfl (by kernel_rfl)) ?_) | ((refine Gd (N := 35) rfl ?_); first | refine Er rfl (load_run BX1.1 2 rfl 24 _ (by rfl) (by rfl) _ Try.underlying24 rfl (by kernel_rfl)) ?_) | ((refine Gd (N := 38) rfl ?_); first | refine Er rfl (load_run BX4.1 2 rfl 29 _ (by rfl) (by rfl) _ Try.underlying29 rfl (by kernel_rfl)) ?_) | ((refine Gd (N := 55) rfl ?_); first | refine Er rfl (load_run BX4.1 2 rfl 29 _ (by rfl) (by rfl) _ Try.underlying29 rfl (by kernel_rfl)) ?_) | ((refine Gd (N := 56) rfl ?_); first | refine Er rfl (load_run BX1.1 2 rfl 24 _ (by rfl) (by rfl) _ Try.underlying24 rfl (by kernel_rfl)) ?_) | ((refine Gd (N := 60) rfl ?_); first | refine Er rfl (load_run BX4.1 2 rfl 29 _ (by rfl) (by rfl) _ Try.underlying29 rfl (by kernel_rfl)) ?_) | ((refine Gd (N := 88) rfl ?_); first | refine Er rfl (load_run BX1.1 2 rfl 24 _ (by rfl) (by rfl) _ Try.underlying24 rfl (by kernel_rfl)) ?_))
 refine start_ (n := 5) (S := fun w' => w'.heap[w.heap.size]? = some (.cells #[.int .i64 a0_0, .slice A0_1 l0_1.length c0_1] 24 (0, 0)) ∧ w'.heap[w19.heap.size]? = some (.cells #[.int .i64 r2, .slice A8_ r3.length c8_] 29 (0, 0))) (ds := []) #[false, false, false, false, false] (by kernel_rfl) rfl rfl ⟨BX1.1, BX4.1⟩ (fun hHeld => ?_)
 have hb : Below w32.heap.size w32 w32.drew := below_drew (Below.refl _ _)
 generalize w32.drew = w33 at hb hHeld ⊢
 have Z33 : Ad (w32.heap.size ≤ w33.heap.size) := ⟨hb.size⟩
 replace X7 := Am (Rb X7.1 hb)
 replace X8 := Am (Rb X8.1 hb)
 replace X12 := Am (Rb X12.1 hb)
 replace BX1 := Am (Kb BX1.1 hb)
 replace BX2 := Am (Kb BX2.1 hb)
 replace BX3 := Am (Kb BX3.1 hb)
 replace BX4 := Am (Kb BX4.1 hb)
 replace BX5 := Am (Kb BX5.1 hb)
 replace HB := Am (Bh HB.1 HB.1.size hb)
 clear hb
 refine take_ (i := 0) (N := some 55) (v := ?_) (a' := ?_) #[true, false, false, false, false] rfl rfl (by kernel_rfl) (fun _ _ _ h => h) (Or.inl ⟨by rfl, ?_⟩) hHeld ?_ ?_
 rotate_left
 ·rintro w' ⟨s0, s1⟩
  first | (refine Eq.trans (load_run s0 2 rfl 24 _ (by rfl) (by rfl) _ Try.underlying24 rfl (by kernel_rfl)) ?_; with_reducible rfl) | (refine Eq.trans (load_run s1 2 rfl 29 _ (by rfl) (by rfl) _ Try.underlying29 rfl (by kernel_rfl)) ?_; with_reducible rfl)
 rotate_left
 ·simp only [Act.put, Lt, Lz, Ls, i64_w, i32_w]
  rfl
 refine take_ (i := 1) (N := some 56) (v := ?_) (a' := ?_) #[true, true, false, false, false] rfl rfl (by kernel_rfl) (fun _ _ _ h => h) (Or.inl ⟨by rfl, ?_⟩) hHeld ?_ ?_
 rotate_left
 ·rintro w' ⟨s0, s1⟩
  first | (refine Eq.trans (load_run s0 2 rfl 24 _ (by rfl) (by rfl) _ Try.underlying24 rfl (by kernel_rfl)) ?_; with_reducible rfl) | (refine Eq.trans (load_run s1 2 rfl 29 _ (by rfl) (by rfl) _ Try.underlying29 rfl (by kernel_rfl)) ?_; with_reducible rfl)
 rotate_left
 ·simp only [Act.put, Lt, Lz, Ls, i64_w, i32_w]
  rfl
 refine one_ (i := 2) (N := some 57) #[true, true, true, false, false] rfl rfl (by kernel_rfl) (by decide) (fun K hK => ?_)
 refine goes_ Try.func11 (by kernel_rfl) rfl #[.agg #[.int .i64 a0_0, .slice A0_1 l0_1.length c0_1]] (by rfl) rfl rfl (by (try simp only [List.map_toArray, List.map_cons, List.map_nil]); first | done | rfl) ?_
 (refine (laws_toTable.calls K1 a0_0 A0_1 c0_1 l0_1 r2 r3 w33 (Cb HR0_1.1 HB.1) HC0_1.1 H1.1).mono ?_)
 rintro e w34 ⟨v1_, rfl, hS0, hb⟩
 refine ⟨_, rfl, ?_⟩
 have X13 : Ad (Kd.R (Kd.slice 72 k72) 70 w34 w.heap.size (fun k => w33.heap.size ≤ k ∧ k < w34.heap.size) v1_ r3) := ⟨Rm (Kd.R_lower (Ro hS0) HB.1.size) (fun k hk => ⟨hk.2.1, hk.2.2.1⟩)⟩
 have Z34 : Ad (w33.heap.size ≤ w34.heap.size) := ⟨hb.size⟩
 replace X7 := Am (Rb X7.1 hb)
 replace X8 := Am (Rb X8.1 hb)
 replace X12 := Am (Rb X12.1 hb)
 replace BX1 := Am (Kb BX1.1 hb)
 replace BX2 := Am (Kb BX2.1 hb)
 replace BX3 := Am (Kb BX3.1 hb)
 replace BX4 := Am (Kb BX4.1 hb)
 replace BX5 := Am (Kb BX5.1 hb)
 replace HB := Am (Bh HB.1 HB.1.size hb)
 clear hb hS0
 obtain ⟨A13_, c13_, rfl⟩ := Rs X13.1
 refine hK.out _ _ ⟨BX1.1, BX4.1⟩ (fun hHeld => ?_)
 clear hK K
 refine norm_ (a' := ?_) ?_ ?_
 rotate_left
 ·show Act.put _ (some 57) _ = _
  simp only [Act.put, Lt, Lz, Ls, i64_w, i32_w]
  rfl
 obtain ⟨⟨K6, h6⟩, hF⟩ := HF.1
 clear HF
 have HF := Am hF
 clear hF
 have H6 := Am h6
 clear h6
 refine one_ (i := 3) (N := some 58) #[true, true, true, true, false] rfl rfl (by kernel_rfl) (by decide) (fun K hK => ?_)
 refine goes_ Try.func13 (by kernel_rfl) rfl #[.agg #[.int .i64 r2, .slice A8_ r3.length c8_], .agg #[.int .i64 r2, .slice A13_ r3.length c13_]] (by rfl) rfl rfl (by (try simp only [List.map_toArray, List.map_cons, List.map_nil]); first | done | rfl) ?_
 (refine (laws_eqTable.calls K6 r2 A8_ c8_ r3 r2 A13_ c13_ r3 true w34 (Rr X8.1).2.2 (Rr X8.1).2.1 (Rr X13.1).2.2 (Rr X13.1).2.1 H6.1).mono ?_)
 rintro e w35 ⟨rfl, hb⟩
 refine ⟨_, rfl, ?_⟩
 have Z35 : Ad (w34.heap.size ≤ w35.heap.size) := ⟨hb.size⟩
 replace X7 := Am (Rb X7.1 hb)
 replace X8 := Am (Rb X8.1 hb)
 replace X12 := Am (Rb X12.1 hb)
 replace X13 := Am (Rb X13.1 hb)
 replace BX1 := Am (Kb BX1.1 hb)
 replace BX2 := Am (Kb BX2.1 hb)
 replace BX3 := Am (Kb BX3.1 hb)
 replace BX4 := Am (Kb BX4.1 hb)
 replace BX5 := Am (Kb BX5.1 hb)
 replace HB := Am (Bh HB.1 HB.1.size hb)
 clear hb
 refine hK.out _ _ ⟨BX1.1, BX4.1⟩ (fun hHeld => ?_)
 clear hK K
 refine norm_ (a' := ?_) ?_ ?_
 rotate_left
 ·show Act.put _ (some 58) _ = _
  simp only [Act.put, Lt, Lz, Ls, i64_w, i32_w]
  rfl
 refine pure_ (i := 4) (N := some 59) (v := ?_) (a' := ?_) #[true, true, true, true, true] rfl rfl (by kernel_rfl) (fun _ _ _ h => h) (Or.inl ⟨by rfl, ?_⟩) ?_ ?_
 rotate_left
 ·intro w'
  go_simp
  with_reducible rfl
 rotate_left
 ·simp only [Act.put, Lt, Lz, Ls, i64_w, i32_w]
  rfl
 refine done_ (by kernel_rfl) ?_
 obtain ⟨m7, h7, hF⟩ := HF.1
 clear HF
 have HF := Am hF
 clear hF
 have H7 := Am h7
 clear h7
 go_wp2_with (first | ((refine Gd (N := 38) rfl ?_); first | refine Er rfl (load_run BX4.1 2 rfl 29 _ (by rfl) (by rfl) _ Try.underlying29 rfl (by kernel_rfl)) ?_) | ((refine Gd (N := 55) rfl ?_); first | refine Er rfl (load_run BX4.1 2 rfl 29 _ (by rfl) (by rfl) _ Try.underlying29 rfl (by kernel_rfl)) ?_) | ((refine Gd (N := 60) rfl ?_); first | refine Er rfl (load_run BX4.1 2 rfl 29 _ (by rfl) (by rfl) _ Try.underlying29 rfl (by kernel_rfl)) ?_))
 (refine (laws_markTable.calls r2 (fun k => w18.heap.size ≤ k ∧ k < w19.heap.size) _ r3 1 m7 w w35 HB.1 X8.1 H7.1.2).mono ?_)
 rintro e w36 ⟨rfl, hb, hk⟩
 have hm7 := H7.1.1
 clear X8
 have Z36 : Ad (w35.heap.size ≤ w36.heap.size) := ⟨hk.1⟩
 replace X7 := Am (Rk X7.1 hk (fun k h1_ h2_ => by have := Z1.1; have := GBX1.1; have := GBX2.1; have := Z2.1; have := Z3.1; have := Z17.1; have := GEBX3.1; have := GLBX3.1; have := Z18.1; have := Z19.1; have := Z20.1; have := GBX4.1; have := Z21.1; have := Z30.1; have := GEBX5.1; have := GLBX5.1; have := Z31.1; have := Z32.1; have := Z33.1; have := Z34.1; have := Z35.1; (try dsimp only at h1_ h2_); omega))
 replace X12 := Am (Rk X12.1 hk (fun k h1_ h2_ => by have := Z1.1; have := GBX1.1; have := GBX2.1; have := Z2.1; have := Z3.1; have := Z17.1; have := GEBX3.1; have := GLBX3.1; have := Z18.1; have := Z19.1; have := Z20.1; have := GBX4.1; have := Z21.1; have := Z30.1; have := GEBX5.1; have := GLBX5.1; have := Z31.1; have := Z32.1; have := Z33.1; have := Z34.1; have := Z35.1; (try dsimp only at h1_ h2_); omega))
 replace X13 := Am (Rk X13.1 hk (fun k h1_ h2_ => by have := Z1.1; have := GBX1.1; have := GBX2.1; have := Z2.1; have := Z3.1; have := Z17.1; have := GEBX3.1; have := GLBX3.1; have := Z18.1; have := Z19.1; have := Z20.1; have := GBX4.1; have := Z21.1; have := Z30.1; have := GEBX5.1; have := GLBX5.1; have := Z31.1; have := Z32.1; have := Z33.1; have := Z34.1; have := Z35.1; (try dsimp only at h1_ h2_); omega))
 replace BX1 := Am (Kq BX1.1 hk (fun h1_ => by have := Z1.1; have := GBX1.1; have := GBX2.1; have := Z2.1; have := Z3.1; have := Z17.1; have := GEBX3.1; have := GLBX3.1; have := Z18.1; have := Z19.1; have := Z20.1; have := GBX4.1; have := Z21.1; have := Z30.1; have := GEBX5.1; have := GLBX5.1; have := Z31.1; have := Z32.1; have := Z33.1; have := Z34.1; have := Z35.1; (try dsimp only at h1_); omega))
 replace BX2 := Am (Kq BX2.1 hk (fun h1_ => by have := Z1.1; have := GBX1.1; have := GBX2.1; have := Z2.1; have := Z3.1; have := Z17.1; have := GEBX3.1; have := GLBX3.1; have := Z18.1; have := Z19.1; have := Z20.1; have := GBX4.1; have := Z21.1; have := Z30.1; have := GEBX5.1; have := GLBX5.1; have := Z31.1; have := Z32.1; have := Z33.1; have := Z34.1; have := Z35.1; (try dsimp only at h1_); omega))
 replace BX3 := Am (Kq BX3.1 hk (fun h1_ => by have := Z1.1; have := GBX1.1; have := GBX2.1; have := Z2.1; have := Z3.1; have := Z17.1; have := GEBX3.1; have := GLBX3.1; have := Z18.1; have := Z19.1; have := Z20.1; have := GBX4.1; have := Z21.1; have := Z30.1; have := GEBX5.1; have := GLBX5.1; have := Z31.1; have := Z32.1; have := Z33.1; have := Z34.1; have := Z35.1; (try dsimp only at h1_); omega))
 replace BX4 := Am (Kq BX4.1 hk (fun h1_ => by have := Z1.1; have := GBX1.1; have := GBX2.1; have := Z2.1; have := Z3.1; have := Z17.1; have := GEBX3.1; have := GLBX3.1; have := Z18.1; have := Z19.1; have := Z20.1; have := GBX4.1; have := Z21.1; have := Z30.1; have := GEBX5.1; have := GLBX5.1; have := Z31.1; have := Z32.1; have := Z33.1; have := Z34.1; have := Z35.1; (try dsimp only at h1_); omega))
 replace BX5 := Am (Kq BX5.1 hk (fun h1_ => by have := Z1.1; have := GBX1.1; have := GBX2.1; have := Z2.1; have := Z3.1; have := Z17.1; have := GEBX3.1; have := GLBX3.1; have := Z18.1; have := Z19.1; have := Z20.1; have := GBX4.1; have := Z21.1; have := Z30.1; have := GEBX5.1; have := GLBX5.1; have := Z31.1; have := Z32.1; have := Z33.1; have := Z34.1; have := Z35.1; (try dsimp only at h1_); omega))
 replace HB := Am (hb)
 clear hb hk
 have qBX3_0 : w36.cell? ⟨gb16, 0, none⟩ = some (.int .i64 r4) := (Kc BX3.1 0).trans rfl
 have qBX3_1 : w36.cell? ⟨gb16, 1, none⟩ = some (.slice A7_ r5.length c7_) := (Kc BX3.1 1).trans rfl
 have qBX5_0 : w36.cell? ⟨gb29, 0, none⟩ = some (.int .i64 r4) := (Kc BX5.1 0).trans rfl
 have qBX5_1 : w36.cell? ⟨gb29, 1, none⟩ = some (.slice A12_ r5.length c12_) := (Kc BX5.1 1).trans rfl
 go_wp2_with (first | ((refine Gd (N := 46) rfl ?_); first | refine Er rfl (load_run BX3.1 2 rfl 46 _ (by rfl) (by rfl) _ Try.underlying46 rfl (by kernel_rfl)) ?_ | refine Er rfl (load_run BX5.1 2 rfl 46 _ (by rfl) (by rfl) _ Try.underlying46 rfl (by kernel_rfl)) ?_) | ((refine Gd (N := 47) rfl ?_); first | refine Er rfl (load_run BX3.1 2 rfl 46 _ (by rfl) (by rfl) _ Try.underlying46 rfl (by kernel_rfl)) ?_ | refine Er rfl (load_run BX5.1 2 rfl 46 _ (by rfl) (by rfl) _ Try.underlying46 rfl (by kernel_rfl)) ?_) | ((refine Gd (N := 66) rfl ?_); first | refine Er rfl (load_run BX3.1 2 rfl 46 _ (by rfl) (by rfl) _ Try.underlying46 rfl (by kernel_rfl)) ?_ | refine Er rfl (load_run BX5.1 2 rfl 46 _ (by rfl) (by rfl) _ Try.underlying46 rfl (by kernel_rfl)) ?_) | ((refine Gd (N := 67) rfl ?_); first | refine Er rfl (load_run BX3.1 2 rfl 46 _ (by rfl) (by rfl) _ Try.underlying46 rfl (by kernel_rfl)) ?_ | refine Er rfl (load_run BX5.1 2 rfl 46 _ (by rfl) (by rfl) _ Try.underlying46 rfl (by kernel_rfl)) ?_) | ((refine Gd (N := 76) rfl ?_); first | refine Er rfl (load_run BX3.1 2 rfl 46 _ (by rfl) (by rfl) _ Try.underlying46 rfl (by kernel_rfl)) ?_ | refine Er rfl (load_run BX5.1 2 rfl 46 _ (by rfl) (by rfl) _ Try.underlying46 rfl (by kernel_rfl)) ?_) | ((refine Gd (N := 79) rfl ?_); first | refine Er rfl (load_run BX3.1 2 rfl 46 _ (by rfl) (by rfl) _ Try.underlying46 rfl (by kernel_rfl)) ?_ | refine Er rfl (load_run BX5.1 2 rfl 46 _ (by rfl) (by rfl) _ Try.underlying46 rfl (by kernel_rfl)) ?_) | ((refine Gd (N := 97) rfl ?_); first | refine Er rfl (load_run BX3.1 2 rfl 46 _ (by rfl) (by rfl) _ Try.underlying46 rfl (by kernel_rfl)) ?_ | refine Er rfl (load_run BX5.1 2 rfl 46 _ (by rfl) (by rfl) _ Try.underlying46 rfl (by kernel_rfl)) ?_) | ((refine Gd (N := 98) rfl ?_); first | refine Er rfl (load_run BX3.1 2 rfl 46 _ (by rfl) (by rfl) _ Try.underlying46 rfl (by kernel_rfl)) ?_ | refine Er rfl (load_run BX5.1 2 rfl 46 _ (by rfl) (by rfl) _ Try.underlying46 rfl (by kernel_rfl)) ?_) | ((refine Gd (N := 106) rfl ?_); first | refine Er rfl (load_run BX3.1 2 rfl 46 _ (by rfl) (by rfl) _ Try.underlying46 rfl (by kernel_rfl)) ?_ | refine Er rfl (load_run BX5.1 2 rfl 46 _ (by rfl) (by rfl) _ Try.underlying46 rfl (by kernel_rfl)) ?_))
 clear qBX3_0 qBX3_1 qBX5_0 qBX5_1
 (refine (laws_eqAttr.calls K5 r4 A12_ c12_ r5 r4 A7_ c7_ r5 true w36 (Rr X12.1).2.2 (Rr X12.1).2.1 (Rr X7.1).2.2 (Rr X7.1).2.1 H5.1).mono ?_)
 rintro e w37 ⟨rfl, hb⟩
 have Z37 : Ad (w36.heap.size ≤ w37.heap.size) := ⟨hb.size⟩
 replace X7 := Am (Rb X7.1 hb)
 replace X12 := Am (Rb X12.1 hb)
 replace X13 := Am (Rb X13.1 hb)
 replace BX1 := Am (Kb BX1.1 hb)
 replace BX2 := Am (Kb BX2.1 hb)
 replace BX3 := Am (Kb BX3.1 hb)
 replace BX4 := Am (Kb BX4.1 hb)
 replace BX5 := Am (Kb BX5.1 hb)
 replace HB := Am (Bh HB.1 HB.1.size hb)
 clear hb
 obtain ⟨m8, rm8, ⟨K8, h8⟩, hF⟩ := HF.1
 clear HF
 have HF := Am hF
 clear hF
 have H8 := Am h8
 clear h8
 go_wp2_with (first | ((refine Gd (N := 46) rfl ?_); first | refine Er rfl (load_run BX5.1 2 rfl 46 _ (by rfl) (by rfl) _ Try.underlying46 rfl (by kernel_rfl)) ?_) | ((refine Gd (N := 47) rfl ?_); first | refine Er rfl (load_run BX5.1 2 rfl 46 _ (by rfl) (by rfl) _ Try.underlying46 rfl (by kernel_rfl)) ?_) | ((refine Gd (N := 66) rfl ?_); first | refine Er rfl (load_run BX5.1 2 rfl 46 _ (by rfl) (by rfl) _ Try.underlying46 rfl (by kernel_rfl)) ?_) | ((refine Gd (N := 67) rfl ?_); first | refine Er rfl (load_run BX5.1 2 rfl 46 _ (by rfl) (by rfl) _ Try.underlying46 rfl (by kernel_rfl)) ?_) | ((refine Gd (N := 76) rfl ?_); first | refine Er rfl (load_run BX5.1 2 rfl 46 _ (by rfl) (by rfl) _ Try.underlying46 rfl (by kernel_rfl)) ?_) | ((refine Gd (N := 79) rfl ?_); first | refine Er rfl (load_run BX5.1 2 rfl 46 _ (by rfl) (by rfl) _ Try.underlying46 rfl (by kernel_rfl)) ?_) | ((refine Gd (N := 97) rfl ?_); first | refine Er rfl (load_run BX5.1 2 rfl 46 _ (by rfl) (by rfl) _ Try.underlying46 rfl (by kernel_rfl)) ?_) | ((refine Gd (N := 98) rfl ?_); first | refine Er rfl (load_run BX5.1 2 rfl 46 _ (by rfl) (by rfl) _ Try.underlying46 rfl (by kernel_rfl)) ?_) | ((refine Gd (N := 106) rfl ?_); first | refine Er rfl (load_run BX5.1 2 rfl 46 _ (by rfl) (by rfl) _ Try.underlying46 rfl (by kernel_rfl)) ?_))
 (refine (laws_markAttr.calls K8 r4 (fun k => some k = (Value.slice A12_ (r5.length) c12_).ownBlock) _ r5 1 m8 rm8 w w37 HB.1 (Kd.R_tight rfl X12.1) H8.1.2).mono ?_)
 rintro e w38 ⟨rfl, hS, hb, hk⟩
 have hm8 := H8.1.1
 have Z38 : Ad (w37.heap.size ≤ w38.heap.size) := ⟨hk.1⟩
 replace X7 := Am (Rk X7.1 hk (fun k h1_ h2_ => by have h3_ := X12.1.1 k h2_.symm; have := Z1.1; have := GBX1.1; have := GBX2.1; have := Z2.1; have := Z3.1; have := Z17.1; have := GEBX3.1; have := GLBX3.1; have := Z18.1; have := Z19.1; have := Z20.1; have := GBX4.1; have := Z21.1; have := Z30.1; have := GEBX5.1; have := GLBX5.1; have := Z31.1; have := Z32.1; have := Z33.1; have := Z34.1; have := Z35.1; have := Z36.1; have := Z37.1; (try dsimp only at h1_ h3_); omega))
 replace X13 := Am (Rk X13.1 hk (fun k h1_ h2_ => by have h3_ := X12.1.1 k h2_.symm; have := Z1.1; have := GBX1.1; have := GBX2.1; have := Z2.1; have := Z3.1; have := Z17.1; have := GEBX3.1; have := GLBX3.1; have := Z18.1; have := Z19.1; have := Z20.1; have := GBX4.1; have := Z21.1; have := Z30.1; have := GEBX5.1; have := GLBX5.1; have := Z31.1; have := Z32.1; have := Z33.1; have := Z34.1; have := Z35.1; have := Z36.1; have := Z37.1; (try dsimp only at h1_ h3_); omega))
 replace BX1 := Am (Kq BX1.1 hk (fun h1_ => by first | exact absurd h1_ (Kd.R_ne X12.1 BX1.1 (by decide)) | (have h1_ := X12.1.1 _ h1_.symm; have := Z1.1; have := GBX1.1; have := GBX2.1; have := Z2.1; have := Z3.1; have := Z17.1; have := GEBX3.1; have := GLBX3.1; have := Z18.1; have := Z19.1; have := Z20.1; have := GBX4.1; have := Z21.1; have := Z30.1; have := GEBX5.1; have := GLBX5.1; have := Z31.1; have := Z32.1; have := Z33.1; have := Z34.1; have := Z35.1; have := Z36.1; have := Z37.1; (try dsimp only at h1_); omega)))
 replace BX2 := Am (Kq BX2.1 hk (fun h1_ => by first | exact absurd h1_ (Kd.R_ne X12.1 BX2.1 (by decide)) | (have h1_ := X12.1.1 _ h1_.symm; have := Z1.1; have := GBX1.1; have := GBX2.1; have := Z2.1; have := Z3.1; have := Z17.1; have := GEBX3.1; have := GLBX3.1; have := Z18.1; have := Z19.1; have := Z20.1; have := GBX4.1; have := Z21.1; have := Z30.1; have := GEBX5.1; have := GLBX5.1; have := Z31.1; have := Z32.1; have := Z33.1; have := Z34.1; have := Z35.1; have := Z36.1; have := Z37.1; (try dsimp only at h1_); omega)))
 replace BX3 := Am (Kq BX3.1 hk (fun h1_ => by first | exact absurd h1_ (Kd.R_ne X12.1 BX3.1 (by decide)) | (have h1_ := X12.1.1 _ h1_.symm; have := Z1.1; have := GBX1.1; have := GBX2.1; have := Z2.1; have := Z3.1; have := Z17.1; have := GEBX3.1; have := GLBX3.1; have := Z18.1; have := Z19.1; have := Z20.1; have := GBX4.1; have := Z21.1; have := Z30.1; have := GEBX5.1; have := GLBX5.1; have := Z31.1; have := Z32.1; have := Z33.1; have := Z34.1; have := Z35.1; have := Z36.1; have := Z37.1; (try dsimp only at h1_); omega)))
 replace BX4 := Am (Kq BX4.1 hk (fun h1_ => by first | exact absurd h1_ (Kd.R_ne X12.1 BX4.1 (by decide)) | (have h1_ := X12.1.1 _ h1_.symm; have := Z1.1; have := GBX1.1; have := GBX2.1; have := Z2.1; have := Z3.1; have := Z17.1; have := GEBX3.1; have := GLBX3.1; have := Z18.1; have := Z19.1; have := Z20.1; have := GBX4.1; have := Z21.1; have := Z30.1; have := GEBX5.1; have := GLBX5.1; have := Z31.1; have := Z32.1; have := Z33.1; have := Z34.1; have := Z35.1; have := Z36.1; have := Z37.1; (try dsimp only at h1_); omega)))
 replace BX5 := Am (Kq BX5.1 hk (fun h1_ => by first | exact absurd h1_ (Kd.R_ne X12.1 BX5.1 (by decide)) | (have h1_ := X12.1.1 _ h1_.symm; have := Z1.1; have := GBX1.1; have := GBX2.1; have := Z2.1; have := Z3.1; have := Z17.1; have := GEBX3.1; have := GLBX3.1; have := Z18.1; have := Z19.1; have := Z20.1; have := GBX4.1; have := Z21.1; have := Z30.1; have := GEBX5.1; have := GLBX5.1; have := Z31.1; have := Z32.1; have := Z33.1; have := Z34.1; have := Z35.1; have := Z36.1; have := Z37.1; (try dsimp only at h1_); omega)))
 replace X12 := Am (Kd.R_reok rfl hS (fun k hk => X12.1.1 k hk))
 replace HB := Am (hb)
 clear hS hb hk
 obtain ⟨⟨K9, h9⟩, hF⟩ := HF.1
 clear HF
 have HF := Am hF
 clear hF
 have H9 := Am h9
 clear h9
 go_wp2_with (first | ((refine Gd (N := 46) rfl ?_); first | refine Er rfl (load_run BX5.1 2 rfl 46 _ (by rfl) (by rfl) _ Try.underlying46 rfl (by kernel_rfl)) ?_) | ((refine Gd (N := 47) rfl ?_); first | refine Er rfl (load_run BX5.1 2 rfl 46 _ (by rfl) (by rfl) _ Try.underlying46 rfl (by kernel_rfl)) ?_) | ((refine Gd (N := 66) rfl ?_); first | refine Er rfl (load_run BX5.1 2 rfl 46 _ (by rfl) (by rfl) _ Try.underlying46 rfl (by kernel_rfl)) ?_) | ((refine Gd (N := 67) rfl ?_); first | refine Er rfl (load_run BX5.1 2 rfl 46 _ (by rfl) (by rfl) _ Try.underlying46 rfl (by kernel_rfl)) ?_) | ((refine Gd (N := 76) rfl ?_); first | refine Er rfl (load_run BX5.1 2 rfl 46 _ (by rfl) (by rfl) _ Try.underlying46 rfl (by kernel_rfl)) ?_) | ((refine Gd (N := 79) rfl ?_); first | refine Er rfl (load_run BX5.1 2 rfl 46 _ (by rfl) (by rfl) _ Try.underlying46 rfl (by kernel_rfl)) ?_) | ((refine Gd (N := 97) rfl ?_); first | refine Er rfl (load_run BX5.1 2 rfl 46 _ (by rfl) (by rfl) _ Try.underlying46 rfl (by kernel_rfl)) ?_) | ((refine Gd (N := 98) rfl ?_); first | refine Er rfl (load_run BX5.1 2 rfl 46 _ (by rfl) (by rfl) _ Try.underlying46 rfl (by kernel_rfl)) ?_) | ((refine Gd (N := 106) rfl ?_); first | refine Er rfl (load_run BX5.1 2 rfl 46 _ (by rfl) (by rfl) _ Try.underlying46 rfl (by kernel_rfl)) ?_))
 have hc_ := laws_heldAttr.calls K9 r4 A12_ c12_ rm8 1 m8 w38 (Rr X12.1).2.2 (Nat.le_trans (Nat.le_of_eq (Rr X12.1).1.symm) (Rr X12.1).2.1) H9.1
 rw [← (Rr X12.1).1] at hc_
 (refine (hc_).mono ?_)
 clear hc_
 rintro e w39 ⟨rfl, hb⟩
 have Z39 : Ad (w38.heap.size ≤ w39.heap.size) := ⟨hb.size⟩
 replace X7 := Am (Rb X7.1 hb)
 replace X12 := Am (Rb X12.1 hb)
 replace X13 := Am (Rb X13.1 hb)
 replace BX1 := Am (Kb BX1.1 hb)
 replace BX2 := Am (Kb BX2.1 hb)
 replace BX3 := Am (Kb BX3.1 hb)
 replace BX4 := Am (Kb BX4.1 hb)
 replace BX5 := Am (Kb BX5.1 hb)
 replace HB := Am (Bh HB.1 HB.1.size hb)
 clear hb
 go_wp2_with (first | ((refine Gd (N := 20) rfl ?_); first | refine Er rfl (load_run BX1.1 2 rfl 24 _ (by rfl) (by rfl) _ Try.underlying24 rfl (by kernel_rfl)) ?_) | ((refine Gd (N := 26) rfl ?_); first | refine Er rfl (load_run BX1.1 2 rfl 24 _ (by rfl) (by rfl) _ Try.underlying24 rfl (by kernel_rfl)) ?_) | ((refine Gd (N := 28) rfl ?_); first | refine Er rfl (load_run BX2.1 5 rfl 43 _ (by rfl) (by rfl) _ Try.underlying43 rfl (by kernel_rfl)) ?_) | ((refine Gd (N := 35) rfl ?_); first | refine Er rfl (load_run BX1.1 2 rfl 24 _ (by rfl) (by rfl) _ Try.underlying24 rfl (by kernel_rfl)) ?_) | ((refine Gd (N := 39) rfl ?_); first | refine Er rfl (load_run BX2.1 5 rfl 43 _ (by rfl) (by rfl) _ Try.underlying43 rfl (by kernel_rfl)) ?_) | ((refine Gd (N := 56) rfl ?_); first | refine Er rfl (load_run BX1.1 2 rfl 24 _ (by rfl) (by rfl) _ Try.underlying24 rfl (by kernel_rfl)) ?_) | ((refine Gd (N := 88) rfl ?_); first | refine Er rfl (load_run BX1.1 2 rfl 24 _ (by rfl) (by rfl) _ Try.underlying24 rfl (by kernel_rfl)) ?_) | ((refine Gd (N := 90) rfl ?_); first | refine Er rfl (load_run BX2.1 5 rfl 43 _ (by rfl) (by rfl) _ Try.underlying43 rfl (by kernel_rfl)) ?_))
 refine start_ (n := 13) (S := fun w' => w'.heap[w.heap.size]? = some (.cells #[.int .i64 a0_0, .slice A0_1 l0_1.length c0_1] 24 (0, 0)) ∧ w'.heap[w.heap.size + 1]? = some (.cells #[.int .i64 a1_0, .int .i64 a1_1, .int .i64 a1_2, .int .i64 a1_3, .int .i64 a1_4] 43 (0, 0))) (ds := []) #[false, false, false, false, false, false, false, false, false, false, false, false, false] (by kernel_rfl) rfl rfl ⟨BX1.1, BX2.1⟩ (fun hHeld => ?_)
 have hb : Below w39.heap.size w39 w39.drew := below_drew (Below.refl _ _)
 generalize w39.drew = w40 at hb hHeld ⊢
 have Z40 : Ad (w39.heap.size ≤ w40.heap.size) := ⟨hb.size⟩
 replace X7 := Am (Rb X7.1 hb)
 replace X12 := Am (Rb X12.1 hb)
 replace X13 := Am (Rb X13.1 hb)
 replace BX1 := Am (Kb BX1.1 hb)
 replace BX2 := Am (Kb BX2.1 hb)
 replace BX3 := Am (Kb BX3.1 hb)
 replace BX4 := Am (Kb BX4.1 hb)
 replace BX5 := Am (Kb BX5.1 hb)
 replace HB := Am (Bh HB.1 HB.1.size hb)
 clear hb
 refine take_ (i := 0) (N := some 88) (v := ?_) (a' := ?_) #[true, false, false, false, false, false, false, false, false, false, false, false, false] rfl rfl (by kernel_rfl) (fun _ _ _ h => h) (Or.inl ⟨by rfl, ?_⟩) hHeld ?_ ?_
 rotate_left
 ·rintro w' ⟨s0, s1⟩
  first | (refine Eq.trans (load_run s0 2 rfl 24 _ (by rfl) (by rfl) _ Try.underlying24 rfl (by kernel_rfl)) ?_; with_reducible rfl) | (refine Eq.trans (load_run s1 5 rfl 43 _ (by rfl) (by rfl) _ Try.underlying43 rfl (by kernel_rfl)) ?_; with_reducible rfl)
 rotate_left
 ·simp only [Act.put, Lt, Lz, Ls, i64_w, i32_w]
  rfl
 refine take_ (i := 2) (N := some 90) (v := ?_) (a' := ?_) #[true, false, true, false, false, false, false, false, false, false, false, false, false] rfl rfl (by kernel_rfl) (fun _ _ _ h => h) (Or.inl ⟨by rfl, ?_⟩) hHeld ?_ ?_
 rotate_left
 ·rintro w' ⟨s0, s1⟩
  first | (refine Eq.trans (load_run s0 2 rfl 24 _ (by rfl) (by rfl) _ Try.underlying24 rfl (by kernel_rfl)) ?_; with_reducible rfl) | (refine Eq.trans (load_run s1 5 rfl 43 _ (by rfl) (by rfl) _ Try.underlying43 rfl (by kernel_rfl)) ?_; with_reducible rfl)
 rotate_left
 ·simp only [Act.put, Lt, Lz, Ls, i64_w, i32_w]
  rfl
 refine pure_ (i := 4) (N := some 92) (v := ?_) (a' := ?_) #[true, false, true, false, true, false, false, false, false, false, false, false, false] rfl rfl (by kernel_rfl) (fun _ _ _ h => h) (Or.inl ⟨by rfl, ?_⟩) ?_ ?_
 rotate_left
 ·intro w'
  go_simp
  with_reducible rfl
 rotate_left
 ·simp only [Act.put, Lt, Lz, Ls, i64_w, i32_w]
  rfl
 refine pure_ (i := 5) (N := some 93) (v := ?_) (a' := ?_) #[true, false, true, false, true, true, false, false, false, false, false, false, false] rfl rfl (by kernel_rfl) (fun _ _ _ h => h) (Or.inl ⟨by rfl, ?_⟩) ?_ ?_
 rotate_left
 ·intro w'
  go_simp
  with_reducible rfl
 rotate_left
 ·simp only [Act.put, Lt, Lz, Ls, i64_w, i32_w]
  rfl
 have HBr := Am (Below.refl w40.heap.size w40)
 refine join_ (σ := Value × Value × Nat) 2 #[true, true, true, true, true, true, true, true, true, true, true, false, false] (fun s_ => [(89, .agg #[.int .i64 r2, s_.1]), (91, .agg #[.int .i64 a1_0, .int .i64 a1_1, .int .i64 a1_2, .int .i64 a1_3, .int .i64 a1_4]), (94, .tuple #[.agg #[.int .i64 r4, s_.2.1], .bool r6]), (18, .pointer (some ⟨s_.2.2, 0, none⟩)), (87, .tuple #[.agg #[.int .i64 r4, s_.2.1], .bool r6]), (95, .agg #[.int .i64 r4, s_.2.1]), (96, .bool r6)]) (fun s_ w' => (w'.heap[w.heap.size]? = some (.cells #[.int .i64 a0_0, .slice A0_1 l0_1.length c0_1] 24 (0, 0)) ∧ w'.heap[w.heap.size + 1]? = some (.cells #[.int .i64 a1_0, .int .i64 a1_1, .int .i64 a1_2, .int .i64 a1_3, .int .i64 a1_4] 43 (0, 0))) ∧ Below w40.heap.size w40 w' ∧ Kd.R (Kd.int .i64) 3 w' w.heap.size (fun k => w40.heap.size ≤ k ∧ k < w'.heap.size) s_.2.1 r5 ∧ w'.heap[s_.2.2]? = some (.cells #[.int .i64 0, .slice none 0 0] 46 (0, 0)) ∧ w40.heap.size ≤ s_.2.2) ?_ ?_
 rotate_left
 ·intro hCont
  refine two_ (i := 1) (j := 10) (Ni := some 89) (Nj := some 18) #[true, true, true, false, true, true, false, false, false, false, false, false, false] #[true, false, true, false, true, true, false, false, false, false, true, false, false] rfl rfl rfl rfl (by kernel_rfl) (by decide) (by decide) (fun K hK => ?_) (fun K hK => ?_)
  ·skip
   refine goes_ Try.func11 (by kernel_rfl) rfl #[.agg #[.int .i64 a0_0, .slice A0_1 l0_1.length c0_1]] (by rfl) rfl rfl (by (try simp only [List.map_toArray, List.map_cons, List.map_nil]); first | done | rfl) ?_
   (refine (laws_toTable.calls K1 a0_0 A0_1 c0_1 l0_1 r2 r3 w40 (Cb HR0_1.1 HB.1) HC0_1.1 H1.1).mono ?_)
   rintro e w41 ⟨v1_, rfl, hS0, hb⟩
   refine ⟨_, rfl, ?_⟩
   have X14 : Ad (Kd.R (Kd.slice 72 k72) 70 w41 w.heap.size (fun k => w40.heap.size ≤ k ∧ k < w41.heap.size) v1_ r3) := ⟨Rm (Kd.R_lower (Ro hS0) HB.1.size) (fun k hk => ⟨hk.2.1, hk.2.2.1⟩)⟩
   have Z41 : Ad (w40.heap.size ≤ w41.heap.size) := ⟨hb.size⟩
   replace X7 := Am (Rb X7.1 hb)
   replace X12 := Am (Rb X12.1 hb)
   replace X13 := Am (Rb X13.1 hb)
   replace BX1 := Am (Kb BX1.1 hb)
   replace BX2 := Am (Kb BX2.1 hb)
   replace BX3 := Am (Kb BX3.1 hb)
   replace BX4 := Am (Kb BX4.1 hb)
   replace BX5 := Am (Kb BX5.1 hb)
   replace HB := Am (Bh HB.1 HB.1.size hb)
   replace HBr := Am (Bh HBr.1 HBr.1.size hb)
   clear hb hS0
   obtain ⟨A14_, c14_, rfl⟩ := Rs X14.1
   refine hK.out _ _ ⟨BX1.1, BX2.1⟩ (fun hHeld => ?_)
   clear hK K
   refine norm_ (a' := ?_) ?_ ?_
   rotate_left
   ·show Act.put _ (some 89) _ = _
    simp only [Act.put, Lt, Lz, Ls, i64_w, i32_w]
    rfl
   refine two_ (i := 3) (j := 10) (Ni := some 91) (Nj := some 18) #[true, true, true, true, true, true, false, false, false, false, false, false, false] #[true, true, true, false, true, true, false, false, false, false, true, false, false] rfl rfl rfl rfl (by kernel_rfl) (by decide) (by decide) (fun K hK => ?_) (fun K hK => ?_)
   ·skip
    refine goes_ Try.func24 (by kernel_rfl) rfl #[.agg #[.int .i64 a1_0, .int .i64 a1_1, .int .i64 a1_2, .int .i64 a1_3, .int .i64 a1_4]] (by rfl) rfl rfl (by (try simp only [List.map_toArray, List.map_cons, List.map_nil]); first | done | rfl) ?_
    (refine (laws_toCmd.calls a1_0 a1_1 a1_2 a1_3 a1_4 a1_0 a1_1 a1_2 a1_3 a1_4 w41 H2.1).mono ?_)
    rintro e w42 ⟨rfl, hb⟩
    refine ⟨_, rfl, ?_⟩
    have Z42 : Ad (w41.heap.size ≤ w42.heap.size) := ⟨hb.size⟩
    replace X7 := Am (Rb X7.1 hb)
    replace X12 := Am (Rb X12.1 hb)
    replace X13 := Am (Rb X13.1 hb)
    replace X14 := Am (Rb X14.1 hb)
    replace BX1 := Am (Kb BX1.1 hb)
    replace BX2 := Am (Kb BX2.1 hb)
    replace BX3 := Am (Kb BX3.1 hb)
    replace BX4 := Am (Kb BX4.1 hb)
    replace BX5 := Am (Kb BX5.1 hb)
    replace HB := Am (Bh HB.1 HB.1.size hb)
    replace HBr := Am (Bh HBr.1 HBr.1.size hb)
    clear hb
    refine hK.out _ _ ⟨BX1.1, BX2.1⟩ (fun hHeld => ?_)
    clear hK K
    refine norm_ (a' := ?_) ?_ ?_
    rotate_left
    ·show Act.put _ (some 91) _ = _
     simp only [Act.put, Lt, Lz, Ls, i64_w, i32_w]
     rfl
    refine two_ (i := 6) (j := 10) (Ni := some 94) (Nj := some 18) #[true, true, true, true, true, true, true, false, false, false, false, false, false] #[true, true, true, true, true, true, false, false, false, false, true, false, false] rfl rfl rfl rfl (by kernel_rfl) (by decide) (by decide) (fun K hK => ?_) (fun K hK => ?_)
    ·skip
     refine goes_ Try.func25 (by kernel_rfl) rfl #[.agg #[.int .i64 r2, .slice A14_ r3.length c14_], .agg #[.int .i64 a1_0, .int .i64 a1_1, .int .i64 a1_2, .int .i64 a1_3, .int .i64 a1_4], .int .i64 a2, .int .i64 a3] (by rfl) rfl rfl (by (try simp only [List.map_toArray, List.map_cons, List.map_nil]); first | done | rfl) ?_
     (refine (impl_AttrFor.calls K4 r2 A14_ c14_ r3 a1_0 a1_1 a1_2 a1_3 a1_4 a2 a3 r4 r5 r6 w42 (Rr X14.1).2.2 (Rr X14.1).2.1 H4.1).mono ?_)
     rintro e w43 ⟨v1_, rfl, hS0, hb⟩
     refine ⟨_, rfl, ?_⟩
     have X15 : Ad (Kd.R (Kd.int .i64) 3 w43 w.heap.size (fun k => w42.heap.size ≤ k ∧ k < w43.heap.size) v1_ r5) := ⟨Rm (Kd.R_lower (Ro hS0) HB.1.size) (fun k hk => ⟨hk.2.1, hk.2.2.1⟩)⟩
     have Z43 : Ad (w42.heap.size ≤ w43.heap.size) := ⟨hb.size⟩
     replace X7 := Am (Rb X7.1 hb)
     replace X12 := Am (Rb X12.1 hb)
     replace X13 := Am (Rb X13.1 hb)
     replace X14 := Am (Rb X14.1 hb)
     replace BX1 := Am (Kb BX1.1 hb)
     replace BX2 := Am (Kb BX2.1 hb)
     replace BX3 := Am (Kb BX3.1 hb)
     replace BX4 := Am (Kb BX4.1 hb)
     replace BX5 := Am (Kb BX5.1 hb)
     replace HB := Am (Bh HB.1 HB.1.size hb)
     replace HBr := Am (Bh HBr.1 HBr.1.size hb)
     clear hb hS0
     obtain ⟨A15_, c15_, rfl⟩ := Rs X15.1
     refine hK.out _ _ ⟨BX1.1, BX2.1⟩ (fun hHeld => ?_)
     clear hK K
     refine norm_ (a' := ?_) ?_ ?_
     rotate_left
     ·show Act.put _ (some 94) _ = _
      simp only [Act.put, Lt, Lz, Ls, i64_w, i32_w]
      rfl
     refine pure_ (i := 7) (N := some 87) (v := ?_) (a' := ?_) #[true, true, true, true, true, true, true, true, false, false, false, false, false] rfl rfl (by kernel_rfl) (fun _ _ _ h => h) (Or.inl ⟨by rfl, ?_⟩) ?_ ?_
     rotate_left
     ·intro w'
      go_simp
      with_reducible rfl
     rotate_left
     ·simp only [Act.put, Lt, Lz, Ls, i64_w, i32_w]
      rfl
     refine pure_ (i := 8) (N := some 95) (v := ?_) (a' := ?_) #[true, true, true, true, true, true, true, true, true, false, false, false, false] rfl rfl (by kernel_rfl) (fun _ _ _ h => h) (Or.inl ⟨by rfl, ?_⟩) ?_ ?_
     rotate_left
     ·intro w'
      go_simp
      with_reducible rfl
     rotate_left
     ·simp only [Act.put, Lt, Lz, Ls, i64_w, i32_w]
      rfl
     refine pure_ (i := 9) (N := some 96) (v := ?_) (a' := ?_) #[true, true, true, true, true, true, true, true, true, true, false, false, false] rfl rfl (by kernel_rfl) (fun _ _ _ h => h) (Or.inl ⟨by rfl, ?_⟩) ?_ ?_
     rotate_left
     ·intro w'
      go_simp
      with_reducible rfl
     rotate_left
     ·simp only [Act.put, Lt, Lz, Ls, i64_w, i32_w]
      rfl
     refine one_ (i := 10) (N := some 18) #[true, true, true, true, true, true, true, true, true, true, true, false, false] rfl rfl (by kernel_rfl) (by decide) (fun K hK => ?_)
     refine box_step ?hg (N := 18) ?hd (cs := #[.int .i64 0, .slice none 0 0]) (t := 46) ?hr ?_; (case hd | hg => rfl); (case hr => first | (go_simp; done) | (go_simp; rfl))
     intro gb43 hg w44 hbox hb
     have GW_ : Ad (w40.heap.size ≤ gb43) := ⟨by rw [hg]; exact HBr.1.size⟩
     have Z44 : Ad (w43.heap.size ≤ w44.heap.size) := ⟨hb.size⟩
     replace X7 := Am (Rb X7.1 hb)
     replace X12 := Am (Rb X12.1 hb)
     replace X13 := Am (Rb X13.1 hb)
     replace X14 := Am (Rb X14.1 hb)
     replace X15 := Am (Rb X15.1 hb)
     replace BX1 := Am (Kb BX1.1 hb)
     replace BX2 := Am (Kb BX2.1 hb)
     replace BX3 := Am (Kb BX3.1 hb)
     replace BX4 := Am (Kb BX4.1 hb)
     replace BX5 := Am (Kb BX5.1 hb)
     replace HB := Am (Bh HB.1 HB.1.size hb)
     replace HBr := Am (Bh HBr.1 HBr.1.size hb)
     have BXz : Ad (w44.heap[gb43]? = some (.cells #[.int .i64 0, .slice none 0 0] 46 (0, 0))) := ⟨hbox⟩
     clear hg hb hbox
     refine hK.out _ _ ⟨BX1.1, BX2.1⟩ (fun hHeld => ?_)
     clear hK K
     refine norm_ (a' := ?_) ?_ ?_
     rotate_left
     ·show Act.put _ (some 18) _ = _
      simp only [Act.put, Lt, Lz, Ls, i64_w, i32_w]
      rfl
     exact norm_ (by simp only [putAll, Act.put, Lt, Lz, Ls]) (hCont (.slice A14_ r3.length c14_, .slice A15_ r5.length c15_, gb43) _ ⟨⟨BX1.1, BX2.1⟩, HBr.1, Rm (Ro X15.1) (fun k hk => ⟨by have := Z1.1; have := GBX1.1; have := GBX2.1; have := Z2.1; have := Z3.1; have := Z17.1; have := GEBX3.1; have := GLBX3.1; have := Z18.1; have := Z19.1; have := Z20.1; have := GBX4.1; have := Z21.1; have := Z30.1; have := GEBX5.1; have := GLBX5.1; have := Z31.1; have := Z32.1; have := Z33.1; have := Z34.1; have := Z35.1; have := Z36.1; have := Z37.1; have := Z38.1; have := Z39.1; have := Z40.1; have := Z41.1; have := Z42.1; have := Z43.1; have := Z44.1; have h3_ := hk.1; (try dsimp only at h3_); omega, hk.2.2.1⟩), BXz.1, GW_.1⟩)
    ·skip
     refine box_step ?hg (N := 18) ?hd (cs := #[.int .i64 0, .slice none 0 0]) (t := 46) ?hr ?_; (case hd | hg => rfl); (case hr => first | (go_simp; done) | (go_simp; rfl))
     intro gb44 hg w45 hbox hb
     have GW_ : Ad (w40.heap.size ≤ gb44) := ⟨by rw [hg]; exact HBr.1.size⟩
     have Z45 : Ad (w42.heap.size ≤ w45.heap.size) := ⟨hb.size⟩
     replace X7 := Am (Rb X7.1 hb)
     replace X12 := Am (Rb X12.1 hb)
     replace X13 := Am (Rb X13.1 hb)
     replace X14 := Am (Rb X14.1 hb)
     replace BX1 := Am (Kb BX1.1 hb)
     replace BX2 := Am (Kb BX2.1 hb)
     replace BX3 := Am (Kb BX3.1 hb)
     replace BX4 := Am (Kb BX4.1 hb)
     replace BX5 := Am (Kb BX5.1 hb)
     replace HB := Am (Bh HB.1 HB.1.size hb)
     replace HBr := Am (Bh HBr.1 HBr.1.size hb)
     have BXz : Ad (w45.heap[gb44]? = some (.cells #[.int .i64 0, .slice none 0 0] 46 (0, 0))) := ⟨hbox⟩
     clear hg hb hbox
     refine hK.out _ _ ⟨BX1.1, BX2.1⟩ (fun hHeld => ?_)
     clear hK K
     refine norm_ (a' := ?_) ?_ ?_
     rotate_left
     ·show Act.put _ (some 18) _ = _
      simp only [Act.put, Lt, Lz, Ls, i64_w, i32_w]
      rfl
     refine one_ (i := 6) (N := some 94) #[true, true, true, true, true, true, true, false, false, false, true, false, false] rfl rfl (by kernel_rfl) (by decide) (fun K hK => ?_)
     refine goes_ Try.func25 (by kernel_rfl) rfl #[.agg #[.int .i64 r2, .slice A14_ r3.length c14_], .agg #[.int .i64 a1_0, .int .i64 a1_1, .int .i64 a1_2, .int .i64 a1_3, .int .i64 a1_4], .int .i64 a2, .int .i64 a3] (by rfl) rfl rfl (by (try simp only [List.map_toArray, List.map_cons, List.map_nil]); first | done | rfl) ?_
     (refine (impl_AttrFor.calls K4 r2 A14_ c14_ r3 a1_0 a1_1 a1_2 a1_3 a1_4 a2 a3 r4 r5 r6 w45 (Rr X14.1).2.2 (Rr X14.1).2.1 H4.1).mono ?_)
     rintro e w46 ⟨v1_, rfl, hS0, hb⟩
     refine ⟨_, rfl, ?_⟩
     have X16 : Ad (Kd.R (Kd.int .i64) 3 w46 w.heap.size (fun k => w45.heap.size ≤ k ∧ k < w46.heap.size) v1_ r5) := ⟨Rm (Kd.R_lower (Ro hS0) HB.1.size) (fun k hk => ⟨hk.2.1, hk.2.2.1⟩)⟩
     have Z46 : Ad (w45.heap.size ≤ w46.heap.size) := ⟨hb.size⟩
     replace X7 := Am (Rb X7.1 hb)
     replace X12 := Am (Rb X12.1 hb)
     replace X13 := Am (Rb X13.1 hb)
     replace X14 := Am (Rb X14.1 hb)
     replace BX1 := Am (Kb BX1.1 hb)
     replace BX2 := Am (Kb BX2.1 hb)
     replace BX3 := Am (Kb BX3.1 hb)
     replace BX4 := Am (Kb BX4.1 hb)
     replace BX5 := Am (Kb BX5.1 hb)
     replace BXz := Am (Kb BXz.1 hb)
     replace HB := Am (Bh HB.1 HB.1.size hb)
     replace HBr := Am (Bh HBr.1 HBr.1.size hb)
     clear hb hS0
     obtain ⟨A16_, c16_, rfl⟩ := Rs X16.1
     refine hK.out _ _ ⟨BX1.1, BX2.1⟩ (fun hHeld => ?_)
     clear hK K
     refine norm_ (a' := ?_) ?_ ?_
     rotate_left
     ·show Act.put _ (some 94) _ = _
      simp only [Act.put, Lt, Lz, Ls, i64_w, i32_w]
      rfl
     refine pure_ (i := 7) (N := some 87) (v := ?_) (a' := ?_) #[true, true, true, true, true, true, true, true, false, false, true, false, false] rfl rfl (by kernel_rfl) (fun _ _ _ h => h) (Or.inl ⟨by rfl, ?_⟩) ?_ ?_
     rotate_left
     ·intro w'
      go_simp
      with_reducible rfl
     rotate_left
     ·simp only [Act.put, Lt, Lz, Ls, i64_w, i32_w]
      rfl
     refine pure_ (i := 8) (N := some 95) (v := ?_) (a' := ?_) #[true, true, true, true, true, true, true, true, true, false, true, false, false] rfl rfl (by kernel_rfl) (fun _ _ _ h => h) (Or.inl ⟨by rfl, ?_⟩) ?_ ?_
     rotate_left
     ·intro w'
      go_simp
      with_reducible rfl
     rotate_left
     ·simp only [Act.put, Lt, Lz, Ls, i64_w, i32_w]
      rfl
     refine pure_ (i := 9) (N := some 96) (v := ?_) (a' := ?_) #[true, true, true, true, true, true, true, true, true, true, true, false, false] rfl rfl (by kernel_rfl) (fun _ _ _ h => h) (Or.inl ⟨by rfl, ?_⟩) ?_ ?_
     rotate_left
     ·intro w'
      go_simp
      with_reducible rfl
     rotate_left
     ·simp only [Act.put, Lt, Lz, Ls, i64_w, i32_w]
      rfl
     exact norm_ (by simp only [putAll, Act.put, Lt, Lz, Ls]) (hCont (.slice A14_ r3.length c14_, .slice A16_ r5.length c16_, gb44) _ ⟨⟨BX1.1, BX2.1⟩, HBr.1, Rm (Ro X16.1) (fun k hk => ⟨by have := Z1.1; have := GBX1.1; have := GBX2.1; have := Z2.1; have := Z3.1; have := Z17.1; have := GEBX3.1; have := GLBX3.1; have := Z18.1; have := Z19.1; have := Z20.1; have := GBX4.1; have := Z21.1; have := Z30.1; have := GEBX5.1; have := GLBX5.1; have := Z31.1; have := Z32.1; have := Z33.1; have := Z34.1; have := Z35.1; have := Z36.1; have := Z37.1; have := Z38.1; have := Z39.1; have := Z40.1; have := Z41.1; have := Z42.1; have := Z45.1; have := Z46.1; have h3_ := hk.1; (try dsimp only at h3_); omega, hk.2.2.1⟩), BXz.1, GW_.1⟩)
   ·skip
    refine box_step ?hg (N := 18) ?hd (cs := #[.int .i64 0, .slice none 0 0]) (t := 46) ?hr ?_; (case hd | hg => rfl); (case hr => first | (go_simp; done) | (go_simp; rfl))
    intro gb46 hg w47 hbox hb
    have GW_ : Ad (w40.heap.size ≤ gb46) := ⟨by rw [hg]; exact HBr.1.size⟩
    have Z47 : Ad (w41.heap.size ≤ w47.heap.size) := ⟨hb.size⟩
    replace X7 := Am (Rb X7.1 hb)
    replace X12 := Am (Rb X12.1 hb)
    replace X13 := Am (Rb X13.1 hb)
    replace X14 := Am (Rb X14.1 hb)
    replace BX1 := Am (Kb BX1.1 hb)
    replace BX2 := Am (Kb BX2.1 hb)
    replace BX3 := Am (Kb BX3.1 hb)
    replace BX4 := Am (Kb BX4.1 hb)
    replace BX5 := Am (Kb BX5.1 hb)
    replace HB := Am (Bh HB.1 HB.1.size hb)
    replace HBr := Am (Bh HBr.1 HBr.1.size hb)
    have BXz : Ad (w47.heap[gb46]? = some (.cells #[.int .i64 0, .slice none 0 0] 46 (0, 0))) := ⟨hbox⟩
    clear hg hb hbox
    refine hK.out _ _ ⟨BX1.1, BX2.1⟩ (fun hHeld => ?_)
    clear hK K
    refine norm_ (a' := ?_) ?_ ?_
    rotate_left
    ·show Act.put _ (some 18) _ = _
     simp only [Act.put, Lt, Lz, Ls, i64_w, i32_w]
     rfl
    refine one_ (i := 3) (N := some 91) #[true, true, true, true, true, true, false, false, false, false, true, false, false] rfl rfl (by kernel_rfl) (by decide) (fun K hK => ?_)
    refine goes_ Try.func24 (by kernel_rfl) rfl #[.agg #[.int .i64 a1_0, .int .i64 a1_1, .int .i64 a1_2, .int .i64 a1_3, .int .i64 a1_4]] (by rfl) rfl rfl (by (try simp only [List.map_toArray, List.map_cons, List.map_nil]); first | done | rfl) ?_
    (refine (laws_toCmd.calls a1_0 a1_1 a1_2 a1_3 a1_4 a1_0 a1_1 a1_2 a1_3 a1_4 w47 H2.1).mono ?_)
    rintro e w48 ⟨rfl, hb⟩
    refine ⟨_, rfl, ?_⟩
    have Z48 : Ad (w47.heap.size ≤ w48.heap.size) := ⟨hb.size⟩
    replace X7 := Am (Rb X7.1 hb)
    replace X12 := Am (Rb X12.1 hb)
    replace X13 := Am (Rb X13.1 hb)
    replace X14 := Am (Rb X14.1 hb)
    replace BX1 := Am (Kb BX1.1 hb)
    replace BX2 := Am (Kb BX2.1 hb)
    replace BX3 := Am (Kb BX3.1 hb)
    replace BX4 := Am (Kb BX4.1 hb)
    replace BX5 := Am (Kb BX5.1 hb)
    replace BXz := Am (Kb BXz.1 hb)
    replace HB := Am (Bh HB.1 HB.1.size hb)
    replace HBr := Am (Bh HBr.1 HBr.1.size hb)
    clear hb
    refine hK.out _ _ ⟨BX1.1, BX2.1⟩ (fun hHeld => ?_)
    clear hK K
    refine norm_ (a' := ?_) ?_ ?_
    rotate_left
    ·show Act.put _ (some 91) _ = _
     simp only [Act.put, Lt, Lz, Ls, i64_w, i32_w]
     rfl
    refine one_ (i := 6) (N := some 94) #[true, true, true, true, true, true, true, false, false, false, true, false, false] rfl rfl (by kernel_rfl) (by decide) (fun K hK => ?_)
    refine goes_ Try.func25 (by kernel_rfl) rfl #[.agg #[.int .i64 r2, .slice A14_ r3.length c14_], .agg #[.int .i64 a1_0, .int .i64 a1_1, .int .i64 a1_2, .int .i64 a1_3, .int .i64 a1_4], .int .i64 a2, .int .i64 a3] (by rfl) rfl rfl (by (try simp only [List.map_toArray, List.map_cons, List.map_nil]); first | done | rfl) ?_
    (refine (impl_AttrFor.calls K4 r2 A14_ c14_ r3 a1_0 a1_1 a1_2 a1_3 a1_4 a2 a3 r4 r5 r6 w48 (Rr X14.1).2.2 (Rr X14.1).2.1 H4.1).mono ?_)
    rintro e w49 ⟨v1_, rfl, hS0, hb⟩
    refine ⟨_, rfl, ?_⟩
    have X17 : Ad (Kd.R (Kd.int .i64) 3 w49 w.heap.size (fun k => w48.heap.size ≤ k ∧ k < w49.heap.size) v1_ r5) := ⟨Rm (Kd.R_lower (Ro hS0) HB.1.size) (fun k hk => ⟨hk.2.1, hk.2.2.1⟩)⟩
    have Z49 : Ad (w48.heap.size ≤ w49.heap.size) := ⟨hb.size⟩
    replace X7 := Am (Rb X7.1 hb)
    replace X12 := Am (Rb X12.1 hb)
    replace X13 := Am (Rb X13.1 hb)
    replace X14 := Am (Rb X14.1 hb)
    replace BX1 := Am (Kb BX1.1 hb)
    replace BX2 := Am (Kb BX2.1 hb)
    replace BX3 := Am (Kb BX3.1 hb)
    replace BX4 := Am (Kb BX4.1 hb)
    replace BX5 := Am (Kb BX5.1 hb)
    replace BXz := Am (Kb BXz.1 hb)
    replace HB := Am (Bh HB.1 HB.1.size hb)
    replace HBr := Am (Bh HBr.1 HBr.1.size hb)
    clear hb hS0
    obtain ⟨A17_, c17_, rfl⟩ := Rs X17.1
    refine hK.out _ _ ⟨BX1.1, BX2.1⟩ (fun hHeld => ?_)
    clear hK K
    refine norm_ (a' := ?_) ?_ ?_
    rotate_left
    ·show Act.put _ (some 94) _ = _
     simp only [Act.put, Lt, Lz, Ls, i64_w, i32_w]
     rfl
    refine pure_ (i := 7) (N := some 87) (v := ?_) (a' := ?_) #[true, true, true, true, true, true, true, true, false, false, true, false, false] rfl rfl (by kernel_rfl) (fun _ _ _ h => h) (Or.inl ⟨by rfl, ?_⟩) ?_ ?_
    rotate_left
    ·intro w'
     go_simp
     with_reducible rfl
    rotate_left
    ·simp only [Act.put, Lt, Lz, Ls, i64_w, i32_w]
     rfl
    refine pure_ (i := 8) (N := some 95) (v := ?_) (a' := ?_) #[true, true, true, true, true, true, true, true, true, false, true, false, false] rfl rfl (by kernel_rfl) (fun _ _ _ h => h) (Or.inl ⟨by rfl, ?_⟩) ?_ ?_
    rotate_left
    ·intro w'
     go_simp
     with_reducible rfl
    rotate_left
    ·simp only [Act.put, Lt, Lz, Ls, i64_w, i32_w]
     rfl
    refine pure_ (i := 9) (N := some 96) (v := ?_) (a' := ?_) #[true, true, true, true, true, true, true, true, true, true, true, false, false] rfl rfl (by kernel_rfl) (fun _ _ _ h => h) (Or.inl ⟨by rfl, ?_⟩) ?_ ?_
    rotate_left
    ·intro w'
     go_simp
     with_reducible rfl
    rotate_left
    ·simp only [Act.put, Lt, Lz, Ls, i64_w, i32_w]
     rfl
    exact norm_ (by simp only [putAll, Act.put, Lt, Lz, Ls]) (hCont (.slice A14_ r3.length c14_, .slice A17_ r5.length c17_, gb46) _ ⟨⟨BX1.1, BX2.1⟩, HBr.1, Rm (Ro X17.1) (fun k hk => ⟨by have := Z1.1; have := GBX1.1; have := GBX2.1; have := Z2.1; have := Z3.1; have := Z17.1; have := GEBX3.1; have := GLBX3.1; have := Z18.1; have := Z19.1; have := Z20.1; have := GBX4.1; have := Z21.1; have := Z30.1; have := GEBX5.1; have := GLBX5.1; have := Z31.1; have := Z32.1; have := Z33.1; have := Z34.1; have := Z35.1; have := Z36.1; have := Z37.1; have := Z38.1; have := Z39.1; have := Z40.1; have := Z41.1; have := Z47.1; have := Z48.1; have := Z49.1; have h3_ := hk.1; (try dsimp only at h3_); omega, hk.2.2.1⟩), BXz.1, GW_.1⟩)
  ·skip
   refine box_step ?hg (N := 18) ?hd (cs := #[.int .i64 0, .slice none 0 0]) (t := 46) ?hr ?_; (case hd | hg => rfl); (case hr => first | (go_simp; done) | (go_simp; rfl))
   intro gb49 hg w50 hbox hb
   have GW_ : Ad (w40.heap.size ≤ gb49) := ⟨by rw [hg]; exact HBr.1.size⟩
   have Z50 : Ad (w40.heap.size ≤ w50.heap.size) := ⟨hb.size⟩
   replace X7 := Am (Rb X7.1 hb)
   replace X12 := Am (Rb X12.1 hb)
   replace X13 := Am (Rb X13.1 hb)
   replace BX1 := Am (Kb BX1.1 hb)
   replace BX2 := Am (Kb BX2.1 hb)
   replace BX3 := Am (Kb BX3.1 hb)
   replace BX4 := Am (Kb BX4.1 hb)
   replace BX5 := Am (Kb BX5.1 hb)
   replace HB := Am (Bh HB.1 HB.1.size hb)
   replace HBr := Am (Bh HBr.1 HBr.1.size hb)
   have BXz : Ad (w50.heap[gb49]? = some (.cells #[.int .i64 0, .slice none 0 0] 46 (0, 0))) := ⟨hbox⟩
   clear hg hb hbox
   refine hK.out _ _ ⟨BX1.1, BX2.1⟩ (fun hHeld => ?_)
   clear hK K
   refine norm_ (a' := ?_) ?_ ?_
   rotate_left
   ·show Act.put _ (some 18) _ = _
    simp only [Act.put, Lt, Lz, Ls, i64_w, i32_w]
    rfl
   refine one_ (i := 1) (N := some 89) #[true, true, true, false, true, true, false, false, false, false, true, false, false] rfl rfl (by kernel_rfl) (by decide) (fun K hK => ?_)
   refine goes_ Try.func11 (by kernel_rfl) rfl #[.agg #[.int .i64 a0_0, .slice A0_1 l0_1.length c0_1]] (by rfl) rfl rfl (by (try simp only [List.map_toArray, List.map_cons, List.map_nil]); first | done | rfl) ?_
   (refine (laws_toTable.calls K1 a0_0 A0_1 c0_1 l0_1 r2 r3 w50 (Cb HR0_1.1 HB.1) HC0_1.1 H1.1).mono ?_)
   rintro e w51 ⟨v1_, rfl, hS0, hb⟩
   refine ⟨_, rfl, ?_⟩
   have X18 : Ad (Kd.R (Kd.slice 72 k72) 70 w51 w.heap.size (fun k => w50.heap.size ≤ k ∧ k < w51.heap.size) v1_ r3) := ⟨Rm (Kd.R_lower (Ro hS0) HB.1.size) (fun k hk => ⟨hk.2.1, hk.2.2.1⟩)⟩
   have Z51 : Ad (w50.heap.size ≤ w51.heap.size) := ⟨hb.size⟩
   replace X7 := Am (Rb X7.1 hb)
   replace X12 := Am (Rb X12.1 hb)
   replace X13 := Am (Rb X13.1 hb)
   replace BX1 := Am (Kb BX1.1 hb)
   replace BX2 := Am (Kb BX2.1 hb)
   replace BX3 := Am (Kb BX3.1 hb)
   replace BX4 := Am (Kb BX4.1 hb)
   replace BX5 := Am (Kb BX5.1 hb)
   replace BXz := Am (Kb BXz.1 hb)
   replace HB := Am (Bh HB.1 HB.1.size hb)
   replace HBr := Am (Bh HBr.1 HBr.1.size hb)
   clear hb hS0
   obtain ⟨A18_, c18_, rfl⟩ := Rs X18.1
   refine hK.out _ _ ⟨BX1.1, BX2.1⟩ (fun hHeld => ?_)
   clear hK K
   refine norm_ (a' := ?_) ?_ ?_
   rotate_left
   ·show Act.put _ (some 89) _ = _
    simp only [Act.put, Lt, Lz, Ls, i64_w, i32_w]
    rfl
   refine one_ (i := 3) (N := some 91) #[true, true, true, true, true, true, false, false, false, false, true, false, false] rfl rfl (by kernel_rfl) (by decide) (fun K hK => ?_)
   refine goes_ Try.func24 (by kernel_rfl) rfl #[.agg #[.int .i64 a1_0, .int .i64 a1_1, .int .i64 a1_2, .int .i64 a1_3, .int .i64 a1_4]] (by rfl) rfl rfl (by (try simp only [List.map_toArray, List.map_cons, List.map_nil]); first | done | rfl) ?_
   (refine (laws_toCmd.calls a1_0 a1_1 a1_2 a1_3 a1_4 a1_0 a1_1 a1_2 a1_3 a1_4 w51 H2.1).mono ?_)
   rintro e w52 ⟨rfl, hb⟩
   refine ⟨_, rfl, ?_⟩
   have Z52 : Ad (w51.heap.size ≤ w52.heap.size) := ⟨hb.size⟩
   replace X7 := Am (Rb X7.1 hb)
   replace X12 := Am (Rb X12.1 hb)
   replace X13 := Am (Rb X13.1 hb)
   replace X18 := Am (Rb X18.1 hb)
   replace BX1 := Am (Kb BX1.1 hb)
   replace BX2 := Am (Kb BX2.1 hb)
   replace BX3 := Am (Kb BX3.1 hb)
   replace BX4 := Am (Kb BX4.1 hb)
   replace BX5 := Am (Kb BX5.1 hb)
   replace BXz := Am (Kb BXz.1 hb)
   replace HB := Am (Bh HB.1 HB.1.size hb)
   replace HBr := Am (Bh HBr.1 HBr.1.size hb)
   clear hb
   refine hK.out _ _ ⟨BX1.1, BX2.1⟩ (fun hHeld => ?_)
   clear hK K
   refine norm_ (a' := ?_) ?_ ?_
   rotate_left
   ·show Act.put _ (some 91) _ = _
    simp only [Act.put, Lt, Lz, Ls, i64_w, i32_w]
    rfl
   refine one_ (i := 6) (N := some 94) #[true, true, true, true, true, true, true, false, false, false, true, false, false] rfl rfl (by kernel_rfl) (by decide) (fun K hK => ?_)
   refine goes_ Try.func25 (by kernel_rfl) rfl #[.agg #[.int .i64 r2, .slice A18_ r3.length c18_], .agg #[.int .i64 a1_0, .int .i64 a1_1, .int .i64 a1_2, .int .i64 a1_3, .int .i64 a1_4], .int .i64 a2, .int .i64 a3] (by rfl) rfl rfl (by (try simp only [List.map_toArray, List.map_cons, List.map_nil]); first | done | rfl) ?_
   (refine (impl_AttrFor.calls K4 r2 A18_ c18_ r3 a1_0 a1_1 a1_2 a1_3 a1_4 a2 a3 r4 r5 r6 w52 (Rr X18.1).2.2 (Rr X18.1).2.1 H4.1).mono ?_)
   rintro e w53 ⟨v1_, rfl, hS0, hb⟩
   refine ⟨_, rfl, ?_⟩
   have X19 : Ad (Kd.R (Kd.int .i64) 3 w53 w.heap.size (fun k => w52.heap.size ≤ k ∧ k < w53.heap.size) v1_ r5) := ⟨Rm (Kd.R_lower (Ro hS0) HB.1.size) (fun k hk => ⟨hk.2.1, hk.2.2.1⟩)⟩
   have Z53 : Ad (w52.heap.size ≤ w53.heap.size) := ⟨hb.size⟩
   replace X7 := Am (Rb X7.1 hb)
   replace X12 := Am (Rb X12.1 hb)
   replace X13 := Am (Rb X13.1 hb)
   replace X18 := Am (Rb X18.1 hb)
   replace BX1 := Am (Kb BX1.1 hb)
   replace BX2 := Am (Kb BX2.1 hb)
   replace BX3 := Am (Kb BX3.1 hb)
   replace BX4 := Am (Kb BX4.1 hb)
   replace BX5 := Am (Kb BX5.1 hb)
   replace BXz := Am (Kb BXz.1 hb)
   replace HB := Am (Bh HB.1 HB.1.size hb)
   replace HBr := Am (Bh HBr.1 HBr.1.size hb)
   clear hb hS0
   obtain ⟨A19_, c19_, rfl⟩ := Rs X19.1
   refine hK.out _ _ ⟨BX1.1, BX2.1⟩ (fun hHeld => ?_)
   clear hK K
   refine norm_ (a' := ?_) ?_ ?_
   rotate_left
   ·show Act.put _ (some 94) _ = _
    simp only [Act.put, Lt, Lz, Ls, i64_w, i32_w]
    rfl
   refine pure_ (i := 7) (N := some 87) (v := ?_) (a' := ?_) #[true, true, true, true, true, true, true, true, false, false, true, false, false] rfl rfl (by kernel_rfl) (fun _ _ _ h => h) (Or.inl ⟨by rfl, ?_⟩) ?_ ?_
   rotate_left
   ·intro w'
    go_simp
    with_reducible rfl
   rotate_left
   ·simp only [Act.put, Lt, Lz, Ls, i64_w, i32_w]
    rfl
   refine pure_ (i := 8) (N := some 95) (v := ?_) (a' := ?_) #[true, true, true, true, true, true, true, true, true, false, true, false, false] rfl rfl (by kernel_rfl) (fun _ _ _ h => h) (Or.inl ⟨by rfl, ?_⟩) ?_ ?_
   rotate_left
   ·intro w'
    go_simp
    with_reducible rfl
   rotate_left
   ·simp only [Act.put, Lt, Lz, Ls, i64_w, i32_w]
    rfl
   refine pure_ (i := 9) (N := some 96) (v := ?_) (a' := ?_) #[true, true, true, true, true, true, true, true, true, true, true, false, false] rfl rfl (by kernel_rfl) (fun _ _ _ h => h) (Or.inl ⟨by rfl, ?_⟩) ?_ ?_
   rotate_left
   ·intro w'
    go_simp
    with_reducible rfl
   rotate_left
   ·simp only [Act.put, Lt, Lz, Ls, i64_w, i32_w]
    rfl
   exact norm_ (by simp only [putAll, Act.put, Lt, Lz, Ls]) (hCont (.slice A18_ r3.length c18_, .slice A19_ r5.length c19_, gb49) _ ⟨⟨BX1.1, BX2.1⟩, HBr.1, Rm (Ro X19.1) (fun k hk => ⟨by have := Z1.1; have := GBX1.1; have := GBX2.1; have := Z2.1; have := Z3.1; have := Z17.1; have := GEBX3.1; have := GLBX3.1; have := Z18.1; have := Z19.1; have := Z20.1; have := GBX4.1; have := Z21.1; have := Z30.1; have := GEBX5.1; have := GLBX5.1; have := Z31.1; have := Z32.1; have := Z33.1; have := Z34.1; have := Z35.1; have := Z36.1; have := Z37.1; have := Z38.1; have := Z39.1; have := Z40.1; have := Z50.1; have := Z51.1; have := Z52.1; have := Z53.1; have h3_ := hk.1; (try dsimp only at h3_); omega, hk.2.2.1⟩), BXz.1, GW_.1⟩)
 clear HBr
 rintro ⟨v53_0, v53_1, gb53⟩ w54 ⟨hHeld, hb, hS0, hbox, hge⟩
 have Z54 : Ad (w40.heap.size ≤ w54.heap.size) := ⟨hb.size⟩
 replace X7 := Am (Rb X7.1 hb)
 replace X12 := Am (Rb X12.1 hb)
 replace X13 := Am (Rb X13.1 hb)
 replace BX1 := Am (Kb BX1.1 hb)
 replace BX2 := Am (Kb BX2.1 hb)
 replace BX3 := Am (Kb BX3.1 hb)
 replace BX4 := Am (Kb BX4.1 hb)
 replace BX5 := Am (Kb BX5.1 hb)
 replace HB := Am (Bh HB.1 HB.1.size hb)
 clear hb
 have X20 : Ad (Kd.R (Kd.int .i64) 3 w54 w.heap.size (fun k => w40.heap.size ≤ k ∧ k < w54.heap.size) v53_1 r5) := ⟨hS0⟩
 obtain ⟨A20_, c20_, rfl⟩ := Rs X20.1
 clear hS0
 have GEBX6 : Ad (w40.heap.size ≤ gb53) := ⟨hge⟩
 have BX6 := Am hbox
 clear hge hbox
 have GLBX6 : Ad (gb53 < w54.heap.size) := ⟨Kl BX6.1⟩
 refine norm_ (a' := ?_) ?_ ?_
 rotate_left
 ·simp only [putAll, Act.put, Lt, Lz, Ls]
  rfl
 refine one_ (i := 11) (N := none) #[true, true, true, true, true, true, true, true, true, true, true, true, false] rfl rfl (by kernel_rfl) (by decide) (fun K hK => ?_)
 refine skip_ (by rfl) rfl (store_run (cs' := #[.int .i64 r4, .slice A20_ r5.length c20_]) BX6.1 2 rfl rfl 46 _ _ (by rfl) (by rfl) (by rfl) (by kernel_rfl) (by first | (simp [Value.oneCell']; done) | kernel_rfl)) ?_
 have hk := kept_setRow w54 gb53 #[.int .i64 r4, .slice A20_ r5.length c20_]
 have hbx := setRow_heap w54 gb53 _ #[.int .i64 r4, .slice A20_ r5.length c20_] _ _ BX6.1
 have hb := below_setRow_ HB.1 (g := gb53) (by have h3_ := GEBX6.1; have := Z1.1; have := GBX1.1; have := GBX2.1; have := Z2.1; have := Z3.1; have := Z17.1; have := GEBX3.1; have := GLBX3.1; have := Z18.1; have := Z19.1; have := Z20.1; have := GBX4.1; have := Z21.1; have := Z30.1; have := GEBX5.1; have := GLBX5.1; have := Z31.1; have := Z32.1; have := Z33.1; have := Z34.1; have := Z35.1; have := Z36.1; have := Z37.1; have := Z38.1; have := Z39.1; have := Z40.1; have := Z54.1; have := GEBX6.1; have := GLBX6.1; omega) #[.int .i64 r4, .slice A20_ r5.length c20_]
 generalize w54.setRow gb53 #[.int .i64 r4, .slice A20_ r5.length c20_] = w55 at hk hbx hb ⊢
 have Z55 : Ad (w54.heap.size ≤ w55.heap.size) := ⟨hk.1⟩
 have n0_ := Am (Rk X7.1 hk (fun k h1_ h2_ => by have := Z1.1; have := GBX1.1; have := GBX2.1; have := Z2.1; have := Z3.1; have := Z17.1; have := GEBX3.1; have := GLBX3.1; have := Z18.1; have := Z19.1; have := Z20.1; have := GBX4.1; have := Z21.1; have := Z30.1; have := GEBX5.1; have := GLBX5.1; have := Z31.1; have := Z32.1; have := Z33.1; have := Z34.1; have := Z35.1; have := Z36.1; have := Z37.1; have := Z38.1; have := Z39.1; have := Z40.1; have := Z54.1; have := GEBX6.1; have := GLBX6.1; (try dsimp only at h1_ h2_); omega))
 have n1_ := Am (Rk X12.1 hk (fun k h1_ h2_ => by have := Z1.1; have := GBX1.1; have := GBX2.1; have := Z2.1; have := Z3.1; have := Z17.1; have := GEBX3.1; have := GLBX3.1; have := Z18.1; have := Z19.1; have := Z20.1; have := GBX4.1; have := Z21.1; have := Z30.1; have := GEBX5.1; have := GLBX5.1; have := Z31.1; have := Z32.1; have := Z33.1; have := Z34.1; have := Z35.1; have := Z36.1; have := Z37.1; have := Z38.1; have := Z39.1; have := Z40.1; have := Z54.1; have := GEBX6.1; have := GLBX6.1; (try dsimp only at h1_ h2_); omega))
 have n2_ := Am (Rk X13.1 hk (fun k h1_ h2_ => by have := Z1.1; have := GBX1.1; have := GBX2.1; have := Z2.1; have := Z3.1; have := Z17.1; have := GEBX3.1; have := GLBX3.1; have := Z18.1; have := Z19.1; have := Z20.1; have := GBX4.1; have := Z21.1; have := Z30.1; have := GEBX5.1; have := GLBX5.1; have := Z31.1; have := Z32.1; have := Z33.1; have := Z34.1; have := Z35.1; have := Z36.1; have := Z37.1; have := Z38.1; have := Z39.1; have := Z40.1; have := Z54.1; have := GEBX6.1; have := GLBX6.1; (try dsimp only at h1_ h2_); omega))
 have n3_ := Am (Rm (Rk (Kd.R_types X20.1 BX6.1 (by decide)) hk (fun k h1_ h2_ => h1_.2 h2_)) (fun k h1_ => h1_.1))
 have n4_ := Am (Kq BX1.1 hk (fun h1_ => by have := Z1.1; have := GBX1.1; have := GBX2.1; have := Z2.1; have := Z3.1; have := Z17.1; have := GEBX3.1; have := GLBX3.1; have := Z18.1; have := Z19.1; have := Z20.1; have := GBX4.1; have := Z21.1; have := Z30.1; have := GEBX5.1; have := GLBX5.1; have := Z31.1; have := Z32.1; have := Z33.1; have := Z34.1; have := Z35.1; have := Z36.1; have := Z37.1; have := Z38.1; have := Z39.1; have := Z40.1; have := Z54.1; have := GEBX6.1; have := GLBX6.1; (try dsimp only at h1_); omega))
 have n5_ := Am (Kq BX2.1 hk (fun h1_ => by have := Z1.1; have := GBX1.1; have := GBX2.1; have := Z2.1; have := Z3.1; have := Z17.1; have := GEBX3.1; have := GLBX3.1; have := Z18.1; have := Z19.1; have := Z20.1; have := GBX4.1; have := Z21.1; have := Z30.1; have := GEBX5.1; have := GLBX5.1; have := Z31.1; have := Z32.1; have := Z33.1; have := Z34.1; have := Z35.1; have := Z36.1; have := Z37.1; have := Z38.1; have := Z39.1; have := Z40.1; have := Z54.1; have := GEBX6.1; have := GLBX6.1; (try dsimp only at h1_); omega))
 have n6_ := Am (Kq BX3.1 hk (fun h1_ => by have := Z1.1; have := GBX1.1; have := GBX2.1; have := Z2.1; have := Z3.1; have := Z17.1; have := GEBX3.1; have := GLBX3.1; have := Z18.1; have := Z19.1; have := Z20.1; have := GBX4.1; have := Z21.1; have := Z30.1; have := GEBX5.1; have := GLBX5.1; have := Z31.1; have := Z32.1; have := Z33.1; have := Z34.1; have := Z35.1; have := Z36.1; have := Z37.1; have := Z38.1; have := Z39.1; have := Z40.1; have := Z54.1; have := GEBX6.1; have := GLBX6.1; (try dsimp only at h1_); omega))
 have n7_ := Am (Kq BX4.1 hk (fun h1_ => by have := Z1.1; have := GBX1.1; have := GBX2.1; have := Z2.1; have := Z3.1; have := Z17.1; have := GEBX3.1; have := GLBX3.1; have := Z18.1; have := Z19.1; have := Z20.1; have := GBX4.1; have := Z21.1; have := Z30.1; have := GEBX5.1; have := GLBX5.1; have := Z31.1; have := Z32.1; have := Z33.1; have := Z34.1; have := Z35.1; have := Z36.1; have := Z37.1; have := Z38.1; have := Z39.1; have := Z40.1; have := Z54.1; have := GEBX6.1; have := GLBX6.1; (try dsimp only at h1_); omega))
 have n8_ := Am (Kq BX5.1 hk (fun h1_ => by have := Z1.1; have := GBX1.1; have := GBX2.1; have := Z2.1; have := Z3.1; have := Z17.1; have := GEBX3.1; have := GLBX3.1; have := Z18.1; have := Z19.1; have := Z20.1; have := GBX4.1; have := Z21.1; have := Z30.1; have := GEBX5.1; have := GLBX5.1; have := Z31.1; have := Z32.1; have := Z33.1; have := Z34.1; have := Z35.1; have := Z36.1; have := Z37.1; have := Z38.1; have := Z39.1; have := Z40.1; have := Z54.1; have := GEBX6.1; have := GLBX6.1; (try dsimp only at h1_); omega))
 have n9_ := Am (hb)
 clear X7 X12 X13 X20 BX1 BX2 BX3 BX4 BX5 HB BX6
 have X7 := n0_
 have X12 := n1_
 have X13 := n2_
 have X20 := n3_
 have BX1 := n4_
 have BX2 := n5_
 have BX3 := n6_
 have BX4 := n7_
 have BX5 := n8_
 have HB := n9_
 clear n0_ n1_ n2_ n3_ n4_ n5_ n6_ n7_ n8_ n9_
 have BX6 : Ad (w55.heap[gb53]? = some (.cells #[.int .i64 r4, .slice A20_ r5.length c20_] 46 (0, 0))) := ⟨hbx⟩
 clear hbx hb hk
 refine hK.out _ _ ⟨BX1.1, BX2.1⟩ (fun hHeld => ?_)
 clear hK K
 refine pure_ (i := 12) (N := some 19) (v := ?_) (a' := ?_) #[true, true, true, true, true, true, true, true, true, true, true, true, true] rfl rfl (by kernel_rfl) (fun _ _ _ h => h) (Or.inl ⟨by rfl, ?_⟩) ?_ ?_
 rotate_left
 ·intro w'
  go_simp
  with_reducible rfl
 rotate_left
 ·simp only [Act.put, Lt, Lz, Ls, i64_w, i32_w]
  rfl
 refine done_ (by kernel_rfl) ?_
 go_wp2_with (first | ((refine Gd (N := 46) rfl ?_); first | refine Er rfl (load_run BX3.1 2 rfl 46 _ (by rfl) (by rfl) _ Try.underlying46 rfl (by kernel_rfl)) ?_ | refine Er rfl (load_run BX6.1 2 rfl 46 _ (by rfl) (by rfl) _ Try.underlying46 rfl (by kernel_rfl)) ?_) | ((refine Gd (N := 47) rfl ?_); first | refine Er rfl (load_run BX3.1 2 rfl 46 _ (by rfl) (by rfl) _ Try.underlying46 rfl (by kernel_rfl)) ?_ | refine Er rfl (load_run BX6.1 2 rfl 46 _ (by rfl) (by rfl) _ Try.underlying46 rfl (by kernel_rfl)) ?_) | ((refine Gd (N := 66) rfl ?_); first | refine Er rfl (load_run BX3.1 2 rfl 46 _ (by rfl) (by rfl) _ Try.underlying46 rfl (by kernel_rfl)) ?_ | refine Er rfl (load_run BX6.1 2 rfl 46 _ (by rfl) (by rfl) _ Try.underlying46 rfl (by kernel_rfl)) ?_) | ((refine Gd (N := 67) rfl ?_); first | refine Er rfl (load_run BX3.1 2 rfl 46 _ (by rfl) (by rfl) _ Try.underlying46 rfl (by kernel_rfl)) ?_ | refine Er rfl (load_run BX6.1 2 rfl 46 _ (by rfl) (by rfl) _ Try.underlying46 rfl (by kernel_rfl)) ?_) | ((refine Gd (N := 76) rfl ?_); first | refine Er rfl (load_run BX3.1 2 rfl 46 _ (by rfl) (by rfl) _ Try.underlying46 rfl (by kernel_rfl)) ?_ | refine Er rfl (load_run BX6.1 2 rfl 46 _ (by rfl) (by rfl) _ Try.underlying46 rfl (by kernel_rfl)) ?_) | ((refine Gd (N := 79) rfl ?_); first | refine Er rfl (load_run BX3.1 2 rfl 46 _ (by rfl) (by rfl) _ Try.underlying46 rfl (by kernel_rfl)) ?_ | refine Er rfl (load_run BX6.1 2 rfl 46 _ (by rfl) (by rfl) _ Try.underlying46 rfl (by kernel_rfl)) ?_) | ((refine Gd (N := 97) rfl ?_); first | refine Er rfl (load_run BX3.1 2 rfl 46 _ (by rfl) (by rfl) _ Try.underlying46 rfl (by kernel_rfl)) ?_ | refine Er rfl (load_run BX6.1 2 rfl 46 _ (by rfl) (by rfl) _ Try.underlying46 rfl (by kernel_rfl)) ?_) | ((refine Gd (N := 98) rfl ?_); first | refine Er rfl (load_run BX3.1 2 rfl 46 _ (by rfl) (by rfl) _ Try.underlying46 rfl (by kernel_rfl)) ?_ | refine Er rfl (load_run BX6.1 2 rfl 46 _ (by rfl) (by rfl) _ Try.underlying46 rfl (by kernel_rfl)) ?_) | ((refine Gd (N := 106) rfl ?_); first | refine Er rfl (load_run BX3.1 2 rfl 46 _ (by rfl) (by rfl) _ Try.underlying46 rfl (by kernel_rfl)) ?_ | refine Er rfl (load_run BX6.1 2 rfl 46 _ (by rfl) (by rfl) _ Try.underlying46 rfl (by kernel_rfl)) ?_))
 (refine (laws_eqAttr.calls K5 r4 A20_ c20_ r5 r4 A7_ c7_ r5 true w55 (Rr X20.1).2.2 (Rr X20.1).2.1 (Rr X7.1).2.2 (Rr X7.1).2.1 H5.1).mono ?_)
 rintro e w56 ⟨rfl, hb⟩
 have Z56 : Ad (w55.heap.size ≤ w56.heap.size) := ⟨hb.size⟩
 replace X7 := Am (Rb X7.1 hb)
 replace X12 := Am (Rb X12.1 hb)
 replace X13 := Am (Rb X13.1 hb)
 replace X20 := Am (Rb X20.1 hb)
 replace BX1 := Am (Kb BX1.1 hb)
 replace BX2 := Am (Kb BX2.1 hb)
 replace BX3 := Am (Kb BX3.1 hb)
 replace BX4 := Am (Kb BX4.1 hb)
 replace BX5 := Am (Kb BX5.1 hb)
 replace BX6 := Am (Kb BX6.1 hb)
 replace HB := Am (Bh HB.1 HB.1.size hb)
 clear hb
 go_wp2_with (first | ((refine Gd (N := 46) rfl ?_); first | refine Er rfl (load_run BX5.1 2 rfl 46 _ (by rfl) (by rfl) _ Try.underlying46 rfl (by kernel_rfl)) ?_) | ((refine Gd (N := 47) rfl ?_); first | refine Er rfl (load_run BX5.1 2 rfl 46 _ (by rfl) (by rfl) _ Try.underlying46 rfl (by kernel_rfl)) ?_) | ((refine Gd (N := 66) rfl ?_); first | refine Er rfl (load_run BX5.1 2 rfl 46 _ (by rfl) (by rfl) _ Try.underlying46 rfl (by kernel_rfl)) ?_) | ((refine Gd (N := 67) rfl ?_); first | refine Er rfl (load_run BX5.1 2 rfl 46 _ (by rfl) (by rfl) _ Try.underlying46 rfl (by kernel_rfl)) ?_) | ((refine Gd (N := 76) rfl ?_); first | refine Er rfl (load_run BX5.1 2 rfl 46 _ (by rfl) (by rfl) _ Try.underlying46 rfl (by kernel_rfl)) ?_) | ((refine Gd (N := 79) rfl ?_); first | refine Er rfl (load_run BX5.1 2 rfl 46 _ (by rfl) (by rfl) _ Try.underlying46 rfl (by kernel_rfl)) ?_) | ((refine Gd (N := 97) rfl ?_); first | refine Er rfl (load_run BX5.1 2 rfl 46 _ (by rfl) (by rfl) _ Try.underlying46 rfl (by kernel_rfl)) ?_) | ((refine Gd (N := 98) rfl ?_); first | refine Er rfl (load_run BX5.1 2 rfl 46 _ (by rfl) (by rfl) _ Try.underlying46 rfl (by kernel_rfl)) ?_) | ((refine Gd (N := 106) rfl ?_); first | refine Er rfl (load_run BX5.1 2 rfl 46 _ (by rfl) (by rfl) _ Try.underlying46 rfl (by kernel_rfl)) ?_))
 have hc_ := laws_heldAttr.calls K9 r4 A12_ c12_ rm8 1 m8 w56 (Rr X12.1).2.2 (Nat.le_trans (Nat.le_of_eq (Rr X12.1).1.symm) (Rr X12.1).2.1) H9.1
 rw [← (Rr X12.1).1] at hc_
 (refine (hc_).mono ?_)
 clear hc_
 rintro e w57 ⟨rfl, hb⟩
 have Z57 : Ad (w56.heap.size ≤ w57.heap.size) := ⟨hb.size⟩
 replace X7 := Am (Rb X7.1 hb)
 replace X12 := Am (Rb X12.1 hb)
 replace X13 := Am (Rb X13.1 hb)
 replace X20 := Am (Rb X20.1 hb)
 replace BX1 := Am (Kb BX1.1 hb)
 replace BX2 := Am (Kb BX2.1 hb)
 replace BX3 := Am (Kb BX3.1 hb)
 replace BX4 := Am (Kb BX4.1 hb)
 replace BX5 := Am (Kb BX5.1 hb)
 replace BX6 := Am (Kb BX6.1 hb)
 replace HB := Am (Bh HB.1 HB.1.size hb)
 clear hb
 go_wp2
 go_ret
 exact ⟨rfl, HB.1⟩
end Go.Proofs.Ytacpjifbgnlppaa.QFnExactAttrFor
