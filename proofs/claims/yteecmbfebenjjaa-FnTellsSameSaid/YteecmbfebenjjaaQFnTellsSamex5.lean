-- Written by a program of this session (wip/mk.py) over the kit's print: Lean checks it.
import Derived.Test.YteecmbfebenjjaaQFnTellsSamex0
import Derived.Test.YteecmbfebenjjaaQFnTellsSamex3
import Derived.Test.YteecmbfebenjjaaQFnTellsSamex4
namespace Go.Proofs.Yteecmbfebenjjaa.QFnTellsSame
open Go.Proofs.YteecmbfebenjjaaW.PrintWords renaming below_alloc → Ba, pw_below_drewN → Bn, below_drew1 → Bd, below_set → Bs, below_size → Bz, below_step → Bt, gate_dst → Gd, gate_callee → Gc, box_event → Be, blk_alloc → Ka, blk_drewN → Kn, blk_drew → Ke, blk_below → Kb, blk_cell → Kc, blk_frozen → Kz
open Go.Proofs.YteecmbfebenjjaaW.PrintWords.Aside0 renaming mk → Am
open Go.Proofs.YteecmbfebenjjaaW.PrintWords renaming Aside0 → Ad
open Go.RowKit Go.Proofs.YteecmbfebenjjaaW.PrintWords Go.Proofs.YteecmbfebenjjaaW.PrintLast Go.Proofs.YteecmbfebenjjaaW.PrintMore
attribute [local go_sem] max2_int min2_int max_two min_two max_three min_three max_four min_four   -- for this text's walks alone
set_option linter.unusedVariables false
set_option linter.unusedSimpArgs false
section
open Go.RowKit
theorem spec_l1Cur_cmds.load_run {P : Program} {o : Oper} {a : Act} {W : World} {g : Nat} {cs : Array Value} {t : TypeId} (hg : W.heap[g]? = some (.cells cs t (0, 0))) (n : Nat) (hn : cs.size = n) (ty : TypeId) (x : Operand) (ho : o.op = .load ty x)
  (hx : a.eval x = .pointer (some ⟨g, 0, none⟩)) (d : TypeDesc) (hu : P.underlying ty = some d) (hd : (match d with | .struct _ | .array _ _ => true | _ => false) = true) (hi : (P.info? ty).map (·.size) = some n) :
  (execOp a.eval o).run P W = .ok (.value (.agg cs)) W := by
 subst hn
 unfold execOp
 simp only [ho, hx, Instr.loadAt, Instr.sureAddr, Sem.run_bind, Sem.run_pure, Result.andThen_ok, run_loadVar_row W g t ty cs (0, 0) d hg hu hd hi]
end
def spec_l1Cur_cmds.e (l0 : List Int) (a s : Int) : Option (S26 × Int × Int) := (spec_l1Cur_cmd.f l0 a s).bind fun t => if t.1 = 1 then (spec_l1Cur_one.f l0 t.2.2.2.2.2.1 t.2.2.2.2.2.2 3).bind fun b => if b.1 = true then (spec_l1Cur_pick.f l0 b.2.1 b.2.2 90).bind fun p => some ((⟨t.1, t.2.1, t.2.2.1, t.2.2.2.1, wrap64 (60 + p.1)⟩ : S26), p.2.1, p.2.2) else some ((⟨t.1, t.2.1, t.2.2.1, t.2.2.2.1, t.2.2.2.2.1⟩ : S26), b.2.1, b.2.2) else some ((⟨t.1, t.2.1, t.2.2.1, t.2.2.2.1, t.2.2.2.2.1⟩ : S26), t.2.2.2.2.2.1, t.2.2.2.2.2.2)
def spec_l1Cur_cmds.l : Nat → List Int → List S26 → Int → Int → Int → Option (List S26 × Int × Int)
 | 0, _, _, _, _, _ => none
 | k + 1, l0, out, n, a, s => if n > 0 then (spec_l1Cur_cmds.e l0 a s).bind fun q => if out.length < 1000 then spec_l1Cur_cmds.l k l0 (out ++ [q.1]) (wrap64 (n - 1)) q.2.1 q.2.2 else none else some (out, a, s)
def spec_l1Cur_cmds.z (l0 : List Int) (t : List S26 × Int × Int) : Option (List S26 × Int × Int) := if 0 < t.1.length then (spec_l1Cur_one.f l0 t.2.1 t.2.2 20).bind fun b => if b.1 = true then (spec_l1Cur_anyCmd.f l0 b.2.1 b.2.2).bind fun q => some (t.1.set 0 (⟨q.1, q.2.1, q.2.2.1, q.2.2.2.1, q.2.2.2.2.1⟩ : S26), q.2.2.2.2.2.1, q.2.2.2.2.2.2) else some (t.1, b.2.1, b.2.2) else some t
def spec_l1Cur_cmds.f (k : Nat) (l0 : List Int) (a s a1 : Int) : Option (List S26 × Int × Int) := (spec_l1Cur_pick.f l0 a s (wrap64 (a1 + 1))).bind fun p => (spec_l1Cur_cmds.l k l0 [] p.1 p.2.1 p.2.2).bind (spec_l1Cur_cmds.z l0)
theorem spec_l1Cur_cmds.mono_l : ∀ k l0 out n a s, LeO (spec_l1Cur_cmds.l k l0 out n a s) (spec_l1Cur_cmds.l (k + 1) l0 out n a s)
 | 0, _, _, _, _, _ => LeO.none _
 | k + 1, l0, out, n, a, s => by
  unfold spec_l1Cur_cmds.l
  exact LeO.ite (LeO.bind (LeO.refl _) (fun q => LeO.ite (spec_l1Cur_cmds.mono_l k _ _ _ _ _) (LeO.none _))) (LeO.refl _)
theorem spec_l1Cur_cmds.mono : ∀ l0 a s a1 k, LeO (spec_l1Cur_cmds.f k l0 a s a1) (spec_l1Cur_cmds.f (k + 1) l0 a s a1) := by
 intro l0 a s a1 k
 unfold spec_l1Cur_cmds.f
 exact LeO.bind (LeO.refl _) (fun _ => LeO.bind (spec_l1Cur_cmds.mono_l _ _ _ _ _ _) (fun _ => LeO.refl _))
set_option maxHeartbeats 8000000 in
set_option maxRecDepth 100000 in
theorem spec_l1Cur_cmds.calls (k : Nat) (g : Nat) (l0 : List Int) (a s a1 : Int) (r1 : List S26) (r2 r3 : Int) (w0 w : World) (hI : IsS91 w0 w g l0 a s) (hB : Below w0.heap.size w0 w) (h : spec_l1Cur_cmds.f k l0 a s a1 = some (r1, r2, r3)) :
  Calls Try.prog 81 #[.pointer (some ⟨g, 0, none⟩), .int .i64 a1] w fun e w' => ∃ v0_ : Value, e = .returned (v0_) ∧ Kd.R k26 26 w' w.heap.size (fun _ => True) v0_ r1 ∧ IsS91 w0 w' g l0 r2 r3 ∧ Below w0.heap.size w0 w' ∧ KeepBut w w' g none := by
 have hu_ := Try.underlying26
 have HI := Am hI
 have HB := Am hB
 have HK := Am (KeepBut.refl w g none)
 have HWS := Am hB.size
 clear hI hB
 unfold spec_l1Cur_cmds.f at h
 obtain ⟨⟨n0, a0, s0⟩, hp, h⟩ := Option.bind_eq_some_iff.1 h
 obtain ⟨⟨rl, ra, rs⟩, hl, hz⟩ := Option.bind_eq_some_iff.1 h
 have HP := Am hp
 have HL := Am hl
 have HZ := Am hz
 clear h hp hl hz
 go_enter Try.func81, Try.ntmps81
 go_wp2_with fail
 refine (spec_l1Cur_pick.calls g l0 a s (wrap64 (a1 + 1)) n0 a0 s0 w0 w HI.out HB.out HP.out).mono ?_
 rintro e w1 ⟨rfl, hI, hB, hK⟩
 have HI1 := Am hI
 have HB1 := Am hB
 have HK1 := Am (KeepBut.trans HK.out hK (.inl rfl))
 clear hI hB hK HI HB HK
 go_wp2
 go_loopg [5, 6] k (fun kq v5 v6 wr => ∃ (out : List S26) (n a s : Int), v6 = .int .i64 n ∧ Ad (spec_l1Cur_cmds.l kq l0 out n a s = some (rl, ra, rs)) ∧ Ad (Kd.R k26 26 wr w.heap.size (fun _ => True) v5 out) ∧ Ad (IsS91 w0 wr g l0 a s) ∧ Ad (KeepBut w wr g none) ∧ Ad (Below w0.heap.size w0 wr))
 case atStart => exact ⟨[], n0, a0, s0, rfl, HL, ⟨Kd.R_nil _ _ _ _ _⟩, HI1, HK1, HB1⟩
 case round =>
  clear HL HI1 HK1 HB1 HP
  obtain ⟨out, n, a, s, rfl, HF, HO1, HI1, HK1, HB1⟩ := hrel
  obtain ⟨A5, c5, e5⟩ := Kd.R_slice HO1.out
  subst e5
  cases gk with
  | zero => exact absurd HF.out (by simp [spec_l1Cur_cmds.l])
  | succ k1 =>
  by_cases hn : n > 0
  ·have hnz : decide (0 < n) = true := decide_eq_true hn
   have h1 := HF.out
   rw [spec_l1Cur_cmds.l, if_pos hn] at h1
   obtain ⟨⟨q1, qa, qs⟩, he, h1⟩ := Option.bind_eq_some_iff.1 h1
   by_cases hlen : out.length < 1000
   case neg => rw [if_neg hlen] at h1; cases h1
   rw [if_pos hlen] at h1
   have HLEN := Am hlen
   have PG := Am h1
   unfold spec_l1Cur_cmds.e at he
   obtain ⟨⟨t1, t2, t3, t4, t5, a2, s2⟩, hc, he⟩ := Option.bind_eq_some_iff.1 he
   have HC := Am hc
   have HE := Am he
   clear h1 he hc hlen HF hn
   go_wp2_with fail
   refine (spec_l1Cur_cmd.calls g l0 a s t1 t2 t3 t4 t5 a2 s2 w0 wr HI1.out HB1.out HC.out).mono ?_
   rintro e w2 ⟨rfl, hI, hB, hK⟩
   have HI2 := Am hI
   have HB2 := Am hB
   have HK2 := Am (KeepBut.trans HK1.out hK (.inl rfl))
   have HO2 := Am (Kd.R_mono (Kd.R_keep (IsS91.apart HI1.out HO1.out (by decide)) hK (fun _ h => h.2)) (fun _ h => h.1))
   clear hI hB hK HI1 HB1 HK1 HO1
   go_upto_region 6 with (fail)
   refine letC (fun W_ => Below w2.heap.size w2 W_ ∧ W_.heap[w2.heap.size]? = some (.cells #[.int .i64 t1, .int .i64 t2, .int .i64 t3, .int .i64 t4, .int .i64 t5] 26 (0, 0))) ?_ ?_
   ·refine ⟨by repeat (first | refine Bs ?_ (Nat.le_refl _) | apply Ba | exact Below.refl _ _), ?_⟩
    exact blk_new w2 (.cells #[.int .i64 t1, .int .i64 t2, .int .i64 t3, .int .i64 t4, .int .i64 t5] 26)
   rintro w3 ⟨hb, hx⟩
   have HNG := Am (show w2.heap.size ≠ g from fun h => by have := IsS91.lt HI2.out; omega)
   have HGW := Am HK2.out.1
   have BX3 := Am hx
   have HI3 := Am (IsS91.below HI2.out hb)
   have HK3 := Am (KeepBut.trans HK2.out (KeepBut.of_below hb g none) (.inl rfl))
   have HO3 : Ad (Kd.R k26 26 w3 w.heap.size (fun k_ => k_ ≠ w2.heap.size) (.slice A5 out.length c5) out) := ⟨Kd.R_mono (Kd.R_below (Kd.R_bound HO2.out) hb) (fun k hk => by have := hk.2.2.1; omega)⟩
   have HB3 := Am (below_then HB2.out HB2.out.size hb)
   clear hb hx HI2 HK2 HO2 HB2
   generalize w2.heap.size = gb at HNG HGW BX3 HO3 ⊢
   have HGE : Ad (w0.heap.size ≤ gb) := ⟨by have := HWS.out; have := HGW.out; omega⟩
   by_cases hk : t1 = 1
   ·have HE1 := HE.out
    try dsimp only at HE1
    rw [if_pos hk] at HE1
    obtain ⟨⟨b1, a3, s3⟩, hone, he⟩ := Option.bind_eq_some_iff.1 HE1
    have Hspec_l1Cur_one := Am hone
    have HE := Am he
    clear hone he HE1
    subst hk
    have q0 : w3.cell? ⟨gb, 0, none⟩ = some (.int .i64 1) := (Kc BX3.out 0).trans rfl
    have q1 : w3.cell? ⟨gb, 1, none⟩ = some (.int .i64 t2) := (Kc BX3.out 1).trans rfl
    have q2 : w3.cell? ⟨gb, 2, none⟩ = some (.int .i64 t3) := (Kc BX3.out 2).trans rfl
    have q3 : w3.cell? ⟨gb, 3, none⟩ = some (.int .i64 t4) := (Kc BX3.out 3).trans rfl
    have q4 : w3.cell? ⟨gb, 4, none⟩ = some (.int .i64 t5) := (Kc BX3.out 4).trans rfl
    go_wp2_with fail
    refine (spec_l1Cur_one.calls g l0 a2 s2 3 b1 a3 s3 w0 w3 HI3.out HB3.out Hspec_l1Cur_one.out).mono ?_
    rintro e w4 ⟨rfl, hI, hB, hK⟩
    clear q0 q1 q2 q3 q4
    have HI4 := Am hI
    have HB4 := Am hB
    have HK4 := Am (KeepBut.trans HK3.out hK (.inl rfl))
    have HO4 := Am (Kd.R_mono (Kd.R_keep (IsS91.apart HI3.out HO3.out (by decide)) hK (fun _ h => h.2)) (fun _ h => h.1))
    have BX4 := Am (hK.blk BX3.out HNG.out (by simp))
    clear hI hB hK HI3 HB3 HK3 HO3 BX3
    have q0 : w4.cell? ⟨gb, 0, none⟩ = some (.int .i64 1) := (Kc BX4.out 0).trans rfl
    have q1 : w4.cell? ⟨gb, 1, none⟩ = some (.int .i64 t2) := (Kc BX4.out 1).trans rfl
    have q2 : w4.cell? ⟨gb, 2, none⟩ = some (.int .i64 t3) := (Kc BX4.out 2).trans rfl
    have q3 : w4.cell? ⟨gb, 3, none⟩ = some (.int .i64 t4) := (Kc BX4.out 3).trans rfl
    have q4 : w4.cell? ⟨gb, 4, none⟩ = some (.int .i64 t5) := (Kc BX4.out 4).trans rfl
    cases b1 with
    | true =>
     have HE1 := HE.out
     try dsimp only at HE1
     rw [if_pos rfl] at HE1
     obtain ⟨⟨p1, a4, s4⟩, hpk, he⟩ := Option.bind_eq_some_iff.1 HE1
     have Hspec_l1Cur_pick := Am hpk
     simp only [Option.some.injEq, Prod.mk.injEq] at he
     obtain ⟨rfl, rfl, rfl⟩ := he
     clear hpk HE1 HE
     go_wp2_with fail
     refine (spec_l1Cur_pick.calls g l0 a3 s3 90 p1 a4 s4 w0 w4 HI4.out HB4.out Hspec_l1Cur_pick.out).mono ?_
     rintro e w5 ⟨rfl, hI, hB, hK⟩
     clear q0 q1 q2 q3 q4
     have HI5 := Am hI
     have HB5 := Am hB
     have HK5 := Am (KeepBut.trans HK4.out hK (.inl rfl))
     have HO5 := Am (Kd.R_mono (Kd.R_keep (IsS91.apart HI4.out HO4.out (by decide)) hK (fun _ h => h.2)) (fun _ h => h.1))
     have BX5 := Am (hK.blk BX4.out HNG.out (by simp))
     clear hI hB hK HI4 HB4 HK4 HO4 BX4
     have q0 : w5.cell? ⟨gb, 0, none⟩ = some (.int .i64 1) := (Kc BX5.out 0).trans rfl
     have q1 : w5.cell? ⟨gb, 1, none⟩ = some (.int .i64 t2) := (Kc BX5.out 1).trans rfl
     have q2 : w5.cell? ⟨gb, 2, none⟩ = some (.int .i64 t3) := (Kc BX5.out 2).trans rfl
     have q3 : w5.cell? ⟨gb, 3, none⟩ = some (.int .i64 t4) := (Kc BX5.out 3).trans rfl
     have q4 : w5.cell? ⟨gb, 4, none⟩ = some (.int .i64 t5) := (Kc BX5.out 4).trans rfl
     have qf : w5.frozen? ⟨gb, 4, none⟩ = false := Kz BX5.out 4
     go_upto_region 8 with (fail)
     refine letC (fun W_ => W_ = w5.setCell ⟨gb, 4, none⟩ (.int .i64 (wrap64 (60 + p1)))) (by first | rfl | simp) ?_
     rintro w6 hw6
     have BX6 : Ad (w6.heap[gb]? = some (.cells #[.int .i64 1, .int .i64 t2, .int .i64 t3, .int .i64 t4, .int .i64 (wrap64 (60 + p1))] 26 (0, 0))) := ⟨by rw [hw6]; exact blk_put BX5.out 4 _ rfl⟩
     have HI6 : Ad (IsS91 w0 w6 g l0 a4 s4) := ⟨by rw [hw6]; exact IsS91.far HI5.out HNG.out.symm _⟩
     have HK6 : Ad (KeepBut w w6 g none) := ⟨by rw [hw6]; exact keep_far HK5.out HGW.out _⟩
     have HO6 : Ad (Kd.R k26 26 w6 w.heap.size (fun k_ => k_ ≠ gb) (.slice A5 out.length c5) out) := ⟨by rw [hw6]; exact Kd.R_far (p := ⟨gb, 4, none⟩) HO5.out (fun _ hk => hk) _⟩
     have HB6 : Ad (Below w0.heap.size w0 w6) := ⟨by rw [hw6]; exact Bs HB5.out HGE.out⟩
     clear hw6 HI5 HK5 HO5 HB5 BX5 q0 q1 q2 q3 q4 qf
     have q0 : w6.cell? ⟨gb, 0, none⟩ = some (.int .i64 1) := (Kc BX6.out 0).trans rfl
     have q1 : w6.cell? ⟨gb, 1, none⟩ = some (.int .i64 t2) := (Kc BX6.out 1).trans rfl
     have q2 : w6.cell? ⟨gb, 2, none⟩ = some (.int .i64 t3) := (Kc BX6.out 2).trans rfl
     have q3 : w6.cell? ⟨gb, 3, none⟩ = some (.int .i64 t4) := (Kc BX6.out 3).trans rfl
     have q4 : w6.cell? ⟨gb, 4, none⟩ = some (.int .i64 (wrap64 (60 + p1))) := (Kc BX6.out 4).trans rfl
     go_wp2_with (first | ((refine Gd (N := 30) rfl ?_); refine Kd.event_run rfl (spec_l1Cur_cmds.load_run BX6.out 5 rfl 26 _ (by rfl) (by rfl) _ Try.underlying26 rfl (by kernel_rfl)) ?_) | ((with_reducible refine gate_builtin (b := .append) (xs := #[.tmp 29, .tmp 31]) rfl ?_); at_builtin; refine Kd.R_append k26 w.heap.size rfl (.tmp 29) (.tmp 31) 40 26 (.agg #[(.int .i64 0), (.int .i64 0), (.int .i64 0), (.int .i64 0), (.int .i64 0)]) 40 rfl Try.underlying40 info26 rfl (by decide) (by omega) (.slice A5 out.length c5) out (⟨1, t2, t3, t4, wrap64 (60 + p1)⟩ : S26) [.int .i64 1, .int .i64 t2, .int .i64 t3, .int .i64 t4, .int .i64 (wrap64 (60 + p1))] (fun k_ => k_ ≠ gb) (fun _ => False) rfl (by first | (go_simp; done) | (go_simp; rfl)) ?aP (fun _ hk => hk.elim) ?aF ?aO (Below.refl _ _) ?aS ?aL ?_; (case aP => exact k26_mkM _ _ _ (⟨1, t2, t3, t4, wrap64 (60 + p1)⟩ : S26)); (case aF => exact (fun k_ hk => Kd.freshB BX6.out k_ hk)); (case aO => exact HO6.out); (case aS => exact HK6.out.1); (case aL => have := HLEN.out; omega); intro v5 w9 ho hb hg hat; have HI9 := Am (IsS91.grown HI6.out hg (IsS91.own_ne HI6.out HO6.out (by decide))); have HK9 : Ad (KeepBut w w9 g none) := ⟨⟨Nat.le_trans HK6.out.1 hb.size, fun i hi h1_ h2_ => (hb.block i hi).trans (HK6.out.2 i hi h1_ h2_)⟩⟩; have HO9 := Am ho; have HB9 := Am (below_weaken HB6.out HWS.out hb); clear ho hb hg hat))
     go_roundg k1
     case measure => omega
     case rel => exact ⟨_, wrap64 (n - 1), _, _, by first | rfl | simp, PG, ⟨Kd.R_mono HO9.out (fun _ _ => trivial)⟩, HI9, HK9, HB9⟩
    | false =>
     have he := HE.out
     try dsimp only at he
     rw [if_neg (by simp)] at he
     simp only [Option.some.injEq, Prod.mk.injEq] at he
     obtain ⟨rfl, rfl, rfl⟩ := he
     clear HE
     go_wp2_with (first | ((refine Gd (N := 30) rfl ?_); refine Kd.event_run rfl (spec_l1Cur_cmds.load_run BX4.out 5 rfl 26 _ (by rfl) (by rfl) _ Try.underlying26 rfl (by kernel_rfl)) ?_) | ((with_reducible refine gate_builtin (b := .append) (xs := #[.tmp 29, .tmp 31]) rfl ?_); at_builtin; refine Kd.R_append k26 w.heap.size rfl (.tmp 29) (.tmp 31) 40 26 (.agg #[(.int .i64 0), (.int .i64 0), (.int .i64 0), (.int .i64 0), (.int .i64 0)]) 40 rfl Try.underlying40 info26 rfl (by decide) (by omega) (.slice A5 out.length c5) out (⟨1, t2, t3, t4, t5⟩ : S26) [.int .i64 1, .int .i64 t2, .int .i64 t3, .int .i64 t4, .int .i64 t5] (fun k_ => k_ ≠ gb) (fun _ => False) rfl (by first | (go_simp; done) | (go_simp; rfl)) ?aP (fun _ hk => hk.elim) ?aF ?aO (Below.refl _ _) ?aS ?aL ?_; (case aP => exact k26_mkM _ _ _ (⟨1, t2, t3, t4, t5⟩ : S26)); (case aF => exact (fun k_ hk => Kd.freshB BX4.out k_ hk)); (case aO => exact HO4.out); (case aS => exact HK4.out.1); (case aL => have := HLEN.out; omega); intro v5 w9 ho hb hg hat; have HI9 := Am (IsS91.grown HI4.out hg (IsS91.own_ne HI4.out HO4.out (by decide))); have HK9 : Ad (KeepBut w w9 g none) := ⟨⟨Nat.le_trans HK4.out.1 hb.size, fun i hi h1_ h2_ => (hb.block i hi).trans (HK4.out.2 i hi h1_ h2_)⟩⟩; have HO9 := Am ho; have HB9 := Am (below_weaken HB4.out HWS.out hb); clear ho hb hg hat))
     go_roundg k1
     case measure => omega
     case rel => exact ⟨_, wrap64 (n - 1), _, _, by first | rfl | simp, PG, ⟨Kd.R_mono HO9.out (fun _ _ => trivial)⟩, HI9, HK9, HB9⟩
   ·have he := HE.out
    try dsimp only at he
    rw [if_neg hk] at he
    simp only [Option.some.injEq, Prod.mk.injEq] at he
    obtain ⟨rfl, rfl, rfl⟩ := he
    have hkb : (t1 == 1) = false := beq_false_of_ne hk
    clear HE hk
    have q0 : w3.cell? ⟨gb, 0, none⟩ = some (.int .i64 t1) := (Kc BX3.out 0).trans rfl
    have q1 : w3.cell? ⟨gb, 1, none⟩ = some (.int .i64 t2) := (Kc BX3.out 1).trans rfl
    have q2 : w3.cell? ⟨gb, 2, none⟩ = some (.int .i64 t3) := (Kc BX3.out 2).trans rfl
    have q3 : w3.cell? ⟨gb, 3, none⟩ = some (.int .i64 t4) := (Kc BX3.out 3).trans rfl
    have q4 : w3.cell? ⟨gb, 4, none⟩ = some (.int .i64 t5) := (Kc BX3.out 4).trans rfl
    go_wp2_with (first | ((refine Gd (N := 30) rfl ?_); refine Kd.event_run rfl (spec_l1Cur_cmds.load_run BX3.out 5 rfl 26 _ (by rfl) (by rfl) _ Try.underlying26 rfl (by kernel_rfl)) ?_) | ((with_reducible refine gate_builtin (b := .append) (xs := #[.tmp 29, .tmp 31]) rfl ?_); at_builtin; refine Kd.R_append k26 w.heap.size rfl (.tmp 29) (.tmp 31) 40 26 (.agg #[(.int .i64 0), (.int .i64 0), (.int .i64 0), (.int .i64 0), (.int .i64 0)]) 40 rfl Try.underlying40 info26 rfl (by decide) (by omega) (.slice A5 out.length c5) out (⟨t1, t2, t3, t4, t5⟩ : S26) [.int .i64 t1, .int .i64 t2, .int .i64 t3, .int .i64 t4, .int .i64 t5] (fun k_ => k_ ≠ gb) (fun _ => False) rfl (by first | (go_simp; done) | (go_simp; rfl)) ?aP (fun _ hk => hk.elim) ?aF ?aO (Below.refl _ _) ?aS ?aL ?_; (case aP => exact k26_mkM _ _ _ (⟨t1, t2, t3, t4, t5⟩ : S26)); (case aF => exact (fun k_ hk => Kd.freshB BX3.out k_ hk)); (case aO => exact HO3.out); (case aS => exact HK3.out.1); (case aL => have := HLEN.out; omega); intro v5 w9 ho hb hg hat; have HI9 := Am (IsS91.grown HI3.out hg (IsS91.own_ne HI3.out HO3.out (by decide))); have HK9 : Ad (KeepBut w w9 g none) := ⟨⟨Nat.le_trans HK3.out.1 hb.size, fun i hi h1_ h2_ => (hb.block i hi).trans (HK3.out.2 i hi h1_ h2_)⟩⟩; have HO9 := Am ho; have HB9 := Am (below_weaken HB3.out HWS.out hb); clear ho hb hg hat))
    go_roundg k1
    case measure => omega
    case rel => exact ⟨_, wrap64 (n - 1), _, _, by first | rfl | simp, PG, ⟨Kd.R_mono HO9.out (fun _ _ => trivial)⟩, HI9, HK9, HB9⟩
  ·have hnz : decide (0 < n) = false := decide_eq_false hn
   have h1 := HF.out
   rw [spec_l1Cur_cmds.l, if_neg hn] at h1
   simp only [Option.some.injEq, Prod.mk.injEq] at h1
   obtain ⟨rfl, rfl, rfl⟩ := h1
   have HZ1 := HZ.out
   unfold spec_l1Cur_cmds.z at HZ1
   dsimp only at HZ1
   by_cases hl : 0 < out.length
   ·rw [if_pos hl] at HZ1
    obtain ⟨⟨b1, a2, s2⟩, hone, he⟩ := Option.bind_eq_some_iff.1 HZ1
    have Hspec_l1Cur_one := Am hone
    have HE := Am he
    have hlz : decide (0 < (out.length : Int)) = true := decide_eq_true (by omega)
    have hln : decide (0 < out.length) = true := decide_eq_true hl
    clear hone he HZ1 HF hn HZ
    go_wp2_with fail
    refine (spec_l1Cur_one.calls g l0 a s 20 b1 a2 s2 w0 wr HI1.out HB1.out Hspec_l1Cur_one.out).mono ?_
    rintro e w2 ⟨rfl, hI, hB, hK⟩
    have HI2 := Am hI
    have HB2 := Am hB
    have HK2 := Am (KeepBut.trans HK1.out hK (.inl rfl))
    have HO2 := Am (Kd.R_mono (Kd.R_keep (IsS91.apart HI1.out HO1.out (by decide)) hK (fun _ h => h.2)) (fun _ h => h.1))
    clear hI hB hK HI1 HB1 HK1 HO1
    cases b1 with
    | false =>
     have he := HE.out
     try dsimp only at he
     rw [if_neg (by simp)] at he
     simp only [Option.some.injEq, Prod.mk.injEq] at he
     obtain ⟨rfl, rfl, rfl⟩ := he
     go_wp2
     go_ret
     exact ⟨_, rfl, HO2.out, HI2.out, HB2.out, HK2.out⟩
    | true =>
     have HE1 := HE.out
     try dsimp only at HE1
     rw [if_pos rfl] at HE1
     obtain ⟨⟨t1, t2, t3, t4, t5, a3, s3⟩, hpk, he⟩ := Option.bind_eq_some_iff.1 HE1
     have HANY := Am hpk
     simp only [Option.some.injEq, Prod.mk.injEq] at he
     obtain ⟨rfl, rfl, rfl⟩ := he
     clear hpk HE1 HE
     go_wp2_with fail
     refine (spec_l1Cur_anyCmd.calls g l0 a2 s2 t1 t2 t3 t4 t5 a3 s3 w0 w2 HI2.out HB2.out HANY.out).mono ?_
     rintro e w3 ⟨rfl, hI, hB, hK⟩
     have HI3 := Am hI
     have HB3 := Am hB
     have HK3 := Am (KeepBut.trans HK2.out hK (.inl rfl))
     have HO3 := Am (Kd.R_mono (Kd.R_keep (IsS91.apart HI2.out HO2.out (by decide)) hK (fun _ h => h.2)) (fun _ h => h.1))
     clear hI hB hK HI2 HB2 HK2 HO2
     obtain ⟨g5, c5', e5, hg5, hl5, _⟩ := Kd.R_form HO3.out hl
     injection e5 with e5 _ e6
     subst e5
     subst e6
     have HG5 := Am hg5
     obtain ⟨ce, hcl, hM, hcc, hfr⟩ := Kd.R_elem HO3.out z26 (0 : Int) (by omega) (by omega)
     obtain rfl := k26_openM hM
     have HCC := Am hcc
     generalize (out.getD (0 : Int).toNat z26) = z0 at hM hcc HCC
     have x0 : w3.cell? ⟨g5, 0, none⟩ = some (.int .i64 z0.f0) := hcc 0 _ rfl
     have x1 : w3.cell? ⟨g5, 1, none⟩ = some (.int .i64 z0.f1) := hcc 1 _ rfl
     have x2 : w3.cell? ⟨g5, 2, none⟩ = some (.int .i64 z0.f2) := hcc 2 _ rfl
     have x3 : w3.cell? ⟨g5, 3, none⟩ = some (.int .i64 z0.f3) := hcc 3 _ rfl
     have x4 : w3.cell? ⟨g5, 4, none⟩ = some (.int .i64 z0.f4) := hcc 4 _ rfl
     have f0 : w3.frozen? ⟨g5, 0, none⟩ = false := hfr 0
     have f1 : w3.frozen? ⟨g5, 1, none⟩ = false := hfr 1
     have f2 : w3.frozen? ⟨g5, 2, none⟩ = false := hfr 2
     have f3 : w3.frozen? ⟨g5, 3, none⟩ = false := hfr 3
     have f4 : w3.frozen? ⟨g5, 4, none⟩ = false := hfr 4
     have hseg := Kd.R_seg (d := k26) HO3.out (0 : Int) (by omega) (by omega) (c := [.int .i64 z0.f0, .int .i64 z0.f1, .int .i64 z0.f2, .int .i64 z0.f3, .int .i64 z0.f4]) (seg := [.int .i64 t1, .int .i64 t2, .int .i64 t3, .int .i64 t4, .int .i64 t5]) (j := 0) (x' := (⟨t1, t2, t3, t4, t5⟩ : S26)) (okp := fun _ => False) rfl HCC.out (Nat.le_refl 5) (k26_mkM _ _ _ (⟨t1, t2, t3, t4, t5⟩ : S26)) (fun _ hk => hk.elim)
     have HSEG := Am hseg
     clear hseg hcl hM hcc hfr HCC hl5
     go_upto_region 11 with (fail)
     refine letC (fun W_ => W_ = w3.setCells g5 0 [.int .i64 t1, .int .i64 t2, .int .i64 t3, .int .i64 t4, .int .i64 t5]) (by first | rfl | simp [World.setCells]) ?_
     rintro w4 hw4
     obtain ⟨hR4, hG4⟩ := HSEG.out
     have HO4 : Ad (Kd.R k26 26 w4 w.heap.size (fun _ => True) (.slice (some ⟨g5, 0, none⟩) out.length c5) (out.set 0 (⟨t1, t2, t3, t4, t5⟩ : S26))) := ⟨by rw [hw4]; exact hR4⟩
     have HGR : Ad (w3.grownBy w4 (some g5)) := ⟨by rw [hw4]; exact hG4⟩
     have HI4 := Am (IsS91.grown HI3.out HGR.out (IsS91.own_ne HI3.out HO3.out (by decide)))
     have HK4 : Ad (KeepBut w w4 g none) := ⟨⟨Nat.le_trans HK3.out.1 HGR.out.size, fun i hi h1_ h2_ => (HGR.out.block i (Nat.lt_of_lt_of_le hi HK3.out.1) (fun h_ => by injection h_ with h_; have := HG5.out; omega)).trans (HK3.out.2 i hi h1_ h2_)⟩⟩
     have HB4 := Am (pw_below_grown HB3.out _ HB3.out.size HGR.out (fun k hk => by injection hk with hk; have := HG5.out; have := HWS.out; omega))
     clear hw4 hR4 hG4 HSEG x0 x1 x2 x3 x4 f0 f1 f2 f3 f4
     go_wp2
     go_ret
     exact ⟨_, rfl, HO4.out, HI4.out, HB4.out, HK4.out⟩
   ·rw [if_neg hl] at HZ1
    simp only [Option.some.injEq, Prod.mk.injEq] at HZ1
    obtain ⟨rfl, rfl, rfl⟩ := HZ1
    have hlz : decide (0 < (out.length : Int)) = false := decide_eq_false (by omega)
    have hln : decide (0 < out.length) = false := decide_eq_false hl
    go_wp2
    go_ret
    exact ⟨_, rfl, HO1.out, HI1.out, HB1.out, HK1.out⟩
def spec_DrawTellsSame.idc (c : S26) (i : Nat) : S26 := if c.f0 = 0 then c else ⟨c.f0, ((i + 1 : Nat) : Int), c.f2, c.f3, c.f4⟩
def spec_DrawTellsSame.ids : List S26 → Nat → List S26
 | [], _ => []
 | c :: l, i => spec_DrawTellsSame.idc c i :: spec_DrawTellsSame.ids l (i + 1)
def spec_DrawTellsSame.swap (b : List S26) (j : Nat) : List S26 := (b.set j (b.getD (j + 1) z26)).set (j + 1) (b.getD j z26)
def spec_DrawTellsSame.l : Nat → List Int → List S26 → Int → Int → Int → Option (List S26)
 | 0, _, _, _, _, _ => none
 | k + 1, l0, b, n, p, s => if n > 0 ∧ 1 < b.length then (spec_l1Cur_pick.f l0 p s (wrap64 ((b.length : Int) - 1))).bind fun q => if 0 ≤ q.1 ∧ q.1 + 1 < (b.length : Int) then spec_DrawTellsSame.l k l0 (spec_DrawTellsSame.swap b q.1.toNat) (wrap64 (n - 1)) q.2.1 q.2.2 else none else some b
def spec_DrawTellsSame.f (k : Nat) (l0 : List Int) : Option (List S26 × List S26) := (spec_l1Cur_cmds.f k l0 0 0 6).bind fun t => if t.1.length ≤ 1000 then (spec_l1Cur_pick.f l0 t.2.1 t.2.2 3).bind fun p => (spec_DrawTellsSame.l k l0 (spec_DrawTellsSame.ids t.1 0) p.1 p.2.1 p.2.2).map fun b => (spec_DrawTellsSame.ids t.1 0, b) else none
theorem spec_DrawTellsSame.mono_l : ∀ k l0 b n p s, LeO (spec_DrawTellsSame.l k l0 b n p s) (spec_DrawTellsSame.l (k + 1) l0 b n p s)
 | 0, _, _, _, _, _ => LeO.none _
 | k + 1, l0, b, n, p, s => by
  unfold spec_DrawTellsSame.l
  exact LeO.ite (LeO.bind (LeO.refl _) (fun q => LeO.ite (spec_DrawTellsSame.mono_l k _ _ _ _ _) (LeO.none _))) (LeO.refl _)
theorem spec_DrawTellsSame.mono : ∀ l0 k, LeO (spec_DrawTellsSame.f k l0) (spec_DrawTellsSame.f (k + 1) l0) := by
 intro l0 k
 unfold spec_DrawTellsSame.f
 exact LeO.bind (spec_l1Cur_cmds.mono l0 0 0 6 k) (fun _ => LeO.ite (LeO.bind (LeO.refl _) (fun _ => LeO.map _ (spec_DrawTellsSame.mono_l _ _ _ _ _ _))) (LeO.none _))
theorem spec_DrawTellsSame.ids_len : ∀ (l : List S26) i, (spec_DrawTellsSame.ids l i).length = l.length
 | [], _ => rfl
 | c :: l, i => by unfold spec_DrawTellsSame.ids; rw [List.length_cons, List.length_cons, spec_DrawTellsSame.ids_len l]
theorem spec_DrawTellsSame.ids_step (cur : List S26) (i : Nat) (h : i < cur.length) : (cur.set i (spec_DrawTellsSame.idc (cur.getD i z26) i)).take (i + 1) ++ spec_DrawTellsSame.ids ((cur.set i (spec_DrawTellsSame.idc (cur.getD i z26) i)).drop (i + 1)) (i + 1) = cur.take i ++ spec_DrawTellsSame.ids (cur.drop i) i := by
 rw [Mine.drop_at cur z26 i h, spec_DrawTellsSame.ids, List.drop_set_of_lt (by omega), List.take_add_one, List.take_set_of_le (Nat.le_refl _), List.getElem?_set_self h]
 simp
theorem spec_DrawTellsSame.set_getD {α : Type} (l : List α) (i : Nat) (z : α) : l.set i (l.getD i z) = l := by
 apply List.ext_getElem?
 intro j
 rw [List.getElem?_set]
 split
 ·rename_i h
  subst h
  split
  ·rename_i h2; rw [List.getElem?_eq_getElem h2]; simp [h2]
  ·rename_i h2; rw [List.getElem?_eq_none (by omega)]
 ·rfl
set_option maxHeartbeats 8000000 in
set_option maxRecDepth 100000 in
theorem spec_DrawTellsSame.calls (k : Nat) (A0 : Option Addr) (c0 : Nat) (l0 : List Int) (r1 r2 : List S26) (w : World) (hr0 : Kd.C (Kd.int .u8) w A0 l0.length l0) (hc0 : l0.length ≤ c0) (h : spec_DrawTellsSame.f k l0 = some (r1, r2)) :
  Calls Try.prog 28 #[.slice A0 l0.length c0] w fun e w' => ∃ v0_ v1_ : Value, e = .returned (.tuple #[v0_, v1_]) ∧ Kd.R k26 26 w' w.heap.size (fun k_ => some k_ ≠ (v1_ : Value).ownBlock) v0_ r1 ∧ Kd.R k26 26 w' w.heap.size (fun k_ => some k_ ≠ (v0_ : Value).ownBlock) v1_ r2 ∧ Below w.heap.size w w' := by
 have hu_ := Try.underlying26
 unfold spec_DrawTellsSame.f at h
 obtain ⟨⟨a0, p0, s0⟩, hq, h2⟩ := Option.bind_eq_some_iff.1 h
 clear h
 dsimp only at h2
 by_cases hlen : a0.length ≤ 1000
 case neg => rw [if_neg hlen] at h2; cases h2
 rw [if_pos hlen] at h2
 obtain ⟨⟨n1, p1, s1⟩, hp, h3⟩ := Option.bind_eq_some_iff.1 h2
 clear h2
 obtain ⟨bb, hb3, h3⟩ := Option.map_eq_some_iff.1 h3
 simp only [Prod.mk.injEq] at h3
 obtain ⟨h4, rfl⟩ := h3
 have HQ := Am hq
 have HP := Am hp
 have HL := Am hb3
 have HE := Am h4
 clear hq hp hb3 h4
 have HR := Am hr0
 clear hr0 hc0
 go_enter Try.func28, Try.ntmps28
 go_upto_region 2 with (fail)
 refine letC (fun W_ => Below w.heap.size w W_ ∧ W_.heap[w.heap.size]? = some (.cells #[.slice A0 l0.length c0, .int .i64 0, .int .u64 0] 91 (0, 0))) ⟨Ba (Below.refl _ _) _, blk_new w (.cells #[.slice A0 l0.length c0, .int .i64 0, .int .u64 0] 91)⟩ ?_
 rintro W0 ⟨hb, hx⟩
 have HB0 := Am hb
 have HI0 : Ad (IsS91 w W0 w.heap.size l0 0 0) := ⟨⟨A0, c0, hx, Nat.le_refl _, HR.out⟩⟩
 clear hb hx
 generalize w.heap.size = g at HI0
 go_wp2_with fail
 refine (spec_l1Cur_cmds.calls k g l0 0 0 6 a0 p0 s0 w W0 HI0.out HB0.out HQ.out).mono ?_
 rintro e W1 ⟨v, rfl, hR, hI, hB, hK⟩
 obtain ⟨A5, c5, e5⟩ := Kd.R_slice hR
 subst e5
 have HA1 := Am (Kd.R_lower hR HB0.out.size)
 have HI1 := Am hI
 have HB1 := Am hB
 clear hR hI hB hK HI0 HB0
 go_wp2
 go_loopg [18] a0.length (fun gg v18 wr => ∃ (i : Nat) (cur : List S26), i ≤ a0.length ∧ a0.length - i ≤ gg ∧ v18 = .int .i64 i ∧ Ad (cur.length = a0.length) ∧ Ad (cur.take i ++ spec_DrawTellsSame.ids (cur.drop i) i = r1) ∧ Ad (Kd.R k26 26 wr w.heap.size (fun _ => True) (.slice A5 a0.length c5) cur) ∧ Ad (IsS91 w wr g l0 p0 s0) ∧ Ad (Below w.heap.size w wr))
 case atStart => exact ⟨0, a0, Nat.zero_le _, by omega, by first | rfl | simp, ⟨rfl⟩, ⟨by simpa using HE.out⟩, HA1, HI1, HB1⟩
 case round =>
  clear HA1 HI1 HB1
  obtain ⟨i, cur, hi, hgg, rfl, HLN, HE2, HA, HI, HB⟩ := hrel
  by_cases hlt : i < a0.length
  ·have hltz : (i : Int) < (a0.length : Int) := by omega
   have h0z : (0 : Int) ≤ (i : Int) := by omega
   obtain ⟨g5, c5', e5, hg5, hl5, _⟩ := Kd.R_form HA.out (by rw [HLN.out]; omega)
   injection e5 with e5 _ e6
   subst e5
   subst e6
   obtain ⟨ce, hcl, hM, hcc, hfr⟩ := Kd.R_elem HA.out z26 (i : Int) (by omega) (by omega)
   obtain rfl := k26_openM hM
   rw [Int.toNat_natCast] at hM hcc hfr
   rw [show k26.sz = 5 from rfl] at hcc hfr
   have hst := spec_DrawTellsSame.ids_step cur i (by rw [HLN.out]; exact hlt)
   have HCC := Am hcc
   have x0 : wr.cell? ⟨g5, i * 5, none⟩ = some (.int .i64 (cur.getD i z26).f0) := hcc 0 _ rfl
   have f1 : wr.frozen? ⟨g5, i * 5 + 1, none⟩ = false := hfr 1
   have x1 : wr.cell? ⟨g5, i * 5 + 1, none⟩ = some (.int .i64 (cur.getD i z26).f1) := hcc 1 _ rfl
   generalize hz : cur.getD i z26 = z0 at x0 x1 hst
   clear hcl hcc hfr
   by_cases hk : z0.f0 = 0
   ·have hkb : (z0.f0 != 0) = false := by simp [hk]
    have hid : spec_DrawTellsSame.idc z0 i = z0 := by unfold spec_DrawTellsSame.idc; rw [if_pos hk]
    have HST : Ad (cur.take (i + 1) ++ spec_DrawTellsSame.ids (cur.drop (i + 1)) (i + 1) = r1) := ⟨by
     rw [hid, ← hz, show cur.set i (cur.getD i z26) = cur from spec_DrawTellsSame.set_getD ..] at hst
     rw [hst]; exact HE2.out⟩
    clear hid hst hz
    go_wp2
    go_roundg (a0.length - (i + 1))
    case measure => omega
    case rel => exact ⟨i + 1, cur, by omega, by omega, by go_num, HLN, HST, HA, HI, HB⟩
   ·have hkb : (z0.f0 != 0) = true := by simp [hk]
    have hid : spec_DrawTellsSame.idc z0 i = ⟨z0.f0, ((i + 1 : Nat) : Int), z0.f2, z0.f3, z0.f4⟩ := by unfold spec_DrawTellsSame.idc; rw [if_neg hk]
    have HST : Ad ((cur.set i (spec_DrawTellsSame.idc z0 i)).take (i + 1) ++ spec_DrawTellsSame.ids ((cur.set i (spec_DrawTellsSame.idc z0 i)).drop (i + 1)) (i + 1) = r1) := ⟨by rw [hst]; exact HE2.out⟩
    have hseg := Kd.R_seg (d := k26) HA.out (i : Int) (by omega) (by omega) (c := [.int .i64 z0.f0, .int .i64 z0.f1, .int .i64 z0.f2, .int .i64 z0.f3, .int .i64 z0.f4]) (seg := [.int .i64 ((i : Int) + 1)]) (j := 1) (x' := spec_DrawTellsSame.idc z0 i) (okp := fun _ => False) rfl (by rw [← hz, Int.toNat_natCast]; exact HCC.out) (show 1 + 1 ≤ 5 by omega) (by rw [hid]; exact k26_mkM _ _ _ (⟨z0.f0, ((i + 1 : Nat) : Int), z0.f2, z0.f3, z0.f4⟩ : S26)) (fun _ hk => hk.elim)
    rw [Int.toNat_natCast] at hseg
    obtain ⟨hR, hG⟩ := hseg
    have HA2 : Ad (Kd.R k26 26 (wr.setCell ⟨g5, i * 5 + 1, none⟩ (.int .i64 ((i : Int) + 1))) w.heap.size (fun _ => True) (.slice (some ⟨g5, 0, none⟩) a0.length c5) (cur.set i (spec_DrawTellsSame.idc z0 i))) := ⟨hR⟩
    have HG2 : Ad (wr.grownBy (wr.setCell ⟨g5, i * 5 + 1, none⟩ (.int .i64 ((i : Int) + 1))) (some g5)) := ⟨hG⟩
    have HI2 := Am (IsS91.grown HI.out HG2.out (IsS91.own_ne HI.out HA.out (by decide)))
    have HB2 := Am (pw_below_grown HB.out _ HB.out.size HG2.out (fun k hk => by injection hk with hk; omega))
    have HLN2 : Ad ((cur.set i (spec_DrawTellsSame.idc z0 i)).length = a0.length) := ⟨by rw [List.length_set]; exact HLN.out⟩
    clear hid hst hz hR hG HCC HG2
    go_wp2
    go_roundg (a0.length - (i + 1))
    case measure => omega
    case rel => exact ⟨i + 1, cur.set i (spec_DrawTellsSame.idc z0 i), by omega, by omega, by go_num, HLN2, HST, HA2, HI2, HB2⟩
  ·obtain rfl : i = a0.length := by omega
   have hltz : ¬ (a0.length : Int) < (a0.length : Int) := by omega
   have hcur : cur = r1 := by
    have h1 := HE2.out
    rw [← HLN.out, List.take_length, List.drop_length, spec_DrawTellsSame.ids, List.append_nil] at h1
    exact h1
   subst hcur
   have HN1 := Am (show cur.length ≤ 1000 by rw [HLN.out]; exact hlen)
   have hl1 := HL.out
   rw [HE.out] at hl1
   clear HE2 HE HL
   have HL := Am hl1
   clear hl1
   generalize a0.length = n at HLN HA hltz
   obtain rfl : cur.length = n := HLN.out
   go_wp2_with (first | ((refine Gd (N := 34) rfl ?_); refine Kd.R_lit k26 _ 26 ?hg (N := 34) ?hd (xs := ([] : List S26)) (inner := []) (ok := fun _ => True) (okp := fun _ => True) ?hr ?hp (fun _ hk => hk) trivial (Below.refl _ _) (Nat.le_refl _) (by simp) ?_; (case hd | hg => rfl); (case hr => first | (go_simp; done) | (go_simp; rfl)); (case hp => exact (Reps.none _ _)); intro v34 w2 ho hb hg_ hnew_; have HZ2 := Am (Kd.R_lower (Kd.R_newR ho HA.out) HB.out.size); have HA2 := Am (Kd.R_elder HA.out ho hb); have HI2 := Am (IsS91.below HI.out hb); have HB2 := Am (below_then HB.out HB.out.size hb); clear ho hb hg_ hnew_ HA HI HB) | ((with_reducible refine gate_builtin (b := .append) (xs := #[.tmp 34, .tmp 35]) rfl ?_); at_builtin; refine Kd.R_append_rows k26 (w0 := w) w.heap.size rfl (.tmp 34) (.tmp 35) 40 26 (.agg #[(.int .i64 0), (.int .i64 0), (.int .i64 0), (.int .i64 0), (.int .i64 0)]) 40 rfl Try.underlying40 info26 rfl (by decide) (by omega) v34 ([] : List S26) cur A5 cur.length c5 (fun k_ => True ∧ some k_ ≠ (Value.slice A5 cur.length c5).ownBlock) (fun _ => False) rfl rfl ?aO ?aR (fun _ _ h => h) (fun _ h => h.elim) ?aF ?aB ?aS ?aL ?_; (case aO => exact HZ2.out); (case aR => exact (Kd.R_reads' HA2.out).2.2); (case aF => exact (fun k_ hk => ⟨trivial, Kd.fresh' (Kd.R_lt HA2.out) k_ hk⟩)); (case aB => exact HB2.out); (case aS => exact HB2.out.size); (case aL => have := HN1.out; (try simp only [List.length_nil]); omega); intro v36 w3 ho hb hg hat; have HR3 := Am ho; have HA3 := Am (Kd.R_after HA2.out hg hat); have HI3 := Am (IsS91.grown HI2.out hg (IsS91.own_ne HI2.out HZ2.out (by decide))); have HB3 := Am hb; clear ho hb hg hat HZ2 HA2 HI2 HB2) | fail)
   have hr3 := HR3.out
   rw [List.nil_append] at hr3
   obtain ⟨A7, c7, e7⟩ := Kd.R_slice hr3
   subst e7
   have HR3 := Am hr3
   clear hr3
   refine (spec_l1Cur_pick.calls g l0 p0 s0 3 n1 p1 s1 w w3 HI3.out HB3.out HP.out).mono ?_
   rintro e w4 ⟨rfl, hI, hB, hK⟩
   have HI4 := Am hI
   have HB4 := Am hB
   have HA4 := Am (Kd.R_mono (Kd.R_keep (IsS91.apart HI3.out HA3.out (by decide)) hK (fun _ h => h.2)) (fun _ h => h.1.2))
   have HR4 := Am (Kd.R_mono (Kd.R_keep (IsS91.apart HI3.out HR3.out (by decide)) hK (fun _ h => h.2)) (fun _ h => h.1.2))
   clear hI hB hK HI3 HB3 HA3 HR3
   go_wp2
   go_loopg [8] k (fun kq v8 wr => ∃ (b : List S26) (n p s : Int), v8 = .int .i64 n ∧ Ad (spec_DrawTellsSame.l kq l0 b n p s = some bb) ∧ Ad (b.length = cur.length) ∧ Ad (Kd.R k26 26 wr w.heap.size (fun k_ => some k_ ≠ (Value.slice A5 cur.length c5).ownBlock) (.slice A7 cur.length c7) b) ∧ Ad (Kd.R k26 26 wr w.heap.size (fun k_ => some k_ ≠ (Value.slice A7 cur.length c7).ownBlock) (.slice A5 cur.length c5) cur) ∧ Ad (IsS91 w wr g l0 p s) ∧ Ad (Below w.heap.size w wr))
   case atStart => exact ⟨cur, n1, p1, s1, rfl, HL, ⟨rfl⟩, HR4, HA4, HI4, HB4⟩
   case round =>
    clear HL HR4 HA4 HI4 HB4
    obtain ⟨b, n, p, s, rfl, HF, HLB, HR, HA, HI, HB⟩ := hrel
    cases gk with
    | zero => exact absurd HF.out (by simp [spec_DrawTellsSame.l])
    | succ k1 =>
    by_cases hn : n > 0
    ·have hnz : decide (0 < n) = true := decide_eq_true hn
     by_cases h1l : 1 < cur.length
     ·have h1z : decide (1 < (cur.length : Int)) = true := decide_eq_true (by omega)
      have h1n : decide (1 < cur.length) = true := decide_eq_true h1l
      have h1 := HF.out
      rw [spec_DrawTellsSame.l, HLB.out, if_pos ⟨hn, h1l⟩] at h1
      obtain ⟨⟨j, p2, s2⟩, hpk, h1⟩ := Option.bind_eq_some_iff.1 h1
      dsimp only at h1
      by_cases hj : 0 ≤ j ∧ j + 1 < (cur.length : Int)
      case neg => rw [if_neg hj] at h1; cases h1
      rw [if_pos hj] at h1
      obtain ⟨hj0, hj1⟩ := hj
      obtain ⟨jn, rfl⟩ := Int.eq_ofNat_of_zero_le hj0
      rw [Int.toNat_natCast] at h1
      have HPK := Am hpk
      have HF1 := Am h1
      clear h1 hpk HF
      go_wp2_with fail
      refine (spec_l1Cur_pick.calls g l0 p s (wrap64 ((cur.length : Int) - 1)) (jn : Int) p2 s2 w wr HI.out HB.out HPK.out).mono ?_
      rintro e w5 ⟨rfl, hI, hB, hK⟩
      have HI5 := Am hI
      have HB5 := Am hB
      have HA5 := Am (Kd.R_mono (Kd.R_keep (IsS91.apart HI.out HA.out (by decide)) hK (fun _ h => h.2)) (fun _ h => h.1))
      have HR5 := Am (Kd.R_mono (Kd.R_keep (IsS91.apart HI.out HR.out (by decide)) hK (fun _ h => h.2)) (fun _ h => h.1))
      clear hI hB hK HI HB HA HR
      obtain ⟨g7, c7', e7, hg7, hl7, _⟩ := Kd.R_form HR5.out (by rw [HLB.out]; omega)
      injection e7 with e7 e9 e8
      clear e9
      subst e7
      subst e8
      have hjz : (jn : Int) < (cur.length : Int) := by omega
      have hj1z : (jn : Int) + 1 < (cur.length : Int) := by omega
      have hj0z : (0 : Int) ≤ (jn : Int) := by omega
      have hj2z : (0 : Int) ≤ (jn : Int) + 1 := by omega
      have hjw : IntKind.i64.wrap ((jn : Int) + 1) = (jn : Int) + 1 := IntWalk.i64_in _ (by have := HN1.out; omega)
      have htn : ((jn : Int) + 1).toNat = jn + 1 := by omega
      obtain ⟨z0, hz0⟩ : ∃ z0, z0 = b.getD jn z26 := ⟨_, rfl⟩
      obtain ⟨z1, hz1⟩ : ∃ z1, z1 = b.getD (jn + 1) z26 := ⟨_, rfl⟩
      have HZ0 := Am hz0
      have HZ1 := Am hz1
      clear hz0 hz1
      obtain ⟨ce, hcl, hM, hcc, hfr⟩ := Kd.R_elem HR5.out z26 (jn : Int) (by omega) (by omega)
      obtain rfl := k26_openM hM
      rw [Int.toNat_natCast] at hcc hfr
      rw [show k26.sz = 5 from rfl] at hcc hfr
      rw [← HZ0.out] at hcc
      clear hM hcl
      have x0 : w5.cell? ⟨g7, jn * 5, none⟩ = some (.int .i64 z0.f0) := hcc 0 _ rfl
      have x1 : w5.cell? ⟨g7, jn * 5 + 1, none⟩ = some (.int .i64 z0.f1) := hcc 1 _ rfl
      have x2 : w5.cell? ⟨g7, jn * 5 + 2, none⟩ = some (.int .i64 z0.f2) := hcc 2 _ rfl
      have x3 : w5.cell? ⟨g7, jn * 5 + 3, none⟩ = some (.int .i64 z0.f3) := hcc 3 _ rfl
      have x4 : w5.cell? ⟨g7, jn * 5 + 4, none⟩ = some (.int .i64 z0.f4) := hcc 4 _ rfl
      clear hcc hfr
      go_upto_region 15 with (fail)
      refine letC (fun W_ => Below w5.heap.size w5 W_ ∧ W_.heap[w5.heap.size]? = some (.cells #[.int .i64 z0.f0, .int .i64 z0.f1, .int .i64 z0.f2, .int .i64 z0.f3, .int .i64 z0.f4] 26 (0, 0))) ⟨by repeat (first | refine Bs ?_ (Nat.le_refl _) | apply Ba | exact Below.refl _ _), blk_new w5 (.cells #[.int .i64 z0.f0, .int .i64 z0.f1, .int .i64 z0.f2, .int .i64 z0.f3, .int .i64 z0.f4] 26)⟩ ?_
      rintro w6 ⟨hb, hx⟩
      have HNG := Am (show g7 ≠ w5.heap.size from fun h => by omega)
      have BX6 := Am hx
      have HI6 := Am (IsS91.below HI5.out hb)
      have HA6 := Am (Kd.R_below HA5.out hb)
      have HR6 := Am (Kd.R_below HR5.out hb)
      have HB6 := Am (below_then HB5.out HB5.out.size hb)
      clear hb hx HI5 HA5 HR5 HB5 x0 x1 x2 x3 x4
      generalize w5.heap.size = gb at HNG BX6 ⊢
      obtain ⟨ce, hcl, hM, hcc, hfr⟩ := Kd.R_elem HR6.out z26 (jn : Int) (by omega) (by omega)
      obtain rfl := k26_openM hM
      rw [Int.toNat_natCast] at hcc hfr
      rw [show k26.sz = 5 from rfl] at hcc hfr
      rw [← HZ0.out] at hcc
      clear hM hcl
      have HCC := Am hcc
      have x0 : w6.cell? ⟨g7, jn * 5, none⟩ = some (.int .i64 z0.f0) := hcc 0 _ rfl
      have x1 : w6.cell? ⟨g7, jn * 5 + 1, none⟩ = some (.int .i64 z0.f1) := hcc 1 _ rfl
      have x2 : w6.cell? ⟨g7, jn * 5 + 2, none⟩ = some (.int .i64 z0.f2) := hcc 2 _ rfl
      have x3 : w6.cell? ⟨g7, jn * 5 + 3, none⟩ = some (.int .i64 z0.f3) := hcc 3 _ rfl
      have x4 : w6.cell? ⟨g7, jn * 5 + 4, none⟩ = some (.int .i64 z0.f4) := hcc 4 _ rfl
      have f0 : w6.frozen? ⟨g7, jn * 5, none⟩ = false := hfr 0
      have f1 : w6.frozen? ⟨g7, jn * 5 + 1, none⟩ = false := hfr 1
      have f2 : w6.frozen? ⟨g7, jn * 5 + 2, none⟩ = false := hfr 2
      have f3 : w6.frozen? ⟨g7, jn * 5 + 3, none⟩ = false := hfr 3
      have f4 : w6.frozen? ⟨g7, jn * 5 + 4, none⟩ = false := hfr 4
      clear hcc hfr
      obtain ⟨ce, hcl, hM, hcc, hfr⟩ := Kd.R_elem HR6.out z26 ((jn : Int) + 1) (by omega) (by omega)
      obtain rfl := k26_openM hM
      rw [htn] at hcc hfr
      rw [show k26.sz = 5 from rfl] at hcc hfr
      rw [← HZ1.out] at hcc
      clear hM hcl
      have y0 : w6.cell? ⟨g7, (jn + 1) * 5, none⟩ = some (.int .i64 z1.f0) := hcc 0 _ rfl
      have y1 : w6.cell? ⟨g7, (jn + 1) * 5 + 1, none⟩ = some (.int .i64 z1.f1) := hcc 1 _ rfl
      have y2 : w6.cell? ⟨g7, (jn + 1) * 5 + 2, none⟩ = some (.int .i64 z1.f2) := hcc 2 _ rfl
      have y3 : w6.cell? ⟨g7, (jn + 1) * 5 + 3, none⟩ = some (.int .i64 z1.f3) := hcc 3 _ rfl
      have y4 : w6.cell? ⟨g7, (jn + 1) * 5 + 4, none⟩ = some (.int .i64 z1.f4) := hcc 4 _ rfl
      clear hcc hfr
      go_upto_region 16 with (fail)
      have hseg := Kd.R_seg (d := k26) HR6.out (jn : Int) (by omega) (by omega) (c := [.int .i64 z0.f0, .int .i64 z0.f1, .int .i64 z0.f2, .int .i64 z0.f3, .int .i64 z0.f4]) (seg := [.int .i64 z1.f0, .int .i64 z1.f1, .int .i64 z1.f2, .int .i64 z1.f3, .int .i64 z1.f4]) (j := 0) (x' := z1) (okp := fun _ => False) rfl (by rw [Int.toNat_natCast]; exact HCC.out) (Nat.le_refl 5) (k26_mkM _ _ _ z1) (fun _ hk => hk.elim)
      rw [Int.toNat_natCast] at hseg
      have HSEG := Am hseg
      clear hseg HCC
      refine letC (fun W_ => W_ = w6.setCells g7 (jn * 5) [.int .i64 z1.f0, .int .i64 z1.f1, .int .i64 z1.f2, .int .i64 z1.f3, .int .i64 z1.f4]) (by first | rfl | simp [World.setCells]) ?_
      rintro w7 hw
      obtain ⟨hR, hG⟩ := HSEG.out
      have HR7 : Ad (Kd.R k26 26 w7 w.heap.size (fun k_ => some k_ ≠ (Value.slice A5 cur.length c5).ownBlock) (.slice (some ⟨g7, 0, none⟩) cur.length c7) (b.set jn z1)) := ⟨by rw [hw]; exact hR⟩
      have HG7 : Ad (w6.grownBy w7 (some g7)) := ⟨by rw [hw]; exact hG⟩
      have HA7 := Am (Kd.R_grown HA6.out HG7.out (fun k hk => hk))
      have HI7 := Am (IsS91.grown HI6.out HG7.out (IsS91.own_ne HI6.out HR6.out (by decide)))
      have HB7 := Am (pw_below_grown HB6.out _ HB6.out.size HG7.out (fun k hk => by injection hk with hk; omega))
      have BX7 := Am (blk_grown BX6.out HG7.out (fun h_ => HNG.out (by injection h_ with h_; exact h_.symm)))
      clear hw hR hG HSEG HG7 HR6 HA6 HI6 HB6 BX6
      clear x0 x1 x2 x3 x4 f0 f1 f2 f3 f4 y0 y1 y2 y3 y4
      have HL7 : Ad ((b.set jn z1).length = cur.length) := ⟨by rw [List.length_set]; exact HLB.out⟩
      have HZ7 : Ad (z1 = (b.set jn z1).getD (jn + 1) z26) := ⟨by rw [List.getD_eq_getElem?_getD, List.getElem?_set, if_neg (by omega), ← List.getD_eq_getElem?_getD]; exact HZ1.out⟩
      have q0 : w7.cell? ⟨gb, 0, none⟩ = some (.int .i64 z0.f0) := (Kc BX7.out 0).trans rfl
      have q1 : w7.cell? ⟨gb, 1, none⟩ = some (.int .i64 z0.f1) := (Kc BX7.out 1).trans rfl
      have q2 : w7.cell? ⟨gb, 2, none⟩ = some (.int .i64 z0.f2) := (Kc BX7.out 2).trans rfl
      have q3 : w7.cell? ⟨gb, 3, none⟩ = some (.int .i64 z0.f3) := (Kc BX7.out 3).trans rfl
      have q4 : w7.cell? ⟨gb, 4, none⟩ = some (.int .i64 z0.f4) := (Kc BX7.out 4).trans rfl
      obtain ⟨ce, hcl, hM, hcc, hfr⟩ := Kd.R_elem HR7.out z26 ((jn : Int) + 1) (by omega) (by omega)
      obtain rfl := k26_openM hM
      rw [htn] at hcc hfr
      rw [show k26.sz = 5 from rfl] at hcc hfr
      rw [← HZ7.out] at hcc
      clear hM hcl
      have HCC := Am hcc
      have x0 : w7.cell? ⟨g7, (jn + 1) * 5, none⟩ = some (.int .i64 z1.f0) := hcc 0 _ rfl
      have x1 : w7.cell? ⟨g7, (jn + 1) * 5 + 1, none⟩ = some (.int .i64 z1.f1) := hcc 1 _ rfl
      have x2 : w7.cell? ⟨g7, (jn + 1) * 5 + 2, none⟩ = some (.int .i64 z1.f2) := hcc 2 _ rfl
      have x3 : w7.cell? ⟨g7, (jn + 1) * 5 + 3, none⟩ = some (.int .i64 z1.f3) := hcc 3 _ rfl
      have x4 : w7.cell? ⟨g7, (jn + 1) * 5 + 4, none⟩ = some (.int .i64 z1.f4) := hcc 4 _ rfl
      have f0 : w7.frozen? ⟨g7, (jn + 1) * 5, none⟩ = false := hfr 0
      have f1 : w7.frozen? ⟨g7, (jn + 1) * 5 + 1, none⟩ = false := hfr 1
      have f2 : w7.frozen? ⟨g7, (jn + 1) * 5 + 2, none⟩ = false := hfr 2
      have f3 : w7.frozen? ⟨g7, (jn + 1) * 5 + 3, none⟩ = false := hfr 3
      have f4 : w7.frozen? ⟨g7, (jn + 1) * 5 + 4, none⟩ = false := hfr 4
      clear hcc hfr
      go_upto_region 12 with (fail)
      have hseg := Kd.R_seg (d := k26) HR7.out ((jn : Int) + 1) (by omega) (by omega) (c := [.int .i64 z1.f0, .int .i64 z1.f1, .int .i64 z1.f2, .int .i64 z1.f3, .int .i64 z1.f4]) (seg := [.int .i64 z0.f0, .int .i64 z0.f1, .int .i64 z0.f2, .int .i64 z0.f3, .int .i64 z0.f4]) (j := 0) (x' := z0) (okp := fun _ => False) rfl (by rw [htn]; exact HCC.out) (Nat.le_refl 5) (k26_mkM _ _ _ z0) (fun _ hk => hk.elim)
      rw [htn] at hseg
      have HSEG := Am hseg
      clear hseg HCC
      refine letC (fun W_ => W_ = w7.setCells g7 ((jn + 1) * 5) [.int .i64 z0.f0, .int .i64 z0.f1, .int .i64 z0.f2, .int .i64 z0.f3, .int .i64 z0.f4]) (by first | rfl | simp [World.setCells]) ?_
      rintro w8 hw
      obtain ⟨hR, hG⟩ := HSEG.out
      have HR8 : Ad (Kd.R k26 26 w8 w.heap.size (fun k_ => some k_ ≠ (Value.slice A5 cur.length c5).ownBlock) (.slice (some ⟨g7, 0, none⟩) cur.length c7) (spec_DrawTellsSame.swap b jn)) := ⟨by rw [hw]; unfold spec_DrawTellsSame.swap; rw [← HZ0.out, ← HZ1.out]; exact hR⟩
      have HG8 : Ad (w7.grownBy w8 (some g7)) := ⟨by rw [hw]; exact hG⟩
      have HA8 := Am (Kd.R_grown HA7.out HG8.out (fun k hk => hk))
      have HI8 := Am (IsS91.grown HI7.out HG8.out (IsS91.own_ne HI7.out HR7.out (by decide)))
      have HB8 := Am (pw_below_grown HB7.out _ HB7.out.size HG8.out (fun k hk => by injection hk with hk; omega))
      have BX8 := Am (blk_grown BX7.out HG8.out (fun h_ => HNG.out (by injection h_ with h_; exact h_.symm)))
      clear hw hR hG HSEG HG8 HR7 HA7 HI7 HB7 BX7
      clear x0 x1 x2 x3 x4 f0 f1 f2 f3 f4 q0 q1 q2 q3 q4
      have HL8 : Ad ((spec_DrawTellsSame.swap b jn).length = cur.length) := ⟨by unfold spec_DrawTellsSame.swap; rw [List.length_set, List.length_set]; exact HLB.out⟩
      go_wp2
      go_roundg k1
      case measure => omega
      case rel => exact ⟨spec_DrawTellsSame.swap b jn, wrap64 (n - 1), p2, s2, by first | rfl | simp, HF1, HL8, HR8, HA8, HI8, HB8⟩
     ·have h1z : decide (1 < (cur.length : Int)) = false := decide_eq_false (by omega)
      have h1n : decide (1 < cur.length) = false := decide_eq_false h1l
      have h1 := HF.out
      rw [spec_DrawTellsSame.l, HLB.out, if_neg (fun h => h1l h.2)] at h1
      obtain rfl := Option.some.inj h1
      go_wp2
      go_ret2
      exact ⟨_, _, rfl, HA.out, HR.out, HB.out⟩
    ·have hnz : decide (0 < n) = false := decide_eq_false hn
     have h1 := HF.out
     rw [spec_DrawTellsSame.l, if_neg (fun h => hn h.1)] at h1
     obtain rfl := Option.some.inj h1
     go_wp2
     go_ret2
     exact ⟨_, _, rfl, HA.out, HR.out, HB.out⟩
set_option maxHeartbeats 2000000 in
set_option maxRecDepth 100000 in
theorem impl_Cmd_177.anyO (g : Nat) (lb : Array Value) (p : S26 → Option Bool) (A : Option Addr) (c : Nat) (xs : List S26) (w : World) (r : Int)
  (eg : ∀ args w, (callFunc g args).run Try.prog w = .ok (.enter g args) w)
  (hr : Kd.C k26 w A xs.length xs) (hc : xs.length ≤ c)
  (hp : ∀ (W : World) (x : S26), x ∈ xs → Below w.heap.size w W → ∀ b : Bool, p x = some b → Calls Try.prog g (#[.agg #[.int .i64 (x.f0), .int .i64 (x.f1), .int .i64 (x.f2), .int .i64 (x.f3), .int .i64 (x.f4)]] ++ lb) W fun e w' => e = .returned (.bool b) ∧ Below W.heap.size W w') (h : Mine.idxO p xs 0 = some r) :
  Calls Try.prog 177 #[.slice A xs.length c, .func (.func g) #[] lb] w fun e w' => e = .returned (.int .i64 r) ∧ Below w.heap.size w w' := by
 have hm : xs.length ≤ 9223372036854775807 := hr.2.1
 have HR := Am hr
 have HP := Am hp
 have HI := Am h
 clear hr hp h
 have hu := Try.underlying26
 go_enter Try.func177, Try.ntmps177
 go_wp2
 go_loopg [5, 8] xs.length (fun gg _ s8 wr => ∃ kk : Nat, kk ≤ xs.length ∧ xs.length - kk ≤ gg ∧ s8 = .int .i64 kk ∧ Ad (Below w.heap.size w wr) ∧ Ad (Mine.idxO p (xs.drop kk) (kk : Int) = some r))
 case atStart => exact ⟨0, Nat.zero_le _, by omega, rfl, ⟨Below.refl _ w⟩, ⟨by simpa using HI.out⟩⟩
 case round =>
  obtain ⟨kk, hkk, hg, rfl, BW, PF⟩ := hrel
  by_cases hlt : kk < xs.length
  ·have hltz : (kk : Int) < (xs.length : Int) := by omega
   obtain ⟨ad, rfl, hx0, hx1, hx2, hx3, hx4⟩ := at_T26 (Kd.C_below HR.out BW.out) (kk : Int) (by omega) hltz
   simp only [Int.toNat_natCast] at hx0 hx1 hx2 hx3 hx4
   have hy : Ad (xs.getD kk z26 = rd_T26 xs (kk : Int)) := ⟨by unfold rd_T26; rw [Int.toNat_natCast]⟩
   have hmem : rd_T26 xs (kk : Int) ∈ xs := by rw [← hy.out]; exact Mine.getD_mem _ _ _ hlt
   have PG : Ad ((p (rd_T26 xs (kk : Int))).bind (fun b => if b = true then some (kk : Int) else Mine.idxO p (xs.drop (kk + 1)) ((kk : Int) + 1)) = some r) := ⟨by have h_ := PF.out; rw [Mine.drop_at xs z26 kk hlt, hy.out] at h_; exact h_⟩
   have hcall := HP.out wr (rd_T26 xs (kk : Int)) hmem BW.out
   clear hmem PF
   skip
   generalize rd_T26 xs (kk : Int) = y at hx0 hx1 hx2 hx3 hx4 hcall hy PG
   cases hq : p y with
   | none => exact absurd PG.out (by rw [hq]; simp)
   | some b =>
    have hcall := hcall b hq
    have PG : Ad ((if b = true then some (kk : Int) else Mine.idxO p (xs.drop (kk + 1)) ((kk : Int) + 1)) = some r) := ⟨by have h_ := PG.out; rw [hq] at h_; exact h_⟩
    clear hq hy
    cases b with
    | true =>
     obtain rfl := Option.some.inj PG.out
     clear PG
     go_wp2_with fail
     refine hcall.mono ?_; rintro e w' ⟨rfl, hb'⟩
     go_wp2
     go_ret
     exact ⟨rfl, below_then BW.out BW.out.size hb'⟩
    | false =>
     go_wp2_with fail
     refine hcall.mono ?_; rintro e w' ⟨rfl, hb'⟩
     go_wp2
     go_roundg (xs.length - (kk + 1))
     case measure => omega
     case rel => exact ⟨kk + 1, by omega, by omega, by go_num, ⟨below_then BW.out BW.out.size hb'⟩, ⟨by have h_ := PG.out; simpa using h_⟩⟩
  ·have hltz : ¬ (kk : Int) < (xs.length : Int) := by omega
   obtain rfl : kk = xs.length := by omega
   have PG : Ad ((-1 : Int) = r) := ⟨by have h_ := PF.out; rw [List.drop_eq_nil_of_le (Nat.le_refl _)] at h_; exact Option.some.inj h_⟩
   clear PF
   go_wp2
   go_ret
   refine ⟨?_, BW.out⟩
   rw [← PG.out]
   first | done | rfl
theorem impl_Cmd_177.any (g : Nat) (lb : Array Value) (p : S26 → Bool) (A : Option Addr) (c : Nat) (xs : List S26) (w : World)
  (eg : ∀ args w, (callFunc g args).run Try.prog w = .ok (.enter g args) w)
  (hr : Kd.C k26 w A xs.length xs) (hc : xs.length ≤ c)
  (hp : ∀ (W : World) (x : S26), x ∈ xs → Below w.heap.size w W → Calls Try.prog g (#[.agg #[.int .i64 (x.f0), .int .i64 (x.f1), .int .i64 (x.f2), .int .i64 (x.f3), .int .i64 (x.f4)]] ++ lb) W fun e w' => e = .returned (.bool (p x)) ∧ Below W.heap.size W w') :
  Calls Try.prog 177 #[.slice A xs.length c, .func (.func g) #[] lb] w fun e w' => e = .returned (.int .i64 (Mine.idxP p xs 0)) ∧ Below w.heap.size w w' :=
 impl_Cmd_177.anyO g lb (fun x => some (p x)) A c xs w _ eg hr hc (fun W x hx bW b hb_ => by cases hb_; exact hp W x hx bW) (Mine.idxO_total (fun _ _ => rfl) 0)
set_option maxHeartbeats 2000000 in
theorem impl_Cmd_138.anyO (g : Nat) (lb : Array Value) (p : S26 → Option Bool) (A : Option Addr) (c : Nat) (xs : List S26) (w : World) (r : Bool)
  (eg : ∀ args w, (callFunc g args).run Try.prog w = .ok (.enter g args) w)
  (hr : Kd.C k26 w A xs.length xs) (hc : xs.length ≤ c)
  (hp : ∀ (W : World) (x : S26), x ∈ xs → Below w.heap.size w W → ∀ b : Bool, p x = some b → Calls Try.prog g (#[.agg #[.int .i64 (x.f0), .int .i64 (x.f1), .int .i64 (x.f2), .int .i64 (x.f3), .int .i64 (x.f4)]] ++ lb) W fun e w' => e = .returned (.bool b) ∧ Below W.heap.size W w') (h : Mine.anyO p xs = some r) :
  Calls Try.prog 138 #[.slice A xs.length c, .func (.func g) #[] lb] w fun e w' => e = .returned (.bool r) ∧ Below w.heap.size w w' := by
 obtain ⟨y, hi, he⟩ := Mine.anyO_idx p xs r h
 have hcall := impl_Cmd_177.anyO g lb p A c xs w y eg hr hc hp hi
 have he := Am he
 clear hp hr eg hi h
 go_enter Try.func138, Try.ntmps138
 go_wp2_with fail
 refine hcall.mono ?_; rintro e w' ⟨rfl, hb'⟩
 go_wp2
 go_ret
 refine ⟨?_, hb'⟩
 rw [← he.out]
 rfl
theorem impl_Cmd_138.any (g : Nat) (lb : Array Value) (p : S26 → Bool) (A : Option Addr) (c : Nat) (xs : List S26) (w : World)
  (eg : ∀ args w, (callFunc g args).run Try.prog w = .ok (.enter g args) w)
  (hr : Kd.C k26 w A xs.length xs) (hc : xs.length ≤ c)
  (hp : ∀ (W : World) (x : S26), x ∈ xs → Below w.heap.size w W → Calls Try.prog g (#[.agg #[.int .i64 (x.f0), .int .i64 (x.f1), .int .i64 (x.f2), .int .i64 (x.f3), .int .i64 (x.f4)]] ++ lb) W fun e w' => e = .returned (.bool (p x)) ∧ Below W.heap.size W w') :
  Calls Try.prog 138 #[.slice A xs.length c, .func (.func g) #[] lb] w fun e w' => e = .returned (.bool (Mine.anyP p xs)) ∧ Below w.heap.size w w' :=
 impl_Cmd_138.anyO g lb (fun x => some (p x)) A c xs w _ eg hr hc (fun W x hx bW b hb_ => by cases hb_; exact hp W x hx bW) (Mine.anyO_total (fun _ _ => rfl))
def impl_goodCmds_1.f (a0_0 : Int) (a0_1 : Int) (a0_2 : Int) (a0_3 : Int) (a0_4 : Int) : Option (Bool) := (impl_GoodCmd.f a0_0 a0_1 a0_2 a0_3 a0_4).bind fun t202 => (some (!t202))
set_option maxHeartbeats 8000000 in
set_option maxRecDepth 100000 in
theorem impl_goodCmds_1.calls (a0_0 : Int) (a0_1 : Int) (a0_2 : Int) (a0_3 : Int) (a0_4 : Int) (r : Bool) (w : World) (h : impl_goodCmds_1.f a0_0 a0_1 a0_2 a0_3 a0_4 = some r) :
  Calls Try.prog 139 #[.agg #[.int .i64 a0_0, .int .i64 a0_1, .int .i64 a0_2, .int .i64 a0_3, .int .i64 a0_4]] w fun e w' => e = .returned (.bool r) ∧ Below w.heap.size w w' := by
 have hu26 := Try.underlying26
 have HB := Am (Below.refl w.heap.size w)
 have H : ((impl_GoodCmd.f a0_0 a0_1 a0_2 a0_3 a0_4).bind fun t202 => (some (!t202))) = some r := h
 clear h
 replace H := Option.bind_eq_some_iff.mp H
 obtain ⟨t202, A20, H⟩ := H
 replace H : (some (!t202)) = some r := H
 have A2 := Am A20
 clear A20
 obtain rfl := Option.some.inj H
 go_enter Try.func139, Try.ntmps139
 go_wp2_with (first | ((refine Gd (N := 1) rfl ?_); refine Be ?hg (N := 1) ?hd (cs := #[.int .i64 a0_0, .int .i64 a0_1, .int .i64 a0_2, .int .i64 a0_3, .int .i64 a0_4]) (t := 26) ?hr ?_; (case hd | hg => rfl); (case hr => first | (go_simp; done) | (go_simp; rfl)); intro gb201 hg w3 hbox hb; have n0_ := Am (Bt (by repeat (first | exact HB.out | apply Ba | apply Bn | apply Bd)) hb); have n1_ := Am (hbox); have n2_ := Am ((by rw [hg]; exact (Bz (by repeat (first | exact HB.out | apply Ba | apply Bn | apply Bd))) : w.heap.size ≤ gb201)); have n3_ := Am ((by rw [hg]; exact (Bz (by repeat (first | exact HB.out | apply Ba | apply Bn | apply Bd))) : w.heap.size ≤ gb201)); clear HB; have HB := n0_; have BK201 := n1_; have GW201 := n2_; have GE201 := n3_; clear n0_ n1_ n2_ n3_; clear hb hbox hg; have hcz4_0 : w3.cell? ⟨gb201, 0, none⟩ = some (.int .i64 a0_0) := (Kc BK201.out 0).trans rfl; have hcz4_1 : w3.cell? ⟨gb201, 1, none⟩ = some (.int .i64 a0_1) := (Kc BK201.out 1).trans rfl; have hcz4_2 : w3.cell? ⟨gb201, 2, none⟩ = some (.int .i64 a0_2) := (Kc BK201.out 2).trans rfl; have hcz4_3 : w3.cell? ⟨gb201, 3, none⟩ = some (.int .i64 a0_3) := (Kc BK201.out 3).trans rfl; have hcz4_4 : w3.cell? ⟨gb201, 4, none⟩ = some (.int .i64 a0_4) := (Kc BK201.out 4).trans rfl; have hfz4_0 := Kz BK201.out 0; have hfz4_1 := Kz BK201.out 1; have hfz4_2 := Kz BK201.out 2; have hfz4_3 := Kz BK201.out 3; have hfz4_4 := Kz BK201.out 4) | ((refine Gc (f := 69) rfl ?_); refine goesL_ (some 4) rfl rfl Try.func69 (by kernel_rfl) rfl #[.agg #[.int .i64 a0_0, .int .i64 a0_1, .int .i64 a0_2, .int .i64 a0_3, .int .i64 a0_4]] rfl (by first | rfl | (simp only [List.map_toArray, List.map_cons, List.map_nil]; first | done | rfl)) ?_; (with_reducible refine (impl_GoodCmd.calls a0_0 a0_1 a0_2 a0_3 a0_4 t202 _ A2.out).mono ?_); rintro e w5 ⟨rfl, hb⟩; refine ⟨_, rfl, ?_⟩; have n0_ := Am (Kb (g := gb201) (o := .cells #[.int .i64 a0_0, .int .i64 a0_1, .int .i64 a0_2, .int .i64 a0_3, .int .i64 a0_4] 26 (0, 0)) (by (with_reducible repeat (first | refine Kn ?_ _ | refine Ke ?_ | refine Ka ?_ _)); exact BK201.out) hb); have n1_ := Am (Bt (by repeat (first | (with_reducible first | exact HB.out | apply Ba | apply Bn | apply Bd | refine Bs ?_ GE201.out) | exact HB.out)) hb); clear BK201; clear HB; have BK201 := n0_; have HB := n1_; clear n0_ n1_; (try clear hb); (try clear hb2); (try clear hk); (try clear hi)))
 go_ret
 exact ⟨by first | rfl | (simp [*, errW_none, errW_some] <;> rfl), by repeat (first | (with_reducible first | exact HB.out | apply Ba | apply Bn | apply Bd | refine Bs ?_ GE201.out) | exact HB.out)⟩
def impl_goodCmds_1_in_c.f (l0 : List S26) : Option Bool := Mine.anyO (fun x : S26 => impl_goodCmds_1.f x.f0 x.f1 x.f2 x.f3 x.f4) l0
set_option maxHeartbeats 2000000 in
theorem impl_goodCmds_1_in_c.calls (A0 : Option Addr) (c0 : Nat) (l0 : List S26) (r : Bool) (w : World) (hr0 : Kd.C k26 w A0 l0.length l0) (hc0 : l0.length ≤ c0) (h : impl_goodCmds_1_in_c.f l0  = some r) :
  Calls Try.prog 138 #[.slice A0 l0.length c0, .func (.func 139) #[] #[]] w fun e w' => e = .returned (.bool r) ∧ Below w.heap.size w w' :=
 impl_Cmd_138.anyO 139 #[] (fun x : S26 => impl_goodCmds_1.f x.f0 x.f1 x.f2 x.f3 x.f4) A0 c0 l0 w r (fun args w => enters_ Try.func139 (by kernel_rfl) rfl args w) hr0 hc0
  (fun W x hx bW b hb_ => (impl_goodCmds_1.calls x.f0 x.f1 x.f2 x.f3 x.f4 b W hb_).mono (fun e w' hh => ⟨hh.1, hh.2⟩)) h
def impl_goodCmds.f (l0 : List (S26)) : Option (Bool) := if (l0.length : Int) ≤ 60 then ((impl_goodCmds_1_in_c.f l0).bind fun t203 => (some (!t203))) else (some false)
set_option maxHeartbeats 8000000 in
set_option maxRecDepth 100000 in
theorem impl_goodCmds.calls (A0 : Option Addr) (c0 : Nat) (l0 : List (S26)) (r : Bool) (w : World) (hr0 : Kd.C k26 w A0 l0.length l0) (hc0 : l0.length ≤ c0) (h : impl_goodCmds.f l0 = some r) :
  Calls Try.prog 82 #[.slice A0 l0.length c0] w fun e w' => e = .returned (.bool r) ∧ Below w.heap.size w w' := by
 have HR0 := Am hr0
 have HC0 := Am hc0
 clear hr0 hc0
 have HB := Am (Below.refl w.heap.size w)
 have H : (if (l0.length : Int) ≤ 60 then ((impl_goodCmds_1_in_c.f l0).bind fun t203 => (some (!t203))) else (some false)) = some r := h
 clear h
 by_cases c2 : (l0.length : Int) ≤ 60
 ·rw [if_pos c2] at H
  have c2b0 : decide ((l0.length : Int) ≤ 60) = true := decide_eq_true c2
  have c2b1 : decide (l0.length ≤ 60) = true := decide_eq_true (by omega)
  clear c2
  replace H := Option.bind_eq_some_iff.mp H
  obtain ⟨t203, A30, H⟩ := H
  replace H : (some (!t203)) = some r := H
  have A3 := Am A30
  clear A30
  obtain rfl := Option.some.inj H
  go_enter Try.func82, Try.ntmps82
  go_wp2_with (first | (go_at_call 138; (with_reducible refine (impl_goodCmds_1_in_c.calls _ _ l0  t203 _ ?side1 ?side2 A3.out).mono ?_); (case side1 => repeat (first | exact HR0.out | (with_reducible refine Kd.C_alloc ?_ _) | (with_reducible refine Kd.C_drewN ?_ _) | (with_reducible refine Kd.C_drew ?_))); (case side2 => exact HC0.out); rintro e w4 ⟨rfl, hb⟩; have n0_ := Am (Bt (by repeat (first | exact HB.out | apply Ba | apply Bn | apply Bd)) hb); clear HB; have HB := n0_; clear n0_; (try clear hb); (try clear hb2); (try clear hk); (try clear hi)))
  go_ret
  exact ⟨by first | rfl | (simp [*, errW_none, errW_some] <;> rfl), by repeat (first | exact HB.out | apply Ba | apply Bn | apply Bd)⟩
 ·rw [if_neg c2] at H
  have c2b0 : decide ((l0.length : Int) ≤ 60) = false := decide_eq_false c2
  have c2b1 : decide (l0.length ≤ 60) = false := decide_eq_false (by omega)
  clear c2
  obtain rfl := Option.some.inj H
  go_enter Try.func82, Try.ntmps82
  go_wp2
  go_ret
  exact ⟨by first | rfl | (simp [*, errW_none, errW_some] <;> rfl), by repeat (first | exact HB.out | apply Ba | apply Bn | apply Bd)⟩
theorem impl_NewSums.mul4 (w : World) : Calls Try.prog 135 #[.int .u64 1, .int .u64 4] w fun e w' => e = .returned (.tuple #[.int .u64 0, .int .u64 4]) ∧ w = w' := by
 go_enter Try.func135, Try.ntmps135
 go_wp2
 refine bodyPost_ret (v := .tuple #[.int .u64 0, .int .u64 4]) ?_ rfl ⟨rfl, rfl⟩
 simp [results, Try.results135, go_sem]
 all_goals first | kernel_rfl | decide
set_option maxHeartbeats 400000 in
set_option maxRecDepth 100000 in
theorem impl_NewSums.repeat4 (g : Nat) (W : World) (hg : W.heap[g]? = some (.cells #[.int .i64 100] 3 (0,0))) : Calls Try.prog 79 #[.slice (some ⟨g,0,none⟩) 1 1, .int .i64 4] W fun e w' => ∃ v0_, e = .returned v0_ ∧ Kd.R (Kd.int .i64) 3 w' W.heap.size (fun _ => True) v0_ [100,100,100,100] ∧ Below W.heap.size W w' := by
 have HG := Am hg
 clear hg
 have hmk : (Instr.makeSlice 24 (.int .i64 4) (.int .i64 4)).run Try.prog W = .ok (.slice (some ⟨W.heap.size, 0, none⟩) 4 4) (W.alloc (.cells #[.int .i64 0, .int .i64 0, .int .i64 0, .int .i64 0] 3)) := by
  obtain ⟨i, hi, hz⟩ := Option.map_eq_some_iff.1 info3
  simp only [Prod.mk.injEq] at hz
  have := run_make (P := Try.prog) W 24 3 i (.int .i64 0) Try.underlying24 hi hz.1 .i64 .i64 4 4 (by omega) (by omega) (by rw [hz.2.2]; omega) (by omega)
  rw [hz.2.1] at this
  rw [show madeCells (Value.int .i64 0).cells (Int.toNat 4 * 1) = #[.int .i64 0, .int .i64 0, .int .i64 0, .int .i64 0] by kernel_rfl] at this
  exact this
 obtain ⟨W2, hc1, hW2, hB2⟩ : ∃ W2, (Builtin.copy_ #[24, 24] 3 #[.slice (some ⟨W.heap.size, 0, none⟩) 4 4, .slice (some ⟨g, 0, none⟩) 1 1]).run Try.prog (W.alloc (.cells #[.int .i64 0, .int .i64 0, .int .i64 0, .int .i64 0] 3)) = .ok (.int .i64 1) W2 ∧ Ad (W2.heap[W.heap.size]? = some (.cells #[.int .i64 100, .int .i64 0, .int .i64 0, .int .i64 0] 3 (0, 0))) ∧ Ad (Below W.heap.size W W2) := by
  have hg1 := Ka HG.out (.cells #[.int .i64 0, .int .i64 0, .int .i64 0, .int .i64 0] 3)
  have hn1 := blk_new W (.cells #[.int .i64 0, .int .i64 0, .int .i64 0, .int .i64 0] 3)
  have hB1 := Ba (Below.refl W.heap.size W) (.cells #[.int .i64 0, .int .i64 0, .int .i64 0, .int .i64 0] 3)
  generalize W.alloc (.cells #[.int .i64 0, .int .i64 0, .int .i64 0, .int .i64 0] 3) = W1 at *
  have h0 : W1.cell? ⟨g, 0, none⟩ = some (.int .i64 100) := (Kc hg1 0).trans rfl
  have := run_copy_row (P := Try.prog) W1 24 24 3 3 W.heap.size 0 4 4 ⟨g, 0, none⟩ 1 1 #[.int .i64 0, .int .i64 0, .int .i64 0, .int .i64 0] 3 [.int .i64 100] rfl rfl hn1 rfl (fun j v hj => by
   cases j with
   | zero => simp at hj; subst hj; rw [add_plain]; exact h0
   | succ j => simp at hj) (by simp) (by simp [Value.oneCell'])
  refine ⟨_, this, ⟨?_⟩, ⟨below_setRow hB1 (Nat.le_refl _) _⟩⟩
  exact setRow_heap W1 _ _ _ _ _ hn1
 go_enter Try.func79, Try.ntmps79
 go_wp2_with (first | (go_at_call 135; refine (impl_NewSums.mul4 _).mono ?_; rintro e w' ⟨rfl, rfl⟩) | fail)
 go_wp2_with (first | (go_at_call 135; refine (impl_NewSums.mul4 _).mono ?_; rintro e w' ⟨rfl, rfl⟩))
 clear hmk hc1
 refine wp_loop_rounds 3 ?_
 rw [rounds_succ]
 go_wp2
 have hs2 : ∀ j v, [Value.int .i64 100][j]? = some v → W2.drew.cell? ((⟨W.heap.size, 0, none⟩ : Addr).add j) = some v := by
  intro j v hj
  cases j with
  | zero => simp at hj; subst hj; rw [add_plain]; exact (Kc hW2.out 0).trans rfl
  | succ j => simp at hj
 have HS2 := Am hs2
 clear hs2
 go_region_law (refine step_copy_splice rfl (.tmp 41) (.tmp 44) 24 24 rfl 3 Try.underlying24 rfl (some ⟨W.heap.size, 1, none⟩) (some ⟨W.heap.size, 0, none⟩) 3 3 1 4 (by simp [Act.eval, Act.put]) (by simp [Act.eval, Act.put]) W.heap.size 1 [.int .i64 100, .int .i64 0, .int .i64 0, .int .i64 0] 3 (show W2.drew.heap[W.heap.size]? = _ from hW2.out) [.int .i64 100] rfl (fun _ => ⟨rfl, _, rfl, HS2.out⟩) (by simp) (by simp [Value.oneCell']) W.heap.size W (show Below W.heap.size W W2.drew from below_drew hB2.out) (Nat.le_refl _) ?_; intro W3 hW3 hB3)
 have hW3' : Ad (W3.heap[W.heap.size]? = some (.cells #[.int .i64 100, .int .i64 100, .int .i64 0, .int .i64 0] 3 (0, 0))) := ⟨hW3⟩
 have hB3' := Am hB3
 clear hW3 hB3 hW2 hB2 HS2 HG
 have hs3 : ∀ j v, [Value.int .i64 100, Value.int .i64 100][j]? = some v → W3.drew.cell? ((⟨W.heap.size, 0, none⟩ : Addr).add j) = some v := by
  intro j v hj
  cases j with
  | zero => simp at hj; subst hj; rw [add_plain]; exact (Kc hW3'.out 0).trans rfl
  | succ j =>
   cases j with
   | zero => simp at hj; subst hj; rw [add_plain]; exact (Kc hW3'.out 1).trans rfl
   | succ j => simp at hj
 have HS3 := Am hs3
 clear hs3
 go_wp2
 rw [rounds_succ]
 go_wp2
 go_region_law (refine step_copy_splice rfl (.tmp 41) (.tmp 44) 24 24 rfl 3 Try.underlying24 rfl (some ⟨W.heap.size, 2, none⟩) (some ⟨W.heap.size, 0, none⟩) 2 2 2 4 (by simp [Act.eval, Act.put]) (by simp [Act.eval, Act.put]) W.heap.size 2 [.int .i64 100, .int .i64 100, .int .i64 0, .int .i64 0] 3 (show W3.drew.heap[W.heap.size]? = _ from hW3'.out) [.int .i64 100, .int .i64 100] rfl (fun _ => ⟨rfl, _, rfl, HS3.out⟩) (by simp) (by simp [Value.oneCell']) W.heap.size W (show Below W.heap.size W W3.drew from below_drew hB3'.out) (Nat.le_refl _) ?_; intro W4 hW4 hB4)
 have hW4' : Ad (W4.heap[W.heap.size]? = some (.cells #[.int .i64 100, .int .i64 100, .int .i64 100, .int .i64 100] 3 (0, 0))) := ⟨hW4⟩
 have hB4' := Am hB4
 clear hW4 hB4 hW3' hB3' HS3
 go_wp2
 rw [rounds_succ]
 go_wp2
 go_ret
 refine ⟨_, rfl, ⟨fun _ _ => trivial, [.int .i64 100, .int .i64 100, .int .i64 100, .int .i64 100], ⟨rfl, .inr ⟨W.heap.size, 4, #[.int .i64 100, .int .i64 100, .int .i64 100, .int .i64 100], rfl, Nat.le_refl _, hW4'.out, Nat.le_refl _, by simp [maxLen], rfl, rfl⟩⟩, Reps.one rfl (Reps.one rfl (Reps.one rfl (Reps.one rfl (Reps.none _ _))))⟩, hB4'.out⟩
def impl_NewSums.f : Option (List Int) := some [100, 100, 100, 100]
set_option maxHeartbeats 2000000 in
set_option maxRecDepth 100000 in
theorem impl_NewSums.calls (r : List Int) (w : World) (h : impl_NewSums.f = some r) :
  Calls Try.prog 18 #[] w fun e w' => ∃ v0_ : Value, e = .returned (v0_) ∧ Kd.R (Kd.int .i64) 3 w' w.heap.size (fun _ => True) v0_ r ∧ Below w.heap.size w w' := by
 obtain rfl := Option.some.inj h
 clear h
 go_enter Try.func18, Try.ntmps18
 go_wp2_with fail
 refine (impl_NewSums.repeat4 w.heap.size _ (blk_new w (.cells #[.int .i64 100] 3))).mono ?_
 rintro e w1 ⟨v, rfl, hR, hb⟩
 have HR := Am hR
 have HB := Am hb
 clear hR hb
 go_wp2
 go_ret
 exact ⟨_, rfl, Kd.R_lower HR.out (by simp), below_then (Ba (Below.refl _ _) _) (by simp) HB.out⟩
end Go.Proofs.Yteecmbfebenjjaa.QFnTellsSame
