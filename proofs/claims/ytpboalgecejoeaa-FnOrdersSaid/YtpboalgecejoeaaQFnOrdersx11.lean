-- Written by a program of this session (wip/mk.py) over the kit's print: Lean checks it.
import Derived.Test.YtpboalgecejoeaaQFnOrdersx0
import Derived.Test.YtpboalgecejoeaaQFnOrdersx2
namespace Go.Proofs.Ytpboalgecejoeaa.QFnOrders
open Go.Proofs.YtpboalgecejoeaaW.PrintWords.Kd renaming R_drew → Rd
open Go.Proofs.YtpboalgecejoeaaW.PrintWords renaming below_alloc → Ba, pw_below_drewN → Bn, below_drew1 → Bd, below_set → Bs, gate_callee → Gc, blk_cell → Kc, blk_far → Kf, blk_frozen → Kz
open List renaming setIfInBounds_toArray → Lt, set_cons_zero → Lz, set_cons_succ → Ls
open Go.Proofs.YtpboalgecejoeaaW.PrintWords.Aside0 renaming mk → Am
open Go.Proofs.YtpboalgecejoeaaW.PrintWords renaming Aside0 → Ad
open Go.RowKit Go.Proofs.YtpboalgecejoeaaW.PrintWords Go.Proofs.YtpboalgecejoeaaW.PrintLast Go.Proofs.YtpboalgecejoeaaW.PrintMore
attribute [local go_sem] max2_int min2_int max_two min_two max_three min_three max_four min_four   -- for this text's walks alone
set_option linter.unusedVariables false
set_option linter.unusedSimpArgs false
def laws_big.f (l0 : List Int) (l1 : List Int) : Option (Bool) := if (l0.length : Int) > 1048576 then (some true) else (some (decide ((l1.length : Int) > (wrap64 (1048576 - (l0.length : Int))))))
set_option maxHeartbeats 8000000 in
set_option maxRecDepth 100000 in
theorem laws_big.calls (A0 : Option Addr) (c0 : Nat) (l0 : List Int) (A1 : Option Addr) (c1 : Nat) (l1 : List Int) (r : Bool) (w : World) (hr0 : Kd.C (Kd.int .u8) w A0 l0.length l0) (hc0 : l0.length ≤ c0) (hr1 : Kd.C (Kd.int .u8) w A1 l1.length l1) (hc1 : l1.length ≤ c1) (h : laws_big.f l0 l1 = some r) :
  Calls Try.prog 15 #[.slice A0 l0.length c0, .slice A1 l1.length c1] w fun e w' => e = .returned (.bool r) ∧ Drawn0 w w' := by
 have HR0 := Am hr0
 have HC0 := Am hc0
 clear hr0 hc0
 have HR1 := Am hr1
 have HC1 := Am hc1
 clear hr1 hc1
 have H : (if (l0.length : Int) > 1048576 then (some true) else (some (decide ((l1.length : Int) > (wrap64 (1048576 - (l0.length : Int))))))) = some r := h
 clear h
 by_cases c3 : (l0.length : Int) > 1048576
 ·rw [if_pos c3] at H
  have c3b0 : decide (1048576 < (l0.length : Int)) = true := decide_eq_true c3
  have c3b1 : decide (1048576 < l0.length) = true := decide_eq_true (by omega)
  clear c3
  obtain rfl := Option.some.inj H
  go_enter Try.func15, Try.ntmps15
  go_wp2
  go_ret
  exact ⟨by first | rfl | (simp; done) | (simp [*]; done), by repeat (first | exact Drawn0.refl _ | apply Drawn0.step)⟩
 ·rw [if_neg c3] at H
  have c3b0 : decide (1048576 < (l0.length : Int)) = false := decide_eq_false c3
  have c3b1 : decide (1048576 < l0.length) = false := decide_eq_false (by omega)
  clear c3
  obtain rfl := Option.some.inj H
  go_enter Try.func15, Try.ntmps15
  go_wp2
  go_ret
  exact ⟨by first | rfl | (simp; done) | (simp [*]; done), by repeat (first | exact Drawn0.refl _ | apply Drawn0.step)⟩
def IsS94 (w0 W : World) (g : Nat) (f0 : List Int) (f1 : Int) (f2 : Int) : Prop := ∃ A0 c0, W.heap[g]? = some (.cells #[.slice A0 f0.length c0, .int .i64 f1, .int .u64 f2] 94 (0, 0)) ∧ w0.heap.size ≤ g ∧ Kd.C (Kd.int .u8) w0 A0 f0.length f0
theorem IsS94.grown {w0 W : World} {g : Nat} {f0 : List Int} {f1 : Int} {f2 : Int} {W1 : World} {row : Option Nat} (h : IsS94 w0 W g f0 f1 f2) (hw : W.grownBy W1 row) (hne : some g ≠ row) : IsS94 w0 W1 g f0 f1 f2 := by
 obtain ⟨A0, c0, hb, hg, hr0⟩ := h
 exact ⟨A0, c0, blk_grown hb hw hne, hg, hr0⟩
theorem IsS94.own_neN {w0 W : World} {g : Nat} {f0 : List Int} {f1 : Int} {f2 : Int} {α : Type} {d : Kd α} {e : Nat} {base : Nat} {ok : Nat → Prop} {v : Value} {xs : List α} (h : IsS94 w0 W g f0 f1 f2) (ho : Kd.N d e W base ok v xs) (ht : e ≠ 94) : some g ≠ v.ownBlock := by
 obtain ⟨A0, c0, hb, hg, hr0⟩ := h
 exact Kd.N_ne ho hb ht
theorem IsS94.fresh {w0 W : World} {g : Nat} {f0 : List Int} {f1 : Int} {f2 : Int} (h : IsS94 w0 W g f0 f1 f2) : ∀ k, W.heap.size ≤ k → k ≠ g := by
 obtain ⟨A0, c0, hb, hg, hr0⟩ := h
 exact Kd.freshB hb
theorem IsS94.kept {w0 W : World} {g : Nat} {f0 : List Int} {f1 : Int} {f2 : Int} {W1 : World} {S : Nat → Prop} (h : IsS94 w0 W g f0 f1 f2) (hk : Kept W W1 S) (hne : ¬ S g) : IsS94 w0 W1 g f0 f1 f2 := by
 obtain ⟨A0, c0, hb, hg, hr0⟩ := h
 exact ⟨A0, c0, blk_kept hb hk hne, hg, hr0⟩
theorem IsS94.below {w0 W : World} {g : Nat} {f0 : List Int} {f1 : Int} {f2 : Int} {W1 : World} (h : IsS94 w0 W g f0 f1 f2) (hw : Below W.heap.size W W1) : IsS94 w0 W1 g f0 f1 f2 := h.grown (grown_of_below hw none) (by simp)
theorem IsS94.alloc {w0 W : World} {g : Nat} {f0 : List Int} {f1 : Int} {f2 : Int} (h : IsS94 w0 W g f0 f1 f2) (o : Obj) : IsS94 w0 (W.alloc o) g f0 f1 f2 := h.below (Ba (Below.refl _ _) o)
theorem IsS94.drewN {w0 W : World} {g : Nat} {f0 : List Int} {f1 : Int} {f2 : Int} (h : IsS94 w0 W g f0 f1 f2) (m : Nat) : IsS94 w0 (W.drewN m) g f0 f1 f2 := h
theorem IsS94.drew {w0 W : World} {g : Nat} {f0 : List Int} {f1 : Int} {f2 : Int} (h : IsS94 w0 W g f0 f1 f2) : IsS94 w0 W.drew g f0 f1 f2 := h
theorem IsS94.at_ {w0 W : World} {g : Nat} {f0 : List Int} {f1 : Int} {f2 : Int} {w' : World} {m : Nat} (hq : W.drewN m = w') (h : IsS94 w0 W g f0 f1 f2) : IsS94 w0 w' g f0 f1 f2 := by subst hq; exact IsS94.drewN h m
theorem IsS94.apart {w0 W : World} {g : Nat} {f0 : List Int} {f1 : Int} {f2 : Int} {α : Type} {d : Kd α} {e : Nat} {base : Nat} {ok : Nat → Prop} {v : Value} {xs : List α} (h : IsS94 w0 W g f0 f1 f2) (ho : d.R e W base ok v xs) (ht : ∀ q, q ∈ e :: d.E → q ≠ 94) : d.R e W base (fun k => ok k ∧ k ≠ g) v xs := by
 obtain ⟨A0, c0, hb, hg, hr0⟩ := h
 exact Kd.R_types ho hb ht
theorem IsS94.own_ne {w0 W : World} {g : Nat} {f0 : List Int} {f1 : Int} {f2 : Int} {α : Type} {d : Kd α} {e : Nat} {base : Nat} {ok : Nat → Prop} {v : Value} {xs : List α} (h : IsS94 w0 W g f0 f1 f2) (ho : d.R e W base ok v xs) (ht : e ≠ 94) : some g ≠ v.ownBlock := by
 obtain ⟨A0, c0, hb, hg, hr0⟩ := h
 exact Kd.R_ne ho hb ht
theorem IsS94.apartQ {w0 W : World} {g : Nat} {f0 : List Int} {f1 : Int} {f2 : Int} {α : Type} {d : Kd α} {e : Nat} {base : Nat} {ok : Nat → Prop} {v : Value} {xs : List α} (h : IsS94 w0 W g f0 f1 f2) (ho : d.Q e W base ok v xs) (ht : ∀ q, q ∈ e :: d.E → q ≠ 94) : d.Q e W base (fun k => ok k ∧ k ≠ g) v xs := by
 obtain ⟨A0, c0, hb, hg, hr0⟩ := h
 exact Kd.Q_types ho hb ht
theorem IsS94.own_neQ {w0 W : World} {g : Nat} {f0 : List Int} {f1 : Int} {f2 : Int} {α : Type} {d : Kd α} {e : Nat} {base : Nat} {ok : Nat → Prop} {v : Value} {xs : List α} (h : IsS94 w0 W g f0 f1 f2) (ho : d.Q e W base ok v xs) (ht : e ≠ 94) : some g ≠ v.ownBlock := by
 obtain ⟨A0, c0, hb, hg, hr0⟩ := h
 exact Kd.Q_ne ho hb ht
theorem IsS94.apartS {w0 W : World} {g : Nat} {f0 : List Int} {f1 : Int} {f2 : Int} {α : Type} {d : Kd α} {e : Nat} {base : Nat} {ok : Nat → Prop} {v : Value} {xs : List α} (h : IsS94 w0 W g f0 f1 f2) (ho : d.S e W base ok v xs) (ht : ∀ q, q ∈ e :: d.E → q ≠ 94) : d.S e W base (fun k => ok k ∧ k ≠ g) v xs := by
 obtain ⟨A0, c0, hb, hg, hr0⟩ := h
 exact Kd.S_types ho hb ht
theorem IsS94.own_neS {w0 W : World} {g : Nat} {f0 : List Int} {f1 : Int} {f2 : Int} {α : Type} {d : Kd α} {e : Nat} {base : Nat} {ok : Nat → Prop} {v : Value} {xs : List α} (h : IsS94 w0 W g f0 f1 f2) (ho : d.S e W base ok v xs) (ht : e ≠ 94) : some g ≠ v.ownBlock := by
 obtain ⟨A0, c0, hb, hg, hr0⟩ := h
 exact Kd.S_ne ho hb ht
theorem IsS94.lt {w0 W : World} {g : Nat} {f0 : List Int} {f1 : Int} {f2 : Int} (h : IsS94 w0 W g f0 f1 f2) : g < W.heap.size := by
 obtain ⟨A0, c0, hb, hg, hr0⟩ := h
 exact blk_lt hb
theorem IsS94.ge {w0 W : World} {g : Nat} {f0 : List Int} {f1 : Int} {f2 : Int} (h : IsS94 w0 W g f0 f1 f2) : w0.heap.size ≤ g := by
 obtain ⟨A0, c0, hb, hg, hr0⟩ := h
 exact hg
theorem IsS94.ne_blk {w0 W : World} {g : Nat} {f0 : List Int} {f1 : Int} {f2 : Int} {a : Nat} {cs : Array Value} {t : TypeId} {fr : Nat × Nat} (h : IsS94 w0 W g f0 f1 f2) (hb2 : W.heap[a]? = some (.cells cs t fr)) (ht : t ≠ 94) : g ≠ a := by
 obtain ⟨A0, c0, hb, hg, hr0⟩ := h
 rintro rfl
 rw [hb] at hb2
 injection hb2 with hb2
 injection hb2 with _ ht2
 exact ht ht2.symm
theorem IsS94.far {w0 W : World} {g : Nat} {f0 : List Int} {f1 : Int} {f2 : Int} {p : Addr} (h : IsS94 w0 W g f0 f1 f2) (hne : g ≠ p.block) (u : Value) : IsS94 w0 (W.setCell p u) g f0 f1 f2 := by
 obtain ⟨A0, c0, hb, hg, hr0⟩ := h
 exact ⟨A0, c0, Kf hb hne u, hg, hr0⟩
theorem cellS94_0 {W : World} {g : Nat} {A0 : Option Addr} {c0 : Nat} {f0 : List Int} {f1 : Int} {f2 : Int} (h : W.heap[g]? = some (.cells #[.slice A0 f0.length c0, .int .i64 f1, .int .u64 f2] 94 (0, 0))) : W.cell? ⟨g, 0, none⟩ = some (.slice A0 f0.length c0) := (Kc h 0).trans rfl
theorem cellS94_1 {W : World} {g : Nat} {A0 : Option Addr} {c0 : Nat} {f0 : List Int} {f1 : Int} {f2 : Int} (h : W.heap[g]? = some (.cells #[.slice A0 f0.length c0, .int .i64 f1, .int .u64 f2] 94 (0, 0))) : W.cell? ⟨g, 1, none⟩ = some (.int .i64 f1) := (Kc h 1).trans rfl
theorem IsS94.set_1 {w0 W : World} {g : Nat} {f0 : List Int} {f1 : Int} {f2 : Int} (h : IsS94 w0 W g f0 f1 f2) (x : Int) : IsS94 w0 (W.setCell ⟨g, 1, none⟩ (.int .i64 x)) g f0 x f2 := by
 obtain ⟨A0, c0, hb, hg, hr0⟩ := h
 exact ⟨A0, c0, by simpa using blk_set hb 1 (.int .i64 x), hg, hr0⟩
theorem cellS94_2 {W : World} {g : Nat} {A0 : Option Addr} {c0 : Nat} {f0 : List Int} {f1 : Int} {f2 : Int} (h : W.heap[g]? = some (.cells #[.slice A0 f0.length c0, .int .i64 f1, .int .u64 f2] 94 (0, 0))) : W.cell? ⟨g, 2, none⟩ = some (.int .u64 f2) := (Kc h 2).trans rfl
theorem IsS94.set_2 {w0 W : World} {g : Nat} {f0 : List Int} {f1 : Int} {f2 : Int} (h : IsS94 w0 W g f0 f1 f2) (x : Int) : IsS94 w0 (W.setCell ⟨g, 2, none⟩ (.int .u64 x)) g f0 f1 x := by
 obtain ⟨A0, c0, hb, hg, hr0⟩ := h
 exact ⟨A0, c0, by simpa using blk_set hb 2 (.int .u64 x), hg, hr0⟩
theorem IsS94.new (w0 W : World) (A0 : Option Addr) (c0 : Nat) (f0 : List Int) (f1 : Int) (f2 : Int) (hB : Below w0.heap.size w0 W) (hr0 : Kd.C (Kd.int .u8) w0 A0 f0.length f0) : IsS94 w0 (W.alloc (.cells #[.slice A0 f0.length c0, .int .i64 f1, .int .u64 f2] 94)) W.heap.size f0 f1 f2 := ⟨A0, c0, by simpa using heap_alloc_new W _, hB.size, hr0⟩
def spec_l1Cur_next.f (s0_0 : List Int) (s0_1 : Int) (s0_2 : Int) : Option (Int × Int × Int) := if s0_1 < (s0_0.length : Int) then (if 0 ≤ s0_1 then (if (wrap64 (s0_1 + 1)) ≤ (s0_0.length : Int) then (some (wrap64 (rd s0_0 s0_1), wrap64 (s0_1 + 1), IntKind.u64.wrap ((IntKind.u64.wrap ((IntKind.u64.wrap (s0_2 * 6364136223846793005)) + (IntKind.u64.wrap (wrap64 (rd s0_0 s0_1))))) + 1442695040888963407))) else (some (wrap64 (Go.bits .and .u64 ((IntKind.u64.wrap ((IntKind.u64.wrap ((IntKind.u64.wrap (s0_2 * 6364136223846793005)) + (IntKind.u64.wrap (wrap64 (rd s0_0 s0_1))))) + 1442695040888963407)) / 1099511627776) 255), wrap64 (s0_1 + 1), IntKind.u64.wrap ((IntKind.u64.wrap ((IntKind.u64.wrap (s0_2 * 6364136223846793005)) + (IntKind.u64.wrap (wrap64 (rd s0_0 s0_1))))) + 1442695040888963407)))) else (none)) else (if (wrap64 (s0_1 + 1)) ≤ (s0_0.length : Int) then (some (0, wrap64 (s0_1 + 1), IntKind.u64.wrap ((IntKind.u64.wrap (IntKind.u64.wrap (s0_2 * 6364136223846793005))) + 1442695040888963407))) else (some (wrap64 (Go.bits .and .u64 ((IntKind.u64.wrap ((IntKind.u64.wrap (IntKind.u64.wrap (s0_2 * 6364136223846793005))) + 1442695040888963407)) / 1099511627776) 255), wrap64 (s0_1 + 1), IntKind.u64.wrap ((IntKind.u64.wrap (IntKind.u64.wrap (s0_2 * 6364136223846793005))) + 1442695040888963407))))
set_option maxHeartbeats 8000000 in
set_option maxRecDepth 100000 in
theorem spec_l1Cur_next.calls (g : Nat) (s0_0 : List Int) (s0_1 : Int) (s0_2 : Int) (r1 : Int) (r2 : Int) (r3 : Int) (w0 w : World) (hI : IsS94 w0 w g s0_0 s0_1 s0_2) (hB : Below w0.heap.size w0 w) (h : spec_l1Cur_next.f s0_0 s0_1 s0_2 = some (r1, r2, r3)) :
  Calls Try.prog 118 #[.pointer (some ⟨g, 0, none⟩)] w fun e w' => e = .returned (.int .i64 r1) ∧ IsS94 w0 w' g s0_0 r2 r3 ∧ Below w0.heap.size w0 w' ∧ KeepBut w w' g none := by
 have HI0 := Am hI
 have HK := Am (KeepBut.refl w g none)
 have HL := Am hB.size
 clear hI
 have HW0 := Am hB.size
 have HB := Am hB
 clear hB
 have H : (if s0_1 < (s0_0.length : Int) then (if 0 ≤ s0_1 then (if (wrap64 (s0_1 + 1)) ≤ (s0_0.length : Int) then (some (wrap64 (rd s0_0 s0_1), wrap64 (s0_1 + 1), IntKind.u64.wrap ((IntKind.u64.wrap ((IntKind.u64.wrap (s0_2 * 6364136223846793005)) + (IntKind.u64.wrap (wrap64 (rd s0_0 s0_1))))) + 1442695040888963407))) else (some (wrap64 (Go.bits .and .u64 ((IntKind.u64.wrap ((IntKind.u64.wrap ((IntKind.u64.wrap (s0_2 * 6364136223846793005)) + (IntKind.u64.wrap (wrap64 (rd s0_0 s0_1))))) + 1442695040888963407)) / 1099511627776) 255), wrap64 (s0_1 + 1), IntKind.u64.wrap ((IntKind.u64.wrap ((IntKind.u64.wrap (s0_2 * 6364136223846793005)) + (IntKind.u64.wrap (wrap64 (rd s0_0 s0_1))))) + 1442695040888963407)))) else (none)) else (if (wrap64 (s0_1 + 1)) ≤ (s0_0.length : Int) then (some (0, wrap64 (s0_1 + 1), IntKind.u64.wrap ((IntKind.u64.wrap (IntKind.u64.wrap (s0_2 * 6364136223846793005))) + 1442695040888963407))) else (some (wrap64 (Go.bits .and .u64 ((IntKind.u64.wrap ((IntKind.u64.wrap (IntKind.u64.wrap (s0_2 * 6364136223846793005))) + 1442695040888963407)) / 1099511627776) 255), wrap64 (s0_1 + 1), IntKind.u64.wrap ((IntKind.u64.wrap (IntKind.u64.wrap (s0_2 * 6364136223846793005))) + 1442695040888963407))))) = some (r1, r2, r3) := h
 clear h
 by_cases c2 : s0_1 < (s0_0.length : Int)
 ·rw [if_pos c2] at H
  have c2b0 : decide (s0_1 < (s0_0.length : Int)) = true := decide_eq_true c2
  clear c2
  by_cases c3 : 0 ≤ s0_1
  ·rw [if_pos c3] at H
   have c3b0 : decide (0 ≤ s0_1) = true := decide_eq_true c3
   clear c3
   by_cases c4 : (wrap64 (s0_1 + 1)) ≤ (s0_0.length : Int)
   ·rw [if_pos c4] at H
    have c4b0 : decide ((wrap64 (s0_1 + 1)) ≤ (s0_0.length : Int)) = true := decide_eq_true c4
    clear c4
    simp only [Option.some.injEq, Prod.mk.injEq] at H
    obtain ⟨rfl, rfl, rfl⟩ := H
    obtain ⟨ASz5_0, cSz5_0, HGz5, hgz5, HSz5_0⟩ := HI0.out
    have hcz5_0 := cellS94_0 HGz5
    have hcz5_1 := cellS94_1 HGz5
    have hcz5_2 := cellS94_2 HGz5
    have hfz5_1 := Kz HGz5 1
    have hfz5_2 := Kz HGz5 2
    clear HGz5 hgz5
    have p293 : 0 ≤ (s0_1 : Int) := of_decide_eq_true (by assumption)
    have q293 : s0_1 < (s0_0.length : Int) := of_decide_eq_true (by assumption)
    obtain ⟨ad293, e293, hx293_0⟩ := Kd.at_int HSz5_0 s0_1 p293 q293
    cases e293
    replace hx293_0 := pw_cell_below HB.out hx293_0
    replace p293 := eq_true p293
    replace q293 := eq_true q293
    go_enter Try.func118, Try.ntmps118
    go_wp2
    repeat (go_quiet (fail); try go_wp2)
    go_ret
    exact ⟨by first | rfl | (simp [*, errW_none, errW_some] <;> rfl), by repeat (first | (with_reducible first | exact HI0.out | apply IsS94.alloc | apply IsS94.drewN | apply IsS94.drew | apply IsS94.set_1 | apply IsS94.set_2) | exact HI0.out), by repeat (first | (with_reducible first | exact HB.out | apply Ba | apply Bn | apply Bd | refine Bs ?_ (IsS94.ge HI0.out)) | exact HB.out), by repeat (first | (with_reducible first | exact HK.out | apply KeepBut.set_ | apply keep_drewN | apply keep_drew | apply keep_alloc) | exact HK.out)⟩
   ·rw [if_neg c4] at H
    have c4b0 : decide ((wrap64 (s0_1 + 1)) ≤ (s0_0.length : Int)) = false := decide_eq_false c4
    clear c4
    simp only [Option.some.injEq, Prod.mk.injEq] at H
    obtain ⟨rfl, rfl, rfl⟩ := H
    obtain ⟨ASz6_0, cSz6_0, HGz6, hgz6, HSz6_0⟩ := HI0.out
    have hcz6_0 := cellS94_0 HGz6
    have hcz6_1 := cellS94_1 HGz6
    have hcz6_2 := cellS94_2 HGz6
    have hfz6_1 := Kz HGz6 1
    have hfz6_2 := Kz HGz6 2
    clear HGz6 hgz6
    have p293 : 0 ≤ (s0_1 : Int) := of_decide_eq_true (by assumption)
    have q293 : s0_1 < (s0_0.length : Int) := of_decide_eq_true (by assumption)
    obtain ⟨ad293, e293, hx293_0⟩ := Kd.at_int HSz6_0 s0_1 p293 q293
    cases e293
    replace hx293_0 := pw_cell_below HB.out hx293_0
    replace p293 := eq_true p293
    replace q293 := eq_true q293
    go_enter Try.func118, Try.ntmps118
    go_wp2
    repeat (go_quiet (fail); try go_wp2)
    go_ret
    exact ⟨by first | rfl | (simp [*, errW_none, errW_some] <;> rfl), by repeat (first | (with_reducible first | exact HI0.out | apply IsS94.alloc | apply IsS94.drewN | apply IsS94.drew | apply IsS94.set_1 | apply IsS94.set_2) | exact HI0.out), by repeat (first | (with_reducible first | exact HB.out | apply Ba | apply Bn | apply Bd | refine Bs ?_ (IsS94.ge HI0.out)) | exact HB.out), by repeat (first | (with_reducible first | exact HK.out | apply KeepBut.set_ | apply keep_drewN | apply keep_drew | apply keep_alloc) | exact HK.out)⟩
  ·rw [if_neg c3] at H
   exact absurd H (by simp)
 ·rw [if_neg c2] at H
  have c2b0 : decide (s0_1 < (s0_0.length : Int)) = false := decide_eq_false c2
  clear c2
  by_cases c7 : (wrap64 (s0_1 + 1)) ≤ (s0_0.length : Int)
  ·rw [if_pos c7] at H
   have c7b0 : decide ((wrap64 (s0_1 + 1)) ≤ (s0_0.length : Int)) = true := decide_eq_true c7
   clear c7
   simp only [Option.some.injEq, Prod.mk.injEq] at H
   obtain ⟨rfl, rfl, rfl⟩ := H
   obtain ⟨ASz8_0, cSz8_0, HGz8, hgz8, HSz8_0⟩ := HI0.out
   have hcz8_0 := cellS94_0 HGz8
   have hcz8_1 := cellS94_1 HGz8
   have hcz8_2 := cellS94_2 HGz8
   have hfz8_1 := Kz HGz8 1
   have hfz8_2 := Kz HGz8 2
   clear HGz8 hgz8
   go_enter Try.func118, Try.ntmps118
   go_wp2
   repeat (go_quiet (fail); try go_wp2)
   go_ret
   exact ⟨by first | rfl | (simp [*, errW_none, errW_some] <;> rfl), by repeat (first | (with_reducible first | exact HI0.out | apply IsS94.alloc | apply IsS94.drewN | apply IsS94.drew | apply IsS94.set_1 | apply IsS94.set_2) | exact HI0.out), by repeat (first | (with_reducible first | exact HB.out | apply Ba | apply Bn | apply Bd | refine Bs ?_ (IsS94.ge HI0.out)) | exact HB.out), by repeat (first | (with_reducible first | exact HK.out | apply KeepBut.set_ | apply keep_drewN | apply keep_drew | apply keep_alloc) | exact HK.out)⟩
  ·rw [if_neg c7] at H
   have c7b0 : decide ((wrap64 (s0_1 + 1)) ≤ (s0_0.length : Int)) = false := decide_eq_false c7
   clear c7
   simp only [Option.some.injEq, Prod.mk.injEq] at H
   obtain ⟨rfl, rfl, rfl⟩ := H
   obtain ⟨ASz9_0, cSz9_0, HGz9, hgz9, HSz9_0⟩ := HI0.out
   have hcz9_0 := cellS94_0 HGz9
   have hcz9_1 := cellS94_1 HGz9
   have hcz9_2 := cellS94_2 HGz9
   have hfz9_1 := Kz HGz9 1
   have hfz9_2 := Kz HGz9 2
   clear HGz9 hgz9
   go_enter Try.func118, Try.ntmps118
   go_wp2
   repeat (go_quiet (fail); try go_wp2)
   go_ret
   exact ⟨by first | rfl | (simp [*, errW_none, errW_some] <;> rfl), by repeat (first | (with_reducible first | exact HI0.out | apply IsS94.alloc | apply IsS94.drewN | apply IsS94.drew | apply IsS94.set_1 | apply IsS94.set_2) | exact HI0.out), by repeat (first | (with_reducible first | exact HB.out | apply Ba | apply Bn | apply Bd | refine Bs ?_ (IsS94.ge HI0.out)) | exact HB.out), by repeat (first | (with_reducible first | exact HK.out | apply KeepBut.set_ | apply keep_drewN | apply keep_drew | apply keep_alloc) | exact HK.out)⟩
def spec_l1Cur_pick.f (s0_0 : List Int) (s0_1 : Int) (s0_2 : Int) (a1 : Int) : Option (Int × Int × Int) := if a1 ≤ 1 then (some (0, s0_1, s0_2)) else ((spec_l1Cur_next.f s0_0 s0_1 s0_2).bind fun bt294 => (if a1 > 200 then ((spec_l1Cur_next.f s0_0 bt294.2.1 bt294.2.2).bind fun bt297 => (if a1 = 0 then (none) else (some (Int.tmod (wrap64 ((wrap64 (bt294.1 * 256)) + bt297.1)) a1, bt297.2.1, bt297.2.2)))) else (if a1 = 0 then (none) else (some (Int.tmod bt294.1 a1, bt294.2.1, bt294.2.2)))))
set_option maxHeartbeats 8000000 in
set_option maxRecDepth 100000 in
theorem spec_l1Cur_pick.calls (g : Nat) (s0_0 : List Int) (s0_1 : Int) (s0_2 : Int) (a1 : Int) (r1 : Int) (r2 : Int) (r3 : Int) (w0 w : World) (hI : IsS94 w0 w g s0_0 s0_1 s0_2) (hB : Below w0.heap.size w0 w) (h : spec_l1Cur_pick.f s0_0 s0_1 s0_2 a1 = some (r1, r2, r3)) :
  Calls Try.prog 67 #[.pointer (some ⟨g, 0, none⟩), .int .i64 a1] w fun e w' => e = .returned (.int .i64 r1) ∧ IsS94 w0 w' g s0_0 r2 r3 ∧ Below w0.heap.size w0 w' ∧ KeepBut w w' g none := by
 have HI0 := Am hI
 have HK := Am (KeepBut.refl w g none)
 have HL := Am hB.size
 clear hI
 have HW0 := Am hB.size
 have HB := Am hB
 clear hB
 have H : (if a1 ≤ 1 then (some (0, s0_1, s0_2)) else ((spec_l1Cur_next.f s0_0 s0_1 s0_2).bind fun bt294 => (if a1 > 200 then ((spec_l1Cur_next.f s0_0 bt294.2.1 bt294.2.2).bind fun bt297 => (if a1 = 0 then (none) else (some (Int.tmod (wrap64 ((wrap64 (bt294.1 * 256)) + bt297.1)) a1, bt297.2.1, bt297.2.2)))) else (if a1 = 0 then (none) else (some (Int.tmod bt294.1 a1, bt294.2.1, bt294.2.2)))))) = some (r1, r2, r3) := h
 clear h
 by_cases c3 : a1 ≤ 1
 ·rw [if_pos c3] at H
  have c3b0 : decide (a1 ≤ 1) = true := decide_eq_true c3
  clear c3
  simp only [Option.some.injEq, Prod.mk.injEq] at H
  obtain ⟨rfl, rfl, rfl⟩ := H
  go_enter Try.func67, Try.ntmps67
  go_wp2
  go_ret
  exact ⟨by first | rfl | (simp [*, errW_none, errW_some] <;> rfl), by repeat (first | (with_reducible first | exact HI0.out | apply IsS94.alloc | apply IsS94.drewN | apply IsS94.drew | apply IsS94.set_1 | apply IsS94.set_2) | exact HI0.out), by repeat (first | (with_reducible first | exact HB.out | apply Ba | apply Bn | apply Bd | refine Bs ?_ (IsS94.ge HI0.out)) | exact HB.out), by repeat (first | (with_reducible first | exact HK.out | apply KeepBut.set_ | apply keep_drewN | apply keep_drew | apply keep_alloc) | exact HK.out)⟩
 ·rw [if_neg c3] at H
  have c3b0 : decide (a1 ≤ 1) = false := decide_eq_false c3
  clear c3
  replace H := Option.bind_eq_some_iff.mp H
  obtain ⟨⟨t294, t295, t296⟩, A40, H⟩ := H
  replace H : (if a1 > 200 then ((spec_l1Cur_next.f s0_0 t295 t296).bind fun bt297 => (if a1 = 0 then (none) else (some (Int.tmod (wrap64 ((wrap64 (t294 * 256)) + bt297.1)) a1, bt297.2.1, bt297.2.2)))) else (if a1 = 0 then (none) else (some (Int.tmod t294 a1, t295, t296)))) = some (r1, r2, r3) := H
  have A4 := Am A40
  clear A40
  by_cases c5 : a1 > 200
  ·rw [if_pos c5] at H
   have c5b0 : decide (200 < a1) = true := decide_eq_true c5
   clear c5
   replace H := Option.bind_eq_some_iff.mp H
   obtain ⟨⟨t297, t298, t299⟩, A60, H⟩ := H
   replace H : (if a1 = 0 then (none) else (some (Int.tmod (wrap64 ((wrap64 (t294 * 256)) + t297)) a1, t298, t299))) = some (r1, r2, r3) := H
   have A6 := Am A60
   clear A60
   by_cases c7 : a1 = 0
   ·rw [if_pos c7] at H
    exact absurd H (by simp)
   ·rw [if_neg c7] at H
    have c7b0 : (a1 == 0) = false := beq_eq_false_iff_ne.mpr c7
    have c7b1 : (a1 != 0) = true := bne_iff_ne.mpr c7
    simp only [Option.some.injEq, Prod.mk.injEq] at H
    obtain ⟨rfl, rfl, rfl⟩ := H
    go_enter Try.func67, Try.ntmps67
    go_wp2_with (first | ((refine Gc (f := 118) rfl ?_); refine goesL_ (some 9) rfl rfl Try.func118 (by kernel_rfl) rfl #[.pointer (some ⟨g, 0, none⟩)] rfl (by first | rfl | (simp only [List.map_toArray, List.map_cons, List.map_nil]; first | done | rfl)) ?_; (with_reducible refine (spec_l1Cur_next.calls g s0_0 s0_1 s0_2 t294 t295 t296 w0 _ ?side1 ?side2 A4.out).mono ?_); (case side1 => repeat (first | (with_reducible first | exact HI0.out | apply IsS94.alloc | apply IsS94.drewN | apply IsS94.drew | apply IsS94.set_1 | apply IsS94.set_2) | exact HI0.out)); (case side2 => repeat (first | (with_reducible first | exact HB.out | apply Ba | apply Bn | apply Bd | refine Bs ?_ (IsS94.ge HI0.out)) | exact HB.out)); rintro e w8 ⟨rfl, hi, hb, hk⟩; refine ⟨_, rfl, ?_⟩; have n0_ := Am (KeepBut.trans (by repeat (first | (with_reducible first | exact HK.out | apply KeepBut.set_ | apply keep_drewN | apply keep_drew | apply keep_alloc) | exact HK.out)) hk (.inl rfl)); have n1_ := Am (hb); have n2_ := Am (hi); clear HK; clear HB; clear HI0; have HK := n0_; have HB := n1_; have HI0 := n2_; clear n0_ n1_ n2_; (try clear hb); (try clear hb2); (try clear hk); (try clear hi)) | ((refine Gc (f := 118) rfl ?_); refine goesL_ (some 15) rfl rfl Try.func118 (by kernel_rfl) rfl #[.pointer (some ⟨g, 0, none⟩)] rfl (by first | rfl | (simp only [List.map_toArray, List.map_cons, List.map_nil]; first | done | rfl)) ?_; (with_reducible refine (spec_l1Cur_next.calls g s0_0 t295 t296 t297 t298 t299 w0 _ ?side1 ?side2 A6.out).mono ?_); (case side1 => repeat (first | (with_reducible first | exact HI0.out | apply IsS94.alloc | apply IsS94.drewN | apply IsS94.drew | apply IsS94.set_1 | apply IsS94.set_2) | exact HI0.out)); (case side2 => repeat (first | (with_reducible first | exact HB.out | apply Ba | apply Bn | apply Bd | refine Bs ?_ (IsS94.ge HI0.out)) | exact HB.out)); rintro e w9 ⟨rfl, hi, hb, hk⟩; refine ⟨_, rfl, ?_⟩; have n0_ := Am (KeepBut.trans (by repeat (first | (with_reducible first | exact HK.out | apply KeepBut.set_ | apply keep_drewN | apply keep_drew | apply keep_alloc) | exact HK.out)) hk (.inl rfl)); have n1_ := Am (hb); have n2_ := Am (hi); clear HK; clear HB; clear HI0; have HK := n0_; have HB := n1_; have HI0 := n2_; clear n0_ n1_ n2_; (try clear hb); (try clear hb2); (try clear hk); (try clear hi)))
    go_ret
    exact ⟨by first | rfl | (simp [*, errW_none, errW_some] <;> rfl), by repeat (first | (with_reducible first | exact HI0.out | apply IsS94.alloc | apply IsS94.drewN | apply IsS94.drew | apply IsS94.set_1 | apply IsS94.set_2) | exact HI0.out), by repeat (first | (with_reducible first | exact HB.out | apply Ba | apply Bn | apply Bd | refine Bs ?_ (IsS94.ge HI0.out)) | exact HB.out), by repeat (first | (with_reducible first | exact HK.out | apply KeepBut.set_ | apply keep_drewN | apply keep_drew | apply keep_alloc) | exact HK.out)⟩
  ·rw [if_neg c5] at H
   have c5b0 : decide (200 < a1) = false := decide_eq_false c5
   clear c5
   by_cases c10 : a1 = 0
   ·rw [if_pos c10] at H
    exact absurd H (by simp)
   ·rw [if_neg c10] at H
    have c10b0 : (a1 == 0) = false := beq_eq_false_iff_ne.mpr c10
    have c10b1 : (a1 != 0) = true := bne_iff_ne.mpr c10
    simp only [Option.some.injEq, Prod.mk.injEq] at H
    obtain ⟨rfl, rfl, rfl⟩ := H
    go_enter Try.func67, Try.ntmps67
    go_wp2_with (first | ((refine Gc (f := 118) rfl ?_); refine goesL_ (some 9) rfl rfl Try.func118 (by kernel_rfl) rfl #[.pointer (some ⟨g, 0, none⟩)] rfl (by first | rfl | (simp only [List.map_toArray, List.map_cons, List.map_nil]; first | done | rfl)) ?_; (with_reducible refine (spec_l1Cur_next.calls g s0_0 s0_1 s0_2 t294 t295 t296 w0 _ ?side1 ?side2 A4.out).mono ?_); (case side1 => repeat (first | (with_reducible first | exact HI0.out | apply IsS94.alloc | apply IsS94.drewN | apply IsS94.drew | apply IsS94.set_1 | apply IsS94.set_2) | exact HI0.out)); (case side2 => repeat (first | (with_reducible first | exact HB.out | apply Ba | apply Bn | apply Bd | refine Bs ?_ (IsS94.ge HI0.out)) | exact HB.out)); rintro e w11 ⟨rfl, hi, hb, hk⟩; refine ⟨_, rfl, ?_⟩; have n0_ := Am (KeepBut.trans (by repeat (first | (with_reducible first | exact HK.out | apply KeepBut.set_ | apply keep_drewN | apply keep_drew | apply keep_alloc) | exact HK.out)) hk (.inl rfl)); have n1_ := Am (hb); have n2_ := Am (hi); clear HK; clear HB; clear HI0; have HK := n0_; have HB := n1_; have HI0 := n2_; clear n0_ n1_ n2_; (try clear hb); (try clear hb2); (try clear hk); (try clear hi)))
    go_ret
    exact ⟨by first | rfl | (simp [*, errW_none, errW_some] <;> rfl), by repeat (first | (with_reducible first | exact HI0.out | apply IsS94.alloc | apply IsS94.drewN | apply IsS94.drew | apply IsS94.set_1 | apply IsS94.set_2) | exact HI0.out), by repeat (first | (with_reducible first | exact HB.out | apply Ba | apply Bn | apply Bd | refine Bs ?_ (IsS94.ge HI0.out)) | exact HB.out), by repeat (first | (with_reducible first | exact HK.out | apply KeepBut.set_ | apply keep_drewN | apply keep_drew | apply keep_alloc) | exact HK.out)⟩
def spec_l1Cur_one.f (s0_0 : List Int) (s0_1 : Int) (s0_2 : Int) (a1 : Int) : Option (Bool × Int × Int) := (spec_l1Cur_pick.f s0_0 s0_1 s0_2 a1).bind fun bt300 => (some ((bt300.1 == 0), bt300.2.1, bt300.2.2))
set_option maxHeartbeats 8000000 in
set_option maxRecDepth 100000 in
theorem spec_l1Cur_one.calls (g : Nat) (s0_0 : List Int) (s0_1 : Int) (s0_2 : Int) (a1 : Int) (r1 : Bool) (r2 : Int) (r3 : Int) (w0 w : World) (hI : IsS94 w0 w g s0_0 s0_1 s0_2) (hB : Below w0.heap.size w0 w) (h : spec_l1Cur_one.f s0_0 s0_1 s0_2 a1 = some (r1, r2, r3)) :
  Calls Try.prog 66 #[.pointer (some ⟨g, 0, none⟩), .int .i64 a1] w fun e w' => e = .returned (.bool r1) ∧ IsS94 w0 w' g s0_0 r2 r3 ∧ Below w0.heap.size w0 w' ∧ KeepBut w w' g none := by
 have HI0 := Am hI
 have HK := Am (KeepBut.refl w g none)
 have HL := Am hB.size
 clear hI
 have HW0 := Am hB.size
 have HB := Am hB
 clear hB
 have H : ((spec_l1Cur_pick.f s0_0 s0_1 s0_2 a1).bind fun bt300 => (some ((bt300.1 == 0), bt300.2.1, bt300.2.2))) = some (r1, r2, r3) := h
 clear h
 replace H := Option.bind_eq_some_iff.mp H
 obtain ⟨⟨t300, t301, t302⟩, A30, H⟩ := H
 replace H : (some ((t300 == 0), t301, t302)) = some (r1, r2, r3) := H
 have A3 := Am A30
 clear A30
 simp only [Option.some.injEq, Prod.mk.injEq] at H
 obtain ⟨rfl, rfl, rfl⟩ := H
 go_enter Try.func66, Try.ntmps66
 go_wp2_with (first | ((refine Gc (f := 67) rfl ?_); refine goesL_ (some 7) rfl rfl Try.func67 (by kernel_rfl) rfl #[.pointer (some ⟨g, 0, none⟩), .int .i64 a1] rfl (by first | rfl | (simp only [List.map_toArray, List.map_cons, List.map_nil]; first | done | rfl)) ?_; (with_reducible refine (spec_l1Cur_pick.calls g s0_0 s0_1 s0_2 a1 t300 t301 t302 w0 _ ?side1 ?side2 A3.out).mono ?_); (case side1 => repeat (first | (with_reducible first | exact HI0.out | apply IsS94.alloc | apply IsS94.drewN | apply IsS94.drew | apply IsS94.set_1 | apply IsS94.set_2) | exact HI0.out)); (case side2 => repeat (first | (with_reducible first | exact HB.out | apply Ba | apply Bn | apply Bd | refine Bs ?_ (IsS94.ge HI0.out)) | exact HB.out)); rintro e w4 ⟨rfl, hi, hb, hk⟩; refine ⟨_, rfl, ?_⟩; have n0_ := Am (KeepBut.trans (by repeat (first | (with_reducible first | exact HK.out | apply KeepBut.set_ | apply keep_drewN | apply keep_drew | apply keep_alloc) | exact HK.out)) hk (.inl rfl)); have n1_ := Am (hb); have n2_ := Am (hi); clear HK; clear HB; clear HI0; have HK := n0_; have HB := n1_; have HI0 := n2_; clear n0_ n1_ n2_; (try clear hb); (try clear hb2); (try clear hk); (try clear hi)))
 go_ret
 exact ⟨by first | rfl | (simp [*, errW_none, errW_some] <;> rfl), by repeat (first | (with_reducible first | exact HI0.out | apply IsS94.alloc | apply IsS94.drewN | apply IsS94.drew | apply IsS94.set_1 | apply IsS94.set_2) | exact HI0.out), by repeat (first | (with_reducible first | exact HB.out | apply Ba | apply Bn | apply Bd | refine Bs ?_ (IsS94.ge HI0.out)) | exact HB.out), by repeat (first | (with_reducible first | exact HK.out | apply KeepBut.set_ | apply keep_drewN | apply keep_drew | apply keep_alloc) | exact HK.out)⟩
theorem spec_l1Cur_graph.raise {W : World} {b b' e : Nat} {ok : Nat → Prop} {v : Value} {xs : List Int} (h : Kd.R (Kd.int .i64) e W b ok v xs) (hb : ∀ k, v.ownBlock = some k → b' ≤ k) : Kd.R (Kd.int .i64) e W b' ok v xs :=
 Kd.R_of_own (enc := Value.int .i64) (Kd.own_raise (Kd.own_of_R h) hb) h.1
theorem spec_l1Cur_graph.put {W w1 : World} {base i : Nat} {qs : List (Hd × List Int)} {h h' : Hd} {x x' : List Int} (hr : Kd.Rows (Kd.int .i64) 3 W base qs) (hi : qs[i]? = some (h, x)) (hk : Kept W w1 (fun k => some k = (hdV h).ownBlock)) (hb : base ≤ W.heap.size)
  (hy : (Kd.int .i64).R 3 w1 base (fun k => some k = (hdV h).ownBlock ∨ W.heap.size ≤ k) (hdV h') x') : Kd.Rows (Kd.int .i64) 3 w1 base (qs.set i (h', x')) := by
 obtain ⟨hil, hie⟩ := List.getElem?_eq_some_iff.1 hi
 have hfar : ∀ j p, qs[j]? = some p → j ≠ i → NeRow (hdV p.1) (hdV h) := fun j p hj hij => by
  obtain ⟨hjl, hje⟩ := List.getElem?_eq_some_iff.1 hj
  rcases Nat.lt_or_ge i j with hlt | hge
  ·have h1 := (List.pairwise_iff_getElem.1 hr.ne) i j hil hjl hlt
   rw [hje, hie] at h1
   exact ne_symm h1
  ·have h1 := (List.pairwise_iff_getElem.1 hr.ne) j i hjl hil (by omega)
   rw [hje, hie] at h1
   exact h1
 have hnew : ∀ j p, qs[j]? = some p → j ≠ i → NeRow (hdV p.1) (hdV h') := fun j p hj hij k hk1 hk2 => by
  rcases hy.1 k hk2 with he | hge
  ·exact hfar j p hj hij k hk1 he.symm
  ·have := Kd.R_lt (hr.row p (List.mem_iff_getElem?.2 ⟨j, hj⟩)) k hk1
   omega
 refine ⟨fun p hp => ?_, ?_⟩
 ·obtain ⟨j, hj⟩ := List.mem_iff_getElem?.1 hp
  rw [List.getElem?_set] at hj
  split at hj
  ·rename_i hij
   injection hj with hj
   subst hj
   exact Kd.R_mono hy (fun _ _ => trivial)
  ·rename_i hij
   refine Kd.R_mono (Kd.R_kept (Kd.R_tight rfl (hr.row p (List.mem_iff_getElem?.2 ⟨j, hj⟩))) hk (fun k hk1 hk2 => ?_)) (fun _ _ => trivial)
   exact hfar j p hj (fun e => hij e.symm) k hk1.symm hk2.symm
 ·rw [List.pairwise_iff_getElem]
  intro a b ha hb hab
  rw [List.length_set] at ha hb
  rw [List.getElem_set, List.getElem_set]
  split
  ·rename_i hia
   subst hia
   rw [if_neg (by omega)]
   exact ne_symm (hnew b _ (List.getElem?_eq_getElem hb) (by omega))
  ·rename_i hia
   split
   ·rename_i hib
    exact hnew a _ (List.getElem?_eq_getElem ha) (fun e => hia e.symm)
   ·exact (List.pairwise_iff_getElem.1 hr.ne) a b ha hb hab
theorem spec_l1Cur_graph.rowsKeep {W w1 : World} {base g : Nat} {ps : List (Hd × List Int)} (hr : Kd.Rows (Kd.int .i64) 3 W base ps) (hk : KeepBut W w1 g none) (hne : ∀ p ∈ ps, some g ≠ (hdV p.1).ownBlock) : Kd.Rows (Kd.int .i64) 3 w1 base ps :=
 ⟨fun p hp => Kd.R_mono (Kd.R_keep (Kd.R_tight rfl (hr.row p hp)) hk (fun k hk1 e => hne p hp (by rw [← e]; exact hk1))) (fun _ _ => trivial), hr.ne⟩
theorem spec_l1Cur_graph.hdAt {W : World} {base g n c i : Nat} {ok : Nat → Prop} {ps : List (Hd × List Int)} {h : Hd} {x : List Int} (hl : Kd.hd.R 23 W base ok (.slice (some ⟨g, 0, none⟩) n c) (ps.map (·.1))) (hi : ps[i]? = some (h, x)) : W.cell? ⟨g, i, none⟩ = some (hdV h) ∧ W.frozen? ⟨g, i, none⟩ = false := by
 obtain ⟨hil, _⟩ := List.getElem?_eq_some_iff.1 hi
 have hn := (Kd.R_reads' hl).1
 rw [List.length_map] at hn
 obtain ⟨h1, h2⟩ := Kd.R_celln ((none, 0, 0) : Hd) hl (i : Int) (by omega) (by omega)
 rw [Int.toNat_natCast] at h1 h2
 refine ⟨h1.trans ?_, h2⟩
 unfold rdOf
 rw [Int.toNat_natCast, List.getD_eq_getElem?_getD, List.getElem?_map, hi]
 rfl
theorem spec_l1Cur_graph.rows0 (W : World) (base : Nat) : ∀ N : Nat, Kd.Rows (Kd.int .i64) 3 W base (List.replicate N (((none, 0, 0) : Hd), ([] : List Int)))
 | N => ⟨fun p hp => by rw [(List.mem_replicate.1 hp).2]; exact Kd.R_nil _ _ _ _ _, List.pairwise_replicate.2 (.inr (fun k hk => by simp [hdV, Value.ownBlock] at hk))⟩
def spec_l1Cur_graph.n (l0 : List Int) (a s : Int) : Option (Int × Int × Int) := (spec_l1Cur_pick.f l0 a s 8).bind fun p => (spec_l1Cur_one.f l0 p.2.1 p.2.2 30).bind fun b => if b.1 = true then (spec_l1Cur_pick.f l0 b.2.1 b.2.2 2).bind fun t => some (wrap64 (40 + t.1), t.2.1, t.2.2) else some (p.1, b.2.1, b.2.2)
def spec_l1Cur_graph.i : Nat → List Int → Int → List Int → Int → Int → Int → Option (List Int × Int × Int)
 | 0, _, _, _, _, _, _ => none
 | k + 1, l0, n, x, m, a, s => if m > 0 then (spec_l1Cur_pick.f l0 a s n).bind fun t => (spec_l1Put.f k x t.1).bind fun y => if y.length ≤ 1000000 then spec_l1Cur_graph.i k l0 n y (wrap64 (m - 1)) t.2.1 t.2.2 else none else some (x, a, s)
def spec_l1Cur_graph.o (k : Nat) (l0 : List Int) (n : Int) : Nat → Int → Int → Option (List (List Int) × Int × Int)
 | 0, a, s => some ([], a, s)
 | d + 1, a, s => (spec_l1Cur_pick.f l0 a s 3).bind fun t => (spec_l1Cur_graph.i k l0 n [] t.1 t.2.1 t.2.2).bind fun q => (spec_l1Cur_graph.o k l0 n d q.2.1 q.2.2).map fun r => (q.1 :: r.1, r.2)
def spec_l1Cur_graph.z (l0 : List Int) (rows : List (List Int)) (n a s : Int) : Option (List (List Int) × Int × Int) := if n > 0 then (spec_l1Cur_one.f l0 a s 30).bind fun b => if b.1 = true then some (rows.set 0 [n], b.2.1, b.2.2) else some (rows, b.2.1, b.2.2) else some (rows, a, s)
def spec_l1Cur_graph.f (k : Nat) (l0 : List Int) (a s : Int) : Option (List (List Int) × Int × Int) := (spec_l1Cur_graph.n l0 a s).bind fun t => if 0 ≤ t.1 ∧ t.1 ≤ 1000 then (spec_l1Cur_graph.o k l0 t.1 t.1.toNat t.2.1 t.2.2).bind fun r => spec_l1Cur_graph.z l0 r.1 t.1 r.2.1 r.2.2 else none
theorem spec_l1Cur_graph.mono_i : ∀ k l0 n x m a s, LeO (spec_l1Cur_graph.i k l0 n x m a s) (spec_l1Cur_graph.i (k + 1) l0 n x m a s)
 | 0, _, _, _, _, _, _ => LeO.none _
 | k + 1, l0, n, x, m, a, s => by
  unfold spec_l1Cur_graph.i
  exact LeO.ite (LeO.bind (LeO.refl _) (fun t => LeO.bind (spec_l1Put.mono _ _ _) (fun y => LeO.ite (spec_l1Cur_graph.mono_i k _ _ _ _ _ _) (LeO.none _)))) (LeO.refl _)
theorem spec_l1Cur_graph.mono_o (k : Nat) (l0 : List Int) (n : Int) : ∀ d a s, LeO (spec_l1Cur_graph.o k l0 n d a s) (spec_l1Cur_graph.o (k + 1) l0 n d a s)
 | 0, _, _ => LeO.refl _
 | d + 1, a, s => by
  unfold spec_l1Cur_graph.o
  exact LeO.bind (LeO.refl _) (fun t => LeO.bind (spec_l1Cur_graph.mono_i _ _ _ _ _ _ _) (fun q => LeO.map _ (spec_l1Cur_graph.mono_o k l0 n d _ _)))
theorem spec_l1Cur_graph.mono : ∀ l0 a s k, LeO (spec_l1Cur_graph.f k l0 a s) (spec_l1Cur_graph.f (k + 1) l0 a s) := by
 intro l0 a s k
 unfold spec_l1Cur_graph.f
 exact LeO.bind (LeO.refl _) (fun _ => LeO.ite (LeO.bind (spec_l1Cur_graph.mono_o _ _ _ _ _ _) (fun _ => LeO.refl _)) (LeO.none _))
theorem spec_l1Cur_graph.o_len (k : Nat) (l0 : List Int) (n : Int) : ∀ d a s r, spec_l1Cur_graph.o k l0 n d a s = some r → r.1.length = d
 | 0, _, _, r, h => by cases h; rfl
 | d + 1, a, s, r, h => by
  unfold spec_l1Cur_graph.o at h
  obtain ⟨t, _, h⟩ := Option.bind_eq_some_iff.1 h
  obtain ⟨q, _, h⟩ := Option.bind_eq_some_iff.1 h
  obtain ⟨r2, h2, rfl⟩ := Option.map_eq_some_iff.1 h
  rw [List.length_cons, spec_l1Cur_graph.o_len k l0 n d _ _ r2 h2]
set_option maxHeartbeats 8000000 in
set_option maxRecDepth 100000 in
theorem spec_l1Cur_graph.calls (k : Nat) (g : Nat) (l0 : List Int) (a s : Int) (r1 : List (List Int)) (r2 r3 : Int) (w0 w : World) (hI : IsS94 w0 w g l0 a s) (hB : Below w0.heap.size w0 w) (h : spec_l1Cur_graph.f k l0 a s = some (r1, r2, r3)) :
  Calls Try.prog 62 #[.pointer (some ⟨g, 0, none⟩)] w fun e w' => ∃ v0_ : Value, e = .returned (v0_) ∧ Kd.S (Kd.slice 3 (Kd.int .i64)) 23 w' w.heap.size (fun _ => True) v0_ r1 ∧ IsS94 w0 w' g l0 r2 r3 ∧ Below w0.heap.size w0 w' ∧ KeepBut w w' g none := by
 have HI := Am hI
 have HB := Am hB
 have HK := Am (KeepBut.refl w g none)
 have HWS := Am hB.size
 clear hI hB
 unfold spec_l1Cur_graph.f at h
 obtain ⟨⟨n, a0, s0⟩, hn, h⟩ := Option.bind_eq_some_iff.1 h
 try dsimp only at h
 by_cases hn0 : 0 ≤ n ∧ n ≤ 1000
 case neg => rw [if_neg hn0] at h; cases h
 rw [if_pos hn0] at h
 obtain ⟨⟨rows, ra, rs⟩, ho, hz⟩ := Option.bind_eq_some_iff.1 h
 have HO := Am ho
 have HZ := Am hz
 have HRL : Ad (rows.length = n.toNat) := ⟨spec_l1Cur_graph.o_len _ _ _ _ _ _ _ ho⟩
 clear h ho hz
 unfold spec_l1Cur_graph.n at hn
 obtain ⟨⟨p1, a1, s1⟩, hp, hn⟩ := Option.bind_eq_some_iff.1 hn
 obtain ⟨⟨b1, a2, s2⟩, hb, hn⟩ := Option.bind_eq_some_iff.1 hn
 have HP := Am hp
 have HO1 := Am hb
 have HN := Am hn
 clear hp hb hn
 go_enter Try.func62, Try.ntmps62
 go_wp2_with fail
 refine (spec_l1Cur_pick.calls g l0 a s 8 p1 a1 s1 w0 w HI.out HB.out HP.out).mono ?_
 rintro e w1 ⟨rfl, hI, hB, hK⟩
 have HI1 := Am hI
 have HB1 := Am hB
 have HK1 := Am (KeepBut.trans HK.out hK (.inl rfl))
 clear hI hB hK HI HB HK
 go_wp2_with fail
 refine (spec_l1Cur_one.calls g l0 a1 s1 30 b1 a2 s2 w0 w1 HI1.out HB1.out HO1.out).mono ?_
 rintro e w2 ⟨rfl, hI, hB, hK⟩
 have HI2 := Am hI
 have HB2 := Am hB
 have HK2 := Am (KeepBut.trans HK1.out hK (.inl rfl))
 clear hI hB hK HI1 HB1 HK1
 go_upto_if 10 with (fail)
 go_cut [3] (fun v3 wc => v3 = .int .i64 n ∧ Ad (IsS94 w0 wc g l0 a0 s0) ∧ Ad (Below w0.heap.size w0 wc) ∧ Ad (KeepBut w wc g none))
 case first =>
  clear HO HZ HRL
  cases b1 with
  | false =>
   have h1 := HN.out
   try dsimp only at h1
   rw [if_neg (by simp)] at h1
   simp only [Option.some.injEq, Prod.mk.injEq] at h1
   obtain ⟨rfl, rfl, rfl⟩ := h1
   go_wp2
   go_meet
   case rel => exact ⟨rfl, HI2, HB2, HK2⟩
  | true =>
   have h1 := HN.out
   try dsimp only at h1
   rw [if_pos rfl] at h1
   obtain ⟨⟨q1, a3, s3⟩, hq, h1⟩ := Option.bind_eq_some_iff.1 h1
   simp only [Option.some.injEq, Prod.mk.injEq] at h1
   obtain ⟨rfl, rfl, rfl⟩ := h1
   have HQ := Am hq
   clear hq
   go_wp2_with fail
   refine (spec_l1Cur_pick.calls g l0 a2 s2 2 q1 a3 s3 w0 w2 HI2.out HB2.out HQ.out).mono ?_
   rintro e w3 ⟨rfl, hI, hB, hK⟩
   have HI3 := Am hI
   have HB3 := Am hB
   have HK3 := Am (KeepBut.trans HK2.out hK (.inl rfl))
   clear hI hB hK HI2 HB2 HK2
   go_wp2
   go_meet
   case rel => exact ⟨rfl, HI3, HB3, HK3⟩
 case rest =>
  obtain ⟨rfl, HI, HB, HK⟩ := hcut
  clear HI2 HB2 HK2 HN HP HO1
  obtain ⟨N, rfl⟩ : ∃ N : Nat, n = (N : Int) := ⟨n.toNat, by omega⟩
  have hNz := hn0.2
  have HO' : Ad (spec_l1Cur_graph.o k l0 (N : Int) N a0 s0 = some (rows, ra, rs)) := ⟨by have h1 := HO.out; rwa [Int.toNat_natCast] at h1⟩
  have HRL' : Ad (rows.length = N) := ⟨by have h1 := HRL.out; rwa [Int.toNat_natCast] at h1⟩
  clear HO HRL
  have hmk := print_make_of (P := Try.prog) 22 23 (.slice none 0 0) 24 Try.underlying22 info23 rfl (by decide) N (by omega)
  have h0N : (0 : Int) ≤ (N : Int) := by omega
  go_upto_region 5 with (fail)
  obtain ⟨g4, hg4⟩ : ∃ g4, g4 = wc.heap.size := ⟨_, rfl⟩
  refine letC (fun W_ => Below wc.heap.size wc W_ ∧ Kd.hd.R 23 W_ w.heap.size (fun _ => True) (.slice (some ⟨g4, 0, none⟩) N N) (List.replicate N ((none, 0, 0) : Hd))) ⟨Ba (Below.refl _ _) _, by rw [hg4]; exact Kd.R_of_own (enc := hdV) (own_made_of' wc w.heap.size 23 N HK.out.1 (by omega)) (fun _ _ => trivial)⟩ ?_
  rintro W0 ⟨hb, hh⟩
  have HIa := Am (IsS94.below HI.out hb)
  have HBa := Am (below_then HB.out HB.out.size hb)
  have HKa := Am (KeepBut.trans HK.out (KeepBut.of_below hb g none) (.inl rfl))
  have HLa : Ad (Kd.hd.R 23 W0 w.heap.size (fun _ => True) (.slice (some ⟨g4, 0, none⟩) N N) ((List.replicate N (((none, 0, 0) : Hd), ([] : List Int))).map (·.1))) := ⟨by rw [List.map_replicate]; exact hh⟩
  have HWa : Ad (Kd.Rows (Kd.int .i64) 3 W0 w.heap.size (List.replicate N (((none, 0, 0) : Hd), ([] : List Int)))) := ⟨spec_l1Cur_graph.rows0 _ _ _⟩
  rw [← hg4]
  clear hb hh HI HB HK hmk hg4
  go_wp2
  go_loopg [18] N (fun gg v18 wr => ∃ (i : Nat) (ps : List (Hd × List Int)) (a9 s9 : Int), i ≤ N ∧ N - i ≤ gg ∧ v18 = .int .i64 i ∧ ps.length = N ∧ Ad ((ps.map (·.2)).take i = rows.take i) ∧ Ad (ps.drop i = List.replicate (N - i) (((none, 0, 0) : Hd), ([] : List Int))) ∧ Ad (spec_l1Cur_graph.o k l0 (N : Int) (N - i) a9 s9 = some (rows.drop i, ra, rs)) ∧ Ad (Kd.Rows (Kd.int .i64) 3 wr w.heap.size ps) ∧ Ad (Kd.hd.R 23 wr w.heap.size (fun _ => True) (.slice (some ⟨g4, 0, none⟩) N N) (ps.map (·.1))) ∧ Ad (IsS94 w0 wr g l0 a9 s9) ∧ Ad (Below w0.heap.size w0 wr) ∧ Ad (KeepBut w wr g none))
  case atStart => exact ⟨0, _, a0, s0, Nat.zero_le _, by omega, by first | rfl | simp, by simp, ⟨rfl⟩, ⟨rfl⟩, HO', HWa, HLa, HIa, HBa, HKa⟩
  case round =>
   clear HO' HWa HLa HIa HBa HKa
   obtain ⟨i, ps, a9, s9, hi, hgg, rfl, hpl, HT, HD, HO, HW, HL, HI, HB, HK⟩ := hrel
   by_cases hlt : i < N
   ·have hltz : (i : Int) < (N : Int) := by omega
    have h0z : (0 : Int) ≤ (i : Int) := by omega
    obtain ⟨d, hd⟩ : ∃ d, N - i = d + 1 := ⟨N - i - 1, by omega⟩
    have h1 := HO.out
    rw [hd] at h1
    unfold spec_l1Cur_graph.o at h1
    obtain ⟨⟨m0, a1', s1'⟩, hm, h1⟩ := Option.bind_eq_some_iff.1 h1
    obtain ⟨⟨x1, a2', s2'⟩, hq, h1⟩ := Option.bind_eq_some_iff.1 h1
    obtain ⟨⟨rs1, ra', rs'⟩, ho, he⟩ := Option.map_eq_some_iff.1 h1
    simp only [Prod.mk.injEq] at he
    obtain ⟨he1, he2, he3⟩ := he
    try dsimp only at hm hq ho
    have hdr : rows.drop (i + 1) = rs1 := by rw [← List.drop_drop (i := 1) (j := i), ← he1]; rfl
    have hx1 : rows.take (i + 1) = rows.take i ++ [x1] := by
     have h2 : rows[i]? = some x1 := by
      have h3 : (rows.drop i)[0]? = some x1 := by rw [← he1]; rfl
      rw [List.getElem?_drop] at h3
      simpa using h3
     rw [List.take_add_one, h2]
     rfl
    have HO2 : Ad (spec_l1Cur_graph.o k l0 (N : Int) (N - (i + 1)) a2' s2' = some (rows.drop (i + 1), ra, rs)) := ⟨by rw [hdr, show N - (i + 1) = d by omega, ← he2, ← he3]; exact ho⟩
    have hpi : ps[i]? = some (((none, 0, 0) : Hd), ([] : List Int)) := by
     have h3 : (ps.drop i)[0]? = some (((none, 0, 0) : Hd), ([] : List Int)) := by rw [HD.out, hd]; rfl
     rw [List.getElem?_drop] at h3
     simpa using h3
    have hpd : ps.drop (i + 1) = List.replicate (N - (i + 1)) (((none, 0, 0) : Hd), ([] : List Int)) := by
     rw [← List.drop_drop (i := 1) (j := i), HD.out, hd, show N - (i + 1) = d by omega]
     rfl
    have HPD := Am hpd
    have HPI := Am hpi
    have HX1 := Am hx1
    have HM := Am hm
    have HQ := Am hq
    clear h1 hm hq ho he1 he2 he3 hdr hx1 hpd hpi HO HD
    go_wp2_with fail
    refine (spec_l1Cur_pick.calls g l0 a9 s9 3 m0 a1' s1' w0 wr HI.out HB.out HM.out).mono ?_
    rintro e w1 ⟨rfl, hI, hB, hKB⟩
    have HW1 := Am (spec_l1Cur_graph.rowsKeep HW.out hKB (fun p hp => IsS94.own_ne HI.out (HW.out.row p hp) (by decide)))
    have HL1 : Ad (Kd.hd.R 23 w1 w.heap.size (fun _ => True) (.slice (some ⟨g4, 0, none⟩) N N) (ps.map (·.1))) := ⟨Kd.R_mono (Kd.R_keep (IsS94.apart HI.out HL.out (by decide)) hKB (fun _ h => h.2)) (fun _ h => h.1)⟩
    have HI1 := Am hI
    have HB1 := Am hB
    have HK1 := Am (KeepBut.trans HK.out hKB (.inl rfl))
    clear hI hB hKB HI HB HK HW HL HM
    go_wp2
    go_loopg [6] k (fun kq v6 wr => ∃ (m : Int) (h : Hd) (x : List Int) (a s : Int), v6 = .int .i64 m ∧ Ad (kq ≤ k) ∧ Ad (spec_l1Cur_graph.i kq l0 (N : Int) x m a s = some (x1, a2', s2')) ∧ Ad (Kd.Rows (Kd.int .i64) 3 wr w.heap.size (ps.set i (h, x))) ∧ Ad (Kd.hd.R 23 wr w.heap.size (fun _ => True) (.slice (some ⟨g4, 0, none⟩) N N) ((ps.set i (h, x)).map (·.1))) ∧ Ad (IsS94 w0 wr g l0 a s) ∧ Ad (Below w0.heap.size w0 wr) ∧ Ad (KeepBut w wr g none))
    case atStart =>
     have hse : ps.set i (((none, 0, 0) : Hd), ([] : List Int)) = ps := by
      apply List.ext_getElem?
      intro j
      rw [List.getElem?_set]
      split
      ·rename_i hij
       subst hij
       rw [if_pos (by omega), HPI.out]
      ·rfl
     exact ⟨m0, ((none, 0, 0) : Hd), [], a1', s1', by first | rfl | simp, ⟨Nat.le_refl _⟩, HQ, ⟨by rw [hse]; exact HW1.out⟩, ⟨by rw [hse]; exact HL1.out⟩, HI1, HB1, HK1⟩
    case round =>
     clear HW1 HL1 HI1 HB1 HK1 HQ
     obtain ⟨m, h, x, a, s, rfl, HQK, HA, HW, HL, HI, HB, HK⟩ := hrel
     cases gk with
     | zero => exact absurd HA.out (by simp [spec_l1Cur_graph.i])
     | succ k1 =>
      have h1 := HA.out
      simp only [spec_l1Cur_graph.i] at h1
      by_cases hm0 : m > 0
      ·rw [if_pos hm0] at h1
       obtain ⟨⟨t1, ta, ts⟩, hp1, h1⟩ := Option.bind_eq_some_iff.1 h1
       obtain ⟨y, hy, h1⟩ := Option.bind_eq_some_iff.1 h1
       try dsimp only at hp1 hy h1
       by_cases hyl : y.length ≤ 1000000
       case neg => rw [if_neg hyl] at h1; cases h1
       rw [if_pos hyl] at h1
       have HPK := Am hp1
       have HPUT := Am hy
       have HN1 := Am h1
       clear h1 hp1 hy hyl HA
       obtain ⟨B, hl, cB⟩ := h
       have hpi : (ps.set i ((B, hl, cB), x))[i]? = some ((B, hl, cB), x) := by rw [List.getElem?_set_self (by omega)]
       have hRx := HW.out.row _ (List.mem_iff_getElem?.2 ⟨i, hpi⟩)
       obtain rfl : hl = x.length := (Kd.R_reads' hRx).1
       have hx : wr.cell? ⟨g4, i, none⟩ = some (.slice B x.length cB) := (spec_l1Cur_graph.hdAt HL.out hpi).1
       have HPI2 := Am hpi
       clear hpi hRx
       obtain ⟨qs, hqs⟩ : ∃ qs, qs = ps.set i ((B, x.length, cB), x) := ⟨_, rfl⟩
       rw [← hqs] at HW HL HPI2
       go_upto_region 11 with (fail)
       refine start_ (n := 12) (S := fun w' => w'.cell? ⟨g4, i, none⟩ = some (.slice B x.length cB)) (ds := [11]) #[false, false, false, false, false, false, false, false, false, false, false, false] (by kernel_rfl) rfl rfl hx (fun hHeld => ?_)
       have HW1 := Am (HW.out.below (below_drew (Below.refl _ _)))
       have HL1 := Am (Rd HL.out)
       have HI1 : Ad (IsS94 w0 wr.drew g l0 a s) := HI
       have HB1 := Am (Bd HB.out)
       have HK1 : Ad (KeepBut w wr.drew g none) := HK
       clear HW HL HI HB HK hx
       generalize wr.drew = w1 at HW1 HL1 HI1 HB1 HK1 hHeld ⊢
       refine pure_ (i := 0) (N := some 27) (v := ?_) (a' := ?_) #[true, false, false, false, false, false, false, false, false, false, false, false] rfl rfl (by kernel_rfl) (fun _ _ _ h => h) (Or.inl ⟨by rfl, ?_⟩) ?_ ?_
       rotate_left
       ·intro w'
        go_simp
        with_reducible rfl
       rotate_left
       ·simp only [Act.put, Lt, Lz, Ls, i64_w, i32_w]
        rfl
       refine pure_ (i := 1) (N := some 28) (v := ?_) (a' := ?_) #[true, true, false, false, false, false, false, false, false, false, false, false] rfl rfl (by kernel_rfl) (fun _ _ _ h => h) (Or.inl ⟨by rfl, ?_⟩) ?_ ?_
       rotate_left
       ·intro w'
        go_simp
        with_reducible rfl
       rotate_left
       ·simp only [Act.put, Lt, Lz, Ls, i64_w, i32_w]
        rfl
       refine pure_ (i := 2) (N := some 29) (v := ?_) (a' := ?_) #[true, true, true, false, false, false, false, false, false, false, false, false] rfl rfl (by kernel_rfl) (fun _ _ _ h => h) (Or.inl ⟨by rfl, ?_⟩) ?_ ?_
       rotate_left
       ·intro w'
        go_simp
        with_reducible rfl
       rotate_left
       ·simp only [Act.put, Lt, Lz, Ls, i64_w, i32_w]
        rfl
       refine pure_ (i := 3) (N := some 30) (v := ?_) (a' := ?_) #[true, true, true, true, false, false, false, false, false, false, false, false] rfl rfl (by kernel_rfl) (fun _ _ _ h => h) (Or.inl ⟨by rfl, ?_⟩) ?_ ?_
       rotate_left
       ·intro w'
        go_simp
        with_reducible rfl
       rotate_left
       ·simp only [Act.put, Lt, Lz, Ls, i64_w, i32_w]
        rfl
       refine pure_ (i := 6) (N := some 33) (v := ?_) (a' := ?_) #[true, true, true, true, false, false, true, false, false, false, false, false] rfl rfl (by kernel_rfl) (fun _ _ _ h => h) (Or.inl ⟨by rfl, ?_⟩) ?_ ?_
       rotate_left
       ·intro w'
        go_simp
        with_reducible rfl
       rotate_left
       ·simp only [Act.put, Lt, Lz, Ls, i64_w, i32_w]
        rfl
       refine pure_ (i := 7) (N := some 34) (v := ?_) (a' := ?_) #[true, true, true, true, false, false, true, true, false, false, false, false] rfl rfl (by kernel_rfl) (fun _ _ _ h => h) (Or.inl ⟨by rfl, ?_⟩) ?_ ?_
       rotate_left
       ·intro w'
        go_simp
        with_reducible rfl
       rotate_left
       ·simp only [Act.put, Lt, Lz, Ls, i64_w, i32_w]
        rfl
       refine pure_ (i := 4) (N := some 31) (v := ?_) (a' := ?_) #[true, true, true, true, true, false, true, true, false, false, false, false] rfl rfl (by kernel_rfl) (fun _ _ _ h => h) (Or.inl ⟨by rfl, ?_⟩) ?_ ?_
       rotate_left
       ·intro w'
        go_simp
        with_reducible rfl
       rotate_left
       ·simp only [Act.put, Lt, Lz, Ls, i64_w, i32_w]
        rfl
       refine take_ (i := 5) (N := some 32) (v := ?_) (a' := ?_) #[true, true, true, true, true, true, true, true, false, false, false, false] rfl rfl (by kernel_rfl) (fun _ _ _ h => h) (Or.inl ⟨by rfl, ?_⟩) hHeld ?_ ?_
       rotate_left
       ·intro w' s0
        go_simp
        with_reducible rfl
       rotate_left
       ·simp only [Act.put, Lt, Lz, Ls, i64_w, i32_w]
        rfl
       refine one_ (i := 8) (N := some 35) #[true, true, true, true, true, true, true, true, true, false, false, false] rfl rfl (by kernel_rfl) (by decide) (fun K hK => ?_)
       refine goes_ Try.func67 (by kernel_rfl) rfl #[.pointer (some ⟨g, 0, none⟩), .int .i64 (N : Int)] (by rfl) rfl rfl (by (try simp only [List.map_toArray, List.map_cons, List.map_nil]); first | done | rfl) ?_
       with_reducible refine (spec_l1Cur_pick.calls g l0 a s (N : Int) t1 ta ts w0 w1 HI1.out HB1.out HPK.out).mono ?_
       rintro e w2 ⟨rfl, hI, hB, hKB⟩
       refine ⟨_, rfl, ?_⟩
       have HI2 := Am hI
       have HB2 := Am hB
       have HK2 := Am (KeepBut.trans HK1.out hKB (.inl rfl))
       have HW2 := Am (spec_l1Cur_graph.rowsKeep HW1.out hKB (fun p hp => IsS94.own_ne HI1.out (HW1.out.row p hp) (by decide)))
       have HL2 : Ad (Kd.hd.R 23 w2 w.heap.size (fun _ => True) (.slice (some ⟨g4, 0, none⟩) N N) (qs.map (·.1))) := ⟨Kd.R_mono (Kd.R_keep (IsS94.apart HI1.out HL1.out (by decide)) hKB (fun _ h => h.2)) (fun _ h => h.1)⟩
       clear hI hB hKB HI1 HB1 HK1 HW1 HL1
       refine hK.out _ _ (spec_l1Cur_graph.hdAt HL2.out HPI2.out).1 (fun hHeld => ?_)
       clear hK K
       refine norm_ (a' := ?_) ?_ ?_
       rotate_left
       ·show Act.put _ (some 35) _ = _
        simp only [Act.put, Lt, Lz, Ls, i64_w, i32_w]
        rfl
       have HX2 := Am (HW2.out.row _ (List.mem_iff_getElem?.2 ⟨i, HPI2.out⟩))
       refine one_ (i := 9) (N := some 36) #[true, true, true, true, true, true, true, true, true, true, false, false] rfl rfl (by kernel_rfl) (by decide) (fun K hK => ?_)
       refine goes_ Try.func103 (by kernel_rfl) rfl #[.slice B x.length cB, .int .i64 t1] (by rfl) rfl rfl (by (try simp only [List.map_toArray, List.map_cons, List.map_nil]); first | done | rfl) ?_
       with_reducible refine (spec_l1Put.calls k1 (fun k_ => some k_ = (hdV (B, x.length, cB)).ownBlock) (.slice B x.length cB) x t1 y w0 w2 HB2.out (Kd.R_lower (Kd.R_tight rfl HX2.out) HWS.out) HPUT.out).mono ?_
       rintro e w3 ⟨v5, rfl, hR, hB, hKP⟩
       refine ⟨_, rfl, ?_⟩
       obtain ⟨A5, c5, e5⟩ := Kd.R_slice hR
       subst e5
       have hgw : ∀ k_, some k_ = (hdV (B, x.length, cB)).ownBlock → w.heap.size ≤ k_ := fun k_ hk_ => Kd.R_base HX2.out k_ hk_.symm
       have hsz := HK2.out.1
       have hR2 := spec_l1Cur_graph.raise (b' := w.heap.size) hR (fun k_ hk_ => by rcases hR.1 k_ hk_ with h1_ | h1_; exact hgw k_ h1_; omega)
       have HW3 := Am (spec_l1Cur_graph.put (h' := (A5, y.length, c5)) (x' := y) HW2.out HPI2.out hKP hsz hR2)
       have HL3 : Ad (Kd.hd.R 23 w3 w.heap.size (fun _ => True) (.slice (some ⟨g4, 0, none⟩) N N) (qs.map (·.1))) := ⟨Kd.R_mono (Kd.R_kept (Kd.R_apart' HL2.out (Kd.R_typed HX2.out) (by decide)) hKP (fun k_ h1_ h2_ => h1_.2 h2_)) (fun k_ h1_ => h1_.1)⟩
       have HI3 := Am (IsS94.kept HI2.out hKP (IsS94.own_ne HI2.out HX2.out (by decide)))
       have HB3 := Am hB
       have HK3 := Am (Kept.keep HK2.out hKP hgw)
       clear hR hB hKP hgw hsz hR2 HX2 HI2 HB2 HK2 HW2 HL2
       refine hK.out _ _ (spec_l1Cur_graph.hdAt HL3.out HPI2.out).1 (fun hHeld => ?_)
       clear hK K
       refine norm_ (a' := ?_) ?_ ?_
       rotate_left
       ·show Act.put _ (some 36) _ = _
        simp only [Act.put, Lt, Lz, Ls, i64_w, i32_w]
        rfl
       refine pure_ (i := 10) (N := some 37) (v := ?_) (a' := ?_) #[true, true, true, true, true, true, true, true, true, true, true, false] rfl rfl (by kernel_rfl) (fun _ _ _ h => h) (Or.inl ⟨by rfl, ?_⟩) ?_ ?_
       rotate_left
       ·intro w'
        go_simp
        with_reducible rfl
       rotate_left
       ·simp only [Act.put, Lt, Lz, Ls, i64_w, i32_w]
        rfl
       refine last_ (i := 11) (N := none) #[true, true, true, true, true, true, true, true, true, true, true, true] rfl rfl (by kernel_rfl) (by decide) (fun K hK => ?_)
       have hs15 : w3.cell? ⟨g4, i, none⟩ = some (.slice B x.length cB) := (spec_l1Cur_graph.hdAt HL3.out HPI2.out).1
       have hfs15 := (spec_l1Cur_graph.hdAt HL3.out HPI2.out).2
       refine skip_ (w1 := ?_) (by rfl) rfl ?_ ?_
       rotate_left
       ·go_simp
        rfl
       refine hK.out _ _ ?_
       clear hK K
       refine done_ (by kernel_rfl) ?_
       clear hs15 hfs15 hHeld
       have hg4 : w.heap.size ≤ g4 := Kd.R_base HL3.out g4 rfl
       have hws := HWS.out
       obtain ⟨cells4, hb4⟩ := Kd.R_typed HL3.out g4 rfl
       have HL4 : Ad (Kd.hd.R 23 (w3.setCell ⟨g4, i, none⟩ (.slice A5 y.length c5)) w.heap.size (fun _ => True) (.slice (some ⟨g4, 0, none⟩) N N) ((ps.set i ((A5, y.length, c5), y)).map (·.1))) := ⟨by
        have h1 := Kd.R_putn HL3.out (i : Int) (A5, y.length, c5)
        rw [Int.toNat_natCast] at h1
        rw [hqs, List.map_set, List.set_set] at h1
        rw [List.map_set]
        exact h1⟩
       have HW4 : Ad (Kd.Rows (Kd.int .i64) 3 (w3.setCell ⟨g4, i, none⟩ (.slice A5 y.length c5)) w.heap.size (ps.set i ((A5, y.length, c5), y))) := ⟨by
        have h1 := HW3.out.set_ hb4 (by decide) i (.slice A5 y.length c5)
        rw [hqs, List.set_set] at h1
        exact h1⟩
       have HI4 := Am (IsS94.far (p := ⟨g4, i, none⟩) HI3.out (IsS94.ne_blk HI3.out hb4 (by decide)) (.slice A5 y.length c5))
       have HB4 : Ad (Below w0.heap.size w0 (w3.setCell ⟨g4, i, none⟩ (.slice A5 y.length c5))) := ⟨Bs HB3.out (by omega)⟩
       have HK4 := Am (keep_far (p := ⟨g4, i, none⟩) HK3.out hg4 (.slice A5 y.length c5))
       clear HL3 HW3 HI3 HB3 HK3 hb4 hg4 hws HPI2
       go_wp2
       go_roundg k1
       case measure => omega
       case rel => exact ⟨wrap64 (m - 1), (A5, y.length, c5), y, ta, ts, by first | rfl | simp, ⟨by have := HQK.out; omega⟩, HN1, HW4, HL4, HI4, HB4, HK4⟩
      ·rw [if_neg hm0] at h1
       simp only [Option.some.injEq, Prod.mk.injEq] at h1
       obtain ⟨rfl, rfl, rfl⟩ := h1
       clear HA
       have HT2 : Ad (((ps.set i (h, x)).map (·.2)).take (i + 1) = rows.take (i + 1)) := ⟨by
        rw [HX1.out, ← HT.out, List.map_set, List.take_add_one, List.getElem?_set_self (by rw [List.length_map]; omega), List.take_set_of_le (Nat.le_refl _)]
        rfl⟩
       have HD2 : Ad ((ps.set i (h, x)).drop (i + 1) = List.replicate (N - (i + 1)) (((none, 0, 0) : Hd), ([] : List Int))) := ⟨by rw [List.drop_set_of_lt (by omega)]; exact HPD.out⟩
       go_wp2
       go_roundg (N - (i + 1))
       case measure => omega
       case rel => exact ⟨i + 1, ps.set i (h, x), a, s, by omega, by omega, by go_num, by rw [List.length_set]; exact hpl, HT2, HD2, HO2, HW, HL, HI, HB, HK⟩
   ·obtain rfl : i = N := by omega
    have hltz : ¬ (i : Int) < (i : Int) := by omega
    have hrows : ps.map (·.2) = rows := by
     have h1 := HT.out
     rw [List.take_of_length_le (by rw [List.length_map]; omega), List.take_of_length_le (by have := HRL'.out; omega)] at h1
     exact h1
    have hO := HO.out
    rw [Nat.sub_self] at hO
    simp only [spec_l1Cur_graph.o, Option.some.injEq, Prod.mk.injEq] at hO
    obtain ⟨_, rfl, rfl⟩ := hO
    subst hrows
    have HZ1 := HZ.out
    unfold spec_l1Cur_graph.z at HZ1
    clear HO HT HD HZ HRL'
    by_cases hN0 : (i : Int) > 0
    ·rw [if_pos hN0] at HZ1
     obtain ⟨⟨b, a3, s3⟩, hb1, hz⟩ := Option.bind_eq_some_iff.1 HZ1
     try dsimp only at hz
     have HON := Am hb1
     have hN0' : (0 : Int) < (i : Int) := hN0
     clear HZ1 hb1
     go_wp2_with fail
     refine (spec_l1Cur_one.calls g l0 a9 s9 30 b a3 s3 w0 wr HI.out HB.out HON.out).mono ?_
     rintro e w5 ⟨rfl, hI, hB, hKB⟩
     have HW5 := Am (spec_l1Cur_graph.rowsKeep HW.out hKB (fun p hp => IsS94.own_ne HI.out (HW.out.row p hp) (by decide)))
     have HL5 : Ad (Kd.hd.R 23 w5 w.heap.size (fun _ => True) (.slice (some ⟨g4, 0, none⟩) i i) (ps.map (·.1))) := ⟨Kd.R_mono (Kd.R_keep (IsS94.apart HI.out HL.out (by decide)) hKB (fun _ h => h.2)) (fun _ h => h.1)⟩
     have HI5 := Am hI
     have HB5 := Am hB
     have HK5 := Am (KeepBut.trans HK.out hKB (.inl rfl))
     clear hI hB hKB HI HB HK HW HL HON
     cases b with
     | false =>
      rw [if_neg (by simp)] at hz
      simp only [Option.some.injEq, Prod.mk.injEq] at hz
      obtain ⟨rfl, rfl, rfl⟩ := hz
      go_wp2
      go_ret
      exact ⟨_, rfl, Kd.rows_S HL5.out HW5.out rfl (by decide), HI5.out, HB5.out, HK5.out⟩
     | true =>
      rw [if_pos rfl] at hz
      simp only [Option.some.injEq, Prod.mk.injEq] at hz
      obtain ⟨rfl, rfl, rfl⟩ := hz
      obtain ⟨⟨h0, x0⟩, hp0⟩ : ∃ p, ps[0]? = some p := ⟨_, List.getElem?_eq_getElem (show 0 < ps.length by omega)⟩
      obtain ⟨hs0, hf0⟩ := spec_l1Cur_graph.hdAt HL5.out hp0
      have hg4 : w.heap.size ≤ g4 := Kd.R_base HL5.out g4 rfl
      have hlt4 : g4 < w5.heap.size := Kd.R_lt HL5.out g4 rfl
      have hws := HWS.out
      have hsz := HK5.out.1
      have hba : Below w5.heap.size w5 (w5.alloc (.cells #[.int .i64 (i : Int)] 3)) := Ba (Below.refl _ _) _
      have hs1 : (w5.alloc (.cells #[.int .i64 (i : Int)] 3)).cell? ⟨g4, 0, none⟩ = some (hdV h0) := (hba.cell (p := ⟨g4, 0, none⟩) hlt4).trans hs0
      have hL6 := Kd.R_below HL5.out hba
      have hf1 : (w5.alloc (.cells #[.int .i64 (i : Int)] 3)).frozen? ⟨g4, 0, none⟩ = false := (spec_l1Cur_graph.hdAt hL6 hp0).2
      obtain ⟨cells4, hb4⟩ := Kd.R_typed hL6 g4 rfl
      have hrow : Kd.R (Kd.int .i64) 3 (w5.alloc (.cells #[.int .i64 (i : Int)] 3)) w.heap.size (fun k => some k = (hdV h0).ownBlock ∨ w5.heap.size ≤ k) (hdV (some ⟨w5.heap.size, 0, none⟩, 1, 1)) [(i : Int)] := Kd.R_of_own (enc := Value.int .i64) (World.ownsRow_lit (base := w.heap.size) (e := 3) (size := 1) w5 #[.int .i64 (i : Int)] 1 hsz (by decide) rfl) (fun k hk => .inr (by have h1 : w5.heap.size = k := (by simpa [hdV, Value.ownBlock] using hk); omega))
      have hW6 := spec_l1Cur_graph.put (h' := (some ⟨w5.heap.size, 0, none⟩, 1, 1)) (x' := [(i : Int)]) HW5.out hp0 (⟨hba.size, fun k hk _ => hba.block k hk⟩ : Kept w5 (w5.alloc (.cells #[.int .i64 (i : Int)] 3)) (fun k => some k = (hdV h0).ownBlock)) hsz hrow
      have HW7 := Am (hW6.set_ hb4 (by decide) 0 (.slice (some ⟨w5.heap.size, 0, none⟩) 1 1))
      have HL7 : Ad (Kd.hd.R 23 ((w5.alloc (.cells #[.int .i64 (i : Int)] 3)).setCell ⟨g4, 0, none⟩ (.slice (some ⟨w5.heap.size, 0, none⟩) 1 1)) w.heap.size (fun _ => True) (.slice (some ⟨g4, 0, none⟩) i i) ((ps.set 0 ((some ⟨w5.heap.size, 0, none⟩, 1, 1), [(i : Int)])).map (·.1))) := ⟨by
       have h1 := Kd.R_putn hL6 (0 : Int) ((some ⟨w5.heap.size, 0, none⟩, 1, 1) : Hd)
       rw [List.map_set]
       exact h1⟩
      have HI7 := Am (IsS94.far (p := ⟨g4, 0, none⟩) (IsS94.alloc HI5.out (.cells #[.int .i64 (i : Int)] 3)) (IsS94.ne_blk (IsS94.alloc HI5.out (.cells #[.int .i64 (i : Int)] 3)) hb4 (by decide)) (.slice (some ⟨w5.heap.size, 0, none⟩) 1 1))
      have HB7 : Ad (Below w0.heap.size w0 ((w5.alloc (.cells #[.int .i64 (i : Int)] 3)).setCell ⟨g4, 0, none⟩ (.slice (some ⟨w5.heap.size, 0, none⟩) 1 1))) := ⟨Bs (Ba HB5.out _) (by omega)⟩
      have HK7 := Am (keep_far (p := ⟨g4, 0, none⟩) (keep_alloc HK5.out (.cells #[.int .i64 (i : Int)] 3)) hg4 (.slice (some ⟨w5.heap.size, 0, none⟩) 1 1))
      have hcomm : (w5.alloc (.cells #[.int .i64 (i : Int)] 3)).setCell ⟨g4, 0, none⟩ (.slice (some ⟨w5.heap.size, 0, none⟩) 1 1) = (w5.setCell ⟨g4, 0, none⟩ (.slice (some ⟨w5.heap.size, 0, none⟩) 1 1)).alloc (.cells #[.int .i64 (i : Int)] 3) := by
       first | rfl | (go_simp; done) | (go_simp; rfl)
      rw [hcomm] at HW7 HL7 HI7 HB7 HK7
      clear hba hL6 hb4 hrow hW6 HW5 HL5 HI5 HB5 HK5 hws hsz hcomm
      go_wp2
      go_ret
      refine ⟨_, rfl, ?_, HI7.out, HB7.out, HK7.out⟩
      have h1 := Kd.rows_S HL7.out HW7.out rfl (by decide)
      rw [List.map_set] at h1
      exact h1
    ·rw [if_neg hN0] at HZ1
     simp only [Option.some.injEq, Prod.mk.injEq] at HZ1
     obtain ⟨rfl, rfl, rfl⟩ := HZ1
     have hN0' : ¬ (0 : Int) < (i : Int) := hN0
     go_wp2
     go_ret
     exact ⟨_, rfl, Kd.rows_S HL.out HW.out rfl (by decide), HI.out, HB.out, HK.out⟩
end Go.Proofs.Ytpboalgecejoeaa.QFnOrders
