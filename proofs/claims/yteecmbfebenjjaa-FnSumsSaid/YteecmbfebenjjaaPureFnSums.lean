/- The law FnSums holds, for every input. -/
import Derived.Test.YteecmbfebenjjaaVFnSums
import Derived.Test.YteecmbfebenjjaaQFnSumsx12
namespace Go.Proofs.Yteecmbfebenjjaa.Pure
open Go.RowKit Go.Proofs.Yteecmbfebenjjaa.QFnSums Go.Proofs.YteecmbfebenjjaaW.PrintWords Go.Proofs.YteecmbfebenjjaaW.PrintLast Go.Proofs.YteecmbfebenjjaaW.PrintMore
set_option linter.unusedVariables false
set_option linter.unusedSimpArgs false

theorem wrap_next {i : Nat} {n : Nat} (h : i < n) (hn : n ≤ 9223372036854775807) : wrap64 ((i : Int) + 1) = ((i + 1 : Nat) : Int) := by
 unfold wrap64
 omega
theorem rd_nat (l : List Int) (i : Nat) : rd l (i : Int) = l.getD i 0 := by unfold rd; rw [Int.toNat_natCast]
theorem wrap_small {x : Int} (h0 : -9223372036854775808 ≤ x) (h1 : x ≤ 9223372036854775807) : wrap64 x = x := by unfold wrap64; omega
theorem Ev.const {α : Type} {o : Option α} {a : α} (h : o = some a) : Ev (fun _ => o) a := ⟨0, fun _ _ => h⟩
theorem Ev.map {α β : Type} {g : Nat → Option α} {a : α} (h : Ev g a) (f : α → β) : Ev (fun k => (g k).bind fun t => some (f t)) (f a) := by
 obtain ⟨K, h⟩ := h
 exact ⟨K, fun k hk => by show (g k).bind _ = _; rw [h k hk, Option.bind_some]⟩
theorem loop_any {α ρ : Type} (F : Nat → Int → Option ρ) (xs : List α) (d : α) (p : α → Bool) (hit miss : ρ)
  (hs : ∀ i, i < xs.length → (p (xs.getD i d) = true → Ev (fun k => F k (i : Int)) hit) ∧ (p (xs.getD i d) = false → ∀ r, Ev (fun k => F k ((i + 1 : Nat) : Int)) r → Ev (fun k => F k (i : Int)) r))
  (he : Mine.anyP p xs = false → Ev (fun k => F k (xs.length : Int)) miss) : Ev (fun k => F k 0) (if Mine.anyP p xs = true then hit else miss) := by
 have key : ∀ (n i : Nat), xs.length - i = n → i ≤ xs.length → Mine.anyP p (xs.take i) = false → Ev (fun k => F k (i : Int)) (if Mine.anyP p (xs.drop i) = true then hit else miss) := by
  intro n
  induction n with
  | zero =>
   intro i hn hi hb
   obtain rfl : i = xs.length := by omega
   rw [List.drop_eq_nil_of_le (Nat.le_refl _)]
   rw [List.take_of_length_le (Nat.le_refl _)] at hb
   simpa [Mine.anyP] using he hb
  | succ n ih =>
   intro i hn hi hb
   rw [Mine.drop_at xs d i (by omega), Mine.anyP_cons]
   cases hp : p (xs.getD i d) with
   | true => simpa using (hs i (by omega)).1 hp
   | false =>
    have hb' : Mine.anyP p (xs.take (i + 1)) = false := by
     have e : xs.take (i + 1) = xs.take i ++ [xs.getD i d] := by
      rw [List.take_add_one, List.getD_eq_getElem?_getD, List.getElem?_eq_getElem (show i < xs.length by omega)]; rfl
     rw [e]
     unfold Mine.anyP at hb ⊢
     rw [List.any_append, hb, List.any_cons, hp]
     rfl
    simpa using (hs i (by omega)).2 hp _ (ih (i + 1) (by omega) (by omega) hb')
 simpa using key xs.length 0 (by omega) (by omega) (by simp [Mine.anyP])
def scan {σ α ρ : Type} (step : α → σ → Sum σ ρ) (fin : σ → ρ) : List α → σ → ρ
 | [], s => fin s
 | x :: xs, s => match step x s with
  | .inl s' => scan step fin xs s'
  | .inr r => r
theorem loop_scan {σ α ρ : Type} (F : Nat → σ → Int → Option ρ) (xs : List α) (d : α) (step : α → σ → Sum σ ρ) (fin : σ → ρ) (P : Nat → σ → Prop)
  (hs : ∀ (i : Nat) (s : σ), i < xs.length → P i s → (∀ s', step (xs.getD i d) s = .inl s' → P (i + 1) s' ∧ ∀ r, Ev (fun k => F k s' ((i + 1 : Nat) : Int)) r → Ev (fun k => F k s (i : Int)) r) ∧ (∀ r, step (xs.getD i d) s = .inr r → Ev (fun k => F k s (i : Int)) r))
  (he : ∀ s, P xs.length s → Ev (fun k => F k s (xs.length : Int)) (fin s)) (s : σ) (h0 : P 0 s) : Ev (fun k => F k s 0) (scan step fin xs s) := by
 have key : ∀ (n i : Nat) (s : σ), xs.length - i = n → i ≤ xs.length → P i s → Ev (fun k => F k s (i : Int)) (scan step fin (xs.drop i) s) := by
  intro n
  induction n with
  | zero =>
   intro i s hn hi hp
   obtain rfl : i = xs.length := by omega
   rw [List.drop_eq_nil_of_le (Nat.le_refl _)]
   exact he s hp
  | succ n ih =>
   intro i s hn hi hp
   rw [Mine.drop_at xs d i (by omega), scan]
   cases hst : step (xs.getD i d) s with
   | inl s' => exact ((hs i s (by omega) hp).1 s' hst).2 _ (ih (i + 1) s' (by omega) (by omega) ((hs i s (by omega) hp).1 s' hst).1)
   | inr r => exact (hs i s (by omega) hp).2 r hst
 simpa using key xs.length 0 s (by omega) (by omega) h0

/-! what the cursor of the draws gives -/
theorem and255 (x : Int) : 0 ≤ wrap64 (Go.bits .and .u64 x 255) ∧ wrap64 (Go.bits .and .u64 x 255) ≤ 255 := by
 have h : ∃ n : Nat, n ≤ 255 ∧ Go.bits .and .u64 x 255 = (n : Int) := by
  refine ⟨(BitVec.ofInt 64 x &&& BitVec.ofInt 64 255).toNat, ?_, ?_⟩
  ·rw [BitVec.toNat_and]
   exact Nat.le_trans (Nat.and_le_right) (by decide)
  ·have hle : (BitVec.ofInt 64 x &&& BitVec.ofInt 64 255).toNat ≤ 255 := by
    rw [BitVec.toNat_and]; exact Nat.le_trans (Nat.and_le_right) (by decide)
   show IntKind.u64.wrap (((BitVec.ofInt 64 x &&& BitVec.ofInt 64 255).toNat : Nat) : Int) = _
   generalize (BitVec.ofInt 64 x &&& BitVec.ofInt 64 255).toNat = m at hle
   simp [IntKind.wrap, IntKind.min, IntKind.max, IntKind.signed, IntKind.bits]
   omega
 obtain ⟨n, hn, e⟩ := h
 rw [e]
 unfold wrap64
 omega
theorem u8s {l : List Int} (h : ∀ y ∈ l, (Lit.int .u8 y).wf = true) : ∀ y ∈ l, 0 ≤ y ∧ y ≤ 255 := by
 intro y hy
 have := h y hy
 simp [Lit.wf, IntKind.min, IntKind.max, IntKind.signed, IntKind.bits] at this
 omega
theorem rd_mem {l : List Int} {a : Int} (h0 : 0 ≤ a) (h : a < (l.length : Int)) : rd l a ∈ l := by
 unfold rd
 rw [List.getD_eq_getElem?_getD, List.getElem?_eq_getElem (show a.toNat < l.length by omega)]
 exact List.getElem_mem _
theorem next_ok (l : List Int) (a s : Int) (hu : ∀ y ∈ l, 0 ≤ y ∧ y ≤ 255) (h0 : 0 ≤ a) (h1 : a ≤ 4611686018427387904) : ∃ v s', spec_l1Cur_next.f l a s = some (v, a + 1, s') ∧ 0 ≤ v ∧ v ≤ 255 := by
 have hw : wrap64 (a + 1) = a + 1 := by unfold wrap64; omega
 unfold spec_l1Cur_next.f
 rw [hw]
 by_cases h : a < (l.length : Int)
 ·rw [if_pos h, if_pos h0, if_pos (by omega)]
  have := hu _ (rd_mem h0 h)
  exact ⟨_, _, rfl, by unfold wrap64; omega, by unfold wrap64; omega⟩
 ·rw [if_neg h, if_neg (by omega)]
  exact ⟨_, _, rfl, (and255 _).1, (and255 _).2⟩
theorem pick_ok (l : List Int) (a s n : Int) (hu : ∀ y ∈ l, 0 ≤ y ∧ y ≤ 255) (h0 : 0 ≤ a) (h1 : a ≤ 2305843009213693952) (hn : 1 ≤ n) (hn' : n ≤ 65536) : ∃ v a' s', spec_l1Cur_pick.f l a s n = some (v, a', s') ∧ 0 ≤ v ∧ v < n ∧ a ≤ a' ∧ a' ≤ a + 2 := by
 unfold spec_l1Cur_pick.f
 by_cases h : n ≤ 1
 ·rw [if_pos h]; exact ⟨0, a, s, rfl, by omega, by omega, by omega, by omega⟩
 rw [if_neg h]
 obtain ⟨v, s', e, hv, hv'⟩ := next_ok l a s hu h0 (by omega)
 rw [e, Option.bind_some]
 dsimp only
 by_cases h2 : n > 200
 ·rw [if_pos h2]
  obtain ⟨v2, s2, e2, hv2, hv2'⟩ := next_ok l (a + 1) s' hu (by omega) (by omega)
  rw [e2, Option.bind_some, if_neg (by omega)]
  have hw : wrap64 (wrap64 (v * 256) + v2) = v * 256 + v2 := by unfold wrap64; omega
  dsimp only
  rw [hw]
  exact ⟨_, _, _, rfl, Int.tmod_nonneg _ (by omega), Int.tmod_lt_of_pos _ (by omega), by omega, by omega⟩
 ·rw [if_neg h2, if_neg (by omega)]
  exact ⟨_, _, _, rfl, Int.tmod_nonneg _ hv, Int.tmod_lt_of_pos _ (by omega), by omega, by omega⟩

theorem among_ok (l : List Int) (a s : Int) (xs : List Int) (hu : ∀ y ∈ l, 0 ≤ y ∧ y ≤ 255) (h0 : 0 ≤ a) (h1 : a ≤ 2305843009213693952) (hn : 1 ≤ xs.length) (hn' : xs.length ≤ 65536) : ∃ v a' s', spec_l1Cur_among.f l a s xs = some (v, a', s') ∧ v ∈ xs ∧ a ≤ a' ∧ a' ≤ a + 2 := by
 unfold spec_l1Cur_among.f
 obtain ⟨v, a', s', e, hv, hv', ha, ha'⟩ := pick_ok l a s (xs.length : Int) hu h0 h1 (by omega) (by omega)
 rw [e, Option.bind_some]
 dsimp only
 rw [if_pos hv, if_pos hv']
 exact ⟨_, _, _, rfl, rd_mem hv hv', ha, ha'⟩

def goodS (c : S26) : Bool := Mine.goodCmdB c.f0 c.f1 c.f2 c.f3 c.f4
theorem rdC_nat (l : List S26) (i : Nat) : rd_T26 l (i : Int) = l.getD i z26 := by unfold rd_T26; rw [Int.toNat_natCast]
theorem getD_set_self {α : Type} (xs : List α) (i : Nat) (v d : α) (h : i < xs.length) : (xs.set i v).getD i d = v := by simp [List.getD_eq_getElem?_getD, h]
theorem getD_map {α β : Type} (f : α → β) (xs : List α) (i : Nat) (a : α) (b : β) (h : i < xs.length) : (xs.map f).getD i b = f (xs.getD i a) := by
 simp [List.getD_eq_getElem?_getD, h]

theorem one_ok (l : List Int) (a s n : Int) (hu : ∀ y ∈ l, 0 ≤ y ∧ y ≤ 255) (h0 : 0 ≤ a) (h1 : a ≤ 2305843009213693952) (hn : 1 ≤ n) (hn' : n ≤ 65536) : ∃ v a' s', spec_l1Cur_one.f l a s n = some (v, a', s') ∧ a ≤ a' ∧ a' ≤ a + 2 := by
 unfold spec_l1Cur_one.f
 obtain ⟨v, a', s', e, _, _, ha, ha'⟩ := pick_ok l a s n hu h0 h1 hn hn'
 rw [e, Option.bind_some]
 exact ⟨_, _, _, rfl, ha, ha'⟩
theorem cmd_ok (l : List Int) (a s : Int) (hu : ∀ y ∈ l, 0 ≤ y ∧ y ≤ 255) (h0 : 0 ≤ a) (h1 : a ≤ 1152921504606846976) : ∃ k i f t m a' s', spec_l1Cur_cmd.f l a s = some (k, i, f, t, m, a', s') ∧ Mine.goodCmdB k i f t m = true ∧ a ≤ a' ∧ a' ≤ a + 10 := by
 unfold spec_l1Cur_cmd.f
 obtain ⟨v1, a1, s1, e1, p1, q1, x1, y1⟩ := pick_ok l a s 9 hu h0 (by omega) (by omega) (by omega)
 rw [e1, Option.bind_some]
 obtain ⟨v2, a2, s2, e2, p2, q2, x2, y2⟩ := pick_ok l a1 s1 4 hu (by omega) (by omega) (by omega) (by omega)
 dsimp only
 rw [e2, Option.bind_some]
 obtain ⟨v3, a3, s3, e3, p3, q3, x3, y3⟩ := pick_ok l a2 s2 30 hu (by omega) (by omega) (by omega) (by omega)
 dsimp only
 rw [e3, Option.bind_some]
 obtain ⟨v4, a4, s4, e4, p4, q4, x4, y4⟩ := pick_ok l a3 s3 3 hu (by omega) (by omega) (by omega) (by omega)
 dsimp only
 rw [e4, Option.bind_some]
 obtain ⟨v5, a5, s5, e5, x5, y5⟩ := one_ok l a4 s4 4 hu (by omega) (by omega) (by omega) (by omega)
 dsimp only
 rw [e5, Option.bind_some]
 dsimp only
 have w1 : wrap64 (1 + v1) = 1 + v1 := by unfold wrap64; omega
 have w2 : wrap64 (1 + v3) = 1 + v3 := by unfold wrap64; omega
 have w3 : wrap64 (wrap64 (v2 + 1) + v4) = v2 + 1 + v4 := by unfold wrap64; omega
 rw [w1, w2, w3]
 have m0 : Int.tmod (v2 + 1 + v4) 4 = (v2 + 1 + v4) % 4 := Int.tmod_eq_emod_of_nonneg (by omega)
 rw [m0]
 cases v5 with
 | true => exact ⟨_, _, _, _, _, _, _, rfl, by unfold Mine.goodCmdB Mine.inB; simp; omega, by omega, by omega⟩
 | false => exact ⟨_, _, _, _, _, _, _, rfl, by unfold Mine.goodCmdB Mine.inB; simp; omega, by omega, by omega⟩
theorem anyCmd_ok (l : List Int) (a s : Int) (hu : ∀ y ∈ l, 0 ≤ y ∧ y ≤ 255) (h0 : 0 ≤ a) (h1 : a ≤ 1000000000000) : ∃ k i f t m a' s', spec_l1Cur_anyCmd.f l a s = some (k, i, f, t, m, a', s') ∧ a ≤ a' ∧ a' ≤ a + 20 := by
 unfold spec_l1Cur_anyCmd.f
 obtain ⟨k, i, f, t, m, a1, s1, e1, _, x1, y1⟩ := cmd_ok l a s hu h0 (by omega)
 rw [e1, Option.bind_some]
 obtain ⟨v2, a2, s2, e2, p2, q2, x2, y2⟩ := pick_ok l a1 s1 20 hu (by omega) (by omega) (by omega) (by omega)
 dsimp only
 rw [e2, Option.bind_some]
 dsimp only
 have am : ∀ xs : List Int, 1 ≤ xs.length → xs.length ≤ 65536 → ∃ v a' s', spec_l1Cur_among.f l a2 s2 xs = some (v, a', s') ∧ a2 ≤ a' ∧ a' ≤ a2 + 2 := fun xs hx hx' => by
  obtain ⟨v, a', s', e, _, ha, ha'⟩ := among_ok l a2 s2 xs hu (by omega) (by omega) hx hx'
  exact ⟨v, a', s', e, ha, ha'⟩
 split
 ·exact ⟨_, _, _, _, _, _, _, rfl, by first | omega | (dsimp only; omega), by first | omega | (dsimp only; omega)⟩
 split
 ·exact ⟨_, _, _, _, _, _, _, rfl, by first | omega | (dsimp only; omega), by first | omega | (dsimp only; omega)⟩
 split
 ·obtain ⟨v, a3, s3, e3, x3, y3⟩ := am [0, 999, 1000] (by decide) (by decide)
  rw [e3, Option.bind_some]; exact ⟨_, _, _, _, _, _, _, rfl, by first | omega | (dsimp only; omega), by first | omega | (dsimp only; omega)⟩
 split
 ·obtain ⟨v, a3, s3, e3, x3, y3⟩ := am [0, 1000, 1001] (by decide) (by decide)
  rw [e3, Option.bind_some]; exact ⟨_, _, _, _, _, _, _, rfl, by first | omega | (dsimp only; omega), by first | omega | (dsimp only; omega)⟩
 split
 ·obtain ⟨v, a3, s3, e3, x3, y3⟩ := am [-1, 4] (by decide) (by decide)
  rw [e3, Option.bind_some]; exact ⟨_, _, _, _, _, _, _, rfl, by first | omega | (dsimp only; omega), by first | omega | (dsimp only; omega)⟩
 split
 ·obtain ⟨v, a3, s3, e3, _, _, x3, y3⟩ := pick_ok l a2 s2 4 hu (by omega) (by omega) (by omega) (by omega)
  rw [e3, Option.bind_some]; exact ⟨_, _, _, _, _, _, _, rfl, by first | omega | (dsimp only; omega), by first | omega | (dsimp only; omega)⟩
 ·exact ⟨_, _, _, _, _, _, _, rfl, by first | omega | (dsimp only; omega), by first | omega | (dsimp only; omega)⟩

def putL : List Int → Int → List Int
 | [], n => [n]
 | x :: xs, n => if x < n then x :: putL xs n else if x = n then x :: xs else n :: x :: xs
theorem putL_length (n : Int) : ∀ l : List Int, (putL l n).length ≤ l.length + 1
 | [] => by simp [putL]
 | x :: xs => by
  have := putL_length n xs
  unfold putL
  split
  ·simp; omega
  ·split <;> simp

def touchL (k f t : Int) : List Int := if k = 1 then putL [f] t else if k = 2 then [f] else []
theorem touchL_length (k f t : Int) : (touchL k f t).length ≤ 2 := by
 unfold touchL
 split
 ·exact putL_length t [f]
 ·split <;> simp
theorem good_parts {k i f t a : Int} (h : Mine.goodCmdB k i f t a = true) : (k = 0 ∧ i = 0 ∧ f = 0 ∧ t = 0 ∧ a = 0) ∨ (k = 1 ∧ (1 ≤ i ∧ i ≤ 999) ∧ (0 ≤ f ∧ f ≤ 3) ∧ (0 ≤ t ∧ t ≤ 3) ∧ f ≠ t ∧ (1 ≤ a ∧ a ≤ 1000)) ∨ (k = 2 ∧ (1 ≤ i ∧ i ≤ 999) ∧ (0 ≤ f ∧ f ≤ 3) ∧ t = 0 ∧ a = 0) := by
 unfold Mine.goodCmdB at h
 by_cases h0 : k = 0
 ·rw [if_pos h0] at h; simp at h; exact .inl ⟨h0, h.1, h.2.1, h.2.2.1, h.2.2.2⟩
 ·rw [if_neg h0] at h
  by_cases h1 : k = 1
  ·rw [if_pos h1] at h
   simp only [Bool.and_eq_true, Mine.inB_iff, Bool.not_eq_true', beq_eq_false_iff_ne] at h
   exact .inr (.inl ⟨h1, h.1, h.2.1, h.2.2.1, h.2.2.2.1, h.2.2.2.2⟩)
  ·rw [if_neg h1] at h
   by_cases h2 : k = 2
   ·rw [if_pos h2] at h
    simp only [Bool.and_eq_true, Mine.inB_iff, beq_iff_eq] at h
    exact .inr (.inr ⟨h2, h.1, h.2.1, h.2.2.1, h.2.2.2⟩)
   ·rw [if_neg h2] at h; simp at h

def applyL (l : List Int) (k f t a : Int) : List Int × Int × Int :=
 if k = 2 then (l, 3, l.getD f.toNat 0)
 else if k = 1 then
  if l.getD f.toNat 0 < a then (l, 2, 0)
  else ((l.set f.toNat (wrap64 (l.getD f.toNat 0 - a))).set t.toNat (wrap64 ((l.set f.toNat (wrap64 (l.getD f.toNat 0 - a))).getD t.toNat 0 + a)), 1, 0)
 else (l, 0, 0)
theorem applyL_length (l : List Int) (k f t a : Int) : (applyL l k f t a).1.length = l.length := by
 unfold applyL
 split
 ·rfl
 ·split
  ·split <;> simp
  ·rfl

theorem l1Own_f (l : List Int) (h : l.length < 17592186044416) : spec_l1Own.f l = some l := by
 unfold spec_l1Own.f
 rw [Option.bind_some, if_pos (by simpa using h)]
 rfl

theorem specApply_f (l : List Int) (k i f t a : Int) (hl : l.length = 4) (h : Mine.goodCmdB k i f t a = true) : spec_l11Apply.f l k i f t a = some (applyL l k f t a) := by
 unfold spec_l11Apply.f applyL
 rw [l1Own_f l (by omega), Option.bind_some]
 rcases good_parts h with ⟨rfl, _, rfl, rfl, _⟩ | ⟨rfl, _, hf, ht, hne, _⟩ | ⟨rfl, _, hf, _⟩
 ·simp
 ·have hfl : f < (l.length : Int) := by omega
  have htl : t < (l.length : Int) := by omega
  simp only [if_neg (show ¬ (1 : Int) = 2 by omega), if_pos hf.1, if_pos hfl, if_pos (rfl : (1 : Int) = 1), if_pos ht.1, if_pos htl, Option.bind_some]
  unfold rd
  by_cases hlt : l.getD f.toNat 0 < a
  ·simp only [if_pos hlt, if_true]
  ·simp only [if_neg hlt, if_true]
 ·have hfl : f < (l.length : Int) := by omega
  simp only [if_pos (rfl : (2 : Int) = 2), if_pos hf.1, if_pos hfl, if_true]; rfl

theorem specNewSums_ev : Ev (fun k => spec_NewSums.f k) [100, 100, 100, 100] := Ev.of (fun k => spec_NewSums.mono k) (k := 100) (by decide +kernel)

theorem sums_l (l : List Int) (hu : ∀ y ∈ l, 0 ≤ y ∧ y ≤ 255) : ∀ (n : Nat) (x : List Int) (a s : Int), x.length = 4 → n ≤ 4 → 0 ≤ a → a + 20 * n ≤ 1000 → ∃ r a' s', Ev (fun k => spec_l1Cur_sums.l0 k x (n : Int) l a s) (r, a', s') ∧ r.length = 4 ∧ 0 ≤ a' ∧ a' ≤ 1100
 | 0, x, a, s, hx, _, h0, h1 => by
  obtain ⟨b, a1, s1, e1, x1, y1⟩ := one_ok l a s 20 hu h0 (by omega) (by omega) (by omega)
  cases b with
  | false =>
   refine ⟨x, a1, s1, Ev.step (f := fun _ => some _) (fun k => ?_) (Ev.now _), hx, by omega, by omega⟩
   simp only [spec_l1Cur_sums.l0]
   rw [if_neg (by omega), e1, Option.bind_some]
   rfl
  | true =>
   obtain ⟨v, a2, s2, e2, _, x2, y2⟩ := among_ok l a1 s1 [-1, 0, 400, 401] hu (by omega) (by omega) (by decide) (by decide)
   refine ⟨x.set 0 v, a2, s2, Ev.step (f := fun _ => some _) (fun k => ?_) (Ev.now _), by rw [List.length_set]; exact hx, by omega, by omega⟩
   simp only [spec_l1Cur_sums.l0]
   rw [if_neg (by omega), e1, Option.bind_some]
   dsimp only
   rw [if_pos rfl, e2, Option.bind_some, if_pos (by omega)]
   rfl
 | n + 1, x, a, s, hx, hn, h0, h1 => by
  obtain ⟨k, i, f, t, m, a1, s1, e1, hg, x1, y1⟩ := cmd_ok l a s hu h0 (by omega)
  obtain ⟨r, a', s', h, h2⟩ := sums_l l hu n (applyL x k f t m).1 a1 s1 (by rw [applyL_length]; exact hx) (by omega) (by omega) (by omega)
  refine ⟨r, a', s', Ev.step (fun K => ?_) h, h2⟩
  simp only [spec_l1Cur_sums.l0]
  rw [if_pos (by omega), e1, Option.bind_some]
  dsimp only
  rw [specApply_f x k i f t m hx hg, Option.bind_some, show wrap64 (((n + 1 : Nat) : Int) - 1) = (n : Int) by unfold wrap64; omega]
theorem sums_ok (l : List Int) (hu : ∀ y ∈ l, 0 ≤ y ∧ y ≤ 255) : ∃ r a' s', Ev (fun k => spec_l1Cur_sums.f k l 0 0) (r, a', s') ∧ r.length = 4 ∧ 0 ≤ a' ∧ a' ≤ 1100 := by
 obtain ⟨v, a1, s1, e1, p1, q1, x1, y1⟩ := pick_ok l 0 0 4 hu (by omega) (by omega) (by omega) (by omega)
 obtain ⟨r, a', s', h, h2⟩ := sums_l l hu v.toNat [100, 100, 100, 100] a1 s1 rfl (by omega) (by omega) (by omega)
 rw [Int.toNat_of_nonneg p1] at h
 refine ⟨r, a', s', ?_, h2⟩
 unfold spec_l1Cur_sums.f
 refine Ev.bind specNewSums_ev ?_
 simp only [e1, Option.bind_some]
 exact h
theorem drawSums_ok (l : List Int) (hu : ∀ y ∈ l, 0 ≤ y ∧ y ≤ 255) : ∃ r, Ev (fun k => spec_DrawGoodSums.f k l) r ∧ r.length = 4 := by
 obtain ⟨r, a', s', h, h2, _⟩ := sums_ok l hu
 exact ⟨r, Ev.map h (fun t => t.1), h2⟩
theorem drawApply_ok (l : List Int) (hu : ∀ y ∈ l, 0 ≤ y ∧ y ≤ 255) : ∃ r k i f t m, Ev (fun K => spec_DrawApplyCmd.f K l) (r, k, i, f, t, m) ∧ r.length = 4 := by
 obtain ⟨r, a', s', h, h2, h3, h4⟩ := sums_ok l hu
 obtain ⟨k, i, f, t, m, a1, s1, e1, x1, y1⟩ := anyCmd_ok l a' s' hu h3 (by omega)
 unfold spec_DrawApplyCmd.f
 by_cases hk : k = 1
 ·obtain ⟨b, a2, s2, e2, x2, y2⟩ := one_ok l a1 s1 3 hu (by omega) (by omega) (by omega) (by omega)
  cases b with
  | true =>
   obtain ⟨v, a3, s3, e3, _⟩ := pick_ok l a2 s2 90 hu (by omega) (by omega) (by omega) (by omega)
   refine ⟨r, k, i, f, t, wrap64 (80 + v), Ev.bind h ?_, h2⟩
   simp only [e1, Option.bind_some, if_pos hk, e2, e3, if_true]
   exact Ev.now _
  | false =>
   refine ⟨r, k, i, f, t, m, Ev.bind h ?_, h2⟩
   simp only [e1, Option.bind_some, if_pos hk, e2]
   exact Ev.now _
 ·refine ⟨r, k, i, f, t, m, Ev.bind h ?_, h2⟩
  simp only [e1, Option.bind_some, if_neg hk]
  exact Ev.now _

theorem cmdsE_ok (l : List Int) (a s : Int) (hu : ∀ y ∈ l, 0 ≤ y ∧ y ≤ 255) (h0 : 0 ≤ a) (h1 : a ≤ 1000000000) : ∃ c a' s', spec_l1Cur_cmds.e l a s = some (c, a', s') ∧ a ≤ a' ∧ a' ≤ a + 20 := by
 unfold spec_l1Cur_cmds.e
 obtain ⟨k, i, f, t, m, a1, s1, e1, _, x1, y1⟩ := cmd_ok l a s hu h0 (by omega)
 rw [e1, Option.bind_some]
 dsimp only
 by_cases hk : k = 1
 ·rw [if_pos hk]
  obtain ⟨b, a2, s2, e2, x2, y2⟩ := one_ok l a1 s1 3 hu (by omega) (by omega) (by omega) (by omega)
  rw [e2, Option.bind_some]
  cases b with
  | true =>
   obtain ⟨v, a3, s3, e3, _, _, x3, y3⟩ := pick_ok l a2 s2 90 hu (by omega) (by omega) (by omega) (by omega)
   dsimp only
   rw [if_pos rfl, e3, Option.bind_some]
   exact ⟨_, _, _, rfl, by first | omega | (dsimp only; omega), by first | omega | (dsimp only; omega)⟩
  | false => exact ⟨_, _, _, rfl, by first | omega | (dsimp only; omega), by first | omega | (dsimp only; omega)⟩
 ·rw [if_neg hk]
  exact ⟨_, _, _, rfl, by first | omega | (dsimp only; omega), by first | omega | (dsimp only; omega)⟩
theorem cmdsL_ok (l : List Int) (hu : ∀ y ∈ l, 0 ≤ y ∧ y ≤ 255) : ∀ (n : Nat) (out : List S26) (a s : Int), n ≤ 100 → out.length + n ≤ 100 → 0 ≤ a → a + 20 * n ≤ 100000 → ∃ r a' s', Ev (fun k => spec_l1Cur_cmds.l k l out (n : Int) a s) (r, a', s') ∧ r.length = out.length + n ∧ 0 ≤ a' ∧ a' ≤ 100000
 | 0, out, a, s, _, _, h0, h1 => ⟨out, a, s, Ev.step (f := fun _ => some _) (fun k => by simp only [spec_l1Cur_cmds.l]; rw [if_neg (by omega)]) (Ev.now _), rfl, h0, by omega⟩
 | n + 1, out, a, s, hn, ho, h0, h1 => by
  obtain ⟨c, a1, s1, e1, x1, y1⟩ := cmdsE_ok l a s hu h0 (by omega)
  obtain ⟨r, a', s', h, h2, h3⟩ := cmdsL_ok l hu n (out ++ [c]) a1 s1 (by omega) (by rw [List.length_append]; simp; omega) (by omega) (by omega)
  refine ⟨r, a', s', Ev.step (fun k => ?_) h, by rw [h2, List.length_append]; simp; omega, h3⟩
  simp only [spec_l1Cur_cmds.l]
  rw [if_pos (by omega), e1, Option.bind_some]
  dsimp only
  rw [if_pos (by omega), show wrap64 (((n + 1 : Nat) : Int) - 1) = (n : Int) by unfold wrap64; omega]
theorem cmds_ok (l : List Int) (hu : ∀ y ∈ l, 0 ≤ y ∧ y ≤ 255) (a s m : Int) (h0 : 0 ≤ a) (h1 : a ≤ 1000) (hm : 0 ≤ m) (hm' : m ≤ 20) : ∃ r a' s', Ev (fun k => spec_l1Cur_cmds.f k l a s m) (r, a', s') ∧ (r.length : Int) ≤ m ∧ 0 ≤ a' ∧ a' ≤ 200000 := by
 have hw : wrap64 (m + 1) = m + 1 := by unfold wrap64; omega
 obtain ⟨v, a1, s1, e1, p1, q1, x1, y1⟩ := pick_ok l a s (m + 1) hu (by omega) (by omega) (by omega) (by omega)
 obtain ⟨r, a2, s2, h, h2, h3, h4⟩ := cmdsL_ok l hu v.toNat [] a1 s1 (by omega) (by simp; omega) (by omega) (by omega)
 rw [Int.toNat_of_nonneg p1] at h
 rw [List.length_nil, Nat.zero_add] at h2
 obtain ⟨r', a', s', e, h5, h6, h7⟩ : ∃ r' a' s', spec_l1Cur_cmds.z l (r, a2, s2) = some (r', a', s') ∧ r'.length = r.length ∧ 0 ≤ a' ∧ a' ≤ 200000 := by
  unfold spec_l1Cur_cmds.z
  dsimp only
  by_cases hl : 0 < r.length
  ·rw [if_pos hl]
   obtain ⟨b, a3, s3, e3, x3, y3⟩ := one_ok l a2 s2 20 hu (by omega) (by omega) (by omega) (by omega)
   rw [e3, Option.bind_some]
   cases b with
   | true =>
    obtain ⟨k, i, f, t, m, a4, s4, e4, x4, y4⟩ := anyCmd_ok l a3 s3 hu (by omega) (by omega)
    dsimp only
    rw [if_pos rfl, e4, Option.bind_some]
    exact ⟨_, _, _, rfl, List.length_set, by first | omega | (dsimp only; omega), by first | omega | (dsimp only; omega)⟩
   | false => exact ⟨_, _, _, rfl, rfl, by first | omega | (dsimp only; omega), by first | omega | (dsimp only; omega)⟩
  ·rw [if_neg hl]
   exact ⟨_, _, _, rfl, rfl, by first | omega | (dsimp only; omega), by first | omega | (dsimp only; omega)⟩
 refine ⟨r', a', s', ?_, by omega, h6, h7⟩
 unfold spec_l1Cur_cmds.f
 rw [hw]
 simp only [e1, Option.bind_some]
 exact Ev.bind h (Ev.const e)

theorem l1In_f (a b c : Int) : spec_l1In.f a b c = some (Mine.inB b c a) := by
 unfold spec_l1In.f Mine.inB
 by_cases h : a ≥ b
 ·rw [if_pos h]; simp [show b ≤ a from h]
 ·rw [if_neg h]; simp [show ¬ b ≤ a from h]

def goodSumsB (l : List Int) : Bool := decide ((l.length : Int) = 4) && (!Mine.anyP (Mine.outB 0 400) l && (Mine.sumW wrap64 l == 400))
theorem specSums_l (xs : List Int) (hm : xs.length ≤ 9223372036854775807) : ∀ (d i : Nat) (a : Int), xs.length - i = d → Ev (fun k => spec_GoodSums.l0 k xs a xs (xs.length : Int) (i : Int)) (decide ((xs.length : Int) = 4) && (!Mine.anyP (Mine.outB 0 400) (xs.drop i) && ((xs.drop i).foldl (fun a x => wrap64 (a + x)) a == 400))) := by
 intro d
 induction d with
 | zero =>
  intro i a hd
  rw [List.drop_eq_nil_of_le (by omega)]
  refine Ev.step (f := fun _ => some _) (fun k => ?_) (Ev.now _)
  simp only [spec_GoodSums.l0]
  rw [if_neg (by omega)]
  by_cases h : (xs.length : Int) = 4
  ·rw [if_pos h, decide_eq_true h]; simp [Mine.anyP]
  ·rw [if_neg h, decide_eq_false h]; simp
 | succ d ih =>
  intro i a hd
  have hlt : i < xs.length := by omega
  rw [Mine.drop_at xs 0 i hlt, Mine.anyP_cons, List.foldl_cons]
  have body : ∀ k, spec_GoodSums.l0 (k + 1) xs a xs (xs.length : Int) (i : Int) = if Mine.inB 0 400 (xs.getD i 0) = true then spec_GoodSums.l0 k xs (wrap64 (a + xs.getD i 0)) xs (xs.length : Int) ((i + 1 : Nat) : Int) else some false := by
   intro k
   simp only [spec_GoodSums.l0]
   rw [if_pos (by omega), if_pos (by omega), if_pos (by omega), rd_nat, l1In_f, Option.bind_some, wrap_next hlt hm]
  cases hb : Mine.inB 0 400 (xs.getD i 0) with
  | true =>
   refine Ev.step (f := fun k => spec_GoodSums.l0 k xs (wrap64 (a + xs.getD i 0)) xs (xs.length : Int) ((i + 1 : Nat) : Int)) (fun k => by rw [body, if_pos hb]) ?_
   have : Mine.outB 0 400 (xs.getD i 0) = false := by unfold Mine.outB; rw [hb]; rfl
   rw [this, Bool.false_or]
   exact ih (i + 1) _ (by omega)
  | false =>
   refine Ev.step (f := fun _ => some false) (fun k => by rw [body, if_neg (by rw [hb]; simp)]) ?_
   have : Mine.outB 0 400 (xs.getD i 0) = true := by unfold Mine.outB; rw [hb]; rfl
   rw [this, Bool.true_or, Bool.not_true, Bool.false_and, Bool.and_false]
   exact Ev.now _
theorem specSums_ev (xs : List Int) (hm : xs.length ≤ 9223372036854775807) : Ev (fun k => spec_GoodSums.f k xs) (goodSumsB xs) := specSums_l xs hm _ 0 0 rfl

theorem total_l (xs : List Int) (hm : xs.length ≤ 9223372036854775807) : ∀ (d i : Nat) (a : Int), xs.length - i = d → Ev (fun k => impl_total.l0 k a xs (xs.length : Int) (i : Int)) ((xs.drop i).foldl (fun a x => wrap64 (a + x)) a) := by
 intro d
 induction d with
 | zero =>
  intro i a hd
  rw [List.drop_eq_nil_of_le (by omega)]
  exact Ev.step (f := fun _ => some a) (fun k => by simp only [impl_total.l0]; rw [if_neg (by omega)]) (Ev.now _)
 | succ d ih =>
  intro i a hd
  have hlt : i < xs.length := by omega
  rw [Mine.drop_at xs 0 i hlt, List.foldl_cons]
  refine Ev.step (f := fun k => impl_total.l0 k (wrap64 (a + xs.getD i 0)) xs (xs.length : Int) ((i + 1 : Nat) : Int)) (fun k => ?_) (ih (i + 1) _ (by omega))
  simp only [impl_total.l0]
  rw [if_pos (by omega), if_pos (by omega), if_pos (by omega), rd_nat, wrap_next hlt hm]
theorem total_ev (xs : List Int) (hm : xs.length ≤ 9223372036854775807) : Ev (fun k => impl_total.f k xs) (Mine.sumW wrap64 xs) := total_l xs hm _ 0 0 rfl

theorem implSums_ev (xs : List Int) (hm : xs.length ≤ 9223372036854775807) : Ev (fun k => impl_GoodSums.f k xs) (goodSumsB xs) := by
 unfold impl_GoodSums.f goodSumsB
 by_cases h : (xs.length : Int) = 4
 ·rw [decide_eq_true h, Bool.true_and]
  cases ha : Mine.anyP (Mine.outB 0 400) xs with
  | true => exact Ev.congr (f := fun _ => some false) (fun k => by rw [if_pos h, if_pos rfl]) (Ev.now _)
  | false =>
   refine Ev.congr (f := fun k => (impl_total.f k xs).bind fun t => some (t == 400)) (fun k => by rw [if_pos h, if_neg (by simp)]) ?_
   exact Ev.bind (total_ev xs hm) (Ev.now _)
 ·rw [decide_eq_false h, Bool.false_and]
  exact Ev.congr (f := fun _ => some false) (fun k => by rw [if_neg h]) (Ev.now _)

def common (x y : List Int) : Bool := Mine.anyP (fun k => Mine.anyP (fun z => z == k) y) x
def meetB (a b : List (List Int)) : Bool := !Mine.anyP (fun x => Mine.anyP (fun y => !common x y) b) a

theorem implTouches_f (k0 i f t a : Int) (h : Mine.goodCmdB k0 i f t a = true) : impl_touches.f k0 i f t a = some (touchL k0 f t) := by
 unfold impl_touches.f touchL
 rcases good_parts h with ⟨rfl, _⟩ | ⟨rfl, _, _, _, hne, _⟩ | ⟨rfl, _⟩
 ·simp
 ·simp only [if_true, putL]
  by_cases hlt : f < t
  ·rw [if_pos hlt]; simp only [Option.some.injEq, List.cons.injEq, and_true]; unfold mn mx; constructor <;> omega
  ·rw [if_neg hlt, if_neg hne]; simp only [Option.some.injEq, List.cons.injEq, and_true]; unfold mn mx; constructor <;> omega
 ·simp

def idxI (n : Int) : List Int → Int → Int
 | [], _ => -1
 | x :: xs, i => if n = x then i else idxI n xs (i + 1)
theorem index_l (xs : List Int) (n : Int) (hm : xs.length ≤ 9223372036854775807) : ∀ (d i : Nat), xs.length - i = d → Ev (fun k => slices_Index_int_int.l0 k xs n (xs.length : Int) (i : Int)) (idxI n (xs.drop i) i) := by
 intro d
 induction d with
 | zero => intro i hd; rw [List.drop_eq_nil_of_le (by omega)]; exact Ev.step (f := fun _ => some (-1)) (fun k => by simp only [slices_Index_int_int.l0]; rw [if_neg (by omega)]) (Ev.now _)
 | succ d ih =>
  intro i hd
  have hlt : i < xs.length := by omega
  rw [Mine.drop_at xs 0 i hlt, idxI]
  have body : ∀ k, slices_Index_int_int.l0 (k + 1) xs n (xs.length : Int) (i : Int) = if n = xs.getD i 0 then some (i : Int) else slices_Index_int_int.l0 k xs n (xs.length : Int) ((i + 1 : Nat) : Int) := by
   intro k
   simp only [slices_Index_int_int.l0]
   rw [if_pos (by omega), if_pos (by omega), if_pos (by omega), rd_nat, wrap_next hlt hm]
  by_cases h : n = xs.getD i 0
  ·rw [if_pos h]; exact Ev.step (f := fun _ => some (i : Int)) (fun k => by rw [body, if_pos h]) (Ev.now _)
  ·rw [if_neg h]; exact Ev.step (fun k => by rw [body, if_neg h]) (by simpa using ih (i + 1) (by omega))
theorem idxI_any (n : Int) : ∀ (xs : List Int) (i : Int), 0 ≤ i → decide (idxI n xs i ≥ 0) = Mine.anyP (fun x => x == n) xs
 | [], i, _ => by simp [idxI, Mine.anyP]
 | x :: xs, i, hi => by
  rw [idxI, Mine.anyP_cons]
  by_cases h : n = x
  ·rw [if_pos h]; simp [h, hi]
  ·rw [if_neg h, idxI_any n xs (i + 1) (by omega)]; simp [show ¬ x = n from fun e => h e.symm]
theorem index_ev (xs : List Int) (n : Int) (hm : xs.length ≤ 9223372036854775807) : Ev (fun k => slices_Index_int_int.f k xs n) (idxI n xs 0) := by
 simpa [slices_Index_int_int.f] using index_l xs n hm _ 0 rfl

theorem contains_ev (xs : List Int) (n : Int) (hm : xs.length ≤ 9223372036854775807) : Ev (fun k => slices_Contains_int_int.f k xs n) (Mine.anyP (fun x => x == n) xs) := by
 have h := Ev.map (index_ev xs n hm) (fun t => decide (t ≥ 0))
 rw [idxI_any n xs 0 (Int.le_refl 0)] at h
 exact h

theorem anyO_ev {α : Type} (p : Nat → α → Option Bool) : ∀ (xs : List α) (q : α → Bool), (∀ x ∈ xs, Ev (fun k => p k x) (q x)) → Ev (fun k => Mine.anyO (p k) xs) (Mine.anyP q xs)
 | [], q, _ => Ev.const rfl
 | x :: xs, q, h => by
  simp only [Mine.anyO]
  refine Ev.bind (h x (by simp)) ?_
  rw [Mine.anyP_cons]
  cases hq : q x with
  | true => simpa using Ev.now true
  | false => simpa using anyO_ev p xs q (fun y hy => h y (by simp [hy]))

theorem implInterfere_ev (k0 i f t a k1 i1 f1 t1 a1 : Int) (h : Mine.goodCmdB k0 i f t a = true) (h1 : Mine.goodCmdB k1 i1 f1 t1 a1 = true) : Ev (fun k => impl_interfere.f k k0 i f t a k1 i1 f1 t1 a1) (common (touchL k0 f t) (touchL k1 f1 t1)) := by
 unfold impl_interfere.f
 simp only [implTouches_f _ _ _ _ _ h, Option.bind_some]
 have hl1 := touchL_length k1 f1 t1
 refine Ev.map (?_ : Ev (fun k => impl_interfere_1_in_c.f k (touchL k0 f t) k1 i1 f1 t1 a1) _) (fun t => t)
 unfold impl_interfere_1_in_c.f common
 refine anyO_ev (fun k x => impl_interfere_1.f k x k1 i1 f1 t1 a1) (touchL k0 f t) _ (fun x _ => ?_)
 unfold impl_interfere_1.f
 simp only [implTouches_f _ _ _ _ _ h1, Option.bind_some]
 exact Ev.map (contains_ev (touchL k1 f1 t1) x (by omega)) (fun t => t)

theorem mem_putL (n x : Int) : ∀ l : List Int, x ∈ putL l n ↔ x ∈ l ∨ x = n
 | [] => by simp [putL]
 | y :: l => by
  rw [putL]
  split
  ·rw [List.mem_cons, mem_putL n x l, List.mem_cons, or_assoc]
  ·split
   ·rename_i h; subst h; rw [List.mem_cons]; exact ⟨fun h => Or.inl h, fun h => h.elim id (fun h => Or.inl h)⟩
   ·rw [List.mem_cons, List.mem_cons, or_comm]
theorem common_false {x y : List Int} (h : common x y = false) : ∀ a ∈ x, a ∉ y := by
 unfold common at h
 intro a ha hb
 have := Mine.anyP_false.1 h a ha
 rw [Mine.anyP_false] at this
 have := this a hb
 simp at this
theorem getD_set_ne {α : Type} (xs : List α) (i j : Nat) (v d : α) (h : i ≠ j) : (xs.set i v).getD j d = xs.getD j d := by
 rw [List.getD_eq_getElem?_getD, List.getD_eq_getElem?_getD, List.getElem?_set_ne h]
theorem touch_apart {k i f t a k1 i1 f1 t1 a1 : Int} (h : Mine.goodCmdB k i f t a = true) (h1 : Mine.goodCmdB k1 i1 f1 t1 a1 = true) (hc : common (touchL k f t) (touchL k1 f1 t1) = false) :
  ((k = 1 ∨ k = 2) → (k1 = 1 ∨ k1 = 2) → f.toNat ≠ f1.toNat) ∧ (k = 1 → (k1 = 1 ∨ k1 = 2) → t.toNat ≠ f1.toNat) ∧ ((k = 1 ∨ k = 2) → k1 = 1 → f.toNat ≠ t1.toNat) ∧ (k = 1 → k1 = 1 → t.toNat ≠ t1.toNat) := by
 have hap := common_false hc
 have hf : (k = 1 ∨ k = 2) → f ∈ touchL k f t := by
  rintro (h | h) <;> subst h <;> unfold touchL
  ·rw [if_pos rfl, mem_putL]; simp
  ·simp
 have ht : k = 1 → t ∈ touchL k f t := by
  intro h; subst h; unfold touchL; rw [if_pos rfl, mem_putL]; simp
 have hf1 : (k1 = 1 ∨ k1 = 2) → f1 ∈ touchL k1 f1 t1 := by
  rintro (h | h) <;> subst h <;> unfold touchL
  ·rw [if_pos rfl, mem_putL]; simp
  ·simp
 have ht1 : k1 = 1 → t1 ∈ touchL k1 f1 t1 := by
  intro h; subst h; unfold touchL; rw [if_pos rfl, mem_putL]; simp
 have b := good_parts h
 have b1 := good_parts h1
 refine ⟨fun x y e => ?_, fun x y e => ?_, fun x y e => ?_, fun x y e => ?_⟩
 ·exact hap _ (hf x) (by rw [show f = f1 by omega]; exact hf1 y)
 ·exact hap _ (ht x) (by rw [show t = f1 by omega]; exact hf1 y)
 ·exact hap _ (hf x) (by rw [show f = t1 by omega]; exact ht1 y)
 ·exact hap _ (ht x) (by rw [show t = t1 by omega]; exact ht1 y)
theorem getD_set_or {α : Type} (xs : List α) (i j : Nat) (v d : α) : (xs.set i v).getD j d = if i = j ∧ i < xs.length then v else xs.getD j d := by
 by_cases h : i = j
 ·subst h
  by_cases hl : i < xs.length
  ·rw [if_pos ⟨rfl, hl⟩, getD_set_self xs i v d hl]
  ·rw [if_neg (fun h => hl h.2), List.set_eq_of_length_le (by omega)]
 ·rw [if_neg (fun e => h e.1), getD_set_ne xs i j v d h]
def moveL (l : List Int) (F T : Nat) (a : Int) : List Int := (l.set F (wrap64 (l.getD F 0 - a))).set T (wrap64 (l.getD T 0 + a))
theorem applyL_move (l : List Int) (f t a : Int) (hne : f.toNat ≠ t.toNat) : applyL l 1 f t a = if l.getD f.toNat 0 < a then (l, 2, 0) else (moveL l f.toNat t.toNat a, 1, 0) := by
 unfold applyL moveL
 rw [if_neg (by omega), if_pos rfl, getD_set_ne _ _ _ _ _ hne]
theorem applyL_read (l : List Int) (f t a : Int) : applyL l 2 f t a = (l, 3, l.getD f.toNat 0) := by unfold applyL; rw [if_pos rfl]
theorem applyL_none (l : List Int) (f t a : Int) : applyL l 0 f t a = (l, 0, 0) := by unfold applyL; rw [if_neg (by omega), if_neg (by omega)]
theorem moveL_far (l : List Int) (F T j : Nat) (a : Int) (h1 : F ≠ j) (h2 : T ≠ j) : (moveL l F T a).getD j 0 = l.getD j 0 := by
 unfold moveL
 rw [getD_set_ne _ _ _ _ _ h2, getD_set_ne _ _ _ _ _ h1]
theorem moveL_comm (l : List Int) (F T F1 T1 : Nat) (a a1 : Int) (h1 : F ≠ F1) (h2 : T ≠ F1) (h3 : F ≠ T1) (h4 : T ≠ T1) : moveL (moveL l F T a) F1 T1 a1 = moveL (moveL l F1 T1 a1) F T a := by
 have e1 := moveL_far l F T F1 a h1 h2
 have e2 := moveL_far l F T T1 a h3 h4
 have e3 := moveL_far l F1 T1 F a1 h1.symm h3.symm
 have e4 := moveL_far l F1 T1 T a1 h2.symm h4.symm
 unfold moveL at *
 rw [e1, e2, e3, e4]
 generalize wrap64 (l.getD F1 0 - a1) = x
 generalize wrap64 (l.getD T1 0 + a1) = y
 generalize wrap64 (l.getD F 0 - a) = u
 generalize wrap64 (l.getD T 0 + a) = v
 rw [List.set_comm _ _ h2, List.set_comm _ _ h1, List.set_comm _ _ h4, List.set_comm _ _ h3]
theorem apply_comm (l : List Int) {k i f t a k1 i1 f1 t1 a1 : Int} (h : Mine.goodCmdB k i f t a = true) (h1 : Mine.goodCmdB k1 i1 f1 t1 a1 = true) (hc : common (touchL k f t) (touchL k1 f1 t1) = false) :
  (applyL (applyL l k f t a).1 k1 f1 t1 a1).2 = (applyL l k1 f1 t1 a1).2 ∧ (applyL (applyL l k1 f1 t1 a1).1 k f t a).2 = (applyL l k f t a).2 ∧ (applyL (applyL l k f t a).1 k1 f1 t1 a1).1 = (applyL (applyL l k1 f1 t1 a1).1 k f t a).1 := by
 obtain ⟨n1, n2, n3, n4⟩ := touch_apart h h1 hc
 rcases good_parts h with ⟨rfl, _⟩ | ⟨rfl, _, hf, ht, hft, _⟩ | ⟨rfl, _⟩
 ·simp only [applyL_none, and_self]
 ·have hne : f.toNat ≠ t.toNat := by omega
  rcases good_parts h1 with ⟨rfl, _⟩ | ⟨rfl, _, hf1, ht1, hft1, _⟩ | ⟨rfl, _⟩
  ·simp only [applyL_none, and_self]
  ·have m1 := n1 (Or.inl rfl) (Or.inl rfl)
   have m2 := n2 rfl (Or.inl rfl)
   have m3 := n3 (Or.inl rfl) rfl
   have m4 := n4 rfl rfl
   have hne1 : f1.toNat ≠ t1.toNat := by omega
   simp only [applyL_move _ _ _ _ hne, applyL_move _ _ _ _ hne1]
   by_cases c0 : l.getD f.toNat 0 < a
   ·by_cases c1 : l.getD f1.toNat 0 < a1
    ·simp only [if_pos c0, if_pos c1, and_self]
    ·simp only [if_pos c0, if_neg c1, moveL_far l _ _ _ a1 m1.symm m3.symm, and_self]
   ·by_cases c1 : l.getD f1.toNat 0 < a1
    ·simp only [if_neg c0, if_pos c1, moveL_far l _ _ _ a m1 m2, and_self]
    ·simp only [if_neg c0, if_neg c1, moveL_far l _ _ _ a m1 m2, moveL_far l _ _ _ a1 m1.symm m3.symm, moveL_comm l _ _ _ _ a a1 m1 m2 m3 m4, and_self]
  ·have m1 := n1 (Or.inl rfl) (Or.inr rfl)
   have m2 := n2 rfl (Or.inr rfl)
   simp only [applyL_move _ _ _ _ hne, applyL_read]
   by_cases c0 : l.getD f.toNat 0 < a
   ·simp only [if_pos c0, and_self]
   ·simp only [if_neg c0, moveL_far l _ _ _ a m1 m2, and_self]
 ·rcases good_parts h1 with ⟨rfl, _⟩ | ⟨rfl, _, hf1, ht1, hft1, _⟩ | ⟨rfl, _⟩
  ·simp only [applyL_none, and_self]
  ·have m1 := n1 (Or.inr rfl) (Or.inl rfl)
   have m3 := n3 (Or.inr rfl) rfl
   have hne1 : f1.toNat ≠ t1.toNat := by omega
   simp only [applyL_move _ _ _ _ hne1, applyL_read]
   by_cases c1 : l.getD f1.toNat 0 < a1
   ·simp only [if_pos c1, and_self]
   ·simp only [if_neg c1, moveL_far l _ _ _ a1 m1.symm m3.symm, and_self]
  ·simp only [applyL_read, and_self]
theorem apply_good (l : List Int) {k i f t a : Int} (hs : goodSumsB l = true) (h : Mine.goodCmdB k i f t a = true) : goodSumsB (applyL l k f t a).1 = true := by
 rcases good_parts h with ⟨rfl, _⟩ | ⟨rfl, _, hf, ht, hft, ha⟩ | ⟨rfl, _⟩
 ·rw [applyL_none]; exact hs
 ·rw [applyL_move _ _ _ _ (by omega)]
  by_cases c0 : l.getD f.toNat 0 < a
  ·rw [if_pos c0]; exact hs
  ·rw [if_neg c0]
   show goodSumsB (moveL l f.toNat t.toNat a) = true
   have hp := hs
   unfold goodSumsB at hp
   simp only [Bool.and_eq_true, decide_eq_true_eq, Bool.not_eq_true', beq_iff_eq, Mine.anyP_false] at hp
   obtain ⟨hl, hb, hsum⟩ := hp
   match l, hl with
   | [x0, x1, x2, x3], _ =>
    have b0 := Mine.outB_false.1 (hb x0 (by simp))
    have b1 := Mine.outB_false.1 (hb x1 (by simp))
    have b2 := Mine.outB_false.1 (hb x2 (by simp))
    have b3 := Mine.outB_false.1 (hb x3 (by simp))
    have hsum' : x0 + x1 + x2 + x3 = 400 := by
     simp only [Mine.sumW, List.foldl_cons, List.foldl_nil] at hsum
     unfold wrap64 at hsum
     omega
    clear hsum hs hb
    have key : ∀ y0 y1 y2 y3 : Int, 0 ≤ y0 → 0 ≤ y1 → 0 ≤ y2 → 0 ≤ y3 → y0 + y1 + y2 + y3 = 400 → goodSumsB [y0, y1, y2, y3] = true := fun y0 y1 y2 y3 c0 c1 c2 c3 c4 => by
     unfold goodSumsB
     simp only [Bool.and_eq_true, decide_eq_true_eq, Bool.not_eq_true', beq_iff_eq, Mine.anyP_false]
     refine ⟨by simp, fun y hy => ?_, ?_⟩
     ·rw [Mine.outB_false]
      simp only [List.mem_cons, List.not_mem_nil, or_false] at hy
      omega
     ·simp only [Mine.sumW, List.foldl_cons, List.foldl_nil]
      unfold wrap64
      omega
    obtain ⟨F, rfl⟩ := Int.eq_ofNat_of_zero_le hf.1
    obtain ⟨T, rfl⟩ := Int.eq_ofNat_of_zero_le ht.1
    simp only [Int.toNat_natCast] at *
    have hF : F = 0 ∨ F = 1 ∨ F = 2 ∨ F = 3 := by omega
    have hT : T = 0 ∨ T = 1 ∨ T = 2 ∨ T = 3 := by omega
    rcases hF with rfl | rfl | rfl | rfl <;> rcases hT with rfl | rfl | rfl | rfl <;> first | exact absurd rfl hft | (simp [moveL] at c0 ⊢; refine key _ _ _ _ ?_ ?_ ?_ ?_ ?_ <;> (try unfold wrap64) <;> omega)
 ·rw [applyL_read]; exact hs

theorem implApply_f (l : List Int) (k i f t a : Int) (hl : l.length = 4) (h : Mine.goodCmdB k i f t a = true) : impl_apply.f l k i f t a = some ((applyL l k f t a).2.1, (applyL l k f t a).2.2, (applyL l k f t a).1) := by
 unfold impl_apply.f applyL
 rcases good_parts h with ⟨rfl, _, rfl, rfl, _⟩ | ⟨rfl, _, hf, ht, hne, _⟩ | ⟨rfl, _, hf, _⟩
 ·simp
 ·have hfl : f < (l.length : Int) := by omega
  have htl : t < (l.length : Int) := by omega
  simp only [if_neg (show ¬ (1 : Int) = 2 by omega), if_neg (show ¬ (1 : Int) = 0 by omega), if_pos hf.1, if_pos hfl, if_pos (rfl : (1 : Int) = 1), if_pos ht.1, if_pos htl, Option.bind_some]
  unfold rd
  by_cases hlt : l.getD f.toNat 0 < a
  ·simp only [if_pos hlt, if_true]
  ·simp only [if_neg hlt, if_true]
 ·have hfl : f < (l.length : Int) := by omega
  simp only [if_pos (rfl : (2 : Int) = 2), if_pos hf.1, if_pos hfl, if_true]; rfl

theorem l2Account_f (a : Int) : spec_l2Account.f a = some (Mine.inB 0 3 a) := by unfold spec_l2Account.f; rw [l1In_f, Option.bind_some]

theorem specGoodCmd (k i f t a : Int) : spec_GoodCmd.f k i f t a = some (Mine.goodCmdB k i f t a) := by
 unfold spec_GoodCmd.f spec_l2Code.f Mine.goodCmdB
 simp only [l1In_f, l2Account_f, Option.bind_some]
 by_cases h0 : k = 0
 ·simp [h0]
 ·rw [if_neg h0, if_neg h0]
  by_cases h1 : k = 1
  ·rw [if_pos h1, if_pos h1, if_pos h1]
   by_cases hft : f = t
   ·cases Mine.inB 1 999 i <;> cases Mine.inB 0 3 f <;> cases Mine.inB 0 3 t <;> simp [hft]
   ·cases Mine.inB 1 999 i <;> cases Mine.inB 0 3 f <;> cases Mine.inB 0 3 t <;> cases Mine.inB 1 1000 a <;> simp [hft]
  ·rw [if_neg h1, if_neg h1, if_neg h1]
   by_cases h2 : k = 2
   ·rw [if_pos h2, if_pos h2]
    by_cases ht : t = 0
    ·cases Mine.inB 1 999 i <;> cases Mine.inB 0 3 f <;> simp [ht]
    ·cases Mine.inB 1 999 i <;> cases Mine.inB 0 3 f <;> simp [ht]
   ·rw [if_neg h2, if_neg h2]

theorem within_f (a b c : Int) : impl_within.f a b c = some (Mine.inB b c a) := by
 unfold impl_within.f Mine.inB
 by_cases h : b ≤ a
 ·rw [if_pos h]; simp [h]
 ·rw [if_neg h]; simp [h]

theorem implGoodCmd (k i f t a : Int) : impl_GoodCmd.f k i f t a = some (Mine.goodCmdB k i f t a) := by
 unfold impl_GoodCmd.f impl_isAccount.f Mine.goodCmdB
 simp only [within_f, Option.bind_some]
 by_cases h0 : k = 0
 ·simp [h0]
 ·rw [if_neg h0, if_neg h0]
  by_cases h1 : k = 1
  ·rw [if_pos h1, if_pos h1]
   by_cases hft : f = t
   ·cases Mine.inB 1 999 i <;> cases Mine.inB 0 3 f <;> cases Mine.inB 0 3 t <;> simp [hft]
   ·cases Mine.inB 1 999 i <;> cases Mine.inB 0 3 f <;> cases Mine.inB 0 3 t <;> cases Mine.inB 1 1000 a <;> simp [hft]
  ·rw [if_neg h1, if_neg h1]
   by_cases h2 : k = 2
   ·rw [if_pos h2, if_pos h2]
    by_cases ht : t = 0
    ·cases Mine.inB 1 999 i <;> cases Mine.inB 0 3 f <;> simp [ht]
    ·cases Mine.inB 1 999 i <;> cases Mine.inB 0 3 f <;> simp [ht]
   ·rw [if_neg h2, if_neg h2]

def applyR (l : List Int) (k i f t a : Int) : List Int × Int × Int × Bool :=
 if goodSumsB l = true ∧ Mine.goodCmdB k i f t a = true then ((applyL l k f t a).1, (applyL l k f t a).2.1, (applyL l k f t a).2.2, true) else ([], 0, 0, false)
theorem goodSums_len {l : List Int} (h : goodSumsB l = true) : l.length = 4 := by
 unfold goodSumsB at h
 simp only [Bool.and_eq_true, decide_eq_true_eq] at h
 omega
theorem specApplyCmd_ev (l : List Int) (k0 i f t a : Int) (hm : l.length ≤ 9223372036854775807) : Ev (fun k => spec_ApplyCmd.f k l k0 i f t a) (applyR l k0 i f t a) := by
 unfold spec_ApplyCmd.f applyR
 refine Ev.bind (specSums_ev l hm) ?_
 cases hs : goodSumsB l with
 | false => simpa using Ev.now _
 | true =>
  simp only [if_true, specGoodCmd, Option.bind_some]
  cases hg : Mine.goodCmdB k0 i f t a with
  | false => simpa using Ev.now _
  | true => simp only [if_true, specApply_f l k0 i f t a (goodSums_len hs) hg, Option.bind_some, and_self]; exact Ev.now _
theorem implApplyCmd_ev (l : List Int) (k0 i f t a : Int) (hm : l.length ≤ 9223372036854775807) : Ev (fun k => impl_ApplyCmd.f k l k0 i f t a) (applyR l k0 i f t a) := by
 unfold impl_ApplyCmd.f applyR
 refine Ev.bind (implSums_ev l hm) ?_
 cases hs : goodSumsB l with
 | false =>
  simp only [Bool.false_eq_true, if_false, false_and]
  exact Ev.step (f := fun _ => some _) (fun k => by simp only [impl_ApplyCmd.j0]; rw [if_pos trivial]) (Ev.now _)
 | true =>
  simp only [if_true, implGoodCmd, Option.bind_some]
  cases hg : Mine.goodCmdB k0 i f t a with
  | false =>
   simp only [Bool.false_eq_true, and_false, if_false]
   exact Ev.step (f := fun _ => some _) (fun k => by simp only [impl_ApplyCmd.j0]; first | rfl | simp) (Ev.now _)
  | true =>
   have hl := goodSums_len hs
   simp only [and_self, if_true]
   refine Ev.step (f := fun _ => some _) (fun k => ?_) (Ev.now _)
   simp only [impl_ApplyCmd.j0]
   have hc : slices_Clone_int_int.f l = some l := by unfold slices_Clone_int_int.f; rw [if_pos (by omega)]
   rw [if_neg (by simp), hc, Option.bind_some, implApply_f l k0 i f t a hl hg, Option.bind_some]

def goodCmdsB (l : List S26) : Bool := if Mine.anyP (fun c => !goodS c) l = true then false else decide ((l.length : Int) ≤ 60)
theorem l11Cmds_ev (l : List S26) (hm : l.length ≤ 9223372036854775807) : Ev (fun k => spec_l11Cmds.f k l) (goodCmdsB l) := by
 unfold goodCmdsB spec_l11Cmds.f
 refine loop_any (fun k i => spec_l11Cmds.l0 k l l (l.length : Int) i) l z26 (fun c => !goodS c) false (decide ((l.length : Int) ≤ 60)) (fun i hi => ?_) (fun _ => Ev.step (f := fun _ => some _) (fun k => by simp only [spec_l11Cmds.l0]; rw [if_neg (by omega)]) (Ev.now _))
 have body : ∀ k, spec_l11Cmds.l0 (k + 1) l l (l.length : Int) (i : Int) = if goodS (l.getD i z26) = true then spec_l11Cmds.l0 k l l (l.length : Int) ((i + 1 : Nat) : Int) else some false := by
  intro k
  simp only [spec_l11Cmds.l0]
  rw [if_pos (by omega), if_pos (by omega), if_pos (by omega), rdC_nat, specGoodCmd, Option.bind_some, wrap_next hi hm]
  rfl
 refine ⟨fun hp => ?_, fun hp r hr => ?_⟩
 ·simp only [Bool.not_eq_true'] at hp
  exact Ev.step (f := fun _ => some false) (fun k => by rw [body, hp, if_neg (by simp)]) (Ev.now _)
 ·simp only [Bool.not_eq_false'] at hp
  exact Ev.step (fun k => by rw [body, hp, if_pos rfl]) hr
theorem goodCmds_parts {l : List S26} (h : goodCmdsB l = true) : l.length ≤ 60 ∧ ∀ c ∈ l, goodS c = true := by
 unfold goodCmdsB at h
 split at h
 ·cases h
 ·rename_i hn
  rw [decide_eq_true_eq] at h
  refine ⟨by omega, fun c hc => ?_⟩
  have := Mine.anyP_false.1 (Bool.eq_false_iff.2 hn) c hc
  simpa using this

def playL : List S26 → List Int → List S30 → List Int × List S30
 | [], s, t => (s, t)
 | c :: cs, s, t => playL cs (applyL s c.f0 c.f2 c.f3 c.f4).1 (t ++ [⟨(applyL s c.f0 c.f2 c.f3 c.f4).2.1, (applyL s c.f0 c.f2 c.f3 c.f4).2.2⟩])
theorem playL_len1 : ∀ (l : List S26) (s : List Int) (t : List S30), (playL l s t).1.length = s.length
 | [], _, _ => rfl
 | c :: cs, s, t => by rw [playL, playL_len1 cs]; exact applyL_length _ _ _ _ _
theorem playL_len2 : ∀ (l : List S26) (s : List Int) (t : List S30), (playL l s t).2.length = t.length + l.length
 | [], _, _ => rfl
 | c :: cs, s, t => by rw [playL, playL_len2 cs]; simp only [List.length_append, List.length_cons, List.length_nil]; omega
theorem specPlay_l (l : List S26) (hl : l.length ≤ 60) (hg : ∀ c ∈ l, goodS c = true) : ∀ (d i : Nat) (s : List Int) (t : List S30), l.length - i = d → s.length = 4 → t.length ≤ i → i ≤ l.length →
  Ev (fun k => spec_l11Play.l0 k s t l (l.length : Int) (i : Int)) (playL (l.drop i) s t) := by
 intro d
 induction d with
 | zero =>
  intro i s t hd hs ht hi
  rw [List.drop_eq_nil_of_le (by omega)]
  exact Ev.step (f := fun _ => some (s, t)) (fun k => by simp only [spec_l11Play.l0]; rw [if_neg (by omega)]) (Ev.now _)
 | succ d ih =>
  intro i s t hd hs ht hi
  have hlt : i < l.length := by omega
  have hm := hg _ (Mine.getD_mem l z26 i hlt)
  rw [Mine.drop_at l z26 i hlt, playL]
  refine Ev.step (fun k => ?_) (ih (i + 1) _ _ (by omega) (by rw [applyL_length]; exact hs) (by rw [List.length_append, List.length_singleton]; omega) (by omega))
  simp only [spec_l11Play.l0]
  rw [if_pos (by omega), if_pos (by omega), if_pos (by omega), rdC_nat, specApply_f _ _ _ _ _ _ hs hm, Option.bind_some, if_pos (by omega), wrap_next hlt (by omega)]
theorem specPlay_ev (l : List S26) (h : goodCmdsB l = true) : Ev (fun k => spec_l11Play.f k l) (playL l [100, 100, 100, 100] []) := by
 obtain ⟨hl, hg⟩ := goodCmds_parts h
 unfold spec_l11Play.f
 exact Ev.bind specNewSums_ev (by simpa using specPlay_l l hl hg _ 0 [100, 100, 100, 100] [] rfl rfl (by simp) (by omega))

theorem implGoodCmds_f (l : List S26) : impl_goodCmds.f l = some (goodCmdsB l) := by
 unfold impl_goodCmds.f impl_goodCmds_1_in_c.f goodCmdsB
 rw [Mine.anyO_total (q := fun c => !goodS c) (fun x _ => by unfold impl_goodCmds_1.f; rw [implGoodCmd, Option.bind_some]; rfl), Option.bind_some]
 by_cases h : (l.length : Int) ≤ 60
 ·rw [if_pos h, decide_eq_true h]
  cases Mine.anyP (fun c => !goodS c) l <;> simp
 ·rw [if_neg h, decide_eq_false h]
  cases Mine.anyP (fun c => !goodS c) l <;> simp

theorem implPlay_l (l : List S26) (hl : l.length ≤ 60) (hg : ∀ c ∈ l, goodS c = true) : ∀ (d i : Nat) (s : List Int) (t : List S30), l.length - i = d → s.length = 4 → t.length ≤ i → i ≤ l.length →
  Ev (fun k => impl_playCmds.l0 k s t l (l.length : Int) (i : Int)) (playL (l.drop i) s t) := by
 intro d
 induction d with
 | zero =>
  intro i s t hd hs ht hi
  rw [List.drop_eq_nil_of_le (by omega)]
  exact Ev.step (f := fun _ => some (s, t)) (fun k => by simp only [impl_playCmds.l0]; rw [if_neg (by omega)]) (Ev.now _)
 | succ d ih =>
  intro i s t hd hs ht hi
  have hlt : i < l.length := by omega
  have hm := hg _ (Mine.getD_mem l z26 i hlt)
  rw [Mine.drop_at l z26 i hlt, playL]
  refine Ev.step (fun k => ?_) (ih (i + 1) _ _ (by omega) (by rw [applyL_length]; exact hs) (by rw [List.length_append, List.length_singleton]; omega) (by omega))
  simp only [impl_playCmds.l0]
  rw [if_pos (by omega), if_pos (by omega), if_pos (by omega), rdC_nat, implApply_f _ _ _ _ _ _ hs hm, Option.bind_some, if_pos (by omega), wrap_next hlt (by omega)]
theorem implPlay_ev (l : List S26) (h : goodCmdsB l = true) : Ev (fun k => impl_playCmds.f k l) (playL l [100, 100, 100, 100] []) := by
 obtain ⟨hl, hg⟩ := goodCmds_parts h
 unfold impl_playCmds.f
 rw [show impl_NewSums.f = some [100, 100, 100, 100] from rfl]
 simp only [Option.bind_some]
 simpa using implPlay_l l hl hg _ 0 [100, 100, 100, 100] [] rfl rfl (by simp) (by omega)

def playR (l : List S26) : List Int × List S30 × Bool := if goodCmdsB l = true then ((playL l [100, 100, 100, 100] []).1, (playL l [100, 100, 100, 100] []).2, true) else ([], [], false)
theorem specPlayCmds_ev (l : List S26) (hm : l.length ≤ 9223372036854775807) : Ev (fun k => spec_PlayCmds.f k l) (playR l) := by
 unfold spec_PlayCmds.f playR
 refine Ev.bind (l11Cmds_ev l hm) ?_
 cases hg : goodCmdsB l with
 | false => simpa using Ev.now _
 | true => simp only [if_true]; exact Ev.map (specPlay_ev l hg) (fun bt => (bt.1, bt.2, true))
theorem implPlayCmds_ev (l : List S26) : Ev (fun k => impl_PlayCmds.f k l) (playR l) := by
 unfold impl_PlayCmds.f playR
 simp only [implGoodCmds_f, Option.bind_some]
 cases hg : goodCmdsB l with
 | false => simpa using Ev.now _
 | true => simp only [if_true]; exact Ev.map (implPlay_ev l hg) (fun bt => (bt.1, bt.2, true))
theorem playR_len (l : List S26) : (playR l).1.length ≤ 4 ∧ (playR l).2.1.length ≤ 60 := by
 unfold playR
 split
 ·rename_i h
  obtain ⟨hl, _⟩ := goodCmds_parts h
  exact ⟨by rw [playL_len1]; simp, by rw [playL_len2]; simpa using hl⟩
 ·simp

theorem sameTolds_l (xs : List S30) (hm : xs.length ≤ 9223372036854775807) : ∀ (d i : Nat), xs.length - i = d → Ev (fun k => laws_sameTolds.l0 k xs xs (xs.length : Int) (i : Int)) true := by
 intro d
 induction d with
 | zero => intro i hd; exact Ev.step (f := fun _ => some true) (fun k => by simp only [laws_sameTolds.l0]; rw [if_neg (by omega)]) (Ev.now _)
 | succ d ih =>
  intro i hd
  refine Ev.step (fun k => ?_) (ih (i + 1) (by omega))
  simp only [laws_sameTolds.l0]
  rw [if_pos (by omega), if_pos (by omega), if_pos (by omega), if_pos (by omega), wrap_next (n := xs.length) (by omega) hm]
  simp
theorem sameTolds_ev (xs : List S30) (hm : xs.length ≤ 9223372036854775807) : Ev (fun k => laws_sameTolds.f k xs xs) true := by
 unfold laws_sameTolds.f
 refine Ev.congr (fun k => by rw [if_pos rfl]) (by simpa using sameTolds_l xs hm _ 0 rfl)

theorem sameInts_l (xs : List Int) (hm : xs.length ≤ 9223372036854775807) : ∀ (d i : Nat), xs.length - i = d → Ev (fun k => laws_sameInts.l0 k xs xs (xs.length : Int) (i : Int)) true := by
 intro d
 induction d with
 | zero => intro i hd; exact Ev.step (f := fun _ => some true) (fun k => by simp only [laws_sameInts.l0]; rw [if_neg (by omega)]) (Ev.now _)
 | succ d ih =>
  intro i hd
  refine Ev.step (f := fun k => laws_sameInts.l0 k xs xs (xs.length : Int) ((i + 1 : Nat) : Int)) (fun k => ?_) (ih (i + 1) (by omega))
  simp only [laws_sameInts.l0]
  rw [if_pos (by omega), if_pos (by omega), if_pos (by omega), if_pos (by omega), if_pos trivial, wrap_next (n := xs.length) (by omega) hm]
theorem sameInts_ev (xs : List Int) (hm : xs.length ≤ 9223372036854775807) : Ev (fun k => laws_sameInts.f k xs xs) true := by
 refine Ev.congr (f := fun k => laws_sameInts.l0 k xs xs (xs.length : Int) ((0 : Nat) : Int)) (fun k => ?_) (sameInts_l xs hm _ 0 rfl)
 unfold laws_sameInts.f
 rw [if_pos rfl]
 rfl

def totalR (l : List Int) : Int × Bool := if goodSumsB l = true then (400, true) else (0, false)
theorem implTotal_ev (l : List Int) (hm : l.length ≤ 9223372036854775807) : Ev (fun k => impl_TotalOf.f k l) (totalR l) := by
 unfold impl_TotalOf.f totalR
 refine Ev.bind (implSums_ev l hm) ?_
 cases hg : goodSumsB l with
 | false => simpa using Ev.now _
 | true =>
  have h4 : Mine.sumW wrap64 l = 400 := by
   simp only [goodSumsB, Bool.and_eq_true, beq_iff_eq] at hg
   exact hg.2.2
  simp only [if_true]
  have := Ev.map (total_ev l hm) (fun t => (t, true))
  rw [h4] at this
  exact this
theorem specTotal_ev (l : List Int) (hm : l.length ≤ 9223372036854775807) : Ev (fun k => spec_TotalOf.f k l) (totalR l) := by
 unfold spec_TotalOf.f totalR
 refine Ev.bind (specSums_ev l hm) ?_
 cases hg : goodSumsB l with
 | false => simpa using Ev.now _
 | true => simpa using Ev.now _
def interR (k i f t a k1 i1 f1 t1 a1 : Int) : Bool × Bool := if Mine.goodCmdB k i f t a = true then if Mine.goodCmdB k1 i1 f1 t1 a1 = true then (common (touchL k f t) (touchL k1 f1 t1), true) else (false, false) else (false, false)
theorem implInter_ev (k0 i f t a k1 i1 f1 t1 a1 : Int) : Ev (fun k => impl_Interfere.f k k0 i f t a k1 i1 f1 t1 a1) (interR k0 i f t a k1 i1 f1 t1 a1) := by
 unfold impl_Interfere.f interR
 simp only [Option.bind_some, implGoodCmd]
 cases hg : Mine.goodCmdB k0 i f t a with
 | false => simpa using Ev.now _
 | true =>
  cases hg1 : Mine.goodCmdB k1 i1 f1 t1 a1 with
  | false => simpa using Ev.now _
  | true =>
   simp only [if_true]
   exact Ev.map (implInterfere_ev k0 i f t a k1 i1 f1 t1 a1 hg hg1) (fun t => (t, true))
theorem FnSums : laws_FnSums.Pure := by
 intro l0 l1 h0 h1
 have hu := u8s h0.2
 have hv := u8s h1.2
 unfold laws_FnSums.Facts
 by_cases hb : laws_big.f l0 l1 = some true
 ·exact Or.inl ⟨hb, trivial⟩
 refine Or.inr ⟨?_, ?_⟩
 ·unfold laws_big.f at hb ⊢
  split
  ·rename_i h; rw [if_pos h] at hb; exact absurd rfl hb
  ·rename_i h; rw [if_neg h] at hb
   cases hd : decide ((l1.length : Int) > wrap64 (1048576 - (l0.length : Int))) with
   | true => rw [hd] at hb; exact absurd rfl hb
   | false => rfl
 obtain ⟨r, k, i, f, t, m, hd, hrl⟩ := drawApply_ok l0 hu
 obtain ⟨p, _, _, hp, hpl, _⟩ := cmds_ok l1 hv 0 0 10 (by omega) (by omega) (by omega) (by omega)
 have hp' : Ev (fun K => spec_DrawPlayCmds.f K l1) p := Ev.map hp (fun t => t.1)
 obtain ⟨e, he, hel⟩ := drawSums_ok l1 hv
 have he' : Ev (fun K => spec_DrawTotalOf.f K l1) e := by
  unfold spec_DrawTotalOf.f
  first | exact he | exact Ev.map he (fun t => t)
 have P1 := implPlayCmds_ev p
 have P2 := specPlayCmds_ev p (by omega)
 obtain ⟨P3, P4⟩ := playR_len p
 generalize playR p = pr at P1 P2 P3 P4
 obtain ⟨ps, pt, pb⟩ := pr
 dsimp only at P3 P4
 have T1 := implTotal_ev e (by omega)
 have T2 := specTotal_ev e (by omega)
 generalize totalR e = tr at T1 T2
 obtain ⟨tn, tb⟩ := tr
 have S1 := sameInts_ev ps (by omega)
 have S2 := sameTolds_ev pt (by omega)
 have N1 : impl_NewSums.f = some [100, 100, 100, 100] := rfl
 have N3 := sameInts_ev [100, 100, 100, 100] (by decide)
 have A1 := implApplyCmd_ev r k i f t m (by omega)
 have A2 := specApplyCmd_ev r k i f t m (by omega)
 refine ⟨r, k, i, f, t, m, hd.rounds, ?_⟩
 by_cases hok : goodSumsB r = true ∧ Mine.goodCmdB k i f t m = true
 ·obtain ⟨hs, hg⟩ := hok
  have ha : applyR r k i f t m = ((applyL r k f t m).1, (applyL r k f t m).2.1, (applyL r k f t m).2.2, true) := by unfold applyR; rw [if_pos ⟨hs, hg⟩]
  rw [ha] at A1 A2
  have hs' := apply_good r hs hg
  have hl' : (applyL r k f t m).1.length = 4 := by rw [applyL_length]; exact hrl
  obtain ⟨q, k1, i1, f1, t1, m1, hd1, hql⟩ := drawApply_ok l1 hv
  have G1 := implSums_ev r (by omega)
  have G2 := specSums_ev r (by omega)
  have G3 := implSums_ev (applyL r k f t m).1 (by omega)
  have U1 := implTotal_ev r (by omega)
  have U2 := implTotal_ev (applyL r k f t m).1 (by omega)
  unfold totalR at U1 U2
  rw [hs] at G1 G2
  rw [hs'] at G3
  rw [if_pos hs] at U1
  rw [if_pos hs'] at U2
  have I1 := implInter_ev k i f t m k1 i1 f1 t1 m1
  refine Or.inl ⟨_, _, _, A1.rounds, A2.rounds, (sameInts_ev _ (by omega)).rounds, G1.rounds, G2.rounds, [100, 100, 100, 100], N1, specNewSums_ev.rounds, N3.rounds, q, k1, i1, f1, t1, m1, hd1.rounds, 400, U1.rounds, U2.rounds, G3.rounds, ?_⟩
  unfold interR at I1
  rw [if_pos hg] at I1
  by_cases hg1 : Mine.goodCmdB k1 i1 f1 t1 m1 = true
  ·rw [if_pos hg1] at I1
   cases hc : common (touchL k f t) (touchL k1 f1 t1) with
   | true =>
    rw [hc] at I1
    exact Or.inr (Or.inl ⟨I1.rounds, p, hp'.rounds, ps, pt, pb, P1.rounds, P2.rounds, e, he'.rounds, tn, tb, T1.rounds, T2.rounds, S1.rounds, S2.rounds, trivial⟩)
   | false =>
    rw [hc] at I1
    obtain ⟨c1, c2, c3⟩ := apply_comm r hg hg1 hc
    have hs1 := apply_good r hs hg1
    have B1 := implApplyCmd_ev (applyL r k f t m).1 k1 i1 f1 t1 m1 (by omega)
    have B2 := implApplyCmd_ev r k1 i1 f1 t1 m1 (by omega)
    have B3 := implApplyCmd_ev (applyL r k1 f1 t1 m1).1 k i f t m (by rw [applyL_length]; omega)
    unfold applyR at B1 B2 B3
    rw [if_pos ⟨hs', hg1⟩, c1] at B1
    rw [if_pos ⟨hs, hg1⟩] at B2
    rw [if_pos ⟨hs1, hg⟩, c2, ← c3] at B3
    refine Or.inl ⟨I1.rounds, _, _, _, B1.rounds, _, B2.rounds, B3.rounds, (sameInts_ev _ (by rw [applyL_length, applyL_length]; omega)).rounds, p, hp'.rounds, ps, pt, pb, P1.rounds, P2.rounds, e, he'.rounds, tn, tb, T1.rounds, T2.rounds, S1.rounds, S2.rounds, trivial⟩
  ·rw [if_neg hg1] at I1
   exact Or.inr (Or.inr ⟨I1.rounds, p, hp'.rounds, ps, pt, pb, P1.rounds, P2.rounds, e, he'.rounds, tn, tb, T1.rounds, T2.rounds, S1.rounds, S2.rounds, trivial⟩)
 ·have ha : applyR r k i f t m = ([], 0, 0, false) := by unfold applyR; rw [if_neg hok]
  rw [ha] at A1 A2
  exact Or.inr ⟨[], 0, 0, A1.rounds, A2.rounds, (sameInts_ev [] (by decide)).rounds, goodSumsB r, (implSums_ev r (by omega)).rounds, (specSums_ev r (by omega)).rounds, [100, 100, 100, 100], N1, specNewSums_ev.rounds, N3.rounds, p, hp'.rounds, ps, pt, pb, P1.rounds, P2.rounds, e, he'.rounds, tn, tb, T1.rounds, T2.rounds, S1.rounds, S2.rounds, trivial⟩

end Go.Proofs.Yteecmbfebenjjaa.Pure
