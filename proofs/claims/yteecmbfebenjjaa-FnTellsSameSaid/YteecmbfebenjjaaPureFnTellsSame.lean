/- The law FnTellsSame holds, for every input. -/
import Derived.Test.YteecmbfebenjjaaVFnTellsSame
import Derived.Test.YteecmbfebenjjaaQFnTellsSamex14
namespace Go.Proofs.Yteecmbfebenjjaa.Pure
open Go.RowKit Go.Proofs.Yteecmbfebenjjaa.QFnTellsSame Go.Proofs.YteecmbfebenjjaaW.PrintWords Go.Proofs.YteecmbfebenjjaaW.PrintLast Go.Proofs.YteecmbfebenjjaaW.PrintMore
set_option linter.unusedVariables false
set_option linter.unusedSimpArgs false

theorem wrap_next {i : Nat} {n : Nat} (h : i < n) (hn : n ≤ 9223372036854775807) : wrap64 ((i : Int) + 1) = ((i + 1 : Nat) : Int) := by
 unfold wrap64
 omega
theorem rd_nat (l : List Int) (i : Nat) : rd l (i : Int) = l.getD i 0 := by unfold rd; rw [Int.toNat_natCast]
theorem wrap_small {x : Int} (h0 : -9223372036854775808 ≤ x) (h1 : x ≤ 9223372036854775807) : wrap64 x = x := by unfold wrap64; omega
theorem Ev.const {α : Type} {o : Option α} {a : α} (h : o = some a) : Ev (fun _ => o) a := ⟨0, fun _ _ => h⟩
theorem Ev.map {α β : Type} {g : Nat → Option α} {a : α} (h : Ev g a) (f : α → β) : Ev (fun k => (g k).bind fun t => some (f t)) (f a) := by
 obtain ⟨K, h⟩ := h
 exact ⟨K, fun k hk => by show (g k).bind _ = _; rw [h k hk, Option.bind_some]⟩
theorem loop_any {α ρ : Type} (F : Nat → Int → Option ρ) (xs : List α) (d : α) (p : α → Bool) (hit miss : ρ)
  (hs : ∀ i, i < xs.length → (p (xs.getD i d) = true → Ev (fun k => F k (i : Int)) hit) ∧ (p (xs.getD i d) = false → ∀ r, Ev (fun k => F k ((i + 1 : Nat) : Int)) r → Ev (fun k => F k (i : Int)) r))
  (he : Mine.anyP p xs = false → Ev (fun k => F k (xs.length : Int)) miss) : Ev (fun k => F k 0) (if Mine.anyP p xs = true then hit else miss) := by
 have key : ∀ (n i : Nat), xs.length - i = n → i ≤ xs.length → Mine.anyP p (xs.take i) = false → Ev (fun k => F k (i : Int)) (if Mine.anyP p (xs.drop i) = true then hit else miss) := by
  intro n
  induction n with
  | zero =>
   intro i hn hi hb
   obtain rfl : i = xs.length := by omega
   rw [List.drop_eq_nil_of_le (Nat.le_refl _)]
   rw [List.take_of_length_le (Nat.le_refl _)] at hb
   simpa [Mine.anyP] using he hb
  | succ n ih =>
   intro i hn hi hb
   rw [Mine.drop_at xs d i (by omega), Mine.anyP_cons]
   cases hp : p (xs.getD i d) with
   | true => simpa using (hs i (by omega)).1 hp
   | false =>
    have hb' : Mine.anyP p (xs.take (i + 1)) = false := by
     have e : xs.take (i + 1) = xs.take i ++ [xs.getD i d] := by
      rw [List.take_add_one, List.getD_eq_getElem?_getD, List.getElem?_eq_getElem (show i < xs.length by omega)]; rfl
     rw [e]
     unfold Mine.anyP at hb ⊢
     rw [List.any_append, hb, List.any_cons, hp]
     rfl
    simpa using (hs i (by omega)).2 hp _ (ih (i + 1) (by omega) (by omega) hb')
 simpa using key xs.length 0 (by omega) (by omega) (by simp [Mine.anyP])
def scan {σ α ρ : Type} (step : α → σ → Sum σ ρ) (fin : σ → ρ) : List α → σ → ρ
 | [], s => fin s
 | x :: xs, s => match step x s with
  | .inl s' => scan step fin xs s'
  | .inr r => r
theorem loop_scan {σ α ρ : Type} (F : Nat → σ → Int → Option ρ) (xs : List α) (d : α) (step : α → σ → Sum σ ρ) (fin : σ → ρ) (P : Nat → σ → Prop)
  (hs : ∀ (i : Nat) (s : σ), i < xs.length → P i s → (∀ s', step (xs.getD i d) s = .inl s' → P (i + 1) s' ∧ ∀ r, Ev (fun k => F k s' ((i + 1 : Nat) : Int)) r → Ev (fun k => F k s (i : Int)) r) ∧ (∀ r, step (xs.getD i d) s = .inr r → Ev (fun k => F k s (i : Int)) r))
  (he : ∀ s, P xs.length s → Ev (fun k => F k s (xs.length : Int)) (fin s)) (s : σ) (h0 : P 0 s) : Ev (fun k => F k s 0) (scan step fin xs s) := by
 have key : ∀ (n i : Nat) (s : σ), xs.length - i = n → i ≤ xs.length → P i s → Ev (fun k => F k s (i : Int)) (scan step fin (xs.drop i) s) := by
  intro n
  induction n with
  | zero =>
   intro i s hn hi hp
   obtain rfl : i = xs.length := by omega
   rw [List.drop_eq_nil_of_le (Nat.le_refl _)]
   exact he s hp
  | succ n ih =>
   intro i s hn hi hp
   rw [Mine.drop_at xs d i (by omega), scan]
   cases hst : step (xs.getD i d) s with
   | inl s' => exact ((hs i s (by omega) hp).1 s' hst).2 _ (ih (i + 1) s' (by omega) (by omega) ((hs i s (by omega) hp).1 s' hst).1)
   | inr r => exact (hs i s (by omega) hp).2 r hst
 simpa using key xs.length 0 s (by omega) (by omega) h0

/-! what the cursor of the draws gives -/
theorem and255 (x : Int) : 0 ≤ wrap64 (Go.bits .and .u64 x 255) ∧ wrap64 (Go.bits .and .u64 x 255) ≤ 255 := by
 have h : ∃ n : Nat, n ≤ 255 ∧ Go.bits .and .u64 x 255 = (n : Int) := by
  refine ⟨(BitVec.ofInt 64 x &&& BitVec.ofInt 64 255).toNat, ?_, ?_⟩
  ·rw [BitVec.toNat_and]
   exact Nat.le_trans (Nat.and_le_right) (by decide)
  ·have hle : (BitVec.ofInt 64 x &&& BitVec.ofInt 64 255).toNat ≤ 255 := by
    rw [BitVec.toNat_and]; exact Nat.le_trans (Nat.and_le_right) (by decide)
   show IntKind.u64.wrap (((BitVec.ofInt 64 x &&& BitVec.ofInt 64 255).toNat : Nat) : Int) = _
   generalize (BitVec.ofInt 64 x &&& BitVec.ofInt 64 255).toNat = m at hle
   simp [IntKind.wrap, IntKind.min, IntKind.max, IntKind.signed, IntKind.bits]
   omega
 obtain ⟨n, hn, e⟩ := h
 rw [e]
 unfold wrap64
 omega
theorem u8s {l : List Int} (h : ∀ y ∈ l, (Lit.int .u8 y).wf = true) : ∀ y ∈ l, 0 ≤ y ∧ y ≤ 255 := by
 intro y hy
 have := h y hy
 simp [Lit.wf, IntKind.min, IntKind.max, IntKind.signed, IntKind.bits] at this
 omega
theorem rd_mem {l : List Int} {a : Int} (h0 : 0 ≤ a) (h : a < (l.length : Int)) : rd l a ∈ l := by
 unfold rd
 rw [List.getD_eq_getElem?_getD, List.getElem?_eq_getElem (show a.toNat < l.length by omega)]
 exact List.getElem_mem _
theorem next_ok (l : List Int) (a s : Int) (hu : ∀ y ∈ l, 0 ≤ y ∧ y ≤ 255) (h0 : 0 ≤ a) (h1 : a ≤ 4611686018427387904) : ∃ v s', spec_l1Cur_next.f l a s = some (v, a + 1, s') ∧ 0 ≤ v ∧ v ≤ 255 := by
 have hw : wrap64 (a + 1) = a + 1 := by unfold wrap64; omega
 unfold spec_l1Cur_next.f
 rw [hw]
 by_cases h : a < (l.length : Int)
 ·rw [if_pos h, if_pos h0, if_pos (by omega)]
  have := hu _ (rd_mem h0 h)
  exact ⟨_, _, rfl, by unfold wrap64; omega, by unfold wrap64; omega⟩
 ·rw [if_neg h, if_neg (by omega)]
  exact ⟨_, _, rfl, (and255 _).1, (and255 _).2⟩
theorem pick_ok (l : List Int) (a s n : Int) (hu : ∀ y ∈ l, 0 ≤ y ∧ y ≤ 255) (h0 : 0 ≤ a) (h1 : a ≤ 2305843009213693952) (hn : 1 ≤ n) (hn' : n ≤ 65536) : ∃ v a' s', spec_l1Cur_pick.f l a s n = some (v, a', s') ∧ 0 ≤ v ∧ v < n ∧ a ≤ a' ∧ a' ≤ a + 2 := by
 unfold spec_l1Cur_pick.f
 by_cases h : n ≤ 1
 ·rw [if_pos h]; exact ⟨0, a, s, rfl, by omega, by omega, by omega, by omega⟩
 rw [if_neg h]
 obtain ⟨v, s', e, hv, hv'⟩ := next_ok l a s hu h0 (by omega)
 rw [e, Option.bind_some]
 dsimp only
 by_cases h2 : n > 200
 ·rw [if_pos h2]
  obtain ⟨v2, s2, e2, hv2, hv2'⟩ := next_ok l (a + 1) s' hu (by omega) (by omega)
  rw [e2, Option.bind_some, if_neg (by omega)]
  have hw : wrap64 (wrap64 (v * 256) + v2) = v * 256 + v2 := by unfold wrap64; omega
  dsimp only
  rw [hw]
  exact ⟨_, _, _, rfl, Int.tmod_nonneg _ (by omega), Int.tmod_lt_of_pos _ (by omega), by omega, by omega⟩
 ·rw [if_neg h2, if_neg (by omega)]
  exact ⟨_, _, _, rfl, Int.tmod_nonneg _ hv, Int.tmod_lt_of_pos _ (by omega), by omega, by omega⟩

theorem among_ok (l : List Int) (a s : Int) (xs : List Int) (hu : ∀ y ∈ l, 0 ≤ y ∧ y ≤ 255) (h0 : 0 ≤ a) (h1 : a ≤ 2305843009213693952) (hn : 1 ≤ xs.length) (hn' : xs.length ≤ 65536) : ∃ v a' s', spec_l1Cur_among.f l a s xs = some (v, a', s') ∧ v ∈ xs ∧ a ≤ a' ∧ a' ≤ a + 2 := by
 unfold spec_l1Cur_among.f
 obtain ⟨v, a', s', e, hv, hv', ha, ha'⟩ := pick_ok l a s (xs.length : Int) hu h0 h1 (by omega) (by omega)
 rw [e, Option.bind_some]
 dsimp only
 rw [if_pos hv, if_pos hv']
 exact ⟨_, _, _, rfl, rd_mem hv hv', ha, ha'⟩

def goodS (c : S26) : Bool := Mine.goodCmdB c.f0 c.f1 c.f2 c.f3 c.f4
theorem rdC_nat (l : List S26) (i : Nat) : rd_T26 l (i : Int) = l.getD i z26 := by unfold rd_T26; rw [Int.toNat_natCast]
theorem getD_set_self {α : Type} (xs : List α) (i : Nat) (v d : α) (h : i < xs.length) : (xs.set i v).getD i d = v := by simp [List.getD_eq_getElem?_getD, h]
theorem getD_map {α β : Type} (f : α → β) (xs : List α) (i : Nat) (a : α) (b : β) (h : i < xs.length) : (xs.map f).getD i b = f (xs.getD i a) := by
 simp [List.getD_eq_getElem?_getD, h]

theorem one_ok (l : List Int) (a s n : Int) (hu : ∀ y ∈ l, 0 ≤ y ∧ y ≤ 255) (h0 : 0 ≤ a) (h1 : a ≤ 2305843009213693952) (hn : 1 ≤ n) (hn' : n ≤ 65536) : ∃ v a' s', spec_l1Cur_one.f l a s n = some (v, a', s') ∧ a ≤ a' ∧ a' ≤ a + 2 := by
 unfold spec_l1Cur_one.f
 obtain ⟨v, a', s', e, _, _, ha, ha'⟩ := pick_ok l a s n hu h0 h1 hn hn'
 rw [e, Option.bind_some]
 exact ⟨_, _, _, rfl, ha, ha'⟩
theorem cmd_ok (l : List Int) (a s : Int) (hu : ∀ y ∈ l, 0 ≤ y ∧ y ≤ 255) (h0 : 0 ≤ a) (h1 : a ≤ 1152921504606846976) : ∃ k i f t m a' s', spec_l1Cur_cmd.f l a s = some (k, i, f, t, m, a', s') ∧ Mine.goodCmdB k i f t m = true ∧ a ≤ a' ∧ a' ≤ a + 10 := by
 unfold spec_l1Cur_cmd.f
 obtain ⟨v1, a1, s1, e1, p1, q1, x1, y1⟩ := pick_ok l a s 9 hu h0 (by omega) (by omega) (by omega)
 rw [e1, Option.bind_some]
 obtain ⟨v2, a2, s2, e2, p2, q2, x2, y2⟩ := pick_ok l a1 s1 4 hu (by omega) (by omega) (by omega) (by omega)
 dsimp only
 rw [e2, Option.bind_some]
 obtain ⟨v3, a3, s3, e3, p3, q3, x3, y3⟩ := pick_ok l a2 s2 30 hu (by omega) (by omega) (by omega) (by omega)
 dsimp only
 rw [e3, Option.bind_some]
 obtain ⟨v4, a4, s4, e4, p4, q4, x4, y4⟩ := pick_ok l a3 s3 3 hu (by omega) (by omega) (by omega) (by omega)
 dsimp only
 rw [e4, Option.bind_some]
 obtain ⟨v5, a5, s5, e5, x5, y5⟩ := one_ok l a4 s4 4 hu (by omega) (by omega) (by omega) (by omega)
 dsimp only
 rw [e5, Option.bind_some]
 dsimp only
 have w1 : wrap64 (1 + v1) = 1 + v1 := by unfold wrap64; omega
 have w2 : wrap64 (1 + v3) = 1 + v3 := by unfold wrap64; omega
 have w3 : wrap64 (wrap64 (v2 + 1) + v4) = v2 + 1 + v4 := by unfold wrap64; omega
 rw [w1, w2, w3]
 have m0 : Int.tmod (v2 + 1 + v4) 4 = (v2 + 1 + v4) % 4 := Int.tmod_eq_emod_of_nonneg (by omega)
 rw [m0]
 cases v5 with
 | true => exact ⟨_, _, _, _, _, _, _, rfl, by unfold Mine.goodCmdB Mine.inB; simp; omega, by omega, by omega⟩
 | false => exact ⟨_, _, _, _, _, _, _, rfl, by unfold Mine.goodCmdB Mine.inB; simp; omega, by omega, by omega⟩
theorem anyCmd_ok (l : List Int) (a s : Int) (hu : ∀ y ∈ l, 0 ≤ y ∧ y ≤ 255) (h0 : 0 ≤ a) (h1 : a ≤ 1000000000000) : ∃ k i f t m a' s', spec_l1Cur_anyCmd.f l a s = some (k, i, f, t, m, a', s') ∧ a ≤ a' ∧ a' ≤ a + 20 := by
 unfold spec_l1Cur_anyCmd.f
 obtain ⟨k, i, f, t, m, a1, s1, e1, _, x1, y1⟩ := cmd_ok l a s hu h0 (by omega)
 rw [e1, Option.bind_some]
 obtain ⟨v2, a2, s2, e2, p2, q2, x2, y2⟩ := pick_ok l a1 s1 20 hu (by omega) (by omega) (by omega) (by omega)
 dsimp only
 rw [e2, Option.bind_some]
 dsimp only
 have am : ∀ xs : List Int, 1 ≤ xs.length → xs.length ≤ 65536 → ∃ v a' s', spec_l1Cur_among.f l a2 s2 xs = some (v, a', s') ∧ a2 ≤ a' ∧ a' ≤ a2 + 2 := fun xs hx hx' => by
  obtain ⟨v, a', s', e, _, ha, ha'⟩ := among_ok l a2 s2 xs hu (by omega) (by omega) hx hx'
  exact ⟨v, a', s', e, ha, ha'⟩
 split
 ·exact ⟨_, _, _, _, _, _, _, rfl, by first | omega | (dsimp only; omega), by first | omega | (dsimp only; omega)⟩
 split
 ·exact ⟨_, _, _, _, _, _, _, rfl, by first | omega | (dsimp only; omega), by first | omega | (dsimp only; omega)⟩
 split
 ·obtain ⟨v, a3, s3, e3, x3, y3⟩ := am [0, 999, 1000] (by decide) (by decide)
  rw [e3, Option.bind_some]; exact ⟨_, _, _, _, _, _, _, rfl, by first | omega | (dsimp only; omega), by first | omega | (dsimp only; omega)⟩
 split
 ·obtain ⟨v, a3, s3, e3, x3, y3⟩ := am [0, 1000, 1001] (by decide) (by decide)
  rw [e3, Option.bind_some]; exact ⟨_, _, _, _, _, _, _, rfl, by first | omega | (dsimp only; omega), by first | omega | (dsimp only; omega)⟩
 split
 ·obtain ⟨v, a3, s3, e3, x3, y3⟩ := am [-1, 4] (by decide) (by decide)
  rw [e3, Option.bind_some]; exact ⟨_, _, _, _, _, _, _, rfl, by first | omega | (dsimp only; omega), by first | omega | (dsimp only; omega)⟩
 split
 ·obtain ⟨v, a3, s3, e3, _, _, x3, y3⟩ := pick_ok l a2 s2 4 hu (by omega) (by omega) (by omega) (by omega)
  rw [e3, Option.bind_some]; exact ⟨_, _, _, _, _, _, _, rfl, by first | omega | (dsimp only; omega), by first | omega | (dsimp only; omega)⟩
 ·exact ⟨_, _, _, _, _, _, _, rfl, by first | omega | (dsimp only; omega), by first | omega | (dsimp only; omega)⟩

theorem cmdsE_ok (l : List Int) (a s : Int) (hu : ∀ y ∈ l, 0 ≤ y ∧ y ≤ 255) (h0 : 0 ≤ a) (h1 : a ≤ 1000000000) : ∃ c a' s', spec_l1Cur_cmds.e l a s = some (c, a', s') ∧ a ≤ a' ∧ a' ≤ a + 20 := by
 unfold spec_l1Cur_cmds.e
 obtain ⟨k, i, f, t, m, a1, s1, e1, _, x1, y1⟩ := cmd_ok l a s hu h0 (by omega)
 rw [e1, Option.bind_some]
 dsimp only
 by_cases hk : k = 1
 ·rw [if_pos hk]
  obtain ⟨b, a2, s2, e2, x2, y2⟩ := one_ok l a1 s1 3 hu (by omega) (by omega) (by omega) (by omega)
  rw [e2, Option.bind_some]
  cases b with
  | true =>
   obtain ⟨v, a3, s3, e3, _, _, x3, y3⟩ := pick_ok l a2 s2 90 hu (by omega) (by omega) (by omega) (by omega)
   dsimp only
   rw [if_pos rfl, e3, Option.bind_some]
   exact ⟨_, _, _, rfl, by first | omega | (dsimp only; omega), by first | omega | (dsimp only; omega)⟩
  | false => exact ⟨_, _, _, rfl, by first | omega | (dsimp only; omega), by first | omega | (dsimp only; omega)⟩
 ·rw [if_neg hk]
  exact ⟨_, _, _, rfl, by first | omega | (dsimp only; omega), by first | omega | (dsimp only; omega)⟩
theorem cmdsL_ok (l : List Int) (hu : ∀ y ∈ l, 0 ≤ y ∧ y ≤ 255) : ∀ (n : Nat) (out : List S26) (a s : Int), n ≤ 100 → out.length + n ≤ 100 → 0 ≤ a → a + 20 * n ≤ 100000 → ∃ r a' s', Ev (fun k => spec_l1Cur_cmds.l k l out (n : Int) a s) (r, a', s') ∧ r.length = out.length + n ∧ 0 ≤ a' ∧ a' ≤ 100000
 | 0, out, a, s, _, _, h0, h1 => ⟨out, a, s, Ev.step (f := fun _ => some _) (fun k => by simp only [spec_l1Cur_cmds.l]; rw [if_neg (by omega)]) (Ev.now _), rfl, h0, by omega⟩
 | n + 1, out, a, s, hn, ho, h0, h1 => by
  obtain ⟨c, a1, s1, e1, x1, y1⟩ := cmdsE_ok l a s hu h0 (by omega)
  obtain ⟨r, a', s', h, h2, h3⟩ := cmdsL_ok l hu n (out ++ [c]) a1 s1 (by omega) (by rw [List.length_append]; simp; omega) (by omega) (by omega)
  refine ⟨r, a', s', Ev.step (fun k => ?_) h, by rw [h2, List.length_append]; simp; omega, h3⟩
  simp only [spec_l1Cur_cmds.l]
  rw [if_pos (by omega), e1, Option.bind_some]
  dsimp only
  rw [if_pos (by omega), show wrap64 (((n + 1 : Nat) : Int) - 1) = (n : Int) by unfold wrap64; omega]
theorem cmds_ok (l : List Int) (hu : ∀ y ∈ l, 0 ≤ y ∧ y ≤ 255) (a s m : Int) (h0 : 0 ≤ a) (h1 : a ≤ 1000) (hm : 0 ≤ m) (hm' : m ≤ 20) : ∃ r a' s', Ev (fun k => spec_l1Cur_cmds.f k l a s m) (r, a', s') ∧ (r.length : Int) ≤ m ∧ 0 ≤ a' ∧ a' ≤ 200000 := by
 have hw : wrap64 (m + 1) = m + 1 := by unfold wrap64; omega
 obtain ⟨v, a1, s1, e1, p1, q1, x1, y1⟩ := pick_ok l a s (m + 1) hu (by omega) (by omega) (by omega) (by omega)
 obtain ⟨r, a2, s2, h, h2, h3, h4⟩ := cmdsL_ok l hu v.toNat [] a1 s1 (by omega) (by simp; omega) (by omega) (by omega)
 rw [Int.toNat_of_nonneg p1] at h
 rw [List.length_nil, Nat.zero_add] at h2
 obtain ⟨r', a', s', e, h5, h6, h7⟩ : ∃ r' a' s', spec_l1Cur_cmds.z l (r, a2, s2) = some (r', a', s') ∧ r'.length = r.length ∧ 0 ≤ a' ∧ a' ≤ 200000 := by
  unfold spec_l1Cur_cmds.z
  dsimp only
  by_cases hl : 0 < r.length
  ·rw [if_pos hl]
   obtain ⟨b, a3, s3, e3, x3, y3⟩ := one_ok l a2 s2 20 hu (by omega) (by omega) (by omega) (by omega)
   rw [e3, Option.bind_some]
   cases b with
   | true =>
    obtain ⟨k, i, f, t, m, a4, s4, e4, x4, y4⟩ := anyCmd_ok l a3 s3 hu (by omega) (by omega)
    dsimp only
    rw [if_pos rfl, e4, Option.bind_some]
    exact ⟨_, _, _, rfl, List.length_set, by first | omega | (dsimp only; omega), by first | omega | (dsimp only; omega)⟩
   | false => exact ⟨_, _, _, rfl, rfl, by first | omega | (dsimp only; omega), by first | omega | (dsimp only; omega)⟩
  ·rw [if_neg hl]
   exact ⟨_, _, _, rfl, rfl, by first | omega | (dsimp only; omega), by first | omega | (dsimp only; omega)⟩
 refine ⟨r', a', s', ?_, by omega, h6, h7⟩
 unfold spec_l1Cur_cmds.f
 rw [hw]
 simp only [e1, Option.bind_some]
 exact Ev.bind h (Ev.const e)

def putL : List Int → Int → List Int
 | [], n => [n]
 | x :: xs, n => if x < n then x :: putL xs n else if x = n then x :: xs else n :: x :: xs
theorem putL_length (n : Int) : ∀ l : List Int, (putL l n).length ≤ l.length + 1
 | [] => by simp [putL]
 | x :: xs => by
  have := putL_length n xs
  unfold putL
  split
  ·simp; omega
  ·split <;> simp

def touchL (k f t : Int) : List Int := if k = 1 then putL [f] t else if k = 2 then [f] else []
theorem touchL_length (k f t : Int) : (touchL k f t).length ≤ 2 := by
 unfold touchL
 split
 ·exact putL_length t [f]
 ·split <;> simp
theorem good_parts {k i f t a : Int} (h : Mine.goodCmdB k i f t a = true) : (k = 0 ∧ i = 0 ∧ f = 0 ∧ t = 0 ∧ a = 0) ∨ (k = 1 ∧ (1 ≤ i ∧ i ≤ 999) ∧ (0 ≤ f ∧ f ≤ 3) ∧ (0 ≤ t ∧ t ≤ 3) ∧ f ≠ t ∧ (1 ≤ a ∧ a ≤ 1000)) ∨ (k = 2 ∧ (1 ≤ i ∧ i ≤ 999) ∧ (0 ≤ f ∧ f ≤ 3) ∧ t = 0 ∧ a = 0) := by
 unfold Mine.goodCmdB at h
 by_cases h0 : k = 0
 ·rw [if_pos h0] at h; simp at h; exact .inl ⟨h0, h.1, h.2.1, h.2.2.1, h.2.2.2⟩
 ·rw [if_neg h0] at h
  by_cases h1 : k = 1
  ·rw [if_pos h1] at h
   simp only [Bool.and_eq_true, Mine.inB_iff, Bool.not_eq_true', beq_eq_false_iff_ne] at h
   exact .inr (.inl ⟨h1, h.1, h.2.1, h.2.2.1, h.2.2.2.1, h.2.2.2.2⟩)
  ·rw [if_neg h1] at h
   by_cases h2 : k = 2
   ·rw [if_pos h2] at h
    simp only [Bool.and_eq_true, Mine.inB_iff, beq_iff_eq] at h
    exact .inr (.inr ⟨h2, h.1, h.2.1, h.2.2.1, h.2.2.2⟩)
   ·rw [if_neg h2] at h; simp at h

def applyL (l : List Int) (k f t a : Int) : List Int × Int × Int :=
 if k = 2 then (l, 3, l.getD f.toNat 0)
 else if k = 1 then
  if l.getD f.toNat 0 < a then (l, 2, 0)
  else ((l.set f.toNat (wrap64 (l.getD f.toNat 0 - a))).set t.toNat (wrap64 ((l.set f.toNat (wrap64 (l.getD f.toNat 0 - a))).getD t.toNat 0 + a)), 1, 0)
 else (l, 0, 0)
theorem applyL_length (l : List Int) (k f t a : Int) : (applyL l k f t a).1.length = l.length := by
 unfold applyL
 split
 ·rfl
 ·split
  ·split <;> simp
  ·rfl

theorem l1Own_f (l : List Int) (h : l.length < 17592186044416) : spec_l1Own.f l = some l := by
 unfold spec_l1Own.f
 rw [Option.bind_some, if_pos (by simpa using h)]
 rfl

theorem specApply_f (l : List Int) (k i f t a : Int) (hl : l.length = 4) (h : Mine.goodCmdB k i f t a = true) : spec_l11Apply.f l k i f t a = some (applyL l k f t a) := by
 unfold spec_l11Apply.f applyL
 rw [l1Own_f l (by omega), Option.bind_some]
 rcases good_parts h with ⟨rfl, _, rfl, rfl, _⟩ | ⟨rfl, _, hf, ht, hne, _⟩ | ⟨rfl, _, hf, _⟩
 ·simp
 ·have hfl : f < (l.length : Int) := by omega
  have htl : t < (l.length : Int) := by omega
  simp only [if_neg (show ¬ (1 : Int) = 2 by omega), if_pos hf.1, if_pos hfl, if_pos (rfl : (1 : Int) = 1), if_pos ht.1, if_pos htl, Option.bind_some]
  unfold rd
  by_cases hlt : l.getD f.toNat 0 < a
  ·simp only [if_pos hlt, if_true]
  ·simp only [if_neg hlt, if_true]
 ·have hfl : f < (l.length : Int) := by omega
  simp only [if_pos (rfl : (2 : Int) = 2), if_pos hf.1, if_pos hfl, if_true]; rfl

theorem specNewSums_ev : Ev (fun k => spec_NewSums.f k) [100, 100, 100, 100] := Ev.of (fun k => spec_NewSums.mono k) (k := 100) (by decide +kernel)

theorem l1In_f (a b c : Int) : spec_l1In.f a b c = some (Mine.inB b c a) := by
 unfold spec_l1In.f Mine.inB
 by_cases h : a ≥ b
 ·rw [if_pos h]; simp [show b ≤ a from h]
 ·rw [if_neg h]; simp [show ¬ b ≤ a from h]

theorem l2Account_f (a : Int) : spec_l2Account.f a = some (Mine.inB 0 3 a) := by unfold spec_l2Account.f; rw [l1In_f, Option.bind_some]

theorem specGoodCmd (k i f t a : Int) : spec_GoodCmd.f k i f t a = some (Mine.goodCmdB k i f t a) := by
 unfold spec_GoodCmd.f spec_l2Code.f Mine.goodCmdB
 simp only [l1In_f, l2Account_f, Option.bind_some]
 by_cases h0 : k = 0
 ·simp [h0]
 ·rw [if_neg h0, if_neg h0]
  by_cases h1 : k = 1
  ·rw [if_pos h1, if_pos h1, if_pos h1]
   by_cases hft : f = t
   ·cases Mine.inB 1 999 i <;> cases Mine.inB 0 3 f <;> cases Mine.inB 0 3 t <;> simp [hft]
   ·cases Mine.inB 1 999 i <;> cases Mine.inB 0 3 f <;> cases Mine.inB 0 3 t <;> cases Mine.inB 1 1000 a <;> simp [hft]
  ·rw [if_neg h1, if_neg h1, if_neg h1]
   by_cases h2 : k = 2
   ·rw [if_pos h2, if_pos h2]
    by_cases ht : t = 0
    ·cases Mine.inB 1 999 i <;> cases Mine.inB 0 3 f <;> simp [ht]
    ·cases Mine.inB 1 999 i <;> cases Mine.inB 0 3 f <;> simp [ht]
   ·rw [if_neg h2, if_neg h2]

def goodCmdsB (l : List S26) : Bool := if Mine.anyP (fun c => !goodS c) l = true then false else decide ((l.length : Int) ≤ 60)
theorem l11Cmds_ev (l : List S26) (hm : l.length ≤ 9223372036854775807) : Ev (fun k => spec_l11Cmds.f k l) (goodCmdsB l) := by
 unfold goodCmdsB spec_l11Cmds.f
 refine loop_any (fun k i => spec_l11Cmds.l0 k l l (l.length : Int) i) l z26 (fun c => !goodS c) false (decide ((l.length : Int) ≤ 60)) (fun i hi => ?_) (fun _ => Ev.step (f := fun _ => some _) (fun k => by simp only [spec_l11Cmds.l0]; rw [if_neg (by omega)]) (Ev.now _))
 have body : ∀ k, spec_l11Cmds.l0 (k + 1) l l (l.length : Int) (i : Int) = if goodS (l.getD i z26) = true then spec_l11Cmds.l0 k l l (l.length : Int) ((i + 1 : Nat) : Int) else some false := by
  intro k
  simp only [spec_l11Cmds.l0]
  rw [if_pos (by omega), if_pos (by omega), if_pos (by omega), rdC_nat, specGoodCmd, Option.bind_some, wrap_next hi hm]
  rfl
 refine ⟨fun hp => ?_, fun hp r hr => ?_⟩
 ·simp only [Bool.not_eq_true'] at hp
  exact Ev.step (f := fun _ => some false) (fun k => by rw [body, hp, if_neg (by simp)]) (Ev.now _)
 ·simp only [Bool.not_eq_false'] at hp
  exact Ev.step (fun k => by rw [body, hp, if_pos rfl]) hr
theorem goodCmds_parts {l : List S26} (h : goodCmdsB l = true) : l.length ≤ 60 ∧ ∀ c ∈ l, goodS c = true := by
 unfold goodCmdsB at h
 split at h
 ·cases h
 ·rename_i hn
  rw [decide_eq_true_eq] at h
  refine ⟨by omega, fun c hc => ?_⟩
  have := Mine.anyP_false.1 (Bool.eq_false_iff.2 hn) c hc
  simpa using this

def playL : List S26 → List Int → List S30 → List Int × List S30
 | [], s, t => (s, t)
 | c :: cs, s, t => playL cs (applyL s c.f0 c.f2 c.f3 c.f4).1 (t ++ [⟨(applyL s c.f0 c.f2 c.f3 c.f4).2.1, (applyL s c.f0 c.f2 c.f3 c.f4).2.2⟩])
theorem playL_len1 : ∀ (l : List S26) (s : List Int) (t : List S30), (playL l s t).1.length = s.length
 | [], _, _ => rfl
 | c :: cs, s, t => by rw [playL, playL_len1 cs]; exact applyL_length _ _ _ _ _
theorem playL_len2 : ∀ (l : List S26) (s : List Int) (t : List S30), (playL l s t).2.length = t.length + l.length
 | [], _, _ => rfl
 | c :: cs, s, t => by rw [playL, playL_len2 cs]; simp only [List.length_append, List.length_cons, List.length_nil]; omega
theorem specPlay_l (l : List S26) (hl : l.length ≤ 60) (hg : ∀ c ∈ l, goodS c = true) : ∀ (d i : Nat) (s : List Int) (t : List S30), l.length - i = d → s.length = 4 → t.length ≤ i → i ≤ l.length →
  Ev (fun k => spec_l11Play.l0 k s t l (l.length : Int) (i : Int)) (playL (l.drop i) s t) := by
 intro d
 induction d with
 | zero =>
  intro i s t hd hs ht hi
  rw [List.drop_eq_nil_of_le (by omega)]
  exact Ev.step (f := fun _ => some (s, t)) (fun k => by simp only [spec_l11Play.l0]; rw [if_neg (by omega)]) (Ev.now _)
 | succ d ih =>
  intro i s t hd hs ht hi
  have hlt : i < l.length := by omega
  have hm := hg _ (Mine.getD_mem l z26 i hlt)
  rw [Mine.drop_at l z26 i hlt, playL]
  refine Ev.step (fun k => ?_) (ih (i + 1) _ _ (by omega) (by rw [applyL_length]; exact hs) (by rw [List.length_append, List.length_singleton]; omega) (by omega))
  simp only [spec_l11Play.l0]
  rw [if_pos (by omega), if_pos (by omega), if_pos (by omega), rdC_nat, specApply_f _ _ _ _ _ _ hs hm, Option.bind_some, if_pos (by omega), wrap_next hlt (by omega)]
theorem specPlay_ev (l : List S26) (h : goodCmdsB l = true) : Ev (fun k => spec_l11Play.f k l) (playL l [100, 100, 100, 100] []) := by
 obtain ⟨hl, hg⟩ := goodCmds_parts h
 unfold spec_l11Play.f
 exact Ev.bind specNewSums_ev (by simpa using specPlay_l l hl hg _ 0 [100, 100, 100, 100] [] rfl rfl (by simp) (by omega))

theorem implApply_f (l : List Int) (k i f t a : Int) (hl : l.length = 4) (h : Mine.goodCmdB k i f t a = true) : impl_apply.f l k i f t a = some ((applyL l k f t a).2.1, (applyL l k f t a).2.2, (applyL l k f t a).1) := by
 unfold impl_apply.f applyL
 rcases good_parts h with ⟨rfl, _, rfl, rfl, _⟩ | ⟨rfl, _, hf, ht, hne, _⟩ | ⟨rfl, _, hf, _⟩
 ·simp
 ·have hfl : f < (l.length : Int) := by omega
  have htl : t < (l.length : Int) := by omega
  simp only [if_neg (show ¬ (1 : Int) = 2 by omega), if_neg (show ¬ (1 : Int) = 0 by omega), if_pos hf.1, if_pos hfl, if_pos (rfl : (1 : Int) = 1), if_pos ht.1, if_pos htl, Option.bind_some]
  unfold rd
  by_cases hlt : l.getD f.toNat 0 < a
  ·simp only [if_pos hlt, if_true]
  ·simp only [if_neg hlt, if_true]
 ·have hfl : f < (l.length : Int) := by omega
  simp only [if_pos (rfl : (2 : Int) = 2), if_pos hf.1, if_pos hfl, if_true]; rfl

theorem within_f (a b c : Int) : impl_within.f a b c = some (Mine.inB b c a) := by
 unfold impl_within.f Mine.inB
 by_cases h : b ≤ a
 ·rw [if_pos h]; simp [h]
 ·rw [if_neg h]; simp [h]

theorem implGoodCmd (k i f t a : Int) : impl_GoodCmd.f k i f t a = some (Mine.goodCmdB k i f t a) := by
 unfold impl_GoodCmd.f impl_isAccount.f Mine.goodCmdB
 simp only [within_f, Option.bind_some]
 by_cases h0 : k = 0
 ·simp [h0]
 ·rw [if_neg h0, if_neg h0]
  by_cases h1 : k = 1
  ·rw [if_pos h1, if_pos h1]
   by_cases hft : f = t
   ·cases Mine.inB 1 999 i <;> cases Mine.inB 0 3 f <;> cases Mine.inB 0 3 t <;> simp [hft]
   ·cases Mine.inB 1 999 i <;> cases Mine.inB 0 3 f <;> cases Mine.inB 0 3 t <;> cases Mine.inB 1 1000 a <;> simp [hft]
  ·rw [if_neg h1, if_neg h1]
   by_cases h2 : k = 2
   ·rw [if_pos h2, if_pos h2]
    by_cases ht : t = 0
    ·cases Mine.inB 1 999 i <;> cases Mine.inB 0 3 f <;> simp [ht]
    ·cases Mine.inB 1 999 i <;> cases Mine.inB 0 3 f <;> simp [ht]
   ·rw [if_neg h2, if_neg h2]

theorem implGoodCmds_f (l : List S26) : impl_goodCmds.f l = some (goodCmdsB l) := by
 unfold impl_goodCmds.f impl_goodCmds_1_in_c.f goodCmdsB
 rw [Mine.anyO_total (q := fun c => !goodS c) (fun x _ => by unfold impl_goodCmds_1.f; rw [implGoodCmd, Option.bind_some]; rfl), Option.bind_some]
 by_cases h : (l.length : Int) ≤ 60
 ·rw [if_pos h, decide_eq_true h]
  cases Mine.anyP (fun c => !goodS c) l <;> simp
 ·rw [if_neg h, decide_eq_false h]
  cases Mine.anyP (fun c => !goodS c) l <;> simp

theorem implPlay_l (l : List S26) (hl : l.length ≤ 60) (hg : ∀ c ∈ l, goodS c = true) : ∀ (d i : Nat) (s : List Int) (t : List S30), l.length - i = d → s.length = 4 → t.length ≤ i → i ≤ l.length →
  Ev (fun k => impl_playCmds.l0 k s t l (l.length : Int) (i : Int)) (playL (l.drop i) s t) := by
 intro d
 induction d with
 | zero =>
  intro i s t hd hs ht hi
  rw [List.drop_eq_nil_of_le (by omega)]
  exact Ev.step (f := fun _ => some (s, t)) (fun k => by simp only [impl_playCmds.l0]; rw [if_neg (by omega)]) (Ev.now _)
 | succ d ih =>
  intro i s t hd hs ht hi
  have hlt : i < l.length := by omega
  have hm := hg _ (Mine.getD_mem l z26 i hlt)
  rw [Mine.drop_at l z26 i hlt, playL]
  refine Ev.step (fun k => ?_) (ih (i + 1) _ _ (by omega) (by rw [applyL_length]; exact hs) (by rw [List.length_append, List.length_singleton]; omega) (by omega))
  simp only [impl_playCmds.l0]
  rw [if_pos (by omega), if_pos (by omega), if_pos (by omega), rdC_nat, implApply_f _ _ _ _ _ _ hs hm, Option.bind_some, if_pos (by omega), wrap_next hlt (by omega)]
theorem implPlay_ev (l : List S26) (h : goodCmdsB l = true) : Ev (fun k => impl_playCmds.f k l) (playL l [100, 100, 100, 100] []) := by
 obtain ⟨hl, hg⟩ := goodCmds_parts h
 unfold impl_playCmds.f
 rw [show impl_NewSums.f = some [100, 100, 100, 100] from rfl]
 simp only [Option.bind_some]
 simpa using implPlay_l l hl hg _ 0 [100, 100, 100, 100] [] rfl rfl (by simp) (by omega)

def sameC (c x : S26) : Bool := c.f0 == x.f0 && (c.f1 == x.f1 && (c.f2 == x.f2 && (c.f3 == x.f3 && c.f4 == x.f4)))
theorem sameC_not (c x : S26) : (!(x.f0 == c.f0) || (!(x.f1 == c.f1) || (!(x.f2 == c.f2) || (!(x.f3 == c.f3) || !(x.f4 == c.f4))))) = !sameC c x := by
 unfold sameC
 rw [BEq.comm (a := x.f0), BEq.comm (a := x.f1), BEq.comm (a := x.f2), BEq.comm (a := x.f3), BEq.comm (a := x.f4)]
 simp only [Bool.not_and]
def onceS (l : List S26) (c : S26) : Int :=
 if Mine.idxP (sameC c) l 0 < 0 then -1 else if Mine.anyP (sameC c) (l.drop ((Mine.idxP (sameC c) l 0).toNat + 1)) = true then -1 else Mine.idxP (sameC c) l 0
theorem idxP_range {α : Type} (p : α → Bool) : ∀ (l : List α) (i : Int), Mine.idxP p l i = -1 ∨ (i ≤ Mine.idxP p l i ∧ Mine.idxP p l i < i + (l.length : Int))
 | [], _ => .inl rfl
 | x :: xs, i => by
  rw [Mine.idxP]
  by_cases h : p x = true
  ·rw [if_pos h]; right; rw [List.length_cons]; omega
  ·rw [if_neg h]
   rcases idxP_range p xs (i + 1) with h | h
   ·exact .inl h
   ·right; rw [List.length_cons]; omega
theorem onceS_range (l : List S26) (c : S26) : onceS l c = -1 ∨ (0 ≤ onceS l c ∧ onceS l c < (l.length : Int)) := by
 unfold onceS
 split
 ·exact .inl rfl
 ·split
  ·exact .inl rfl
  ·rcases idxP_range (sameC c) l 0 with h | h
   ·exact .inl h
   ·right; omega
theorem onceS_idx {l : List S26} {c : S26} (h : 0 ≤ onceS l c) : Mine.idxP (sameC c) l 0 = onceS l c := by
 unfold onceS at h ⊢
 split at h
 ·omega
 ·split at h
  ·omega
  ·rename_i h1 h2
   rw [if_neg h1, if_neg h2]

theorem once_body (l : List S26) (c : S26) (hm : l.length ≤ 9223372036854775807) (i : Nat) (hi : i < l.length) (at_ : Int) (k : Nat) :
  spec_l11Once.l0 (k + 1) at_ l (l.length : Int) (i : Int) c.f0 c.f1 c.f2 c.f3 c.f4 = if sameC c (l.getD i z26) = true then (if at_ ≥ 0 then some (-1) else spec_l11Once.l0 k (i : Int) l (l.length : Int) ((i + 1 : Nat) : Int) c.f0 c.f1 c.f2 c.f3 c.f4) else spec_l11Once.l0 k at_ l (l.length : Int) ((i + 1 : Nat) : Int) c.f0 c.f1 c.f2 c.f3 c.f4 := by
 simp only [spec_l11Once.l0]
 rw [if_pos (by omega), if_pos (by omega), if_pos (by omega), rdC_nat, sameC_not, wrap_next hi hm]
 cases sameC c (l.getD i z26) <;> simp
theorem once_l1 (l : List S26) (c : S26) (hm : l.length ≤ 9223372036854775807) (at_ : Int) (ha : 0 ≤ at_) : ∀ (d i : Nat), l.length - i = d → i ≤ l.length →
  Ev (fun k => spec_l11Once.l0 k at_ l (l.length : Int) (i : Int) c.f0 c.f1 c.f2 c.f3 c.f4) (if Mine.anyP (sameC c) (l.drop i) = true then -1 else at_) := by
 intro d
 induction d with
 | zero =>
  intro i hd hi
  rw [List.drop_eq_nil_of_le (by omega)]
  exact Ev.step (f := fun _ => some at_) (fun k => by simp only [spec_l11Once.l0]; rw [if_neg (by omega)]) (by simpa [Mine.anyP] using Ev.now _)
 | succ d ih =>
  intro i hd hi
  have hlt : i < l.length := by omega
  rw [Mine.drop_at l z26 i hlt, Mine.anyP_cons]
  cases hp : sameC c (l.getD i z26) with
  | true => exact Ev.step (f := fun _ => some (-1)) (fun k => by rw [once_body l c hm i hlt, hp, if_pos rfl, if_pos ha]) (by simpa using Ev.now _)
  | false =>
   rw [Bool.false_or]
   exact Ev.step (fun k => by rw [once_body l c hm i hlt, hp, if_neg (by simp)]) (ih (i + 1) (by omega) (by omega))
theorem once_l0 (l : List S26) (c : S26) (hm : l.length ≤ 9223372036854775807) : ∀ (d i : Nat), l.length - i = d → i ≤ l.length →
  Ev (fun k => spec_l11Once.l0 k (-1) l (l.length : Int) (i : Int) c.f0 c.f1 c.f2 c.f3 c.f4) (if Mine.idxP (sameC c) (l.drop i) i < 0 then -1 else if Mine.anyP (sameC c) (l.drop ((Mine.idxP (sameC c) (l.drop i) i).toNat + 1)) = true then -1 else Mine.idxP (sameC c) (l.drop i) i) := by
 intro d
 induction d with
 | zero =>
  intro i hd hi
  rw [List.drop_eq_nil_of_le (by omega)]
  exact Ev.step (f := fun _ => some (-1)) (fun k => by simp only [spec_l11Once.l0]; rw [if_neg (by omega)]) (by simpa [Mine.idxP] using Ev.now _)
 | succ d ih =>
  intro i hd hi
  have hlt : i < l.length := by omega
  rw [Mine.drop_at l z26 i hlt, Mine.idxP]
  cases hp : sameC c (l.getD i z26) with
  | true =>
   rw [if_pos rfl, if_neg (by omega), Int.toNat_natCast]
   exact Ev.step (fun k => by rw [once_body l c hm i hlt, hp, if_pos rfl, if_neg (by omega)]) (once_l1 l c hm (i : Int) (by omega) _ (i + 1) rfl (by omega))
  | false =>
   have e : (if false = true then (i : Int) else Mine.idxP (sameC c) (l.drop (i + 1)) ((i : Int) + 1)) = Mine.idxP (sameC c) (l.drop (i + 1)) ((i + 1 : Nat) : Int) := by simp
   rw [e]
   exact Ev.step (fun k => by rw [once_body l c hm i hlt, hp, if_neg (by simp)]) (ih (i + 1) (by omega) (by omega))
theorem specOnce_ev (l : List S26) (c : S26) (hm : l.length ≤ 9223372036854775807) : Ev (fun k => spec_l11Once.f k l c.f0 c.f1 c.f2 c.f3 c.f4) (onceS l c) := by
 unfold spec_l11Once.f onceS
 simpa using once_l0 l c hm _ 0 rfl (by omega)

theorem anyO_ev {α : Type} (p : Nat → α → Option Bool) : ∀ (xs : List α) (q : α → Bool), (∀ x ∈ xs, Ev (fun k => p k x) (q x)) → Ev (fun k => Mine.anyO (p k) xs) (Mine.anyP q xs)
 | [], q, _ => Ev.const rfl
 | x :: xs, q, h => by
  simp only [Mine.anyO]
  refine Ev.bind (h x (by simp)) ?_
  rw [Mine.anyP_cons]
  cases hq : q x with
  | true => simpa using Ev.now true
  | false => simpa using anyO_ev p xs q (fun y hy => h y (by simp [hy]))

theorem indexC_l (l : List S26) (c : S26) (hm : l.length ≤ 9223372036854775807) : ∀ (d i : Nat), l.length - i = d → i ≤ l.length →
  Ev (fun k => impl_Cmd_88.l0 k l (l.length : Int) (i : Int) c.f0 c.f1 c.f2 c.f3 c.f4) (Mine.idxP (sameC c) (l.drop i) i) := by
 intro d
 induction d with
 | zero =>
  intro i hd hi
  rw [List.drop_eq_nil_of_le (by omega)]
  exact Ev.step (f := fun _ => some (-1)) (fun k => by simp only [impl_Cmd_88.l0]; rw [if_neg (by omega)]) (Ev.now _)
 | succ d ih =>
  intro i hd hi
  have hlt : i < l.length := by omega
  have body : ∀ k, impl_Cmd_88.l0 (k + 1) l (l.length : Int) (i : Int) c.f0 c.f1 c.f2 c.f3 c.f4 = if sameC c (l.getD i z26) = true then some (i : Int) else impl_Cmd_88.l0 k l (l.length : Int) ((i + 1 : Nat) : Int) c.f0 c.f1 c.f2 c.f3 c.f4 := by
   intro k
   simp only [impl_Cmd_88.l0]
   rw [if_pos (by omega), if_pos (by omega), if_pos (by omega), rdC_nat, wrap_next hlt hm]
   rfl
  rw [Mine.drop_at l z26 i hlt, Mine.idxP]
  cases hp : sameC c (l.getD i z26) with
  | true => rw [if_pos rfl]; exact Ev.step (f := fun _ => some (i : Int)) (fun k => by rw [body, hp, if_pos rfl]) (Ev.now _)
  | false => rw [if_neg (by simp)]; exact Ev.step (fun k => by rw [body, hp, if_neg (by simp)]) (by simpa using ih (i + 1) (by omega) (by omega))
theorem indexC_ev (l : List S26) (c : S26) (hm : l.length ≤ 9223372036854775807) : Ev (fun k => impl_Cmd_88.f k l c.f0 c.f1 c.f2 c.f3 c.f4) (Mine.idxP (sameC c) l 0) := by
 unfold impl_Cmd_88.f
 simpa using indexC_l l c hm _ 0 rfl (by omega)
theorem onceIn1_ev (l : List S26) (c : S26) (hm : l.length ≤ 9223372036854775806) : Ev (fun k => impl_onceIn_1.f k c.f0 c.f1 c.f2 c.f3 c.f4 l) (decide (onceS l c < 0)) := by
 unfold impl_onceIn_1.f onceS
 refine Ev.bind (indexC_ev l c (by omega)) ?_
 rcases idxP_range (sameC c) l 0 with h | ⟨h0, h1⟩
 ·rw [h]; simpa using Ev.now true
 ·have hw : wrap64 (Mine.idxP (sameC c) l 0 + 1) = Mine.idxP (sameC c) l 0 + 1 := by unfold wrap64; omega
  simp only [if_neg (show ¬ Mine.idxP (sameC c) l 0 < 0 by omega), hw, if_pos (show (0 : Int) ≤ Mine.idxP (sameC c) l 0 + 1 by omega), if_pos (show Mine.idxP (sameC c) l 0 + 1 ≤ (l.length : Int) by omega), impl_Cmd_141.f]
  have e : (Mine.idxP (sameC c) l 0 + 1).toNat = (Mine.idxP (sameC c) l 0).toNat + 1 := by omega
  rw [e]
  have hd : (l.drop ((Mine.idxP (sameC c) l 0).toNat + 1)).length ≤ 9223372036854775807 := by rw [List.length_drop]; omega
  refine Ev.bind (Ev.bind (indexC_ev _ c hd) (Ev.now _)) ?_
  have hx := Mine.idxP_any (sameC c) (l.drop ((Mine.idxP (sameC c) l 0).toNat + 1)) 0 (Int.le_refl _)
  rw [show decide (Mine.idxP (sameC c) (l.drop ((Mine.idxP (sameC c) l 0).toNat + 1)) 0 ≥ 0) = Mine.anyP (sameC c) (l.drop ((Mine.idxP (sameC c) l 0).toNat + 1)) from hx]
  cases hp : Mine.anyP (sameC c) (l.drop ((Mine.idxP (sameC c) l 0).toNat + 1)) with
  | true => simpa using Ev.now true
  | false => simpa [show ¬ Mine.idxP (sameC c) l 0 < 0 by omega] using Ev.now false
theorem onceIn_ev (a b : List S26) (hm : b.length ≤ 9223372036854775806) : Ev (fun k => impl_onceIn.f k a b) (!Mine.anyP (fun c => decide (onceS b c < 0)) a) := by
 unfold impl_onceIn.f impl_onceIn_1_in_c.f
 exact Ev.map (anyO_ev (fun k (x : S26) => impl_onceIn_1.f k x.f0 x.f1 x.f2 x.f3 x.f4 b) a (fun c => decide (onceS b c < 0)) (fun x _ => onceIn1_ev b x hm)) (fun t => !t)

theorem l1Same_l (xs ys : List Int) (he : xs.length = ys.length) (hm : xs.length ≤ 9223372036854775807) : ∀ (d i : Nat), xs.length - i = d → Ev (fun k => spec_l1Same.l0 k xs ys (xs.length : Int) (i : Int)) (decide (xs.drop i = ys.drop i)) := by
 intro d
 induction d with
 | zero =>
  intro i hd
  rw [List.drop_eq_nil_of_le (show xs.length ≤ i by omega), List.drop_eq_nil_of_le (show ys.length ≤ i by omega)]
  exact Ev.step (f := fun _ => some true) (fun k => by simp only [spec_l1Same.l0]; rw [if_neg (by omega)]) (Ev.now _)
 | succ d ih =>
  intro i hd
  have hlt : i < xs.length := by omega
  rw [Mine.drop_at xs 0 i hlt, Mine.drop_at ys 0 i (by omega)]
  have body : ∀ k, spec_l1Same.l0 (k + 1) xs ys (xs.length : Int) (i : Int) = if xs.getD i 0 = ys.getD i 0 then spec_l1Same.l0 k xs ys (xs.length : Int) ((i + 1 : Nat) : Int) else some false := by
   intro k
   simp only [spec_l1Same.l0]
   rw [if_pos (by omega), if_pos (by omega), if_pos (by omega), if_pos (by omega), rd_nat, rd_nat, wrap_next hlt hm]
  by_cases hb : xs.getD i 0 = ys.getD i 0
  ·refine Ev.step (f := fun k => spec_l1Same.l0 k xs ys (xs.length : Int) ((i + 1 : Nat) : Int)) (fun k => by rw [body, if_pos hb]) ?_
   have : decide (xs.getD i 0 :: xs.drop (i + 1) = ys.getD i 0 :: ys.drop (i + 1)) = decide (xs.drop (i + 1) = ys.drop (i + 1)) := by rw [hb]; simp
   rw [this]
   exact ih (i + 1) (by omega)
  ·refine Ev.step (f := fun _ => some false) (fun k => by rw [body, if_neg hb]) ?_
   have : decide (xs.getD i 0 :: xs.drop (i + 1) = ys.getD i 0 :: ys.drop (i + 1)) = false := by
    rw [decide_eq_false_iff_not]; intro h; exact hb (List.cons.inj h).1
   rw [this]
   exact Ev.now _
theorem l1Same_ev (xs ys : List Int) (hm : xs.length ≤ 9223372036854775807) : Ev (fun k => spec_l1Same.f k xs ys) (decide (xs = ys)) := by
 unfold spec_l1Same.f
 by_cases h : xs.length = ys.length
 ·exact Ev.congr (f := fun k => spec_l1Same.l0 k xs ys (xs.length : Int) ((0 : Nat) : Int)) (fun k => by rw [if_pos (by omega)]; rfl) (l1Same_l xs ys h hm _ 0 rfl)
 ·refine Ev.congr (f := fun _ => some false) (fun k => by rw [if_neg (by omega)]) ?_
  rw [decide_eq_false (fun e => h (by rw [e]))]
  exact Ev.now _

theorem equalInts_l (xs ys : List Int) (he : xs.length = ys.length) (hm : xs.length ≤ 9223372036854775807) : ∀ (d i : Nat), xs.length - i = d → Ev (fun k => slices_Equal_int_int.l0 k xs ys (xs.length : Int) (i : Int)) (decide (xs.drop i = ys.drop i)) := by
 intro d
 induction d with
 | zero =>
  intro i hd
  rw [List.drop_eq_nil_of_le (show xs.length ≤ i by omega), List.drop_eq_nil_of_le (show ys.length ≤ i by omega)]
  exact Ev.step (f := fun _ => some true) (fun k => by simp only [slices_Equal_int_int.l0]; rw [if_neg (by omega)]) (Ev.now _)
 | succ d ih =>
  intro i hd
  have hlt : i < xs.length := by omega
  rw [Mine.drop_at xs 0 i hlt, Mine.drop_at ys 0 i (by omega)]
  have body : ∀ k, slices_Equal_int_int.l0 (k + 1) xs ys (xs.length : Int) (i : Int) = if xs.getD i 0 = ys.getD i 0 then slices_Equal_int_int.l0 k xs ys (xs.length : Int) ((i + 1 : Nat) : Int) else some false := by
   intro k
   simp only [slices_Equal_int_int.l0]
   rw [if_pos (by omega), if_pos (by omega), if_pos (by omega), if_pos (by omega), rd_nat, rd_nat, wrap_next hlt hm]
  by_cases hb : xs.getD i 0 = ys.getD i 0
  ·refine Ev.step (f := fun k => slices_Equal_int_int.l0 k xs ys (xs.length : Int) ((i + 1 : Nat) : Int)) (fun k => by rw [body, if_pos hb]) ?_
   have : decide (xs.getD i 0 :: xs.drop (i + 1) = ys.getD i 0 :: ys.drop (i + 1)) = decide (xs.drop (i + 1) = ys.drop (i + 1)) := by rw [hb]; simp
   rw [this]
   exact ih (i + 1) (by omega)
  ·refine Ev.step (f := fun _ => some false) (fun k => by rw [body, if_neg hb]) ?_
   have : decide (xs.getD i 0 :: xs.drop (i + 1) = ys.getD i 0 :: ys.drop (i + 1)) = false := by
    rw [decide_eq_false_iff_not]; intro h; exact hb (List.cons.inj h).1
   rw [this]
   exact Ev.now _
theorem equalInts_ev (xs ys : List Int) (hm : xs.length ≤ 9223372036854775807) : Ev (fun k => slices_Equal_int_int.f k xs ys) (decide (xs = ys)) := by
 unfold slices_Equal_int_int.f
 by_cases h : xs.length = ys.length
 ·exact Ev.congr (f := fun k => slices_Equal_int_int.l0 k xs ys (xs.length : Int) ((0 : Nat) : Int)) (fun k => by rw [if_pos (by omega)]; rfl) (equalInts_l xs ys h hm _ 0 rfl)
 ·refine Ev.congr (f := fun _ => some false) (fun k => by rw [if_neg (by omega)]) ?_
  rw [decide_eq_false (fun e => h (by rw [e]))]
  exact Ev.now _

theorem anyP_zip {α β : Type} (f : α → Bool) (g : β → Bool) : ∀ (a : List α) (b : List β), a.length = b.length → Mine.anyP (fun xy => f xy.1 || g xy.2) (a.zip b) = (Mine.anyP f a || Mine.anyP g b)
 | [], [], _ => rfl
 | [], _ :: _, h => by simp at h
 | _ :: _, [], h => by simp at h
 | x :: a, y :: b, h => by
  rw [List.zip_cons_cons, Mine.anyP_cons, Mine.anyP_cons, Mine.anyP_cons, anyP_zip f g a b (by simpa using h)]
  cases f x <;> cases g y <;> cases Mine.anyP f a <;> simp
theorem getD_zip {α β : Type} (a : List α) (b : List β) (i : Nat) (x : α) (y : β) (ha : i < a.length) (hb : i < b.length) : (a.zip b).getD i (x, y) = (a.getD i x, b.getD i y) := by
 have h : (a.zip b)[i]? = some (a[i], b[i]) := by rw [List.getElem?_eq_getElem (by rw [List.length_zip]; omega), List.getElem_zip]
 simp [List.getD_eq_getElem?_getD, ha, hb, h]
def otherT (b : List S26) (other : List S30) (ct : S26 × S30) : Bool :=
 !(ct.2.f0 == (other.getD (onceS b ct.1).toNat z30).f0) || !(ct.2.f1 == (other.getD (onceS b ct.1).toNat z30).f1)
def allOnce (a b : List S26) : Bool := !(Mine.anyP (fun c => decide (onceS b c < 0)) a || Mine.anyP (fun c => decide (onceS a c < 0)) b)
def tellsIn (a b : List S26) : Bool × Bool :=
 if Mine.anyP (otherT b (playL b [100, 100, 100, 100] []).2) (a.zip (playL a [100, 100, 100, 100] []).2) = true then (false, true)
 else (decide ((playL a [100, 100, 100, 100] []).1 = (playL b [100, 100, 100, 100] []).1), true)
def tellsR (a b : List S26) : Bool × Bool :=
 if goodCmdsB a = true ∧ goodCmdsB b = true ∧ a.length = b.length ∧ allOnce a b = true then tellsIn a b else (false, false)
theorem rdT_nat (l : List S30) (i : Nat) : rd_T30 l (i : Int) = l.getD i z30 := by unfold rd_T30; rw [Int.toNat_natCast]
theorem specTells_l1 (a b : List S26) (s u : List Int) (told other : List S30) (ha : a.length ≤ 60) (hb : b.length ≤ 60) (ht : told.length = a.length) (ho : other.length = b.length) (hs : s.length ≤ 4) (hp : ∀ c ∈ a, 0 ≤ onceS b c) :
  Ev (fun k => spec_TellsSame.l1 k b s told u other a (a.length : Int) 0) (if Mine.anyP (otherT b other) (a.zip told) = true then (false, true) else (decide (s = u), true)) := by
 have hz : (a.zip told).length = a.length := by rw [List.length_zip]; omega
 refine loop_any (fun k i => spec_TellsSame.l1 k b s told u other a (a.length : Int) i) (a.zip told) (z26, z30) (otherT b other) (false, true) (decide (s = u), true) (fun i hi => ?_) (fun _ => ?_)
 ·rw [hz] at hi
  have hc := hp _ (Mine.getD_mem a z26 i hi)
  have hr := onceS_range b (a.getD i z26)
  have hw : ∀ r : Bool × Bool, Ev (fun k => if otherT b other (a.getD i z26, told.getD i z30) = true then some (false, true) else spec_TellsSame.l1 k b s told u other a (a.length : Int) ((i + 1 : Nat) : Int)) r → Ev (fun k => spec_TellsSame.l1 k b s told u other a (a.length : Int) (i : Int)) r := by
   intro r h
   refine Ev.step (f := fun k => (spec_l11Once.f k b (a.getD i z26).f0 (a.getD i z26).f1 (a.getD i z26).f2 (a.getD i z26).f3 (a.getD i z26).f4).bind _) (fun k => by
    simp only [spec_TellsSame.l1]
    rw [if_pos (by omega), if_pos (by omega), if_pos (by omega), if_pos (by omega), rdC_nat, rdT_nat, wrap_next hi (by omega)]) ?_
   refine Ev.bind (specOnce_ev b _ (by omega)) ?_
   have e : rd_T30 other (onceS b (a.getD i z26)) = other.getD (onceS b (a.getD i z26)).toNat z30 := rfl
   simp only [if_pos hc, if_pos (show onceS b (a.getD i z26) < (other.length : Int) by omega), e]
   exact h
  rw [getD_zip a told i z26 z30 hi (by omega)]
  refine ⟨fun h => hw _ ?_, fun h r hr2 => hw _ ?_⟩
  ·simp only [h, if_true]; exact Ev.now _
  ·simp only [h, Bool.false_eq_true, if_false]; exact hr2
 ·rw [hz]
  refine Ev.step (f := fun k => (spec_l1Same.f k s u).bind fun t => some (t, true)) (fun k => by simp only [spec_TellsSame.l1]; rw [if_neg (by omega)]) ?_
  exact Ev.map (l1Same_ev s u (by omega)) (fun t => (t, true))
theorem implTells_l0 (a b : List S26) (s u : List Int) (told other : List S30) (ha : a.length ≤ 60) (hb : b.length ≤ 60) (ht : told.length = a.length) (ho : other.length = b.length) (hs : s.length ≤ 4) (hp : ∀ c ∈ a, 0 ≤ onceS b c) :
  Ev (fun k => impl_TellsSame.l0 k b s told u other a (a.length : Int) 0) (if Mine.anyP (otherT b other) (a.zip told) = true then (false, true) else (decide (s = u), true)) := by
 have hz : (a.zip told).length = a.length := by rw [List.length_zip]; omega
 refine loop_any (fun k i => impl_TellsSame.l0 k b s told u other a (a.length : Int) i) (a.zip told) (z26, z30) (otherT b other) (false, true) (decide (s = u), true) (fun i hi => ?_) (fun _ => ?_)
 ·rw [hz] at hi
  have hc := hp _ (Mine.getD_mem a z26 i hi)
  have hr := onceS_range b (a.getD i z26)
  have hw : ∀ r : Bool × Bool, Ev (fun k => if otherT b other (a.getD i z26, told.getD i z30) = true then some (false, true) else impl_TellsSame.l0 k b s told u other a (a.length : Int) ((i + 1 : Nat) : Int)) r → Ev (fun k => impl_TellsSame.l0 k b s told u other a (a.length : Int) (i : Int)) r := by
   intro r h
   refine Ev.step (f := fun k => (impl_Cmd_88.f k b (a.getD i z26).f0 (a.getD i z26).f1 (a.getD i z26).f2 (a.getD i z26).f3 (a.getD i z26).f4).bind _) (fun k => by
    simp only [impl_TellsSame.l0]
    rw [if_pos (by omega), if_pos (by omega), if_pos (by omega), if_pos (by omega), rdC_nat, rdT_nat, wrap_next hi (by omega)]) ?_
   refine Ev.bind (indexC_ev b _ (by omega)) ?_
   rw [onceS_idx hc]
   have e : rd_T30 other (onceS b (a.getD i z26)) = other.getD (onceS b (a.getD i z26)).toNat z30 := rfl
   simp only [if_pos hc, if_pos (show onceS b (a.getD i z26) < (other.length : Int) by omega), e]
   exact h
  rw [getD_zip a told i z26 z30 hi (by omega)]
  refine ⟨fun h => hw _ ?_, fun h r hr2 => hw _ ?_⟩
  ·simp only [h, if_true]; exact Ev.now _
  ·simp only [h, Bool.false_eq_true, if_false]; exact hr2
 ·rw [hz]
  refine Ev.step (f := fun k => (slices_Equal_int_int.f k s u).bind fun t => some (t, true)) (fun k => by simp only [impl_TellsSame.l0]; rw [if_neg (by omega)]) ?_
  exact Ev.map (equalInts_ev s u (by omega)) (fun t => (t, true))
theorem once_of {a b : List S26} (h : Mine.anyP (fun c => decide (onceS b c < 0)) a = false) : ∀ c ∈ a, 0 ≤ onceS b c := fun c hc => by
 have := Mine.anyP_false.1 h c hc
 rw [decide_eq_false_iff_not] at this
 omega
theorem specTells_l0 (a b : List S26) (ga : goodCmdsB a = true) (gb : goodCmdsB b = true) (hl : a.length = b.length) :
  Ev (fun k => spec_TellsSame.l0 k a b (a.length : Int) 0) (if allOnce a b = true then tellsIn a b else (false, false)) := by
 obtain ⟨ha, _⟩ := goodCmds_parts ga
 obtain ⟨hb, _⟩ := goodCmds_parts gb
 have hz : (a.zip b).length = a.length := by rw [List.length_zip]; omega
 have e : allOnce a b = !Mine.anyP (fun xy : S26 × S26 => decide (onceS b xy.1 < 0) || decide (onceS a xy.2 < 0)) (a.zip b) := by
  unfold allOnce; rw [anyP_zip (fun c => decide (onceS b c < 0)) (fun c => decide (onceS a c < 0)) a b hl]
 have key := loop_any (fun k i => spec_TellsSame.l0 k a b (a.length : Int) i) (a.zip b) (z26, z26) (fun xy : S26 × S26 => decide (onceS b xy.1 < 0) || decide (onceS a xy.2 < 0)) (false, false) (tellsIn a b) (fun i hi => ?_) (fun hn => ?_)
 ·rw [e]
  cases hq : Mine.anyP (fun xy : S26 × S26 => decide (onceS b xy.1 < 0) || decide (onceS a xy.2 < 0)) (a.zip b) with
  | true => rw [hq] at key; simpa using key
  | false => rw [hq] at key; simpa using key
 ·rw [hz] at hi
  have hw : ∀ r : Bool × Bool, Ev (fun k => if (decide (onceS b (a.getD i z26) < 0) || decide (onceS a (b.getD i z26) < 0)) = true then some (false, false) else spec_TellsSame.l0 k a b (a.length : Int) ((i + 1 : Nat) : Int)) r → Ev (fun k => spec_TellsSame.l0 k a b (a.length : Int) (i : Int)) r := by
   intro r h
   refine Ev.step (f := fun k => (spec_l11Once.f k b (a.getD i z26).f0 (a.getD i z26).f1 (a.getD i z26).f2 (a.getD i z26).f3 (a.getD i z26).f4).bind _) (fun k => by
    simp only [spec_TellsSame.l0]
    rw [if_pos (by omega), if_pos (by omega), if_pos (by omega), rdC_nat, rdC_nat, wrap_next hi (by omega)]) ?_
   refine Ev.bind (specOnce_ev b _ (by omega)) ?_
   by_cases h1 : onceS b (a.getD i z26) < 0
   ·simp only [h1, decide_true, Bool.true_or, if_true] at h ⊢; exact h
   ·simp only [h1, decide_false, Bool.false_or, if_false, if_pos (show (i : Int) < (b.length : Int) by omega)] at h ⊢
    refine Ev.bind (specOnce_ev a _ (by omega)) ?_
    by_cases h2 : onceS a (b.getD i z26) < 0
    ·simp only [h2, decide_true, if_true] at h ⊢; exact h
    ·simp only [h2, decide_false, Bool.false_eq_true, if_false] at h ⊢; exact h
  rw [getD_zip a b i z26 z26 hi (by omega)]
  refine ⟨fun h => hw _ ?_, fun h r hr2 => hw _ ?_⟩
  ·simp only [h, if_true]; exact Ev.now _
  ·simp only [h, Bool.false_eq_true, if_false]; exact hr2
 ·rw [hz]
  rw [anyP_zip (fun c => decide (onceS b c < 0)) (fun c => decide (onceS a c < 0)) a b hl, Bool.or_eq_false_iff] at hn
  refine Ev.step (fun k => by simp only [spec_TellsSame.l0]; rw [if_neg (by omega)]) (Ev.bind (specPlay_ev a ga) (Ev.bind (specPlay_ev b gb) ?_))
  unfold tellsIn
  exact specTells_l1 a b _ _ _ _ ha hb (by rw [playL_len2]; simp) (by rw [playL_len2]; simp) (by rw [playL_len1]; simp) (once_of hn.1)
theorem tellsR_false1 {a b : List S26} (h : ¬ (goodCmdsB a = true ∧ goodCmdsB b = true ∧ a.length = b.length ∧ allOnce a b = true)) : tellsR a b = (false, false) := by unfold tellsR; rw [if_neg h]
theorem specTells_ev (a b : List S26) (ma : a.length ≤ 9223372036854775806) (mb : b.length ≤ 9223372036854775806) : Ev (fun k => spec_TellsSame.f k a b) (tellsR a b) := by
 have hj : Ev (fun k => spec_TellsSame.j0 k a b true) (false, false) := Ev.step (f := fun _ => some _) (fun k => by simp only [spec_TellsSame.j0]; rw [if_pos trivial]) (Ev.now _)
 unfold spec_TellsSame.f
 refine Ev.bind (l11Cmds_ev a (by omega)) ?_
 cases ga : goodCmdsB a with
 | false => rw [tellsR_false1 (by simp [ga])]; simpa using hj
 | true =>
  simp only [if_true]
  refine Ev.bind (l11Cmds_ev b (by omega)) ?_
  cases gb : goodCmdsB b with
  | false => rw [tellsR_false1 (by simp [gb])]; simpa using hj
  | true =>
   simp only [if_true]
   by_cases hl : a.length = b.length
   ·have h1 := specTells_l0 a b ga gb hl
    have e : tellsR a b = if allOnce a b = true then tellsIn a b else (false, false) := by unfold tellsR; simp [ga, gb, hl]
    rw [e]
    exact Ev.step (fun k => by simp only [spec_TellsSame.j0]; rw [if_neg (by simp [hl])]) h1
   ·rw [tellsR_false1 (by simp [hl])]
    rw [show ((a.length : Int) != (b.length : Int)) = true by simp; omega]
    exact hj
theorem implTells_ev (a b : List S26) (ma : a.length ≤ 9223372036854775806) (mb : b.length ≤ 9223372036854775806) : Ev (fun k => impl_TellsSame.f k a b) (tellsR a b) := by
 have hj : Ev (fun k => impl_TellsSame.j0 k a b true) (false, false) := Ev.step (f := fun _ => some _) (fun k => by simp only [impl_TellsSame.j0]; rw [if_pos trivial]) (Ev.now _)
 unfold impl_TellsSame.f
 simp only [implGoodCmds_f, Option.bind_some]
 cases ga : goodCmdsB a with
 | false => rw [tellsR_false1 (by simp [ga])]; simpa using hj
 | true =>
  simp only [if_true]
  cases gb : goodCmdsB b with
  | false => rw [tellsR_false1 (by simp [gb])]; simpa using hj
  | true =>
   simp only [if_true]
   by_cases hl : a.length = b.length
   ·simp only [if_pos (show (a.length : Int) = (b.length : Int) by omega)]
    refine Ev.bind (onceIn_ev a b mb) ?_
    cases h1 : Mine.anyP (fun c => decide (onceS b c < 0)) a with
    | true => rw [tellsR_false1 (by simp [allOnce, h1])]; simpa using hj
    | false =>
     simp only [Bool.not_false, if_true]
     refine Ev.bind (onceIn_ev b a ma) ?_
     cases h2 : Mine.anyP (fun c => decide (onceS a c < 0)) b with
     | true => rw [tellsR_false1 (by simp [allOnce, h2])]; simpa using hj
     | false =>
      have e : tellsR a b = tellsIn a b := by unfold tellsR; rw [if_pos ⟨ga, gb, hl, by simp [allOnce, h1, h2]⟩]
      obtain ⟨ha, _⟩ := goodCmds_parts ga
      obtain ⟨hb, _⟩ := goodCmds_parts gb
      rw [e]
      refine Ev.step (fun k => by simp only [impl_TellsSame.j0]; rw [if_neg (by simp)]) (Ev.bind (implPlay_ev a ga) (Ev.bind (implPlay_ev b gb) ?_))
      unfold tellsIn
      exact implTells_l0 a b _ _ _ _ ha hb (by rw [playL_len2]; simp) (by rw [playL_len2]; simp) (by rw [playL_len1]; simp) (once_of h1)
   ·rw [tellsR_false1 (by simp [hl])]
    simp only [if_neg (show ¬ (a.length : Int) = (b.length : Int) by omega)]
    exact hj

def common (x y : List Int) : Bool := Mine.anyP (fun k => Mine.anyP (fun z => z == k) y) x
def meetB (a b : List (List Int)) : Bool := !Mine.anyP (fun x => Mine.anyP (fun y => !common x y) b) a

theorem implTouches_f (k0 i f t a : Int) (h : Mine.goodCmdB k0 i f t a = true) : impl_touches.f k0 i f t a = some (touchL k0 f t) := by
 unfold impl_touches.f touchL
 rcases good_parts h with ⟨rfl, _⟩ | ⟨rfl, _, _, _, hne, _⟩ | ⟨rfl, _⟩
 ·simp
 ·simp only [if_true, putL]
  by_cases hlt : f < t
  ·rw [if_pos hlt]; simp only [Option.some.injEq, List.cons.injEq, and_true]; unfold mn mx; constructor <;> omega
  ·rw [if_neg hlt, if_neg hne]; simp only [Option.some.injEq, List.cons.injEq, and_true]; unfold mn mx; constructor <;> omega
 ·simp

def idxI (n : Int) : List Int → Int → Int
 | [], _ => -1
 | x :: xs, i => if n = x then i else idxI n xs (i + 1)
theorem index_l (xs : List Int) (n : Int) (hm : xs.length ≤ 9223372036854775807) : ∀ (d i : Nat), xs.length - i = d → Ev (fun k => slices_Index_int_int.l0 k xs n (xs.length : Int) (i : Int)) (idxI n (xs.drop i) i) := by
 intro d
 induction d with
 | zero => intro i hd; rw [List.drop_eq_nil_of_le (by omega)]; exact Ev.step (f := fun _ => some (-1)) (fun k => by simp only [slices_Index_int_int.l0]; rw [if_neg (by omega)]) (Ev.now _)
 | succ d ih =>
  intro i hd
  have hlt : i < xs.length := by omega
  rw [Mine.drop_at xs 0 i hlt, idxI]
  have body : ∀ k, slices_Index_int_int.l0 (k + 1) xs n (xs.length : Int) (i : Int) = if n = xs.getD i 0 then some (i : Int) else slices_Index_int_int.l0 k xs n (xs.length : Int) ((i + 1 : Nat) : Int) := by
   intro k
   simp only [slices_Index_int_int.l0]
   rw [if_pos (by omega), if_pos (by omega), if_pos (by omega), rd_nat, wrap_next hlt hm]
  by_cases h : n = xs.getD i 0
  ·rw [if_pos h]; exact Ev.step (f := fun _ => some (i : Int)) (fun k => by rw [body, if_pos h]) (Ev.now _)
  ·rw [if_neg h]; exact Ev.step (fun k => by rw [body, if_neg h]) (by simpa using ih (i + 1) (by omega))
theorem idxI_any (n : Int) : ∀ (xs : List Int) (i : Int), 0 ≤ i → decide (idxI n xs i ≥ 0) = Mine.anyP (fun x => x == n) xs
 | [], i, _ => by simp [idxI, Mine.anyP]
 | x :: xs, i, hi => by
  rw [idxI, Mine.anyP_cons]
  by_cases h : n = x
  ·rw [if_pos h]; simp [h, hi]
  ·rw [if_neg h, idxI_any n xs (i + 1) (by omega)]; simp [show ¬ x = n from fun e => h e.symm]
theorem index_ev (xs : List Int) (n : Int) (hm : xs.length ≤ 9223372036854775807) : Ev (fun k => slices_Index_int_int.f k xs n) (idxI n xs 0) := by
 simpa [slices_Index_int_int.f] using index_l xs n hm _ 0 rfl

theorem contains_ev (xs : List Int) (n : Int) (hm : xs.length ≤ 9223372036854775807) : Ev (fun k => slices_Contains_int_int.f k xs n) (Mine.anyP (fun x => x == n) xs) := by
 have h := Ev.map (index_ev xs n hm) (fun t => decide (t ≥ 0))
 rw [idxI_any n xs 0 (Int.le_refl 0)] at h
 exact h

theorem implInterfere_ev (k0 i f t a k1 i1 f1 t1 a1 : Int) (h : Mine.goodCmdB k0 i f t a = true) (h1 : Mine.goodCmdB k1 i1 f1 t1 a1 = true) : Ev (fun k => impl_interfere.f k k0 i f t a k1 i1 f1 t1 a1) (common (touchL k0 f t) (touchL k1 f1 t1)) := by
 unfold impl_interfere.f
 simp only [implTouches_f _ _ _ _ _ h, Option.bind_some]
 have hl1 := touchL_length k1 f1 t1
 refine Ev.map (?_ : Ev (fun k => impl_interfere_1_in_c.f k (touchL k0 f t) k1 i1 f1 t1 a1) _) (fun t => t)
 unfold impl_interfere_1_in_c.f common
 refine anyO_ev (fun k x => impl_interfere_1.f k x k1 i1 f1 t1 a1) (touchL k0 f t) _ (fun x _ => ?_)
 unfold impl_interfere_1.f
 simp only [implTouches_f _ _ _ _ _ h1, Option.bind_some]
 exact Ev.map (contains_ev (touchL k1 f1 t1) x (by omega)) (fun t => t)

theorem mem_putL (n x : Int) : ∀ l : List Int, x ∈ putL l n ↔ x ∈ l ∨ x = n
 | [] => by simp [putL]
 | y :: l => by
  rw [putL]
  split
  ·rw [List.mem_cons, mem_putL n x l, List.mem_cons, or_assoc]
  ·split
   ·rename_i h; subst h; rw [List.mem_cons]; exact ⟨fun h => Or.inl h, fun h => h.elim id (fun h => Or.inl h)⟩
   ·rw [List.mem_cons, List.mem_cons, or_comm]
theorem common_false {x y : List Int} (h : common x y = false) : ∀ a ∈ x, a ∉ y := by
 unfold common at h
 intro a ha hb
 have := Mine.anyP_false.1 h a ha
 rw [Mine.anyP_false] at this
 have := this a hb
 simp at this
theorem getD_set_ne {α : Type} (xs : List α) (i j : Nat) (v d : α) (h : i ≠ j) : (xs.set i v).getD j d = xs.getD j d := by
 rw [List.getD_eq_getElem?_getD, List.getD_eq_getElem?_getD, List.getElem?_set_ne h]
theorem touch_apart {k i f t a k1 i1 f1 t1 a1 : Int} (h : Mine.goodCmdB k i f t a = true) (h1 : Mine.goodCmdB k1 i1 f1 t1 a1 = true) (hc : common (touchL k f t) (touchL k1 f1 t1) = false) :
  ((k = 1 ∨ k = 2) → (k1 = 1 ∨ k1 = 2) → f.toNat ≠ f1.toNat) ∧ (k = 1 → (k1 = 1 ∨ k1 = 2) → t.toNat ≠ f1.toNat) ∧ ((k = 1 ∨ k = 2) → k1 = 1 → f.toNat ≠ t1.toNat) ∧ (k = 1 → k1 = 1 → t.toNat ≠ t1.toNat) := by
 have hap := common_false hc
 have hf : (k = 1 ∨ k = 2) → f ∈ touchL k f t := by
  rintro (h | h) <;> subst h <;> unfold touchL
  ·rw [if_pos rfl, mem_putL]; simp
  ·simp
 have ht : k = 1 → t ∈ touchL k f t := by
  intro h; subst h; unfold touchL; rw [if_pos rfl, mem_putL]; simp
 have hf1 : (k1 = 1 ∨ k1 = 2) → f1 ∈ touchL k1 f1 t1 := by
  rintro (h | h) <;> subst h <;> unfold touchL
  ·rw [if_pos rfl, mem_putL]; simp
  ·simp
 have ht1 : k1 = 1 → t1 ∈ touchL k1 f1 t1 := by
  intro h; subst h; unfold touchL; rw [if_pos rfl, mem_putL]; simp
 have b := good_parts h
 have b1 := good_parts h1
 refine ⟨fun x y e => ?_, fun x y e => ?_, fun x y e => ?_, fun x y e => ?_⟩
 ·exact hap _ (hf x) (by rw [show f = f1 by omega]; exact hf1 y)
 ·exact hap _ (ht x) (by rw [show t = f1 by omega]; exact hf1 y)
 ·exact hap _ (hf x) (by rw [show f = t1 by omega]; exact ht1 y)
 ·exact hap _ (ht x) (by rw [show t = t1 by omega]; exact ht1 y)
theorem getD_set_or {α : Type} (xs : List α) (i j : Nat) (v d : α) : (xs.set i v).getD j d = if i = j ∧ i < xs.length then v else xs.getD j d := by
 by_cases h : i = j
 ·subst h
  by_cases hl : i < xs.length
  ·rw [if_pos ⟨rfl, hl⟩, getD_set_self xs i v d hl]
  ·rw [if_neg (fun h => hl h.2), List.set_eq_of_length_le (by omega)]
 ·rw [if_neg (fun e => h e.1), getD_set_ne xs i j v d h]
def moveL (l : List Int) (F T : Nat) (a : Int) : List Int := (l.set F (wrap64 (l.getD F 0 - a))).set T (wrap64 (l.getD T 0 + a))
theorem applyL_move (l : List Int) (f t a : Int) (hne : f.toNat ≠ t.toNat) : applyL l 1 f t a = if l.getD f.toNat 0 < a then (l, 2, 0) else (moveL l f.toNat t.toNat a, 1, 0) := by
 unfold applyL moveL
 rw [if_neg (by omega), if_pos rfl, getD_set_ne _ _ _ _ _ hne]
theorem applyL_read (l : List Int) (f t a : Int) : applyL l 2 f t a = (l, 3, l.getD f.toNat 0) := by unfold applyL; rw [if_pos rfl]
theorem applyL_none (l : List Int) (f t a : Int) : applyL l 0 f t a = (l, 0, 0) := by unfold applyL; rw [if_neg (by omega), if_neg (by omega)]
theorem moveL_far (l : List Int) (F T j : Nat) (a : Int) (h1 : F ≠ j) (h2 : T ≠ j) : (moveL l F T a).getD j 0 = l.getD j 0 := by
 unfold moveL
 rw [getD_set_ne _ _ _ _ _ h2, getD_set_ne _ _ _ _ _ h1]
theorem moveL_comm (l : List Int) (F T F1 T1 : Nat) (a a1 : Int) (h1 : F ≠ F1) (h2 : T ≠ F1) (h3 : F ≠ T1) (h4 : T ≠ T1) : moveL (moveL l F T a) F1 T1 a1 = moveL (moveL l F1 T1 a1) F T a := by
 have e1 := moveL_far l F T F1 a h1 h2
 have e2 := moveL_far l F T T1 a h3 h4
 have e3 := moveL_far l F1 T1 F a1 h1.symm h3.symm
 have e4 := moveL_far l F1 T1 T a1 h2.symm h4.symm
 unfold moveL at *
 rw [e1, e2, e3, e4]
 generalize wrap64 (l.getD F1 0 - a1) = x
 generalize wrap64 (l.getD T1 0 + a1) = y
 generalize wrap64 (l.getD F 0 - a) = u
 generalize wrap64 (l.getD T 0 + a) = v
 rw [List.set_comm _ _ h2, List.set_comm _ _ h1, List.set_comm _ _ h4, List.set_comm _ _ h3]
theorem apply_comm (l : List Int) {k i f t a k1 i1 f1 t1 a1 : Int} (h : Mine.goodCmdB k i f t a = true) (h1 : Mine.goodCmdB k1 i1 f1 t1 a1 = true) (hc : common (touchL k f t) (touchL k1 f1 t1) = false) :
  (applyL (applyL l k f t a).1 k1 f1 t1 a1).2 = (applyL l k1 f1 t1 a1).2 ∧ (applyL (applyL l k1 f1 t1 a1).1 k f t a).2 = (applyL l k f t a).2 ∧ (applyL (applyL l k f t a).1 k1 f1 t1 a1).1 = (applyL (applyL l k1 f1 t1 a1).1 k f t a).1 := by
 obtain ⟨n1, n2, n3, n4⟩ := touch_apart h h1 hc
 rcases good_parts h with ⟨rfl, _⟩ | ⟨rfl, _, hf, ht, hft, _⟩ | ⟨rfl, _⟩
 ·simp only [applyL_none, and_self]
 ·have hne : f.toNat ≠ t.toNat := by omega
  rcases good_parts h1 with ⟨rfl, _⟩ | ⟨rfl, _, hf1, ht1, hft1, _⟩ | ⟨rfl, _⟩
  ·simp only [applyL_none, and_self]
  ·have m1 := n1 (Or.inl rfl) (Or.inl rfl)
   have m2 := n2 rfl (Or.inl rfl)
   have m3 := n3 (Or.inl rfl) rfl
   have m4 := n4 rfl rfl
   have hne1 : f1.toNat ≠ t1.toNat := by omega
   simp only [applyL_move _ _ _ _ hne, applyL_move _ _ _ _ hne1]
   by_cases c0 : l.getD f.toNat 0 < a
   ·by_cases c1 : l.getD f1.toNat 0 < a1
    ·simp only [if_pos c0, if_pos c1, and_self]
    ·simp only [if_pos c0, if_neg c1, moveL_far l _ _ _ a1 m1.symm m3.symm, and_self]
   ·by_cases c1 : l.getD f1.toNat 0 < a1
    ·simp only [if_neg c0, if_pos c1, moveL_far l _ _ _ a m1 m2, and_self]
    ·simp only [if_neg c0, if_neg c1, moveL_far l _ _ _ a m1 m2, moveL_far l _ _ _ a1 m1.symm m3.symm, moveL_comm l _ _ _ _ a a1 m1 m2 m3 m4, and_self]
  ·have m1 := n1 (Or.inl rfl) (Or.inr rfl)
   have m2 := n2 rfl (Or.inr rfl)
   simp only [applyL_move _ _ _ _ hne, applyL_read]
   by_cases c0 : l.getD f.toNat 0 < a
   ·simp only [if_pos c0, and_self]
   ·simp only [if_neg c0, moveL_far l _ _ _ a m1 m2, and_self]
 ·rcases good_parts h1 with ⟨rfl, _⟩ | ⟨rfl, _, hf1, ht1, hft1, _⟩ | ⟨rfl, _⟩
  ·simp only [applyL_none, and_self]
  ·have m1 := n1 (Or.inr rfl) (Or.inl rfl)
   have m3 := n3 (Or.inr rfl) rfl
   have hne1 : f1.toNat ≠ t1.toNat := by omega
   simp only [applyL_move _ _ _ _ hne1, applyL_read]
   by_cases c1 : l.getD f1.toNat 0 < a1
   ·simp only [if_pos c1, and_self]
   ·simp only [if_neg c1, moveL_far l _ _ _ a1 m1.symm m3.symm, and_self]
  ·simp only [applyL_read, and_self]

def interR (k i f t a k1 i1 f1 t1 a1 : Int) : Bool × Bool := if Mine.goodCmdB k i f t a = true then if Mine.goodCmdB k1 i1 f1 t1 a1 = true then (common (touchL k f t) (touchL k1 f1 t1), true) else (false, false) else (false, false)
theorem implInter_ev (k0 i f t a k1 i1 f1 t1 a1 : Int) : Ev (fun k => impl_Interfere.f k k0 i f t a k1 i1 f1 t1 a1) (interR k0 i f t a k1 i1 f1 t1 a1) := by
 unfold impl_Interfere.f interR
 simp only [Option.bind_some, implGoodCmd]
 cases hg : Mine.goodCmdB k0 i f t a with
 | false => simpa using Ev.now _
 | true =>
  cases hg1 : Mine.goodCmdB k1 i1 f1 t1 a1 with
  | false => simpa using Ev.now _
  | true =>
   simp only [if_true]
   exact Ev.map (implInterfere_ev k0 i f t a k1 i1 f1 t1 a1 hg hg1) (fun t => (t, true))

abbrev CmdS := S26
def nextS (s : List Int) (c : CmdS) : List Int := (applyL s c.f0 c.f2 c.f3 c.f4).1
def toldS (s : List Int) (c : CmdS) : S30 := ⟨(applyL s c.f0 c.f2 c.f3 c.f4).2.1, (applyL s c.f0 c.f2 c.f3 c.f4).2.2⟩
def prS : List CmdS → List Int → List (CmdS × S30)
 | [], _ => []
 | c :: cs, s => (c, toldS s c) :: prS cs (nextS s c)
def endS : List CmdS → List Int → List Int
 | [], s => s
 | c :: cs, s => endS cs (nextS s c)
theorem playL_pr : ∀ (l : List CmdS) (s : List Int) (t : List S30), playL l s t = (endS l s, t ++ (prS l s).map (·.2))
 | [], s, t => by simp [playL, endS, prS]
 | c :: cs, s, t => by rw [playL, playL_pr cs]; simp [endS, prS, nextS, toldS]
theorem prS_fst : ∀ (l : List CmdS) (s : List Int), (prS l s).map (·.1) = l
 | [], _ => rfl
 | c :: cs, s => by rw [prS, List.map_cons, prS_fst cs]
def meetC (c x : CmdS) : Bool := common (touchL c.f0 c.f2 c.f3) (touchL x.f0 x.f2 x.f3)
theorem swapS (s : List Int) (x y : CmdS) (hx : goodS x = true) (hy : goodS y = true) (h : meetC x y = false) : nextS (nextS s x) y = nextS (nextS s y) x ∧ toldS (nextS s x) y = toldS s y ∧ toldS (nextS s y) x = toldS s x := by
 obtain ⟨h1, h2, h3⟩ := apply_comm s hx hy h
 unfold nextS toldS
 refine ⟨h3, ?_, ?_⟩
 ·rw [h1]
 ·rw [h2]
theorem moveS (x : CmdS) (v : List CmdS) (hx : goodS x = true) : ∀ (u : List CmdS) (s : List Int), (∀ y ∈ u, goodS y = true ∧ meetC x y = false) → endS (u ++ x :: v) s = endS (x :: (u ++ v)) s ∧ (prS (u ++ x :: v) s).Perm (prS (x :: (u ++ v)) s)
 | [], s, _ => ⟨rfl, List.Perm.refl _⟩
 | y :: u, s, h => by
  obtain ⟨hy, hm⟩ := h y (List.mem_cons_self ..)
  obtain ⟨i1, i2⟩ := moveS x v hx u (nextS s y) (fun z hz => h z (List.mem_cons_of_mem _ hz))
  obtain ⟨e1, e2, e3⟩ := swapS s x y hx hy hm
  refine ⟨?_, ?_⟩
  ·show endS (u ++ x :: v) (nextS s y) = endS (u ++ v) (nextS (nextS s x) y)
   rw [i1, e1]
   rfl
  ·show ((y, toldS s y) :: prS (u ++ x :: v) (nextS s y)).Perm ((x, toldS s x) :: (y, toldS (nextS s x) y) :: prS (u ++ v) (nextS (nextS s x) y))
   refine (i2.cons _).trans ?_
   show ((y, toldS s y) :: (x, toldS (nextS s y) x) :: prS (u ++ v) (nextS (nextS s y) x)).Perm _
   rw [e1, e2, e3]
   exact List.Perm.swap _ _ _
theorem sameS (p : CmdS → Int) : ∀ (a b : List CmdS) (s : List Int), (∀ c ∈ a, goodS c = true) → a.Perm b → b.Pairwise (fun x y => p x < p y) → a.Pairwise (fun x y => meetC x y = true → p x < p y) → endS a s = endS b s ∧ (prS a s).Perm (prS b s)
 | [], b, s, _, hp, _, _ => by
  obtain rfl := hp.symm.eq_nil
  exact ⟨rfl, List.Perm.refl _⟩
 | x :: a, b, s, hg, hp, hb, ha => by
  have hxb : x ∈ b := hp.mem_iff.1 (List.mem_cons_self ..)
  obtain ⟨u, v, rfl⟩ := List.append_of_mem hxb
  obtain ⟨hx, ha2⟩ := List.pairwise_cons.1 ha
  have hp2 : a.Perm (u ++ v) := (hp.trans List.perm_middle).cons_inv
  obtain ⟨b1, b2, b3⟩ := List.pairwise_append.1 hb
  have hu : ∀ y ∈ u, goodS y = true ∧ meetC x y = false := fun y hy => by
   have hlt := b3 y hy x (List.mem_cons_self ..)
   have hya : y ∈ a := hp2.mem_iff.2 (List.mem_append_left _ hy)
   refine ⟨hg y (List.mem_cons_of_mem _ hya), ?_⟩
   cases hm : meetC x y with
   | false => rfl
   | true => have := hx y hya hm; omega
  have hb2 : (u ++ v).Pairwise (fun x y => p x < p y) := hb.sublist (List.Sublist.append_left (List.sublist_cons_self x v) u)
  obtain ⟨i1, i2⟩ := sameS p a (u ++ v) (nextS s x) (fun c hc => hg c (List.mem_cons_of_mem _ hc)) hp2 hb2 ha2
  obtain ⟨m1, m2⟩ := moveS x v (hg x (List.mem_cons_self ..)) u s hu
  exact ⟨i1.trans m1.symm, (i2.cons _).trans m2.symm⟩
theorem sameC_eq (c x : CmdS) : sameC c x = true ↔ c = x := by
 obtain ⟨a, b, c, d, e⟩ := c
 obtain ⟨a', b', c', d', e'⟩ := x
 unfold sameC
 simp
theorem sameC_comm (c x : CmdS) : sameC c x = sameC x c := by
 cases h : sameC c x with
 | true => rw [(sameC_eq c x).1 h] at *; exact h.symm
 | false =>
  cases h2 : sameC x c with
  | false => rfl
  | true => rw [(sameC_eq x c).1 h2] at h; rw [(sameC_eq c c).2 rfl] at h; cases h
theorem once_at {l : List CmdS} {c : CmdS} (h : 0 ≤ onceS l c) : ∃ i : Nat, onceS l c = (i : Int) ∧ l[i]? = some c ∧ ∀ j : Nat, l[j]? = some c → j = i := by
 have hidx := onceS_idx h
 have hr := onceS_range l c
 obtain ⟨i, hi⟩ : ∃ i : Nat, onceS l c = (i : Int) := ⟨(onceS l c).toNat, by omega⟩
 have hil : i < l.length := by omega
 rw [hi] at hidx
 have hs := h
 unfold onceS at hs
 rw [hidx, if_neg (by omega), Int.toNat_natCast] at hs
 have hno : Mine.anyP (sameC c) (l.drop (i + 1)) = false := by
  cases hb : Mine.anyP (sameC c) (l.drop (i + 1)) with
  | false => rfl
  | true => rw [hb, if_pos rfl] at hs; omega
 have key : ∀ (l : List CmdS) (o m : Nat), Mine.idxP (sameC c) l (o : Int) = ((o + m : Nat) : Int) → l[m]? = some c ∧ ∀ j, j < m → l[j]? ≠ some c := by
  intro l
  induction l with
  | nil => intro o m hm; simp only [Mine.idxP] at hm; omega
  | cons y l ih =>
   intro o m hm
   rw [Mine.idxP] at hm
   cases hy : sameC c y with
   | true =>
    rw [hy, if_pos rfl] at hm
    obtain rfl : m = 0 := by omega
    rw [(sameC_eq c y).1 hy]
    exact ⟨rfl, fun j hj => by omega⟩
   | false =>
    rw [hy, if_neg (by simp)] at hm
    have hge : m ≠ 0 := by
     rintro rfl
     rcases idxP_range (sameC c) l ((o : Int) + 1) with h1 | h1 <;> omega
    obtain ⟨m, rfl⟩ : ∃ q, m = q + 1 := ⟨m - 1, by omega⟩
    have hm2 : Mine.idxP (sameC c) l ((o + 1 : Nat) : Int) = ((o + 1 + m : Nat) : Int) := by rw [show ((o + 1 : Nat) : Int) = (o : Int) + 1 by omega, hm]; omega
    obtain ⟨h1, h2⟩ := ih (o + 1) m hm2
    refine ⟨by simpa using h1, fun j hj => ?_⟩
    cases j with
    | zero =>
     intro he
     rw [List.getElem?_cons_zero] at he
     injection he with he
     rw [he, (sameC_eq c c).2 rfl] at hy
     cases hy
    | succ j => simpa using h2 j (by omega)
 obtain ⟨k1, k2⟩ := key l 0 i (by simpa using hidx)
 refine ⟨i, hi, k1, fun j hj => ?_⟩
 rcases Nat.lt_trichotomy j i with hlt | heq | hgt
 ·exact absurd hj (k2 j hlt)
 ·exact heq
 ·have hm : c ∈ l.drop (i + 1) := List.mem_iff_getElem?.2 ⟨j - (i + 1), by rw [List.getElem?_drop, show i + 1 + (j - (i + 1)) = j by omega]; exact hj⟩
  have := Mine.anyP_false.1 hno c hm
  rw [(sameC_eq c c).2 rfl] at this
  cases this
theorem perm_of_sub : ∀ (a b : List CmdS), a.Pairwise (· ≠ ·) → (∀ c ∈ a, c ∈ b) → a.length = b.length → a.Perm b
 | [], b, _, _, hl => by
  obtain rfl := List.eq_nil_of_length_eq_zero (show b.length = 0 by simpa using hl.symm)
  exact List.Perm.refl _
 | x :: a, b, hn, hs, hl => by
  obtain ⟨u, v, rfl⟩ := List.append_of_mem (hs x (List.mem_cons_self ..))
  obtain ⟨h1, h2⟩ := List.pairwise_cons.1 hn
  refine ((perm_of_sub a (u ++ v) h2 (fun c hc => ?_) (by simp at hl ⊢; omega)).cons x).trans List.perm_middle.symm
  have := hs c (List.mem_cons_of_mem _ hc)
  rcases List.mem_append.1 this with h | h
  ·exact List.mem_append_left _ h
  ·rcases List.mem_cons.1 h with h | h
   ·exact absurd h.symm (h1 c hc)
   ·exact List.mem_append_right _ h
theorem allOnce_both {a b : List CmdS} (h : allOnce a b = true) : (∀ c ∈ a, 0 ≤ onceS b c) ∧ ∀ c ∈ b, 0 ≤ onceS a c := by
 unfold allOnce at h
 simp only [Bool.not_eq_true', Bool.or_eq_false_iff] at h
 exact ⟨once_of h.1, once_of h.2⟩
theorem zip_pairs {α β : Type} : ∀ l : List (α × β), (l.map (·.1)).zip (l.map (·.2)) = l
 | [] => rfl
 | x :: l => by rw [List.map_cons, List.map_cons, List.zip_cons_cons, zip_pairs l]
theorem tells_true {a b : List CmdS} (ga : goodCmdsB a = true) (hl : a.length = b.length) (h1 : allOnce a b = true) (hord : ∀ i j : Nat, i < j → j < a.length → meetC (a.getD i z26) (a.getD j z26) = true → onceS b (a.getD i z26) < onceS b (a.getD j z26)) : tellsIn a b = (true, true) := by
 obtain ⟨o1, o2⟩ := allOnce_both h1
 obtain ⟨_, gg⟩ := goodCmds_parts ga
 have hmem : ∀ {l l' : List CmdS}, (∀ c ∈ l, 0 ≤ onceS l' c) → ∀ c ∈ l, c ∈ l' := fun h c hc => by
  obtain ⟨i, _, hi, _⟩ := once_at (h c hc)
  exact List.mem_iff_getElem?.2 ⟨i, hi⟩
 have ob : ∀ c ∈ b, 0 ≤ onceS b c := fun c hc => o1 c (hmem o2 c hc)
 have oa : ∀ c ∈ a, 0 ≤ onceS a c := fun c hc => o2 c (hmem o1 c hc)
 have nod : ∀ {l : List CmdS}, (∀ c ∈ l, 0 ≤ onceS l c) → l.Pairwise (fun x y => onceS l x < onceS l y) := fun {l} h => by
  rw [List.pairwise_iff_getElem]
  intro i j hi hj hij
  obtain ⟨i', e1, _, u1⟩ := once_at (h _ (List.getElem_mem hi))
  obtain ⟨j', e2, _, u2⟩ := once_at (h _ (List.getElem_mem hj))
  have := u1 i (List.getElem?_eq_getElem hi)
  have := u2 j (List.getElem?_eq_getElem hj)
  omega
 have na : a.Pairwise (· ≠ ·) := (nod oa).imp (fun {x y} h e => by rw [e] at h; omega)
 have hperm := perm_of_sub a b na (hmem o1) hl
 have hpw : a.Pairwise (fun x y => meetC x y = true → onceS b x < onceS b y) := by
  rw [List.pairwise_iff_getElem]
  intro i j hi hj hij hm
  have := hord i j hij hj
  rw [show a.getD i z26 = a[i] by simp [hi], show a.getD j z26 = a[j] by simp [hj]] at this
  exact this hm
 obtain ⟨e1, e2⟩ := sameS (onceS b) a b [100, 100, 100, 100] gg hperm (nod ob) hpw
 unfold tellsIn
 rw [playL_pr, playL_pr]
 simp only [List.nil_append]
 have hany : Mine.anyP (otherT b ((prS b [100, 100, 100, 100]).map (·.2))) (a.zip ((prS a [100, 100, 100, 100]).map (·.2))) = false := by
  rw [Mine.anyP_false]
  intro ct hct
  have hz := zip_pairs (prS a [100, 100, 100, 100])
  rw [prS_fst] at hz
  rw [hz] at hct
  obtain ⟨i, hi⟩ := List.mem_iff_getElem?.1 (e2.mem_iff.1 hct)
  have hb1 : b[i]? = some ct.1 := by
   have := congrArg (fun l : List CmdS => l[i]?) (prS_fst b [100, 100, 100, 100])
   simp only [List.getElem?_map, hi, Option.map_some] at this
   exact this.symm
  obtain ⟨i', f1, _, f2⟩ := once_at (ob ct.1 (List.mem_iff_getElem?.2 ⟨i, hb1⟩))
  obtain rfl := f2 i hb1
  have hb2 : ((prS b [100, 100, 100, 100]).map (·.2)).getD i z30 = ct.2 := by
   rw [List.getD_eq_getElem?_getD, List.getElem?_map, hi]; rfl
  unfold otherT
  rw [f1, Int.toNat_natCast, hb2]
  simp
 rw [if_neg (by rw [hany]; simp), e1]
 simp

theorem idsT_len (l : List S26) : (spec_DrawTellsSame.ids l 0).length = l.length := spec_DrawTellsSame.ids_len l 0
theorem swapsT_ok (l : List Int) (hu : ∀ y ∈ l, 0 ≤ y ∧ y ≤ 255) : ∀ (n : Nat) (b : List S26) (p s : Int), n ≤ 10 → b.length ≤ 100 → 0 ≤ p → p + 2 * n ≤ 1000000 → ∃ r, Ev (fun k => spec_DrawTellsSame.l k l b (n : Int) p s) r ∧ r.length = b.length
 | 0, b, p, s, _, _, _, _ => ⟨b, Ev.step (f := fun _ => some _) (fun k => by rw [spec_DrawTellsSame.l, if_neg (by omega)]) (Ev.now _), rfl⟩
 | n + 1, b, p, s, hn, hb, h0, h1 => by
  by_cases hl : 1 < b.length
  ·have hw : wrap64 ((b.length : Int) - 1) = (b.length : Int) - 1 := by unfold wrap64; omega
   obtain ⟨v, a1, s1, e1, p1, q1, x1, y1⟩ := pick_ok l p s ((b.length : Int) - 1) hu h0 (by omega) (by omega) (by omega)
   obtain ⟨r, h, hr⟩ := swapsT_ok l hu n (spec_DrawTellsSame.swap b v.toNat) a1 s1 (by omega) (by unfold spec_DrawTellsSame.swap; rw [List.length_set, List.length_set]; exact hb) (by omega) (by omega)
   refine ⟨r, Ev.step (fun k => ?_) h, by rw [hr]; unfold spec_DrawTellsSame.swap; rw [List.length_set, List.length_set]⟩
   rw [spec_DrawTellsSame.l, if_pos ⟨by omega, hl⟩, hw, e1, Option.bind_some]
   dsimp only
   rw [if_pos ⟨p1, by omega⟩, show wrap64 (((n + 1 : Nat) : Int) - 1) = (n : Int) by unfold wrap64; omega]
  ·exact ⟨b, Ev.step (f := fun _ => some _) (fun k => by rw [spec_DrawTellsSame.l, if_neg (fun h => hl h.2)]) (Ev.now _), rfl⟩
theorem drawTells_ok (l : List Int) (hu : ∀ y ∈ l, 0 ≤ y ∧ y ≤ 255) : ∃ a b, Ev (fun k => spec_DrawTellsSame.f k l) (a, b) ∧ a.length ≤ 6 ∧ b.length ≤ 6 := by
 obtain ⟨r, a1, s1, h, h2, h3, h4⟩ := cmds_ok l hu 0 0 6 (by omega) (by omega) (by omega) (by omega)
 obtain ⟨v, a2, s2, e2, p2, q2, x2, y2⟩ := pick_ok l a1 s1 3 hu h3 (by omega) (by omega) (by omega)
 obtain ⟨b, hb, hbl⟩ := swapsT_ok l hu v.toNat (spec_DrawTellsSame.ids r 0) a2 s2 (by omega) (by rw [idsT_len]; omega) (by omega) (by omega)
 rw [Int.toNat_of_nonneg p2] at hb
 refine ⟨spec_DrawTellsSame.ids r 0, b, ?_, by rw [idsT_len]; omega, by rw [hbl, idsT_len]; omega⟩
 unfold spec_DrawTellsSame.f
 refine Ev.bind h ?_
 simp only [if_pos (show r.length ≤ 1000 by omega), e2, Option.bind_some]
 obtain ⟨K, hK⟩ := hb
 exact ⟨K, fun k hk => by have h_ := hK k hk; dsimp only at h_ ⊢; rw [h_]; rfl⟩
def lastF (c : S26) : List S26 → Int → Int → Int
 | [], _, d => d
 | y :: l, i, d => lastF c l (i + 1) (if sameC y c = true then i else d)
theorem lastF_no (c : S26) : ∀ (l : List S26) (i d : Int), (∀ j : Nat, l[j]? ≠ some c) → lastF c l i d = d
 | [], _, _, _ => rfl
 | y :: l, i, d, h => by
  have hy : sameC y c = false := by
   cases hb : sameC y c with
   | false => rfl
   | true => exact absurd (by rw [(sameC_eq y c).1 hb]; rfl) (h 0)
  rw [lastF, hy, if_neg (by simp)]
  exact lastF_no c l (i + 1) d (fun j hj => h (j + 1) (by simpa using hj))
theorem lastF_at (c : S26) : ∀ (l : List S26) (i d : Int) (m : Nat), l[m]? = some c → (∀ j : Nat, l[j]? = some c → j = m) → lastF c l i d = i + m
 | [], _, _, m, h, _ => by simp at h
 | y :: l, i, d, 0, h, hu => by
  rw [List.getElem?_cons_zero] at h
  injection h with h
  rw [lastF, (sameC_eq y c).2 h, if_pos rfl, lastF_no c l (i + 1) i (fun j hj => by have := hu (j + 1) (by simpa using hj); omega)]
  omega
 | y :: l, i, d, m + 1, h, hu => by
  rw [lastF, lastF_at c l (i + 1) _ m (by simpa using h) (fun j hj => by have := hu (j + 1) (by simpa using hj); omega)]
  omega
theorem lastF_once {b : List S26} {c : S26} (h : 0 ≤ onceS b c) : lastF c b 0 (-1) = onceS b c := by
 obtain ⟨i, e, h1, h2⟩ := once_at h
 rw [lastF_at c b 0 (-1) i h1 h2, e]
 omega
section tellsLaw
variable (l1 : List Int) (a b : List S26) (is : Bool) (ha : a.length ≤ 6) (hb : b.length ≤ 6)
include ha hb
theorem tells_l2 (i j : Nat) (hi : i < a.length) (hj : j < a.length) (x11 x one : Bool) : ∀ (d m : Nat) (p q : Int), b.length - m = d → m ≤ b.length →
  Ev (fun k => laws_FnTellsSame.l1 k l1 a b is (x11 && (!one || !x || decide (lastF (a.getD i z26) (b.drop m) m p < lastF (a.getD j z26) (b.drop m) m q))) (j : Int) ((i + 1 : Nat) : Int) (a.length : Int) (j : Int)) true →
  Ev (fun k => laws_FnTellsSame.l2 k l1 a b is x11 (j : Int) (i : Int) x one p q (a.length : Int) (j : Int) b (b.length : Int) (m : Int)) true := by
 intro d
 induction d with
 | zero =>
  intro m p q hd hm h
  rw [List.drop_eq_nil_of_le (by omega)] at h
  simp only [lastF] at h
  refine Ev.step (fun k => ?_) h
  simp only [laws_FnTellsSame.l2]
  rw [if_neg (by omega), wrap_next hi (by omega)]
  cases x11 <;> cases one <;> cases x <;> rfl
 | succ d ih =>
  intro m p q hd hm h
  have hlt : m < b.length := by omega
  rw [Mine.drop_at b z26 m hlt, lastF, lastF] at h
  have h2 := ih (m + 1) _ _ (by omega) (by omega) h
  refine Ev.step (fun k => ?_) h2
  simp only [laws_FnTellsSame.l2]
  rw [if_pos (by omega), if_pos (by omega), if_pos (by omega), if_pos (by omega), if_pos (by omega), if_pos (show (0 : Int) ≤ (j : Int) by omega), if_pos (show (j : Int) < (a.length : Int) by omega), rdC_nat, rdC_nat, rdC_nat, wrap_next hlt (by omega)]
  have e : ∀ y c : S26, (y.f0 == c.f0 && (y.f1 == c.f1 && (y.f2 == c.f2 && (y.f3 == c.f3 && y.f4 == c.f4)))) = sameC y c := fun _ _ => rfl
  rw [e (b.getD m z26) (a.getD i z26), e (b.getD m z26) (a.getD j z26)]
  have q0 : (0 : Int) ≤ (j : Int) := by omega
  have q1 : (j : Int) < (a.length : Int) := by omega
  cases sameC (b.getD m z26) (a.getD i z26) <;> cases sameC (b.getD m z26) (a.getD j z26) <;> simp only [if_pos q0, if_pos q1, Bool.false_eq_true, if_false, if_true]
def keptP (a b : List S26) (i j : Nat) : Bool :=
 (!(interR (a.getD i z26).f0 (a.getD i z26).f1 (a.getD i z26).f2 (a.getD i z26).f3 (a.getD i z26).f4 (a.getD j z26).f0 (a.getD j z26).f1 (a.getD j z26).f2 (a.getD j z26).f3 (a.getD j z26).f4).2 ||
   !(interR (a.getD i z26).f0 (a.getD i z26).f1 (a.getD i z26).f2 (a.getD i z26).f3 (a.getD i z26).f4 (a.getD j z26).f0 (a.getD j z26).f1 (a.getD j z26).f2 (a.getD j z26).f3 (a.getD j z26).f4).1 ||
   decide (lastF (a.getD i z26) b 0 (-1) < lastF (a.getD j z26) b 0 (-1)))
theorem tells_l1 (j : Nat) (hj : j < a.length) (x11 : Bool) (hk : ∀ y : Bool, (y = true → x11 = true ∧ ∀ i, i < j → keptP a b i j = true) → Ev (fun k => laws_FnTellsSame.l0 k l1 a b is y (a.length : Int) ((j + 1 : Nat) : Int)) true) :
  ∀ (d i : Nat) (y : Bool), j - i = d → i ≤ j → (y = true → x11 = true ∧ ∀ i', i' < i → keptP a b i' j = true) → Ev (fun k => laws_FnTellsSame.l1 k l1 a b is y (j : Int) (i : Int) (a.length : Int) (j : Int)) true := by
 intro d
 induction d with
 | zero =>
  intro i y hd hi hy
  obtain rfl : i = j := by omega
  refine Ev.step (fun k => ?_) (hk y hy)
  simp only [laws_FnTellsSame.l1]
  rw [if_neg (by omega), wrap_next hj (by omega)]
 | succ d ih =>
  intro i y hd hi hy
  have hlt : i < j := by omega
  refine Ev.step (f := fun k => (impl_Interfere.f k (a.getD i z26).f0 (a.getD i z26).f1 (a.getD i z26).f2 (a.getD i z26).f3 (a.getD i z26).f4 (a.getD j z26).f0 (a.getD j z26).f1 (a.getD j z26).f2 (a.getD j z26).f3 (a.getD j z26).f4).bind fun bt => laws_FnTellsSame.l2 k l1 a b is y (j : Int) (i : Int) bt.1 bt.2 (-1) (-1) (a.length : Int) (j : Int) b (b.length : Int) ((0 : Nat) : Int)) (fun k => ?_) (Ev.bind (implInter_ev (a.getD i z26).f0 (a.getD i z26).f1 (a.getD i z26).f2 (a.getD i z26).f3 (a.getD i z26).f4 (a.getD j z26).f0 (a.getD j z26).f1 (a.getD j z26).f2 (a.getD j z26).f3 (a.getD j z26).f4) (tells_l2 l1 a b is ha hb i j (by omega) hj y _ _ b.length 0 (-1) (-1) rfl (by omega) ?_))
  ·simp only [laws_FnTellsSame.l1]
   rw [if_pos (by omega), if_pos (by omega), if_pos (by omega), if_pos (by omega), if_pos (by omega), rdC_nat, rdC_nat]
   rfl
  ·refine ih (i + 1) _ (by omega) (by omega) (fun h => ?_)
   rw [List.drop_zero, Bool.and_eq_true] at h
   obtain ⟨h1, h2⟩ := h
   obtain ⟨h3, h4⟩ := hy h1
   refine ⟨h3, fun i' hi' => ?_⟩
   rcases Nat.lt_or_ge i' i with hlt2 | hge
   ·exact h4 i' hlt2
   ·obtain rfl : i' = i := by omega
    exact h2
theorem tells_l0 (hend : ∀ y : Bool, (y = true → ∀ j, j < a.length → ∀ i, i < j → keptP a b i j = true) → Ev (fun k => laws_FnTellsSame.l0 k l1 a b is y (a.length : Int) (a.length : Int)) true) :
  ∀ (d j : Nat) (y : Bool), a.length - j = d → j ≤ a.length → (y = true → ∀ j', j' < j → ∀ i, i < j' → keptP a b i j' = true) → Ev (fun k => laws_FnTellsSame.l0 k l1 a b is y (a.length : Int) (j : Int)) true := by
 intro d
 induction d with
 | zero =>
  intro j y hd hj hy
  obtain rfl : j = a.length := by omega
  exact hend y hy
 | succ d ih =>
  intro j y hd hj hy
  have hlt : j < a.length := by omega
  refine Ev.step (f := fun k => laws_FnTellsSame.l1 k l1 a b is y (j : Int) 0 (a.length : Int) (j : Int)) (fun k => ?_) (tells_l1 l1 a b is ha hb j hlt y (fun y' hy' => ih (j + 1) y' (by omega) (by omega) (fun h j' hj' i hi => ?_)) j 0 y (by omega) (by omega) (fun h => ⟨h, fun i hi => by omega⟩))
  ·simp only [laws_FnTellsSame.l0]
   rw [if_pos (by omega)]
  ·obtain ⟨h1, h2⟩ := hy' h
   rcases Nat.lt_or_ge j' j with hlt2 | hge
   ·exact hy h1 j' hlt2 i hi
   ·obtain rfl : j' = j := by omega
    exact h2 i hi
end tellsLaw
theorem FnTellsSame : laws_FnTellsSame.Pure := by
 intro l0 l1 h0 h1
 have hu := u8s h0.2
 have hv := u8s h1.2
 obtain ⟨a, b, hd, ha, hb⟩ := drawTells_ok l0 hu
 obtain ⟨c, e, hd2, hc, he⟩ := drawTells_ok l1 hv
 have I1 := implTells_ev a b (by omega) (by omega)
 have S1 := specTells_ev a b (by omega) (by omega)
 have I2 := implTells_ev c e (by omega) (by omega)
 have S2 := specTells_ev c e (by omega) (by omega)
 have hrest : Ev (fun k => (spec_DrawTellsSame.f k l1).bind fun bt => (impl_TellsSame.f k bt.1 bt.2).bind fun x => (spec_TellsSame.f k bt.1 bt.2).bind fun y => if (x.2 == y.2) = true then some (x.1 == y.1) else some false) true := by
  refine Ev.bind hd2 (Ev.bind I2 (Ev.bind S2 ?_))
  simpa using Ev.now _
 have hj4 : Ev (fun k => laws_FnTellsSame.j4 k l1 false) true := Ev.step (fun k => by simp only [laws_FnTellsSame.j4]; rw [if_neg (by simp)]) hrest
 suffices h : Ev (fun k => laws_FnTellsSame.f k l0 l1) true by
  obtain ⟨K, hK⟩ := h
  exact ⟨K, hK K (Nat.le_refl _)⟩
 unfold laws_FnTellsSame.f
 have hbig : ∃ t, laws_big.f l0 l1 = some t := by
  unfold laws_big.f
  split
  ·exact ⟨_, rfl⟩
  ·exact ⟨_, rfl⟩
 obtain ⟨t, ht⟩ := hbig
 simp only [ht, Option.bind_some]
 cases t with
 | true => simpa using Ev.now _
 | false =>
  simp only [Bool.false_eq_true, if_false]
  refine Ev.bind hd (Ev.bind I1 (Ev.bind S1 ?_))
  simp only [bne_self_eq_false, Bool.false_eq_true, if_false]
  by_cases hok : goodCmdsB a = true ∧ goodCmdsB b = true ∧ a.length = b.length ∧ allOnce a b = true
  ·obtain ⟨ga, gb, hl, h1o⟩ := hok
   have e1 : tellsR a b = tellsIn a b := by unfold tellsR; rw [if_pos ⟨ga, gb, hl, h1o⟩]
   have e2 : (tellsIn a b).2 = true := by unfold tellsIn; split <;> rfl
   rw [e1, e2]
   refine Ev.step (f := fun k => laws_FnTellsSame.l0 k l1 a b (tellsIn a b).1 true (a.length : Int) 0) (fun k => by simp only [laws_FnTellsSame.j0]; rw [if_neg (by simp), if_pos trivial]) ?_
   refine tells_l0 l1 a b _ ha hb (fun y hy => ?_) a.length 0 true (by omega) (by omega) (fun _ j' hj' => by omega)
   cases y with
   | false => exact Ev.step (f := fun k => laws_FnTellsSame.j4 k l1 false) (fun k => by simp only [laws_FnTellsSame.l0]; rw [if_neg (by omega), if_neg (by simp)]) hj4
   | true =>
    have hall := hy rfl
    have htt := tells_true ga hl h1o (fun i j hij hj hm => by
     obtain ⟨_, gg⟩ := goodCmds_parts ga
     have gi := gg _ (Mine.getD_mem a z26 i (by omega))
     have gj := gg _ (Mine.getD_mem a z26 j hj)
     have hk := hall j hj i hij
     obtain ⟨o1, _⟩ := allOnce_both h1o
     unfold keptP interR at hk
     rw [if_pos (show Mine.goodCmdB _ _ _ _ _ = true from gi), if_pos (show Mine.goodCmdB _ _ _ _ _ = true from gj)] at hk
     rw [lastF_once (o1 _ (Mine.getD_mem a z26 i (by omega))), lastF_once (o1 _ (Mine.getD_mem a z26 j hj))] at hk
     unfold meetC at hm
     rw [hm] at hk
     simpa using hk)
    rw [htt]
    exact Ev.step (f := fun k => laws_FnTellsSame.j4 k l1 false) (fun k => by simp only [laws_FnTellsSame.l0]; rw [if_neg (by omega), if_pos trivial]; rfl) hj4
  ·rw [tellsR_false1 hok]
   exact Ev.step (fun k => by simp only [laws_FnTellsSame.j0]; rw [if_neg (by simp), if_neg (by simp)]) hrest

end Go.Proofs.Yteecmbfebenjjaa.Pure
