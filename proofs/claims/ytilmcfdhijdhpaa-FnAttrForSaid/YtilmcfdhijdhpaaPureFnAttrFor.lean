/- The law FnAttrFor holds, for every input. -/
import Derived.Test.YtilmcfdhijdhpaaVFnAttrFor
import Derived.Test.YtilmcfdhijdhpaaQFnAttrForx14
namespace Go.Proofs.Ytilmcfdhijdhpaa.Pure
open Go.RowKit Go.Proofs.Ytilmcfdhijdhpaa.QFnAttrFor Go.Proofs.YtilmcfdhijdhpaaW.PrintWords Go.Proofs.YtilmcfdhijdhpaaW.PrintLast Go.Proofs.YtilmcfdhijdhpaaW.PrintMore
set_option linter.unusedVariables false
set_option linter.unusedSimpArgs false

/-! what the cursor of the draws gives -/
theorem and255 (x : Int) : 0 ≤ wrap64 (Go.bits .and .u64 x 255) ∧ wrap64 (Go.bits .and .u64 x 255) ≤ 255 := by
 have h : ∃ n : Nat, n ≤ 255 ∧ Go.bits .and .u64 x 255 = (n : Int) := by
  refine ⟨(BitVec.ofInt 64 x &&& BitVec.ofInt 64 255).toNat, ?_, ?_⟩
  ·rw [BitVec.toNat_and]
   exact Nat.le_trans (Nat.and_le_right) (by decide)
  ·have hle : (BitVec.ofInt 64 x &&& BitVec.ofInt 64 255).toNat ≤ 255 := by
    rw [BitVec.toNat_and]; exact Nat.le_trans (Nat.and_le_right) (by decide)
   show IntKind.u64.wrap (((BitVec.ofInt 64 x &&& BitVec.ofInt 64 255).toNat : Nat) : Int) = _
   generalize (BitVec.ofInt 64 x &&& BitVec.ofInt 64 255).toNat = m at hle
   simp [IntKind.wrap, IntKind.min, IntKind.max, IntKind.signed, IntKind.bits]
   omega
 obtain ⟨n, hn, e⟩ := h
 rw [e]
 unfold wrap64
 omega
theorem u8s {l : List Int} (h : ∀ y ∈ l, (Lit.int .u8 y).wf = true) : ∀ y ∈ l, 0 ≤ y ∧ y ≤ 255 := by
 intro y hy
 have := h y hy
 simp [Lit.wf, IntKind.min, IntKind.max, IntKind.signed, IntKind.bits] at this
 omega
theorem rd_mem {l : List Int} {a : Int} (h0 : 0 ≤ a) (h : a < (l.length : Int)) : rd l a ∈ l := by
 unfold rd
 rw [List.getD_eq_getElem?_getD, List.getElem?_eq_getElem (show a.toNat < l.length by omega)]
 exact List.getElem_mem _
theorem next_ok (l : List Int) (a s : Int) (hu : ∀ y ∈ l, 0 ≤ y ∧ y ≤ 255) (h0 : 0 ≤ a) (h1 : a ≤ 4611686018427387904) : ∃ v s', spec_l1Cur_next.f l a s = some (v, a + 1, s') ∧ 0 ≤ v ∧ v ≤ 255 := by
 have hw : wrap64 (a + 1) = a + 1 := by unfold wrap64; omega
 unfold spec_l1Cur_next.f
 rw [hw]
 by_cases h : a < (l.length : Int)
 ·rw [if_pos h, if_pos h0, if_pos (by omega)]
  have := hu _ (rd_mem h0 h)
  exact ⟨_, _, rfl, by unfold wrap64; omega, by unfold wrap64; omega⟩
 ·rw [if_neg h, if_neg (by omega)]
  exact ⟨_, _, rfl, (and255 _).1, (and255 _).2⟩
theorem pick_ok (l : List Int) (a s n : Int) (hu : ∀ y ∈ l, 0 ≤ y ∧ y ≤ 255) (h0 : 0 ≤ a) (h1 : a ≤ 2305843009213693952) (hn : 1 ≤ n) (hn' : n ≤ 65536) : ∃ v a' s', spec_l1Cur_pick.f l a s n = some (v, a', s') ∧ 0 ≤ v ∧ v < n ∧ a ≤ a' ∧ a' ≤ a + 2 := by
 unfold spec_l1Cur_pick.f
 by_cases h : n ≤ 1
 ·rw [if_pos h]; exact ⟨0, a, s, rfl, by omega, by omega, by omega, by omega⟩
 rw [if_neg h]
 obtain ⟨v, s', e, hv, hv'⟩ := next_ok l a s hu h0 (by omega)
 rw [e, Option.bind_some]
 dsimp only
 by_cases h2 : n > 200
 ·rw [if_pos h2]
  obtain ⟨v2, s2, e2, hv2, hv2'⟩ := next_ok l (a + 1) s' hu (by omega) (by omega)
  rw [e2, Option.bind_some, if_neg (by omega)]
  have hw : wrap64 (wrap64 (v * 256) + v2) = v * 256 + v2 := by unfold wrap64; omega
  dsimp only
  rw [hw]
  exact ⟨_, _, _, rfl, Int.tmod_nonneg _ (by omega), Int.tmod_lt_of_pos _ (by omega), by omega, by omega⟩
 ·rw [if_neg h2, if_neg (by omega)]
  exact ⟨_, _, _, rfl, Int.tmod_nonneg _ hv, Int.tmod_lt_of_pos _ (by omega), by omega, by omega⟩

theorem among_ok (l : List Int) (a s : Int) (xs : List Int) (hu : ∀ y ∈ l, 0 ≤ y ∧ y ≤ 255) (h0 : 0 ≤ a) (h1 : a ≤ 2305843009213693952) (hn : 1 ≤ xs.length) (hn' : xs.length ≤ 65536) : ∃ v a' s', spec_l1Cur_among.f l a s xs = some (v, a', s') ∧ v ∈ xs ∧ a ≤ a' ∧ a' ≤ a + 2 := by
 unfold spec_l1Cur_among.f
 obtain ⟨v, a', s', e, hv, hv', ha, ha'⟩ := pick_ok l a s (xs.length : Int) hu h0 h1 (by omega) (by omega)
 rw [e, Option.bind_some]
 dsimp only
 rw [if_pos hv, if_pos hv']
 exact ⟨_, _, _, rfl, rd_mem hv hv', ha, ha'⟩

theorem wrap_next {i : Nat} {n : Nat} (h : i < n) (hn : n ≤ 9223372036854775807) : wrap64 ((i : Int) + 1) = ((i + 1 : Nat) : Int) := by
 unfold wrap64
 omega
theorem rd_nat (l : List Int) (i : Nat) : rd l (i : Int) = l.getD i 0 := by unfold rd; rw [Int.toNat_natCast]
theorem wrap_small {x : Int} (h0 : -9223372036854775808 ≤ x) (h1 : x ≤ 9223372036854775807) : wrap64 x = x := by unfold wrap64; omega
theorem Ev.const {α : Type} {o : Option α} {a : α} (h : o = some a) : Ev (fun _ => o) a := ⟨0, fun _ _ => h⟩
theorem Ev.map {α β : Type} {g : Nat → Option α} {a : α} (h : Ev g a) (f : α → β) : Ev (fun k => (g k).bind fun t => some (f t)) (f a) := by
 obtain ⟨K, h⟩ := h
 exact ⟨K, fun k hk => by show (g k).bind _ = _; rw [h k hk, Option.bind_some]⟩
theorem loop_any {α ρ : Type} (F : Nat → Int → Option ρ) (xs : List α) (d : α) (p : α → Bool) (hit miss : ρ)
  (hs : ∀ i, i < xs.length → (p (xs.getD i d) = true → Ev (fun k => F k (i : Int)) hit) ∧ (p (xs.getD i d) = false → ∀ r, Ev (fun k => F k ((i + 1 : Nat) : Int)) r → Ev (fun k => F k (i : Int)) r))
  (he : Mine.anyP p xs = false → Ev (fun k => F k (xs.length : Int)) miss) : Ev (fun k => F k 0) (if Mine.anyP p xs = true then hit else miss) := by
 have key : ∀ (n i : Nat), xs.length - i = n → i ≤ xs.length → Mine.anyP p (xs.take i) = false → Ev (fun k => F k (i : Int)) (if Mine.anyP p (xs.drop i) = true then hit else miss) := by
  intro n
  induction n with
  | zero =>
   intro i hn hi hb
   obtain rfl : i = xs.length := by omega
   rw [List.drop_eq_nil_of_le (Nat.le_refl _)]
   rw [List.take_of_length_le (Nat.le_refl _)] at hb
   simpa [Mine.anyP] using he hb
  | succ n ih =>
   intro i hn hi hb
   rw [Mine.drop_at xs d i (by omega), Mine.anyP_cons]
   cases hp : p (xs.getD i d) with
   | true => simpa using (hs i (by omega)).1 hp
   | false =>
    have hb' : Mine.anyP p (xs.take (i + 1)) = false := by
     have e : xs.take (i + 1) = xs.take i ++ [xs.getD i d] := by
      rw [List.take_add_one, List.getD_eq_getElem?_getD, List.getElem?_eq_getElem (show i < xs.length by omega)]; rfl
     rw [e]
     unfold Mine.anyP at hb ⊢
     rw [List.any_append, hb, List.any_cons, hp]
     rfl
    simpa using (hs i (by omega)).2 hp _ (ih (i + 1) (by omega) (by omega) hb')
 simpa using key xs.length 0 (by omega) (by omega) (by simp [Mine.anyP])
def scan {σ α ρ : Type} (step : α → σ → Sum σ ρ) (fin : σ → ρ) : List α → σ → ρ
 | [], s => fin s
 | x :: xs, s => match step x s with
  | .inl s' => scan step fin xs s'
  | .inr r => r
theorem loop_scan {σ α ρ : Type} (F : Nat → σ → Int → Option ρ) (xs : List α) (d : α) (step : α → σ → Sum σ ρ) (fin : σ → ρ) (P : Nat → σ → Prop)
  (hs : ∀ (i : Nat) (s : σ), i < xs.length → P i s → (∀ s', step (xs.getD i d) s = .inl s' → P (i + 1) s' ∧ ∀ r, Ev (fun k => F k s' ((i + 1 : Nat) : Int)) r → Ev (fun k => F k s (i : Int)) r) ∧ (∀ r, step (xs.getD i d) s = .inr r → Ev (fun k => F k s (i : Int)) r))
  (he : ∀ s, P xs.length s → Ev (fun k => F k s (xs.length : Int)) (fin s)) (s : σ) (h0 : P 0 s) : Ev (fun k => F k s 0) (scan step fin xs s) := by
 have key : ∀ (n i : Nat) (s : σ), xs.length - i = n → i ≤ xs.length → P i s → Ev (fun k => F k s (i : Int)) (scan step fin (xs.drop i) s) := by
  intro n
  induction n with
  | zero =>
   intro i s hn hi hp
   obtain rfl : i = xs.length := by omega
   rw [List.drop_eq_nil_of_le (Nat.le_refl _)]
   exact he s hp
  | succ n ih =>
   intro i s hn hi hp
   rw [Mine.drop_at xs d i (by omega), scan]
   cases hst : step (xs.getD i d) s with
   | inl s' => exact ((hs i s (by omega) hp).1 s' hst).2 _ (ih (i + 1) s' (by omega) (by omega) ((hs i s (by omega) hp).1 s' hst).1)
   | inr r => exact (hs i s (by omega) hp).2 r hst
 simpa using key xs.length 0 s (by omega) (by omega) h0

def goodS (c : S28) : Bool := Mine.goodCmdB c.f0 c.f1 c.f2 c.f3 c.f4
theorem rdC_nat (l : List S28) (i : Nat) : rd_T28 l (i : Int) = l.getD i z28 := by unfold rd_T28; rw [Int.toNat_natCast]
theorem getD_set_self {α : Type} (xs : List α) (i : Nat) (v d : α) (h : i < xs.length) : (xs.set i v).getD i d = v := by simp [List.getD_eq_getElem?_getD, h]
theorem getD_map {α β : Type} (f : α → β) (xs : List α) (i : Nat) (a : α) (b : β) (h : i < xs.length) : (xs.map f).getD i b = f (xs.getD i a) := by
 simp [List.getD_eq_getElem?_getD, h]

theorem one_ok (l : List Int) (a s n : Int) (hu : ∀ y ∈ l, 0 ≤ y ∧ y ≤ 255) (h0 : 0 ≤ a) (h1 : a ≤ 2305843009213693952) (hn : 1 ≤ n) (hn' : n ≤ 65536) : ∃ v a' s', spec_l1Cur_one.f l a s n = some (v, a', s') ∧ a ≤ a' ∧ a' ≤ a + 2 := by
 unfold spec_l1Cur_one.f
 obtain ⟨v, a', s', e, _, _, ha, ha'⟩ := pick_ok l a s n hu h0 h1 hn hn'
 rw [e, Option.bind_some]
 exact ⟨_, _, _, rfl, ha, ha'⟩

theorem cmd_ok (l : List Int) (a s : Int) (hu : ∀ y ∈ l, 0 ≤ y ∧ y ≤ 255) (h0 : 0 ≤ a) (h1 : a ≤ 1152921504606846976) : ∃ k i f t m a' s', spec_l1Cur_cmd.f l a s = some (k, i, f, t, m, a', s') ∧ Mine.goodCmdB k i f t m = true ∧ a ≤ a' ∧ a' ≤ a + 10 := by
 unfold spec_l1Cur_cmd.f
 obtain ⟨v1, a1, s1, e1, p1, q1, x1, y1⟩ := pick_ok l a s 9 hu h0 (by omega) (by omega) (by omega)
 rw [e1, Option.bind_some]
 obtain ⟨v2, a2, s2, e2, p2, q2, x2, y2⟩ := pick_ok l a1 s1 4 hu (by omega) (by omega) (by omega) (by omega)
 dsimp only
 rw [e2, Option.bind_some]
 obtain ⟨v3, a3, s3, e3, p3, q3, x3, y3⟩ := pick_ok l a2 s2 30 hu (by omega) (by omega) (by omega) (by omega)
 dsimp only
 rw [e3, Option.bind_some]
 obtain ⟨v4, a4, s4, e4, p4, q4, x4, y4⟩ := pick_ok l a3 s3 3 hu (by omega) (by omega) (by omega) (by omega)
 dsimp only
 rw [e4, Option.bind_some]
 obtain ⟨v5, a5, s5, e5, x5, y5⟩ := one_ok l a4 s4 4 hu (by omega) (by omega) (by omega) (by omega)
 dsimp only
 rw [e5, Option.bind_some]
 dsimp only
 have w1 : wrap64 (1 + v1) = 1 + v1 := by unfold wrap64; omega
 have w2 : wrap64 (1 + v3) = 1 + v3 := by unfold wrap64; omega
 have w3 : wrap64 (wrap64 (v2 + 1) + v4) = v2 + 1 + v4 := by unfold wrap64; omega
 rw [w1, w2, w3]
 have m0 : Int.tmod (v2 + 1 + v4) 4 = (v2 + 1 + v4) % 4 := Int.tmod_eq_emod_of_nonneg (by omega)
 rw [m0]
 cases v5 with
 | true => exact ⟨_, _, _, _, _, _, _, rfl, by unfold Mine.goodCmdB Mine.inB; simp; omega, by omega, by omega⟩
 | false => exact ⟨_, _, _, _, _, _, _, rfl, by unfold Mine.goodCmdB Mine.inB; simp; omega, by omega, by omega⟩
theorem anyCmd_ok (l : List Int) (a s : Int) (hu : ∀ y ∈ l, 0 ≤ y ∧ y ≤ 255) (h0 : 0 ≤ a) (h1 : a ≤ 1000000000000) : ∃ k i f t m a' s', spec_l1Cur_anyCmd.f l a s = some (k, i, f, t, m, a', s') ∧ a ≤ a' ∧ a' ≤ a + 20 := by
 unfold spec_l1Cur_anyCmd.f
 obtain ⟨k, i, f, t, m, a1, s1, e1, _, x1, y1⟩ := cmd_ok l a s hu h0 (by omega)
 rw [e1, Option.bind_some]
 obtain ⟨v2, a2, s2, e2, p2, q2, x2, y2⟩ := pick_ok l a1 s1 20 hu (by omega) (by omega) (by omega) (by omega)
 dsimp only
 rw [e2, Option.bind_some]
 dsimp only
 have am : ∀ xs : List Int, 1 ≤ xs.length → xs.length ≤ 65536 → ∃ v a' s', spec_l1Cur_among.f l a2 s2 xs = some (v, a', s') ∧ a2 ≤ a' ∧ a' ≤ a2 + 2 := fun xs hx hx' => by
  obtain ⟨v, a', s', e, _, ha, ha'⟩ := among_ok l a2 s2 xs hu (by omega) (by omega) hx hx'
  exact ⟨v, a', s', e, ha, ha'⟩
 split
 ·exact ⟨_, _, _, _, _, _, _, rfl, by first | omega | (dsimp only; omega), by first | omega | (dsimp only; omega)⟩
 split
 ·exact ⟨_, _, _, _, _, _, _, rfl, by first | omega | (dsimp only; omega), by first | omega | (dsimp only; omega)⟩
 split
 ·obtain ⟨v, a3, s3, e3, x3, y3⟩ := am [0, 999, 1000] (by decide) (by decide)
  rw [e3, Option.bind_some]; exact ⟨_, _, _, _, _, _, _, rfl, by first | omega | (dsimp only; omega), by first | omega | (dsimp only; omega)⟩
 split
 ·obtain ⟨v, a3, s3, e3, x3, y3⟩ := am [0, 1000, 1001] (by decide) (by decide)
  rw [e3, Option.bind_some]; exact ⟨_, _, _, _, _, _, _, rfl, by first | omega | (dsimp only; omega), by first | omega | (dsimp only; omega)⟩
 split
 ·obtain ⟨v, a3, s3, e3, x3, y3⟩ := am [-1, 4] (by decide) (by decide)
  rw [e3, Option.bind_some]; exact ⟨_, _, _, _, _, _, _, rfl, by first | omega | (dsimp only; omega), by first | omega | (dsimp only; omega)⟩
 split
 ·obtain ⟨v, a3, s3, e3, _, _, x3, y3⟩ := pick_ok l a2 s2 4 hu (by omega) (by omega) (by omega) (by omega)
  rw [e3, Option.bind_some]; exact ⟨_, _, _, _, _, _, _, rfl, by first | omega | (dsimp only; omega), by first | omega | (dsimp only; omega)⟩
 ·exact ⟨_, _, _, _, _, _, _, rfl, by first | omega | (dsimp only; omega), by first | omega | (dsimp only; omega)⟩

theorem loop_sz {α : Type} (F : Nat → Int → Int → Option Int) (g : Nat → α → Int → Option Int) (xs : List α) (d : α) (P : α → Prop)
  (hb : ∀ k (i : Nat) a, i < xs.length → 0 ≤ a → a ≤ 1048576 → F (k + 1) a (i : Int) = (g k (xs.getD i d) a).bind fun t => if t < 0 then some (-1) else F k t ((i + 1 : Nat) : Int))
  (he : ∀ k a, F (k + 1) a (xs.length : Int) = some a)
  (hg : ∀ x ∈ xs, ∀ a, 0 ≤ a → a ≤ 1048576 → Ev (fun k => g k x a) (-1) ∨ ∃ b, 0 ≤ b ∧ b ≤ a ∧ Ev (fun k => g k x a) b ∧ P x) (a : Int) (h0 : 0 ≤ a) (h1 : a ≤ 1048576) :
  Ev (fun k => F k a 0) (-1) ∨ ∃ b, 0 ≤ b ∧ b ≤ a ∧ Ev (fun k => F k a 0) b ∧ ∀ x ∈ xs, P x := by
 have key : ∀ (n i : Nat) (a : Int), xs.length - i = n → i ≤ xs.length → 0 ≤ a → a ≤ 1048576 → Ev (fun k => F k a (i : Int)) (-1) ∨ ∃ b, 0 ≤ b ∧ b ≤ a ∧ Ev (fun k => F k a (i : Int)) b ∧ ∀ x ∈ xs.drop i, P x := by
  intro n
  induction n with
  | zero =>
   intro i a hn hi h0 h1
   obtain rfl : i = xs.length := by omega
   exact .inr ⟨a, h0, Int.le_refl _, Ev.step (f := fun _ => some a) (fun k => he k a) (Ev.now _), by rw [List.drop_length]; intro x hx; cases hx⟩
  | succ n ih =>
   intro i a hn hi h0 h1
   have hlt : i < xs.length := by omega
   have hmem : xs.getD i d ∈ xs := by rw [List.getD_eq_getElem?_getD, List.getElem?_eq_getElem hlt]; exact List.getElem_mem _
   rcases hg _ hmem a h0 h1 with h | ⟨b, hb0, hb1, h, hP⟩
   ·exact .inl (Ev.step (fun k => hb k i a hlt h0 h1) (Ev.bind h (by simp only [if_pos (show (-1 : Int) < 0 by omega)]; exact Ev.now _)))
   ·have st : ∀ r, Ev (fun k => F k b ((i + 1 : Nat) : Int)) r → Ev (fun k => F k a (i : Int)) r := fun r hr => Ev.step (fun k => hb k i a hlt h0 h1) (Ev.bind h (by simp only [if_neg (show ¬ b < 0 by omega)]; exact hr))
    rcases ih (i + 1) b (by omega) (by omega) hb0 (by omega) with hr | ⟨c, hc0, hc1, hr, hp⟩
    ·exact .inl (st _ hr)
    ·refine .inr ⟨c, hc0, by omega, st _ hr, ?_⟩
     rw [Mine.drop_at xs d i hlt]
     intro x hx
     rcases List.mem_cons.1 hx with rfl | hx
     ·exact hP
     ·exact hp x hx
 simpa using key xs.length 0 a rfl (by omega) h0 h1
theorem loop_to {α β : Type} (F : Nat → List β → Int → Option (List β)) (xs : List α) (f : α → β) (d : α) (e : β)
  (hs : ∀ (i : Nat) acc r, i < xs.length → acc.length = xs.length → Ev (fun k => F k (acc.set i (f (xs.getD i d))) ((i + 1 : Nat) : Int)) r → Ev (fun k => F k acc (i : Int)) r)
  (he : ∀ acc, Ev (fun k => F k acc (xs.length : Int)) acc) : Ev (fun k => F k (List.replicate xs.length e) 0) (xs.map f) := by
 have key : ∀ (n i : Nat) (acc : List β), xs.length - i = n → i ≤ xs.length → acc.length = (xs.map f).length → acc.take i = (xs.map f).take i → Ev (fun k => F k acc (i : Int)) (xs.map f) := by
  intro n
  induction n with
  | zero =>
   intro i acc hn hi hl ht
   have e : acc = xs.map f := Mine.take_all (i := i) (by rw [List.length_map]; omega) hl ht
   obtain rfl : i = xs.length := by omega
   have := he acc
   rw [← e]; exact this
  | succ n ih =>
   intro i acc hn hi hl ht
   have hlt : i < xs.length := by omega
   have hq := Mine.take_set (xs.map f) acc e i (by rw [List.length_map]; exact hlt) hl ht
   have hg : (xs.map f).getD i e = f (xs.getD i d) := by simp [List.getD_eq_getElem?_getD, hlt]
   rw [hg] at hq
   exact hs i acc _ hlt (by rw [hl, List.length_map]) (ih (i + 1) _ (by omega) (by omega) (by rw [List.length_set]; exact hl) hq)
 simpa using key xs.length 0 (List.replicate xs.length e) rfl (by omega) (by simp) (by simp)
theorem loop_up {ρ : Type} (F : Nat → Int → Option ρ) (n : Nat) (r : ρ) (hs : ∀ (i : Nat), i < n → Ev (fun k => F k ((i + 1 : Nat) : Int)) r → Ev (fun k => F k (i : Int)) r) (he : Ev (fun k => F k (n : Int)) r) : Ev (fun k => F k 0) r := by
 have key : ∀ (d i : Nat), n - i = d → i ≤ n → Ev (fun k => F k (i : Int)) r := by
  intro d
  induction d with
  | zero => intro i hd hi; obtain rfl : i = n := (by omega); exact he
  | succ d ih => intro i hd hi; exact hs i (by omega) (ih (i + 1) (by omega) (by omega))
 simpa using key n 0 (by omega) (by omega)
theorem mem_at {α : Type} {l : List α} {i : Nat} (d : α) (h : i < l.length) : l.getD i d ∈ l := by
 rw [List.getD_eq_getElem?_getD, List.getElem?_eq_getElem h]; exact List.getElem_mem _

theorem rdR_nat (l : List S39) (i : Nat) : rd_T39 l (i : Int) = l.getD i z39 := by unfold rd_T39; rw [Int.toNat_natCast]
theorem rdRR_nat (l : List (List S39)) (i : Nat) : rd_L6 l (i : Int) = l.getD i [] := by unfold rd_L6; rw [Int.toNat_natCast]
def okR (x : S39) : Prop := x.f4.f1.length ≤ 1048576
def okRS (y : List S39) : Prop := y.length ≤ 1048576 ∧ ∀ x ∈ y, okR x
def okRSS (l : List (List S39)) : Prop := l.length ≤ 1048576 ∧ ∀ y ∈ l, okRS y

theorem l1Same_l (xs ys : List Int) (he : xs.length = ys.length) (hm : xs.length ≤ 9223372036854775807) : ∀ (d i : Nat), xs.length - i = d → Ev (fun k => spec_l1Same.l0 k xs ys (xs.length : Int) (i : Int)) (decide (xs.drop i = ys.drop i)) := by
 intro d
 induction d with
 | zero =>
  intro i hd
  rw [List.drop_eq_nil_of_le (show xs.length ≤ i by omega), List.drop_eq_nil_of_le (show ys.length ≤ i by omega)]
  exact Ev.step (f := fun _ => some true) (fun k => by simp only [spec_l1Same.l0]; rw [if_neg (by omega)]) (Ev.now _)
 | succ d ih =>
  intro i hd
  have hlt : i < xs.length := by omega
  rw [Mine.drop_at xs 0 i hlt, Mine.drop_at ys 0 i (by omega)]
  have body : ∀ k, spec_l1Same.l0 (k + 1) xs ys (xs.length : Int) (i : Int) = if xs.getD i 0 = ys.getD i 0 then spec_l1Same.l0 k xs ys (xs.length : Int) ((i + 1 : Nat) : Int) else some false := by
   intro k
   simp only [spec_l1Same.l0]
   rw [if_pos (by omega), if_pos (by omega), if_pos (by omega), if_pos (by omega), rd_nat, rd_nat, wrap_next hlt hm]
  by_cases hb : xs.getD i 0 = ys.getD i 0
  ·refine Ev.step (f := fun k => spec_l1Same.l0 k xs ys (xs.length : Int) ((i + 1 : Nat) : Int)) (fun k => by rw [body, if_pos hb]) ?_
   have : decide (xs.getD i 0 :: xs.drop (i + 1) = ys.getD i 0 :: ys.drop (i + 1)) = decide (xs.drop (i + 1) = ys.drop (i + 1)) := by rw [hb]; simp
   rw [this]
   exact ih (i + 1) (by omega)
  ·refine Ev.step (f := fun _ => some false) (fun k => by rw [body, if_neg hb]) ?_
   have : decide (xs.getD i 0 :: xs.drop (i + 1) = ys.getD i 0 :: ys.drop (i + 1)) = false := by
    rw [decide_eq_false_iff_not]; intro h; exact hb (List.cons.inj h).1
   rw [this]
   exact Ev.now _
theorem l1Same_ev (xs ys : List Int) (hm : xs.length ≤ 9223372036854775807) : Ev (fun k => spec_l1Same.f k xs ys) (decide (xs = ys)) := by
 unfold spec_l1Same.f
 by_cases h : xs.length = ys.length
 ·exact Ev.congr (f := fun k => spec_l1Same.l0 k xs ys (xs.length : Int) ((0 : Nat) : Int)) (fun k => by rw [if_pos (by omega)]; rfl) (l1Same_l xs ys h hm _ 0 rfl)
 ·refine Ev.congr (f := fun _ => some false) (fun k => by rw [if_neg (by omega)]) ?_
  rw [decide_eq_false (fun e => h (by rw [e]))]
  exact Ev.now _

theorem equalInts_l (xs ys : List Int) (he : xs.length = ys.length) (hm : xs.length ≤ 9223372036854775807) : ∀ (d i : Nat), xs.length - i = d → Ev (fun k => slices_Equal_int_int.l0 k xs ys (xs.length : Int) (i : Int)) (decide (xs.drop i = ys.drop i)) := by
 intro d
 induction d with
 | zero =>
  intro i hd
  rw [List.drop_eq_nil_of_le (show xs.length ≤ i by omega), List.drop_eq_nil_of_le (show ys.length ≤ i by omega)]
  exact Ev.step (f := fun _ => some true) (fun k => by simp only [slices_Equal_int_int.l0]; rw [if_neg (by omega)]) (Ev.now _)
 | succ d ih =>
  intro i hd
  have hlt : i < xs.length := by omega
  rw [Mine.drop_at xs 0 i hlt, Mine.drop_at ys 0 i (by omega)]
  have body : ∀ k, slices_Equal_int_int.l0 (k + 1) xs ys (xs.length : Int) (i : Int) = if xs.getD i 0 = ys.getD i 0 then slices_Equal_int_int.l0 k xs ys (xs.length : Int) ((i + 1 : Nat) : Int) else some false := by
   intro k
   simp only [slices_Equal_int_int.l0]
   rw [if_pos (by omega), if_pos (by omega), if_pos (by omega), if_pos (by omega), rd_nat, rd_nat, wrap_next hlt hm]
  by_cases hb : xs.getD i 0 = ys.getD i 0
  ·refine Ev.step (f := fun k => slices_Equal_int_int.l0 k xs ys (xs.length : Int) ((i + 1 : Nat) : Int)) (fun k => by rw [body, if_pos hb]) ?_
   have : decide (xs.getD i 0 :: xs.drop (i + 1) = ys.getD i 0 :: ys.drop (i + 1)) = decide (xs.drop (i + 1) = ys.drop (i + 1)) := by rw [hb]; simp
   rw [this]
   exact ih (i + 1) (by omega)
  ·refine Ev.step (f := fun _ => some false) (fun k => by rw [body, if_neg hb]) ?_
   have : decide (xs.getD i 0 :: xs.drop (i + 1) = ys.getD i 0 :: ys.drop (i + 1)) = false := by
    rw [decide_eq_false_iff_not]; intro h; exact hb (List.cons.inj h).1
   rw [this]
   exact Ev.now _
theorem equalInts_ev (xs ys : List Int) (hm : xs.length ≤ 9223372036854775807) : Ev (fun k => slices_Equal_int_int.f k xs ys) (decide (xs = ys)) := by
 unfold slices_Equal_int_int.f
 by_cases h : xs.length = ys.length
 ·exact Ev.congr (f := fun k => slices_Equal_int_int.l0 k xs ys (xs.length : Int) ((0 : Nat) : Int)) (fun k => by rw [if_pos (by omega)]; rfl) (equalInts_l xs ys h hm _ 0 rfl)
 ·refine Ev.congr (f := fun _ => some false) (fun k => by rw [if_neg (by omega)]) ?_
  rw [decide_eq_false (fun e => h (by rw [e]))]
  exact Ev.now _

def sameA (s t : Int) (l m : List Int) : Bool := decide (s = t) && decide (l = m)
theorem specSameA_ev (s t : Int) (l m : List Int) (hl : l.length ≤ 9223372036854775807) : Ev (fun k => spec_SameAttr.f k s l t m) (sameA s t l m) := by
 unfold spec_SameAttr.f sameA
 by_cases h : s = t
 ·simp only [if_pos h, decide_eq_true h, Bool.true_and]
  exact Ev.bind (l1Same_ev l m hl) (Ev.now _)
 ·simp only [if_neg h, decide_eq_false h, Bool.false_and]
  exact Ev.now _
theorem implSameA_ev (s t : Int) (l m : List Int) (hl : l.length ≤ 9223372036854775807) : Ev (fun k => impl_SameAttr.f k s l t m) (sameA s t l m) := by
 unfold impl_SameAttr.f sameA
 by_cases h : s = t
 ·simp only [if_pos h, decide_eq_true h, Bool.true_and]
  exact Ev.bind (equalInts_ev l m hl) (Ev.now _)
 ·simp only [if_neg h, decide_eq_false h, Bool.false_and]
  exact Ev.now _

theorem specGroup (n : Int) : spec_IsGroup.f n = some (decide (n = 3 ∨ n = 5)) := by
 unfold spec_IsGroup.f
 by_cases h : n = 3
 ·rw [if_pos h]; simp [h]
 ·rw [if_neg h]; by_cases h5 : n = 5 <;> simp [h, h5]

theorem implGroup (n : Int) : impl_IsGroup.f n = some (decide (n = 3 ∨ n = 5)) := by
 unfold impl_IsGroup.f
 by_cases h : n = 3
 ·rw [if_pos h]; simp [h]
 ·rw [if_neg h]; by_cases h5 : n = 5 <;> simp [h, h5]

theorem l1In_f (a b c : Int) : spec_l1In.f a b c = some (Mine.inB b c a) := by
 unfold spec_l1In.f Mine.inB
 by_cases h : a ≥ b
 ·rw [if_pos h]; simp [show b ≤ a from h]
 ·rw [if_neg h]; simp [show ¬ b ≤ a from h]

theorem l1All_l (xs : List Int) (lo hi : Int) (hm : xs.length ≤ 9223372036854775807) : ∀ (d i : Nat), xs.length - i = d → Ev (fun k => spec_l1All.l0 k lo hi xs (xs.length : Int) (i : Int)) (!Mine.anyP (Mine.outB lo hi) (xs.drop i)) := by
 intro d
 induction d with
 | zero =>
  intro i hd
  rw [List.drop_eq_nil_of_le (by omega)]
  exact Ev.step (f := fun _ => some true) (fun k => by simp only [spec_l1All.l0]; rw [if_neg (by omega)]) (Ev.now _)
 | succ d ih =>
  intro i hd
  have hlt : i < xs.length := by omega
  rw [Mine.drop_at xs 0 i hlt, Mine.anyP_cons]
  have body : ∀ k, spec_l1All.l0 (k + 1) lo hi xs (xs.length : Int) (i : Int) = if Mine.inB lo hi (xs.getD i 0) = true then spec_l1All.l0 k lo hi xs (xs.length : Int) ((i + 1 : Nat) : Int) else some false := by
   intro k
   simp only [spec_l1All.l0]
   rw [if_pos (by omega), if_pos (by omega), if_pos (by omega), rd_nat, l1In_f, Option.bind_some, wrap_next hlt hm]
  cases hb : Mine.inB lo hi (xs.getD i 0) with
  | true =>
   refine Ev.step (f := fun k => spec_l1All.l0 k lo hi xs (xs.length : Int) ((i + 1 : Nat) : Int)) (fun k => by rw [body, if_pos hb]) ?_
   have : Mine.outB lo hi (xs.getD i 0) = false := by unfold Mine.outB; rw [hb]; rfl
   rw [this, Bool.false_or]
   exact ih (i + 1) (by omega)
  | false =>
   refine Ev.step (f := fun _ => some false) (fun k => by rw [body, if_neg (by rw [hb]; simp)]) ?_
   have : Mine.outB lo hi (xs.getD i 0) = true := by unfold Mine.outB; rw [hb]; rfl
   rw [this, Bool.true_or]
   exact Ev.now _
theorem l1All_ev (xs : List Int) (lo hi : Int) (hm : xs.length ≤ 9223372036854775807) : Ev (fun k => spec_l1All.f k xs lo hi) (!Mine.anyP (Mine.outB lo hi) xs) := l1All_l xs lo hi hm _ 0 rfl

def goodAttrB (n s : Int) (l : List Int) : Bool := decide (n = 3 ∨ n = 5) && (Mine.inB 0 999 s && (decide ((l.length : Int) = n) && !Mine.anyP (Mine.outB 0 6) l))
theorem l3Attr_ev (n s : Int) (l : List Int) (hm : l.length ≤ 9223372036854775807) : Ev (fun k => spec_l3Attr.f k n s l) (Mine.inB 0 999 s && (decide ((l.length : Int) = n) && !Mine.anyP (Mine.outB 0 6) l)) := by
 unfold spec_l3Attr.f
 cases hs : Mine.inB 0 999 s with
 | false => exact Ev.congr (f := fun _ => some false) (fun k => by rw [l1In_f, Option.bind_some, hs, if_neg (by simp)]) (Ev.now _)
 | true =>
  by_cases hl : (l.length : Int) = n
  ·refine Ev.congr (f := fun k => (spec_l1All.f k l 0 6).bind fun t => some t) (fun k => by rw [l1In_f, Option.bind_some, hs, if_pos rfl, if_pos hl]) ?_
   rw [decide_eq_true hl, Bool.true_and, Bool.true_and]
   exact Ev.bind (l1All_ev l 0 6 hm) (Ev.now _)
  ·rw [decide_eq_false hl, Bool.false_and, Bool.and_false]
   exact Ev.congr (f := fun _ => some false) (fun k => by rw [l1In_f, Option.bind_some, hs, if_pos rfl, if_neg hl]) (Ev.now _)

theorem within_f (a b c : Int) : impl_within.f a b c = some (Mine.inB b c a) := by
 unfold impl_within.f Mine.inB
 by_cases h : b ≤ a
 ·rw [if_pos h]; simp [h]
 ·rw [if_neg h]; simp [h]

theorem l2Account_f (a : Int) : spec_l2Account.f a = some (Mine.inB 0 3 a) := by unfold spec_l2Account.f; rw [l1In_f, Option.bind_some]

theorem specGoodCmd (k i f t a : Int) : spec_GoodCmd.f k i f t a = some (Mine.goodCmdB k i f t a) := by
 unfold spec_GoodCmd.f spec_l2Code.f Mine.goodCmdB
 simp only [l1In_f, l2Account_f, Option.bind_some]
 by_cases h0 : k = 0
 ·simp [h0]
 ·rw [if_neg h0, if_neg h0]
  by_cases h1 : k = 1
  ·rw [if_pos h1, if_pos h1, if_pos h1]
   by_cases hft : f = t
   ·cases Mine.inB 1 999 i <;> cases Mine.inB 0 3 f <;> cases Mine.inB 0 3 t <;> simp [hft]
   ·cases Mine.inB 1 999 i <;> cases Mine.inB 0 3 f <;> cases Mine.inB 0 3 t <;> cases Mine.inB 1 1000 a <;> simp [hft]
  ·rw [if_neg h1, if_neg h1, if_neg h1]
   by_cases h2 : k = 2
   ·rw [if_pos h2, if_pos h2]
    by_cases ht : t = 0
    ·cases Mine.inB 1 999 i <;> cases Mine.inB 0 3 f <;> simp [ht]
    ·cases Mine.inB 1 999 i <;> cases Mine.inB 0 3 f <;> simp [ht]
   ·rw [if_neg h2, if_neg h2]

theorem implGoodCmd (k i f t a : Int) : impl_GoodCmd.f k i f t a = some (Mine.goodCmdB k i f t a) := by
 unfold impl_GoodCmd.f impl_isAccount.f Mine.goodCmdB
 simp only [within_f, Option.bind_some]
 by_cases h0 : k = 0
 ·simp [h0]
 ·rw [if_neg h0, if_neg h0]
  by_cases h1 : k = 1
  ·rw [if_pos h1, if_pos h1]
   by_cases hft : f = t
   ·cases Mine.inB 1 999 i <;> cases Mine.inB 0 3 f <;> cases Mine.inB 0 3 t <;> simp [hft]
   ·cases Mine.inB 1 999 i <;> cases Mine.inB 0 3 f <;> cases Mine.inB 0 3 t <;> cases Mine.inB 1 1000 a <;> simp [hft]
  ·rw [if_neg h1, if_neg h1]
   by_cases h2 : k = 2
   ·rw [if_pos h2, if_pos h2]
    by_cases ht : t = 0
    ·cases Mine.inB 1 999 i <;> cases Mine.inB 0 3 f <;> simp [ht]
    ·cases Mine.inB 1 999 i <;> cases Mine.inB 0 3 f <;> simp [ht]
   ·rw [if_neg h2, if_neg h2]

theorem anyO_ev {α : Type} (p : Nat → α → Option Bool) : ∀ (xs : List α) (q : α → Bool), (∀ x ∈ xs, Ev (fun k => p k x) (q x)) → Ev (fun k => Mine.anyO (p k) xs) (Mine.anyP q xs)
 | [], q, _ => Ev.const rfl
 | x :: xs, q, h => by
  simp only [Mine.anyO]
  refine Ev.bind (h x (by simp)) ?_
  rw [Mine.anyP_cons]
  cases hq : q x with
  | true => simpa using Ev.now true
  | false => simpa using anyO_ev p xs q (fun y hy => h y (by simp [hy]))

def zeroC (c : S28) : Bool := c.f0 == 0 && (c.f1 == 0 && (c.f2 == 0 && (c.f3 == 0 && (c.f4 == 0))))
def rowB (n : Int) (x : S39) : Bool :=
 Mine.inB 0 9999 x.f0 && (Mine.inB 0 x.f0 x.f1 && (Mine.inB 0 3 x.f2 && (if x.f2 = 0 then decide (x.f1 = 0) && (zeroC x.f3 && sameA x.f4.f0 0 x.f4.f1 (List.replicate n.toNat 0)) else goodS x.f3 && goodAttrB n x.f4.f0 x.f4.f1)))
def listB (n : Int) (y : List S39) : Bool := decide (y.length ≤ 6) && !Mine.anyP (fun x => !rowB n x) y
def tableB (n : Int) (l : List (List S39)) : Bool := decide (n = 3 ∨ n = 5) && (decide ((l.length : Int) = n) && !Mine.anyP (fun y => !listB n y) l)
theorem none_good {n : Int} (hn : n = 3 ∨ n = 5) : goodAttrB n 0 (List.replicate n.toNat 0) = true := by
 rcases hn with rfl | rfl <;> decide
theorem zero_good {c : S28} (h : zeroC c = true) : goodS c = true := by
 unfold zeroC at h
 simp only [Bool.and_eq_true, beq_iff_eq] at h
 unfold goodS
 rw [h.1, h.2.1, h.2.2.1, h.2.2.2.1, h.2.2.2.2]
 decide
theorem zeroC_of (a b c d e : Int) : (a == 0 && (b == 0 && (c == 0 && (d == 0 && (e == 0))))) = zeroC ⟨a, b, c, d, e⟩ := rfl
theorem l3None_f {n : Int} (hn : n = 3 ∨ n = 5) : spec_l3None.f n = some (0, List.replicate n.toNat 0) := by
 unfold spec_l3None.f
 rw [if_pos (by omega), if_pos (by omega)]
theorem noneAttr_f {n : Int} (hn : n = 3 ∨ n = 5) : impl_noneAttr.f n = some (0, List.replicate n.toNat 0) := by
 unfold impl_noneAttr.f
 rw [if_pos (by omega), if_pos (by omega)]
theorem specRow_ev (n : Int) (hn : n = 3 ∨ n = 5) (x : S39) (hx : okR x) : Ev (fun k => spec_l4Row.f k n x.f0 x.f1 x.f2 x.f3.f0 x.f3.f1 x.f3.f2 x.f3.f3 x.f3.f4 x.f4.f0 x.f4.f1) (rowB n x) := by
 have hl : x.f4.f1.length ≤ 9223372036854775807 := by have : x.f4.f1.length ≤ 1048576 := hx; omega
 have bad : Ev (fun k => spec_l4Row.j0 k n true x.f0 x.f1 x.f2 x.f3.f0 x.f3.f1 x.f3.f2 x.f3.f3 x.f3.f4 x.f4.f0 x.f4.f1) false := Ev.step (f := fun _ => some false) (fun k => by simp only [spec_l4Row.j0]; rw [if_pos trivial]) (Ev.now _)
 unfold spec_l4Row.f rowB
 simp only [l1In_f, Option.bind_some]
 cases h1 : Mine.inB 0 9999 x.f0 with
 | false => simpa using bad
 | true =>
  simp only [if_true, Bool.true_and]
  cases h2 : Mine.inB 0 x.f0 x.f1 with
  | false => simpa using bad
  | true =>
   simp only [if_true, Bool.true_and]
   cases h3 : Mine.inB 0 3 x.f2 with
   | false => simpa using bad
   | true =>
    simp only [Bool.not_true, Bool.true_and]
    by_cases h4 : x.f2 = 0
    ·rw [if_pos h4]
     by_cases h5 : x.f1 = 0
     ·rw [decide_eq_true h5, Bool.true_and]
      cases h6 : zeroC x.f3 with
      | false =>
       refine Ev.step (f := fun _ => some false) (fun k => by simp only [spec_l4Row.j0]; rw [if_neg (by simp), if_pos h4, if_pos h5, zeroC_of, h6, if_neg (by simp)]) (Ev.now _)
      | true =>
       rw [Bool.true_and]
       refine Ev.step (fun k => by simp only [spec_l4Row.j0]; rw [if_neg (by simp), if_pos h4, if_pos h5, zeroC_of, h6, if_pos rfl, l3None_f hn, Option.bind_some]) (Ev.bind (specSameA_ev x.f4.f0 0 x.f4.f1 (List.replicate n.toNat 0) hl) (Ev.now _))
     ·rw [decide_eq_false h5, Bool.false_and]
      refine Ev.step (f := fun _ => some false) (fun k => by simp only [spec_l4Row.j0]; rw [if_neg (by simp), if_pos h4, if_neg h5]) (Ev.now _)
    ·rw [if_neg h4]
     cases h6 : goodS x.f3 with
     | false =>
      refine Ev.step (f := fun _ => some false) (fun k => by simp only [spec_l4Row.j0]; rw [if_neg (by simp), if_neg h4, specGoodCmd, Option.bind_some, show Mine.goodCmdB x.f3.f0 x.f3.f1 x.f3.f2 x.f3.f3 x.f3.f4 = goodS x.f3 from rfl, h6, if_neg (by simp)]) (Ev.now _)
     | true =>
      rw [Bool.true_and]
      have e2 : (Mine.inB 0 999 x.f4.f0 && (decide ((x.f4.f1.length : Int) = n) && !Mine.anyP (Mine.outB 0 6) x.f4.f1)) = goodAttrB n x.f4.f0 x.f4.f1 := by
       unfold goodAttrB; rw [decide_eq_true hn, Bool.true_and]
      have h7 := l3Attr_ev n x.f4.f0 x.f4.f1 hl
      rw [e2] at h7
      exact Ev.step (fun k => by simp only [spec_l4Row.j0]; rw [if_neg (by simp), if_neg h4, specGoodCmd, Option.bind_some, show Mine.goodCmdB x.f3.f0 x.f3.f1 x.f3.f2 x.f3.f3 x.f3.f4 = goodS x.f3 from rfl, h6, if_pos rfl]) (Ev.bind h7 (Ev.now _))
theorem implRow_ev (n : Int) (hn : n = 3 ∨ n = 5) (x : S39) (hx : okR x) : Ev (fun k => impl_goodRow.f k n x.f0 x.f1 x.f2 x.f3.f0 x.f3.f1 x.f3.f2 x.f3.f3 x.f3.f4 x.f4.f0 x.f4.f1) (rowB n x) := by
 have hl : x.f4.f1.length ≤ 9223372036854775807 := by have : x.f4.f1.length ≤ 1048576 := hx; omega
 have bad : Ev (fun k => impl_goodRow.j0 k n true x.f0 x.f1 x.f2 x.f3.f0 x.f3.f1 x.f3.f2 x.f3.f3 x.f3.f4 x.f4.f0 x.f4.f1) false := Ev.step (f := fun _ => some false) (fun k => by simp only [impl_goodRow.j0]; rw [if_pos trivial]) (Ev.now _)
 have hg : impl_GoodAttr.f n x.f4.f0 x.f4.f1 = some (goodAttrB n x.f4.f0 x.f4.f1) := rfl
 unfold impl_goodRow.f rowB
 simp only [within_f, implGoodCmd, hg, Option.bind_some]
 cases h1 : Mine.inB 0 9999 x.f0 with
 | false => simpa using bad
 | true =>
  simp only [if_true, Bool.true_and]
  cases h2 : Mine.inB 0 x.f0 x.f1 with
  | false => simpa using bad
  | true =>
   simp only [if_true, Bool.true_and]
   cases h3 : Mine.inB 0 3 x.f2 with
   | false => simpa using bad
   | true =>
    simp only [if_true, Bool.true_and]
    rw [show Mine.goodCmdB x.f3.f0 x.f3.f1 x.f3.f2 x.f3.f3 x.f3.f4 = goodS x.f3 from rfl]
    by_cases h4 : x.f2 = 0
    ·rw [if_pos h4]
     by_cases h8 : goodS x.f3 = true ∧ goodAttrB n x.f4.f0 x.f4.f1 = true
     ·obtain ⟨h8, h9⟩ := h8
      simp only [h8, h9, if_true, Bool.not_true]
      by_cases h5 : x.f1 = 0
      ·rw [decide_eq_true h5, Bool.true_and]
       cases h6 : zeroC x.f3 with
       | false =>
        refine Ev.step (f := fun _ => some false) (fun k => by simp only [impl_goodRow.j0]; rw [if_neg (by simp), if_pos h4, if_pos h5, zeroC_of, h6, if_neg (by simp)]) (Ev.now _)
       | true =>
        rw [Bool.true_and]
        refine Ev.step (fun k => by simp only [impl_goodRow.j0]; rw [if_neg (by simp), if_pos h4, if_pos h5, zeroC_of, h6, if_pos rfl, noneAttr_f hn, Option.bind_some]) (Ev.bind (implSameA_ev x.f4.f0 0 x.f4.f1 (List.replicate n.toNat 0) hl) (Ev.now _))
      ·rw [decide_eq_false h5, Bool.false_and]
       refine Ev.step (f := fun _ => some false) (fun k => by simp only [impl_goodRow.j0]; rw [if_neg (by simp), if_pos h4, if_neg h5]) (Ev.now _)
     ·have e : (decide (x.f1 = 0) && (zeroC x.f3 && sameA x.f4.f0 0 x.f4.f1 (List.replicate n.toNat 0))) = false := by
       rw [Bool.eq_false_iff]
       intro h
       rw [Bool.and_eq_true, Bool.and_eq_true] at h
       obtain ⟨_, h6, h7⟩ := h
       unfold sameA at h7
       rw [Bool.and_eq_true, decide_eq_true_eq, decide_eq_true_eq] at h7
       exact h8 ⟨zero_good h6, by rw [h7.1, h7.2]; exact none_good hn⟩
      rw [e]
      cases h6 : goodS x.f3 with
      | false => simpa using bad
      | true =>
       cases h7 : goodAttrB n x.f4.f0 x.f4.f1 with
       | false => simpa using bad
       | true => exact absurd ⟨h6, h7⟩ h8
    ·rw [if_neg h4]
     cases h6 : goodS x.f3 with
     | false => simpa using bad
     | true =>
      cases h7 : goodAttrB n x.f4.f0 x.f4.f1 with
      | false => simpa using bad
      | true =>
       simp only [if_true, Bool.not_true, Bool.true_and]
       exact Ev.step (f := fun _ => some true) (fun k => by simp only [impl_goodRow.j0]; rw [if_neg (by simp), if_neg h4]) (Ev.now _)
theorem specTable_in (n : Int) (hn : n = 3 ∨ n = 5) (xs : List (List S39)) (i : Nat) (y : List S39) (hy : okRS y) (hw : wrap64 ((i : Int) + 1) = ((i + 1 : Nat) : Int)) (R : Bool)
  (hR : Ev (fun k => spec_GoodTable.l0 k xs (xs.length : Int) ((i + 1 : Nat) : Int) n xs) R) : ∀ (d j : Nat), y.length - j = d → j ≤ y.length → Mine.anyP (fun x => !rowB n x) (y.take j) = false →
  Ev (fun k => spec_GoodTable.l1 k y xs (xs.length : Int) (i : Int) y (y.length : Int) (j : Int) n xs) (if listB n y = true then R else false) := by
 obtain ⟨hm, hi⟩ := hy
 intro d
 induction d with
 | zero =>
  intro j hd hj hb
  rw [List.take_of_length_le (by omega)] at hb
  by_cases h6 : y.length ≤ 6
  ·have e : listB n y = true := by unfold listB; rw [hb, decide_eq_true h6]; rfl
   rw [if_pos e]
   exact Ev.step (fun k => by simp only [spec_GoodTable.l1]; rw [if_neg (by omega), if_neg (by omega), hw]) hR
  ·have e : listB n y = false := by unfold listB; rw [decide_eq_false h6]; rfl
   rw [if_neg (by rw [e]; simp)]
   exact Ev.step (f := fun _ => some false) (fun k => by simp only [spec_GoodTable.l1]; rw [if_neg (by omega), if_pos (by omega)]) (Ev.now _)
 | succ d ih =>
  intro j hd hj hb
  have hlt : j < y.length := by omega
  have hx := specRow_ev n hn (y.getD j z39) (hi _ (mem_at _ hlt))
  refine Ev.step (fun k => by simp only [spec_GoodTable.l1]; rw [if_pos (by omega), if_pos (by omega), if_pos (by omega), rdR_nat, wrap_next hlt (by omega)]) (Ev.bind hx ?_)
  cases hr : rowB n (y.getD j z39) with
  | false =>
   have e : listB n y = false := by
    unfold listB
    rw [Mine.anyP, List.any_eq_true.2 ⟨_, mem_at z39 hlt, by rw [hr]; rfl⟩]
    simp
   rw [if_neg (by rw [e]; simp)]
   simp only [Bool.false_eq_true, if_false]
   exact Ev.now _
  | true =>
   simp only [if_true]
   refine ih (j + 1) (by omega) (by omega) ?_
   have e : y.take (j + 1) = y.take j ++ [y.getD j z39] := by
    rw [List.take_add_one, List.getD_eq_getElem?_getD, List.getElem?_eq_getElem hlt]; rfl
   unfold Mine.anyP at hb ⊢
   rw [e, List.any_append, hb, List.any_cons, hr]
   rfl
theorem specTable_l (n : Int) (hn : n = 3 ∨ n = 5) (xs : List (List S39)) (hx : okRSS xs) : ∀ (d i : Nat), xs.length - i = d → i ≤ xs.length →
  Ev (fun k => spec_GoodTable.l0 k xs (xs.length : Int) (i : Int) n xs) (!Mine.anyP (fun y => !listB n y) (xs.drop i)) := by
 obtain ⟨hm, hi⟩ := hx
 intro d
 induction d with
 | zero =>
  intro i hd hi'
  rw [List.drop_eq_nil_of_le (by omega)]
  exact Ev.step (f := fun _ => some true) (fun k => by simp only [spec_GoodTable.l0]; rw [if_neg (by omega)]) (Ev.now _)
 | succ d ih =>
  intro i hd hi'
  have hlt : i < xs.length := by omega
  have h := specTable_in n hn xs i (xs.getD i []) (hi _ (mem_at _ hlt)) (wrap_next hlt (by omega)) _ (ih (i + 1) (by omega) (by omega)) _ 0 rfl (by omega) (by simp [Mine.anyP])
  rw [Mine.drop_at xs [] i hlt, Mine.anyP_cons]
  have e : (!(!listB n (xs.getD i []) || Mine.anyP (fun y => !listB n y) (xs.drop (i + 1)))) = (if listB n (xs.getD i []) = true then !Mine.anyP (fun y => !listB n y) (xs.drop (i + 1)) else false) := by
   cases listB n (xs.getD i []) <;> simp
  rw [e]
  exact Ev.step (fun k => by simp only [spec_GoodTable.l0]; rw [if_pos (by omega), if_pos (by omega), if_pos (by omega), rdRR_nat]; rfl) h
theorem specTable_ev (n : Int) (xs : List (List S39)) (hx : okRSS xs) : Ev (fun k => spec_GoodTable.f k n xs) (tableB n xs) := by
 have bad : Ev (fun k => spec_GoodTable.j0 k true n xs) false := Ev.step (f := fun _ => some false) (fun k => by simp only [spec_GoodTable.j0]; rw [if_pos trivial]) (Ev.now _)
 unfold spec_GoodTable.f tableB
 rw [specGroup]
 simp only [Option.bind_some]
 by_cases hn : n = 3 ∨ n = 5
 ·rw [decide_eq_true hn]
  simp only [if_true, Bool.true_and]
  by_cases hl : (xs.length : Int) = n
  ·rw [decide_eq_true hl, Bool.true_and, show ((xs.length : Int) != n) = false by simp [hl]]
   exact Ev.step (fun k => by simp only [spec_GoodTable.j0]; rw [if_neg (by simp)]; rfl) (specTable_l n hn xs hx _ 0 rfl (by omega))
  ·rw [decide_eq_false hl, Bool.false_and, show ((xs.length : Int) != n) = true by simp [hl]]
   exact bad
 ·rw [decide_eq_false hn]
  simpa using bad
theorem implTable_ev (n : Int) (xs : List (List S39)) (hx : okRSS xs) : Ev (fun k => impl_GoodTable.f k n xs) (tableB n xs) := by
 unfold impl_GoodTable.f tableB
 rw [implGroup]
 simp only [Option.bind_some]
 by_cases hn : n = 3 ∨ n = 5
 ·rw [decide_eq_true hn]
  simp only [if_true, Bool.true_and]
  by_cases hl : (xs.length : Int) = n
  ·rw [decide_eq_true hl, Bool.true_and]
   simp only [if_pos hl]
   refine Ev.bind (a := Mine.anyP (fun y => !listB n y) xs) ?_ (Ev.now _)
   unfold impl_GoodTable_1_in_c.f
   refine anyO_ev (fun k y => impl_GoodTable_1.f k y n xs) xs (fun y => !listB n y) (fun y hy => ?_)
   obtain ⟨hm, hi⟩ := hx.2 y hy
   show Ev (fun k => impl_GoodTable_1.f k y n xs) (!listB n y)
   unfold impl_GoodTable_1.f listB
   by_cases h6 : y.length ≤ 6
   ·rw [decide_eq_true h6, Bool.true_and, Bool.not_not]
    simp only [if_neg (show ¬ (y.length : Int) > 6 by omega)]
    refine Ev.bind (a := Mine.anyP (fun x => !rowB n x) y) ?_ (Ev.now _)
    unfold impl_GoodTable_1_1_in_c.f
    refine anyO_ev (fun k (x : S39) => impl_GoodTable_1_1.f k x.f0 x.f1 x.f2 x.f3.f0 x.f3.f1 x.f3.f2 x.f3.f3 x.f3.f4 x.f4.f0 x.f4.f1 n xs) y (fun x => !rowB n x) (fun x hx' => ?_)
    show Ev (fun k => impl_GoodTable_1_1.f k x.f0 x.f1 x.f2 x.f3.f0 x.f3.f1 x.f3.f2 x.f3.f3 x.f3.f4 x.f4.f0 x.f4.f1 n xs) (!rowB n x)
    unfold impl_GoodTable_1_1.f
    exact Ev.bind (implRow_ev n hn x (hi x hx')) (Ev.now _)
   ·rw [decide_eq_false h6, Bool.false_and]
    simp only [if_pos (show (y.length : Int) > 6 by omega)]
    exact Ev.now _
  ·rw [decide_eq_false hl, Bool.false_and]
   simp only [if_neg hl]
   exact Ev.now _
 ·rw [decide_eq_false hn]
  simp only [Bool.false_eq_true, if_false, Bool.false_and]
  exact Ev.now _

theorem rowL_ok (l : List Int) (hu : ∀ y ∈ l, 0 ≤ y ∧ y ≤ 255) (n : Nat) (hn : n = 3 ∨ n = 5) (x0 x1 x2 x3 x4 x5 x6 x7 x8 : Int) : ∀ (d i : Nat) (a s : Int) (o : List Int), n - i = d → i ≤ n → o.length = i → 0 ≤ a → a + 2 * (d : Int) ≤ 1000000000 →
  ∃ (t : S39) (a' s' : Int), Ev (fun k => spec_l1Cur_row.l0 k (n : Int) (i : Int) l a s x0 x1 x2 x3 x4 x5 x6 x7 x8 o) (t.f0, t.f1, t.f2, t.f3.f0, t.f3.f1, t.f3.f2, t.f3.f3, t.f3.f4, t.f4.f0, t.f4.f1, a', s') ∧ t.f4.f1.length ≤ 5 ∧ a ≤ a' ∧ a' ≤ a + 2 * (d : Int) + 2 := by
 intro d
 induction d with
 | zero =>
  intro i a s o hd hi ho h0 h1
  obtain ⟨b, a1, s1, e1, p1, p2⟩ := one_ok l a s 2 hu h0 (by omega) (by omega) (by omega)
  have hst : ∀ R, (∀ k, spec_l1Cur_row.l0 (k + 1) (n : Int) (i : Int) l a s x0 x1 x2 x3 x4 x5 x6 x7 x8 o = some R) → Ev (fun k => spec_l1Cur_row.l0 k (n : Int) (i : Int) l a s x0 x1 x2 x3 x4 x5 x6 x7 x8 o) R := fun R hR => Ev.step (f := fun _ => some R) hR (Ev.now _)
  have hN := l3None_f (n := (n : Int)) (by omega)
  by_cases h2 : x2 = 0
  ·refine ⟨⟨x0, 0, 0, ⟨0, 0, 0, 0, 0⟩, ⟨0, List.replicate (n : Int).toNat 0⟩⟩, a1, s1, hst _ (fun k => ?_), by dsimp only; rw [List.length_replicate, Int.toNat_natCast]; omega, by omega, by omega⟩
   simp only [spec_l1Cur_row.l0]
   rw [if_neg (by omega), e1]
   simp only [Option.bind_some, if_pos h2, hN, ite_self]
  ·cases b with
   | true =>
    refine ⟨⟨x0, x0, x2, ⟨x3, x4, x5, x6, x7⟩, ⟨x8, o⟩⟩, a1, s1, hst _ (fun k => ?_), by dsimp only; omega, by omega, by omega⟩
    simp only [spec_l1Cur_row.l0]
    rw [if_neg (by omega), e1]
    simp only [Option.bind_some, if_neg h2, if_true]
   | false =>
    refine ⟨⟨x0, x1, x2, ⟨x3, x4, x5, x6, x7⟩, ⟨x8, o⟩⟩, a1, s1, hst _ (fun k => ?_), by dsimp only; omega, by omega, by omega⟩
    simp only [spec_l1Cur_row.l0]
    rw [if_neg (by omega), e1]
    simp only [Option.bind_some, if_neg h2, Bool.false_eq_true, if_false]
 | succ d ih =>
  intro i a s o hd hi ho h0 h1
  obtain ⟨p, a1, s1, e1, p1, p2, p3, p4⟩ := pick_ok l a s 3 hu h0 (by omega) (by omega) (by omega)
  obtain ⟨t, a', s', he, r1, r2, r3⟩ := ih (i + 1) a1 s1 (o ++ [p]) (by omega) (by omega) (by rw [List.length_append, List.length_singleton, ho]) (by omega) (by omega)
  refine ⟨t, a', s', Ev.step (f := fun k => spec_l1Cur_row.l0 k (n : Int) ((i + 1 : Nat) : Int) l a1 s1 x0 x1 x2 x3 x4 x5 x6 x7 x8 (o ++ [p])) (fun k => ?_) he, r1, by omega, by omega⟩
  simp only [spec_l1Cur_row.l0]
  rw [if_pos (by omega), e1]
  simp only [Option.bind_some]
  rw [if_pos (by omega), wrap_next (show i < n by omega) (by omega)]
theorem rowE_ok (l : List Int) (hu : ∀ y ∈ l, 0 ≤ y ∧ y ≤ 255) (n a s : Int) (hn : n = 3 ∨ n = 5) (h0 : 0 ≤ a) (h1 : a ≤ 100000000) :
  ∃ (t : S39) (a' s' : Int), Ev (fun k => spec_l1Cur_table.e k l n a s) (t, a', s') ∧ t.f4.f1.length ≤ 5 ∧ a ≤ a' ∧ a' ≤ a + 28 := by
 obtain ⟨v, a1, s1, e1, _, p3, p4⟩ := among_ok l a s [0, 0, 8, 9, 17] hu h0 (by omega) (by decide) (by decide)
 obtain ⟨u, a2, s2, e2, q1, q2, q3, q4⟩ := pick_ok l a1 s1 4 hu (by omega) (by omega) (by omega) (by omega)
 obtain ⟨c0, c1, c2, c3, c4, a3, s3, e3, _, r3, r4⟩ := cmd_ok l a2 s2 hu (by omega) (by omega)
 obtain ⟨w, a4, s4, e4, w1, w2, w3, w4⟩ := pick_ok l a3 s3 5 hu (by omega) (by omega) (by omega) (by omega)
 obtain ⟨t, a', s', he, t1, t2, t3⟩ := rowL_ok l hu n.toNat (by omega) v 0 u c0 c1 c2 c3 c4 w n.toNat 0 a4 s4 [] (by omega) (by omega) rfl (by omega) (by omega)
 rw [Int.toNat_of_nonneg (by omega)] at he
 refine ⟨t, a', s', ?_, t1, by omega, by omega⟩
 unfold spec_l1Cur_table.e
 refine Ev.bind (a := (t.f0, t.f1, t.f2, t.f3.f0, t.f3.f1, t.f3.f2, t.f3.f3, t.f3.f4, t.f4.f0, t.f4.f1, a', s')) ?_ (Ev.now _)
 unfold spec_l1Cur_row.f
 simp only [e1, e2, e3, e4, Option.bind_some]
 exact he
theorem Ev.mapO3 {α β : Type} {g : Nat → Option α} {a : α} (h : Ev g a) (f : α → β) : Ev (fun k => (g k).map f) (f a) := by
 obtain ⟨K, h⟩ := h
 exact ⟨K, fun k hk => by show (g k).map f = _; rw [h k hk]; rfl⟩
theorem tabI_ok (l : List Int) (hu : ∀ y ∈ l, 0 ≤ y ∧ y ≤ 255) (n : Int) (hn : n = 3 ∨ n = 5) : ∀ (m : Nat) (x : List S39) (a s : Int), x.length + m ≤ 1000 → (∀ y ∈ x, y.f4.f1.length ≤ 5) → 0 ≤ a → a + 28 * (m : Int) ≤ 100000000 →
  ∃ (y : List S39) (a' s' : Int), Ev (fun k => spec_l1Cur_table.i k l n x (m : Int) a s) (y, a', s') ∧ y.length ≤ x.length + m ∧ (∀ z ∈ y, z.f4.f1.length ≤ 5) ∧ a ≤ a' ∧ a' ≤ a + 28 * (m : Int)
 | 0, x, a, s, _, hy, _, _ => ⟨x, a, s, Ev.step (f := fun _ => some (x, a, s)) (fun k => by simp only [spec_l1Cur_table.i]; rw [if_neg (by omega)]) (Ev.now _), by omega, hy, by omega, by omega⟩
 | m + 1, x, a, s, hx, hy, h0, h1 => by
  obtain ⟨t, a1, s1, he, t1, t2, t3⟩ := rowE_ok l hu n a s hn h0 (by omega)
  obtain ⟨y, a2, s2, hr, q1, q2, q3, q4⟩ := tabI_ok l hu n hn m (x ++ [t]) a1 s1 (by rw [List.length_append, List.length_singleton]; omega) (fun z hz => by rcases List.mem_append.1 hz with h | h; exact hy z h; rw [List.mem_singleton.1 h]; exact t1) (by omega) (by omega)
  rw [List.length_append, List.length_singleton] at q1
  refine ⟨y, a2, s2, Ev.step (f := fun k => (spec_l1Cur_table.e k l n a s).bind fun t => if x.length ≤ 1000 then spec_l1Cur_table.i k l n (x ++ [t.1]) (m : Int) t.2.1 t.2.2 else none) (fun k => ?_) (Ev.bind he ?_), by omega, q2, by omega, by omega⟩
  ·simp only [spec_l1Cur_table.i]
   have hw : wrap64 (((m + 1 : Nat) : Int) - 1) = (m : Int) := by unfold wrap64; omega
   rw [if_pos (by omega), hw]
  ·simp only [if_pos (show x.length ≤ 1000 by omega)]
   exact hr
theorem tabO_ok (l : List Int) (hu : ∀ y ∈ l, 0 ≤ y ∧ y ≤ 255) (n : Int) (hn : n = 3 ∨ n = 5) : ∀ (d : Nat) (a s : Int), 0 ≤ a → a + 86 * (d : Int) ≤ 10000000 →
  ∃ (rows : List (List S39)) (a' s' : Int), Ev (fun k => spec_l1Cur_table.o k l n d a s) (rows, a', s') ∧ rows.length = d ∧ (∀ y ∈ rows, y.length ≤ 4 ∧ ∀ z ∈ y, z.f4.f1.length ≤ 5) ∧ a ≤ a' ∧ a' ≤ a + 86 * (d : Int)
 | 0, a, s, _, _ => ⟨[], a, s, Ev.now _, rfl, by simp, by omega, by omega⟩
 | d + 1, a, s, h0, h1 => by
  obtain ⟨p, a1, s1, e1, p1, p2, p3, p4⟩ := pick_ok l a s 4 hu h0 (by omega) (by omega) (by omega)
  obtain ⟨x, a2, s2, hx, q1, q0, q2, q3⟩ := tabI_ok l hu n hn p.toNat [] a1 s1 (by simp; omega) (by simp) (by omega) (by omega)
  rw [Int.toNat_of_nonneg p1] at hx
  obtain ⟨rows, a3, s3, hr, r1, r2, r3, r4⟩ := tabO_ok l hu n hn d a2 s2 (by omega) (by omega)
  refine ⟨x :: rows, a3, s3, ?_, by rw [List.length_cons, r1], fun y hy => ?_, by omega, by omega⟩
  ·refine Ev.congr (f := fun k => (spec_l1Cur_table.i k l n [] p a1 s1).bind fun q => (spec_l1Cur_table.o k l n d q.2.1 q.2.2).map fun r => (q.1 :: r.1, r.2)) (fun k => ?_) (Ev.bind hx ?_)
   ·rw [spec_l1Cur_table.o, e1, Option.bind_some]
   ·exact Ev.mapO3 hr _
  ·rcases List.mem_cons.1 hy with e | e
   ·rw [e]; simp at q1; exact ⟨by omega, q0⟩
   ·exact r2 y e
theorem table_ok (l : List Int) (hu : ∀ y ∈ l, 0 ≤ y ∧ y ≤ 255) (a s : Int) (h0 : 0 ≤ a) (h1 : a ≤ 1000000) : ∃ (n : Int) (rows : List (List S39)) (a' s' : Int), Ev (fun k => spec_l1Cur_table.f k l a s) (n, rows, a', s') ∧ rows.length ≤ 5 ∧ (∀ y ∈ rows, y.length ≤ 5 ∧ ∀ z ∈ y, z.f4.f1.length ≤ 5) ∧ a ≤ a' ∧ a' ≤ a + 1000 := by
 obtain ⟨n, a1, s1, e1, hm, p3, p4⟩ := among_ok l a s [3, 3, 3, 5] hu h0 (by omega) (by decide) (by decide)
 have hn : n = 3 ∨ n = 5 := by simp at hm; omega
 obtain ⟨rows, a2, s2, hr, r1, r2, r3, r4⟩ := tabO_ok l hu n hn n.toNat a1 s1 (by omega) (by omega)
 have r2' : ∀ y ∈ rows, y.length ≤ 5 ∧ ∀ z ∈ y, z.f4.f1.length ≤ 5 := fun y hy => ⟨by have := (r2 y hy).1; omega, (r2 y hy).2⟩
 obtain ⟨p, a3, s3, e3, q1, q2, q3, q4⟩ := pick_ok l a2 s2 40 hu (by omega) (by omega) (by omega) (by omega)
 have hf : ∀ (N : Int) (R : List (List S39)) (a' s' : Int), spec_l1Cur_table.z l rows n a2 s2 = some (N, R, a', s') → Ev (fun k => spec_l1Cur_table.f k l a s) (N, R, a', s') := by
  intro N R a' s' hz
  unfold spec_l1Cur_table.f
  simp only [e1, Option.bind_some, if_pos (show 0 < n ∧ n ≤ 1000 by omega)]
  refine Ev.bind hr ?_
  simp only [hz]
  exact Ev.now _
 by_cases c0 : p = 0
 ·obtain ⟨q, a4, s4, e4, u1, u2, u3, u4⟩ := pick_ok l a3 s3 6 hu (by omega) (by omega) (by omega) (by omega)
  exact ⟨q, rows, a4, s4, hf _ _ _ _ (by unfold spec_l1Cur_table.z; rw [e3, Option.bind_some]; dsimp only; rw [if_pos c0, e4, Option.bind_some]), by omega, r2', by omega, by omega⟩
 ·by_cases c1 : p = 1
  ·have hg : (rows.getD 0 []).length ≤ 4 ∧ ∀ z ∈ rows.getD 0 [], z.f4.f1.length ≤ 5 := r2 _ (mem_at [] (by omega))
   refine ⟨n, rows.set 0 (rows.getD 0 [] ++ [spec_l1Cur_table.v1]), a3, s3, hf _ _ _ _ (by unfold spec_l1Cur_table.z; rw [e3, Option.bind_some]; dsimp only; rw [if_neg c0, if_pos c1, if_pos (by omega)]), by rw [List.length_set]; omega, fun y hy => ?_, by omega, by omega⟩
   rcases List.mem_or_eq_of_mem_set hy with h | h
   ·exact r2' y h
   ·rw [h]
    refine ⟨by rw [List.length_append, List.length_singleton]; omega, fun z hz => ?_⟩
    rcases List.mem_append.1 hz with h | h
    ·exact hg.2 z h
    ·rw [List.mem_singleton.1 h]; simp [spec_l1Cur_table.v1]
  ·exact ⟨n, rows, a3, s3, hf _ _ _ _ (by unfold spec_l1Cur_table.z; rw [e3, Option.bind_some]; dsimp only; rw [if_neg c0, if_neg c1]), by omega, r2', by omega, by omega⟩
theorem inst_ok (l : List Int) (a s : Int) (hu : ∀ y ∈ l, 0 ≤ y ∧ y ≤ 255) (h0 : 0 ≤ a) (h1 : a ≤ 1000000000) : ∃ rep no a' s', spec_l1Cur_inst.f l a s = some (rep, no, a', s') := by
 obtain ⟨u, a2, s2, e2, q1, q2, q3, q4⟩ := pick_ok l a s 4 hu (by omega) (by omega) (by omega) (by omega)
 obtain ⟨w, a3, s3, e3, w1, w2, w3, w4⟩ := pick_ok l a2 s2 12 hu (by omega) (by omega) (by omega) (by omega)
 obtain ⟨v, a4, s4, e4, _, p3, p4⟩ := among_ok l a3 s3 [1, 1, 2, 2, 3, 4, 6, 7, 0] hu (by omega) (by omega) (by decide) (by decide)
 refine ⟨wrap64 (u - wrap64 (Int.tdiv w 11)), v, a4, s4, ?_⟩
 unfold spec_l1Cur_inst.f
 rw [e2, Option.bind_some]
 dsimp only
 rw [e3, Option.bind_some]
 dsimp only
 rw [e4, Option.bind_some]
theorem drawAttrFor_ok (l : List Int) (hu : ∀ y ∈ l, 0 ≤ y ∧ y ≤ 255) : ∃ (n : Int) (rows : List (List S39)) (c : S28) (rep no : Int), Ev (fun k => spec_DrawAttrFor.f k l) (n, rows, c.f0, c.f1, c.f2, c.f3, c.f4, rep, no) ∧ okRSS rows := by
 obtain ⟨n, rows, a1, s1, ht, r1, r2, r3, r4⟩ := table_ok l hu 0 0 (by omega) (by omega)
 obtain ⟨k, i, f, t, m, a2, s2, e2, q3, q4⟩ := anyCmd_ok l a1 s1 hu (by omega) (by omega)
 obtain ⟨rep, no, a3, s3, e3⟩ := inst_ok l a2 s2 hu (by omega) (by omega)
 refine ⟨n, rows, ⟨k, i, f, t, m⟩, rep, no, ?_, by omega, fun y hy => ⟨by have := (r2 y hy).1; omega, fun z hz => by have := (r2 y hy).2 z hz; unfold okR; omega⟩⟩
 unfold spec_DrawAttrFor.f
 refine Ev.bind ht ?_
 simp only [e2, Option.bind_some, e3]
 exact Ev.now _

def common (x y : List Int) : Bool := Mine.anyP (fun k => Mine.anyP (fun z => z == k) y) x
def meetB (a b : List (List Int)) : Bool := !Mine.anyP (fun x => Mine.anyP (fun y => !common x y) b) a

def putL : List Int → Int → List Int
 | [], n => [n]
 | x :: xs, n => if x < n then x :: putL xs n else if x = n then x :: xs else n :: x :: xs
theorem putL_length (n : Int) : ∀ l : List Int, (putL l n).length ≤ l.length + 1
 | [] => by simp [putL]
 | x :: xs => by
  have := putL_length n xs
  unfold putL
  split
  ·simp; omega
  ·split <;> simp

theorem l1Put_l (l : List Int) (n : Int) (hm : l.length < 17592186044400) : ∀ (d i : Nat), l.length - i = d → i ≤ l.length → Ev (fun k => spec_l1Put.l0 k l n (i : Int)) (l.take i ++ putL (l.drop i) n) := by
 intro d
 induction d with
 | zero =>
  intro i hd hi
  obtain rfl : i = l.length := by omega
  refine Ev.step (f := fun _ => some _) (fun k => ?_) (Ev.now _)
  simp only [spec_l1Put.l0]
  rw [if_neg (by omega)]
  simp only [Option.bind_some, Int.toNat_natCast, List.drop_length, List.take_length, putL, List.append_nil]
  rw [if_pos (by omega), if_pos (by omega), if_pos (by simp; omega), if_pos (by simp; omega), if_pos (by simp; omega)]
  simp
 | succ d ih =>
  intro i hd hi
  have hlt : i < l.length := by omega
  rw [Mine.drop_at l 0 i hlt, putL]
  by_cases h1 : l.getD i 0 < n
  ·rw [if_pos h1]
   have := ih (i + 1) (by omega) (by omega)
   have e : l.take (i + 1) = l.take i ++ [l.getD i 0] := by
    rw [List.take_add_one, List.getD_eq_getElem?_getD, List.getElem?_eq_getElem hlt]; rfl
   rw [e, List.append_assoc] at this
   refine Ev.step (fun k => ?_) this
   simp only [spec_l1Put.l0]
   rw [if_pos (by omega), if_pos (by omega), rd_nat, if_pos h1, wrap_next hlt (by omega)]
  ·rw [if_neg h1]
   by_cases h2 : l.getD i 0 = n
   ·rw [if_pos h2]
    refine Ev.step (f := fun _ => some _) (fun k => ?_) (Ev.now _)
    simp only [spec_l1Put.l0]
    rw [if_pos (by omega), if_pos (by omega), rd_nat, if_neg h1, if_pos h2, ← Mine.drop_at l 0 i hlt, List.take_append_drop]
   ·rw [if_neg h2]
    refine Ev.step (f := fun _ => some _) (fun k => ?_) (Ev.now _)
    have ht : (l.take i).length = i := by rw [List.length_take]; omega
    have hdr : (l.drop i).length = l.length - i := by rw [List.length_drop]
    simp only [spec_l1Put.l0]
    rw [if_pos (by omega), if_pos (by omega), rd_nat, if_neg h1, if_neg h2]
    simp only [Option.bind_some, Int.toNat_natCast, List.nil_append]
    rw [if_pos (by omega), if_pos (by simp only [List.length_nil]; omega), if_pos (by omega), if_pos (by rw [List.length_append]; simp only [List.length_cons, List.length_nil]; omega), ← Mine.drop_at l 0 i hlt]
    simp
theorem l1Put_ev (l : List Int) (n : Int) (hm : l.length < 17592186044400) : Ev (fun k => spec_l1Put.f k l n) (putL l n) := by
 have := l1Put_l l n hm _ 0 rfl (by omega)
 simpa [spec_l1Put.f] using this

def touchL (k f t : Int) : List Int := if k = 1 then putL [f] t else if k = 2 then [f] else []
theorem touchL_length (k f t : Int) : (touchL k f t).length ≤ 2 := by
 unfold touchL
 split
 ·exact putL_length t [f]
 ·split <;> simp
theorem good_parts {k i f t a : Int} (h : Mine.goodCmdB k i f t a = true) : (k = 0 ∧ i = 0 ∧ f = 0 ∧ t = 0 ∧ a = 0) ∨ (k = 1 ∧ (1 ≤ i ∧ i ≤ 999) ∧ (0 ≤ f ∧ f ≤ 3) ∧ (0 ≤ t ∧ t ≤ 3) ∧ f ≠ t ∧ (1 ≤ a ∧ a ≤ 1000)) ∨ (k = 2 ∧ (1 ≤ i ∧ i ≤ 999) ∧ (0 ≤ f ∧ f ≤ 3) ∧ t = 0 ∧ a = 0) := by
 unfold Mine.goodCmdB at h
 by_cases h0 : k = 0
 ·rw [if_pos h0] at h; simp at h; exact .inl ⟨h0, h.1, h.2.1, h.2.2.1, h.2.2.2⟩
 ·rw [if_neg h0] at h
  by_cases h1 : k = 1
  ·rw [if_pos h1] at h
   simp only [Bool.and_eq_true, Mine.inB_iff, Bool.not_eq_true', beq_eq_false_iff_ne] at h
   exact .inr (.inl ⟨h1, h.1, h.2.1, h.2.2.1, h.2.2.2.1, h.2.2.2.2⟩)
  ·rw [if_neg h1] at h
   by_cases h2 : k = 2
   ·rw [if_pos h2] at h
    simp only [Bool.and_eq_true, Mine.inB_iff, beq_iff_eq] at h
    exact .inr (.inr ⟨h2, h.1, h.2.1, h.2.2.1, h.2.2.2⟩)
   ·rw [if_neg h2] at h; simp at h

theorem specTouches_ev (k0 i f t a : Int) : Ev (fun k => spec_l2Touches.f k k0 i f t a) (touchL k0 f t) := by
 unfold spec_l2Touches.f touchL
 by_cases h1 : k0 = 1
 ·simp only [if_pos h1]; exact Ev.map (l1Put_ev [f] t (by simp)) (fun t => t)
 ·simp only [if_neg h1]
  by_cases h2 : k0 = 2
  ·simp only [if_pos h2]; exact Ev.now _
  ·simp only [if_neg h2]; exact Ev.now _

theorem l1Has_ev (l : List Int) (n : Int) (hm : l.length ≤ 9223372036854775807) : Ev (fun k => spec_l1Has.f k l n) (Mine.anyP (fun x => x == n) l) := by
 have h := loop_any (fun k => spec_l1Has.l0 k n l (l.length : Int)) l 0 (fun x => x == n) true false (by
  intro i hlt
  have body : ∀ k, spec_l1Has.l0 (k + 1) n l (l.length : Int) (i : Int) = if l.getD i 0 = n then some true else spec_l1Has.l0 k n l (l.length : Int) ((i + 1 : Nat) : Int) := by
   intro k
   simp only [spec_l1Has.l0]
   rw [if_pos (by omega), if_pos (by omega), if_pos (by omega), rd_nat, wrap_next hlt hm]
  refine ⟨fun hp => Ev.step (f := fun _ => some true) (fun k => by rw [body, if_pos (by simpa using hp)]) (Ev.now _), fun hp r hr => Ev.step (fun k => by rw [body, if_neg (by simpa using hp)]) hr⟩) (fun _ => Ev.step (f := fun _ => some false) (fun k => by simp only [spec_l1Has.l0]; rw [if_neg (by omega)]) (Ev.now _))
 have e : (if Mine.anyP (fun x => x == n) l = true then true else false) = Mine.anyP (fun x => x == n) l := by cases Mine.anyP (fun x => x == n) l <;> rfl
 rw [e] at h
 exact h

theorem specInterfere_ev (k0 i f t a k1 i1 f1 t1 a1 : Int) : Ev (fun k => spec_l2Interfere.f k k0 i f t a k1 i1 f1 t1 a1) (common (touchL k0 f t) (touchL k1 f1 t1)) := by
 unfold spec_l2Interfere.f
 refine Ev.bind (specTouches_ev k0 i f t a) ?_
 have hl := touchL_length k0 f t
 have hl1 := touchL_length k1 f1 t1
 generalize touchL k0 f t = x at hl
 have h := loop_any (fun k j => spec_l2Interfere.l0 k x (x.length : Int) j k1 i1 f1 t1 a1) x 0 (fun n => Mine.anyP (fun z => z == n) (touchL k1 f1 t1)) true false (by
  intro j hj
  have body : ∀ k, spec_l2Interfere.l0 (k + 1) x (x.length : Int) (j : Int) k1 i1 f1 t1 a1 = (spec_l2Touches.f k k1 i1 f1 t1 a1).bind fun t => (spec_l1Has.f k t (x.getD j 0)).bind fun b => if b = true then some true else spec_l2Interfere.l0 k x (x.length : Int) ((j + 1 : Nat) : Int) k1 i1 f1 t1 a1 := by
   intro k
   simp only [spec_l2Interfere.l0]
   rw [if_pos (by omega), if_pos (by omega), if_pos (by omega), rd_nat, wrap_next hj (by omega)]
  have hh := l1Has_ev (touchL k1 f1 t1) (x.getD j 0) (by omega)
  refine ⟨fun hp => Ev.step body (Ev.bind (specTouches_ev k1 i1 f1 t1 a1) (Ev.bind hh ?_)), fun hp r hr => Ev.step body (Ev.bind (specTouches_ev k1 i1 f1 t1 a1) (Ev.bind hh ?_))⟩
  ·rw [hp]; simpa using Ev.now true
  ·rw [hp]; simpa using hr) (fun _ => Ev.step (f := fun _ => some false) (fun k => by simp only [spec_l2Interfere.l0]; rw [if_neg (by omega)]) (Ev.now _))
 have e : (if Mine.anyP (fun n => Mine.anyP (fun z => z == n) (touchL k1 f1 t1)) x = true then true else false) = common x (touchL k1 f1 t1) := by unfold common; cases Mine.anyP (fun n => Mine.anyP (fun z => z == n) (touchL k1 f1 t1)) x <;> rfl
 rw [e] at h
 exact h

theorem implTouches_f (k0 i f t a : Int) (h : Mine.goodCmdB k0 i f t a = true) : impl_touches.f k0 i f t a = some (touchL k0 f t) := by
 unfold impl_touches.f touchL
 rcases good_parts h with ⟨rfl, _⟩ | ⟨rfl, _, _, _, hne, _⟩ | ⟨rfl, _⟩
 ·simp
 ·simp only [if_true, putL]
  by_cases hlt : f < t
  ·rw [if_pos hlt]; simp only [Option.some.injEq, List.cons.injEq, and_true]; unfold mn mx; constructor <;> omega
  ·rw [if_neg hlt, if_neg hne]; simp only [Option.some.injEq, List.cons.injEq, and_true]; unfold mn mx; constructor <;> omega
 ·simp

def idxI (n : Int) : List Int → Int → Int
 | [], _ => -1
 | x :: xs, i => if n = x then i else idxI n xs (i + 1)
theorem index_l (xs : List Int) (n : Int) (hm : xs.length ≤ 9223372036854775807) : ∀ (d i : Nat), xs.length - i = d → Ev (fun k => slices_Index_int_int.l0 k xs n (xs.length : Int) (i : Int)) (idxI n (xs.drop i) i) := by
 intro d
 induction d with
 | zero => intro i hd; rw [List.drop_eq_nil_of_le (by omega)]; exact Ev.step (f := fun _ => some (-1)) (fun k => by simp only [slices_Index_int_int.l0]; rw [if_neg (by omega)]) (Ev.now _)
 | succ d ih =>
  intro i hd
  have hlt : i < xs.length := by omega
  rw [Mine.drop_at xs 0 i hlt, idxI]
  have body : ∀ k, slices_Index_int_int.l0 (k + 1) xs n (xs.length : Int) (i : Int) = if n = xs.getD i 0 then some (i : Int) else slices_Index_int_int.l0 k xs n (xs.length : Int) ((i + 1 : Nat) : Int) := by
   intro k
   simp only [slices_Index_int_int.l0]
   rw [if_pos (by omega), if_pos (by omega), if_pos (by omega), rd_nat, wrap_next hlt hm]
  by_cases h : n = xs.getD i 0
  ·rw [if_pos h]; exact Ev.step (f := fun _ => some (i : Int)) (fun k => by rw [body, if_pos h]) (Ev.now _)
  ·rw [if_neg h]; exact Ev.step (fun k => by rw [body, if_neg h]) (by simpa using ih (i + 1) (by omega))
theorem idxI_any (n : Int) : ∀ (xs : List Int) (i : Int), 0 ≤ i → decide (idxI n xs i ≥ 0) = Mine.anyP (fun x => x == n) xs
 | [], i, _ => by simp [idxI, Mine.anyP]
 | x :: xs, i, hi => by
  rw [idxI, Mine.anyP_cons]
  by_cases h : n = x
  ·rw [if_pos h]; simp [h, hi]
  ·rw [if_neg h, idxI_any n xs (i + 1) (by omega)]; simp [show ¬ x = n from fun e => h e.symm]
theorem index_ev (xs : List Int) (n : Int) (hm : xs.length ≤ 9223372036854775807) : Ev (fun k => slices_Index_int_int.f k xs n) (idxI n xs 0) := by
 simpa [slices_Index_int_int.f] using index_l xs n hm _ 0 rfl

theorem contains_ev (xs : List Int) (n : Int) (hm : xs.length ≤ 9223372036854775807) : Ev (fun k => slices_Contains_int_int.f k xs n) (Mine.anyP (fun x => x == n) xs) := by
 have h := Ev.map (index_ev xs n hm) (fun t => decide (t ≥ 0))
 rw [idxI_any n xs 0 (Int.le_refl 0)] at h
 exact h

theorem implInterfere_ev (k0 i f t a k1 i1 f1 t1 a1 : Int) (h : Mine.goodCmdB k0 i f t a = true) (h1 : Mine.goodCmdB k1 i1 f1 t1 a1 = true) : Ev (fun k => impl_interfere.f k k0 i f t a k1 i1 f1 t1 a1) (common (touchL k0 f t) (touchL k1 f1 t1)) := by
 unfold impl_interfere.f
 simp only [implTouches_f _ _ _ _ _ h, Option.bind_some]
 have hl1 := touchL_length k1 f1 t1
 refine Ev.map (?_ : Ev (fun k => impl_interfere_1_in_c.f k (touchL k0 f t) k1 i1 f1 t1 a1) _) (fun t => t)
 unfold impl_interfere_1_in_c.f common
 refine anyO_ev (fun k x => impl_interfere_1.f k x k1 i1 f1 t1 a1) (touchL k0 f t) _ (fun x _ => ?_)
 unfold impl_interfere_1.f
 simp only [implTouches_f _ _ _ _ _ h1, Option.bind_some]
 exact Ev.map (contains_ev (touchL k1 f1 t1) x (by omega)) (fun t => t)

theorem common_comm (x y : List Int) : common x y = common y x := by
 have h : ∀ a b : List Int, common a b = true → common b a = true := by
  intro a b h
  unfold common at h ⊢
  obtain ⟨k, hk, h2⟩ := Mine.anyP_true.1 h
  obtain ⟨z, hz, h3⟩ := Mine.anyP_true.1 h2
  have e : z = k := by simpa using h3
  subst e
  exact Mine.anyP_true.2 ⟨z, hz, Mine.anyP_true.2 ⟨z, hk, by simp⟩⟩
 cases hx : common x y with
 | true => exact (h x y hx).symm
 | false =>
  cases hy : common y x with
  | false => rfl
  | true => rw [h y x hy] at hx; cases hx
def meets (c x : S28) : Bool := common (touchL c.f0 c.f2 c.f3) (touchL x.f0 x.f2 x.f3)
def stepP (rep no : Int) (c : S28) (s : Int × List Int) (i j : Int) (x : S39) : Int × List Int :=
 if x.f2 = 0 ∨ (i = rep ∧ j = no) ∨ meets c x.f3 = false then s else (if s.1 < x.f4.f0 then x.f4.f0 else s.1, s.2.set i.toNat j)
def pRow (rep no : Int) (c : S28) (i : Nat) : List S39 → Nat → Int × List Int → Int × List Int
 | [], _, s => s
 | x :: xs, j, s => pRow rep no c i xs (j + 1) (stepP rep no c s (i : Int) ((j : Int) + 1) x)
def pAll (rep no : Int) (c : S28) : List (List S39) → Nat → Int × List Int → Int × List Int
 | [], _, s => s
 | y :: ys, i, s => pAll rep no c ys (i + 1) (pRow rep no c i y 0 s)
theorem stepP_len (rep no : Int) (c : S28) (s : Int × List Int) (i j : Int) (x : S39) : (stepP rep no c s i j x).2.length = s.2.length := by
 unfold stepP
 split
 ·rfl
 ·rw [List.length_set]
theorem pRow_len (rep no : Int) (c : S28) (i : Nat) : ∀ (y : List S39) (j : Nat) (s : Int × List Int), (pRow rep no c i y j s).2.length = s.2.length
 | [], _, _ => rfl
 | x :: xs, j, s => by rw [pRow, pRow_len rep no c i xs, stepP_len]
theorem pAll_len (rep no : Int) (c : S28) : ∀ (l : List (List S39)) (i : Nat) (s : Int × List Int), (pAll rep no c l i s).2.length = s.2.length
 | [], _, _ => rfl
 | y :: ys, i, s => by rw [pAll, pAll_len rep no c ys, pRow_len]
theorem stepP_at (rep no : Int) (c : S28) (s : Int × List Int) (i : Nat) (j : Int) (x : S39) (h : s.2.getD i 0 ≤ j) : (stepP rep no c s (i : Int) j x).2.getD i 0 ≤ j := by
 unfold stepP
 split
 ·exact h
 ·rw [Int.toNat_natCast]
  by_cases hi : i < s.2.length
  ·rw [List.getD_eq_getElem?_getD, List.getElem?_set_self hi]; exact Int.le_refl _
  ·rw [List.getD_eq_getElem?_getD, List.getElem?_eq_none (by rw [List.length_set]; omega)]
   rw [List.getD_eq_getElem?_getD, List.getElem?_eq_none (by omega)] at h
   exact h
theorem stepP_other (rep no : Int) (c : S28) (s : Int × List Int) (i i' : Nat) (j : Int) (x : S39) (h : i ≠ i') : (stepP rep no c s (i : Int) j x).2.getD i' 0 = s.2.getD i' 0 := by
 unfold stepP
 split
 ·rfl
 ·rw [Int.toNat_natCast, List.getD_eq_getElem?_getD, List.getElem?_set_ne h, List.getD_eq_getElem?_getD]
theorem pRow_other (rep no : Int) (c : S28) (i i' : Nat) (h : i ≠ i') : ∀ (y : List S39) (j : Nat) (s : Int × List Int), (pRow rep no c i y j s).2.getD i' 0 = s.2.getD i' 0
 | [], _, _ => rfl
 | x :: xs, j, s => by rw [pRow, pRow_other rep no c i i' h xs, stepP_other rep no c s i i' _ x h]
theorem implStep_ev (rep no : Int) (c : S28) (hc : goodS c = true) (s : Int × List Int) (i : Nat) (j : Int) (x : S39) (hx : x.f2 ≠ 0 → goodS x.f3 = true) (hi : i < s.2.length) (hj : s.2.getD i 0 ≤ j) : Ev (fun K => impl_Table_attrFor_1.stepA K rep no c s (i : Int) j x) (stepP rep no c s (i : Int) j x) := by
 unfold impl_Table_attrFor_1.stepA
 by_cases h : ((i : Int) = rep ∧ j = no) ∨ x.f2 = 0
 ·simp only [if_pos h]
  rw [show stepP rep no c s (i : Int) j x = s from if_pos (by rcases h with h | h; exact .inr (.inl h); exact .inl h)]
  exact Ev.now _
 ·simp only [if_neg h]
  refine Ev.bind (implInterfere_ev x.f3.f0 x.f3.f1 x.f3.f2 x.f3.f3 x.f3.f4 c.f0 c.f1 c.f2 c.f3 c.f4 (hx (fun e => h (.inr e))) hc) ?_
  rw [common_comm]
  show Ev (fun K => if meets c x.f3 = true then _ else _) _
  cases hm : meets c x.f3 with
  | false =>
   rw [show stepP rep no c s (i : Int) j x = s from if_pos (.inr (.inr hm))]
   simpa using Ev.now _
  | true =>
   rw [show stepP rep no c s (i : Int) j x = (if s.1 < x.f4.f0 then x.f4.f0 else s.1, s.2.set (i : Int).toNat j) from if_neg (by rw [hm]; intro hh; rcases hh with hh | hh | hh; exact h (.inr hh); exact h (.inl hh); cases hh)]
   simp only [if_true, if_pos (show 0 ≤ (i : Int) ∧ (i : Int) < (s.2.length : Int) by omega)]
   rw [Int.toNat_natCast, show (if s.2.getD i 0 < j then j else s.2.getD i 0) = j by split <;> omega]
   exact Ev.now _
theorem implRowO_ev (rep no : Int) (c : S28) (hc : goodS c = true) (i : Nat) : ∀ (y : List S39) (j : Nat) (s : Int × List Int), (∀ x ∈ y, x.f2 ≠ 0 → goodS x.f3 = true) → i < s.2.length → s.2.getD i 0 ≤ (j : Int) → Ev (fun K => impl_Table_each.rowO (impl_Table_attrFor_1.stepA K rep no c) (i : Int) y j s) (pRow rep no c i y j s)
 | [], _, s, _, _, _ => by simp only [impl_Table_each.rowO, pRow]; exact Ev.now _
 | x :: xs, j, s, hx, hi, hj => by
  simp only [impl_Table_each.rowO, pRow]
  refine Ev.bind (implStep_ev rep no c hc s i ((j : Int) + 1) x (hx x (by simp)) hi (by omega)) ?_
  refine implRowO_ev rep no c hc i xs (j + 1) _ (fun z hz => hx z (by simp [hz])) (by rw [stepP_len]; exact hi) ?_
  have := stepP_at rep no c s i ((j : Int) + 1) x (by omega)
  omega
theorem implAllO_ev (rep no : Int) (c : S28) (hc : goodS c = true) : ∀ (l : List (List S39)) (i : Nat) (s : Int × List Int), (∀ y ∈ l, ∀ x ∈ y, x.f2 ≠ 0 → goodS x.f3 = true) → i + l.length ≤ s.2.length → (∀ i', i ≤ i' → s.2.getD i' 0 = 0) → Ev (fun K => impl_Table_each.allO (impl_Table_attrFor_1.stepA K rep no c) l i s) (pAll rep no c l i s)
 | [], _, s, _, _, _ => by simp only [impl_Table_each.allO, pAll]; exact Ev.now _
 | y :: ys, i, s, hx, hi, hz => by
  rw [List.length_cons] at hi
  simp only [impl_Table_each.allO, pAll]
  refine Ev.bind (implRowO_ev rep no c hc i y 0 s (hx y (by simp)) (by omega) (by rw [hz i (Nat.le_refl _)]; omega)) ?_
  exact implAllO_ev rep no c hc ys (i + 1) _ (fun z hz' => hx z (by simp [hz'])) (by rw [pRow_len]; omega) (fun i' h' => by rw [pRow_other rep no c i i' (by omega)]; exact hz i' (by omega))
theorem specStep_ev (rep no : Int) (c : S28) (s : Int × List Int) (i : Nat) (j : Int) (x : S39) (hi : i < s.2.length) : Ev (fun K => spec_l4Attr.stepS K rep no c s (i : Int) j x) (stepP rep no c s (i : Int) j x) := by
 unfold spec_l4Attr.stepS
 by_cases h2 : x.f2 = 0
 ·simp only [if_pos h2]
  rw [show stepP rep no c s (i : Int) j x = s from if_pos (.inl h2)]
  exact Ev.now _
 ·simp only [if_neg h2]
  refine Ev.bind (specInterfere_ev c.f0 c.f1 c.f2 c.f3 c.f4 x.f3.f0 x.f3.f1 x.f3.f2 x.f3.f3 x.f3.f4) ?_
  show Ev (fun K => if meets c x.f3 = true then _ else _) _
  cases hm : meets c x.f3 with
  | false =>
   rw [show stepP rep no c s (i : Int) j x = s from if_pos (.inr (.inr hm))]
   simpa using Ev.now _
  | true =>
   simp only [if_true]
   by_cases hs : (i : Int) = rep ∧ j = no
   ·simp only [if_pos hs]
    rw [show stepP rep no c s (i : Int) j x = s from if_pos (.inr (.inl hs))]
    exact Ev.now _
   ·simp only [if_neg hs, if_pos (show 0 ≤ (i : Int) ∧ (i : Int) < (s.2.length : Int) by omega)]
    rw [show stepP rep no c s (i : Int) j x = (if s.1 < x.f4.f0 then x.f4.f0 else s.1, s.2.set (i : Int).toNat j) from if_neg (by rw [hm]; intro hh; rcases hh with hh | hh | hh; exact h2 hh; exact hs hh; cases hh)]
    have e : spec_l1Most.f s.1 x.f4.f0 = some (if s.1 < x.f4.f0 then x.f4.f0 else s.1) := by
     unfold spec_l1Most.f
     by_cases ha : s.1 > x.f4.f0
     ·rw [if_pos ha, if_neg (by omega)]
     ·rw [if_neg ha]
      by_cases hb : s.1 < x.f4.f0
      ·rw [if_pos hb]
      ·rw [if_neg hb, show s.1 = x.f4.f0 by omega]
    rw [e]
    exact Ev.now _
theorem specRowO_ev (rep no : Int) (c : S28) (i : Nat) : ∀ (y : List S39) (j : Nat) (s : Int × List Int), i < s.2.length → Ev (fun K => impl_Table_each.rowO (spec_l4Attr.stepS K rep no c) (i : Int) y j s) (pRow rep no c i y j s)
 | [], _, s, _ => by simp only [impl_Table_each.rowO, pRow]; exact Ev.now _
 | x :: xs, j, s, hi => by
  simp only [impl_Table_each.rowO, pRow]
  exact Ev.bind (specStep_ev rep no c s i ((j : Int) + 1) x hi) (specRowO_ev rep no c i xs (j + 1) _ (by rw [stepP_len]; exact hi))
theorem specAllO_ev (rep no : Int) (c : S28) : ∀ (l : List (List S39)) (i : Nat) (s : Int × List Int), i + l.length ≤ s.2.length → Ev (fun K => impl_Table_each.allO (spec_l4Attr.stepS K rep no c) l i s) (pAll rep no c l i s)
 | [], _, s, _ => by simp only [impl_Table_each.allO, pAll]; exact Ev.now _
 | y :: ys, i, s, hi => by
  rw [List.length_cons] at hi
  simp only [impl_Table_each.allO, pAll]
  exact Ev.bind (specRowO_ev rep no c i y 0 s (by omega)) (specAllO_ev rep no c ys (i + 1) _ (by rw [pRow_len]; omega))
def instB (n rep no : Int) : Bool := Mine.inB 0 (wrap64 (n - 1)) rep && Mine.inB 1 6 no
def attR (n : Int) (l : List (List S39)) (c : S28) (rep no : Int) : Int × List Int × Bool :=
 if tableB n l = true ∧ goodS c = true ∧ instB n rep no = true then
  (if wrap64 ((pAll rep no c l 0 (0, List.replicate n.toNat 0)).1 + 1) ≤ 999 then (wrap64 ((pAll rep no c l 0 (0, List.replicate n.toNat 0)).1 + 1), (pAll rep no c l 0 (0, List.replicate n.toNat 0)).2, true) else (0, [], false))
 else (0, [], false)
theorem good_n {n : Int} {l : List (List S39)} (h : tableB n l = true) : (n = 3 ∨ n = 5) ∧ (l.length : Int) = n ∧ ∀ y ∈ l, ∀ x ∈ y, x.f2 ≠ 0 → goodS x.f3 = true := by
 unfold tableB at h
 rw [Bool.and_eq_true, Bool.and_eq_true, decide_eq_true_eq, decide_eq_true_eq, Bool.not_eq_true'] at h
 obtain ⟨hn, hl, hb⟩ := h
 refine ⟨hn, hl, fun y hy x hx h2 => ?_⟩
 have h1 := Mine.anyP_false.1 hb y hy
 rw [Bool.not_eq_false'] at h1
 unfold listB at h1
 rw [Bool.and_eq_true, Bool.not_eq_true'] at h1
 have h3 := Mine.anyP_false.1 h1.2 x hx
 rw [Bool.not_eq_false'] at h3
 unfold rowB at h3
 rw [Bool.and_eq_true, Bool.and_eq_true, Bool.and_eq_true, if_neg h2, Bool.and_eq_true] at h3
 exact h3.2.2.2.1
theorem l3Inst_f (n rep no : Int) : spec_l3Inst.f n rep no = some (instB n rep no) := by
 unfold spec_l3Inst.f instB
 rw [l1In_f, Option.bind_some]
 cases h : Mine.inB 0 (wrap64 (n - 1)) rep with
 | false => simp
 | true => simp [l1In_f]
theorem isInst_f (n rep no : Int) (hn : n = 3 ∨ n = 5) : impl_isInstance.f n rep no = some (instB n rep no) := by
 unfold impl_isInstance.f instB
 rw [implGroup, decide_eq_true hn, Option.bind_some, if_pos rfl, within_f, Option.bind_some]
 cases h : Mine.inB 0 (wrap64 (n - 1)) rep with
 | false => simp
 | true => simp [within_f]
theorem l3None_n {n : Int} (hn : n = 3 ∨ n = 5) : spec_l3None.f n = some (0, List.replicate n.toNat 0) := l3None_f hn
theorem specFor_ev (n : Int) (l : List (List S39)) (c : S28) (rep no : Int) (hx : okRSS l) : Ev (fun k => spec_AttrFor.f k n l c.f0 c.f1 c.f2 c.f3 c.f4 rep no) (attR n l c rep no) := by
 have bad : Ev (fun k => spec_AttrFor.j0 k rep no true n l c.f0 c.f1 c.f2 c.f3 c.f4) (0, [], false) := Ev.step (f := fun _ => some _) (fun k => by simp only [spec_AttrFor.j0]; rw [if_pos trivial]) (Ev.now _)
 unfold spec_AttrFor.f spec_l4Asked.f attR
 refine Ev.bind (a := tableB n l && instB n rep no) (Ev.bind (specTable_ev n l hx) ?_) ?_
 ·cases hb : tableB n l with
  | false => simp only [Bool.false_eq_true, if_false, Bool.false_and]; exact Ev.now _
  | true =>
   simp only [if_true, Bool.true_and, l3Inst_f, Option.bind_some]
   exact Ev.now _
 ·cases hb : tableB n l with
  | false =>
   simp only [Bool.false_and, Bool.false_eq_true, if_false, false_and]
   exact bad
  | true =>
   cases hi : instB n rep no with
   | false =>
    simp only [Bool.and_false, Bool.false_eq_true, if_false, and_false]
    exact bad
   | true =>
    simp only [Bool.and_self, if_true, specGoodCmd, Option.bind_some, true_and, and_true]
    cases hc : goodS c with
    | false =>
     rw [show Mine.goodCmdB c.f0 c.f1 c.f2 c.f3 c.f4 = false from hc]
     simp only [Bool.not_false, Bool.false_eq_true, if_false]
     exact bad
    | true =>
     rw [show Mine.goodCmdB c.f0 c.f1 c.f2 c.f3 c.f4 = true from hc]
     simp only [Bool.not_true, if_true]
     obtain ⟨hn, hl, _⟩ := good_n hb
     refine Ev.step (fun k => by simp only [spec_AttrFor.j0]; rw [if_neg (by simp)]) (Ev.bind (a := (wrap64 ((pAll rep no c l 0 (0, List.replicate n.toNat 0)).1 + 1), (pAll rep no c l 0 (0, List.replicate n.toNat 0)).2)) ?_ ?_)
     ·unfold spec_l4Attr.f
      simp only [l3None_n hn, Option.bind_some]
      exact Ev.bind (specAllO_ev rep no c l 0 (0, List.replicate n.toNat 0) (by simp; omega)) (Ev.now _)
     ·generalize pAll rep no c l 0 (0, List.replicate n.toNat 0) = s
      by_cases h9 : wrap64 (s.1 + 1) ≤ 999
      ·simp only [if_pos h9, if_neg (show ¬ wrap64 (s.1 + 1) > 999 by omega)]; exact Ev.now _
      ·simp only [if_neg h9, if_pos (show wrap64 (s.1 + 1) > 999 by omega)]; exact Ev.now _
theorem implFor_ev (n : Int) (l : List (List S39)) (c : S28) (rep no : Int) (hx : okRSS l) : Ev (fun k => impl_AttrFor.f k n l c.f0 c.f1 c.f2 c.f3 c.f4 rep no) (attR n l c rep no) := by
 unfold impl_AttrFor.f attR
 refine Ev.bind (implTable_ev n l hx) ?_
 cases hb : tableB n l with
 | false => simp only [Bool.false_eq_true, if_false, false_and]; exact Ev.now _
 | true =>
  obtain ⟨hn, hl, hg⟩ := good_n hb
  simp only [if_true, implGoodCmd, Option.bind_some, true_and]
  cases hc : goodS c with
  | false =>
   rw [show Mine.goodCmdB c.f0 c.f1 c.f2 c.f3 c.f4 = false from hc]
   simp only [Bool.false_eq_true, if_false, false_and]
   exact Ev.now _
  | true =>
   rw [show Mine.goodCmdB c.f0 c.f1 c.f2 c.f3 c.f4 = true from hc]
   simp only [if_true, isInst_f n rep no hn, Option.bind_some, true_and]
   cases hi : instB n rep no with
   | false => simp only [Bool.false_eq_true, if_false]; exact Ev.now _
   | true =>
    simp only [if_true]
    refine Ev.bind (a := (wrap64 ((pAll rep no c l 0 (0, List.replicate n.toNat 0)).1 + 1), (pAll rep no c l 0 (0, List.replicate n.toNat 0)).2, decide (wrap64 ((pAll rep no c l 0 (0, List.replicate n.toNat 0)).1 + 1) ≤ 999))) ?_ ?_
    ·unfold impl_Table_attrFor.f
     simp only [noneAttr_f hn, Option.bind_some]
     exact Ev.bind (implAllO_ev rep no c hc l 0 (0, List.replicate n.toNat 0) hg (by simp; omega) (fun i' _ => by simp [List.getD_eq_getElem?_getD, List.getElem?_replicate]; split <;> rfl)) (Ev.now _)
    ·generalize pAll rep no c l 0 (0, List.replicate n.toNat 0) = s
     by_cases h9 : wrap64 (s.1 + 1) ≤ 999
     ·simp only [if_pos h9, decide_eq_true h9, if_true]; exact Ev.now _
     ·simp only [if_neg h9, decide_eq_false h9, Bool.false_eq_true, if_false]; exact Ev.now _
theorem attR_len (n : Int) (l : List (List S39)) (c : S28) (rep no : Int) : (attR n l c rep no).2.1.length ≤ 5 := by
 unfold attR
 split
 ·rename_i h
  obtain ⟨hn, _, _⟩ := good_n h.1
  split
  ·show (pAll rep no c l 0 (0, List.replicate n.toNat 0)).2.length ≤ 5
   rw [pAll_len]
   simp
   omega
  ·simp
 ·simp

def interR (k i f t a k1 i1 f1 t1 a1 : Int) : Bool × Bool := if Mine.goodCmdB k i f t a = true then if Mine.goodCmdB k1 i1 f1 t1 a1 = true then (common (touchL k f t) (touchL k1 f1 t1), true) else (false, false) else (false, false)
theorem implInter_ev (k0 i f t a k1 i1 f1 t1 a1 : Int) : Ev (fun k => impl_Interfere.f k k0 i f t a k1 i1 f1 t1 a1) (interR k0 i f t a k1 i1 f1 t1 a1) := by
 unfold impl_Interfere.f interR
 simp only [Option.bind_some, implGoodCmd]
 cases hg : Mine.goodCmdB k0 i f t a with
 | false => simpa using Ev.now _
 | true =>
  cases hg1 : Mine.goodCmdB k1 i1 f1 t1 a1 with
  | false => simpa using Ev.now _
  | true =>
   simp only [if_true]
   exact Ev.map (implInterfere_ev k0 i f t a k1 i1 f1 t1 a1 hg hg1) (fun t => (t, true))

def hangR (n s : Int) (l : List Int) (rep no : Int) : Bool × Bool := if goodAttrB n s l = true ∧ Mine.inB 0 (n - 1) rep = true ∧ Mine.inB 1 6 no = true then (decide (no ≤ rd l rep), true) else (false, false)
theorem goodAttr_parts {n s : Int} {l : List Int} (h : goodAttrB n s l = true) : (n = 3 ∨ n = 5) ∧ (l.length : Int) = n := by
 unfold goodAttrB at h
 simp only [Bool.and_eq_true, decide_eq_true_eq] at h
 exact ⟨h.1, h.2.2.1⟩

theorem implHangs_f (n s : Int) (l : List Int) (rep no : Int) : impl_HangsOn.f n s l rep no = some (hangR n s l rep no) := by
 unfold impl_HangsOn.f hangR
 rw [show impl_GoodAttr.f n s l = some (goodAttrB n s l) from rfl, Option.bind_some]
 cases hg : goodAttrB n s l with
 | false => simp
 | true =>
  obtain ⟨hn, hl⟩ := goodAttr_parts hg
  have hw : wrap64 (n - 1) = n - 1 := by unfold wrap64; omega
  simp only [if_true, impl_isInstance.f, implGroup, decide_eq_true hn, within_f, hw, Option.bind_some]
  cases h1 : Mine.inB 0 (n - 1) rep with
  | false => simp
  | true =>
   cases h2 : Mine.inB 1 6 no with
   | false => simp
   | true =>
    have h3 := Mine.inB_iff.1 h1
    simp only [if_true, Option.bind_some, if_pos h3.1, if_pos (show rep < (l.length : Int) by omega), and_self]

theorem sameInts_l (xs : List Int) (hm : xs.length ≤ 9223372036854775807) : ∀ (d i : Nat), xs.length - i = d → Ev (fun k => laws_sameInts.l0 k xs xs (xs.length : Int) (i : Int)) true := by
 intro d
 induction d with
 | zero => intro i hd; exact Ev.step (f := fun _ => some true) (fun k => by simp only [laws_sameInts.l0]; rw [if_neg (by omega)]) (Ev.now _)
 | succ d ih =>
  intro i hd
  refine Ev.step (f := fun k => laws_sameInts.l0 k xs xs (xs.length : Int) ((i + 1 : Nat) : Int)) (fun k => ?_) (ih (i + 1) (by omega))
  simp only [laws_sameInts.l0]
  rw [if_pos (by omega), if_pos (by omega), if_pos (by omega), if_pos (by omega), if_pos trivial, wrap_next (n := xs.length) (by omega) hm]
theorem sameInts_ev (xs : List Int) (hm : xs.length ≤ 9223372036854775807) : Ev (fun k => laws_sameInts.f k xs xs) true := by
 refine Ev.congr (f := fun k => laws_sameInts.l0 k xs xs (xs.length : Int) ((0 : Nat) : Int)) (fun k => ?_) (sameInts_l xs hm _ 0 rfl)
 unfold laws_sameInts.f
 rw [if_pos rfl]
 rfl

theorem sameInts2_l (l m : List Int) (he : l.length = m.length) (hm : l.length ≤ 9223372036854775807) : ∀ (d i : Nat), l.length - i = d → i ≤ l.length → l.take i = m.take i → Ev (fun k => laws_sameInts.l0 k l m (l.length : Int) (i : Int)) (decide (l = m)) := by
 intro d
 induction d with
 | zero =>
  intro i hd hi ht
  have e : l = m := by
   rw [List.take_of_length_le (by omega), List.take_of_length_le (by omega)] at ht
   exact ht
  exact Ev.step (f := fun _ => some (decide (l = m))) (fun k => by simp only [laws_sameInts.l0]; rw [if_neg (by omega), decide_eq_true e]) (Ev.now _)
 | succ d ih =>
  intro i hd hi ht
  by_cases hx : rd l (i : Int) = rd m (i : Int)
  ·refine Ev.step (f := fun k => laws_sameInts.l0 k l m (l.length : Int) ((i + 1 : Nat) : Int)) (fun k => ?_) (ih (i + 1) (by omega) (by omega) ?_)
   ·simp only [laws_sameInts.l0]
    rw [if_pos (by omega), if_pos (by omega), if_pos (by omega), if_pos (by omega), if_pos hx, wrap_next (n := l.length) (by omega) hm]
   ·rw [rd_nat, rd_nat, List.getD_eq_getElem?_getD, List.getD_eq_getElem?_getD, List.getElem?_eq_getElem (show i < l.length by omega), List.getElem?_eq_getElem (show i < m.length by omega)] at hx
    rw [List.take_add_one, List.take_add_one, ht, List.getElem?_eq_getElem (show i < l.length by omega), List.getElem?_eq_getElem (show i < m.length by omega)]
    rw [show l[i]'(by omega) = m[i]'(by omega) from hx]
  ·have e : ¬ l = m := fun e => hx (by rw [e])
   exact Ev.step (f := fun _ => some (decide (l = m))) (fun k => by simp only [laws_sameInts.l0]; rw [if_pos (by omega), if_pos (by omega), if_pos (by omega), if_pos (by omega), if_neg hx, decide_eq_false e]) (Ev.now _)
theorem lawSameA_ev (s t : Int) (l m : List Int) (hl : l.length ≤ 9223372036854775807) : Ev (fun k => laws_sameAttr.f k s l t m) (sameA s t l m) := by
 unfold laws_sameAttr.f sameA
 by_cases h : s = t
 ·simp only [if_pos h, decide_eq_true h, Bool.true_and]
  refine Ev.bind (a := decide (l = m)) ?_ (Ev.now _)
  unfold laws_sameInts.f
  by_cases he : (l.length : Int) = (m.length : Int)
  ·simp only [if_pos he]
   exact sameInts2_l l m (by omega) hl _ 0 rfl (by omega) rfl
  ·simp only [if_neg he]
   rw [decide_eq_false (fun e => he (by rw [e]))]
   exact Ev.now _
 ·simp only [if_neg h, decide_eq_false h, Bool.false_and]
  exact Ev.now _
theorem sameA_self (s : Int) (l : List Int) : sameA s s l l = true := by unfold sameA; simp

theorem ev_all {α β : Type} (xs : List α) (g : α → Nat → Option β) (r : α → β) (h : ∀ x ∈ xs, Ev (g x) (r x)) : ∃ K, ∀ x ∈ xs, ∀ k, K ≤ k → g x k = some (r x) := by
 induction xs with
 | nil => exact ⟨0, fun x hx => by simp at hx⟩
 | cons x xs ih =>
  obtain ⟨K1, h1⟩ := ih (fun z hz => h z (by simp [hz]))
  obtain ⟨K2, h2⟩ := h x (by simp)
  refine ⟨max K1 K2, fun z hz k hk => ?_⟩
  rcases List.mem_cons.1 hz with e | e
  ·rw [e]; exact h2 k (by omega)
  ·exact h1 z e k (by omega)
def Acts (rep no : Int) (c : S28) (i j : Int) (x : S39) : Prop := ¬ x.f2 = 0 ∧ ¬ (i = rep ∧ j = no) ∧ meets c x.f3 = true
theorem stepP_up (rep no : Int) (c : S28) (s : Int × List Int) (i : Nat) (j : Int) (x : S39) (h : s.2.getD i 0 ≤ j) : s.1 ≤ (stepP rep no c s (i : Int) j x).1 ∧ s.2.getD i 0 ≤ (stepP rep no c s (i : Int) j x).2.getD i 0 := by
 unfold stepP
 split
 ·exact ⟨Int.le_refl _, Int.le_refl _⟩
 ·refine ⟨by dsimp only; split <;> omega, ?_⟩
  rw [Int.toNat_natCast]
  by_cases hi : i < s.2.length
  ·rw [show (s.2.set i j).getD i 0 = j by rw [List.getD_eq_getElem?_getD, List.getElem?_set_self hi]; rfl]; exact h
  ·rw [show (s.2.set i j).getD i 0 = s.2.getD i 0 by rw [List.getD_eq_getElem?_getD, List.getD_eq_getElem?_getD, List.getElem?_eq_none (by rw [List.length_set]; omega), List.getElem?_eq_none (by omega)]]
   exact Int.le_refl _
theorem stepP_hit (rep no : Int) (c : S28) (s : Int × List Int) (i : Nat) (j : Int) (x : S39) (hi : i < s.2.length) (h : Acts rep no c (i : Int) j x) : x.f4.f0 ≤ (stepP rep no c s (i : Int) j x).1 ∧ (stepP rep no c s (i : Int) j x).2.getD i 0 = j := by
 unfold stepP
 rw [if_neg (by rintro (h1 | h1 | h1); exact h.1 h1; exact h.2.1 h1; rw [h.2.2] at h1; cases h1)]
 refine ⟨by dsimp only; split <;> omega, ?_⟩
 rw [Int.toNat_natCast, List.getD_eq_getElem?_getD, List.getElem?_set_self hi]
 rfl
theorem pRow_up (rep no : Int) (c : S28) (i : Nat) : ∀ (y : List S39) (j : Nat) (s : Int × List Int), i < s.2.length → s.2.getD i 0 ≤ (j : Int) →
  s.1 ≤ (pRow rep no c i y j s).1 ∧ s.2.getD i 0 ≤ (pRow rep no c i y j s).2.getD i 0 ∧ (pRow rep no c i y j s).2.getD i 0 ≤ ((j + y.length : Nat) : Int) ∧ ∀ (t : Nat) (x : S39), y[t]? = some x → Acts rep no c (i : Int) (((j + t : Nat) : Int) + 1) x → x.f4.f0 ≤ (pRow rep no c i y j s).1 ∧ ((j + t : Nat) : Int) + 1 ≤ (pRow rep no c i y j s).2.getD i 0
 | [], j, s, _, h => ⟨Int.le_refl _, Int.le_refl _, by simpa [pRow] using h, fun t x ht => by simp at ht⟩
 | x :: xs, j, s, hi, h => by
  have h1 := stepP_up rep no c s i ((j : Int) + 1) x (by omega)
  have h2 := stepP_at rep no c s i ((j : Int) + 1) x (by omega)
  obtain ⟨r1, r2, r3, r4⟩ := pRow_up rep no c i xs (j + 1) (stepP rep no c s (i : Int) ((j : Int) + 1) x) (by rw [stepP_len]; exact hi) (by omega)
  simp only [pRow]
  refine ⟨by omega, by omega, by rw [List.length_cons]; omega, fun t z ht ha => ?_⟩
  cases t with
  | zero =>
   simp only [List.getElem?_cons_zero, Option.some.injEq] at ht
   subst ht
   have h3 := stepP_hit rep no c s i ((j : Int) + 1) x hi (by simpa using ha)
   exact ⟨by omega, by rw [h3.2] at r2; simpa using r2⟩
  | succ t =>
   rw [List.getElem?_cons_succ] at ht
   have h3 := r4 t z ht (by rw [show j + 1 + t = j + (t + 1) by omega]; exact ha)
   exact ⟨h3.1, by rw [show j + (t + 1) = j + 1 + t by omega]; exact h3.2⟩
theorem pAll_other (rep no : Int) (c : S28) : ∀ (l : List (List S39)) (i i' : Nat) (s : Int × List Int), i' < i → (pAll rep no c l i s).2.getD i' 0 = s.2.getD i' 0
 | [], _, _, _, _ => rfl
 | y :: ys, i, i', s, h => by rw [pAll, pAll_other rep no c ys (i + 1) i' _ (by omega), pRow_other rep no c i i' (by omega)]
theorem pAll_up (rep no : Int) (c : S28) : ∀ (l : List (List S39)) (i : Nat) (s : Int × List Int), i + l.length ≤ s.2.length → (∀ i', i ≤ i' → s.2.getD i' 0 = 0) → (∀ y ∈ l, y.length ≤ 6) →
  s.1 ≤ (pAll rep no c l i s).1 ∧ (∀ k : Nat, k < l.length → 0 ≤ (pAll rep no c l i s).2.getD (i + k) 0 ∧ (pAll rep no c l i s).2.getD (i + k) 0 ≤ 6) ∧
  ∀ (k t : Nat) (y : List S39) (x : S39), l[k]? = some y → y[t]? = some x → Acts rep no c ((i + k : Nat) : Int) ((t : Int) + 1) x → x.f4.f0 ≤ (pAll rep no c l i s).1 ∧ (t : Int) + 1 ≤ (pAll rep no c l i s).2.getD (i + k) 0
 | [], _, _, _, _, _ => ⟨Int.le_refl _, fun k hk => absurd hk (by simp), fun k t y x hk => by simp at hk⟩
 | y :: ys, i, s, hi, hz, h6 => by
  rw [List.length_cons] at hi
  obtain ⟨p1, p2, p3, p4⟩ := pRow_up rep no c i y 0 s (by omega) (by rw [hz i (Nat.le_refl _)]; omega)
  have hy := h6 y (by simp)
  obtain ⟨q1, q2, q3⟩ := pAll_up rep no c ys (i + 1) (pRow rep no c i y 0 s) (by rw [pRow_len]; omega) (fun i' h' => by rw [pRow_other rep no c i i' (by omega)]; exact hz i' (by omega)) (fun z hz' => h6 z (by simp [hz']))
  have he := pAll_other rep no c ys (i + 1) i (pRow rep no c i y 0 s) (by omega)
  rw [hz i (Nat.le_refl _)] at p2
  simp only [pAll]
  refine ⟨by omega, fun k hk => ?_, fun k t z x hk ht ha => ?_⟩
  ·cases k with
   | zero => rw [Nat.add_zero i, he]; exact ⟨p2, by omega⟩
   | succ k =>
    rw [show i + (k + 1) = i + 1 + k by omega]
    exact q2 k (by rw [List.length_cons] at hk; omega)
  ·cases k with
   | zero =>
    simp only [List.getElem?_cons_zero, Option.some.injEq] at hk
    subst hk
    have h3 := p4 t x ht (by simpa using ha)
    rw [Nat.add_zero i, he]
    exact ⟨by omega, by simpa using h3.2⟩
   | succ k =>
    rw [List.getElem?_cons_succ] at hk
    rw [show i + (k + 1) = i + 1 + k by omega] at ha ⊢
    exact q3 k t z x hk ht ha
theorem pRow_max (rep no : Int) (c : S28) (i : Nat) : ∀ (y : List S39) (j : Nat) (s : Int × List Int), s.1 ≤ 999 → (∀ x ∈ y, x.f4.f0 ≤ 999) → (pRow rep no c i y j s).1 ≤ 999
 | [], _, _, h, _ => h
 | x :: xs, j, s, h, hy => by
  rw [pRow]
  refine pRow_max rep no c i xs (j + 1) _ ?_ (fun z hz => hy z (by simp [hz]))
  have hx := hy x (by simp)
  unfold stepP
  split
  ·exact h
  ·dsimp only; split <;> omega
theorem pAll_max (rep no : Int) (c : S28) : ∀ (l : List (List S39)) (i : Nat) (s : Int × List Int), s.1 ≤ 999 → (∀ y ∈ l, ∀ x ∈ y, x.f4.f0 ≤ 999) → (pAll rep no c l i s).1 ≤ 999
 | [], _, _, h, _ => h
 | y :: ys, i, s, h, hy => by
  rw [pAll]
  exact pAll_max rep no c ys (i + 1) _ (pRow_max rep no c i y 0 s h (hy y (by simp))) (fun z hz => hy z (by simp [hz]))
theorem good_rows {n : Int} {l : List (List S39)} (h : tableB n l = true) : ∀ y ∈ l, y.length ≤ 6 ∧ ∀ x ∈ y, goodS x.f3 = true ∧ x.f4.f0 ≤ 999 := by
 unfold tableB at h
 rw [Bool.and_eq_true, Bool.and_eq_true, decide_eq_true_eq, decide_eq_true_eq, Bool.not_eq_true'] at h
 obtain ⟨hn, hl, hb⟩ := h
 intro y hy
 have h1 := Mine.anyP_false.1 hb y hy
 rw [Bool.not_eq_false'] at h1
 unfold listB at h1
 rw [Bool.and_eq_true, Bool.not_eq_true', decide_eq_true_eq] at h1
 refine ⟨h1.1, fun x hx => ?_⟩
 have h3 := Mine.anyP_false.1 h1.2 x hx
 rw [Bool.not_eq_false'] at h3
 unfold rowB at h3
 rw [Bool.and_eq_true, Bool.and_eq_true, Bool.and_eq_true] at h3
 by_cases h2 : x.f2 = 0
 ·rw [if_pos h2, Bool.and_eq_true, Bool.and_eq_true] at h3
  obtain ⟨_, _, _, _, hz, hs⟩ := h3
  refine ⟨zero_good hz, ?_⟩
  unfold sameA at hs
  rw [Bool.and_eq_true, decide_eq_true_eq] at hs
  omega
 ·rw [if_neg h2, Bool.and_eq_true] at h3
  obtain ⟨_, _, _, hg, ha⟩ := h3
  refine ⟨hg, ?_⟩
  unfold goodAttrB at ha
  rw [Bool.and_eq_true, Bool.and_eq_true] at ha
  exact (Mine.inB_iff.1 ha.2.1).2
theorem FnAttrFor : laws_FnAttrFor.Pure := by
 intro l0 l1 h0 h1
 have hu := u8s h0.2
 unfold laws_FnAttrFor.Facts
 by_cases hb : laws_big.f l0 l1 = some true
 ·exact Or.inl ⟨hb, trivial⟩
 refine Or.inr ⟨?_, ?_⟩
 ·unfold laws_big.f at hb ⊢
  split
  ·rename_i h; rw [if_pos h] at hb; exact absurd rfl hb
  ·rename_i h; rw [if_neg h] at hb
   cases hd : decide ((l1.length : Int) > wrap64 (1048576 - (l0.length : Int))) with
   | true => rw [hd] at hb; exact absurd rfl hb
   | false => rfl
 obtain ⟨n, rows, c, rep, no, hD, hR⟩ := drawAttrFor_ok l0 hu
 have hI := implFor_ev n rows c rep no hR
 have hS := specFor_ev n rows c rep no hR
 have hlen := attR_len n rows c rep no
 refine ⟨n, rows, c.f0, c.f1, c.f2, c.f3, c.f4, rep, no, hD.rounds, ?_⟩
 by_cases bad : attR n rows c rep no = (0, [], false)
 ·rw [bad] at hI hS
  have hs := lawSameA_ev 0 0 [] [] (by simp)
  rw [sameA_self] at hs
  exact Or.inr ⟨_, _, hI.rounds, hS.rounds, hs.rounds, trivial⟩
 by_cases hg : tableB n rows = true ∧ goodS c = true ∧ instB n rep no = true
 case neg => exact absurd (by unfold attR; rw [if_neg hg]) bad
 by_cases h9 : wrap64 ((pAll rep no c rows 0 (0, List.replicate n.toNat 0)).1 + 1) ≤ 999
 case neg => exact absurd (by unfold attR; rw [if_pos hg, if_neg h9]) bad
 clear bad
 have e : attR n rows c rep no = (wrap64 ((pAll rep no c rows 0 (0, List.replicate n.toNat 0)).1 + 1), (pAll rep no c rows 0 (0, List.replicate n.toNat 0)).2, true) := by unfold attR; rw [if_pos hg, if_pos h9]
 rw [e] at hI hS hlen
 obtain ⟨ht, hc, hi⟩ := hg
 obtain ⟨hn, hl, _⟩ := good_n ht
 have hgr := good_rows ht
 obtain ⟨P1, P2, P3⟩ := pAll_up rep no c rows 0 (0, List.replicate n.toNat 0) (by simp; omega) (fun i' _ => by simp [List.getD_eq_getElem?_getD, List.getElem?_replicate]; split <;> rfl) (fun y hy => (hgr y hy).1)
 have PM := pAll_max rep no c rows 0 (0, List.replicate n.toNat 0) (by dsimp only; omega) (fun y hy x hx => ((hgr y hy).2 x hx).2)
 have PL := pAll_len rep no c rows 0 (0, List.replicate n.toNat 0)
 rw [List.length_replicate] at PL
 generalize pAll rep no c rows 0 (0, List.replicate n.toNat 0) = P at hI hS hlen P1 P2 P3 PM PL h9
 obtain ⟨m, ds⟩ := P
 dsimp only at hI hS hlen P1 P2 P3 PM PL h9
 have hw : wrap64 (m + 1) = m + 1 := by unfold wrap64; omega
 rw [hw] at hI hS h9
 have hs := lawSameA_ev (m + 1) (m + 1) ds ds (by omega)
 rw [sameA_self] at hs
 obtain ⟨K, hK⟩ := ev_all rows.flatten (fun x k => impl_Interfere.f k c.f0 c.f1 c.f2 c.f3 c.f4 x.f3.f0 x.f3.f1 x.f3.f2 x.f3.f3 x.f3.f4) (fun x => interR c.f0 c.f1 c.f2 c.f3 c.f4 x.f3.f0 x.f3.f1 x.f3.f2 x.f3.f3 x.f3.f4) (fun x _ => implInter_ev _ _ _ _ _ _ _ _ _ _)
 refine Or.inl ⟨_, _, hI.rounds, hS.rounds, hs.rounds, ⟨K, fun k i hk hi2 => ?_⟩, trivial⟩
 have hy : rows[k]? = some (rows.getD k []) := by rw [List.getD_eq_getElem?_getD, List.getElem?_eq_getElem hk]; rfl
 have hx : (rows.getD k [])[i]? = some ((rows.getD k []).getD i z39) := by rw [List.getD_eq_getElem?_getD (l := rows.getD k []), List.getElem?_eq_getElem hi2]; rfl
 have my := List.mem_of_getElem? hy
 have mx := List.mem_of_getElem? hx
 generalize (rows.getD k []).getD i z39 = x at hx mx ⊢
 generalize rows.getD k [] = y at hy hx my mx
 have hgx := (hgr y my).2 x mx
 refine ⟨meets c x.f3, ?_, fun hm h2 hq => ?_⟩
 ·have h3 := hK x (List.mem_flatten.2 ⟨y, my, mx⟩) K (Nat.le_refl _)
  rw [h3]
  unfold interR
  rw [show Mine.goodCmdB c.f0 c.f1 c.f2 c.f3 c.f4 = true from hc, show Mine.goodCmdB x.f3.f0 x.f3.f1 x.f3.f2 x.f3.f3 x.f3.f4 = true from hgx.1]
  rfl
 ·obtain ⟨p1, p2⟩ := P3 k i y x hy hx ⟨h2, by rw [Nat.zero_add]; exact hq, hm⟩
  rw [Nat.zero_add] at p2
  refine ⟨?_, by omega⟩
  have hy6 := (hgr y my).1
  have hiy : i < y.length := (List.getElem?_eq_some_iff.1 hx).1
  have hky : k < rows.length := (List.getElem?_eq_some_iff.1 hy).1
  have hz6 : Mine.anyP (Mine.outB 0 6) ds = false := Mine.anyP_false.2 (fun z hz => by
   obtain ⟨j, hj, hz2⟩ := List.mem_iff_getElem.1 hz
   have h3 := P2 j (by omega)
   rw [Nat.zero_add, List.getD_eq_getElem?_getD, List.getElem?_eq_getElem hj, Option.getD_some, hz2] at h3
   exact Mine.outB_false.2 h3)
  have hga : goodAttrB n (m + 1) ds = true := by
   unfold goodAttrB
   rw [decide_eq_true hn, Mine.inB_iff.2 ⟨by omega, by omega⟩, decide_eq_true (show (ds.length : Int) = n by omega), hz6]
   rfl
  rw [implHangs_f]
  unfold hangR
  rw [if_pos ⟨hga, Mine.inB_iff.2 ⟨by omega, by omega⟩, Mine.inB_iff.2 ⟨by omega, by omega⟩⟩, rd_nat, decide_eq_true p2]

end Go.Proofs.Ytilmcfdhijdhpaa.Pure
