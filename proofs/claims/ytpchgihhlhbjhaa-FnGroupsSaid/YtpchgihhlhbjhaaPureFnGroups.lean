/- The law FnGroups holds, for every input. -/
import Derived.Test.YtpchgihhlhbjhaaQFnGroupsx6
import Derived.Test.YtpchgihhlhbjhaaMine
namespace Go.Proofs.Ytpchgihhlhbjhaa.Pure
open Go.RowKit Go.Proofs.Ytpchgihhlhbjhaa.QFnGroups Go.Proofs.YtpchgihhlhbjhaaW.PrintWords Go.Proofs.YtpchgihhlhbjhaaW.PrintLast Go.Proofs.YtpchgihhlhbjhaaW.PrintMore
set_option linter.unusedVariables false
set_option linter.unusedSimpArgs false

theorem wrap_next {i : Nat} {n : Nat} (h : i < n) (hn : n ≤ 9223372036854775807) : wrap64 ((i : Int) + 1) = ((i + 1 : Nat) : Int) := by
  unfold wrap64
  omega
theorem rd_nat (l : List Int) (i : Nat) : rd l (i : Int) = l.getD i 0 := by unfold rd; rw [Int.toNat_natCast]
theorem wrap_small {x : Int} (h0 : -9223372036854775808 ≤ x) (h1 : x ≤ 9223372036854775807) : wrap64 x = x := by unfold wrap64; omega
theorem Ev.const {α : Type} {o : Option α} {a : α} (h : o = some a) : Ev (fun _ => o) a := ⟨0, fun _ _ => h⟩
theorem Ev.map {α β : Type} {g : Nat → Option α} {a : α} (h : Ev g a) (f : α → β) : Ev (fun k => (g k).bind fun t => some (f t)) (f a) := by
  obtain ⟨K, h⟩ := h
  exact ⟨K, fun k hk => by show (g k).bind _ = _; rw [h k hk, Option.bind_some]⟩
/-- A loop over a list's elements that ends at the first hit. -/
theorem loop_any {α ρ : Type} (F : Nat → Int → Option ρ) (xs : List α) (d : α) (p : α → Bool) (hit miss : ρ)
    (hs : ∀ i, i < xs.length → (p (xs.getD i d) = true → Ev (fun k => F k (i : Int)) hit) ∧ (p (xs.getD i d) = false → ∀ r, Ev (fun k => F k ((i + 1 : Nat) : Int)) r → Ev (fun k => F k (i : Int)) r))
    (he : Mine.anyP p xs = false → Ev (fun k => F k (xs.length : Int)) miss) : Ev (fun k => F k 0) (if Mine.anyP p xs = true then hit else miss) := by
  have key : ∀ (n i : Nat), xs.length - i = n → i ≤ xs.length → Mine.anyP p (xs.take i) = false → Ev (fun k => F k (i : Int)) (if Mine.anyP p (xs.drop i) = true then hit else miss) := by
    intro n
    induction n with
    | zero =>
      intro i hn hi hb
      obtain rfl : i = xs.length := by omega
      rw [List.drop_eq_nil_of_le (Nat.le_refl _)]
      rw [List.take_of_length_le (Nat.le_refl _)] at hb
      simpa [Mine.anyP] using he hb
    | succ n ih =>
      intro i hn hi hb
      rw [Mine.drop_at xs d i (by omega), Mine.anyP_cons]
      cases hp : p (xs.getD i d) with
      | true => simpa using (hs i (by omega)).1 hp
      | false =>
        have hb' : Mine.anyP p (xs.take (i + 1)) = false := by
          have e : xs.take (i + 1) = xs.take i ++ [xs.getD i d] := by
            rw [List.take_add_one, List.getD_eq_getElem?_getD, List.getElem?_eq_getElem (show i < xs.length by omega)]; rfl
          rw [e]
          unfold Mine.anyP at hb ⊢
          rw [List.any_append, hb, List.any_cons, hp]
          rfl
        simpa using (hs i (by omega)).2 hp _ (ih (i + 1) (by omega) (by omega) hb')
  simpa using key xs.length 0 (by omega) (by omega) (by simp [Mine.anyP])
/-- What a loop over a list's elements comes to: a state that goes on, or a result. -/
def scan {σ α ρ : Type} (step : α → σ → Sum σ ρ) (fin : σ → ρ) : List α → σ → ρ
  | [], s => fin s
  | x :: xs, s => match step x s with
    | .inl s' => scan step fin xs s'
    | .inr r => r
theorem loop_scan {σ α ρ : Type} (F : Nat → σ → Int → Option ρ) (xs : List α) (d : α) (step : α → σ → Sum σ ρ) (fin : σ → ρ) (P : Nat → σ → Prop)
    (hs : ∀ (i : Nat) (s : σ), i < xs.length → P i s → (∀ s', step (xs.getD i d) s = .inl s' → P (i + 1) s' ∧ ∀ r, Ev (fun k => F k s' ((i + 1 : Nat) : Int)) r → Ev (fun k => F k s (i : Int)) r) ∧ (∀ r, step (xs.getD i d) s = .inr r → Ev (fun k => F k s (i : Int)) r))
    (he : ∀ s, P xs.length s → Ev (fun k => F k s (xs.length : Int)) (fin s)) (s : σ) (h0 : P 0 s) : Ev (fun k => F k s 0) (scan step fin xs s) := by
  have key : ∀ (n i : Nat) (s : σ), xs.length - i = n → i ≤ xs.length → P i s → Ev (fun k => F k s (i : Int)) (scan step fin (xs.drop i) s) := by
    intro n
    induction n with
    | zero =>
      intro i s hn hi hp
      obtain rfl : i = xs.length := by omega
      rw [List.drop_eq_nil_of_le (Nat.le_refl _)]
      exact he s hp
    | succ n ih =>
      intro i s hn hi hp
      rw [Mine.drop_at xs d i (by omega), scan]
      cases hst : step (xs.getD i d) s with
      | inl s' => exact ((hs i s (by omega) hp).1 s' hst).2 _ (ih (i + 1) s' (by omega) (by omega) ((hs i s (by omega) hp).1 s' hst).1)
      | inr r => exact (hs i s (by omega) hp).2 r hst
  simpa using key xs.length 0 s (by omega) (by omega) h0

theorem specGroup (n : Int) : spec_IsGroup.f n = some (decide (n = 3 ∨ n = 5)) := by
  unfold spec_IsGroup.f
  by_cases h : n = 3
  · rw [if_pos h]; simp [h]
  · rw [if_neg h]; by_cases h5 : n = 5 <;> simp [h, h5]

theorem implGroup (n : Int) : impl_IsGroup.f n = some (decide (n = 3 ∨ n = 5)) := by
  unfold impl_IsGroup.f
  by_cases h : n = 3
  · rw [if_pos h]; simp [h]
  · rw [if_neg h]; by_cases h5 : n = 5 <;> simp [h, h5]

theorem l1In_f (a b c : Int) : spec_l1In.f a b c = some (Mine.inB b c a) := by
  unfold spec_l1In.f Mine.inB
  by_cases h : a ≥ b
  · rw [if_pos h]; simp [show b ≤ a from h]
  · rw [if_neg h]; simp [show ¬ b ≤ a from h]

theorem within_f (a b c : Int) : impl_within.f a b c = some (Mine.inB b c a) := by
  unfold impl_within.f Mine.inB
  by_cases h : b ≤ a
  · rw [if_pos h]; simp [h]
  · rw [if_neg h]; simp [h]

/-! what the cursor of the draws gives -/
theorem and255 (x : Int) : 0 ≤ wrap64 (Go.bits .and .u64 x 255) ∧ wrap64 (Go.bits .and .u64 x 255) ≤ 255 := by
  have h : ∃ n : Nat, n ≤ 255 ∧ Go.bits .and .u64 x 255 = (n : Int) := by
    refine ⟨(BitVec.ofInt 64 x &&& BitVec.ofInt 64 255).toNat, ?_, ?_⟩
    · rw [BitVec.toNat_and]
      exact Nat.le_trans (Nat.and_le_right) (by decide)
    · have hle : (BitVec.ofInt 64 x &&& BitVec.ofInt 64 255).toNat ≤ 255 := by
        rw [BitVec.toNat_and]; exact Nat.le_trans (Nat.and_le_right) (by decide)
      show IntKind.u64.wrap (((BitVec.ofInt 64 x &&& BitVec.ofInt 64 255).toNat : Nat) : Int) = _
      generalize (BitVec.ofInt 64 x &&& BitVec.ofInt 64 255).toNat = m at hle
      simp [IntKind.wrap, IntKind.min, IntKind.max, IntKind.signed, IntKind.bits]
      omega
  obtain ⟨n, hn, e⟩ := h
  rw [e]
  unfold wrap64
  omega
theorem u8s {l : List Int} (h : ∀ y ∈ l, (Lit.int .u8 y).wf = true) : ∀ y ∈ l, 0 ≤ y ∧ y ≤ 255 := by
  intro y hy
  have := h y hy
  simp [Lit.wf, IntKind.min, IntKind.max, IntKind.signed, IntKind.bits] at this
  omega
theorem rd_mem {l : List Int} {a : Int} (h0 : 0 ≤ a) (h : a < (l.length : Int)) : rd l a ∈ l := by
  unfold rd
  rw [List.getD_eq_getElem?_getD, List.getElem?_eq_getElem (show a.toNat < l.length by omega)]
  exact List.getElem_mem _
theorem next_ok (l : List Int) (a s : Int) (hu : ∀ y ∈ l, 0 ≤ y ∧ y ≤ 255) (h0 : 0 ≤ a) (h1 : a ≤ 4611686018427387904) : ∃ v s', spec_l1Cur_next.f l a s = some (v, a + 1, s') ∧ 0 ≤ v ∧ v ≤ 255 := by
  have hw : wrap64 (a + 1) = a + 1 := by unfold wrap64; omega
  unfold spec_l1Cur_next.f
  rw [hw]
  by_cases h : a < (l.length : Int)
  · rw [if_pos h, if_pos h0, if_pos (by omega)]
    have := hu _ (rd_mem h0 h)
    exact ⟨_, _, rfl, by unfold wrap64; omega, by unfold wrap64; omega⟩
  · rw [if_neg h, if_neg (by omega)]
    exact ⟨_, _, rfl, (and255 _).1, (and255 _).2⟩
theorem pick_ok (l : List Int) (a s n : Int) (hu : ∀ y ∈ l, 0 ≤ y ∧ y ≤ 255) (h0 : 0 ≤ a) (h1 : a ≤ 2305843009213693952) (hn : 1 ≤ n) (hn' : n ≤ 65536) : ∃ v a' s', spec_l1Cur_pick.f l a s n = some (v, a', s') ∧ 0 ≤ v ∧ v < n ∧ a ≤ a' ∧ a' ≤ a + 2 := by
  unfold spec_l1Cur_pick.f
  by_cases h : n ≤ 1
  · rw [if_pos h]; exact ⟨0, a, s, rfl, by omega, by omega, by omega, by omega⟩
  rw [if_neg h]
  obtain ⟨v, s', e, hv, hv'⟩ := next_ok l a s hu h0 (by omega)
  rw [e, Option.bind_some]
  dsimp only
  by_cases h2 : n > 200
  · rw [if_pos h2]
    obtain ⟨v2, s2, e2, hv2, hv2'⟩ := next_ok l (a + 1) s' hu (by omega) (by omega)
    rw [e2, Option.bind_some, if_neg (by omega)]
    have hw : wrap64 (wrap64 (v * 256) + v2) = v * 256 + v2 := by unfold wrap64; omega
    dsimp only
    rw [hw]
    exact ⟨_, _, _, rfl, Int.tmod_nonneg _ (by omega), Int.tmod_lt_of_pos _ (by omega), by omega, by omega⟩
  · rw [if_neg h2, if_neg (by omega)]
    exact ⟨_, _, _, rfl, Int.tmod_nonneg _ hv, Int.tmod_lt_of_pos _ (by omega), by omega, by omega⟩

theorem among_ok (l : List Int) (a s : Int) (xs : List Int) (hu : ∀ y ∈ l, 0 ≤ y ∧ y ≤ 255) (h0 : 0 ≤ a) (h1 : a ≤ 2305843009213693952) (hn : 1 ≤ xs.length) (hn' : xs.length ≤ 65536) : ∃ v a' s', spec_l1Cur_among.f l a s xs = some (v, a', s') ∧ v ∈ xs ∧ a ≤ a' ∧ a' ≤ a + 2 := by
  unfold spec_l1Cur_among.f
  obtain ⟨v, a', s', e, hv, hv', ha, ha'⟩ := pick_ok l a s (xs.length : Int) hu h0 h1 (by omega) (by omega)
  rw [e, Option.bind_some]
  dsimp only
  rw [if_pos hv, if_pos hv']
  exact ⟨_, _, _, rfl, rd_mem hv hv', ha, ha'⟩

theorem group_ok (l : List Int) (a s : Int) (hu : ∀ y ∈ l, 0 ≤ y ∧ y ≤ 255) (h0 : 0 ≤ a) (h1 : a ≤ 2305843009213693952) : ∃ v a' s', spec_l1Cur_group.f l a s = some (v, a', s') ∧ (v = 0 ∨ v = 3 ∨ v = 4 ∨ v = 5) ∧ a ≤ a' ∧ a' ≤ a + 2 := by
  unfold spec_l1Cur_group.f
  obtain ⟨v, a', s', e, hv, ha, ha'⟩ := among_ok l a s [3, 3, 3, 5, 5, 4, 0] hu h0 h1 (by decide) (by decide)
  rw [e, Option.bind_some]
  refine ⟨_, _, _, rfl, ?_, ha, ha'⟩
  simp at hv
  omega

theorem sameInts_l (xs : List Int) (hm : xs.length ≤ 9223372036854775807) : ∀ (d i : Nat), xs.length - i = d → Ev (fun k => laws_sameInts.l0 k xs xs (xs.length : Int) (i : Int)) true := by
  intro d
  induction d with
  | zero => intro i hd; exact Ev.step (f := fun _ => some true) (fun k => by simp only [laws_sameInts.l0]; rw [if_neg (by omega)]) (Ev.now _)
  | succ d ih =>
    intro i hd
    refine Ev.step (f := fun k => laws_sameInts.l0 k xs xs (xs.length : Int) ((i + 1 : Nat) : Int)) (fun k => ?_) (ih (i + 1) (by omega))
    simp only [laws_sameInts.l0]
    rw [if_pos (by omega), if_pos (by omega), if_pos (by omega), if_pos (by omega), if_pos trivial, wrap_next (n := xs.length) (by omega) hm]
/-- Numbers are the same as themselves. -/
theorem sameInts_ev (xs : List Int) (hm : xs.length ≤ 9223372036854775807) : Ev (fun k => laws_sameInts.f k xs xs) true := by
  refine Ev.congr (f := fun k => laws_sameInts.l0 k xs xs (xs.length : Int) ((0 : Nat) : Int)) (fun k => ?_) (sameInts_l xs hm _ 0 rfl)
  unfold laws_sameInts.f
  rw [if_pos rfl]
  rfl

theorem rdLL_nat (l : List (List Int)) (i : Nat) : rd_L3 l (i : Int) = l.getD i [] := by unfold rd_L3; rw [Int.toNat_natCast]
theorem mem_getD {α : Type} {l : List α} {i : Nat} (d : α) (h : i < l.length) : l.getD i d ∈ l := by
  rw [List.getD_eq_getElem?_getD, List.getElem?_eq_getElem h]; exact List.getElem_mem _

theorem sameLists_l (xs : List (List Int)) (hm : xs.length ≤ 9223372036854775807) (hi : ∀ y ∈ xs, y.length ≤ 9223372036854775807) : ∀ (d i : Nat), xs.length - i = d → Ev (fun k => laws_sameLists.l0 k xs xs (xs.length : Int) (i : Int)) true := by
  intro d
  induction d with
  | zero => intro i hd; exact Ev.step (f := fun _ => some true) (fun k => by simp only [laws_sameLists.l0]; rw [if_neg (by omega)]) (Ev.now _)
  | succ d ih =>
    intro i hd
    refine Ev.step (f := fun k => (laws_sameInts.f k (xs.getD i []) (xs.getD i [])).bind fun t => if t = true then laws_sameLists.l0 k xs xs (xs.length : Int) ((i + 1 : Nat) : Int) else some false) (fun k => ?_) (Ev.bind (sameInts_ev _ (hi _ (mem_getD [] (by omega)))) (by simpa using ih (i + 1) (by omega)))
    simp only [laws_sameLists.l0]
    rw [if_pos (by omega), if_pos (by omega), if_pos (by omega), if_pos (by omega), rdLL_nat, wrap_next (n := xs.length) (by omega) hm]
/-- Rows are the same as themselves. -/
theorem sameLists_ev (xs : List (List Int)) (hm : xs.length ≤ 9223372036854775807) (hi : ∀ y ∈ xs, y.length ≤ 9223372036854775807) : Ev (fun k => laws_sameLists.f k xs xs) true := by
  refine Ev.congr (f := fun k => laws_sameLists.l0 k xs xs (xs.length : Int) ((0 : Nat) : Int)) (fun k => ?_) (sameLists_l xs hm hi _ 0 rfl)
  unfold laws_sameLists.f
  rw [if_pos rfl]
  rfl

/-- Have two lists a number in common? -/
def common (x y : List Int) : Bool := Mine.anyP (fun k => Mine.anyP (fun z => z == k) y) x
def meetB (a b : List (List Int)) : Bool := !Mine.anyP (fun x => Mine.anyP (fun y => !common x y) b) a

theorem l1Has_ev (l : List Int) (n : Int) (hm : l.length ≤ 9223372036854775807) : Ev (fun k => spec_l1Has.f k l n) (Mine.anyP (fun x => x == n) l) := by
  have h := loop_any (fun k => spec_l1Has.l0 k n l (l.length : Int)) l 0 (fun x => x == n) true false (by
    intro i hlt
    have body : ∀ k, spec_l1Has.l0 (k + 1) n l (l.length : Int) (i : Int) = if l.getD i 0 = n then some true else spec_l1Has.l0 k n l (l.length : Int) ((i + 1 : Nat) : Int) := by
      intro k
      simp only [spec_l1Has.l0]
      rw [if_pos (by omega), if_pos (by omega), if_pos (by omega), rd_nat, wrap_next hlt hm]
    refine ⟨fun hp => Ev.step (f := fun _ => some true) (fun k => by rw [body, if_pos (by simpa using hp)]) (Ev.now _), fun hp r hr => Ev.step (fun k => by rw [body, if_neg (by simpa using hp)]) hr⟩) (fun _ => Ev.step (f := fun _ => some false) (fun k => by simp only [spec_l1Has.l0]; rw [if_neg (by omega)]) (Ev.now _))
  have e : (if Mine.anyP (fun x => x == n) l = true then true else false) = Mine.anyP (fun x => x == n) l := by cases Mine.anyP (fun x => x == n) l <;> rfl
  rw [e] at h
  exact h

theorem l1Meet_in (b : List (List Int)) (x y : List Int) (a : List (List Int)) (na ia nb ib : Int) (hx : x.length ≤ 9223372036854775807) (hy : y.length ≤ 9223372036854775807) (r : Bool)
    (he : Ev (fun k => if common x y = true then spec_l1Meet.l1 k b x a na ia b nb (wrap64 (ib + 1)) else some false) r) :
    Ev (fun k => spec_l1Meet.l2 k b x y false a na ia b nb ib x (x.length : Int) 0) r := by
  have key : ∀ (n i : Nat) (s : Bool), x.length - i = n → i ≤ x.length → (s || Mine.anyP (fun k => Mine.anyP (fun z => z == k) y) (x.drop i)) = common x y → Ev (fun k => spec_l1Meet.l2 k b x y s a na ia b nb ib x (x.length : Int) (i : Int)) r := by
    intro n
    induction n with
    | zero =>
      intro i s hn hi hs
      rw [List.drop_eq_nil_of_le (by omega)] at hs
      have hs : s = common x y := by rw [← hs]; simp [Mine.anyP]
      refine Ev.step (fun k => ?_) he
      simp only [spec_l1Meet.l2]
      rw [if_neg (by omega), hs]
    | succ n ih =>
      intro i s hn hi hs
      have hlt : i < x.length := by omega
      rw [Mine.drop_at x 0 i hlt, Mine.anyP_cons] at hs
      have body : ∀ k, spec_l1Meet.l2 (k + 1) b x y s a na ia b nb ib x (x.length : Int) (i : Int) = if s = true then spec_l1Meet.l2 k b x y true a na ia b nb ib x (x.length : Int) ((i + 1 : Nat) : Int) else (spec_l1Has.f k y (x.getD i 0)).bind fun t => spec_l1Meet.l2 k b x y t a na ia b nb ib x (x.length : Int) ((i + 1 : Nat) : Int) := by
        intro k
        simp only [spec_l1Meet.l2]
        rw [if_pos (by omega), if_pos (by omega), if_pos (by omega), rd_nat, wrap_next hlt hx]
      cases s with
      | true => exact Ev.step (fun k => by rw [body, if_pos rfl]) (ih (i + 1) true (by omega) (by omega) (by rw [← hs]; simp))
      | false => exact Ev.step (fun k => by rw [body, if_neg (by simp)]) (Ev.bind (l1Has_ev y (x.getD i 0) hy) (ih (i + 1) (Mine.anyP (fun z => z == x.getD i 0) y) (by omega) (by omega) (by rw [← hs, Bool.false_or])))
  exact key x.length 0 false (by omega) (by omega) (by simp [common])
theorem l1Meet_ev (a b : List (List Int)) (ha : a.length ≤ 9223372036854775807) (hb : b.length ≤ 9223372036854775807) (hai : ∀ y ∈ a, y.length ≤ 9223372036854775807) (hbi : ∀ y ∈ b, y.length ≤ 9223372036854775807) : Ev (fun k => spec_l1Meet.f k a b) (meetB a b) := by
  have h := loop_any (fun k => spec_l1Meet.l0 k b a (a.length : Int)) a [] (fun x => Mine.anyP (fun y => !common x y) b) false true (by
    intro i hlt
    have hin := loop_any (fun k => spec_l1Meet.l1 k b (a.getD i []) a (a.length : Int) (i : Int) b (b.length : Int)) b [] (fun y => !common (a.getD i []) y) false
    have hj : ∀ j, j < b.length → _ := fun j hj => (show ((!common (a.getD i []) (b.getD j [])) = true → Ev (fun k => spec_l1Meet.l1 k b (a.getD i []) a (a.length : Int) (i : Int) b (b.length : Int) (j : Int)) false) ∧ ((!common (a.getD i []) (b.getD j [])) = false → ∀ r, Ev (fun k => spec_l1Meet.l1 k b (a.getD i []) a (a.length : Int) (i : Int) b (b.length : Int) ((j + 1 : Nat) : Int)) r → Ev (fun k => spec_l1Meet.l1 k b (a.getD i []) a (a.length : Int) (i : Int) b (b.length : Int) (j : Int)) r) by
      have body : ∀ k, spec_l1Meet.l1 (k + 1) b (a.getD i []) a (a.length : Int) (i : Int) b (b.length : Int) (j : Int) = spec_l1Meet.l2 k b (a.getD i []) (b.getD j []) false a (a.length : Int) (i : Int) b (b.length : Int) (j : Int) (a.getD i []) ((a.getD i []).length : Int) 0 := by
        intro k
        simp only [spec_l1Meet.l1]
        rw [if_pos (by omega), if_pos (by omega), if_pos (by omega), rdLL_nat]
      refine ⟨fun hp => Ev.step body (l1Meet_in _ _ _ _ _ _ _ _ (hai _ (mem_getD [] hlt)) (hbi _ (mem_getD [] hj)) _ ?_), fun hp r h => Ev.step body (l1Meet_in _ _ _ _ _ _ _ _ (hai _ (mem_getD [] hlt)) (hbi _ (mem_getD [] hj)) _ ?_)⟩
      · simp only [Bool.not_eq_true'] at hp; rw [hp]; simpa using Ev.now false
      · simp only [Bool.not_eq_false'] at hp; rw [hp, wrap_next hj hb]; simpa using h)
    have body : ∀ k, spec_l1Meet.l0 (k + 1) b a (a.length : Int) (i : Int) = spec_l1Meet.l1 k b (a.getD i []) a (a.length : Int) (i : Int) b (b.length : Int) 0 := by
      intro k
      simp only [spec_l1Meet.l0]
      rw [if_pos (by omega), if_pos (by omega), if_pos (by omega), rdLL_nat]
    refine ⟨fun hp => Ev.step body ?_, fun hp r h => Ev.step body ?_⟩
    · have := hin false hj (fun h => by rw [hp] at h; cases h); rw [hp] at this; exact this
    · have := hin r hj (fun _ => Ev.step (fun k => by simp only [spec_l1Meet.l1]; rw [if_neg (by omega), wrap_next hlt ha]) h); rw [hp] at this; simpa using this) (fun _ => Ev.step (f := fun _ => some true) (fun k => by simp only [spec_l1Meet.l0]; rw [if_neg (by omega)]) (Ev.now _))
  have e : (if Mine.anyP (fun x => Mine.anyP (fun y => !common x y) b) a = true then false else true) = meetB a b := by unfold meetB; cases Mine.anyP (fun x => Mine.anyP (fun y => !common x y) b) a <;> rfl
  rw [e] at h
  exact h

/-- Where a number stands first. -/
def idxI (n : Int) : List Int → Int → Int
  | [], _ => -1
  | x :: xs, i => if n = x then i else idxI n xs (i + 1)
theorem index_l (xs : List Int) (n : Int) (hm : xs.length ≤ 9223372036854775807) : ∀ (d i : Nat), xs.length - i = d → Ev (fun k => slices_Index_int_int.l0 k xs n (xs.length : Int) (i : Int)) (idxI n (xs.drop i) i) := by
  intro d
  induction d with
  | zero => intro i hd; rw [List.drop_eq_nil_of_le (by omega)]; exact Ev.step (f := fun _ => some (-1)) (fun k => by simp only [slices_Index_int_int.l0]; rw [if_neg (by omega)]) (Ev.now _)
  | succ d ih =>
    intro i hd
    have hlt : i < xs.length := by omega
    rw [Mine.drop_at xs 0 i hlt, idxI]
    have body : ∀ k, slices_Index_int_int.l0 (k + 1) xs n (xs.length : Int) (i : Int) = if n = xs.getD i 0 then some (i : Int) else slices_Index_int_int.l0 k xs n (xs.length : Int) ((i + 1 : Nat) : Int) := by
      intro k
      simp only [slices_Index_int_int.l0]
      rw [if_pos (by omega), if_pos (by omega), if_pos (by omega), rd_nat, wrap_next hlt hm]
    by_cases h : n = xs.getD i 0
    · rw [if_pos h]; exact Ev.step (f := fun _ => some (i : Int)) (fun k => by rw [body, if_pos h]) (Ev.now _)
    · rw [if_neg h]; exact Ev.step (fun k => by rw [body, if_neg h]) (by simpa using ih (i + 1) (by omega))
theorem idxI_any (n : Int) : ∀ (xs : List Int) (i : Int), 0 ≤ i → decide (idxI n xs i ≥ 0) = Mine.anyP (fun x => x == n) xs
  | [], i, _ => by simp [idxI, Mine.anyP]
  | x :: xs, i, hi => by
    rw [idxI, Mine.anyP_cons]
    by_cases h : n = x
    · rw [if_pos h]; simp [h, hi]
    · rw [if_neg h, idxI_any n xs (i + 1) (by omega)]; simp [show ¬ x = n from fun e => h e.symm]
theorem index_ev (xs : List Int) (n : Int) (hm : xs.length ≤ 9223372036854775807) : Ev (fun k => slices_Index_int_int.f k xs n) (idxI n xs 0) := by
  simpa [slices_Index_int_int.f] using index_l xs n hm _ 0 rfl

theorem contains_ev (xs : List Int) (n : Int) (hm : xs.length ≤ 9223372036854775807) : Ev (fun k => slices_Contains_int_int.f k xs n) (Mine.anyP (fun x => x == n) xs) := by
  have h := Ev.map (index_ev xs n hm) (fun t => decide (t ≥ 0))
  rw [idxI_any n xs 0 (Int.le_refl 0)] at h
  exact h

theorem anyO_ev {α : Type} (p : Nat → α → Option Bool) : ∀ (xs : List α) (q : α → Bool), (∀ x ∈ xs, Ev (fun k => p k x) (q x)) → Ev (fun k => Mine.anyO (p k) xs) (Mine.anyP q xs)
  | [], q, _ => Ev.const rfl
  | x :: xs, q, h => by
    simp only [Mine.anyO]
    refine Ev.bind (h x (by simp)) ?_
    rw [Mine.anyP_cons]
    cases hq : q x with
    | true => simpa using Ev.now true
    | false => simpa using anyO_ev p xs q (fun y hy => h y (by simp [hy]))

theorem allMeet_c_ev (x y : List Int) (hm : y.length ≤ 9223372036854775807) : Ev (fun k => impl_allMeet_1_in_c.f k x y) (common x y) := by
  unfold impl_allMeet_1_in_c.f common
  refine anyO_ev (fun k z => impl_allMeet_1.f k z y) x _ (fun z _ => ?_)
  exact Ev.map (contains_ev y z hm) (fun t => t)
theorem implAllMeet_ev (a b : List (List Int)) (ha : a.length ≤ 9223372036854775807) (hb : b.length ≤ 9223372036854775807) (hbi : ∀ y ∈ b, y.length ≤ 9223372036854775807) : Ev (fun k => impl_allMeet.f k a b) (meetB a b) := by
  have h := loop_any (fun k => impl_allMeet.l0 k b a (a.length : Int)) a [] (fun x => Mine.anyP (fun y => !common x y) b) false true (by
    intro i hlt
    have hin := loop_any (fun k => impl_allMeet.l1 k b (a.getD i []) a (a.length : Int) (i : Int) b (b.length : Int)) b [] (fun y => !common (a.getD i []) y) false
    have hj : ∀ j, j < b.length → _ := fun j hj => (show ((!common (a.getD i []) (b.getD j [])) = true → Ev (fun k => impl_allMeet.l1 k b (a.getD i []) a (a.length : Int) (i : Int) b (b.length : Int) (j : Int)) false) ∧ ((!common (a.getD i []) (b.getD j [])) = false → ∀ r, Ev (fun k => impl_allMeet.l1 k b (a.getD i []) a (a.length : Int) (i : Int) b (b.length : Int) ((j + 1 : Nat) : Int)) r → Ev (fun k => impl_allMeet.l1 k b (a.getD i []) a (a.length : Int) (i : Int) b (b.length : Int) (j : Int)) r) by
      have body : ∀ k, impl_allMeet.l1 (k + 1) b (a.getD i []) a (a.length : Int) (i : Int) b (b.length : Int) (j : Int) = (impl_allMeet_1_in_c.f k (a.getD i []) (b.getD j [])).bind fun t => if t = true then impl_allMeet.l1 k b (a.getD i []) a (a.length : Int) (i : Int) b (b.length : Int) ((j + 1 : Nat) : Int) else some false := by
        intro k
        simp only [impl_allMeet.l1]
        rw [if_pos (by omega), if_pos (by omega), if_pos (by omega), rdLL_nat, wrap_next hj hb]
      have hc := allMeet_c_ev (a.getD i []) (b.getD j []) (hbi _ (mem_getD [] hj))
      refine ⟨fun hp => Ev.step body (Ev.bind hc ?_), fun hp r h => Ev.step body (Ev.bind hc ?_)⟩
      · simp only [Bool.not_eq_true'] at hp; rw [hp]; exact Ev.now _
      · simp only [Bool.not_eq_false'] at hp; rw [hp]; exact h)
    have body : ∀ k, impl_allMeet.l0 (k + 1) b a (a.length : Int) (i : Int) = impl_allMeet.l1 k b (a.getD i []) a (a.length : Int) (i : Int) b (b.length : Int) 0 := by
      intro k
      simp only [impl_allMeet.l0]
      rw [if_pos (by omega), if_pos (by omega), if_pos (by omega), rdLL_nat]
    refine ⟨fun hp => Ev.step body ?_, fun hp r h => Ev.step body ?_⟩
    · have := hin false hj (fun h => by rw [hp] at h; cases h); rw [hp] at this; exact this
    · have := hin r hj (fun _ => Ev.step (fun k => by simp only [impl_allMeet.l1]; rw [if_neg (by omega), wrap_next hlt ha]) h); rw [hp] at this; simpa using this) (fun _ => Ev.step (f := fun _ => some true) (fun k => by simp only [impl_allMeet.l0]; rw [if_neg (by omega)]) (Ev.now _))
  have e : (if Mine.anyP (fun x => Mine.anyP (fun y => !common x y) b) a = true then false else true) = meetB a b := by unfold meetB; cases Mine.anyP (fun x => Mine.anyP (fun y => !common x y) b) a <;> rfl
  rw [e] at h
  exact h

theorem allMeetBoth (f : Nat → List (List Int) → List (List Int) → Option Bool) (g : Nat → List (List Int) → List (List Int) → Option (Bool × Bool)) (a b : List (List Int)) (hf : Ev (fun k => f k a b) (meetB a b))
    (hg : ∀ k, g k a b = if (a.length : Int) > 40 then some (false, false) else (if (b.length : Int) > 40 then some (false, false) else ((f k a b).bind fun t => some (t, true)))) :
    Ev (fun k => g k a b) (if (a.length : Int) > 40 ∨ (b.length : Int) > 40 then (false, false) else (meetB a b, true)) := by
  by_cases h1 : (a.length : Int) > 40
  · rw [if_pos (Or.inl h1)]; exact Ev.congr (f := fun _ => some _) (fun k => by rw [hg, if_pos h1]) (Ev.now _)
  · by_cases h2 : (b.length : Int) > 40
    · rw [if_pos (Or.inr h2)]; exact Ev.congr (f := fun _ => some _) (fun k => by rw [hg, if_neg h1, if_pos h2]) (Ev.now _)
    · rw [if_neg (by omega)]; exact Ev.congr (fun k => by rw [hg, if_neg h1, if_neg h2]) (Ev.map hf (fun t => (t, true)))

theorem l1All_l (xs : List Int) (lo hi : Int) (hm : xs.length ≤ 9223372036854775807) : ∀ (d i : Nat), xs.length - i = d → Ev (fun k => spec_l1All.l0 k lo hi xs (xs.length : Int) (i : Int)) (!Mine.anyP (Mine.outB lo hi) (xs.drop i)) := by
  intro d
  induction d with
  | zero =>
    intro i hd
    rw [List.drop_eq_nil_of_le (by omega)]
    exact Ev.step (f := fun _ => some true) (fun k => by simp only [spec_l1All.l0]; rw [if_neg (by omega)]) (Ev.now _)
  | succ d ih =>
    intro i hd
    have hlt : i < xs.length := by omega
    rw [Mine.drop_at xs 0 i hlt, Mine.anyP_cons]
    have body : ∀ k, spec_l1All.l0 (k + 1) lo hi xs (xs.length : Int) (i : Int) = if Mine.inB lo hi (xs.getD i 0) = true then spec_l1All.l0 k lo hi xs (xs.length : Int) ((i + 1 : Nat) : Int) else some false := by
      intro k
      simp only [spec_l1All.l0]
      rw [if_pos (by omega), if_pos (by omega), if_pos (by omega), rd_nat, l1In_f, Option.bind_some, wrap_next hlt hm]
    cases hb : Mine.inB lo hi (xs.getD i 0) with
    | true =>
      refine Ev.step (f := fun k => spec_l1All.l0 k lo hi xs (xs.length : Int) ((i + 1 : Nat) : Int)) (fun k => by rw [body, if_pos hb]) ?_
      have : Mine.outB lo hi (xs.getD i 0) = false := by unfold Mine.outB; rw [hb]; rfl
      rw [this, Bool.false_or]
      exact ih (i + 1) (by omega)
    | false =>
      refine Ev.step (f := fun _ => some false) (fun k => by rw [body, if_neg (by rw [hb]; simp)]) ?_
      have : Mine.outB lo hi (xs.getD i 0) = true := by unfold Mine.outB; rw [hb]; rfl
      rw [this, Bool.true_or]
      exact Ev.now _
theorem l1All_ev (xs : List Int) (lo hi : Int) (hm : xs.length ≤ 9223372036854775807) : Ev (fun k => spec_l1All.f k xs lo hi) (!Mine.anyP (Mine.outB lo hi) xs) := l1All_l xs lo hi hm _ 0 rfl

/-- The numbers from i on, below n, that are not in a list. -/
def without (gone : List Int) : Nat → Int → List Int
  | 0, _ => []
  | n + 1, i => if Mine.anyP (fun x => x == i) gone = true then without gone n (i + 1) else i :: without gone n (i + 1)
theorem without_len (gone : List Int) : ∀ (n : Nat) (i : Int), (without gone n i).length ≤ n
  | 0, _ => Nat.le_refl _
  | n + 1, i => by
    have := without_len gone n (i + 1)
    rw [without]; split
    · omega
    · rw [List.length_cons]; omega
theorem without_l (F : Nat → List Int → Int → Option (List Int × Bool)) (gone : List Int) (n : Nat) (hn : n ≤ 5)
    (body : ∀ (acc : List Int) (i : Nat) (r : List Int × Bool), i < n → acc.length ≤ 5 → Ev (fun k => F k (if Mine.anyP (fun x => x == (i : Int)) gone = true then acc else acc ++ [(i : Int)]) ((i + 1 : Nat) : Int)) r → Ev (fun k => F k acc (i : Int)) r)
    (he : ∀ acc, Ev (fun k => F k acc (n : Int)) (acc, true)) : ∀ (d i : Nat) (acc : List Int), n - i = d → i ≤ n → acc.length ≤ i → Ev (fun k => F k acc (i : Int)) (acc ++ without gone d i, true) := by
  intro d
  induction d with
  | zero => intro i acc hd hi ha; obtain rfl : i = n := (by omega); rw [without, List.append_nil]; exact he acc
  | succ d ih =>
    intro i acc hd hi ha
    refine body acc i _ (by omega) (by omega) ?_
    by_cases h : Mine.anyP (fun x => x == (i : Int)) gone = true
    · rw [if_pos h, without, if_pos h]; exact ih (i + 1) acc (by omega) (by omega) (by omega)
    · rw [if_neg h, without, if_neg h]
      have := ih (i + 1) (acc ++ [(i : Int)]) (by omega) (by omega) (by rw [List.length_append]; simp; omega)
      rwa [List.append_assoc] at this
def withoutR (n : Int) (gone : List Int) : List Int × Bool := if (n = 3 ∨ n = 5) ∧ Mine.anyP (Mine.outB 0 (wrap64 (n - 1))) gone = false then (without gone n.toNat 0, true) else ([], false)
theorem specWithout_ev (n : Int) (gone : List Int) (hm : gone.length ≤ 9223372036854775807) : Ev (fun k => spec_WithoutOnes.f k n gone) (withoutR n gone) := by
  unfold spec_WithoutOnes.f withoutR
  rw [specGroup]
  simp only [Option.bind_some]
  by_cases hg : n = 3 ∨ n = 5
  · rw [decide_eq_true hg]
    simp only [if_true]
    refine Ev.bind (l1All_ev gone 0 (wrap64 (n - 1)) hm) ?_
    cases ha : Mine.anyP (Mine.outB 0 (wrap64 (n - 1))) gone with
    | true => rw [if_neg (by simp)]; exact Ev.step (f := fun _ => some _) (fun k => by simp only [spec_WithoutOnes.j0]; first | rfl | simp) (Ev.now _)
    | false =>
      rw [if_pos ⟨hg, rfl⟩]
      refine Ev.step (fun k => by simp only [spec_WithoutOnes.j0]; first | rfl | simp) (?_ : Ev (fun k => spec_WithoutOnes.l0 k n gone [] 0) _)
      have hN : (n.toNat : Int) = n := by omega
      have := without_l (fun k => spec_WithoutOnes.l0 k n gone) gone n.toNat (by omega) (by
        intro acc i r hi hl hr
        refine Ev.step (fun k => by simp only [spec_WithoutOnes.l0]; rw [if_pos (by omega)]) (Ev.bind (l1Has_ev gone (i : Int) hm) ?_)
        have hw : wrap64 ((i : Int) + 1) = ((i + 1 : Nat) : Int) := by unfold wrap64; omega
        by_cases h : Mine.anyP (fun x => x == (i : Int)) gone = true
        · rw [if_pos h] at hr; simp only [h, if_true, hw]; exact hr
        · rw [if_neg h] at hr; simp only [h, if_false, if_pos (show acc.length < 17592186044416 by omega), hw]; exact hr)
        (fun acc => Ev.step (f := fun _ => some _) (fun k => by simp only [spec_WithoutOnes.l0]; rw [if_neg (by omega)]) (Ev.now _)) n.toNat 0 [] (by omega) (by omega) (by simp)
      simpa using this
  · rw [decide_eq_false hg, if_neg (fun h => hg h.1)]
    simp only [Bool.false_eq_true, if_false]
    exact Ev.step (f := fun _ => some _) (fun k => by simp only [spec_WithoutOnes.j0]; first | rfl | simp) (Ev.now _)
theorem implWithout_ev (n : Int) (gone : List Int) (hm : gone.length ≤ 9223372036854775807) : Ev (fun k => impl_WithoutOnes.f k n gone) (withoutR n gone) := by
  unfold impl_WithoutOnes.f withoutR impl_WithoutOnes_1_in_c.f
  rw [implGroup, Mine.anyO_total (q := Mine.outB 0 (wrap64 (n - 1))) (fun x _ => by unfold impl_WithoutOnes_1.f; rw [within_f, Option.bind_some]; rfl)]
  simp only [Option.bind_some]
  by_cases hg : n = 3 ∨ n = 5
  · rw [decide_eq_true hg]
    simp only [if_true]
    cases ha : Mine.anyP (Mine.outB 0 (wrap64 (n - 1))) gone with
    | true => rw [if_neg (by simp)]; exact Ev.step (f := fun _ => some _) (fun k => by simp only [impl_WithoutOnes.j0]; first | rfl | simp) (Ev.now _)
    | false =>
      rw [if_pos ⟨hg, rfl⟩]
      refine Ev.step (fun k => by simp only [impl_WithoutOnes.j0]; first | rfl | simp) (?_ : Ev (fun k => impl_WithoutOnes.l0 k gone [] n 0) _)
      have := without_l (fun k acc i => impl_WithoutOnes.l0 k gone acc n i) gone n.toNat (by omega) (by
        intro acc i r hi hl hr
        refine Ev.step (fun k => by simp only [impl_WithoutOnes.l0]; rw [if_pos (by omega)]) (Ev.bind (contains_ev gone (i : Int) hm) ?_)
        have hw : wrap64 ((i : Int) + 1) = ((i + 1 : Nat) : Int) := by unfold wrap64; omega
        by_cases h : Mine.anyP (fun x => x == (i : Int)) gone = true
        · rw [if_pos h] at hr; simp only [h, if_true, hw]; exact hr
        · rw [if_neg h] at hr; simp only [h, if_false, if_pos (show acc.length < 17592186044416 by omega), hw]; exact hr)
        (fun acc => Ev.step (f := fun _ => some _) (fun k => by simp only [impl_WithoutOnes.l0]; rw [if_neg (by omega)]) (Ev.now _)) n.toNat 0 [] (by omega) (by omega) (by simp)
      simpa using this
  · rw [decide_eq_false hg, if_neg (fun h => hg h.1)]
    simp only [Bool.false_eq_true, if_false]
    exact Ev.step (f := fun _ => some _) (fun k => by simp only [impl_WithoutOnes.j0]; first | rfl | simp) (Ev.now _)
theorem withoutR_len (n : Int) (gone : List Int) : (withoutR n gone).1.length ≤ 5 := by
  unfold withoutR
  split
  · rename_i h
    have := without_len gone n.toNat 0
    show (without gone n.toNat 0).length ≤ 5
    omega
  · simp

def okLists (r : List (List Int)) : Bool := decide (r.length ≤ 40) && r.all fun y => decide (y.length ≤ 10)
theorem okLists_len {r : List (List Int)} (h : okLists r = true) : r.length ≤ 40 ∧ ∀ y ∈ r, y.length ≤ 10 := by
  unfold okLists at h
  simp only [Bool.and_eq_true, decide_eq_true_eq, List.all_eq_true] at h
  exact h
def setsCheck (n k : Int) : Bool :=
  match spec_SetsOf.f 100 n k with
  | none => false
  | some (r, b) => decide (impl_SetsOf.f 100 n k = some (r, b)) && okLists r
theorem sets3 : ∀ k : Fin 4, setsCheck 3 (k.val : Int) = true := by decide +kernel
theorem sets5 : ∀ k : Fin 6, setsCheck 5 (k.val : Int) = true := by decide +kernel
theorem sets_facts (n k : Int) : ∃ r b, Ev (fun K => spec_SetsOf.f K n k) (r, b) ∧ Ev (fun K => impl_SetsOf.f K n k) (r, b) ∧ r.length ≤ 40 ∧ ∀ y ∈ r, y.length ≤ 10 := by
  have out {n k : Int} (h : setsCheck n k = true) : ∃ r b, Ev (fun K => spec_SetsOf.f K n k) (r, b) ∧ Ev (fun K => impl_SetsOf.f K n k) (r, b) ∧ r.length ≤ 40 ∧ ∀ y ∈ r, y.length ≤ 10 := by
    unfold setsCheck at h
    split at h
    · cases h
    · rename_i r b h1
      simp only [Bool.and_eq_true, decide_eq_true_eq] at h
      exact ⟨r, b, ⟨100, fun k hk => at_rounds (spec_SetsOf.mono _ _) hk h1⟩, ⟨100, fun k hk => at_rounds (impl_SetsOf.mono _ _) hk h.1⟩, okLists_len h.2⟩
  by_cases h : (n = 3 ∨ n = 5) ∧ Mine.inB 0 n k = true
  · obtain ⟨hn, hk⟩ := h
    obtain ⟨h0, h1⟩ := Mine.inB_iff.1 hk
    rcases hn with rfl | rfl
    · have := out (sets3 ⟨k.toNat, by omega⟩)
      rwa [show ((⟨k.toNat, by omega⟩ : Fin 4).val : Int) = k from Int.toNat_of_nonneg h0] at this
    · have := out (sets5 ⟨k.toNat, by omega⟩)
      rwa [show ((⟨k.toNat, by omega⟩ : Fin 6).val : Int) = k from Int.toNat_of_nonneg h0] at this
  · refine ⟨[], false, Ev.congr (f := fun _ => some _) (fun K => ?_) (Ev.now _), Ev.congr (f := fun _ => some _) (fun K => ?_) (Ev.now _), by decide, by simp⟩
    · unfold spec_SetsOf.f
      rw [specGroup, Option.bind_some, l1In_f, Option.bind_some]
      by_cases hn : n = 3 ∨ n = 5
      · rw [decide_eq_true hn]
        cases hk : Mine.inB 0 n k with
        | true => exact absurd ⟨hn, hk⟩ h
        | false => simp
      · rw [decide_eq_false hn]; simp
    · unfold impl_SetsOf.f
      rw [implGroup, Option.bind_some, within_f, Option.bind_some]
      by_cases hn : n = 3 ∨ n = 5
      · rw [decide_eq_true hn]
        cases hk : Mine.inB 0 n k with
        | true => exact absurd ⟨hn, hk⟩ h
        | false => simp
      · rw [decide_eq_false hn]; simp
/-- Majorities, by the kernel. -/
def majCheck (n m : Int) : Bool :=
  decide (impl_Majority.f n = some (m, true)) && (decide (spec_Majority.f n = some (m, true)) && (decide (impl_LeastMeeting.f 1000 n = some (m, true)) && (decide (spec_LeastMeeting.f 1000 n = some (m, true)) &&
  (decide (impl_IsGroup.f n = some true) && (decide (spec_IsGroup.f n = some true) && match impl_SetsOf.f 100 n m, impl_SetsOf.f 100 n (wrap64 (m - 1)) with
  | some (a, u), some (b, v) => u && (v && (decide (impl_AllMeet.f 200 a a = some (true, true)) && decide (impl_AllMeet.f 200 b b = some (false, true))))
  | _, _ => false)))))
theorem maj3 : majCheck 3 2 = true := by decide +kernel
theorem maj5 : majCheck 5 3 = true := by decide +kernel
theorem draw_ok (l : List Int) (hu : ∀ y ∈ l, 0 ≤ y ∧ y ≤ 255) : ∃ n, spec_DrawMajority.f l = some n := by
  unfold spec_DrawMajority.f spec_DrawIsGroup.f
  obtain ⟨v, a', s', e, _⟩ := pick_ok l 0 0 8 hu (by omega) (by omega) (by omega) (by omega)
  rw [e]
  exact ⟨_, rfl⟩
theorem drawSets_ok (l : List Int) (hu : ∀ y ∈ l, 0 ≤ y ∧ y ≤ 255) : ∃ n k, spec_DrawSetsOf.f l = some (n, k) := by
  unfold spec_DrawSetsOf.f
  obtain ⟨v, a', s', e, _, ha, ha'⟩ := group_ok l 0 0 hu (by omega) (by omega)
  rw [e, Option.bind_some]
  obtain ⟨v2, a2, s2, e2, _, _, hb, hb'⟩ := pick_ok l a' s' 7 hu (by omega) (by omega) (by omega) (by omega)
  dsimp only
  rw [e2, Option.bind_some]
  obtain ⟨v3, a3, s3, e3, _, _, hc, hc'⟩ := pick_ok l a2 s2 9 hu (by omega) (by omega) (by omega) (by omega)
  dsimp only
  rw [e3, Option.bind_some]
  exact ⟨_, _, rfl⟩
theorem drawMeet_ok (l : List Int) (hu : ∀ y ∈ l, 0 ≤ y ∧ y ≤ 255) : ∃ x y, Ev (fun K => spec_DrawAllMeet.f K l) (x, y) ∧ (x.length ≤ 40 ∧ ∀ z ∈ x, z.length ≤ 10) ∧ (y.length ≤ 40 ∧ ∀ z ∈ y, z.length ≤ 10) := by
  obtain ⟨v, a', s', e, _, ha, ha'⟩ := pick_ok l 0 0 2 hu (by omega) (by omega) (by omega) (by omega)
  obtain ⟨v2, a2, s2, e2, _, _, hb, hb'⟩ := pick_ok l a' s' 5 hu (by omega) (by omega) (by omega) (by omega)
  obtain ⟨x, bx, hx, _, hx1⟩ := sets_facts (wrap64 (3 + wrap64 (2 * v))) v2
  obtain ⟨v3, a3, s3, e3, _, _, hc, hc'⟩ := pick_ok l a2 s2 2 hu (by omega) (by omega) (by omega) (by omega)
  obtain ⟨v4, a4, s4, e4, _, _, hd, hd'⟩ := pick_ok l a3 s3 5 hu (by omega) (by omega) (by omega) (by omega)
  obtain ⟨y, bY, hy, _, hy1⟩ := sets_facts (wrap64 (3 + wrap64 (2 * v3))) v4
  refine ⟨x, y, ?_, hx1, hy1⟩
  unfold spec_DrawAllMeet.f
  rw [e]
  simp only [Option.bind_some, e2]
  refine Ev.bind hx ?_
  simp only [Option.bind_some, e3, e4]
  exact Ev.bind hy (Ev.now _)
theorem drawOnes_l (l : List Int) (hu : ∀ y ∈ l, 0 ≤ y ∧ y ≤ 255) : ∀ (n : Nat) (out : List Int) (a s : Int), n ≤ 4 → out.length + n ≤ 4 → 0 ≤ a → a + 2 * n ≤ 1000 → ∃ o a' s', Ev (fun K => spec_DrawWithoutOnes.l0 K l out (n : Int) a s) (o, a', s') ∧ o.length ≤ 4 ∧ 0 ≤ a' ∧ a' ≤ 1000
  | 0, out, a, s, _, ho, ha, hb => ⟨out, a, s, Ev.step (f := fun _ => some _) (fun k => by simp only [spec_DrawWithoutOnes.l0]; rw [if_neg (by omega)]) (Ev.now _), by omega, ha, by omega⟩
  | n + 1, out, a, s, hn, ho, ha, hb => by
    obtain ⟨v, a', s', e, _, _, hc, hc'⟩ := pick_ok l a s 5 hu ha (by omega) (by omega) (by omega)
    obtain ⟨o, a2, s2, h, h1⟩ := drawOnes_l l hu n (out ++ [v]) a' s' (by omega) (by rw [List.length_append]; simp; omega) (by omega) (by omega)
    refine ⟨o, a2, s2, Ev.step (f := fun K => spec_DrawWithoutOnes.l0 K l (out ++ [v]) (n : Int) a' s') (fun k => ?_) h, h1⟩
    simp only [spec_DrawWithoutOnes.l0]
    rw [if_pos (by omega), e]
    simp only [Option.bind_some]
    rw [if_pos (by omega), show wrap64 (((n + 1 : Nat) : Int) - 1) = (n : Int) by unfold wrap64; omega]
theorem drawOnes_ok (l : List Int) (hu : ∀ y ∈ l, 0 ≤ y ∧ y ≤ 255) : ∃ g o, Ev (fun K => spec_DrawWithoutOnes.f K l) (g, o) ∧ o.length ≤ 4 := by
  obtain ⟨v, a', s', e, hv, hv', ha, ha'⟩ := pick_ok l 0 0 4 hu (by omega) (by omega) (by omega) (by omega)
  obtain ⟨o, a2, s2, h, h1, h2, h3⟩ := drawOnes_l l hu v.toNat [] a' s' (by omega) (by simp; omega) (by omega) (by omega)
  obtain ⟨g, a3, s3, e3, _⟩ := group_ok l a2 s2 hu h2 (by omega)
  rw [Int.toNat_of_nonneg hv] at h
  refine ⟨g, o, ?_, h1⟩
  unfold spec_DrawWithoutOnes.f
  rw [e]
  simp only [Option.bind_some]
  refine Ev.bind h ?_
  simp only [e3, Option.bind_some]
  exact Ev.now _
theorem FnGroups : laws_FnGroups.Pure := by
  intro l0 l1 h0 h1
  have hu := u8s h0.2
  have hv := u8s h1.2
  unfold laws_FnGroups.Facts
  by_cases hb : laws_big.f l0 l1 = some true
  · exact Or.inl ⟨hb, trivial⟩
  refine Or.inr ⟨?_, ?_⟩
  · unfold laws_big.f at hb ⊢
    split
    · rename_i h; rw [if_pos h] at hb; exact absurd rfl hb
    · rename_i h; rw [if_neg h] at hb
      cases hd : decide ((l1.length : Int) > wrap64 (1048576 - (l0.length : Int))) with
      | true => rw [hd] at hb; exact absurd rfl hb
      | false => rfl
  obtain ⟨n, hn⟩ := draw_ok l0 hu
  obtain ⟨k, many, hk⟩ := drawSets_ok l1 hv
  obtain ⟨s, b, hs, hs', hl, hl'⟩ := sets_facts k many
  obtain ⟨x, y, hxy, ⟨hx, hx'⟩, hy, hy'⟩ := drawMeet_ok l1 hv
  have M1 := allMeetBoth spec_l1Meet.f spec_AllMeet.f x y (l1Meet_ev x y (by omega) (by omega) (fun z hz => by have := hx' z hz; omega) (fun z hz => by have := hy' z hz; omega)) (fun k => rfl)
  have M2 := allMeetBoth impl_allMeet.f impl_AllMeet.f x y (implAllMeet_ev x y (by omega) (by omega) (fun z hz => by have := hy' z hz; omega)) (fun k => rfl)
  generalize (if (x.length : Int) > 40 ∨ (y.length : Int) > 40 then (false, false) else (meetB x y, true)) = t at M1 M2
  obtain ⟨t1, t2⟩ := t
  obtain ⟨g, gone, hg, hgl⟩ := drawOnes_ok l1 hv
  have W1 := specWithout_ev g gone (by omega)
  have W2 := implWithout_ev g gone (by omega)
  have hlen := withoutR_len g gone
  generalize withoutR g gone = wr at hlen W1 W2
  obtain ⟨wl, wb⟩ := wr
  dsimp only at hlen
  have S1 := sameLists_ev s (by omega) (fun z hz => by have := hl' z hz; omega)
  have S2 := sameInts_ev wl (by omega)
  refine ⟨n, hn, ?_⟩
  by_cases hg3 : n = 3 ∨ n = 5
  · obtain ⟨m, hm⟩ : ∃ m, majCheck n m = true := by (rcases hg3 with rfl | rfl); exact ⟨2, maj3⟩; exact ⟨3, maj5⟩
    unfold majCheck at hm
    simp only [Bool.and_eq_true, decide_eq_true_eq] at hm
    obtain ⟨m1, m2, m3, m4, m5, m6, hm⟩ := hm
    split at hm
    · rename_i a u b' v e1 e2
      simp only [Bool.and_eq_true, decide_eq_true_eq] at hm
      obtain ⟨rfl, rfl, m7, m8⟩ := hm
      exact Or.inl ⟨m, m1, m2, ⟨1000, m3⟩, ⟨1000, m4⟩, m5, m6, a, ⟨100, e1⟩, b', ⟨100, e2⟩, ⟨200, m7⟩, ⟨200, m8⟩, k, many, hk, s, b, hs'.rounds, hs.rounds, x, y, hxy.rounds, t1, t2, M2.rounds, M1.rounds, g, gone, hg.rounds, wl, wb, W2.rounds, W1.rounds, S1.rounds, S2.rounds, trivial⟩
    · cases hm
  · refine Or.inr ⟨0, ?_, ?_, 0, ⟨0, ?_⟩, ⟨0, ?_⟩, ?_, ?_, k, many, hk, s, b, hs'.rounds, hs.rounds, x, y, hxy.rounds, t1, t2, M2.rounds, M1.rounds, g, gone, hg.rounds, wl, wb, W2.rounds, W1.rounds, S1.rounds, S2.rounds, trivial⟩
    · unfold impl_Majority.f; rw [implGroup, decide_eq_false hg3]; rfl
    · unfold spec_Majority.f; rw [specGroup, decide_eq_false hg3]; rfl
    · unfold impl_LeastMeeting.f; rw [implGroup, decide_eq_false hg3]; rfl
    · unfold spec_LeastMeeting.f; rw [specGroup, decide_eq_false hg3]; rfl
    · rw [implGroup, decide_eq_false hg3]
    · rw [specGroup, decide_eq_false hg3]

end Go.Proofs.Ytpchgihhlhbjhaa.Pure
