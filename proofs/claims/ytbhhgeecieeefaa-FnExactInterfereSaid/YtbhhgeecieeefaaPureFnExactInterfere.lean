/- The law FnExactInterfere holds, for every input. -/
import Derived.Test.YtbhhgeecieeefaaQFnExactInterferex6
import Derived.Test.YtbhhgeecieeefaaMine
namespace Go.Proofs.Ytbhhgeecieeefaa.Pure
open Go.RowKit Go.Proofs.Ytbhhgeecieeefaa.QFnExactInterfere Go.Proofs.YtbhhgeecieeefaaW.PrintWords Go.Proofs.YtbhhgeecieeefaaW.PrintLast Go.Proofs.YtbhhgeecieeefaaW.PrintMore
set_option linter.unusedVariables false
set_option linter.unusedSimpArgs false

theorem l1In_f (a b c : Int) : spec_l1In.f a b c = some (Mine.inB b c a) := by
  unfold spec_l1In.f Mine.inB
  by_cases h : a ≥ b
  · rw [if_pos h]; simp [show b ≤ a from h]
  · rw [if_neg h]; simp [show ¬ b ≤ a from h]

theorem l2Account_f (a : Int) : spec_l2Account.f a = some (Mine.inB 0 3 a) := by unfold spec_l2Account.f; rw [l1In_f, Option.bind_some]

theorem specGoodCmd (k i f t a : Int) : spec_GoodCmd.f k i f t a = some (Mine.goodCmdB k i f t a) := by
  unfold spec_GoodCmd.f spec_l2Code.f Mine.goodCmdB
  simp only [l1In_f, l2Account_f, Option.bind_some]
  by_cases h0 : k = 0
  · simp [h0]
  · rw [if_neg h0, if_neg h0]
    by_cases h1 : k = 1
    · rw [if_pos h1, if_pos h1, if_pos h1]
      by_cases hft : f = t
      · cases Mine.inB 1 999 i <;> cases Mine.inB 0 3 f <;> cases Mine.inB 0 3 t <;> simp [hft]
      · cases Mine.inB 1 999 i <;> cases Mine.inB 0 3 f <;> cases Mine.inB 0 3 t <;> cases Mine.inB 1 1000 a <;> simp [hft]
    · rw [if_neg h1, if_neg h1, if_neg h1]
      by_cases h2 : k = 2
      · rw [if_pos h2, if_pos h2]
        by_cases ht : t = 0
        · cases Mine.inB 1 999 i <;> cases Mine.inB 0 3 f <;> simp [ht]
        · cases Mine.inB 1 999 i <;> cases Mine.inB 0 3 f <;> simp [ht]
      · rw [if_neg h2, if_neg h2]

theorem wrap_next {i : Nat} {n : Nat} (h : i < n) (hn : n ≤ 9223372036854775807) : wrap64 ((i : Int) + 1) = ((i + 1 : Nat) : Int) := by
  unfold wrap64
  omega
theorem rd_nat (l : List Int) (i : Nat) : rd l (i : Int) = l.getD i 0 := by unfold rd; rw [Int.toNat_natCast]
theorem wrap_small {x : Int} (h0 : -9223372036854775808 ≤ x) (h1 : x ≤ 9223372036854775807) : wrap64 x = x := by unfold wrap64; omega
theorem Ev.const {α : Type} {o : Option α} {a : α} (h : o = some a) : Ev (fun _ => o) a := ⟨0, fun _ _ => h⟩
theorem Ev.map {α β : Type} {g : Nat → Option α} {a : α} (h : Ev g a) (f : α → β) : Ev (fun k => (g k).bind fun t => some (f t)) (f a) := by
  obtain ⟨K, h⟩ := h
  exact ⟨K, fun k hk => by show (g k).bind _ = _; rw [h k hk, Option.bind_some]⟩
/-- A loop over a list's elements that ends at the first hit. -/
theorem loop_any {α ρ : Type} (F : Nat → Int → Option ρ) (xs : List α) (d : α) (p : α → Bool) (hit miss : ρ)
    (hs : ∀ i, i < xs.length → (p (xs.getD i d) = true → Ev (fun k => F k (i : Int)) hit) ∧ (p (xs.getD i d) = false → ∀ r, Ev (fun k => F k ((i + 1 : Nat) : Int)) r → Ev (fun k => F k (i : Int)) r))
    (he : Mine.anyP p xs = false → Ev (fun k => F k (xs.length : Int)) miss) : Ev (fun k => F k 0) (if Mine.anyP p xs = true then hit else miss) := by
  have key : ∀ (n i : Nat), xs.length - i = n → i ≤ xs.length → Mine.anyP p (xs.take i) = false → Ev (fun k => F k (i : Int)) (if Mine.anyP p (xs.drop i) = true then hit else miss) := by
    intro n
    induction n with
    | zero =>
      intro i hn hi hb
      obtain rfl : i = xs.length := by omega
      rw [List.drop_eq_nil_of_le (Nat.le_refl _)]
      rw [List.take_of_length_le (Nat.le_refl _)] at hb
      simpa [Mine.anyP] using he hb
    | succ n ih =>
      intro i hn hi hb
      rw [Mine.drop_at xs d i (by omega), Mine.anyP_cons]
      cases hp : p (xs.getD i d) with
      | true => simpa using (hs i (by omega)).1 hp
      | false =>
        have hb' : Mine.anyP p (xs.take (i + 1)) = false := by
          have e : xs.take (i + 1) = xs.take i ++ [xs.getD i d] := by
            rw [List.take_add_one, List.getD_eq_getElem?_getD, List.getElem?_eq_getElem (show i < xs.length by omega)]; rfl
          rw [e]
          unfold Mine.anyP at hb ⊢
          rw [List.any_append, hb, List.any_cons, hp]
          rfl
        simpa using (hs i (by omega)).2 hp _ (ih (i + 1) (by omega) (by omega) hb')
  simpa using key xs.length 0 (by omega) (by omega) (by simp [Mine.anyP])
/-- What a loop over a list's elements comes to: a state that goes on, or a result. -/
def scan {σ α ρ : Type} (step : α → σ → Sum σ ρ) (fin : σ → ρ) : List α → σ → ρ
  | [], s => fin s
  | x :: xs, s => match step x s with
    | .inl s' => scan step fin xs s'
    | .inr r => r
theorem loop_scan {σ α ρ : Type} (F : Nat → σ → Int → Option ρ) (xs : List α) (d : α) (step : α → σ → Sum σ ρ) (fin : σ → ρ) (P : Nat → σ → Prop)
    (hs : ∀ (i : Nat) (s : σ), i < xs.length → P i s → (∀ s', step (xs.getD i d) s = .inl s' → P (i + 1) s' ∧ ∀ r, Ev (fun k => F k s' ((i + 1 : Nat) : Int)) r → Ev (fun k => F k s (i : Int)) r) ∧ (∀ r, step (xs.getD i d) s = .inr r → Ev (fun k => F k s (i : Int)) r))
    (he : ∀ s, P xs.length s → Ev (fun k => F k s (xs.length : Int)) (fin s)) (s : σ) (h0 : P 0 s) : Ev (fun k => F k s 0) (scan step fin xs s) := by
  have key : ∀ (n i : Nat) (s : σ), xs.length - i = n → i ≤ xs.length → P i s → Ev (fun k => F k s (i : Int)) (scan step fin (xs.drop i) s) := by
    intro n
    induction n with
    | zero =>
      intro i s hn hi hp
      obtain rfl : i = xs.length := by omega
      rw [List.drop_eq_nil_of_le (Nat.le_refl _)]
      exact he s hp
    | succ n ih =>
      intro i s hn hi hp
      rw [Mine.drop_at xs d i (by omega), scan]
      cases hst : step (xs.getD i d) s with
      | inl s' => exact ((hs i s (by omega) hp).1 s' hst).2 _ (ih (i + 1) s' (by omega) (by omega) ((hs i s (by omega) hp).1 s' hst).1)
      | inr r => exact (hs i s (by omega) hp).2 r hst
  simpa using key xs.length 0 s (by omega) (by omega) h0

/-- A number put to its place among rising ones, once. -/
def putL : List Int → Int → List Int
  | [], n => [n]
  | x :: xs, n => if x < n then x :: putL xs n else if x = n then x :: xs else n :: x :: xs
theorem putL_length (n : Int) : ∀ l : List Int, (putL l n).length ≤ l.length + 1
  | [] => by simp [putL]
  | x :: xs => by
    have := putL_length n xs
    unfold putL
    split
    · simp; omega
    · split <;> simp

theorem l1Put_l (l : List Int) (n : Int) (hm : l.length < 17592186044400) : ∀ (d i : Nat), l.length - i = d → i ≤ l.length → Ev (fun k => spec_l1Put.l0 k l n (i : Int)) (l.take i ++ putL (l.drop i) n) := by
  intro d
  induction d with
  | zero =>
    intro i hd hi
    obtain rfl : i = l.length := by omega
    refine Ev.step (f := fun _ => some _) (fun k => ?_) (Ev.now _)
    simp only [spec_l1Put.l0]
    rw [if_neg (by omega)]
    simp only [Option.bind_some, Int.toNat_natCast, List.drop_length, List.take_length, putL, List.append_nil]
    rw [if_pos (by omega), if_pos (by omega), if_pos (by simp; omega), if_pos (by simp; omega), if_pos (by simp; omega)]
    simp
  | succ d ih =>
    intro i hd hi
    have hlt : i < l.length := by omega
    rw [Mine.drop_at l 0 i hlt, putL]
    by_cases h1 : l.getD i 0 < n
    · rw [if_pos h1]
      have := ih (i + 1) (by omega) (by omega)
      have e : l.take (i + 1) = l.take i ++ [l.getD i 0] := by
        rw [List.take_add_one, List.getD_eq_getElem?_getD, List.getElem?_eq_getElem hlt]; rfl
      rw [e, List.append_assoc] at this
      refine Ev.step (fun k => ?_) this
      simp only [spec_l1Put.l0]
      rw [if_pos (by omega), if_pos (by omega), rd_nat, if_pos h1, wrap_next hlt (by omega)]
    · rw [if_neg h1]
      by_cases h2 : l.getD i 0 = n
      · rw [if_pos h2]
        refine Ev.step (f := fun _ => some _) (fun k => ?_) (Ev.now _)
        simp only [spec_l1Put.l0]
        rw [if_pos (by omega), if_pos (by omega), rd_nat, if_neg h1, if_pos h2, ← Mine.drop_at l 0 i hlt, List.take_append_drop]
      · rw [if_neg h2]
        refine Ev.step (f := fun _ => some _) (fun k => ?_) (Ev.now _)
        have ht : (l.take i).length = i := by rw [List.length_take]; omega
        have hdr : (l.drop i).length = l.length - i := by rw [List.length_drop]
        simp only [spec_l1Put.l0]
        rw [if_pos (by omega), if_pos (by omega), rd_nat, if_neg h1, if_neg h2]
        simp only [Option.bind_some, Int.toNat_natCast, List.nil_append]
        rw [if_pos (by omega), if_pos (by simp only [List.length_nil]; omega), if_pos (by omega), if_pos (by rw [List.length_append]; simp only [List.length_cons, List.length_nil]; omega), ← Mine.drop_at l 0 i hlt]
        simp
theorem l1Put_ev (l : List Int) (n : Int) (hm : l.length < 17592186044400) : Ev (fun k => spec_l1Put.f k l n) (putL l n) := by
  have := l1Put_l l n hm _ 0 rfl (by omega)
  simpa [spec_l1Put.f] using this

/-- The accounts that a good command touches (its kind, from, to). -/
def touchL (k f t : Int) : List Int := if k = 1 then putL [f] t else if k = 2 then [f] else []
theorem touchL_length (k f t : Int) : (touchL k f t).length ≤ 2 := by
  unfold touchL
  split
  · exact putL_length t [f]
  · split <;> simp
theorem good_parts {k i f t a : Int} (h : Mine.goodCmdB k i f t a = true) : (k = 0 ∧ i = 0 ∧ f = 0 ∧ t = 0 ∧ a = 0) ∨ (k = 1 ∧ (1 ≤ i ∧ i ≤ 999) ∧ (0 ≤ f ∧ f ≤ 3) ∧ (0 ≤ t ∧ t ≤ 3) ∧ f ≠ t ∧ (1 ≤ a ∧ a ≤ 1000)) ∨ (k = 2 ∧ (1 ≤ i ∧ i ≤ 999) ∧ (0 ≤ f ∧ f ≤ 3) ∧ t = 0 ∧ a = 0) := by
  unfold Mine.goodCmdB at h
  by_cases h0 : k = 0
  · rw [if_pos h0] at h; simp at h; exact .inl ⟨h0, h.1, h.2.1, h.2.2.1, h.2.2.2⟩
  · rw [if_neg h0] at h
    by_cases h1 : k = 1
    · rw [if_pos h1] at h
      simp only [Bool.and_eq_true, Mine.inB_iff, Bool.not_eq_true', beq_eq_false_iff_ne] at h
      exact .inr (.inl ⟨h1, h.1, h.2.1, h.2.2.1, h.2.2.2.1, h.2.2.2.2⟩)
    · rw [if_neg h1] at h
      by_cases h2 : k = 2
      · rw [if_pos h2] at h
        simp only [Bool.and_eq_true, Mine.inB_iff, beq_iff_eq] at h
        exact .inr (.inr ⟨h2, h.1, h.2.1, h.2.2.1, h.2.2.2⟩)
      · rw [if_neg h2] at h; simp at h

theorem specTouches_ev (k0 i f t a : Int) : Ev (fun k => spec_l2Touches.f k k0 i f t a) (touchL k0 f t) := by
  unfold spec_l2Touches.f touchL
  by_cases h1 : k0 = 1
  · simp only [if_pos h1]; exact Ev.map (l1Put_ev [f] t (by simp)) (fun t => t)
  · simp only [if_neg h1]
    by_cases h2 : k0 = 2
    · simp only [if_pos h2]; exact Ev.now _
    · simp only [if_neg h2]; exact Ev.now _

theorem l1Has_ev (l : List Int) (n : Int) (hm : l.length ≤ 9223372036854775807) : Ev (fun k => spec_l1Has.f k l n) (Mine.anyP (fun x => x == n) l) := by
  have h := loop_any (fun k => spec_l1Has.l0 k n l (l.length : Int)) l 0 (fun x => x == n) true false (by
    intro i hlt
    have body : ∀ k, spec_l1Has.l0 (k + 1) n l (l.length : Int) (i : Int) = if l.getD i 0 = n then some true else spec_l1Has.l0 k n l (l.length : Int) ((i + 1 : Nat) : Int) := by
      intro k
      simp only [spec_l1Has.l0]
      rw [if_pos (by omega), if_pos (by omega), if_pos (by omega), rd_nat, wrap_next hlt hm]
    refine ⟨fun hp => Ev.step (f := fun _ => some true) (fun k => by rw [body, if_pos (by simpa using hp)]) (Ev.now _), fun hp r hr => Ev.step (fun k => by rw [body, if_neg (by simpa using hp)]) hr⟩) (fun _ => Ev.step (f := fun _ => some false) (fun k => by simp only [spec_l1Has.l0]; rw [if_neg (by omega)]) (Ev.now _))
  have e : (if Mine.anyP (fun x => x == n) l = true then true else false) = Mine.anyP (fun x => x == n) l := by cases Mine.anyP (fun x => x == n) l <;> rfl
  rw [e] at h
  exact h

/-- Have two lists a number in common? -/
def common (x y : List Int) : Bool := Mine.anyP (fun k => Mine.anyP (fun z => z == k) y) x
def meetB (a b : List (List Int)) : Bool := !Mine.anyP (fun x => Mine.anyP (fun y => !common x y) b) a

theorem specInterfere_ev (k0 i f t a k1 i1 f1 t1 a1 : Int) : Ev (fun k => spec_l2Interfere.f k k0 i f t a k1 i1 f1 t1 a1) (common (touchL k0 f t) (touchL k1 f1 t1)) := by
  unfold spec_l2Interfere.f
  refine Ev.bind (specTouches_ev k0 i f t a) ?_
  have hl := touchL_length k0 f t
  have hl1 := touchL_length k1 f1 t1
  generalize touchL k0 f t = x at hl
  have h := loop_any (fun k j => spec_l2Interfere.l0 k x (x.length : Int) j k1 i1 f1 t1 a1) x 0 (fun n => Mine.anyP (fun z => z == n) (touchL k1 f1 t1)) true false (by
    intro j hj
    have body : ∀ k, spec_l2Interfere.l0 (k + 1) x (x.length : Int) (j : Int) k1 i1 f1 t1 a1 = (spec_l2Touches.f k k1 i1 f1 t1 a1).bind fun t => (spec_l1Has.f k t (x.getD j 0)).bind fun b => if b = true then some true else spec_l2Interfere.l0 k x (x.length : Int) ((j + 1 : Nat) : Int) k1 i1 f1 t1 a1 := by
      intro k
      simp only [spec_l2Interfere.l0]
      rw [if_pos (by omega), if_pos (by omega), if_pos (by omega), rd_nat, wrap_next hj (by omega)]
    have hh := l1Has_ev (touchL k1 f1 t1) (x.getD j 0) (by omega)
    refine ⟨fun hp => Ev.step body (Ev.bind (specTouches_ev k1 i1 f1 t1 a1) (Ev.bind hh ?_)), fun hp r hr => Ev.step body (Ev.bind (specTouches_ev k1 i1 f1 t1 a1) (Ev.bind hh ?_))⟩
    · rw [hp]; simpa using Ev.now true
    · rw [hp]; simpa using hr) (fun _ => Ev.step (f := fun _ => some false) (fun k => by simp only [spec_l2Interfere.l0]; rw [if_neg (by omega)]) (Ev.now _))
  have e : (if Mine.anyP (fun n => Mine.anyP (fun z => z == n) (touchL k1 f1 t1)) x = true then true else false) = common x (touchL k1 f1 t1) := by unfold common; cases Mine.anyP (fun n => Mine.anyP (fun z => z == n) (touchL k1 f1 t1)) x <;> rfl
  rw [e] at h
  exact h

theorem within_f (a b c : Int) : impl_within.f a b c = some (Mine.inB b c a) := by
  unfold impl_within.f Mine.inB
  by_cases h : b ≤ a
  · rw [if_pos h]; simp [h]
  · rw [if_neg h]; simp [h]

theorem implGoodCmd (k i f t a : Int) : impl_GoodCmd.f k i f t a = some (Mine.goodCmdB k i f t a) := by
  unfold impl_GoodCmd.f impl_isAccount.f Mine.goodCmdB
  simp only [within_f, Option.bind_some]
  by_cases h0 : k = 0
  · simp [h0]
  · rw [if_neg h0, if_neg h0]
    by_cases h1 : k = 1
    · rw [if_pos h1, if_pos h1]
      by_cases hft : f = t
      · cases Mine.inB 1 999 i <;> cases Mine.inB 0 3 f <;> cases Mine.inB 0 3 t <;> simp [hft]
      · cases Mine.inB 1 999 i <;> cases Mine.inB 0 3 f <;> cases Mine.inB 0 3 t <;> cases Mine.inB 1 1000 a <;> simp [hft]
    · rw [if_neg h1, if_neg h1]
      by_cases h2 : k = 2
      · rw [if_pos h2, if_pos h2]
        by_cases ht : t = 0
        · cases Mine.inB 1 999 i <;> cases Mine.inB 0 3 f <;> simp [ht]
        · cases Mine.inB 1 999 i <;> cases Mine.inB 0 3 f <;> simp [ht]
      · rw [if_neg h2, if_neg h2]

theorem implTouches_f (k0 i f t a : Int) (h : Mine.goodCmdB k0 i f t a = true) : impl_touches.f k0 i f t a = some (touchL k0 f t) := by
  unfold impl_touches.f touchL
  rcases good_parts h with ⟨rfl, _⟩ | ⟨rfl, _, _, _, hne, _⟩ | ⟨rfl, _⟩
  · simp
  · simp only [if_true, putL]
    by_cases hlt : f < t
    · rw [if_pos hlt]; simp only [Option.some.injEq, List.cons.injEq, and_true]; unfold mn mx; constructor <;> omega
    · rw [if_neg hlt, if_neg hne]; simp only [Option.some.injEq, List.cons.injEq, and_true]; unfold mn mx; constructor <;> omega
  · simp

/-- Where a number stands first. -/
def idxI (n : Int) : List Int → Int → Int
  | [], _ => -1
  | x :: xs, i => if n = x then i else idxI n xs (i + 1)
theorem index_l (xs : List Int) (n : Int) (hm : xs.length ≤ 9223372036854775807) : ∀ (d i : Nat), xs.length - i = d → Ev (fun k => slices_Index_int_int.l0 k xs n (xs.length : Int) (i : Int)) (idxI n (xs.drop i) i) := by
  intro d
  induction d with
  | zero => intro i hd; rw [List.drop_eq_nil_of_le (by omega)]; exact Ev.step (f := fun _ => some (-1)) (fun k => by simp only [slices_Index_int_int.l0]; rw [if_neg (by omega)]) (Ev.now _)
  | succ d ih =>
    intro i hd
    have hlt : i < xs.length := by omega
    rw [Mine.drop_at xs 0 i hlt, idxI]
    have body : ∀ k, slices_Index_int_int.l0 (k + 1) xs n (xs.length : Int) (i : Int) = if n = xs.getD i 0 then some (i : Int) else slices_Index_int_int.l0 k xs n (xs.length : Int) ((i + 1 : Nat) : Int) := by
      intro k
      simp only [slices_Index_int_int.l0]
      rw [if_pos (by omega), if_pos (by omega), if_pos (by omega), rd_nat, wrap_next hlt hm]
    by_cases h : n = xs.getD i 0
    · rw [if_pos h]; exact Ev.step (f := fun _ => some (i : Int)) (fun k => by rw [body, if_pos h]) (Ev.now _)
    · rw [if_neg h]; exact Ev.step (fun k => by rw [body, if_neg h]) (by simpa using ih (i + 1) (by omega))
theorem idxI_any (n : Int) : ∀ (xs : List Int) (i : Int), 0 ≤ i → decide (idxI n xs i ≥ 0) = Mine.anyP (fun x => x == n) xs
  | [], i, _ => by simp [idxI, Mine.anyP]
  | x :: xs, i, hi => by
    rw [idxI, Mine.anyP_cons]
    by_cases h : n = x
    · rw [if_pos h]; simp [h, hi]
    · rw [if_neg h, idxI_any n xs (i + 1) (by omega)]; simp [show ¬ x = n from fun e => h e.symm]
theorem index_ev (xs : List Int) (n : Int) (hm : xs.length ≤ 9223372036854775807) : Ev (fun k => slices_Index_int_int.f k xs n) (idxI n xs 0) := by
  simpa [slices_Index_int_int.f] using index_l xs n hm _ 0 rfl

theorem contains_ev (xs : List Int) (n : Int) (hm : xs.length ≤ 9223372036854775807) : Ev (fun k => slices_Contains_int_int.f k xs n) (Mine.anyP (fun x => x == n) xs) := by
  have h := Ev.map (index_ev xs n hm) (fun t => decide (t ≥ 0))
  rw [idxI_any n xs 0 (Int.le_refl 0)] at h
  exact h

theorem anyO_ev {α : Type} (p : Nat → α → Option Bool) : ∀ (xs : List α) (q : α → Bool), (∀ x ∈ xs, Ev (fun k => p k x) (q x)) → Ev (fun k => Mine.anyO (p k) xs) (Mine.anyP q xs)
  | [], q, _ => Ev.const rfl
  | x :: xs, q, h => by
    simp only [Mine.anyO]
    refine Ev.bind (h x (by simp)) ?_
    rw [Mine.anyP_cons]
    cases hq : q x with
    | true => simpa using Ev.now true
    | false => simpa using anyO_ev p xs q (fun y hy => h y (by simp [hy]))

theorem implInterfere_ev (k0 i f t a k1 i1 f1 t1 a1 : Int) (h : Mine.goodCmdB k0 i f t a = true) (h1 : Mine.goodCmdB k1 i1 f1 t1 a1 = true) : Ev (fun k => impl_interfere.f k k0 i f t a k1 i1 f1 t1 a1) (common (touchL k0 f t) (touchL k1 f1 t1)) := by
  unfold impl_interfere.f
  simp only [implTouches_f _ _ _ _ _ h, Option.bind_some]
  have hl1 := touchL_length k1 f1 t1
  refine Ev.map (?_ : Ev (fun k => impl_interfere_1_in_c.f k (touchL k0 f t) k1 i1 f1 t1 a1) _) (fun t => t)
  unfold impl_interfere_1_in_c.f common
  refine anyO_ev (fun k x => impl_interfere_1.f k x k1 i1 f1 t1 a1) (touchL k0 f t) _ (fun x _ => ?_)
  unfold impl_interfere_1.f
  simp only [implTouches_f _ _ _ _ _ h1, Option.bind_some]
  exact Ev.map (contains_ev (touchL k1 f1 t1) x (by omega)) (fun t => t)

theorem FnExactInterfere : laws_FnExactInterfere.Pure := by
  rintro ⟨k0, i, f, t, a⟩ ⟨k1, i1, f1, t1, a1⟩ _ _
  refine Ev.rounds (g := fun k => laws_FnExactInterfere.f k k0 i f t a k1 i1 f1 t1 a1) ?_
  unfold laws_FnExactInterfere.f laws_toCmd.f spec_Interfere.f impl_Interfere.f
  simp only [Option.bind_some, specGoodCmd, implGoodCmd]
  cases hg : Mine.goodCmdB k0 i f t a with
  | false => simpa using Ev.now true
  | true =>
    cases hg1 : Mine.goodCmdB k1 i1 f1 t1 a1 with
    | false => simpa using Ev.now true
    | true =>
      simp only [if_true]
      refine Ev.bind (Ev.map (specInterfere_ev k0 i f t a k1 i1 f1 t1 a1) (fun t => (t, true))) (Ev.bind (Ev.map (implInterfere_ev k0 i f t a k1 i1 f1 t1 a1 hg hg1) (fun t => (t, true))) ?_)
      simpa using Ev.now true

end Go.Proofs.Ytbhhgeecieeefaa.Pure
