/- The law FnExactAllMeet holds, for every input. -/
import Derived.Test.YtghblkjhecoaoaaQFnExactAllMeetx3
import Derived.Test.YtghblkjhecoaoaaMine
namespace Go.Proofs.Ytghblkjhecoaoaa.Pure
open Go.RowKit Go.Proofs.Ytghblkjhecoaoaa.QFnExactAllMeet Go.Proofs.YtghblkjhecoaoaaW.PrintWords Go.Proofs.YtghblkjhecoaoaaW.PrintLast Go.Proofs.YtghblkjhecoaoaaW.PrintMore
set_option linter.unusedVariables false
set_option linter.unusedSimpArgs false

theorem szIntS_f (l : List Int) (a : Int) (h0 : 0 ≤ a) (h1 : a ≤ 1048576) (hl : l.length ≤ 9223372036854775807) : laws_szIntS.f l a = some (if (l.length : Int) ≤ a then a - (l.length : Int) else -1) := by
  have hw : wrap64 (a - (l.length : Int)) = a - (l.length : Int) := by unfold wrap64; omega
  unfold laws_szIntS.f
  rw [hw]
  by_cases h : (l.length : Int) ≤ a
  · rw [if_neg (by omega), if_pos h]
  · rw [if_pos (by omega), if_neg h]

theorem wrap_next {i : Nat} {n : Nat} (h : i < n) (hn : n ≤ 9223372036854775807) : wrap64 ((i : Int) + 1) = ((i + 1 : Nat) : Int) := by
  unfold wrap64
  omega
theorem rd_nat (l : List Int) (i : Nat) : rd l (i : Int) = l.getD i 0 := by unfold rd; rw [Int.toNat_natCast]
theorem wrap_small {x : Int} (h0 : -9223372036854775808 ≤ x) (h1 : x ≤ 9223372036854775807) : wrap64 x = x := by unfold wrap64; omega
theorem Ev.const {α : Type} {o : Option α} {a : α} (h : o = some a) : Ev (fun _ => o) a := ⟨0, fun _ _ => h⟩
theorem Ev.map {α β : Type} {g : Nat → Option α} {a : α} (h : Ev g a) (f : α → β) : Ev (fun k => (g k).bind fun t => some (f t)) (f a) := by
  obtain ⟨K, h⟩ := h
  exact ⟨K, fun k hk => by show (g k).bind _ = _; rw [h k hk, Option.bind_some]⟩
/-- A loop over a list's elements that ends at the first hit. -/
theorem loop_any {α ρ : Type} (F : Nat → Int → Option ρ) (xs : List α) (d : α) (p : α → Bool) (hit miss : ρ)
    (hs : ∀ i, i < xs.length → (p (xs.getD i d) = true → Ev (fun k => F k (i : Int)) hit) ∧ (p (xs.getD i d) = false → ∀ r, Ev (fun k => F k ((i + 1 : Nat) : Int)) r → Ev (fun k => F k (i : Int)) r))
    (he : Mine.anyP p xs = false → Ev (fun k => F k (xs.length : Int)) miss) : Ev (fun k => F k 0) (if Mine.anyP p xs = true then hit else miss) := by
  have key : ∀ (n i : Nat), xs.length - i = n → i ≤ xs.length → Mine.anyP p (xs.take i) = false → Ev (fun k => F k (i : Int)) (if Mine.anyP p (xs.drop i) = true then hit else miss) := by
    intro n
    induction n with
    | zero =>
      intro i hn hi hb
      obtain rfl : i = xs.length := by omega
      rw [List.drop_eq_nil_of_le (Nat.le_refl _)]
      rw [List.take_of_length_le (Nat.le_refl _)] at hb
      simpa [Mine.anyP] using he hb
    | succ n ih =>
      intro i hn hi hb
      rw [Mine.drop_at xs d i (by omega), Mine.anyP_cons]
      cases hp : p (xs.getD i d) with
      | true => simpa using (hs i (by omega)).1 hp
      | false =>
        have hb' : Mine.anyP p (xs.take (i + 1)) = false := by
          have e : xs.take (i + 1) = xs.take i ++ [xs.getD i d] := by
            rw [List.take_add_one, List.getD_eq_getElem?_getD, List.getElem?_eq_getElem (show i < xs.length by omega)]; rfl
          rw [e]
          unfold Mine.anyP at hb ⊢
          rw [List.any_append, hb, List.any_cons, hp]
          rfl
        simpa using (hs i (by omega)).2 hp _ (ih (i + 1) (by omega) (by omega) hb')
  simpa using key xs.length 0 (by omega) (by omega) (by simp [Mine.anyP])
/-- What a loop over a list's elements comes to: a state that goes on, or a result. -/
def scan {σ α ρ : Type} (step : α → σ → Sum σ ρ) (fin : σ → ρ) : List α → σ → ρ
  | [], s => fin s
  | x :: xs, s => match step x s with
    | .inl s' => scan step fin xs s'
    | .inr r => r
theorem loop_scan {σ α ρ : Type} (F : Nat → σ → Int → Option ρ) (xs : List α) (d : α) (step : α → σ → Sum σ ρ) (fin : σ → ρ) (P : Nat → σ → Prop)
    (hs : ∀ (i : Nat) (s : σ), i < xs.length → P i s → (∀ s', step (xs.getD i d) s = .inl s' → P (i + 1) s' ∧ ∀ r, Ev (fun k => F k s' ((i + 1 : Nat) : Int)) r → Ev (fun k => F k s (i : Int)) r) ∧ (∀ r, step (xs.getD i d) s = .inr r → Ev (fun k => F k s (i : Int)) r))
    (he : ∀ s, P xs.length s → Ev (fun k => F k s (xs.length : Int)) (fin s)) (s : σ) (h0 : P 0 s) : Ev (fun k => F k s 0) (scan step fin xs s) := by
  have key : ∀ (n i : Nat) (s : σ), xs.length - i = n → i ≤ xs.length → P i s → Ev (fun k => F k s (i : Int)) (scan step fin (xs.drop i) s) := by
    intro n
    induction n with
    | zero =>
      intro i s hn hi hp
      obtain rfl : i = xs.length := by omega
      rw [List.drop_eq_nil_of_le (Nat.le_refl _)]
      exact he s hp
    | succ n ih =>
      intro i s hn hi hp
      rw [Mine.drop_at xs d i (by omega), scan]
      cases hst : step (xs.getD i d) s with
      | inl s' => exact ((hs i s (by omega) hp).1 s' hst).2 _ (ih (i + 1) s' (by omega) (by omega) ((hs i s (by omega) hp).1 s' hst).1)
      | inr r => exact (hs i s (by omega) hp).2 r hst
  simpa using key xs.length 0 s (by omega) (by omega) h0

theorem rdLL_nat (l : List (List Int)) (i : Nat) : rd_L1 l (i : Int) = l.getD i [] := by unfold rd_L1; rw [Int.toNat_natCast]
theorem mem_getD {α : Type} {l : List α} {i : Nat} (d : α) (h : i < l.length) : l.getD i d ∈ l := by
  rw [List.getD_eq_getElem?_getD, List.getElem?_eq_getElem h]; exact List.getElem_mem _

/-- How many numbers there are in all rows. -/
def sumLen : List (List Int) → Nat
  | [] => 0
  | y :: ys => y.length + sumLen ys
theorem sumLen_mem : ∀ {l : List (List Int)} {y : List Int}, y ∈ l → y.length ≤ sumLen l
  | [], _, h => by simp at h
  | z :: l, y, h => by
    rcases List.mem_cons.1 h with rfl | h
    · simp [sumLen]
    · have := sumLen_mem h; simp only [sumLen]; omega
theorem szIntSS_l (xs : List (List Int)) (hm : xs.length ≤ 9223372036854775807) (hi : ∀ y ∈ xs, y.length ≤ 9223372036854775807) : ∀ (d i : Nat) (a : Int), xs.length - i = d → 0 ≤ a → a ≤ 1048576 →
    Ev (fun k => laws_szIntSS.l0 k xs a (i : Int)) (-1) ∨ ∃ b, 0 ≤ b ∧ Ev (fun k => laws_szIntSS.l0 k xs a (i : Int)) b ∧ (sumLen (xs.drop i) : Int) + b = a := by
  intro d
  induction d with
  | zero =>
    intro i a hd h0 h1
    exact .inr ⟨a, h0, Ev.step (f := fun _ => some a) (fun k => by simp only [laws_szIntSS.l0]; rw [if_neg (by omega)]) (Ev.now _), by rw [List.drop_eq_nil_of_le (by omega)]; simp [sumLen]⟩
  | succ d ih =>
    intro i a hd h0 h1
    have hlt : i < xs.length := by omega
    have hz := szIntS_f (xs.getD i []) a h0 h1 (hi _ (mem_getD [] hlt))
    have body : ∀ k, laws_szIntSS.l0 (k + 1) xs a (i : Int) = if ((xs.getD i []).length : Int) ≤ a then laws_szIntSS.l0 k xs (a - ((xs.getD i []).length : Int)) ((i + 1 : Nat) : Int) else some (-1) := by
      intro k
      simp only [laws_szIntSS.l0]
      rw [if_pos (by omega), if_pos (by omega), rdLL_nat, hz, Option.bind_some, wrap_next hlt hm]
      by_cases h : ((xs.getD i []).length : Int) ≤ a
      · rw [if_pos h, if_neg (by omega), if_pos h]
      · rw [if_neg h, if_pos (by omega), if_neg h]
    by_cases h : ((xs.getD i []).length : Int) ≤ a
    · have st : ∀ r, Ev (fun k => laws_szIntSS.l0 k xs (a - ((xs.getD i []).length : Int)) ((i + 1 : Nat) : Int)) r → Ev (fun k => laws_szIntSS.l0 k xs a (i : Int)) r := fun r hr => Ev.step (fun k => by rw [body, if_pos h]) hr
      rcases ih (i + 1) (a - ((xs.getD i []).length : Int)) (by omega) (by omega) (by omega) with hr | ⟨b, hb, hr, he⟩
      · exact .inl (st _ hr)
      · refine .inr ⟨b, hb, st _ hr, ?_⟩
        rw [Mine.drop_at xs [] i hlt, sumLen]
        omega
    · exact .inl (Ev.step (f := fun _ => some (-1)) (fun k => by rw [body, if_neg h]) (Ev.now _))
/-- The size of rows: more than there may be, or what is left. -/
theorem szIntSS_or (xs : List (List Int)) (a : Int) (h0 : 0 ≤ a) (h1 : a ≤ 1048576) (hm : xs.length ≤ 9223372036854775807) (hi : ∀ y ∈ xs, y.length ≤ 9223372036854775807) :
    Ev (fun k => laws_szIntSS.f k xs a) (-1) ∨ ∃ b, 0 ≤ b ∧ Ev (fun k => laws_szIntSS.f k xs a) b ∧ (xs.length : Int) + (sumLen xs : Int) + b = a := by
  have hw : wrap64 (a - (xs.length : Int)) = a - (xs.length : Int) := by unfold wrap64; omega
  by_cases h : (xs.length : Int) ≤ a
  · have st : ∀ r, Ev (fun k => laws_szIntSS.l0 k xs (a - (xs.length : Int)) ((0 : Nat) : Int)) r → Ev (fun k => laws_szIntSS.f k xs a) r := fun r hr => Ev.congr (fun k => by unfold laws_szIntSS.f; rw [hw, if_neg (by omega)]; rfl) hr
    rcases szIntSS_l xs hm hi _ 0 (a - (xs.length : Int)) rfl (by omega) (by omega) with hr | ⟨b, hb, hr, he⟩
    · exact .inl (st _ hr)
    · refine .inr ⟨b, hb, st _ hr, ?_⟩
      simp only [List.drop_zero] at he
      omega
  · exact .inl (Ev.congr (f := fun _ => some (-1)) (fun k => by unfold laws_szIntSS.f; rw [hw, if_pos (by omega)]) (Ev.now _))

theorem toIntS_l (xs : List Int) (hm : xs.length ≤ 9223372036854775807) : ∀ (d i : Nat) (acc : List Int), xs.length - i = d → i ≤ xs.length → acc.length = xs.length → acc.take i = xs.take i → Ev (fun k => laws_toIntS.l0 k xs acc (i : Int)) xs := by
  intro d
  induction d with
  | zero =>
    intro i acc hd hi hl ht
    have e : acc = xs := Mine.take_all (i := i) (by omega) hl ht
    exact Ev.step (f := fun _ => some xs) (fun k => by simp only [laws_toIntS.l0]; rw [if_neg (by omega), e]) (Ev.now _)
  | succ d ih =>
    intro i acc hd hi hl ht
    refine Ev.step (f := fun k => laws_toIntS.l0 k xs (acc.set i (xs.getD i 0)) ((i + 1 : Nat) : Int)) (fun k => ?_) (ih (i + 1) _ (by omega) (by omega) (by simpa using hl) (Mine.take_set xs acc 0 i (by omega) hl ht))
    simp only [laws_toIntS.l0]
    rw [if_pos (by omega), if_pos (by omega), if_pos (by omega), wrap_next (n := xs.length) (by omega) hm, rd_nat, Int.toNat_natCast]
/-- A copy of numbers. -/
theorem toIntS_ev (xs : List Int) (hm : xs.length ≤ 1048576) : Ev (fun k => laws_toIntS.f k xs) xs := by
  refine Ev.congr (f := fun k => laws_toIntS.l0 k xs (List.replicate xs.length 0) ((0 : Nat) : Int)) (fun k => ?_) (toIntS_l xs (by omega) _ 0 _ rfl (by omega) (by simp) (by simp))
  unfold laws_toIntS.f
  rw [if_pos (by omega), if_pos (by omega)]
  simp

theorem toIntSS_l (xs : List (List Int)) (hm : xs.length ≤ 9223372036854775807) (hi : ∀ y ∈ xs, y.length ≤ 1048576) : ∀ (d i : Nat) (acc : List (List Int)), xs.length - i = d → i ≤ xs.length → acc.length = xs.length → acc.take i = xs.take i → Ev (fun k => laws_toIntSS.l0 k xs acc (i : Int)) xs := by
  intro d
  induction d with
  | zero =>
    intro i acc hd hi hl ht
    have e : acc = xs := Mine.take_all (i := i) (by omega) hl ht
    exact Ev.step (f := fun _ => some xs) (fun k => by simp only [laws_toIntSS.l0]; rw [if_neg (by omega), e]) (Ev.now _)
  | succ d ih =>
    intro i acc hd hi' hl ht
    refine Ev.step (f := fun k => (laws_toIntS.f k (xs.getD i [])).bind fun t => laws_toIntSS.l0 k xs (acc.set i t) ((i + 1 : Nat) : Int)) (fun k => ?_) (Ev.bind (toIntS_ev _ (hi _ (mem_getD [] (by omega)))) (ih (i + 1) _ (by omega) (by omega) (by simpa using hl) (Mine.take_set xs acc [] i (by omega) hl ht)))
    simp only [laws_toIntSS.l0]
    rw [if_pos (by omega), if_pos (by omega), rdLL_nat]
    simp only [if_pos (show (i : Int) < (acc.length : Int) by omega), wrap_next (show i < xs.length by omega) hm, Int.toNat_natCast]
/-- A copy of rows. -/
theorem toIntSS_ev (xs : List (List Int)) (hm : xs.length ≤ 1048576) (hi : ∀ y ∈ xs, y.length ≤ 1048576) : Ev (fun k => laws_toIntSS.f k xs) xs := by
  refine Ev.congr (f := fun k => laws_toIntSS.l0 k xs (List.replicate xs.length []) ((0 : Nat) : Int)) (fun k => ?_) (toIntSS_l xs (by omega) hi _ 0 _ rfl (by omega) (by simp) (by simp))
  unfold laws_toIntSS.f
  rw [if_pos (by omega), if_pos (by omega)]
  simp

theorem eqIntS_l (xs : List Int) (hm : xs.length ≤ 9223372036854775807) : ∀ (d i : Nat), xs.length - i = d → Ev (fun k => laws_eqIntS.l0 k xs xs (i : Int)) true := by
  intro d
  induction d with
  | zero => intro i hd; exact Ev.step (f := fun _ => some true) (fun k => by simp only [laws_eqIntS.l0]; rw [if_neg (by omega)]) (Ev.now _)
  | succ d ih =>
    intro i hd
    refine Ev.step (f := fun k => laws_eqIntS.l0 k xs xs ((i + 1 : Nat) : Int)) (fun k => ?_) (ih (i + 1) (by omega))
    simp only [laws_eqIntS.l0]
    rw [if_pos (by omega), if_pos (by omega), if_pos (by omega), if_pos trivial, wrap_next (n := xs.length) (by omega) hm]
/-- Numbers are the same as themselves. -/
theorem eqIntS_ev (xs : List Int) (hm : xs.length ≤ 9223372036854775807) : Ev (fun k => laws_eqIntS.f k xs xs) true := by
  refine Ev.congr (f := fun k => laws_eqIntS.l0 k xs xs ((0 : Nat) : Int)) (fun k => ?_) (eqIntS_l xs hm _ 0 rfl)
  unfold laws_eqIntS.f
  rw [if_pos rfl]
  rfl

theorem eqIntSS_l (xs : List (List Int)) (hm : xs.length ≤ 9223372036854775807) (hi : ∀ y ∈ xs, y.length ≤ 9223372036854775807) : ∀ (d i : Nat), xs.length - i = d → Ev (fun k => laws_eqIntSS.l0 k xs xs (i : Int)) true := by
  intro d
  induction d with
  | zero => intro i hd; exact Ev.step (f := fun _ => some true) (fun k => by simp only [laws_eqIntSS.l0]; rw [if_neg (by omega)]) (Ev.now _)
  | succ d ih =>
    intro i hd
    refine Ev.step (f := fun k => (laws_eqIntS.f k (xs.getD i []) (xs.getD i [])).bind fun t => if t = true then laws_eqIntSS.l0 k xs xs ((i + 1 : Nat) : Int) else some false) (fun k => ?_) (Ev.bind (eqIntS_ev _ (hi _ (mem_getD [] (by omega)))) (by simpa using ih (i + 1) (by omega)))
    simp only [laws_eqIntSS.l0]
    rw [if_pos (by omega), if_pos (by omega), if_pos (by omega), rdLL_nat, wrap_next (n := xs.length) (by omega) hm]
/-- Rows are the same as themselves. -/
theorem eqIntSS_ev (xs : List (List Int)) (hm : xs.length ≤ 9223372036854775807) (hi : ∀ y ∈ xs, y.length ≤ 9223372036854775807) : Ev (fun k => laws_eqIntSS.f k xs xs) true := by
  refine Ev.congr (f := fun k => laws_eqIntSS.l0 k xs xs ((0 : Nat) : Int)) (fun k => ?_) (eqIntSS_l xs hm hi _ 0 rfl)
  unfold laws_eqIntSS.f
  rw [if_pos rfl]
  rfl

theorem l1Has_ev (l : List Int) (n : Int) (hm : l.length ≤ 9223372036854775807) : Ev (fun k => spec_l1Has.f k l n) (Mine.anyP (fun x => x == n) l) := by
  have h := loop_any (fun k => spec_l1Has.l0 k n l (l.length : Int)) l 0 (fun x => x == n) true false (by
    intro i hlt
    have body : ∀ k, spec_l1Has.l0 (k + 1) n l (l.length : Int) (i : Int) = if l.getD i 0 = n then some true else spec_l1Has.l0 k n l (l.length : Int) ((i + 1 : Nat) : Int) := by
      intro k
      simp only [spec_l1Has.l0]
      rw [if_pos (by omega), if_pos (by omega), if_pos (by omega), rd_nat, wrap_next hlt hm]
    refine ⟨fun hp => Ev.step (f := fun _ => some true) (fun k => by rw [body, if_pos (by simpa using hp)]) (Ev.now _), fun hp r hr => Ev.step (fun k => by rw [body, if_neg (by simpa using hp)]) hr⟩) (fun _ => Ev.step (f := fun _ => some false) (fun k => by simp only [spec_l1Has.l0]; rw [if_neg (by omega)]) (Ev.now _))
  have e : (if Mine.anyP (fun x => x == n) l = true then true else false) = Mine.anyP (fun x => x == n) l := by cases Mine.anyP (fun x => x == n) l <;> rfl
  rw [e] at h
  exact h

/-- Have two lists a number in common? -/
def common (x y : List Int) : Bool := Mine.anyP (fun k => Mine.anyP (fun z => z == k) y) x
def meetB (a b : List (List Int)) : Bool := !Mine.anyP (fun x => Mine.anyP (fun y => !common x y) b) a

theorem l1Meet_in (b : List (List Int)) (x y : List Int) (a : List (List Int)) (na ia nb ib : Int) (hx : x.length ≤ 9223372036854775807) (hy : y.length ≤ 9223372036854775807) (r : Bool)
    (he : Ev (fun k => if common x y = true then spec_l1Meet.l1 k b x a na ia b nb (wrap64 (ib + 1)) else some false) r) :
    Ev (fun k => spec_l1Meet.l2 k b x y false a na ia b nb ib x (x.length : Int) 0) r := by
  have key : ∀ (n i : Nat) (s : Bool), x.length - i = n → i ≤ x.length → (s || Mine.anyP (fun k => Mine.anyP (fun z => z == k) y) (x.drop i)) = common x y → Ev (fun k => spec_l1Meet.l2 k b x y s a na ia b nb ib x (x.length : Int) (i : Int)) r := by
    intro n
    induction n with
    | zero =>
      intro i s hn hi hs
      rw [List.drop_eq_nil_of_le (by omega)] at hs
      have hs : s = common x y := by rw [← hs]; simp [Mine.anyP]
      refine Ev.step (fun k => ?_) he
      simp only [spec_l1Meet.l2]
      rw [if_neg (by omega), hs]
    | succ n ih =>
      intro i s hn hi hs
      have hlt : i < x.length := by omega
      rw [Mine.drop_at x 0 i hlt, Mine.anyP_cons] at hs
      have body : ∀ k, spec_l1Meet.l2 (k + 1) b x y s a na ia b nb ib x (x.length : Int) (i : Int) = if s = true then spec_l1Meet.l2 k b x y true a na ia b nb ib x (x.length : Int) ((i + 1 : Nat) : Int) else (spec_l1Has.f k y (x.getD i 0)).bind fun t => spec_l1Meet.l2 k b x y t a na ia b nb ib x (x.length : Int) ((i + 1 : Nat) : Int) := by
        intro k
        simp only [spec_l1Meet.l2]
        rw [if_pos (by omega), if_pos (by omega), if_pos (by omega), rd_nat, wrap_next hlt hx]
      cases s with
      | true => exact Ev.step (fun k => by rw [body, if_pos rfl]) (ih (i + 1) true (by omega) (by omega) (by rw [← hs]; simp))
      | false => exact Ev.step (fun k => by rw [body, if_neg (by simp)]) (Ev.bind (l1Has_ev y (x.getD i 0) hy) (ih (i + 1) (Mine.anyP (fun z => z == x.getD i 0) y) (by omega) (by omega) (by rw [← hs, Bool.false_or])))
  exact key x.length 0 false (by omega) (by omega) (by simp [common])
theorem l1Meet_ev (a b : List (List Int)) (ha : a.length ≤ 9223372036854775807) (hb : b.length ≤ 9223372036854775807) (hai : ∀ y ∈ a, y.length ≤ 9223372036854775807) (hbi : ∀ y ∈ b, y.length ≤ 9223372036854775807) : Ev (fun k => spec_l1Meet.f k a b) (meetB a b) := by
  have h := loop_any (fun k => spec_l1Meet.l0 k b a (a.length : Int)) a [] (fun x => Mine.anyP (fun y => !common x y) b) false true (by
    intro i hlt
    have hin := loop_any (fun k => spec_l1Meet.l1 k b (a.getD i []) a (a.length : Int) (i : Int) b (b.length : Int)) b [] (fun y => !common (a.getD i []) y) false
    have hj : ∀ j, j < b.length → _ := fun j hj => (show ((!common (a.getD i []) (b.getD j [])) = true → Ev (fun k => spec_l1Meet.l1 k b (a.getD i []) a (a.length : Int) (i : Int) b (b.length : Int) (j : Int)) false) ∧ ((!common (a.getD i []) (b.getD j [])) = false → ∀ r, Ev (fun k => spec_l1Meet.l1 k b (a.getD i []) a (a.length : Int) (i : Int) b (b.length : Int) ((j + 1 : Nat) : Int)) r → Ev (fun k => spec_l1Meet.l1 k b (a.getD i []) a (a.length : Int) (i : Int) b (b.length : Int) (j : Int)) r) by
      have body : ∀ k, spec_l1Meet.l1 (k + 1) b (a.getD i []) a (a.length : Int) (i : Int) b (b.length : Int) (j : Int) = spec_l1Meet.l2 k b (a.getD i []) (b.getD j []) false a (a.length : Int) (i : Int) b (b.length : Int) (j : Int) (a.getD i []) ((a.getD i []).length : Int) 0 := by
        intro k
        simp only [spec_l1Meet.l1]
        rw [if_pos (by omega), if_pos (by omega), if_pos (by omega), rdLL_nat]
      refine ⟨fun hp => Ev.step body (l1Meet_in _ _ _ _ _ _ _ _ (hai _ (mem_getD [] hlt)) (hbi _ (mem_getD [] hj)) _ ?_), fun hp r h => Ev.step body (l1Meet_in _ _ _ _ _ _ _ _ (hai _ (mem_getD [] hlt)) (hbi _ (mem_getD [] hj)) _ ?_)⟩
      · simp only [Bool.not_eq_true'] at hp; rw [hp]; simpa using Ev.now false
      · simp only [Bool.not_eq_false'] at hp; rw [hp, wrap_next hj hb]; simpa using h)
    have body : ∀ k, spec_l1Meet.l0 (k + 1) b a (a.length : Int) (i : Int) = spec_l1Meet.l1 k b (a.getD i []) a (a.length : Int) (i : Int) b (b.length : Int) 0 := by
      intro k
      simp only [spec_l1Meet.l0]
      rw [if_pos (by omega), if_pos (by omega), if_pos (by omega), rdLL_nat]
    refine ⟨fun hp => Ev.step body ?_, fun hp r h => Ev.step body ?_⟩
    · have := hin false hj (fun h => by rw [hp] at h; cases h); rw [hp] at this; exact this
    · have := hin r hj (fun _ => Ev.step (fun k => by simp only [spec_l1Meet.l1]; rw [if_neg (by omega), wrap_next hlt ha]) h); rw [hp] at this; simpa using this) (fun _ => Ev.step (f := fun _ => some true) (fun k => by simp only [spec_l1Meet.l0]; rw [if_neg (by omega)]) (Ev.now _))
  have e : (if Mine.anyP (fun x => Mine.anyP (fun y => !common x y) b) a = true then false else true) = meetB a b := by unfold meetB; cases Mine.anyP (fun x => Mine.anyP (fun y => !common x y) b) a <;> rfl
  rw [e] at h
  exact h

/-- Where a number stands first. -/
def idxI (n : Int) : List Int → Int → Int
  | [], _ => -1
  | x :: xs, i => if n = x then i else idxI n xs (i + 1)
theorem index_l (xs : List Int) (n : Int) (hm : xs.length ≤ 9223372036854775807) : ∀ (d i : Nat), xs.length - i = d → Ev (fun k => slices_Index_int_int.l0 k xs n (xs.length : Int) (i : Int)) (idxI n (xs.drop i) i) := by
  intro d
  induction d with
  | zero => intro i hd; rw [List.drop_eq_nil_of_le (by omega)]; exact Ev.step (f := fun _ => some (-1)) (fun k => by simp only [slices_Index_int_int.l0]; rw [if_neg (by omega)]) (Ev.now _)
  | succ d ih =>
    intro i hd
    have hlt : i < xs.length := by omega
    rw [Mine.drop_at xs 0 i hlt, idxI]
    have body : ∀ k, slices_Index_int_int.l0 (k + 1) xs n (xs.length : Int) (i : Int) = if n = xs.getD i 0 then some (i : Int) else slices_Index_int_int.l0 k xs n (xs.length : Int) ((i + 1 : Nat) : Int) := by
      intro k
      simp only [slices_Index_int_int.l0]
      rw [if_pos (by omega), if_pos (by omega), if_pos (by omega), rd_nat, wrap_next hlt hm]
    by_cases h : n = xs.getD i 0
    · rw [if_pos h]; exact Ev.step (f := fun _ => some (i : Int)) (fun k => by rw [body, if_pos h]) (Ev.now _)
    · rw [if_neg h]; exact Ev.step (fun k => by rw [body, if_neg h]) (by simpa using ih (i + 1) (by omega))
theorem idxI_any (n : Int) : ∀ (xs : List Int) (i : Int), 0 ≤ i → decide (idxI n xs i ≥ 0) = Mine.anyP (fun x => x == n) xs
  | [], i, _ => by simp [idxI, Mine.anyP]
  | x :: xs, i, hi => by
    rw [idxI, Mine.anyP_cons]
    by_cases h : n = x
    · rw [if_pos h]; simp [h, hi]
    · rw [if_neg h, idxI_any n xs (i + 1) (by omega)]; simp [show ¬ x = n from fun e => h e.symm]
theorem index_ev (xs : List Int) (n : Int) (hm : xs.length ≤ 9223372036854775807) : Ev (fun k => slices_Index_int_int.f k xs n) (idxI n xs 0) := by
  simpa [slices_Index_int_int.f] using index_l xs n hm _ 0 rfl

theorem contains_ev (xs : List Int) (n : Int) (hm : xs.length ≤ 9223372036854775807) : Ev (fun k => slices_Contains_int_int.f k xs n) (Mine.anyP (fun x => x == n) xs) := by
  have h := Ev.map (index_ev xs n hm) (fun t => decide (t ≥ 0))
  rw [idxI_any n xs 0 (Int.le_refl 0)] at h
  exact h

theorem anyO_ev {α : Type} (p : Nat → α → Option Bool) : ∀ (xs : List α) (q : α → Bool), (∀ x ∈ xs, Ev (fun k => p k x) (q x)) → Ev (fun k => Mine.anyO (p k) xs) (Mine.anyP q xs)
  | [], q, _ => Ev.const rfl
  | x :: xs, q, h => by
    simp only [Mine.anyO]
    refine Ev.bind (h x (by simp)) ?_
    rw [Mine.anyP_cons]
    cases hq : q x with
    | true => simpa using Ev.now true
    | false => simpa using anyO_ev p xs q (fun y hy => h y (by simp [hy]))

theorem allMeet_c_ev (x y : List Int) (hm : y.length ≤ 9223372036854775807) : Ev (fun k => impl_allMeet_1_in_c.f k x y) (common x y) := by
  unfold impl_allMeet_1_in_c.f common
  refine anyO_ev (fun k z => impl_allMeet_1.f k z y) x _ (fun z _ => ?_)
  exact Ev.map (contains_ev y z hm) (fun t => t)
theorem implAllMeet_ev (a b : List (List Int)) (ha : a.length ≤ 9223372036854775807) (hb : b.length ≤ 9223372036854775807) (hbi : ∀ y ∈ b, y.length ≤ 9223372036854775807) : Ev (fun k => impl_allMeet.f k a b) (meetB a b) := by
  have h := loop_any (fun k => impl_allMeet.l0 k b a (a.length : Int)) a [] (fun x => Mine.anyP (fun y => !common x y) b) false true (by
    intro i hlt
    have hin := loop_any (fun k => impl_allMeet.l1 k b (a.getD i []) a (a.length : Int) (i : Int) b (b.length : Int)) b [] (fun y => !common (a.getD i []) y) false
    have hj : ∀ j, j < b.length → _ := fun j hj => (show ((!common (a.getD i []) (b.getD j [])) = true → Ev (fun k => impl_allMeet.l1 k b (a.getD i []) a (a.length : Int) (i : Int) b (b.length : Int) (j : Int)) false) ∧ ((!common (a.getD i []) (b.getD j [])) = false → ∀ r, Ev (fun k => impl_allMeet.l1 k b (a.getD i []) a (a.length : Int) (i : Int) b (b.length : Int) ((j + 1 : Nat) : Int)) r → Ev (fun k => impl_allMeet.l1 k b (a.getD i []) a (a.length : Int) (i : Int) b (b.length : Int) (j : Int)) r) by
      have body : ∀ k, impl_allMeet.l1 (k + 1) b (a.getD i []) a (a.length : Int) (i : Int) b (b.length : Int) (j : Int) = (impl_allMeet_1_in_c.f k (a.getD i []) (b.getD j [])).bind fun t => if t = true then impl_allMeet.l1 k b (a.getD i []) a (a.length : Int) (i : Int) b (b.length : Int) ((j + 1 : Nat) : Int) else some false := by
        intro k
        simp only [impl_allMeet.l1]
        rw [if_pos (by omega), if_pos (by omega), if_pos (by omega), rdLL_nat, wrap_next hj hb]
      have hc := allMeet_c_ev (a.getD i []) (b.getD j []) (hbi _ (mem_getD [] hj))
      refine ⟨fun hp => Ev.step body (Ev.bind hc ?_), fun hp r h => Ev.step body (Ev.bind hc ?_)⟩
      · simp only [Bool.not_eq_true'] at hp; rw [hp]; exact Ev.now _
      · simp only [Bool.not_eq_false'] at hp; rw [hp]; exact h)
    have body : ∀ k, impl_allMeet.l0 (k + 1) b a (a.length : Int) (i : Int) = impl_allMeet.l1 k b (a.getD i []) a (a.length : Int) (i : Int) b (b.length : Int) 0 := by
      intro k
      simp only [impl_allMeet.l0]
      rw [if_pos (by omega), if_pos (by omega), if_pos (by omega), rdLL_nat]
    refine ⟨fun hp => Ev.step body ?_, fun hp r h => Ev.step body ?_⟩
    · have := hin false hj (fun h => by rw [hp] at h; cases h); rw [hp] at this; exact this
    · have := hin r hj (fun _ => Ev.step (fun k => by simp only [impl_allMeet.l1]; rw [if_neg (by omega), wrap_next hlt ha]) h); rw [hp] at this; simpa using this) (fun _ => Ev.step (f := fun _ => some true) (fun k => by simp only [impl_allMeet.l0]; rw [if_neg (by omega)]) (Ev.now _))
  have e : (if Mine.anyP (fun x => Mine.anyP (fun y => !common x y) b) a = true then false else true) = meetB a b := by unfold meetB; cases Mine.anyP (fun x => Mine.anyP (fun y => !common x y) b) a <;> rfl
  rw [e] at h
  exact h

theorem allMeetBoth (f : Nat → List (List Int) → List (List Int) → Option Bool) (g : Nat → List (List Int) → List (List Int) → Option (Bool × Bool)) (a b : List (List Int)) (hf : Ev (fun k => f k a b) (meetB a b))
    (hg : ∀ k, g k a b = if (a.length : Int) > 40 then some (false, false) else (if (b.length : Int) > 40 then some (false, false) else ((f k a b).bind fun t => some (t, true)))) :
    Ev (fun k => g k a b) (if (a.length : Int) > 40 ∨ (b.length : Int) > 40 then (false, false) else (meetB a b, true)) := by
  by_cases h1 : (a.length : Int) > 40
  · rw [if_pos (Or.inl h1)]; exact Ev.congr (f := fun _ => some _) (fun k => by rw [hg, if_pos h1]) (Ev.now _)
  · by_cases h2 : (b.length : Int) > 40
    · rw [if_pos (Or.inr h2)]; exact Ev.congr (f := fun _ => some _) (fun k => by rw [hg, if_neg h1, if_pos h2]) (Ev.now _)
    · rw [if_neg (by omega)]; exact Ev.congr (fun k => by rw [hg, if_neg h1, if_neg h2]) (Ev.map hf (fun t => (t, true)))
theorem FnExactAllMeet : laws_FnExactAllMeet.Pure := by
  intro a b ha hb
  obtain ⟨ha, hai⟩ := ha
  obtain ⟨hb, hbi⟩ := hb
  have hai' : ∀ y ∈ a, y.length ≤ 9223372036854775807 := fun y hy => (hai y hy).1
  have hbi' : ∀ y ∈ b, y.length ≤ 9223372036854775807 := fun y hy => (hbi y hy).1
  rcases szIntSS_or a 1048576 (by omega) (by omega) ha hai' with hz | ⟨c, hc, hz, he⟩
  · exact Ev.rounds (Ev.bind hz (by simpa using Ev.now true))
  rcases szIntSS_or b c (by omega) (by omega) hb hbi' with hz2 | ⟨d, hd, hz2, he2⟩
  · refine Ev.rounds (Ev.bind hz ?_)
    simp only [if_neg (show ¬ c < 0 by omega)]
    exact Ev.bind hz2 (by simpa using Ev.now true)
  have ta := toIntSS_ev a (by omega) (fun y hy => by have := sumLen_mem hy; omega)
  have tb := toIntSS_ev b (by omega) (fun y hy => by have := sumLen_mem hy; omega)
  have h1 := allMeetBoth spec_l1Meet.f spec_AllMeet.f a b (l1Meet_ev a b ha hb hai' hbi') (fun k => rfl)
  have h2 := allMeetBoth impl_allMeet.f impl_AllMeet.f a b (implAllMeet_ev a b ha hb hbi') (fun k => rfl)
  refine Ev.rounds (Ev.bind hz ?_)
  simp only [if_neg (show ¬ c < 0 by omega)]
  refine Ev.bind hz2 ?_
  simp only [if_neg (show ¬ d < 0 by omega)]
  refine Ev.bind ta (Ev.bind tb (Ev.bind h1 (Ev.bind ta (Ev.bind tb (Ev.bind h2 ?_)))))
  simp only [bne_self_eq_false, Bool.false_eq_true, if_false]
  refine Ev.step (fun k => by simp only [laws_FnExactAllMeet.j0]; rw [if_neg (by simp)]) (Ev.bind ta (Ev.bind (eqIntSS_ev a ha hai') ?_))
  simp only [if_true]
  exact Ev.bind tb (Ev.bind (eqIntSS_ev b hb hbi') (by simpa using Ev.now true))

end Go.Proofs.Ytghblkjhecoaoaa.Pure
