/- The law FnExactGoodGraph holds, for every input. -/
import Derived.Test.YtghblkjhecoaoaaQFnExactGoodGraphx2
import Derived.Test.YtghblkjhecoaoaaMine
namespace Go.Proofs.Ytghblkjhecoaoaa.Pure
open Go.RowKit Go.Proofs.Ytghblkjhecoaoaa.QFnExactGoodGraph Go.Proofs.YtghblkjhecoaoaaW.PrintWords Go.Proofs.YtghblkjhecoaoaaW.PrintLast Go.Proofs.YtghblkjhecoaoaaW.PrintMore
set_option linter.unusedVariables false
set_option linter.unusedSimpArgs false

theorem szIntS_f (l : List Int) (a : Int) (h0 : 0 ≤ a) (h1 : a ≤ 1048576) (hl : l.length ≤ 9223372036854775807) : laws_szIntS.f l a = some (if (l.length : Int) ≤ a then a - (l.length : Int) else -1) := by
  have hw : wrap64 (a - (l.length : Int)) = a - (l.length : Int) := by unfold wrap64; omega
  unfold laws_szIntS.f
  rw [hw]
  by_cases h : (l.length : Int) ≤ a
  · rw [if_neg (by omega), if_pos h]
  · rw [if_pos (by omega), if_neg h]

theorem wrap_next {i : Nat} {n : Nat} (h : i < n) (hn : n ≤ 9223372036854775807) : wrap64 ((i : Int) + 1) = ((i + 1 : Nat) : Int) := by
  unfold wrap64
  omega
theorem rd_nat (l : List Int) (i : Nat) : rd l (i : Int) = l.getD i 0 := by unfold rd; rw [Int.toNat_natCast]
theorem wrap_small {x : Int} (h0 : -9223372036854775808 ≤ x) (h1 : x ≤ 9223372036854775807) : wrap64 x = x := by unfold wrap64; omega
theorem Ev.const {α : Type} {o : Option α} {a : α} (h : o = some a) : Ev (fun _ => o) a := ⟨0, fun _ _ => h⟩
theorem Ev.map {α β : Type} {g : Nat → Option α} {a : α} (h : Ev g a) (f : α → β) : Ev (fun k => (g k).bind fun t => some (f t)) (f a) := by
  obtain ⟨K, h⟩ := h
  exact ⟨K, fun k hk => by show (g k).bind _ = _; rw [h k hk, Option.bind_some]⟩
/-- A loop over a list's elements that ends at the first hit. -/
theorem loop_any {α ρ : Type} (F : Nat → Int → Option ρ) (xs : List α) (d : α) (p : α → Bool) (hit miss : ρ)
    (hs : ∀ i, i < xs.length → (p (xs.getD i d) = true → Ev (fun k => F k (i : Int)) hit) ∧ (p (xs.getD i d) = false → ∀ r, Ev (fun k => F k ((i + 1 : Nat) : Int)) r → Ev (fun k => F k (i : Int)) r))
    (he : Ev (fun k => F k (xs.length : Int)) miss) : Ev (fun k => F k 0) (if Mine.anyP p xs = true then hit else miss) := by
  have key : ∀ (n i : Nat), xs.length - i = n → i ≤ xs.length → Ev (fun k => F k (i : Int)) (if Mine.anyP p (xs.drop i) = true then hit else miss) := by
    intro n
    induction n with
    | zero =>
      intro i hn hi
      obtain rfl : i = xs.length := by omega
      rw [List.drop_eq_nil_of_le (Nat.le_refl _)]
      simpa [Mine.anyP] using he
    | succ n ih =>
      intro i hn hi
      rw [Mine.drop_at xs d i (by omega), Mine.anyP_cons]
      cases hp : p (xs.getD i d) with
      | true => simpa using (hs i (by omega)).1 hp
      | false => simpa using (hs i (by omega)).2 hp _ (ih (i + 1) (by omega) (by omega))
  simpa using key xs.length 0 (by omega) (by omega)
/-- What a loop over a list's elements comes to: a state that goes on, or a result. -/
def scan {σ α ρ : Type} (step : α → σ → Sum σ ρ) (fin : σ → ρ) : List α → σ → ρ
  | [], s => fin s
  | x :: xs, s => match step x s with
    | .inl s' => scan step fin xs s'
    | .inr r => r
theorem loop_scan {σ α ρ : Type} (F : Nat → σ → Int → Option ρ) (xs : List α) (d : α) (step : α → σ → Sum σ ρ) (fin : σ → ρ) (P : Nat → σ → Prop)
    (hs : ∀ (i : Nat) (s : σ), i < xs.length → P i s → (∀ s', step (xs.getD i d) s = .inl s' → P (i + 1) s' ∧ ∀ r, Ev (fun k => F k s' ((i + 1 : Nat) : Int)) r → Ev (fun k => F k s (i : Int)) r) ∧ (∀ r, step (xs.getD i d) s = .inr r → Ev (fun k => F k s (i : Int)) r))
    (he : ∀ s, P xs.length s → Ev (fun k => F k s (xs.length : Int)) (fin s)) (s : σ) (h0 : P 0 s) : Ev (fun k => F k s 0) (scan step fin xs s) := by
  have key : ∀ (n i : Nat) (s : σ), xs.length - i = n → i ≤ xs.length → P i s → Ev (fun k => F k s (i : Int)) (scan step fin (xs.drop i) s) := by
    intro n
    induction n with
    | zero =>
      intro i s hn hi hp
      obtain rfl : i = xs.length := by omega
      rw [List.drop_eq_nil_of_le (Nat.le_refl _)]
      exact he s hp
    | succ n ih =>
      intro i s hn hi hp
      rw [Mine.drop_at xs d i (by omega), scan]
      cases hst : step (xs.getD i d) s with
      | inl s' => exact ((hs i s (by omega) hp).1 s' hst).2 _ (ih (i + 1) s' (by omega) (by omega) ((hs i s (by omega) hp).1 s' hst).1)
      | inr r => exact (hs i s (by omega) hp).2 r hst
  simpa using key xs.length 0 s (by omega) (by omega) h0

theorem rdLL_nat (l : List (List Int)) (i : Nat) : rd_L1 l (i : Int) = l.getD i [] := by unfold rd_L1; rw [Int.toNat_natCast]
theorem mem_getD {α : Type} {l : List α} {i : Nat} (d : α) (h : i < l.length) : l.getD i d ∈ l := by
  rw [List.getD_eq_getElem?_getD, List.getElem?_eq_getElem h]; exact List.getElem_mem _

/-- How many numbers there are in all rows. -/
def sumLen : List (List Int) → Nat
  | [] => 0
  | y :: ys => y.length + sumLen ys
theorem sumLen_mem : ∀ {l : List (List Int)} {y : List Int}, y ∈ l → y.length ≤ sumLen l
  | [], _, h => by simp at h
  | z :: l, y, h => by
    rcases List.mem_cons.1 h with rfl | h
    · simp [sumLen]
    · have := sumLen_mem h; simp only [sumLen]; omega
theorem szIntSS_l (xs : List (List Int)) (hm : xs.length ≤ 9223372036854775807) (hi : ∀ y ∈ xs, y.length ≤ 9223372036854775807) : ∀ (d i : Nat) (a : Int), xs.length - i = d → 0 ≤ a → a ≤ 1048576 →
    Ev (fun k => laws_szIntSS.l0 k xs a (i : Int)) (-1) ∨ ∃ b, 0 ≤ b ∧ Ev (fun k => laws_szIntSS.l0 k xs a (i : Int)) b ∧ (sumLen (xs.drop i) : Int) + b = a := by
  intro d
  induction d with
  | zero =>
    intro i a hd h0 h1
    exact .inr ⟨a, h0, Ev.step (f := fun _ => some a) (fun k => by simp only [laws_szIntSS.l0]; rw [if_neg (by omega)]) (Ev.now _), by rw [List.drop_eq_nil_of_le (by omega)]; simp [sumLen]⟩
  | succ d ih =>
    intro i a hd h0 h1
    have hlt : i < xs.length := by omega
    have hz := szIntS_f (xs.getD i []) a h0 h1 (hi _ (mem_getD [] hlt))
    have body : ∀ k, laws_szIntSS.l0 (k + 1) xs a (i : Int) = if ((xs.getD i []).length : Int) ≤ a then laws_szIntSS.l0 k xs (a - ((xs.getD i []).length : Int)) ((i + 1 : Nat) : Int) else some (-1) := by
      intro k
      simp only [laws_szIntSS.l0]
      rw [if_pos (by omega), if_pos (by omega), rdLL_nat, hz, Option.bind_some, wrap_next hlt hm]
      by_cases h : ((xs.getD i []).length : Int) ≤ a
      · rw [if_pos h, if_neg (by omega), if_pos h]
      · rw [if_neg h, if_pos (by omega), if_neg h]
    by_cases h : ((xs.getD i []).length : Int) ≤ a
    · have st : ∀ r, Ev (fun k => laws_szIntSS.l0 k xs (a - ((xs.getD i []).length : Int)) ((i + 1 : Nat) : Int)) r → Ev (fun k => laws_szIntSS.l0 k xs a (i : Int)) r := fun r hr => Ev.step (fun k => by rw [body, if_pos h]) hr
      rcases ih (i + 1) (a - ((xs.getD i []).length : Int)) (by omega) (by omega) (by omega) with hr | ⟨b, hb, hr, he⟩
      · exact .inl (st _ hr)
      · refine .inr ⟨b, hb, st _ hr, ?_⟩
        rw [Mine.drop_at xs [] i hlt, sumLen]
        omega
    · exact .inl (Ev.step (f := fun _ => some (-1)) (fun k => by rw [body, if_neg h]) (Ev.now _))
/-- The size of rows: more than there may be, or what is left. -/
theorem szIntSS_or (xs : List (List Int)) (a : Int) (h0 : 0 ≤ a) (h1 : a ≤ 1048576) (hm : xs.length ≤ 9223372036854775807) (hi : ∀ y ∈ xs, y.length ≤ 9223372036854775807) :
    Ev (fun k => laws_szIntSS.f k xs a) (-1) ∨ ∃ b, 0 ≤ b ∧ Ev (fun k => laws_szIntSS.f k xs a) b ∧ (xs.length : Int) + (sumLen xs : Int) + b = a := by
  have hw : wrap64 (a - (xs.length : Int)) = a - (xs.length : Int) := by unfold wrap64; omega
  by_cases h : (xs.length : Int) ≤ a
  · have st : ∀ r, Ev (fun k => laws_szIntSS.l0 k xs (a - (xs.length : Int)) ((0 : Nat) : Int)) r → Ev (fun k => laws_szIntSS.f k xs a) r := fun r hr => Ev.congr (fun k => by unfold laws_szIntSS.f; rw [hw, if_neg (by omega)]; rfl) hr
    rcases szIntSS_l xs hm hi _ 0 (a - (xs.length : Int)) rfl (by omega) (by omega) with hr | ⟨b, hb, hr, he⟩
    · exact .inl (st _ hr)
    · refine .inr ⟨b, hb, st _ hr, ?_⟩
      simp only [List.drop_zero] at he
      omega
  · exact .inl (Ev.congr (f := fun _ => some (-1)) (fun k => by unfold laws_szIntSS.f; rw [hw, if_pos (by omega)]) (Ev.now _))

theorem l1In_f (a b c : Int) : spec_l1In.f a b c = some (Mine.inB b c a) := by
  unfold spec_l1In.f Mine.inB
  by_cases h : a ≥ b
  · rw [if_pos h]; simp [show b ≤ a from h]
  · rw [if_neg h]; simp [show ¬ b ≤ a from h]

/-- Numbers rise and are within bounds, as the reference asks it. -/
def risesIn (lo hi : Int) (l : List Int) : Bool := Mine.riseB l && !Mine.anyP (Mine.outB lo hi) l
theorem l1Rising_l (xs : List Int) (lo hi : Int) (hm : xs.length ≤ 9223372036854775807) : ∀ (d j : Nat), 1 ≤ j → xs.length - j = d → Mine.outB lo hi (xs.getD (j - 1) 0) = false ∨ xs.length = 0 →
    Ev (fun k => spec_l1Rising.l0 k xs lo hi xs (xs.length : Int) (j : Int)) (risesIn lo hi (xs.drop (j - 1))) := by
  intro d
  induction d with
  | zero =>
    intro j hj hd ho
    refine Ev.step (f := fun _ => some _) (fun k => by simp only [spec_l1Rising.l0]; rw [if_neg (by omega)]) (?_ : Ev (fun _ => some true) _)
    have e : risesIn lo hi (xs.drop (j - 1)) = true := by
      have hl : (xs.drop (j - 1)).length ≤ 1 := by rw [List.length_drop]; omega
      by_cases h0 : j - 1 < xs.length
      · rw [Mine.drop_at xs 0 (j - 1) h0, List.drop_eq_nil_of_le (by omega)]
        rcases ho with ho | ho
        · show (true && !Mine.anyP _ [_]) = true
          rw [Mine.anyP_cons, ho]; rfl
        · omega
      · rw [List.drop_eq_nil_of_le (by omega)]; rfl
    rw [e]; exact Ev.now _
  | succ d ih =>
    intro j hj hd ho
    have hlt : j < xs.length := by omega
    have e1 := Mine.drop_at xs 0 (j - 1) (by omega)
    rw [show j - 1 + 1 = j by omega] at e1
    have e2 := Mine.drop_at xs 0 j hlt
    have ho' : Mine.outB lo hi (xs.getD (j - 1) 0) = false := by rcases ho with h | h; exact h; omega
    have r2 : rd xs ((j : Int) - 1) = xs.getD (j - 1) 0 := by rw [show ((j : Int) - 1) = ((j - 1 : Nat) : Int) by omega, rd_nat]
    have hp : wrap64 ((j : Int) - 1) = (j : Int) - 1 := by unfold wrap64; omega
    have body : ∀ k, spec_l1Rising.l0 (k + 1) xs lo hi xs (xs.length : Int) (j : Int) = if Mine.inB lo hi (xs.getD j 0) = true then (if xs.getD (j - 1) 0 ≥ xs.getD j 0 then some false else spec_l1Rising.l0 k xs lo hi xs (xs.length : Int) ((j + 1 : Nat) : Int)) else some false := by
      intro k
      simp only [spec_l1Rising.l0]
      rw [if_pos (by omega), if_pos (by omega), if_pos (by omega), rd_nat, l1In_f, Option.bind_some, hp, if_pos (by omega : (j : Int) > 0), if_pos (by omega : (0 : Int) ≤ (j : Int) - 1), if_pos (by omega : (j : Int) - 1 < (xs.length : Int)), r2, wrap_next hlt hm]
    have er : risesIn lo hi (xs.drop (j - 1)) = ((decide (xs.getD (j - 1) 0 < xs.getD j 0)) && risesIn lo hi (xs.drop j)) := by
      rw [e1, e2]
      simp only [risesIn, Mine.riseB, Mine.anyP_cons, ho', Bool.false_or]
      cases decide (xs.getD (j - 1) 0 < xs.getD j 0) <;> simp
    by_cases hi1 : Mine.inB lo hi (xs.getD j 0) = true
    · by_cases h : xs.getD (j - 1) 0 ≥ xs.getD j 0
      · refine Ev.step (f := fun _ => some false) (fun k => by rw [body, if_pos hi1, if_pos h]) ?_
        rw [er, decide_eq_false (by omega : ¬ xs.getD (j - 1) 0 < xs.getD j 0), Bool.false_and]; exact Ev.now _
      · refine Ev.step (f := fun k => spec_l1Rising.l0 k xs lo hi xs (xs.length : Int) ((j + 1 : Nat) : Int)) (fun k => by rw [body, if_pos hi1, if_neg h]) ?_
        rw [er, decide_eq_true (by omega : xs.getD (j - 1) 0 < xs.getD j 0), Bool.true_and]
        have := ih (j + 1) (by omega) (by omega) (.inl (by rw [show j + 1 - 1 = j by omega]; unfold Mine.outB; rw [hi1]; rfl))
        rwa [show j + 1 - 1 = j by omega] at this
    · refine Ev.step (f := fun _ => some false) (fun k => by rw [body, if_neg hi1]) ?_
      have : risesIn lo hi (xs.drop j) = false := by
        rw [e2]
        simp only [risesIn, Mine.anyP_cons, Mine.outB, hi1]
        simp
      rw [er, this, Bool.and_false]; exact Ev.now _
theorem l1Rising_ev (xs : List Int) (lo hi : Int) (hm : xs.length ≤ 9223372036854775807) : Ev (fun k => spec_l1Rising.f k xs lo hi) (risesIn lo hi xs) := by
  unfold spec_l1Rising.f
  by_cases h0 : xs.length = 0
  · have : xs = [] := List.eq_nil_of_length_eq_zero h0
    subst this
    exact Ev.step (f := fun _ => some true) (fun k => by simp only [spec_l1Rising.l0]; rw [if_neg (by simp)]) (Ev.now _)
  · have body : ∀ k, spec_l1Rising.l0 (k + 1) xs lo hi xs (xs.length : Int) 0 = if Mine.inB lo hi (xs.getD 0 0) = true then spec_l1Rising.l0 k xs lo hi xs (xs.length : Int) ((1 : Nat) : Int) else some false := by
      intro k
      simp only [spec_l1Rising.l0]
      rw [if_pos (by omega), if_pos (by omega), if_pos (by omega), show rd xs 0 = xs.getD 0 0 from rfl, l1In_f, Option.bind_some, if_neg (by omega : ¬ (0 : Int) > 0), show wrap64 (0 + 1) = ((1 : Nat) : Int) from by unfold wrap64; omega]
    have e0 := Mine.drop_at xs 0 0 (by omega)
    by_cases hi1 : Mine.inB lo hi (xs.getD 0 0) = true
    · refine Ev.step (f := fun k => spec_l1Rising.l0 k xs lo hi xs (xs.length : Int) ((1 : Nat) : Int)) (fun k => by rw [body, if_pos hi1]) ?_
      have := l1Rising_l xs lo hi hm (xs.length - 1) 1 (by omega) rfl (.inl (by unfold Mine.outB; rw [show (1 : Nat) - 1 = 0 from rfl, hi1]; rfl))
      simpa using this
    · refine Ev.step (f := fun _ => some false) (fun k => by rw [body, if_neg hi1]) ?_
      have : risesIn lo hi xs = false := by
        rw [show xs = xs.getD 0 0 :: xs.drop 1 from by simpa using e0]
        simp only [risesIn, Mine.anyP_cons, Mine.outB, hi1]
        simp
      rw [this]; exact Ev.now _

/-- Is a graph good? -/
def goodG (g : List (List Int)) : Bool := decide (g.length ≤ 40) && !Mine.anyP (fun l => !risesIn 0 (wrap64 ((g.length : Int) - 1)) l) g
theorem specGoodGraph_ev (g : List (List Int)) (hm : g.length ≤ 9223372036854775807) (hi : ∀ y ∈ g, y.length ≤ 9223372036854775807) : Ev (fun k => spec_GoodGraph.f k g) (goodG g) := by
  have hl := loop_any (fun k => spec_GoodGraph.l0 k g g (g.length : Int)) g [] (fun l => !risesIn 0 (wrap64 ((g.length : Int) - 1)) l) false (decide (g.length ≤ 40)) (by
    intro i hlt
    have hr := l1Rising_ev (g.getD i []) 0 (wrap64 ((g.length : Int) - 1)) (hi _ (mem_getD [] hlt))
    have body : ∀ k, spec_GoodGraph.l0 (k + 1) g g (g.length : Int) (i : Int) = (spec_l1Rising.f k (g.getD i []) 0 (wrap64 ((g.length : Int) - 1))).bind fun t => if t = true then spec_GoodGraph.l0 k g g (g.length : Int) ((i + 1 : Nat) : Int) else some false := by
      intro k
      simp only [spec_GoodGraph.l0]
      rw [if_pos (by omega), if_pos (by omega), if_pos (by omega), rdLL_nat, wrap_next hlt hm]
    refine ⟨fun hp => Ev.step body (Ev.bind hr ?_), fun hp r h => Ev.step body (Ev.bind hr ?_)⟩
    · simp only [Bool.not_eq_true'] at hp; rw [hp]; exact Ev.now _
    · simp only [Bool.not_eq_false'] at hp; rw [hp]; exact h) (Ev.step (f := fun _ => some (decide (g.length ≤ 40))) (fun k => by simp only [spec_GoodGraph.l0]; rw [if_neg (by omega)]; exact congrArg some (decide_eq_decide.2 (by omega))) (Ev.now _))
  have e : (if Mine.anyP (fun l => !risesIn 0 (wrap64 ((g.length : Int) - 1)) l) g = true then false else decide (g.length ≤ 40)) = goodG g := by
    unfold goodG
    cases Mine.anyP (fun l => !risesIn 0 (wrap64 ((g.length : Int) - 1)) l) g <;> simp
  rw [e] at hl
  exact hl

theorem toIntS_l (xs : List Int) (hm : xs.length ≤ 9223372036854775807) : ∀ (d i : Nat) (acc : List Int), xs.length - i = d → i ≤ xs.length → acc.length = xs.length → acc.take i = xs.take i → Ev (fun k => laws_toIntS.l0 k xs acc (i : Int)) xs := by
  intro d
  induction d with
  | zero =>
    intro i acc hd hi hl ht
    have e : acc = xs := Mine.take_all (i := i) (by omega) hl ht
    exact Ev.step (f := fun _ => some xs) (fun k => by simp only [laws_toIntS.l0]; rw [if_neg (by omega), e]) (Ev.now _)
  | succ d ih =>
    intro i acc hd hi hl ht
    refine Ev.step (f := fun k => laws_toIntS.l0 k xs (acc.set i (xs.getD i 0)) ((i + 1 : Nat) : Int)) (fun k => ?_) (ih (i + 1) _ (by omega) (by omega) (by simpa using hl) (Mine.take_set xs acc 0 i (by omega) hl ht))
    simp only [laws_toIntS.l0]
    rw [if_pos (by omega), if_pos (by omega), if_pos (by omega), wrap_next (n := xs.length) (by omega) hm, rd_nat, Int.toNat_natCast]
/-- A copy of numbers. -/
theorem toIntS_ev (xs : List Int) (hm : xs.length ≤ 1048576) : Ev (fun k => laws_toIntS.f k xs) xs := by
  refine Ev.congr (f := fun k => laws_toIntS.l0 k xs (List.replicate xs.length 0) ((0 : Nat) : Int)) (fun k => ?_) (toIntS_l xs (by omega) _ 0 _ rfl (by omega) (by simp) (by simp))
  unfold laws_toIntS.f
  rw [if_pos (by omega), if_pos (by omega)]
  simp

theorem toIntSS_l (xs : List (List Int)) (hm : xs.length ≤ 9223372036854775807) (hi : ∀ y ∈ xs, y.length ≤ 1048576) : ∀ (d i : Nat) (acc : List (List Int)), xs.length - i = d → i ≤ xs.length → acc.length = xs.length → acc.take i = xs.take i → Ev (fun k => laws_toIntSS.l0 k xs acc (i : Int)) xs := by
  intro d
  induction d with
  | zero =>
    intro i acc hd hi hl ht
    have e : acc = xs := Mine.take_all (i := i) (by omega) hl ht
    exact Ev.step (f := fun _ => some xs) (fun k => by simp only [laws_toIntSS.l0]; rw [if_neg (by omega), e]) (Ev.now _)
  | succ d ih =>
    intro i acc hd hi' hl ht
    refine Ev.step (f := fun k => (laws_toIntS.f k (xs.getD i [])).bind fun t => laws_toIntSS.l0 k xs (acc.set i t) ((i + 1 : Nat) : Int)) (fun k => ?_) (Ev.bind (toIntS_ev _ (hi _ (mem_getD [] (by omega)))) (ih (i + 1) _ (by omega) (by omega) (by simpa using hl) (Mine.take_set xs acc [] i (by omega) hl ht)))
    simp only [laws_toIntSS.l0]
    rw [if_pos (by omega), if_pos (by omega), rdLL_nat]
    simp only [if_pos (show (i : Int) < (acc.length : Int) by omega), wrap_next (show i < xs.length by omega) hm, Int.toNat_natCast]
/-- A copy of rows. -/
theorem toIntSS_ev (xs : List (List Int)) (hm : xs.length ≤ 1048576) (hi : ∀ y ∈ xs, y.length ≤ 1048576) : Ev (fun k => laws_toIntSS.f k xs) xs := by
  refine Ev.congr (f := fun k => laws_toIntSS.l0 k xs (List.replicate xs.length []) ((0 : Nat) : Int)) (fun k => ?_) (toIntSS_l xs (by omega) hi _ 0 _ rfl (by omega) (by simp) (by simp))
  unfold laws_toIntSS.f
  rw [if_pos (by omega), if_pos (by omega)]
  simp

theorem within_f (a b c : Int) : impl_within.f a b c = some (Mine.inB b c a) := by
  unfold impl_within.f Mine.inB
  by_cases h : b ≤ a
  · rw [if_pos h]; simp [h]
  · rw [if_neg h]; simp [h]

theorem implGoodGraph_f (g : List (List Int)) : impl_GoodGraph.f g = some (goodG g) := by
  unfold impl_GoodGraph.f impl_GoodGraph_1_in_c.f
  rw [Mine.anyO_total (q := fun l => !risesIn 0 (wrap64 ((g.length : Int) - 1)) l) (fun x _ => by unfold impl_GoodGraph_1.f impl_areMembers.f risesIn; rw [Option.bind_some])]
  unfold goodG
  by_cases h : g.length ≤ 40
  · rw [if_pos (by omega), Option.bind_some, decide_eq_true h, Bool.true_and]
  · rw [if_neg (by omega), decide_eq_false h, Bool.false_and]

theorem eqIntS_l (xs : List Int) (hm : xs.length ≤ 9223372036854775807) : ∀ (d i : Nat), xs.length - i = d → Ev (fun k => laws_eqIntS.l0 k xs xs (i : Int)) true := by
  intro d
  induction d with
  | zero => intro i hd; exact Ev.step (f := fun _ => some true) (fun k => by simp only [laws_eqIntS.l0]; rw [if_neg (by omega)]) (Ev.now _)
  | succ d ih =>
    intro i hd
    refine Ev.step (f := fun k => laws_eqIntS.l0 k xs xs ((i + 1 : Nat) : Int)) (fun k => ?_) (ih (i + 1) (by omega))
    simp only [laws_eqIntS.l0]
    rw [if_pos (by omega), if_pos (by omega), if_pos (by omega), if_pos trivial, wrap_next (n := xs.length) (by omega) hm]
/-- Numbers are the same as themselves. -/
theorem eqIntS_ev (xs : List Int) (hm : xs.length ≤ 9223372036854775807) : Ev (fun k => laws_eqIntS.f k xs xs) true := by
  refine Ev.congr (f := fun k => laws_eqIntS.l0 k xs xs ((0 : Nat) : Int)) (fun k => ?_) (eqIntS_l xs hm _ 0 rfl)
  unfold laws_eqIntS.f
  rw [if_pos rfl]
  rfl

theorem eqIntSS_l (xs : List (List Int)) (hm : xs.length ≤ 9223372036854775807) (hi : ∀ y ∈ xs, y.length ≤ 9223372036854775807) : ∀ (d i : Nat), xs.length - i = d → Ev (fun k => laws_eqIntSS.l0 k xs xs (i : Int)) true := by
  intro d
  induction d with
  | zero => intro i hd; exact Ev.step (f := fun _ => some true) (fun k => by simp only [laws_eqIntSS.l0]; rw [if_neg (by omega)]) (Ev.now _)
  | succ d ih =>
    intro i hd
    refine Ev.step (f := fun k => (laws_eqIntS.f k (xs.getD i []) (xs.getD i [])).bind fun t => if t = true then laws_eqIntSS.l0 k xs xs ((i + 1 : Nat) : Int) else some false) (fun k => ?_) (Ev.bind (eqIntS_ev _ (hi _ (mem_getD [] (by omega)))) (by simpa using ih (i + 1) (by omega)))
    simp only [laws_eqIntSS.l0]
    rw [if_pos (by omega), if_pos (by omega), if_pos (by omega), rdLL_nat, wrap_next (n := xs.length) (by omega) hm]
/-- Rows are the same as themselves. -/
theorem eqIntSS_ev (xs : List (List Int)) (hm : xs.length ≤ 9223372036854775807) (hi : ∀ y ∈ xs, y.length ≤ 9223372036854775807) : Ev (fun k => laws_eqIntSS.f k xs xs) true := by
  refine Ev.congr (f := fun k => laws_eqIntSS.l0 k xs xs ((0 : Nat) : Int)) (fun k => ?_) (eqIntSS_l xs hm hi _ 0 rfl)
  unfold laws_eqIntSS.f
  rw [if_pos rfl]
  rfl

theorem FnExactGoodGraph : laws_FnExactGoodGraph.Pure := by
  intro g hg
  obtain ⟨hg, hi⟩ := hg
  have hi' : ∀ y ∈ g, y.length ≤ 9223372036854775807 := fun y hy => (hi y hy).1
  rcases szIntSS_or g 1048576 (by omega) (by omega) hg hi' with hz | ⟨b, hb, hz, he⟩
  · exact Ev.rounds (Ev.bind hz (by simpa using Ev.now true))
  · have h2 : ∀ y ∈ g, y.length ≤ 1048576 := fun y hy => by have := sumLen_mem hy; omega
    have ht := toIntSS_ev g (by omega) h2
    refine Ev.rounds (Ev.bind hz ?_)
    simp only [if_neg (show ¬ b < 0 by omega)]
    refine Ev.bind ht (Ev.bind (specGoodGraph_ev g hg hi') (Ev.bind ht (Ev.bind (Ev.const (implGoodGraph_f g)) ?_)))
    simp only [bne_self_eq_false, Bool.false_eq_true, if_false]
    exact Ev.bind ht (Ev.bind (eqIntSS_ev g hg hi') (by simpa using Ev.now true))

end Go.Proofs.Ytghblkjhecoaoaa.Pure
