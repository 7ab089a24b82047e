/- The law FnExactCmdText holds, for every input. -/
import Derived.Test.YtmknjfnhfcljcaaDoorQFnExactCmdTextx4
import Derived.Test.YtmknjfnhfcljcaaDoorMine
namespace Go.Proofs.YtmknjfnhfcljcaaDoor.Pure
open Go.RowKit Go.Proofs.YtmknjfnhfcljcaaDoor.QFnExactCmdText Go.Proofs.YtmknjfnhfcljcaaDoorW.PrintWords Go.Proofs.YtmknjfnhfcljcaaDoorW.PrintLast Go.Proofs.YtmknjfnhfcljcaaDoorW.PrintMore
set_option linter.unusedVariables false
set_option linter.unusedSimpArgs false

theorem wrap_next {i : Nat} {n : Nat} (h : i < n) (hn : n ≤ 9223372036854775807) : wrap64 ((i : Int) + 1) = ((i + 1 : Nat) : Int) := by
  unfold wrap64
  omega
theorem rd_nat (l : List Int) (i : Nat) : rd l (i : Int) = l.getD i 0 := by unfold rd; rw [Int.toNat_natCast]
theorem wrap_small {x : Int} (h0 : -9223372036854775808 ≤ x) (h1 : x ≤ 9223372036854775807) : wrap64 x = x := by unfold wrap64; omega
theorem Ev.const {α : Type} {o : Option α} {a : α} (h : o = some a) : Ev (fun _ => o) a := ⟨0, fun _ _ => h⟩
theorem Ev.map {α β : Type} {g : Nat → Option α} {a : α} (h : Ev g a) (f : α → β) : Ev (fun k => (g k).bind fun t => some (f t)) (f a) := by
  obtain ⟨K, h⟩ := h
  exact ⟨K, fun k hk => by show (g k).bind _ = _; rw [h k hk, Option.bind_some]⟩
/-- A loop over a list's elements that ends at the first hit. -/
theorem loop_any {α ρ : Type} (F : Nat → Int → Option ρ) (xs : List α) (d : α) (p : α → Bool) (hit miss : ρ)
    (hs : ∀ i, i < xs.length → (p (xs.getD i d) = true → Ev (fun k => F k (i : Int)) hit) ∧ (p (xs.getD i d) = false → ∀ r, Ev (fun k => F k ((i + 1 : Nat) : Int)) r → Ev (fun k => F k (i : Int)) r))
    (he : Mine.anyP p xs = false → Ev (fun k => F k (xs.length : Int)) miss) : Ev (fun k => F k 0) (if Mine.anyP p xs = true then hit else miss) := by
  have key : ∀ (n i : Nat), xs.length - i = n → i ≤ xs.length → Mine.anyP p (xs.take i) = false → Ev (fun k => F k (i : Int)) (if Mine.anyP p (xs.drop i) = true then hit else miss) := by
    intro n
    induction n with
    | zero =>
      intro i hn hi hb
      obtain rfl : i = xs.length := by omega
      rw [List.drop_eq_nil_of_le (Nat.le_refl _)]
      rw [List.take_of_length_le (Nat.le_refl _)] at hb
      simpa [Mine.anyP] using he hb
    | succ n ih =>
      intro i hn hi hb
      rw [Mine.drop_at xs d i (by omega), Mine.anyP_cons]
      cases hp : p (xs.getD i d) with
      | true => simpa using (hs i (by omega)).1 hp
      | false =>
        have hb' : Mine.anyP p (xs.take (i + 1)) = false := by
          have e : xs.take (i + 1) = xs.take i ++ [xs.getD i d] := by
            rw [List.take_add_one, List.getD_eq_getElem?_getD, List.getElem?_eq_getElem (show i < xs.length by omega)]; rfl
          rw [e]
          unfold Mine.anyP at hb ⊢
          rw [List.any_append, hb, List.any_cons, hp]
          rfl
        simpa using (hs i (by omega)).2 hp _ (ih (i + 1) (by omega) (by omega) hb')
  simpa using key xs.length 0 (by omega) (by omega) (by simp [Mine.anyP])
/-- What a loop over a list's elements comes to: a state that goes on, or a result. -/
def scan {σ α ρ : Type} (step : α → σ → Sum σ ρ) (fin : σ → ρ) : List α → σ → ρ
  | [], s => fin s
  | x :: xs, s => match step x s with
    | .inl s' => scan step fin xs s'
    | .inr r => r
theorem loop_scan {σ α ρ : Type} (F : Nat → σ → Int → Option ρ) (xs : List α) (d : α) (step : α → σ → Sum σ ρ) (fin : σ → ρ) (P : Nat → σ → Prop)
    (hs : ∀ (i : Nat) (s : σ), i < xs.length → P i s → (∀ s', step (xs.getD i d) s = .inl s' → P (i + 1) s' ∧ ∀ r, Ev (fun k => F k s' ((i + 1 : Nat) : Int)) r → Ev (fun k => F k s (i : Int)) r) ∧ (∀ r, step (xs.getD i d) s = .inr r → Ev (fun k => F k s (i : Int)) r))
    (he : ∀ s, P xs.length s → Ev (fun k => F k s (xs.length : Int)) (fin s)) (s : σ) (h0 : P 0 s) : Ev (fun k => F k s 0) (scan step fin xs s) := by
  have key : ∀ (n i : Nat) (s : σ), xs.length - i = n → i ≤ xs.length → P i s → Ev (fun k => F k s (i : Int)) (scan step fin (xs.drop i) s) := by
    intro n
    induction n with
    | zero =>
      intro i s hn hi hp
      obtain rfl : i = xs.length := by omega
      rw [List.drop_eq_nil_of_le (Nat.le_refl _)]
      exact he s hp
    | succ n ih =>
      intro i s hn hi hp
      rw [Mine.drop_at xs d i (by omega), scan]
      cases hst : step (xs.getD i d) s with
      | inl s' => exact ((hs i s (by omega) hp).1 s' hst).2 _ (ih (i + 1) s' (by omega) (by omega) ((hs i s (by omega) hp).1 s' hst).1)
      | inr r => exact (hs i s (by omega) hp).2 r hst
  simpa using key xs.length 0 s (by omega) (by omega) h0

/-- A number's text. -/
def numB (n : Int) : ByteArray := ⟨(Go.Lib.itoa n).toArray⟩
theorem ba_ext {a b : ByteArray} (h : a.data.toList = b.data.toList) : a = b := by
  cases a; cases b
  simpa using h
theorem ba_append (a b : ByteArray) : (a ++ b).data.toList = a.data.toList ++ b.data.toList := by simp [ByteArray.data_append]
theorem numB_data (n : Int) : (numB n).data.toList = Go.Lib.itoa n := rfl
theorem ba_size (a : ByteArray) : a.size = a.data.toList.length := by obtain ⟨⟨l⟩⟩ := a; rfl
theorem numB_size (n : Int) (h0 : 0 ≤ n) (h1 : n ≤ 9223372036854775807) : (numB n).size ≤ 21 := by
  rw [ba_size, numB_data]
  exact Go.Lib.itoa_length_le n (by omega) h1
theorem l1Num_ev (u : Nat) : u ≤ 9223372036854775800 → Ev (fun k => spec_l1Num.f k (u : Int)) (numB (u : Int)) := by
  induction u using Nat.strongRecOn with
  | _ u ih =>
    intro hu
    by_cases h : u < 10
    · refine Ev.step (f := fun k => some (numB (u : Int))) (fun k => ?_) (Ev.now _)
      rw [spec_l1Num.f, if_pos (show (u : Int) < 10 by omega)]
      congr 1
      refine ba_ext ?_
      rw [numB_data, Go.Lib.itoa_nonneg, Go.Lib.decDigits, dif_pos h, strOfNums_data, wrap_small (by omega) (by omega)]
      simp only [List.map_cons, List.map_nil]
      congr 1
      rw [show ((48 + (u : Int)) % 256).toNat = 48 + u by omega]
    · have h1 := ih (u / 10) (by omega) (by omega)
      have hd : (wrap64 (48 + Int.tmod (u : Int) 10)) % 256 = ((48 + u % 10 : Nat) : Int) := by
        rw [show Int.tmod (u : Int) 10 = ((u % 10 : Nat) : Int) by rw [show (10 : Int) = ((10 : Nat) : Int) from rfl, ← Int.ofNat_tmod], wrap_small (by omega) (by omega)]
        omega
      refine Ev.step (f := fun k => (spec_l1Num.f k ((u / 10 : Nat) : Int)).bind fun t => if t.size + (strOfNums [((48 + u % 10 : Nat) : Int)]).size ≤ 9223372036854775807 then some (t ++ strOfNums [((48 + u % 10 : Nat) : Int)]) else none) (fun k => ?_) ?_
      · rw [spec_l1Num.f, if_neg (show ¬ (u : Int) < 10 by omega), hd, show wrap64 (Int.tdiv (u : Int) 10) = ((u / 10 : Nat) : Int) by rw [show (10 : Int) = ((10 : Nat) : Int) from rfl, ← Int.ofNat_tdiv, wrap_small (by omega) (by omega)]]
        rfl
      · have hs := numB_size ((u / 10 : Nat) : Int) (by omega) (by omega)
        refine Ev.bind h1 (Ev.const ?_)
        rw [if_pos (by rw [strOfNums_size]; simp only [List.length_cons, List.length_nil]; omega)]
        congr 1
        refine ba_ext ?_
        rw [ba_append, numB_data, numB_data, Go.Lib.itoa_nonneg, Go.Lib.itoa_nonneg, strOfNums_data]
        conv => rhs; rw [Go.Lib.decDigits, dif_neg h]
        simp only [List.map_cons, List.map_nil, Int.toNat_natCast]
/-- A number's text, by the reference's own hand. -/
theorem numEv (n : Int) (h0 : 0 ≤ n) (h1 : n ≤ 1000000) : Ev (fun k => spec_l1Num.f k n) (numB n) := by
  obtain ⟨u, rfl⟩ : ∃ u : Nat, n = u := ⟨n.toNat, by omega⟩
  exact l1Num_ev u (by omega)

/-- Numbers with something between. -/
def joinB (sep : ByteArray) (l : List Int) : ByteArray := ⟨(Go.Lib.join (l.map Go.Lib.itoa) sep.data.toList).toArray⟩
theorem joinB_data (sep : ByteArray) (l : List Int) : (joinB sep l).data.toList = Go.Lib.join (l.map Go.Lib.itoa) sep.data.toList := rfl
theorem joinB_le (sep : ByteArray) (l : List Int) (hl : ∀ x ∈ l, 0 ≤ x ∧ x ≤ 1000000) : (joinB sep l).size ≤ l.length * (21 + sep.size) := by
  rw [ba_size, joinB_data, ba_size]
  have h := join_le sep.data.toList 21 (l.map Go.Lib.itoa) (fun x hx => by
    obtain ⟨y, hy, rfl⟩ := List.mem_map.1 hx
    exact Go.Lib.itoa_length_le y (by have := hl y hy; omega) (by have := hl y hy; omega))
  rwa [List.length_map] at h
theorem joinedEv (sep : ByteArray) (l : List Int) (hs : sep.size ≤ 100) (hn : l.length ≤ 1000) (hl : ∀ x ∈ l, 0 ≤ x ∧ x ≤ 1000000) : Ev (fun k => impl_joined.f k sep l) (joinB sep l) := by
  have key : ∀ (n i : Nat) (acc : List ByteArray), l.length - i = n → i ≤ l.length → acc = (l.take i).map numB → Ev (fun k => impl_joined.l0 k sep acc l (l.length : Int) (i : Int)) (joinB sep l) := by
    intro n
    induction n with
    | zero =>
      intro i acc hi hi2 ha
      obtain rfl : i = l.length := by omega
      rw [List.take_of_length_le (Nat.le_refl _)] at ha
      have hm : acc.map (·.data.toList) = l.map Go.Lib.itoa := by
        rw [ha, List.map_map]
        exact List.map_congr_left (fun x _ => numB_data x)
      have hle := joinB_le sep l hl
      have hle2 : l.length * (21 + sep.size) ≤ 1000 * 121 := Nat.mul_le_mul hn (by omega)
      rw [ba_size, joinB_data] at hle
      refine Ev.step (f := fun k => (strings_Join.f acc sep).bind fun t => some t) (fun k => by rw [impl_joined.l0, if_neg (by omega)]) ?_
      unfold strings_Join.f
      rw [hm, if_pos ⟨by rw [ha, List.length_map]; omega, by omega⟩]
      exact Ev.now _
    | succ n ih =>
      intro i acc hi hi2 ha
      have hil : i < l.length := by omega
      have hx := hl (l.getD i 0) (by rw [List.getD_eq_getElem?_getD, List.getElem?_eq_getElem hil]; exact List.getElem_mem hil)
      refine Ev.step (f := fun k => impl_joined.l0 k sep (acc ++ [numB (l.getD i 0)]) l (l.length : Int) ((i + 1 : Nat) : Int)) (fun k => ?_) (ih (i + 1) _ (by omega) (by omega) ?_)
      · rw [impl_joined.l0, if_pos (by omega), if_pos (by omega), if_pos (by omega), rd_nat]
        unfold strconv_Itoa.f
        rw [if_pos (by omega), Option.bind_some, if_pos (by rw [ha, List.length_map, List.length_take]; omega), wrap_next hil (by omega)]
        rfl
      · rw [ha, List.take_add_one, List.map_append, List.getD_eq_getElem?_getD, List.getElem?_eq_getElem hil]
        rfl
  have h := key l.length 0 [] (by omega) (by omega) (by simp)
  unfold impl_joined.f
  exact h

theorem within_f (a b c : Int) : impl_within.f a b c = some (Mine.inB b c a) := by
  unfold impl_within.f Mine.inB
  by_cases h : b ≤ a
  · rw [if_pos h]; simp [h]
  · rw [if_neg h]; simp [h]

theorem implGoodCmd (k i f t a : Int) : impl_GoodCmd.f k i f t a = some (Mine.goodCmdB k i f t a) := by
  unfold impl_GoodCmd.f impl_isAccount.f Mine.goodCmdB
  simp only [within_f, Option.bind_some]
  by_cases h0 : k = 0
  · simp [h0]
  · rw [if_neg h0, if_neg h0]
    by_cases h1 : k = 1
    · rw [if_pos h1, if_pos h1]
      by_cases hft : f = t
      · cases Mine.inB 1 999 i <;> cases Mine.inB 0 3 f <;> cases Mine.inB 0 3 t <;> simp [hft]
      · cases Mine.inB 1 999 i <;> cases Mine.inB 0 3 f <;> cases Mine.inB 0 3 t <;> cases Mine.inB 1 1000 a <;> simp [hft]
    · rw [if_neg h1, if_neg h1]
      by_cases h2 : k = 2
      · rw [if_pos h2, if_pos h2]
        by_cases ht : t = 0
        · cases Mine.inB 1 999 i <;> cases Mine.inB 0 3 f <;> simp [ht]
        · cases Mine.inB 1 999 i <;> cases Mine.inB 0 3 f <;> simp [ht]
      · rw [if_neg h2, if_neg h2]

theorem l1In_f (a b c : Int) : spec_l1In.f a b c = some (Mine.inB b c a) := by
  unfold spec_l1In.f Mine.inB
  by_cases h : a ≥ b
  · rw [if_pos h]; simp [show b ≤ a from h]
  · rw [if_neg h]; simp [show ¬ b ≤ a from h]

theorem l2Account_f (a : Int) : spec_l2Account.f a = some (Mine.inB 0 3 a) := by unfold spec_l2Account.f; rw [l1In_f, Option.bind_some]

theorem specGoodCmd (k i f t a : Int) : spec_GoodCmd.f k i f t a = some (Mine.goodCmdB k i f t a) := by
  unfold spec_GoodCmd.f spec_l2Code.f Mine.goodCmdB
  simp only [l1In_f, l2Account_f, Option.bind_some]
  by_cases h0 : k = 0
  · simp [h0]
  · rw [if_neg h0, if_neg h0]
    by_cases h1 : k = 1
    · rw [if_pos h1, if_pos h1, if_pos h1]
      by_cases hft : f = t
      · cases Mine.inB 1 999 i <;> cases Mine.inB 0 3 f <;> cases Mine.inB 0 3 t <;> simp [hft]
      · cases Mine.inB 1 999 i <;> cases Mine.inB 0 3 f <;> cases Mine.inB 0 3 t <;> cases Mine.inB 1 1000 a <;> simp [hft]
    · rw [if_neg h1, if_neg h1, if_neg h1]
      by_cases h2 : k = 2
      · rw [if_pos h2, if_pos h2]
        by_cases ht : t = 0
        · cases Mine.inB 1 999 i <;> cases Mine.inB 0 3 f <;> simp [ht]
        · cases Mine.inB 1 999 i <;> cases Mine.inB 0 3 f <;> simp [ht]
      · rw [if_neg h2, if_neg h2]

/-- A command's text. -/
def cmdT (k i f t a : Int) : ByteArray :=
  if k = 1 then ((((((((⟨#[109, 111, 118, 101, 32]⟩ : ByteArray) ++ numB i) ++ (⟨#[32]⟩ : ByteArray)) ++ numB f) ++ (⟨#[32]⟩ : ByteArray)) ++ numB t) ++ (⟨#[32]⟩ : ByteArray)) ++ numB a)
  else if k = 2 then ((((⟨#[114, 101, 97, 100, 32]⟩ : ByteArray) ++ numB i) ++ (⟨#[32]⟩ : ByteArray)) ++ numB f) else (⟨#[45]⟩ : ByteArray)
theorem good_in {k i f t a : Int} (h : Mine.goodCmdB k i f t a = true) : (0 ≤ i ∧ i ≤ 1000) ∧ (0 ≤ f ∧ f ≤ 1000) ∧ (0 ≤ t ∧ t ≤ 1000) ∧ (0 ≤ a ∧ a ≤ 1000) := by
  unfold Mine.goodCmdB at h
  split at h
  · simp only [Bool.and_eq_true, beq_iff_eq] at h; omega
  · split at h
    · simp only [Bool.and_eq_true, Mine.inB_iff] at h; omega
    · split at h
      · simp only [Bool.and_eq_true, Mine.inB_iff, beq_iff_eq] at h; omega
      · cases h
theorem specText_ev {k i f t a : Int} (h : Mine.goodCmdB k i f t a = true) : Ev (fun n => spec_l2Text.f n k i f t a) (cmdT k i f t a) := by
  obtain ⟨h1, h2, h3, h4⟩ := good_in h
  have s1 := numB_size i (by omega) (by omega)
  have s2 := numB_size f (by omega) (by omega)
  have s3 := numB_size t (by omega) (by omega)
  have s4 := numB_size a (by omega) (by omega)
  have m1 : (⟨#[109, 111, 118, 101, 32]⟩ : ByteArray).size = 5 := rfl
  have m2 : (⟨#[114, 101, 97, 100, 32]⟩ : ByteArray).size = 5 := rfl
  have m3 : (⟨#[32]⟩ : ByteArray).size = 1 := rfl
  unfold spec_l2Text.f cmdT
  by_cases hk : k = 1
  · simp only [if_pos hk, ByteArray.size_append, m1, m3]
    refine Ev.bind (numEv i (by omega) (by omega)) ?_
    simp (disch := omega) only [if_pos]
    refine Ev.bind (numEv f (by omega) (by omega)) ?_
    simp (disch := omega) only [if_pos]
    refine Ev.bind (numEv t (by omega) (by omega)) ?_
    simp (disch := omega) only [if_pos]
    refine Ev.bind (numEv a (by omega) (by omega)) ?_
    simp (disch := omega) only [if_pos]
    exact Ev.now _
  · simp only [if_neg hk]
    by_cases hk2 : k = 2
    · simp only [if_pos hk2, ByteArray.size_append, m2, m3]
      refine Ev.bind (numEv i (by omega) (by omega)) ?_
      simp (disch := omega) only [if_pos]
      refine Ev.bind (numEv f (by omega) (by omega)) ?_
      simp (disch := omega) only [if_pos]
      exact Ev.now _
    · simp only [if_neg hk2]
      exact Ev.now _
theorem implText_ev {k i f t a : Int} (h : Mine.goodCmdB k i f t a = true) : Ev (fun n => impl_cmdText.f n k i f t a) (cmdT k i f t a) := by
  obtain ⟨h1, h2, h3, h4⟩ := good_in h
  unfold impl_cmdText.f impl_spelled.f
  by_cases hk : k = 1
  · have hl : ∀ x ∈ [i, f, t, a], 0 ≤ x ∧ x ≤ 1000000 := by
      intro x hx
      simp only [List.mem_cons, List.mem_nil_iff, or_false] at hx
      omega
    have hz := joinB_le (⟨#[32]⟩ : ByteArray) [i, f, t, a] hl
    have hz2 : (joinB (⟨#[32]⟩ : ByteArray) [i, f, t, a]).size ≤ 1000 := Nat.le_trans hz (show 4 * (21 + 1) ≤ 1000 by decide)
    simp only [if_pos hk]
    refine Ev.bind (Ev.bind (joinedEv _ _ (by decide) (by simp) hl) (Ev.now _)) ?_
    refine Ev.const ?_
    rw [if_pos (by omega)]
    congr 1
    refine ba_ext ?_
    unfold cmdT
    rw [if_pos hk]
    simp only [ba_append, joinB_data, numB_data, List.map_cons, List.map_nil, Go.Lib.join_cons, Go.Lib.joinTail, List.flatten_cons, List.flatten_nil, List.append_assoc, List.append_nil]
  · by_cases hk2 : k = 2
    · have hl : ∀ x ∈ [i, f], 0 ≤ x ∧ x ≤ 1000000 := by
        intro x hx
        simp only [List.mem_cons, List.mem_nil_iff, or_false] at hx
        omega
      have hz := joinB_le (⟨#[32]⟩ : ByteArray) [i, f] hl
      have hz2 : (joinB (⟨#[32]⟩ : ByteArray) [i, f]).size ≤ 1000 := Nat.le_trans hz (show 2 * (21 + 1) ≤ 1000 by decide)
      simp only [if_neg hk, if_pos hk2]
      refine Ev.bind (Ev.bind (joinedEv _ _ (by decide) (by simp) hl) (Ev.now _)) ?_
      refine Ev.const ?_
      rw [if_pos (by omega)]
      congr 1
      refine ba_ext ?_
      unfold cmdT
      rw [if_neg hk, if_pos hk2]
      simp only [ba_append, joinB_data, numB_data, List.map_cons, List.map_nil, Go.Lib.join_cons, Go.Lib.joinTail, List.flatten_cons, List.flatten_nil, List.append_assoc, List.append_nil]
    · simp only [if_neg hk, if_neg hk2]
      unfold cmdT
      rw [if_neg hk, if_neg hk2]
      exact Ev.now _
def cmdTextR (k i f t a : Int) : ByteArray × Bool := if Mine.goodCmdB k i f t a = true then (cmdT k i f t a, true) else ((⟨#[]⟩ : ByteArray), false)
theorem specCmdText_ev (k i f t a : Int) : Ev (fun n => spec_CmdText.f n k i f t a) (cmdTextR k i f t a) := by
  unfold spec_CmdText.f cmdTextR
  simp only [specGoodCmd, Option.bind_some]
  cases hg : Mine.goodCmdB k i f t a with
  | false => simpa using Ev.now _
  | true =>
    simp only [if_true]
    exact Ev.bind (specText_ev hg) (Ev.now _)
theorem implCmdText_ev (k i f t a : Int) : Ev (fun n => impl_CmdText.f n k i f t a) (cmdTextR k i f t a) := by
  unfold impl_CmdText.f cmdTextR
  simp only [implGoodCmd, Option.bind_some]
  cases hg : Mine.goodCmdB k i f t a with
  | false => simpa using Ev.now _
  | true =>
    simp only [if_true]
    exact Ev.bind (implText_ev hg) (Ev.now _)

theorem FnExactCmdText : laws_FnExactCmdText.Pure := by
  rintro ⟨k0, i, f, t, a⟩ _
  refine Ev.rounds (g := fun k => laws_FnExactCmdText.f k k0 i f t a) ?_
  unfold laws_FnExactCmdText.f laws_toCmd.f
  simp only [Option.bind_some]
  refine Ev.bind (specCmdText_ev k0 i f t a) (Ev.bind (implCmdText_ev k0 i f t a) ?_)
  simpa using Ev.now true

end Go.Proofs.YtmknjfnhfcljcaaDoor.Pure
