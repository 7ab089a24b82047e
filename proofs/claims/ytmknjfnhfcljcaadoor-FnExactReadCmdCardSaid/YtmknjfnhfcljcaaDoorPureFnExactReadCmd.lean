/- The law FnExactReadCmd holds, for every input. -/
import Derived.Test.YtmknjfnhfcljcaaDoorQFnExactReadCmdx6
import Derived.Test.YtmknjfnhfcljcaaDoorMine
namespace Go.Proofs.YtmknjfnhfcljcaaDoor.Pure
open Go.RowKit Go.Proofs.YtmknjfnhfcljcaaDoor.QFnExactReadCmd Go.Proofs.YtmknjfnhfcljcaaDoorW.PrintWords Go.Proofs.YtmknjfnhfcljcaaDoorW.PrintLast Go.Proofs.YtmknjfnhfcljcaaDoorW.PrintMore
set_option linter.unusedVariables false
set_option linter.unusedSimpArgs false

theorem wrap_next {i : Nat} {n : Nat} (h : i < n) (hn : n ≤ 9223372036854775807) : wrap64 ((i : Int) + 1) = ((i + 1 : Nat) : Int) := by
  unfold wrap64
  omega
theorem rd_nat (l : List Int) (i : Nat) : rd l (i : Int) = l.getD i 0 := by unfold rd; rw [Int.toNat_natCast]
theorem wrap_small {x : Int} (h0 : -9223372036854775808 ≤ x) (h1 : x ≤ 9223372036854775807) : wrap64 x = x := by unfold wrap64; omega
theorem Ev.const {α : Type} {o : Option α} {a : α} (h : o = some a) : Ev (fun _ => o) a := ⟨0, fun _ _ => h⟩
theorem Ev.map {α β : Type} {g : Nat → Option α} {a : α} (h : Ev g a) (f : α → β) : Ev (fun k => (g k).bind fun t => some (f t)) (f a) := by
  obtain ⟨K, h⟩ := h
  exact ⟨K, fun k hk => by show (g k).bind _ = _; rw [h k hk, Option.bind_some]⟩
/-- A loop over a list's elements that ends at the first hit. -/
theorem loop_any {α ρ : Type} (F : Nat → Int → Option ρ) (xs : List α) (d : α) (p : α → Bool) (hit miss : ρ)
    (hs : ∀ i, i < xs.length → (p (xs.getD i d) = true → Ev (fun k => F k (i : Int)) hit) ∧ (p (xs.getD i d) = false → ∀ r, Ev (fun k => F k ((i + 1 : Nat) : Int)) r → Ev (fun k => F k (i : Int)) r))
    (he : Mine.anyP p xs = false → Ev (fun k => F k (xs.length : Int)) miss) : Ev (fun k => F k 0) (if Mine.anyP p xs = true then hit else miss) := by
  have key : ∀ (n i : Nat), xs.length - i = n → i ≤ xs.length → Mine.anyP p (xs.take i) = false → Ev (fun k => F k (i : Int)) (if Mine.anyP p (xs.drop i) = true then hit else miss) := by
    intro n
    induction n with
    | zero =>
      intro i hn hi hb
      obtain rfl : i = xs.length := by omega
      rw [List.drop_eq_nil_of_le (Nat.le_refl _)]
      rw [List.take_of_length_le (Nat.le_refl _)] at hb
      simpa [Mine.anyP] using he hb
    | succ n ih =>
      intro i hn hi hb
      rw [Mine.drop_at xs d i (by omega), Mine.anyP_cons]
      cases hp : p (xs.getD i d) with
      | true => simpa using (hs i (by omega)).1 hp
      | false =>
        have hb' : Mine.anyP p (xs.take (i + 1)) = false := by
          have e : xs.take (i + 1) = xs.take i ++ [xs.getD i d] := by
            rw [List.take_add_one, List.getD_eq_getElem?_getD, List.getElem?_eq_getElem (show i < xs.length by omega)]; rfl
          rw [e]
          unfold Mine.anyP at hb ⊢
          rw [List.any_append, hb, List.any_cons, hp]
          rfl
        simpa using (hs i (by omega)).2 hp _ (ih (i + 1) (by omega) (by omega) hb')
  simpa using key xs.length 0 (by omega) (by omega) (by simp [Mine.anyP])
/-- What a loop over a list's elements comes to: a state that goes on, or a result. -/
def scan {σ α ρ : Type} (step : α → σ → Sum σ ρ) (fin : σ → ρ) : List α → σ → ρ
  | [], s => fin s
  | x :: xs, s => match step x s with
    | .inl s' => scan step fin xs s'
    | .inr r => r
theorem loop_scan {σ α ρ : Type} (F : Nat → σ → Int → Option ρ) (xs : List α) (d : α) (step : α → σ → Sum σ ρ) (fin : σ → ρ) (P : Nat → σ → Prop)
    (hs : ∀ (i : Nat) (s : σ), i < xs.length → P i s → (∀ s', step (xs.getD i d) s = .inl s' → P (i + 1) s' ∧ ∀ r, Ev (fun k => F k s' ((i + 1 : Nat) : Int)) r → Ev (fun k => F k s (i : Int)) r) ∧ (∀ r, step (xs.getD i d) s = .inr r → Ev (fun k => F k s (i : Int)) r))
    (he : ∀ s, P xs.length s → Ev (fun k => F k s (xs.length : Int)) (fin s)) (s : σ) (h0 : P 0 s) : Ev (fun k => F k s 0) (scan step fin xs s) := by
  have key : ∀ (n i : Nat) (s : σ), xs.length - i = n → i ≤ xs.length → P i s → Ev (fun k => F k s (i : Int)) (scan step fin (xs.drop i) s) := by
    intro n
    induction n with
    | zero =>
      intro i s hn hi hp
      obtain rfl : i = xs.length := by omega
      rw [List.drop_eq_nil_of_le (Nat.le_refl _)]
      exact he s hp
    | succ n ih =>
      intro i s hn hi hp
      rw [Mine.drop_at xs d i (by omega), scan]
      cases hst : step (xs.getD i d) s with
      | inl s' => exact ((hs i s (by omega) hp).1 s' hst).2 _ (ih (i + 1) s' (by omega) (by omega) ((hs i s (by omega) hp).1 s' hst).1)
      | inr r => exact (hs i s (by omega) hp).2 r hst
  simpa using key xs.length 0 s (by omega) (by omega) h0

theorem ba_ext {a b : ByteArray} (h : a.data.toList = b.data.toList) : a = b := by
  cases a; cases b
  simpa using h
theorem ba_append (a b : ByteArray) : (a ++ b).data.toList = a.data.toList ++ b.data.toList := by simp [ByteArray.data_append]
theorem ba_size (a : ByteArray) : a.size = a.data.toList.length := by obtain ⟨⟨l⟩⟩ := a; rfl

/-- Bytes cut at each c; cur: what stands before. -/
def cutL (c : UInt8) : List UInt8 → List UInt8 → List (List UInt8)
  | cur, [] => [cur]
  | cur, x :: r => if x = c then cur :: cutL c [] r else cutL c (cur ++ [x]) r
def mkB (l : List UInt8) : ByteArray := ⟨l.toArray⟩
theorem mkB_data (l : List UInt8) : (mkB l).data.toList = l := rfl
theorem mkB_self (s : ByteArray) : mkB s.data.toList = s := ba_ext rfl
theorem cutL_none (c : UInt8) : ∀ (l cur : List UInt8), (∀ x ∈ l, x ≠ c) → cutL c cur l = [cur ++ l]
  | [], cur, _ => by rw [cutL, List.append_nil]
  | x :: r, cur, h => by
    rw [cutL, if_neg (h x (by simp)), cutL_none c r _ (fun y hy => h y (by simp [hy])), List.append_assoc]
    rfl
theorem cutL_hit (c : UInt8) (b : List UInt8) : ∀ (l cur : List UInt8), (∀ x ∈ l, x ≠ c) → cutL c cur (l ++ c :: b) = (cur ++ l) :: cutL c [] b
  | [], cur, _ => by rw [List.nil_append, cutL, if_pos rfl, List.append_nil]
  | x :: r, cur, h => by
    rw [List.cons_append, cutL, if_neg (h x (by simp)), cutL_hit c b r _ (fun y hy => h y (by simp [hy])), List.append_assoc]
    rfl
theorem cutL_ne (c : UInt8) : ∀ (l cur : List UInt8), cutL c cur l ≠ []
  | [], cur => by rw [cutL]; simp
  | x :: r, cur => by
    rw [cutL]
    split
    · simp
    · exact cutL_ne c r _
theorem bt_data (s : ByteArray) (i : Nat) (h : i < s.size) : bt s (i : Int) = ((s.data.toList.getD i 0).toNat : Int) := by
  have h2 : i < s.data.toList.length := by rw [← ba_size]; exact h
  unfold bt
  rw [Int.toNat_natCast, dif_pos h, List.getD_eq_getElem?_getD, List.getElem?_eq_getElem h2]
  simp only [Option.getD_some, Array.getElem_toList]
  rfl
theorem drop_get (L : List UInt8) (i : Nat) (h : i < L.length) : L.drop i = L.getD i 0 :: L.drop (i + 1) := by
  rw [List.getD_eq_getElem?_getD, List.getElem?_eq_getElem h, Option.getD_some, List.drop_eq_getElem_cons h]
theorem take_get (L : List UInt8) (i : Nat) (h : i < L.length) : L.take (i + 1) = L.take i ++ [L.getD i 0] := by
  rw [List.take_add_one, List.getD_eq_getElem?_getD, List.getElem?_eq_getElem h]
  rfl
/-- The reference's own cutting. -/
theorem l1SplitEv (s : ByteArray) (c : UInt8) (hs : s.size ≤ 1048576) : Ev (fun k => spec_l1Split.f k s ((c.toNat : Nat) : Int)) ((cutL c [] s.data.toList).map mkB) := by
  have key : ∀ (n i f : Nat) (out : List ByteArray), s.size - i = n → f ≤ i → i ≤ s.size → out.length ≤ i →
      Ev (fun k => spec_l1Split.l0 k s ((c.toNat : Nat) : Int) out (f : Int) (i : Int)) (out ++ (cutL c ((s.data.toList.take i).drop f) (s.data.toList.drop i)).map mkB) := by
    intro n
    induction n with
    | zero =>
      intro i f out hi hf hi2 ho
      obtain rfl : i = s.size := by omega
      have h1 : s.data.toList.drop s.size = [] := by rw [ba_size]; exact List.drop_length
      have h2 : s.data.toList.take s.size = s.data.toList := by rw [ba_size]; exact List.take_length
      rw [h1, h2, cutL, List.map_cons, List.map_nil]
      refine Ev.step (f := fun k => some _) (fun k => ?_) (Ev.now _)
      rw [spec_l1Split.l0, if_neg (by omega), if_pos (by omega), if_pos (by omega), if_pos (by omega), Int.toNat_natCast]
      congr 3
      refine ba_ext ?_
      rw [Go.Lib.extract_data, mkB_data, List.take_of_length_le (by rw [List.length_drop, ← ba_size]; omega)]
    | succ n ih =>
      intro i f out hi hf hi2 ho
      have hil : i < s.size := by omega
      have hil2 : i < s.data.toList.length := by rw [← ba_size]; exact hil
      rw [drop_get _ i hil2, cutL]
      have hb := bt_data s i hil
      by_cases hc : s.data.toList.getD i 0 = c
      · rw [if_pos hc]
        have h1 := ih (i + 1) (i + 1) (out ++ [s.extract f i]) (by omega) (by omega) (by omega) (by rw [List.length_append]; simp only [List.length_cons, List.length_nil]; omega)
        rw [show (s.data.toList.take (i + 1)).drop (i + 1) = [] by rw [List.drop_eq_nil_iff, List.length_take]; omega] at h1
        have h2 : mkB ((s.data.toList.take i).drop f) = s.extract f i := by
          refine ba_ext ?_
          rw [Go.Lib.extract_data, mkB_data, List.drop_take]
        rw [List.map_cons, h2, ← List.singleton_append, ← List.append_assoc]
        refine Ev.step (f := fun k => spec_l1Split.l0 k s ((c.toNat : Nat) : Int) (out ++ [s.extract f i]) ((i + 1 : Nat) : Int) ((i + 1 : Nat) : Int)) (fun k => ?_) h1
        rw [spec_l1Split.l0, if_pos (by omega), if_pos (by omega), if_pos (by rw [hb, hc]), if_pos (by omega), if_pos (by omega), if_pos (by omega), if_pos (by omega), Int.toNat_natCast, Int.toNat_natCast, wrap_small (by omega) (by omega)]
        rfl
      · rw [if_neg hc]
        have h1 := ih (i + 1) f out (by omega) (by omega) (by omega) (by omega)
        rw [take_get _ i hil2, List.drop_append_of_le_length (by rw [List.length_take]; omega)] at h1
        refine Ev.step (f := fun k => spec_l1Split.l0 k s ((c.toNat : Nat) : Int) out (f : Int) ((i + 1 : Nat) : Int)) (fun k => ?_) h1
        rw [spec_l1Split.l0, if_pos (by omega), if_pos (by omega), if_neg (fun e => hc ?_), wrap_small (by omega) (by omega)]
        · rfl
        · rw [hb] at e
          exact UInt8.toNat_inj.1 (by omega)
  have h := key s.size 0 0 [] (by omega) (by omega) (by omega) (by simp)
  unfold spec_l1Split.f
  simpa using h
theorem occ_at (L : List UInt8) (c : UInt8) (j : Nat) (h : j < L.length) : Go.Lib.occAt L [c] j = decide (L.getD j 0 = c) := by
  unfold Go.Lib.occAt
  rw [drop_get L j h]
  simp only [List.isPrefixOf, Bool.and_true]
  by_cases hc : L.getD j 0 = c
  · rw [decide_eq_true hc, hc]
    simp
  · rw [decide_eq_false hc]
    simp only [beq_eq_false_iff_ne]
    exact fun e => hc e.symm
/-- Where the first c stands. -/
theorem index_one (L : List UInt8) (c : UInt8) : (Go.Lib.index L [c] = -1 ∧ ∀ x ∈ L, x ≠ c) ∨ ∃ a b : List UInt8, L = a ++ c :: b ∧ (∀ x ∈ a, x ≠ c) ∧ Go.Lib.index L [c] = (a.length : Int) := by
  rcases Go.Lib.index_spec L [c] with ⟨h1, h2⟩ | ⟨i, h1, h2, h3, h4⟩
  · refine Or.inl ⟨h1, fun x hx e => ?_⟩
    obtain ⟨j, hj, rfl⟩ := List.getElem_of_mem hx
    have h3 := h2 j (by omega)
    rw [occ_at L c j hj, decide_eq_false_iff_not, List.getD_eq_getElem?_getD, List.getElem?_eq_getElem hj] at h3
    exact h3 e
  · have hil : i < L.length := by
      rcases Nat.lt_or_ge i L.length with h | h
      · exact h
      · unfold Go.Lib.occAt at h3
        rw [List.drop_eq_nil_of_le h] at h3
        simp at h3
    rw [occ_at L c i hil, decide_eq_true_eq] at h3
    refine Or.inr ⟨L.take i, L.drop (i + 1), ?_, fun x hx e => ?_, by rw [List.length_take, h1]; omega⟩
    · rw [← h3, ← drop_get L i hil, List.take_append_drop]
    · obtain ⟨j, hj, rfl⟩ := List.getElem_of_mem hx
      rw [List.length_take] at hj
      have h5 := h4 j (by omega)
      rw [occ_at L c j (by omega), decide_eq_false_iff_not, List.getD_eq_getElem?_getD, List.getElem?_eq_getElem (by omega)] at h5
      rw [List.getElem_take] at e
      exact h5 e
/-- The library's cutting is the same. -/
theorem splitB_cut (c : UInt8) : ∀ (n : Nat) (s : ByteArray), s.size ≤ n → Go.Lib.splitB ⟨#[c]⟩ 0 (Go.Lib.countB s ⟨#[c]⟩) s = (cutL c [] s.data.toList).map mkB := by
  have hsz : (⟨#[c]⟩ : ByteArray).size = 1 := rfl
  have hix : ∀ s : ByteArray, Go.Lib.indexB s ⟨#[c]⟩ = Go.Lib.index s.data.toList [c] := fun s => rfl
  intro n
  induction n with
  | zero =>
    intro s hs
    have h0 : s.data.toList = [] := List.length_eq_zero_iff.1 (by rw [← ba_size]; omega)
    have hm : Go.Lib.indexB s ⟨#[c]⟩ = -1 := by rw [hix, h0]; rfl
    rw [Go.Lib.splitB_miss _ _ _ _ hm, h0, cutL, List.map_cons, List.map_nil, ← h0, mkB_self]
  | succ n ih =>
    intro s hs
    rcases index_one s.data.toList c with ⟨h1, h2⟩ | ⟨a, b, h1, h2, h3⟩
    · rw [Go.Lib.splitB_miss _ _ _ _ ((hix s).trans h1), cutL_none c _ _ h2, List.nil_append, List.map_cons, List.map_nil, mkB_self]
    · have hi : Go.Lib.indexB s ⟨#[c]⟩ = (a.length : Int) := (hix s).trans h3
      have hb : (s.extract (a.length + 1) s.size).data.toList = b := by
        rw [Go.Lib.extract_data, ba_size, h1]
        rw [show a ++ c :: b = (a ++ [c]) ++ b by simp, List.drop_append_of_le_length (by simp), List.take_of_length_le (by simp only [List.length_append, List.length_cons, List.length_nil, List.length_drop]; omega)]
        simp
      have hl := congrArg List.length h1
      rw [← ba_size, List.length_append, List.length_cons] at hl
      have hs2 : (s.extract (a.length + 1) s.size).size ≤ n := by rw [ba_size, hb]; omega
      rw [Go.Lib.countB_hit s _ a.length (by rw [hsz]; omega) hi, Nat.add_comm, Go.Lib.splitB_hit _ _ _ _ _ hi, hsz, ih _ hs2, hb]
      conv => rhs; rw [h1, cutL_hit c b a [] h2]
      rw [List.map_cons]
      congr 1
      refine ba_ext ?_
      rw [Go.Lib.extract_from_zero, mkB_data, h1, Nat.add_zero]
      simp
theorem splitEv (s : ByteArray) (c : UInt8) (hs : s.size ≤ 1048576) : strings_Split.f s ⟨#[c]⟩ = some ((cutL c [] s.data.toList).map mkB) := by
  unfold strings_Split.f
  rw [if_pos ⟨by omega, Nat.le_refl 1⟩, splitB_cut c s.size s (Nat.le_refl _)]

theorem l1In_f (a b c : Int) : spec_l1In.f a b c = some (Mine.inB b c a) := by
  unfold spec_l1In.f Mine.inB
  by_cases h : a ≥ b
  · rw [if_pos h]; simp [show b ≤ a from h]
  · rw [if_neg h]; simp [show ¬ b ≤ a from h]

def isDig (x : UInt8) : Bool := decide (48 ≤ x.toNat ∧ x.toNat ≤ 57)
/-- A text's number. -/
def numL (l : List UInt8) : Nat := l.foldl (fun a x => 10 * a + (x.toNat - 48)) 0
/-- Is it a number of at most m digits in its one form? -/
def wordB (m : Nat) (l : List UInt8) : Bool := decide (1 ≤ l.length ∧ l.length ≤ m) && (l.all isDig && !(decide (l.getD 0 0 = 48) && decide (1 < l.length)))
def digR (m : Nat) (l : List UInt8) : Int := if wordB m l = true then (numL l : Int) else -1
theorem numL_snoc (l : List UInt8) (x : UInt8) : numL (l ++ [x]) = 10 * numL l + (x.toNat - 48) := by
  unfold numL
  rw [List.foldl_append]
  rfl
theorem numL_lt (l : List UInt8) : ∀ n, l.length = n → l.all isDig = true → numL l < 10 ^ n := by
  intro n
  induction n generalizing l with
  | zero =>
    intro h _
    obtain rfl := List.length_eq_zero_iff.1 h
    show 0 < 1
    omega
  | succ n ih =>
    intro h hd
    obtain ⟨r, x, rfl⟩ : ∃ r x, l = r ++ [x] := ⟨l.dropLast, l.getLast (by intro e; rw [e] at h; simp at h), (List.dropLast_concat_getLast _).symm⟩
    rw [List.length_append, List.length_cons, List.length_nil] at h
    rw [List.all_append, Bool.and_eq_true] at hd
    have h1 := ih r (by omega) hd.1
    have h2 : isDig x = true := by simpa using hd.2
    unfold isDig at h2
    rw [decide_eq_true_eq] at h2
    rw [numL_snoc, Nat.pow_succ]
    omega
theorem all_take (L : List UInt8) (i : Nat) (h : i < L.length) (h1 : (L.take i).all isDig = true) (h2 : isDig (L.getD i 0) = true) : (L.take (i + 1)).all isDig = true := by
  rw [take_get L i h, List.all_append, h1]
  simpa using h2
theorem not_all (L : List UInt8) (i : Nat) (h : i < L.length) (h2 : isDig (L.getD i 0) = false) : L.all isDig = false := by
  rw [List.all_eq_false]
  refine ⟨L.getD i 0, ?_, by rw [h2]; simp⟩
  rw [List.getD_eq_getElem?_getD, List.getElem?_eq_getElem h]
  exact List.getElem_mem h
theorem wordB_bad {m : Nat} {L : List UInt8} (h : L.all isDig = false) : digR m L = -1 := by unfold digR wordB; rw [h]; simp
/-- A digit more. -/
theorem dig_next {n : Nat} {x : UInt8} (hn : n < 1000000) (hx : isDig x = true) : wrap64 ((wrap64 (10 * (n : Int))) + ((((x.toNat : Nat) : Int) - 48) % 256)) = ((10 * n + (x.toNat - 48) : Nat) : Int) := by
  unfold isDig at hx
  rw [decide_eq_true_eq] at hx
  rw [wrap_small (x := 10 * (n : Int)) (by omega) (by omega), wrap_small (by omega) (by omega)]
  omega
theorem digitsEv (s : ByteArray) (m : Nat) (hm : 1 ≤ m) (hm6 : m ≤ 5) (hs : s.size ≤ 1048576) : Ev (fun k => impl_digits.f k s (m : Int)) (digR m s.data.toList) := by
  have hL : s.size = s.data.toList.length := ba_size s
  have hsL : ∀ i, i < s.size → bt s (i : Int) = ((s.data.toList.getD i 0).toNat : Int) := fun i h => bt_data s i h
  have hnil : s.toList = ([] : List UInt8) ↔ s.data.toList = [] := by rw [ByteArray.toList_eq]
  generalize hLe : s.data.toList = L at hL hsL hnil
  have key : ∀ (n i : Nat), s.size - i = n → i ≤ s.size → i ≤ m → (L.take i).all isDig = true → Ev (fun k => impl_digits.l0 k s (m : Int) ((numL (L.take i) : Nat) : Int) (s.size : Int) (i : Int)) (digR m L) := by
    intro n
    induction n with
    | zero =>
      intro i hi hi2 him hd
      obtain rfl : i = s.size := by omega
      have ht : L.take s.size = L := by rw [hL]; exact List.take_length
      rw [ht] at hd ⊢
      refine Ev.step (f := fun k => some (digR m L)) (fun k => ?_) (Ev.now _)
      rw [impl_digits.l0, if_neg (by omega)]
      by_cases h0 : s.size = 0
      · have hLn : L = [] := List.length_eq_zero_iff.1 (by omega)
        rw [if_pos (hnil.2 hLn)]
        unfold digR wordB
        rw [hLn]
        rfl
      · rw [if_neg (fun e => h0 (by have := hnil.1 e; rw [hL, this]; rfl)), if_pos (show (0 : Int) < (s.size : Int) by omega)]
        have hb0 := hsL 0 (by omega)
        by_cases hz : L.getD 0 0 = 48
        · rw [if_pos (show bt s 0 = 48 by rw [show (0 : Int) = ((0 : Nat) : Int) from rfl, hb0, hz]; rfl)]
          by_cases h1 : 1 < s.size
          · rw [if_pos (show (s.size : Int) > 1 by omega)]
            unfold digR wordB
            rw [decide_eq_true hz, decide_eq_true (show 1 < L.length by omega), hd]
            simp
          · rw [if_neg (show ¬ (s.size : Int) > 1 by omega)]
            unfold digR wordB
            rw [decide_eq_true (show 1 ≤ L.length ∧ L.length ≤ m by omega), decide_eq_false (show ¬ 1 < L.length by omega), hd]
            simp
        · have hz2 : ¬ bt s 0 = 48 := fun e => hz (by
            rw [show (0 : Int) = ((0 : Nat) : Int) from rfl, hb0] at e
            exact UInt8.toNat_inj.1 (by have : (48 : UInt8).toNat = 48 := rfl; omega))
          rw [if_neg hz2]
          unfold digR wordB
          rw [decide_eq_true (show 1 ≤ L.length ∧ L.length ≤ m by omega), decide_eq_false hz, hd]
          simp
    | succ n ih =>
      intro i hi hi2 him hd
      have hil : i < s.size := by omega
      have hb := hsL i hil
      cases hx : isDig (L.getD i 0) with
      | false =>
        rw [wordB_bad (not_all L i (by omega) hx)]
        unfold isDig at hx
        rw [decide_eq_false_iff_not] at hx
        refine Ev.step (f := fun k => some (-1)) (fun k => ?_) (Ev.now _)
        rw [impl_digits.l0, if_pos (by omega), if_pos (by omega), if_pos (by omega), hb]
        by_cases h1 : ((L.getD i 0).toNat : Int) < 48
        · rw [if_pos h1]
        · rw [if_neg h1, if_pos (by omega)]
      | true =>
        have hx2 := hx
        unfold isDig at hx2
        rw [decide_eq_true_eq] at hx2
        by_cases him2 : i < m
        · have hlt := numL_lt (L.take i) i (by rw [List.length_take]; omega) hd
          have hlt2 : 10 ^ i ≤ 10 ^ 5 := Nat.pow_le_pow_right (by omega) (by omega)
          have h1 := ih (i + 1) (by omega) (by omega) (by omega) (all_take L i (by omega) hd hx)
          rw [take_get L i (by omega), numL_snoc] at h1
          refine Ev.step (f := fun k => _) (fun k => ?_) h1
          rw [impl_digits.l0, if_pos (by omega), if_pos (by omega), if_pos (by omega), hb, if_neg (by omega), if_neg (by omega), if_neg (by omega), dig_next (by omega) hx, wrap_small (x := (i : Int) + 1) (by omega) (by omega)]
          rfl
        · have hbad : digR m L = -1 := by
            unfold digR wordB
            rw [decide_eq_false (show ¬ (1 ≤ L.length ∧ L.length ≤ m) by omega)]
            simp
          rw [hbad]
          refine Ev.step (f := fun k => some (-1)) (fun k => ?_) (Ev.now _)
          rw [impl_digits.l0, if_pos (by omega), if_pos (by omega), if_pos (by omega), hb, if_neg (by omega), if_neg (by omega), if_pos (by omega)]
  have h := key s.size 0 (by omega) (by omega) (by omega) (by simp)
  unfold impl_digits.f
  exact h
theorem l1ReadEv (s : ByteArray) : Ev (fun k => spec_l1Read.f k s) (digR 6 s.data.toList) := by
  have hL : s.size = s.data.toList.length := ba_size s
  have hsL : ∀ i, i < s.size → bt s (i : Int) = ((s.data.toList.getD i 0).toNat : Int) := fun i h => bt_data s i h
  generalize hLe : s.data.toList = L at hL hsL
  by_cases hsz : 1 ≤ s.size ∧ s.size ≤ 6
  · by_cases hz : L.getD 0 0 = 48 ∧ 1 < s.size
    · have hbad : digR 6 L = -1 := by
        unfold digR wordB
        rw [decide_eq_true hz.1, decide_eq_true (show 1 < L.length by omega)]
        simp
      rw [hbad]
      refine Ev.congr (f := fun k => spec_l1Read.j0 k s true) (fun k => ?_) (Ev.step (f := fun k => some (-1)) (fun k => by rw [spec_l1Read.j0, if_pos rfl]) (Ev.now _))
      unfold spec_l1Read.f
      rw [l1In_f, Option.bind_some, if_pos (Mine.inB_iff.2 (by omega)), if_pos (by omega), if_pos (show bt s 0 = 48 by rw [show (0 : Int) = ((0 : Nat) : Int) from rfl, hsL 0 (by omega), hz.1]; rfl), decide_eq_true (show (s.size : Int) > 1 by omega)]
    · have key : ∀ (n i : Nat), s.size - i = n → i ≤ s.size → (L.take i).all isDig = true → Ev (fun k => spec_l1Read.l0 k s ((numL (L.take i) : Nat) : Int) (i : Int)) (digR 6 L) := by
        intro n
        induction n with
        | zero =>
          intro i hi hi2 hd
          obtain rfl : i = s.size := by omega
          have ht : L.take s.size = L := by rw [hL]; exact List.take_length
          rw [ht] at hd ⊢
          refine Ev.step (f := fun k => some (digR 6 L)) (fun k => ?_) (Ev.now _)
          rw [spec_l1Read.l0, if_neg (by omega)]
          unfold digR wordB
          rw [decide_eq_true (show 1 ≤ L.length ∧ L.length ≤ 6 by omega), hd]
          by_cases h0 : L.getD 0 0 = 48
          · rw [decide_eq_true h0, decide_eq_false (show ¬ 1 < L.length by intro h; exact hz ⟨h0, by omega⟩)]
            simp
          · rw [decide_eq_false h0]
            simp
        | succ n ih =>
          intro i hi hi2 hd
          have hil : i < s.size := by omega
          have hb := hsL i hil
          cases hx : isDig (L.getD i 0) with
          | false =>
            rw [wordB_bad (not_all L i (by omega) hx)]
            unfold isDig at hx
            rw [decide_eq_false_iff_not] at hx
            refine Ev.step (f := fun k => some (-1)) (fun k => ?_) (Ev.now _)
            rw [spec_l1Read.l0, if_pos (by omega), if_pos (by omega), hb]
            by_cases h1 : ((L.getD i 0).toNat : Int) < 48
            · rw [if_pos h1]
            · rw [if_neg h1, if_pos (by omega)]
          | true =>
            have hx2 := hx
            unfold isDig at hx2
            rw [decide_eq_true_eq] at hx2
            have hlt := numL_lt (L.take i) i (by rw [List.length_take]; omega) hd
            have hlt2 : 10 ^ i ≤ 10 ^ 5 := Nat.pow_le_pow_right (by omega) (by omega)
            have h1 := ih (i + 1) (by omega) (by omega) (all_take L i (by omega) hd hx)
            rw [take_get L i (by omega), numL_snoc] at h1
            refine Ev.step (f := fun k => _) (fun k => ?_) h1
            rw [spec_l1Read.l0, if_pos (by omega), if_pos (by omega), hb, if_neg (by omega), if_neg (by omega), dig_next (by omega) hx, wrap_small (x := (i : Int) + 1) (by omega) (by omega)]
            rfl
      have h := key s.size 0 (by omega) (by omega) (by simp)
      refine Ev.congr (f := fun k => spec_l1Read.j0 k s false) (fun k => ?_) (Ev.step (f := fun k => spec_l1Read.l0 k s 0 0) (fun k => by rw [spec_l1Read.j0, if_neg (by simp)]) h)
      unfold spec_l1Read.f
      rw [l1In_f, Option.bind_some, if_pos (Mine.inB_iff.2 (by omega)), if_pos (by omega)]
      by_cases h0 : L.getD 0 0 = 48
      · rw [if_pos (show bt s 0 = 48 by rw [show (0 : Int) = ((0 : Nat) : Int) from rfl, hsL 0 (by omega), h0]; rfl), decide_eq_false (show ¬ (s.size : Int) > 1 by intro h; exact hz ⟨h0, by omega⟩)]
      · rw [if_neg (fun e => h0 (by
          rw [show (0 : Int) = ((0 : Nat) : Int) from rfl, hsL 0 (by omega)] at e
          exact UInt8.toNat_inj.1 (by have : (48 : UInt8).toNat = 48 := rfl; omega)))]
  · have hbad : digR 6 L = -1 := by
      unfold digR wordB
      rw [decide_eq_false (show ¬ (1 ≤ L.length ∧ L.length ≤ 6) by omega)]
      simp
    rw [hbad]
    refine Ev.congr (f := fun k => spec_l1Read.j0 k s true) (fun k => ?_) (Ev.step (f := fun k => some (-1)) (fun k => by rw [spec_l1Read.j0, if_pos rfl]) (Ev.now _))
    unfold spec_l1Read.f
    rw [l1In_f, Option.bind_some, if_neg (fun e => hsz (by have := Mine.inB_iff.1 e; omega))]
/-- More digits let in: the same for a shorter text. -/
theorem digR_le {m m2 : Nat} (h : m ≤ m2) (l : List UInt8) (hl : l.length ≤ m) : digR m l = digR m2 l := by
  unfold digR wordB
  by_cases h1 : 1 ≤ l.length
  · rw [decide_eq_true (show 1 ≤ l.length ∧ l.length ≤ m by omega), decide_eq_true (show 1 ≤ l.length ∧ l.length ≤ m2 by omega)]
  · rw [decide_eq_false (show ¬ (1 ≤ l.length ∧ l.length ≤ m) by omega), decide_eq_false (show ¬ (1 ≤ l.length ∧ l.length ≤ m2) by omega)]
theorem digR_long {m : Nat} {l : List UInt8} (h : m < l.length) : digR m l = -1 := by
  unfold digR wordB
  rw [decide_eq_false (show ¬ (1 ≤ l.length ∧ l.length ≤ m) by omega)]
  simp
theorem digR_neg {m : Nat} {l : List UInt8} : digR m l < 0 ↔ wordB m l = false := by
  unfold digR
  cases h : wordB m l with
  | true => simp
  | false => simp
theorem digR_pos {m : Nat} {l : List UInt8} (h : wordB m l = true) : digR m l = (numL l : Int) := by unfold digR; rw [if_pos h]

theorem within_f (a b c : Int) : impl_within.f a b c = some (Mine.inB b c a) := by
  unfold impl_within.f Mine.inB
  by_cases h : b ≤ a
  · rw [if_pos h]; simp [h]
  · rw [if_neg h]; simp [h]

theorem cutL_len (c : UInt8) : ∀ (l cur w : List UInt8), w ∈ cutL c cur l → w.length ≤ cur.length + l.length
  | [], cur, w, h => by
    rw [cutL, List.mem_singleton] at h
    subst h
    simp
  | x :: r, cur, w, h => by
    rw [cutL] at h
    split at h
    · rcases List.mem_cons.1 h with rfl | h
      · simp
      · have := cutL_len c r [] w h
        simp only [List.length_cons, List.length_nil] at this ⊢
        omega
    · have := cutL_len c r _ w h
      simp only [List.length_append, List.length_cons, List.length_nil] at this ⊢
      omega
theorem cutL_many (c : UInt8) : ∀ (l cur : List UInt8), (cutL c cur l).length ≤ l.length + 1
  | [], cur => by rw [cutL]; simp
  | x :: r, cur => by
    rw [cutL]
    split
    · have := cutL_many c r []
      simp only [List.length_cons]
      omega
    · have := cutL_many c r (cur ++ [x])
      simp only [List.length_cons]
      omega
theorem mkB_size (l : List UInt8) : (mkB l).size = l.length := by rw [ba_size, mkB_data]
theorem rdB (ws : List (List UInt8)) (i : Nat) (h : i < ws.length) : rdOf ByteArray.empty (ws.map mkB) (i : Int) = mkB (ws.getD i []) := by
  unfold rdOf
  rw [Int.toNat_natCast]
  simp [List.getD_eq_getElem?_getD, h]
theorem getD_mem_ {α : Type} (ws : List α) (d : α) (i : Nat) (h : i < ws.length) : ws.getD i d ∈ ws := by
  rw [List.getD_eq_getElem?_getD, List.getElem?_eq_getElem h]
  exact List.getElem_mem h
theorem take_next {α : Type} (ws : List α) (d : α) (i : Nat) (h : i < ws.length) : ws.take (i + 1) = ws.take i ++ [ws.getD i d] := by
  rw [List.take_add_one, List.getD_eq_getElem?_getD, List.getElem?_eq_getElem h]
  rfl
def numI (w : List UInt8) : Int := (numL w : Int)
/-- The numbers of words, and whether all are such. -/
def numsR (m : Nat) (ws : List (List UInt8)) : List Int × Bool := if ws.all (wordB m) = true then (ws.map numI, true) else ([], false)
theorem numbersEv (ws : List (List UInt8)) (m : Nat) (hm : 1 ≤ m) (hm5 : m ≤ 5) (hw : ∀ w ∈ ws, w.length ≤ 1048576) (hn : ws.length ≤ 1048577) : Ev (fun k => impl_numbers.f k (ws.map mkB) (m : Int)) (numsR m ws) := by
  have key : ∀ (n i : Nat), ws.length - i = n → i ≤ ws.length → (ws.take i).all (wordB m) = true → Ev (fun k => impl_numbers.l0 k (m : Int) ((ws.take i).map numI) (ws.map mkB) ((ws.map mkB).length : Int) (i : Int)) (numsR m ws) := by
    intro n
    induction n with
    | zero =>
      intro i hi hi2 hd
      obtain rfl : i = ws.length := by omega
      rw [List.take_length] at hd ⊢
      refine Ev.step (f := fun k => some (numsR m ws)) (fun k => ?_) (Ev.now _)
      rw [impl_numbers.l0, if_neg (by rw [List.length_map]; omega)]
      unfold numsR
      rw [if_pos hd]
    | succ n ih =>
      intro i hi hi2 hd
      have hil : i < ws.length := by omega
      have hdg := digitsEv (mkB (ws.getD i [])) m hm hm5 (by rw [mkB_size]; exact hw _ (getD_mem_ ws [] i hil))
      rw [mkB_data] at hdg
      refine Ev.step (f := fun k => (impl_digits.f k (mkB (ws.getD i [])) (m : Int)).bind fun t => if t < 0 then some ([], false) else if ((ws.take i).map numI).length < 17592186044416 then impl_numbers.l0 k (m : Int) ((ws.take i).map numI ++ [t]) (ws.map mkB) ((ws.map mkB).length : Int) ((i + 1 : Nat) : Int) else none) (fun k => ?_) (Ev.bind hdg ?_)
      · rw [impl_numbers.l0, if_pos (by rw [List.length_map]; omega), if_pos (by omega), if_pos (by rw [List.length_map]; omega), rdB ws i hil, wrap_small (by omega) (by omega)]
        rfl
      · cases hb : wordB m (ws.getD i []) with
        | false =>
          have hneg : digR m (ws.getD i []) < 0 := digR_neg.2 hb
          have hall : ws.all (wordB m) = false := by
            rw [List.all_eq_false]
            exact ⟨_, getD_mem_ ws [] i hil, by rw [hb]; simp⟩
          unfold numsR
          rw [hall]
          simp only [if_pos hneg]
          exact Ev.now _
        | true =>
          have hpos := digR_pos hb
          rw [hpos]
          simp only [if_neg (show ¬ ((numL (ws.getD i []) : Nat) : Int) < 0 by omega), if_pos (show ((ws.take i).map numI).length < 17592186044416 by rw [List.length_map, List.length_take]; omega)]
          have h1 := ih (i + 1) (by omega) (by omega) (by rw [take_next ws [] i hil, List.all_append, hd]; simpa using hb)
          rw [take_next ws [] i hil, List.map_append] at h1
          exact h1
  have h := key ws.length 0 (by omega) (by omega) (by simp)
  unfold impl_numbers.f
  exact h

theorem implGoodCmd (k i f t a : Int) : impl_GoodCmd.f k i f t a = some (Mine.goodCmdB k i f t a) := by
  unfold impl_GoodCmd.f impl_isAccount.f Mine.goodCmdB
  simp only [within_f, Option.bind_some]
  by_cases h0 : k = 0
  · simp [h0]
  · rw [if_neg h0, if_neg h0]
    by_cases h1 : k = 1
    · rw [if_pos h1, if_pos h1]
      by_cases hft : f = t
      · cases Mine.inB 1 999 i <;> cases Mine.inB 0 3 f <;> cases Mine.inB 0 3 t <;> simp [hft]
      · cases Mine.inB 1 999 i <;> cases Mine.inB 0 3 f <;> cases Mine.inB 0 3 t <;> cases Mine.inB 1 1000 a <;> simp [hft]
    · rw [if_neg h1, if_neg h1]
      by_cases h2 : k = 2
      · rw [if_pos h2, if_pos h2]
        by_cases ht : t = 0
        · cases Mine.inB 1 999 i <;> cases Mine.inB 0 3 f <;> simp [ht]
        · cases Mine.inB 1 999 i <;> cases Mine.inB 0 3 f <;> simp [ht]
      · rw [if_neg h2, if_neg h2]

theorem l2Account_f (a : Int) : spec_l2Account.f a = some (Mine.inB 0 3 a) := by unfold spec_l2Account.f; rw [l1In_f, Option.bind_some]

def codeR (k i f t a : Int) : Int :=
  if Mine.inB 0 3 f = true then (if k = 1 then (if Mine.inB 0 3 t = true then (if f = t then 5 else if Mine.inB 1 999 i = true then (if Mine.inB 1 1000 a = true then 0 else 6) else 6) else 4) else (if Mine.inB 1 999 i = true then 0 else 6)) else 4
theorem l2Code_f (k i f t a : Int) : spec_l2Code.f k i f t a = some (codeR k i f t a) := by
  unfold spec_l2Code.f codeR
  simp only [l1In_f, l2Account_f, Option.bind_some]
  cases Mine.inB 0 3 f with
  | false => rfl
  | true =>
    by_cases h1 : k = 1
    · simp only [if_pos h1, if_true]
      cases Mine.inB 0 3 t with
      | false => rfl
      | true =>
        by_cases hft : f = t
        · simp only [if_pos hft, if_true]
        · simp only [if_neg hft, if_true]
          cases Mine.inB 1 999 i <;> cases Mine.inB 1 1000 a <;> rfl
    · simp only [if_neg h1, if_true]
      cases Mine.inB 1 999 i <;> rfl
abbrev RC : Type := Int × Int × Int × Int × Int × Int × Bool
def finR (k i f t a : Int) : RC := if codeR k i f t a > 0 then (0, 0, 0, 0, 0, codeR k i f t a, false) else (k, i, f, t, a, 0, true)
def badR (c : Int) : RC := (0, 0, 0, 0, 0, c, false)
def moveL : List UInt8 := [109, 111, 118, 101]
def readL : List UInt8 := [114, 101, 97, 100]
def dashL : List UInt8 := [45]
/-- A command read out of words. -/
def readR (w0 : List UInt8) (r : List (List UInt8)) : RC :=
  if w0 = moveL then (if r.length = 4 then (if r.all (wordB 4) = true then finR 1 (numI (r.getD 0 [])) (numI (r.getD 1 [])) (numI (r.getD 2 [])) (numI (r.getD 3 [])) else badR 3) else badR 2)
  else if w0 = readL then (if r.length = 2 then (if r.all (wordB 4) = true then finR 2 (numI (r.getD 0 [])) (numI (r.getD 1 [])) 0 0 else badR 3) else badR 2)
  else if w0 = dashL then (if r.length = 0 then (0, 0, 0, 0, 0, 0, true) else badR 2) else badR 1
theorem isAccount_f (x : Int) : impl_isAccount.f x = some (Mine.inB 0 3 x) := by unfold impl_isAccount.f; simp only [within_f, Option.bind_some]
theorem j2_true (x i f t a b : Int) : Ev (fun n => impl_ReadCmd.j2 n true x i f t a) (badR 5) := Ev.step (f := fun _ => some (badR 5)) (fun k => by rw [impl_ReadCmd.j2, if_pos rfl]; rfl) (Ev.now _)
theorem j2_false (x i f t a : Int) : Ev (fun n => impl_ReadCmd.j2 n false x i f t a) (if Mine.goodCmdB x i f t a = true then (x, i, f, t, a, 0, true) else badR 6) := by
  refine Ev.step (f := fun _ => some _) (fun k => ?_) (Ev.now _)
  rw [impl_ReadCmd.j2, if_neg (by simp), implGoodCmd, Option.bind_some]
  cases Mine.goodCmdB x i f t a <;> rfl
theorem implFin (kd i f t a : Int) (h : kd = 1 ∨ (kd = 2 ∧ t = 0 ∧ a = 0)) : Ev (fun n => impl_ReadCmd.j0 n kd kd i f t a) (finR kd i f t a) := by
  refine Ev.step (f := fun n => if Mine.inB 0 3 f = true then impl_ReadCmd.j1 n kd (!(Mine.inB 0 3 t)) kd i f t a else impl_ReadCmd.j1 n kd true kd i f t a) (fun k => ?_) ?_
  · rw [impl_ReadCmd.j0, isAccount_f, isAccount_f, Option.bind_some]
    cases Mine.inB 0 3 f <;> rfl
  have h4 : Ev (fun n => impl_ReadCmd.j1 n kd true kd i f t a) (badR 4) := Ev.step (f := fun _ => some (badR 4)) (fun k => by rw [impl_ReadCmd.j1, if_pos rfl]; rfl) (Ev.now _)
  cases hf : Mine.inB 0 3 f with
  | false =>
    have hc : codeR kd i f t a = 4 := by unfold codeR; rw [hf]; rfl
    unfold finR
    rw [hc]
    exact h4
  | true =>
    simp only [if_true]
    rcases h with rfl | ⟨rfl, rfl, rfl⟩
    · cases ht : Mine.inB 0 3 t with
      | false =>
        have hc : codeR 1 i f t a = 4 := by unfold codeR; rw [hf, ht]; rfl
        unfold finR
        rw [hc]
        exact h4
      | true =>
        refine Ev.step (f := fun n => impl_ReadCmd.j2 n (f == t) 1 i f t a) (fun k => by rw [impl_ReadCmd.j1, if_neg (by simp), if_pos rfl]) ?_
        by_cases hft : f = t
        · have hc : codeR 1 i f t a = 5 := by unfold codeR; rw [hf, ht, if_pos hft]; rfl
          unfold finR
          rw [hc, beq_iff_eq.2 hft]
          exact j2_true 1 i f t a 0
        · rw [beq_eq_false_iff_ne.2 hft]
          have hz := j2_false 1 i f t a
          have hg : Mine.goodCmdB 1 i f t a = (Mine.inB 1 999 i && Mine.inB 1 1000 a) := by
            unfold Mine.goodCmdB
            rw [if_neg (by omega), if_pos rfl, hf, ht, beq_eq_false_iff_ne.2 hft]
            simp
          rw [hg] at hz
          unfold finR codeR
          rw [hf, ht]
          simp only [if_true, if_neg hft]
          cases h1 : Mine.inB 1 999 i <;> cases h2 : Mine.inB 1 1000 a <;> rw [h1, h2] at hz <;> exact hz
    · rw [show Mine.inB 0 3 0 = true from rfl]
      refine Ev.step (f := fun n => impl_ReadCmd.j2 n false 2 i f 0 0) (fun k => by rw [impl_ReadCmd.j1, if_neg (by simp), if_neg (by omega)]) ?_
      have hz := j2_false 2 i f 0 0
      have hg : Mine.goodCmdB 2 i f 0 0 = Mine.inB 1 999 i := by
        unfold Mine.goodCmdB
        rw [if_neg (by omega), if_neg (by omega), if_pos rfl, hf]
        simp
      rw [hg] at hz
      unfold finR codeR
      rw [hf]
      simp only [if_true, if_neg (show ¬ (2 : Int) = 1 by omega)]
      cases h1 : Mine.inB 1 999 i <;> rw [h1] at hz <;> exact hz
/-- The reference's loop: a word more. -/
theorem specStep (kd : Int) (xs : List Int) (hx : xs.length = 4) (ws : List (List UInt8)) (i : Nat) (hi : i < ws.length) (hi4 : i < 4) (hl : ws.length ≤ 4) :
    (wordB 4 (ws.getD i []) = true → ∀ r, Ev (fun k => spec_ReadCmd.l0 k kd (xs.set i (numI (ws.getD i []))) (ws.map mkB) ((ws.map mkB).length : Int) ((i + 1 : Nat) : Int)) r → Ev (fun k => spec_ReadCmd.l0 k kd xs (ws.map mkB) ((ws.map mkB).length : Int) (i : Int)) r) ∧
    (wordB 4 (ws.getD i []) = false → Ev (fun k => spec_ReadCmd.l0 k kd xs (ws.map mkB) ((ws.map mkB).length : Int) (i : Int)) (badR 3)) := by
  have hr := l1ReadEv (mkB (ws.getD i []))
  rw [mkB_data] at hr
  have hstep : ∀ (r : RC), Ev (fun n => if ((ws.getD i []).length : Int) > 4 then some (badR 3) else if digR 6 (ws.getD i []) < 0 then some (badR 3) else spec_ReadCmd.l0 n kd (xs.set i (digR 6 (ws.getD i []))) (ws.map mkB) ((ws.map mkB).length : Int) ((i + 1 : Nat) : Int)) r →
      Ev (fun k => spec_ReadCmd.l0 k kd xs (ws.map mkB) ((ws.map mkB).length : Int) (i : Int)) r := by
    intro r h
    refine Ev.step (f := fun k => (spec_l1Read.f k (mkB (ws.getD i []))).bind fun t => if ((ws.getD i []).length : Int) > 4 then some (badR 3) else if t < 0 then some (badR 3) else spec_ReadCmd.l0 k kd (xs.set i t) (ws.map mkB) ((ws.map mkB).length : Int) ((i + 1 : Nat) : Int)) (fun k => ?_) (Ev.bind hr h)
    rw [spec_ReadCmd.l0, if_pos (by rw [List.length_map]; omega), if_pos (by omega), if_pos (by rw [List.length_map]; omega), rdB ws i hi, wrap_small (by omega) (by omega), mkB_size, Int.toNat_natCast]
    congr 1
    funext t
    have hset : (xs.set i t).getD i 0 = t := by
      rw [List.getD_eq_getElem?_getD, List.getElem?_set_self (by omega)]
      rfl
    rw [if_pos (by omega), Option.bind_some, rd_nat, hset]
    rfl
  refine ⟨fun hb r h => hstep r ?_, fun hb => hstep _ ?_⟩
  · have hlen : (ws.getD i []).length ≤ 4 := by
      unfold wordB at hb
      simp only [Bool.and_eq_true, decide_eq_true_eq] at hb
      exact hb.1.2
    have hd : digR 6 (ws.getD i []) = numI (ws.getD i []) := (digR_le (by omega) _ hlen).symm.trans (digR_pos hb)
    have hp : ¬ numI (ws.getD i []) < 0 := by unfold numI; omega
    rw [hd]
    simp only [if_neg (show ¬ ((ws.getD i []).length : Int) > 4 by omega), if_neg hp]
    exact h
  · by_cases hlen : (ws.getD i []).length ≤ 4
    · have hd : digR 6 (ws.getD i []) < 0 := by rw [← digR_le (show 4 ≤ 6 by omega) _ hlen]; exact digR_neg.2 hb
      simp only [if_neg (show ¬ ((ws.getD i []).length : Int) > 4 by omega), if_pos hd]
      exact Ev.now _
    · simp only [if_pos (show ((ws.getD i []).length : Int) > 4 by omega)]
      exact Ev.now _
theorem specEnd (kd a b c d : Int) (ws : List (List UInt8)) (i : Nat) (hi : i = ws.length) : Ev (fun k => spec_ReadCmd.l0 k kd [a, b, c, d] (ws.map mkB) ((ws.map mkB).length : Int) (i : Int)) (if kd = 0 then (kd, a, b, c, d, 0, true) else finR kd a b c d) := by
  refine Ev.step (f := fun k => some _) (fun k => ?_) (Ev.now _)
  rw [spec_ReadCmd.l0, if_neg (by rw [List.length_map]; omega), if_pos (by simp), if_pos (by simp), if_pos (by simp), if_pos (by simp)]
  show (if kd = 0 then some (kd, a, b, c, d, 0, true) else (spec_l2Code.f kd a b c d).bind fun t => if t > 0 then some (0, 0, 0, 0, 0, t, false) else some (kd, a, b, c, d, 0, true)) = _
  by_cases h0 : kd = 0
  · rw [if_pos h0, if_pos h0]
  · rw [if_neg h0, if_neg h0, l2Code_f, Option.bind_some]
    unfold finR
    split <;> rfl
theorem specJ0 (w0 : List UInt8) (r : List (List UInt8)) (many kd : Int) (res : RC) (h : (r.length : Int) + 1 = many → Ev (fun k => spec_ReadCmd.l0 k kd [0, 0, 0, 0] (r.map mkB) ((r.map mkB).length : Int) 0) res) (h2 : ¬ (r.length : Int) + 1 = many → res = badR 2) :
    Ev (fun k => spec_ReadCmd.j0 k ((w0 :: r).map mkB) many kd) res := by
  by_cases hl : (r.length : Int) + 1 = many
  · refine Ev.step (f := fun k => spec_ReadCmd.l0 k kd [0, 0, 0, 0] (r.map mkB) ((r.map mkB).length : Int) 0) (fun k => ?_) (h hl)
    rw [spec_ReadCmd.j0, if_pos (by rw [List.length_map, List.length_cons]; omega), if_pos (by omega), if_pos (by rw [List.length_map, List.length_cons]; omega), Option.bind_some]
    rfl
  · rw [h2 hl]
    refine Ev.step (f := fun k => some (badR 2)) (fun k => ?_) (Ev.now _)
    rw [spec_ReadCmd.j0, if_neg (by rw [List.length_map, List.length_cons]; omega)]
    rfl
theorem specRead_ev (s : ByteArray) (w0 : List UInt8) (r : List (List UInt8)) (hs : s.size ≤ 1048576) (hw : cutL 32 [] s.data.toList = w0 :: r) : Ev (fun k => spec_ReadCmd.f k s) (readR w0 r) := by
  have hsp := l1SplitEv s 32 hs
  rw [hw] at hsp
  unfold spec_ReadCmd.f
  refine Ev.bind hsp ?_
  simp only [if_pos (show (0 : Int) < (((w0 :: r).map mkB).length : Int) by rw [List.length_map, List.length_cons]; omega)]
  have h0 : (rdOf ByteArray.empty ((w0 :: r).map mkB) 0).toList = w0 := by
    rw [show (0 : Int) = ((0 : Nat) : Int) from rfl, rdB _ 0 (by simp), ByteArray.toList_eq]
    rfl
  rw [h0]
  unfold readR
  by_cases h1 : w0 = moveL
  · simp only [if_pos h1, if_pos (show w0 = ([109, 111, 118, 101] : List UInt8) from h1)]
    refine specJ0 w0 r 5 1 _ (fun hl => ?_) (fun hl => by rw [if_neg (by omega)])
    have h4 : r.length = 4 := by omega
    rw [if_pos h4]
    obtain ⟨w1, w2, w3, w4, rfl⟩ : ∃ a b c d, r = [a, b, c, d] := by
      match r, h4 with
      | [a, b, c, d], _ => exact ⟨a, b, c, d, rfl⟩
    have s0 := specStep 1 [0, 0, 0, 0] rfl [w1, w2, w3, w4] 0 (by simp) (by omega) (by simp)
    cases hb1 : wordB 4 w1 with
    | false => rw [if_neg (by simp [hb1])]; exact s0.2 hb1
    | true =>
      refine s0.1 hb1 _ ?_
      have s1 := specStep 1 [numI w1, 0, 0, 0] rfl [w1, w2, w3, w4] 1 (by simp) (by omega) (by simp)
      cases hb2 : wordB 4 w2 with
      | false => rw [if_neg (by simp [hb2])]; exact s1.2 hb2
      | true =>
        refine s1.1 hb2 _ ?_
        have s2 := specStep 1 [numI w1, numI w2, 0, 0] rfl [w1, w2, w3, w4] 2 (by simp) (by omega) (by simp)
        cases hb3 : wordB 4 w3 with
        | false => rw [if_neg (by simp [hb3])]; exact s2.2 hb3
        | true =>
          refine s2.1 hb3 _ ?_
          have s3 := specStep 1 [numI w1, numI w2, numI w3, 0] rfl [w1, w2, w3, w4] 3 (by simp) (by omega) (by simp)
          cases hb4 : wordB 4 w4 with
          | false => rw [if_neg (by simp [hb4])]; exact s3.2 hb4
          | true =>
            refine s3.1 hb4 _ ?_
            rw [if_pos (by simp [hb1, hb2, hb3, hb4])]
            exact specEnd 1 (numI w1) (numI w2) (numI w3) (numI w4) [w1, w2, w3, w4] 4 rfl
  · simp only [if_neg h1, if_neg (show ¬ w0 = ([109, 111, 118, 101] : List UInt8) from h1)]
    by_cases h2 : w0 = readL
    · simp only [if_pos h2, if_pos (show w0 = ([114, 101, 97, 100] : List UInt8) from h2)]
      refine specJ0 w0 r 3 2 _ (fun hl => ?_) (fun hl => by rw [if_neg (by omega)])
      have h4 : r.length = 2 := by omega
      rw [if_pos h4]
      obtain ⟨w1, w2, rfl⟩ : ∃ a b, r = [a, b] := by
        match r, h4 with
        | [a, b], _ => exact ⟨a, b, rfl⟩
      have s0 := specStep 2 [0, 0, 0, 0] rfl [w1, w2] 0 (by simp) (by omega) (by simp)
      cases hb1 : wordB 4 w1 with
      | false => rw [if_neg (by simp [hb1])]; exact s0.2 hb1
      | true =>
        refine s0.1 hb1 _ ?_
        have s1 := specStep 2 [numI w1, 0, 0, 0] rfl [w1, w2] 1 (by simp) (by omega) (by simp)
        cases hb2 : wordB 4 w2 with
        | false => rw [if_neg (by simp [hb2])]; exact s1.2 hb2
        | true =>
          refine s1.1 hb2 _ ?_
          rw [if_pos (by simp [hb1, hb2])]
          exact specEnd 2 (numI w1) (numI w2) 0 0 [w1, w2] 2 rfl
    · simp only [if_neg h2, if_neg (show ¬ w0 = ([114, 101, 97, 100] : List UInt8) from h2)]
      by_cases h3 : w0 = dashL
      · simp only [if_pos h3, if_pos (show w0 = ([45] : List UInt8) from h3)]
        refine specJ0 w0 r 1 0 _ (fun hl => ?_) (fun hl => by rw [if_neg (by omega)])
        have h4 : r.length = 0 := by omega
        rw [if_pos h4]
        obtain rfl : r = [] := List.length_eq_zero_iff.1 h4
        exact specEnd 0 0 0 0 0 [] 0 rfl
      · simp only [if_neg h3, if_neg (show ¬ w0 = ([45] : List UInt8) from h3)]
        exact Ev.now _
def kinds3 : List ByteArray := [(⟨#[45]⟩ : ByteArray), (⟨#[109, 111, 118, 101]⟩ : ByteArray), (⟨#[114, 101, 97, 100]⟩ : ByteArray)]
def kindR (w0 : List UInt8) : Int := if w0 = dashL then 0 else if w0 = moveL then 1 else if w0 = readL then 2 else -1
theorem kindEv (w0 : List UInt8) : Ev (fun k => slices_Index_string_string.f k kinds3 (mkB w0)) (kindR w0) := by
  have ht : (mkB w0).toList = w0 := by rw [ByteArray.toList_eq]; rfl
  have e0 : (rdOf ByteArray.empty kinds3 0).toList = dashL := by rw [ByteArray.toList_eq]; rfl
  have e1 : (rdOf ByteArray.empty kinds3 1).toList = moveL := by rw [ByteArray.toList_eq]; rfl
  have e2 : (rdOf ByteArray.empty kinds3 2).toList = readL := by rw [ByteArray.toList_eq]; rfl
  have hl : (kinds3.length : Int) = 3 := rfl
  have s3 : Ev (fun k => slices_Index_string_string.l0 k kinds3 (mkB w0) 3 3) (-1) := Ev.step (f := fun _ => some (-1)) (fun k => by rw [slices_Index_string_string.l0, if_neg (by omega)]) (Ev.now _)
  have s2 : Ev (fun k => slices_Index_string_string.l0 k kinds3 (mkB w0) 3 2) (if w0 = readL then 2 else -1) := by
    refine Ev.step (f := fun k => if w0 = readL then some 2 else slices_Index_string_string.l0 k kinds3 (mkB w0) 3 3) (fun k => by rw [slices_Index_string_string.l0, if_pos (by omega), if_pos (by omega), if_pos (by rw [hl]; omega), ht, e2, show wrap64 ((2 : Int) + 1) = 3 by unfold wrap64; omega]) ?_
    by_cases h : w0 = readL
    · simp only [if_pos h]; exact Ev.now _
    · simp only [if_neg h]; exact s3
  have s1 : Ev (fun k => slices_Index_string_string.l0 k kinds3 (mkB w0) 3 1) (if w0 = moveL then 1 else if w0 = readL then 2 else -1) := by
    refine Ev.step (f := fun k => if w0 = moveL then some 1 else slices_Index_string_string.l0 k kinds3 (mkB w0) 3 2) (fun k => by rw [slices_Index_string_string.l0, if_pos (by omega), if_pos (by omega), if_pos (by rw [hl]; omega), ht, e1, show wrap64 ((1 : Int) + 1) = 2 by unfold wrap64; omega]) ?_
    by_cases h : w0 = moveL
    · simp only [if_pos h]; exact Ev.now _
    · simp only [if_neg h]; exact s2
  unfold slices_Index_string_string.f kindR
  rw [hl]
  refine Ev.step (f := fun k => if w0 = dashL then some 0 else slices_Index_string_string.l0 k kinds3 (mkB w0) 3 1) (fun k => by rw [slices_Index_string_string.l0, if_pos (by omega), if_pos (by omega), if_pos (by rw [hl]; omega), ht, e0, show wrap64 ((0 : Int) + 1) = 1 by unfold wrap64; omega]) ?_
  by_cases h : w0 = dashL
  · simp only [if_pos h]; exact Ev.now _
  · simp only [if_neg h]; exact s1
theorem implRead_ev (s : ByteArray) (w0 : List UInt8) (r : List (List UInt8)) (hs : s.size ≤ 1048576) (hw : cutL 32 [] s.data.toList = w0 :: r) : Ev (fun k => impl_ReadCmd.f k s) (readR w0 r) := by
  have hlen : ∀ w ∈ r, w.length ≤ 1048576 := fun w h => by
    have := cutL_len 32 s.data.toList [] w (by rw [hw]; simp [h])
    rw [← ba_size] at this
    simp only [List.length_nil] at this
    omega
  have hmany := cutL_many 32 s.data.toList []
  rw [hw, ← ba_size, List.length_cons] at hmany
  have hnum := numbersEv r 4 (by omega) (by omega) hlen (by omega)
  have h0 : rdOf ByteArray.empty ((w0 :: r).map mkB) 0 = mkB w0 := by
    rw [show (0 : Int) = ((0 : Nat) : Int) from rfl, rdB _ 0 (by simp)]
    rfl
  have hl : (((w0 :: r).map mkB).length : Int) = (r.length : Int) + 1 := by rw [List.length_map, List.length_cons]; omega
  unfold impl_ReadCmd.f
  rw [show strings_Split.f s (⟨#[32]⟩ : ByteArray) = some ((w0 :: r).map mkB) by rw [splitEv s 32 hs, hw]]
  simp only [Option.bind_some, h0, hl, if_pos (show (0 : Int) < (r.length : Int) + 1 by omega)]
  refine Ev.bind (kindEv w0) ?_
  have hd : ((w0 :: r).map mkB).drop 1 = r.map mkB := rfl
  rw [hd]
  have hb3 : ∀ x : Int, (0 : Int) ≤ x → x < 3 → ¬ x < 0 ∧ x < ((([1, 5, 3] : List Int)).length : Int) := fun x h1 h2 => ⟨by omega, by show x < 3; exact h2⟩
  have c1 : (1 : Int) ≤ (r.length : Int) + 1 := by omega
  have e0 : rd [1, 5, 3] 0 = 1 := rfl
  have e1 : rd [1, 5, 3] 1 = 5 := rfl
  have e2 : rd [1, 5, 3] 2 = 3 := rfl
  unfold kindR readR
  by_cases g1 : w0 = moveL
  · have n0 : ¬ w0 = dashL := by rw [g1]; decide
    simp only [if_neg n0, if_pos g1, if_neg (hb3 1 (by omega) (by omega)).1, if_pos (show (0 : Int) ≤ 1 by omega), if_pos (hb3 1 (by omega) (by omega)).2, e1, if_pos c1]
    by_cases h4 : r.length = 4
    · simp only [if_pos (show (r.length : Int) + 1 = 5 by omega), if_pos h4]
      refine Ev.bind hnum ?_
      unfold numsR
      cases hall : r.all (wordB 4) with
      | false => simp only [Bool.false_eq_true, if_false]; exact Ev.now _
      | true =>
        obtain ⟨w1, w2, w3, w4, rfl⟩ : ∃ a b c d, r = [a, b, c, d] := by
          match r, h4 with
          | [a, b, c, d], _ => exact ⟨a, b, c, d, rfl⟩
        simp only [if_true]
        exact implFin 1 (numI w1) (numI w2) (numI w3) (numI w4) (Or.inl rfl)
    · simp only [if_neg (show ¬ (r.length : Int) + 1 = 5 by omega), if_neg h4]
      exact Ev.now _
  · by_cases g2 : w0 = readL
    · have n0 : ¬ w0 = dashL := by rw [g2]; decide
      simp only [if_neg n0, if_neg g1, if_pos g2, if_neg (hb3 2 (by omega) (by omega)).1, if_pos (show (0 : Int) ≤ 2 by omega), if_pos (hb3 2 (by omega) (by omega)).2, e2, if_pos c1]
      by_cases h4 : r.length = 2
      · simp only [if_pos (show (r.length : Int) + 1 = 3 by omega), if_pos h4]
        refine Ev.bind hnum ?_
        unfold numsR
        cases hall : r.all (wordB 4) with
        | false => simp only [Bool.false_eq_true, if_false]; exact Ev.now _
        | true =>
          obtain ⟨w1, w2, rfl⟩ : ∃ a b, r = [a, b] := by
            match r, h4 with
            | [a, b], _ => exact ⟨a, b, rfl⟩
          simp only [if_true]
          exact implFin 2 (numI w1) (numI w2) 0 0 (Or.inr ⟨rfl, rfl, rfl⟩)
      · simp only [if_neg (show ¬ (r.length : Int) + 1 = 3 by omega), if_neg h4]
        exact Ev.now _
    · by_cases g3 : w0 = dashL
      · simp only [if_pos g3, if_neg g1, if_neg g2, if_neg (hb3 0 (by omega) (by omega)).1, if_pos (show (0 : Int) ≤ 0 by omega), if_pos (hb3 0 (by omega) (by omega)).2, e0, if_pos c1]
        by_cases h4 : r.length = 0
        · obtain rfl : r = [] := List.length_eq_zero_iff.1 h4
          refine Ev.bind hnum ?_
          simp only [numsR, List.all_nil, if_true, List.map_nil]
          refine Ev.step (f := fun n => impl_ReadCmd.j1 n 0 false 0 0 0 0 0) (fun k => by rw [impl_ReadCmd.j0, isAccount_f, isAccount_f, Option.bind_some]; rfl) ?_
          refine Ev.step (f := fun n => impl_ReadCmd.j2 n false 0 0 0 0 0) (fun k => by rw [impl_ReadCmd.j1, if_neg (by simp), if_neg (by omega)]) ?_
          exact j2_false 0 0 0 0 0
        · simp only [if_neg (show ¬ (r.length : Int) + 1 = 1 by omega), if_neg h4]
          exact Ev.now _
      · simp only [if_neg g3, if_neg g1, if_neg g2, if_pos (show (-1 : Int) < 0 by omega)]
        exact Ev.now _

theorem FnExactReadCmd : laws_FnExactReadCmd.Pure := by
  intro s _
  by_cases hs : s.size ≤ 1048576
  · refine Ev.rounds (g := fun k => laws_FnExactReadCmd.f k s) ?_
    unfold laws_FnExactReadCmd.f
    simp only [if_neg (show ¬ (s.size : Int) > 1048576 by omega)]
    obtain ⟨w0, r, hw⟩ : ∃ w0 r, cutL 32 [] s.data.toList = w0 :: r := List.exists_cons_of_ne_nil (cutL_ne 32 _ _)
    refine Ev.bind (specRead_ev s w0 r hs hw) (Ev.bind (implRead_ev s w0 r hs hw) ?_)
    generalize readR w0 r = R
    obtain ⟨a, b, c, d, e, f, g⟩ := R
    unfold laws_eqCmd.f
    simpa using Ev.now true
  · refine ⟨0, ?_⟩
    unfold laws_FnExactReadCmd.f
    rw [if_pos (show (s.size : Int) > 1048576 by omega)]

end Go.Proofs.YtmknjfnhfcljcaaDoor.Pure
