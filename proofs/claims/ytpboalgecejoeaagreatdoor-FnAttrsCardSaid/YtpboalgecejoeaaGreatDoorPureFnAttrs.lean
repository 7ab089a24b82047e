/- The law FnAttrs holds, for every input. -/
import Derived.Test.YtpboalgecejoeaaGreatDoorVFnAttrs
import Derived.Test.YtpboalgecejoeaaGreatDoorQFnAttrsx11
namespace Go.Proofs.YtpboalgecejoeaaGreatDoor.Pure
open Go.RowKit Go.Proofs.YtpboalgecejoeaaGreatDoor.QFnAttrs Go.Proofs.YtpboalgecejoeaaGreatDoorW.PrintWords Go.Proofs.YtpboalgecejoeaaGreatDoorW.PrintLast Go.Proofs.YtpboalgecejoeaaGreatDoorW.PrintMore
set_option linter.unusedVariables false
set_option linter.unusedSimpArgs false

theorem wrap_next {i : Nat} {n : Nat} (h : i < n) (hn : n ≤ 9223372036854775807) : wrap64 ((i : Int) + 1) = ((i + 1 : Nat) : Int) := by
 unfold wrap64
 omega
theorem rd_nat (l : List Int) (i : Nat) : rd l (i : Int) = l.getD i 0 := by unfold rd; rw [Int.toNat_natCast]
theorem wrap_small {x : Int} (h0 : -9223372036854775808 ≤ x) (h1 : x ≤ 9223372036854775807) : wrap64 x = x := by unfold wrap64; omega
theorem Ev.const {α : Type} {o : Option α} {a : α} (h : o = some a) : Ev (fun _ => o) a := ⟨0, fun _ _ => h⟩
theorem Ev.map {α β : Type} {g : Nat → Option α} {a : α} (h : Ev g a) (f : α → β) : Ev (fun k => (g k).bind fun t => some (f t)) (f a) := by
 obtain ⟨K, h⟩ := h
 exact ⟨K, fun k hk => by show (g k).bind _ = _; rw [h k hk, Option.bind_some]⟩
theorem loop_any {α ρ : Type} (F : Nat → Int → Option ρ) (xs : List α) (d : α) (p : α → Bool) (hit miss : ρ)
  (hs : ∀ i, i < xs.length → (p (xs.getD i d) = true → Ev (fun k => F k (i : Int)) hit) ∧ (p (xs.getD i d) = false → ∀ r, Ev (fun k => F k ((i + 1 : Nat) : Int)) r → Ev (fun k => F k (i : Int)) r))
  (he : Mine.anyP p xs = false → Ev (fun k => F k (xs.length : Int)) miss) : Ev (fun k => F k 0) (if Mine.anyP p xs = true then hit else miss) := by
 have key : ∀ (n i : Nat), xs.length - i = n → i ≤ xs.length → Mine.anyP p (xs.take i) = false → Ev (fun k => F k (i : Int)) (if Mine.anyP p (xs.drop i) = true then hit else miss) := by
  intro n
  induction n with
  | zero =>
   intro i hn hi hb
   obtain rfl : i = xs.length := by omega
   rw [List.drop_eq_nil_of_le (Nat.le_refl _)]
   rw [List.take_of_length_le (Nat.le_refl _)] at hb
   simpa [Mine.anyP] using he hb
  | succ n ih =>
   intro i hn hi hb
   rw [Mine.drop_at xs d i (by omega), Mine.anyP_cons]
   cases hp : p (xs.getD i d) with
   | true => simpa using (hs i (by omega)).1 hp
   | false =>
    have hb' : Mine.anyP p (xs.take (i + 1)) = false := by
     have e : xs.take (i + 1) = xs.take i ++ [xs.getD i d] := by
      rw [List.take_add_one, List.getD_eq_getElem?_getD, List.getElem?_eq_getElem (show i < xs.length by omega)]; rfl
     rw [e]
     unfold Mine.anyP at hb ⊢
     rw [List.any_append, hb, List.any_cons, hp]
     rfl
    simpa using (hs i (by omega)).2 hp _ (ih (i + 1) (by omega) (by omega) hb')
 simpa using key xs.length 0 (by omega) (by omega) (by simp [Mine.anyP])
def scan {σ α ρ : Type} (step : α → σ → Sum σ ρ) (fin : σ → ρ) : List α → σ → ρ
 | [], s => fin s
 | x :: xs, s => match step x s with
  | .inl s' => scan step fin xs s'
  | .inr r => r
theorem loop_scan {σ α ρ : Type} (F : Nat → σ → Int → Option ρ) (xs : List α) (d : α) (step : α → σ → Sum σ ρ) (fin : σ → ρ) (P : Nat → σ → Prop)
  (hs : ∀ (i : Nat) (s : σ), i < xs.length → P i s → (∀ s', step (xs.getD i d) s = .inl s' → P (i + 1) s' ∧ ∀ r, Ev (fun k => F k s' ((i + 1 : Nat) : Int)) r → Ev (fun k => F k s (i : Int)) r) ∧ (∀ r, step (xs.getD i d) s = .inr r → Ev (fun k => F k s (i : Int)) r))
  (he : ∀ s, P xs.length s → Ev (fun k => F k s (xs.length : Int)) (fin s)) (s : σ) (h0 : P 0 s) : Ev (fun k => F k s 0) (scan step fin xs s) := by
 have key : ∀ (n i : Nat) (s : σ), xs.length - i = n → i ≤ xs.length → P i s → Ev (fun k => F k s (i : Int)) (scan step fin (xs.drop i) s) := by
  intro n
  induction n with
  | zero =>
   intro i s hn hi hp
   obtain rfl : i = xs.length := by omega
   rw [List.drop_eq_nil_of_le (Nat.le_refl _)]
   exact he s hp
  | succ n ih =>
   intro i s hn hi hp
   rw [Mine.drop_at xs d i (by omega), scan]
   cases hst : step (xs.getD i d) s with
   | inl s' => exact ((hs i s (by omega) hp).1 s' hst).2 _ (ih (i + 1) s' (by omega) (by omega) ((hs i s (by omega) hp).1 s' hst).1)
   | inr r => exact (hs i s (by omega) hp).2 r hst
 simpa using key xs.length 0 s (by omega) (by omega) h0

theorem ba_ext {a b : ByteArray} (h : a.data.toList = b.data.toList) : a = b := by
 cases a; cases b
 simpa using h
theorem ba_append (a b : ByteArray) : (a ++ b).data.toList = a.data.toList ++ b.data.toList := by simp [ByteArray.data_append]
theorem ba_size (a : ByteArray) : a.size = a.data.toList.length := by obtain ⟨⟨l⟩⟩ := a; rfl

def cutL (c : UInt8) : List UInt8 → List UInt8 → List (List UInt8)
 | cur, [] => [cur]
 | cur, x :: r => if x = c then cur :: cutL c [] r else cutL c (cur ++ [x]) r
def mkB (l : List UInt8) : ByteArray := ⟨l.toArray⟩
theorem mkB_data (l : List UInt8) : (mkB l).data.toList = l := rfl
theorem mkB_self (s : ByteArray) : mkB s.data.toList = s := ba_ext rfl
theorem cutL_none (c : UInt8) : ∀ (l cur : List UInt8), (∀ x ∈ l, x ≠ c) → cutL c cur l = [cur ++ l]
 | [], cur, _ => by rw [cutL, List.append_nil]
 | x :: r, cur, h => by
  rw [cutL, if_neg (h x (by simp)), cutL_none c r _ (fun y hy => h y (by simp [hy])), List.append_assoc]
  rfl
theorem cutL_hit (c : UInt8) (b : List UInt8) : ∀ (l cur : List UInt8), (∀ x ∈ l, x ≠ c) → cutL c cur (l ++ c :: b) = (cur ++ l) :: cutL c [] b
 | [], cur, _ => by rw [List.nil_append, cutL, if_pos rfl, List.append_nil]
 | x :: r, cur, h => by
  rw [List.cons_append, cutL, if_neg (h x (by simp)), cutL_hit c b r _ (fun y hy => h y (by simp [hy])), List.append_assoc]
  rfl
theorem cutL_ne (c : UInt8) : ∀ (l cur : List UInt8), cutL c cur l ≠ []
 | [], cur => by rw [cutL]; simp
 | x :: r, cur => by
  rw [cutL]
  split
  ·simp
  ·exact cutL_ne c r _
theorem bt_data (s : ByteArray) (i : Nat) (h : i < s.size) : bt s (i : Int) = ((s.data.toList.getD i 0).toNat : Int) := by
 have h2 : i < s.data.toList.length := by rw [← ba_size]; exact h
 unfold bt
 rw [Int.toNat_natCast, dif_pos h, List.getD_eq_getElem?_getD, List.getElem?_eq_getElem h2]
 simp only [Option.getD_some, Array.getElem_toList]
 rfl
theorem drop_get (L : List UInt8) (i : Nat) (h : i < L.length) : L.drop i = L.getD i 0 :: L.drop (i + 1) := by
 rw [List.getD_eq_getElem?_getD, List.getElem?_eq_getElem h, Option.getD_some, List.drop_eq_getElem_cons h]
theorem take_get (L : List UInt8) (i : Nat) (h : i < L.length) : L.take (i + 1) = L.take i ++ [L.getD i 0] := by
 rw [List.take_add_one, List.getD_eq_getElem?_getD, List.getElem?_eq_getElem h]
 rfl
theorem l1SplitEv (s : ByteArray) (c : UInt8) (hs : s.size ≤ 1048576) : Ev (fun k => spec_l1Split.f k s ((c.toNat : Nat) : Int)) ((cutL c [] s.data.toList).map mkB) := by
 have key : ∀ (n i f : Nat) (out : List ByteArray), s.size - i = n → f ≤ i → i ≤ s.size → out.length ≤ i →
   Ev (fun k => spec_l1Split.l0 k s ((c.toNat : Nat) : Int) out (f : Int) (i : Int)) (out ++ (cutL c ((s.data.toList.take i).drop f) (s.data.toList.drop i)).map mkB) := by
  intro n
  induction n with
  | zero =>
   intro i f out hi hf hi2 ho
   obtain rfl : i = s.size := by omega
   have h1 : s.data.toList.drop s.size = [] := by rw [ba_size]; exact List.drop_length
   have h2 : s.data.toList.take s.size = s.data.toList := by rw [ba_size]; exact List.take_length
   rw [h1, h2, cutL, List.map_cons, List.map_nil]
   refine Ev.step (f := fun k => some _) (fun k => ?_) (Ev.now _)
   rw [spec_l1Split.l0, if_neg (by omega), if_pos (by omega), if_pos (by omega), if_pos (by omega), Int.toNat_natCast]
   congr 3
   refine ba_ext ?_
   rw [Go.Lib.extract_data, mkB_data, List.take_of_length_le (by rw [List.length_drop, ← ba_size]; omega)]
  | succ n ih =>
   intro i f out hi hf hi2 ho
   have hil : i < s.size := by omega
   have hil2 : i < s.data.toList.length := by rw [← ba_size]; exact hil
   rw [drop_get _ i hil2, cutL]
   have hb := bt_data s i hil
   by_cases hc : s.data.toList.getD i 0 = c
   ·rw [if_pos hc]
    have h1 := ih (i + 1) (i + 1) (out ++ [s.extract f i]) (by omega) (by omega) (by omega) (by rw [List.length_append]; simp only [List.length_cons, List.length_nil]; omega)
    rw [show (s.data.toList.take (i + 1)).drop (i + 1) = [] by rw [List.drop_eq_nil_iff, List.length_take]; omega] at h1
    have h2 : mkB ((s.data.toList.take i).drop f) = s.extract f i := by
     refine ba_ext ?_
     rw [Go.Lib.extract_data, mkB_data, List.drop_take]
    rw [List.map_cons, h2, ← List.singleton_append, ← List.append_assoc]
    refine Ev.step (f := fun k => spec_l1Split.l0 k s ((c.toNat : Nat) : Int) (out ++ [s.extract f i]) ((i + 1 : Nat) : Int) ((i + 1 : Nat) : Int)) (fun k => ?_) h1
    rw [spec_l1Split.l0, if_pos (by omega), if_pos (by omega), if_pos (by rw [hb, hc]), if_pos (by omega), if_pos (by omega), if_pos (by omega), if_pos (by omega), Int.toNat_natCast, Int.toNat_natCast, wrap_small (by omega) (by omega)]
    rfl
   ·rw [if_neg hc]
    have h1 := ih (i + 1) f out (by omega) (by omega) (by omega) (by omega)
    rw [take_get _ i hil2, List.drop_append_of_le_length (by rw [List.length_take]; omega)] at h1
    refine Ev.step (f := fun k => spec_l1Split.l0 k s ((c.toNat : Nat) : Int) out (f : Int) ((i + 1 : Nat) : Int)) (fun k => ?_) h1
    rw [spec_l1Split.l0, if_pos (by omega), if_pos (by omega), if_neg (fun e => hc ?_), wrap_small (by omega) (by omega)]
    ·rfl
    ·rw [hb] at e
     exact UInt8.toNat_inj.1 (by omega)
 have h := key s.size 0 0 [] (by omega) (by omega) (by omega) (by simp)
 unfold spec_l1Split.f
 simpa using h
theorem occ_at (L : List UInt8) (c : UInt8) (j : Nat) (h : j < L.length) : Go.Lib.occAt L [c] j = decide (L.getD j 0 = c) := by
 unfold Go.Lib.occAt
 rw [drop_get L j h]
 simp only [List.isPrefixOf, Bool.and_true]
 by_cases hc : L.getD j 0 = c
 ·rw [decide_eq_true hc, hc]
  simp
 ·rw [decide_eq_false hc]
  simp only [beq_eq_false_iff_ne]
  exact fun e => hc e.symm
theorem index_one (L : List UInt8) (c : UInt8) : (Go.Lib.index L [c] = -1 ∧ ∀ x ∈ L, x ≠ c) ∨ ∃ a b : List UInt8, L = a ++ c :: b ∧ (∀ x ∈ a, x ≠ c) ∧ Go.Lib.index L [c] = (a.length : Int) := by
 rcases Go.Lib.index_spec L [c] with ⟨h1, h2⟩ | ⟨i, h1, h2, h3, h4⟩
 ·refine Or.inl ⟨h1, fun x hx e => ?_⟩
  obtain ⟨j, hj, rfl⟩ := List.getElem_of_mem hx
  have h3 := h2 j (by omega)
  rw [occ_at L c j hj, decide_eq_false_iff_not, List.getD_eq_getElem?_getD, List.getElem?_eq_getElem hj] at h3
  exact h3 e
 ·have hil : i < L.length := by
   rcases Nat.lt_or_ge i L.length with h | h
   ·exact h
   ·unfold Go.Lib.occAt at h3
    rw [List.drop_eq_nil_of_le h] at h3
    simp at h3
  rw [occ_at L c i hil, decide_eq_true_eq] at h3
  refine Or.inr ⟨L.take i, L.drop (i + 1), ?_, fun x hx e => ?_, by rw [List.length_take, h1]; omega⟩
  ·rw [← h3, ← drop_get L i hil, List.take_append_drop]
  ·obtain ⟨j, hj, rfl⟩ := List.getElem_of_mem hx
   rw [List.length_take] at hj
   have h5 := h4 j (by omega)
   rw [occ_at L c j (by omega), decide_eq_false_iff_not, List.getD_eq_getElem?_getD, List.getElem?_eq_getElem (by omega)] at h5
   rw [List.getElem_take] at e
   exact h5 e
theorem splitB_cut (c : UInt8) : ∀ (n : Nat) (s : ByteArray), s.size ≤ n → Go.Lib.splitB ⟨#[c]⟩ 0 (Go.Lib.countB s ⟨#[c]⟩) s = (cutL c [] s.data.toList).map mkB := by
 have hsz : (⟨#[c]⟩ : ByteArray).size = 1 := rfl
 have hix : ∀ s : ByteArray, Go.Lib.indexB s ⟨#[c]⟩ = Go.Lib.index s.data.toList [c] := fun s => rfl
 intro n
 induction n with
 | zero =>
  intro s hs
  have h0 : s.data.toList = [] := List.length_eq_zero_iff.1 (by rw [← ba_size]; omega)
  have hm : Go.Lib.indexB s ⟨#[c]⟩ = -1 := by rw [hix, h0]; rfl
  rw [Go.Lib.splitB_miss _ _ _ _ hm, h0, cutL, List.map_cons, List.map_nil, ← h0, mkB_self]
 | succ n ih =>
  intro s hs
  rcases index_one s.data.toList c with ⟨h1, h2⟩ | ⟨a, b, h1, h2, h3⟩
  ·rw [Go.Lib.splitB_miss _ _ _ _ ((hix s).trans h1), cutL_none c _ _ h2, List.nil_append, List.map_cons, List.map_nil, mkB_self]
  ·have hi : Go.Lib.indexB s ⟨#[c]⟩ = (a.length : Int) := (hix s).trans h3
   have hb : (s.extract (a.length + 1) s.size).data.toList = b := by
    rw [Go.Lib.extract_data, ba_size, h1]
    rw [show a ++ c :: b = (a ++ [c]) ++ b by simp, List.drop_append_of_le_length (by simp), List.take_of_length_le (by simp only [List.length_append, List.length_cons, List.length_nil, List.length_drop]; omega)]
    simp
   have hl := congrArg List.length h1
   rw [← ba_size, List.length_append, List.length_cons] at hl
   have hs2 : (s.extract (a.length + 1) s.size).size ≤ n := by rw [ba_size, hb]; omega
   rw [Go.Lib.countB_hit s _ a.length (by rw [hsz]; omega) hi, Nat.add_comm, Go.Lib.splitB_hit _ _ _ _ _ hi, hsz, ih _ hs2, hb]
   conv => rhs; rw [h1, cutL_hit c b a [] h2]
   rw [List.map_cons]
   congr 1
   refine ba_ext ?_
   rw [Go.Lib.extract_from_zero, mkB_data, h1, Nat.add_zero]
   simp
theorem splitEv (s : ByteArray) (c : UInt8) (hs : s.size ≤ 1048576) : strings_Split.f s ⟨#[c]⟩ = some ((cutL c [] s.data.toList).map mkB) := by
 unfold strings_Split.f
 rw [if_pos ⟨by omega, Nat.le_refl 1⟩, splitB_cut c s.size s (Nat.le_refl _)]

theorem l1In_f (a b c : Int) : spec_l1In.f a b c = some (Mine.inB b c a) := by
 unfold spec_l1In.f Mine.inB
 by_cases h : a ≥ b
 ·rw [if_pos h]; simp [show b ≤ a from h]
 ·rw [if_neg h]; simp [show ¬ b ≤ a from h]

def isDig (x : UInt8) : Bool := decide (48 ≤ x.toNat ∧ x.toNat ≤ 57)
def numL (l : List UInt8) : Nat := l.foldl (fun a x => 10 * a + (x.toNat - 48)) 0
def wordB (m : Nat) (l : List UInt8) : Bool := decide (1 ≤ l.length ∧ l.length ≤ m) && (l.all isDig && !(decide (l.getD 0 0 = 48) && decide (1 < l.length)))
def digR (m : Nat) (l : List UInt8) : Int := if wordB m l = true then (numL l : Int) else -1
theorem numL_snoc (l : List UInt8) (x : UInt8) : numL (l ++ [x]) = 10 * numL l + (x.toNat - 48) := by
 unfold numL
 rw [List.foldl_append]
 rfl
theorem numL_lt (l : List UInt8) : ∀ n, l.length = n → l.all isDig = true → numL l < 10 ^ n := by
 intro n
 induction n generalizing l with
 | zero =>
  intro h _
  obtain rfl := List.length_eq_zero_iff.1 h
  show 0 < 1
  omega
 | succ n ih =>
  intro h hd
  obtain ⟨r, x, rfl⟩ : ∃ r x, l = r ++ [x] := ⟨l.dropLast, l.getLast (by intro e; rw [e] at h; simp at h), (List.dropLast_concat_getLast _).symm⟩
  rw [List.length_append, List.length_cons, List.length_nil] at h
  rw [List.all_append, Bool.and_eq_true] at hd
  have h1 := ih r (by omega) hd.1
  have h2 : isDig x = true := by simpa using hd.2
  unfold isDig at h2
  rw [decide_eq_true_eq] at h2
  rw [numL_snoc, Nat.pow_succ]
  omega
theorem all_take (L : List UInt8) (i : Nat) (h : i < L.length) (h1 : (L.take i).all isDig = true) (h2 : isDig (L.getD i 0) = true) : (L.take (i + 1)).all isDig = true := by
 rw [take_get L i h, List.all_append, h1]
 simpa using h2
theorem not_all (L : List UInt8) (i : Nat) (h : i < L.length) (h2 : isDig (L.getD i 0) = false) : L.all isDig = false := by
 rw [List.all_eq_false]
 refine ⟨L.getD i 0, ?_, by rw [h2]; simp⟩
 rw [List.getD_eq_getElem?_getD, List.getElem?_eq_getElem h]
 exact List.getElem_mem h
theorem wordB_bad {m : Nat} {L : List UInt8} (h : L.all isDig = false) : digR m L = -1 := by unfold digR wordB; rw [h]; simp
theorem dig_next {n : Nat} {x : UInt8} (hn : n < 1000000) (hx : isDig x = true) : wrap64 ((wrap64 (10 * (n : Int))) + ((((x.toNat : Nat) : Int) - 48) % 256)) = ((10 * n + (x.toNat - 48) : Nat) : Int) := by
 unfold isDig at hx
 rw [decide_eq_true_eq] at hx
 rw [wrap_small (x := 10 * (n : Int)) (by omega) (by omega), wrap_small (by omega) (by omega)]
 omega
theorem digitsEv (s : ByteArray) (m : Nat) (hm : 1 ≤ m) (hm6 : m ≤ 5) (hs : s.size ≤ 1048576) : Ev (fun k => impl_digits.f k s (m : Int)) (digR m s.data.toList) := by
 have hL : s.size = s.data.toList.length := ba_size s
 have hsL : ∀ i, i < s.size → bt s (i : Int) = ((s.data.toList.getD i 0).toNat : Int) := fun i h => bt_data s i h
 have hnil : s.toList = ([] : List UInt8) ↔ s.data.toList = [] := by rw [ByteArray.toList_eq]
 generalize hLe : s.data.toList = L at hL hsL hnil
 have key : ∀ (n i : Nat), s.size - i = n → i ≤ s.size → i ≤ m → (L.take i).all isDig = true → Ev (fun k => impl_digits.l0 k s (m : Int) ((numL (L.take i) : Nat) : Int) (s.size : Int) (i : Int)) (digR m L) := by
  intro n
  induction n with
  | zero =>
   intro i hi hi2 him hd
   obtain rfl : i = s.size := by omega
   have ht : L.take s.size = L := by rw [hL]; exact List.take_length
   rw [ht] at hd ⊢
   refine Ev.step (f := fun k => some (digR m L)) (fun k => ?_) (Ev.now _)
   rw [impl_digits.l0, if_neg (by omega)]
   by_cases h0 : s.size = 0
   ·have hLn : L = [] := List.length_eq_zero_iff.1 (by omega)
    rw [if_pos (hnil.2 hLn)]
    unfold digR wordB
    rw [hLn]
    rfl
   ·rw [if_neg (fun e => h0 (by have := hnil.1 e; rw [hL, this]; rfl)), if_pos (show (0 : Int) < (s.size : Int) by omega)]
    have hb0 := hsL 0 (by omega)
    by_cases hz : L.getD 0 0 = 48
    ·rw [if_pos (show bt s 0 = 48 by rw [show (0 : Int) = ((0 : Nat) : Int) from rfl, hb0, hz]; rfl)]
     by_cases h1 : 1 < s.size
     ·rw [if_pos (show (s.size : Int) > 1 by omega)]
      unfold digR wordB
      rw [decide_eq_true hz, decide_eq_true (show 1 < L.length by omega), hd]
      simp
     ·rw [if_neg (show ¬ (s.size : Int) > 1 by omega)]
      unfold digR wordB
      rw [decide_eq_true (show 1 ≤ L.length ∧ L.length ≤ m by omega), decide_eq_false (show ¬ 1 < L.length by omega), hd]
      simp
    ·have hz2 : ¬ bt s 0 = 48 := fun e => hz (by
      rw [show (0 : Int) = ((0 : Nat) : Int) from rfl, hb0] at e
      exact UInt8.toNat_inj.1 (by have : (48 : UInt8).toNat = 48 := rfl; omega))
     rw [if_neg hz2]
     unfold digR wordB
     rw [decide_eq_true (show 1 ≤ L.length ∧ L.length ≤ m by omega), decide_eq_false hz, hd]
     simp
  | succ n ih =>
   intro i hi hi2 him hd
   have hil : i < s.size := by omega
   have hb := hsL i hil
   cases hx : isDig (L.getD i 0) with
   | false =>
    rw [wordB_bad (not_all L i (by omega) hx)]
    unfold isDig at hx
    rw [decide_eq_false_iff_not] at hx
    refine Ev.step (f := fun k => some (-1)) (fun k => ?_) (Ev.now _)
    rw [impl_digits.l0, if_pos (by omega), if_pos (by omega), if_pos (by omega), hb]
    by_cases h1 : ((L.getD i 0).toNat : Int) < 48
    ·rw [if_pos h1]
    ·rw [if_neg h1, if_pos (by omega)]
   | true =>
    have hx2 := hx
    unfold isDig at hx2
    rw [decide_eq_true_eq] at hx2
    by_cases him2 : i < m
    ·have hlt := numL_lt (L.take i) i (by rw [List.length_take]; omega) hd
     have hlt2 : 10 ^ i ≤ 10 ^ 5 := Nat.pow_le_pow_right (by omega) (by omega)
     have h1 := ih (i + 1) (by omega) (by omega) (by omega) (all_take L i (by omega) hd hx)
     rw [take_get L i (by omega), numL_snoc] at h1
     refine Ev.step (f := fun k => _) (fun k => ?_) h1
     rw [impl_digits.l0, if_pos (by omega), if_pos (by omega), if_pos (by omega), hb, if_neg (by omega), if_neg (by omega), if_neg (by omega), dig_next (by omega) hx, wrap_small (x := (i : Int) + 1) (by omega) (by omega)]
     rfl
    ·have hbad : digR m L = -1 := by
      unfold digR wordB
      rw [decide_eq_false (show ¬ (1 ≤ L.length ∧ L.length ≤ m) by omega)]
      simp
     rw [hbad]
     refine Ev.step (f := fun k => some (-1)) (fun k => ?_) (Ev.now _)
     rw [impl_digits.l0, if_pos (by omega), if_pos (by omega), if_pos (by omega), hb, if_neg (by omega), if_neg (by omega), if_pos (by omega)]
 have h := key s.size 0 (by omega) (by omega) (by omega) (by simp)
 unfold impl_digits.f
 exact h
theorem l1ReadEv (s : ByteArray) : Ev (fun k => spec_l1Read.f k s) (digR 6 s.data.toList) := by
 have hL : s.size = s.data.toList.length := ba_size s
 have hsL : ∀ i, i < s.size → bt s (i : Int) = ((s.data.toList.getD i 0).toNat : Int) := fun i h => bt_data s i h
 generalize hLe : s.data.toList = L at hL hsL
 by_cases hsz : 1 ≤ s.size ∧ s.size ≤ 6
 ·by_cases hz : L.getD 0 0 = 48 ∧ 1 < s.size
  ·have hbad : digR 6 L = -1 := by
    unfold digR wordB
    rw [decide_eq_true hz.1, decide_eq_true (show 1 < L.length by omega)]
    simp
   rw [hbad]
   refine Ev.congr (f := fun k => spec_l1Read.j0 k s true) (fun k => ?_) (Ev.step (f := fun k => some (-1)) (fun k => by rw [spec_l1Read.j0, if_pos rfl]) (Ev.now _))
   unfold spec_l1Read.f
   rw [l1In_f, Option.bind_some, if_pos (Mine.inB_iff.2 (by omega)), if_pos (by omega), if_pos (show bt s 0 = 48 by rw [show (0 : Int) = ((0 : Nat) : Int) from rfl, hsL 0 (by omega), hz.1]; rfl), decide_eq_true (show (s.size : Int) > 1 by omega)]
  ·have key : ∀ (n i : Nat), s.size - i = n → i ≤ s.size → (L.take i).all isDig = true → Ev (fun k => spec_l1Read.l0 k s ((numL (L.take i) : Nat) : Int) (i : Int)) (digR 6 L) := by
    intro n
    induction n with
    | zero =>
     intro i hi hi2 hd
     obtain rfl : i = s.size := by omega
     have ht : L.take s.size = L := by rw [hL]; exact List.take_length
     rw [ht] at hd ⊢
     refine Ev.step (f := fun k => some (digR 6 L)) (fun k => ?_) (Ev.now _)
     rw [spec_l1Read.l0, if_neg (by omega)]
     unfold digR wordB
     rw [decide_eq_true (show 1 ≤ L.length ∧ L.length ≤ 6 by omega), hd]
     by_cases h0 : L.getD 0 0 = 48
     ·rw [decide_eq_true h0, decide_eq_false (show ¬ 1 < L.length by intro h; exact hz ⟨h0, by omega⟩)]
      simp
     ·rw [decide_eq_false h0]
      simp
    | succ n ih =>
     intro i hi hi2 hd
     have hil : i < s.size := by omega
     have hb := hsL i hil
     cases hx : isDig (L.getD i 0) with
     | false =>
      rw [wordB_bad (not_all L i (by omega) hx)]
      unfold isDig at hx
      rw [decide_eq_false_iff_not] at hx
      refine Ev.step (f := fun k => some (-1)) (fun k => ?_) (Ev.now _)
      rw [spec_l1Read.l0, if_pos (by omega), if_pos (by omega), hb]
      by_cases h1 : ((L.getD i 0).toNat : Int) < 48
      ·rw [if_pos h1]
      ·rw [if_neg h1, if_pos (by omega)]
     | true =>
      have hx2 := hx
      unfold isDig at hx2
      rw [decide_eq_true_eq] at hx2
      have hlt := numL_lt (L.take i) i (by rw [List.length_take]; omega) hd
      have hlt2 : 10 ^ i ≤ 10 ^ 5 := Nat.pow_le_pow_right (by omega) (by omega)
      have h1 := ih (i + 1) (by omega) (by omega) (all_take L i (by omega) hd hx)
      rw [take_get L i (by omega), numL_snoc] at h1
      refine Ev.step (f := fun k => _) (fun k => ?_) h1
      rw [spec_l1Read.l0, if_pos (by omega), if_pos (by omega), hb, if_neg (by omega), if_neg (by omega), dig_next (by omega) hx, wrap_small (x := (i : Int) + 1) (by omega) (by omega)]
      rfl
   have h := key s.size 0 (by omega) (by omega) (by simp)
   refine Ev.congr (f := fun k => spec_l1Read.j0 k s false) (fun k => ?_) (Ev.step (f := fun k => spec_l1Read.l0 k s 0 0) (fun k => by rw [spec_l1Read.j0, if_neg (by simp)]) h)
   unfold spec_l1Read.f
   rw [l1In_f, Option.bind_some, if_pos (Mine.inB_iff.2 (by omega)), if_pos (by omega)]
   by_cases h0 : L.getD 0 0 = 48
   ·rw [if_pos (show bt s 0 = 48 by rw [show (0 : Int) = ((0 : Nat) : Int) from rfl, hsL 0 (by omega), h0]; rfl), decide_eq_false (show ¬ (s.size : Int) > 1 by intro h; exact hz ⟨h0, by omega⟩)]
   ·rw [if_neg (fun e => h0 (by
     rw [show (0 : Int) = ((0 : Nat) : Int) from rfl, hsL 0 (by omega)] at e
     exact UInt8.toNat_inj.1 (by have : (48 : UInt8).toNat = 48 := rfl; omega)))]
 ·have hbad : digR 6 L = -1 := by
   unfold digR wordB
   rw [decide_eq_false (show ¬ (1 ≤ L.length ∧ L.length ≤ 6) by omega)]
   simp
  rw [hbad]
  refine Ev.congr (f := fun k => spec_l1Read.j0 k s true) (fun k => ?_) (Ev.step (f := fun k => some (-1)) (fun k => by rw [spec_l1Read.j0, if_pos rfl]) (Ev.now _))
  unfold spec_l1Read.f
  rw [l1In_f, Option.bind_some, if_neg (fun e => hsz (by have := Mine.inB_iff.1 e; omega))]
theorem digR_le {m m2 : Nat} (h : m ≤ m2) (l : List UInt8) (hl : l.length ≤ m) : digR m l = digR m2 l := by
 unfold digR wordB
 by_cases h1 : 1 ≤ l.length
 ·rw [decide_eq_true (show 1 ≤ l.length ∧ l.length ≤ m by omega), decide_eq_true (show 1 ≤ l.length ∧ l.length ≤ m2 by omega)]
 ·rw [decide_eq_false (show ¬ (1 ≤ l.length ∧ l.length ≤ m) by omega), decide_eq_false (show ¬ (1 ≤ l.length ∧ l.length ≤ m2) by omega)]
theorem digR_long {m : Nat} {l : List UInt8} (h : m < l.length) : digR m l = -1 := by
 unfold digR wordB
 rw [decide_eq_false (show ¬ (1 ≤ l.length ∧ l.length ≤ m) by omega)]
 simp
theorem digR_neg {m : Nat} {l : List UInt8} : digR m l < 0 ↔ wordB m l = false := by
 unfold digR
 cases h : wordB m l with
 | true => simp
 | false => simp
theorem digR_pos {m : Nat} {l : List UInt8} (h : wordB m l = true) : digR m l = (numL l : Int) := by unfold digR; rw [if_pos h]

theorem within_f (a b c : Int) : impl_within.f a b c = some (Mine.inB b c a) := by
 unfold impl_within.f Mine.inB
 by_cases h : b ≤ a
 ·rw [if_pos h]; simp [h]
 ·rw [if_neg h]; simp [h]

theorem cutL_len (c : UInt8) : ∀ (l cur w : List UInt8), w ∈ cutL c cur l → w.length ≤ cur.length + l.length
 | [], cur, w, h => by
  rw [cutL, List.mem_singleton] at h
  subst h
  simp
 | x :: r, cur, w, h => by
  rw [cutL] at h
  split at h
  ·rcases List.mem_cons.1 h with rfl | h
   ·simp
   ·have := cutL_len c r [] w h
    simp only [List.length_cons, List.length_nil] at this ⊢
    omega
  ·have := cutL_len c r _ w h
   simp only [List.length_append, List.length_cons, List.length_nil] at this ⊢
   omega
theorem cutL_many (c : UInt8) : ∀ (l cur : List UInt8), (cutL c cur l).length ≤ l.length + 1
 | [], cur => by rw [cutL]; simp
 | x :: r, cur => by
  rw [cutL]
  split
  ·have := cutL_many c r []
   simp only [List.length_cons]
   omega
  ·have := cutL_many c r (cur ++ [x])
   simp only [List.length_cons]
   omega
theorem mkB_size (l : List UInt8) : (mkB l).size = l.length := by rw [ba_size, mkB_data]
theorem rdB (ws : List (List UInt8)) (i : Nat) (h : i < ws.length) : rdOf ByteArray.empty (ws.map mkB) (i : Int) = mkB (ws.getD i []) := by
 unfold rdOf
 rw [Int.toNat_natCast]
 simp [List.getD_eq_getElem?_getD, h]
theorem getD_mem_ {α : Type} (ws : List α) (d : α) (i : Nat) (h : i < ws.length) : ws.getD i d ∈ ws := by
 rw [List.getD_eq_getElem?_getD, List.getElem?_eq_getElem h]
 exact List.getElem_mem h
theorem take_next {α : Type} (ws : List α) (d : α) (i : Nat) (h : i < ws.length) : ws.take (i + 1) = ws.take i ++ [ws.getD i d] := by
 rw [List.take_add_one, List.getD_eq_getElem?_getD, List.getElem?_eq_getElem h]
 rfl
def numI (w : List UInt8) : Int := (numL w : Int)
def numsR (m : Nat) (ws : List (List UInt8)) : List Int × Bool := if ws.all (wordB m) = true then (ws.map numI, true) else ([], false)
theorem numbersEv (ws : List (List UInt8)) (m : Nat) (hm : 1 ≤ m) (hm5 : m ≤ 5) (hw : ∀ w ∈ ws, w.length ≤ 1048576) (hn : ws.length ≤ 1048577) : Ev (fun k => impl_numbers.f k (ws.map mkB) (m : Int)) (numsR m ws) := by
 have key : ∀ (n i : Nat), ws.length - i = n → i ≤ ws.length → (ws.take i).all (wordB m) = true → Ev (fun k => impl_numbers.l0 k (m : Int) ((ws.take i).map numI) (ws.map mkB) ((ws.map mkB).length : Int) (i : Int)) (numsR m ws) := by
  intro n
  induction n with
  | zero =>
   intro i hi hi2 hd
   obtain rfl : i = ws.length := by omega
   rw [List.take_length] at hd ⊢
   refine Ev.step (f := fun k => some (numsR m ws)) (fun k => ?_) (Ev.now _)
   rw [impl_numbers.l0, if_neg (by rw [List.length_map]; omega)]
   unfold numsR
   rw [if_pos hd]
  | succ n ih =>
   intro i hi hi2 hd
   have hil : i < ws.length := by omega
   have hdg := digitsEv (mkB (ws.getD i [])) m hm hm5 (by rw [mkB_size]; exact hw _ (getD_mem_ ws [] i hil))
   rw [mkB_data] at hdg
   refine Ev.step (f := fun k => (impl_digits.f k (mkB (ws.getD i [])) (m : Int)).bind fun t => if t < 0 then some ([], false) else if ((ws.take i).map numI).length < 17592186044416 then impl_numbers.l0 k (m : Int) ((ws.take i).map numI ++ [t]) (ws.map mkB) ((ws.map mkB).length : Int) ((i + 1 : Nat) : Int) else none) (fun k => ?_) (Ev.bind hdg ?_)
   ·rw [impl_numbers.l0, if_pos (by rw [List.length_map]; omega), if_pos (by omega), if_pos (by rw [List.length_map]; omega), rdB ws i hil, wrap_small (by omega) (by omega)]
    rfl
   ·cases hb : wordB m (ws.getD i []) with
    | false =>
     have hneg : digR m (ws.getD i []) < 0 := digR_neg.2 hb
     have hall : ws.all (wordB m) = false := by
      rw [List.all_eq_false]
      exact ⟨_, getD_mem_ ws [] i hil, by rw [hb]; simp⟩
     unfold numsR
     rw [hall]
     simp only [if_pos hneg]
     exact Ev.now _
    | true =>
     have hpos := digR_pos hb
     rw [hpos]
     simp only [if_neg (show ¬ ((numL (ws.getD i []) : Nat) : Int) < 0 by omega), if_pos (show ((ws.take i).map numI).length < 17592186044416 by rw [List.length_map, List.length_take]; omega)]
     have h1 := ih (i + 1) (by omega) (by omega) (by rw [take_next ws [] i hil, List.all_append, hd]; simpa using hb)
     rw [take_next ws [] i hil, List.map_append] at h1
     exact h1
 have h := key ws.length 0 (by omega) (by omega) (by simp)
 unfold impl_numbers.f
 exact h

theorem specGroup (n : Int) : spec_IsGroup.f n = some (decide (n = 3 ∨ n = 5)) := by
 unfold spec_IsGroup.f
 by_cases h : n = 3
 ·rw [if_pos h]; simp [h]
 ·rw [if_neg h]; by_cases h5 : n = 5 <;> simp [h, h5]

theorem l1All_l (xs : List Int) (lo hi : Int) (hm : xs.length ≤ 9223372036854775807) : ∀ (d i : Nat), xs.length - i = d → Ev (fun k => spec_l1All.l0 k lo hi xs (xs.length : Int) (i : Int)) (!Mine.anyP (Mine.outB lo hi) (xs.drop i)) := by
 intro d
 induction d with
 | zero =>
  intro i hd
  rw [List.drop_eq_nil_of_le (by omega)]
  exact Ev.step (f := fun _ => some true) (fun k => by simp only [spec_l1All.l0]; rw [if_neg (by omega)]) (Ev.now _)
 | succ d ih =>
  intro i hd
  have hlt : i < xs.length := by omega
  rw [Mine.drop_at xs 0 i hlt, Mine.anyP_cons]
  have body : ∀ k, spec_l1All.l0 (k + 1) lo hi xs (xs.length : Int) (i : Int) = if Mine.inB lo hi (xs.getD i 0) = true then spec_l1All.l0 k lo hi xs (xs.length : Int) ((i + 1 : Nat) : Int) else some false := by
   intro k
   simp only [spec_l1All.l0]
   rw [if_pos (by omega), if_pos (by omega), if_pos (by omega), rd_nat, l1In_f, Option.bind_some, wrap_next hlt hm]
  cases hb : Mine.inB lo hi (xs.getD i 0) with
  | true =>
   refine Ev.step (f := fun k => spec_l1All.l0 k lo hi xs (xs.length : Int) ((i + 1 : Nat) : Int)) (fun k => by rw [body, if_pos hb]) ?_
   have : Mine.outB lo hi (xs.getD i 0) = false := by unfold Mine.outB; rw [hb]; rfl
   rw [this, Bool.false_or]
   exact ih (i + 1) (by omega)
  | false =>
   refine Ev.step (f := fun _ => some false) (fun k => by rw [body, if_neg (by rw [hb]; simp)]) ?_
   have : Mine.outB lo hi (xs.getD i 0) = true := by unfold Mine.outB; rw [hb]; rfl
   rw [this, Bool.true_or]
   exact Ev.now _
theorem l1All_ev (xs : List Int) (lo hi : Int) (hm : xs.length ≤ 9223372036854775807) : Ev (fun k => spec_l1All.f k xs lo hi) (!Mine.anyP (Mine.outB lo hi) xs) := l1All_l xs lo hi hm _ 0 rfl

def goodAttrB (n s : Int) (l : List Int) : Bool := decide (n = 3 ∨ n = 5) && (Mine.inB 0 999 s && (decide ((l.length : Int) = n) && !Mine.anyP (Mine.outB 0 6) l))
theorem l3Attr_ev (n s : Int) (l : List Int) (hm : l.length ≤ 9223372036854775807) : Ev (fun k => spec_l3Attr.f k n s l) (Mine.inB 0 999 s && (decide ((l.length : Int) = n) && !Mine.anyP (Mine.outB 0 6) l)) := by
 unfold spec_l3Attr.f
 cases hs : Mine.inB 0 999 s with
 | false => exact Ev.congr (f := fun _ => some false) (fun k => by rw [l1In_f, Option.bind_some, hs, if_neg (by simp)]) (Ev.now _)
 | true =>
  by_cases hl : (l.length : Int) = n
  ·refine Ev.congr (f := fun k => (spec_l1All.f k l 0 6).bind fun t => some t) (fun k => by rw [l1In_f, Option.bind_some, hs, if_pos rfl, if_pos hl]) ?_
   rw [decide_eq_true hl, Bool.true_and, Bool.true_and]
   exact Ev.bind (l1All_ev l 0 6 hm) (Ev.now _)
  ·rw [decide_eq_false hl, Bool.false_and, Bool.and_false]
   exact Ev.congr (f := fun _ => some false) (fun k => by rw [l1In_f, Option.bind_some, hs, if_pos rfl, if_neg hl]) (Ev.now _)

theorem goodAttr_in {n s : Int} {l : List Int} (h : goodAttrB n s l = true) : (0 ≤ s ∧ s ≤ 999) ∧ l.length ≤ 5 ∧ ∀ x ∈ l, 0 ≤ x ∧ x ≤ 1000000 := by
 unfold goodAttrB at h
 simp only [Bool.and_eq_true, decide_eq_true_eq, Mine.inB_iff, Bool.not_eq_true'] at h
 obtain ⟨h1, h2, h3, h4⟩ := h
 refine ⟨h2, by omega, fun x hx => ?_⟩
 unfold Mine.anyP at h4
 have h5 := List.any_eq_false.1 h4 x hx
 rw [Bool.not_eq_true, Mine.outB_false] at h5
 omega

theorem specGoodAttr_ev (n s : Int) (l : List Int) (hm : l.length ≤ 9223372036854775807) : Ev (fun k => spec_GoodAttr.f k n s l) (goodAttrB n s l) := by
 unfold spec_GoodAttr.f goodAttrB
 cases hg : decide (n = 3 ∨ n = 5) with
 | false => exact Ev.congr (f := fun _ => some false) (fun k => by rw [specGroup, Option.bind_some, hg, if_neg (by simp)]) (Ev.now _)
 | true =>
  refine Ev.congr (f := fun k => (spec_l3Attr.f k n s l).bind fun t => some t) (fun k => by rw [specGroup, Option.bind_some, hg, if_pos rfl]) ?_
  exact Ev.bind (l3Attr_ev n s l hm) (Ev.now _)

def seqR (l : List UInt8) : Int := digR 6 l
theorem wordB_lead {m : Nat} {l : List UInt8} (h : wordB m l = true) : 1 ≤ l.length ∧ l.length ≤ m ∧ l.all isDig = true ∧ (1 < l.length → ¬ l.getD 0 0 = 48) := by
 unfold wordB at h
 simp only [Bool.and_eq_true, decide_eq_true_eq, Bool.not_eq_true', Bool.and_eq_false_iff, decide_eq_false_iff_not] at h
 refine ⟨h.1.1, h.1.2, h.2.1, fun h1 => ?_⟩
 rcases h.2.2 with h2 | h2
 ·exact h2
 ·exact absurd h1 h2
theorem numL_ge : ∀ (n : Nat) (l : List UInt8), l.length = n + 1 → l.all isDig = true → ¬ l.getD 0 0 = 48 → 10 ^ n ≤ numL l := by
 intro n
 induction n with
 | zero =>
  intro l h hd hz
  match l, h with
  | [x], _ =>
   have h2 : isDig x = true := by simpa using hd
   unfold isDig at h2
   rw [decide_eq_true_eq] at h2
   have h3 : ¬ x.toNat = 48 := fun e => hz (UInt8.toNat_inj.1 (by rw [show ([x] : List UInt8).getD 0 0 = x from rfl, e]; rfl))
   show 1 ≤ 10 * 0 + (x.toNat - 48)
   omega
 | succ n ih =>
  intro l h hd hz
  obtain ⟨r, x, rfl⟩ : ∃ r x, l = r ++ [x] := ⟨l.dropLast, l.getLast (by intro e; rw [e] at h; simp at h), (List.dropLast_concat_getLast _).symm⟩
  rw [List.length_append, List.length_cons, List.length_nil] at h
  rw [List.all_append, Bool.and_eq_true] at hd
  have h1 := ih r (by omega) hd.1 (by
   intro e
   apply hz
   rw [List.getD_eq_getElem?_getD, List.getElem?_append_left (by omega), ← List.getD_eq_getElem?_getD]
   exact e)
  rw [numL_snoc, Nat.pow_succ]
  omega
theorem digR_small {m : Nat} {l : List UInt8} {b : Int} (hm : 1 ≤ m) (hb : b < ((10 ^ m : Nat) : Int)) (h0 : 0 ≤ digR 6 l) (h1 : digR 6 l ≤ b) : l.length ≤ m := by
 cases hw : wordB 6 l with
 | false => rw [(show digR 6 l = -1 by unfold digR; rw [hw]; rfl)] at h0; omega
 | true =>
  rw [digR_pos hw] at h1
  obtain ⟨g1, g2, g3, g4⟩ := wordB_lead hw
  rcases Nat.lt_or_ge m l.length with h | h
  ·have h5 := numL_ge (l.length - 1) l (by omega) g3 (g4 (by omega))
   have h6 : 10 ^ m ≤ 10 ^ (l.length - 1) := Nat.pow_le_pow_right (by omega) (by omega)
   omega
  ·exact h
theorem cutL_nil_iff (c : UInt8) (l : List UInt8) (w0 : List UInt8) (r : List (List UInt8)) (h : cutL c [] l = w0 :: r) : (r = [] ∧ w0 = l ∧ ∀ x ∈ l, x ≠ c) ∨ ∃ b, l = w0 ++ c :: b ∧ (∀ x ∈ w0, x ≠ c) ∧ r = cutL c [] b := by
 rcases index_one l c with ⟨_, h2⟩ | ⟨a, b, h1, h2, _⟩
 ·rw [cutL_none c l [] h2, List.nil_append] at h
  injection h with e1 e2
  exact Or.inl ⟨e2.symm, e1.symm, h2⟩
 ·rw [h1, cutL_hit c b a [] h2, List.nil_append] at h
  injection h with e1 e2
  subst e1
  exact Or.inr ⟨b, h1, h2, e2.symm⟩
theorem cut_hit (w0 b : List UInt8) (c : UInt8) (h : ∀ x ∈ w0, x ≠ c) : Go.Lib.cut (w0 ++ c :: b) [c] = (w0, b, true) := by
 rcases index_one (w0 ++ c :: b) c with ⟨_, h2⟩ | ⟨a, b2, h1, h2, h3⟩
 ·exact absurd rfl (h2 c (by simp))
 ·have hz := cutL_hit c b w0 [] h
  rw [h1, cutL_hit c b2 a [] h2, List.nil_append, List.nil_append] at hz
  injection hz with e1 _
  subst e1
  have hb : b2 = b := by simpa using h1.symm
  subst hb
  unfold Go.Lib.cut
  rw [h3, if_pos (by omega), Int.toNat_natCast]
  simp
theorem cut_miss (l : List UInt8) (c : UInt8) (h : ∀ x ∈ l, x ≠ c) : Go.Lib.cut l [c] = (l, [], false) := by
 rcases index_one l c with ⟨h1, _⟩ | ⟨a, b2, h1, _, _⟩
 ·unfold Go.Lib.cut
  rw [h1, if_neg (by omega)]
 ·exact absurd rfl (h c (by rw [h1]; simp))
theorem colon_bad (m : Nat) : ∀ (l cur : List UInt8), (58 : UInt8) ∈ cur ++ l → (cutL 44 cur l).all (wordB m) = false
 | [], cur, h => by
  rw [cutL, List.all_cons, List.all_nil, Bool.and_true]
  rw [List.append_nil] at h
  have hd : cur.all isDig = false := by
   rw [List.all_eq_false]
   exact ⟨58, h, by decide⟩
  unfold wordB
  rw [hd]
  simp
 | x :: r, cur, h => by
  rw [cutL]
  split
  ·rename_i hx
   rw [List.all_cons]
   rcases List.mem_append.1 h with h1 | h1
   ·have hd : cur.all isDig = false := by
     rw [List.all_eq_false]
     exact ⟨58, h1, by decide⟩
    have hw : wordB m cur = false := by
     unfold wordB
     rw [hd]
     simp
    rw [hw, Bool.false_and]
   ·rw [colon_bad m r [] (by
     rcases List.mem_cons.1 h1 with e | e
     ·rw [hx] at e
      exact absurd e (by decide)
     ·simpa using e), Bool.and_false]
  ·exact colon_bad m r (cur ++ [x]) (by simpa using h)
def readAR (n : Int) (L : List UInt8) : Int × List Int × Bool :=
 match cutL 58 [] L with
 | [h, t] => if L.length ≤ 40 ∧ goodAttrB n (digR 6 h) ((cutL 44 [] t).map (digR 6)) = true then (digR 6 h, (cutL 44 [] t).map (digR 6), true) else (0, [], false)
 | _ => (0, [], false)
theorem specLoopA (n sq : Int) (ws : List (List UInt8)) (hn : ws.length ≤ 1048577) : Ev (fun k => spec_ReadAttr.l0 k n (ws.map mkB) ((ws.map mkB).length : Int) 0 sq []) (if goodAttrB n sq (ws.map (digR 6)) = true then (sq, ws.map (digR 6), true) else (0, [], false)) := by
 have key : ∀ (d i : Nat), ws.length - i = d → i ≤ ws.length → Ev (fun k => spec_ReadAttr.l0 k n (ws.map mkB) ((ws.map mkB).length : Int) (i : Int) sq ((ws.take i).map (digR 6))) (if goodAttrB n sq (ws.map (digR 6)) = true then (sq, ws.map (digR 6), true) else (0, [], false)) := by
  intro d
  induction d with
  | zero =>
   intro i hi hi2
   obtain rfl : i = ws.length := by omega
   rw [List.take_length]
   have hg := specGoodAttr_ev n sq (ws.map (digR 6)) (by rw [List.length_map]; omega)
   refine Ev.step (f := fun k => (spec_GoodAttr.f k n sq (ws.map (digR 6))).bind fun t => if t = true then some (sq, ws.map (digR 6), true) else some (0, [], false)) (fun k => by rw [spec_ReadAttr.l0, if_neg (by rw [List.length_map]; omega)]) (Ev.bind hg ?_)
   cases goodAttrB n sq (ws.map (digR 6)) <;> exact Ev.now _
  | succ d ih =>
   intro i hi hi2
   have hil : i < ws.length := by omega
   have hr := l1ReadEv (mkB (ws.getD i []))
   rw [mkB_data] at hr
   have h1 := ih (i + 1) (by omega) (by omega)
   rw [take_next ws [] i hil, List.map_append] at h1
   refine Ev.step (f := fun k => (spec_l1Read.f k (mkB (ws.getD i []))).bind fun t => spec_ReadAttr.l0 k n (ws.map mkB) ((ws.map mkB).length : Int) ((i + 1 : Nat) : Int) sq ((ws.take i).map (digR 6) ++ [t])) (fun k => ?_) (Ev.bind hr h1)
   rw [spec_ReadAttr.l0, if_pos (by rw [List.length_map]; omega), if_pos (by omega), if_pos (by rw [List.length_map]; omega), rdB ws i hil, wrap_small (by omega) (by omega)]
   congr 1
   funext t
   rw [if_pos (by rw [List.length_map, List.length_take]; omega)]
   rfl
 have h := key ws.length 0 (by omega) (by omega)
 simpa using h
theorem specReadA_ev (n : Int) (s : ByteArray) (hs : s.size ≤ 1048576) : Ev (fun k => spec_ReadAttr.f k n s) (readAR n s.data.toList) := by
 have hsp := l1SplitEv s 58 hs
 have hj : ∀ ws, Ev (fun k => spec_ReadAttr.j0 k n ws true) (0, [], false) := fun ws => Ev.step (f := fun _ => some (0, [], false)) (fun k => by rw [spec_ReadAttr.j0, if_pos rfl]) (Ev.now _)
 have hlen := cutL_len 58 s.data.toList []
 unfold spec_ReadAttr.f readAR
 refine Ev.bind hsp ?_
 by_cases hl : s.data.toList.length ≤ 40
 ·simp only [if_neg (show ¬ (s.size : Int) > 40 by rw [ba_size]; omega)]
  have hne := cutL_ne 58 s.data.toList []
  generalize cutL 58 [] s.data.toList = ws at hne hlen
  match ws, hne, hlen with
  | [], hne, _ => exact absurd rfl hne
  | [w0], _, _ => exact hj _
  | [h, t], _, hlen =>
   have hlt := hlen t (by simp)
   simp only [List.length_nil] at hlt
   have hsp2 := l1SplitEv (mkB t) 44 (by rw [mkB_size]; omega)
   have hr := l1ReadEv (mkB h)
   rw [mkB_data] at hsp2 hr
   have hmany := cutL_many 44 t []
   refine Ev.step (f := fun k => (spec_l1Read.f k (mkB h)).bind fun a => (spec_l1Split.f k (mkB t) 44).bind fun b => spec_ReadAttr.l0 k n b (b.length : Int) 0 a []) (fun k => ?_) (Ev.bind hr (Ev.bind hsp2 ?_))
   ·rw [spec_ReadAttr.j0, if_neg (by simp), if_pos (by simp)]
    rw [show rdOf ByteArray.empty ([h, t].map mkB) 0 = mkB h from rfl, show rdOf ByteArray.empty ([h, t].map mkB) 1 = mkB t from rfl]
    congr 1
   ·have hz := specLoopA n (digR 6 h) (cutL 44 [] t) (by omega)
    simp only [hl, true_and]
    exact hz
  | a :: b :: c :: r, _, _ =>
   rw [show ((((a :: b :: c :: r).map mkB).length : Int) != 2) = true by
    rw [bne_iff_ne]
    rw [List.length_map]
    simp only [List.length_cons]
    omega]
   exact hj _
 ·simp only [if_pos (show (s.size : Int) > 40 by rw [ba_size]; omega)]
  have hz : (match cutL 58 [] s.data.toList with
   | [h, t] => if s.data.toList.length ≤ 40 ∧ goodAttrB n (digR 6 h) ((cutL 44 [] t).map (digR 6)) = true then (digR 6 h, (cutL 44 [] t).map (digR 6), true) else (0, [], false)
   | _ => ((0, [], false) : Int × List Int × Bool)) = (0, [], false) := by
   split
   ·rw [if_neg (fun e => hl e.1)]
   ·rfl
  rw [hz]
  exact hj _
theorem read_same (n : Int) (h : List UInt8) (ws : List (List UInt8)) : (ws.all (wordB 1) = true ∧ goodAttrB n (digR 3 h) (ws.map numI) = true ↔ goodAttrB n (digR 6 h) (ws.map (digR 6)) = true) ∧
  (goodAttrB n (digR 6 h) (ws.map (digR 6)) = true → digR 3 h = digR 6 h ∧ ws.map numI = ws.map (digR 6)) := by
 have hword : ∀ w, wordB 1 w = true → numI w = digR 6 w := fun w hw => by
  have h1 := (wordB_lead hw).2.1
  rw [← digR_le (show 1 ≤ 6 by omega) w h1, digR_pos hw]
  rfl
 have down : goodAttrB n (digR 6 h) (ws.map (digR 6)) = true → digR 3 h = digR 6 h ∧ ws.all (wordB 1) = true := by
  intro hg
  have hin := hg
  unfold goodAttrB at hin
  simp only [Bool.and_eq_true, decide_eq_true_eq, Mine.inB_iff, Bool.not_eq_true'] at hin
  obtain ⟨_, h2, _, h4⟩ := hin
  have hl3 : h.length ≤ 3 := digR_small (b := 999) (by omega) (by decide) h2.1 h2.2
  refine ⟨digR_le (by omega) h hl3, List.all_eq_true.2 (fun w hw => ?_)⟩
  unfold Mine.anyP at h4
  have h5 := List.any_eq_false.1 h4 (digR 6 w) (List.mem_map.2 ⟨w, hw, rfl⟩)
  rw [Bool.not_eq_true, Mine.outB_false] at h5
  have hl1 : w.length ≤ 1 := digR_small (b := 6) (by omega) (by decide) h5.1 h5.2
  cases hz : wordB 1 w with
  | true => rfl
  | false =>
   have h6 := digR_neg.2 hz
   rw [digR_le (show 1 ≤ 6 by omega) w hl1] at h6
   omega
 have hmap : ws.all (wordB 1) = true → ws.map numI = ws.map (digR 6) := fun ha => List.map_congr_left (fun w hw => hword w (List.all_eq_true.1 ha w hw))
 refine ⟨⟨fun ⟨ha, hg⟩ => ?_, fun hg => ?_⟩, fun hg => ⟨(down hg).1, hmap (down hg).2⟩⟩
 ·have hin := hg
  unfold goodAttrB at hin
  simp only [Bool.and_eq_true, decide_eq_true_eq, Mine.inB_iff, Bool.not_eq_true'] at hin
  have h2 := hin.2.1
  have hw3 : wordB 3 h = true := by
   cases hz : wordB 3 h with
   | true => rfl
   | false => have := digR_neg.2 hz; omega
  rw [← digR_le (show 3 ≤ 6 by omega) h (wordB_lead hw3).2.1, ← hmap ha]
  exact hg
 ·refine ⟨(down hg).2, ?_⟩
  rw [(down hg).1, hmap (down hg).2]
  exact hg
theorem implReadA_ev (n : Int) (s : ByteArray) (hs : s.size ≤ 1048576) : Ev (fun k => impl_ReadAttr.f k n s) (readAR n s.data.toList) := by
 have hL : s.size = s.data.toList.length := ba_size s
 have main : ∀ (h t : List UInt8) (ok : Bool), Go.Lib.cut s.data.toList [58] = (h, t, ok) → h.length ≤ s.size → t.length ≤ s.size →
   Ev (fun k => impl_ReadAttr.f k n s) (if ok = true ∧ (cutL 44 [] t).all (wordB 1) = true ∧ s.data.toList.length ≤ 40 ∧ goodAttrB n (digR 3 h) ((cutL 44 [] t).map numI) = true then (digR 3 h, (cutL 44 [] t).map numI, true) else (0, [], false)) := by
  intro h t ok hc hh ht
  have e1 : strings_Cut.f s (⟨#[58]⟩ : ByteArray) = some (mkB h, mkB t, ok) := by
   unfold strings_Cut.f
   rw [if_pos (by omega), show (⟨#[58]⟩ : ByteArray).data.toList = [58] from rfl, hc]
   rfl
  have hdg := digitsEv (mkB h) 3 (by omega) (by omega) (by rw [mkB_size]; omega)
  rw [mkB_data] at hdg
  have hsp := splitEv (mkB t) 44 (by rw [mkB_size]; omega)
  rw [mkB_data] at hsp
  have hmany := cutL_many 44 t []
  have hnum := numbersEv (cutL 44 [] t) 1 (by omega) (by omega) (fun w hw => by have := cutL_len 44 t [] w hw; simp only [List.length_nil] at this; omega) (by omega)
  unfold impl_ReadAttr.f
  rw [e1]
  simp only [Option.bind_some]
  refine Ev.bind hdg ?_
  rw [hsp]
  simp only [Option.bind_some]
  refine Ev.bind hnum ?_
  generalize cutL 44 [] t = ws
  unfold numsR
  cases ok with
  | false => simp only [Bool.false_eq_true, if_false, false_and]; exact Ev.now _
  | true =>
   cases ha : ws.all (wordB 1) with
   | false => simp only [Bool.false_eq_true, if_false, if_true, false_and, and_false]; exact Ev.now _
   | true =>
    simp only [if_true, true_and]
    by_cases hl : s.data.toList.length ≤ 40
    ·simp only [if_neg (show ¬ (s.size : Int) > 40 by omega), show impl_GoodAttr.f n (digR 3 h) (ws.map numI) = some (goodAttrB n (digR 3 h) (ws.map numI)) from rfl, Option.bind_some, hl, true_and]
     cases goodAttrB n (digR 3 h) (ws.map numI) <;> exact Ev.now _
    ·simp only [if_pos (show (s.size : Int) > 40 by omega), hl, false_and, if_false]
     exact Ev.now _
 obtain ⟨w0, r, hw⟩ : ∃ w0 r, cutL 58 [] s.data.toList = w0 :: r := List.exists_cons_of_ne_nil (cutL_ne 58 _ _)
 rcases cutL_nil_iff 58 _ _ _ hw with ⟨rfl, rfl, hno⟩ | ⟨b, hb, hno, hr⟩
 ·have h1 := main _ _ _ (cut_miss _ 58 hno) (by omega) (by simp)
  simp only [Bool.false_eq_true, false_and, if_false] at h1
  unfold readAR
  rw [hw]
  exact h1
 ·have hlen := congrArg List.length hb
  rw [List.length_append, List.length_cons] at hlen
  have hcut : Go.Lib.cut s.data.toList [58] = (w0, b, true) := by rw [hb]; exact cut_hit w0 b 58 hno
  have h1 := main _ _ _ hcut (by omega) (by omega)
  have hs1 := read_same n w0 (cutL 44 [] b)
  unfold readAR
  rw [hw]
  rcases index_one b 58 with ⟨_, h2⟩ | ⟨a, b2, h2, h3, _⟩
  ·rw [cutL_none 58 b [] h2, List.nil_append] at hr
   subst hr
   by_cases hg : s.data.toList.length ≤ 40 ∧ goodAttrB n (digR 6 w0) ((cutL 44 [] b).map (digR 6)) = true
   ·rw [if_pos ⟨rfl, (hs1.1.2 hg.2).1, hg.1, (hs1.1.2 hg.2).2⟩, (hs1.2 hg.2).1, (hs1.2 hg.2).2] at h1
    simp only [if_pos hg]
    exact h1
   ·rw [if_neg (fun e => hg ⟨e.2.2.1, hs1.1.1 ⟨e.2.1, e.2.2.2⟩⟩)] at h1
    simp only [if_neg hg]
    exact h1
  ·have hbad : (cutL 44 [] b).all (wordB 1) = false := colon_bad 1 b [] (by rw [h2]; simp)
   rw [if_neg (fun e => by rw [hbad] at e; exact absurd e.2.1 (by simp))] at h1
   rw [h2, cutL_hit 58 b2 a [] h3] at hr
   obtain ⟨c, d, hcd⟩ := List.exists_cons_of_ne_nil (cutL_ne 58 b2 [])
   rw [hr, hcd]
   exact h1
theorem readAR_len (n : Int) (L : List UInt8) : (readAR n L).2.1.length ≤ 5 := by
 unfold readAR
 split
 ·split
  ·rename_i hg
   exact (goodAttr_in hg.2).2.1
  ·simp
 ·simp

theorem decDigits_all (u : Nat) : (Go.Lib.decDigits u).all isDig = true := by
 induction u using Nat.strongRecOn with
 | _ u ih =>
  have hd : ∀ d : Nat, d < 10 → isDig (UInt8.ofNat (48 + d)) = true := by decide
  rw [Go.Lib.decDigits]
  split
  ·rename_i h
   rw [List.all_cons, List.all_nil, hd u h]
   rfl
  ·rename_i h
   rw [List.all_append, ih (u / 10) (by omega), List.all_cons, List.all_nil, hd (u % 10) (by omega)]
   rfl
theorem digit_num : ∀ d : Nat, d < 10 → (UInt8.ofNat (48 + d)).toNat - 48 = d := by decide
theorem decDigits_num (u : Nat) : numL (Go.Lib.decDigits u) = u := by
 induction u using Nat.strongRecOn with
 | _ u ih =>
  rw [Go.Lib.decDigits]
  split
  ·rename_i h
   show 10 * 0 + ((UInt8.ofNat (48 + u)).toNat - 48) = u
   rw [digit_num u h]
   omega
  ·rename_i h
   rw [numL_snoc, ih (u / 10) (by omega), digit_num (u % 10) (by omega)]
   omega
theorem decDigits_pos (u : Nat) : 1 ≤ (Go.Lib.decDigits u).length := by
 rw [Go.Lib.decDigits_length]
 exact Go.Lib.nDigits_pos u
theorem decDigits_head (u : Nat) : (Go.Lib.decDigits u).getD 0 0 = 48 → u = 0 := by
 induction u using Nat.strongRecOn with
 | _ u ih =>
  have h0 : ∀ d : Nat, d < 10 → UInt8.ofNat (48 + d) = 48 → d = 0 := by decide
  intro h
  rw [Go.Lib.decDigits] at h
  split at h
  ·rename_i hu
   exact h0 u hu h
  ·rename_i hu
   have hp := decDigits_pos (u / 10)
   rw [List.getD_eq_getElem?_getD, List.getElem?_append_left (by omega), ← List.getD_eq_getElem?_getD] at h
   have := ih (u / 10) (by omega) h
   omega
theorem decDigits_four (u : Nat) (h : u < 10000) : (Go.Lib.decDigits u).length ≤ 4 := by
 rw [Go.Lib.decDigits_length]
 by_cases h1 : u < 10
 ·rw [Go.Lib.nDigits_small h1]; omega
 ·rw [Go.Lib.nDigits_big h1]
  by_cases h2 : u / 10 < 10
  ·rw [Go.Lib.nDigits_small h2]; omega
  ·rw [Go.Lib.nDigits_big h2]
   by_cases h3 : u / 10 / 10 < 10
   ·rw [Go.Lib.nDigits_small h3]; omega
   ·rw [Go.Lib.nDigits_big h3, Go.Lib.nDigits_small (show u / 10 / 10 / 10 < 10 by omega)]; omega
theorem word_of (n : Int) (h0 : 0 ≤ n) (h1 : n ≤ 1000) : wordB 4 (Go.Lib.itoa n) = true ∧ numI (Go.Lib.itoa n) = n ∧ ∀ x ∈ Go.Lib.itoa n, x ≠ 32 ∧ x ≠ 44 ∧ x ≠ 58 := by
 obtain ⟨u, rfl⟩ : ∃ u : Nat, n = u := ⟨n.toNat, by omega⟩
 rw [Go.Lib.itoa_nonneg]
 have ha := decDigits_all u
 refine ⟨?_, by unfold numI; rw [decDigits_num], fun x hx => ?_⟩
 ·unfold wordB
  rw [decide_eq_true (show 1 ≤ (Go.Lib.decDigits u).length ∧ (Go.Lib.decDigits u).length ≤ 4 from ⟨decDigits_pos u, decDigits_four u (by omega)⟩), ha]
  by_cases hz : (Go.Lib.decDigits u).getD 0 0 = 48
  ·have := decDigits_head u hz
   subst this
   rw [decide_eq_false (show ¬ 1 < (Go.Lib.decDigits 0).length by rw [Go.Lib.decDigits]; decide), Bool.and_false]
   rfl
  ·rw [decide_eq_false hz]
   rfl
 ·have h := List.all_eq_true.1 ha x hx
  unfold isDig at h
  rw [decide_eq_true_eq] at h
  refine ⟨fun e => ?_, fun e => ?_, fun e => ?_⟩ <;> (subst e; revert h; decide)

def numB (n : Int) : ByteArray := ⟨(Go.Lib.itoa n).toArray⟩
theorem numB_data (n : Int) : (numB n).data.toList = Go.Lib.itoa n := rfl
theorem numB_size (n : Int) (h0 : 0 ≤ n) (h1 : n ≤ 9223372036854775807) : (numB n).size ≤ 21 := by
 rw [ba_size, numB_data]
 exact Go.Lib.itoa_length_le n (by omega) h1
theorem l1Num_ev (u : Nat) : u ≤ 9223372036854775800 → Ev (fun k => spec_l1Num.f k (u : Int)) (numB (u : Int)) := by
 induction u using Nat.strongRecOn with
 | _ u ih =>
  intro hu
  by_cases h : u < 10
  ·refine Ev.step (f := fun k => some (numB (u : Int))) (fun k => ?_) (Ev.now _)
   rw [spec_l1Num.f, if_pos (show (u : Int) < 10 by omega)]
   congr 1
   refine ba_ext ?_
   rw [numB_data, Go.Lib.itoa_nonneg, Go.Lib.decDigits, dif_pos h, strOfNums_data, wrap_small (by omega) (by omega)]
   simp only [List.map_cons, List.map_nil]
   congr 1
   rw [show ((48 + (u : Int)) % 256).toNat = 48 + u by omega]
  ·have h1 := ih (u / 10) (by omega) (by omega)
   have hd : (wrap64 (48 + Int.tmod (u : Int) 10)) % 256 = ((48 + u % 10 : Nat) : Int) := by
    rw [show Int.tmod (u : Int) 10 = ((u % 10 : Nat) : Int) by rw [show (10 : Int) = ((10 : Nat) : Int) from rfl, ← Int.ofNat_tmod], wrap_small (by omega) (by omega)]
    omega
   refine Ev.step (f := fun k => (spec_l1Num.f k ((u / 10 : Nat) : Int)).bind fun t => if t.size + (strOfNums [((48 + u % 10 : Nat) : Int)]).size ≤ 9223372036854775807 then some (t ++ strOfNums [((48 + u % 10 : Nat) : Int)]) else none) (fun k => ?_) ?_
   ·rw [spec_l1Num.f, if_neg (show ¬ (u : Int) < 10 by omega), hd, show wrap64 (Int.tdiv (u : Int) 10) = ((u / 10 : Nat) : Int) by rw [show (10 : Int) = ((10 : Nat) : Int) from rfl, ← Int.ofNat_tdiv, wrap_small (by omega) (by omega)]]
    rfl
   ·have hs := numB_size ((u / 10 : Nat) : Int) (by omega) (by omega)
    refine Ev.bind h1 (Ev.const ?_)
    rw [if_pos (by rw [strOfNums_size]; simp only [List.length_cons, List.length_nil]; omega)]
    congr 1
    refine ba_ext ?_
    rw [ba_append, numB_data, numB_data, Go.Lib.itoa_nonneg, Go.Lib.itoa_nonneg, strOfNums_data]
    conv => rhs; rw [Go.Lib.decDigits, dif_neg h]
    simp only [List.map_cons, List.map_nil, Int.toNat_natCast]
theorem numEv (n : Int) (h0 : 0 ≤ n) (h1 : n ≤ 1000000) : Ev (fun k => spec_l1Num.f k n) (numB n) := by
 obtain ⟨u, rfl⟩ : ∃ u : Nat, n = u := ⟨n.toNat, by omega⟩
 exact l1Num_ev u (by omega)

def joinB (sep : ByteArray) (l : List Int) : ByteArray := ⟨(Go.Lib.join (l.map Go.Lib.itoa) sep.data.toList).toArray⟩
theorem joinB_data (sep : ByteArray) (l : List Int) : (joinB sep l).data.toList = Go.Lib.join (l.map Go.Lib.itoa) sep.data.toList := rfl
theorem joinB_le (sep : ByteArray) (l : List Int) (hl : ∀ x ∈ l, 0 ≤ x ∧ x ≤ 1000000) : (joinB sep l).size ≤ l.length * (21 + sep.size) := by
 rw [ba_size, joinB_data, ba_size]
 have h := join_le sep.data.toList 21 (l.map Go.Lib.itoa) (fun x hx => by
  obtain ⟨y, hy, rfl⟩ := List.mem_map.1 hx
  exact Go.Lib.itoa_length_le y (by have := hl y hy; omega) (by have := hl y hy; omega))
 rwa [List.length_map] at h
theorem joinedEv (sep : ByteArray) (l : List Int) (hs : sep.size ≤ 100) (hn : l.length ≤ 1000) (hl : ∀ x ∈ l, 0 ≤ x ∧ x ≤ 1000000) : Ev (fun k => impl_joined.f k sep l) (joinB sep l) := by
 have key : ∀ (n i : Nat) (acc : List ByteArray), l.length - i = n → i ≤ l.length → acc = (l.take i).map numB → Ev (fun k => impl_joined.l0 k sep acc l (l.length : Int) (i : Int)) (joinB sep l) := by
  intro n
  induction n with
  | zero =>
   intro i acc hi hi2 ha
   obtain rfl : i = l.length := by omega
   rw [List.take_of_length_le (Nat.le_refl _)] at ha
   have hm : acc.map (·.data.toList) = l.map Go.Lib.itoa := by
    rw [ha, List.map_map]
    exact List.map_congr_left (fun x _ => numB_data x)
   have hle := joinB_le sep l hl
   have hle2 : l.length * (21 + sep.size) ≤ 1000 * 121 := Nat.mul_le_mul hn (by omega)
   rw [ba_size, joinB_data] at hle
   refine Ev.step (f := fun k => (strings_Join.f acc sep).bind fun t => some t) (fun k => by rw [impl_joined.l0, if_neg (by omega)]) ?_
   unfold strings_Join.f
   rw [hm, if_pos ⟨by rw [ha, List.length_map]; omega, by omega⟩]
   exact Ev.now _
  | succ n ih =>
   intro i acc hi hi2 ha
   have hil : i < l.length := by omega
   have hx := hl (l.getD i 0) (by rw [List.getD_eq_getElem?_getD, List.getElem?_eq_getElem hil]; exact List.getElem_mem hil)
   refine Ev.step (f := fun k => impl_joined.l0 k sep (acc ++ [numB (l.getD i 0)]) l (l.length : Int) ((i + 1 : Nat) : Int)) (fun k => ?_) (ih (i + 1) _ (by omega) (by omega) ?_)
   ·rw [impl_joined.l0, if_pos (by omega), if_pos (by omega), if_pos (by omega), rd_nat]
    unfold strconv_Itoa.f
    rw [if_pos (by omega), Option.bind_some, if_pos (by rw [ha, List.length_map, List.length_take]; omega), wrap_next hil (by omega)]
    rfl
   ·rw [ha, List.take_add_one, List.map_append, List.getD_eq_getElem?_getD, List.getElem?_eq_getElem hil]
    rfl
 have h := key l.length 0 [] (by omega) (by omega) (by simp)
 unfold impl_joined.f
 exact h

def attrT (s : Int) (l : List Int) : ByteArray := (numB s ++ (⟨#[58]⟩ : ByteArray)) ++ joinB (⟨#[44]⟩ : ByteArray) l
theorem joinB_snoc (l : List Int) (x : Int) (h : l ≠ []) : joinB (⟨#[44]⟩ : ByteArray) (l ++ [x]) = (joinB (⟨#[44]⟩ : ByteArray) l ++ (⟨#[44]⟩ : ByteArray)) ++ numB x := by
 refine ba_ext ?_
 cases l with
 | nil => exact absurd rfl h
 | cons y r =>
  simp only [ba_append, joinB_data, numB_data, List.cons_append, List.map_cons, List.map_append, List.map_nil, Go.Lib.join_cons, Go.Lib.joinTail, List.flatten_append, List.flatten_cons, List.flatten_nil, List.append_nil, List.append_assoc]
theorem joinB_one (x : Int) : joinB (⟨#[44]⟩ : ByteArray) [x] = (⟨#[]⟩ : ByteArray) ++ numB x := by
 refine ba_ext ?_
 rw [ba_append, joinB_data, numB_data, List.map_cons, List.map_nil, Go.Lib.join_one]
 rfl
theorem l3ListEv (l : List Int) (hn : l.length ≤ 5) (hl : ∀ x ∈ l, 0 ≤ x ∧ x ≤ 1000000) : Ev (fun k => spec_l3List.f k l) (joinB (⟨#[44]⟩ : ByteArray) l) := by
 have m1 : (⟨#[44]⟩ : ByteArray).size = 1 := rfl
 have key : ∀ (n i : Nat), l.length - i = n → i ≤ l.length → Ev (fun k => spec_l3List.l0 k (joinB (⟨#[44]⟩ : ByteArray) (l.take i)) l (l.length : Int) (i : Int)) (joinB (⟨#[44]⟩ : ByteArray) l) := by
  intro n
  induction n with
  | zero =>
   intro i hi hi2
   obtain rfl : i = l.length := by omega
   rw [List.take_of_length_le (Nat.le_refl _)]
   exact Ev.step (f := fun k => some _) (fun k => by rw [spec_l3List.l0, if_neg (by omega)]) (Ev.now _)
  | succ n ih =>
   intro i hi hi2
   have hil : i < l.length := by omega
   have hx := hl (l.getD i 0) (by rw [List.getD_eq_getElem?_getD, List.getElem?_eq_getElem hil]; exact List.getElem_mem hil)
   have ht : l.take (i + 1) = l.take i ++ [l.getD i 0] := by
    rw [List.take_add_one, List.getD_eq_getElem?_getD, List.getElem?_eq_getElem hil]
    rfl
   have hz := joinB_le (⟨#[44]⟩ : ByteArray) (l.take i) (fun x hx => hl x (List.mem_of_mem_take hx))
   have hz2 : (l.take i).length * (21 + (⟨#[44]⟩ : ByteArray).size) ≤ 5 * 22 := Nat.mul_le_mul (by rw [List.length_take]; omega) (by rw [m1]; omega)
   have hs := numB_size (l.getD i 0) (by omega) (by omega)
   have hnext := ih (i + 1) (by omega) (by omega)
   by_cases h0 : i = 0
   ·subst h0
    rw [ht, List.take_zero, List.nil_append, joinB_one] at hnext
    refine Ev.step (f := fun k => (spec_l1Num.f k (l.getD 0 0)).bind fun t => if (⟨#[]⟩ : ByteArray).size + t.size ≤ 9223372036854775807 then spec_l3List.l0 k ((⟨#[]⟩ : ByteArray) ++ t) l (l.length : Int) ((0 + 1 : Nat) : Int) else none) (fun k => ?_) (Ev.bind (numEv _ (by omega) (by omega)) ?_)
    ·rw [spec_l3List.l0, if_pos (by omega), if_pos (by omega), if_pos (by omega), if_neg (by omega), rd_nat, wrap_next hil (by omega)]
     rfl
    ·have m0 : (⟨#[]⟩ : ByteArray).size = 0 := rfl
     simp only [m0]
     simp (disch := omega) only [if_pos]
     exact hnext
   ·rw [ht, joinB_snoc _ _ (by intro e; have := congrArg List.length e; rw [List.length_take, List.length_nil] at this; omega)] at hnext
    generalize hA : joinB (⟨#[44]⟩ : ByteArray) (l.take i) = A at hnext hz ⊢
    refine Ev.step (f := fun k => (spec_l1Num.f k (l.getD i 0)).bind fun t => if (A ++ (⟨#[44]⟩ : ByteArray)).size + t.size ≤ 9223372036854775807 then spec_l3List.l0 k ((A ++ (⟨#[44]⟩ : ByteArray)) ++ t) l (l.length : Int) ((i + 1 : Nat) : Int) else none) (fun k => ?_) (Ev.bind (numEv _ (by omega) (by omega)) ?_)
    ·rw [spec_l3List.l0, if_pos (by omega), if_pos (by omega), if_pos (by omega), if_pos (by omega), if_pos (by omega), rd_nat, wrap_next hil (by omega)]
    ·simp only [ByteArray.size_append, m1]
     simp (disch := omega) only [if_pos]
     exact hnext
 have h := key l.length 0 (by omega) (by omega)
 unfold spec_l3List.f
 exact h
theorem specAttrText_ev {n s : Int} {l : List Int} (h : goodAttrB n s l = true) : Ev (fun k => spec_l3Text.f k s l) (attrT s l) := by
 obtain ⟨h1, h2, h3⟩ := goodAttr_in h
 have s1 := numB_size s (by omega) (by omega)
 have hz := joinB_le (⟨#[44]⟩ : ByteArray) l h3
 have m1 : (⟨#[44]⟩ : ByteArray).size = 1 := rfl
 have m2 : (⟨#[58]⟩ : ByteArray).size = 1 := rfl
 rw [m1] at hz
 unfold spec_l3Text.f attrT
 refine Ev.bind (numEv s (by omega) (by omega)) ?_
 simp (disch := omega) only [if_pos]
 refine Ev.bind (l3ListEv l h2 h3) ?_
 simp only [ByteArray.size_append, m2]
 simp (disch := omega) only [if_pos]
 exact Ev.now _
theorem implAttrText_ev {n s : Int} {l : List Int} (h : goodAttrB n s l = true) : Ev (fun k => impl_attrText.f k s l) (attrT s l) := by
 obtain ⟨h1, h2, h3⟩ := goodAttr_in h
 have s1 := numB_size s (by omega) (by omega)
 have hz := joinB_le (⟨#[44]⟩ : ByteArray) l h3
 have m1 : (⟨#[44]⟩ : ByteArray).size = 1 := rfl
 have m2 : (⟨#[58]⟩ : ByteArray).size = 1 := rfl
 rw [m1] at hz
 have hI : strconv_Itoa.f s = some (numB s) := by unfold strconv_Itoa.f; rw [if_pos (by omega)]; rfl
 unfold impl_attrText.f attrT
 simp only [hI, Option.bind_some]
 simp (disch := omega) only [if_pos]
 refine Ev.bind (joinedEv _ l (by decide) (by omega) h3) ?_
 simp only [ByteArray.size_append, m2]
 simp (disch := omega) only [if_pos]
 exact Ev.now _
def attrTextR (n s : Int) (l : List Int) : ByteArray × Bool := if goodAttrB n s l = true then (attrT s l, true) else ((⟨#[]⟩ : ByteArray), false)
theorem specAttrTextR_ev (n s : Int) (l : List Int) (hm : l.length ≤ 9223372036854775807) : Ev (fun k => spec_AttrText.f k n s l) (attrTextR n s l) := by
 unfold spec_AttrText.f attrTextR
 refine Ev.bind (specGoodAttr_ev n s l hm) ?_
 cases hg : goodAttrB n s l with
 | false => simpa using Ev.now _
 | true =>
  simp only [if_true]
  exact Ev.bind (specAttrText_ev hg) (Ev.now _)
theorem implAttrTextR_ev (n s : Int) (l : List Int) : Ev (fun k => impl_AttrText.f k n s l) (attrTextR n s l) := by
 unfold impl_AttrText.f attrTextR
 rw [show impl_GoodAttr.f n s l = some (goodAttrB n s l) from rfl]
 simp only [Option.bind_some]
 cases hg : goodAttrB n s l with
 | false => simpa using Ev.now _
 | true =>
  simp only [if_true]
  exact Ev.bind (implAttrText_ev hg) (Ev.now _)

theorem dig6_of (n : Int) (h0 : 0 ≤ n) (h1 : n ≤ 1000) : digR 6 (Go.Lib.itoa n) = n ∧ (Go.Lib.itoa n).length ≤ 4 := by
 obtain ⟨p, q, _⟩ := word_of n h0 h1
 have hl : (Go.Lib.itoa n).length ≤ 4 := (wordB_lead p).2.1
 refine ⟨?_, hl⟩
 rw [← digR_le (show 4 ≤ 6 by omega) _ hl, digR_pos p]
 exact q
theorem cut_join : ∀ (xs : List (List UInt8)) (x : List UInt8), (∀ y ∈ x :: xs, ∀ z ∈ y, z ≠ 44) → cutL 44 [] (Go.Lib.join (x :: xs) [44]) = x :: xs
 | [], x, h => by rw [Go.Lib.join_one, cutL_none 44 x [] (fun z hz => h x (by simp) z hz), List.nil_append]
 | y :: r, x, h => by
  have e : Go.Lib.join (x :: y :: r) [44] = x ++ 44 :: Go.Lib.join (y :: r) [44] := by
   rw [Go.Lib.join_cons, Go.Lib.join_cons]
   simp only [Go.Lib.joinTail, List.map_cons, List.flatten_cons, List.singleton_append, List.cons_append, List.nil_append, List.append_assoc]
  rw [e, cutL_hit 44 _ x [] (fun z hz => h x (by simp) z hz), List.nil_append, cut_join r y (fun q hq => h q (List.mem_cons_of_mem _ hq))]
theorem join_mem (c : UInt8) (hc : (44 : UInt8) ≠ c) : ∀ (xs : List (List UInt8)), (∀ y ∈ xs, ∀ z ∈ y, z ≠ c) → ∀ z ∈ Go.Lib.join xs [44], z ≠ c
 | [], _ => by simp [Go.Lib.join_nil]
 | x :: xs, h => by
  intro z hz
  rw [Go.Lib.join_cons, List.mem_append] at hz
  rcases hz with hz | hz
  ·exact h x (by simp) z hz
  ·unfold Go.Lib.joinTail at hz
   obtain ⟨l, hl, hz⟩ := List.mem_flatten.1 hz
   obtain ⟨y, hy, rfl⟩ := List.mem_map.1 hl
   rcases List.mem_append.1 hz with hz | hz
   ·rw [List.mem_singleton] at hz; rw [hz]; exact hc
   ·exact h y (by simp [hy]) z hz
theorem goodAttr_six {n s : Int} {l : List Int} (h : goodAttrB n s l = true) : (n = 3 ∨ n = 5) ∧ (0 ≤ s ∧ s ≤ 999) ∧ (l.length : Int) = n ∧ ∀ x ∈ l, 0 ≤ x ∧ x ≤ 6 := by
 unfold goodAttrB at h
 simp only [Bool.and_eq_true, decide_eq_true_eq, Mine.inB_iff, Bool.not_eq_true'] at h
 obtain ⟨h1, h2, h3, h4⟩ := h
 exact ⟨h1, h2, h3, fun x hx => Mine.outB_false.1 (Mine.anyP_false.1 h4 x hx)⟩
theorem attrT_data (s : Int) (l : List Int) : (attrT s l).data.toList = Go.Lib.itoa s ++ 58 :: Go.Lib.join (l.map Go.Lib.itoa) [44] := by
 unfold attrT
 rw [ba_append, ba_append, numB_data, joinB_data]
 simp
theorem attrT_len {n s : Int} {l : List Int} (h : goodAttrB n s l = true) : (attrT s l).data.toList.length ≤ 40 := by
 obtain ⟨h1, h2, h3, h4⟩ := goodAttr_six h
 have hj := join_le [44] 4 (l.map Go.Lib.itoa) (fun x hx => by
  obtain ⟨y, hy, rfl⟩ := List.mem_map.1 hx
  exact (dig6_of y (h4 y hy).1 (by have := h4 y hy; omega)).2)
 have h5 := (dig6_of s h2.1 (by omega)).2
 rw [attrT_data, List.length_append, List.length_cons]
 rw [List.length_map] at hj
 have h6 : l.length ≤ 5 := by omega
 have h7 : l.length * (4 + ([44] : List UInt8).length) ≤ 5 * (4 + ([44] : List UInt8).length) := Nat.mul_le_mul_right _ h6
 have h8 : ([44] : List UInt8).length = 1 := rfl
 rw [h8] at h7 hj
 omega
theorem readA_text {n s : Int} {l : List Int} (h : goodAttrB n s l = true) : readAR n (attrT s l).data.toList = (s, l, true) := by
 have hlen := attrT_len h
 obtain ⟨h1, h2, h3, h4⟩ := goodAttr_six h
 obtain ⟨_, _, n1⟩ := word_of s h2.1 (by omega)
 have hw : ∀ y ∈ l.map Go.Lib.itoa, ∀ z ∈ y, z ≠ 32 ∧ z ≠ 44 ∧ z ≠ 58 := by
  intro y hy
  obtain ⟨x, hx, rfl⟩ := List.mem_map.1 hy
  exact (word_of x (h4 x hx).1 (by have := h4 x hx; omega)).2.2
 have hc : cutL 58 [] (attrT s l).data.toList = [Go.Lib.itoa s, Go.Lib.join (l.map Go.Lib.itoa) [44]] := by
  rw [attrT_data, cutL_hit 58 _ _ [] (fun x hx => (n1 x hx).2.2), cutL_none 58 _ [] (join_mem 58 (by decide) _ (fun y hy z hz => (hw y hy z hz).2.2))]
  simp only [List.nil_append]
 have hne : ∃ x xs, l.map Go.Lib.itoa = x :: xs := List.exists_cons_of_ne_nil (by
  intro e
  have := congrArg List.length e
  rw [List.length_map, List.length_nil] at this
  omega)
 have hc2 : cutL 44 [] (Go.Lib.join (l.map Go.Lib.itoa) [44]) = l.map Go.Lib.itoa := by
  obtain ⟨x, xs, e⟩ := hne
  rw [e] at hw ⊢
  exact cut_join xs x (fun y hy z hz => (hw y hy z hz).2.1)
 have hm : (l.map Go.Lib.itoa).map (digR 6) = l := by
  rw [List.map_map]
  conv => rhs; rw [← List.map_id l]
  exact List.map_congr_left (fun x hx => (dig6_of x (h4 x hx).1 (by have := h4 x hx; omega)).1)
 have hd := (dig6_of s h2.1 (by omega)).1
 unfold readAR
 rw [hc]
 dsimp only
 rw [hc2, hm, hd, if_pos ⟨hlen, h⟩]

/-! what the cursor of the draws gives -/
theorem and255 (x : Int) : 0 ≤ wrap64 (Go.bits .and .u64 x 255) ∧ wrap64 (Go.bits .and .u64 x 255) ≤ 255 := by
 have h : ∃ n : Nat, n ≤ 255 ∧ Go.bits .and .u64 x 255 = (n : Int) := by
  refine ⟨(BitVec.ofInt 64 x &&& BitVec.ofInt 64 255).toNat, ?_, ?_⟩
  ·rw [BitVec.toNat_and]
   exact Nat.le_trans (Nat.and_le_right) (by decide)
  ·have hle : (BitVec.ofInt 64 x &&& BitVec.ofInt 64 255).toNat ≤ 255 := by
    rw [BitVec.toNat_and]; exact Nat.le_trans (Nat.and_le_right) (by decide)
   show IntKind.u64.wrap (((BitVec.ofInt 64 x &&& BitVec.ofInt 64 255).toNat : Nat) : Int) = _
   generalize (BitVec.ofInt 64 x &&& BitVec.ofInt 64 255).toNat = m at hle
   simp [IntKind.wrap, IntKind.min, IntKind.max, IntKind.signed, IntKind.bits]
   omega
 obtain ⟨n, hn, e⟩ := h
 rw [e]
 unfold wrap64
 omega
theorem u8s {l : List Int} (h : ∀ y ∈ l, (Lit.int .u8 y).wf = true) : ∀ y ∈ l, 0 ≤ y ∧ y ≤ 255 := by
 intro y hy
 have := h y hy
 simp [Lit.wf, IntKind.min, IntKind.max, IntKind.signed, IntKind.bits] at this
 omega
theorem rd_mem {l : List Int} {a : Int} (h0 : 0 ≤ a) (h : a < (l.length : Int)) : rd l a ∈ l := by
 unfold rd
 rw [List.getD_eq_getElem?_getD, List.getElem?_eq_getElem (show a.toNat < l.length by omega)]
 exact List.getElem_mem _
theorem next_ok (l : List Int) (a s : Int) (hu : ∀ y ∈ l, 0 ≤ y ∧ y ≤ 255) (h0 : 0 ≤ a) (h1 : a ≤ 4611686018427387904) : ∃ v s', spec_l1Cur_next.f l a s = some (v, a + 1, s') ∧ 0 ≤ v ∧ v ≤ 255 := by
 have hw : wrap64 (a + 1) = a + 1 := by unfold wrap64; omega
 unfold spec_l1Cur_next.f
 rw [hw]
 by_cases h : a < (l.length : Int)
 ·rw [if_pos h, if_pos h0, if_pos (by omega)]
  have := hu _ (rd_mem h0 h)
  exact ⟨_, _, rfl, by unfold wrap64; omega, by unfold wrap64; omega⟩
 ·rw [if_neg h, if_neg (by omega)]
  exact ⟨_, _, rfl, (and255 _).1, (and255 _).2⟩
theorem pick_ok (l : List Int) (a s n : Int) (hu : ∀ y ∈ l, 0 ≤ y ∧ y ≤ 255) (h0 : 0 ≤ a) (h1 : a ≤ 2305843009213693952) (hn : 1 ≤ n) (hn' : n ≤ 65536) : ∃ v a' s', spec_l1Cur_pick.f l a s n = some (v, a', s') ∧ 0 ≤ v ∧ v < n ∧ a ≤ a' ∧ a' ≤ a + 2 := by
 unfold spec_l1Cur_pick.f
 by_cases h : n ≤ 1
 ·rw [if_pos h]; exact ⟨0, a, s, rfl, by omega, by omega, by omega, by omega⟩
 rw [if_neg h]
 obtain ⟨v, s', e, hv, hv'⟩ := next_ok l a s hu h0 (by omega)
 rw [e, Option.bind_some]
 dsimp only
 by_cases h2 : n > 200
 ·rw [if_pos h2]
  obtain ⟨v2, s2, e2, hv2, hv2'⟩ := next_ok l (a + 1) s' hu (by omega) (by omega)
  rw [e2, Option.bind_some, if_neg (by omega)]
  have hw : wrap64 (wrap64 (v * 256) + v2) = v * 256 + v2 := by unfold wrap64; omega
  dsimp only
  rw [hw]
  exact ⟨_, _, _, rfl, Int.tmod_nonneg _ (by omega), Int.tmod_lt_of_pos _ (by omega), by omega, by omega⟩
 ·rw [if_neg h2, if_neg (by omega)]
  exact ⟨_, _, _, rfl, Int.tmod_nonneg _ hv, Int.tmod_lt_of_pos _ (by omega), by omega, by omega⟩

theorem among_ok (l : List Int) (a s : Int) (xs : List Int) (hu : ∀ y ∈ l, 0 ≤ y ∧ y ≤ 255) (h0 : 0 ≤ a) (h1 : a ≤ 2305843009213693952) (hn : 1 ≤ xs.length) (hn' : xs.length ≤ 65536) : ∃ v a' s', spec_l1Cur_among.f l a s xs = some (v, a', s') ∧ v ∈ xs ∧ a ≤ a' ∧ a' ≤ a + 2 := by
 unfold spec_l1Cur_among.f
 obtain ⟨v, a', s', e, hv, hv', ha, ha'⟩ := pick_ok l a s (xs.length : Int) hu h0 h1 (by omega) (by omega)
 rw [e, Option.bind_some]
 dsimp only
 rw [if_pos hv, if_pos hv']
 exact ⟨_, _, _, rfl, rd_mem hv hv', ha, ha'⟩

theorem group_ok (l : List Int) (a s : Int) (hu : ∀ y ∈ l, 0 ≤ y ∧ y ≤ 255) (h0 : 0 ≤ a) (h1 : a ≤ 2305843009213693952) : ∃ v a' s', spec_l1Cur_group.f l a s = some (v, a', s') ∧ (v = 0 ∨ v = 3 ∨ v = 4 ∨ v = 5) ∧ a ≤ a' ∧ a' ≤ a + 2 := by
 unfold spec_l1Cur_group.f
 obtain ⟨v, a', s', e, hv, ha, ha'⟩ := among_ok l a s [3, 3, 3, 5, 5, 4, 0] hu h0 h1 (by decide) (by decide)
 rw [e, Option.bind_some]
 refine ⟨_, _, _, rfl, ?_, ha, ha'⟩
 simp at hv
 omega

theorem drawAttr_l (l : List Int) (hu : ∀ y ∈ l, 0 ≤ y ∧ y ≤ 255) (n : Nat) (hn : n ≤ 10) (q : Int) : ∀ (d i : Nat) (a s : Int) (o : List Int), n - i = d → i ≤ n → o.length = i → 0 ≤ a → a + 2 * (d : Int) ≤ 1000000000 →
  ∃ q' o' a' s', Ev (fun k => spec_l1Cur_attr.l0 k (n : Int) (i : Int) l a s q o) (q', o', a', s') ∧ o'.length ≤ 11 ∧ a ≤ a' ∧ a' ≤ a + 2 * (d : Int) + 4 := by
 intro d
 induction d with
 | zero =>
  intro i a s o hd hi ho h0 h1
  obtain ⟨p, a1, s1, e1, p1, p2, p3, p4⟩ := pick_ok l a s 30 hu h0 (by omega) (by omega) (by omega)
  obtain ⟨v, a2, s2, e2, _, v3, v4⟩ := among_ok l a1 s1 [-1, 999, 1000] hu (by omega) (by omega) (by decide) (by decide)
  obtain ⟨u, a3, s3, e3, _, u3, u4⟩ := among_ok l a1 s1 [-1, 6, 7] hu (by omega) (by omega) (by decide) (by decide)
  have hst : ∀ R, (∀ k, spec_l1Cur_attr.l0 (k + 1) (n : Int) (i : Int) l a s q o = some R) → Ev (fun k => spec_l1Cur_attr.l0 k (n : Int) (i : Int) l a s q o) R := fun R hR => Ev.step (f := fun _ => some R) hR (Ev.now _)
  by_cases c0 : p = 0
  ·exact ⟨v, o, a2, s2, hst _ (fun k => by simp only [spec_l1Cur_attr.l0]; rw [if_neg (by omega), e1]; simp only [Option.bind_some]; rw [if_pos c0, e2]; rfl), by omega, by omega, by omega⟩
  ·by_cases c1 : p = 1
   ·by_cases c2 : (n : Int) > 0
    ·exact ⟨q, o.set (0 : Int).toNat u, a3, s3, hst _ (fun k => by simp only [spec_l1Cur_attr.l0]; rw [if_neg (by omega), e1]; simp only [Option.bind_some]; rw [if_neg c0, if_pos c1, if_pos c2, e3]; simp only [Option.bind_some]; rw [if_pos (by omega)]), by rw [List.length_set]; omega, by omega, by omega⟩
    ·exact ⟨q, o, a1, s1, hst _ (fun k => by simp only [spec_l1Cur_attr.l0]; rw [if_neg (by omega), e1]; simp only [Option.bind_some]; rw [if_neg c0, if_pos c1, if_neg c2]), by omega, by omega, by omega⟩
   ·by_cases c3 : p = 2
    ·exact ⟨q, o ++ [1], a1, s1, hst _ (fun k => by simp only [spec_l1Cur_attr.l0]; rw [if_neg (by omega), e1]; simp only [Option.bind_some]; rw [if_neg c0, if_neg c1, if_pos c3, if_pos (by omega)]), by rw [List.length_append, List.length_singleton]; omega, by omega, by omega⟩
    ·exact ⟨q, o, a1, s1, hst _ (fun k => by simp only [spec_l1Cur_attr.l0]; rw [if_neg (by omega), e1]; simp only [Option.bind_some]; rw [if_neg c0, if_neg c1, if_neg c3]), by omega, by omega, by omega⟩
 | succ d ih =>
  intro i a s o hd hi ho h0 h1
  obtain ⟨p, a1, s1, e1, p1, p2, p3, p4⟩ := pick_ok l a s 4 hu h0 (by omega) (by omega) (by omega)
  obtain ⟨q', o', a', s', he, r1, r2, r3⟩ := ih (i + 1) a1 s1 (o ++ [p]) (by omega) (by omega) (by rw [List.length_append, List.length_singleton, ho]) (by omega) (by omega)
  refine ⟨q', o', a', s', Ev.step (f := fun k => spec_l1Cur_attr.l0 k (n : Int) ((i + 1 : Nat) : Int) l a1 s1 q (o ++ [p])) (fun k => ?_) he, r1, by omega, by omega⟩
  simp only [spec_l1Cur_attr.l0]
  rw [if_pos (by omega), e1]
  simp only [Option.bind_some]
  rw [if_pos (by omega), wrap_next (show i < n by omega) (by omega)]
theorem drawAttr_ok (l : List Int) (hu : ∀ y ∈ l, 0 ≤ y ∧ y ≤ 255) (n a s : Int) (hn : 0 ≤ n) (hn' : n ≤ 10) (h0 : 0 ≤ a) (h1 : a ≤ 100000000) :
  ∃ q o a' s', Ev (fun k => spec_l1Cur_attr.f k l a s n) (q, o, a', s') ∧ o.length ≤ 11 ∧ a ≤ a' ∧ a' ≤ a + 30 := by
 obtain ⟨p, a1, s1, e1, p1, p2, p3, p4⟩ := pick_ok l a s 5 hu h0 (by omega) (by omega) (by omega)
 obtain ⟨q', o', a', s', he, r1, r2, r3⟩ := drawAttr_l l hu n.toNat (by omega) p n.toNat 0 a1 s1 [] (by omega) (by omega) rfl (by omega) (by omega)
 rw [Int.toNat_of_nonneg hn] at he
 refine ⟨q', o', a', s', ?_, r1, by omega, by omega⟩
 unfold spec_l1Cur_attr.f
 rw [e1]
 exact he

def hangR (n s : Int) (l : List Int) (rep no : Int) : Bool × Bool := if goodAttrB n s l = true ∧ Mine.inB 0 (n - 1) rep = true ∧ Mine.inB 1 6 no = true then (decide (no ≤ rd l rep), true) else (false, false)
theorem goodAttr_parts {n s : Int} {l : List Int} (h : goodAttrB n s l = true) : (n = 3 ∨ n = 5) ∧ (l.length : Int) = n := by
 unfold goodAttrB at h
 simp only [Bool.and_eq_true, decide_eq_true_eq] at h
 exact ⟨h.1, h.2.2.1⟩
theorem specHangs_ev (n s : Int) (l : List Int) (rep no : Int) (hm : l.length ≤ 9223372036854775807) : Ev (fun k => spec_HangsOn.f k n s l rep no) (hangR n s l rep no) := by
 unfold spec_HangsOn.f hangR
 refine Ev.bind (specGoodAttr_ev n s l hm) ?_
 cases hg : goodAttrB n s l with
 | false => simpa using Ev.now _
 | true =>
  obtain ⟨hn, hl⟩ := goodAttr_parts hg
  have hw : wrap64 (n - 1) = n - 1 := by unfold wrap64; omega
  simp only [if_true, spec_l3Inst.f, l1In_f, hw, Option.bind_some]
  cases h1 : Mine.inB 0 (n - 1) rep with
  | false => simpa using Ev.now _
  | true =>
   cases h2 : Mine.inB 1 6 no with
   | false => simpa using Ev.now _
   | true =>
    have h3 := Mine.inB_iff.1 h1
    simp only [if_true, Option.bind_some, if_pos h3.1, if_pos (show rep < (l.length : Int) by omega), and_self]
    exact Ev.now _

def jn : List Int → List Int → List Int
 | x :: xs, y :: ys => mx x y :: jn xs ys
 | _, _ => []
theorem jn_len : ∀ a b : List Int, (jn a b).length ≤ a.length
 | [], _ => Nat.le_refl _
 | _ :: _, [] => Nat.zero_le _
 | _ :: xs, _ :: ys => by
  have := jn_len xs ys
  simp only [jn, List.length_cons]; omega
theorem most_f (a b : Int) : spec_l1Most.f a b = some (mx a b) := by
 unfold spec_l1Most.f mx
 by_cases h1 : a > b
 ·rw [if_pos h1, if_neg (by omega)]
 ·rw [if_neg h1]
  by_cases h2 : a < b
  ·rw [if_pos h2]
  ·rw [if_neg h2]
   have : a = b := by omega
   rw [this]
theorem specJoin_l (l m : List Int) (s t q : Int) (he : l.length = m.length) (hl : l.length ≤ 9) : ∀ (d i : Nat) (acc : List Int), l.length - i = d → i ≤ l.length → acc.length ≤ 9 + i →
  Ev (fun k => spec_l3Join.l0 k (l.length : Int) (i : Int) s l t m q acc) (q, acc ++ jn (l.drop i) (m.drop i)) := by
 intro d
 induction d with
 | zero =>
  intro i acc hd hi ha
  rw [List.drop_eq_nil_of_le (show l.length ≤ i by omega)]
  refine Ev.step (f := fun _ => some _) (fun k => by simp only [spec_l3Join.l0]; rw [if_neg (by omega)]) ?_
  rw [jn, List.append_nil]
  ·exact Ev.now _
  ·intro x xs y ys h; cases h
 | succ d ih =>
  intro i acc hd hi ha
  have hlt : i < l.length := by omega
  rw [Mine.drop_at l 0 i hlt, Mine.drop_at m 0 i (by omega), jn]
  have := ih (i + 1) (acc ++ [mx (l.getD i 0) (m.getD i 0)]) (by omega) (by omega) (by rw [List.length_append]; simp; omega)
  rw [List.append_assoc] at this
  refine Ev.step (fun k => ?_) this
  simp only [spec_l3Join.l0]
  rw [if_pos (by omega), if_pos (by omega), if_pos (by omega), if_pos (by omega), rd_nat, rd_nat, most_f, Option.bind_some, if_pos (by omega), wrap_next hlt (by omega)]
theorem implJoin_l (l m : List Int) (t q : Int) (he : l.length = m.length) (hl : l.length ≤ 9) : ∀ (d i : Nat) (acc : List Int), l.length - i = d → i ≤ l.length → acc.length ≤ 9 + i →
  Ev (fun k => impl_Attr_join.l0 k l (l.length : Int) (i : Int) t m q acc) (q, acc ++ jn (l.drop i) (m.drop i)) := by
 intro d
 induction d with
 | zero =>
  intro i acc hd hi ha
  rw [List.drop_eq_nil_of_le (show l.length ≤ i by omega)]
  refine Ev.step (f := fun _ => some _) (fun k => by simp only [impl_Attr_join.l0]; rw [if_neg (by omega)]) ?_
  rw [jn, List.append_nil]
  ·exact Ev.now _
  ·intro x xs y ys h; cases h
 | succ d ih =>
  intro i acc hd hi ha
  have hlt : i < l.length := by omega
  rw [Mine.drop_at l 0 i hlt, Mine.drop_at m 0 i (by omega), jn]
  have := ih (i + 1) (acc ++ [mx (l.getD i 0) (m.getD i 0)]) (by omega) (by omega) (by rw [List.length_append]; simp; omega)
  rw [List.append_assoc] at this
  refine Ev.step (fun k => ?_) this
  simp only [impl_Attr_join.l0]
  rw [if_pos (by omega), if_pos (by omega), if_pos (by omega), if_pos (by omega), if_pos (by omega), rd_nat, rd_nat, wrap_next hlt (by omega)]
def joinR (n s : Int) (l : List Int) (t : Int) (m : List Int) : Int × List Int × Bool := if goodAttrB n s l = true ∧ goodAttrB n t m = true then (mx s t, jn l m, true) else (0, [], false)
theorem joinR_len (n s : Int) (l : List Int) (t : Int) (m : List Int) : (joinR n s l t m).2.1.length ≤ l.length := by
 unfold joinR
 split
 ·exact jn_len l m
 ·exact Nat.zero_le _
theorem specJoinR_ev (n s t : Int) (l m : List Int) (hl : l.length ≤ 9223372036854775807) (hm : m.length ≤ 9223372036854775807) : Ev (fun k => spec_JoinAttr.f k n s l t m) (joinR n s l t m) := by
 unfold spec_JoinAttr.f joinR
 refine Ev.bind (specGoodAttr_ev n s l hl) ?_
 cases h1 : goodAttrB n s l with
 | false => simp only [Bool.false_eq_true, false_and, if_false]; exact Ev.now _
 | true =>
  have hg := goodAttr_parts h1
  have e2 : (Mine.inB 0 999 t && (decide ((m.length : Int) = n) && !Mine.anyP (Mine.outB 0 6) m)) = goodAttrB n t m := by
   unfold goodAttrB; rw [decide_eq_true hg.1, Bool.true_and]
  have h3 := l3Attr_ev n t m hm
  rw [e2] at h3
  simp only [if_true, true_and]
  refine Ev.bind h3 ?_
  cases h2 : goodAttrB n t m with
  | false => simp only [Bool.false_eq_true, if_false]; exact Ev.now _
  | true =>
   have hg2 := goodAttr_parts h2
   simp only [if_true]
   refine Ev.bind (a := (mx s t, jn l m)) ?_ (Ev.now _)
   unfold spec_l3Join.f
   rw [most_f]
   exact specJoin_l l m s t (mx s t) (by omega) (by omega) _ 0 [] rfl (by omega) (by simp)
theorem implJoinR_ev (n s t : Int) (l m : List Int) : Ev (fun k => impl_JoinAttr.f k n s l t m) (joinR n s l t m) := by
 have hi1 : impl_GoodAttr.f n s l = some (goodAttrB n s l) := rfl
 have hi2 : impl_GoodAttr.f n t m = some (goodAttrB n t m) := rfl
 unfold impl_JoinAttr.f joinR
 simp only [hi1, hi2, Option.bind_some]
 cases h1 : goodAttrB n s l with
 | false => simp only [Bool.false_eq_true, false_and, if_false]; exact Ev.now _
 | true =>
  have hg := goodAttr_parts h1
  simp only [if_true, true_and]
  cases h2 : goodAttrB n t m with
  | false => simp only [Bool.false_eq_true, if_false]; exact Ev.now _
  | true =>
   have hg2 := goodAttr_parts h2
   simp only [if_true]
   refine Ev.bind (a := (mx s t, jn l m)) ?_ (Ev.now _)
   unfold impl_Attr_join.f
   exact implJoin_l l m t (mx s t) (by omega) (by omega) _ 0 [] rfl (by omega) (by simp)
theorem mx_comm (a b : Int) : mx a b = mx b a := by unfold mx; split <;> split <;> omega
theorem mx_again (a b : Int) : mx (mx a b) a = mx a b := by unfold mx; split <;> (try split) <;> omega
theorem jn_comm : ∀ a b : List Int, jn a b = jn b a
 | [], [] => rfl
 | [], _ :: _ => rfl
 | _ :: _, [] => rfl
 | x :: xs, y :: ys => by rw [jn, jn, mx_comm, jn_comm xs ys]
theorem jn_again : ∀ a b : List Int, a.length = b.length → jn (jn a b) a = jn a b
 | [], [], _ => rfl
 | x :: xs, y :: ys, h => by rw [jn, jn, mx_again, jn_again xs ys (by simpa using h)]
theorem jn_same : ∀ a b : List Int, a.length = b.length → (jn a b).length = a.length
 | [], [], _ => rfl
 | x :: xs, y :: ys, h => by rw [jn, List.length_cons, List.length_cons, jn_same xs ys (by simpa using h)]
theorem jn_mem : ∀ (a b : List Int) (x : Int), x ∈ jn a b → x ∈ a ∨ x ∈ b
 | [], _, _, h => by simp [jn] at h
 | _ :: _, [], _, h => by simp [jn] at h
 | p :: ps, q :: qs, x, h => by
  rw [jn, List.mem_cons] at h
  rcases h with h | h
  ·subst h
   unfold mx
   split
   ·exact .inr (by simp)
   ·exact .inl (by simp)
  ·rcases jn_mem ps qs x h with h | h
   ·exact .inl (by simp [h])
   ·exact .inr (by simp [h])
theorem jn_at : ∀ (a b : List Int) (i : Nat), a.length = b.length → i < a.length → (jn a b).getD i 0 = mx (a.getD i 0) (b.getD i 0)
 | [], [], i, _, h => by simp at h
 | x :: xs, y :: ys, 0, _, _ => by simp [jn]
 | x :: xs, y :: ys, i + 1, h, hi => by
  rw [jn]
  simpa using jn_at xs ys i (by simpa using h) (by simpa using hi)
theorem goodAttr_join {n s t : Int} {l m : List Int} (h1 : goodAttrB n s l = true) (h2 : goodAttrB n t m = true) : goodAttrB n (mx s t) (jn l m) = true := by
 have g1 := goodAttr_parts h1
 have g2 := goodAttr_parts h2
 unfold goodAttrB at h1 h2 ⊢
 simp only [Bool.and_eq_true, decide_eq_true_eq, Mine.inB_iff, Bool.not_eq_true'] at h1 h2 ⊢
 obtain ⟨a1, a2, a3, a4⟩ := h1
 obtain ⟨b1, b2, b3, b4⟩ := h2
 refine ⟨a1, by unfold mx; split <;> omega, by rw [jn_same l m (by omega)]; exact a3, Mine.anyP_false.2 (fun x hx => ?_)⟩
 rcases jn_mem l m x hx with h | h
 ·exact Mine.anyP_false.1 a4 x h
 ·exact Mine.anyP_false.1 b4 x h
theorem hang_join {n s t : Int} {l m : List Int} (h1 : goodAttrB n s l = true) (h2 : goodAttrB n t m = true) (i k : Nat) (hi : i < n.toNat) (hk : 1 ≤ k) (hk6 : k ≤ 6) :
  ∃ x y : Bool, hangR n s l (i : Int) (k : Int) = (x, true) ∧ hangR n t m (i : Int) (k : Int) = (y, true) ∧ hangR n (mx s t) (jn l m) (i : Int) (k : Int) = (x || y, true) := by
 have g1 := goodAttr_parts h1
 have g2 := goodAttr_parts h2
 have g3 := goodAttr_join h1 h2
 have a1 : Mine.inB 0 (n - 1) (i : Int) = true := Mine.inB_iff.2 (by omega)
 have a2 : Mine.inB 1 6 (k : Int) = true := Mine.inB_iff.2 (by omega)
 unfold hangR
 rw [if_pos ⟨h1, a1, a2⟩, if_pos ⟨h2, a1, a2⟩, if_pos ⟨g3, a1, a2⟩]
 refine ⟨_, _, rfl, rfl, ?_⟩
 rw [rd_nat, rd_nat, rd_nat, jn_at l m i (by omega) (by omega)]
 refine Prod.ext ?_ rfl
 show decide _ = (decide _ || decide _)
 rw [Bool.eq_iff_iff, Bool.or_eq_true, decide_eq_true_eq, decide_eq_true_eq, decide_eq_true_eq]
 unfold mx
 split <;> omega

theorem implGroup (n : Int) : impl_IsGroup.f n = some (decide (n = 3 ∨ n = 5)) := by
 unfold impl_IsGroup.f
 by_cases h : n = 3
 ·rw [if_pos h]; simp [h]
 ·rw [if_neg h]; by_cases h5 : n = 5 <;> simp [h, h5]

theorem noneAttr_both (n : Int) : ∃ l : List Int, ∃ b : Bool, spec_NoneAttr.f n = some (0, l, b) ∧ impl_NoneAttr.f n = some (0, l, b) ∧ l.length ≤ 5 := by
 unfold spec_NoneAttr.f impl_NoneAttr.f spec_l3None.f impl_noneAttr.f
 rw [specGroup, implGroup]
 simp only [Option.bind_some]
 by_cases hg : n = 3 ∨ n = 5
 ·rw [decide_eq_true hg]
  simp only [if_true]
  rw [if_pos (by omega), if_pos (by omega)]
  exact ⟨_, _, rfl, rfl, by simp; omega⟩
 ·rw [decide_eq_false hg]
  exact ⟨_, _, rfl, rfl, by simp⟩

theorem l1Same_l (xs ys : List Int) (he : xs.length = ys.length) (hm : xs.length ≤ 9223372036854775807) : ∀ (d i : Nat), xs.length - i = d → Ev (fun k => spec_l1Same.l0 k xs ys (xs.length : Int) (i : Int)) (decide (xs.drop i = ys.drop i)) := by
 intro d
 induction d with
 | zero =>
  intro i hd
  rw [List.drop_eq_nil_of_le (show xs.length ≤ i by omega), List.drop_eq_nil_of_le (show ys.length ≤ i by omega)]
  exact Ev.step (f := fun _ => some true) (fun k => by simp only [spec_l1Same.l0]; rw [if_neg (by omega)]) (Ev.now _)
 | succ d ih =>
  intro i hd
  have hlt : i < xs.length := by omega
  rw [Mine.drop_at xs 0 i hlt, Mine.drop_at ys 0 i (by omega)]
  have body : ∀ k, spec_l1Same.l0 (k + 1) xs ys (xs.length : Int) (i : Int) = if xs.getD i 0 = ys.getD i 0 then spec_l1Same.l0 k xs ys (xs.length : Int) ((i + 1 : Nat) : Int) else some false := by
   intro k
   simp only [spec_l1Same.l0]
   rw [if_pos (by omega), if_pos (by omega), if_pos (by omega), if_pos (by omega), rd_nat, rd_nat, wrap_next hlt hm]
  by_cases hb : xs.getD i 0 = ys.getD i 0
  ·refine Ev.step (f := fun k => spec_l1Same.l0 k xs ys (xs.length : Int) ((i + 1 : Nat) : Int)) (fun k => by rw [body, if_pos hb]) ?_
   have : decide (xs.getD i 0 :: xs.drop (i + 1) = ys.getD i 0 :: ys.drop (i + 1)) = decide (xs.drop (i + 1) = ys.drop (i + 1)) := by rw [hb]; simp
   rw [this]
   exact ih (i + 1) (by omega)
  ·refine Ev.step (f := fun _ => some false) (fun k => by rw [body, if_neg hb]) ?_
   have : decide (xs.getD i 0 :: xs.drop (i + 1) = ys.getD i 0 :: ys.drop (i + 1)) = false := by
    rw [decide_eq_false_iff_not]; intro h; exact hb (List.cons.inj h).1
   rw [this]
   exact Ev.now _
theorem l1Same_ev (xs ys : List Int) (hm : xs.length ≤ 9223372036854775807) : Ev (fun k => spec_l1Same.f k xs ys) (decide (xs = ys)) := by
 unfold spec_l1Same.f
 by_cases h : xs.length = ys.length
 ·exact Ev.congr (f := fun k => spec_l1Same.l0 k xs ys (xs.length : Int) ((0 : Nat) : Int)) (fun k => by rw [if_pos (by omega)]; rfl) (l1Same_l xs ys h hm _ 0 rfl)
 ·refine Ev.congr (f := fun _ => some false) (fun k => by rw [if_neg (by omega)]) ?_
  rw [decide_eq_false (fun e => h (by rw [e]))]
  exact Ev.now _

theorem equalInts_l (xs ys : List Int) (he : xs.length = ys.length) (hm : xs.length ≤ 9223372036854775807) : ∀ (d i : Nat), xs.length - i = d → Ev (fun k => slices_Equal_int_int.l0 k xs ys (xs.length : Int) (i : Int)) (decide (xs.drop i = ys.drop i)) := by
 intro d
 induction d with
 | zero =>
  intro i hd
  rw [List.drop_eq_nil_of_le (show xs.length ≤ i by omega), List.drop_eq_nil_of_le (show ys.length ≤ i by omega)]
  exact Ev.step (f := fun _ => some true) (fun k => by simp only [slices_Equal_int_int.l0]; rw [if_neg (by omega)]) (Ev.now _)
 | succ d ih =>
  intro i hd
  have hlt : i < xs.length := by omega
  rw [Mine.drop_at xs 0 i hlt, Mine.drop_at ys 0 i (by omega)]
  have body : ∀ k, slices_Equal_int_int.l0 (k + 1) xs ys (xs.length : Int) (i : Int) = if xs.getD i 0 = ys.getD i 0 then slices_Equal_int_int.l0 k xs ys (xs.length : Int) ((i + 1 : Nat) : Int) else some false := by
   intro k
   simp only [slices_Equal_int_int.l0]
   rw [if_pos (by omega), if_pos (by omega), if_pos (by omega), if_pos (by omega), rd_nat, rd_nat, wrap_next hlt hm]
  by_cases hb : xs.getD i 0 = ys.getD i 0
  ·refine Ev.step (f := fun k => slices_Equal_int_int.l0 k xs ys (xs.length : Int) ((i + 1 : Nat) : Int)) (fun k => by rw [body, if_pos hb]) ?_
   have : decide (xs.getD i 0 :: xs.drop (i + 1) = ys.getD i 0 :: ys.drop (i + 1)) = decide (xs.drop (i + 1) = ys.drop (i + 1)) := by rw [hb]; simp
   rw [this]
   exact ih (i + 1) (by omega)
  ·refine Ev.step (f := fun _ => some false) (fun k => by rw [body, if_neg hb]) ?_
   have : decide (xs.getD i 0 :: xs.drop (i + 1) = ys.getD i 0 :: ys.drop (i + 1)) = false := by
    rw [decide_eq_false_iff_not]; intro h; exact hb (List.cons.inj h).1
   rw [this]
   exact Ev.now _
theorem equalInts_ev (xs ys : List Int) (hm : xs.length ≤ 9223372036854775807) : Ev (fun k => slices_Equal_int_int.f k xs ys) (decide (xs = ys)) := by
 unfold slices_Equal_int_int.f
 by_cases h : xs.length = ys.length
 ·exact Ev.congr (f := fun k => slices_Equal_int_int.l0 k xs ys (xs.length : Int) ((0 : Nat) : Int)) (fun k => by rw [if_pos (by omega)]; rfl) (equalInts_l xs ys h hm _ 0 rfl)
 ·refine Ev.congr (f := fun _ => some false) (fun k => by rw [if_neg (by omega)]) ?_
  rw [decide_eq_false (fun e => h (by rw [e]))]
  exact Ev.now _

def sameA (s t : Int) (l m : List Int) : Bool := decide (s = t) && decide (l = m)
theorem specSameA_ev (s t : Int) (l m : List Int) (hl : l.length ≤ 9223372036854775807) : Ev (fun k => spec_SameAttr.f k s l t m) (sameA s t l m) := by
 unfold spec_SameAttr.f sameA
 by_cases h : s = t
 ·simp only [if_pos h, decide_eq_true h, Bool.true_and]
  exact Ev.bind (l1Same_ev l m hl) (Ev.now _)
 ·simp only [if_neg h, decide_eq_false h, Bool.false_and]
  exact Ev.now _
theorem implSameA_ev (s t : Int) (l m : List Int) (hl : l.length ≤ 9223372036854775807) : Ev (fun k => impl_SameAttr.f k s l t m) (sameA s t l m) := by
 unfold impl_SameAttr.f sameA
 by_cases h : s = t
 ·simp only [if_pos h, decide_eq_true h, Bool.true_and]
  exact Ev.bind (equalInts_ev l m hl) (Ev.now _)
 ·simp only [if_neg h, decide_eq_false h, Bool.false_and]
  exact Ev.now _

theorem sameInts_l (xs : List Int) (hm : xs.length ≤ 9223372036854775807) : ∀ (d i : Nat), xs.length - i = d → Ev (fun k => laws_sameInts.l0 k xs xs (xs.length : Int) (i : Int)) true := by
 intro d
 induction d with
 | zero => intro i hd; exact Ev.step (f := fun _ => some true) (fun k => by simp only [laws_sameInts.l0]; rw [if_neg (by omega)]) (Ev.now _)
 | succ d ih =>
  intro i hd
  refine Ev.step (f := fun k => laws_sameInts.l0 k xs xs (xs.length : Int) ((i + 1 : Nat) : Int)) (fun k => ?_) (ih (i + 1) (by omega))
  simp only [laws_sameInts.l0]
  rw [if_pos (by omega), if_pos (by omega), if_pos (by omega), if_pos (by omega), if_pos trivial, wrap_next (n := xs.length) (by omega) hm]
theorem sameInts_ev (xs : List Int) (hm : xs.length ≤ 9223372036854775807) : Ev (fun k => laws_sameInts.f k xs xs) true := by
 refine Ev.congr (f := fun k => laws_sameInts.l0 k xs xs (xs.length : Int) ((0 : Nat) : Int)) (fun k => ?_) (sameInts_l xs hm _ 0 rfl)
 unfold laws_sameInts.f
 rw [if_pos rfl]
 rfl

theorem implHangs_f (n s : Int) (l : List Int) (rep no : Int) : impl_HangsOn.f n s l rep no = some (hangR n s l rep no) := by
 unfold impl_HangsOn.f hangR
 rw [show impl_GoodAttr.f n s l = some (goodAttrB n s l) from rfl, Option.bind_some]
 cases hg : goodAttrB n s l with
 | false => simp
 | true =>
  obtain ⟨hn, hl⟩ := goodAttr_parts hg
  have hw : wrap64 (n - 1) = n - 1 := by unfold wrap64; omega
  simp only [if_true, impl_isInstance.f, implGroup, decide_eq_true hn, within_f, hw, Option.bind_some]
  cases h1 : Mine.inB 0 (n - 1) rep with
  | false => simp
  | true =>
   cases h2 : Mine.inB 1 6 no with
   | false => simp
   | true =>
    have h3 := Mine.inB_iff.1 h1
    simp only [if_true, Option.bind_some, if_pos h3.1, if_pos (show rep < (l.length : Int) by omega), and_self]

theorem ext_take (t : ByteArray) (i : Nat) (h : i ≤ t.size) : (t.extract 0 i).size = i := by
 rw [ByteArray.size_extract]
 omega
theorem ext_drop (t : ByteArray) (i : Nat) (h : i ≤ t.size) : (t.extract i t.size).size = t.size - i := by
 rw [ByteArray.size_extract]
 omega
theorem spoilt_l (wi : ByteArray) (hw : 1 ≤ wi.size) (hw2 : wi.size ≤ 1000) (l : List Int) (hu : ∀ y ∈ l, 0 ≤ y ∧ y ≤ 255) : ∀ (n : Nat), n ≤ 2 → ∀ (t : ByteArray) (a s : Int), t.size + n ≤ 1000 → 0 ≤ a → a + 6 * (n : Int) ≤ 1000000000 →
  ∃ r a' s', Ev (fun k => spec_l1Cur_spoilt.l0 k t wi (n : Int) l a s) (r, a', s') ∧ r.size ≤ t.size + n := by
 intro n
 induction n with
 | zero =>
  intro _ t a s ht h0 h1
  refine ⟨t, a, s, ?_, by omega⟩
  refine Ev.step (f := fun k => spec_l1Cur_spoilt.j1 k t wi ((0 : Nat) : Int) false l a s) (fun k => by rw [spec_l1Cur_spoilt.l0, if_neg (by omega)]) ?_
  exact Ev.step (f := fun k => some (t, a, s)) (fun k => by rw [spec_l1Cur_spoilt.j1, if_neg (by simp)]) (Ev.now _)
 | succ n ih =>
  intro hn t a s ht h0 h1
  have hpos : ((n + 1 : Nat) : Int) > 0 := by omega
  by_cases hz : (t.size : Int) > 0
  ·obtain ⟨v, a1, s1, e1, p1, p2, p3, p4⟩ := pick_ok l a s (t.size : Int) hu h0 (by omega) (by omega) (by omega)
   obtain ⟨u, a2, s2, e2, q1, q2, q3, q4⟩ := pick_ok l a1 s1 (wi.size : Int) hu (by omega) (by omega) (by omega) (by omega)
   obtain ⟨x, a3, s3, e3, x1, x2, x3, x4⟩ := pick_ok l a2 s2 3 hu (by omega) (by omega) (by omega) (by omega)
   have hi : v.toNat ≤ t.size := by omega
   have hi1 : v.toNat + 1 ≤ t.size := by omega
   have z1 := ext_take t v.toNat hi
   have z2 := ext_drop t v.toNat hi
   have z3 := ext_drop t (v.toNat + 1) hi1
   have w1 : wrap64 (v + 1) = v + 1 := by unfold wrap64; omega
   have w2 : (v + 1 : Int).toNat = v.toNat + 1 := by omega
   have w3 : wrap64 (((n + 1 : Nat) : Int) - 1) = (n : Int) := by unfold wrap64; omega
   have sz : (strOfNums [bt wi u]).size = 1 := strOfNums_size _
   have go : ∀ (t2 : ByteArray), (∀ k, spec_l1Cur_spoilt.j1 (k + 1) t wi ((n + 1 : Nat) : Int) true l a s = spec_l1Cur_spoilt.l0 k t2 wi (n : Int) l a3 s3) → t2.size ≤ t.size + 1 → t2.size + n ≤ 1000 →
     ∃ r a' s', Ev (fun k => spec_l1Cur_spoilt.l0 k t wi ((n + 1 : Nat) : Int) l a s) (r, a', s') ∧ r.size ≤ t.size + (n + 1) := by
    intro t2 hj hs hs2
    obtain ⟨r, a', s', hr, hl⟩ := ih (by omega) t2 a3 s3 hs2 (by omega) (by omega)
    refine ⟨r, a', s', ?_, by omega⟩
    refine Ev.step (f := fun k => spec_l1Cur_spoilt.j1 k t wi ((n + 1 : Nat) : Int) true l a s) (fun k => by rw [spec_l1Cur_spoilt.l0, if_pos hpos, decide_eq_true hz]) ?_
    exact Ev.step hj hr
   have hj0 : ∀ k, spec_l1Cur_spoilt.j1 (k + 1) t wi ((n + 1 : Nat) : Int) true l a s = (if x = 0 then spec_l1Cur_spoilt.l0 k (((t.extract 0 v.toNat) ++ (strOfNums [bt wi u])) ++ (t.extract v.toNat t.size)) wi (n : Int) l a3 s3 else if x = 1 then spec_l1Cur_spoilt.l0 k (((t.extract 0 v.toNat) ++ (strOfNums [bt wi u])) ++ (t.extract (v.toNat + 1) t.size)) wi (n : Int) l a3 s3 else spec_l1Cur_spoilt.l0 k ((t.extract 0 v.toNat) ++ (t.extract (v.toNat + 1) t.size)) wi (n : Int) l a3 s3) := by
    intro k
    rw [spec_l1Cur_spoilt.j1, if_pos rfl, e1, Option.bind_some]
    dsimp only
    rw [e2, Option.bind_some]
    dsimp only
    rw [if_pos q1, if_pos q2, Option.bind_some, e3, Option.bind_some]
    dsimp only
    rw [w1, w2, w3]
    by_cases hx0 : x = 0
    ·rw [if_pos hx0, if_pos hx0, if_pos p1, if_pos (by omega), if_pos (by omega), if_pos (by rw [ByteArray.size_append]; omega)]
    ·rw [if_neg hx0, if_neg hx0]
     by_cases hx1 : x = 1
     ·rw [if_pos hx1, if_pos hx1, if_pos p1, if_pos (by omega), if_pos (by omega), if_pos (by omega), if_pos (by omega), if_pos (by rw [ByteArray.size_append]; omega)]
     ·rw [if_neg hx1, if_neg hx1, if_pos p1, if_pos (by omega), if_pos (by omega), if_pos (by omega), if_pos (by omega)]
   by_cases hx0 : x = 0
   ·exact go _ (fun k => by rw [hj0, if_pos hx0]) (by rw [ByteArray.size_append, ByteArray.size_append]; omega) (by rw [ByteArray.size_append, ByteArray.size_append]; omega)
   ·by_cases hx1 : x = 1
    ·exact go _ (fun k => by rw [hj0, if_neg hx0, if_pos hx1]) (by rw [ByteArray.size_append, ByteArray.size_append]; omega) (by rw [ByteArray.size_append, ByteArray.size_append]; omega)
    ·exact go _ (fun k => by rw [hj0, if_neg hx0, if_neg hx1]) (by rw [ByteArray.size_append]; omega) (by rw [ByteArray.size_append]; omega)
  ·refine ⟨t, a, s, ?_, by omega⟩
   refine Ev.step (f := fun k => spec_l1Cur_spoilt.j1 k t wi ((n + 1 : Nat) : Int) false l a s) (fun k => by rw [spec_l1Cur_spoilt.l0, if_pos hpos, decide_eq_false hz]) ?_
   exact Ev.step (f := fun k => some (t, a, s)) (fun k => by rw [spec_l1Cur_spoilt.j1, if_neg (by simp)]) (Ev.now _)
theorem spoilt_ok (wi : ByteArray) (hw : 1 ≤ wi.size) (hw2 : wi.size ≤ 1000) (l : List Int) (hu : ∀ y ∈ l, 0 ≤ y ∧ y ≤ 255) (t : ByteArray) (a s : Int) (ht : t.size ≤ 900) (h0 : 0 ≤ a) (h1 : a ≤ 100000000) :
  ∃ r a' s', Ev (fun k => spec_l1Cur_spoilt.f k l a s t wi) (r, a', s') ∧ r.size ≤ 902 := by
 obtain ⟨v, a1, s1, e1, p1, p2, p3, p4⟩ := pick_ok l a s 2 hu h0 (by omega) (by omega) (by omega)
 obtain ⟨r, a', s', hr, hl⟩ := spoilt_l wi hw hw2 l hu (v.toNat + 1) (by omega) t a1 s1 (by omega) (by omega) (by omega)
 refine ⟨r, a', s', ?_, by omega⟩
 have w1 : wrap64 (1 + v) = ((v.toNat + 1 : Nat) : Int) := by unfold wrap64; omega
 unfold spec_l1Cur_spoilt.f
 rw [e1]
 simp only [Option.bind_some, w1]
 exact hr

theorem one_ok (l : List Int) (a s n : Int) (hu : ∀ y ∈ l, 0 ≤ y ∧ y ≤ 255) (h0 : 0 ≤ a) (h1 : a ≤ 2305843009213693952) (hn : 1 ≤ n) (hn' : n ≤ 65536) : ∃ v a' s', spec_l1Cur_one.f l a s n = some (v, a', s') ∧ a ≤ a' ∧ a' ≤ a + 2 := by
 unfold spec_l1Cur_one.f
 obtain ⟨v, a', s', e, _, _, ha, ha'⟩ := pick_ok l a s n hu h0 h1 hn hn'
 rw [e, Option.bind_some]
 exact ⟨_, _, _, rfl, ha, ha'⟩

theorem sameInts2_l (l m : List Int) (he : l.length = m.length) (hm : l.length ≤ 9223372036854775807) : ∀ (d i : Nat), l.length - i = d → i ≤ l.length → l.take i = m.take i → Ev (fun k => laws_sameInts.l0 k l m (l.length : Int) (i : Int)) (decide (l = m)) := by
 intro d
 induction d with
 | zero =>
  intro i hd hi ht
  have e : l = m := by
   rw [List.take_of_length_le (by omega), List.take_of_length_le (by omega)] at ht
   exact ht
  exact Ev.step (f := fun _ => some (decide (l = m))) (fun k => by simp only [laws_sameInts.l0]; rw [if_neg (by omega), decide_eq_true e]) (Ev.now _)
 | succ d ih =>
  intro i hd hi ht
  by_cases hx : rd l (i : Int) = rd m (i : Int)
  ·refine Ev.step (f := fun k => laws_sameInts.l0 k l m (l.length : Int) ((i + 1 : Nat) : Int)) (fun k => ?_) (ih (i + 1) (by omega) (by omega) ?_)
   ·simp only [laws_sameInts.l0]
    rw [if_pos (by omega), if_pos (by omega), if_pos (by omega), if_pos (by omega), if_pos hx, wrap_next (n := l.length) (by omega) hm]
   ·rw [rd_nat, rd_nat, List.getD_eq_getElem?_getD, List.getD_eq_getElem?_getD, List.getElem?_eq_getElem (show i < l.length by omega), List.getElem?_eq_getElem (show i < m.length by omega)] at hx
    rw [List.take_add_one, List.take_add_one, ht, List.getElem?_eq_getElem (show i < l.length by omega), List.getElem?_eq_getElem (show i < m.length by omega)]
    rw [show l[i]'(by omega) = m[i]'(by omega) from hx]
  ·have e : ¬ l = m := fun e => hx (by rw [e])
   exact Ev.step (f := fun _ => some (decide (l = m))) (fun k => by simp only [laws_sameInts.l0]; rw [if_pos (by omega), if_pos (by omega), if_pos (by omega), if_pos (by omega), if_neg hx, decide_eq_false e]) (Ev.now _)
theorem lawSameA_ev (s t : Int) (l m : List Int) (hl : l.length ≤ 9223372036854775807) : Ev (fun k => laws_sameAttr.f k s l t m) (sameA s t l m) := by
 unfold laws_sameAttr.f sameA
 by_cases h : s = t
 ·simp only [if_pos h, decide_eq_true h, Bool.true_and]
  refine Ev.bind (a := decide (l = m)) ?_ (Ev.now _)
  unfold laws_sameInts.f
  by_cases he : (l.length : Int) = (m.length : Int)
  ·simp only [if_pos he]
   exact sameInts2_l l m (by omega) hl _ 0 rfl (by omega) rfl
  ·simp only [if_neg he]
   rw [decide_eq_false (fun e => he (by rw [e]))]
   exact Ev.now _
 ·simp only [if_neg h, decide_eq_false h, Bool.false_and]
  exact Ev.now _
theorem sameA_self (s : Int) (l : List Int) : sameA s s l l = true := by unfold sameA; simp
theorem attrTextR_size (n s : Int) (l : List Int) : (attrTextR n s l).1.size ≤ 40 := by
 unfold attrTextR
 split
 ·rename_i h
  have := attrT_len h
  rw [ba_size]
  exact this
 ·show (0 : Nat) ≤ 40; omega
theorem drawGood_ok (l : List Int) (hu : ∀ y ∈ l, 0 ≤ y ∧ y ≤ 255) : ∃ n q o a' s', Ev (fun k => spec_DrawGoodAttr.f k l) (n, q, o) ∧ o.length ≤ 11 ∧ 0 ≤ n ∧ n ≤ 5 ∧ spec_l1Cur_group.f l 0 0 = some (n, a', s') ∧ 0 ≤ a' ∧ a' ≤ 2 := by
 obtain ⟨n, a1, s1, e1, hn, p1, p2⟩ := group_ok l 0 0 hu (by omega) (by omega)
 obtain ⟨q, o, a2, s2, e2, h2, _, _⟩ := drawAttr_ok l hu n a1 s1 (by omega) (by omega) (by omega) (by omega)
 refine ⟨n, q, o, a1, s1, ?_, h2, by omega, by omega, e1, p1, by omega⟩
 unfold spec_DrawGoodAttr.f
 simp only [e1, Option.bind_some]
 exact Ev.bind e2 (Ev.now _)
theorem drawText_ok (l : List Int) (hu : ∀ y ∈ l, 0 ≤ y ∧ y ≤ 255) : ∃ n t, Ev (fun k => spec_DrawReadAttr.f k l) (n, t) ∧ t.size ≤ 1000 := by
 obtain ⟨n, q, o, _, _, hd, ho, _, _, _, _, _⟩ := drawGood_ok l hu
 have hs := attrTextR_size n q o
 obtain ⟨b, a2, s2, e2, p1, p2⟩ := one_ok l 0 0 3 hu (by omega) (by omega) (by omega) (by omega)
 obtain ⟨r, a3, s3, hr, hl⟩ := spoilt_ok (⟨#[48, 49, 44, 58]⟩ : ByteArray) (by decide) (by decide) l hu (attrTextR n q o).1 a2 s2 (by omega) (by omega) (by omega)
 have ht := specAttrTextR_ev n q o (by omega)
 cases b with
 | true =>
  refine ⟨n, r, ?_, by omega⟩
  unfold spec_DrawReadAttr.f
  refine Ev.bind hd (Ev.bind ht ?_)
  simp only [e2, Option.bind_some, if_true]
  exact Ev.bind hr (Ev.now _)
 | false =>
  refine ⟨n, (attrTextR n q o).1, ?_, by omega⟩
  unfold spec_DrawReadAttr.f
  refine Ev.bind hd (Ev.bind ht ?_)
  simp only [e2, Option.bind_some, Bool.false_eq_true, if_false]
  exact Ev.now _
theorem drawHangs_ok (l : List Int) (hu : ∀ y ∈ l, 0 ≤ y ∧ y ≤ 255) : ∃ n q o p r, Ev (fun k => spec_DrawHangsOn.f k l) (n, q, o, p, r) ∧ o.length ≤ 11 := by
 obtain ⟨n, a1, s1, e1, hn, p1, p2⟩ := group_ok l 0 0 hu (by omega) (by omega)
 obtain ⟨q, o, a2, s2, e2, h2, _, _⟩ := drawAttr_ok l hu n a1 s1 (by omega) (by omega) (by omega) (by omega)
 obtain ⟨p, a3, s3, e3, _, _, _, _⟩ := pick_ok l a2 s2 6 hu (by omega) (by omega) (by omega) (by omega)
 obtain ⟨r, a4, s4, e4, _, _, _, _⟩ := pick_ok l a3 s3 9 hu (by omega) (by omega) (by omega) (by omega)
 obtain ⟨x, a5, s5, e5, _, _, _, _⟩ := pick_ok l a4 s4 8 hu (by omega) (by omega) (by omega) (by omega)
 refine ⟨n, q, o, wrap64 (p - wrap64 (Int.tdiv r 8)), x, ?_, h2⟩
 unfold spec_DrawHangsOn.f
 simp only [e1, Option.bind_some]
 refine Ev.bind e2 ?_
 simp only [e3, Option.bind_some, e4, e5]
 exact Ev.now _
theorem drawJoin_ok (l : List Int) (hu : ∀ y ∈ l, 0 ≤ y ∧ y ≤ 255) : ∃ n q o t u, Ev (fun k => spec_DrawJoinAttr.f k l) (n, q, o, t, u) ∧ o.length ≤ 11 ∧ u.length ≤ 11 ∧ 0 ≤ n ∧ n ≤ 5 := by
 obtain ⟨n, a1, s1, e1, hn, p1, p2⟩ := group_ok l 0 0 hu (by omega) (by omega)
 obtain ⟨q, o, a2, s2, e2, h2, _, _⟩ := drawAttr_ok l hu n a1 s1 (by omega) (by omega) (by omega) (by omega)
 obtain ⟨t, u, a3, s3, e3, h3, _, _⟩ := drawAttr_ok l hu n a2 s2 (by omega) (by omega) (by omega) (by omega)
 refine ⟨n, q, o, t, u, ?_, h2, h3, by omega, by omega⟩
 unfold spec_DrawJoinAttr.f
 simp only [e1, Option.bind_some]
 exact Ev.bind e2 (Ev.bind e3 (Ev.now _))
theorem FnAttrs : laws_FnAttrs.Pure := by
 intro l0 l1 h0 h1
 have hu := u8s h0.2
 have hv := u8s h1.2
 unfold laws_FnAttrs.Facts
 by_cases hb : laws_big.f l0 l1 = some true
 ·exact Or.inl ⟨hb, trivial⟩
 refine Or.inr ⟨?_, ?_⟩
 ·unfold laws_big.f at hb ⊢
  split
  ·rename_i h; rw [if_pos h] at hb; exact absurd rfl hb
  ·rename_i h; rw [if_neg h] at hb
   cases hd : decide ((l1.length : Int) > wrap64 (1048576 - (l0.length : Int))) with
   | true => rw [hd] at hb; exact absurd rfl hb
   | false => rfl
 obtain ⟨n, q, o, t, u, hJ, ho, hul, hn0, hn5⟩ := drawJoin_ok l0 hu
 obtain ⟨g, cs, cl, _, _, hG, hcl, _, _, _, _, _⟩ := drawGood_ok l1 hv
 obtain ⟨h, tx, hR, htx⟩ := drawText_ok l1 hv
 obtain ⟨p, ds, dl, rep, no, hH, hdl⟩ := drawHangs_ok l1 hv
 have hDT : Ev (fun k => spec_DrawAttrText.f k l1) (g, cs, cl) := by
  unfold spec_DrawAttrText.f
  exact Ev.bind hG (Ev.now _)
 have hA1 := implAttrTextR_ev g cs cl
 have hA2 := specAttrTextR_ev g cs cl (by omega)
 have hR1 := implReadA_ev h tx (by omega)
 have hR2 := specReadA_ev h tx (by omega)
 have hRl := readAR_len h tx.data.toList
 generalize readAR h tx.data.toList = R at hR1 hR2 hRl
 obtain ⟨Ra, Rb, Rc⟩ := R
 dsimp only at hRl
 obtain ⟨e, he⟩ : ∃ e, spec_DrawNoneAttr.f l1 = some e := by
  obtain ⟨v, a', s', e1, _⟩ := pick_ok l1 0 0 8 hv (by omega) (by omega) (by omega) (by omega)
  unfold spec_DrawNoneAttr.f spec_DrawIsGroup.f
  rw [e1]
  exact ⟨_, rfl⟩
 obtain ⟨nl, nb, hN2, hN1, hnl⟩ := noneAttr_both e
 have hH1 := implHangs_f p ds dl rep no
 have hH2 := specHangs_ev p ds dl rep no (by omega)
 generalize hangR p ds dl rep no = HR at hH1 hH2
 obtain ⟨HRa, HRb⟩ := HR
 have hs1 := lawSameA_ev Ra Ra Rb Rb (by omega)
 rw [sameA_self] at hs1
 have hs2 := lawSameA_ev 0 0 nl nl (by omega)
 rw [sameA_self] at hs2
 have hg1 : impl_GoodAttr.f g cs cl = some (goodAttrB g cs cl) := rfl
 have hg2 := specGoodAttr_ev g cs cl (by omega)
 have hs3 := lawSameA_ev cs cs cl cl (by omega)
 rw [sameA_self] at hs3
 have hlast : ((attrTextR g cs cl).2 = true ∧ (∃ K, impl_ReadAttr.f K g (attrTextR g cs cl).1 = some (cs, cl, true)) ∧ (∃ K, laws_sameAttr.f K cs cl cs cl = some true) ∧ True) ∨ ((attrTextR g cs cl).2 = false ∧ True) := by
  unfold attrTextR
  by_cases hgd : goodAttrB g cs cl = true
  ·rw [if_pos hgd]
   have hb := implReadA_ev g (attrT cs cl) (by have := attrT_len hgd; rw [← ba_size] at this; omega)
   rw [readA_text hgd] at hb
   exact .inl ⟨rfl, hb.rounds, hs3.rounds, trivial⟩
  ·rw [if_neg hgd]
   exact .inr ⟨rfl, trivial⟩
 generalize attrTextR g cs cl = AT at hA1 hA2 hlast
 obtain ⟨ATa, ATb⟩ := AT
 have hS1 := implSameA_ev q t o u (by omega)
 have hS2 := specSameA_ev q t o u (by omega)
 have hS3 := lawSameA_ev q t o u (by omega)
 have hJ1 := implJoinR_ev n q t o u
 have hJ2 := specJoinR_ev n q t o u (by omega) (by omega)
 refine ⟨n, q, o, t, u, hJ.rounds, ?_⟩
 by_cases hg : goodAttrB n q o = true ∧ goodAttrB n t u = true
 ·have hr : joinR n q o t u = (mx q t, jn o u, true) := by unfold joinR; rw [if_pos hg]
  have hp1 := goodAttr_parts hg.1
  have hp2 := goodAttr_parts hg.2
  have hjl := jn_len o u
  have hJ3 := implJoinR_ev n t q u o
  have hr3 : joinR n t u q o = (mx q t, jn o u, true) := by unfold joinR; rw [if_pos ⟨hg.2, hg.1⟩, mx_comm, jn_comm]
  have hJ4 := implJoinR_ev n (mx q t) q (jn o u) o
  have hr4 : joinR n (mx q t) (jn o u) q o = (mx q t, jn o u, true) := by unfold joinR; rw [if_pos ⟨goodAttr_join hg.1 hg.2, hg.1⟩, mx_again, jn_again o u (by omega)]
  rw [hr] at hJ1 hJ2
  rw [hr3] at hJ3
  rw [hr4] at hJ4
  have hs4 := lawSameA_ev (mx q t) (mx q t) (jn o u) (jn o u) (by omega)
  rw [sameA_self] at hs4
  refine Or.inl ⟨_, _, hJ1.rounds, hJ2.rounds, hs4.rounds, _, hS1.rounds, hS2.rounds, hS3.rounds, hJ3.rounds, hJ4.rounds, ⟨hn0, by omega⟩, ?_, _, _, _, hDT.rounds, _, _, hA1.rounds, hA2.rounds, _, _, hR.rounds, _, _, _, hR1.rounds, hR2.rounds, _, he, _, _, _, hN1, hN2, _, _, _, _, _, hH.rounds, _, _, hH1, hH2.rounds, hs1.rounds, hs2.rounds, _, hg1, hg2.rounds, hlast⟩
  intro i m hi hm1 hm6
  obtain ⟨x, y, hx, hy, hz⟩ := hang_join hg.1 hg.2 i m hi hm1 hm6
  exact ⟨x, y, by rw [implHangs_f, hx], by rw [implHangs_f, hy], by rw [implHangs_f, hz]⟩
 ·have hr : joinR n q o t u = (0, [], false) := by unfold joinR; rw [if_neg hg]
  rw [hr] at hJ1 hJ2
  have hs4 := lawSameA_ev 0 0 [] [] (by simp)
  rw [sameA_self] at hs4
  exact Or.inr ⟨_, _, hJ1.rounds, hJ2.rounds, hs4.rounds, _, hS1.rounds, hS2.rounds, hS3.rounds, _, _, _, hDT.rounds, _, _, hA1.rounds, hA2.rounds, _, _, hR.rounds, _, _, _, hR1.rounds, hR2.rounds, _, he, _, _, _, hN1, hN2, _, _, _, _, _, hH.rounds, _, _, hH1, hH2.rounds, hs1.rounds, hs2.rounds, _, hg1, hg2.rounds, hlast⟩

end Go.Proofs.YtpboalgecejoeaaGreatDoor.Pure
