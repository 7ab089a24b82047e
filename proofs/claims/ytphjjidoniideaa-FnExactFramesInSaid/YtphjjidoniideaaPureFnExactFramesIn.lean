/- The law FnExactFramesIn holds, for every input. -/
import Derived.Test.YtphjjidoniideaaQFnExactFramesInx4
import Derived.Test.YtphjjidoniideaaMine
namespace Go.Proofs.Ytphjjidoniideaa.Pure
open Go.RowKit Go.Proofs.Ytphjjidoniideaa.QFnExactFramesIn Go.Proofs.YtphjjidoniideaaW.PrintWords Go.Proofs.YtphjjidoniideaaW.PrintLast Go.Proofs.YtphjjidoniideaaW.PrintMore
set_option linter.unusedVariables false
set_option linter.unusedSimpArgs false

theorem sumOf_l (s : ByteArray) (hn : s.size ≤ 9223372036854775807) : ∀ (d i : Nat), s.size - i = d → i ≤ s.size →
    Ev (fun k => impl_sumOf.l0 k s (spec_l14Frame.hash s i) 33 (s.size : Int) (i : Int)) (spec_l14Frame.hash s s.size) := by
  intro d
  induction d with
  | zero =>
    intro i hd hi
    obtain rfl : i = s.size := by omega
    exact Ev.step (f := fun _ => some _) (fun k => by simp only [impl_sumOf.l0]; rw [if_neg (by omega)]) (Ev.now _)
  | succ d ih =>
    intro i hd hi
    refine Ev.step (f := fun k => impl_sumOf.l0 k s (spec_l14Frame.hash s (i + 1)) 33 (s.size : Int) ((i + 1 : Nat) : Int)) (fun k => ?_) (ih (i + 1) (by omega) (by omega))
    have hw : wrap64 ((i : Int) + 1) = ((i + 1 : Nat) : Int) := by unfold wrap64; omega
    simp only [impl_sumOf.l0, spec_l14Frame.hash]
    rw [if_pos (by omega), if_pos (by omega), if_pos (by omega), hw, Int.mul_comm _ 33]
theorem sumOf_ev (s : ByteArray) (hn : s.size ≤ 9223372036854775807) : Ev (fun k => impl_sumOf.f k s 7 33) (spec_l14Frame.hash s s.size) := sumOf_l s hn _ 0 rfl (by omega)

/-- The program's frame is the reference's. -/
theorem frame_ev (a : ByteArray) (hs : a.size ≤ 1000000) : Ev (fun k => impl_frame.f k a) (spec_l14Frame.fB a) := by
  have hh := spec_l14Frame.hsize a
  have hd : (strOfNums ([((a.size : Int)) % 256] : List Int)) ++ a = spec_l14Frame.head a := rfl
  unfold impl_frame.f impl_twoBytes.f
  simp only [Option.bind_some]
  refine Ev.congr (f := fun k => (impl_sumOf.f k (spec_l14Frame.head a) 7 33).bind fun h => some (((spec_l14Frame.head a) ++ strOfNums ([(wrap64 (Int.tdiv h 256)) % 256, (Int.tmod h 256) % 256] : List Int)) ++ (⟨#[1]⟩ : ByteArray))) (fun k => ?_) ?_
  · rw [if_pos (by rw [spec_l14Frame.nsize]; simp; omega), hd]
    congr 1
    funext h
    rw [if_pos (by rw [hh, spec_l14Frame.nsize]; simp; omega), if_pos (by rw [ByteArray.size_append, hh, spec_l14Frame.nsize]; simp; omega)]
  · refine Ev.bind (sumOf_ev _ (by omega)) ?_
    unfold spec_l14Frame.fB spec_l14Frame.tail
    rw [ByteArray.append_assoc]
    exact Ev.now _

theorem wrap_next {i : Nat} {n : Nat} (h : i < n) (hn : n ≤ 9223372036854775807) : wrap64 ((i : Int) + 1) = ((i + 1 : Nat) : Int) := by
  unfold wrap64
  omega
theorem rd_nat (l : List Int) (i : Nat) : rd l (i : Int) = l.getD i 0 := by unfold rd; rw [Int.toNat_natCast]
theorem wrap_small {x : Int} (h0 : -9223372036854775808 ≤ x) (h1 : x ≤ 9223372036854775807) : wrap64 x = x := by unfold wrap64; omega
theorem Ev.const {α : Type} {o : Option α} {a : α} (h : o = some a) : Ev (fun _ => o) a := ⟨0, fun _ _ => h⟩
theorem Ev.map {α β : Type} {g : Nat → Option α} {a : α} (h : Ev g a) (f : α → β) : Ev (fun k => (g k).bind fun t => some (f t)) (f a) := by
  obtain ⟨K, h⟩ := h
  exact ⟨K, fun k hk => by show (g k).bind _ = _; rw [h k hk, Option.bind_some]⟩
/-- A loop over a list's elements that ends at the first hit. -/
theorem loop_any {α ρ : Type} (F : Nat → Int → Option ρ) (xs : List α) (d : α) (p : α → Bool) (hit miss : ρ)
    (hs : ∀ i, i < xs.length → (p (xs.getD i d) = true → Ev (fun k => F k (i : Int)) hit) ∧ (p (xs.getD i d) = false → ∀ r, Ev (fun k => F k ((i + 1 : Nat) : Int)) r → Ev (fun k => F k (i : Int)) r))
    (he : Mine.anyP p xs = false → Ev (fun k => F k (xs.length : Int)) miss) : Ev (fun k => F k 0) (if Mine.anyP p xs = true then hit else miss) := by
  have key : ∀ (n i : Nat), xs.length - i = n → i ≤ xs.length → Mine.anyP p (xs.take i) = false → Ev (fun k => F k (i : Int)) (if Mine.anyP p (xs.drop i) = true then hit else miss) := by
    intro n
    induction n with
    | zero =>
      intro i hn hi hb
      obtain rfl : i = xs.length := by omega
      rw [List.drop_eq_nil_of_le (Nat.le_refl _)]
      rw [List.take_of_length_le (Nat.le_refl _)] at hb
      simpa [Mine.anyP] using he hb
    | succ n ih =>
      intro i hn hi hb
      rw [Mine.drop_at xs d i (by omega), Mine.anyP_cons]
      cases hp : p (xs.getD i d) with
      | true => simpa using (hs i (by omega)).1 hp
      | false =>
        have hb' : Mine.anyP p (xs.take (i + 1)) = false := by
          have e : xs.take (i + 1) = xs.take i ++ [xs.getD i d] := by
            rw [List.take_add_one, List.getD_eq_getElem?_getD, List.getElem?_eq_getElem (show i < xs.length by omega)]; rfl
          rw [e]
          unfold Mine.anyP at hb ⊢
          rw [List.any_append, hb, List.any_cons, hp]
          rfl
        simpa using (hs i (by omega)).2 hp _ (ih (i + 1) (by omega) (by omega) hb')
  simpa using key xs.length 0 (by omega) (by omega) (by simp [Mine.anyP])
/-- What a loop over a list's elements comes to: a state that goes on, or a result. -/
def scan {σ α ρ : Type} (step : α → σ → Sum σ ρ) (fin : σ → ρ) : List α → σ → ρ
  | [], s => fin s
  | x :: xs, s => match step x s with
    | .inl s' => scan step fin xs s'
    | .inr r => r
theorem loop_scan {σ α ρ : Type} (F : Nat → σ → Int → Option ρ) (xs : List α) (d : α) (step : α → σ → Sum σ ρ) (fin : σ → ρ) (P : Nat → σ → Prop)
    (hs : ∀ (i : Nat) (s : σ), i < xs.length → P i s → (∀ s', step (xs.getD i d) s = .inl s' → P (i + 1) s' ∧ ∀ r, Ev (fun k => F k s' ((i + 1 : Nat) : Int)) r → Ev (fun k => F k s (i : Int)) r) ∧ (∀ r, step (xs.getD i d) s = .inr r → Ev (fun k => F k s (i : Int)) r))
    (he : ∀ s, P xs.length s → Ev (fun k => F k s (xs.length : Int)) (fin s)) (s : σ) (h0 : P 0 s) : Ev (fun k => F k s 0) (scan step fin xs s) := by
  have key : ∀ (n i : Nat) (s : σ), xs.length - i = n → i ≤ xs.length → P i s → Ev (fun k => F k s (i : Int)) (scan step fin (xs.drop i) s) := by
    intro n
    induction n with
    | zero =>
      intro i s hn hi hp
      obtain rfl : i = xs.length := by omega
      rw [List.drop_eq_nil_of_le (Nat.le_refl _)]
      exact he s hp
    | succ n ih =>
      intro i s hn hi hp
      rw [Mine.drop_at xs d i (by omega), scan]
      cases hst : step (xs.getD i d) s with
      | inl s' => exact ((hs i s (by omega) hp).1 s' hst).2 _ (ih (i + 1) s' (by omega) (by omega) ((hs i s (by omega) hp).1 s' hst).1)
      | inr r => exact (hs i s (by omega) hp).2 r hst
  simpa using key xs.length 0 s (by omega) (by omega) h0

theorem eqStringS_l (xs : List ByteArray) (hm : xs.length ≤ 9223372036854775807) : ∀ (d i : Nat), xs.length - i = d → Ev (fun k => laws_eqStringS.l0 k xs xs (i : Int)) true := by
  intro d
  induction d with
  | zero => intro i hd; exact Ev.step (f := fun _ => some true) (fun k => by simp only [laws_eqStringS.l0]; rw [if_neg (by omega)]) (Ev.now _)
  | succ d ih =>
    intro i hd
    refine Ev.step (f := fun k => laws_eqStringS.l0 k xs xs ((i + 1 : Nat) : Int)) (fun k => ?_) (ih (i + 1) (by omega))
    simp only [laws_eqStringS.l0]
    rw [if_pos (by omega), if_pos (by omega), if_pos (by omega), if_pos trivial, wrap_next (n := xs.length) (by omega) hm]
theorem eqStringS_ev (xs : List ByteArray) (hm : xs.length ≤ 9223372036854775807) : Ev (fun k => laws_eqStringS.f k xs xs) true := by
  refine Ev.congr (f := fun k => laws_eqStringS.l0 k xs xs ((0 : Nat) : Int)) (fun k => ?_) (eqStringS_l xs hm _ 0 rfl)
  unfold laws_eqStringS.f
  rw [if_pos rfl]
  rfl

theorem markText_l : ∀ (d : Nat) (m : Int) (x : ByteArray), m.toNat ≤ d → 0 ≤ m → m ≤ 9223372036854775807 → x.size + m.toNat ≤ 9223372036854775800 → ∃ t, Ev (fun k => laws_markText.l0 k m x) t := by
  intro d
  induction d with
  | zero =>
    intro m x hd h0 hm hb
    refine ⟨_, Ev.step (f := fun _ => some _) (fun k => ?_) (Ev.now ((⟨#[109]⟩ : ByteArray) ++ x))⟩
    simp only [laws_markText.l0]
    rw [if_neg (by omega), if_pos (by omega)]
  | succ d ih =>
    intro m x hd h0 hm hb
    by_cases hp : m > 0
    · have hdiv : Int.tdiv m 10 = m / 10 := Int.tdiv_eq_ediv_of_nonneg h0
      have hw : wrap64 (Int.tdiv m 10) = m / 10 := by rw [hdiv]; unfold wrap64; omega
      have hz : ∀ y : List Int, (strOfNums y).size = y.length := by intro y; simp [strOfNums, ByteArray.size]
      obtain ⟨t, ht⟩ := ih (m / 10) ((strOfNums ([(wrap64 (48 + (Int.tmod m 10))) % 256] : List Int)) ++ x) (by omega) (by omega) (by omega) (by rw [ByteArray.size_append, hz]; simp; omega)
      refine ⟨t, Ev.step (fun k => ?_) ht⟩
      simp only [laws_markText.l0, Option.bind_some]
      rw [if_pos hp, if_pos (by rw [hz]; simp; omega), hw]
    · refine ⟨_, Ev.step (f := fun _ => some _) (fun k => ?_) (Ev.now ((⟨#[109]⟩ : ByteArray) ++ x))⟩
      simp only [laws_markText.l0]
      rw [if_neg hp, if_pos (by omega)]
theorem markText_some (m : Int) (h0 : 0 ≤ m) (hm : m ≤ 1000000000) : ∃ t, Ev (fun k => laws_markText.f k m) t := by
  unfold laws_markText.f
  by_cases h : m ≤ 0
  · exact ⟨_, Ev.congr (f := fun _ => some _) (fun k => by rw [if_pos h]) (Ev.now _)⟩
  · obtain ⟨t, ht⟩ := markText_l m.toNat m (⟨#[]⟩ : ByteArray) (Nat.le_refl _) h0 (by omega) (by simp [ByteArray.size]; omega)
    exact ⟨t, Ev.congr (fun k => by rw [if_neg h]) ht⟩
/-- The mark's text of a number. -/
noncomputable def mt (m : Int) : ByteArray := @dite _ (∃ t, Ev (fun k => laws_markText.f k m) t) (Classical.propDecidable _) (fun h => Classical.choose h) (fun _ => ⟨#[]⟩)
theorem mt_ev (m : Int) (h0 : 0 ≤ m) (hm : m ≤ 1000000000) : Ev (fun k => laws_markText.f k m) (mt m) := by
  have h := markText_some m h0 hm
  unfold mt
  rw [dif_pos h]
  exact Classical.choose_spec h
noncomputable def seqS (m : Int) (n : Nat) : List ByteArray := (List.range n).map fun (j : Nat) => mt (m + (j : Int))
theorem seqS_length (m : Int) (n : Nat) : (seqS m n).length = n := by simp [seqS]
theorem seqS_get (m : Int) (n i : Nat) (d : ByteArray) (h : i < n) : (seqS m n).getD i d = mt (m + (i : Int)) := by
  simp [seqS, List.getD_eq_getElem?_getD, h]

theorem markStringS_l (m : Int) (n : Nat) (h0 : 0 ≤ m) (h1 : m + n ≤ 1000000000) : ∀ (d i : Nat) (acc : List ByteArray), n - i = d → i ≤ n → acc.length = n → acc.take i = (seqS m n).take i →
    Ev (fun k => laws_markStringS.l0 k acc (m + (i : Int)) (i : Int)) (m + (n : Int), seqS m n) := by
  intro d
  induction d with
  | zero =>
    intro i acc hd hi hl ht
    obtain rfl : i = n := by omega
    have e : acc = seqS m i := Mine.take_all (i := i) (by rw [seqS_length]; omega) (by rw [seqS_length]; exact hl) ht
    exact Ev.step (f := fun _ => some _) (fun k => by simp only [laws_markStringS.l0]; rw [if_neg (by omega), e]) (Ev.now _)
  | succ d ih =>
    intro i acc hd hi hl ht
    have hs := Mine.take_set (seqS m n) acc ⟨#[]⟩ i (by rw [seqS_length]; omega) (by rw [seqS_length]; exact hl) ht
    rw [seqS_get m n i _ (by omega)] at hs
    have hw : wrap64 (m + (i : Int) + 1) = m + ((i + 1 : Nat) : Int) := by unfold wrap64; omega
    refine Ev.step (f := fun k => (laws_markText.f k (m + (i : Int))).bind fun t => laws_markStringS.l0 k (acc.set i t) (m + ((i + 1 : Nat) : Int)) ((i + 1 : Nat) : Int)) (fun k => ?_) (Ev.bind (mt_ev _ (by omega) (by omega)) (ih (i + 1) _ (by omega) (by omega) (by simpa using hl) hs))
    simp only [laws_markStringS.l0]
    rw [if_pos (by omega), hw, wrap_next (n := n) (by omega) (by omega)]
    rfl
theorem markStringS_ev (l : List ByteArray) (m : Int) (h0 : 0 ≤ m) (h1 : m + l.length ≤ 1000000000) : Ev (fun k => laws_markStringS.f k l m) (m + (l.length : Int), seqS m l.length) := by
  have := markStringS_l m l.length h0 h1 _ 0 l rfl (by omega) rfl (by simp)
  unfold laws_markStringS.f
  simpa using this

theorem rdStr_nat (l : List ByteArray) (i : Nat) : rdOf ByteArray.empty l (i : Int) = l.getD i ByteArray.empty := by unfold rdOf; rw [Int.toNat_natCast]
theorem heldStringS_l (m : Int) (n : Nat) (h0 : 0 ≤ m) (h1 : m + n ≤ 1000000000) : ∀ (d i : Nat), n - i = d → i ≤ n →
    Ev (fun k => laws_heldStringS.l0 k (seqS m n) (m + (i : Int)) (i : Int)) (m + (n : Int)) := by
  intro d
  induction d with
  | zero =>
    intro i hd hi
    obtain rfl : i = n := by omega
    exact Ev.step (f := fun _ => some _) (fun k => by simp only [laws_heldStringS.l0]; rw [if_neg (by rw [seqS_length]; omega)]) (Ev.now _)
  | succ d ih =>
    intro i hd hi
    have hw : wrap64 (m + (i : Int) + 1) = m + ((i + 1 : Nat) : Int) := by unfold wrap64; omega
    refine Ev.step (f := fun k => (laws_markText.f k (m + (i : Int))).bind fun t => if (mt (m + (i : Int))).toList = t.toList then laws_heldStringS.l0 k (seqS m n) (m + ((i + 1 : Nat) : Int)) ((i + 1 : Nat) : Int) else some (-1)) (fun k => ?_) (Ev.bind (mt_ev _ (by omega) (by omega)) (Ev.congr (fun k => by rw [if_pos rfl]) (ih (i + 1) (by omega) (by omega))))
    simp only [laws_heldStringS.l0]
    rw [if_pos (by rw [seqS_length]; omega), if_pos (by omega), rdStr_nat, seqS_get m n i _ (by omega), hw, wrap_next (n := n) (by omega) (by omega)]
theorem heldStringS_ev (m : Int) (n : Nat) (h0 : 0 ≤ m) (h1 : m + n ≤ 1000000000) : Ev (fun k => laws_heldStringS.f k (seqS m n) m) (m + (n : Int)) := by
  have := heldStringS_l m n h0 h1 _ 0 rfl (by omega)
  unfold laws_heldStringS.f
  simpa using this

/-- What frames take up. -/
def cost (l : List ByteArray) : Int := l.foldl (fun a s => a + ((s.size : Int) + 4)) 0
theorem foldl_cost (l : List ByteArray) : ∀ a : Int, l.foldl (fun a s => a + ((s.size : Int) + 4)) a = a + cost l := by
  induction l with
  | nil => intro a; simp [cost]
  | cons x l ih =>
    intro a
    unfold cost
    rw [List.foldl_cons, List.foldl_cons, ih, ih (0 + _)]
    omega
theorem cost_snoc (l : List ByteArray) (s : ByteArray) : cost (l ++ [s]) = cost l + ((s.size : Int) + 4) := by
  unfold cost; rw [List.foldl_append]; rfl
theorem cost_cons (l : List ByteArray) (s : ByteArray) : cost (s :: l) = ((s.size : Int) + 4) + cost l := by
  unfold cost; rw [List.foldl_cons, foldl_cost]; unfold cost; omega

theorem ext_size (s : ByteArray) (a b : Nat) (h : a ≤ b) (hb : b ≤ s.size) : (s.extract a b).size = b - a := by
  rw [ByteArray.size_extract]; omega
theorem bt_nat (s : ByteArray) (i : Int) : ∃ n : Nat, bt s i = (n : Int) ∧ n ≤ 255 := by
  have h := bt_range s i
  generalize bt s i = x at h
  exact ⟨x.toNat, by omega, by omega⟩
theorem bt_ext (s : ByteArray) (p b : Nat) (hp : p < b) (hb : b ≤ s.size) : bt (s.extract p b) 0 = bt s (p : Int) := by
  have h1 : (0 : Int).toNat < (s.extract p b).size := by rw [ext_size s p b (by omega) hb]; simp; omega
  have h2 : (p : Int).toNat < s.size := by rw [Int.toNat_natCast]; omega
  unfold bt
  rw [dif_pos h1, dif_pos h2]
  simp [ByteArray.getElem_extract]
theorem ext_ext (s : ByteArray) (p a b : Nat) (hb : p + b ≤ s.size) : (s.extract p s.size).extract a b = s.extract (p + a) (p + b) := by
  rw [ByteArray.extract_extract]
  congr 1
  omega

theorem ev_step2 {α : Type} {g f : Nat → Option α} {r : α} (h : ∀ k, g (k + 2) = f k) (hf : Ev f r) : Ev g r := Ev.step (f := fun k => g (k + 1)) (fun _ => rfl) (Ev.step h hf)

set_option maxHeartbeats 1000000 in
theorem frames_both (s : ByteArray) (hs : s.size ≤ 20000) : ∀ (d p : Nat) (acc : List ByteArray), s.size - p ≤ d → p ≤ s.size → acc.length ≤ p →
    ∃ out : List ByteArray, ∃ q : Nat, Ev (fun k => spec_l14Frames.l0 k s acc (p : Int)) (out, (q : Int)) ∧ Ev (fun k => impl_frames.l0 k (s.extract p s.size) acc) out ∧ q ≤ s.size ∧ out.length ≤ q ∧ (q : Int) - cost out = (p : Int) - cost acc := by
  intro d
  induction d with
  | zero =>
    intro p acc hd hp ha
    obtain rfl : p = s.size := by omega
    refine ⟨acc, s.size, ?_, ?_, Nat.le_refl _, ha, rfl⟩
    · exact Ev.step (f := fun _ => some _) (fun k => by simp only [spec_l14Frames.l0]; rw [if_neg (by omega)]) (Ev.now _)
    · refine Ev.step (f := fun _ => some _) (fun k => ?_) (Ev.now _)
      have e : (s.extract s.size s.size).toList = ([] : List UInt8) := by
        rw [ByteArray.extract_same, ByteArray.toList_empty]
      simp only [impl_frames.l0]
      rw [if_pos e]
  | succ d ih =>
    intro p acc hd hp ha
    by_cases hend : p = s.size
    · subst hend
      exact ih s.size acc (by omega) hp ha
    have hlt : p < s.size := by omega
    have hz := ext_size s p s.size hp (Nat.le_refl _)
    have hne : ¬ (s.extract p s.size).toList = ([] : List UInt8) := by
      intro h
      have : (s.extract p s.size).size = 0 := by rw [← data_length, ← ByteArray.toList_eq, h]; rfl
      omega
    obtain ⟨n, hn, hn255⟩ := bt_nat s (p : Int)
    have hbn : bt (s.extract p s.size) 0 = (n : Int) := by rw [bt_ext s p s.size hlt (Nat.le_refl _), hn]
    obtain ⟨W1, W2, W3, W4, W5, W6, W7⟩ : Aside0 (wrap64 (n : Int) = (n : Int)) ∧ Aside0 (wrap64 (wrap64 ((p : Int) + (n : Int)) + 4) = (p : Int) + (n : Int) + 4) ∧ Aside0 (wrap64 ((n : Int) + 4) = (n : Int) + 4) ∧ Aside0 (wrap64 ((p : Int) + 1) = (p : Int) + 1) ∧ Aside0 (wrap64 ((p : Int) + 1 + (n : Int)) = (p : Int) + 1 + (n : Int)) ∧ Aside0 (wrap64 ((n : Int) + 1) = (n : Int) + 1) ∧ Aside0 (wrap64 ((p : Int) + ((n : Int) + 4)) = ((p + n + 4 : Nat) : Int)) := ⟨⟨wrap_small (by omega) (by omega)⟩, ⟨by rw [wrap_small (x := (p : Int) + (n : Int)) (by omega) (by omega), wrap_small (by omega) (by omega)]⟩, ⟨wrap_small (by omega) (by omega)⟩, ⟨wrap_small (by omega) (by omega)⟩, ⟨wrap_small (by omega) (by omega)⟩, ⟨wrap_small (by omega) (by omega)⟩, ⟨by rw [wrap_small (by omega) (by omega)]; omega⟩⟩
    by_cases hfar : n > 200 ∨ s.size < p + n + 4
    · -- no frame begins here
      refine ⟨acc, p, ?_, ?_, by omega, ha, rfl⟩
      · refine Ev.step (f := fun k => spec_l14Frames.j1 k s acc (p : Int) (n : Int) true) (fun k => ?_) (Ev.step (f := fun _ => some _) (fun k => by simp only [spec_l14Frames.j1, if_true]) (Ev.now _))
        simp only [spec_l14Frames.l0]
        rw [if_pos (by omega), if_pos (by omega), hn, W1.out, W2.out]
        by_cases h2 : (n : Int) > 200
        · rw [if_pos h2]
        · rw [if_neg h2, decide_eq_true (by omega)]
      · refine Ev.step (f := fun _ => some _) (fun k => ?_) (Ev.now _)
        simp only [impl_frames.l0]
        rw [if_neg hne, if_pos (by omega), hbn, W1.out, W3.out]
        by_cases h2 : (n : Int) > 200
        · rw [if_pos h2]
        · rw [if_neg h2, if_pos (by omega)]
    · have e1 : (s.extract p s.size).extract 1 ((n : Int) + 1).toNat = s.extract (p + 1) (p + 1 + n) := by
        rw [show ((n : Int) + 1).toNat = n + 1 by omega, ext_ext s p 1 (n + 1) (by omega)]; congr 1; omega
      have e2 : (s.extract p s.size).extract 0 ((n : Int) + 4).toNat = s.extract p (p + n + 4) := by
        rw [show ((n : Int) + 4).toNat = n + 4 by omega, ext_ext s p 0 (n + 4) (by omega)]; congr 1
      have e3 : (s.extract p s.size).extract ((n : Int) + 4).toNat (s.extract p s.size).size = s.extract (p + n + 4) s.size := by
        rw [show ((n : Int) + 4).toNat = n + 4 by omega, hz, ext_ext s p (n + 4) (s.size - p) (by omega)]; congr 1; omega
      have hts := ext_size s (p + 1) (p + 1 + n) (by omega) (by omega)
      have hfr : spec_l14Frame.f (s.extract (p + 1) (p + 1 + n)) = some (spec_l14Frame.fB (s.extract (p + 1) (p + 1 + n))) := by unfold spec_l14Frame.f; rw [if_pos (by omega)]
      have hfe := frame_ev (s.extract (p + 1) (p + 1 + n)) (by omega)
      have specStep : ∀ k, spec_l14Frames.l0 (k + 2) s acc (p : Int) = if (spec_l14Frame.fB (s.extract (p + 1) (p + 1 + n))).toList = (s.extract p (p + n + 4)).toList then spec_l14Frames.l0 k s (acc ++ [s.extract (p + 1) (p + 1 + n)]) ((p + n + 4 : Nat) : Int) else some (acc, (p : Int)) := by
        intro k
        simp only [spec_l14Frames.l0]
        rw [if_pos (by omega), if_pos (by omega), hn, W1.out, if_neg (by omega), W2.out, decide_eq_false (by omega)]
        simp only [spec_l14Frames.j1]
        rw [if_neg (by simp), W4.out, if_pos (by omega), W5.out, if_pos (by omega), if_pos (by omega), show ((p : Int) + 1).toNat = p + 1 by omega, show ((p : Int) + 1 + (n : Int)).toNat = p + 1 + n by omega, hfr, Option.bind_some, if_pos (by omega), W2.out, if_pos (by omega), if_pos (by omega), Int.toNat_natCast, show ((p : Int) + (n : Int) + 4).toNat = p + n + 4 by omega, W3.out, W7.out, if_pos (show acc.length < 8796093022208 by omega)]
      have implStep : ∀ k, impl_frames.l0 (k + 1) (s.extract p s.size) acc = (impl_frame.f k (s.extract (p + 1) (p + 1 + n))).bind fun t => if t.toList = (s.extract p (p + n + 4)).toList then impl_frames.l0 k (s.extract (p + n + 4) s.size) (acc ++ [s.extract (p + 1) (p + 1 + n)]) else some acc := by
        intro k
        simp only [impl_frames.l0]
        rw [if_neg hne, if_pos (by omega), hbn, W1.out, if_neg (by omega), W3.out, if_neg (by omega), W6.out, if_pos (by omega), if_pos (by omega), e1]
        refine congrArg (Option.bind _) (funext fun t => ?_)
        rw [if_pos (by omega), if_pos (by omega), e2, e3, if_pos (show acc.length < 8796093022208 by omega)]
      by_cases heq : (spec_l14Frame.fB (s.extract (p + 1) (p + 1 + n))).toList = (s.extract p (p + n + 4)).toList
      · obtain ⟨out, q, h1, h2, h3, h4, h5⟩ := ih (p + n + 4) (acc ++ [s.extract (p + 1) (p + 1 + n)]) (by omega) (by omega) (by simp; omega)
        refine ⟨out, q, ?_, ?_, h3, h4, ?_⟩
        · exact ev_step2 (fun k => (specStep k).trans (if_pos heq)) h1
        · exact Ev.step implStep (Ev.bind hfe (Ev.congr (fun k => by rw [if_pos heq]) h2))
        · rw [h5, cost_snoc, hts]; omega
      · refine ⟨acc, p, ?_, ?_, by omega, ha, rfl⟩
        · exact ev_step2 (fun k => (specStep k).trans (if_neg heq)) (Ev.now _)
        · exact Ev.step implStep (Ev.bind hfe (Ev.congr (f := fun _ => some _) (fun k => by rw [if_neg heq]) (Ev.now _)))

theorem sum_l (l : List ByteArray) (hl : l.length ≤ 1000000) (hc : ∀ i, i ≤ l.length → 0 ≤ cost (l.take i) ∧ cost (l.take i) ≤ 1000000) : ∀ (d i : Nat), l.length - i = d → i ≤ l.length → Ev (fun k => impl_FramesIn.l0 k l (cost (l.take i)) l (l.length : Int) (i : Int)) (l, cost l, true) := by
  intro d
  induction d with
  | zero =>
    intro i hd hi
    obtain rfl : i = l.length := by omega
    rw [List.take_length]
    exact Ev.step (f := fun _ => some _) (fun k => by simp only [impl_FramesIn.l0]; rw [if_neg (by omega)]) (Ev.now _)
  | succ d ih =>
    intro i hd hi
    have e : l.take (i + 1) = l.take i ++ [l.getD i ByteArray.empty] := by
      rw [List.take_add_one, List.getD_eq_getElem?_getD, List.getElem?_eq_getElem (by omega : i < l.length)]; rfl
    have h1 := hc i hi
    have h2 := hc (i + 1) (by omega)
    have e2 := cost_snoc (l.take i) (l.getD i ByteArray.empty)
    rw [← e] at e2
    refine Ev.step (f := fun k => impl_FramesIn.l0 k l (cost (l.take (i + 1))) l (l.length : Int) ((i + 1 : Nat) : Int)) (fun k => ?_) (ih (i + 1) (by omega) (by omega))
    have hw : wrap64 (cost (l.take i) + wrap64 (((l.getD i ByteArray.empty).size : Int) + 4)) = cost (l.take (i + 1)) := by
      rw [wrap_small (x := ((l.getD i ByteArray.empty).size : Int) + 4) (by omega) (by omega), wrap_small (by omega) (by omega), e2]
    simp only [impl_FramesIn.l0]
    rw [if_pos (by omega), if_pos (by omega), if_pos (by omega), rdStr_nat, hw, wrap_next (n := l.length) (by omega) (by omega)]

theorem cost_pos (l : List ByteArray) : 0 ≤ cost l := by
  induction l with
  | nil => simp [cost]
  | cons x l ih => rw [cost_cons]; omega
theorem cost_take (l : List ByteArray) (i : Nat) : cost (l.take i) ≤ cost l := by
  have e : cost l = cost (l.take i) + cost (l.drop i) := by
    have h1 : cost l = cost (l.take i ++ l.drop i) := by rw [List.take_append_drop]
    rw [h1]
    show (l.take i ++ l.drop i).foldl _ 0 = _
    rw [List.foldl_append, foldl_cost]
    rfl
  have := cost_pos (l.drop i)
  omega

theorem both (s : ByteArray) : ∃ l : List ByteArray, ∃ q : Int, ∃ b : Bool, Ev (fun k => spec_FramesIn.f k s) (l, q, b) ∧ Ev (fun k => impl_FramesIn.f k s) (l, q, b) ∧ l.length ≤ 20000 := by
  unfold spec_FramesIn.f impl_FramesIn.f
  by_cases h : (s.size : Int) > 20000
  · exact ⟨[], 0, false, Ev.congr (f := fun _ => some _) (fun k => by rw [if_pos h]) (Ev.now _), Ev.congr (f := fun _ => some _) (fun k => by rw [if_pos h]) (Ev.now _), by simp⟩
  · obtain ⟨out, q, h1, h2, h3, h4, h5⟩ := frames_both s (by omega) s.size 0 [] (by omega) (by omega) (by simp)
    have hq : (q : Int) = cost out := by
      have : cost [] = 0 := rfl
      omega
    have hc : ∀ i, i ≤ out.length → 0 ≤ cost (out.take i) ∧ cost (out.take i) ≤ 1000000 := fun i _ => ⟨cost_pos _, by have := cost_take out i; omega⟩
    refine ⟨out, q, true, ?_, ?_, by omega⟩
    · refine Ev.congr (f := fun k => (spec_l14Frames.l0 k s [] ((0 : Nat) : Int)).bind fun x => some (x.1, x.2, true)) (fun k => by rw [if_neg h]; rfl) (Ev.bind h1 (Ev.now _))
    · have e0 : s.extract 0 s.size = s := by simp
      rw [e0] at h2
      have h6 := sum_l out (by omega) hc _ 0 rfl (by omega)
      rw [← hq] at h6
      exact Ev.congr (f := fun k => (impl_frames.l0 k s []).bind fun t => impl_FramesIn.l0 k t 0 t (t.length : Int) 0) (fun k => by rw [if_neg h]; rfl) (Ev.bind h2 h6)

theorem FnExactFramesIn : laws_FnExactFramesIn.Pure := by
  intro s _
  by_cases hbig : (s.size : Int) > 1048576
  · exact ⟨0, by unfold laws_FnExactFramesIn.f; rw [if_pos hbig]⟩
  obtain ⟨l, q, b, ⟨K1, k1⟩, ⟨K2, k2⟩, hl⟩ := both s
  obtain ⟨K3, k3⟩ := eqStringS_ev l (by omega)
  obtain ⟨K4, k4⟩ := markStringS_ev l 1 (by omega) (by omega)
  obtain ⟨K5, k5⟩ := heldStringS_ev 1 l.length (by omega) (by omega)
  dsimp only at k1 k2 k3 k4 k5
  refine ⟨K1 + K2 + K3 + K4 + K5 + 2, ?_⟩
  unfold laws_FnExactFramesIn.f
  rw [if_neg hbig, k1 _ (by omega), Option.bind_some, k2 _ (by omega), Option.bind_some, k3 _ (by omega), Option.bind_some, if_pos rfl, if_pos rfl, bne_self_eq_false]
  simp only [laws_FnExactFramesIn.j0]
  rw [if_neg (by simp), k4 _ (by omega), Option.bind_some, k5 _ (by omega), Option.bind_some, if_neg (by omega), if_pos rfl, k2 _ (by omega), Option.bind_some, k3 _ (by omega), Option.bind_some, if_pos rfl, if_pos rfl, bne_self_eq_false]
  simp only [laws_FnExactFramesIn.j1]
  rw [if_neg (by simp), k5 _ (by omega), Option.bind_some, if_neg (by omega), if_pos rfl]

end Go.Proofs.Ytphjjidoniideaa.Pure
