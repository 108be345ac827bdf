/- The law HamApart, the pure statement; of bytes that a machine can hold. -/
import Derived.Test.YtalnbmpfgmpkbaaDoorPQx11
import Derived.Test.YtalnbmpfgmpkbaaDoorPureBack
namespace Go.Proofs.YtalnbmpfgmpkbaaDoor.Pure
open Go.RowKit Go.Proofs.YtalnbmpfgmpkbaaDoorW.PrintWords PQ
set_option linter.unusedVariables false
set_option linter.unusedSimpArgs false
/-- Two words, put together bit by bit. -/
def xorL : List Nat → List Nat → List Nat
  | a :: l, b :: m => (a ^^^ b) :: xorL l m
  | _, _ => []
theorem xorL_length : ∀ l m : List Nat, l.length = m.length → (xorL l m).length = l.length
  | [], [], _ => rfl
  | _ :: l, _ :: m, h => congrArg (· + 1) (xorL_length l m (by simpa using h))
theorem xorL_getD : ∀ (l m : List Nat) (i : Nat), l.length = m.length → (xorL l m).getD i 0 = l.getD i 0 ^^^ m.getD i 0
  | [], [], i, _ => by simp [xorL]
  | _ :: l, _ :: m, 0, h => rfl
  | a :: l, b :: m, i + 1, h => by
    have := xorL_getD l m i (by simpa using h)
    simpa [xorL] using this
theorem xorL_bit (l m : List Nat) (h : l.length = m.length) (j : Nat) : bit (xorL l m) j = (bit l j ^^ bit m j) := by
  unfold bit; rw [xorL_getD _ _ _ h, Nat.testBit_xor]
theorem X_xor (l m : List Nat) (h : l.length = m.length) : ∀ n, X (xorL l m) n = X l n ^^^ X m n
  | 0 => (Nat.xor_self 0).symm
  | n + 1 => by
    show X (xorL l m) n ^^^ (if bit (xorL l m) n then pl n else 0) = (X l n ^^^ (if bit l n then pl n else 0)) ^^^ (X m n ^^^ (if bit m n then pl n else 0))
    rw [X_xor l m h n, xorL_bit l m h n]
    have e : (if (bit l n ^^ bit m n) = true then pl n else 0) = (if bit l n then pl n else 0) ^^^ (if bit m n then pl n else 0) := by
      cases bit l n <;> cases bit m n <;> simp
    rw [e]
    generalize (if bit l n then pl n else 0) = u
    generalize (if bit m n then pl n else 0) = v
    rw [Nat.xor_assoc, Nat.xor_assoc]
    congr 1
    rw [← Nat.xor_assoc, Nat.xor_comm (X m n) u, Nat.xor_assoc]
theorem C_xor (l m : List Nat) (h : l.length = m.length) : ∀ n, (C (xorL l m) n + C l n + C m n) % 2 = 0
  | 0 => rfl
  | n + 1 => by
    have ih := C_xor l m h n
    show (C (xorL l m) n + (if bit (xorL l m) n then 1 else 0) + (C l n + (if bit l n then 1 else 0)) + (C m n + (if bit m n then 1 else 0))) % 2 = 0
    rw [xorL_bit l m h n]
    generalize C (xorL l m) n = u at ih ⊢
    generalize C l n = v at ih ⊢
    generalize C m n = w at ih ⊢
    cases bit l n <;> cases bit m n <;> simp <;> omega
theorem C_zero (l : List Nat) : ∀ n, C l n = 0 → X l n = 0 ∧ ∀ j, j < n → bit l j = false
  | 0, _ => ⟨rfl, fun j hj => absurd hj (by omega)⟩
  | n + 1, h => by
    have h' : C l n + (if bit l n then 1 else 0) = 0 := h
    have hb : bit l n = false := by
      cases e : bit l n with
      | false => rfl
      | true => rw [e, if_pos rfl] at h'; omega
    rw [hb] at h'
    obtain ⟨a, b⟩ := C_zero l n (by simpa using h')
    refine ⟨?_, fun j hj => ?_⟩
    · show X l n ^^^ (if bit l n then pl n else 0) = 0
      rw [a, hb]; simp
    · by_cases e : j = n
      · rw [e]; exact hb
      · exact b j (by omega)
theorem C_one (l : List Nat) : ∀ n, C l n = 1 → ∃ j, j < n ∧ X l n = pl j
  | 0, h => by simp [C] at h
  | n + 1, h => by
    have h' : C l n + (if bit l n then 1 else 0) = 1 := h
    cases e : bit l n with
    | true =>
      rw [e, if_pos rfl] at h'
      have := (C_zero l n (by omega)).1
      refine ⟨n, by omega, ?_⟩
      show X l n ^^^ (if bit l n then pl n else 0) = _
      rw [this, e, if_pos rfl, Nat.zero_xor]
    | false =>
      rw [e] at h'
      obtain ⟨j, hj, hx⟩ := C_one l n (by simpa using h')
      refine ⟨j, by omega, ?_⟩
      show X l n ^^^ (if bit l n then pl n else 0) = _
      rw [hx, e]; simp
theorem C_two (l : List Nat) : ∀ n, C l n = 2 → ∃ i j, i < j ∧ j < n ∧ X l n = pl i ^^^ pl j
  | 0, h => by simp [C] at h
  | n + 1, h => by
    have h' : C l n + (if bit l n then 1 else 0) = 2 := h
    cases e : bit l n with
    | true =>
      rw [e, if_pos rfl] at h'
      obtain ⟨j, hj, hx⟩ := C_one l n (by omega)
      refine ⟨j, n, hj, by omega, ?_⟩
      show X l n ^^^ (if bit l n then pl n else 0) = _
      rw [hx, e, if_pos rfl]
    | false =>
      rw [e] at h'
      obtain ⟨i, j, hi, hj, hx⟩ := C_two l n (by simpa using h')
      refine ⟨i, j, hi, by omega, ?_⟩
      show X l n ^^^ (if bit l n then pl n else 0) = _
      rw [hx, e]; simp
theorem byte_ext {a b : Nat} (ha : a < 256) (hb : b < 256) (h : ∀ k, k < 8 → a.testBit k = b.testBit k) : a = b := by
  apply Nat.eq_of_testBit_eq
  intro k
  by_cases hk : k < 8
  · exact h k hk
  · have h2 : 2 ^ 8 ≤ 2 ^ k := Nat.pow_le_pow_right (by decide) (by omega)
    rw [Nat.testBit_lt_two_pow (by omega), Nat.testBit_lt_two_pow (by omega)]
/-- Two words whose bits are the same are the same. -/
theorem word_ext (l m : List Nat) (hl : ∀ x ∈ l, x < 256) (hm : ∀ x ∈ m, x < 256) (n : Nat) (h1 : l.length = n) (h2 : m.length = n) (h : ∀ j, j < 8 * n → bit l j = bit m j) : l = m := by
  apply List.ext_getElem?
  intro i
  by_cases hi : i < n
  · have e : l.getD i 0 = m.getD i 0 := byte_ext (getD_lt0 l hl i) (getD_lt0 m hm i) fun k hk => by
      rw [← bit_at l i k hk, ← bit_at m i k hk]; exact h _ (by omega)
    rw [List.getD_eq_getElem?_getD, List.getD_eq_getElem?_getD, List.getElem?_eq_getElem (by omega), List.getElem?_eq_getElem (by omega)] at e
    rw [List.getElem?_eq_getElem (by omega), List.getElem?_eq_getElem (by omega)]
    exact congrArg some e
  · rw [List.getElem?_eq_none (by omega), List.getElem?_eq_none (by omega)]
/-- Two words that come to 0, and to an even number, and are not the same, differ in four bits at least. -/
theorem four_apart (l m : List Nat) (hl : ∀ x ∈ l, x < 256) (hm : ∀ x ∈ m, x < 256) (h1 : l.length = 9) (h2 : m.length = 9) (x1 : X l 72 = 0) (x2 : X m 72 = 0) (c1 : C l 72 % 2 = 0) (c2 : C m 72 % 2 = 0) (hne : l ≠ m) : 4 ≤ C (xorL l m) 72 := by
  have hx := X_xor l m (by omega) 72
  rw [x1, x2, Nat.xor_self] at hx
  have hc := C_xor l m (by omega) 72
  by_cases z0 : C (xorL l m) 72 = 0
  · exfalso
    have hb := (C_zero _ 72 z0).2
    refine hne (word_ext l m hl hm 9 h1 h2 fun j hj => ?_)
    have := hb j (by omega)
    rw [xorL_bit l m (by omega)] at this
    revert this
    cases bit l j <;> cases bit m j <;> simp
  · by_cases z2 : C (xorL l m) 72 = 2
    · exfalso
      obtain ⟨i, j, hi, hj, h⟩ := C_two _ 72 z2
      rw [hx] at h
      have := pl_inj i (by omega) j hj (xor_eq_zero h.symm)
      omega
    · omega
theorem ones_step : ∀ c < 256, c ≠ 0 → onesN c = onesN (c &&& (c - 1)) + 1 := by decide +kernel
theorem apart_l1 (x y : ByteArray) (i : Nat) (hi : i < 9) : ∀ (c : Nat), c < 256 → ∀ (m n : Nat), c < m → n + c ≤ 1000000 → ∃ m', m ≤ m' + c + 1 ∧ decklelaw03_HamApart.l1 m x y (n : Int) (c : Int) (i : Int) = decklelaw03_HamApart.l0 m' x y ((n + onesN c : Nat) : Int) ((i + 1 : Nat) : Int) := by
  intro c
  induction c using Nat.strongRecOn with
  | ind c ih =>
    intro hc m n hm hn
    obtain ⟨m, rfl⟩ : ∃ j, m = j + 1 := ⟨m - 1, by omega⟩
    simp only [decklelaw03_HamApart.l1]
    by_cases h0 : c = 0
    · subst h0
      refine ⟨m, by omega, ?_⟩
      rw [if_pos (by omega), w64 (by omega) (by omega)]; rfl
    · have hd := and_pred_lt c h0
      obtain ⟨m', a3, a4⟩ := ih _ hd (by omega) m (n + 1) (by omega) (by omega)
      refine ⟨m', by omega, ?_⟩
      rw [if_neg (by omega), w64 (by omega) (by omega), ones_step c hc h0, show n + (onesN (c &&& (c - 1)) + 1) = n + 1 + onesN (c &&& (c - 1)) from by omega, ← a4]
      congr 1
      have e1 : (((c : Int) - 1) % 256) = ((c - 1 : Nat) : Int) := by omega
      rw [e1, u8_and_nat _ _ (by omega) (by omega)]
theorem apart_l0 (x y : ByteArray) (hx : x.size = 9) (hy : y.size = 9) (d : Nat) : ∀ (i m : Nat), 9 - i = d → i ≤ 9 → 257 * d < m → decklelaw03_HamApart.l0 m x y ((C (xorL (bytesL x) (bytesL y)) (8 * i) : Nat) : Int) (i : Int) = some (decide (4 ≤ C (xorL (bytesL x) (bytesL y)) 72)) := by
  have hlen : (bytesL x).length = (bytesL y).length := by rw [bytesL_length, bytesL_length]; omega
  have hl : ∀ v ∈ xorL (bytesL x) (bytesL y), v < 256 := by
    intro v hv
    obtain ⟨i, hi, rfl⟩ := List.getElem_of_mem hv
    have e := xorL_getD (bytesL x) (bytesL y) i hlen
    rw [List.getD_eq_getElem?_getD, List.getElem?_eq_getElem hi] at e
    show (xorL (bytesL x) (bytesL y))[i] < 256
    rw [show (xorL (bytesL x) (bytesL y))[i] = (bytesL x).getD i 0 ^^^ (bytesL y).getD i 0 from e]
    exact Nat.xor_lt_two_pow (n := 8) (getD_lt0 _ (bytesL_lt0 x) i) (getD_lt0 _ (bytesL_lt0 y) i)
  induction d with
  | zero =>
    intro i m h1 h2 hm
    obtain ⟨m, rfl⟩ : ∃ j, m = j + 1 := ⟨m - 1, by omega⟩
    obtain rfl : i = 9 := by omega
    simp only [decklelaw03_HamApart.l0]
    rw [if_neg (by omega), show 8 * 9 = 72 from rfl]
    exact congrArg some (decide_eq_decide.2 (by omega))
  | succ d ih =>
    intro i m h1 h2 hm
    obtain ⟨m, rfl⟩ : ∃ j, m = j + 1 := ⟨m - 1, by omega⟩
    simp only [decklelaw03_HamApart.l0]
    have bx := getD_lt0 _ (bytesL_lt0 x) i
    have hv := getD_lt0 _ hl i
    have hg := xorL_getD (bytesL x) (bytesL y) i hlen
    have e1 : Go.bits .xor .u8 (bt x (i : Int)) (bt y (i : Int)) = (((xorL (bytesL x) (bytesL y)).getD i 0 : Nat) : Int) := by
      rw [bt_nat x i (by omega), bt_nat y i (by omega), hg]
      exact u8_xor_nat _ _ bx (getD_lt0 _ (bytesL_lt0 y) i)
    have hC : C (xorL (bytesL x) (bytesL y)) (8 * i) ≤ 100 := by
      rw [C_left _ hl]; have := leftN_le _ hl i; omega
    have hB := C_byte _ hl i
    rw [if_pos (by omega), if_pos (by omega), if_pos (by omega), if_pos (by omega), e1]
    obtain ⟨m', a3, a4⟩ := apart_l1 x y i (by omega) _ hv m (C (xorL (bytesL x) (bytesL y)) (8 * i)) (by omega) (by omega)
    rw [a4, ← hB]
    exact ih (i + 1) m' (by omega) (by omega) (by omega)
theorem hamApart_pure (s t : ByteArray) (h : s.size ≤ 140737488351232) (h' : t.size ≤ 140737488351232) : decklelaw03_HamApart.f 4000 s t = some true := by
  have z := eightB_size s
  have z' := eightB_size t
  have n := encB_size _ z
  have n' := encB_size _ z'
  unfold decklelaw03_HamApart.f
  rw [works_ok _ (by omega), obind, if_pos rfl, eight_ok s h, obind, eight_ok t h', obind]
  by_cases e : (eightB s).toList = (eightB t).toList
  · rw [if_pos e]
  · rw [if_neg e, enc_ok, if_pos z, obind, enc_ok, if_pos z', obind, if_pos (by rw [n]; rfl)]
    have hne : bytesL (encB (eightB s)) ≠ bytesL (encB (eightB t)) := fun g => e (by
      have : (encB (eightB s)).extract 0 8 = (encB (eightB t)).extract 0 8 := by rw [bytesL_inj g]
      rw [enc_take _ z, enc_take _ z'] at this
      rw [this])
    obtain ⟨x1, c1⟩ := enc_X _ z
    obtain ⟨x2, c2⟩ := enc_X _ z'
    have f := four_apart _ _ (bytesL_lt0 _) (bytesL_lt0 _) (by rw [bytesL_length]; exact n) (by rw [bytesL_length]; exact n') x1 x2 c1 c2 hne
    have go := apart_l0 (encB (eightB s)) (encB (eightB t)) n n' 9 0 3999 (by omega) (by omega) (by omega)
    rw [decide_eq_true f] at go
    have j0 : ∀ m x y, decklelaw03_HamApart.j0 (m + 1) x y false = decklelaw03_HamApart.l0 m x y 0 0 := fun m x y => by rw [decklelaw03_HamApart.j0, if_neg (by decide)]
    have jj := j0 3999 (encB (eightB s)) (encB (eightB t))
    have eb : (((encB (eightB t)).size : Int) != 9) = false := by rw [n']; rfl
    show decklelaw03_HamApart.j0 4000 (encB (eightB s)) (encB (eightB t)) (((encB (eightB t)).size : Int) != 9) = some true
    rw [eb]
    exact jj.trans go
end Go.Proofs.YtalnbmpfgmpkbaaDoor.Pure
