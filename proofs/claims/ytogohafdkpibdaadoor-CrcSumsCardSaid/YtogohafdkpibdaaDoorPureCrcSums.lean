/- The crc law Sums: the pure statement: the program's sums, states, seals are those of dividing polynomials, for all texts of at most 500 bytes; no condition. -/
import Derived.Test.YtogohafdkpibdaaDoorPQx6
import Derived.Test.YtogohafdkpibdaaDoorCommon
namespace Go.Proofs.YtogohafdkpibdaaDoor.Pure
open Go.RowKit Go.Proofs.YtogohafdkpibdaaDoor.PQ Go.Proofs.YtogohafdkpibdaaDoorW.PrintWords Go.Proofs.YtogohafdkpibdaaDoorW.PrintLast Go.Proofs.YtogohafdkpibdaaDoorW.PrintMore
set_option linter.unusedVariables false
set_option linter.unusedSimpArgs false
open CrcMath
/-! the reference: dividing lists of bits -/
def numB : List Bool → Nat
  | [] => 0
  | b :: l => bit b + 2 * numB l
theorem numB_bitsN : ∀ (n v : Nat), v < 2 ^ n → numB (bitsN n v) = v
  | 0, v, h => by simp at h; subst h; rfl
  | n + 1, v, h => by
    show bit (v % 2 == 1) + 2 * numB (bitsN n (v / 2)) = v
    rw [numB_bitsN n (v / 2) (by rw [Nat.pow_succ] at h; omega), bit_mod]; omega
theorem numB_snoc : ∀ (l : List Bool) (b : Bool), numB (l ++ [b]) = numB l + 2 ^ l.length * bit b
  | [], b => by simp [numB]
  | c :: l, b => by
    show bit c + 2 * numB (l ++ [b]) = bit c + 2 * numB l + 2 ^ (l.length + 1) * bit b
    rw [numB_snoc l b, Nat.pow_succ, Nat.mul_add, Nat.mul_comm (2 ^ l.length) 2, Nat.mul_assoc]; omega
theorem numB_lt : ∀ (l : List Bool), numB l < 2 ^ l.length
  | [] => by simp [numB]
  | b :: l => by
    have := numB_lt l
    show bit b + 2 * numB l < 2 ^ (l.length + 1)
    rw [Nat.pow_succ]
    have : bit b ≤ 1 := by unfold bit; split <;> omega
    omega
theorem take_snoc {α : Type} (l : List α) (i : Nat) (d : α) (h : i < l.length) : l.take (i + 1) = l.take i ++ [l.getD i d] := by
  rw [List.take_succ_eq_append_getElem h, List.getD_eq_getElem?_getD, List.getElem?_eq_getElem h]; rfl

theorem number_l0 (l : List Bool) (hl : l.length ≤ 32) (d : Nat) : ∀ (m i : Nat), l.length - i = d → i ≤ l.length → d < m →
    deckleref02_Number.l0 m l ((numB (l.take i) : Nat) : Int) (((2 ^ i % 4294967296 : Nat)) : Int) (i : Int) = some ((numB l : Nat) : Int) := by
  induction d with
  | zero =>
    intro m i hd hi hm
    obtain ⟨m, rfl⟩ : ∃ j, m = j + 1 := ⟨m - 1, by omega⟩
    simp only [deckleref02_Number.l0]
    rw [if_neg (by omega), List.take_of_length_le (by omega)]
  | succ d ih =>
    intro m i hd hi hm
    obtain ⟨m, rfl⟩ : ∃ j, m = j + 1 := ⟨m - 1, by omega⟩
    simp only [deckleref02_Number.l0]
    rw [if_pos (by omega), if_pos (by omega), w64 (x := (i : Int) + 1) (by omega) (by omega), show (i : Int) + 1 = ((i + 1 : Nat) : Int) from by omega]
    have hp : ((((2 ^ i % 4294967296 : Nat)) : Int) * 2) % 4294967296 = ((2 ^ (i + 1) % 4294967296 : Nat) : Int) := by
      rw [Nat.pow_succ]; omega
    have hr : rdOf false l (i : Int) = l.getD i false := by unfold rdOf; rw [Int.toNat_natCast]
    rw [hp, hr]
    have hs := take_snoc l i false (by omega)
    have hn := numB_snoc (l.take i) (l.getD i false)
    rw [← hs, List.length_take, Nat.min_eq_left (by omega)] at hn
    have hlt := numB_lt (l.take (i + 1))
    rw [List.length_take, Nat.min_eq_left (by omega)] at hlt
    have hi32 : (2 : Nat) ^ i % 4294967296 = 2 ^ i := Nat.mod_eq_of_lt (Nat.lt_of_lt_of_le (Nat.pow_lt_pow_right (by decide) (show i < 32 by omega)) (by decide))
    have hi33 : (2 : Nat) ^ (i + 1) ≤ 4294967296 := Nat.le_trans (Nat.pow_le_pow_right (by decide) (show i + 1 ≤ 32 by omega)) (by decide)
    have go := ih m (i + 1) (by omega) (by omega) (by omega)
    cases hb : l.getD i false with
    | true =>
      rw [if_pos rfl]
      rw [hb] at hn
      have e : (((numB (l.take i) : Nat) : Int) + ((2 ^ i % 4294967296 : Nat) : Int)) % 4294967296 = ((numB (l.take (i + 1)) : Nat) : Int) := by
        rw [hi32]
        have : bit true = 1 := rfl
        rw [this, Nat.mul_one] at hn
        rw [hn]; omega
      rw [e]; exact go
    | false =>
      rw [if_neg (by simp)]
      rw [hb] at hn
      have h0 : bit false = 0 := rfl
      have hn2 : numB (l.take (i + 1)) = numB (l.take i) := by rw [hn, h0, Nat.mul_zero, Nat.add_zero]
      rw [← hn2]; exact go
theorem number_ok (l : List Bool) (hl : l.length ≤ 32) (m : Nat) (hm : 40 ≤ m) : deckleref02_Number.f m l = some ((numB l : Nat) : Int) := by
  unfold deckleref02_Number.f
  have := number_l0 l hl l.length m 0 (by omega) (by omega) (by omega)
  simpa [numB] using this

theorem mono_le {α : Type} {f : Nat → Option α} (h : ∀ k r, f k = some r → f (k + 1) = some r) {a b : Nat} (hab : a ≤ b) {r : α} (e : f a = some r) : f b = some r := by
  obtain ⟨d, rfl⟩ := Nat.exists_eq_add_of_le hab
  clear hab
  induction d with
  | zero => exact e
  | succ d ih => exact h _ _ ih
def polyL : List Bool := bitsN 32 P
theorem poly_ok (m : Nat) (hm : 40 ≤ m) : deckleref02_Poly.f m = some polyL := by
  refine mono_le (f := fun k => deckleref02_Poly.f k) (fun k r h => deckleref02_Poly.mono k r h) hm ?_
  decide +kernel

theorem bits_l1 (s : ByteArray) (x4 : Int) (d : Nat) : ∀ (m k v : Nat) (acc : List Bool), 8 - k = d → k ≤ 8 → v < 256 → acc.length + d ≤ 140737488355000 → d < m →
    deckleref02_Bits.l1 m s acc x4 (v : Int) (k : Int) = deckleref02_Bits.l0 (m - d - 1) s (acc ++ bitsN d v) (wrap64 (x4 + 1)) := by
  induction d with
  | zero =>
    intro m k v acc hd hk hv ha hm
    obtain ⟨m, rfl⟩ : ∃ j, m = j + 1 := ⟨m - 1, by omega⟩
    simp only [deckleref02_Bits.l1]
    rw [if_neg (by omega)]
    simp [bitsN]
  | succ d ih =>
    intro m k v acc hd hk hv ha hm
    obtain ⟨m, rfl⟩ : ∃ j, m = j + 1 := ⟨m - 1, by omega⟩
    simp only [deckleref02_Bits.l1]
    rw [if_pos (by omega), if_pos (by omega), w64 (x := (k : Int) + 1) (by omega) (by omega), show (k : Int) + 1 = ((k + 1 : Nat) : Int) from by omega]
    rw [Int.tdiv_eq_ediv_of_nonneg (by omega), Int.tmod_eq_emod_of_nonneg (by omega), w64 (x := (v : Int) / 2) (by omega) (by omega), show (v : Int) / 2 = ((v / 2 : Nat) : Int) from by omega]
    have hb : ((v : Int) % 2 == 1) = (v % 2 == 1) := by
      rw [Bool.eq_iff_iff, beq_iff_eq, beq_iff_eq]; omega
    have go := ih m (k + 1) (v / 2) (acc ++ [v % 2 == 1]) (by omega) (by omega) (by omega) (by rw [List.length_append]; simp; omega) (by omega)
    rw [hb, go, show m + 1 - (d + 1) - 1 = m - d - 1 from by omega]
    congr 1
    rw [List.append_assoc]; rfl

theorem drop_cons {α : Type} (l : List α) (i : Nat) (d : α) (h : i < l.length) : l.drop i = l.getD i d :: l.drop (i + 1) := by
  rw [List.drop_eq_getElem_cons h, List.getD_eq_getElem?_getD, List.getElem?_eq_getElem h]; rfl
theorem bits_l0 (s : ByteArray) (hs : s.size ≤ 1000) (d : Nat) : ∀ (m i : Nat) (acc : List Bool), s.size - i = d → i ≤ s.size → acc.length = 8 * i → 10 * d < m →
    deckleref02_Bits.l0 m s acc (i : Int) = some (acc ++ bitsOf ((bytesL s).drop i)) := by
  induction d with
  | zero =>
    intro m i acc hd hi ha hm
    obtain ⟨m, rfl⟩ : ∃ j, m = j + 1 := ⟨m - 1, by omega⟩
    simp only [deckleref02_Bits.l0]
    rw [if_neg (by omega), List.drop_of_length_le (by rw [bytesL_length]; omega)]
    simp [bitsOf]
  | succ d ih =>
    intro m i acc hd hi ha hm
    obtain ⟨m, rfl⟩ : ∃ j, m = j + 1 := ⟨m - 1, by omega⟩
    simp only [deckleref02_Bits.l0]
    have hlt : (bytesL s).getD i 0 < 256 := by
      have hl : i < (bytesL s).length := by rw [bytesL_length]; omega
      rw [List.getD_eq_getElem?_getD, List.getElem?_eq_getElem hl]
      exact bytesL_lt s _ (List.getElem_mem hl)
    rw [if_pos (by omega), if_pos (by omega), bt_nat s i (by omega), w64 (x := (((bytesL s).getD i 0 : Nat) : Int)) (by omega) (by omega)]
    have h1 := bits_l1 s (i : Int) 8 m 0 ((bytesL s).getD i 0) acc (by omega) (by omega) hlt (by omega) (by omega)
    rw [show ((0 : Nat) : Int) = 0 from rfl] at h1
    rw [h1, w64 (x := (i : Int) + 1) (by omega) (by omega), show (i : Int) + 1 = ((i + 1 : Nat) : Int) from by omega]
    rw [ih (m - 8 - 1) (i + 1) _ (by omega) (by omega) (by rw [List.length_append, bitsN_length]; omega) (by omega)]
    rw [drop_cons (bytesL s) i 0 (by rw [bytesL_length]; omega)]
    unfold bitsOf
    rw [List.flatMap_cons, List.append_assoc]
theorem bits_ok (s : ByteArray) (hs : s.size ≤ 1000) (m : Nat) (hm : 10100 ≤ m) : deckleref02_Bits.f m s = some (bitsOf (bytesL s)) := by
  unfold deckleref02_Bits.f
  have := bits_l0 s hs s.size m 0 [] (by omega) (by omega) rfl (by omega)
  simpa using this

theorem of_l0 (d : Nat) : ∀ (m i v : Nat) (acc : List Bool), 32 - i = d → i ≤ 32 → v < 4294967296 → acc.length = i → d < m →
    deckleref02_Of.l0 m (v : Int) acc (i : Int) = some (acc ++ bitsN d v) := by
  induction d with
  | zero =>
    intro m i v acc hd hi hv ha hm
    obtain ⟨m, rfl⟩ : ∃ j, m = j + 1 := ⟨m - 1, by omega⟩
    simp only [deckleref02_Of.l0]
    rw [if_neg (by omega)]
    simp [bitsN]
  | succ d ih =>
    intro m i v acc hd hi hv ha hm
    obtain ⟨m, rfl⟩ : ∃ j, m = j + 1 := ⟨m - 1, by omega⟩
    simp only [deckleref02_Of.l0]
    rw [if_pos (by omega), if_pos (by omega), w64 (x := (i : Int) + 1) (by omega) (by omega), show (i : Int) + 1 = ((i + 1 : Nat) : Int) from by omega]
    rw [Int.tdiv_eq_ediv_of_nonneg (by omega), Int.tmod_eq_emod_of_nonneg (by omega), show (v : Int) / 2 % 4294967296 = ((v / 2 : Nat) : Int) from by omega]
    have hb : ((v : Int) % 2 == 1) = (v % 2 == 1) := by
      rw [Bool.eq_iff_iff, beq_iff_eq, beq_iff_eq]; omega
    rw [hb, ih m (i + 1) (v / 2) (acc ++ [v % 2 == 1]) (by omega) (by omega) (by omega) (by rw [List.length_append, ha]; rfl) (by omega)]
    rw [List.append_assoc]; rfl
theorem of_ok (v : Nat) (hv : v < 4294967296) (m : Nat) (hm : 40 ≤ m) : deckleref02_Of.f m (v : Int) = some (bitsN 32 v) := by
  unfold deckleref02_Of.f
  have := of_l0 32 m 0 v [] (by omega) (by omega) hv rfl (by omega)
  simpa using this

/-- One list over the head of another one. -/
def xorPre : List Bool → List Bool → List Bool
  | [], r => r
  | _ :: _, [] => []
  | a :: p, b :: r => (a != b) :: xorPre p r
theorem xorPre_length : ∀ (p r : List Bool), (xorPre p r).length = r.length
  | [], _ => rfl
  | _ :: _, [] => rfl
  | _ :: p, _ :: r => by simp [xorPre, xorPre_length p r]
theorem xorPre_bitsN : ∀ (n x y : Nat) (r : List Bool), xorPre (bitsN n x) (xorPre (bitsN n y) r) = xorPre (bitsN n (x ^^^ y)) r
  | 0, _, _, _ => rfl
  | n + 1, x, y, [] => rfl
  | n + 1, x, y, b :: r => by
    show ((x % 2 == 1) != ((y % 2 == 1) != b)) :: xorPre (bitsN n (x / 2)) (xorPre (bitsN n (y / 2)) r) = (((x ^^^ y) % 2 == 1) != b) :: xorPre (bitsN n ((x ^^^ y) / 2)) r
    rw [xorPre_bitsN n]
    have hd : (x ^^^ y) / 2 = x / 2 ^^^ y / 2 := Nat.xor_div_two_pow (n := 1)
    have hm : (x ^^^ y) % 2 = (x % 2 + y % 2) % 2 := by
      have := Nat.xor_mod_two_pow (a := x) (b := y) (n := 1)
      simp only [Nat.pow_one] at this
      rw [this]
      rcases Nat.mod_two_eq_zero_or_one x with h | h <;> rcases Nat.mod_two_eq_zero_or_one y with h' | h' <;> rw [h, h'] <;> rfl
    rw [hd, hm]
    congr 1
    rcases Nat.mod_two_eq_zero_or_one x with h | h <;> rcases Nat.mod_two_eq_zero_or_one y with h' | h' <;> rw [h, h'] <;> cases b <;> rfl
theorem xorPre_top : ∀ (n v : Nat) (r : List Bool), v < 2 ^ n → xorPre (bitsN (n + 1) v) r = xorPre (bitsN n v) r
  | 0, v, r, h => by
    have : v = 0 := by simpa using h
    subst this
    cases r <;> simp [bitsN, xorPre]
  | n + 1, v, [], h => rfl
  | n + 1, v, b :: r, h => by
    show ((v % 2 == 1) != b) :: xorPre (bitsN (n + 1) (v / 2)) r = ((v % 2 == 1) != b) :: xorPre (bitsN n (v / 2)) r
    rw [xorPre_top n (v / 2) r (by rw [Nat.pow_succ] at h; omega)]
theorem xorPre_zero : ∀ (n : Nat) (r : List Bool), xorPre (bitsN n 0) r = r
  | 0, _ => rfl
  | n + 1, [] => rfl
  | n + 1, b :: r => by
    show (((0 : Nat) % 2 == 1) != b) :: xorPre (bitsN n (0 / 2)) r = b :: r
    rw [Nat.zero_div, xorPre_zero n r]; cases b <;> rfl

/-- The inner loop's list. -/
def xf (a : Nat) (p : List Bool) : Nat → Nat → List Bool → List Bool
  | 0, _, x => x
  | d + 1, k, x => xf a p d (k + 1) (x.set (a + k) (x.getD (a + k) false != p.getD k false))
theorem xf_length (a : Nat) (p : List Bool) : ∀ (d k : Nat) (x : List Bool), (xf a p d k x).length = x.length
  | 0, _, _ => rfl
  | d + 1, k, x => by simp [xf, xf_length a p d]
theorem xf_take (a : Nat) (p : List Bool) : ∀ (d k : Nat) (x : List Bool) (j : Nat), j ≤ a + k → (xf a p d k x).take j = x.take j
  | 0, _, _, _, _ => rfl
  | d + 1, k, x, j, h => by
    show (xf a p d (k + 1) (x.set (a + k) (x.getD (a + k) false != p.getD k false))).take j = x.take j
    rw [xf_take a p d (k + 1) _ j (by omega), List.take_set_of_le h]
theorem xf_drop (a : Nat) (p : List Bool) : ∀ (d k : Nat) (x : List Bool), k + d = p.length → a + p.length ≤ x.length → (xf a p d k x).drop (a + k) = xorPre (p.drop k) (x.drop (a + k))
  | 0, k, x, h, _ => by
    rw [List.drop_of_length_le (show p.length ≤ k by omega)]; rfl
  | d + 1, k, x, h, hl => by
    show (xf a p d (k + 1) (x.set (a + k) (x.getD (a + k) false != p.getD k false))).drop (a + k) = xorPre (p.drop k) (x.drop (a + k))
    have h1 : a + k < (xf a p d (k + 1) (x.set (a + k) (x.getD (a + k) false != p.getD k false))).length := by rw [xf_length, List.length_set]; omega
    have ih := xf_drop a p d (k + 1) (x.set (a + k) (x.getD (a + k) false != p.getD k false)) (by omega) (by rw [List.length_set]; omega)
    rw [drop_cons _ (a + k) false h1, drop_cons p k false (by omega), drop_cons x (a + k) false (by omega)]
    show _ = (p.getD k false != x.getD (a + k) false) :: xorPre (p.drop (k + 1)) (x.drop (a + k + 1))
    rw [show a + k + 1 = a + (k + 1) from by omega, ih, List.drop_set_of_lt (by omega)]
    congr 1
    have ht := xf_take a p d (k + 1) (x.set (a + k) (x.getD (a + k) false != p.getD k false)) (a + k + 1) (by omega)
    have e : ∀ l : List Bool, l.getD (a + k) false = (l.take (a + k + 1)).getD (a + k) false := by
      intro l
      rw [List.getD_eq_getElem?_getD, List.getD_eq_getElem?_getD, List.getElem?_take_of_lt (by omega)]
    rw [e, ht, ← e, List.getD_eq_getElem?_getD, List.getElem?_set_self (by omega)]
    show (_ != _) = _
    cases x.getD (a + k) false <;> cases p.getD k false <;> rfl

theorem left_l3 (l p : List Bool) (hp : p.length = 32) (d : Nat) : ∀ (m k i : Nat) (x : List Bool), 32 - k = d → k ≤ 32 → i < l.length → x.length = l.length + 32 → x.length ≤ 100000 → d < m →
    deckleref02_Left.l3 m l x p (i : Int) (k : Int) = deckleref02_Left.l2 (m - d - 1) l (xf (i + 1) p d k x) p ((i + 1 : Nat) : Int) := by
  induction d with
  | zero =>
    intro m k i x hd hk hi hx hb hm
    obtain ⟨m, rfl⟩ : ∃ j, m = j + 1 := ⟨m - 1, by omega⟩
    simp only [deckleref02_Left.l3]
    rw [if_neg (by omega), w64 (x := (i : Int) + 1) (by omega) (by omega)]
    rfl
  | succ d ih =>
    intro m k i x hd hk hi hx hb hm
    obtain ⟨m, rfl⟩ : ∃ j, m = j + 1 := ⟨m - 1, by omega⟩
    simp only [deckleref02_Left.l3]
    rw [if_pos (by omega), w64 (x := (i : Int) + 1) (by omega) (by omega), w64 (x := (i : Int) + 1 + k) (by omega) (by omega), w64 (x := (k : Int) + 1) (by omega) (by omega)]
    rw [if_pos (by omega), if_pos (by omega), if_pos (by omega), if_pos (by omega)]
    rw [show ((i : Int) + 1 + k).toNat = i + 1 + k from by omega, show (k : Int) + 1 = ((k + 1 : Nat) : Int) from by omega]
    rw [ih m (k + 1) i _ (by omega) (by omega) hi (by rw [List.length_set]; omega) (by rw [List.length_set]; omega) (by omega)]
    rw [show m + 1 - (d + 1) - 1 = m - d - 1 from by omega]
    unfold rdOf
    rw [show ((i : Int) + 1 + k).toNat = i + 1 + k from by omega, Int.toNat_natCast]
    rfl

theorem bitsN_tail (n v : Nat) : (bitsN (n + 1) v).tail = bitsN n (v / 2) := rfl
theorem half_lt (r : Nat) (h : r < 4294967296) : r / 2 < 2 ^ 31 := by omega
/-- One bit of the division. -/
theorem step_list (r : Nat) (hr : r < 4294967296) (b : Bool) (rest : List Bool) :
    (if (((r % 2 == 1) != b)) = true then xorPre polyL (xorPre (bitsN 31 (r / 2)) rest) else xorPre (bitsN 31 (r / 2)) rest) = xorPre (bitsN 32 (st (r ^^^ bit b))) rest := by
  have hd : (r ^^^ bit b) / 2 = r / 2 := by
    have := Nat.xor_div_two_pow (a := r) (b := bit b) (n := 1)
    simp only [Nat.pow_one] at this
    rw [this]
    have : bit b / 2 = 0 := by cases b <;> rfl
    rw [this, Nat.xor_zero]
  have hm : (r ^^^ bit b) % 2 = (r % 2 + bit b) % 2 := by
    have := Nat.xor_mod_two_pow (a := r) (b := bit b) (n := 1)
    simp only [Nat.pow_one] at this
    rw [this]
    rcases Nat.mod_two_eq_zero_or_one r with h | h <;> cases b <;> rw [h] <;> rfl
  rw [← xorPre_top 31 (r / 2) rest (half_lt r hr)]
  unfold polyL
  rw [xorPre_bitsN 32]
  unfold st
  rw [hd, hm]
  rcases Nat.mod_two_eq_zero_or_one r with h | h <;> cases b <;> rw [h] <;> simp [bit]
  · rw [Nat.xor_comm]
  · rw [Nat.xor_comm]

theorem left_l2 (l : List Bool) (hl : l.length ≤ 10000) (d : Nat) : ∀ (m i r : Nat) (x : List Bool), l.length - i = d → i ≤ l.length → r < 4294967296 → x.length = l.length + 32 →
    x.drop i = xorPre (bitsN 32 r) (l.drop i ++ List.replicate 32 false) → 40 * d < m →
    deckleref02_Left.l2 m l x polyL (i : Int) = some (bitsN 32 (moreB r (l.drop i))) := by
  induction d with
  | zero =>
    intro m i r x hd hi hr hx he hm
    obtain ⟨m, rfl⟩ : ∃ j, m = j + 1 := ⟨m - 1, by omega⟩
    simp only [deckleref02_Left.l2]
    rw [if_neg (by omega), if_pos (by omega), if_pos (by omega)]
    have : i = l.length := by omega
    subst this
    rw [Int.toNat_natCast, he, List.drop_of_length_le (Nat.le_refl _)]
    have e : List.replicate 32 false = bitsN 32 0 := rfl
    rw [List.nil_append, e]
    have := xorPre_bitsN 32 r 0 []
    show some (xorPre (bitsN 32 r) (bitsN 32 0)) = some (bitsN 32 (moreB r []))
    congr 1
    show xorPre (bitsN 32 r) (bitsN 32 0) = bitsN 32 r
    have g : ∀ n v, xorPre (bitsN n v) (bitsN n 0) = bitsN n v := by
      intro n
      induction n with
      | zero => intro v; rfl
      | succ n ih2 =>
        intro v
        show ((v % 2 == 1) != ((0 : Nat) % 2 == 1)) :: xorPre (bitsN n (v / 2)) (bitsN n (0 / 2)) = (v % 2 == 1) :: bitsN n (v / 2)
        rw [Nat.zero_div, ih2]; cases (v % 2 == 1) <;> rfl
    exact g 32 r
  | succ d ih =>
    intro m i r x hd hi hr hx he hm
    obtain ⟨m, rfl⟩ : ∃ j, m = j + 1 := ⟨m - 1, by omega⟩
    simp only [deckleref02_Left.l2]
    rw [if_pos (by omega), if_pos (by omega), if_pos (by omega), w64 (x := (i : Int) + 1) (by omega) (by omega), show (i : Int) + 1 = ((i + 1 : Nat) : Int) from by omega]
    have hc := drop_cons l i false (by omega)
    have hx' := drop_cons x i false (by omega)
    rw [hc, hx'] at he
    have he2 : x.getD i false :: x.drop (i + 1) = ((r % 2 == 1) != l.getD i false) :: xorPre (bitsN 31 (r / 2)) (l.drop (i + 1) ++ List.replicate 32 false) := he
    rw [List.cons.injEq] at he2
    obtain ⟨e1, e2⟩ := he2
    have hs := step_list r hr (l.getD i false) (l.drop (i + 1) ++ List.replicate 32 false)
    rw [← e2, ← e1] at hs
    have hmb : moreB r (l.drop i) = moreB (st (r ^^^ bit (l.getD i false))) (l.drop (i + 1)) := by rw [hc]; rfl
    have hr' : st (r ^^^ bit (l.getD i false)) < 4294967296 := st_lt (Nat.xor_lt_two_pow (n := 32) hr (by cases l.getD i false <;> decide))
    rw [hmb]
    have hrd : rdOf false x (i : Int) = x.getD i false := by unfold rdOf; rw [Int.toNat_natCast]
    rw [hrd]
    by_cases hbit : x.getD i false = true
    · rw [if_pos hbit]
      rw [if_pos hbit] at hs
      have h3 := left_l3 l polyL (bitsN_length 32 P) 32 m 0 i x (by omega) (by omega) (by omega) hx (by omega) (by omega)
      rw [show ((0 : Nat) : Int) = 0 from rfl] at h3
      rw [h3]
      refine ih (m - 32 - 1) (i + 1) _ _ (by omega) (by omega) hr' (by rw [xf_length]; exact hx) ?_ (by omega)
      have := xf_drop (i + 1) polyL 32 0 x (by unfold polyL; rw [bitsN_length]) (by unfold polyL; rw [bitsN_length]; omega)
      rw [Nat.add_zero, List.drop_zero] at this
      rw [this, hs]
    · rw [if_neg hbit]
      rw [if_neg hbit] at hs
      exact ih m (i + 1) _ _ (by omega) (by omega) hr' hx hs (by omega)

theorem left_j2 (l : List Bool) (hl : l.length ≤ 10000) (r : Nat) (x : List Bool) (hr : r < 4294967296) (hx : x.length = l.length + 32)
    (he : x = xorPre (bitsN 32 r) (l ++ List.replicate 32 false)) (m : Nat) (hm : 40 * l.length + 50 < m) :
    deckleref02_Left.j2 m l x = some (bitsN 32 (moreB r l)) := by
  obtain ⟨m, rfl⟩ : ∃ j, m = j + 1 := ⟨m - 1, by omega⟩
  simp only [deckleref02_Left.j2]
  rw [poly_ok m (by omega)]
  simp only [obind]
  have := left_l2 l hl l.length m 0 r x (by omega) (by omega) hr hx (by simpa using he) (by omega)
  simpa using this

/-- The loop that turns the first bits. -/
theorem left_l1 (l f : List Bool) (hf : f.length = 32) (d : Nat) : ∀ (m k : Nat) (x : List Bool), 32 - k = d → k ≤ 32 → x.length = l.length + 32 → x.length ≤ 100000 → d < m →
    deckleref02_Left.l1 m l f x (k : Int) = deckleref02_Left.j2 (m - d - 1) l (xf 0 f d k x) := by
  induction d with
  | zero =>
    intro m k x hd hk hx hb hm
    obtain ⟨m, rfl⟩ : ∃ j, m = j + 1 := ⟨m - 1, by omega⟩
    simp only [deckleref02_Left.l1]
    rw [if_neg (by omega)]
    rfl
  | succ d ih =>
    intro m k x hd hk hx hb hm
    obtain ⟨m, rfl⟩ : ∃ j, m = j + 1 := ⟨m - 1, by omega⟩
    simp only [deckleref02_Left.l1]
    rw [if_pos (by omega), if_pos (by omega), if_pos (by omega), if_pos (by omega), w64 (x := (k : Int) + 1) (by omega) (by omega)]
    rw [Int.toNat_natCast, show (k : Int) + 1 = ((k + 1 : Nat) : Int) from by omega]
    rw [ih m (k + 1) _ (by omega) (by omega) (by rw [List.length_set]; omega) (by rw [List.length_set]; omega) (by omega)]
    rw [show m + 1 - (d + 1) - 1 = m - d - 1 from by omega]
    unfold rdOf
    rw [Int.toNat_natCast]
    show _ = deckleref02_Left.j2 (m - d - 1) l (xf 0 f d (k + 1) (x.set (0 + k) (x.getD (0 + k) false != f.getD k false)))
    rw [Nat.zero_add]

theorem set_at {α : Type} (a b : List α) (v w : α) (i : Nat) (h : i = a.length) : (a ++ w :: b).set i v = a ++ v :: b := by
  subst h
  rw [List.set_append_right _ _ (Nat.le_refl _), Nat.sub_self]; rfl
/-- The loop that copies. -/
theorem left_l0 (l f : List Bool) (hl : l.length ≤ 10000) (d : Nat) : ∀ (m i : Nat), l.length - i = d → i ≤ l.length → d < m →
    deckleref02_Left.l0 m l f (l.take i ++ List.replicate (l.length - i + 32) false) (i : Int) = deckleref02_Left.l1 (m - d - 1) l f (l ++ List.replicate 32 false) 0 := by
  induction d with
  | zero =>
    intro m i hd hi hm
    obtain ⟨m, rfl⟩ : ∃ j, m = j + 1 := ⟨m - 1, by omega⟩
    simp only [deckleref02_Left.l0]
    rw [if_neg (by omega), List.take_of_length_le (by omega), show l.length - i + 32 = 32 from by omega]
    rfl
  | succ d ih =>
    intro m i hd hi hm
    obtain ⟨m, rfl⟩ : ∃ j, m = j + 1 := ⟨m - 1, by omega⟩
    simp only [deckleref02_Left.l0]
    have hlen : (l.take i ++ List.replicate (l.length - i + 32) false).length = l.length + 32 := by
      rw [List.length_append, List.length_take, List.length_replicate]; omega
    rw [if_pos (by omega), if_pos (by omega), if_pos (by rw [hlen]; omega), w64 (x := (i : Int) + 1) (by omega) (by omega)]
    rw [Int.toNat_natCast, show (i : Int) + 1 = ((i + 1 : Nat) : Int) from by omega]
    have hrd : rdOf false l (i : Int) = l.getD i false := by unfold rdOf; rw [Int.toNat_natCast]
    rw [hrd, show l.length - i + 32 = (l.length - (i + 1) + 32) + 1 from by omega, List.replicate_succ, set_at _ _ _ _ i (by rw [List.length_take]; omega)]
    have e : l.take i ++ l.getD i false :: List.replicate (l.length - (i + 1) + 32) false = l.take (i + 1) ++ List.replicate (l.length - (i + 1) + 32) false := by
      rw [take_snoc l i false (by omega), List.append_assoc]; rfl
    rw [e, ih m (i + 1) (by omega) (by omega) (by omega), show m + 1 - (d + 1) - 1 = m - d - 1 from by omega]

theorem left_ok (l : List Bool) (hl : l.length ≤ 10000) (r : Nat) (hr : r < 4294967296) (m : Nat) (hm : 500000 ≤ m) :
    deckleref02_Left.f m l (bitsN 32 r) = some (bitsN 32 (moreB r l)) := by
  unfold deckleref02_Left.f
  rw [w64 (x := (l.length : Int) + 32) (by omega) (by omega), if_pos (by omega), show ((l.length : Int) + 32).toNat = l.length + 32 from by omega, if_pos (by omega)]
  have h0 := left_l0 l (bitsN 32 r) hl l.length m 0 (by omega) (by omega) (by omega)
  rw [List.take_zero, List.nil_append, Nat.sub_zero, show ((0 : Nat) : Int) = 0 from rfl] at h0
  rw [h0]
  have hx : (l ++ List.replicate 32 false).length = l.length + 32 := by rw [List.length_append, List.length_replicate]
  have h1 := left_l1 l (bitsN 32 r) (bitsN_length 32 r) 32 (m - l.length - 1) 0 (l ++ List.replicate 32 false) (by omega) (by omega) hx (by omega) (by omega)
  rw [show ((0 : Nat) : Int) = 0 from rfl] at h1
  rw [h1]
  refine left_j2 l hl r _ hr (by rw [xf_length]; exact hx) ?_ _ (by omega)
  have := xf_drop 0 (bitsN 32 r) 32 0 (l ++ List.replicate 32 false) (by rw [bitsN_length]) (by rw [bitsN_length]; omega)
  simpa using this

theorem ref_more_step (bl ol lf : List Bool) (r : Int) (a : Int) (s : ByteArray) (m : Nat) (h1 : deckleref02_Bits.f m s = some bl) (h2 : deckleref02_Of.f m a = some ol)
    (h3 : deckleref02_Left.f m bl ol = some lf) (h4 : deckleref02_Number.f m lf = some r) : deckleref02_More.f m a s = some r := by
  unfold deckleref02_More.f
  rw [h1]
  simp only [obind]
  rw [h2]
  simp only [obind]
  rw [h3]
  simp only [obind]
  rw [h4]
  simp only [obind]
theorem number_bitsN (v : Nat) (hv : v < 4294967296) (m : Nat) (hm : 40 ≤ m) : deckleref02_Number.f m (bitsN 32 v) = some ((v : Nat) : Int) := by
  have h := number_ok (bitsN 32 v) (Nat.le_of_eq (bitsN_length 32 v)) m hm
  have e : numB (bitsN 32 v) = v := numB_bitsN 32 v (by rw [show (2 : Nat) ^ 32 = 4294967296 from by decide]; exact hv)
  rw [e] at h
  exact h
theorem ref_more_ok (a : Nat) (s : ByteArray) (ha : a < 4294967296) (hs : s.size ≤ 1000) (m : Nat) (hm : 500000 ≤ m) :
    deckleref02_More.f m (a : Int) s = some ((more a (bytesL s) : Nat) : Int) := by
  have h3 := left_ok (bitsOf (bytesL s)) (by rw [bitsOf_length, bytesL_length]; omega) a ha m hm
  rw [moreB_bitsOf _ _ (bytesL_lt s)] at h3
  exact ref_more_step _ _ _ _ _ s m (bits_ok s hs m (by omega)) (of_ok a ha m (by omega)) h3 (number_bitsN _ (more_lt _ ha (bytesL_lt s)) m (by omega))
theorem sub_first (x : Nat) (h : x < 4294967296) : 4294967295 - x = 4294967295 ^^^ x := by
  apply Nat.eq_of_testBit_eq
  intro i
  have h2 := Nat.testBit_two_pow_sub_succ (x := x) (n := 32) h i
  rw [show 2 ^ 32 - (x + 1) = 4294967295 - x from by omega] at h2
  rw [h2, Nat.testBit_xor, show (4294967295 : Nat) = 2 ^ 32 - 1 from rfl, Nat.testBit_two_pow_sub_one]
  by_cases hi : i < 32
  · simp [hi]
  · have : x.testBit i = false := Nat.testBit_lt_two_pow (Nat.lt_of_lt_of_le (show x < 2 ^ 32 from h) (Nat.pow_le_pow_right (n := 2) (by decide) (show 32 ≤ i by omega)))
    simp [hi, this]
theorem ref_sum_ok (s : ByteArray) (hs : s.size ≤ 1000) (m : Nat) (hm : 500000 ≤ m) : deckleref02_Sum.f m s = some ((sum (bytesL s) : Nat) : Int) := by
  unfold deckleref02_Sum.f
  have := ref_more_ok first s (by decide) hs m hm
  rw [show ((first : Nat) : Int) = 4294967295 from rfl] at this
  rw [this]
  simp only [obind]
  have hlt := more_lt (bytesL s) (s := first) (by decide) (bytesL_lt s)
  congr 1
  unfold sum
  rw [show first ^^^ more first (bytesL s) = 4294967295 - more first (bytesL s) from (sub_first _ hlt).symm]
  omega
theorem ref_tail_l0 (d : Nat) : ∀ (m i v : Nat) (acc : List Int), 4 - i = d → i ≤ 4 → v < 4294967296 → acc.length = i → d < m →
    deckleref02_Tail.l0 m (v : Int) acc (i : Int) = some (strOfNums (acc ++ ((List.range d).map fun j => ((v / 256 ^ j % 256 : Nat) : Int)))) := by
  induction d with
  | zero =>
    intro m i v acc hd hi hv ha hm
    obtain ⟨m, rfl⟩ : ∃ j, m = j + 1 := ⟨m - 1, by omega⟩
    simp only [deckleref02_Tail.l0]
    rw [if_neg (by omega)]
    simp
  | succ d ih =>
    intro m i v acc hd hi hv ha hm
    obtain ⟨m, rfl⟩ : ∃ j, m = j + 1 := ⟨m - 1, by omega⟩
    simp only [deckleref02_Tail.l0]
    rw [if_pos (by omega), if_pos (by omega), w64 (x := (i : Int) + 1) (by omega) (by omega), show (i : Int) + 1 = ((i + 1 : Nat) : Int) from by omega]
    rw [Int.tdiv_eq_ediv_of_nonneg (by omega), Int.tmod_eq_emod_of_nonneg (by omega), show (v : Int) / 256 % 4294967296 = ((v / 256 : Nat) : Int) from by omega, show (v : Int) % 256 % 256 = ((v % 256 : Nat) : Int) from by omega]
    rw [ih m (i + 1) (v / 256) _ (by omega) (by omega) (by omega) (by rw [List.length_append, ha]; rfl) (by omega)]
    congr 2
    rw [List.append_assoc, List.range_succ_eq_map]
    congr 1
    simp only [List.map_cons, List.map_map, List.singleton_append, Nat.pow_zero, Nat.div_one]
    congr 1
    apply List.map_congr_left
    intro j _
    simp only [Function.comp_apply]
    rw [Nat.div_div_eq_div_mul, Nat.pow_succ, Nat.mul_comm 256]
theorem ref_tail_ok (v : Nat) (hv : v < 4294967296) (m : Nat) (hm : 10 ≤ m) : ∃ t, deckleref02_Tail.f m (v : Int) = some t ∧ bytesL t = tail v ∧ t.size = 4 := by
  unfold deckleref02_Tail.f
  have := ref_tail_l0 4 m 0 v [] (by omega) (by omega) hv rfl (by omega)
  rw [show ((0 : Nat) : Int) = 0 from rfl] at this
  refine ⟨_, this, ?_, ?_⟩
  · rw [bytesL_strOf]
    · simp [List.range_succ, tail]
      omega
    · intro x hx
      rw [List.nil_append] at hx
      obtain ⟨j, _, rfl⟩ := List.mem_map.1 hx
      omega
  · rw [strOfNums_size]; simp
theorem ref_seal_ok (s : ByteArray) (hs : s.size ≤ 1000) (m : Nat) (hm : 500000 ≤ m) : ∃ t, deckleref02_Seal.f m s = some t ∧ bytesL t = seal_ (bytesL s) ∧ t.size = s.size + 4 := by
  obtain ⟨t, h1, h2, h3⟩ := ref_tail_ok (sum (bytesL s)) (sum_lt (bytesL_lt s)) m (by omega)
  refine ⟨s ++ t, ?_, ?_, ?_⟩
  · unfold deckleref02_Seal.f
    rw [ref_sum_ok s hs m hm]
    simp only [obind]
    rw [h1]
    simp only [obind]
    rw [if_pos (by omega)]
  · rw [bytesL_append, h2]; rfl
  · rw [ByteArray.size_append, h3]
theorem ref_whole_ok (s : ByteArray) (hs : s.size ≤ 1000) (m : Nat) (hm : 500000 ≤ m) : deckleref02_Whole.f m s = some (wholeB (bytesL s)) := by
  unfold deckleref02_Whole.f wholeB
  rw [bytesL_length]
  by_cases h : s.size < 4
  · rw [if_neg (by omega), if_pos h]
  · rw [if_pos (by omega), if_neg h, w64 (x := (s.size : Int) - 4) (by omega) (by omega), if_pos (by omega), if_pos (by omega)]
    rw [show ((s.size : Int) - 4).toNat = s.size - 4 from by omega]
    obtain ⟨t, h1, h2, h3⟩ := ref_seal_ok (s.extract 0 (s.size - 4)) (by rw [ByteArray.size_extract]; omega) m hm
    rw [h1]
    simp only [obind]
    rw [toList_beq, h2, bytesL_extract, List.drop_zero]
    congr 1
    rw [Bool.eq_iff_iff, beq_iff_eq, beq_iff_eq]
    unfold seal_
    constructor
    · intro e
      have := congrArg (List.drop (s.size - 4)) e
      rw [List.drop_append_of_le_length (by rw [List.length_take, bytesL_length]; omega), List.drop_of_length_le (by rw [List.length_take, bytesL_length]; omega), List.nil_append] at this
      exact this
    · intro e
      rw [e, List.take_append_drop]

theorem CrcSums : decklelaw02_CrcSums.Pure := by
  intro s a hs ha
  refine ⟨500000, ?_⟩
  have ha2 : 0 ≤ a ∧ a < 4294967296 := by
    simp only [Lit.wf, IntKind.min, IntKind.max, IntKind.signed, IntKind.bits, Bool.and_eq_true, decide_eq_true_eq] at ha
    simp at ha
    omega
  obtain ⟨a, rfl⟩ := Int.eq_ofNat_of_zero_le ha2.1
  unfold decklelaw02_CrcSums.f
  by_cases h : (s.size : Int) > 500
  · rw [if_pos h, works_ok]; rfl
  · rw [if_neg h, sum_ok s (by omega)]
    simp only [obind]
    rw [ref_sum_ok s (by omega) _ (Nat.le_refl _)]
    simp only [obind, if_true]
    rw [more_ok a s (by omega) (by omega)]
    simp only [obind]
    rw [ref_more_ok a s (by omega) (by omega) _ (Nat.le_refl _)]
    simp only [obind, if_true]
    obtain ⟨t, h1, h2, h3⟩ := seal_ok s (by omega)
    obtain ⟨u, h4, h5, h6⟩ := ref_seal_ok s (by omega) 500000 (Nat.le_refl _)
    rw [h1]
    simp only [obind]
    rw [h4]
    simp only [obind]
    rw [if_pos ((toList_eq_iff t u).2 (by rw [h2, h5])), whole_ok s (by omega)]
    simp only [obind]
    rw [ref_whole_ok s (by omega) _ (Nat.le_refl _)]
    simp only [obind]
    rw [if_pos (by simp), works_ok]
    rfl
end Go.Proofs.YtogohafdkpibdaaDoor.Pure
