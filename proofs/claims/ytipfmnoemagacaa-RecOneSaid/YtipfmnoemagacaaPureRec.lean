/- The rec laws' pure statements: records that may be, their bytes and what bytes are as records are as the document has them; no condition. -/
import Derived.Test.YtipfmnoemagacaaNums
import Derived.Test.YtipfmnoemagacaaPQx13
import Derived.Test.YtipfmnoemagacaaPQx14
import Derived.Test.YtipfmnoemagacaaPQx5
namespace Go.Proofs.Ytipfmnoemagacaa.Pure
open Go.RowKit Go.Proofs.YtipfmnoemagacaaW.PrintWords PQ
set_option linter.unusedVariables false
set_option linter.unusedSimpArgs false
/-- Which records may be. -/
def MayP (k a b : Int) : Prop := ((k = 1 ∨ k = 2) ∧ 0 ≤ a ∧ a ≤ 4096 ∧ 0 ≤ b ∧ b ≤ 281474976710655) ∨ (0 ≤ a ∧ a ≤ 63 ∧ 1 ≤ b ∧ (k = 3 ∧ b ≤ 4294967295 ∨ k = 4 ∧ b ≤ 2))
instance (k a b : Int) : Decidable (MayP k a b) := by unfold MayP; exact inferInstance
theorem within_ok (x y z : Int) : rec_within.f x y z = some (decide (y ≤ x ∧ x ≤ z)) := by
  unfold rec_within.f
  by_cases h : x ≥ y
  · rw [if_pos h]; exact congrArg some (decide_eq_decide.2 (by omega))
  · rw [if_neg h, decide_eq_false (by omega)]
theorem two_within (x y z x' y' z' : Int) : ((rec_within.f x y z).bind fun t => (if t = true then ((rec_within.f x' y' z').bind fun u => (some u)) else (some false))) = some (decide ((y ≤ x ∧ x ≤ z) ∧ (y' ≤ x' ∧ x' ≤ z'))) := by
  rw [within_ok, obind, within_ok, obind]
  by_cases h : y ≤ x ∧ x ≤ z
  · rw [if_pos (decide_eq_true h)]; exact congrArg some (decide_eq_decide.2 (by omega))
  · rw [if_neg (by simpa using h), decide_eq_false (by omega)]
theorem may_ok (m : Nat) (hm : 12 ≤ m) (k a b : Int) : rec_May.f m k a b = some (decide (MayP k a b)) := by
  obtain ⟨m, rfl⟩ : ∃ j, m = j + 2 := ⟨m - 2, by omega⟩
  unfold rec_May.f
  simp only [rec_May.j0]
  simp only [rec_May.j1]
  simp only [two_within]
  by_cases h1 : k = 1
  · subst h1
    rw [if_pos rfl, if_pos (by decide)]; exact congrArg some (decide_eq_decide.2 (by unfold MayP; omega))
  · rw [if_neg h1]
    by_cases h2 : k = 2
    · subst h2
      rw [if_pos (by decide)]; exact congrArg some (decide_eq_decide.2 (by unfold MayP; omega))
    · rw [if_neg (by simpa using h2)]
      by_cases h4 : k = 4
      · subst h4
        rw [if_pos rfl, if_neg (by decide)]; exact congrArg some (decide_eq_decide.2 (by unfold MayP; omega))
      · rw [if_neg h4]
        by_cases h3 : k = 3
        · rw [if_pos h3, if_pos h3]; exact congrArg some (decide_eq_decide.2 (by unfold MayP; omega))
        · rw [if_neg h3]; rw [decide_eq_false (by unfold MayP; omega)]
theorem rmay_ok (m : Nat) (hm : 12 ≤ m) (k a b : Int) : deckleref11_May.f m k a b = some (decide (MayP k a b)) := by
  obtain ⟨m, rfl⟩ : ∃ j, m = j + 1 := ⟨m - 1, by omega⟩
  unfold deckleref11_May.f
  simp only [deckleref11_May.j0]
  by_cases h12 : k = 1 ∨ k = 2
  · have e : (if k = 1 then (if (true : Bool) = true then (if a ≥ 0 then (if a ≤ 4096 then (if b ≥ 0 then (some (decide (b ≤ 281474976710655))) else (some false)) else (some false)) else (some false)) else none) else (if a ≥ 0 then (if a ≤ 4096 then (if b ≥ 0 then (some (decide (b ≤ 281474976710655))) else (some false)) else (some false)) else (some false))) = some (decide ((0 ≤ a ∧ a ≤ 4096 ∧ 0 ≤ b ∧ b ≤ 281474976710655))) := by
      simp only [if_true, ite_self]
      by_cases x1 : a ≥ 0
      · by_cases x2 : a ≤ 4096
        · by_cases x3 : b ≥ 0
          · rw [if_pos x1, if_pos x2, if_pos x3]; exact congrArg some (decide_eq_decide.2 (by omega))
          · rw [if_pos x1, if_pos x2, if_neg x3, decide_eq_false (by omega)]
        · rw [if_pos x1, if_neg x2, decide_eq_false (by omega)]
      · rw [if_neg x1, decide_eq_false (by omega)]
    simp only [if_true, ite_self] at e ⊢
    rcases h12 with h | h
    · rw [if_pos h, e]; exact congrArg some (decide_eq_decide.2 (by unfold MayP; omega))
    · rw [if_neg (by omega), if_pos (by simpa using h), e]; exact congrArg some (decide_eq_decide.2 (by unfold MayP; omega))
  · rw [if_neg (by omega), if_neg (by simp; omega)]
    by_cases x1 : a < 0
    · rw [if_pos x1, decide_eq_false (by unfold MayP; omega)]
    · rw [if_neg x1]
      by_cases x2 : a > 63
      · rw [if_pos x2, decide_eq_false (by unfold MayP; omega)]
      · rw [if_neg x2]
        by_cases x3 : b < 1
        · rw [if_pos x3, decide_eq_false (by unfold MayP; omega)]
        · rw [if_neg x3]
          by_cases x4 : k = 4
          · rw [if_neg (by omega), if_pos x4]; exact congrArg some (decide_eq_decide.2 (by unfold MayP; omega))
          · rw [if_neg x4]
            by_cases x5 : k = 3
            · rw [if_pos x5]
              by_cases x6 : b ≤ 4294967295
              · rw [if_pos x6, decide_eq_true (by unfold MayP; omega)]
              · rw [if_neg x6, decide_eq_false (by unfold MayP; omega)]
            · rw [if_neg x5, decide_eq_false (by unfold MayP; omega)]
/-- A record's bytes. -/
def recB (k a b : Int) : ByteArray := PQ.putB 1 k.toNat ++ PQ.putB 2 a.toNat ++ PQ.putB 6 b.toNat
theorem recB_bytes (k a b : Int) : bytesL (recB k a b) = digs 1 k.toNat ++ digs 2 a.toNat ++ digs 6 b.toNat := by
  unfold recB; rw [bytesL_append, bytesL_append, putB_bytes, putB_bytes, putB_bytes]
theorem recB_size (k a b : Int) : (recB k a b).size = 9 := by rw [← bytesL_length, recB_bytes]; simp [digs_length]
theorem may_le {k a b : Int} (h : MayP k a b) : 0 ≤ k ∧ k < 256 ∧ 0 ≤ a ∧ a < 65536 ∧ 0 ≤ b ∧ b < 281474976710656 := by
  unfold MayP at h; omega
theorem number_ok (m : Nat) (hm : 12 ≤ m) (v : Int) (n : Nat) (h0 : 0 ≤ v) (hv : v < 18446744073709551616) (h1 : 1 ≤ n) (h8 : n ≤ 8) (h : v.toNat < 256 ^ n) : rec_number.f v (n : Int) = some (PQ.putB n v.toNat) ∧ deckleref04_Number.f m v (n : Int) = some (PQ.putB n v.toNat) := by
  obtain ⟨x, rfl⟩ := Int.eq_ofNat_of_zero_le h0
  have e : IntKind.u64.wrap (x : Int) = (x : Int) := u64w h0 (by omega)
  rw [Int.toNat_natCast] at h ⊢
  constructor
  · unfold rec_number.f
    rw [e, bput_ok x n (by omega) h1 h8 h, obind]
  · unfold deckleref04_Number.f
    rw [e, rput_ok x n (by omega) h1 h8 h m hm, obind]
theorem put_ok (m : Nat) (hm : 12 ≤ m) (k a b : Int) : rec_Put.f m k a b = some (if MayP k a b then (recB k a b, 0) else (⟨#[]⟩, 110)) := by
  unfold rec_Put.f
  rw [may_ok m hm, obind]
  by_cases h : MayP k a b
  · obtain ⟨h1, h2, h3, h4, h5, h6⟩ := may_le h
    rw [if_pos (decide_eq_true h), if_pos h]
    have e1 := (number_ok 12 (by omega) k 1 h1 (by omega) (by omega) (by omega) (by omega)).1
    have e2 := (number_ok 12 (by omega) a 2 h3 (by omega) (by omega) (by omega) (by omega)).1
    have e3 := (number_ok 12 (by omega) b 6 h5 (by omega) (by omega) (by omega) (by omega)).1
    have f1 : rec_number.f k 1 = some (PQ.putB 1 k.toNat) := e1
    have f2 : rec_number.f a 2 = some (PQ.putB 2 a.toNat) := e2
    have f3 : rec_number.f b 6 = some (PQ.putB 6 b.toNat) := e3
    rw [f1, obind, f2, obind, if_pos (by rw [putB_size, putB_size]; decide), f3, obind, if_pos (by rw [ByteArray.size_append, putB_size, putB_size, putB_size]; decide)]
    rfl
  · rw [if_neg (by simpa using h), if_neg h]
theorem rpt_ok (m : Nat) (hm : 12 ≤ m) (k a b : Int) : deckleref11_Put.f m k a b = some (if MayP k a b then (recB k a b, 0) else (⟨#[]⟩, 110)) := by
  unfold deckleref11_Put.f
  rw [rmay_ok m hm, obind]
  by_cases h : MayP k a b
  · obtain ⟨h1, h2, h3, h4, h5, h6⟩ := may_le h
    rw [if_pos (decide_eq_true h), if_pos h]
    have e1 := (number_ok m hm k 1 h1 (by omega) (by omega) (by omega) (by omega)).2
    have e2 := (number_ok m hm a 2 h3 (by omega) (by omega) (by omega) (by omega)).2
    have e3 := (number_ok m hm b 6 h5 (by omega) (by omega) (by omega) (by omega)).2
    have f1 : deckleref04_Number.f m k 1 = some (PQ.putB 1 k.toNat) := e1
    have f2 : deckleref04_Number.f m a 2 = some (PQ.putB 2 a.toNat) := e2
    have f3 : deckleref04_Number.f m b 6 = some (PQ.putB 6 b.toNat) := e3
    rw [f1, obind, f2, obind, if_pos (by rw [putB_size, putB_size]; decide), f3, obind, if_pos (by rw [ByteArray.size_append, putB_size, putB_size, putB_size]; decide)]
    rfl
  · rw [if_neg (by simpa using h), if_neg h]
/-- What bytes are, as a record. -/
def takeB (l : List Nat) : Int × Int × Int × Int :=
  if l.length = 9 then (if MayP (num (l.take 1)) (num ((l.take 3).drop 1)) (num (l.drop 3)) then ((num (l.take 1) : Int), (num ((l.take 3).drop 1) : Int), (num (l.drop 3) : Int), 0) else (0, 0, 0, 3)) else (0, 0, 0, 3)
theorem part_ok (m : Nat) (hm : 12 ≤ m) (s : ByteArray) (h1 : 1 ≤ s.size) (h6 : s.size ≤ 6) : rec_part.f m s = some ((num (bytesL s) : Nat) : Int) ∧ deckleref04_Of.f m s = some ((num (bytesL s) : Nat) : Int) := by
  have hl := num_lt _ (bytesL_lt s)
  rw [bytesL_length] at hl
  have hp : 256 ^ s.size ≤ 256 ^ 6 := Nat.pow_le_pow_right (by decide) h6
  constructor
  · unfold rec_part.f
    rw [bget_ok s h1 (by omega) m hm, obind, w64 (by omega) (by omega)]
  · unfold deckleref04_Of.f
    rw [rget_ok s h1 (by omega) m hm, obind, w64 (by omega) (by omega)]
theorem ex_size (s : ByteArray) (i j : Nat) (h : i ≤ j) (hj : j ≤ s.size) : (s.extract i j).size = j - i := by
  rw [← bytesL_length, bytesL_extract, List.length_drop, List.length_take, bytesL_length]; omega
theorem take_ok (m : Nat) (hm : 12 ≤ m) (s : ByteArray) : rec_Take.f m s = some (takeB (bytesL s)) := by
  unfold rec_Take.f takeB
  rw [bytesL_length]
  by_cases h : s.size = 9
  · rw [if_pos (by omega), if_pos h, if_pos (by decide), if_pos (by omega)]
    have e1 := (part_ok m hm (s.extract 0 1) (by rw [ex_size _ _ _ (by omega) (by omega)]; omega) (by rw [ex_size _ _ _ (by omega) (by omega)]; omega)).1
    have e2 := (part_ok m hm (s.extract 1 3) (by rw [ex_size _ _ _ (by omega) (by omega)]; omega) (by rw [ex_size _ _ _ (by omega) (by omega)]; omega)).1
    have e3 := (part_ok m hm (s.extract 3 s.size) (by rw [ex_size _ _ _ (by omega) (by omega)]; omega) (by rw [ex_size _ _ _ (by omega) (by omega)]; omega)).1
    rw [e1, obind, if_pos (by decide), if_pos (by omega), e2, obind, e3, obind, may_ok m hm, obind]
    have b1 : bytesL (s.extract 0 1) = (bytesL s).take 1 := by rw [bytesL_extract, List.drop_zero]
    have b2 : bytesL (s.extract 1 3) = ((bytesL s).take 3).drop 1 := by rw [bytesL_extract]
    have b3 : bytesL (s.extract 3 s.size) = (bytesL s).drop 3 := by rw [bytesL_extract, List.take_of_length_le (by rw [bytesL_length]; omega)]
    rw [b1, b2, b3]
    by_cases g : MayP (num ((bytesL s).take 1)) (num (((bytesL s).take 3).drop 1)) (num ((bytesL s).drop 3))
    · rw [if_pos (decide_eq_true g), if_pos g]
    · rw [if_neg (by simpa using g), if_neg g]
  · rw [if_neg (by omega), if_neg h]
theorem take_one (l : List Nat) (h : 1 ≤ l.length) : num (l.take 1) = l.getD 0 0 := by
  cases l with
  | nil => simp at h
  | cons a l => simp [num]
theorem rtake_ok (m : Nat) (hm : 12 ≤ m) (s : ByteArray) : deckleref11_Take.f m s = some (takeB (bytesL s)) := by
  unfold deckleref11_Take.f takeB
  rw [bytesL_length]
  by_cases h : s.size = 9
  · rw [if_pos (by omega), if_pos h, if_pos (by omega), if_pos (by decide), if_pos (by omega)]
    have e2 := (part_ok m hm (s.extract 1 3) (by rw [ex_size _ _ _ (by omega) (by omega)]; omega) (by rw [ex_size _ _ _ (by omega) (by omega)]; omega)).2
    have e3 := (part_ok m hm (s.extract 3 9) (by rw [ex_size _ _ _ (by omega) (by omega)]; omega) (by rw [ex_size _ _ _ (by omega) (by omega)]; omega)).2
    have hb := getD_lt _ (bytesL_lt s) 0
    have e1 : wrap64 (bt s 0) = ((num ((bytesL s).take 1) : Nat) : Int) := by
      rw [show bt s 0 = (((bytesL s).getD 0 0 : Nat) : Int) from bt_nat s 0 (by omega), w64 (by omega) (by omega), take_one _ (by rw [bytesL_length]; omega)]
    rw [e2, obind, if_pos (by decide), if_pos (by omega), e3, obind, e1, rmay_ok m hm, obind]
    have b2 : bytesL (s.extract 1 3) = ((bytesL s).take 3).drop 1 := by rw [bytesL_extract]
    have b3 : bytesL (s.extract 3 9) = (bytesL s).drop 3 := by rw [bytesL_extract, List.take_of_length_le (by rw [bytesL_length]; omega)]
    rw [b2, b3]
    by_cases g : MayP (num ((bytesL s).take 1)) (num (((bytesL s).take 3).drop 1)) (num ((bytesL s).drop 3))
    · rw [if_pos (decide_eq_true g), if_pos g]
    · rw [if_neg (by simpa using g), if_neg g]
  · rw [if_neg (by omega), if_neg h]
theorem works_ok (m : Nat) (hm : 12 ≤ m) : decklelaw11_works.f m = some true := by
  unfold decklelaw11_works.f
  have e1 : (if MayP 1 258 3 then (recB 1 258 3, (0 : Int)) else (⟨#[]⟩, 110)) = (recB 1 258 3, 0) := if_pos (by decide)
  have e2 : (if MayP 0 0 0 then (recB 0 0 0, (0 : Int)) else (⟨#[]⟩, 110)) = (⟨#[]⟩, 110) := if_neg (by decide)
  rw [put_ok m hm, e1, obind, put_ok m hm, e2, obind]
  show (if (0 : Int) = 0 then (if (recB 1 258 3).toList = ([1, 2, 1, 3, 0, 0, 0, 0, 0] : List UInt8) then (some ((110 : Int) == 110)) else (some false)) else (some false)) = some true
  rw [if_pos rfl, if_pos]
  · rfl
  · rw [show ([1, 2, 1, 3, 0, 0, 0, 0, 0] : List UInt8) = (⟨#[1, 2, 1, 3, 0, 0, 0, 0, 0]⟩ : ByteArray).toList from by rw [Lib.toList_data], toList_eq_iff, recB_bytes]
    decide
/-- Two records that may be: the same bytes just if they are the same. -/
theorem recB_inj {k a b k' a' b' : Int} (h : MayP k a b) (h' : MayP k' a' b') : bytesL (recB k a b) = bytesL (recB k' a' b') ↔ (k = k' ∧ a = a' ∧ b = b') := by
  constructor
  · intro e
    obtain ⟨h1, h2, h3, h4, h5, h6⟩ := may_le h
    obtain ⟨g1, g2, g3, g4, g5, g6⟩ := may_le h'
    rw [recB_bytes, recB_bytes] at e
    obtain ⟨e12, e3⟩ := List.append_inj e (by simp [digs_length])
    obtain ⟨e1, e2⟩ := List.append_inj e12 (by simp [digs_length])
    have x1 := digs_inj (by omega) (by omega) e1
    have x2 := digs_inj (by omega) (by omega) e2
    have x3 := digs_inj (by omega) (by omega) e3
    omega
  · rintro ⟨rfl, rfl, rfl⟩; rfl
/-- What a record's bytes are. -/
theorem take_recB {k a b : Int} (h : MayP k a b) : takeB (bytesL (recB k a b)) = (k, a, b, 0) := by
  obtain ⟨h1, h2, h3, h4, h5, h6⟩ := may_le h
  unfold takeB
  rw [bytesL_length, recB_size, if_pos rfl, recB_bytes]
  have l1 := digs_length 1 k.toNat
  have l2 := digs_length 2 a.toNat
  have e1 : (digs 1 k.toNat ++ digs 2 a.toNat ++ digs 6 b.toNat).take 1 = digs 1 k.toNat := by rw [List.append_assoc, List.take_append_of_le_length (by omega), List.take_of_length_le (by omega)]
  have e2 : ((digs 1 k.toNat ++ digs 2 a.toNat ++ digs 6 b.toNat).take 3).drop 1 = digs 2 a.toNat := by
    rw [List.take_append_of_le_length (by rw [List.length_append]; omega), List.take_of_length_le (by rw [List.length_append]; omega), List.drop_append_of_le_length (by omega), List.drop_of_length_le (by omega)]; rfl
  have e3 : (digs 1 k.toNat ++ digs 2 a.toNat ++ digs 6 b.toNat).drop 3 = digs 6 b.toNat := by
    rw [List.drop_append_of_le_length (by rw [List.length_append]; omega), List.drop_of_length_le (by rw [List.length_append]; omega)]; rfl
  rw [e1, e2, e3, num_digs, num_digs, num_digs, Nat.mod_eq_of_lt (by omega), Nat.mod_eq_of_lt (by omega), Nat.mod_eq_of_lt (by omega), Int.toNat_of_nonneg h1, Int.toNat_of_nonneg h3, Int.toNat_of_nonneg h5, if_pos h]
/-- Bytes that are a record: a record's bytes. -/
theorem back_recB {l : List Nat} (hl : ∀ x ∈ l, x < 256) (h9 : l.length = 9) : bytesL (recB (num (l.take 1)) (num ((l.take 3).drop 1)) (num (l.drop 3))) = l := by
  rw [recB_bytes, Int.toNat_natCast, Int.toNat_natCast, Int.toNat_natCast]
  have e1 := digs_num (l.take 1) fun x hx => hl x (List.mem_of_mem_take hx)
  have e2 := digs_num ((l.take 3).drop 1) fun x hx => hl x (List.mem_of_mem_take (List.mem_of_mem_drop hx))
  have e3 := digs_num (l.drop 3) fun x hx => hl x (List.mem_of_mem_drop hx)
  rw [show (l.take 1).length = 1 from by rw [List.length_take]; omega] at e1
  rw [show ((l.take 3).drop 1).length = 2 from by rw [List.length_drop, List.length_take]; omega] at e2
  rw [show (l.drop 3).length = 6 from by rw [List.length_drop]; omega] at e3
  rw [e1, e2, e3]
  have : l.take 1 ++ (l.take 3).drop 1 = l.take 3 := by
    have := List.take_append_drop 1 (l.take 3)
    rwa [List.take_take, Nat.min_eq_left (by omega)] at this
  rw [this, List.take_append_drop]
theorem beq3 (x y z : Int × Int) : (x.1 == x.2 && (y.1 == y.2 && (z.1 == z.2))) = decide (x.1 = x.2 ∧ y.1 = y.2 ∧ z.1 = z.2) := by
  rw [Bool.eq_iff_iff]; simp
theorem recWrites_pure (k a b : Int) (s : ByteArray) : decklelaw11_RecWrites.f 20 k a b s = some true := by
  unfold decklelaw11_RecWrites.f
  rw [put_ok _ (by omega), obind, rpt_ok _ (by omega), obind, take_ok _ (by omega), obind, rtake_ok _ (by omega), obind, may_ok _ (by omega), obind, rmay_ok _ (by omega), obind]
  rw [if_pos (by simp), if_pos rfl, if_pos rfl, if_pos (by simp), if_pos rfl, works_ok _ (by omega), obind]
theorem recOne_pure (k a b k' a' b' : Int) : decklelaw11_RecOne.f 20 k a b k' a' b' = some true := by
  unfold decklelaw11_RecOne.f
  rw [works_ok _ (by omega), obind, if_pos rfl, put_ok _ (by omega), obind, put_ok _ (by omega), obind]
  simp only [decklelaw11_RecOne.j0]
  rw [may_ok _ (by omega), obind, may_ok _ (by omega), obind]
  by_cases h : MayP k a b
  · by_cases h' : MayP k' a' b'
    · rw [if_pos h, if_pos h', if_pos rfl, if_neg (by simp), beq3 (k, k') (a, a') (b, b')]
      congr 1
      rw [beq_iff_eq, Bool.eq_iff_iff, beq_iff_eq, decide_eq_true_iff, toList_eq_iff]
      exact recB_inj h h'
    · rw [if_pos h, if_neg h', if_pos rfl, if_pos (by decide), if_pos (by rw [decide_eq_true h]; rfl), decide_eq_false h']; rfl
  · rw [if_neg h]
    rw [if_neg (by decide), if_pos trivial, if_pos (by rw [decide_eq_false h]; rfl)]
    by_cases h' : MayP k' a' b'
    · rw [if_pos h', decide_eq_true h']; rfl
    · rw [if_neg h', decide_eq_false h']; rfl
theorem back_j0 (m : Nat) (hm : 13 ≤ m) (s : ByteArray) : decklelaw11_RecBack.j0 m s = some true := by
  obtain ⟨m, rfl⟩ : ∃ j, m = j + 1 := ⟨m - 1, by omega⟩
  simp only [decklelaw11_RecBack.j0]
  rw [take_ok _ (by omega), obind]
  by_cases h9 : s.size = 9
  · by_cases h : MayP (num ((bytesL s).take 1)) (num (((bytesL s).take 3).drop 1)) (num ((bytesL s).drop 3))
    · have e : takeB (bytesL s) = (((num ((bytesL s).take 1) : Nat) : Int), ((num (((bytesL s).take 3).drop 1) : Nat) : Int), ((num ((bytesL s).drop 3) : Nat) : Int), 0) := by
        unfold takeB; rw [if_pos (by rw [bytesL_length]; exact h9), if_pos h]
      rw [e, if_pos rfl, put_ok _ (by omega), obind, if_pos h, if_pos rfl]
      congr 1
      rw [beq_iff_eq, toList_eq_iff]
      exact back_recB (bytesL_lt s) (by rw [bytesL_length]; exact h9)
    · have e : takeB (bytesL s) = (0, 0, 0, 3) := by
        unfold takeB; rw [if_pos (by rw [bytesL_length]; exact h9), if_neg h]
      rw [e]; rfl
  · have e : takeB (bytesL s) = (0, 0, 0, 3) := by
      unfold takeB; rw [if_neg (by rw [bytesL_length]; exact h9)]
    rw [e]; rfl
theorem recBack_pure (k a b : Int) (s : ByteArray) : decklelaw11_RecBack.f 20 k a b s = some true := by
  unfold decklelaw11_RecBack.f
  rw [works_ok _ (by omega), obind, if_pos rfl, put_ok _ (by omega), obind, may_ok _ (by omega), back_j0 _ (by omega)]
  simp only [obind]
  by_cases h : MayP k a b
  · rw [if_pos h, if_pos rfl, take_ok _ (by omega), obind]
    show (if (takeB (bytesL (recB k a b))).2.2.2 = 0 then _ else _) = _
    rw [take_recB h, if_pos rfl, if_neg (by simp)]
    show (if ((recB k a b).size : Int) = 9 then _ else _) = _
    rw [recB_size, if_pos (show ((9 : Nat) : Int) = 9 from rfl), if_pos (decide_eq_true h)]
  · rw [if_neg h, if_neg (by decide), if_neg (by simpa using h), if_pos (by rw [Lib.toList_data])]
end Go.Proofs.Ytipfmnoemagacaa.Pure
