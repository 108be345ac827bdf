/- What the functions of package crc answer, in terms of the division's plain facts: sums, tails, sealed texts; texts shorter than 2^60 bytes. -/
import Derived.Test.YtogohafdkpibdaaDoorPQx1
import Derived.Lib.Strings
import Derived.Test.YtogohafdkpibdaaDoorExt
namespace Go.Proofs.YtogohafdkpibdaaDoor.Pure
open Go.RowKit Go.Proofs.YtogohafdkpibdaaDoor.PQ Go.Proofs.YtogohafdkpibdaaDoorW.PrintWords Go.Proofs.YtogohafdkpibdaaDoorW.PrintLast Go.Proofs.YtogohafdkpibdaaDoorW.PrintMore
set_option linter.unusedVariables false
set_option linter.unusedSimpArgs false
/-- Not by 'rfl': so the kernel never compares two binds part by part. -/
theorem obind {α β : Type} (a : α) (f : α → Option β) : (some a).bind f = f a := by
  cases h : f a <;> simp [h]
theorem w64 {x : Int} (h0 : -9223372036854775808 ≤ x) (h1 : x ≤ 9223372036854775807) : wrap64 x = x := by
  unfold wrap64; omega
theorem bytesL_length (s : ByteArray) : (bytesL s).length = s.size := by unfold bytesL; simp
theorem bytesL_append (a b : ByteArray) : bytesL (a ++ b) = bytesL a ++ bytesL b := by
  unfold bytesL; rw [ByteArray.data_append]; simp
theorem bytesL_extract (s : ByteArray) (i j : Nat) : bytesL (s.extract i j) = ((bytesL s).take j).drop i := by
  unfold bytesL; rw [ByteArray.data_extract]
  simp only [Array.toList_extract, List.extract_eq_take_drop, List.map_drop, List.map_take]
  rw [List.drop_take]
theorem bytesL_inj {a b : ByteArray} (h : bytesL a = bytesL b) : a = b := by
  unfold bytesL at h
  apply ByteArray.ext
  apply Array.toList_inj.1
  exact List.map_inj_right (fun x y e => UInt8.toNat_inj.1 e) |>.1 h
theorem toList_bytes (s : ByteArray) : s.toList.map (·.toNat) = bytesL s := by
  rw [Lib.toList_data]; rfl
theorem toList_eq_iff (a b : ByteArray) : a.toList = b.toList ↔ bytesL a = bytesL b := by
  constructor
  · intro h; rw [← toList_bytes, ← toList_bytes, h]
  · intro h; rw [bytesL_inj h]
theorem toList_beq (a b : ByteArray) : (a.toList == b.toList) = (bytesL a == bytesL b) := by
  rw [Bool.eq_iff_iff, beq_iff_eq, beq_iff_eq]; exact toList_eq_iff a b
theorem bytesL_strOf (xs : List Int) (h : ∀ x ∈ xs, 0 ≤ x ∧ x < 256) : bytesL (strOfNums xs) = xs.map Int.toNat := by
  unfold bytesL
  rw [strOfNums_data, List.map_map]
  apply List.map_congr_left
  intro x hx
  have := h x hx
  show (UInt8.ofNat x.toNat).toNat = x.toNat
  rw [UInt8.toNat_ofNat']; omega
theorem bt_nat (s : ByteArray) (i : Nat) (h : i < s.size) : bt s (i : Int) = (((bytesL s).getD i 0 : Nat) : Int) := by
  unfold bt bytesL
  rw [dif_pos (by simpa using h)]
  simp only [Int.toNat_natCast]
  rw [List.getD_eq_getElem?_getD, List.getElem?_map, List.getElem?_eq_getElem (by simpa using h)]
  rfl
theorem take_snoc {α : Type} (l : List α) (i : Nat) (d : α) (h : i < l.length) : l.take (i + 1) = l.take i ++ [l.getD i d] := by
  rw [List.take_succ_eq_append_getElem h, List.getD_eq_getElem?_getD, List.getElem?_eq_getElem h]; rfl

open CrcMath
theorem max32 : IntKind.u32.max = ((4294967295 : Nat) : Int) := rfl
theorem more_ok (a : Nat) (s : ByteArray) (ha : a < 4294967296) (hs : s.size ≤ 1152921504606846976) : crc_More.f (a : Int) s = some ((more a (bytesL s) : Nat) : Int) := by
  unfold crc_More.f
  rw [if_pos ⟨by omega, by omega, hs⟩, Int.toNat_natCast]
theorem sum_ok (s : ByteArray) (hs : s.size ≤ 1152921504606846976) : crc_Sum.f s = some ((sum (bytesL s) : Nat) : Int) := by
  unfold crc_Sum.f
  have := more_ok first s (by decide) hs
  rw [show ((first : Nat) : Int) = 4294967295 from rfl] at this
  rw [this]
  simp only [obind]
  rw [max32, u32_xor_nat _ _ (by decide) (more_lt _ (by decide) (bytesL_lt s))]
  rfl
theorem tail_ok (n : Nat) (hn : n < 4294967296) : ∃ t, crc_tail.f (n : Int) = some t ∧ bytesL t = tail n ∧ t.size = 4 := by
  refine ⟨_, rfl, ?_, ?_⟩
  · rw [bytesL_strOf]
    · unfold tail
      simp only [List.map_cons, List.map_nil, List.cons.injEq, and_true]
      omega
    · intro x hx
      simp only [List.mem_cons, List.not_mem_nil, or_false] at hx
      omega
  · rw [strOfNums_size]; rfl
theorem seal_ok (s : ByteArray) (hs : s.size ≤ 1152921504606846976) : ∃ t, crc_Seal.f s = some t ∧ bytesL t = seal_ (bytesL s) ∧ t.size = s.size + 4 := by
  obtain ⟨t, h1, h2, h3⟩ := tail_ok (sum (bytesL s)) (sum_lt (bytesL_lt s))
  refine ⟨s ++ t, ?_, ?_, ?_⟩
  · unfold crc_Seal.f
    rw [sum_ok s hs]
    simp only [obind]
    rw [h1]
    simp only [obind]
    rw [if_pos (by omega)]
  · rw [bytesL_append, h2]; rfl
  · rw [ByteArray.size_append, h3]
/-- Are these bytes sealed? -/
def wholeB (l : List Nat) : Bool := if l.length < 4 then false else tail (sum (l.take (l.length - 4))) == l.drop (l.length - 4)
theorem whole_ok (s : ByteArray) (hs : s.size ≤ 1152921504606846976) : crc_Whole.f s = some (wholeB (bytesL s)) := by
  unfold crc_Whole.f wholeB
  rw [bytesL_length]
  by_cases h : s.size < 4
  · rw [if_pos (by omega), if_pos h]
  · rw [if_neg (by omega), if_neg h, w64 (x := (s.size : Int) - 4) (by omega) (by omega), if_pos (by omega), if_pos (by omega)]
    rw [show ((s.size : Int) - 4).toNat = s.size - 4 from by omega]
    rw [sum_ok _ (by rw [ByteArray.size_extract]; omega)]
    simp only [obind]
    obtain ⟨t, h1, h2, h3⟩ := tail_ok (sum (bytesL (s.extract 0 (s.size - 4)))) (sum_lt (bytesL_lt _))
    rw [h1]
    simp only [obind]
    rw [toList_beq, h2, bytesL_extract, bytesL_extract]
    have e : (bytesL s).take s.size = bytesL s := List.take_of_length_le (by rw [bytesL_length]; exact Nat.le_refl _)
    rw [e, List.drop_zero]
theorem tail_inj {a b : Nat} (ha : a < 4294967296) (hb : b < 4294967296) (h : tail a = tail b) : a = b := by
  unfold tail at h
  simp only [List.cons.injEq, and_true] at h
  omega
theorem four {l : List Nat} (h : ∀ b ∈ l, b < 256) (hl : l.length = 4) : ∃ v, v < 4294967296 ∧ l = tail v := by
  match l, hl with
  | [a, b, c, d], _ =>
    have ha := h a (by simp)
    have hb := h b (by simp)
    have hc := h c (by simp)
    have hd := h d (by simp)
    refine ⟨a + 256 * b + 65536 * c + 16777216 * d, by omega, ?_⟩
    unfold tail
    simp only [List.cons.injEq, and_true]
    omega
/-- A text is whole just if it leaves what sealed ones leave. -/
theorem whole_iff {l : List Nat} (h : ∀ b ∈ l, b < 256) (hl : 4 ≤ l.length) : wholeB l = true ↔ more first l = stN 32 first := by
  unfold wholeB
  rw [if_neg (by omega), beq_iff_eq]
  have hs : l = l.take (l.length - 4) ++ l.drop (l.length - 4) := (List.take_append_drop _ _).symm
  have ht : ∀ b ∈ l.take (l.length - 4), b < 256 := fun b hb => h b (List.mem_of_mem_take hb)
  obtain ⟨v, hv, ev⟩ := four (l := l.drop (l.length - 4)) (fun b hb => h b (List.mem_of_mem_drop hb)) (by rw [List.length_drop]; omega)
  constructor
  · intro e
    rw [hs, ← e]
    exact more_seal ht
  · intro e
    rw [hs, ev] at e
    rw [ev, sealed ht hv e]
theorem seal_lt {l : List Nat} (h : ∀ b ∈ l, b < 256) : ∀ b ∈ seal_ l, b < 256 := by
  intro b hb
  unfold seal_ at hb
  rw [List.mem_append] at hb
  rcases hb with hb | hb
  · exact h b hb
  · unfold tail at hb
    simp only [List.mem_cons, List.not_mem_nil, or_false] at hb
    omega
theorem seal_length (l : List Nat) : (seal_ l).length = l.length + 4 := by unfold seal_; simp [tail]
theorem whole_seal {l : List Nat} (h : ∀ b ∈ l, b < 256) : wholeB (seal_ l) = true :=
  (whole_iff (seal_lt h) (by rw [seal_length]; omega)).2 (more_seal h)
theorem sum_seal {l : List Nat} (h : ∀ b ∈ l, b < 256) : sum (seal_ l) = first ^^^ stN 32 first := by
  unfold sum; rw [more_seal h]
theorem works_ok : decklelaw02_works.f = some true := by
  unfold decklelaw02_works.f
  rw [sum_ok _ (by decide)]
  simp only [obind]
  rw [if_pos (by decide +kernel), sum_ok _ (by decide)]
  simp only [obind]
  rw [if_pos (by decide +kernel)]
  obtain ⟨t, h1, h2, h3⟩ := seal_ok (⟨#[97, 98]⟩ : ByteArray) (by decide)
  rw [h1]
  simp only [obind]
  rw [whole_ok t (by rw [h3]; decide), h2, whole_seal (bytesL_lt _)]
  simp only [obind, if_true]
  rw [whole_ok _ (by decide)]
  simp only [obind]
  decide +kernel
end Go.Proofs.YtogohafdkpibdaaDoor.Pure
