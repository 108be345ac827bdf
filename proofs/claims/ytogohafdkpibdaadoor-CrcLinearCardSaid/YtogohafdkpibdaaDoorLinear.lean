/- The crc law Linear: its function answers true; the table lies as laid. -/
import Derived.Test.YtogohafdkpibdaaDoorPQx8
import Derived.Test.YtogohafdkpibdaaDoorCommon
namespace Go.Proofs.YtogohafdkpibdaaDoor.Pure
open Go.RowKit Go.Proofs.YtogohafdkpibdaaDoor.PQ Go.Proofs.YtogohafdkpibdaaDoorW.PrintWords Go.Proofs.YtogohafdkpibdaaDoorW.PrintLast Go.Proofs.YtogohafdkpibdaaDoorW.PrintMore
set_option linter.unusedVariables false
set_option linter.unusedSimpArgs false
open CrcMath
def xor3 (a b c : List Nat) : List Nat := List.zipWith (· ^^^ ·) (List.zipWith (· ^^^ ·) a b) c
theorem xor3_length (a b c : List Nat) (h1 : a.length = b.length) (h2 : b.length = c.length) : (xor3 a b c).length = a.length := by
  unfold xor3; rw [List.length_zipWith, List.length_zipWith]; omega
theorem sum_xor3 (a b c : List Nat) (h1 : a.length = b.length) (h2 : b.length = c.length) : sum (xor3 a b c) = sum a ^^^ sum b ^^^ sum c := by
  have e1 := more_xor a b first first h1
  have e2 := more_xor (List.zipWith (· ^^^ ·) a b) c 0 first (by rw [List.length_zipWith]; omega)
  rw [Nat.xor_self] at e1
  rw [Nat.zero_xor] at e2
  unfold sum xor3
  rw [e2, e1]
  generalize more first a = x
  generalize more first b = y
  generalize more first c = z
  generalize first = f
  rw [← Nat.xor_assoc (f ^^^ x) f y, Nat.xor_assoc f x f, Nat.xor_comm x f, ← Nat.xor_assoc f f x, Nat.xor_self, Nat.zero_xor]
  rw [← Nat.xor_assoc (x ^^^ y) f z, Nat.xor_comm (x ^^^ y) f, Nat.xor_assoc f (x ^^^ y) z]
theorem xor_u8 (a b : Nat) (ha : a < 256) (hb : b < 256) : bits .xor .u8 (a : Int) (b : Int) = ((a ^^^ b : Nat) : Int) := u8_xor_nat a b ha hb
theorem getD_lt (l : List Nat) (h : ∀ b ∈ l, b < 256) (i : Nat) : l.getD i 0 < 256 := by
  rw [List.getD_eq_getElem?_getD]
  cases e : l[i]? with
  | none => decide
  | some b => exact h b (List.mem_of_getElem? e)
theorem linear_l0 (s0 s1 s2 : ByteArray) (n : Nat) (h0 : s0.size = n) (h1 : s1.size = n) (h2 : s2.size = n) (hn : n ≤ 1000) (d : Nat) : ∀ (m i : Nat) (acc : List Int), n - i = d → i ≤ n → d < m →
    acc = ((xor3 (bytesL s0) (bytesL s1) (bytesL s2)).take i).map (fun x : Nat => (x : Int)) →
    decklelaw02_CrcLinear.l0 m s0 s1 s2 acc (n : Int) (i : Int) = some true := by
  have l0 : (bytesL s0).length = n := by rw [bytesL_length]; exact h0
  have l1 : (bytesL s1).length = n := by rw [bytesL_length]; exact h1
  have l2 : (bytesL s2).length = n := by rw [bytesL_length]; exact h2
  have lx : (xor3 (bytesL s0) (bytesL s1) (bytesL s2)).length = n := by rw [xor3_length _ _ _ (by omega) (by omega)]; exact l0
  induction d with
  | zero =>
    intro m i acc hd hi hm ha
    obtain ⟨m, rfl⟩ : ∃ j, m = j + 1 := ⟨m - 1, by omega⟩
    simp only [decklelaw02_CrcLinear.l0]
    rw [if_neg (by omega)]
    rw [List.take_of_length_le (by omega)] at ha
    have hlt : ∀ x ∈ xor3 (bytesL s0) (bytesL s1) (bytesL s2), x < 256 := by
      intro x hx
      unfold xor3 at hx
      obtain ⟨i, hi, rfl⟩ := List.getElem_of_mem hx
      rw [List.getElem_zipWith, List.getElem_zipWith]
      exact Nat.xor_lt_two_pow (n := 8) (Nat.xor_lt_two_pow (n := 8) (bytesL_lt s0 _ (List.getElem_mem _)) (bytesL_lt s1 _ (List.getElem_mem _))) (bytesL_lt s2 _ (List.getElem_mem _))
    have hb : bytesL (strOfNums acc) = xor3 (bytesL s0) (bytesL s1) (bytesL s2) := by
      rw [bytesL_strOf]
      · rw [ha, List.map_map]
        conv => rhs; rw [← List.map_id (xor3 (bytesL s0) (bytesL s1) (bytesL s2))]
        apply List.map_congr_left
        intro x _
        simp
      · intro x hx
        rw [ha] at hx
        obtain ⟨y, hy, rfl⟩ := List.mem_map.1 hx
        have := hlt y hy
        omega
    have hsz : (strOfNums acc).size = n := by rw [strOfNums_size, ha, List.length_map, lx]
    rw [sum_ok _ (by omega), obind, sum_ok _ (by omega), obind, sum_ok _ (by omega), obind, sum_ok _ (by omega), obind]
    rw [hb, u32_xor_nat _ _ (sum_lt (bytesL_lt s0)) (sum_lt (bytesL_lt s1)), u32_xor_nat _ _ (Nat.xor_lt_two_pow (n := 32) (sum_lt (bytesL_lt s0)) (sum_lt (bytesL_lt s1))) (sum_lt (bytesL_lt s2))]
    rw [sum_xor3 _ _ _ (by omega) (by omega)]
    simp
  | succ d ih =>
    intro m i acc hd hi hm ha
    obtain ⟨m, rfl⟩ : ∃ j, m = j + 1 := ⟨m - 1, by omega⟩
    simp only [decklelaw02_CrcLinear.l0]
    rw [if_pos (by omega), if_pos (by omega), if_pos (by omega), if_pos (by omega), if_pos (by omega), if_pos (by rw [ha, List.length_map, List.length_take, lx]; omega)]
    rw [bt_nat s0 i (by omega), bt_nat s1 i (by omega), bt_nat s2 i (by omega), w64 (x := (i : Int) + 1) (by omega) (by omega), show (i : Int) + 1 = ((i + 1 : Nat) : Int) from by omega]
    have b0 := getD_lt _ (bytesL_lt s0) i
    have b1 := getD_lt _ (bytesL_lt s1) i
    have b2 := getD_lt _ (bytesL_lt s2) i
    rw [xor_u8 _ _ b0 b1, xor_u8 _ _ (Nat.xor_lt_two_pow (n := 8) b0 b1) b2]
    refine ih m (i + 1) _ (by omega) (by omega) (by omega) ?_
    rw [ha, take_snoc _ i 0 (by omega), List.map_append]
    congr 1
    have : (xor3 (bytesL s0) (bytesL s1) (bytesL s2)).getD i 0 = (bytesL s0).getD i 0 ^^^ (bytesL s1).getD i 0 ^^^ (bytesL s2).getD i 0 := by
      unfold xor3
      simp only [List.getD_eq_getElem?_getD, List.getElem?_zipWith]
      rw [List.getElem?_eq_getElem (show i < (bytesL s0).length by omega), List.getElem?_eq_getElem (show i < (bytesL s1).length by omega), List.getElem?_eq_getElem (show i < (bytesL s2).length by omega)]
      rfl
    rw [this]; rfl
theorem mn_eq (a b : Int) : mn a b = min a b := by unfold mn; omega
theorem linear_ok (s0 s1 s2 : ByteArray) : decklelaw02_CrcLinear.f 1100 s0 s1 s2 = some true := by
  unfold decklelaw02_CrcLinear.f
  rw [works_ok, obind, if_pos rfl, mn_eq, mn_eq]
  obtain ⟨n, hn⟩ : ∃ n : Nat, min (min (s0.size : Int) (s1.size : Int)) (s2.size : Int) = (n : Int) := ⟨min (min s0.size s1.size) s2.size, by omega⟩
  rw [hn]
  by_cases h : (n : Int) > 1000
  · rw [if_pos h]
  · rw [if_neg h, if_pos (by omega), if_pos (by omega), if_pos (by omega), if_pos (by omega), Int.toNat_natCast]
    refine linear_l0 _ _ _ n (by rw [ByteArray.size_extract]; omega) (by rw [ByteArray.size_extract]; omega) (by rw [ByteArray.size_extract]; omega) (by omega) n 1100 0 [] (by omega) (by omega) (by omega) rfl
theorem crcLinear_walk (a0 a1 a2 : ByteArray) (w : World) (hT : Aside0 (Tabs w)) :
    Calls Tryd.prog 5 #[.agg #[.string a0, .string a1, .string a2]] w fun e w' => e = .returned (.bool true) ∧ Below w.heap.size w w' :=
  decklelaw02_CrcLinear.calls 1100 a0 a1 a2 true w hT (linear_ok a0 a1 a2)
end Go.Proofs.YtogohafdkpibdaaDoor.Pure
