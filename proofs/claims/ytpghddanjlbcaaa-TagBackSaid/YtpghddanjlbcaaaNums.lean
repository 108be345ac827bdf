/- Numbers and their bytes, the lowest first: what bits.Put, bits.Get and the document's ones answer; no condition beyond those stated. -/
import Derived.IntWalk
import Derived.Laws.BitsAllLaws
import Derived.Laws.BytesArg
import Derived.Lib.ConvBytes
import Derived.Lib.Strings
import Derived.Test.YtpghddanjlbcaaaPQx5
import Derived.Test.YtpghddanjlbcaaaPQx7
import Derived.Test.YtpghddanjlbcaaaPQx8
import Derived.Test.YtpghddanjlbcaaaPut2
import Derived.WalkSpells
namespace Go.Proofs.Ytpghddanjlbcaaa.Pure
open Go.RowKit Go.Proofs.YtpghddanjlbcaaaW.PrintWords PQ
set_option linter.unusedVariables false
set_option linter.unusedSimpArgs false
def bytesL (s : ByteArray) : List Nat := s.data.toList.map (·.toNat)
/-- Not by 'rfl': so the kernel never compares two binds part by part. -/
theorem obind {α β : Type} (a : α) (f : α → Option β) : (some a).bind f = f a := by
  cases h : f a <;> simp [h]
theorem w64 {x : Int} (h0 : -9223372036854775808 ≤ x) (h1 : x ≤ 9223372036854775807) : wrap64 x = x := by
  unfold wrap64; omega
theorem bytesL_length (s : ByteArray) : (bytesL s).length = s.size := by unfold bytesL; simp
theorem bytesL_append (a b : ByteArray) : bytesL (a ++ b) = bytesL a ++ bytesL b := by
  unfold bytesL; rw [ByteArray.data_append]; simp
theorem bytesL_extract (s : ByteArray) (i j : Nat) : bytesL (s.extract i j) = ((bytesL s).take j).drop i := by
  unfold bytesL; rw [ByteArray.data_extract]
  simp only [Array.toList_extract, List.extract_eq_take_drop, List.map_drop, List.map_take]
  rw [List.drop_take]
theorem bytesL_inj {a b : ByteArray} (h : bytesL a = bytesL b) : a = b := by
  unfold bytesL at h
  apply ByteArray.ext
  apply Array.toList_inj.1
  exact List.map_inj_right (fun x y e => UInt8.toNat_inj.1 e) |>.1 h
theorem toList_bytes (s : ByteArray) : s.toList.map (·.toNat) = bytesL s := by
  rw [Lib.toList_data]; rfl
theorem toList_eq_iff (a b : ByteArray) : a.toList = b.toList ↔ bytesL a = bytesL b := by
  constructor
  · intro h; rw [← toList_bytes, ← toList_bytes, h]
  · intro h; rw [bytesL_inj h]
theorem toList_beq (a b : ByteArray) : (a.toList == b.toList) = (bytesL a == bytesL b) := by
  rw [Bool.eq_iff_iff, beq_iff_eq, beq_iff_eq]; exact toList_eq_iff a b
theorem bytesL_strOf (xs : List Int) (h : ∀ x ∈ xs, 0 ≤ x ∧ x < 256) : bytesL (strOfNums xs) = xs.map Int.toNat := by
  unfold bytesL
  rw [strOfNums_data, List.map_map]
  apply List.map_congr_left
  intro x hx
  have := h x hx
  show (UInt8.ofNat x.toNat).toNat = x.toNat
  rw [UInt8.toNat_ofNat']; omega
theorem bt_nat (s : ByteArray) (i : Nat) (h : i < s.size) : bt s (i : Int) = (((bytesL s).getD i 0 : Nat) : Int) := by
  unfold bt bytesL
  rw [dif_pos (by simpa using h)]
  simp only [Int.toNat_natCast]
  rw [List.getD_eq_getElem?_getD, List.getElem?_map, List.getElem?_eq_getElem (by simpa using h)]
  rfl
theorem take_snoc {α : Type} (l : List α) (i : Nat) (d : α) (h : i < l.length) : l.take (i + 1) = l.take i ++ [l.getD i d] := by
  rw [List.take_succ_eq_append_getElem h, List.getD_eq_getElem?_getD, List.getElem?_eq_getElem h]; rfl

def num : List Nat → Nat
  | [] => 0
  | b :: l => b + 256 * num l
def digs : Nat → Nat → List Nat
  | 0, _ => []
  | n + 1, v => v % 256 :: digs n (v / 256)
theorem digs_length : ∀ n v, (digs n v).length = n
  | 0, _ => rfl
  | n + 1, v => by simp [digs, digs_length n]
theorem digs_lt : ∀ n v, ∀ b ∈ digs n v, b < 256
  | 0, _, b, h => by simp [digs] at h
  | n + 1, v, b, h => by
    simp only [digs, List.mem_cons] at h
    rcases h with h | h
    · omega
    · exact digs_lt n _ b h
theorem num_digs : ∀ n v, num (digs n v) = v % 256 ^ n
  | 0, v => by simp [digs, num, Nat.mod_one]
  | n + 1, v => by
    show v % 256 + 256 * num (digs n (v / 256)) = _
    rw [num_digs n, Nat.pow_succ, Nat.mul_comm (256 ^ n) 256, Nat.mod_mul]
theorem digs_num : ∀ l : List Nat, (∀ b ∈ l, b < 256) → digs l.length (num l) = l
  | [], _ => rfl
  | b :: l, h => by
    have hb := h b (List.mem_cons_self ..)
    show (b + 256 * num l) % 256 :: digs l.length ((b + 256 * num l) / 256) = _
    rw [show (b + 256 * num l) % 256 = b from by omega, show (b + 256 * num l) / 256 = num l from by omega, digs_num l fun c hc => h c (List.mem_cons_of_mem _ hc)]
theorem num_lt : ∀ l : List Nat, (∀ b ∈ l, b < 256) → num l < 256 ^ l.length
  | [], _ => by simp [num]
  | b :: l, h => by
    have hb := h b (List.mem_cons_self ..)
    have := num_lt l fun c hc => h c (List.mem_cons_of_mem _ hc)
    show b + 256 * num l < 256 ^ (l.length + 1)
    rw [Nat.pow_succ]; omega
theorem num_snoc : ∀ (l : List Nat) (b : Nat), num (l ++ [b]) = num l + 256 ^ l.length * b
  | [], b => by simp [num]
  | c :: l, b => by
    show c + 256 * num (l ++ [b]) = c + 256 * num l + 256 ^ (l.length + 1) * b
    rw [num_snoc l b, Nat.pow_succ, Nat.mul_add, Nat.mul_comm (256 ^ l.length) 256, Nat.mul_assoc]; omega
theorem digs_snoc : ∀ n v, digs (n + 1) v = digs n v ++ [v / 256 ^ n % 256]
  | 0, v => by simp [digs]
  | n + 1, v => by
    show v % 256 :: digs (n + 1) (v / 256) = v % 256 :: digs n (v / 256) ++ _
    rw [digs_snoc n, Nat.div_div_eq_div_mul, Nat.pow_succ, Nat.mul_comm 256]; rfl
theorem digs_inj {n v u : Nat} (hv : v < 256 ^ n) (hu : u < 256 ^ n) (h : digs n v = digs n u) : v = u := by
  have := congrArg num h
  rwa [num_digs, num_digs, Nat.mod_eq_of_lt hv, Nat.mod_eq_of_lt hu] at this
theorem drop_cons (l : List Nat) (i : Nat) (h : i < l.length) : l.drop i = l.getD i 0 :: l.drop (i + 1) := by
  rw [List.getD_eq_getElem?_getD, List.getElem?_eq_getElem h]; simp
theorem u64w {x : Int} (h0 : 0 ≤ x) (h1 : x ≤ 18446744073709551615) : IntKind.u64.wrap x = x := IntWalk.u64_in x ⟨h0, h1⟩
theorem bytesL_lt (s : ByteArray) : ∀ b ∈ bytesL s, b < 256 := by
  intro b hb
  unfold bytesL at hb
  obtain ⟨c, _, rfl⟩ := List.mem_map.1 hb
  exact c.toNat_lt
theorem getD_lt (l : List Nat) (h : ∀ b ∈ l, b < 256) (i : Nat) : l.getD i 0 < 256 := by
  rw [List.getD_eq_getElem?_getD]
  cases e : l[i]? with
  | none => decide
  | some b => exact h b (List.mem_of_getElem? e)
theorem range_digs : ∀ n v, ((List.range n).map fun j => v / 256 ^ j % 256) = digs n v
  | 0, _ => rfl
  | n + 1, v => by rw [List.range_succ, List.map_append, range_digs n, digs_snoc]; rfl
theorem putB_bytes (n v : Nat) : bytesL (PQ.putB n v) = digs n v := by
  unfold bytesL PQ.putB
  rw [← range_digs]
  simp only [List.map_map]
  apply List.map_congr_left
  intro j _
  show (UInt8.ofNat (v / 256 ^ j)).toNat = _
  rw [UInt8.toNat_ofNat']
theorem putB_size (n v : Nat) : (PQ.putB n v).size = n := by rw [← bytesL_length, putB_bytes, digs_length]
theorem nil_bytes : bytesL (⟨#[]⟩ : ByteArray) = [] := rfl
/-! bits.Put and bits.Get -/
theorem bput_ok (v n : Nat) (hv : v < 18446744073709551616) (h1 : 1 ≤ n) (h8 : n ≤ 8) (h : v < 256 ^ n) : bits_Put.f (v : Int) (n : Int) = some (PQ.putB n v, 0) := by
  unfold bits_Put.f
  rw [if_pos ⟨by omega, by omega⟩, if_neg (by omega), Int.toNat_natCast, Int.toNat_natCast, if_pos h]
theorem shift_or (x b : Nat) (hx : x * 256 < 18446744073709551616) (hb : b < 256) : Go.bits .or .u64 (IntKind.u64.wrap ((x : Int) * 256)) (IntKind.u64.wrap (b : Int)) = ((b + 256 * x : Nat) : Int) := by
  rw [u64w (by omega) (by omega), u64w (by omega) (by omega), show (x : Int) * 256 = ((x * 256 : Nat) : Int) from by omega, u64_or_nat _ _ hx (by omega)]
  congr 1
  have := Nat.shiftLeft_add_eq_or_of_lt (i := 8) (b := b) hb x
  rw [Nat.shiftLeft_eq, show 2 ^ 8 = 256 from rfl] at this
  omega
theorem pow_le8 {n : Nat} (h : n ≤ 8) : 256 ^ n ≤ 18446744073709551616 := Nat.le_trans (Nat.pow_le_pow_right (by decide) h) (by decide)
theorem bget_l0 (s : ByteArray) (h8 : s.size ≤ 8) : ∀ (i m : Nat), i ≤ s.size → i < m → bits_Get.l0 m s ((num ((bytesL s).drop i) : Nat) : Int) ((i : Int) - 1) = some (((num (bytesL s) : Nat) : Int), 0)
  | 0, m, hi, hm => by
    obtain ⟨m, rfl⟩ : ∃ j, m = j + 1 := ⟨m - 1, by omega⟩
    simp only [bits_Get.l0]
    rw [if_neg (by omega)]
    rfl
  | i + 1, m, hi, hm => by
    obtain ⟨m, rfl⟩ : ∃ j, m = j + 1 := ⟨m - 1, by omega⟩
    simp only [bits_Get.l0]
    rw [if_pos (by omega), if_pos (by omega), if_pos (by omega), show ((i + 1 : Nat) : Int) - 1 = (i : Int) from by omega, bt_nat s i (by omega), w64 (x := (i : Int) - 1) (by omega) (by omega)]
    have hd := drop_cons (bytesL s) i (by rw [bytesL_length]; omega)
    have hl := num_lt ((bytesL s).drop (i + 1)) (fun b hb => bytesL_lt s b (List.mem_of_mem_drop hb))
    rw [List.length_drop, bytesL_length] at hl
    have hp : 256 ^ (s.size - (i + 1)) ≤ 256 ^ 7 := Nat.pow_le_pow_right (by decide) (by omega)
    rw [shift_or _ _ (by omega) (getD_lt _ (bytesL_lt s) i)]
    rw [show (bytesL s).getD i 0 + 256 * num ((bytesL s).drop (i + 1)) = num ((bytesL s).drop i) from by rw [hd]; rfl]
    exact bget_l0 s h8 i m (by omega) (by omega)
theorem bget_ok (s : ByteArray) (h1 : 1 ≤ s.size) (h8 : s.size ≤ 8) (m : Nat) (hm : 12 ≤ m) : bits_Get.f m s = some (((num (bytesL s) : Nat) : Int), 0) := by
  obtain ⟨m, rfl⟩ : ∃ j, m = j + 1 := ⟨m - 1, by omega⟩
  unfold bits_Get.f
  rw [if_neg (by omega), decide_eq_false (by omega)]
  simp only [bits_Get.j0]
  rw [if_neg (by simp), w64 (by omega) (by omega)]
  have := bget_l0 s h8 s.size m (Nat.le_refl _) (by omega)
  rw [List.drop_eq_nil_of_le (by rw [bytesL_length]; omega)] at this
  exact this
theorem bget_no (s : ByteArray) (h : s.size < 1 ∨ 8 < s.size) (m : Nat) (hm : 12 ≤ m) : bits_Get.f m s = some (0, 1) := by
  obtain ⟨m, rfl⟩ : ∃ j, m = j + 1 := ⟨m - 1, by omega⟩
  unfold bits_Get.f
  by_cases h1 : s.size < 1
  · rw [if_pos (by omega)]; simp only [bits_Get.j0]; rw [if_pos trivial]
  · rw [if_neg (by omega), decide_eq_true (by omega)]; simp only [bits_Get.j0]; rw [if_pos trivial]
/-! the document's Put and Get -/
theorem rget_l0 (s : ByteArray) (h8 : s.size ≤ 8) (d : Nat) : ∀ (i m : Nat), s.size - i = d → i ≤ s.size → d < m → deckleref01_Get.l0 m s ((num ((bytesL s).take i) : Nat) : Int) (((256 ^ i % 18446744073709551616 : Nat)) : Int) (i : Int) = some (((num (bytesL s) : Nat) : Int), 0) := by
  induction d with
  | zero =>
    intro i m hd hi hm
    obtain ⟨m, rfl⟩ : ∃ j, m = j + 1 := ⟨m - 1, by omega⟩
    simp only [deckleref01_Get.l0]
    rw [if_neg (by omega), List.take_of_length_le (by rw [bytesL_length]; omega)]
  | succ d ih =>
    intro i m hd hi hm
    obtain ⟨m, rfl⟩ : ∃ j, m = j + 1 := ⟨m - 1, by omega⟩
    simp only [deckleref01_Get.l0]
    rw [if_pos (by omega), if_pos (by omega), bt_nat s i (by omega), w64 (x := (i : Int) + 1) (by omega) (by omega), show (i : Int) + 1 = ((i + 1 : Nat) : Int) from by omega]
    have ht := take_snoc (bytesL s) i 0 (by rw [bytesL_length]; omega)
    have hn := num_snoc ((bytesL s).take i) ((bytesL s).getD i 0)
    rw [← ht, List.length_take, bytesL_length, Nat.min_eq_left (by omega)] at hn
    have hl := num_lt ((bytesL s).take (i + 1)) (fun b hb => bytesL_lt s b (List.mem_of_mem_take hb))
    rw [List.length_take, bytesL_length, Nat.min_eq_left (by omega)] at hl
    have hp : 256 ^ i ≤ 256 ^ 7 := Nat.pow_le_pow_right (by decide) (by omega)
    have hp1 := pow_le8 (n := i + 1) (by omega)
    have hb := getD_lt _ (bytesL_lt s) i
    have e1 : 256 ^ i % 18446744073709551616 = 256 ^ i := Nat.mod_eq_of_lt (by omega)
    have e2 : IntKind.u64.wrap ((((256 ^ i % 18446744073709551616 : Nat)) : Int) * 256) = ((256 ^ (i + 1) % 18446744073709551616 : Nat) : Int) := by
      rw [IntKind.wrap_u64, Nat.pow_succ]; omega
    rw [e2, u64w (x := (((bytesL s).getD i 0 : Nat) : Int)) (by omega) (by omega), e1]
    have e3 : (((bytesL s).getD i 0 : Nat) : Int) * ((256 ^ i : Nat) : Int) = ((256 ^ i * (bytesL s).getD i 0 : Nat) : Int) := by
      rw [← Int.natCast_mul, Nat.mul_comm]
    rw [e3]
    have go := ih (i + 1) m (by omega) (by omega) (by omega)
    rw [hn] at go
    rw [u64w (x := ((256 ^ i * (bytesL s).getD i 0 : Nat) : Int)) (by omega) (by omega), ← Int.natCast_add, u64w (by omega) (by omega)]
    exact go
theorem rget_ok (s : ByteArray) (h1 : 1 ≤ s.size) (h8 : s.size ≤ 8) (m : Nat) (hm : 12 ≤ m) : deckleref01_Get.f m s = some (((num (bytesL s) : Nat) : Int), 0) := by
  obtain ⟨m, rfl⟩ : ∃ j, m = j + 1 := ⟨m - 1, by omega⟩
  unfold deckleref01_Get.f
  rw [if_neg (by omega), decide_eq_false (by omega)]
  simp only [deckleref01_Get.j0]
  rw [if_neg (by simp)]
  have := rget_l0 s h8 s.size 0 m (by omega) (by omega) (by omega)
  simpa [num] using this
theorem rput_l0 (v n : Nat) (hv : v < 18446744073709551616) (hn : n ≤ 8) (d : Nat) : ∀ (i m : Nat), n - i = d → i ≤ n → d < m →
    deckleref01_Put.l0 m ((v / 256 ^ i : Nat) : Int) (n : Int) ((digs i v).map (fun x : Nat => (x : Int))) (i : Int) = if v / 256 ^ n > 0 then some (⟨#[]⟩, 1) else some (PQ.putB n v, 0) := by
  induction d with
  | zero =>
    intro i m hd hi hm
    obtain ⟨m, rfl⟩ : ∃ j, m = j + 1 := ⟨m - 1, by omega⟩
    have : i = n := by omega
    subst this
    simp only [deckleref01_Put.l0]
    rw [if_neg (by omega)]
    by_cases h : v / 256 ^ i > 0
    · rw [if_pos h, if_pos (by omega)]
    · rw [if_neg h, if_neg (by omega)]
      have : strOfNums ((digs i v).map (fun x : Nat => (x : Int))) = PQ.putB i v := by
        apply bytesL_inj
        rw [putB_bytes, bytesL_strOf]
        · rw [List.map_map]
          conv => rhs; rw [← List.map_id (digs i v)]
          apply List.map_congr_left
          intro x _; simp
        · intro x hx
          obtain ⟨y, hy, rfl⟩ := List.mem_map.1 hx
          have := digs_lt i v y hy
          omega
      rw [this]
  | succ d ih =>
    intro i m hd hi hm
    obtain ⟨m, rfl⟩ : ∃ j, m = j + 1 := ⟨m - 1, by omega⟩
    simp only [deckleref01_Put.l0]
    have hle : v / 256 ^ i ≤ v := Nat.div_le_self _ _
    rw [if_pos (by omega), if_pos (by rw [List.length_map, digs_length]; omega), w64 (x := (i : Int) + 1) (by omega) (by omega), show (i : Int) + 1 = ((i + 1 : Nat) : Int) from by omega]
    have e1 : IntKind.u64.wrap (Int.tdiv ((v / 256 ^ i : Nat) : Int) 256) = ((v / 256 ^ (i + 1) : Nat) : Int) := by
      rw [Nat.pow_succ, ← Nat.div_div_eq_div_mul]
      generalize v / 256 ^ i = X at hle
      rw [Int.tdiv_eq_ediv_of_nonneg (by omega), u64w (by omega) (by omega)]; omega
    have e2 : Int.tmod ((v / 256 ^ i : Nat) : Int) 256 % 256 = ((v / 256 ^ i % 256 : Nat) : Int) := by
      generalize v / 256 ^ i = X at hle
      rw [Int.tmod_eq_emod_of_nonneg (by omega)]; omega
    rw [e1, e2]
    have go := ih (i + 1) m (by omega) (by omega) (by omega)
    rw [digs_snoc, List.map_append] at go
    exact go
theorem rput_ok (v n : Nat) (hv : v < 18446744073709551616) (h1 : 1 ≤ n) (h8 : n ≤ 8) (h : v < 256 ^ n) (m : Nat) (hm : 12 ≤ m) : deckleref01_Put.f m (v : Int) (n : Int) = some (PQ.putB n v, 0) := by
  obtain ⟨m, rfl⟩ : ∃ j, m = j + 1 := ⟨m - 1, by omega⟩
  unfold deckleref01_Put.f
  rw [if_neg (by omega), decide_eq_false (by omega)]
  simp only [deckleref01_Put.j0]
  rw [if_neg (by simp)]
  have := rput_l0 v n hv h8 n 0 m (by omega) (by omega) (by omega)
  rw [if_neg (by rw [Nat.div_eq_of_lt h]; omega)] at this
  simpa [digs] using this
end Go.Proofs.Ytpghddanjlbcaaa.Pure
