/- The code's check of a geometry is the document's. -/
import Derived.Test.YtmpfadiehakcgaaMapS
import Derived.Test.YtmpfadiehakcgaaPQx2
import Derived.Test.YtmpfadiehakcgaaPQx4
namespace Go.Proofs.Ytmpfadiehakcgaa.PQ
open Go.RowKit Go.Proofs.YtmpfadiehakcgaaW.PrintWords Go.Proofs.YtmpfadiehakcgaaW.PrintLast Go.Proofs.YtmpfadiehakcgaaW.PrintMore
set_option linter.unusedVariables false
set_option linter.unusedSimpArgs false
theorem within_f (a l m : Int) : geom_within.f a l m = some (decide (l ≤ a ∧ a ≤ m)) := by
  unfold geom_within.f
  by_cases h : a ≥ l
  · rw [if_pos h]
    congr 1
    exact decide_eq_decide.2 ⟨fun h2 => ⟨h, h2⟩, fun h2 => h2.2⟩
  · rw [if_neg h, decide_eq_false (fun h2 => h h2.1)]
theorem all_f (l : List Bool) (k : Nat) (hk : l.length < k) (h2 : l.length ≤ 1000) : geom_all.f k l = some (l.all id) := by
  have key : ∀ (m i : Nat), i ≤ l.length → l.length - i < m → geom_all.l0 m l (l.length : Int) (i : Int) = some ((l.drop i).all id) := by
    intro m
    induction m with
    | zero => intro i _ h; omega
    | succ m ih =>
      intro i hi hm
      unfold geom_all.l0
      by_cases hlt : i < l.length
      · rw [if_pos (by omega), if_pos (by omega), if_pos (by omega)]
        have hd : l.drop i = l[i] :: l.drop (i + 1) := List.drop_eq_getElem_cons hlt
        have hr : rdOf false l (i : Int) = l[i] := by
          unfold rdOf
          rw [Int.toNat_natCast, List.getD_eq_getElem?_getD, List.getElem?_eq_getElem hlt]
          rfl
        have hw : wrap64 ((i : Int) + 1) = ((i + 1 : Nat) : Int) := by rw [Go.IntWalk.wrap64_in _ ⟨by omega, by omega⟩]; omega
        rw [hr, hd, hw, List.all_cons]
        cases hb : l[i] with
        | true => rw [if_pos rfl, ih (i + 1) (by omega) (by omega)]; rfl
        | false => rw [if_neg (by decide)]; rfl
      · rw [if_neg (by omega), List.drop_of_length_le (by omega)]
        rfl
  have := key k 0 (Nat.zero_le _) (by omega)
  exact this
/-- The least number of pages that a snapshot needs. -/
theorem snaps_ref (b y l : Int) (x1 x4 x5 : Int) (K : Nat) (hK : 1700 < K) (hb : 8 ≤ b ∧ b ≤ 64) (hy : 16 ≤ y ∧ y ≤ 256) (hl : 1 ≤ l ∧ l ≤ 4096) : deckleref06_Snaps.f K b x1 y l x4 x5 = some (Int.tdiv (6 * l + 10 * b + y - 1) y) := by
  have hT : wrap64 ((wrap64 (6 * l)) + (wrap64 (10 * b))) = 6 * l + 10 * b := by
    rw [Go.IntWalk.wrap64_in (6 * l) ⟨by omega, by omega⟩, Go.IntWalk.wrap64_in (10 * b) ⟨by omega, by omega⟩, Go.IntWalk.wrap64_in _ ⟨by omega, by omega⟩]
  generalize hTT : 6 * l + 10 * b = T at *
  have hT2 : 86 ≤ T ∧ T ≤ 25216 := by omega
  have hdiv : Int.tdiv (T + y - 1) y = (T + y - 1) / y := Int.tdiv_eq_ediv_of_nonneg (by omega)
  rw [hdiv]
  have h0 : 0 ≤ (T + y - 1) / y := Int.ediv_nonneg (by omega) (by omega)
  obtain ⟨N, hN⟩ : ∃ N : Nat, (T + y - 1) / y = (N : Int) := ⟨_, (Int.toNat_of_nonneg h0).symm⟩
  rw [hN]
  have e1 := Int.mul_ediv_add_emod (T + y - 1) y
  have e2 := Int.emod_nonneg (T + y - 1) (show y ≠ 0 by omega)
  have e3 := Int.emod_lt_of_pos (T + y - 1) (show 0 < y by omega)
  rw [hN] at e1
  have hup : T ≤ y * N := by omega
  have hlo : y * N ≤ T + y - 1 := by omega
  have hN2 : (N : Int) ≤ 1600 := by
    by_cases h : (N : Int) ≤ 1600
    · exact h
    · have : 16 * 1601 ≤ y * (N : Int) := Int.mul_le_mul hy.1 (by omega) (by omega) (by omega)
      omega
  have key : ∀ (m x : Nat), x ≤ N → N - x < m → deckleref06_Snaps.l0 m (x : Int) b x1 y l x4 x5 = some (N : Int) := by
    intro m
    induction m with
    | zero => intro x _ h; omega
    | succ m ih =>
      intro x hx hm
      unfold deckleref06_Snaps.l0
      have b1 : 0 ≤ (x : Int) * y := Int.mul_nonneg (by omega) (by omega)
      have b2 : (x : Int) * y ≤ 1600 * 256 := Int.mul_le_mul (by omega) hy.2 (by omega) (by omega)
      rw [hT, Go.IntWalk.wrap64_in ((x : Int) * y) ⟨by omega, by omega⟩]
      by_cases hlt : x < N
      · have b3 : ((x : Int) + 1) * y ≤ (N : Int) * y := Int.mul_le_mul_of_nonneg_right (by omega) (by omega)
        have b4 : ((x : Int) + 1) * y = (x : Int) * y + y := by rw [Int.add_mul, Int.one_mul]
        have b5 : (N : Int) * y = y * N := Int.mul_comm _ _
        rw [if_pos (by omega)]
        have hw : wrap64 ((x : Int) + 1) = ((x + 1 : Nat) : Int) := by rw [Go.IntWalk.wrap64_in _ ⟨by omega, by omega⟩]; omega
        rw [hw]
        exact ih (x + 1) (Nat.succ_le_of_lt hlt) (by clear b1 b2 b3 b4 b5 ih hT hTT hT2 hdiv h0 hN e1 e2 e3 hup hlo hN2; omega)
      · obtain rfl : x = N := by omega
        have b5 : (x : Int) * y = y * x := Int.mul_comm _ _
        rw [if_neg (by omega)]
  exact key K 0 (Nat.zero_le _) (by omega)
theorem snaps_code (b y l : Int) (x1 x4 x5 : Int) (hb : 8 ≤ b ∧ b ≤ 64) (hy : 16 ≤ y ∧ y ≤ 256) (hl : 1 ≤ l ∧ l ≤ 4096) : geom_Snaps.f b x1 y l x4 x5 = some (Int.tdiv (6 * l + 10 * b + y - 1) y) := by
  unfold geom_Snaps.f
  rw [if_neg (by omega), if_neg (by omega), Go.IntWalk.wrap64_in (6 * l) ⟨by omega, by omega⟩, Go.IntWalk.wrap64_in (10 * b) ⟨by omega, by omega⟩, Go.IntWalk.wrap64_in (6 * l + 10 * b) ⟨by omega, by omega⟩, Go.IntWalk.wrap64_in (6 * l + 10 * b + y) ⟨by omega, by omega⟩, Go.IntWalk.wrap64_in (6 * l + 10 * b + y - 1) ⟨by omega, by omega⟩]
  have h1 : 0 ≤ Int.tdiv (6 * l + 10 * b + y - 1) y := Int.tdiv_nonneg (by omega) (by omega)
  have h2 : Int.tdiv (6 * l + 10 * b + y - 1) y ≤ 6 * l + 10 * b + y - 1 := by
    rw [Int.tdiv_eq_ediv_of_nonneg (by omega)]
    exact Int.ediv_le_self _ (by omega)
  rw [Go.IntWalk.wrap64_in _ ⟨by omega, by omega⟩]
theorem j0_bad (K : Nat) (x : Bool) (b n y l s r : Int) (h : ¬ (x = false ∧ (0 ≤ s ∧ s ≤ 16) ∧ (2 ≤ r ∧ r ≤ 1000) ∧ (1 ≤ l ∧ l ≤ 4096))) : deckleref06_Check.j0 (K + 1) x b n y l s r = some 60 := by
  unfold deckleref06_Check.j0
  dsimp only
  by_cases c1 : x = true
  · rw [if_pos c1]
  rw [if_neg c1]
  by_cases c2 : s < 0
  · rw [if_pos c2]
  rw [if_neg c2]
  by_cases c3 : s > 16
  · rw [if_pos c3]
  rw [if_neg c3]
  by_cases c4 : s > wrap64 (b - 8)
  · rw [if_pos c4]
  rw [if_neg c4]
  by_cases c5 : r < 2
  · rw [if_pos c5]
  rw [if_neg c5]
  by_cases c6 : r > 1000
  · rw [if_pos c6]
  rw [if_neg c6]
  by_cases c7 : l < 1
  · rw [if_pos c7]
  rw [if_neg c7]
  by_cases c8 : l > 4096
  · rw [if_pos c8]
  exact absurd ⟨by simpa using c1, ⟨by omega, by omega⟩, ⟨by omega, by omega⟩, ⟨by omega, by omega⟩⟩ h
theorem check6_bad (K : Nat) (b n y l s r : Int) (hs : ¬ ((8 ≤ b ∧ b ≤ 64) ∧ (6 ≤ n ∧ n ≤ 64) ∧ (16 ≤ y ∧ y ≤ 256) ∧ Int.tmod y 8 = 0 ∧ (0 ≤ s ∧ s ≤ 16) ∧ (2 ≤ r ∧ r ≤ 1000) ∧ (1 ≤ l ∧ l ≤ 4096))) : deckleref06_Check.f (K + 1) b n y l s r = some 60 := by
  have hj := j0_bad K true b n y l s r (fun h => absurd h.1 (by decide))
  unfold deckleref06_Check.f
  by_cases c1 : b < 8
  · rw [if_pos c1, hj]
  rw [if_neg c1]
  by_cases c2 : b > 64
  · rw [if_pos c2, hj]
  rw [if_neg c2]
  by_cases c3 : n < 6
  · rw [if_pos c3, hj]
  rw [if_neg c3]
  by_cases c4 : n > 64
  · rw [if_pos c4, hj]
  rw [if_neg c4]
  by_cases c5 : y < 16
  · rw [if_pos c5, hj]
  rw [if_neg c5]
  by_cases c6 : y > 256
  · rw [if_pos c6, hj]
  rw [if_neg c6]
  refine j0_bad K _ b n y l s r (fun h => hs ⟨⟨by omega, by omega⟩, ⟨by omega, by omega⟩, ⟨by omega, by omega⟩, by simpa using h.1, h.2.1, h.2.2.1, h.2.2.2⟩)
/-- The code's check is the document's. -/
theorem check_same (b n y l s r : Int) : ∃ (K1 K2 : Nat) (e : Int), geom_Check.f K1 b n y l s r = some e ∧ deckleref06_Check.f K2 b n y l s r = some e ∧ (e = 0 ∨ e = 60) ∧ (e = 0 → (16 ≤ y ∧ y ≤ 256) ∧ 1 ≤ l ∧ l ≤ 4096) := by
  by_cases hs : (8 ≤ b ∧ b ≤ 64) ∧ (6 ≤ n ∧ n ≤ 64) ∧ (16 ≤ y ∧ y ≤ 256) ∧ Int.tmod y 8 = 0 ∧ (0 ≤ s ∧ s ≤ 16) ∧ (2 ≤ r ∧ r ≤ 1000) ∧ (1 ≤ l ∧ l ≤ 4096)
  · obtain ⟨h1, h2, h3, h4, h5, h6, h7⟩ := hs
    obtain ⟨M, hM⟩ : ∃ M, geom_Most.f b n y l s r = some M := ⟨_, rfl⟩
    have hM2 : deckleref06_Most.f b n y l s r = some M := hM
    have hS := snaps_code b y l n s r h1 h3 h7
    obtain ⟨K, hK⟩ : ∃ K : Nat, 1700 < K := ⟨2000, by decide⟩
    have hS2 := snaps_ref b y l n s r K hK h1 h3 h7
    generalize Int.tdiv (6 * l + 10 * b + y - 1) y = S at *
    refine ⟨20, K + 1, if s ≤ b - 8 ∧ l ≤ M ∧ S ≤ n - 4 then 0 else 60, ?_, ?_, by split <;> simp, fun _ => ⟨h3, h7⟩⟩
    · unfold geom_Check.f
      rw [within_f, within_f, within_f, within_f, within_f, within_f, decide_eq_true h1, decide_eq_true h2, decide_eq_true h3, decide_eq_true h5, decide_eq_true h6, decide_eq_true h7, hM, hS]
      simp only [Option.bind_some]
      rw [all_f _ 20 (by simp) (by simp), all_f _ 20 (by simp) (by simp), Go.IntWalk.wrap64_in (b - 8) ⟨by omega, by omega⟩, Go.IntWalk.wrap64_in (n - 4) ⟨by omega, by omega⟩]
      simp only [Option.bind_some, List.all_cons, List.all_nil, id, h4]
      by_cases hc : s ≤ b - 8 ∧ l ≤ M ∧ S ≤ n - 4
      · simp [hc]
      · rw [if_neg hc]
        have : (decide (s ≤ b - 8) && (decide (l ≤ M) && (decide (S ≤ n - 4) && true))) = false := by
          rw [Bool.eq_false_iff]
          intro h
          simp at h
          exact hc h
        simp [this]
        intro g1 g2
        omega
    · unfold deckleref06_Check.f
      rw [if_neg (by omega), if_neg (by omega), if_neg (by omega), if_neg (by omega), if_neg (by omega), if_neg (by omega)]
      unfold deckleref06_Check.j0
      dsimp only
      rw [hM2, hS2, Go.IntWalk.wrap64_in (b - 8) ⟨by omega, by omega⟩, Go.IntWalk.wrap64_in (n - 4) ⟨by omega, by omega⟩]
      simp only [Option.bind_some]
      rw [if_neg (by simp [h4]), if_neg (by omega), if_neg (by omega)]
      by_cases c1 : s > b - 8
      · rw [if_pos c1, if_neg (by omega)]
      · rw [if_neg c1, if_neg (by omega), if_neg (by omega), if_neg (by omega), if_neg (by omega)]
        by_cases c2 : l > M
        · rw [if_pos c2, if_neg (by omega)]
        · rw [if_neg c2]
          by_cases c3 : S > n - 4
          · rw [if_pos c3, if_neg (by omega)]
          · rw [if_neg c3, if_pos (by omega)]
  · refine ⟨20, 1, 60, ?_, ?_, .inr rfl, fun h => absurd h (by decide)⟩
    · unfold geom_Check.f
      rw [within_f, within_f, within_f, within_f, within_f, within_f]
      simp only [Option.bind_some]
      rw [all_f _ 20 (by simp) (by simp)]
      simp only [Option.bind_some]
      rw [if_neg]
      intro h
      apply hs
      simp only [List.all_cons, List.all_nil, id, Bool.and_eq_true, decide_eq_true_eq, beq_iff_eq] at h
      obtain ⟨g1, g2, g3, g4, g5, g6, g7, _⟩ := h
      exact ⟨g1, g2, g3, g4, g5, g6, g7⟩
    · exact check6_bad 0 b n y l s r hs
end Go.Proofs.Ytmpfadiehakcgaa.PQ
