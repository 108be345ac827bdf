/- What the document's functions come to. -/
import Derived.Test.YtaandjafmmpbkaaCard
import Derived.Test.YtaandjafmmpbkaaPQx3
import Derived.Test.YtaandjafmmpbkaaPQx4
import Derived.Test.YtaandjafmmpbkaaPQx5
import Derived.Test.YtaandjafmmpbkaaPQx6
namespace Go.Proofs.Ytaandjafmmpbkaa.PQ
open Go.RowKit Go.Proofs.YtaandjafmmpbkaaW.PrintWords Go.Proofs.YtaandjafmmpbkaaW.PrintLast Go.Proofs.YtaandjafmmpbkaaW.PrintMore
set_option linter.unusedVariables false
set_option linter.unusedSimpArgs false
/-- The document's list of which numbers are in. -/
def dOf (g : Int → Bool) : List Bool := (List.range 4096).map fun k : Nat => g (k : Int)
theorem dOf_len (g : Int → Bool) : (dOf g).length = 4096 := by unfold dOf; rw [List.length_map, List.length_range]
theorem dOf_get (g : Int → Bool) (i : Nat) (h : i < (dOf g).length) : (dOf g)[i] = g i := by
  simp [dOf]
theorem dOf_rd (g : Int → Bool) (i : Nat) (h : i < 4096) : rdOf false (dOf g) (i : Int) = g i := by
  have hl : i < (dOf g).length := by rw [dOf_len]; exact h
  unfold rdOf
  rw [Int.toNat_natCast, List.getD_eq_getElem?_getD, List.getElem?_eq_getElem hl, dOf_get g i hl]
  rfl
theorem dOf_take (g : Int → Bool) (i : Nat) (h : i < 4096) : (dOf g).take (i + 1) = (dOf g).take i ++ [g i] := by
  have hl : i < (dOf g).length := by rw [dOf_len]; exact h
  rw [List.take_succ_eq_append_getElem hl, dOf_get g i hl]
theorem dOf_congr {f g : Int → Bool} (h : ∀ n, f n = g n) : dOf f = dOf g := by rw [show f = g from funext h]
theorem w64n (i : Nat) (h : i ≤ 100000) : wrap64 ((i : Int) + 1) = ((i + 1 : Nat) : Int) := by rw [Go.IntWalk.wrap64_in _ ⟨by omega, by omega⟩]; omega
def setG (g : Int → Bool) (v : Bool) (a b n : Int) : Bool := if a ≤ n ∧ n < b then v else g n
theorem refSet_l0 (g : Int → Bool) (v : Bool) (a b : Int) : ∀ (d k i : Nat), i + d = 4096 → d < k → deckleref34_Set.l0 k (dOf g) v ((dOf (setG g v a b)).take i) (i : Int) a b = some (dOf (setG g v a b), 0)
  | 0, k, i, h, hk => by
    obtain ⟨k, rfl⟩ : ∃ m, k = m + 1 := ⟨k - 1, by omega⟩
    rw [deckleref34_Set.l0, if_neg (by rw [dOf_len]; omega), List.take_of_length_le (by rw [dOf_len]; omega)]
  | d + 1, k, i, h, hk => by
    obtain ⟨k, rfl⟩ : ∃ m, k = m + 1 := ⟨k - 1, by omega⟩
    have ih := refSet_l0 g v a b d k (i + 1) (by omega) (by omega)
    have hl : ((dOf (setG g v a b)).take i).length < 140737488355328 := by rw [List.length_take]; omega
    rw [dOf_take _ i (by omega)] at ih
    rw [deckleref34_Set.l0, if_pos (by rw [dOf_len]; omega), if_pos hl, if_pos (show (0 : Int) ≤ (i : Int) by omega), w64n i (by omega), dOf_rd g i (by omega), if_pos hl]
    unfold setG at ih ⊢
    by_cases c1 : a ≤ (i : Int)
    · rw [if_pos (by exact c1)]
      by_cases c2 : (i : Int) < b
      · rw [if_pos c2]
        rw [if_pos ⟨c1, c2⟩] at ih
        exact ih
      · rw [if_neg c2]
        rw [if_neg (fun q => c2 q.2)] at ih
        exact ih
    · rw [if_neg (by exact c1)]
      rw [if_neg (fun q => c1 q.1)] at ih
      exact ih
theorem refMay (a b : Int) : deckleref34_May.f a b = some (mayB a b) := by
  unfold deckleref34_May.f mayB
  by_cases h0 : a ≥ 0
  · rw [if_pos h0]
    by_cases h1 : a ≤ b
    · rw [if_pos h1]
      congr 1
      exact decide_eq_decide.2 ⟨fun h => ⟨h0, h1, h⟩, fun h => h.2.2⟩
    · rw [if_neg h1, decide_eq_false (fun h => h1 h.2.1)]
  · rw [if_neg h0, decide_eq_false (fun h => h0 h.1)]
theorem refSet (g g' : Int → Bool) (v : Bool) (a b : Int) (hy : mayB a b = true → ∀ n, g' n = setG g v a b n) (hn : mayB a b = false → ∀ n, g' n = g n) : deckleref34_Set.f 5000 (dOf g) a b v = some (dOf g', codeM a b) := by
  unfold deckleref34_Set.f
  rw [refMay]
  show (if mayB a b = true then _ else _) = _
  cases hm : mayB a b
  · rw [if_neg (by decide), dOf_congr (hn hm)]
    unfold codeM
    rw [hm]; rfl
  · rw [if_pos rfl, dOf_congr (hy hm)]
    have := refSet_l0 g v a b 4096 5000 0 (by omega) (by omega)
    rw [List.take_zero] at this
    unfold codeM
    rw [hm]
    exact this
theorem refSet_add {L L' : List S27} {a b : Int} (hp : AddP L L' a b) : deckleref34_Set.f 5000 (dOf (inB L)) a b true = some (dOf (inB L'), codeM a b) :=
  refSet _ _ _ _ _ (fun hm n => by
    unfold setG
    by_cases c : a ≤ n ∧ n < b
    · rw [if_pos c]; exact (hp n).2 (.inr ⟨hm, c⟩)
    · rw [if_neg c, Bool.eq_iff_iff, hp n]
      exact ⟨fun q => q.elim id (fun q => absurd q.2 c), .inl⟩) (fun hm n => by
    rw [Bool.eq_iff_iff, hp n, hm]
    exact ⟨fun q => q.elim id (fun q => absurd q.1 (by decide)), .inl⟩)
theorem refSet_rem {L L' : List S27} {a b : Int} (hp : RemP L L' a b) : deckleref34_Set.f 5000 (dOf (inB L)) a b false = some (dOf (inB L'), codeM a b) :=
  refSet _ _ _ _ _ (fun hm n => by
    unfold setG
    by_cases c : a ≤ n ∧ n < b
    · rw [if_pos c, ← Bool.not_eq_true, hp n]; exact fun q => q.2 ⟨hm, c⟩
    · rw [if_neg c, Bool.eq_iff_iff, hp n]
      exact ⟨fun q => q.1, fun q => ⟨q, fun q2 => c q2.2⟩⟩) (fun hm n => by
    rw [Bool.eq_iff_iff, hp n, hm]
    exact ⟨fun q => q.1, fun q => ⟨q, fun q2 => absurd q2.1 (by decide)⟩⟩)
theorem refNext_l0 (g : Int → Bool) : ∀ (d k i : Nat), i + d = 4096 → d < k → ∃ x, deckleref34_Next.l0 k (dOf g) (i : Int) = some x ∧ ((x = -1 ∧ ∀ m : Int, i ≤ m → m < 4096 → ¬ (g m = true)) ∨ ((i : Int) ≤ x ∧ x < 4096 ∧ g x = true ∧ ∀ m : Int, i ≤ m → m < x → ¬ (g m = true)))
  | 0, k, i, h, hk => by
    obtain ⟨k, rfl⟩ : ∃ m, k = m + 1 := ⟨k - 1, by omega⟩
    rw [deckleref34_Next.l0, if_neg (by rw [dOf_len]; omega)]
    exact ⟨_, rfl, .inl ⟨rfl, fun m h1 h2 => by omega⟩⟩
  | d + 1, k, i, h, hk => by
    obtain ⟨k, rfl⟩ : ∃ m, k = m + 1 := ⟨k - 1, by omega⟩
    rw [deckleref34_Next.l0, if_pos (by rw [dOf_len]; omega), if_pos (by omega), dOf_rd g i (by omega), w64n i (by omega)]
    by_cases c : g i = true
    · rw [if_pos c]
      exact ⟨_, rfl, .inr ⟨Int.le_refl _, by omega, c, fun m h1 h2 => by omega⟩⟩
    · rw [if_neg c]
      obtain ⟨x, hx, hq⟩ := refNext_l0 g d k (i + 1) (by omega) (by omega)
      refine ⟨x, hx, ?_⟩
      have hs : ∀ (m : Int), (i : Int) ≤ m → ¬ (((i + 1 : Nat) : Int) ≤ m) → ¬ (g m = true) := fun m h1 h2 => by
        obtain rfl : m = i := by omega
        exact c
      rcases hq with ⟨h1, h2⟩ | ⟨h1, h2, h3, h4⟩
      · exact .inl ⟨h1, fun m q1 q2 => by
          by_cases e : ((i + 1 : Nat) : Int) ≤ m
          · exact h2 m e q2
          · exact hs m q1 e⟩
      · exact .inr ⟨by omega, h2, h3, fun m q1 q2 => by
          by_cases e : ((i + 1 : Nat) : Int) ≤ m
          · exact h4 m e q2
          · exact hs m q1 e⟩
theorem refNext {L : List S27} {n x : Int} (hs : Sp (-1) L) (h : NextP L n x) : deckleref34_Next.f 5000 (dOf (inB L)) n = some x := by
  unfold deckleref34_Next.f
  have hmx : mx n 0 = max n 0 := by unfold mx; split <;> omega
  rw [hmx]
  obtain ⟨i, hi⟩ := Int.eq_ofNat_of_zero_le (show 0 ≤ max n 0 by omega)
  unfold NextP at h
  rw [hi] at h ⊢
  by_cases c : i ≤ 4096
  · obtain ⟨y, hy, hq⟩ := refNext_l0 (inB L) (4096 - i) 5000 i (by omega) (by omega)
    rw [hy]
    refine congrArg some ?_
    rcases h with ⟨h1, h2⟩ | ⟨h1, h2, h3⟩ <;> rcases hq with ⟨q1, q2⟩ | ⟨q1, q2, q3, q4⟩
    · rw [h1, q1]
    · exact absurd q3 (h2 y q1)
    · exact absurd h2 (q2 x h1 (Sp_in hs x h2).2)
    · rcases Int.lt_trichotomy x y with e | e | e
      · exact absurd h2 (q4 x h1 e)
      · exact e.symm
      · exact absurd q3 (h3 y q1 e)
  · rw [deckleref34_Next.l0, if_neg (by rw [dOf_len]; omega)]
    refine congrArg some ?_
    rcases h with ⟨h1, h2⟩ | ⟨h1, h2, h3⟩
    · exact h1.symm
    · have := Sp_in hs x h2; omega
theorem card_bd (g : Int → Bool) : ∀ N : Nat, 0 ≤ card g N ∧ card g N ≤ N
  | 0 => by simp [card]
  | N + 1 => by
    have := card_bd g N
    unfold card
    split <;> omega
theorem refCount_l0 (g : Int → Bool) : ∀ (d k i : Nat), i + d = 4096 → d < k → deckleref34_Count.l0 k (dOf g) (card g i) (i : Int) = some (card g 4096)
  | 0, k, i, h, hk => by
    obtain ⟨k, rfl⟩ : ∃ m, k = m + 1 := ⟨k - 1, by omega⟩
    rw [deckleref34_Count.l0, if_neg (by rw [dOf_len]; omega), show i = 4096 by omega]
  | d + 1, k, i, h, hk => by
    obtain ⟨k, rfl⟩ : ∃ m, k = m + 1 := ⟨k - 1, by omega⟩
    have ih := refCount_l0 g d k (i + 1) (by omega) (by omega)
    have hb := card_bd g i
    rw [deckleref34_Count.l0, if_pos (by rw [dOf_len]; omega), if_pos (by omega), dOf_rd g i (by omega), w64n i (by omega)]
    rw [card] at ih
    by_cases c : g i = true
    · rw [if_pos c] at ih ⊢
      rw [Go.IntWalk.wrap64_in _ ⟨by omega, by omega⟩]
      exact ih
    · rw [if_neg c] at ih ⊢
      rw [Int.add_zero] at ih
      exact ih
theorem refCount {L : List S27} (hs : Sp (-1) L) : deckleref34_Count.f 5000 (dOf (inB L)) = some (cntK L L.length) := by
  unfold deckleref34_Count.f
  rw [cnt_card hs]
  exact refCount_l0 (inB L) 4096 5000 0 (by omega) (by omega)
end Go.Proofs.Ytaandjafmmpbkaa.PQ
