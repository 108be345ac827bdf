/- What the document's functions come to. -/
import Derived.Test.YtmpfadiehakcgaaAct
import Derived.Test.YtmpfadiehakcgaaPQx5
import Derived.Test.YtmpfadiehakcgaaPQx6
import Derived.Test.YtmpfadiehakcgaaPQx7
namespace Go.Proofs.Ytmpfadiehakcgaa.PQ
open Go.RowKit Go.Proofs.YtmpfadiehakcgaaW.PrintWords Go.Proofs.YtmpfadiehakcgaaW.PrintLast Go.Proofs.YtmpfadiehakcgaaW.PrintMore
set_option linter.unusedVariables false
set_option linter.unusedSimpArgs false
theorem w64s (x : Nat) (h : x ≤ 1000000) : wrap64 ((x : Int) + 1) = ((x + 1 : Nat) : Int) := by rw [Go.IntWalk.wrap64_in _ ⟨by omega, by omega⟩]; omega
theorem noughts_pure (n K : Nat) (hn : n ≤ 1000) (hK : n < K) : deckleref28_Noughts.f K (n : Int) = some (repN 0 n) := by
  have key : ∀ m k : Nat, k ≤ n → n - k < m → deckleref28_Noughts.l0 m (n : Int) (List.replicate k 0) (k : Int) = some (repN 0 n) := by
    intro m
    induction m with
    | zero => intro k _ h; omega
    | succ m ih =>
      intro k hk hm
      unfold deckleref28_Noughts.l0
      by_cases hlt : k < n
      · rw [if_pos (by omega), if_pos (by rw [List.length_replicate]; omega), w64s k (by omega), ← List.replicate_succ']
        exact ih (k + 1) (by omega) (by omega)
      · obtain rfl : k = n := by omega
        rw [if_neg (by omega)]
        unfold strOfNums repN
        rw [List.map_replicate]
  exact key K 0 (Nat.zero_le _) (by omega)
theorem new_pure (g : G6) (L Bt K : Nat) (h3 : g.f3 = L) (h2 : g.f2 = Bt) (hL : L ≤ 5000) (hB : Bt ≤ 1000) (hK : L + Bt + 1 < K) : deckleref28_New.f K g.f0 g.f1 g.f2 g.f3 g.f4 g.f5 = some (List.replicate L (repN 0 Bt)) := by
  have key : ∀ m k : Nat, k ≤ L → L - k + Bt + 1 < m → deckleref28_New.l0 m (List.replicate k (repN 0 Bt)) (k : Int) g.f0 g.f1 g.f2 g.f3 g.f4 g.f5 = some (List.replicate L (repN 0 Bt)) := by
    intro m
    induction m with
    | zero => intro k _ h; omega
    | succ m ih =>
      intro k hk hm
      unfold deckleref28_New.l0
      rw [h3, h2]
      by_cases hlt : k < L
      · rw [if_pos (by omega), noughts_pure Bt m hB (by omega), Option.bind_some, if_pos (by rw [List.length_replicate]; omega), w64s k (by omega), ← List.replicate_succ']
        have := ih (k + 1) (by omega) (by omega)
        rw [h3, h2] at this
        exact this
      · obtain rfl : k = L := by omega
        rw [if_neg (by omega)]
  exact key K 0 (Nat.zero_le _) (by omega)
theorem put_pure (l : List ByteArray) (i : Nat) (hi : i < l.length) (s : ByteArray) (hl : l.length ≤ 100000) : deckleref28_Put.f (l.length + 1) l (i : Int) s = some (l.set i s) := by
  have key : ∀ m k : Nat, m + k = l.length → deckleref28_Put.l0 (m + 1) l (i : Int) s ((l.set i s).take k) (k : Int) = some (l.set i s) := by
    intro m
    induction m with
    | zero =>
      intro k hk
      unfold deckleref28_Put.l0
      rw [if_neg (by omega), List.take_of_length_le (by rw [List.length_set]; omega)]
    | succ m ih =>
      intro k hk
      unfold deckleref28_Put.l0
      have hlt : k < (l.set i s).length := by rw [List.length_set]; omega
      have hT := List.take_succ_eq_append_getElem hlt
      rw [List.getElem_set] at hT
      have hx : ((l.set i s).take k).length < 8796093022208 := by rw [List.length_take, List.length_set]; omega
      have hi2 := ih (k + 1) (by omega)
      rw [if_pos (by omega)]
      by_cases hki : k = i
      · subst hki
        rw [if_pos rfl, if_pos hx, w64s k (by omega)]
        rw [hT, if_pos rfl] at hi2
        exact hi2
      · rw [if_neg (by omega), if_pos (by omega), if_pos hx, w64s k (by omega)]
        rw [hT, if_neg (fun e => hki e.symm)] at hi2
        have hr : rdOf ByteArray.empty l (k : Int) = l[k]'(by omega) := by
          unfold rdOf
          rw [Int.toNat_natCast, List.getD_eq_getElem?_getD, List.getElem?_eq_getElem (by omega)]
          rfl
        rw [hr]
        exact hi2
  exact key l.length 0 (by omega)
def mayL (l : List S69) (a : Int) (s : ByteArray) : Bool := l.any fun e => decide (e.f0 = a ∧ e.f1 = s)
theorem toList_eq {x y : ByteArray} : x.toList = y.toList ↔ x = y := by
  constructor
  · intro h2
    rw [ByteArray.toList_eq, ByteArray.toList_eq] at h2
    exact ByteArray.ext (Array.toList_inj.mp h2)
  · rintro rfl; rfl
theorem rd_get69 (l : List S69) (k : Nat) (hk : k < l.length) : rd_T69 l (k : Int) = l[k] := by
  unfold rd_T69
  rw [Int.toNat_natCast, List.getD_eq_getElem?_getD, List.getElem?_eq_getElem hk]
  rfl
theorem may_pure (g : G6) (l1 : List ByteArray) (l2 : List S69) (a : Int) (s : ByteArray) (hl : l2.length ≤ 100000) : deckleref32_May.f (l2.length + 1) g.f0 g.f1 g.f2 g.f3 g.f4 g.f5 l1 l2 a s = some (mayL l2 a s) := by
  have key : ∀ m k : Nat, m + k = l2.length → deckleref32_May.l0 (m + 1) a s (k : Int) g.f0 g.f1 g.f2 g.f3 g.f4 g.f5 l1 l2 = some (mayL (l2.drop k) a s) := by
    intro m
    induction m with
    | zero =>
      intro k hk
      unfold deckleref32_May.l0
      rw [if_neg (by omega), List.drop_of_length_le (by omega)]
      rfl
    | succ m ih =>
      intro k hk
      unfold deckleref32_May.l0
      have hlt : k < l2.length := by omega
      rw [if_pos (by omega), if_pos (by omega), rd_get69 l2 k hlt, w64s k (by omega), ih (k + 1) (by omega), List.drop_eq_getElem_cons hlt]
      unfold mayL
      rw [List.any_cons]
      by_cases h1 : (l2[k]).f0 = a
      · rw [if_pos h1]
        by_cases h2 : (l2[k]).f1 = s
        · rw [if_pos (toList_eq.2 h2), decide_eq_true ⟨h1, h2⟩]; rfl
        · rw [if_neg (fun e => h2 (toList_eq.1 e)), decide_eq_false (fun e => h2 e.2)]; rfl
      · rw [if_neg h1, decide_eq_false (fun e => h1 e.1)]; rfl
  exact key l2.length 0 (by omega)
def evOf (l : List ByteArray) (k : Nat) : List S69 := (List.range k).map fun (i : Nat) => (⟨(i : Int), sd l i⟩ : S69)
theorem evOf_succ (l : List ByteArray) (k : Nat) : evOf l (k + 1) = evOf l k ++ [(⟨(k : Int), sd l k⟩ : S69)] := by
  unfold evOf
  rw [List.range_succ, List.map_append]
  rfl
theorem evOf_len (l : List ByteArray) (k : Nat) : (evOf l k).length = k := by unfold evOf; rw [List.length_map, List.length_range]
theorem flushed_pure (g : G6) (l1 : List ByteArray) (l2 : List S69) (hl : l1.length ≤ 100000) : deckleref32_flushed.f (l1.length + 1) g.f0 g.f1 g.f2 g.f3 g.f4 g.f5 l1 l2 = some (g.f0, g.f1, g.f2, g.f3, g.f4, g.f5, l1, evOf l1 l1.length) := by
  have key : ∀ m k : Nat, m + k = l1.length → deckleref32_flushed.l0 (m + 1) (k : Int) g.f0 g.f1 g.f2 g.f3 g.f4 g.f5 l1 (evOf l1 k) = some (g.f0, g.f1, g.f2, g.f3, g.f4, g.f5, l1, evOf l1 l1.length) := by
    intro m
    induction m with
    | zero =>
      intro k hk
      unfold deckleref32_flushed.l0
      rw [if_neg (by omega), show k = l1.length by omega]
    | succ m ih =>
      intro k hk
      unfold deckleref32_flushed.l0
      have hi2 := ih (k + 1) (by omega)
      rw [evOf_succ] at hi2
      rw [if_pos (by omega), if_pos (by omega), if_pos (by rw [evOf_len]; omega), w64s k (by omega)]
      exact hi2
  exact key l1.length 0 (by omega)
end Go.Proofs.Ytmpfadiehakcgaa.PQ
