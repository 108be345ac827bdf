/- A number is taken out of a row, walked. -/
import Derived.Test.YtkamgpjpnjikgaaPend
namespace Go.Proofs.Ytkamgpjpnjikgaa.PQ
open Go.RowKit Go.Proofs.YtkamgpjpnjikgaaW.PrintWords Go.Proofs.YtkamgpjpnjikgaaW.PrintLast Go.Proofs.YtkamgpjpnjikgaaW.PrintMore
set_option linter.unusedVariables false
set_option linter.unusedSimpArgs false
theorem clo_calls (x a : Int) (X : Nat) (w : World) (h : Aside0 (w.cell? ⟨X, 1, none⟩ = some (.int .i64 a))) : Calls Try.prog 19 #[.int .i64 x, .pointer (some ⟨X, 0, none⟩)] w fun e w' => e = .returned (.bool (x == a)) ∧ w' = w := by
  have h1 := h.out
  go_enter Try.func19, Try.ntmps19
  go_wp2
  go_ret
  exact ⟨rfl, rfl⟩
def idxL (l : List Int) (a : Int) : Int := match l.idxOf? a with | some k => (k : Int) | none => -1
theorem idxL_at (l : List Int) (a : Int) (k : Nat) (h1 : l[k]? = some a) (h2 : ∀ j, j < k → l[j]? ≠ some a) : idxL l a = (k : Int) := by
  unfold idxL
  have : l.idxOf? a = some k := by
    rw [List.idxOf?, List.findIdx?_eq_some_iff_getElem]
    obtain ⟨hk, e⟩ := List.getElem?_eq_some_iff.1 h1
    refine ⟨hk, by simp [e], fun j hj => ?_⟩
    have := h2 j hj
    rw [List.getElem?_eq_getElem (by omega)] at this
    simpa using this
  rw [this]
theorem idxL_no (l : List Int) (a : Int) (h2 : ∀ j, j < l.length → l[j]? ≠ some a) : idxL l a = -1 := by
  unfold idxL
  have : l.idxOf? a = none := by
    rw [List.idxOf?, List.findIdx?_eq_none_iff]
    intro x hx
    obtain ⟨j, hj, rfl⟩ := List.mem_iff_getElem.1 hx
    have := h2 j hj
    rw [List.getElem?_eq_getElem hj] at this
    simpa using this
  rw [this]
set_option maxHeartbeats 4000000 in
/-- Where a number stands first; -1. -/
theorem index_calls (l : List Int) (g c X : Nat) (a : Int) (base : Nat) (ok : Nat → Prop) (w : World) (hl : l.length ≤ 100000) (hX : Aside0 (w.cell? ⟨X, 1, none⟩ = some (.int .i64 a))) (hR : Aside0 (Kd.R (Kd.int .i64) 3 w base ok (.slice (some ⟨g, 0, none⟩) l.length c) l)) :
    Calls Try.prog 22 #[.slice (some ⟨g, 0, none⟩) l.length c, .func (.func 19) #[] #[.pointer (some ⟨X, 0, none⟩)]] w fun e w' => e = .returned (.int .i64 (idxL l a)) ∧ w' = w := by
  go_enter Try.func22, Try.ntmps22
  go_wp2
  go_loopw [5, 8] (fun d i wr => ∃ k : Nat, k ≤ l.length ∧ i = .int .i64 k ∧ Aside0 (∀ j, j < k → l[j]? ≠ some a) ∧ wr = w) (fun _ i _ => l.length - (intOf i).toNat)
  case atStart => exact ⟨0, Nat.zero_le _, rfl, ⟨fun j hj => by omega⟩, rfl⟩
  case round =>
    obtain ⟨k, hk, rfl, HN, rfl⟩ := hrel
    by_cases hlt : k < l.length
    · obtain ⟨hx, hf⟩ := Kd.R_celln 0 hR.out (k : Int) (by omega) (by omega)
      rw [Int.toNat_natCast] at hx
      have hlk : l[k]? = some (rdOf (0 : Int) l (k : Int)) := by
        unfold rdOf
        rw [Int.toNat_natCast, List.getD_eq_getElem?_getD, List.getElem?_eq_getElem hlt]
        rfl
      have zk : decide ((k : Int) < (l.length : Int)) = true := decide_eq_true (by omega)
      have zk0 : decide ((0 : Int) ≤ (k : Int)) = true := decide_eq_true (by omega)
      generalize rdOf (0 : Int) l (k : Int) = x at *
      replace hlk := Lib.hid hlk
      have hcl := Lib.hid (clo_calls x a X _ hX)
      go_wp2_with fail
      refine hcl.out.mono ?_
      rintro e w2 ⟨rfl, rfl⟩
      clear hcl
      cases hb : (x == a)
      · go_wp2
        go_roundw
        case rel => exact ⟨k + 1, by omega, by go_num, ⟨fun j hj => by
          rcases Nat.lt_or_ge j k with h | h
          · exact HN.out j h
          · obtain rfl : j = k := by omega
            rw [hlk.out]
            intro e
            rw [Option.some.inj e] at hb
            simp at hb⟩, trivial⟩
        case measure => simp [intOf]; omega
      · go_wp2
        go_ret
        have hxa : x = a := by simpa using hb
        exact ⟨by rw [idxL_at l a k (by rw [hlk.out, hxa]) HN.out]; rfl, rfl⟩
    · obtain rfl : k = l.length := by omega
      go_wp2
      go_ret
      exact ⟨by rw [idxL_no l a HN.out]; rfl, rfl⟩
theorem idxL_cases (l : List Int) (a : Int) : (idxL l a = -1 ∧ ∀ x ∈ l, x ≠ a) ∨ ∃ k : Nat, k < l.length ∧ idxL l a = (k : Int) ∧ l.take k = (l.take (k + 1)).filter (· ≠ a) := by
  unfold idxL
  cases h : l.idxOf? a with
  | none =>
    rw [List.idxOf?, List.findIdx?_eq_none_iff] at h
    exact .inl ⟨rfl, fun x hx => by simpa using h x hx⟩
  | some k =>
    rw [List.idxOf?, List.findIdx?_eq_some_iff_getElem] at h
    obtain ⟨hk, he, hlt⟩ := h
    refine .inr ⟨k, hk, rfl, ?_⟩
    rw [List.take_succ_eq_append_getElem hk, List.filter_append]
    have e1 : l[k] = a := by simpa using he
    have e2 : (l.take k).filter (· ≠ a) = l.take k := by
      rw [List.filter_eq_self]
      intro x hx
      obtain ⟨j, hj, rfl⟩ := List.mem_iff_getElem.1 hx
      rw [List.length_take] at hj
      have := hlt j (by omega)
      rw [List.getElem_take]
      simpa using this
    rw [e2]
    simp [e1]
end Go.Proofs.Ytkamgpjpnjikgaa.PQ
