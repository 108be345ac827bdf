/- What is pending behind all notes. -/
import Derived.Test.YtkamgpjpnjikgaaPure
namespace Go.Proofs.Ytkamgpjpnjikgaa.PQ
open Go.RowKit Go.Proofs.YtkamgpjpnjikgaaW.PrintWords Go.Proofs.YtkamgpjpnjikgaaW.PrintLast Go.Proofs.YtkamgpjpnjikgaaW.PrintMore
set_option linter.unusedVariables false
set_option linter.unusedSimpArgs false
def goodR (r : S27) : Bool := decide (r.f0 = 1 ∨ r.f0 = 2)
def notesL (l : List S27) : List S27 := l.foldl noteL []
def stepL (a : Int) (z x : S27) : S27 := if x.f1 = a ∧ goodR x = true then x else z
def lastL (l : List S27) (a : Int) : S27 := l.foldl (stepL a) z27
theorem notesL_step (l : List S27) (k : Nat) (hk : k < l.length) : notesL (l.take (k + 1)) = noteL (notesL (l.take k)) l[k] := by
  unfold notesL
  rw [List.take_succ_eq_append_getElem hk, List.foldl_append]
  rfl
theorem lastL_step (l : List S27) (a : Int) (k : Nat) (hk : k < l.length) : lastL (l.take (k + 1)) a = stepL a (lastL (l.take k) a) l[k] := by
  unfold lastL
  rw [List.take_succ_eq_append_getElem hk, List.foldl_append]
  rfl
theorem notesL_len (l : List S27) : (notesL l).length ≤ l.length := by
  unfold notesL
  have : ∀ (l L : List S27), (l.foldl noteL L).length ≤ L.length + l.length := by
    intro l
    induction l with
    | nil => intro L; simp
    | cons x l ih =>
      intro L
      have h1 := ih (noteL L x)
      have h2 := noteL_len L x
      rw [List.foldl_cons, List.length_cons]
      omega
  have := this l []
  simpa using this
theorem notesL_facts (l : List S27) : ((notesL l).map (·.f1)).Nodup ∧ (∀ r ∈ notesL l, lastL l r.f1 = r) ∧ (∀ x ∈ l, goodR x = true → hasL (notesL l) x.f1 = true) := by
  have key : ∀ k, k ≤ l.length → ((notesL (l.take k)).map (·.f1)).Nodup ∧ (∀ r ∈ notesL (l.take k), lastL (l.take k) r.f1 = r) ∧ (∀ x ∈ l.take k, goodR x = true → hasL (notesL (l.take k)) x.f1 = true) := by
    intro k
    induction k with
    | zero => intro _; exact ⟨by simp [notesL], by simp [notesL], by simp⟩
    | succ k ih =>
      intro hk
      obtain ⟨h1, h2, h3⟩ := ih (by omega)
      rw [notesL_step l k hk]
      generalize hL : notesL (l.take k) = L at *
      generalize hx : l[k] = x at *
      have hls : ∀ a, lastL (l.take (k + 1)) a = stepL a (lastL (l.take k) a) x := fun a => by rw [lastL_step l a k hk, hx]
      have hmem : ∀ y, y ∈ l.take (k + 1) → y ∈ l.take k ∨ y = x := by
        intro y hy
        rw [List.take_succ_eq_append_getElem hk, hx] at hy
        rcases List.mem_append.1 hy with h | h
        · exact .inl h
        · exact .inr (List.mem_singleton.1 h)
      by_cases hg : x.f0 = 1 ∨ x.f0 = 2
      · have hgb : goodR x = true := decide_eq_true hg
        have hn : noteL L x = outL L x.f1 ++ [x] := by unfold noteL; rw [if_pos hg]
        rw [hn]
        refine ⟨nodup_note h1, ?_, ?_⟩
        · intro r hr
          rcases List.mem_append.1 hr with hr | hr
          · have hr2 := List.mem_filter.1 hr
            have hne : ¬ x.f1 = r.f1 := fun e => by have := hr2.2; simp [e] at this
            rw [hls]
            unfold stepL
            rw [if_neg (fun h => hne h.1)]
            exact h2 r hr2.1
          · rw [List.mem_singleton.1 hr, hls]
            unfold stepL
            rw [if_pos ⟨rfl, hgb⟩]
        · intro y hy hyg
          unfold hasL
          rw [List.any_append]
          by_cases e : y.f1 = x.f1
          · simp [e]
          · rcases hmem y hy with h | h
            · have := h3 y h hyg
              unfold hasL at this
              obtain ⟨r, hr, he⟩ := List.any_eq_true.1 this
              have he' : r.f1 = y.f1 := of_decide_eq_true he
              have : r ∈ outL L x.f1 := List.mem_filter.2 ⟨hr, by rw [he']; simpa using e⟩
              rw [Bool.or_eq_true]
              exact .inl (List.any_eq_true.2 ⟨r, this, he⟩)
            · exact absurd (by rw [h]) e
      · have hgb : goodR x = false := decide_eq_false hg
        have hn : noteL L x = L := by unfold noteL; rw [if_neg hg]
        rw [hn]
        refine ⟨h1, ?_, ?_⟩
        · intro r hr
          rw [hls]
          unfold stepL
          rw [if_neg (fun h => by rw [hgb] at h; cases h.2)]
          exact h2 r hr
        · intro y hy hyg
          rcases hmem y hy with h | h
          · exact h3 y h hyg
          · rw [h, hgb] at hyg; cases hyg
  have := key l.length (Nat.le_refl _)
  rwa [List.take_length] at this
theorem hasL_step (L : List S27) (a : Int) (k : Nat) (hk : k < L.length) : hasL (L.take (k + 1)) a = (hasL (L.take k) a || decide ((L[k]).f1 = a)) := by
  unfold hasL
  rw [List.take_succ_eq_append_getElem hk, List.any_append]
  simp
theorem nodup_ne {L : List S27} (h : (L.map (·.f1)).Nodup) {i j : Nat} (hi : i < L.length) (hj : j < i) : ¬ (L[j]'(by omega)).f1 = (L[i]).f1 := by
  intro e
  have h2 := List.pairwise_iff_getElem.1 h j i (by rw [List.length_map]; omega) (by rw [List.length_map]; omega) hj
  rw [List.getElem_map, List.getElem_map] at h2
  exact h2 e
theorem notesL_mem (l : List S27) : ∀ r ∈ notesL l, r ∈ l := by
  have key : ∀ (l L : List S27), ∀ r ∈ l.foldl noteL L, r ∈ L ∨ r ∈ l := by
    intro l
    induction l with
    | nil => intro L r h; exact .inl h
    | cons x l ih =>
      intro L r h
      rw [List.foldl_cons] at h
      rcases ih _ r h with h | h
      · unfold noteL at h
        split at h
        · rcases List.mem_append.1 h with h | h
          · exact .inl (List.mem_filter.1 h).1
          · exact .inr (by rw [List.mem_singleton.1 h]; exact List.mem_cons_self)
        · exact .inl h
      · exact .inr (List.mem_cons_of_mem _ h)
  intro r hr
  rcases key l [] r hr with h | h
  · cases h
  · exact h
end Go.Proofs.Ytkamgpjpnjikgaa.PQ
