/- What is there behind all calls: the last ones. -/
import Derived.Test.YtilephiplfigpaaRefPut
namespace Go.Proofs.Ytilephiplfigpaa.PQ
open Go.RowKit Go.Proofs.YtilephiplfigpaaW.PrintWords Go.Proofs.YtilephiplfigpaaW.PrintLast Go.Proofs.YtilephiplfigpaaW.PrintMore
set_option linter.unusedVariables false
set_option linter.unusedSimpArgs false
def bOf (x : S30) : Int := blw x.f1 16
def stepD (room : Int) (d : List S61) (x : S30) : List S61 :=
  if x.f0 = 0 then (putO d room ⟨bOf x, x.f2⟩).1 else match isO d (bOf x) with | some s => firstO d ⟨bOf x, s⟩ | none => d
def dOf (room : Int) (l : List S30) : List S61 := l.foldl (stepD room) []
def stepP (b : Int) (z : Option ByteArray) (x : S30) : Option ByteArray := if x.f0 = 0 ∧ bOf x = b then some x.f2 else z
def lastP (l : List S30) (b : Int) : Option ByteArray := l.foldl (stepP b) none
def stepU (U : List Int) (x : S30) : List Int := if x.f0 = 0 ∧ ¬ bOf x ∈ U then U ++ [bOf x] else U
def uOf (l : List S30) : List Int := l.foldl stepU []
theorem dOf_snoc (room : Int) (l : List S30) (x : S30) : dOf room (l ++ [x]) = stepD room (dOf room l) x := by unfold dOf; rw [List.foldl_append]; rfl
theorem lastP_snoc (l : List S30) (x : S30) (b : Int) : lastP (l ++ [x]) b = stepP b (lastP l b) x := by unfold lastP; rw [List.foldl_append]; rfl
theorem uOf_snoc (l : List S30) (x : S30) : uOf (l ++ [x]) = stepU (uOf l) x := by unfold uOf; rw [List.foldl_append]; rfl
theorem outO_len_at {d : List S61} {b : Int} (hn : (d.map (·.f0)).Nodup) (h : ∃ x ∈ d, x.f0 = b) : (outO d b).length + 1 = d.length := by
  induction d with
  | nil => obtain ⟨x, hx, _⟩ := h; cases hx
  | cons y d ih =>
    rw [List.map_cons, List.nodup_cons] at hn
    by_cases e : y.f0 = b
    · have h2 : outO (y :: d) b = d := by
        unfold outO
        rw [List.filter_cons_of_neg (by simp [e]), List.filter_eq_self]
        intro x hx
        simp only [ne_eq, decide_not, Bool.not_eq_true', decide_eq_false_iff_not]
        intro h3
        exact hn.1 (by rw [e, ← h3]; exact List.mem_map_of_mem hx)
      rw [h2, List.length_cons]
    · have h2 : outO (y :: d) b = y :: outO d b := by unfold outO; rw [List.filter_cons_of_pos (by simp [e])]
      rw [h2, List.length_cons, List.length_cons, ih hn.2]
      obtain ⟨x, hx, hb⟩ := h
      rcases List.mem_cons.1 hx with rfl | hx
      · exact absurd hb e
      · exact ⟨x, hx, hb⟩
theorem mem_outO {d : List S61} {b : Int} {x : S61} : x ∈ outO d b ↔ x ∈ d ∧ x.f0 ≠ b := by
  unfold outO
  rw [List.mem_filter]
  simp
theorem nodup_first {d : List S61} {x : S61} (hn : (d.map (·.f0)).Nodup) : ((firstO d x).map (·.f0)).Nodup := by
  unfold firstO
  rw [List.map_cons, List.nodup_cons]
  refine ⟨fun h => ?_, ?_⟩
  · obtain ⟨y, hy, h2⟩ := List.mem_map.1 h
    exact (mem_outO.1 hy).2 h2
  · unfold outO
    exact hn.sublist (List.Sublist.map _ List.filter_sublist)
structure InvL (room : Int) (l : List S30) (d : List S61) : Prop where
  nd : (d.map (·.f0)).Nodup
  last : ∀ x ∈ d, lastP l x.f0 = some x.f1
  sub : ∀ x ∈ d, x.f0 ∈ uOf l
  cnt : ((d.length : Int) < room ∧ d.length = (uOf l).length ∧ ∀ b ∈ uOf l, ∃ x ∈ d, x.f0 = b) ∨ ((d.length : Int) = room ∧ room ≤ (uOf l).length)
theorem isO_some {d : List S61} {b : Int} {s : ByteArray} (h : isO d b = some s) : (⟨b, s⟩ : S61) ∈ d := by
  unfold isO at h
  obtain ⟨x, hx, rfl⟩ := Option.map_eq_some_iff.1 h
  have h1 := List.find?_some hx
  have h2 := List.mem_of_find?_eq_some hx
  have h3 : x.f0 = b := of_decide_eq_true h1
  rw [← h3]
  exact h2
theorem uOf_le (l : List S30) (x : S30) : (uOf l).length ≤ (uOf (l ++ [x])).length ∧ ∀ b ∈ uOf l, b ∈ uOf (l ++ [x]) := by
  rw [uOf_snoc]
  unfold stepU
  split
  · exact ⟨by rw [List.length_append]; omega, fun b hb => List.mem_append_left _ hb⟩
  · exact ⟨Nat.le_refl _, fun b hb => hb⟩
theorem invL_step {room : Int} (hroom : 1 ≤ room) {l : List S30} {d : List S61} (h : InvL room l d) (x : S30) : InvL room (l ++ [x]) (stepD room d x) := by
  obtain ⟨hu1, hu2⟩ := uOf_le l x
  unfold stepD
  by_cases h0 : x.f0 = 0
  · rw [if_pos h0]
    have hl : ∀ b, lastP (l ++ [x]) b = if bOf x = b then some x.f2 else lastP l b := fun b => by
      rw [lastP_snoc]
      unfold stepP
      by_cases e : bOf x = b <;> simp [h0, e]
    have hbU : bOf x ∈ uOf (l ++ [x]) := by
      rw [uOf_snoc]
      unfold stepU
      by_cases e : bOf x ∈ uOf l
      · rw [if_neg (fun h => h.2 e)]; exact e
      · rw [if_pos ⟨h0, e⟩]; simp
    have hfl : ∀ y ∈ firstO d ⟨bOf x, x.f2⟩, lastP (l ++ [x]) y.f0 = some y.f1 := by
      intro y hy
      rw [hl]
      rcases List.mem_cons.1 hy with rfl | hy
      · rw [if_pos rfl]
      · obtain ⟨h1, h2⟩ := mem_outO.1 hy
        rw [if_neg (fun e => h2 e.symm)]
        exact h.last y h1
    have hfs : ∀ y ∈ firstO d ⟨bOf x, x.f2⟩, y.f0 ∈ uOf (l ++ [x]) := by
      intro y hy
      rcases List.mem_cons.1 hy with rfl | hy
      · exact hbU
      · exact hu2 _ (h.sub y (mem_outO.1 hy).1)
    by_cases hin : ∃ y ∈ d, y.f0 = bOf x
    · have hlen : (firstO d ⟨bOf x, x.f2⟩).length = d.length := by unfold firstO; rw [List.length_cons]; exact outO_len_at h.nd hin
      have hle : (d.length : Int) ≤ room := by rcases h.cnt with ⟨h1, _⟩ | ⟨h1, _⟩ <;> omega
      have hp : (putO d room ⟨bOf x, x.f2⟩).1 = firstO d ⟨bOf x, x.f2⟩ := by unfold putO; rw [if_pos (by rw [hlen]; exact hle)]
      have hU : uOf (l ++ [x]) = uOf l := by
        rw [uOf_snoc]
        unfold stepU
        obtain ⟨y, hy, hyb⟩ := hin
        rw [if_neg (fun hh => hh.2 (hyb ▸ h.sub y hy))]
      rw [hp]
      refine ⟨nodup_first h.nd, hfl, hfs, ?_⟩
      rw [hlen, hU]
      rcases h.cnt with ⟨h1, h2, h3⟩ | h1
      · refine .inl ⟨h1, h2, fun b hb => ?_⟩
        obtain ⟨y, hy, hyb⟩ := h3 b hb
        by_cases e : b = bOf x
        · exact ⟨⟨bOf x, x.f2⟩, List.mem_cons_self, e.symm⟩
        · exact ⟨y, List.mem_cons_of_mem _ (mem_outO.2 ⟨hy, by rw [hyb]; exact e⟩), hyb⟩
      · exact .inr h1
    · have hout : outO d (bOf x) = d := by
        unfold outO
        rw [List.filter_eq_self]
        intro y hy
        simp only [ne_eq, decide_not, Bool.not_eq_true', decide_eq_false_iff_not]
        exact fun e => hin ⟨y, hy, e⟩
      have hlen : (firstO d ⟨bOf x, x.f2⟩).length = d.length + 1 := by unfold firstO; rw [List.length_cons]; show (outO d (bOf x)).length + 1 = _; rw [hout]
      rcases h.cnt with ⟨h1, h2, h3⟩ | ⟨h1, h2⟩
      · have hp : (putO d room ⟨bOf x, x.f2⟩).1 = firstO d ⟨bOf x, x.f2⟩ := by unfold putO; rw [if_pos (by rw [hlen]; omega)]
        have hnU : ¬ bOf x ∈ uOf l := fun e => hin (h3 _ e)
        have hU : uOf (l ++ [x]) = uOf l ++ [bOf x] := by rw [uOf_snoc]; unfold stepU; rw [if_pos ⟨h0, hnU⟩]
        rw [hp]
        refine ⟨nodup_first h.nd, hfl, hfs, ?_⟩
        rw [hlen, hU, List.length_append, List.length_singleton]
        by_cases hf : ((d.length + 1 : Nat) : Int) < room
        · refine .inl ⟨hf, by omega, fun b hb => ?_⟩
          rcases List.mem_append.1 hb with hb | hb
          · obtain ⟨y, hy, hyb⟩ := h3 b hb
            exact ⟨y, List.mem_cons_of_mem _ (by show y ∈ outO d (bOf x); rw [hout]; exact hy), hyb⟩
          · exact ⟨⟨bOf x, x.f2⟩, List.mem_cons_self, (List.mem_singleton.1 hb).symm⟩
        · exact .inr ⟨by omega, by omega⟩
      · have hp : (putO d room ⟨bOf x, x.f2⟩).1 = (firstO d ⟨bOf x, x.f2⟩).dropLast := by unfold putO; rw [if_neg (by rw [hlen]; omega)]
        rw [hp]
        refine ⟨?_, fun y hy => hfl y ((List.dropLast_sublist _).subset hy), fun y hy => hfs y ((List.dropLast_sublist _).subset hy), .inr ⟨?_, by omega⟩⟩
        · exact (nodup_first h.nd).sublist (List.Sublist.map _ (List.dropLast_sublist _))
        · rw [List.length_dropLast, hlen]; omega
  · rw [if_neg h0]
    have hl : ∀ b, lastP (l ++ [x]) b = lastP l b := fun b => by rw [lastP_snoc]; unfold stepP; rw [if_neg (fun hh => h0 hh.1)]
    have hU : uOf (l ++ [x]) = uOf l := by rw [uOf_snoc]; unfold stepU; rw [if_neg (fun hh => h0 hh.1)]
    cases hi : isO d (bOf x) with
    | none =>
      refine ⟨h.nd, fun y hy => by rw [hl]; exact h.last y hy, fun y hy => by rw [hU]; exact h.sub y hy, ?_⟩
      rw [hU]; exact h.cnt
    | some s =>
      have hm := isO_some hi
      have hlen : (firstO d ⟨bOf x, s⟩).length = d.length := by unfold firstO; rw [List.length_cons]; exact outO_len_at h.nd ⟨_, hm, rfl⟩
      have hmem : ∀ y, y ∈ firstO d ⟨bOf x, s⟩ → y ∈ d := by
        intro y hy
        rcases List.mem_cons.1 hy with rfl | hy
        · exact hm
        · exact (mem_outO.1 hy).1
      refine ⟨nodup_first h.nd, fun y hy => by rw [hl]; exact h.last y (hmem y hy), fun y hy => by rw [hU]; exact h.sub y (hmem y hy), ?_⟩
      rw [hlen, hU]
      rcases h.cnt with ⟨h1, h2, h3⟩ | h1
      · refine .inl ⟨h1, h2, fun b hb => ?_⟩
        obtain ⟨y, hy, hyb⟩ := h3 b hb
        by_cases e : b = bOf x
        · exact ⟨⟨bOf x, s⟩, List.mem_cons_self, e.symm⟩
        · exact ⟨y, List.mem_cons_of_mem _ (mem_outO.2 ⟨hy, by rw [hyb]; exact e⟩), hyb⟩
      · exact .inr h1
theorem invL_all {room : Int} (hroom : 1 ≤ room) (l : List S30) (k : Nat) (hk : k ≤ l.length) : InvL room (l.take k) (dOf room (l.take k)) := by
  induction k with
  | zero => exact ⟨List.nodup_nil, (fun x hx => absurd hx (by simp [dOf])), (fun x hx => absurd hx (by simp [dOf])), .inl ⟨by simp [dOf]; omega, rfl, (fun b hb => absurd hb (by simp [uOf]))⟩⟩
  | succ k ih =>
    rw [List.take_succ_eq_append_getElem (by omega), dOf_snoc]
    exact invL_step hroom (ih (by omega)) _
/-- As many as are there: the different ones, or the room. -/
theorem invL_min {room : Int} {l : List S30} {d : List S61} (h : InvL room l d) : (d.length : Int) = min ((uOf l).length : Int) room := by
  rw [Int.min_def]
  rcases h.cnt with ⟨h1, h2, _⟩ | ⟨h1, h2⟩ <;> split <;> omega
end Go.Proofs.Ytilephiplfigpaa.PQ
