/- A store is asked, and written, walked. -/
import Derived.Test.YtmpfadiehakcgaaSto
namespace Go.Proofs.Ytmpfadiehakcgaa.PQ
open Go.RowKit Go.Proofs.YtmpfadiehakcgaaW.PrintWords Go.Proofs.YtmpfadiehakcgaaW.PrintLast Go.Proofs.YtmpfadiehakcgaaW.PrintMore
set_option linter.unusedVariables false
set_option linter.unusedSimpArgs false
section
variable {lo up : Nat} {g : G6} {n cx : Nat} {d : Nat → ByteArray} {m : Nat → ByteArray → Bool} {P B cap : Nat} {mb : Nat → Nat} {w w' : World}
def inR (n : Nat) (a : Int) : Bool := decide (0 ≤ a ∧ a < n)
set_option maxHeartbeats 2000000 in
theorem has_calls (H : Aside0 (SAt lo up g n cx d m P B cap mb w)) (a : Int) :
    Calls Try.prog 30 #[.pointer (some ⟨P, 0, none⟩), .int .i64 a] w fun e w' => e = .returned (.bool (inR n a)) ∧ w' = w := by
  obtain ⟨_, c6⟩ := H.out.cells
  go_enter Try.func30, Try.ntmps30
  by_cases h0 : 0 ≤ a
  · have z0 : decide (a ≥ 0) = true := decide_eq_true h0
    by_cases h1 : a < n
    · have z1 : decide (a < (n : Int)) = true := decide_eq_true h1
      rw [show inR n a = true from decide_eq_true ⟨h0, h1⟩]
      go_wp2
      go_ret
      exact ⟨rfl, rfl⟩
    · have z1 : decide (a < (n : Int)) = false := decide_eq_false h1
      rw [show inR n a = false from decide_eq_false (fun h => h1 h.2)]
      go_wp2
      go_ret
      exact ⟨rfl, rfl⟩
  · have z0 : decide (a ≥ 0) = false := decide_eq_false h0
    rw [show inR n a = false from decide_eq_false (fun h => h0 h.1)]
    go_wp2
    go_ret
    exact ⟨rfl, rfl⟩
set_option maxHeartbeats 2000000 in
theorem read_out (H : Aside0 (SAt lo up g n cx d m P B cap mb w)) (a : Int) (ha : inR n a = false) :
    Calls Try.prog 18 #[.pointer (some ⟨P, 0, none⟩), .int .i64 a] w fun e w' => e = .returned (.tuple #[.string ByteArray.empty, .int .i64 1]) ∧ w' = w := by
  have q := Lib.hid (has_calls H a)
  rw [ha] at q
  go_enter Try.func18, Try.ntmps18
  go_wp2_with fail
  refine q.out.mono ?_
  rintro e w1 ⟨rfl, rfl⟩
  go_wp2
  go_ret2
  exact ⟨rfl, rfl⟩
set_option maxHeartbeats 2000000 in
theorem read_at (H : Aside0 (SAt lo up g n cx d m P B cap mb w)) (i : Nat) (hi : i < n) :
    Calls Try.prog 18 #[.pointer (some ⟨P, 0, none⟩), .int .i64 (i : Int)] w fun e w' => e = .returned (.tuple #[.string (d i), .int .i64 0]) ∧ w' = w := by
  have q := Lib.hid (has_calls H i)
  have ha : inR n (i : Int) = true := decide_eq_true ⟨by omega, by omega⟩
  rw [ha] at q
  obtain ⟨_, c6⟩ := H.out.cells
  obtain ⟨d0, _, _⟩ := H.out.cell hi
  clear ha
  go_enter Try.func18, Try.ntmps18
  go_wp2_with fail
  refine q.out.mono ?_
  rintro e w1 ⟨rfl, rfl⟩
  go_wp2
  go_ret2
  exact ⟨rfl, rfl⟩
set_option maxHeartbeats 2000000 in
theorem may_out (H : Aside0 (SAt lo up g n cx d m P B cap mb w)) (a : Int) (ha : inR n a = false) (s : ByteArray) :
    Calls Try.prog 19 #[.pointer (some ⟨P, 0, none⟩), .int .i64 a, .string s] w fun e w' => e = .returned (.bool false) ∧ w' = w := by
  have q := Lib.hid (has_calls H a)
  rw [ha] at q
  go_enter Try.func19, Try.ntmps19
  go_wp2_with fail
  refine q.out.mono ?_
  rintro e w1 ⟨rfl, rfl⟩
  go_wp2
  go_ret
  exact ⟨rfl, rfl⟩
set_option maxHeartbeats 2000000 in
theorem may_at (H : Aside0 (SAt lo up g n cx d m P B cap mb w)) (i : Nat) (hi : i < n) (s : ByteArray) (hs : s.size ≤ maxLen) :
    Calls Try.prog 19 #[.pointer (some ⟨P, 0, none⟩), .int .i64 (i : Int), .string s] w fun e w' => e = .returned (.bool (m i s)) ∧ w' = w := by
  have q := Lib.hid (has_calls H i)
  have ha : inR n (i : Int) = true := decide_eq_true ⟨by omega, by omega⟩
  rw [ha] at q
  obtain ⟨_, c6⟩ := H.out.cells
  obtain ⟨_, d1, _⟩ := H.out.cell hi
  have hl := H.out.look hi s hs
  clear ha hs
  go_enter Try.func19, Try.ntmps19
  cases hm : m i s with
  | true =>
    rw [hm, if_pos rfl] at hl
    go_wp2_with fail
    refine q.out.mono ?_
    rintro e w1 ⟨rfl, rfl⟩
    go_wp2
    go_ret
    exact ⟨rfl, rfl⟩
  | false =>
    rw [hm, if_neg (by decide)] at hl
    go_wp2_with fail
    refine q.out.mono ?_
    rintro e w1 ⟨rfl, rfl⟩
    go_wp2
    go_ret
    exact ⟨rfl, rfl⟩
/-- What Issue answers, if it is refused. -/
def issC (n : Nat) (g : G6) (a : Int) (s : ByteArray) : Int := if inR n a = true then (if (s.size : Int) = g.f2 then 0 else 2) else 1
set_option maxHeartbeats 2000000 in
theorem issue_no (H : Aside0 (SAt lo up g n cx d m P B cap mb w)) (a : Int) (s : ByteArray) (h : issC n g a s ≠ 0) :
    Calls Try.prog 12 #[.pointer (some ⟨P, 0, none⟩), .int .i64 a, .string s] w fun e w' => e = .returned (.int .i64 (issC n g a s)) ∧ w' = w := by
  have q := Lib.hid (has_calls H a)
  obtain ⟨c2, _⟩ := H.out.cells
  unfold issC at h ⊢
  go_enter Try.func12, Try.ntmps12
  cases ha : inR n a with
  | false =>
    rw [ha] at q
    clear h
    go_wp2_with fail
    refine q.out.mono ?_
    rintro e w1 ⟨rfl, rfl⟩
    go_wp2
    go_ret
    exact ⟨rfl, rfl⟩
  | true =>
    rw [ha] at q h
    have h2 : ¬ (s.size : Int) = g.f2 := fun e => h (by rw [if_pos rfl, if_pos e])
    have z : ((s.size : Int) != g.f2) = true := by rw [bne_iff_ne]; exact h2
    clear h
    go_wp2_with fail
    refine q.out.mono ?_
    rintro e w1 ⟨rfl, rfl⟩
    go_wp2
    go_ret
    exact ⟨rfl, rfl⟩
set_option maxHeartbeats 2000000 in
theorem issue_at (H : Aside0 (SAt lo up g n cx d m P B cap mb w)) (i : Nat) (hi : i < n) (s : ByteArray) (hs : (s.size : Int) = g.f2) (hm : s.size ≤ maxLen) (hcx : cx < 1000000) :
    Calls Try.prog 12 #[.pointer (some ⟨P, 0, none⟩), .int .i64 (i : Int), .string s] w fun e w' => e = .returned (.int .i64 0) ∧ Aside0 (SAt lo up g n (cx + 1) d (updM m i (updB (m i) s)) P B cap mb w' ∧ Ch (Blk lo up) w w') := by
  have q := Lib.hid (has_calls H i)
  have ha : inR n (i : Int) = true := decide_eq_true ⟨by omega, by omega⟩
  rw [ha] at q
  obtain ⟨c2, c6⟩ := H.out.cells
  obtain ⟨_, d1, _⟩ := H.out.cell hi
  obtain ⟨w9, hrun, hA, hC⟩ := H.out.issue hi hcx s hm
  have F := Aside0.mk (And.intro hA hC)
  have z : ((s.size : Int) != g.f2) = false := by rw [bne_eq_false_iff_eq]; exact hs
  clear hA hC hs hm ha
  go_enter Try.func12, Try.ntmps12
  go_wp2_with fail
  refine q.out.mono ?_
  rintro e w1 ⟨rfl, rfl⟩
  go_wp2
  go_ret
  exact ⟨rfl, F⟩
set_option maxHeartbeats 2000000 in
theorem write_no (H : Aside0 (SAt lo up g n cx d m P B cap mb w)) (a : Int) (s : ByteArray) (h : issC n g a s ≠ 0) :
    Calls Try.prog 8 #[.pointer (some ⟨P, 0, none⟩), .int .i64 a, .string s] w fun e w' => e = .returned (.int .i64 (issC n g a s)) ∧ w' = w := by
  have q := Lib.hid (issue_no H a s h)
  have z : (issC n g a s != 0) = true := by rw [bne_iff_ne]; exact h
  clear h
  generalize issC n g a s = r at *
  go_enter Try.func8, Try.ntmps8
  go_wp2_with fail
  refine q.out.mono ?_
  rintro e w1 ⟨rfl, rfl⟩
  go_wp2
  go_ret
  exact ⟨rfl, rfl⟩
set_option maxHeartbeats 2000000 in
theorem write_at (H : Aside0 (SAt lo up g n cx d m P B cap mb w)) (i : Nat) (hi : i < n) (s : ByteArray) (hs : (s.size : Int) = g.f2) (hm : s.size ≤ maxLen) (hcx : cx < 1000000) :
    Calls Try.prog 8 #[.pointer (some ⟨P, 0, none⟩), .int .i64 (i : Int), .string s] w fun e w' => e = .returned (.int .i64 0) ∧ Aside0 (SAt lo up g n (cx + 1) (updD d i s) (updM m i (updB (m i) s)) P B cap mb w' ∧ Ch (Blk lo up) w w') := by
  have q := Lib.hid (issue_at H i hi s hs hm hcx)
  clear H hs hm
  go_enter Try.func8, Try.ntmps8
  go_wp2_with fail
  refine q.out.mono ?_
  rintro e w1 ⟨rfl, hA⟩
  obtain ⟨_, c6⟩ := hA.out.1.cells
  obtain ⟨_, _, f0⟩ := hA.out.1.cell hi
  have F := Aside0.mk (And.intro (hA.out.1.setD hi s) (hA.out.2.trans (Ch.set (S := Blk lo up) w1 ⟨B, i * 2, none⟩ (.string s) hA.out.1.rB)))
  clear hA q
  go_wp2
  go_ret
  exact ⟨rfl, F⟩
end
end Go.Proofs.Ytmpfadiehakcgaa.PQ
