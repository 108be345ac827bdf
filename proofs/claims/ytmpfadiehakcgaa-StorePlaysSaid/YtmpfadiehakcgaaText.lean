/- Noughts, and a text of one letter, walked. -/
import Derived.Test.YtmpfadiehakcgaaFlush
import Derived.Test.YtmpfadiehakcgaaShelf
namespace Go.Proofs.Ytmpfadiehakcgaa.PQ
open Go.RowKit Go.Proofs.YtmpfadiehakcgaaW.PrintWords Go.Proofs.YtmpfadiehakcgaaW.PrintLast Go.Proofs.YtmpfadiehakcgaaW.PrintMore
set_option linter.unusedVariables false
set_option linter.unusedSimpArgs false
def repN (x : Int) (c : Nat) : ByteArray := ⟨(List.replicate c (UInt8.ofNat x.toNat)).toArray⟩
theorem repN_size (x : Int) (c : Nat) : (repN x c).size = c := by simp [repN, ByteArray.size]
theorem repeat_calls (x : Int) (c : Nat) (hc : c ≤ 1000000) (w : World) :
    Calls Try.prog 31 #[.string (strOfNums [x]), .int .i64 (c : Int)] w fun e w' => e = .returned (.string (repN x c)) ∧ Below w.heap.size w w' := by
  have h1 : (strOfNums [x]).size = 1 := by rw [strOfNums_size]; rfl
  have h := Try.strings_Repeat (strOfNums [x]) c w (by omega) (by rw [h1]; omega)
  have h2 : (⟨(Lib.repeatL (strOfNums [x]).data.toList c).toArray⟩ : ByteArray) = repN x c := by
    rw [strOfNums_data, show ([x].map fun n => UInt8.ofNat n.toNat) = List.replicate 1 (UInt8.ofNat x.toNat) from rfl, Lib.repeatL_replicate, Nat.mul_one]
    rfl
  rw [h2] at h
  exact h
set_option maxHeartbeats 2000000 in
theorem text_calls (x : Int) (w : World) :
    Calls Try.prog 22 #[.int .u8 x] w fun e w' => e = .returned (.string (repN x 64)) ∧ Below w.heap.size w w' := by
  have hb := heap_alloc_new w (.cells #[.int .u8 x] 5)
  have hr : ReadsInt (w.alloc (.cells #[.int .u8 x] 5)) .u8 (some ⟨w.heap.size, 0, none⟩) 1 [x] := by
    refine ⟨rfl, by decide, fun _ => ⟨_, rfl, fun j hj => ?_⟩⟩
    obtain rfl : j = 0 := by omega
    exact blk_cell hb 0
  have hc := string_of_reads (P := Try.prog) (src := 66) (dst := 9) (c := 1) Try.underlying66 Try.underlying5 u9 hr
  have q := Lib.hid (repeat_calls x 64 (by decide) (w.alloc (.cells #[.int .u8 x] 5)))
  have hB := (Below.refl w.heap.size w).alloc (Nat.le_refl _) (.cells #[.int .u8 x] 5)
  replace hB := Aside0.mk hB
  clear hb hr
  go_enter Try.func22, Try.ntmps22
  go_wp2_with fail
  refine q.out.mono ?_
  rintro e w1 ⟨rfl, hb1⟩
  go_wp2
  go_ret
  exact ⟨rfl, hB.out.trans (hb1.mono hB.out.size)⟩
section
variable {lo up : Nat} {g : G6} {n cx : Nat} {d : Nat → ByteArray} {m : Nat → ByteArray → Bool} {P B cap : Nat} {mb : Nat → Nat} {w w' : World}
set_option maxHeartbeats 2000000 in
/-- Noughts, for a store whose first block stands already. -/
theorem noughts_calls (c2 : Aside0 (w.cell? ⟨P, 2, none⟩ = some (.int .i64 g.f2))) (hg : 0 ≤ g.f2 ∧ g.f2 ≤ 1000) :
    Calls Try.prog 25 #[.pointer (some ⟨P, 0, none⟩)] w fun e w' => e = .returned (.string (repN 0 g.f2.toNat)) ∧ Below w.heap.size w w' := by
  have q := Lib.hid (repeat_calls 0 g.f2.toNat (by omega) w)
  have hz : ((g.f2.toNat : Nat) : Int) = g.f2 := Int.toNat_of_nonneg hg.1
  rw [hz] at q
  have c2' := c2.out
  generalize g.f2.toNat = c at *
  generalize g.f2 = b at *
  clear hg hz
  go_enter Try.func25, Try.ntmps25
  go_wp2_with fail
  refine q.out.mono ?_
  rintro e w1 ⟨rfl, hb1⟩
  go_wp2
  go_ret
  exact ⟨rfl, hb1⟩
set_option maxHeartbeats 2000000 in
theorem trim_no (H : Aside0 (SAt lo up g n cx d m P B cap mb w)) (hg : 0 ≤ g.f2 ∧ g.f2 ≤ 1000) (a : Int) (ha : inR n a = false) :
    Calls Try.prog 10 #[.pointer (some ⟨P, 0, none⟩), .int .i64 a] w fun e w' => e = .returned (.int .i64 1) ∧ Below w.heap.size w w' := by
  have q := Lib.hid (noughts_calls ⟨H.out.cells.1⟩ hg)
  go_enter Try.func10, Try.ntmps10
  go_wp2_with fail
  refine q.out.mono ?_
  rintro e w1 ⟨rfl, hb1⟩
  have h1 : issC n g a (repN 0 g.f2.toNat) = 1 := by unfold issC; rw [ha]; rfl
  have q8 := Lib.hid (write_no (Aside0.mk (H.out.below hb1)) a (repN 0 g.f2.toNat) (by rw [h1]; decide))
  rw [h1] at q8
  clear q h1 ha
  generalize repN 0 g.f2.toNat = s at *
  go_wp2_with fail
  refine q8.out.mono ?_
  rintro e w2 ⟨rfl, rfl⟩
  go_wp2
  go_ret
  exact ⟨rfl, hb1⟩
set_option maxHeartbeats 2000000 in
theorem trim_at (H : Aside0 (SAt lo up g n cx d m P B cap mb w)) (hg : 0 ≤ g.f2 ∧ g.f2 ≤ 1000) (i : Nat) (hi : i < n) (hcx : cx < 1000000) :
    Calls Try.prog 10 #[.pointer (some ⟨P, 0, none⟩), .int .i64 (i : Int)] w fun e w' => e = .returned (.int .i64 0) ∧ Aside0 (SAt lo up g n (cx + 1) (updD d i (repN 0 g.f2.toNat)) (updM m i (updB (m i) (repN 0 g.f2.toNat))) P B cap mb w' ∧ Ch (Blk lo up) w w') := by
  have q := Lib.hid (noughts_calls ⟨H.out.cells.1⟩ hg)
  have hs1 := Lib.hid (show ((repN 0 g.f2.toNat).size : Int) = g.f2 ∧ (repN 0 g.f2.toNat).size ≤ maxLen from ⟨by rw [repN_size]; exact Int.toNat_of_nonneg hg.1, by rw [repN_size]; unfold maxLen; omega⟩)
  generalize repN 0 g.f2.toNat = s at *
  clear hg
  go_enter Try.func10, Try.ntmps10
  go_wp2_with fail
  refine q.out.mono ?_
  rintro e w1 ⟨rfl, hb1⟩
  have q8 := Lib.hid (write_at (Aside0.mk (H.out.below hb1)) i hi s hs1.out.1 hs1.out.2 hcx)
  clear q
  go_wp2_with fail
  refine q8.out.mono ?_
  rintro e w2 ⟨rfl, hA⟩
  have F := Aside0.mk (And.intro hA.out.1 ((Ch.of_below hb1).trans hA.out.2))
  clear hA hb1
  go_wp2
  go_ret
  exact ⟨rfl, F⟩
end
end Go.Proofs.Ytmpfadiehakcgaa.PQ
