/- The example, walked. -/
import Derived.Test.YtmpfadiehakcgaaNew
namespace Go.Proofs.Ytmpfadiehakcgaa.PQ
open Go.RowKit Go.Proofs.YtmpfadiehakcgaaW.PrintWords Go.Proofs.YtmpfadiehakcgaaW.PrintLast Go.Proofs.YtmpfadiehakcgaaW.PrintMore
set_option linter.unusedVariables false
set_option linter.unusedSimpArgs false
theorem repN_head (x : Int) (c : Nat) : (repN x (c + 1)).data.toList.head? = some (UInt8.ofNat x.toNat) := by
  unfold repN
  rw [List.replicate_succ]
  rfl
theorem repN_ne {x y : Int} (hx : 0 ≤ x ∧ x ≤ 255) (hy : 0 ≤ y ∧ y ≤ 255) (h : x ≠ y) : repN x 64 ≠ repN y 64 := by
  intro e
  have h1 := repN_head x 63
  rw [e, repN_head y 63] at h1
  have h2 := congrArg (fun o => o.map UInt8.toNat) h1
  simp at h2
  omega
def geo0 : G6 := ⟨8, 6, 64, 4, 0, 4⟩
theorem geo0_check : geom_Check.f 20 geo0.f0 geo0.f1 geo0.f2 geo0.f3 geo0.f4 geo0.f5 = some 0 := by kernel_rfl
theorem geo_calls (w : World) : Calls Try.prog 21 #[] w fun e w' => e = .returned (encG geo0) ∧ Below w.heap.size w w' := by
  have hu := Try.underlying23
  go_enter Try.func21, Try.ntmps21
  go_wp2
  refine bodyPost_ret (v := encG geo0) ?_ rfl ?_
  · exact results_single (r := .cell 0 23) rfl (.cell w.heap.size 23 #[.int .i64 8, .int .i64 6, .int .i64 64, .int .i64 4, .int .i64 0, .int .i64 4] (0, 0) _ rfl (heap_alloc_new w _) hu rfl (by kernel_rfl) .nil)
  exact ⟨rfl, (Below.refl _ _).alloc (Nat.le_refl _) _⟩
theorem new0_calls (w : World) : Calls Try.prog 5 #[encG geo0] w fun e w' => ∃ P B cap mb, e = .returned (.tuple #[.pointer (some ⟨P, 0, none⟩), .int .i64 0]) ∧ Below w.heap.size w w' ∧ Aside0 (SAt w.heap.size w'.heap.size geo0 4 1 (fun _ => repN 0 64) (fun _ => onlyS (repN 0 64)) P B cap mb w') :=
  new_ok geo0 20 geo0_check (by decide) (by decide) w
section
variable {lo up : Nat} {g : G6} {n cx : Nat} {d : Nat → ByteArray} {m : Nat → ByteArray → Bool} {P B cap : Nat} {mb : Nat → Nat} {w w' : World}
/-- A text of one letter asked of a sector. -/
theorem may_text (H : Aside0 (SAt lo up g n cx d m P B cap mb w)) (i : Nat) (hi : i < n) (s : ByteArray) (hs : s.size ≤ maxLen) (b : Bool) (hb : m i s = b) :
    Calls Try.prog 19 #[.pointer (some ⟨P, 0, none⟩), .int .i64 (i : Int), .string s] w fun e w' => e = .returned (.bool b) ∧ w' = w := hb ▸ may_at H i hi s hs
theorem flM_at {k j : Nat} (h : j < k) : flM d m k j = onlyS (d j) := by unfold flM; rw [if_pos h]
theorem updM_at {i : Nat} {s : ByteArray → Bool} : updM m i s i = s := by unfold updM; rw [if_pos rfl]
theorem updM_ne {i j : Nat} {s : ByteArray → Bool} (h : j ≠ i) : updM m i s j = m j := by unfold updM; rw [if_neg h]
theorem updD_at {i : Nat} {s : ByteArray} : updD d i s i = s := by unfold updD; rw [if_pos rfl]
theorem updD_ne {i j : Nat} {s : ByteArray} (h : j ≠ i) : updD d i s j = d j := by unfold updD; rw [if_neg h]
theorem updB_at {s : ByteArray → Bool} {a : ByteArray} : updB s a a = true := by unfold updB; rw [if_pos rfl]
theorem updB_ne {s : ByteArray → Bool} {a x : ByteArray} (h : x ≠ a) : updB s a x = s x := by unfold updB; rw [if_neg h]
end
set_option maxHeartbeats 8000000 in
set_option maxRecDepth 100000 in
theorem works_calls (w : World) : Calls Try.prog 7 #[] w fun e w' => e = .returned (.bool true) ∧ Below w.heap.size w w' := by
  have q1 := Lib.hid (geo_calls w)
  have qn := Lib.hid new0_calls
  have qt := Lib.hid text_calls
  have hsz := Lib.hid (fun x : Int => show ((repN x 64).size : Int) = 64 ∧ (repN x 64).size ≤ maxLen from by rw [repN_size]; decide)
  have hab : Hid (repN 97 64 ≠ repN 98 64 ∧ repN 97 64 ≠ repN 99 64 ∧ repN 98 64 ≠ repN 99 64 ∧ repN 0 64 ≠ repN 97 64 ∧ repN 0 64 ≠ repN 98 64 ∧ repN 0 64 ≠ repN 99 64) := Lib.hid ⟨repN_ne (by decide) (by decide) (by decide), repN_ne (by decide) (by decide) (by decide), repN_ne (by decide) (by decide) (by decide), repN_ne (by decide) (by decide) (by decide), repN_ne (by decide) (by decide) (by decide), repN_ne (by decide) (by decide) (by decide)⟩
  have qta := Lib.hid (qt.out 97)
  have qtb := Lib.hid (qt.out 98)
  have qtc := Lib.hid (qt.out 99)
  have qtz := Lib.hid (qt.out 0)
  have sa := Lib.hid (hsz.out 97)
  have sb := Lib.hid (hsz.out 98)
  have sc := Lib.hid (hsz.out 99)
  have sz := Lib.hid (hsz.out 0)
  clear qt hsz
  generalize repN 97 64 = a at *
  generalize repN 98 64 = b at *
  generalize repN 99 64 = c at *
  generalize repN 0 64 = z at *
  go_enter Try.func7, Try.ntmps7
  go_wp2_with fail
  refine q1.out.mono ?_
  rintro e w1 ⟨rfl, hb1⟩
  go_wp2_with fail
  refine (qn.out w1).mono ?_
  rintro e w2 ⟨P, B, cap, mb, rfl, hb2, H2⟩
  have hB2 := Aside0.mk (hb1.trans (hb2.mono hb1.size))
  have hlo := Lib.hid hb1.size
  generalize w1.heap.size = lo at *
  generalize w2.heap.size = up at *
  clear q1 qn hb1 hb2
  go_wp2_with fail
  refine (qta.out w2).mono ?_
  rintro e w3 ⟨rfl, hb3⟩
  have q8 := Lib.hid (write_at (Aside0.mk (H2.out.below hb3)) 1 (by decide) a sa.out.1 sa.out.2 (by decide))
  have C3 := Aside0.mk (Ch.of_below (S := Blk lo up) hb3)
  clear H2 hb3
  go_wp2_with fail
  refine q8.out.mono ?_
  rintro e w4 ⟨rfl, hA⟩
  have C4 := Aside0.mk (C3.out.trans hA.out.2)
  have q14 := Lib.hid (flush_calls (Aside0.mk hA.out.1) ⟨fun i hi => by unfold updD; split; exact sa.out.2; exact sz.out.2⟩ (by decide))
  clear q8 hA C3
  go_wp2_with fail
  refine q14.out.mono ?_
  rintro e w5 ⟨rfl, hA⟩
  have C5 := Aside0.mk (C4.out.trans hA.out.2)
  have H5 := Aside0.mk hA.out.1
  clear q14 hA C4
  go_wp2_with fail
  refine (qtb.out w5).mono ?_
  rintro e w6 ⟨rfl, hb6⟩
  have q8 := Lib.hid (write_at (Aside0.mk (H5.out.below hb6)) 1 (by decide) b sb.out.1 sb.out.2 (by decide))
  have C6 := Aside0.mk (C5.out.trans (Ch.of_below hb6))
  clear H5 hb6 C5
  go_wp2_with fail
  refine q8.out.mono ?_
  rintro e w7 ⟨rfl, hA⟩
  have C7 := Aside0.mk (C6.out.trans hA.out.2)
  have H7 := Aside0.mk hA.out.1
  clear q8 hA C6
  go_wp2_with fail
  refine (qtc.out w7).mono ?_
  rintro e w8 ⟨rfl, hb8⟩
  have q8 := Lib.hid (write_at (Aside0.mk (H7.out.below hb8)) 1 (by decide) c sc.out.1 sc.out.2 (by decide))
  have C8 := Aside0.mk (C7.out.trans (Ch.of_below hb8))
  clear H7 hb8 C7
  go_wp2_with fail
  refine q8.out.mono ?_
  rintro e w9 ⟨rfl, hA⟩
  have C9 := Aside0.mk (C8.out.trans hA.out.2)
  have H9 := Aside0.mk hA.out.1
  clear q8 hA C8
  have q18 := Lib.hid (read_at H9 1 (by decide))
  rw [updD_at] at q18
  go_wp2_with fail
  refine q18.out.mono ?_
  rintro e w9' ⟨rfl, rfl⟩
  go_wp2_with fail
  refine (qtc.out w9').mono ?_
  rintro e w10 ⟨rfl, hb10⟩
  have H10 := Aside0.mk (H9.out.below hb10)
  have C10 := Aside0.mk (C9.out.trans (Ch.of_below hb10))
  clear H9 hb10 C9 q18
  go_wp2_with fail
  refine (qta.out w10).mono ?_
  rintro e w11 ⟨rfl, hb11⟩
  have H11 := Aside0.mk (H10.out.below hb11)
  have C11 := Aside0.mk (C10.out.trans (Ch.of_below hb11))
  have q19 := Lib.hid (may_text H11 1 (by decide) a sa.out.2 true (by rw [updM_at, updB_ne hab.out.2.1, updM_at, updB_ne hab.out.1, flM_at (by decide), updD_at]; exact updB_at))
  clear H10 hb11 C10
  go_wp2_with fail
  refine q19.out.mono ?_
  rintro e w11' ⟨rfl, rfl⟩
  clear q19
  go_wp2_with fail
  refine (qtb.out w11').mono ?_
  rintro e w12 ⟨rfl, hb12⟩
  have H12 := Aside0.mk (H11.out.below hb12)
  have C12 := Aside0.mk (C11.out.trans (Ch.of_below hb12))
  have q19 := Lib.hid (may_text H12 1 (by decide) b sb.out.2 true (by rw [updM_at, updB_ne hab.out.2.2.1, updM_at]; exact updB_at))
  clear H11 hb12 C11
  go_wp2_with fail
  refine q19.out.mono ?_
  rintro e w12' ⟨rfl, rfl⟩
  clear q19
  go_wp2_with fail
  refine (qtc.out w12').mono ?_
  rintro e w13 ⟨rfl, hb13⟩
  have H13 := Aside0.mk (H12.out.below hb13)
  have C13 := Aside0.mk (C12.out.trans (Ch.of_below hb13))
  have q19 := Lib.hid (may_text H13 1 (by decide) c sc.out.2 true (by rw [updM_at]; exact updB_at))
  clear H12 hb13 C12
  go_wp2_with fail
  refine q19.out.mono ?_
  rintro e w13' ⟨rfl, rfl⟩
  clear q19
  go_wp2_with fail
  refine (qtz.out w13').mono ?_
  rintro e w14 ⟨rfl, hb14⟩
  have H14 := Aside0.mk (H13.out.below hb14)
  have C14 := Aside0.mk (C13.out.trans (Ch.of_below hb14))
  have q19 := Lib.hid (may_text H14 1 (by decide) z sz.out.2 false (by rw [updM_at, updB_ne hab.out.2.2.2.2.2, updM_at, updB_ne hab.out.2.2.2.2.1, flM_at (by decide), updD_at]; exact updB_ne hab.out.2.2.2.1))
  clear H13 hb14 C13
  go_wp2_with fail
  refine q19.out.mono ?_
  rintro e w14' ⟨rfl, rfl⟩
  clear q19
  go_wp2_with fail
  refine (qtz.out w14').mono ?_
  rintro e w15 ⟨rfl, hb15⟩
  have H15 := Aside0.mk (H14.out.below hb15)
  have C15 := Aside0.mk (C14.out.trans (Ch.of_below hb15))
  have q19 := Lib.hid (may_text H15 0 (by decide) z sz.out.2 true (by rw [updM_ne (by decide), updM_ne (by decide), flM_at (by decide), updD_ne (by decide)]; exact updB_at))
  clear H14 hb15 C14
  go_wp2_with fail
  refine q19.out.mono ?_
  rintro e w15' ⟨rfl, rfl⟩
  clear q19
  go_wp2
  go_ret
  exact ⟨rfl, hB2.out.trans (C15.out.below hB2.out.size (fun k hk => Nat.le_trans hlo.out hk.1))⟩
end Go.Proofs.Ytmpfadiehakcgaa.PQ
