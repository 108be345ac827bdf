/- How many numbers a set has, and its spans, walked. -/
import Derived.Test.YtaandjafmmpbkaaAt
import Derived.Outline
import Derived.OwnWalk
namespace Go.Proofs.Ytaandjafmmpbkaa.PQ
open Go.RowKit Go.Proofs.YtaandjafmmpbkaaW.PrintWords Go.Proofs.YtaandjafmmpbkaaW.PrintLast Go.Proofs.YtaandjafmmpbkaaW.PrintMore
set_option linter.unusedVariables false
set_option linter.unusedSimpArgs false
/-- How many numbers the first k spans have. -/
def cntK (l : List S27) : Nat → Int
  | 0 => 0
  | k + 1 => cntK l k + ((rd_T27 l k).f1 - (rd_T27 l k).f0)
theorem cntK_bd {l : List S27} {lo : Int} (h : Sp lo l) (hlo : -1 ≤ lo) : ∀ k : Nat, k ≤ l.length → 0 ≤ cntK l k ∧ cntK l k ≤ k * 4096
  | 0, _ => by simp [cntK]
  | k + 1, hk => by
    have h1 := cntK_bd h hlo k (by omega)
    have h2 := h.each k (by omega)
    rw [cntK]
    omega
set_option maxHeartbeats 4000000 in
set_option maxRecDepth 100000 in
theorem count_core (l : List S27) (P base : Nat) (v : Value) (lo : Int) (w : World) (H : Aside0 (SetAt l P base v w)) (hS : Aside0 (Sp lo l)) (hlo : -1 ≤ lo) (hlen : l.length ≤ 10000) :
    Calls Try.prog 13 #[.pointer (some ⟨P, 0, none⟩)] w fun e w' => e = .returned (.int .i64 (cntK l l.length)) ∧ Below w.heap.size w w' := by
  obtain ⟨A, c, rfl⟩ := H.out.slice
  have hP := H.out.head0
  go_enter Try.func13, Try.ntmps13
  go_wp2
  clear hP
  go_loopw [3, 11] (fun s i wr => ∃ k : Nat, k ≤ l.length ∧ i = .int .i64 k ∧ s = .int .i64 (cntK l k) ∧ Aside0 (Below w.heap.size w wr)) (fun _ i _ => l.length - (intOf i).toNat)
  case atStart => exact ⟨0, Nat.zero_le _, rfl, rfl, ⟨Below.refl _ _⟩⟩
  case round =>
    obtain ⟨k, hk, rfl, rfl, HB⟩ := hrel
    by_cases hlt : k < l.length
    · have yk : decide ((k : Int) < (l.length : Int)) = true := decide_eq_true (by omega)
      obtain ⟨g, rfl, c0, c1⟩ := (H.out.below HB.out).elem k hlt
      have hK := Lib.hid (show cntK l (k + 1) = cntK l k + ((rd_T27 l k).f1 - (rd_T27 l k).f0) from rfl)
      have b1 := cntK_bd hS.out hlo k hk
      have b2 := hS.out.each k hlt
      have hBs := Lib.hid HB.out.size
      generalize (rd_T27 l k).f0 = x0 at *
      generalize (rd_T27 l k).f1 = x1 at *
      generalize cntK l k = s at *
      go_wp2
      go_roundw
      case rel => exact ⟨k + 1, by omega, by go_num, by rw [hK.out], ⟨HB.out.alloc hBs.out _⟩⟩
      case measure => simp [intOf]; omega
    · obtain rfl : k = l.length := by omega
      go_wp2
      go_ret
      exact ⟨rfl, HB.out⟩
theorem k27_KM {w w' : World} {base : Nat} {ok : Nat → Prop} (x : S27) (cs : List Value) (h : k27.K w x cs) : k27.M w' base ok x cs := by
  rw [k27_open h]; exact k27_mkM _ _ _ _
set_option maxHeartbeats 2000000 in
set_option maxRecDepth 100000 in
theorem spans_core (l : List S27) (P base : Nat) (v : Value) (w : World) (H : Aside0 (SetAt l P base v w)) (hlen : l.length ≤ 10000) :
    Calls Try.prog 11 #[.pointer (some ⟨P, 0, none⟩)] w fun e w' => Aside0 (∃ u, e = .returned u ∧ OwnS w' w.heap.size u l ∧ Below w.heap.size w w') := by
  obtain ⟨A, c, rfl⟩ := H.out.slice
  have hP := H.out.head0
  have hC := Aside0.mk (Kd.R_reads' H.out.row).2.2
  have hl8 := Lib.hid (show (([] : List S27).length + l.length) * 16 ≤ 140737488355328 by simp; omega)
  have hN := Aside0.mk (Kd.R_nil k27 27 w w.heap.size (fun _ => True))
  go_enter Try.func11, Try.ntmps11
  go_wp2_with ((with_reducible refine gate_builtin (b := .append) (xs := #[.const (.slice none 0 0), .tmp 6]) rfl ?_); at_builtin; refine Kd.R_append_rows k27 (Rr := k27.K w) (w0 := w) w.heap.size rfl (.const (.slice none 0 0)) (.tmp 6) 33 27 (.agg #[.int .i64 0, .int .i64 0]) 16 rfl Try.underlying33 info27 rfl (by decide) (by decide) (.slice none 0 0) [] l A l.length c (fun _ => True) (fun _ => False) rfl rfl hN.out hC.out k27_KM (fun _ hk => hk.elim) (fun _ _ => trivial) (Below.refl _ _) (Nat.le_refl _) hl8.out ?_; intro v1 w1 ho hb hg hat; rw [List.nil_append] at ho; have HO := Aside0.mk (ownS ho); have HB := Aside0.mk hb; clear ho hb hg hat)
  go_ret
  exact ⟨⟨_, rfl, HO.out, HB.out⟩⟩
end Go.Proofs.Ytaandjafmmpbkaa.PQ
