/- Merge walked. -/
import Derived.Test.YtnamndioodnelaaDoorRank
namespace Go.Proofs.YtnamndioodnelaaDoor.PQ
open Go.RowKit Go.Proofs.YtnamndioodnelaaDoorW.PrintWords Go.Proofs.YtnamndioodnelaaDoorW.PrintLast Go.Proofs.YtnamndioodnelaaDoorW.PrintMore
set_option linter.unusedVariables false
set_option linter.unusedSimpArgs false
def mergeK (v u : List Int) : Nat → List Int
  | 0 => v
  | k + 1 => (mergeK v u k).set k (wrap64 ((mergeK v u k).getD k 0 + u.getD k 0))
theorem mergeK_length (v u : List Int) : ∀ k, (mergeK v u k).length = v.length
  | 0 => rfl
  | k + 1 => by
    show ((mergeK v u k).set k _).length = _
    rw [List.length_set, mergeK_length v u k]
theorem HistAt.ch {u : List Int} {b d : Nat} {w w' : World} (h : HistAt u d w) (hg : w.grownBy w' (some b)) (hne : d ≠ b) : HistAt u d w' := h.block (hg.block d h.lt (fun e => hne (Option.some.inj e)))
set_option maxHeartbeats 2000000 in
set_option maxRecDepth 100000 in
theorem merge_nil (b : Nat) (w : World) : Calls Tryd.prog 11 #[.pointer (some ⟨b, 0, none⟩), .pointer none] w fun e w' => e = .returned (.int .i64 1) ∧ w' = w := by
  go_enter Tryd.func11, Tryd.ntmps11
  go_wp2
  go_ret
  exact ⟨rfl, rfl⟩
set_option maxHeartbeats 4000000 in
set_option maxRecDepth 100000 in
theorem merge_core (b d : Nat) (v u : List Int) (w : World) (H : Aside0 (HistAt v b w)) (G : Aside0 (HistAt u d w)) (hne : Hid (d ≠ b)) (M : List Int) (hM : Aside0 (mergeK v u 64 = M)) (y x s q p m Y Z : Int) (ey : M.getD 64 0 = y) (ex : u.getD 64 0 = x) (es : M.getD 65 0 = s) (eq : u.getD 65 0 = q) (ep : M.getD 66 0 = p) (em : u.getD 66 0 = m) (gY : IntKind.i64.wrap (y + x) = Y) (gZ : Hid (∀ w, Calls Tryd.prog 22 #[.int .i64 s, .int .i64 q] w fun e w' => e = .returned (.int .i64 Z) ∧ w' = w)) :
    Calls Tryd.prog 11 #[.pointer (some ⟨b, 0, none⟩), .pointer (some ⟨d, 0, none⟩)] w fun e w' => e = .returned (.int .i64 0) ∧ HistAt (((M.set 64 Y).set 65 Z).set 66 (max p m)) b w' ∧ w.grownBy w' (some b) := by
  have hA : ∀ k : Nat, k < 64 → ((u.map (Value.int .i64)).take 64).toArray[k]? = some (.int .i64 (u.getD k 0)) := fun k hk => by
    rw [List.getElem?_toArray, List.getElem?_take_of_lt hk, List.getElem?_map, List.getD_eq_getElem?_getD, List.getElem?_eq_getElem (show k < u.length by rw [G.out.len]; omega)]; rfl
  go_enter Tryd.func11, Tryd.ntmps11
  go_wp2_with ((with_reducible refine gate_dst (N := 12) rfl ?_); refine wpList_load_part rfl (.tmp 11) rfl u d rfl G.out ?_)
  revert hA
  generalize (List.take 64 (u.map (Value.int .i64))).toArray = A
  intro hA
  go_loopw [13] (fun i wr => ∃ k : Nat, k ≤ 64 ∧ i = .int .i64 k ∧ Aside0 (HistAt (mergeK v u k) b wr) ∧ Aside0 (w.grownBy wr (some b))) (fun i _ => 64 - (intOf i).toNat)
  case atStart => exact ⟨0, by omega, rfl, H, ⟨World.grownBy.refl w _⟩⟩
  case round =>
    obtain ⟨k, hk, rfl, HK, HG⟩ := hrel
    by_cases hlt : k < 64
    · have yk : decide ((k : Int) < 64) = true := decide_eq_true (by omega)
      clear ey ex es eq ep em gY gZ
      obtain ⟨x1, hx⟩ : ∃ x1, x1 = u.getD k 0 := ⟨_, rfl⟩
      have hIk := fun W => idx43 A k x1 W hlt (by rw [hx]; exact hA k hlt)
      obtain ⟨y1, hy⟩ : ∃ y1, y1 = (mergeK v u k).getD k 0 := ⟨_, rfl⟩
      obtain ⟨z1, hz⟩ : ∃ z1, z1 = wrap64 (y1 + x1) := ⟨_, rfl⟩
      have gz : IntKind.i64.wrap (y1 + x1) = z1 := (i64_w _).trans hz.symm
      have h1 : HistAt (mergeK v u k) b wr.drew := HK.out.block rfl
      have c1 := h1.cell k (by omega)
      have f1 := h1.free k
      rw [← hy] at c1
      have hstep : Aside0 (mergeK v u (k + 1) = (mergeK v u k).set k z1) := ⟨by rw [hz, hy, hx]; rfl⟩
      clear hx hy hz h1
      go_wp2
      go_region
      go_wp2
      go_roundw
      case rel => exact ⟨k + 1, by omega, by go_num, ⟨by rw [hstep.out]; exact (HK.out.set k z1).drawn ⟨⟨1, rfl⟩⟩⟩, ⟨(HG.out.trans (ch_set wr b k _)).trans (ch_drew ⟨⟨1, rfl⟩⟩ b)⟩⟩
      case measure => simp [intOf]; omega
    · obtain rfl : k = 64 := by omega
      have hk0 := Lib.hid hA
      clear hA
      rw [hM.out] at HK
      have Gr : HistAt u d wr := G.out.ch HG.out hne.out
      have dB := HK.out.drawn (w' := wr.drew) ⟨⟨1, rfl⟩⟩
      have dD := Gr.drawn (w' := wr.drew) ⟨⟨1, rfl⟩⟩
      have c1 := dB.cell 64 (by omega)
      have c2 := dD.cell 64 (by omega)
      have f1 := dB.free 64
      rw [ey] at c1
      rw [ex] at c2
      clear dB dD
      have y64 : decide (((64 : Nat) : Int) < 64) = false := by decide
      go_wp2
      go_region
      have e64 : ∀ (l : List Int) (i j : Nat) (z : Int), i ≠ j → (l.set i z).getD j 0 = l.getD j 0 := fun l i j z hj => by rw [List.getD_eq_getElem?_getD, List.getElem?_set_ne hj, List.getD_eq_getElem?_getD]
      have H1 := (HK.out.set 64 Y).drawn (w' := World.drew _) ⟨⟨1, rfl⟩⟩
      have D1 := (Gr.ch (ch_set wr b 64 (.int .i64 Y)) hne.out).drawn (w' := World.drew _) ⟨⟨1, rfl⟩⟩
      have g1 := (HG.out.trans (ch_set wr b 64 (.int .i64 Y))).trans (ch_drew (w' := World.drew _) ⟨⟨1, rfl⟩⟩ b)
      clear c1 c2 f1
      revert H1 D1 g1
      generalize (wr.setCell ⟨b, 64, none⟩ (.int .i64 Y)).drew = W1
      intro H1 D1 g1
      clear Gr HK HG
      have A1 := Aside0.mk H1
      have B1 := Aside0.mk D1
      have C1 := Aside0.mk g1
      have c1 := (H1.drawn (w' := W1.drew) ⟨⟨1, rfl⟩⟩).cell 65 (by omega)
      have c2 := (D1.drawn (w' := W1.drew) ⟨⟨1, rfl⟩⟩).cell 65 (by omega)
      have f1 := (H1.drawn (w' := W1.drew) ⟨⟨1, rfl⟩⟩).free 65
      rw [e64 _ 64 65 _ (by omega), es] at c1
      rw [eq] at c2
      have hep := Lib.hid ep
      have hem := Lib.hid em
      clear H1 D1 g1 e64 hk0 ey ex es eq ep em gY H G hM
      go_wp2
      go_region_with (go_at_call 22; refine (gZ.out _).mono ?_; rintro e w3 ⟨rfl, rfl⟩)
      all_goals
        have H2 := (A1.out.set 65 Z).drawn (w' := World.drew _) ⟨⟨1, rfl⟩⟩
        have D2 := (B1.out.ch (ch_set W1 b 65 (.int .i64 Z)) hne.out).drawn (w' := World.drew _) ⟨⟨1, rfl⟩⟩
        have g2 := (C1.out.trans (ch_set W1 b 65 (.int .i64 Z))).trans (ch_drew (w' := World.drew _) ⟨⟨1, rfl⟩⟩ b)
        clear c1 c2 f1 A1 B1 C1 gZ
        revert H2 D2 g2
        generalize (W1.setCell ⟨b, 65, none⟩ (.int .i64 Z)).drew = W2
        intro H2 D2 g2
        have c1 := (H2.drawn (w' := W2.drew) ⟨⟨1, rfl⟩⟩).cell 66 (by omega)
        have c2 := (D2.drawn (w' := W2.drew) ⟨⟨1, rfl⟩⟩).cell 66 (by omega)
        have f1 := (H2.drawn (w' := W2.drew) ⟨⟨1, rfl⟩⟩).free 66
        have ep' : ((M.set 64 Y).set 65 Z).getD 66 0 = p := by
          rw [List.getD_eq_getElem?_getD, List.getElem?_set_ne (by omega), List.getElem?_set_ne (by omega), ← List.getD_eq_getElem?_getD]; exact hep.out
        rw [ep'] at c1
        rw [hem.out] at c2
        clear ep'
        have A2 := Aside0.mk H2
        have C2 := Aside0.mk g2
        clear H2 D2 g2
        go_wp2
        go_region
        go_wp2
        go_ret
        exact ⟨rfl, (A2.out.set 66 (max p m)).drawn (w' := World.drew _) ⟨⟨1, rfl⟩⟩, (C2.out.trans (ch_set W2 b 66 (.int .i64 (max p m)))).trans (ch_drew (w' := World.drew _) ⟨⟨1, rfl⟩⟩ b)⟩
theorem merge_spec (b d : Nat) (v u : List Int) (w : World) (H : HistAt v b w) (G : HistAt u d w) (hne : d ≠ b) (hs : 0 ≤ (mergeK v u 64).getD 65 0 ∧ (mergeK v u 64).getD 65 0 ≤ 9223372036854775807) (hq : 0 ≤ u.getD 65 0 ∧ u.getD 65 0 ≤ 9223372036854775807) :
    Calls Tryd.prog 11 #[.pointer (some ⟨b, 0, none⟩), .pointer (some ⟨d, 0, none⟩)] w fun e w' => e = .returned (.int .i64 0) ∧ HistAt ((((mergeK v u 64).set 64 (wrap64 ((mergeK v u 64).getD 64 0 + u.getD 64 0))).set 65 (plusI ((mergeK v u 64).getD 65 0) (u.getD 65 0))).set 66 (max ((mergeK v u 64).getD 66 0) (u.getD 66 0))) b w' ∧ w.grownBy w' (some b) :=
  merge_core b d v u w ⟨H⟩ ⟨G⟩ (Lib.hid hne) _ ⟨rfl⟩ _ _ _ _ _ _ _ _ rfl rfl rfl rfl rfl rfl (i64_w _) (Lib.hid fun w => plus_calls _ _ w hs ⟨by omega, hq.2⟩)
end Go.Proofs.YtnamndioodnelaaDoor.PQ
