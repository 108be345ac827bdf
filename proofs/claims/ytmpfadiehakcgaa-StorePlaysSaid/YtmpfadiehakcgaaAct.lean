/- A call of the law, as cells. -/
import Derived.Test.YtmpfadiehakcgaaWorks
import Derived.Test.YtmpfadiehakcgaaPQx6
namespace Go.Proofs.Ytmpfadiehakcgaa.PQ
open Go.RowKit Go.Proofs.YtmpfadiehakcgaaW.PrintWords Go.Proofs.YtmpfadiehakcgaaW.PrintLast Go.Proofs.YtmpfadiehakcgaaW.PrintMore
set_option linter.unusedVariables false
set_option linter.unusedSimpArgs false
/-- A call of the law's list: kind, sector, data, what is told of a cut. -/
structure S37 where
  f0 : Int
  f1 : Int
  f2 : ByteArray
  f3 : List ByteArray
def z37 : S37 := ⟨0, 0, ⟨#[]⟩, []⟩
def k37 : Kd S37 := Kd.iso (Kd.pair (Kd.int .i64) (Kd.pair (Kd.int .i64) (Kd.pair Kd.string (Kd.slice 9 Kd.string)))) (fun x : S37 => (x.f0, x.f1, x.f2, x.f3))
theorem k37_open {w : World} {x : S37} {cs : List Value} (h : k37.K w x cs) : ∃ A c, cs = [.int .i64 x.f0, .int .i64 x.f1, .string x.f2, .slice A x.f3.length c] ∧ x.f3.length ≤ c ∧ Kd.C Kd.string w A x.f3.length x.f3 := by
  obtain ⟨_, _, rfl, rfl, ⟨_, _, rfl, rfl, ⟨_, _, rfl, rfl, ⟨A, c, rfl, hc, hr⟩⟩⟩⟩ := h
  exact ⟨A, c, rfl, hc, hr⟩
theorem K_S37 {w : World} {a0 a1 : Int} {a2 : ByteArray} {a3 : List ByteArray} {A : Option Addr} {c : Nat} (hc : a3.length ≤ c) (h : Kd.C Kd.string w A a3.length a3) : k37.K w ⟨a0, a1, a2, a3⟩ [.int .i64 a0, .int .i64 a1, .string a2, .slice A a3.length c] :=
  ⟨[.int .i64 a0], [.int .i64 a1, .string a2, .slice A a3.length c], rfl, rfl, ⟨[.int .i64 a1], [.string a2, .slice A a3.length c], rfl, rfl, ⟨[.string a2], [.slice A a3.length c], rfl, rfl, ⟨A, c, rfl, hc, h⟩⟩⟩⟩
def rd_T37 (xs : List S37) (i : Int) : S37 := xs.getD i.toNat z37
theorem at_T37 {w : World} {A : Option Addr} {n : Nat} {xs : List S37} (h : Kd.C k37 w A n xs) (i : Int) (h0 : 0 ≤ i) (h1 : i < n) : ∃ ad A3 c3, A = some ad ∧ w.cell? (ad.add (i.toNat * 4)) = some (.int .i64 (rd_T37 xs i).f0) ∧ w.cell? ⟨(ad.add (i.toNat * 4)).block, (ad.add (i.toNat * 4)).off + 1, none⟩ = some (.int .i64 (rd_T37 xs i).f1) ∧ w.cell? ⟨(ad.add (i.toNat * 4)).block, (ad.add (i.toNat * 4)).off + 2, none⟩ = some (.string (rd_T37 xs i).f2) ∧ w.cell? ⟨(ad.add (i.toNat * 4)).block, (ad.add (i.toNat * 4)).off + 3, none⟩ = some (.slice A3 (rd_T37 xs i).f3.length c3) ∧ (rd_T37 xs i).f3.length ≤ c3 ∧ Kd.C Kd.string w A3 (rd_T37 xs i).f3.length (rd_T37 xs i).f3 := by
  obtain ⟨ad, c, e, _, hK, hc0⟩ := Kd.C_get h z37 i h0 h1
  have hc : ∀ j u, c[j]? = some u → w.cell? (ad.add (i.toNat * 4 + j)) = some u := hc0
  obtain ⟨A3, c3, rfl, hl3, hr3⟩ := k37_open hK
  exact ⟨ad, A3, c3, e, hc 0 _ rfl, by rw [← add_field _ _ 1 (by omega)]; exact hc 1 _ rfl, by rw [← add_field _ _ 2 (by omega)]; exact hc 2 _ rfl, by rw [← add_field _ _ 3 (by omega)]; exact hc 3 _ rfl, hl3, hr3⟩
theorem rd_get37 (l : List S37) (k : Nat) (hk : k < l.length) : rd_T37 l (k : Int) = l[k] := by
  unfold rd_T37
  rw [Int.toNat_natCast, List.getD_eq_getElem?_getD, List.getElem?_eq_getElem hk]
  rfl
/-- 'Below': a number below n. -/
def blw (a n : Int) : Int := (decklebook_Below.f a n).getD 0
theorem blw_f (a : Int) (n : Int) (hn : 0 < n) (h2 : n ≤ 1000) : decklebook_Below.f a n = some (blw a n) ∧ 0 ≤ blw a n ∧ blw a n < n := by
  unfold blw decklebook_Below.f
  rw [if_neg (by omega)]
  have h1 := Int.tmod_lt_of_pos a hn
  have h3 : -n < Int.tmod a n := by have := Int.lt_tmod_of_pos a hn; omega
  by_cases h : Int.tmod a n < 0
  · rw [if_pos h]
    refine ⟨rfl, ?_, ?_⟩ <;> (simp only [Option.getD_some]; rw [Go.IntWalk.wrap64_in _ ⟨by omega, by omega⟩]; omega)
  · rw [if_neg h]
    exact ⟨rfl, by simp only [Option.getD_some]; omega, by simp only [Option.getD_some]; omega⟩
theorem blw_calls (a n : Int) (hn : 0 < n) (h2 : n ≤ 1000) (w : World) : Calls Try.prog 23 #[.int .i64 a, .int .i64 n] w fun e w' => e = .returned (.int .i64 (blw a n)) ∧ Below w.heap.size w w' :=
  (decklebook_Below.calls a n _ w (blw_f a n hn h2).1).mono fun e w' h => ⟨h.1, h.2.below⟩
theorem blw_wf (a : Int) (n : Int) (hn : 0 < n) (h2 : n ≤ 1000) : (Lit.int .i64 (blw a n)).wf = true := by
  obtain ⟨_, h0, h1⟩ := blw_f a n hn h2
  exact WalkArith.wf_i64 (by omega)
theorem R_self {e base : Nat} {ok : Nat → Prop} {w : World} {v : Value} {xs : List ByteArray} (h : Kd.R Kd.string e w base ok v xs) : Kd.R Kd.string e w base (fun b => v.ownBlock = some b) v xs :=
  ⟨fun k hk => hk, h.2.imp_ (fun _ _ hp => hp)⟩
theorem R_true {e base : Nat} {ok : Nat → Prop} {w : World} {v : Value} {xs : List ByteArray} (h : Kd.R Kd.string e w base ok v xs) : Kd.R Kd.string e w base (fun _ => True) v xs := Kd.R_mono h (fun _ _ => trivial)
/-- A row of texts moves with its block. -/
theorem R_keepS {e base : Nat} {ok : Nat → Prop} {w w' : World} {v : Value} {xs : List ByteArray} (h : Kd.R Kd.string e w base ok v xs) (hs : ∀ b, v.ownBlock = some b → base ≤ b → b < w.heap.size → w'.heap[b]? = w.heap[b]?) : Kd.R Kd.string e w' base (fun _ => True) v xs :=
  Kd.R_mono (Kd.R_move (Kd.R_bound (R_self h)) (fun k hk => hs k hk.1 hk.2.1 hk.2.2.1)) (fun _ _ => trivial)
section
variable {lo up : Nat} {g : G6} {n cx : Nat} {d : Nat → ByteArray} {m : Nat → ByteArray → Bool} {P B cap : Nat} {mb : Nat → Nat} {w w' : World}
theorem SAt.drewN (h : SAt lo up g n cx d m P B cap mb w) (j : Nat) : SAt lo up g n cx d m P B cap mb (w.drewN j) := h.same (Nat.le_refl _) (fun _ _ => rfl)
theorem may_quiet (H : Aside0 (SAt lo up g n cx d m P B cap mb w)) (i : Nat) (hi : i < n) (s : ByteArray) (hs : s.size ≤ maxLen) (b : Bool) (hb : m i s = b) :
    ∀ j, Calls Try.prog 19 #[.pointer (some ⟨P, 0, none⟩), .int .i64 (i : Int), .string s] (w.drewN j) fun e w'' => e = .returned (.bool b) ∧ ∃ k, w'' = w.drewN k := fun j =>
  (may_text (Aside0.mk (H.out.drewN j)) i hi s hs b hb).mono fun e w' h => ⟨h.1, j, h.2⟩
theorem bytes_ne {x y : ByteArray} (h : x ≠ y) : (x.toList == y.toList) = false := by
  rw [beq_eq_false_iff_ne]
  intro h2
  apply h
  rw [ByteArray.toList_eq, ByteArray.toList_eq] at h2
  exact ByteArray.ext (Array.toList_inj.mp h2)
end
end Go.Proofs.Ytmpfadiehakcgaa.PQ
