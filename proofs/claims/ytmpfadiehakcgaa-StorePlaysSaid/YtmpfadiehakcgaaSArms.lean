/- The arms of StorePlays, each walked for itself. -/
import Derived.Test.YtmpfadiehakcgaaJoint
import Derived.Deep.CutBlock
import Derived.Deep.DeepCutAuto
namespace Go.Proofs.Ytmpfadiehakcgaa.PQ
open Go.RowKit Go.Proofs.YtmpfadiehakcgaaW.PrintWords Go.Proofs.YtmpfadiehakcgaaW.PrintLast Go.Proofs.YtmpfadiehakcgaaW.PrintMore
set_option linter.unusedVariables false
set_option linter.unusedSimpArgs false
/-- The block of the switch, out of the function's own text. -/
def findBlock (n : Nat) : Code → Option Code
  | .block m c => match Nat.beq m n with
    | true => some (.block m c)
    | false => findBlock n c
  | .seq a b => match findBlock n a with
    | some c => some c
    | none => findBlock n b
  | .loop c => findBlock n c
  | .scope c => findBlock n c
  | .cond _ a b => match findBlock n a with
    | some c => some c
    | none => findBlock n b
  | _ => none
noncomputable def splaysSw : Code := ((Try.f3.body.bind (findBlock 2)).getD .skip)
set_option maxHeartbeats 16000000 in
set_option maxRecDepth 1000000 in
theorem splays_arm0 (g : G6) (w W5 : World) (P B cap : Nat) (mb : Nat → Nat) (n lo up X7 X10 i cx c3 k1 k2 : Nat) (d : Nat → ByteArray) (m : Nat → ByteArray → Bool) (l1 : List ByteArray) (l2 : List S69) (y0 y1 : Int) (y2 : ByteArray) (y3 : List ByteArray) (A1 A2 A3 : Option Addr)
    (hG : Hid (0 ≤ g.f2 ∧ g.f2 ≤ 256 ∧ 1 ≤ g.f3 ∧ g.f3 ≤ 4096)) (hng : Hid (g.f3 = (n : Int) ∧ 1 ≤ n ∧ n ≤ 4096)) (hn100 : n ≤ 100) (hs1 : Hid (w.heap.size + 1 = lo)) (hlo : Hid (w.heap.size < lo)) (hi60 : i ≤ 60) (hcx : cx ≤ 1 + i * 101) (hl2 : Aside0 (l2.length ≤ n + i)) (HP : Aside0 (PRel n d m l1 l2))
    (hw3 : Aside0 (y2.size ≤ maxLen ∧ ∀ s ∈ y3, s.size ≤ maxLen)) (hC3 : Aside0 (Kd.C Kd.string w A3 y3.length y3)) (HJ1 : Aside0 (JAt lo up g n cx d m P B cap mb w.heap.size X7 (.slice A1 l1.length k1) (.slice A2 l2.length k2) l1 l2 w W5)) (hX10 : Hid (up ≤ X10))
    (b10 : Aside0 (W5.heap[X10]? = some (.cells #[.int .i64 y0, .int .i64 y1, .string y2, .slice A3 y3.length c3] 37))) (h0 : y0 = 0)
    (J K : Act → World → Prop) (Q0 : Exit → Act → World → Prop) (x0 x1 x3 x6 x8 x9 x15 x16 x17 x18 x19 x20 x21 x22 x23 x24 x25 x26 x27 x28 x29 x30 x31 x32 x33 x34 x35 x36 x37 x38 x39 x40 x41 x42 x186 : Value) (u4 u13 u14 u43 u44 u45 u46 u47 u48 u49 u50 u51 u52 u53 u54 u55 u56 u57 u58 u59 u60 u61 u62 u63 u64 u65 u66 u67 u68 u70 u71 u72 u73 u74 u75 u76 u77 u78 u79 u80 u81 u82 u83 u84 u85 u86 u87 u88 u89 u90 u91 u92 u93 u94 u95 u96 u97 u98 u99 u100 u101 u102 u103 u104 u105 u106 u107 u108 u109 u110 u111 u112 u113 u114 u115 u116 u117 u118 u119 u120 u121 u122 u123 u124 u125 u126 u127 u128 u129 u130 u131 u132 u133 u134 u135 u136 u137 u138 u139 u140 u141 u142 u143 u144 u145 u146 u147 u148 u149 u150 u151 u152 u153 u154 u155 u156 u157 u158 u159 u160 u161 u162 u163 u164 u165 u166 u167 u168 u169 u170 u171 u172 u173 u174 u175 u176 u177 u178 u179 u180 u181 u182 u183 u184 u185 : Value)
    (hJ : ∀ a' w', (∃ u4 u11 u12 u13 u14 u43 u44 u45 u46 u47 u48 u49 u50 u51 u52 u53 u54 u55 u56 u57 u58 u59 u60 u61 u62 u63 u64 u65 u66 u67 u68 u70 u71 u72 u73 u74 u75 u76 u77 u78 u79 u80 u81 u82 u83 u84 u85 u86 u87 u88 u89 u90 u91 u92 u93 u94 u95 u96 u97 u98 u99 u100 u101 u102 u103 u104 u105 u106 u107 u108 u109 u110 u111 u112 u113 u114 u115 u116 u117 u118 u119 u120 u121 u122 u123 u124 u125 u126 u127 u128 u129 u130 u131 u132 u133 u134 u135 u136 u137 u138 u139 u140 u141 u142 u143 u144 u145 u146 u147 u148 u149 u150 u151 u152 u153 u154 u155 u156 u157 u158 u159 u160 u161 u162 u163 u164 u165 u166 u167 u168 u169 u170 u171 u172 u173 u174 u175 u176 u177 u178 u179 u180 u181 u182 u183 u184 u185 : Value, (∃ (r : Int) (cx' : Nat) (d' : Nat → ByteArray) (m' : Nat → ByteArray → Bool) (v1' v2' : Value) (l1' : List ByteArray) (l2' : List S69), u11 = .int .i64 r ∧ u12 = .int .i64 r ∧ cx' ≤ 1 + (i + 1) * 101 ∧ Aside0 (l2'.length ≤ n + (i + 1)) ∧ Aside0 (JAt lo up g n cx' d' m' P B cap mb w.heap.size X7 v1' v2' l1' l2' w w') ∧ Aside0 (PRel n d' m' l1' l2')) ∧ a' = (⟨#[x0, x1, (.pointer (some ⟨w.heap.size, 0, none⟩)), x3, u4, (.pointer (some ⟨P, 0, none⟩)), x6, (.pointer (some ⟨X7, 0, none⟩)), x8, x9, (.pointer (some ⟨X10, 0, none⟩)), u11, u12, u13, u14, x15, x16, x17, x18, x19, x20, x21, x22, x23, x24, x25, x26, x27, x28, x29, x30, x31, x32, x33, x34, x35, x36, x37, x38, x39, x40, x41, x42, u43, u44, u45, u46, u47, u48, u49, u50, u51, u52, u53, u54, u55, u56, u57, u58, u59, u60, u61, u62, u63, u64, u65, u66, u67, u68, (.int .i64 y0), u70, u71, u72, u73, u74, u75, u76, u77, u78, u79, u80, u81, u82, u83, u84, u85, u86, u87, u88, u89, u90, u91, u92, u93, u94, u95, u96, u97, u98, u99, u100, u101, u102, u103, u104, u105, u106, u107, u108, u109, u110, u111, u112, u113, u114, u115, u116, u117, u118, u119, u120, u121, u122, u123, u124, u125, u126, u127, u128, u129, u130, u131, u132, u133, u134, u135, u136, u137, u138, u139, u140, u141, u142, u143, u144, u145, u146, u147, u148, u149, u150, u151, u152, u153, u154, u155, u156, u157, u158, u159, u160, u161, u162, u163, u164, u165, u166, u167, u168, u169, u170, u171, u172, u173, u174, u175, u176, u177, u178, u179, u180, u181, u182, u183, u184, u185, x186], []⟩ : Act)) → J a' w') (hQ0 : ∀ (p) (a : Act) (dd : Nat) (v) (w'), Q0 (.panic p) (a.put (some dd) v) w' → Q0 (.panic p) a w') (hK : ∀ a' w', Met J a' w' → K a' w') :
    Code.wp Try.prog splaysSw (Exit.then K Q0) ⟨#[x0, x1, (.pointer (some ⟨w.heap.size, 0, none⟩)), x3, u4, (.pointer (some ⟨P, 0, none⟩)), x6, (.pointer (some ⟨X7, 0, none⟩)), x8, x9, (.pointer (some ⟨X10, 0, none⟩)), (.int .i64 0), (.int .i64 0), u13, u14, x15, x16, x17, x18, x19, x20, x21, x22, x23, x24, x25, x26, x27, x28, x29, x30, x31, x32, x33, x34, x35, x36, x37, x38, x39, x40, x41, x42, u43, u44, u45, u46, u47, u48, u49, u50, u51, u52, u53, u54, u55, u56, u57, u58, u59, u60, u61, u62, u63, u64, u65, u66, u67, u68, (.int .i64 y0), u70, u71, u72, u73, u74, u75, u76, u77, u78, u79, u80, u81, u82, u83, u84, u85, u86, u87, u88, u89, u90, u91, u92, u93, u94, u95, u96, u97, u98, u99, u100, u101, u102, u103, u104, u105, u106, u107, u108, u109, u110, u111, u112, u113, u114, u115, u116, u117, u118, u119, u120, u121, u122, u123, u124, u125, u126, u127, u128, u129, u130, u131, u132, u133, u134, u135, u136, u137, u138, u139, u140, u141, u142, u143, u144, u145, u146, u147, u148, u149, u150, u151, u152, u153, u154, u155, u156, u157, u158, u159, u160, u161, u162, u163, u164, u165, u166, u167, u168, u169, u170, u171, u172, u173, u174, u175, u176, u177, u178, u179, u180, u181, u182, u183, u184, u185, x186], []⟩ W5 := by
  conv => arg 2; whnf
  have hu23 := Try.underlying23
  have g0 := blk_cell b10.out 0
  have g1 := blk_cell b10.out 1
  have g2 := blk_cell b10.out 2
  have g3 := blk_cell b10.out 3
  subst h0
  obtain ⟨r, hrr⟩ : ∃ r : Int, r = issC n g y1 y2 := ⟨_, rfl⟩
  have q8 := Lib.hid (write_any (Aside0.mk HJ1.out.s) y1 y2 hw3.out.1 r hrr (by omega))
  replace hrr := Lib.hid hrr
  go_wp2_with fail
  refine q8.out.mono ?_
  rintro e w5 ⟨d', m', rfl, hA, hTC⟩
  have HJ5 := Aside0.mk (HJ1.out.code hA.out.1 hA.out.2)
  have b5 := (hA.out.2.block X10 (blk_lt b10.out) (fun h => by have := h.2; have := hX10.out; omega)).trans b10.out
  have c1' : w5.cell? ⟨X10, 1, none⟩ = some (.int .i64 y1) := blk_cell b5 1
  have c2' : w5.cell? ⟨X10, 2, none⟩ = some (.string y2) := blk_cell b5 2
  obtain ⟨d0, d1, d2, d3, d4, d5, d6, d7⟩ := cells8 HJ5.out.b7
  have q9 := Lib.hid (rwrite_any' (g := g) (n := n) (Aside0.mk HJ5.out.r) HP.out.len y1 y2 r (by rw [hrr.out]) (by rw [HP.out.len]; omega) (by have := hl2.out; omega))
  unfold encD at q9
  clear q8 hA g0 g1 g2 g3 b5
  go_wp2_with fail
  refine q9.out.mono ?_
  rintro e w6 ⟨v1', v2', l1', l2', rfl, HR6, hb6, hTR⟩
  obtain ⟨A5, k5, he⟩ := Kd.R_slice HR6.out.r1
  subst he
  obtain ⟨A6, k6, he⟩ := Kd.R_slice HR6.out.r2
  subst he
  obtain ⟨_, h7, _, _⟩ := HJ5.out.turn (Ch.of_below hb6)
  have F := Aside0.mk (HJ5.out.ref (Ch.of_below hb6) HR6.out)
  clear d0  d1  d2  d3  d4  d5  d6  d7 c1' c2' q9 HR6 hb6 HJ5
  obtain ⟨e0, e1, e2, e3, e4, e5, e6, e7⟩ := cells8 h7
  obtain ⟨f0, f1, f2, f3, f4, f5, f6, f7⟩ := frozen8 h7
  clear h7
  go_wp2
  go_meet
  exact ⟨r, cx + 1, _, _, _, _, _, _, rfl, rfl, by omega, ⟨by have h1 := (PRel.trim HP.out hw3.out.1 hTC.out hTR.out).2; have := hl2.out; omega⟩, F, ⟨(PRel.trim HP.out hw3.out.1 hTC.out hTR.out).1⟩⟩
set_option maxHeartbeats 16000000 in
set_option maxRecDepth 1000000 in
theorem splays_arm1 (g : G6) (w W5 : World) (P B cap : Nat) (mb : Nat → Nat) (n lo up X7 X10 i cx c3 k1 k2 : Nat) (d : Nat → ByteArray) (m : Nat → ByteArray → Bool) (l1 : List ByteArray) (l2 : List S69) (y0 y1 : Int) (y2 : ByteArray) (y3 : List ByteArray) (A1 A2 A3 : Option Addr)
    (hG : Hid (0 ≤ g.f2 ∧ g.f2 ≤ 256 ∧ 1 ≤ g.f3 ∧ g.f3 ≤ 4096)) (hng : Hid (g.f3 = (n : Int) ∧ 1 ≤ n ∧ n ≤ 4096)) (hn100 : n ≤ 100) (hs1 : Hid (w.heap.size + 1 = lo)) (hlo : Hid (w.heap.size < lo)) (hi60 : i ≤ 60) (hcx : cx ≤ 1 + i * 101) (hl2 : Aside0 (l2.length ≤ n + i)) (HP : Aside0 (PRel n d m l1 l2))
    (hw3 : Aside0 (y2.size ≤ maxLen ∧ ∀ s ∈ y3, s.size ≤ maxLen)) (hC3 : Aside0 (Kd.C Kd.string w A3 y3.length y3)) (HJ1 : Aside0 (JAt lo up g n cx d m P B cap mb w.heap.size X7 (.slice A1 l1.length k1) (.slice A2 l2.length k2) l1 l2 w W5)) (hX10 : Hid (up ≤ X10))
    (b10 : Aside0 (W5.heap[X10]? = some (.cells #[.int .i64 y0, .int .i64 y1, .string y2, .slice A3 y3.length c3] 37))) (zz0 : (y0 == 0) = false) (h1 : y0 = 1)
    (J K : Act → World → Prop) (Q0 : Exit → Act → World → Prop) (x0 x1 x3 x6 x8 x9 x15 x16 x17 x18 x19 x20 x21 x22 x23 x24 x25 x26 x27 x28 x29 x30 x31 x32 x33 x34 x35 x36 x37 x38 x39 x40 x41 x42 x186 : Value) (u4 u13 u14 u43 u44 u45 u46 u47 u48 u49 u50 u51 u52 u53 u54 u55 u56 u57 u58 u59 u60 u61 u62 u63 u64 u65 u66 u67 u68 u70 u71 u72 u73 u74 u75 u76 u77 u78 u79 u80 u81 u82 u83 u84 u85 u86 u87 u88 u89 u90 u91 u92 u93 u94 u95 u96 u97 u98 u99 u100 u101 u102 u103 u104 u105 u106 u107 u108 u109 u110 u111 u112 u113 u114 u115 u116 u117 u118 u119 u120 u121 u122 u123 u124 u125 u126 u127 u128 u129 u130 u131 u132 u133 u134 u135 u136 u137 u138 u139 u140 u141 u142 u143 u144 u145 u146 u147 u148 u149 u150 u151 u152 u153 u154 u155 u156 u157 u158 u159 u160 u161 u162 u163 u164 u165 u166 u167 u168 u169 u170 u171 u172 u173 u174 u175 u176 u177 u178 u179 u180 u181 u182 u183 u184 u185 : Value)
    (hJ : ∀ a' w', (∃ u4 u11 u12 u13 u14 u43 u44 u45 u46 u47 u48 u49 u50 u51 u52 u53 u54 u55 u56 u57 u58 u59 u60 u61 u62 u63 u64 u65 u66 u67 u68 u70 u71 u72 u73 u74 u75 u76 u77 u78 u79 u80 u81 u82 u83 u84 u85 u86 u87 u88 u89 u90 u91 u92 u93 u94 u95 u96 u97 u98 u99 u100 u101 u102 u103 u104 u105 u106 u107 u108 u109 u110 u111 u112 u113 u114 u115 u116 u117 u118 u119 u120 u121 u122 u123 u124 u125 u126 u127 u128 u129 u130 u131 u132 u133 u134 u135 u136 u137 u138 u139 u140 u141 u142 u143 u144 u145 u146 u147 u148 u149 u150 u151 u152 u153 u154 u155 u156 u157 u158 u159 u160 u161 u162 u163 u164 u165 u166 u167 u168 u169 u170 u171 u172 u173 u174 u175 u176 u177 u178 u179 u180 u181 u182 u183 u184 u185 : Value, (∃ (r : Int) (cx' : Nat) (d' : Nat → ByteArray) (m' : Nat → ByteArray → Bool) (v1' v2' : Value) (l1' : List ByteArray) (l2' : List S69), u11 = .int .i64 r ∧ u12 = .int .i64 r ∧ cx' ≤ 1 + (i + 1) * 101 ∧ Aside0 (l2'.length ≤ n + (i + 1)) ∧ Aside0 (JAt lo up g n cx' d' m' P B cap mb w.heap.size X7 v1' v2' l1' l2' w w') ∧ Aside0 (PRel n d' m' l1' l2')) ∧ a' = (⟨#[x0, x1, (.pointer (some ⟨w.heap.size, 0, none⟩)), x3, u4, (.pointer (some ⟨P, 0, none⟩)), x6, (.pointer (some ⟨X7, 0, none⟩)), x8, x9, (.pointer (some ⟨X10, 0, none⟩)), u11, u12, u13, u14, x15, x16, x17, x18, x19, x20, x21, x22, x23, x24, x25, x26, x27, x28, x29, x30, x31, x32, x33, x34, x35, x36, x37, x38, x39, x40, x41, x42, u43, u44, u45, u46, u47, u48, u49, u50, u51, u52, u53, u54, u55, u56, u57, u58, u59, u60, u61, u62, u63, u64, u65, u66, u67, u68, (.int .i64 y0), u70, u71, u72, u73, u74, u75, u76, u77, u78, u79, u80, u81, u82, u83, u84, u85, u86, u87, u88, u89, u90, u91, u92, u93, u94, u95, u96, u97, u98, u99, u100, u101, u102, u103, u104, u105, u106, u107, u108, u109, u110, u111, u112, u113, u114, u115, u116, u117, u118, u119, u120, u121, u122, u123, u124, u125, u126, u127, u128, u129, u130, u131, u132, u133, u134, u135, u136, u137, u138, u139, u140, u141, u142, u143, u144, u145, u146, u147, u148, u149, u150, u151, u152, u153, u154, u155, u156, u157, u158, u159, u160, u161, u162, u163, u164, u165, u166, u167, u168, u169, u170, u171, u172, u173, u174, u175, u176, u177, u178, u179, u180, u181, u182, u183, u184, u185, x186], []⟩ : Act)) → J a' w') (hQ0 : ∀ (p) (a : Act) (dd : Nat) (v) (w'), Q0 (.panic p) (a.put (some dd) v) w' → Q0 (.panic p) a w') (hK : ∀ a' w', Met J a' w' → K a' w') :
    Code.wp Try.prog splaysSw (Exit.then K Q0) ⟨#[x0, x1, (.pointer (some ⟨w.heap.size, 0, none⟩)), x3, u4, (.pointer (some ⟨P, 0, none⟩)), x6, (.pointer (some ⟨X7, 0, none⟩)), x8, x9, (.pointer (some ⟨X10, 0, none⟩)), (.int .i64 0), (.int .i64 0), u13, u14, x15, x16, x17, x18, x19, x20, x21, x22, x23, x24, x25, x26, x27, x28, x29, x30, x31, x32, x33, x34, x35, x36, x37, x38, x39, x40, x41, x42, u43, u44, u45, u46, u47, u48, u49, u50, u51, u52, u53, u54, u55, u56, u57, u58, u59, u60, u61, u62, u63, u64, u65, u66, u67, u68, (.int .i64 y0), u70, u71, u72, u73, u74, u75, u76, u77, u78, u79, u80, u81, u82, u83, u84, u85, u86, u87, u88, u89, u90, u91, u92, u93, u94, u95, u96, u97, u98, u99, u100, u101, u102, u103, u104, u105, u106, u107, u108, u109, u110, u111, u112, u113, u114, u115, u116, u117, u118, u119, u120, u121, u122, u123, u124, u125, u126, u127, u128, u129, u130, u131, u132, u133, u134, u135, u136, u137, u138, u139, u140, u141, u142, u143, u144, u145, u146, u147, u148, u149, u150, u151, u152, u153, u154, u155, u156, u157, u158, u159, u160, u161, u162, u163, u164, u165, u166, u167, u168, u169, u170, u171, u172, u173, u174, u175, u176, u177, u178, u179, u180, u181, u182, u183, u184, u185, x186], []⟩ W5 := by
  conv => arg 2; whnf
  have hu23 := Try.underlying23
  have g0 := blk_cell b10.out 0
  have g1 := blk_cell b10.out 1
  have g2 := blk_cell b10.out 2
  have g3 := blk_cell b10.out 3
  subst h1
  have hgb := Lib.hid (show 0 ≤ g.f2 ∧ g.f2 ≤ 1000 from by have := hG.out; omega)
  obtain ⟨KK, hKK⟩ : ∃ KK : Nat, 1000 < KK := ⟨2000, by decide⟩
  have hnf := Lib.hid (show deckleref28_Noughts.f KK g.f2 = some (repN 0 g.f2.toNat) from by
    have h1 := noughts_pure g.f2.toNat KK (by have := hgb.out; omega) (by have := hgb.out; omega)
    rw [Int.toNat_of_nonneg hgb.out.1] at h1
    exact h1)
  have hzs := Lib.hid (show ((repN 0 g.f2.toNat).size : Int) = g.f2 ∧ (repN 0 g.f2.toNat).size ≤ maxLen from ⟨by rw [repN_size]; exact Int.toNat_of_nonneg hgb.out.1, by rw [repN_size]; have := hgb.out; unfold maxLen; omega⟩)
  clear hKK
  obtain ⟨r, hrr⟩ : ∃ r : Int, r = issC n g y1 (repN 0 g.f2.toNat) := ⟨_, rfl⟩
  have q8 := Lib.hid (trim_any (Aside0.mk HJ1.out.s) hgb.out y1 r hrr (by omega))
  replace hrr := Lib.hid hrr
  generalize hzz : repN 0 g.f2.toNat = zz at *
  replace hzz := Lib.hid hzz
  go_wp2_with fail
  refine q8.out.mono ?_
  rintro e w5 ⟨d', m', rfl, hA, hTC⟩
  have hK5 := Aside0.mk (show KA lo up g n (cx + 1) d' m' P B cap mb w.heap.size X7 (.slice A1 l1.length k1) (.slice A2 l2.length k2) l1 l2 X10 1 y1 y2 (.slice A3 y3.length c3) w w5 from ⟨HJ1.out.code hA.out.1 hA.out.2, (hA.out.2.block X10 (blk_lt b10.out) (fun h => by have := h.2; have := hX10.out; omega)).trans b10.out⟩)
  have hkb5 := Aside0.mk (show KB w.heap.size X10 g 1 y1 y2 (.slice A3 y3.length c3) w5 from ⟨hK5.out.b, hK5.out.j.b2⟩)
  have hss := Lib.hid fun (w' : World) (h : KB w.heap.size X10 g 1 y1 y2 (.slice A3 y3.length c3) w') => (show w'.cell? ⟨X10, 1, none⟩ = some (.int .i64 y1) ∧ w'.cell? ⟨w.heap.size, 2, none⟩ = some (.int .i64 g.f2) ∧ Aside0 (KB w.heap.size X10 g 1 y1 y2 (.slice A3 y3.length c3) w') from ⟨blk_cell h.b 1, blk_cell h.b2 2, ⟨h⟩⟩)
  obtain ⟨_, _, d0, d1, d2, d3, d4, d5, d6, d7, _⟩ := hK5.out.cells
  have q11 := Lib.hid (deckleref28_Noughts.calls KK g.f2 zz w5.drew hnf.out)
  have q9 := Lib.hid (fun (w6 : World) (hb : Below w5.drew.heap.size w5.drew w6) => rwrite_any (g := g) (n := n) (Aside0.mk (hK5.out.drew.below hb).j.r) HP.out.len y1 zz hzs.out.1 r (by rw [hrr.out]) (by rw [HP.out.len]; omega) (by have := hl2.out; omega))
  unfold encD at q9
  clear q8 hA hnf g0 g1 g2 g3
  go_wp2_with fail
  refine wp_region_held_drew (S := (fun w' => w'.cell? ⟨X10, 1, none⟩ = some (.int .i64 y1) ∧ w'.cell? ⟨w.heap.size, 2, none⟩ = some (.int .i64 g.f2) ∧ Aside0 (KB w.heap.size X10 g 1 y1 y2 (.slice A3 y3.length c3) w'))) (by kernel_rfl) ?_ (fun hHeld => ?_)
  · (refine hss.out _ ?_; (first | (with_reducible exact Aside0.out (by assumption)) | (with_reducible exact KB.drew (Aside0.out (by assumption)))))
  refine wpAnyH_take (i := 1) (oi := { dst := some 108, op := Op.fieldAddr 37 (Operand.tmp 10) 1, type := 0, pos := "law.go:40", after := #[], guard := none }) (v := ?t1_1) rfl (by kernel_rfl) (by kernel_rfl) (by kernel_rfl) (fun _ _ _ h => hQ0 _ _ _ _ _ h) (Or.inl ⟨by rfl, ?yt1_1⟩) (by assumption) ?rt1_1
  case yt1_1 => intro w hSw; (try dsimp only at hSw); go_simp; (try with_reducible rfl)
  try simp only [Act.put, List.setIfInBounds_toArray, List.set_cons_zero, List.set_cons_succ]
  refine wpAnyH_take (i := 2) (oi := { dst := some 109, op := Op.load 3 (Operand.tmp 108), type := 3, pos := "law.go:40", after := #[{ on := 1, ground := Ground.data }], guard := none }) (v := ?t2_2) rfl (by kernel_rfl) (by kernel_rfl) (by kernel_rfl) (fun _ _ _ h => hQ0 _ _ _ _ _ h) (Or.inl ⟨by rfl, ?yt2_2⟩) (by assumption) ?rt2_2
  case yt2_2 => intro w hSw; (try dsimp only at hSw); go_simp; (try with_reducible rfl)
  try simp only [Act.put, List.setIfInBounds_toArray, List.set_cons_zero, List.set_cons_succ]
  refine wpAnyH_take (i := 3) (oi := { dst := some 110, op := Op.fieldAddr 23 (Operand.tmp 2) 2, type := 0, pos := "law.go:40", after := #[], guard := none }) (v := ?t3_3) rfl (by kernel_rfl) (by kernel_rfl) (by kernel_rfl) (fun _ _ _ h => hQ0 _ _ _ _ _ h) (Or.inl ⟨by rfl, ?yt3_3⟩) (by assumption) ?rt3_3
  case yt3_3 => intro w hSw; (try dsimp only at hSw); go_simp; (try with_reducible rfl)
  try simp only [Act.put, List.setIfInBounds_toArray, List.set_cons_zero, List.set_cons_succ]
  refine wpAnyH_take (i := 4) (oi := { dst := some 111, op := Op.load 3 (Operand.tmp 110), type := 3, pos := "law.go:40", after := #[{ on := 3, ground := Ground.data }], guard := none }) (v := ?t4_4) rfl (by kernel_rfl) (by kernel_rfl) (by kernel_rfl) (fun _ _ _ h => hQ0 _ _ _ _ _ h) (Or.inl ⟨by rfl, ?yt4_4⟩) (by assumption) ?rt4_4
  case yt4_4 => intro w hSw; (try dsimp only at hSw); go_simp; (try with_reducible rfl)
  try simp only [Act.put, List.setIfInBounds_toArray, List.set_cons_zero, List.set_cons_succ]
  refine wpAnyH_ready (rs := [0, 5]) (by kernel_rfl) (by simp) ?_
  refine (AllReadyH.cons (o := { dst := some 107, op := Op.load 32 (Operand.tmp 7), type := 32, pos := "law.go:40", after := #[], guard := none }) rfl (fun K hK => ?_) (AllReadyH.cons (o := { dst := some 112, op := Op.call { callee := Callee.value (Operand.func 11), args := #[Operand.tmp 111], argTypes := #[3] }, type := 9, pos := "law.go:40", after := #[{ on := 4, ground := Ground.data }], guard := none }) rfl (fun K hK => ?_) AllReadyH.nil))
  · go_simp
    try simp only [Act.put, List.setIfInBounds_toArray, List.set_cons_zero, List.set_cons_succ]
    refine hK.out _ _ ?_ (fun hHeld => ?_)
    · (refine hss.out _ ?_; (first | (with_reducible exact Aside0.out (by assumption)) | (with_reducible exact KB.drew (Aside0.out (by assumption))) | exact hkbF.out))
    clear hK K
    try simp only [Act.put, List.setIfInBounds_toArray, List.set_cons_zero, List.set_cons_succ]
    refine wpAnyH_ready (rs := [5]) (by kernel_rfl) (by simp) ?_
    refine (AllReadyH.cons (o := { dst := some 112, op := Op.call { callee := Callee.value (Operand.func 11), args := #[Operand.tmp 111], argTypes := #[3] }, type := 9, pos := "law.go:40", after := #[{ on := 4, ground := Ground.data }], guard := none }) rfl (fun K hK => ?_) AllReadyH.nil)
    go_simp
    (go_at_call 11; refine q11.out.mono ?_; rintro e w6 ⟨rfl, hb6⟩; have q9' := Lib.hid (q9.out w6 hb6); have hK6 := Aside0.mk (hK5.out.drew.below hb6); have hkb6 := Aside0.mk (hkb5.out.drew.below hb6); (obtain ⟨_, _, u0, u1, u2, u3, u4, u5, u6, u7, _⟩ := hK6.out.cells); clear hb6)
    try simp only [Act.put, List.setIfInBounds_toArray, List.set_cons_zero, List.set_cons_succ]
    refine hK.out _ _ ?_ (fun hHeld => ?_)
    · (refine hss.out _ ?_; (first | (with_reducible exact Aside0.out (by assumption)) | (with_reducible exact KB.drew (Aside0.out (by assumption))) | exact hkbF.out))
    clear hK K
    try simp only [Act.put, List.setIfInBounds_toArray, List.set_cons_zero, List.set_cons_succ]
    refine wpAnyH_ready (rs := [6]) (by kernel_rfl) (by simp) ?_
    refine (AllReadyH.cons (o := { dst := some 113, op := Op.call { callee := Callee.value (Operand.func 9), args := #[Operand.tmp 107, Operand.tmp 109, Operand.tmp 112], argTypes := #[32, 3, 9] }, type := 33, pos := "law.go:40", after := #[{ on := 0, ground := Ground.data }, { on := 2, ground := Ground.data }, { on := 5, ground := Ground.data }, { on := 5, ground := Ground.chain }], guard := none }) rfl (fun K hK => ?_) AllReadyH.nil)
    go_simp
    (go_at_call 9; refine q9'.out.mono ?_; rintro e w7 ⟨v1', v2', l1', l2', rfl, HR7, hb7, hTR⟩; (obtain ⟨A5, k5, he⟩ := Kd.R_slice HR7.out.r1); subst he; (obtain ⟨A6, k6, he⟩ := Kd.R_slice HR7.out.r2); subst he; (obtain ⟨_, h7, _, _⟩ := hK6.out.j.turn (Ch.of_below hb7)); have F := Aside0.mk (hK6.out.j.ref (Ch.of_below hb7) HR7.out); have hkb7 := Aside0.mk (hkb6.out.below hb7); have hkbF := Aside0.mk (hkb7.out.put8 h7 (x0 := .int .i64 g.f0) (x1 := .int .i64 g.f1) (x2 := .int .i64 g.f2) (x3 := .int .i64 g.f3) (x4 := .int .i64 g.f4) (x5 := .int .i64 g.f5) (x6 := .slice A5 l1'.length k5) (x7 := .slice A6 l2'.length k6)); (obtain ⟨e0, e1, e2, e3, e4, e5, e6, e7⟩ := cells8 h7); (obtain ⟨f0, f1, f2, f3, f4, f5, f6, f7⟩ := frozen8 h7); clear h7 hb7 HR7)
    try simp only [Act.put, List.setIfInBounds_toArray, List.set_cons_zero, List.set_cons_succ]
    refine hK.out _ _ ?_ (fun hHeld => ?_)
    · (refine hss.out _ ?_; (first | (with_reducible exact Aside0.out (by assumption)) | (with_reducible exact KB.drew (Aside0.out (by assumption))) | exact hkbF.out))
    clear hK K
    try simp only [Act.put, List.setIfInBounds_toArray, List.set_cons_zero, List.set_cons_succ]
    refine wpAnyH_take (i := 7) (oi := { dst := some 106, op := Op.move (Operand.tmp 113), type := 33, pos := "law.go:40", after := #[{ on := 6, ground := Ground.data }], guard := none }) (v := ?t5_7) rfl (by kernel_rfl) (by kernel_rfl) (by kernel_rfl) (fun _ _ _ h => hQ0 _ _ _ _ _ h) (Or.inl ⟨by rfl, ?yt5_7⟩) (by assumption) ?rt5_7
    case yt5_7 => intro w hSw; (try dsimp only at hSw); go_simp; (try with_reducible rfl)
    try simp only [Act.put, List.setIfInBounds_toArray, List.set_cons_zero, List.set_cons_succ]
    refine wpAnyH_take (i := 8) (oi := { dst := some 114, op := Op.extract (Operand.tmp 106) 0, type := 32, pos := "law.go:40", after := #[{ on := 7, ground := Ground.data }], guard := none }) (v := ?t6_8) rfl (by kernel_rfl) (by kernel_rfl) (by kernel_rfl) (fun _ _ _ h => hQ0 _ _ _ _ _ h) (Or.inl ⟨by rfl, ?yt6_8⟩) (by assumption) ?rt6_8
    case yt6_8 => intro w hSw; (try dsimp only at hSw); go_simp; (try with_reducible rfl)
    try simp only [Act.put, List.setIfInBounds_toArray, List.set_cons_zero, List.set_cons_succ]
    refine wpAnyH_take (i := 9) (oi := { dst := some 115, op := Op.extract (Operand.tmp 106) 1, type := 26, pos := "law.go:40", after := #[{ on := 7, ground := Ground.data }, { on := 10, ground := Ground.gcOnly Departure.lateStores }], guard := none }) (v := ?t7_9) rfl (by kernel_rfl) (by kernel_rfl) (by kernel_rfl) (fun _ _ _ h => hQ0 _ _ _ _ _ h) (Or.inl ⟨by rfl, ?yt7_9⟩) (by assumption) ?rt7_9
    case yt7_9 => intro w hSw; (try dsimp only at hSw); go_simp; (try with_reducible rfl)
    try simp only [Act.put, List.setIfInBounds_toArray, List.set_cons_zero, List.set_cons_succ]
    refine wpAnyH_ready (rs := [10]) (by kernel_rfl) (by simp) ?_
    refine (AllReadyH.cons (o := { dst := none, op := Op.store 32 (Operand.tmp 7) (Operand.tmp 114), type := 0, pos := "law.go:40", after := #[{ on := 8, ground := Ground.data }, { on := 6, ground := Ground.chain }, { on := 0, ground := Ground.phase }, { on := 1, ground := Ground.phase }, { on := 2, ground := Ground.phase }, { on := 3, ground := Ground.phase }, { on := 4, ground := Ground.phase }, { on := 5, ground := Ground.phase }, { on := 6, ground := Ground.phase }, { on := 7, ground := Ground.phase }, { on := 8, ground := Ground.phase }, { on := 9, ground := Ground.textOnly Departure.lateStores }], guard := none }) rfl (fun K hK => ?_) AllReadyH.nil)
    go_simp
    try simp only [Act.put, List.setIfInBounds_toArray, List.set_cons_zero, List.set_cons_succ]
    refine hK.out _ _ ?_ (fun hHeld => ?_)
    · (refine hss.out _ ?_; (first | (with_reducible exact Aside0.out (by assumption)) | (with_reducible exact KB.drew (Aside0.out (by assumption))) | exact hkbF.out))
    clear hK K
    try simp only [Act.put, List.setIfInBounds_toArray, List.set_cons_zero, List.set_cons_succ]
    refine wpAnyH_take (i := 11) (oi := { dst := some 12, op := Op.assign (Operand.tmp 115), type := 26, pos := "law.go:40", after := #[{ on := 9, ground := Ground.data }, { on := 10, ground := Ground.chain }, { on := 0, ground := Ground.phase }, { on := 1, ground := Ground.phase }, { on := 2, ground := Ground.phase }, { on := 3, ground := Ground.phase }, { on := 4, ground := Ground.phase }, { on := 5, ground := Ground.phase }, { on := 6, ground := Ground.phase }, { on := 7, ground := Ground.phase }, { on := 8, ground := Ground.phase }, { on := 9, ground := Ground.phase }, { on := 10, ground := Ground.phase }], guard := none }) (v := ?t8_11) rfl (by kernel_rfl) (by kernel_rfl) (by kernel_rfl) (fun _ _ _ h => hQ0 _ _ _ _ _ h) (Or.inl ⟨by rfl, ?yt8_11⟩) (by assumption) ?rt8_11
    case yt8_11 => intro w hSw; (try dsimp only at hSw); go_simp; (try with_reducible rfl)
    try simp only [Act.put, List.setIfInBounds_toArray, List.set_cons_zero, List.set_cons_succ]
    refine wpAnyH_done (by kernel_rfl) ?_ _
    go_wp2
    go_meet
    exact ⟨r, cx + 1, _, _, _, _, _, _, rfl, rfl, by omega, ⟨by have h1 := (PRel.trim HP.out hzs.out.2 hTC.out hTR.out).2; have := hl2.out; omega⟩, F, ⟨(PRel.trim HP.out hzs.out.2 hTC.out hTR.out).1⟩⟩
  · go_simp
    (go_at_call 11; refine q11.out.mono ?_; rintro e w6 ⟨rfl, hb6⟩; have q9' := Lib.hid (q9.out w6 hb6); have hK6 := Aside0.mk (hK5.out.drew.below hb6); have hkb6 := Aside0.mk (hkb5.out.drew.below hb6); (obtain ⟨_, _, u0, u1, u2, u3, u4, u5, u6, u7, _⟩ := hK6.out.cells); clear hb6)
    try simp only [Act.put, List.setIfInBounds_toArray, List.set_cons_zero, List.set_cons_succ]
    refine hK.out _ _ ?_ (fun hHeld => ?_)
    · (refine hss.out _ ?_; (first | (with_reducible exact Aside0.out (by assumption)) | (with_reducible exact KB.drew (Aside0.out (by assumption))) | exact hkbF.out))
    clear hK K
    try simp only [Act.put, List.setIfInBounds_toArray, List.set_cons_zero, List.set_cons_succ]
    refine wpAnyH_ready (rs := [0]) (by kernel_rfl) (by simp) ?_
    refine (AllReadyH.cons (o := { dst := some 107, op := Op.load 32 (Operand.tmp 7), type := 32, pos := "law.go:40", after := #[], guard := none }) rfl (fun K hK => ?_) AllReadyH.nil)
    go_simp
    try simp only [Act.put, List.setIfInBounds_toArray, List.set_cons_zero, List.set_cons_succ]
    refine hK.out _ _ ?_ (fun hHeld => ?_)
    · (refine hss.out _ ?_; (first | (with_reducible exact Aside0.out (by assumption)) | (with_reducible exact KB.drew (Aside0.out (by assumption))) | exact hkbF.out))
    clear hK K
    try simp only [Act.put, List.setIfInBounds_toArray, List.set_cons_zero, List.set_cons_succ]
    refine wpAnyH_ready (rs := [6]) (by kernel_rfl) (by simp) ?_
    refine (AllReadyH.cons (o := { dst := some 113, op := Op.call { callee := Callee.value (Operand.func 9), args := #[Operand.tmp 107, Operand.tmp 109, Operand.tmp 112], argTypes := #[32, 3, 9] }, type := 33, pos := "law.go:40", after := #[{ on := 0, ground := Ground.data }, { on := 2, ground := Ground.data }, { on := 5, ground := Ground.data }, { on := 5, ground := Ground.chain }], guard := none }) rfl (fun K hK => ?_) AllReadyH.nil)
    go_simp
    (go_at_call 9; refine q9'.out.mono ?_; rintro e w7 ⟨v1', v2', l1', l2', rfl, HR7, hb7, hTR⟩; (obtain ⟨A5, k5, he⟩ := Kd.R_slice HR7.out.r1); subst he; (obtain ⟨A6, k6, he⟩ := Kd.R_slice HR7.out.r2); subst he; (obtain ⟨_, h7, _, _⟩ := hK6.out.j.turn (Ch.of_below hb7)); have F := Aside0.mk (hK6.out.j.ref (Ch.of_below hb7) HR7.out); have hkb7 := Aside0.mk (hkb6.out.below hb7); have hkbF := Aside0.mk (hkb7.out.put8 h7 (x0 := .int .i64 g.f0) (x1 := .int .i64 g.f1) (x2 := .int .i64 g.f2) (x3 := .int .i64 g.f3) (x4 := .int .i64 g.f4) (x5 := .int .i64 g.f5) (x6 := .slice A5 l1'.length k5) (x7 := .slice A6 l2'.length k6)); (obtain ⟨e0, e1, e2, e3, e4, e5, e6, e7⟩ := cells8 h7); (obtain ⟨f0, f1, f2, f3, f4, f5, f6, f7⟩ := frozen8 h7); clear h7 hb7 HR7)
    try simp only [Act.put, List.setIfInBounds_toArray, List.set_cons_zero, List.set_cons_succ]
    refine hK.out _ _ ?_ (fun hHeld => ?_)
    · (refine hss.out _ ?_; (first | (with_reducible exact Aside0.out (by assumption)) | (with_reducible exact KB.drew (Aside0.out (by assumption))) | exact hkbF.out))
    clear hK K
    try simp only [Act.put, List.setIfInBounds_toArray, List.set_cons_zero, List.set_cons_succ]
    refine wpAnyH_take (i := 7) (oi := { dst := some 106, op := Op.move (Operand.tmp 113), type := 33, pos := "law.go:40", after := #[{ on := 6, ground := Ground.data }], guard := none }) (v := ?t9_7) rfl (by kernel_rfl) (by kernel_rfl) (by kernel_rfl) (fun _ _ _ h => hQ0 _ _ _ _ _ h) (Or.inl ⟨by rfl, ?yt9_7⟩) (by assumption) ?rt9_7
    case yt9_7 => intro w hSw; (try dsimp only at hSw); go_simp; (try with_reducible rfl)
    try simp only [Act.put, List.setIfInBounds_toArray, List.set_cons_zero, List.set_cons_succ]
    refine wpAnyH_take (i := 8) (oi := { dst := some 114, op := Op.extract (Operand.tmp 106) 0, type := 32, pos := "law.go:40", after := #[{ on := 7, ground := Ground.data }], guard := none }) (v := ?t10_8) rfl (by kernel_rfl) (by kernel_rfl) (by kernel_rfl) (fun _ _ _ h => hQ0 _ _ _ _ _ h) (Or.inl ⟨by rfl, ?yt10_8⟩) (by assumption) ?rt10_8
    case yt10_8 => intro w hSw; (try dsimp only at hSw); go_simp; (try with_reducible rfl)
    try simp only [Act.put, List.setIfInBounds_toArray, List.set_cons_zero, List.set_cons_succ]
    refine wpAnyH_take (i := 9) (oi := { dst := some 115, op := Op.extract (Operand.tmp 106) 1, type := 26, pos := "law.go:40", after := #[{ on := 7, ground := Ground.data }, { on := 10, ground := Ground.gcOnly Departure.lateStores }], guard := none }) (v := ?t11_9) rfl (by kernel_rfl) (by kernel_rfl) (by kernel_rfl) (fun _ _ _ h => hQ0 _ _ _ _ _ h) (Or.inl ⟨by rfl, ?yt11_9⟩) (by assumption) ?rt11_9
    case yt11_9 => intro w hSw; (try dsimp only at hSw); go_simp; (try with_reducible rfl)
    try simp only [Act.put, List.setIfInBounds_toArray, List.set_cons_zero, List.set_cons_succ]
    refine wpAnyH_ready (rs := [10]) (by kernel_rfl) (by simp) ?_
    refine (AllReadyH.cons (o := { dst := none, op := Op.store 32 (Operand.tmp 7) (Operand.tmp 114), type := 0, pos := "law.go:40", after := #[{ on := 8, ground := Ground.data }, { on := 6, ground := Ground.chain }, { on := 0, ground := Ground.phase }, { on := 1, ground := Ground.phase }, { on := 2, ground := Ground.phase }, { on := 3, ground := Ground.phase }, { on := 4, ground := Ground.phase }, { on := 5, ground := Ground.phase }, { on := 6, ground := Ground.phase }, { on := 7, ground := Ground.phase }, { on := 8, ground := Ground.phase }, { on := 9, ground := Ground.textOnly Departure.lateStores }], guard := none }) rfl (fun K hK => ?_) AllReadyH.nil)
    go_simp
    try simp only [Act.put, List.setIfInBounds_toArray, List.set_cons_zero, List.set_cons_succ]
    refine hK.out _ _ ?_ (fun hHeld => ?_)
    · (refine hss.out _ ?_; (first | (with_reducible exact Aside0.out (by assumption)) | (with_reducible exact KB.drew (Aside0.out (by assumption))) | exact hkbF.out))
    clear hK K
    try simp only [Act.put, List.setIfInBounds_toArray, List.set_cons_zero, List.set_cons_succ]
    refine wpAnyH_take (i := 11) (oi := { dst := some 12, op := Op.assign (Operand.tmp 115), type := 26, pos := "law.go:40", after := #[{ on := 9, ground := Ground.data }, { on := 10, ground := Ground.chain }, { on := 0, ground := Ground.phase }, { on := 1, ground := Ground.phase }, { on := 2, ground := Ground.phase }, { on := 3, ground := Ground.phase }, { on := 4, ground := Ground.phase }, { on := 5, ground := Ground.phase }, { on := 6, ground := Ground.phase }, { on := 7, ground := Ground.phase }, { on := 8, ground := Ground.phase }, { on := 9, ground := Ground.phase }, { on := 10, ground := Ground.phase }], guard := none }) (v := ?t12_11) rfl (by kernel_rfl) (by kernel_rfl) (by kernel_rfl) (fun _ _ _ h => hQ0 _ _ _ _ _ h) (Or.inl ⟨by rfl, ?yt12_11⟩) (by assumption) ?rt12_11
    case yt12_11 => intro w hSw; (try dsimp only at hSw); go_simp; (try with_reducible rfl)
    try simp only [Act.put, List.setIfInBounds_toArray, List.set_cons_zero, List.set_cons_succ]
    refine wpAnyH_done (by kernel_rfl) ?_ _
    go_wp2
    go_meet
    exact ⟨r, cx + 1, _, _, _, _, _, _, rfl, rfl, by omega, ⟨by have h1 := (PRel.trim HP.out hzs.out.2 hTC.out hTR.out).2; have := hl2.out; omega⟩, F, ⟨(PRel.trim HP.out hzs.out.2 hTC.out hTR.out).1⟩⟩
set_option maxHeartbeats 16000000 in
set_option maxRecDepth 1000000 in
theorem splays_arm2 (g : G6) (w W5 : World) (P B cap : Nat) (mb : Nat → Nat) (n lo up X7 X10 i cx c3 k1 k2 : Nat) (d : Nat → ByteArray) (m : Nat → ByteArray → Bool) (l1 : List ByteArray) (l2 : List S69) (y0 y1 : Int) (y2 : ByteArray) (y3 : List ByteArray) (A1 A2 A3 : Option Addr)
    (hG : Hid (0 ≤ g.f2 ∧ g.f2 ≤ 256 ∧ 1 ≤ g.f3 ∧ g.f3 ≤ 4096)) (hng : Hid (g.f3 = (n : Int) ∧ 1 ≤ n ∧ n ≤ 4096)) (hn100 : n ≤ 100) (hs1 : Hid (w.heap.size + 1 = lo)) (hlo : Hid (w.heap.size < lo)) (hi60 : i ≤ 60) (hcx : cx ≤ 1 + i * 101) (hl2 : Aside0 (l2.length ≤ n + i)) (HP : Aside0 (PRel n d m l1 l2))
    (hw3 : Aside0 (y2.size ≤ maxLen ∧ ∀ s ∈ y3, s.size ≤ maxLen)) (hC3 : Aside0 (Kd.C Kd.string w A3 y3.length y3)) (HJ1 : Aside0 (JAt lo up g n cx d m P B cap mb w.heap.size X7 (.slice A1 l1.length k1) (.slice A2 l2.length k2) l1 l2 w W5)) (hX10 : Hid (up ≤ X10))
    (b10 : Aside0 (W5.heap[X10]? = some (.cells #[.int .i64 y0, .int .i64 y1, .string y2, .slice A3 y3.length c3] 37))) (zz0 : (y0 == 0) = false) (zz1 : (y0 == 1) = false) (h2 : y0 = 2)
    (J K : Act → World → Prop) (Q0 : Exit → Act → World → Prop) (x0 x1 x3 x6 x8 x9 x15 x16 x17 x18 x19 x20 x21 x22 x23 x24 x25 x26 x27 x28 x29 x30 x31 x32 x33 x34 x35 x36 x37 x38 x39 x40 x41 x42 x186 : Value) (u4 u13 u14 u43 u44 u45 u46 u47 u48 u49 u50 u51 u52 u53 u54 u55 u56 u57 u58 u59 u60 u61 u62 u63 u64 u65 u66 u67 u68 u70 u71 u72 u73 u74 u75 u76 u77 u78 u79 u80 u81 u82 u83 u84 u85 u86 u87 u88 u89 u90 u91 u92 u93 u94 u95 u96 u97 u98 u99 u100 u101 u102 u103 u104 u105 u106 u107 u108 u109 u110 u111 u112 u113 u114 u115 u116 u117 u118 u119 u120 u121 u122 u123 u124 u125 u126 u127 u128 u129 u130 u131 u132 u133 u134 u135 u136 u137 u138 u139 u140 u141 u142 u143 u144 u145 u146 u147 u148 u149 u150 u151 u152 u153 u154 u155 u156 u157 u158 u159 u160 u161 u162 u163 u164 u165 u166 u167 u168 u169 u170 u171 u172 u173 u174 u175 u176 u177 u178 u179 u180 u181 u182 u183 u184 u185 : Value)
    (hJ : ∀ a' w', (∃ u4 u11 u12 u13 u14 u43 u44 u45 u46 u47 u48 u49 u50 u51 u52 u53 u54 u55 u56 u57 u58 u59 u60 u61 u62 u63 u64 u65 u66 u67 u68 u70 u71 u72 u73 u74 u75 u76 u77 u78 u79 u80 u81 u82 u83 u84 u85 u86 u87 u88 u89 u90 u91 u92 u93 u94 u95 u96 u97 u98 u99 u100 u101 u102 u103 u104 u105 u106 u107 u108 u109 u110 u111 u112 u113 u114 u115 u116 u117 u118 u119 u120 u121 u122 u123 u124 u125 u126 u127 u128 u129 u130 u131 u132 u133 u134 u135 u136 u137 u138 u139 u140 u141 u142 u143 u144 u145 u146 u147 u148 u149 u150 u151 u152 u153 u154 u155 u156 u157 u158 u159 u160 u161 u162 u163 u164 u165 u166 u167 u168 u169 u170 u171 u172 u173 u174 u175 u176 u177 u178 u179 u180 u181 u182 u183 u184 u185 : Value, (∃ (r : Int) (cx' : Nat) (d' : Nat → ByteArray) (m' : Nat → ByteArray → Bool) (v1' v2' : Value) (l1' : List ByteArray) (l2' : List S69), u11 = .int .i64 r ∧ u12 = .int .i64 r ∧ cx' ≤ 1 + (i + 1) * 101 ∧ Aside0 (l2'.length ≤ n + (i + 1)) ∧ Aside0 (JAt lo up g n cx' d' m' P B cap mb w.heap.size X7 v1' v2' l1' l2' w w') ∧ Aside0 (PRel n d' m' l1' l2')) ∧ a' = (⟨#[x0, x1, (.pointer (some ⟨w.heap.size, 0, none⟩)), x3, u4, (.pointer (some ⟨P, 0, none⟩)), x6, (.pointer (some ⟨X7, 0, none⟩)), x8, x9, (.pointer (some ⟨X10, 0, none⟩)), u11, u12, u13, u14, x15, x16, x17, x18, x19, x20, x21, x22, x23, x24, x25, x26, x27, x28, x29, x30, x31, x32, x33, x34, x35, x36, x37, x38, x39, x40, x41, x42, u43, u44, u45, u46, u47, u48, u49, u50, u51, u52, u53, u54, u55, u56, u57, u58, u59, u60, u61, u62, u63, u64, u65, u66, u67, u68, (.int .i64 y0), u70, u71, u72, u73, u74, u75, u76, u77, u78, u79, u80, u81, u82, u83, u84, u85, u86, u87, u88, u89, u90, u91, u92, u93, u94, u95, u96, u97, u98, u99, u100, u101, u102, u103, u104, u105, u106, u107, u108, u109, u110, u111, u112, u113, u114, u115, u116, u117, u118, u119, u120, u121, u122, u123, u124, u125, u126, u127, u128, u129, u130, u131, u132, u133, u134, u135, u136, u137, u138, u139, u140, u141, u142, u143, u144, u145, u146, u147, u148, u149, u150, u151, u152, u153, u154, u155, u156, u157, u158, u159, u160, u161, u162, u163, u164, u165, u166, u167, u168, u169, u170, u171, u172, u173, u174, u175, u176, u177, u178, u179, u180, u181, u182, u183, u184, u185, x186], []⟩ : Act)) → J a' w') (hQ0 : ∀ (p) (a : Act) (dd : Nat) (v) (w'), Q0 (.panic p) (a.put (some dd) v) w' → Q0 (.panic p) a w') (hK : ∀ a' w', Met J a' w' → K a' w') :
    Code.wp Try.prog splaysSw (Exit.then K Q0) ⟨#[x0, x1, (.pointer (some ⟨w.heap.size, 0, none⟩)), x3, u4, (.pointer (some ⟨P, 0, none⟩)), x6, (.pointer (some ⟨X7, 0, none⟩)), x8, x9, (.pointer (some ⟨X10, 0, none⟩)), (.int .i64 0), (.int .i64 0), u13, u14, x15, x16, x17, x18, x19, x20, x21, x22, x23, x24, x25, x26, x27, x28, x29, x30, x31, x32, x33, x34, x35, x36, x37, x38, x39, x40, x41, x42, u43, u44, u45, u46, u47, u48, u49, u50, u51, u52, u53, u54, u55, u56, u57, u58, u59, u60, u61, u62, u63, u64, u65, u66, u67, u68, (.int .i64 y0), u70, u71, u72, u73, u74, u75, u76, u77, u78, u79, u80, u81, u82, u83, u84, u85, u86, u87, u88, u89, u90, u91, u92, u93, u94, u95, u96, u97, u98, u99, u100, u101, u102, u103, u104, u105, u106, u107, u108, u109, u110, u111, u112, u113, u114, u115, u116, u117, u118, u119, u120, u121, u122, u123, u124, u125, u126, u127, u128, u129, u130, u131, u132, u133, u134, u135, u136, u137, u138, u139, u140, u141, u142, u143, u144, u145, u146, u147, u148, u149, u150, u151, u152, u153, u154, u155, u156, u157, u158, u159, u160, u161, u162, u163, u164, u165, u166, u167, u168, u169, u170, u171, u172, u173, u174, u175, u176, u177, u178, u179, u180, u181, u182, u183, u184, u185, x186], []⟩ W5 := by
  conv => arg 2; whnf
  have hu23 := Try.underlying23
  have g0 := blk_cell b10.out 0
  have g1 := blk_cell b10.out 1
  have g2 := blk_cell b10.out 2
  have g3 := blk_cell b10.out 3
  subst h2
  by_cases hc : issC n g y1 y2 = 0
  · obtain ⟨j, rfl, hj, hsz⟩ := issC_zero hc
    have q8 := Lib.hid (issue_at (Aside0.mk HJ1.out.s) j hj y2 hsz hw3.out.1 (by omega))
    clear hc
    go_wp2_with fail
    refine q8.out.mono ?_
    rintro e w5 ⟨rfl, hA⟩
    have HJ5 := Aside0.mk (HJ1.out.code hA.out.1 hA.out.2)
    have b5 := (hA.out.2.block X10 (blk_lt b10.out) (fun h => by have := h.2; have := hX10.out; omega)).trans b10.out
    have c1' : w5.cell? ⟨X10, 1, none⟩ = some (.int .i64 (j : Int)) := blk_cell b5 1
    have c2' : w5.cell? ⟨X10, 2, none⟩ = some (.string y2) := blk_cell b5 2
    obtain ⟨d0, d1, d2, d3, d4, d5, d6, d7⟩ := cells8 HJ5.out.b7
    have q9 := Lib.hid (rissue_at (g := g) (Aside0.mk HJ5.out.r) j (by rw [HP.out.len]; exact hj) y2 hsz (by rw [HP.out.len]; omega) (by have := hl2.out; omega))
    unfold encD at q9
    clear q8 hA g0 g1 g2 g3 b5 hsz
    go_wp2_with fail
    refine q9.out.mono ?_
    rintro e w6 ⟨v2', rfl, HR6, hb6⟩
    obtain ⟨A6, k6, he⟩ := Kd.R_slice HR6.out.r2
    rw [List.length_append, List.length_singleton] at he
    subst he
    obtain ⟨_, h7, _, _⟩ := HJ5.out.turn (Ch.of_below hb6)
    have F := Aside0.mk (HJ5.out.ref (Ch.of_below hb6) HR6.out)
    clear d0  d1  d2  d3  d4  d5  d6  d7 c1' c2' q9 HR6 hb6 HJ5
    obtain ⟨e0, e1, e2, e3, e4, e5, e6, e7⟩ := cells8 h7
    obtain ⟨f0, f1, f2, f3, f4, f5, f6, f7⟩ := frozen8 h7
    clear h7
    go_wp2
    go_meet
    exact ⟨0, cx + 1, _, _, _, _, _, _, rfl, rfl, by omega, ⟨by rw [List.length_append, List.length_singleton]; have := hl2.out; omega⟩, F, ⟨HP.out.issue hj y2⟩⟩
  · have q8 := Lib.hid (issue_no (Aside0.mk HJ1.out.s) y1 y2 hc)
    have q9 := Lib.hid (rissue_no (g := g) (Aside0.mk HJ1.out.r) y1 y2 (issC n g y1 y2) (by rw [HP.out.len]) hc)
    generalize issC n g y1 y2 = r at *
    unfold encD at q9
    clear hc
    obtain ⟨d0, d1, d2, d3, d4, d5, d6, d7⟩ := cells8 HJ1.out.b7
    go_wp2_with fail
    refine q8.out.mono ?_
    rintro e w5 ⟨rfl, rfl⟩
    clear q8
    go_wp2_with fail
    refine q9.out.mono ?_
    rintro e w6 ⟨rfl, hb6⟩
    obtain ⟨_, h7, _, _⟩ := HJ1.out.turn (Ch.of_below hb6)
    have F := Aside0.mk (HJ1.out.ref (Ch.of_below hb6) (HJ1.out.r.below hb6))
    clear d0  d1  d2  d3  d4  d5  d6  d7 q9 hb6 g0 g1 g2 g3
    obtain ⟨e0, e1, e2, e3, e4, e5, e6, e7⟩ := cells8 h7
    obtain ⟨f0, f1, f2, f3, f4, f5, f6, f7⟩ := frozen8 h7
    clear h7
    go_wp2
    go_meet
    exact ⟨r, cx, _, _, _, _, _, _, rfl, rfl, by omega, ⟨by have := hl2.out; omega⟩, F, HP⟩
set_option maxHeartbeats 16000000 in
set_option maxRecDepth 1000000 in
theorem splays_arm3 (g : G6) (w W5 : World) (P B cap : Nat) (mb : Nat → Nat) (n lo up X7 X10 i cx c3 k1 k2 : Nat) (d : Nat → ByteArray) (m : Nat → ByteArray → Bool) (l1 : List ByteArray) (l2 : List S69) (y0 y1 : Int) (y2 : ByteArray) (y3 : List ByteArray) (A1 A2 A3 : Option Addr)
    (hG : Hid (0 ≤ g.f2 ∧ g.f2 ≤ 256 ∧ 1 ≤ g.f3 ∧ g.f3 ≤ 4096)) (hng : Hid (g.f3 = (n : Int) ∧ 1 ≤ n ∧ n ≤ 4096)) (hn100 : n ≤ 100) (hs1 : Hid (w.heap.size + 1 = lo)) (hlo : Hid (w.heap.size < lo)) (hi60 : i ≤ 60) (hcx : cx ≤ 1 + i * 101) (hl2 : Aside0 (l2.length ≤ n + i)) (HP : Aside0 (PRel n d m l1 l2))
    (hw3 : Aside0 (y2.size ≤ maxLen ∧ ∀ s ∈ y3, s.size ≤ maxLen)) (hC3 : Aside0 (Kd.C Kd.string w A3 y3.length y3)) (HJ1 : Aside0 (JAt lo up g n cx d m P B cap mb w.heap.size X7 (.slice A1 l1.length k1) (.slice A2 l2.length k2) l1 l2 w W5)) (hX10 : Hid (up ≤ X10))
    (b10 : Aside0 (W5.heap[X10]? = some (.cells #[.int .i64 y0, .int .i64 y1, .string y2, .slice A3 y3.length c3] 37))) (zz0 : (y0 == 0) = false) (zz1 : (y0 == 1) = false) (zz2 : (y0 == 2) = false) (h3 : y0 = 3)
    (J K : Act → World → Prop) (Q0 : Exit → Act → World → Prop) (x0 x1 x3 x6 x8 x9 x15 x16 x17 x18 x19 x20 x21 x22 x23 x24 x25 x26 x27 x28 x29 x30 x31 x32 x33 x34 x35 x36 x37 x38 x39 x40 x41 x42 x186 : Value) (u4 u13 u14 u43 u44 u45 u46 u47 u48 u49 u50 u51 u52 u53 u54 u55 u56 u57 u58 u59 u60 u61 u62 u63 u64 u65 u66 u67 u68 u70 u71 u72 u73 u74 u75 u76 u77 u78 u79 u80 u81 u82 u83 u84 u85 u86 u87 u88 u89 u90 u91 u92 u93 u94 u95 u96 u97 u98 u99 u100 u101 u102 u103 u104 u105 u106 u107 u108 u109 u110 u111 u112 u113 u114 u115 u116 u117 u118 u119 u120 u121 u122 u123 u124 u125 u126 u127 u128 u129 u130 u131 u132 u133 u134 u135 u136 u137 u138 u139 u140 u141 u142 u143 u144 u145 u146 u147 u148 u149 u150 u151 u152 u153 u154 u155 u156 u157 u158 u159 u160 u161 u162 u163 u164 u165 u166 u167 u168 u169 u170 u171 u172 u173 u174 u175 u176 u177 u178 u179 u180 u181 u182 u183 u184 u185 : Value)
    (hJ : ∀ a' w', (∃ u4 u11 u12 u13 u14 u43 u44 u45 u46 u47 u48 u49 u50 u51 u52 u53 u54 u55 u56 u57 u58 u59 u60 u61 u62 u63 u64 u65 u66 u67 u68 u70 u71 u72 u73 u74 u75 u76 u77 u78 u79 u80 u81 u82 u83 u84 u85 u86 u87 u88 u89 u90 u91 u92 u93 u94 u95 u96 u97 u98 u99 u100 u101 u102 u103 u104 u105 u106 u107 u108 u109 u110 u111 u112 u113 u114 u115 u116 u117 u118 u119 u120 u121 u122 u123 u124 u125 u126 u127 u128 u129 u130 u131 u132 u133 u134 u135 u136 u137 u138 u139 u140 u141 u142 u143 u144 u145 u146 u147 u148 u149 u150 u151 u152 u153 u154 u155 u156 u157 u158 u159 u160 u161 u162 u163 u164 u165 u166 u167 u168 u169 u170 u171 u172 u173 u174 u175 u176 u177 u178 u179 u180 u181 u182 u183 u184 u185 : Value, (∃ (r : Int) (cx' : Nat) (d' : Nat → ByteArray) (m' : Nat → ByteArray → Bool) (v1' v2' : Value) (l1' : List ByteArray) (l2' : List S69), u11 = .int .i64 r ∧ u12 = .int .i64 r ∧ cx' ≤ 1 + (i + 1) * 101 ∧ Aside0 (l2'.length ≤ n + (i + 1)) ∧ Aside0 (JAt lo up g n cx' d' m' P B cap mb w.heap.size X7 v1' v2' l1' l2' w w') ∧ Aside0 (PRel n d' m' l1' l2')) ∧ a' = (⟨#[x0, x1, (.pointer (some ⟨w.heap.size, 0, none⟩)), x3, u4, (.pointer (some ⟨P, 0, none⟩)), x6, (.pointer (some ⟨X7, 0, none⟩)), x8, x9, (.pointer (some ⟨X10, 0, none⟩)), u11, u12, u13, u14, x15, x16, x17, x18, x19, x20, x21, x22, x23, x24, x25, x26, x27, x28, x29, x30, x31, x32, x33, x34, x35, x36, x37, x38, x39, x40, x41, x42, u43, u44, u45, u46, u47, u48, u49, u50, u51, u52, u53, u54, u55, u56, u57, u58, u59, u60, u61, u62, u63, u64, u65, u66, u67, u68, (.int .i64 y0), u70, u71, u72, u73, u74, u75, u76, u77, u78, u79, u80, u81, u82, u83, u84, u85, u86, u87, u88, u89, u90, u91, u92, u93, u94, u95, u96, u97, u98, u99, u100, u101, u102, u103, u104, u105, u106, u107, u108, u109, u110, u111, u112, u113, u114, u115, u116, u117, u118, u119, u120, u121, u122, u123, u124, u125, u126, u127, u128, u129, u130, u131, u132, u133, u134, u135, u136, u137, u138, u139, u140, u141, u142, u143, u144, u145, u146, u147, u148, u149, u150, u151, u152, u153, u154, u155, u156, u157, u158, u159, u160, u161, u162, u163, u164, u165, u166, u167, u168, u169, u170, u171, u172, u173, u174, u175, u176, u177, u178, u179, u180, u181, u182, u183, u184, u185, x186], []⟩ : Act)) → J a' w') (hQ0 : ∀ (p) (a : Act) (dd : Nat) (v) (w'), Q0 (.panic p) (a.put (some dd) v) w' → Q0 (.panic p) a w') (hK : ∀ a' w', Met J a' w' → K a' w') :
    Code.wp Try.prog splaysSw (Exit.then K Q0) ⟨#[x0, x1, (.pointer (some ⟨w.heap.size, 0, none⟩)), x3, u4, (.pointer (some ⟨P, 0, none⟩)), x6, (.pointer (some ⟨X7, 0, none⟩)), x8, x9, (.pointer (some ⟨X10, 0, none⟩)), (.int .i64 0), (.int .i64 0), u13, u14, x15, x16, x17, x18, x19, x20, x21, x22, x23, x24, x25, x26, x27, x28, x29, x30, x31, x32, x33, x34, x35, x36, x37, x38, x39, x40, x41, x42, u43, u44, u45, u46, u47, u48, u49, u50, u51, u52, u53, u54, u55, u56, u57, u58, u59, u60, u61, u62, u63, u64, u65, u66, u67, u68, (.int .i64 y0), u70, u71, u72, u73, u74, u75, u76, u77, u78, u79, u80, u81, u82, u83, u84, u85, u86, u87, u88, u89, u90, u91, u92, u93, u94, u95, u96, u97, u98, u99, u100, u101, u102, u103, u104, u105, u106, u107, u108, u109, u110, u111, u112, u113, u114, u115, u116, u117, u118, u119, u120, u121, u122, u123, u124, u125, u126, u127, u128, u129, u130, u131, u132, u133, u134, u135, u136, u137, u138, u139, u140, u141, u142, u143, u144, u145, u146, u147, u148, u149, u150, u151, u152, u153, u154, u155, u156, u157, u158, u159, u160, u161, u162, u163, u164, u165, u166, u167, u168, u169, u170, u171, u172, u173, u174, u175, u176, u177, u178, u179, u180, u181, u182, u183, u184, u185, x186], []⟩ W5 := by
  conv => arg 2; whnf
  have hu23 := Try.underlying23
  have g0 := blk_cell b10.out 0
  have g1 := blk_cell b10.out 1
  have g2 := blk_cell b10.out 2
  have g3 := blk_cell b10.out 3
  subst h3
  have q8 := Lib.hid (flush_calls (Aside0.mk HJ1.out.s) ⟨HP.out.size⟩ (by omega))
  go_wp2_with fail
  refine q8.out.mono ?_
  rintro e w5 ⟨rfl, hA⟩
  have HJ5 := Aside0.mk (HJ1.out.code hA.out.1 hA.out.2)
  obtain ⟨d0, d1, d2, d3, d4, d5, d6, d7⟩ := cells8 HJ5.out.b7
  have q9 := Lib.hid (rflush (g := g) HJ5.out.bel (by have h1 := HJ5.out.up_le; have h2 := HJ5.out.lz; omega) (Aside0.mk HJ5.out.r) (by rw [HP.out.len]; omega))
  unfold encD at q9
  have hev := Lib.hid (show evOf l1 l1.length = evOf l1 n from by rw [HP.out.len])
  rw [hev.out] at q9
  have hel := Lib.hid (evOf_len l1 n)
  have hp9 := Aside0.mk HP.out.flush
  generalize evOf l1 n = ev at *
  clear q8 hA g0 g1 g2 g3 hev
  go_wp2_with fail
  refine q9.out.mono ?_
  rintro e w6 ⟨v1', v2', rfl, HR6, hC6⟩
  obtain ⟨A5, k5, he⟩ := Kd.R_slice HR6.out.r1
  subst he
  obtain ⟨A6, k6, he⟩ := Kd.R_slice HR6.out.r2
  subst he
  obtain ⟨_, h7, _, _⟩ := HJ5.out.turn hC6.out
  have F := Aside0.mk (HJ5.out.ref hC6.out HR6.out)
  clear d0  d1  d2  d3  d4  d5  d6  d7 q9 HR6 hC6 HJ5
  obtain ⟨e0, e1, e2, e3, e4, e5, e6, e7⟩ := cells8 h7
  obtain ⟨f0, f1, f2, f3, f4, f5, f6, f7⟩ := frozen8 h7
  clear h7
  go_wp2
  go_meet
  exact ⟨0, cx + n, _, _, _, _, _, _, rfl, rfl, by omega, ⟨by have := hel.out; omega⟩, F, hp9⟩
set_option maxHeartbeats 16000000 in
set_option maxRecDepth 1000000 in
theorem splays_arm4 (g : G6) (w W5 : World) (P B cap : Nat) (mb : Nat → Nat) (n lo up X7 X10 i cx c3 k1 k2 : Nat) (d : Nat → ByteArray) (m : Nat → ByteArray → Bool) (l1 : List ByteArray) (l2 : List S69) (y0 y1 : Int) (y2 : ByteArray) (y3 : List ByteArray) (A1 A2 A3 : Option Addr)
    (hG : Hid (0 ≤ g.f2 ∧ g.f2 ≤ 256 ∧ 1 ≤ g.f3 ∧ g.f3 ≤ 4096)) (hng : Hid (g.f3 = (n : Int) ∧ 1 ≤ n ∧ n ≤ 4096)) (hn100 : n ≤ 100) (hs1 : Hid (w.heap.size + 1 = lo)) (hlo : Hid (w.heap.size < lo)) (hi60 : i ≤ 60) (hcx : cx ≤ 1 + i * 101) (hl2 : Aside0 (l2.length ≤ n + i)) (HP : Aside0 (PRel n d m l1 l2))
    (hw3 : Aside0 (y2.size ≤ maxLen ∧ ∀ s ∈ y3, s.size ≤ maxLen)) (hC3 : Aside0 (Kd.C Kd.string w A3 y3.length y3)) (HJ1 : Aside0 (JAt lo up g n cx d m P B cap mb w.heap.size X7 (.slice A1 l1.length k1) (.slice A2 l2.length k2) l1 l2 w W5)) (hX10 : Hid (up ≤ X10))
    (b10 : Aside0 (W5.heap[X10]? = some (.cells #[.int .i64 y0, .int .i64 y1, .string y2, .slice A3 y3.length c3] 37))) (zz0 : (y0 == 0) = false) (zz1 : (y0 == 1) = false) (zz2 : (y0 == 2) = false) (zz3 : (y0 == 3) = false) (h4 : y0 = 4)
    (J K : Act → World → Prop) (Q0 : Exit → Act → World → Prop) (x0 x1 x3 x6 x8 x9 x15 x16 x17 x18 x19 x20 x21 x22 x23 x24 x25 x26 x27 x28 x29 x30 x31 x32 x33 x34 x35 x36 x37 x38 x39 x40 x41 x42 x186 : Value) (u4 u13 u14 u43 u44 u45 u46 u47 u48 u49 u50 u51 u52 u53 u54 u55 u56 u57 u58 u59 u60 u61 u62 u63 u64 u65 u66 u67 u68 u70 u71 u72 u73 u74 u75 u76 u77 u78 u79 u80 u81 u82 u83 u84 u85 u86 u87 u88 u89 u90 u91 u92 u93 u94 u95 u96 u97 u98 u99 u100 u101 u102 u103 u104 u105 u106 u107 u108 u109 u110 u111 u112 u113 u114 u115 u116 u117 u118 u119 u120 u121 u122 u123 u124 u125 u126 u127 u128 u129 u130 u131 u132 u133 u134 u135 u136 u137 u138 u139 u140 u141 u142 u143 u144 u145 u146 u147 u148 u149 u150 u151 u152 u153 u154 u155 u156 u157 u158 u159 u160 u161 u162 u163 u164 u165 u166 u167 u168 u169 u170 u171 u172 u173 u174 u175 u176 u177 u178 u179 u180 u181 u182 u183 u184 u185 : Value)
    (hJ : ∀ a' w', (∃ u4 u11 u12 u13 u14 u43 u44 u45 u46 u47 u48 u49 u50 u51 u52 u53 u54 u55 u56 u57 u58 u59 u60 u61 u62 u63 u64 u65 u66 u67 u68 u70 u71 u72 u73 u74 u75 u76 u77 u78 u79 u80 u81 u82 u83 u84 u85 u86 u87 u88 u89 u90 u91 u92 u93 u94 u95 u96 u97 u98 u99 u100 u101 u102 u103 u104 u105 u106 u107 u108 u109 u110 u111 u112 u113 u114 u115 u116 u117 u118 u119 u120 u121 u122 u123 u124 u125 u126 u127 u128 u129 u130 u131 u132 u133 u134 u135 u136 u137 u138 u139 u140 u141 u142 u143 u144 u145 u146 u147 u148 u149 u150 u151 u152 u153 u154 u155 u156 u157 u158 u159 u160 u161 u162 u163 u164 u165 u166 u167 u168 u169 u170 u171 u172 u173 u174 u175 u176 u177 u178 u179 u180 u181 u182 u183 u184 u185 : Value, (∃ (r : Int) (cx' : Nat) (d' : Nat → ByteArray) (m' : Nat → ByteArray → Bool) (v1' v2' : Value) (l1' : List ByteArray) (l2' : List S69), u11 = .int .i64 r ∧ u12 = .int .i64 r ∧ cx' ≤ 1 + (i + 1) * 101 ∧ Aside0 (l2'.length ≤ n + (i + 1)) ∧ Aside0 (JAt lo up g n cx' d' m' P B cap mb w.heap.size X7 v1' v2' l1' l2' w w') ∧ Aside0 (PRel n d' m' l1' l2')) ∧ a' = (⟨#[x0, x1, (.pointer (some ⟨w.heap.size, 0, none⟩)), x3, u4, (.pointer (some ⟨P, 0, none⟩)), x6, (.pointer (some ⟨X7, 0, none⟩)), x8, x9, (.pointer (some ⟨X10, 0, none⟩)), u11, u12, u13, u14, x15, x16, x17, x18, x19, x20, x21, x22, x23, x24, x25, x26, x27, x28, x29, x30, x31, x32, x33, x34, x35, x36, x37, x38, x39, x40, x41, x42, u43, u44, u45, u46, u47, u48, u49, u50, u51, u52, u53, u54, u55, u56, u57, u58, u59, u60, u61, u62, u63, u64, u65, u66, u67, u68, (.int .i64 y0), u70, u71, u72, u73, u74, u75, u76, u77, u78, u79, u80, u81, u82, u83, u84, u85, u86, u87, u88, u89, u90, u91, u92, u93, u94, u95, u96, u97, u98, u99, u100, u101, u102, u103, u104, u105, u106, u107, u108, u109, u110, u111, u112, u113, u114, u115, u116, u117, u118, u119, u120, u121, u122, u123, u124, u125, u126, u127, u128, u129, u130, u131, u132, u133, u134, u135, u136, u137, u138, u139, u140, u141, u142, u143, u144, u145, u146, u147, u148, u149, u150, u151, u152, u153, u154, u155, u156, u157, u158, u159, u160, u161, u162, u163, u164, u165, u166, u167, u168, u169, u170, u171, u172, u173, u174, u175, u176, u177, u178, u179, u180, u181, u182, u183, u184, u185, x186], []⟩ : Act)) → J a' w') (hQ0 : ∀ (p) (a : Act) (dd : Nat) (v) (w'), Q0 (.panic p) (a.put (some dd) v) w' → Q0 (.panic p) a w') (hK : ∀ a' w', Met J a' w' → K a' w') :
    Code.wp Try.prog splaysSw (Exit.then K Q0) ⟨#[x0, x1, (.pointer (some ⟨w.heap.size, 0, none⟩)), x3, u4, (.pointer (some ⟨P, 0, none⟩)), x6, (.pointer (some ⟨X7, 0, none⟩)), x8, x9, (.pointer (some ⟨X10, 0, none⟩)), (.int .i64 0), (.int .i64 0), u13, u14, x15, x16, x17, x18, x19, x20, x21, x22, x23, x24, x25, x26, x27, x28, x29, x30, x31, x32, x33, x34, x35, x36, x37, x38, x39, x40, x41, x42, u43, u44, u45, u46, u47, u48, u49, u50, u51, u52, u53, u54, u55, u56, u57, u58, u59, u60, u61, u62, u63, u64, u65, u66, u67, u68, (.int .i64 y0), u70, u71, u72, u73, u74, u75, u76, u77, u78, u79, u80, u81, u82, u83, u84, u85, u86, u87, u88, u89, u90, u91, u92, u93, u94, u95, u96, u97, u98, u99, u100, u101, u102, u103, u104, u105, u106, u107, u108, u109, u110, u111, u112, u113, u114, u115, u116, u117, u118, u119, u120, u121, u122, u123, u124, u125, u126, u127, u128, u129, u130, u131, u132, u133, u134, u135, u136, u137, u138, u139, u140, u141, u142, u143, u144, u145, u146, u147, u148, u149, u150, u151, u152, u153, u154, u155, u156, u157, u158, u159, u160, u161, u162, u163, u164, u165, u166, u167, u168, u169, u170, u171, u172, u173, u174, u175, u176, u177, u178, u179, u180, u181, u182, u183, u184, u185, x186], []⟩ W5 := by
  conv => arg 2; whnf
  have hu23 := Try.underlying23
  have g0 := blk_cell b10.out 0
  have g1 := blk_cell b10.out 1
  have g2 := blk_cell b10.out 2
  have g3 := blk_cell b10.out 3
  subst h4
  by_cases hlen : y3.length = n
  · have hC9 := Lib.hid (fun (w' : World) (hb : Below w.heap.size w w') => Kd.C_below hC3.out hb)
    have q8 := Lib.hid (cut_calls (Aside0.mk HJ1.out.s) A3 c3 y3 hlen ⟨fun wr' hC => hC9.out wr' (HJ1.out.bel.trans (hC.below HJ1.out.bel.size (fun k hk => Nat.le_trans HJ1.out.lz hk.1)))⟩ ⟨hw3.out.2⟩ (by omega))
    have hln := Lib.hid (show y3.length = l1.length from by rw [hlen, HP.out.len])
    replace hlen := Lib.hid hlen
    go_wp2_with fail
    refine q8.out.mono ?_
    rintro e w5 ⟨r, rfl, hR⟩
    cases hR with
    | no ii hii hmf =>
      have q9 := Lib.hid (rcut (g := g) (w0 := w) ⟨HJ1.out.bel⟩ (by have h1 := HJ1.out.up_le; have h2 := HJ1.out.lz; omega) (Aside0.mk HJ1.out.r) A3 c3 y3 hln.out ⟨hC9.out _ HJ1.out.bel⟩ (by rw [HP.out.len]; omega) (by have := hl2.out; omega))
      have hno := Lib.hid (And.intro hii (And.intro hmf trivial))
      unfold encD at q9
      obtain ⟨d0, d1, d2, d3, d4, d5, d6, d7⟩ := cells8 HJ1.out.b7
      clear q8 hii hmf g0 g1 g2
      go_wp2_with fail
      refine q9.out.mono ?_
      rintro e w6 ⟨r, v1', v2', l1', l2', rfl, HR6, hb6, hRC⟩
      rcases hRC.out with ⟨rfl, rfl, rfl, _⟩ | ⟨_, _, _, hall⟩
      · obtain ⟨A5, k5, he⟩ := Kd.R_slice HR6.out.r1
        subst he
        obtain ⟨A6, k6, he⟩ := Kd.R_slice HR6.out.r2
        subst he
        obtain ⟨_, h7, _, _⟩ := HJ1.out.turn (Ch.of_below hb6)
        have F := Aside0.mk (HJ1.out.ref (Ch.of_below hb6) HR6.out)
        clear d0  d1  d2  d3  d4  d5  d6  d7 q9 HR6 hb6 hRC g3
        obtain ⟨e0, e1, e2, e3, e4, e5, e6, e7⟩ := cells8 h7
        obtain ⟨f0, f1, f2, f3, f4, f5, f6, f7⟩ := frozen8 h7
        clear h7
        go_wp2
        go_meet
        exact ⟨5, cx, _, _, _, _, _, _, rfl, rfl, by omega, ⟨by have := hl2.out; omega⟩, F, HP⟩
      · exfalso
        have h1 := hall ii (by rw [hlen.out]; exact hno.out.1)
        rw [← HP.out.may ii hno.out.1, hno.out.2.1] at h1
        exact absurd h1 (by decide)
    | yes w5' hall hA hC =>
      have HJ5 := Aside0.mk (HJ1.out.code hA hC)
      have b5 := (hC.block X10 (blk_lt b10.out) (fun h => by have := h.2; have := hX10.out; omega)).trans b10.out
      have c3' : w5.cell? ⟨X10, 3, none⟩ = some (.slice A3 y3.length c3) := blk_cell b5 3
      have q9 := Lib.hid (rcut (g := g) (w0 := w) ⟨HJ5.out.bel⟩ (by have h1 := HJ1.out.up_le; have h2 := HJ1.out.lz; omega) (Aside0.mk HJ5.out.r) A3 c3 y3 hln.out ⟨hC9.out _ HJ5.out.bel⟩ (by rw [HP.out.len]; omega) (by have := hl2.out; omega))
      have hall' := Lib.hid hall
      have hp9 := Aside0.mk (PRel.cut (d := d) (m := m) hlen.out hw3.out.2)
      unfold encD at q9
      obtain ⟨d0, d1, d2, d3, d4, d5, d6, d7⟩ := cells8 HJ5.out.b7
      clear q8 hall hA hC g0 g1 g2 g3 b5
      go_wp2_with fail
      refine q9.out.mono ?_
      rintro e w6 ⟨r, v1', v2', l1', l2', rfl, HR6, hb6, hRC⟩
      rcases hRC.out with ⟨_, _, _, ii, hii, hmf⟩ | ⟨rfl, rfl, h2e, _⟩
      · exfalso
        have h0 : ii < n := by rw [← hlen.out]; exact hii
        rw [← HP.out.may ii h0, hall'.out ii h0] at hmf
        exact absurd hmf (by decide)
      · obtain ⟨A5, k5, he⟩ := Kd.R_slice HR6.out.r1
        subst he
        obtain ⟨A6, k6, he⟩ := Kd.R_slice HR6.out.r2
        subst he
        obtain ⟨_, h7, _, _⟩ := HJ5.out.turn (Ch.of_below hb6)
        have F := Aside0.mk (HJ5.out.ref (Ch.of_below hb6) HR6.out)
        replace h2e := Lib.hid h2e
        clear d0  d1  d2  d3  d4  d5  d6  d7 q9 HR6 hb6 hRC c3' HJ5
        obtain ⟨e0, e1, e2, e3, e4, e5, e6, e7⟩ := cells8 h7
        obtain ⟨f0, f1, f2, f3, f4, f5, f6, f7⟩ := frozen8 h7
        clear h7
        go_wp2
        go_meet
        exact ⟨0, cx + n, _, _, _, _, _, _, rfl, rfl, by omega, ⟨by rw [h2e.out, evOf_len, hlen.out]; omega⟩, F, ⟨by rw [h2e.out, hlen.out]; exact hp9.out⟩⟩
  · have q8 := Lib.hid (cut_len (Aside0.mk HJ1.out.s) A3 c3 y3 hlen)
    have q9 := Lib.hid (rcut_len (g := g) (Aside0.mk HJ1.out.r) A3 c3 y3 (by rw [HP.out.len]; exact hlen))
    clear hlen
    unfold encD at q9
    obtain ⟨d0, d1, d2, d3, d4, d5, d6, d7⟩ := cells8 HJ1.out.b7
    go_wp2_with fail
    refine q8.out.mono ?_
    rintro e w5 ⟨rfl, rfl⟩
    clear q8
    go_wp2_with fail
    refine q9.out.mono ?_
    rintro e w6 ⟨rfl, hb6⟩
    obtain ⟨_, h7, _, _⟩ := HJ1.out.turn (Ch.of_below hb6)
    have F := Aside0.mk (HJ1.out.ref (Ch.of_below hb6) (HJ1.out.r.below hb6))
    clear d0  d1  d2  d3  d4  d5  d6  d7 q9 hb6 g0 g1 g2 g3
    obtain ⟨e0, e1, e2, e3, e4, e5, e6, e7⟩ := cells8 h7
    obtain ⟨f0, f1, f2, f3, f4, f5, f6, f7⟩ := frozen8 h7
    clear h7
    go_wp2
    go_meet
    exact ⟨4, cx, _, _, _, _, _, _, rfl, rfl, by omega, ⟨by have := hl2.out; omega⟩, F, HP⟩
set_option maxHeartbeats 16000000 in
set_option maxRecDepth 1000000 in
theorem splays_arm5 (g : G6) (w W5 : World) (P B cap : Nat) (mb : Nat → Nat) (n lo up X7 X10 i cx c3 k1 k2 : Nat) (d : Nat → ByteArray) (m : Nat → ByteArray → Bool) (l1 : List ByteArray) (l2 : List S69) (y0 y1 : Int) (y2 : ByteArray) (y3 : List ByteArray) (A1 A2 A3 : Option Addr)
    (hG : Hid (0 ≤ g.f2 ∧ g.f2 ≤ 256 ∧ 1 ≤ g.f3 ∧ g.f3 ≤ 4096)) (hng : Hid (g.f3 = (n : Int) ∧ 1 ≤ n ∧ n ≤ 4096)) (hn100 : n ≤ 100) (hs1 : Hid (w.heap.size + 1 = lo)) (hlo : Hid (w.heap.size < lo)) (hi60 : i ≤ 60) (hcx : cx ≤ 1 + i * 101) (hl2 : Aside0 (l2.length ≤ n + i)) (HP : Aside0 (PRel n d m l1 l2))
    (hw3 : Aside0 (y2.size ≤ maxLen ∧ ∀ s ∈ y3, s.size ≤ maxLen)) (hC3 : Aside0 (Kd.C Kd.string w A3 y3.length y3)) (HJ1 : Aside0 (JAt lo up g n cx d m P B cap mb w.heap.size X7 (.slice A1 l1.length k1) (.slice A2 l2.length k2) l1 l2 w W5)) (hX10 : Hid (up ≤ X10))
    (b10 : Aside0 (W5.heap[X10]? = some (.cells #[.int .i64 y0, .int .i64 y1, .string y2, .slice A3 y3.length c3] 37))) (zz0 : (y0 == 0) = false) (zz1 : (y0 == 1) = false) (zz2 : (y0 == 2) = false) (zz3 : (y0 == 3) = false) (zz4 : (y0 == 4) = false) (h5 : y0 = 5)
    (J K : Act → World → Prop) (Q0 : Exit → Act → World → Prop) (x0 x1 x3 x6 x8 x9 x15 x16 x17 x18 x19 x20 x21 x22 x23 x24 x25 x26 x27 x28 x29 x30 x31 x32 x33 x34 x35 x36 x37 x38 x39 x40 x41 x42 x186 : Value) (u4 u13 u14 u43 u44 u45 u46 u47 u48 u49 u50 u51 u52 u53 u54 u55 u56 u57 u58 u59 u60 u61 u62 u63 u64 u65 u66 u67 u68 u70 u71 u72 u73 u74 u75 u76 u77 u78 u79 u80 u81 u82 u83 u84 u85 u86 u87 u88 u89 u90 u91 u92 u93 u94 u95 u96 u97 u98 u99 u100 u101 u102 u103 u104 u105 u106 u107 u108 u109 u110 u111 u112 u113 u114 u115 u116 u117 u118 u119 u120 u121 u122 u123 u124 u125 u126 u127 u128 u129 u130 u131 u132 u133 u134 u135 u136 u137 u138 u139 u140 u141 u142 u143 u144 u145 u146 u147 u148 u149 u150 u151 u152 u153 u154 u155 u156 u157 u158 u159 u160 u161 u162 u163 u164 u165 u166 u167 u168 u169 u170 u171 u172 u173 u174 u175 u176 u177 u178 u179 u180 u181 u182 u183 u184 u185 : Value)
    (hJ : ∀ a' w', (∃ u4 u11 u12 u13 u14 u43 u44 u45 u46 u47 u48 u49 u50 u51 u52 u53 u54 u55 u56 u57 u58 u59 u60 u61 u62 u63 u64 u65 u66 u67 u68 u70 u71 u72 u73 u74 u75 u76 u77 u78 u79 u80 u81 u82 u83 u84 u85 u86 u87 u88 u89 u90 u91 u92 u93 u94 u95 u96 u97 u98 u99 u100 u101 u102 u103 u104 u105 u106 u107 u108 u109 u110 u111 u112 u113 u114 u115 u116 u117 u118 u119 u120 u121 u122 u123 u124 u125 u126 u127 u128 u129 u130 u131 u132 u133 u134 u135 u136 u137 u138 u139 u140 u141 u142 u143 u144 u145 u146 u147 u148 u149 u150 u151 u152 u153 u154 u155 u156 u157 u158 u159 u160 u161 u162 u163 u164 u165 u166 u167 u168 u169 u170 u171 u172 u173 u174 u175 u176 u177 u178 u179 u180 u181 u182 u183 u184 u185 : Value, (∃ (r : Int) (cx' : Nat) (d' : Nat → ByteArray) (m' : Nat → ByteArray → Bool) (v1' v2' : Value) (l1' : List ByteArray) (l2' : List S69), u11 = .int .i64 r ∧ u12 = .int .i64 r ∧ cx' ≤ 1 + (i + 1) * 101 ∧ Aside0 (l2'.length ≤ n + (i + 1)) ∧ Aside0 (JAt lo up g n cx' d' m' P B cap mb w.heap.size X7 v1' v2' l1' l2' w w') ∧ Aside0 (PRel n d' m' l1' l2')) ∧ a' = (⟨#[x0, x1, (.pointer (some ⟨w.heap.size, 0, none⟩)), x3, u4, (.pointer (some ⟨P, 0, none⟩)), x6, (.pointer (some ⟨X7, 0, none⟩)), x8, x9, (.pointer (some ⟨X10, 0, none⟩)), u11, u12, u13, u14, x15, x16, x17, x18, x19, x20, x21, x22, x23, x24, x25, x26, x27, x28, x29, x30, x31, x32, x33, x34, x35, x36, x37, x38, x39, x40, x41, x42, u43, u44, u45, u46, u47, u48, u49, u50, u51, u52, u53, u54, u55, u56, u57, u58, u59, u60, u61, u62, u63, u64, u65, u66, u67, u68, (.int .i64 y0), u70, u71, u72, u73, u74, u75, u76, u77, u78, u79, u80, u81, u82, u83, u84, u85, u86, u87, u88, u89, u90, u91, u92, u93, u94, u95, u96, u97, u98, u99, u100, u101, u102, u103, u104, u105, u106, u107, u108, u109, u110, u111, u112, u113, u114, u115, u116, u117, u118, u119, u120, u121, u122, u123, u124, u125, u126, u127, u128, u129, u130, u131, u132, u133, u134, u135, u136, u137, u138, u139, u140, u141, u142, u143, u144, u145, u146, u147, u148, u149, u150, u151, u152, u153, u154, u155, u156, u157, u158, u159, u160, u161, u162, u163, u164, u165, u166, u167, u168, u169, u170, u171, u172, u173, u174, u175, u176, u177, u178, u179, u180, u181, u182, u183, u184, u185, x186], []⟩ : Act)) → J a' w') (hQ0 : ∀ (p) (a : Act) (dd : Nat) (v) (w'), Q0 (.panic p) (a.put (some dd) v) w' → Q0 (.panic p) a w') (hK : ∀ a' w', Met J a' w' → K a' w') :
    Code.wp Try.prog splaysSw (Exit.then K Q0) ⟨#[x0, x1, (.pointer (some ⟨w.heap.size, 0, none⟩)), x3, u4, (.pointer (some ⟨P, 0, none⟩)), x6, (.pointer (some ⟨X7, 0, none⟩)), x8, x9, (.pointer (some ⟨X10, 0, none⟩)), (.int .i64 0), (.int .i64 0), u13, u14, x15, x16, x17, x18, x19, x20, x21, x22, x23, x24, x25, x26, x27, x28, x29, x30, x31, x32, x33, x34, x35, x36, x37, x38, x39, x40, x41, x42, u43, u44, u45, u46, u47, u48, u49, u50, u51, u52, u53, u54, u55, u56, u57, u58, u59, u60, u61, u62, u63, u64, u65, u66, u67, u68, (.int .i64 y0), u70, u71, u72, u73, u74, u75, u76, u77, u78, u79, u80, u81, u82, u83, u84, u85, u86, u87, u88, u89, u90, u91, u92, u93, u94, u95, u96, u97, u98, u99, u100, u101, u102, u103, u104, u105, u106, u107, u108, u109, u110, u111, u112, u113, u114, u115, u116, u117, u118, u119, u120, u121, u122, u123, u124, u125, u126, u127, u128, u129, u130, u131, u132, u133, u134, u135, u136, u137, u138, u139, u140, u141, u142, u143, u144, u145, u146, u147, u148, u149, u150, u151, u152, u153, u154, u155, u156, u157, u158, u159, u160, u161, u162, u163, u164, u165, u166, u167, u168, u169, u170, u171, u172, u173, u174, u175, u176, u177, u178, u179, u180, u181, u182, u183, u184, u185, x186], []⟩ W5 := by
  conv => arg 2; whnf
  have hu23 := Try.underlying23
  have g0 := blk_cell b10.out 0
  have g1 := blk_cell b10.out 1
  have g2 := blk_cell b10.out 2
  have g3 := blk_cell b10.out 3
  subst h5
  cases hin : inR n y1 with
  | true =>
    obtain ⟨j, rfl, hj⟩ := inR_at hin
    have q8 := Lib.hid (read_at (Aside0.mk HJ1.out.s) j hj)
    obtain ⟨aj, e1, sj⟩ := at_str (Kd.R_reads' HJ1.out.r.r1).2.2 j (by rw [HP.out.len]; exact hj)
    subst e1
    have hz1 : decide ((j : Int) < 0) = false := decide_eq_false (by omega)
    have hz2 : decide ((j : Int) ≥ (l1.length : Int)) = false := decide_eq_false (by rw [HP.out.len]; omega)
    have hjl : j < l1.length := by rw [HP.out.len]; exact hj
    have d6 := (cells8 HJ1.out.b7).2.2.2.2.2.2.1
    rw [← HP.out.data j hj] at sj
    generalize hdj : d j = dj at *
    replace hdj := Lib.hid hdj
    clear hin
    go_wp2_with fail
    refine q8.out.mono ?_
    rintro e w5 ⟨rfl, rfl⟩
    go_wp2
    go_meet
    exact ⟨0, cx, _, _, _, _, _, _, rfl, rfl, by omega, ⟨by have := hl2.out; omega⟩, HJ1, HP⟩
  | false =>
    have q8 := Lib.hid (read_out (Aside0.mk HJ1.out.s) y1 hin)
    have d6 := (cells8 HJ1.out.b7).2.2.2.2.2.2.1
    have hnn : ¬ (0 ≤ y1 ∧ y1 < n) := of_decide_eq_false hin
    have hln := HP.out.len
    by_cases hy : y1 < 0
    · have hz1 : decide (y1 < 0) = true := decide_eq_true hy
      clear hin hln hnn
      go_wp2_with fail
      refine q8.out.mono ?_
      rintro e w5 ⟨rfl, rfl⟩
      go_wp2
      go_meet
      exact ⟨1, cx, _, _, _, _, _, _, rfl, rfl, by omega, ⟨by have := hl2.out; omega⟩, HJ1, HP⟩
    · have hz1 : decide (y1 < 0) = false := decide_eq_false hy
      have hz2 : decide (y1 ≥ (l1.length : Int)) = true := decide_eq_true (by omega)
      clear hin hln hnn
      go_wp2_with fail
      refine q8.out.mono ?_
      rintro e w5 ⟨rfl, rfl⟩
      go_wp2
      go_meet
      exact ⟨1, cx, _, _, _, _, _, _, rfl, rfl, by omega, ⟨by have := hl2.out; omega⟩, HJ1, HP⟩
set_option maxHeartbeats 16000000 in
set_option maxRecDepth 1000000 in
theorem splays_arm6 (g : G6) (w W5 : World) (P B cap : Nat) (mb : Nat → Nat) (n lo up X7 X10 i cx c3 k1 k2 : Nat) (d : Nat → ByteArray) (m : Nat → ByteArray → Bool) (l1 : List ByteArray) (l2 : List S69) (y0 y1 : Int) (y2 : ByteArray) (y3 : List ByteArray) (A1 A2 A3 : Option Addr)
    (hG : Hid (0 ≤ g.f2 ∧ g.f2 ≤ 256 ∧ 1 ≤ g.f3 ∧ g.f3 ≤ 4096)) (hng : Hid (g.f3 = (n : Int) ∧ 1 ≤ n ∧ n ≤ 4096)) (hn100 : n ≤ 100) (hs1 : Hid (w.heap.size + 1 = lo)) (hlo : Hid (w.heap.size < lo)) (hi60 : i ≤ 60) (hcx : cx ≤ 1 + i * 101) (hl2 : Aside0 (l2.length ≤ n + i)) (HP : Aside0 (PRel n d m l1 l2))
    (hw3 : Aside0 (y2.size ≤ maxLen ∧ ∀ s ∈ y3, s.size ≤ maxLen)) (hC3 : Aside0 (Kd.C Kd.string w A3 y3.length y3)) (HJ1 : Aside0 (JAt lo up g n cx d m P B cap mb w.heap.size X7 (.slice A1 l1.length k1) (.slice A2 l2.length k2) l1 l2 w W5)) (hX10 : Hid (up ≤ X10))
    (b10 : Aside0 (W5.heap[X10]? = some (.cells #[.int .i64 y0, .int .i64 y1, .string y2, .slice A3 y3.length c3] 37))) (zz0 : (y0 == 0) = false) (zz1 : (y0 == 1) = false) (zz2 : (y0 == 2) = false) (zz3 : (y0 == 3) = false) (zz4 : (y0 == 4) = false) (zz5 : (y0 == 5) = false)
    (J K : Act → World → Prop) (Q0 : Exit → Act → World → Prop) (x0 x1 x3 x6 x8 x9 x15 x16 x17 x18 x19 x20 x21 x22 x23 x24 x25 x26 x27 x28 x29 x30 x31 x32 x33 x34 x35 x36 x37 x38 x39 x40 x41 x42 x186 : Value) (u4 u13 u14 u43 u44 u45 u46 u47 u48 u49 u50 u51 u52 u53 u54 u55 u56 u57 u58 u59 u60 u61 u62 u63 u64 u65 u66 u67 u68 u70 u71 u72 u73 u74 u75 u76 u77 u78 u79 u80 u81 u82 u83 u84 u85 u86 u87 u88 u89 u90 u91 u92 u93 u94 u95 u96 u97 u98 u99 u100 u101 u102 u103 u104 u105 u106 u107 u108 u109 u110 u111 u112 u113 u114 u115 u116 u117 u118 u119 u120 u121 u122 u123 u124 u125 u126 u127 u128 u129 u130 u131 u132 u133 u134 u135 u136 u137 u138 u139 u140 u141 u142 u143 u144 u145 u146 u147 u148 u149 u150 u151 u152 u153 u154 u155 u156 u157 u158 u159 u160 u161 u162 u163 u164 u165 u166 u167 u168 u169 u170 u171 u172 u173 u174 u175 u176 u177 u178 u179 u180 u181 u182 u183 u184 u185 : Value)
    (hJ : ∀ a' w', (∃ u4 u11 u12 u13 u14 u43 u44 u45 u46 u47 u48 u49 u50 u51 u52 u53 u54 u55 u56 u57 u58 u59 u60 u61 u62 u63 u64 u65 u66 u67 u68 u70 u71 u72 u73 u74 u75 u76 u77 u78 u79 u80 u81 u82 u83 u84 u85 u86 u87 u88 u89 u90 u91 u92 u93 u94 u95 u96 u97 u98 u99 u100 u101 u102 u103 u104 u105 u106 u107 u108 u109 u110 u111 u112 u113 u114 u115 u116 u117 u118 u119 u120 u121 u122 u123 u124 u125 u126 u127 u128 u129 u130 u131 u132 u133 u134 u135 u136 u137 u138 u139 u140 u141 u142 u143 u144 u145 u146 u147 u148 u149 u150 u151 u152 u153 u154 u155 u156 u157 u158 u159 u160 u161 u162 u163 u164 u165 u166 u167 u168 u169 u170 u171 u172 u173 u174 u175 u176 u177 u178 u179 u180 u181 u182 u183 u184 u185 : Value, (∃ (r : Int) (cx' : Nat) (d' : Nat → ByteArray) (m' : Nat → ByteArray → Bool) (v1' v2' : Value) (l1' : List ByteArray) (l2' : List S69), u11 = .int .i64 r ∧ u12 = .int .i64 r ∧ cx' ≤ 1 + (i + 1) * 101 ∧ Aside0 (l2'.length ≤ n + (i + 1)) ∧ Aside0 (JAt lo up g n cx' d' m' P B cap mb w.heap.size X7 v1' v2' l1' l2' w w') ∧ Aside0 (PRel n d' m' l1' l2')) ∧ a' = (⟨#[x0, x1, (.pointer (some ⟨w.heap.size, 0, none⟩)), x3, u4, (.pointer (some ⟨P, 0, none⟩)), x6, (.pointer (some ⟨X7, 0, none⟩)), x8, x9, (.pointer (some ⟨X10, 0, none⟩)), u11, u12, u13, u14, x15, x16, x17, x18, x19, x20, x21, x22, x23, x24, x25, x26, x27, x28, x29, x30, x31, x32, x33, x34, x35, x36, x37, x38, x39, x40, x41, x42, u43, u44, u45, u46, u47, u48, u49, u50, u51, u52, u53, u54, u55, u56, u57, u58, u59, u60, u61, u62, u63, u64, u65, u66, u67, u68, (.int .i64 y0), u70, u71, u72, u73, u74, u75, u76, u77, u78, u79, u80, u81, u82, u83, u84, u85, u86, u87, u88, u89, u90, u91, u92, u93, u94, u95, u96, u97, u98, u99, u100, u101, u102, u103, u104, u105, u106, u107, u108, u109, u110, u111, u112, u113, u114, u115, u116, u117, u118, u119, u120, u121, u122, u123, u124, u125, u126, u127, u128, u129, u130, u131, u132, u133, u134, u135, u136, u137, u138, u139, u140, u141, u142, u143, u144, u145, u146, u147, u148, u149, u150, u151, u152, u153, u154, u155, u156, u157, u158, u159, u160, u161, u162, u163, u164, u165, u166, u167, u168, u169, u170, u171, u172, u173, u174, u175, u176, u177, u178, u179, u180, u181, u182, u183, u184, u185, x186], []⟩ : Act)) → J a' w') (hQ0 : ∀ (p) (a : Act) (dd : Nat) (v) (w'), Q0 (.panic p) (a.put (some dd) v) w' → Q0 (.panic p) a w') (hK : ∀ a' w', Met J a' w' → K a' w') :
    Code.wp Try.prog splaysSw (Exit.then K Q0) ⟨#[x0, x1, (.pointer (some ⟨w.heap.size, 0, none⟩)), x3, u4, (.pointer (some ⟨P, 0, none⟩)), x6, (.pointer (some ⟨X7, 0, none⟩)), x8, x9, (.pointer (some ⟨X10, 0, none⟩)), (.int .i64 0), (.int .i64 0), u13, u14, x15, x16, x17, x18, x19, x20, x21, x22, x23, x24, x25, x26, x27, x28, x29, x30, x31, x32, x33, x34, x35, x36, x37, x38, x39, x40, x41, x42, u43, u44, u45, u46, u47, u48, u49, u50, u51, u52, u53, u54, u55, u56, u57, u58, u59, u60, u61, u62, u63, u64, u65, u66, u67, u68, (.int .i64 y0), u70, u71, u72, u73, u74, u75, u76, u77, u78, u79, u80, u81, u82, u83, u84, u85, u86, u87, u88, u89, u90, u91, u92, u93, u94, u95, u96, u97, u98, u99, u100, u101, u102, u103, u104, u105, u106, u107, u108, u109, u110, u111, u112, u113, u114, u115, u116, u117, u118, u119, u120, u121, u122, u123, u124, u125, u126, u127, u128, u129, u130, u131, u132, u133, u134, u135, u136, u137, u138, u139, u140, u141, u142, u143, u144, u145, u146, u147, u148, u149, u150, u151, u152, u153, u154, u155, u156, u157, u158, u159, u160, u161, u162, u163, u164, u165, u166, u167, u168, u169, u170, u171, u172, u173, u174, u175, u176, u177, u178, u179, u180, u181, u182, u183, u184, u185, x186], []⟩ W5 := by
  conv => arg 2; whnf
  have hu23 := Try.underlying23
  have g0 := blk_cell b10.out 0
  have g1 := blk_cell b10.out 1
  have g2 := blk_cell b10.out 2
  have g3 := blk_cell b10.out 3
  have hKA := Aside0.mk (show KA lo up g n cx d m P B cap mb w.heap.size X7 (.slice A1 l1.length k1) (.slice A2 l2.length k2) l1 l2 X10 y0 y1 y2 (.slice A3 y3.length c3) w W5 from ⟨HJ1.out, b10.out⟩)
  have hss := Lib.hid fun (w' : World) (hj : KA lo up g n cx d m P B cap mb w.heap.size X7 (.slice A1 l1.length k1) (.slice A2 l2.length k2) l1 l2 X10 y0 y1 y2 (.slice A3 y3.length c3) w w') => (show w'.cell? ⟨X10, 1, none⟩ = some (.int .i64 y1) ∧ w'.cell? ⟨X10, 2, none⟩ = some (.string y2) ∧ w'.cell? ⟨X7, 0, none⟩ = some (.int .i64 g.f0) ∧ w'.cell? ⟨X7, 1, none⟩ = some (.int .i64 g.f1) ∧ w'.cell? ⟨X7, 2, none⟩ = some (.int .i64 g.f2) ∧ w'.cell? ⟨X7, 3, none⟩ = some (.int .i64 g.f3) ∧ w'.cell? ⟨X7, 4, none⟩ = some (.int .i64 g.f4) ∧ w'.cell? ⟨X7, 5, none⟩ = some (.int .i64 g.f5) ∧ w'.cell? ⟨X7, 6, none⟩ = some (.slice A1 l1.length k1) ∧ w'.cell? ⟨X7, 7, none⟩ = some (.slice A2 l2.length k2) ∧ Aside0 (KA lo up g n cx d m P B cap mb w.heap.size X7 (.slice A1 l1.length k1) (.slice A2 l2.length k2) l1 l2 X10 y0 y1 y2 (.slice A3 y3.length c3) w w') from hj.cells)
  have c19 := Lib.hid fun (w' : World) (hj : KA lo up g n cx d m P B cap mb w.heap.size X7 (.slice A1 l1.length k1) (.slice A2 l2.length k2) l1 l2 X10 y0 y1 y2 (.slice A3 y3.length c3) w w') => (show Calls Try.prog 19 #[.pointer (some ⟨P, 0, none⟩), .int .i64 y1, .string y2] w' fun e w'' => e = .returned (.bool (mayL l2 y1 y2)) ∧ w'' = w' from by
    cases hin : inR n y1 with
    | true =>
      obtain ⟨j, rfl, hjn⟩ := inR_at hin
      exact may_text (Aside0.mk hj.j.s) j hjn y2 hw3.out.1 _ (HP.out.may j hjn y2)
    | false =>
      rw [HP.out.out y1 hin y2]
      exact may_out (Aside0.mk hj.j.s) y1 hin y2)
  have c20 := Lib.hid fun (w' : World) (hj : KA lo up g n cx d m P B cap mb w.heap.size X7 (.slice A1 l1.length k1) (.slice A2 l2.length k2) l1 l2 X10 y0 y1 y2 (.slice A3 y3.length c3) w w') => rmay (g := g) (Aside0.mk hj.j.r) y1 y2 (by have := hl2.out; omega)
  unfold encD at c20
  generalize mayL l2 y1 y2 = bb at *
  clear g0 g1 g2 g3
  go_wp2_with fail
  refine wp_region_held_drew (S := (fun w' => w'.cell? ⟨X10, 1, none⟩ = some (.int .i64 y1) ∧ w'.cell? ⟨X10, 2, none⟩ = some (.string y2) ∧ w'.cell? ⟨X7, 0, none⟩ = some (.int .i64 g.f0) ∧ w'.cell? ⟨X7, 1, none⟩ = some (.int .i64 g.f1) ∧ w'.cell? ⟨X7, 2, none⟩ = some (.int .i64 g.f2) ∧ w'.cell? ⟨X7, 3, none⟩ = some (.int .i64 g.f3) ∧ w'.cell? ⟨X7, 4, none⟩ = some (.int .i64 g.f4) ∧ w'.cell? ⟨X7, 5, none⟩ = some (.int .i64 g.f5) ∧ w'.cell? ⟨X7, 6, none⟩ = some (.slice A1 l1.length k1) ∧ w'.cell? ⟨X7, 7, none⟩ = some (.slice A2 l2.length k2) ∧ Aside0 (KA lo up g n cx d m P B cap mb w.heap.size X7 (.slice A1 l1.length k1) (.slice A2 l2.length k2) l1 l2 X10 y0 y1 y2 (.slice A3 y3.length c3) w w'))) (by kernel_rfl) ?_ (fun hHeld => ?_)
  · ((refine hss.out _ ?_; (with_reducible repeat (first | exact Aside0.out (by assumption) | exact getKA (by assumption) | refine KA.drew ?_ | refine KA.drewN ?_ _ | refine KA.alloc ?_ _))))
  refine wpAnyH_take (i := 0) (oi := { dst := some 70, op := Op.move (Operand.tmp 5), type := 25, pos := "law.go:62", after := #[], guard := none }) (v := ?h1_0) rfl (by kernel_rfl) (by kernel_rfl) (by kernel_rfl) (fun _ _ _ h => hQ0 _ _ _ _ _ h) (Or.inl ⟨by rfl, ?yh1_0⟩) (by assumption) ?rh1_0
  case yh1_0 => intro w hSw; (try dsimp only at hSw); go_simp; (try with_reducible rfl)
  simp only [Act.put, List.setIfInBounds_toArray, List.set_cons_zero, List.set_cons_succ]
  refine wpAnyH_take (i := 1) (oi := { dst := some 71, op := Op.fieldAddr 37 (Operand.tmp 10) 1, type := 0, pos := "law.go:62", after := #[], guard := none }) (v := ?h1_1) rfl (by kernel_rfl) (by kernel_rfl) (by kernel_rfl) (fun _ _ _ h => hQ0 _ _ _ _ _ h) (Or.inl ⟨by rfl, ?yh1_1⟩) (by assumption) ?rh1_1
  case yh1_1 => intro w hSw; (try dsimp only at hSw); go_simp; (try with_reducible rfl)
  simp only [Act.put, List.setIfInBounds_toArray, List.set_cons_zero, List.set_cons_succ]
  refine wpAnyH_take (i := 2) (oi := { dst := some 72, op := Op.load 3 (Operand.tmp 71), type := 3, pos := "law.go:62", after := #[{ on := 1, ground := Ground.data }], guard := none }) (v := ?h1_2) rfl (by kernel_rfl) (by kernel_rfl) (by kernel_rfl) (fun _ _ _ h => hQ0 _ _ _ _ _ h) (Or.inl ⟨by rfl, ?yh1_2⟩) (by assumption) ?rh1_2
  case yh1_2 => intro w hSw; (try dsimp only at hSw); go_simp; (try with_reducible rfl)
  simp only [Act.put, List.setIfInBounds_toArray, List.set_cons_zero, List.set_cons_succ]
  refine wpAnyH_take (i := 3) (oi := { dst := some 73, op := Op.fieldAddr 37 (Operand.tmp 10) 2, type := 0, pos := "law.go:62", after := #[], guard := none }) (v := ?h1_3) rfl (by kernel_rfl) (by kernel_rfl) (by kernel_rfl) (fun _ _ _ h => hQ0 _ _ _ _ _ h) (Or.inl ⟨by rfl, ?yh1_3⟩) (by assumption) ?rh1_3
  case yh1_3 => intro w hSw; (try dsimp only at hSw); go_simp; (try with_reducible rfl)
  simp only [Act.put, List.setIfInBounds_toArray, List.set_cons_zero, List.set_cons_succ]
  refine wpAnyH_take (i := 4) (oi := { dst := some 74, op := Op.load 9 (Operand.tmp 73), type := 9, pos := "law.go:62", after := #[{ on := 3, ground := Ground.data }], guard := none }) (v := ?h1_4) rfl (by kernel_rfl) (by kernel_rfl) (by kernel_rfl) (fun _ _ _ h => hQ0 _ _ _ _ _ h) (Or.inl ⟨by rfl, ?yh1_4⟩) (by assumption) ?rh1_4
  case yh1_4 => intro w hSw; (try dsimp only at hSw); go_simp; (try with_reducible rfl)
  simp only [Act.put, List.setIfInBounds_toArray, List.set_cons_zero, List.set_cons_succ]
  refine wpAnyH_take (i := 6) (oi := { dst := some 76, op := Op.load 32 (Operand.tmp 7), type := 32, pos := "law.go:62", after := #[], guard := none }) (v := ?h1_6) rfl (by kernel_rfl) (by kernel_rfl) (by kernel_rfl) (fun _ _ _ h => hQ0 _ _ _ _ _ h) (Or.inl ⟨by rfl, ?yh1_6⟩) (by assumption) ?rh1_6
  case yh1_6 => intro w hSw; (try dsimp only at hSw); go_simp; (try with_reducible rfl)
  simp only [Act.put, List.setIfInBounds_toArray, List.set_cons_zero, List.set_cons_succ]
  refine wpAnyH_take (i := 7) (oi := { dst := some 77, op := Op.fieldAddr 37 (Operand.tmp 10) 1, type := 0, pos := "law.go:62", after := #[], guard := none }) (v := ?h1_7) rfl (by kernel_rfl) (by kernel_rfl) (by kernel_rfl) (fun _ _ _ h => hQ0 _ _ _ _ _ h) (Or.inl ⟨by rfl, ?yh1_7⟩) (by assumption) ?rh1_7
  case yh1_7 => intro w hSw; (try dsimp only at hSw); go_simp; (try with_reducible rfl)
  simp only [Act.put, List.setIfInBounds_toArray, List.set_cons_zero, List.set_cons_succ]
  refine wpAnyH_take (i := 8) (oi := { dst := some 78, op := Op.load 3 (Operand.tmp 77), type := 3, pos := "law.go:62", after := #[{ on := 7, ground := Ground.data }], guard := none }) (v := ?h1_8) rfl (by kernel_rfl) (by kernel_rfl) (by kernel_rfl) (fun _ _ _ h => hQ0 _ _ _ _ _ h) (Or.inl ⟨by rfl, ?yh1_8⟩) (by assumption) ?rh1_8
  case yh1_8 => intro w hSw; (try dsimp only at hSw); go_simp; (try with_reducible rfl)
  simp only [Act.put, List.setIfInBounds_toArray, List.set_cons_zero, List.set_cons_succ]
  refine wpAnyH_take (i := 9) (oi := { dst := some 79, op := Op.fieldAddr 37 (Operand.tmp 10) 2, type := 0, pos := "law.go:62", after := #[], guard := none }) (v := ?h1_9) rfl (by kernel_rfl) (by kernel_rfl) (by kernel_rfl) (fun _ _ _ h => hQ0 _ _ _ _ _ h) (Or.inl ⟨by rfl, ?yh1_9⟩) (by assumption) ?rh1_9
  case yh1_9 => intro w hSw; (try dsimp only at hSw); go_simp; (try with_reducible rfl)
  simp only [Act.put, List.setIfInBounds_toArray, List.set_cons_zero, List.set_cons_succ]
  refine wpAnyH_take (i := 10) (oi := { dst := some 80, op := Op.load 9 (Operand.tmp 79), type := 9, pos := "law.go:62", after := #[{ on := 9, ground := Ground.data }], guard := none }) (v := ?h1_10) rfl (by kernel_rfl) (by kernel_rfl) (by kernel_rfl) (fun _ _ _ h => hQ0 _ _ _ _ _ h) (Or.inl ⟨by rfl, ?yh1_10⟩) (by assumption) ?rh1_10
  case yh1_10 => intro w hSw; (try dsimp only at hSw); go_simp; (try with_reducible rfl)
  simp only [Act.put, List.setIfInBounds_toArray, List.set_cons_zero, List.set_cons_succ]
  refine wpAnyH_ready (rs := [5]) (by kernel_rfl) (by simp) ?_
  refine AllReadyH.cons (o := { dst := some 75, op := Op.call { callee := Callee.value (Operand.func 19), args := #[Operand.tmp 70, Operand.tmp 72, Operand.tmp 74], argTypes := #[25, 3, 9] }, type := 4, pos := "law.go:62", after := #[{ on := 0, ground := Ground.data }, { on := 2, ground := Ground.data }, { on := 4, ground := Ground.data }], guard := none }) rfl (fun K hK => ?_) AllReadyH.nil
  go_simp
  (go_at_call 19; refine (c19.out _ ?sh1_5).mono ?_; (case sh1_5 => exact getKA (by assumption)); rintro e w' ⟨rfl, rfl⟩)
  refine hK.out _ _ ?_ (fun hHeld => ?_)
  · ((refine hss.out _ ?_; (with_reducible repeat (first | exact Aside0.out (by assumption) | exact getKA (by assumption) | refine KA.drew ?_ | refine KA.drewN ?_ _ | refine KA.alloc ?_ _))))
  clear hK K
  try simp only [Act.put, List.setIfInBounds_toArray, List.set_cons_zero, List.set_cons_succ]
  refine wpAnyH_ready (rs := [11]) (by kernel_rfl) (by simp) ?_
  refine AllReadyH.cons (o := { dst := some 81, op := Op.call { callee := Callee.value (Operand.func 20), args := #[Operand.tmp 76, Operand.tmp 78, Operand.tmp 80], argTypes := #[32, 3, 9] }, type := 4, pos := "law.go:62", after := #[{ on := 6, ground := Ground.data }, { on := 8, ground := Ground.data }, { on := 10, ground := Ground.data }, { on := 5, ground := Ground.chain }], guard := none }) rfl (fun K hK => ?_) AllReadyH.nil
  go_simp
  (go_at_call 20; refine (c20.out _ ?sh1_11).mono ?_; (case sh1_11 => exact getKA (by assumption)); rintro e w' ⟨rfl, hb⟩; have hk := Aside0.mk (KA.below (getKA (by assumption)) hb))
  refine hK.out _ _ ?_ (fun hHeld => ?_)
  · ((refine hss.out _ ?_; (with_reducible repeat (first | exact Aside0.out (by assumption) | exact getKA (by assumption) | refine KA.drew ?_ | refine KA.drewN ?_ _ | refine KA.alloc ?_ _))))
  clear hK K
  try simp only [Act.put, List.setIfInBounds_toArray, List.set_cons_zero, List.set_cons_succ]
  refine wpAnyH_take (i := 12) (oi := { dst := some 82, op := Op.binOp BinOp.neq 4 (Operand.tmp 75) (Operand.tmp 81) 4, type := 4, pos := "law.go:62", after := #[{ on := 5, ground := Ground.data }, { on := 11, ground := Ground.data }], guard := none }) (v := ?h1_12) rfl (by kernel_rfl) (by kernel_rfl) (by kernel_rfl) (fun _ _ _ h => hQ0 _ _ _ _ _ h) (Or.inl ⟨by rfl, ?yh1_12⟩) (by assumption) ?rh1_12
  case yh1_12 => intro w hSw; (try dsimp only at hSw); go_simp; (try with_reducible rfl)
  simp only [Act.put, List.setIfInBounds_toArray, List.set_cons_zero, List.set_cons_succ]
  refine wpAnyH_done (by kernel_rfl) ?_ _
  go_wp2
  go_meet
  exact ⟨0, cx, _, _, _, _, _, _, rfl, rfl, by omega, ⟨by have := hl2.out; omega⟩, ⟨(getKA (by assumption)).j⟩, HP⟩
end Go.Proofs.Ytmpfadiehakcgaa.PQ
