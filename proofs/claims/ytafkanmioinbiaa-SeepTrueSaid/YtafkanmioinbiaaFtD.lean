/- What functions of the program answer. No condition. -/
import Derived.Test.YtafkanmioinbiaaSC
import Derived.Test.YtafkanmioinbiaaSF
import Derived.Test.YtafkanmioinbiaaSG
import Derived.Test.YtafkanmioinbiaaSH
import Derived.Test.YtafkanmioinbiaaSQ
import Derived.Test.YtafkanmioinbiaaFtB
import Derived.Test.YtafkanmioinbiaaFtC
set_option linter.all false
set_option maxRecDepth 100000
set_option maxHeartbeats 8000000
namespace Go.Proofs.Ytafkanmioinbiaa.SA
open Go.RowKit Go.Proofs.YtafkanmioinbiaaW.PrintWords Go.Proofs.YtafkanmioinbiaaW.PrintLast Go.Proofs.YtafkanmioinbiaaW.PrintMore
attribute [local go_sem] max2_int min2_int max_two min_two qbe qbf max_four min_four
mutual
def taliklaw07_SeepTrue.j0 : Nat → List Int → List Int → Bool → Int → List (S44) → List Int → List Int → List (S41) → List (S95) → Option (Bool)
 | 0, _, _, _, _, _, _, _, _, _ => none
 | k + 1, x1, x2, x40, x224000, x224001, x224002, x224003, x224004, x224005 => if x40 = true then ((taliklaw07_known.f).bind fun t227 => (some t227)) else ((seep_Years.f x224000 x224001 x224002 x224003 x224004 x224005 x1).bind fun bt228 => ((seep_Play.f x224000 x224001 x224002 x224003 x224004 x224005 x1 x2).bind fun bt232 => ((talikref07_End.f k x224000 x224001 x224002 x224003 x224004 x224005 true).bind fun t236 => ((seep_Play.f x224000 x224001 x224002 x224003 x224004 x224005 x1 t236).bind fun bt239 => ((talikref07_End.f k x224000 x224001 x224002 x224003 x224004 x224005 false).bind fun t243 => ((seep_Play.f x224000 x224001 x224002 x224003 x224004 x224005 x1 t243).bind fun bt246 => (if bt228.2 = 0 then (if bt232.2 = 0 then (if bt239.2 = 0 then (if bt246.2 = 0 then (if (bt228.1.length : Int) = x224000 then (if (bt232.1.length : Int) = x224000 then (if (bt239.1.length : Int) = x224000 then (taliklaw07_SeepTrue.j1 k bt228.1 bt232.1 bt239.1 bt246.1 ((bt246.1.length : Int) != x224000) x224000 x224001 x224002 x224003 x224004 x224005) else (taliklaw07_SeepTrue.j1 k bt228.1 bt232.1 bt239.1 bt246.1 true x224000 x224001 x224002 x224003 x224004 x224005)) else (taliklaw07_SeepTrue.j1 k bt228.1 bt232.1 bt239.1 bt246.1 true x224000 x224001 x224002 x224003 x224004 x224005)) else (taliklaw07_SeepTrue.j1 k bt228.1 bt232.1 bt239.1 bt246.1 true x224000 x224001 x224002 x224003 x224004 x224005)) else (taliklaw07_SeepTrue.j1 k bt228.1 bt232.1 bt239.1 bt246.1 true x224000 x224001 x224002 x224003 x224004 x224005)) else (taliklaw07_SeepTrue.j1 k bt228.1 bt232.1 bt239.1 bt246.1 true x224000 x224001 x224002 x224003 x224004 x224005)) else (taliklaw07_SeepTrue.j1 k bt228.1 bt232.1 bt239.1 bt246.1 true x224000 x224001 x224002 x224003 x224004 x224005)) else (taliklaw07_SeepTrue.j1 k bt228.1 bt232.1 bt239.1 bt246.1 true x224000 x224001 x224002 x224003 x224004 x224005))))))))
def taliklaw07_SeepTrue.j1 : Nat → List (S41) → List Int → List Int → List Int → Bool → Int → List (S44) → List Int → List Int → List (S41) → List (S95) → Option (Bool)
 | 0, _, _, _, _, _, _, _, _, _, _, _ => none
 | k + 1, x7, x9, x11, x13, x112, x224000, x224001, x224002, x224003, x224004, x224005 => if x112 = true then (some false) else (taliklaw07_SeepTrue.l0 k x7 x9 x11 x13 0 x224000 x224001 x224002 x224003 x224004 x224005)
def taliklaw07_SeepTrue.l0 : Nat → List (S41) → List Int → List Int → List Int → Int → Int → List (S44) → List Int → List Int → List (S41) → List (S95) → Option (Bool)
 | 0, _, _, _, _, _, _, _, _, _, _, _ => none
 | k + 1, x7, x9, x11, x13, x15, x224000, x224001, x224002, x224003, x224004, x224005 => if x15 < x224000 then (if 0 ≤ x15 then (if x15 < (x9.length : Int) then (if x15 < (x7.length : Int) then (if (rd x9 x15) < ((qbg x7 x15).f0) then (some false) else (if (rd x9 x15) > ((qbg x7 x15).f1) then (some false) else (if x15 < (x11.length : Int) then (if (rd x11 x15) = ((qbg x7 x15).f0) then (if x15 < (x13.length : Int) then (if (rd x13 x15) = ((qbg x7 x15).f1) then (taliklaw07_SeepTrue.l0 k x7 x9 x11 x13 (wrap64 (x15 + 1)) x224000 x224001 x224002 x224003 x224004 x224005) else (some false)) else (none)) else (some false)) else (none)))) else (none)) else (none)) else (none)) else ((taliklaw07_known.f).bind fun t258 => (some t258))
end
def taliklaw07_SeepTrue.f (k : Nat) (a0_0 : Int) (l0_1 : List (S44)) (l0_2 : List Int) (l0_3 : List Int) (l0_4 : List (S41)) (l0_5 : List (S95)) (l1 : List Int) (l2 : List Int) : Option (Bool) := (taliklaw07_short.f a0_0 l0_1 l0_2 l0_3 l0_4 l0_5).bind fun t224 => (if t224 = true then (if (l1.length : Int) > 16 then (taliklaw07_SeepTrue.j0 k l1 l2 true a0_0 l0_1 l0_2 l0_3 l0_4 l0_5) else (if (l2.length : Int) > 15 then (taliklaw07_SeepTrue.j0 k l1 l2 true a0_0 l0_1 l0_2 l0_3 l0_4 l0_5) else ((taliklaw07_asked.f a0_0 l0_1 l0_2 l0_3 l0_4 l0_5 l1).bind fun t225 => (if t225 = true then ((talikref07_Thaws.f k a0_0 l0_1 l0_2 l0_3 l0_4 l0_5 l2).bind fun t226 => (taliklaw07_SeepTrue.j0 k l1 l2 (!t226) a0_0 l0_1 l0_2 l0_3 l0_4 l0_5)) else (taliklaw07_SeepTrue.j0 k l1 l2 true a0_0 l0_1 l0_2 l0_3 l0_4 l0_5))))) else (taliklaw07_SeepTrue.j0 k l1 l2 true a0_0 l0_1 l0_2 l0_3 l0_4 l0_5))
def taliklaw07_SeepTrue.T5 : Bool × List (List Nat × List Nat) := (true, [([], []), ([], []), ([], []), ([2], [2]), ([0, 1, 3, 3], [0, 1, 3]), ([4], [4]), ([5], [5]), ([5], [5]), ([6, 4, 0, 1, 2, 3, 4, 5, 6], [6]), ([7, 8, 0, 1, 2, 3, 4, 5, 6, 7, 8], [7])])
def taliklaw07_SeepTrue.B5 : List Nat := [0, 0, 0, 4, 15, 31, 63, 63, 127, 511]
theorem taliklaw07_SeepTrue.tab5 : rtab .any (opsOf Try.f4 5) = taliklaw07_SeepTrue.T5 := by kernel_rfl
theorem taliklaw07_SeepTrue.bits5 : waitsOk taliklaw07_SeepTrue.T5.2 taliklaw07_SeepTrue.B5 = true := by kernel_rfl
def taliklaw07_SeepTrue.T6 : Bool × List (List Nat × List Nat) := (true, [([], []), ([], []), ([], []), ([2], [2]), ([0, 1, 3, 3], [0, 1, 3]), ([4], [4]), ([5], [5]), ([5], [5]), ([6, 4, 0, 1, 2, 3, 4, 5, 6], [6]), ([7, 8, 0, 1, 2, 3, 4, 5, 6, 7, 8], [7])])
def taliklaw07_SeepTrue.B6 : List Nat := [0, 0, 0, 4, 15, 31, 63, 63, 127, 511]
theorem taliklaw07_SeepTrue.tab6 : rtab .any (opsOf Try.f4 6) = taliklaw07_SeepTrue.T6 := by kernel_rfl
theorem taliklaw07_SeepTrue.bits6 : waitsOk taliklaw07_SeepTrue.T6.2 taliklaw07_SeepTrue.B6 = true := by kernel_rfl
def taliklaw07_SeepTrue.T12 : Bool × List (List Nat × List Nat) := (true, [([], []), ([], []), ([0, 1], [0, 1]), ([2], [2]), ([], []), ([], []), ([4, 5], [4, 5]), ([6], [6]), ([7], [7]), ([3, 8], [3, 8]), ([9], [9]), ([10], [10]), ([10], [10]), ([11, 12, 10], [10, 11, 12]), ([13, 10], [10, 13]), ([10], [10]), ([10], [10]), ([15, 16, 10], [10, 15, 16]), ([17, 10], [10, 17]), ([18, 10], [10, 18]), ([14, 19, 10], [10, 14, 19]), ([10, 20], [10, 20]), ([21, 10], [21]), ([22], [22]), ([22], [22]), ([23, 24, 22], [22, 23, 24]), ([25, 22], [22, 25]), ([22], [22]), ([22], [22]), ([27, 28, 22], [22, 27, 28]), ([29, 22], [22, 29]), ([30, 22], [22, 30]), ([26, 31, 22], [22, 26, 31]), ([22, 32], [22, 32]), ([33, 22], [33]), ([34], [34]), ([34], [34]), ([35, 36, 34], [34, 35, 36]), ([37, 34], [34, 37]), ([34], [34]), ([34], [34]), ([39, 40, 34], [34, 39, 40]), ([41, 34], [34, 41]), ([42, 34], [34, 42]), ([38, 43, 34], [34, 38, 43]), ([34, 44], [34, 44])])
def taliklaw07_SeepTrue.B12 : List Nat := [0, 0, 3, 7, 0, 0, 48, 112, 240, 511, 1023, 2047, 2047, 8191, 16383, 2047, 2047, 100351, 231423, 493567, 1048575, 2097151, 4194303, 8388607, 8388607, 33554431, 67108863, 8388607, 8388607, 411041791, 947912703, 2021654527, 4294967295, 8589934591, 17179869183, 34359738367, 34359738367, 137438953471, 274877906943, 34359738367, 34359738367, 1683627180031, 3882650435583, 8280696946687, 17592186044415, 35184372088831]
theorem taliklaw07_SeepTrue.tab12 : rtab .any (opsOf Try.f4 12) = taliklaw07_SeepTrue.T12 := by kernel_rfl
theorem taliklaw07_SeepTrue.bits12 : waitsOk taliklaw07_SeepTrue.T12.2 taliklaw07_SeepTrue.B12 = true := by kernel_rfl
theorem taliklaw07_SeepTrue.calls (k : Nat) (a0_0 : Int) (A0_1 : Option Addr) (c0_1 : Nat) (l0_1 : List (S44)) (A0_2 : Option Addr) (c0_2 : Nat) (l0_2 : List Int) (A0_3 : Option Addr) (c0_3 : Nat) (l0_3 : List Int) (A0_4 : Option Addr) (c0_4 : Nat) (l0_4 : List (S41)) (A0_5 : Option Addr) (c0_5 : Nat) (l0_5 : List (S95)) (A1 : Option Addr) (c1 : Nat) (l1 : List Int) (A2 : Option Addr) (c2 : Nat) (l2 : List Int) (r : Bool) (w : World) (hr0_1 : Kd.C k44 w A0_1 l0_1.length l0_1) (hc0_1 : l0_1.length ≤ c0_1) (hr0_2 : Kd.C (Kd.int .i64) w A0_2 l0_2.length l0_2) (hc0_2 : l0_2.length ≤ c0_2) (hr0_3 : Kd.C (Kd.int .i64) w A0_3 l0_3.length l0_3) (hc0_3 : l0_3.length ≤ c0_3) (hr0_4 : Kd.C k41 w A0_4 l0_4.length l0_4) (hc0_4 : l0_4.length ≤ c0_4) (hr0_5 : Kd.C k95 w A0_5 l0_5.length l0_5) (hc0_5 : l0_5.length ≤ c0_5) (hr1 : Kd.C (Kd.int .i64) w A1 l1.length l1) (hc1 : l1.length ≤ c1) (hr2 : Kd.C (Kd.int .i64) w A2 l2.length l2) (hc2 : l2.length ≤ c2) (h : taliklaw07_SeepTrue.f k a0_0 l0_1 l0_2 l0_3 l0_4 l0_5 l1 l2 = some r) :
  Calls Try.prog 4 #[.agg #[.int .i64 a0_0, .slice A0_1 l0_1.length c0_1, .slice A0_2 l0_2.length c0_2, .slice A0_3 l0_3.length c0_3, .slice A0_4 l0_4.length c0_4, .slice A0_5 l0_5.length c0_5], .slice A1 l1.length c1, .slice A2 l2.length c2] w fun e w' => e = .returned (.bool r) ∧ Below w.heap.size w w' := by
 have hu27 := Try.underlying27
 have HR0_1 := qab.mk hr0_1
 have HC0_1 := qab.mk hc0_1
 clear hr0_1 hc0_1
 have HR0_2 := qab.mk hr0_2
 have HC0_2 := qab.mk hc0_2
 clear hr0_2 hc0_2
 have HR0_3 := qab.mk hr0_3
 have HC0_3 := qab.mk hc0_3
 clear hr0_3 hc0_3
 have HR0_4 := qab.mk hr0_4
 have HC0_4 := qab.mk hc0_4
 clear hr0_4 hc0_4
 have HR0_5 := qab.mk hr0_5
 have HC0_5 := qab.mk hc0_5
 clear hr0_5 hc0_5
 have HR1 := qab.mk hr1
 have HC1 := qab.mk hc1
 clear hr1 hc1
 have HR2 := qab.mk hr2
 have HC2 := qab.mk hc2
 clear hr2 hc2
 have HB := qab.mk (Below.refl w.heap.size w)
 have H : ((taliklaw07_short.f a0_0 l0_1 l0_2 l0_3 l0_4 l0_5).bind fun t224 => (if t224 = true then (if (l1.length : Int) > 16 then (taliklaw07_SeepTrue.j0 k l1 l2 true a0_0 l0_1 l0_2 l0_3 l0_4 l0_5) else (if (l2.length : Int) > 15 then (taliklaw07_SeepTrue.j0 k l1 l2 true a0_0 l0_1 l0_2 l0_3 l0_4 l0_5) else ((taliklaw07_asked.f a0_0 l0_1 l0_2 l0_3 l0_4 l0_5 l1).bind fun t225 => (if t225 = true then ((talikref07_Thaws.f k a0_0 l0_1 l0_2 l0_3 l0_4 l0_5 l2).bind fun t226 => (taliklaw07_SeepTrue.j0 k l1 l2 (!t226) a0_0 l0_1 l0_2 l0_3 l0_4 l0_5)) else (taliklaw07_SeepTrue.j0 k l1 l2 true a0_0 l0_1 l0_2 l0_3 l0_4 l0_5))))) else (taliklaw07_SeepTrue.j0 k l1 l2 true a0_0 l0_1 l0_2 l0_3 l0_4 l0_5))) = some r := h
 clear h
 have HC4 := qab.mk H
 clear H
 go_enter Try.func4, Try.ntmps4
 go_upto_region 1 with (first | ((with_reducible refine qaq (N := 3) rfl ?_); (try (refine gate_guard (by rfl) ?_; dsimp only)); refine ze 3 #[.int .i64 a0_0, .slice A0_1 l0_1.length c0_1, .slice A0_2 l0_2.length c0_2, .slice A0_3 l0_3.length c0_3, .slice A0_4 l0_4.length c0_4, .slice A0_5 l0_5.length c0_5] 27 ?_; intro gb223 hg w5 hbox hb; have n0_ := qab.mk (qae (zb HB.out) hb); have n1_ := qab.mk (hbox); have n2_ := qab.mk ((by rw [hg]; exact (qay (zb HB.out)) : w.heap.size ≤ gb223)); have n3_ := qab.mk ((by rw [hg]; exact (qay (zb HB.out)) : w.heap.size ≤ gb223)); clear HB; have HB := n0_; have BK223 := n1_; have GW223 := n2_; have GE223 := n3_; clear n0_ n1_ n2_ n3_; clear hb hbox hg))
 (try simp only [Act.put, qzA, qzB, qzC])
 go_cut [40] (fun v40 wc => ∃ (kq : Nat) (x40_3 : Bool), v40 = .bool x40_3 ∧ qab (taliklaw07_SeepTrue.j0 kq l1 l2 x40_3 a0_0 l0_1 l0_2 l0_3 l0_4 l0_5 = some r) ∧ qab (kq ≤ k) ∧ qab (wc.heap[gb223]? = some (.cells #[.int .i64 a0_0, (.slice A0_1 l0_1.length c0_1), (.slice A0_2 l0_2.length c0_2), (.slice A0_3 l0_3.length c0_3), (.slice A0_4 l0_4.length c0_4), (.slice A0_5 l0_5.length c0_5)] 27 (0, 0))) ∧ qab (Below w.heap.size w wc))
 case first =>
  have H := HC4.out
  clear HC4
  replace H := Option.bind_eq_some_iff.mp H
  obtain ⟨t224, A60, H⟩ := H
  try dsimp only at H
  have A6 := qab.mk A60
  clear A60
  by_cases c7 : t224 = true
  ·
   subst c7
   rw [if_pos rfl] at H
   by_cases c8 : (l1.length : Int) > 16
   ·
    rw [if_pos c8] at H
    have c8b0 : decide (16 < (l1.length : Int)) = true := decide_eq_true c8
    have c8b1 : decide (16 < l1.length) = true := decide_eq_true (by omega)
    clear c8
    (first | rw [c8b0] | (simp only [i64_w, i32_w]; rw [c8b0]) | skip)
    have H' := qab.mk H
    clear H
    obtain ⟨hfz_, hcz9_0, hcz9_1, hcz9_2, hcz9_3, hcz9_4, hcz9_5⟩ := qz6 BK223.out
    go_wp2_with (first | ((with_reducible refine qbb (f := 16) rfl ?_); refine zl 17 Try.func16 #[.agg #[.int .i64 a0_0, .slice A0_1 l0_1.length c0_1, .slice A0_2 l0_2.length c0_2, .slice A0_3 l0_3.length c0_3, .slice A0_4 l0_4.length c0_4, .slice A0_5 l0_5.length c0_5]] ?_; (with_reducible refine (taliklaw07_short.calls a0_0 _ _ l0_1 _ _ l0_2 _ _ l0_3 _ _ l0_4 _ _ l0_5 true _ ?side1 ?side2 ?side3 ?side4 ?side5 ?side6 ?side7 ?side8 ?side9 ?side10 A6.out).mono ?_); (case side1 => exact zs (Kd.qai HR0_1.out HB.out)); (case side2 => exact HC0_1.out); (case side3 => exact zs (Kd.qai HR0_2.out HB.out)); (case side4 => exact HC0_2.out); (case side5 => exact zs (Kd.qai HR0_3.out HB.out)); (case side6 => exact HC0_3.out); (case side7 => exact zs (Kd.qai HR0_4.out HB.out)); (case side8 => exact HC0_4.out); (case side9 => exact zs (Kd.qai HR0_5.out HB.out)); (case side10 => exact HC0_5.out); rintro e w10 ⟨rfl, hb⟩; refine ⟨_, rfl, ?_⟩; replace BK223 := qab.mk (zk BK223.out hb); replace HB := qab.mk (qae (by repeat (first | (with_reducible first | exact HB.out | apply qag | apply qaf | apply qah | refine qaj ?_ GE223.out) | exact HB.out)) hb); (try clear hb); (try clear hb2); (try clear hk); (try clear hi)))
    go_meet
    case rel => exact ⟨_, (true), (by first | rfl | (simp; done) | (simp [*]; done)), H', ⟨by first | omega | exact Nat.le_refl _⟩, ⟨zj BK223.out⟩, ⟨by repeat (first | (with_reducible first | exact HB.out | apply qag | apply qaf | apply qah | refine qaj ?_ GE223.out) | exact HB.out)⟩⟩
   ·
    rw [if_neg c8] at H
    have c8b0 : decide (16 < (l1.length : Int)) = false := decide_eq_false c8
    have c8b1 : decide (16 < l1.length) = false := decide_eq_false (by omega)
    clear c8
    (first | rw [c8b0] | (simp only [i64_w, i32_w]; rw [c8b0]) | skip)
    by_cases c11 : (l2.length : Int) > 15
    ·
     rw [if_pos c11] at H
     have c11b0 : decide (15 < (l2.length : Int)) = true := decide_eq_true c11
     have c11b1 : decide (15 < l2.length) = true := decide_eq_true (by omega)
     clear c11
     have H' := qab.mk H
     clear H
     obtain ⟨hfz_, hcz12_0, hcz12_1, hcz12_2, hcz12_3, hcz12_4, hcz12_5⟩ := qz6 BK223.out
     go_wp2_with (first | ((with_reducible refine qbb (f := 16) rfl ?_); refine zl 17 Try.func16 #[.agg #[.int .i64 a0_0, .slice A0_1 l0_1.length c0_1, .slice A0_2 l0_2.length c0_2, .slice A0_3 l0_3.length c0_3, .slice A0_4 l0_4.length c0_4, .slice A0_5 l0_5.length c0_5]] ?_; (with_reducible refine (taliklaw07_short.calls a0_0 _ _ l0_1 _ _ l0_2 _ _ l0_3 _ _ l0_4 _ _ l0_5 true _ ?side1 ?side2 ?side3 ?side4 ?side5 ?side6 ?side7 ?side8 ?side9 ?side10 A6.out).mono ?_); (case side1 => exact zs (Kd.qai HR0_1.out HB.out)); (case side2 => exact HC0_1.out); (case side3 => exact zs (Kd.qai HR0_2.out HB.out)); (case side4 => exact HC0_2.out); (case side5 => exact zs (Kd.qai HR0_3.out HB.out)); (case side6 => exact HC0_3.out); (case side7 => exact zs (Kd.qai HR0_4.out HB.out)); (case side8 => exact HC0_4.out); (case side9 => exact zs (Kd.qai HR0_5.out HB.out)); (case side10 => exact HC0_5.out); rintro e w13 ⟨rfl, hb⟩; refine ⟨_, rfl, ?_⟩; replace BK223 := qab.mk (zk BK223.out hb); replace HB := qab.mk (qae (by repeat (first | (with_reducible first | exact HB.out | apply qag | apply qaf | apply qah | refine qaj ?_ GE223.out) | exact HB.out)) hb); (try clear hb); (try clear hb2); (try clear hk); (try clear hi)))
     go_meet
     case rel => exact ⟨_, (true), (by first | rfl | (simp; done) | (simp [*]; done)), H', ⟨by first | omega | exact Nat.le_refl _⟩, ⟨zj BK223.out⟩, ⟨by repeat (first | (with_reducible first | exact HB.out | apply qag | apply qaf | apply qah | refine qaj ?_ GE223.out) | exact HB.out)⟩⟩
    ·
     rw [if_neg c11] at H
     have c11b0 : decide (15 < (l2.length : Int)) = false := decide_eq_false c11
     have c11b1 : decide (15 < l2.length) = false := decide_eq_false (by omega)
     clear c11
     replace H := Option.bind_eq_some_iff.mp H
     obtain ⟨t225, A140, H⟩ := H
     try dsimp only at H
     have A14 := qab.mk A140
     clear A140
     by_cases c15 : t225 = true
     ·
      subst c15
      rw [if_pos rfl] at H
      replace H := Option.bind_eq_some_iff.mp H
      obtain ⟨t226, A160, H⟩ := H
      try dsimp only at H
      have A16 := qab.mk A160
      clear A160
      have H' := qab.mk H
      clear H
      obtain ⟨hfz_, hcz17_0, hcz17_1, hcz17_2, hcz17_3, hcz17_4, hcz17_5⟩ := qz6 BK223.out
      go_wp2_with (first | ((with_reducible refine qbb (f := 16) rfl ?_); refine zl 17 Try.func16 #[.agg #[.int .i64 a0_0, .slice A0_1 l0_1.length c0_1, .slice A0_2 l0_2.length c0_2, .slice A0_3 l0_3.length c0_3, .slice A0_4 l0_4.length c0_4, .slice A0_5 l0_5.length c0_5]] ?_; (with_reducible refine (taliklaw07_short.calls a0_0 _ _ l0_1 _ _ l0_2 _ _ l0_3 _ _ l0_4 _ _ l0_5 true _ ?side1 ?side2 ?side3 ?side4 ?side5 ?side6 ?side7 ?side8 ?side9 ?side10 A6.out).mono ?_); (case side1 => exact zs (Kd.qai HR0_1.out HB.out)); (case side2 => exact HC0_1.out); (case side3 => exact zs (Kd.qai HR0_2.out HB.out)); (case side4 => exact HC0_2.out); (case side5 => exact zs (Kd.qai HR0_3.out HB.out)); (case side6 => exact HC0_3.out); (case side7 => exact zs (Kd.qai HR0_4.out HB.out)); (case side8 => exact HC0_4.out); (case side9 => exact zs (Kd.qai HR0_5.out HB.out)); (case side10 => exact HC0_5.out); rintro e w18 ⟨rfl, hb⟩; refine ⟨_, rfl, ?_⟩; replace BK223 := qab.mk (zk BK223.out hb); replace HB := qab.mk (qae (by repeat (first | (with_reducible first | exact HB.out | apply qag | apply qaf | apply qah | refine qaj ?_ GE223.out) | exact HB.out)) hb); (try clear hb); (try clear hb2); (try clear hk); (try clear hi); obtain ⟨hfz_, hcz19_0, hcz19_1, hcz19_2, hcz19_3, hcz19_4, hcz19_5⟩ := qz6 BK223.out) | (go_at_call 19; (with_reducible refine (taliklaw07_asked.calls a0_0 _ _ l0_1 _ _ l0_2 _ _ l0_3 _ _ l0_4 _ _ l0_5 _ _ l1 true _ ?side1 ?side2 ?side3 ?side4 ?side5 ?side6 ?side7 ?side8 ?side9 ?side10 ?side11 ?side12 A14.out).mono ?_); (case side1 => exact zs (Kd.qai HR0_1.out HB.out)); (case side2 => exact HC0_1.out); (case side3 => exact zs (Kd.qai HR0_2.out HB.out)); (case side4 => exact HC0_2.out); (case side5 => exact zs (Kd.qai HR0_3.out HB.out)); (case side6 => exact HC0_3.out); (case side7 => exact zs (Kd.qai HR0_4.out HB.out)); (case side8 => exact HC0_4.out); (case side9 => exact zs (Kd.qai HR0_5.out HB.out)); (case side10 => exact HC0_5.out); (case side11 => exact zs (Kd.qai HR1.out HB.out)); (case side12 => exact HC1.out); rintro e w20 ⟨rfl, hb⟩; replace BK223 := qab.mk (zk BK223.out hb); replace HB := qab.mk (qae (by repeat (first | (with_reducible first | exact HB.out | apply qag | apply qaf | apply qah | refine qaj ?_ GE223.out) | exact HB.out)) hb); (try clear hb); (try clear hb2); (try clear hk); (try clear hi); obtain ⟨hfz_, hcz21_0, hcz21_1, hcz21_2, hcz21_3, hcz21_4, hcz21_5⟩ := qz6 BK223.out) | (go_at_call 20; (with_reducible refine (talikref07_Thaws.calls k a0_0 _ _ l0_1 _ _ l0_2 _ _ l0_3 _ _ l0_4 _ _ l0_5 _ _ l2 t226 _ ?side1 ?side2 ?side3 ?side4 ?side5 ?side6 ?side7 ?side8 ?side9 ?side10 ?side11 ?side12 A16.out).mono ?_); (case side1 => exact zs (Kd.qai HR0_1.out HB.out)); (case side2 => exact HC0_1.out); (case side3 => exact zs (Kd.qai HR0_2.out HB.out)); (case side4 => exact HC0_2.out); (case side5 => exact zs (Kd.qai HR0_3.out HB.out)); (case side6 => exact HC0_3.out); (case side7 => exact zs (Kd.qai HR0_4.out HB.out)); (case side8 => exact HC0_4.out); (case side9 => exact zs (Kd.qai HR0_5.out HB.out)); (case side10 => exact HC0_5.out); (case side11 => exact zs (Kd.qai HR2.out HB.out)); (case side12 => exact HC2.out); rintro e w22 ⟨rfl, hb⟩; replace BK223 := qab.mk (zk BK223.out hb); replace HB := qab.mk (qae (by repeat (first | (with_reducible first | exact HB.out | apply qag | apply qaf | apply qah | refine qaj ?_ GE223.out) | exact HB.out)) hb); (try clear hb); (try clear hb2); (try clear hk); (try clear hi)))
      go_meet
      case rel => exact ⟨_, (!t226), (by first | rfl | (simp; done) | (simp [*]; done)), H', ⟨by first | omega | exact Nat.le_refl _⟩, ⟨zj BK223.out⟩, ⟨by repeat (first | (with_reducible first | exact HB.out | apply qag | apply qaf | apply qah | refine qaj ?_ GE223.out) | exact HB.out)⟩⟩
     ·
      replace c15 := Bool.eq_false_iff.mpr c15
      subst c15
      rw [if_neg (show ¬ (false = true) by decide)] at H
      have H' := qab.mk H
      clear H
      obtain ⟨hfz_, hcz23_0, hcz23_1, hcz23_2, hcz23_3, hcz23_4, hcz23_5⟩ := qz6 BK223.out
      go_wp2_with (first | ((with_reducible refine qbb (f := 16) rfl ?_); refine zl 17 Try.func16 #[.agg #[.int .i64 a0_0, .slice A0_1 l0_1.length c0_1, .slice A0_2 l0_2.length c0_2, .slice A0_3 l0_3.length c0_3, .slice A0_4 l0_4.length c0_4, .slice A0_5 l0_5.length c0_5]] ?_; (with_reducible refine (taliklaw07_short.calls a0_0 _ _ l0_1 _ _ l0_2 _ _ l0_3 _ _ l0_4 _ _ l0_5 true _ ?side1 ?side2 ?side3 ?side4 ?side5 ?side6 ?side7 ?side8 ?side9 ?side10 A6.out).mono ?_); (case side1 => exact zs (Kd.qai HR0_1.out HB.out)); (case side2 => exact HC0_1.out); (case side3 => exact zs (Kd.qai HR0_2.out HB.out)); (case side4 => exact HC0_2.out); (case side5 => exact zs (Kd.qai HR0_3.out HB.out)); (case side6 => exact HC0_3.out); (case side7 => exact zs (Kd.qai HR0_4.out HB.out)); (case side8 => exact HC0_4.out); (case side9 => exact zs (Kd.qai HR0_5.out HB.out)); (case side10 => exact HC0_5.out); rintro e w24 ⟨rfl, hb⟩; refine ⟨_, rfl, ?_⟩; replace BK223 := qab.mk (zk BK223.out hb); replace HB := qab.mk (qae (by repeat (first | (with_reducible first | exact HB.out | apply qag | apply qaf | apply qah | refine qaj ?_ GE223.out) | exact HB.out)) hb); (try clear hb); (try clear hb2); (try clear hk); (try clear hi); obtain ⟨hfz_, hcz25_0, hcz25_1, hcz25_2, hcz25_3, hcz25_4, hcz25_5⟩ := qz6 BK223.out) | (go_at_call 19; (with_reducible refine (taliklaw07_asked.calls a0_0 _ _ l0_1 _ _ l0_2 _ _ l0_3 _ _ l0_4 _ _ l0_5 _ _ l1 false _ ?side1 ?side2 ?side3 ?side4 ?side5 ?side6 ?side7 ?side8 ?side9 ?side10 ?side11 ?side12 A14.out).mono ?_); (case side1 => exact zs (Kd.qai HR0_1.out HB.out)); (case side2 => exact HC0_1.out); (case side3 => exact zs (Kd.qai HR0_2.out HB.out)); (case side4 => exact HC0_2.out); (case side5 => exact zs (Kd.qai HR0_3.out HB.out)); (case side6 => exact HC0_3.out); (case side7 => exact zs (Kd.qai HR0_4.out HB.out)); (case side8 => exact HC0_4.out); (case side9 => exact zs (Kd.qai HR0_5.out HB.out)); (case side10 => exact HC0_5.out); (case side11 => exact zs (Kd.qai HR1.out HB.out)); (case side12 => exact HC1.out); rintro e w26 ⟨rfl, hb⟩; replace BK223 := qab.mk (zk BK223.out hb); replace HB := qab.mk (qae (by repeat (first | (with_reducible first | exact HB.out | apply qag | apply qaf | apply qah | refine qaj ?_ GE223.out) | exact HB.out)) hb); (try clear hb); (try clear hb2); (try clear hk); (try clear hi)))
      go_meet
      case rel => exact ⟨_, (true), (by first | rfl | (simp; done) | (simp [*]; done)), H', ⟨by first | omega | exact Nat.le_refl _⟩, ⟨zj BK223.out⟩, ⟨by repeat (first | (with_reducible first | exact HB.out | apply qag | apply qaf | apply qah | refine qaj ?_ GE223.out) | exact HB.out)⟩⟩
  ·
   replace c7 := Bool.eq_false_iff.mpr c7
   subst c7
   rw [if_neg (show ¬ (false = true) by decide)] at H
   have H' := qab.mk H
   clear H
   obtain ⟨hfz_, hcz27_0, hcz27_1, hcz27_2, hcz27_3, hcz27_4, hcz27_5⟩ := qz6 BK223.out
   go_wp2_with (first | ((with_reducible refine qbb (f := 16) rfl ?_); refine zl 17 Try.func16 #[.agg #[.int .i64 a0_0, .slice A0_1 l0_1.length c0_1, .slice A0_2 l0_2.length c0_2, .slice A0_3 l0_3.length c0_3, .slice A0_4 l0_4.length c0_4, .slice A0_5 l0_5.length c0_5]] ?_; (with_reducible refine (taliklaw07_short.calls a0_0 _ _ l0_1 _ _ l0_2 _ _ l0_3 _ _ l0_4 _ _ l0_5 false _ ?side1 ?side2 ?side3 ?side4 ?side5 ?side6 ?side7 ?side8 ?side9 ?side10 A6.out).mono ?_); (case side1 => exact zs (Kd.qai HR0_1.out HB.out)); (case side2 => exact HC0_1.out); (case side3 => exact zs (Kd.qai HR0_2.out HB.out)); (case side4 => exact HC0_2.out); (case side5 => exact zs (Kd.qai HR0_3.out HB.out)); (case side6 => exact HC0_3.out); (case side7 => exact zs (Kd.qai HR0_4.out HB.out)); (case side8 => exact HC0_4.out); (case side9 => exact zs (Kd.qai HR0_5.out HB.out)); (case side10 => exact HC0_5.out); rintro e w28 ⟨rfl, hb⟩; refine ⟨_, rfl, ?_⟩; replace BK223 := qab.mk (zk BK223.out hb); replace HB := qab.mk (qae (by repeat (first | (with_reducible first | exact HB.out | apply qag | apply qaf | apply qah | refine qaj ?_ GE223.out) | exact HB.out)) hb); (try clear hb); (try clear hb2); (try clear hk); (try clear hi)))
   go_meet
   case rel => exact ⟨_, (true), (by first | rfl | (simp; done) | (simp [*]; done)), H', ⟨by first | omega | exact Nat.le_refl _⟩, ⟨zj BK223.out⟩, ⟨by repeat (first | (with_reducible first | exact HB.out | apply qag | apply qaf | apply qah | refine qaj ?_ GE223.out) | exact HB.out)⟩⟩
 case rest =>
  clear HC4
  try clear c1
  try clear c2
  try clear p2
  try clear c4
  try clear c7
  try clear c8
  try clear c8b0
  try clear c8b1
  try clear c11
  try clear c11b0
  try clear c11b1
  try clear c15
  try clear c16
  try clear hcz12_0
  try clear hcz12_1
  try clear hcz12_2
  try clear hcz12_3
  try clear hcz12_4
  try clear hcz12_5
  try clear hcz17_0
  try clear hcz17_1
  try clear hcz17_2
  try clear hcz17_3
  try clear hcz17_4
  try clear hcz17_5
  try clear hcz19_0
  try clear hcz19_1
  try clear hcz19_2
  try clear hcz19_3
  try clear hcz19_4
  try clear hcz19_5
  try clear hcz21_0
  try clear hcz21_1
  try clear hcz21_2
  try clear hcz21_3
  try clear hcz21_4
  try clear hcz21_5
  try clear hcz23_0
  try clear hcz23_1
  try clear hcz23_2
  try clear hcz23_3
  try clear hcz23_4
  try clear hcz23_5
  try clear hcz25_0
  try clear hcz25_1
  try clear hcz25_2
  try clear hcz25_3
  try clear hcz25_4
  try clear hcz25_5
  try clear hcz27_0
  try clear hcz27_1
  try clear hcz27_2
  try clear hcz27_3
  try clear hcz27_4
  try clear hcz27_5
  try clear hcz9_0
  try clear hcz9_1
  try clear hcz9_2
  try clear hcz9_3
  try clear hcz9_4
  try clear hcz9_5
  try clear hfz12_0
  try clear hfz12_1
  try clear hfz12_2
  try clear hfz12_3
  try clear hfz12_4
  try clear hfz12_5
  try clear hfz17_0
  try clear hfz17_1
  try clear hfz17_2
  try clear hfz17_3
  try clear hfz17_4
  try clear hfz17_5
  try clear hfz19_0
  try clear hfz19_1
  try clear hfz19_2
  try clear hfz19_3
  try clear hfz19_4
  try clear hfz19_5
  try clear hfz21_0
  try clear hfz21_1
  try clear hfz21_2
  try clear hfz21_3
  try clear hfz21_4
  try clear hfz21_5
  try clear hfz23_0
  try clear hfz23_1
  try clear hfz23_2
  try clear hfz23_3
  try clear hfz23_4
  try clear hfz23_5
  try clear hfz25_0
  try clear hfz25_1
  try clear hfz25_2
  try clear hfz25_3
  try clear hfz25_4
  try clear hfz25_5
  try clear hfz27_0
  try clear hfz27_1
  try clear hfz27_2
  try clear hfz27_3
  try clear hfz27_4
  try clear hfz27_5
  try clear hfz9_0
  try clear hfz9_1
  try clear hfz9_2
  try clear hfz9_3
  try clear hfz9_4
  try clear hfz9_5
  obtain ⟨kq, x40_3, rfl, HA, HJ3, BK223, HB⟩ := hcut
  cases kq with
  | zero => exact absurd HA.out (by simp [taliklaw07_SeepTrue.j0])
  | succ kj3 =>
   have H := HA.out
   clear HA
   simp only [taliklaw07_SeepTrue.j0] at H
   by_cases c29 : x40_3 = true
   ·
    subst c29
    rw [if_pos rfl] at H
    replace H := Option.bind_eq_some_iff.mp H
    obtain ⟨t227, A300, H⟩ := H
    try dsimp only at H
    have A30 := qab.mk A300
    clear A300
    obtain rfl := Option.some.inj H
    go_wp2_with (first | ((with_reducible refine qbb (f := 17) rfl ?_); refine zl 41 Try.func17 #[] ?_; (with_reducible refine (taliklaw07_known.calls  t227 _ A30.out).mono ?_); rintro e w31 ⟨rfl, hb⟩; refine ⟨_, rfl, ?_⟩; replace BK223 := qab.mk (zk BK223.out hb); replace HB := qab.mk (qae (by repeat (first | (with_reducible first | exact HB.out | apply qag | apply qaf | apply qah | refine qaj ?_ GE223.out) | exact HB.out)) hb); (try clear hb); (try clear hb2); (try clear hk); (try clear hi)))
    go_ret
    exact ⟨by first | rfl | (simp [qaz, qba] <;> rfl) | (simp [*, qaz, qba] <;> rfl), by repeat (first | (with_reducible first | exact HB.out | apply qag | apply qaf | apply qah | refine qaj ?_ GE223.out) | exact HB.out)⟩
   ·
    replace c29 := Bool.eq_false_iff.mpr c29
    subst c29
    rw [if_neg (show ¬ (false = true) by decide)] at H
    replace H := Option.bind_eq_some_iff.mp H
    obtain ⟨⟨t228, t231⟩, A320, H⟩ := H
    try dsimp only at H
    have A32 := qab.mk A320
    clear A320
    replace H := Option.bind_eq_some_iff.mp H
    obtain ⟨⟨t232, t235⟩, A330, H⟩ := H
    try dsimp only at H
    have A33 := qab.mk A330
    clear A330
    replace H := Option.bind_eq_some_iff.mp H
    obtain ⟨t236, A340, H⟩ := H
    try dsimp only at H
    have A34 := qab.mk A340
    clear A340
    replace H := Option.bind_eq_some_iff.mp H
    obtain ⟨⟨t239, t242⟩, A350, H⟩ := H
    try dsimp only at H
    have A35 := qab.mk A350
    clear A350
    replace H := Option.bind_eq_some_iff.mp H
    obtain ⟨t243, A360, H⟩ := H
    try dsimp only at H
    have A36 := qab.mk A360
    clear A360
    replace H := Option.bind_eq_some_iff.mp H
    obtain ⟨⟨t246, t249⟩, A370, H⟩ := H
    try dsimp only at H
    have A37 := qab.mk A370
    clear A370
    have HC38 := qab.mk H
    clear H
    obtain ⟨hfz_, hcz39_0, hcz39_1, hcz39_2, hcz39_3, hcz39_4, hcz39_5⟩ := qz6 BK223.out
    try go_wp2_with (first | ((with_reducible refine qbb (f := 23) rfl ?_); refine zl 45 Try.func23 #[.agg #[.int .i64 a0_0, .slice A0_1 l0_1.length c0_1, .slice A0_2 l0_2.length c0_2, .slice A0_3 l0_3.length c0_3, .slice A0_4 l0_4.length c0_4, .slice A0_5 l0_5.length c0_5], .slice A1 l1.length c1] ?_; (with_reducible refine (seep_Years.calls a0_0 _ _ l0_1 _ _ l0_2 _ _ l0_3 _ _ l0_4 _ _ l0_5 _ _ l1 t228 t231 _ ?side1 ?side2 ?side3 ?side4 ?side5 ?side6 ?side7 ?side8 ?side9 ?side10 ?side11 ?side12 A32.out).mono ?_); (case side1 => exact zs (Kd.qai HR0_1.out HB.out)); (case side2 => exact HC0_1.out); (case side3 => exact zs (Kd.qai HR0_2.out HB.out)); (case side4 => exact HC0_2.out); (case side5 => exact zs (Kd.qai HR0_3.out HB.out)); (case side6 => exact HC0_3.out); (case side7 => exact zs (Kd.qai HR0_4.out HB.out)); (case side8 => exact HC0_4.out); (case side9 => exact zs (Kd.qai HR0_5.out HB.out)); (case side10 => exact HC0_5.out); (case side11 => exact zs (Kd.qai HR1.out HB.out)); (case side12 => exact HC1.out); rintro e w40 ⟨v229, rfl, ho0, hb⟩; refine ⟨_, rfl, ?_⟩; have HO230 := qab.mk (Kd.R_lower ho0 (qay (by repeat (first | (with_reducible first | exact HB.out | apply qag | apply qaf | apply qah | refine qaj ?_ GE223.out) | exact HB.out)))); replace BK223 := qab.mk (zk BK223.out hb); replace HB := qab.mk (qae (by repeat (first | (with_reducible first | exact HB.out | apply qag | apply qaf | apply qah | refine qaj ?_ GE223.out) | exact HB.out)) hb); (try clear hb); (try clear hb2); (try clear hk); (try clear hi); (try clear ho0); obtain ⟨hfz_, hcz41_0, hcz41_1, hcz41_2, hcz41_3, hcz41_4, hcz41_5⟩ := qz6 BK223.out) | ((with_reducible refine qbb (f := 18) rfl ?_); refine zl 52 Try.func18 #[.agg #[.int .i64 a0_0, .slice A0_1 l0_1.length c0_1, .slice A0_2 l0_2.length c0_2, .slice A0_3 l0_3.length c0_3, .slice A0_4 l0_4.length c0_4, .slice A0_5 l0_5.length c0_5], .slice A1 l1.length c1, .slice A2 l2.length c2] ?_; (with_reducible refine (seep_Play.calls a0_0 _ _ l0_1 _ _ l0_2 _ _ l0_3 _ _ l0_4 _ _ l0_5 _ _ l1 _ _ l2 t232 t235 _ ?side1 ?side2 ?side3 ?side4 ?side5 ?side6 ?side7 ?side8 ?side9 ?side10 ?side11 ?side12 ?side13 ?side14 A33.out).mono ?_); (case side1 => exact zs (Kd.qai HR0_1.out HB.out)); (case side2 => exact HC0_1.out); (case side3 => exact zs (Kd.qai HR0_2.out HB.out)); (case side4 => exact HC0_2.out); (case side5 => exact zs (Kd.qai HR0_3.out HB.out)); (case side6 => exact HC0_3.out); (case side7 => exact zs (Kd.qai HR0_4.out HB.out)); (case side8 => exact HC0_4.out); (case side9 => exact zs (Kd.qai HR0_5.out HB.out)); (case side10 => exact HC0_5.out); (case side11 => exact zs (Kd.qai HR1.out HB.out)); (case side12 => exact HC1.out); (case side13 => exact zs (Kd.qai HR2.out HB.out)); (case side14 => exact HC2.out); rintro e w42 ⟨v233, rfl, ho0, hb⟩; refine ⟨_, rfl, ?_⟩; replace HO230 := qab.mk (zx HO230.out hb); have HO234 := qab.mk (Kd.R_lower ho0 (qay (by repeat (first | (with_reducible first | exact HB.out | apply qag | apply qaf | apply qah | refine qaj ?_ GE223.out) | exact HB.out)))); replace BK223 := qab.mk (zk BK223.out hb); replace HB := qab.mk (qae (by repeat (first | (with_reducible first | exact HB.out | apply qag | apply qaf | apply qah | refine qaj ?_ GE223.out) | exact HB.out)) hb); (try clear hb); (try clear hb2); (try clear hk); (try clear hi); (try clear ho0)))
    replace HO230 := qab.mk (Kd.qaw HO230.out)
    replace HO234 := qab.mk (Kd.qaw HO234.out)
    replace BK223 := qab.mk (qav BK223.out)
    replace HB := qab.mk (qah HB.out)
    refine start_ (n := 10) (S := fun w' => w'.cell? ⟨gb223, 0, none⟩ = some (.int .i64 a0_0) ∧ w'.cell? ⟨gb223, 1, none⟩ = some (.slice A0_1 l0_1.length c0_1) ∧ w'.cell? ⟨gb223, 2, none⟩ = some (.slice A0_2 l0_2.length c0_2) ∧ w'.cell? ⟨gb223, 3, none⟩ = some (.slice A0_3 l0_3.length c0_3) ∧ w'.cell? ⟨gb223, 4, none⟩ = some (.slice A0_4 l0_4.length c0_4) ∧ w'.cell? ⟨gb223, 5, none⟩ = some (.slice A0_5 l0_5.length c0_5)) (ds := []) (msk 10 0) (by kernel_rfl) rfl rfl ⟨(qaa BK223.out 0).trans rfl, (qaa BK223.out 1).trans rfl, (qaa BK223.out 2).trans rfl, (qaa BK223.out 3).trans rfl, (qaa BK223.out 4).trans rfl, (qaa BK223.out 5).trans rfl⟩ (fun hHeld => ?_); refine with_tabW taliklaw07_SeepTrue.tab5 taliklaw07_SeepTrue.bits5 (fun HT_ HW_ => ?_)
    generalize w42.drew = w43 at HO230 HO234 BK223 HB hHeld ⊢
    refine zug (mkb 10 2) HT_.out 1 57 ?_
    refine zwg6 (msk 10 2) HT_.out HW_.out 0 56 hHeld ?_
    refine zw6 HT_.out HW_.out 2 3 58 hHeld ?_
    refine one_ (i := 3) (N := some 59) (msk 10 4) rfl rfl (one_of HT_.out (by kernel_rfl)) (by decide) (fun K hK => ?_)
    refine zg Try.func24 #[.agg #[.int .i64 a0_0, .slice A0_1 l0_1.length c0_1, .slice A0_2 l0_2.length c0_2, .slice A0_3 l0_3.length c0_3, .slice A0_4 l0_4.length c0_4, .slice A0_5 l0_5.length c0_5], .bool true] ?_
    with_reducible refine (talikref07_End.calls kj3 a0_0 _ _ l0_1 _ _ l0_2 _ _ l0_3 _ _ l0_4 _ _ l0_5 true t236 _ ?side1 ?side2 ?side3 ?side4 ?side5 ?side6 ?side7 ?side8 ?side9 ?side10 A34.out).mono ?_
    (case side1 => exact zs (Kd.qai HR0_1.out HB.out))
    (case side2 => exact HC0_1.out)
    (case side3 => exact zs (Kd.qai HR0_2.out HB.out))
    (case side4 => exact HC0_2.out)
    (case side5 => exact zs (Kd.qai HR0_3.out HB.out))
    (case side6 => exact HC0_3.out)
    (case side7 => exact zs (Kd.qai HR0_4.out HB.out))
    (case side8 => exact HC0_4.out)
    (case side9 => exact zs (Kd.qai HR0_5.out HB.out))
    (case side10 => exact HC0_5.out)
    rintro e w44 ⟨v237, rfl, ho0, hb⟩
    refine ⟨_, rfl, ?_⟩
    have n0_ := qab.mk (zx HO230.out hb)
    have n1_ := qab.mk (Kd.R_elder' (by (with_reducible repeat (first | apply Kd.qas | apply Kd.qat | apply Kd.qaw)); exact HO234.out) (Kd.R_base ho0) hb)
    have n2_ := qab.mk (Kd.R_lower (Kd.R_new' ho0 (Kd.R_lt (by (with_reducible repeat (first | apply Kd.qas | apply Kd.qat | apply Kd.qaw)); exact HO234.out))) (qay (by repeat (first | (with_reducible first | exact HB.out | apply qag | apply qaf | apply qah | refine qaj ?_ GE223.out) | exact HB.out))))
    have n3_ := qab.mk (zk BK223.out hb)
    have n4_ := qab.mk (qae (by repeat (first | (with_reducible first | exact HB.out | apply qag | apply qaf | apply qah | refine qaj ?_ GE223.out) | exact HB.out)) hb)
    clear HO230
    clear HO234
    clear BK223
    clear HB
    have HO230 := n0_
    have HO234 := n1_
    have HO238 := n2_
    have BK223 := n3_
    have HB := n4_
    clear n0_ n1_ n2_ n3_ n4_
    (try clear hb)
    (try clear hb2)
    (try clear hk)
    (try clear hi)
    (try clear ho0)
    obtain ⟨Ao45, co45, eo45⟩ := Kd.R_slice HO238.out
    (first | subst eo45 | (injection eo45 with f1_ f2_ f3_; have f4_ := f1_.symm; have f5_ := f3_.symm; clear f1_ f2_ f3_; subst f4_; subst f5_))
    refine hK.out _ _ ⟨(qaa BK223.out 0).trans rfl, (qaa BK223.out 1).trans rfl, (qaa BK223.out 2).trans rfl, (qaa BK223.out 3).trans rfl, (qaa BK223.out 4).trans rfl, (qaa BK223.out 5).trans rfl⟩ (fun hHeld => ?_)
    clear hK K
    refine zn 59 ?_
    refine one_ (i := 4) (N := some 60) (msk 10 5) rfl rfl (one_of HT_.out (by kernel_rfl)) (by decide) (fun K hK => ?_)
    refine zg Try.func18 #[.agg #[.int .i64 a0_0, .slice A0_1 l0_1.length c0_1, .slice A0_2 l0_2.length c0_2, .slice A0_3 l0_3.length c0_3, .slice A0_4 l0_4.length c0_4, .slice A0_5 l0_5.length c0_5], .slice A1 l1.length c1, .slice Ao45 t236.length co45] ?_
    with_reducible refine (seep_Play.calls a0_0 _ _ l0_1 _ _ l0_2 _ _ l0_3 _ _ l0_4 _ _ l0_5 _ _ l1 _ _ t236 t239 t242 _ ?side1 ?side2 ?side3 ?side4 ?side5 ?side6 ?side7 ?side8 ?side9 ?side10 ?side11 ?side12 ?side13 ?side14 A35.out).mono ?_
    (case side1 => exact zs (Kd.qai HR0_1.out HB.out))
    (case side2 => exact HC0_1.out)
    (case side3 => exact zs (Kd.qai HR0_2.out HB.out))
    (case side4 => exact HC0_2.out)
    (case side5 => exact zs (Kd.qai HR0_3.out HB.out))
    (case side6 => exact HC0_3.out)
    (case side7 => exact zs (Kd.qai HR0_4.out HB.out))
    (case side8 => exact HC0_4.out)
    (case side9 => exact zs (Kd.qai HR0_5.out HB.out))
    (case side10 => exact HC0_5.out)
    (case side11 => exact zs (Kd.qai HR1.out HB.out))
    (case side12 => exact HC1.out)
    (case side13 => repeat (first | exact (Kd.qbc HO238.out).2.2 | (with_reducible refine Kd.qak ?_ _) | (with_reducible refine Kd.qal ?_ _) | (with_reducible refine Kd.qap ?_)))
    (case side14 => exact (Kd.qbc HO238.out).2.1)
    rintro e w46 ⟨v240, rfl, ho0, hb⟩
    refine ⟨_, rfl, ?_⟩
    have n0_ := qab.mk (zx HO230.out hb)
    have n1_ := qab.mk (Kd.R_elder' (by (with_reducible repeat (first | apply Kd.qas | apply Kd.qat | apply Kd.qaw)); exact HO234.out) (Kd.R_base ho0) hb)
    have n2_ := qab.mk (Kd.R_elder' (by (with_reducible repeat (first | apply Kd.qas | apply Kd.qat | apply Kd.qaw)); exact HO238.out) (Kd.R_base ho0) hb)
    have n3_ := qab.mk (Kd.R_lower (Kd.R_new' (Kd.R_new' ho0 (Kd.R_lt (by (with_reducible repeat (first | apply Kd.qas | apply Kd.qat | apply Kd.qaw)); exact HO234.out))) (Kd.R_lt (by (with_reducible repeat (first | apply Kd.qas | apply Kd.qat | apply Kd.qaw)); exact HO238.out))) (qay (by repeat (first | (with_reducible first | exact HB.out | apply qag | apply qaf | apply qah | refine qaj ?_ GE223.out) | exact HB.out))))
    have n4_ := qab.mk (zk BK223.out hb)
    have n5_ := qab.mk (qae (by repeat (first | (with_reducible first | exact HB.out | apply qag | apply qaf | apply qah | refine qaj ?_ GE223.out) | exact HB.out)) hb)
    clear HO230
    clear HO234
    clear HO238
    clear BK223
    clear HB
    have HO230 := n0_
    have HO234 := n1_
    have HO238 := n2_
    have HO241 := n3_
    have BK223 := n4_
    have HB := n5_
    clear n0_ n1_ n2_ n3_ n4_ n5_
    (try clear hb)
    (try clear hb2)
    (try clear hk)
    (try clear hi)
    (try clear ho0)
    refine hK.out _ _ ⟨(qaa BK223.out 0).trans rfl, (qaa BK223.out 1).trans rfl, (qaa BK223.out 2).trans rfl, (qaa BK223.out 3).trans rfl, (qaa BK223.out 4).trans rfl, (qaa BK223.out 5).trans rfl⟩ (fun hHeld => ?_)
    clear hK K
    refine zn 60 ?_
    refine zu HT_.out 5 6 55 ?_
    refine zu HT_.out 6 7 61 ?_
    refine zu HT_.out 7 8 62 ?_
    refine zu HT_.out 8 9 11 ?_
    refine zu HT_.out 9 10 12 ?_
    refine done_ (done_of HT_.out (by kernel_rfl)) ?_
    try go_wp2
    replace HO230 := qab.mk (Kd.qaw HO230.out)
    replace HO234 := qab.mk (Kd.qaw HO234.out)
    replace HO238 := qab.mk (Kd.qaw HO238.out)
    replace HO241 := qab.mk (Kd.qaw HO241.out)
    replace BK223 := qab.mk (qav BK223.out)
    replace HB := qab.mk (qah HB.out)
    refine start_ (n := 10) (S := fun w' => w'.cell? ⟨gb223, 0, none⟩ = some (.int .i64 a0_0) ∧ w'.cell? ⟨gb223, 1, none⟩ = some (.slice A0_1 l0_1.length c0_1) ∧ w'.cell? ⟨gb223, 2, none⟩ = some (.slice A0_2 l0_2.length c0_2) ∧ w'.cell? ⟨gb223, 3, none⟩ = some (.slice A0_3 l0_3.length c0_3) ∧ w'.cell? ⟨gb223, 4, none⟩ = some (.slice A0_4 l0_4.length c0_4) ∧ w'.cell? ⟨gb223, 5, none⟩ = some (.slice A0_5 l0_5.length c0_5)) (ds := []) (msk 10 0) (by kernel_rfl) rfl rfl ⟨(qaa BK223.out 0).trans rfl, (qaa BK223.out 1).trans rfl, (qaa BK223.out 2).trans rfl, (qaa BK223.out 3).trans rfl, (qaa BK223.out 4).trans rfl, (qaa BK223.out 5).trans rfl⟩ (fun hHeld => ?_); refine with_tabW taliklaw07_SeepTrue.tab6 taliklaw07_SeepTrue.bits6 (fun HT_ HW_ => ?_)
    generalize w46.drew = w47 at HO230 HO234 HO238 HO241 BK223 HB hHeld ⊢
    refine zug (mkb 10 2) HT_.out 1 65 ?_
    refine zwg6 (msk 10 2) HT_.out HW_.out 0 64 hHeld ?_
    refine zw6 HT_.out HW_.out 2 3 66 hHeld ?_
    refine one_ (i := 3) (N := some 67) (msk 10 4) rfl rfl (one_of HT_.out (by kernel_rfl)) (by decide) (fun K hK => ?_)
    refine zg Try.func24 #[.agg #[.int .i64 a0_0, .slice A0_1 l0_1.length c0_1, .slice A0_2 l0_2.length c0_2, .slice A0_3 l0_3.length c0_3, .slice A0_4 l0_4.length c0_4, .slice A0_5 l0_5.length c0_5], .bool false] ?_
    with_reducible refine (talikref07_End.calls kj3 a0_0 _ _ l0_1 _ _ l0_2 _ _ l0_3 _ _ l0_4 _ _ l0_5 false t243 _ ?side1 ?side2 ?side3 ?side4 ?side5 ?side6 ?side7 ?side8 ?side9 ?side10 A36.out).mono ?_
    (case side1 => exact zs (Kd.qai HR0_1.out HB.out))
    (case side2 => exact HC0_1.out)
    (case side3 => exact zs (Kd.qai HR0_2.out HB.out))
    (case side4 => exact HC0_2.out)
    (case side5 => exact zs (Kd.qai HR0_3.out HB.out))
    (case side6 => exact HC0_3.out)
    (case side7 => exact zs (Kd.qai HR0_4.out HB.out))
    (case side8 => exact HC0_4.out)
    (case side9 => exact zs (Kd.qai HR0_5.out HB.out))
    (case side10 => exact HC0_5.out)
    rintro e w48 ⟨v244, rfl, ho0, hb⟩
    refine ⟨_, rfl, ?_⟩
    have n0_ := qab.mk (zx HO230.out hb)
    have n1_ := qab.mk (Kd.R_elder' (by (with_reducible repeat (first | apply Kd.qas | apply Kd.qat | apply Kd.qaw)); exact HO234.out) (Kd.R_base ho0) hb)
    have n2_ := qab.mk (Kd.R_elder' (by (with_reducible repeat (first | apply Kd.qas | apply Kd.qat | apply Kd.qaw)); exact HO238.out) (Kd.R_base ho0) hb)
    have n3_ := qab.mk (Kd.R_elder' (by (with_reducible repeat (first | apply Kd.qas | apply Kd.qat | apply Kd.qaw)); exact HO241.out) (Kd.R_base ho0) hb)
    have n4_ := qab.mk (Kd.R_lower (Kd.R_new' (Kd.R_new' (Kd.R_new' ho0 (Kd.R_lt (by (with_reducible repeat (first | apply Kd.qas | apply Kd.qat | apply Kd.qaw)); exact HO234.out))) (Kd.R_lt (by (with_reducible repeat (first | apply Kd.qas | apply Kd.qat | apply Kd.qaw)); exact HO238.out))) (Kd.R_lt (by (with_reducible repeat (first | apply Kd.qas | apply Kd.qat | apply Kd.qaw)); exact HO241.out))) (qay (by repeat (first | (with_reducible first | exact HB.out | apply qag | apply qaf | apply qah | refine qaj ?_ GE223.out) | exact HB.out))))
    have n5_ := qab.mk (zk BK223.out hb)
    have n6_ := qab.mk (qae (by repeat (first | (with_reducible first | exact HB.out | apply qag | apply qaf | apply qah | refine qaj ?_ GE223.out) | exact HB.out)) hb)
    clear HO230
    clear HO234
    clear HO238
    clear HO241
    clear BK223
    clear HB
    have HO230 := n0_
    have HO234 := n1_
    have HO238 := n2_
    have HO241 := n3_
    have HO245 := n4_
    have BK223 := n5_
    have HB := n6_
    clear n0_ n1_ n2_ n3_ n4_ n5_ n6_
    (try clear hb)
    (try clear hb2)
    (try clear hk)
    (try clear hi)
    (try clear ho0)
    obtain ⟨Ao49, co49, eo49⟩ := Kd.R_slice HO245.out
    (first | subst eo49 | (injection eo49 with f1_ f2_ f3_; have f4_ := f1_.symm; have f5_ := f3_.symm; clear f1_ f2_ f3_; subst f4_; subst f5_))
    refine hK.out _ _ ⟨(qaa BK223.out 0).trans rfl, (qaa BK223.out 1).trans rfl, (qaa BK223.out 2).trans rfl, (qaa BK223.out 3).trans rfl, (qaa BK223.out 4).trans rfl, (qaa BK223.out 5).trans rfl⟩ (fun hHeld => ?_)
    clear hK K
    refine zn 67 ?_
    refine one_ (i := 4) (N := some 68) (msk 10 5) rfl rfl (one_of HT_.out (by kernel_rfl)) (by decide) (fun K hK => ?_)
    refine zg Try.func18 #[.agg #[.int .i64 a0_0, .slice A0_1 l0_1.length c0_1, .slice A0_2 l0_2.length c0_2, .slice A0_3 l0_3.length c0_3, .slice A0_4 l0_4.length c0_4, .slice A0_5 l0_5.length c0_5], .slice A1 l1.length c1, .slice Ao49 t243.length co49] ?_
    with_reducible refine (seep_Play.calls a0_0 _ _ l0_1 _ _ l0_2 _ _ l0_3 _ _ l0_4 _ _ l0_5 _ _ l1 _ _ t243 t246 t249 _ ?side1 ?side2 ?side3 ?side4 ?side5 ?side6 ?side7 ?side8 ?side9 ?side10 ?side11 ?side12 ?side13 ?side14 A37.out).mono ?_
    (case side1 => exact zs (Kd.qai HR0_1.out HB.out))
    (case side2 => exact HC0_1.out)
    (case side3 => exact zs (Kd.qai HR0_2.out HB.out))
    (case side4 => exact HC0_2.out)
    (case side5 => exact zs (Kd.qai HR0_3.out HB.out))
    (case side6 => exact HC0_3.out)
    (case side7 => exact zs (Kd.qai HR0_4.out HB.out))
    (case side8 => exact HC0_4.out)
    (case side9 => exact zs (Kd.qai HR0_5.out HB.out))
    (case side10 => exact HC0_5.out)
    (case side11 => exact zs (Kd.qai HR1.out HB.out))
    (case side12 => exact HC1.out)
    (case side13 => repeat (first | exact (Kd.qbc HO245.out).2.2 | (with_reducible refine Kd.qak ?_ _) | (with_reducible refine Kd.qal ?_ _) | (with_reducible refine Kd.qap ?_)))
    (case side14 => exact (Kd.qbc HO245.out).2.1)
    rintro e w50 ⟨v247, rfl, ho0, hb⟩
    refine ⟨_, rfl, ?_⟩
    have n0_ := qab.mk (zx HO230.out hb)
    have n1_ := qab.mk (Kd.R_elder' (by (with_reducible repeat (first | apply Kd.qas | apply Kd.qat | apply Kd.qaw)); exact HO234.out) (Kd.R_base ho0) hb)
    have n2_ := qab.mk (Kd.R_elder' (by (with_reducible repeat (first | apply Kd.qas | apply Kd.qat | apply Kd.qaw)); exact HO238.out) (Kd.R_base ho0) hb)
    have n3_ := qab.mk (Kd.R_elder' (by (with_reducible repeat (first | apply Kd.qas | apply Kd.qat | apply Kd.qaw)); exact HO241.out) (Kd.R_base ho0) hb)
    have n4_ := qab.mk (Kd.R_elder' (by (with_reducible repeat (first | apply Kd.qas | apply Kd.qat | apply Kd.qaw)); exact HO245.out) (Kd.R_base ho0) hb)
    have n5_ := qab.mk (Kd.R_lower (Kd.R_new' (Kd.R_new' (Kd.R_new' (Kd.R_new' ho0 (Kd.R_lt (by (with_reducible repeat (first | apply Kd.qas | apply Kd.qat | apply Kd.qaw)); exact HO234.out))) (Kd.R_lt (by (with_reducible repeat (first | apply Kd.qas | apply Kd.qat | apply Kd.qaw)); exact HO238.out))) (Kd.R_lt (by (with_reducible repeat (first | apply Kd.qas | apply Kd.qat | apply Kd.qaw)); exact HO241.out))) (Kd.R_lt (by (with_reducible repeat (first | apply Kd.qas | apply Kd.qat | apply Kd.qaw)); exact HO245.out))) (qay (by repeat (first | (with_reducible first | exact HB.out | apply qag | apply qaf | apply qah | refine qaj ?_ GE223.out) | exact HB.out))))
    have n6_ := qab.mk (zk BK223.out hb)
    have n7_ := qab.mk (qae (by repeat (first | (with_reducible first | exact HB.out | apply qag | apply qaf | apply qah | refine qaj ?_ GE223.out) | exact HB.out)) hb)
    clear HO230
    clear HO234
    clear HO238
    clear HO241
    clear HO245
    clear BK223
    clear HB
    have HO230 := n0_
    have HO234 := n1_
    have HO238 := n2_
    have HO241 := n3_
    have HO245 := n4_
    have HO248 := n5_
    have BK223 := n6_
    have HB := n7_
    clear n0_ n1_ n2_ n3_ n4_ n5_ n6_ n7_
    (try clear hb)
    (try clear hb2)
    (try clear hk)
    (try clear hi)
    (try clear ho0)
    refine hK.out _ _ ⟨(qaa BK223.out 0).trans rfl, (qaa BK223.out 1).trans rfl, (qaa BK223.out 2).trans rfl, (qaa BK223.out 3).trans rfl, (qaa BK223.out 4).trans rfl, (qaa BK223.out 5).trans rfl⟩ (fun hHeld => ?_)
    clear hK K
    refine zn 68 ?_
    refine zu HT_.out 5 6 63 ?_
    refine zu HT_.out 6 7 69 ?_
    refine zu HT_.out 7 8 70 ?_
    refine zu HT_.out 8 9 13 ?_
    refine zu HT_.out 9 10 14 ?_
    refine done_ (done_of HT_.out (by kernel_rfl)) ?_
    go_upto_region 7 with (fail)
    go_cut [112] (fun v112 wc => ∃ (kq : Nat) (x112_37 : Bool), v112 = .bool x112_37 ∧ qab (taliklaw07_SeepTrue.j1 kq t228 t232 t239 t246 x112_37 a0_0 l0_1 l0_2 l0_3 l0_4 l0_5 = some r) ∧ qab (kq ≤ kj3) ∧ qab (Kd.R k41 41 wc w.heap.size (fun _ => True) v229 t228) ∧ qab (Kd.R (Kd.int .i64) 3 wc w.heap.size (fun k_ => some k_ ≠ (v240 : Value).ownBlock ∧ some k_ ≠ (v247 : Value).ownBlock) v233 t232) ∧ qab (Kd.R (Kd.int .i64) 3 wc w.heap.size (fun k_ => some k_ ≠ (v233 : Value).ownBlock ∧ some k_ ≠ (v247 : Value).ownBlock) v240 t239) ∧ qab (Kd.R (Kd.int .i64) 3 wc w.heap.size (fun k_ => some k_ ≠ (v233 : Value).ownBlock ∧ some k_ ≠ (v240 : Value).ownBlock) v247 t246) ∧ qab (wc.heap[gb223]? = some (.cells #[.int .i64 a0_0, (.slice A0_1 l0_1.length c0_1), (.slice A0_2 l0_2.length c0_2), (.slice A0_3 l0_3.length c0_3), (.slice A0_4 l0_4.length c0_4), (.slice A0_5 l0_5.length c0_5)] 27 (0, 0))) ∧ qab (Below w.heap.size w wc))
    case first =>
     have H := HC38.out
     clear HC38
     by_cases c51 : t231 = 0
     ·
      rw [if_pos c51] at H
      have c51b0 : (t231 == 0) = true := beq_iff_eq.mpr c51
      have c51b1 : (t231 != 0) = false := bne_eq_false_iff_eq.mpr c51
      clear c51
      (first | rw [c51b0] | (simp only [i64_w, i32_w]; rw [c51b0]) | skip)
      by_cases c52 : t235 = 0
      ·
       rw [if_pos c52] at H
       have c52b0 : (t235 == 0) = true := beq_iff_eq.mpr c52
       have c52b1 : (t235 != 0) = false := bne_eq_false_iff_eq.mpr c52
       clear c52
       by_cases c53 : t242 = 0
       ·
        rw [if_pos c53] at H
        have c53b0 : (t242 == 0) = true := beq_iff_eq.mpr c53
        have c53b1 : (t242 != 0) = false := bne_eq_false_iff_eq.mpr c53
        clear c53
        by_cases c54 : t249 = 0
        ·
         rw [if_pos c54] at H
         have c54b0 : (t249 == 0) = true := beq_iff_eq.mpr c54
         have c54b1 : (t249 != 0) = false := bne_eq_false_iff_eq.mpr c54
         clear c54
         by_cases c55 : (t228.length : Int) = a0_0
         ·
          rw [if_pos c55] at H
          have c55b0 : ((t228.length : Int) == a0_0) = true := beq_iff_eq.mpr c55
          have c55b1 : ((t228.length : Int) != a0_0) = false := bne_eq_false_iff_eq.mpr c55
          clear c55
          by_cases c56 : (t232.length : Int) = a0_0
          ·
           rw [if_pos c56] at H
           have c56b0 : ((t232.length : Int) == a0_0) = true := beq_iff_eq.mpr c56
           have c56b1 : ((t232.length : Int) != a0_0) = false := bne_eq_false_iff_eq.mpr c56
           clear c56
           by_cases c57 : (t239.length : Int) = a0_0
           ·
            rw [if_pos c57] at H
            have c57b0 : ((t239.length : Int) == a0_0) = true := beq_iff_eq.mpr c57
            have c57b1 : ((t239.length : Int) != a0_0) = false := bne_eq_false_iff_eq.mpr c57
            clear c57
            have H' := qab.mk H
            clear H
            obtain ⟨Ao58, co58, eo58⟩ := Kd.R_slice HO230.out
            subst eo58
            obtain ⟨hfz_, hcz59_0, hcz59_1, hcz59_2, hcz59_3, hcz59_4, hcz59_5⟩ := qz6 BK223.out
            obtain ⟨Ao60, co60, eo60⟩ := Kd.R_slice HO234.out
            subst eo60
            obtain ⟨Ao61, co61, eo61⟩ := Kd.R_slice HO241.out
            subst eo61
            obtain ⟨Ao62, co62, eo62⟩ := Kd.R_slice HO248.out
            subst eo62
            go_wp2
            go_meet
            case rel => exact ⟨_, (((t246.length : Int) != a0_0)), (by first | rfl | (simp; done) | (simp [*]; done)), H', ⟨by have := HJ3.out; first | omega | exact Nat.le_refl _⟩, ⟨zy HO230.out⟩, ⟨by (with_reducible repeat (first | apply Kd.qas | apply Kd.qat | apply Kd.qaw)); exact Kd.R_mono HO234.out (fun _ hk => ⟨hk.1.1.2, hk.2⟩)⟩, ⟨by (with_reducible repeat (first | apply Kd.qas | apply Kd.qat | apply Kd.qaw)); exact Kd.R_mono HO241.out (fun _ hk => ⟨hk.1.1.1.2, hk.2⟩)⟩, ⟨by (with_reducible repeat (first | apply Kd.qas | apply Kd.qat | apply Kd.qaw)); exact Kd.R_mono HO248.out (fun _ hk => ⟨hk.1.1.1.2, hk.1.2⟩)⟩, ⟨zj BK223.out⟩, ⟨by repeat (first | (with_reducible first | exact HB.out | apply qag | apply qaf | apply qah | refine qaj ?_ GE223.out) | exact HB.out)⟩⟩
           ·
            rw [if_neg c57] at H
            have c57b0 : ((t239.length : Int) == a0_0) = false := beq_eq_false_iff_ne.mpr c57
            have c57b1 : ((t239.length : Int) != a0_0) = true := bne_iff_ne.mpr c57
            have H' := qab.mk H
            clear H
            obtain ⟨Ao63, co63, eo63⟩ := Kd.R_slice HO230.out
            subst eo63
            obtain ⟨hfz_, hcz64_0, hcz64_1, hcz64_2, hcz64_3, hcz64_4, hcz64_5⟩ := qz6 BK223.out
            obtain ⟨Ao65, co65, eo65⟩ := Kd.R_slice HO234.out
            subst eo65
            obtain ⟨Ao66, co66, eo66⟩ := Kd.R_slice HO241.out
            subst eo66
            go_wp2
            go_meet
            case rel => exact ⟨_, (true), (by first | rfl | (simp; done) | (simp [*]; done)), H', ⟨by have := HJ3.out; first | omega | exact Nat.le_refl _⟩, ⟨zy HO230.out⟩, ⟨by (with_reducible repeat (first | apply Kd.qas | apply Kd.qat | apply Kd.qaw)); exact Kd.R_mono HO234.out (fun _ hk => ⟨hk.1.1.2, hk.2⟩)⟩, ⟨by (with_reducible repeat (first | apply Kd.qas | apply Kd.qat | apply Kd.qaw)); exact Kd.R_mono HO241.out (fun _ hk => ⟨hk.1.1.1.2, hk.2⟩)⟩, ⟨by (with_reducible repeat (first | apply Kd.qas | apply Kd.qat | apply Kd.qaw)); exact Kd.R_mono HO248.out (fun _ hk => ⟨hk.1.1.1.2, hk.1.2⟩)⟩, ⟨zj BK223.out⟩, ⟨by repeat (first | (with_reducible first | exact HB.out | apply qag | apply qaf | apply qah | refine qaj ?_ GE223.out) | exact HB.out)⟩⟩
          ·
           rw [if_neg c56] at H
           have c56b0 : ((t232.length : Int) == a0_0) = false := beq_eq_false_iff_ne.mpr c56
           have c56b1 : ((t232.length : Int) != a0_0) = true := bne_iff_ne.mpr c56
           have H' := qab.mk H
           clear H
           obtain ⟨Ao67, co67, eo67⟩ := Kd.R_slice HO230.out
           subst eo67
           obtain ⟨hfz_, hcz68_0, hcz68_1, hcz68_2, hcz68_3, hcz68_4, hcz68_5⟩ := qz6 BK223.out
           obtain ⟨Ao69, co69, eo69⟩ := Kd.R_slice HO234.out
           subst eo69
           go_wp2
           go_meet
           case rel => exact ⟨_, (true), (by first | rfl | (simp; done) | (simp [*]; done)), H', ⟨by have := HJ3.out; first | omega | exact Nat.le_refl _⟩, ⟨zy HO230.out⟩, ⟨by (with_reducible repeat (first | apply Kd.qas | apply Kd.qat | apply Kd.qaw)); exact Kd.R_mono HO234.out (fun _ hk => ⟨hk.1.1.2, hk.2⟩)⟩, ⟨by (with_reducible repeat (first | apply Kd.qas | apply Kd.qat | apply Kd.qaw)); exact Kd.R_mono HO241.out (fun _ hk => ⟨hk.1.1.1.2, hk.2⟩)⟩, ⟨by (with_reducible repeat (first | apply Kd.qas | apply Kd.qat | apply Kd.qaw)); exact Kd.R_mono HO248.out (fun _ hk => ⟨hk.1.1.1.2, hk.1.2⟩)⟩, ⟨zj BK223.out⟩, ⟨by repeat (first | (with_reducible first | exact HB.out | apply qag | apply qaf | apply qah | refine qaj ?_ GE223.out) | exact HB.out)⟩⟩
         ·
          rw [if_neg c55] at H
          have c55b0 : ((t228.length : Int) == a0_0) = false := beq_eq_false_iff_ne.mpr c55
          have c55b1 : ((t228.length : Int) != a0_0) = true := bne_iff_ne.mpr c55
          have H' := qab.mk H
          clear H
          obtain ⟨Ao70, co70, eo70⟩ := Kd.R_slice HO230.out
          subst eo70
          obtain ⟨hfz_, hcz71_0, hcz71_1, hcz71_2, hcz71_3, hcz71_4, hcz71_5⟩ := qz6 BK223.out
          go_wp2
          go_meet
          case rel => exact ⟨_, (true), (by first | rfl | (simp; done) | (simp [*]; done)), H', ⟨by have := HJ3.out; first | omega | exact Nat.le_refl _⟩, ⟨zy HO230.out⟩, ⟨by (with_reducible repeat (first | apply Kd.qas | apply Kd.qat | apply Kd.qaw)); exact Kd.R_mono HO234.out (fun _ hk => ⟨hk.1.1.2, hk.2⟩)⟩, ⟨by (with_reducible repeat (first | apply Kd.qas | apply Kd.qat | apply Kd.qaw)); exact Kd.R_mono HO241.out (fun _ hk => ⟨hk.1.1.1.2, hk.2⟩)⟩, ⟨by (with_reducible repeat (first | apply Kd.qas | apply Kd.qat | apply Kd.qaw)); exact Kd.R_mono HO248.out (fun _ hk => ⟨hk.1.1.1.2, hk.1.2⟩)⟩, ⟨zj BK223.out⟩, ⟨by repeat (first | (with_reducible first | exact HB.out | apply qag | apply qaf | apply qah | refine qaj ?_ GE223.out) | exact HB.out)⟩⟩
        ·
         rw [if_neg c54] at H
         have c54b0 : (t249 == 0) = false := beq_eq_false_iff_ne.mpr c54
         have c54b1 : (t249 != 0) = true := bne_iff_ne.mpr c54
         have H' := qab.mk H
         clear H
         go_wp2
         go_meet
         case rel => exact ⟨_, (true), (by first | rfl | (simp; done) | (simp [*]; done)), H', ⟨by have := HJ3.out; first | omega | exact Nat.le_refl _⟩, ⟨zy HO230.out⟩, ⟨by (with_reducible repeat (first | apply Kd.qas | apply Kd.qat | apply Kd.qaw)); exact Kd.R_mono HO234.out (fun _ hk => ⟨hk.1.1.2, hk.2⟩)⟩, ⟨by (with_reducible repeat (first | apply Kd.qas | apply Kd.qat | apply Kd.qaw)); exact Kd.R_mono HO241.out (fun _ hk => ⟨hk.1.1.1.2, hk.2⟩)⟩, ⟨by (with_reducible repeat (first | apply Kd.qas | apply Kd.qat | apply Kd.qaw)); exact Kd.R_mono HO248.out (fun _ hk => ⟨hk.1.1.1.2, hk.1.2⟩)⟩, ⟨zj BK223.out⟩, ⟨by repeat (first | (with_reducible first | exact HB.out | apply qag | apply qaf | apply qah | refine qaj ?_ GE223.out) | exact HB.out)⟩⟩
       ·
        rw [if_neg c53] at H
        have c53b0 : (t242 == 0) = false := beq_eq_false_iff_ne.mpr c53
        have c53b1 : (t242 != 0) = true := bne_iff_ne.mpr c53
        have H' := qab.mk H
        clear H
        go_wp2
        go_meet
        case rel => exact ⟨_, (true), (by first | rfl | (simp; done) | (simp [*]; done)), H', ⟨by have := HJ3.out; first | omega | exact Nat.le_refl _⟩, ⟨zy HO230.out⟩, ⟨by (with_reducible repeat (first | apply Kd.qas | apply Kd.qat | apply Kd.qaw)); exact Kd.R_mono HO234.out (fun _ hk => ⟨hk.1.1.2, hk.2⟩)⟩, ⟨by (with_reducible repeat (first | apply Kd.qas | apply Kd.qat | apply Kd.qaw)); exact Kd.R_mono HO241.out (fun _ hk => ⟨hk.1.1.1.2, hk.2⟩)⟩, ⟨by (with_reducible repeat (first | apply Kd.qas | apply Kd.qat | apply Kd.qaw)); exact Kd.R_mono HO248.out (fun _ hk => ⟨hk.1.1.1.2, hk.1.2⟩)⟩, ⟨zj BK223.out⟩, ⟨by repeat (first | (with_reducible first | exact HB.out | apply qag | apply qaf | apply qah | refine qaj ?_ GE223.out) | exact HB.out)⟩⟩
      ·
       rw [if_neg c52] at H
       have c52b0 : (t235 == 0) = false := beq_eq_false_iff_ne.mpr c52
       have c52b1 : (t235 != 0) = true := bne_iff_ne.mpr c52
       have H' := qab.mk H
       clear H
       go_wp2
       go_meet
       case rel => exact ⟨_, (true), (by first | rfl | (simp; done) | (simp [*]; done)), H', ⟨by have := HJ3.out; first | omega | exact Nat.le_refl _⟩, ⟨zy HO230.out⟩, ⟨by (with_reducible repeat (first | apply Kd.qas | apply Kd.qat | apply Kd.qaw)); exact Kd.R_mono HO234.out (fun _ hk => ⟨hk.1.1.2, hk.2⟩)⟩, ⟨by (with_reducible repeat (first | apply Kd.qas | apply Kd.qat | apply Kd.qaw)); exact Kd.R_mono HO241.out (fun _ hk => ⟨hk.1.1.1.2, hk.2⟩)⟩, ⟨by (with_reducible repeat (first | apply Kd.qas | apply Kd.qat | apply Kd.qaw)); exact Kd.R_mono HO248.out (fun _ hk => ⟨hk.1.1.1.2, hk.1.2⟩)⟩, ⟨zj BK223.out⟩, ⟨by repeat (first | (with_reducible first | exact HB.out | apply qag | apply qaf | apply qah | refine qaj ?_ GE223.out) | exact HB.out)⟩⟩
     ·
      rw [if_neg c51] at H
      have c51b0 : (t231 == 0) = false := beq_eq_false_iff_ne.mpr c51
      have c51b1 : (t231 != 0) = true := bne_iff_ne.mpr c51
      (first | rw [c51b0] | (simp only [i64_w, i32_w]; rw [c51b0]) | skip)
      have H' := qab.mk H
      clear H
      go_wp2
      go_meet
      case rel => exact ⟨_, (true), (by first | rfl | (simp; done) | (simp [*]; done)), H', ⟨by have := HJ3.out; first | omega | exact Nat.le_refl _⟩, ⟨zy HO230.out⟩, ⟨by (with_reducible repeat (first | apply Kd.qas | apply Kd.qat | apply Kd.qaw)); exact Kd.R_mono HO234.out (fun _ hk => ⟨hk.1.1.2, hk.2⟩)⟩, ⟨by (with_reducible repeat (first | apply Kd.qas | apply Kd.qat | apply Kd.qaw)); exact Kd.R_mono HO241.out (fun _ hk => ⟨hk.1.1.1.2, hk.2⟩)⟩, ⟨by (with_reducible repeat (first | apply Kd.qas | apply Kd.qat | apply Kd.qaw)); exact Kd.R_mono HO248.out (fun _ hk => ⟨hk.1.1.1.2, hk.1.2⟩)⟩, ⟨zj BK223.out⟩, ⟨by repeat (first | (with_reducible first | exact HB.out | apply qag | apply qaf | apply qah | refine qaj ?_ GE223.out) | exact HB.out)⟩⟩
    case rest =>
     clear HC38
     try clear c1
     try clear c2
     try clear p2
     try clear c5
     try clear c17
     try clear c18
     try clear c23
     try clear c24
     try clear c29
     try clear c51
     try clear c51b0
     try clear c51b1
     try clear c52
     try clear c52b0
     try clear c52b1
     try clear c53
     try clear c53b0
     try clear c53b1
     try clear c54
     try clear c54b0
     try clear c54b1
     try clear c55
     try clear c55b0
     try clear c55b1
     try clear c56
     try clear c56b0
     try clear c56b1
     try clear c57
     try clear c57b0
     try clear c57b1
     try clear hcz39_0
     try clear hcz39_1
     try clear hcz39_2
     try clear hcz39_3
     try clear hcz39_4
     try clear hcz39_5
     try clear hcz41_0
     try clear hcz41_1
     try clear hcz41_2
     try clear hcz41_3
     try clear hcz41_4
     try clear hcz41_5
     try clear hcz59_0
     try clear hcz59_1
     try clear hcz59_2
     try clear hcz59_3
     try clear hcz59_4
     try clear hcz59_5
     try clear hcz64_0
     try clear hcz64_1
     try clear hcz64_2
     try clear hcz64_3
     try clear hcz64_4
     try clear hcz64_5
     try clear hcz68_0
     try clear hcz68_1
     try clear hcz68_2
     try clear hcz68_3
     try clear hcz68_4
     try clear hcz68_5
     try clear hcz71_0
     try clear hcz71_1
     try clear hcz71_2
     try clear hcz71_3
     try clear hcz71_4
     try clear hcz71_5
     try clear hfz39_0
     try clear hfz39_1
     try clear hfz39_2
     try clear hfz39_3
     try clear hfz39_4
     try clear hfz39_5
     try clear hfz41_0
     try clear hfz41_1
     try clear hfz41_2
     try clear hfz41_3
     try clear hfz41_4
     try clear hfz41_5
     try clear hfz59_0
     try clear hfz59_1
     try clear hfz59_2
     try clear hfz59_3
     try clear hfz59_4
     try clear hfz59_5
     try clear hfz64_0
     try clear hfz64_1
     try clear hfz64_2
     try clear hfz64_3
     try clear hfz64_4
     try clear hfz64_5
     try clear hfz68_0
     try clear hfz68_1
     try clear hfz68_2
     try clear hfz68_3
     try clear hfz68_4
     try clear hfz68_5
     try clear hfz71_0
     try clear hfz71_1
     try clear hfz71_2
     try clear hfz71_3
     try clear hfz71_4
     try clear hfz71_5
     obtain ⟨kq, x112_37, rfl, HA, HJ37, HO_7, HO_9, HO_11, HO_13, BK223, HB⟩ := hcut
     cases kq with
     | zero => exact absurd HA.out (by simp [taliklaw07_SeepTrue.j1])
     | succ kj37 =>
      have H := HA.out
      clear HA
      simp only [taliklaw07_SeepTrue.j1] at H
      by_cases c72 : x112_37 = true
      ·
       subst c72
       rw [if_pos rfl] at H
       obtain rfl := Option.some.inj H
       go_wp2
       go_ret
       exact ⟨by first | rfl | (simp [qaz, qba] <;> rfl) | (simp [*, qaz, qba] <;> rfl), by repeat (first | (with_reducible first | exact HB.out | apply qag | apply qaf | apply qah | refine qaj ?_ GE223.out) | exact HB.out)⟩
      ·
       replace c72 := Bool.eq_false_iff.mpr c72
       subst c72
       rw [if_neg (show ¬ (false = true) by decide)] at H
       have H' := qab.mk H
       clear H
       go_wp2
       go_loopg [15] kj37 (fun kq v15 w' => ∃ (x15_3 : Int), v15 = .int .i64 x15_3 ∧ qab (taliklaw07_SeepTrue.l0 kq t228 t232 t239 t246 x15_3 a0_0 l0_1 l0_2 l0_3 l0_4 l0_5 = some r) ∧ qab (kq ≤ kj37) ∧ qab (Kd.R k41 41 w' w.heap.size (fun _ => True) v229 t228) ∧ qab (Kd.R (Kd.int .i64) 3 w' w.heap.size (fun k_ => some k_ ≠ (v240 : Value).ownBlock ∧ some k_ ≠ (v247 : Value).ownBlock) v233 t232) ∧ qab (Kd.R (Kd.int .i64) 3 w' w.heap.size (fun k_ => some k_ ≠ (v233 : Value).ownBlock ∧ some k_ ≠ (v247 : Value).ownBlock) v240 t239) ∧ qab (Kd.R (Kd.int .i64) 3 w' w.heap.size (fun k_ => some k_ ≠ (v233 : Value).ownBlock ∧ some k_ ≠ (v240 : Value).ownBlock) v247 t246) ∧ qab (w'.heap[gb223]? = some (.cells #[.int .i64 a0_0, (.slice A0_1 l0_1.length c0_1), (.slice A0_2 l0_2.length c0_2), (.slice A0_3 l0_3.length c0_3), (.slice A0_4 l0_4.length c0_4), (.slice A0_5 l0_5.length c0_5)] 27 (0, 0))) ∧ qab (Below w.heap.size w w'))
       case atStart => exact ⟨(0), (by first | rfl | (simp; done) | (simp [*]; done)), H', ⟨Nat.le_refl _⟩, ⟨zy HO_7.out⟩, ⟨zy HO_9.out⟩, ⟨zy HO_11.out⟩, ⟨zy HO_13.out⟩, ⟨zj BK223.out⟩, ⟨by repeat (first | (with_reducible first | exact HB.out | apply qag | apply qaf | apply qah | refine qaj ?_ GE223.out) | exact HB.out)⟩⟩
       case round =>
        clear H'
        try clear c1
        try clear c2
        try clear p2
        try clear c5
        try clear c7
        try clear c17
        try clear c18
        try clear c23
        try clear c24
        try clear c29
        try clear c51
        try clear c51b0
        try clear c51b1
        try clear c52
        try clear c52b0
        try clear c52b1
        try clear c53
        try clear c53b0
        try clear c53b1
        try clear c54
        try clear c54b0
        try clear c54b1
        try clear c55
        try clear c55b0
        try clear c55b1
        try clear c56
        try clear c56b0
        try clear c56b1
        try clear c57
        try clear c57b0
        try clear c57b1
        try clear c72
        try clear hcz39_0
        try clear hcz39_1
        try clear hcz39_2
        try clear hcz39_3
        try clear hcz39_4
        try clear hcz39_5
        try clear hcz41_0
        try clear hcz41_1
        try clear hcz41_2
        try clear hcz41_3
        try clear hcz41_4
        try clear hcz41_5
        try clear hcz59_0
        try clear hcz59_1
        try clear hcz59_2
        try clear hcz59_3
        try clear hcz59_4
        try clear hcz59_5
        try clear hcz64_0
        try clear hcz64_1
        try clear hcz64_2
        try clear hcz64_3
        try clear hcz64_4
        try clear hcz64_5
        try clear hcz68_0
        try clear hcz68_1
        try clear hcz68_2
        try clear hcz68_3
        try clear hcz68_4
        try clear hcz68_5
        try clear hcz71_0
        try clear hcz71_1
        try clear hcz71_2
        try clear hcz71_3
        try clear hcz71_4
        try clear hcz71_5
        try clear hfz39_0
        try clear hfz39_1
        try clear hfz39_2
        try clear hfz39_3
        try clear hfz39_4
        try clear hfz39_5
        try clear hfz41_0
        try clear hfz41_1
        try clear hfz41_2
        try clear hfz41_3
        try clear hfz41_4
        try clear hfz41_5
        try clear hfz59_0
        try clear hfz59_1
        try clear hfz59_2
        try clear hfz59_3
        try clear hfz59_4
        try clear hfz59_5
        try clear hfz64_0
        try clear hfz64_1
        try clear hfz64_2
        try clear hfz64_3
        try clear hfz64_4
        try clear hfz64_5
        try clear hfz68_0
        try clear hfz68_1
        try clear hfz68_2
        try clear hfz68_3
        try clear hfz68_4
        try clear hfz68_5
        try clear hfz71_0
        try clear hfz71_1
        try clear hfz71_2
        try clear hfz71_3
        try clear hfz71_4
        try clear hfz71_5
        try clear p2
        obtain ⟨x15_3, rfl, HA, HK3, HO_7, HO_9, HO_11, HO_13, BK223, HB⟩ := hrel
        cases gk with
        | zero => exact absurd HA.out (by simp [taliklaw07_SeepTrue.l0])
        | succ k3 =>
         have H := HA.out
         clear HA
         simp only [taliklaw07_SeepTrue.l0] at H
         by_cases c73 : x15_3 < a0_0
         ·
          rw [if_pos c73] at H
          have c73b0 : decide (x15_3 < a0_0) = true := decide_eq_true c73
          clear c73
          by_cases c74 : 0 ≤ x15_3
          ·
           rw [if_pos c74] at H
           have c74b0 : decide (0 ≤ x15_3) = true := decide_eq_true c74
           clear c74
           by_cases c75 : x15_3 < (t232.length : Int)
           ·
            rw [if_pos c75] at H
            have c75b0 : decide (x15_3 < (t232.length : Int)) = true := decide_eq_true c75
            clear c75
            by_cases c76 : x15_3 < (t228.length : Int)
            ·
             rw [if_pos c76] at H
             have c76b0 : decide (x15_3 < (t228.length : Int)) = true := decide_eq_true c76
             clear c76
             by_cases c77 : (rd t232 x15_3) < ((qbg t228 x15_3).f0)
             ·
              rw [if_pos c77] at H
              have c77b0 : decide ((rd t232 x15_3) < ((qbg t228 x15_3).f0)) = true := decide_eq_true c77
              clear c77
              obtain rfl := Option.some.inj H
              obtain ⟨hfz_, hcz78_0, hcz78_1, hcz78_2, hcz78_3, hcz78_4, hcz78_5⟩ := qz6 BK223.out
              try go_wp2
              replace HO_7 := qab.mk (Kd.qaw HO_7.out)
              replace HO_9 := qab.mk (Kd.qaw HO_9.out)
              replace HO_11 := qab.mk (Kd.qaw HO_11.out)
              replace HO_13 := qab.mk (Kd.qaw HO_13.out)
              replace BK223 := qab.mk (qav BK223.out)
              replace HB := qab.mk (qah HB.out)
              obtain ⟨Ao80, co80, eo80⟩ := Kd.R_slice HO_9.out
              (first | subst eo80 | (injection eo80 with f1_ f2_ f3_; have f4_ := f1_.symm; have f5_ := f3_.symm; clear f1_ f2_ f3_; subst f4_; subst f5_))
              have p250 : 0 ≤ (x15_3 : Int) := of_decide_eq_true (by first | (with_reducible assumption) | assumption)
              have q250 : x15_3 < (t232.length : Int) := of_decide_eq_true (by first | (with_reducible assumption) | assumption)
              obtain ⟨ad250, e250, hx250_0⟩ := Kd.at_int (Kd.qbc HO_9.out).2.2 x15_3 p250 q250
              cases e250
              replace p250 := eq_true p250
              replace q250 := eq_true q250
              obtain ⟨Ao81, co81, eo81⟩ := Kd.R_slice HO_7.out
              (first | subst eo81 | (injection eo81 with f1_ f2_ f3_; have f4_ := f1_.symm; have f5_ := f3_.symm; clear f1_ f2_ f3_; subst f4_; subst f5_))
              have p251 : 0 ≤ (x15_3 : Int) := of_decide_eq_true (by first | (with_reducible assumption) | assumption)
              have q251 : x15_3 < (t228.length : Int) := of_decide_eq_true (by first | (with_reducible assumption) | assumption)
              obtain ⟨ad251, e251, hx251_0, hx251_1⟩ := at_T41 (Kd.qbc HO_7.out).2.2 x15_3 p251 q251
              cases e251
              replace p251 := eq_true p251
              replace q251 := eq_true q251
              refine start_ (n := 46) (S := fun w' => w'.cell? (ad250.add (x15_3).toNat) = some (.int .i64 (rd t232 x15_3)) ∧ w'.cell? (ad251.add ((x15_3).toNat * 2)) = some (.int .i64 ((qbg t228 x15_3).f0)) ∧ w'.cell? ⟨(ad251.add ((x15_3).toNat * 2)).block, (ad251.add ((x15_3).toNat * 2)).off + 1, none⟩ = some (.int .i64 ((qbg t228 x15_3).f1))) (ds := []) (msk 46 0) (by kernel_rfl) rfl rfl ⟨hx250_0, hx251_0, hx251_1⟩ (fun hHeld => ?_); refine with_tabW taliklaw07_SeepTrue.tab12 taliklaw07_SeepTrue.bits12 (fun HT_ HW_ => ?_)
              generalize wr.drew = w79 at HO_7 HO_9 HO_11 HO_13 BK223 HB hx250_0 hx251_0 hx251_1 hHeld ⊢
              refine zu HT_.out 0 1 119 ?_
              refine zu HT_.out 1 2 120 ?_
              refine zu HT_.out 2 3 121 ?_
              refine zug (mkb 46 23) HT_.out 4 123 ?_
              refine zug (mkb 46 55) HT_.out 5 124 ?_
              refine zug (mkb 46 119) HT_.out 6 125 ?_
              refine zug (mkb 46 247) HT_.out 7 126 ?_
              refine zwg3 (msk 46 8) HT_.out HW_.out 3 122 hHeld ?_
              refine zw3 HT_.out HW_.out 8 9 127 hHeld ?_
              refine zu HT_.out 9 10 128 ?_
              refine zu HT_.out 10 11 129 ?_
              refine zv HT_.out 11 12 130 ?_
              refine zv HT_.out 12 13 131 ?_
              refine zv HT_.out 13 14 132 ?_
              refine zv HT_.out 14 15 133 ?_
              refine zv HT_.out 15 16 134 ?_
              refine zv HT_.out 16 17 135 ?_
              refine zv HT_.out 17 18 136 ?_
              refine zv HT_.out 18 19 137 ?_
              refine zv HT_.out 19 20 138 ?_
              refine zv HT_.out 20 21 139 ?_
              refine zu HT_.out 21 22 140 ?_
              refine zu HT_.out 22 23 141 ?_
              refine zv HT_.out 23 24 142 ?_
              refine zv HT_.out 24 25 143 ?_
              refine zv HT_.out 25 26 144 ?_
              refine zv HT_.out 26 27 145 ?_
              refine zv HT_.out 27 28 146 ?_
              refine zv HT_.out 28 29 147 ?_
              refine zv HT_.out 29 30 148 ?_
              refine zv HT_.out 30 31 149 ?_
              refine zv HT_.out 31 32 150 ?_
              refine zv HT_.out 32 33 151 ?_
              refine zu HT_.out 33 34 152 ?_
              refine zu HT_.out 34 35 153 ?_
              refine zv HT_.out 35 36 154 ?_
              refine zv HT_.out 36 37 155 ?_
              refine zv HT_.out 37 38 156 ?_
              refine zv HT_.out 38 39 157 ?_
              refine zv HT_.out 39 40 158 ?_
              refine zv HT_.out 40 41 159 ?_
              refine zv HT_.out 41 42 160 ?_
              refine zv HT_.out 42 43 161 ?_
              refine zv HT_.out 43 44 162 ?_
              refine zv HT_.out 44 45 163 ?_
              refine zu HT_.out 45 46 164 ?_
              refine done_ (done_of HT_.out (by kernel_rfl)) ?_
              try go_wp2
              go_ret
              exact ⟨by first | rfl | (simp [qaz, qba] <;> rfl) | (simp [*, qaz, qba] <;> rfl), by repeat (first | (with_reducible first | exact HB.out | apply qag | apply qaf | apply qah | refine qaj ?_ GE223.out) | exact HB.out)⟩
             ·
              rw [if_neg c77] at H
              have c77b0 : decide ((rd t232 x15_3) < ((qbg t228 x15_3).f0)) = false := decide_eq_false c77
              clear c77
              by_cases c82 : (rd t232 x15_3) > ((qbg t228 x15_3).f1)
              ·
               rw [if_pos c82] at H
               have c82b0 : decide (((qbg t228 x15_3).f1) < (rd t232 x15_3)) = true := decide_eq_true c82
               clear c82
               obtain rfl := Option.some.inj H
               obtain ⟨hfz_, hcz83_0, hcz83_1, hcz83_2, hcz83_3, hcz83_4, hcz83_5⟩ := qz6 BK223.out
               try go_wp2
               replace HO_7 := qab.mk (Kd.qaw HO_7.out)
               replace HO_9 := qab.mk (Kd.qaw HO_9.out)
               replace HO_11 := qab.mk (Kd.qaw HO_11.out)
               replace HO_13 := qab.mk (Kd.qaw HO_13.out)
               replace BK223 := qab.mk (qav BK223.out)
               replace HB := qab.mk (qah HB.out)
               obtain ⟨Ao85, co85, eo85⟩ := Kd.R_slice HO_9.out
               (first | subst eo85 | (injection eo85 with f1_ f2_ f3_; have f4_ := f1_.symm; have f5_ := f3_.symm; clear f1_ f2_ f3_; subst f4_; subst f5_))
               have p250 : 0 ≤ (x15_3 : Int) := of_decide_eq_true (by first | (with_reducible assumption) | assumption)
               have q250 : x15_3 < (t232.length : Int) := of_decide_eq_true (by first | (with_reducible assumption) | assumption)
               obtain ⟨ad250, e250, hx250_0⟩ := Kd.at_int (Kd.qbc HO_9.out).2.2 x15_3 p250 q250
               cases e250
               replace p250 := eq_true p250
               replace q250 := eq_true q250
               obtain ⟨Ao86, co86, eo86⟩ := Kd.R_slice HO_7.out
               (first | subst eo86 | (injection eo86 with f1_ f2_ f3_; have f4_ := f1_.symm; have f5_ := f3_.symm; clear f1_ f2_ f3_; subst f4_; subst f5_))
               have p251 : 0 ≤ (x15_3 : Int) := of_decide_eq_true (by first | (with_reducible assumption) | assumption)
               have q251 : x15_3 < (t228.length : Int) := of_decide_eq_true (by first | (with_reducible assumption) | assumption)
               obtain ⟨ad251, e251, hx251_0, hx251_1⟩ := at_T41 (Kd.qbc HO_7.out).2.2 x15_3 p251 q251
               cases e251
               replace p251 := eq_true p251
               replace q251 := eq_true q251
               have p252 : 0 ≤ (x15_3 : Int) := of_decide_eq_true (by first | (with_reducible assumption) | assumption)
               have q252 : x15_3 < (t232.length : Int) := of_decide_eq_true (by first | (with_reducible assumption) | assumption)
               obtain ⟨ad252, e252, hx252_0⟩ := Kd.at_int (Kd.qbc HO_9.out).2.2 x15_3 p252 q252
               obtain rfl : ad250 = ad252 := (by injection e252)
               replace p252 := eq_true p252
               replace q252 := eq_true q252
               have p253 : 0 ≤ (x15_3 : Int) := of_decide_eq_true (by first | (with_reducible assumption) | assumption)
               have q253 : x15_3 < (t228.length : Int) := of_decide_eq_true (by first | (with_reducible assumption) | assumption)
               obtain ⟨ad253, e253, hx253_0, hx253_1⟩ := at_T41 (Kd.qbc HO_7.out).2.2 x15_3 p253 q253
               obtain rfl : ad251 = ad253 := (by injection e253)
               replace p253 := eq_true p253
               replace q253 := eq_true q253
               refine start_ (n := 46) (S := fun w' => w'.cell? (ad250.add (x15_3).toNat) = some (.int .i64 (rd t232 x15_3)) ∧ w'.cell? (ad251.add ((x15_3).toNat * 2)) = some (.int .i64 ((qbg t228 x15_3).f0)) ∧ w'.cell? ⟨(ad251.add ((x15_3).toNat * 2)).block, (ad251.add ((x15_3).toNat * 2)).off + 1, none⟩ = some (.int .i64 ((qbg t228 x15_3).f1)) ∧ w'.cell? (ad250.add (x15_3).toNat) = some (.int .i64 (rd t232 x15_3)) ∧ w'.cell? (ad251.add ((x15_3).toNat * 2)) = some (.int .i64 ((qbg t228 x15_3).f0)) ∧ w'.cell? ⟨(ad251.add ((x15_3).toNat * 2)).block, (ad251.add ((x15_3).toNat * 2)).off + 1, none⟩ = some (.int .i64 ((qbg t228 x15_3).f1))) (ds := []) (msk 46 0) (by kernel_rfl) rfl rfl ⟨hx250_0, hx251_0, hx251_1, hx252_0, hx253_0, hx253_1⟩ (fun hHeld => ?_); refine with_tabW taliklaw07_SeepTrue.tab12 taliklaw07_SeepTrue.bits12 (fun HT_ HW_ => ?_)
               generalize wr.drew = w84 at HO_7 HO_9 HO_11 HO_13 BK223 HB hx250_0 hx251_0 hx251_1 hx252_0 hx253_0 hx253_1 hHeld ⊢
               refine zu HT_.out 0 1 119 ?_
               refine zu HT_.out 1 2 120 ?_
               refine zu HT_.out 2 3 121 ?_
               refine zug (mkb 46 23) HT_.out 4 123 ?_
               refine zug (mkb 46 55) HT_.out 5 124 ?_
               refine zug (mkb 46 119) HT_.out 6 125 ?_
               refine zug (mkb 46 247) HT_.out 7 126 ?_
               refine zwg6 (msk 46 8) HT_.out HW_.out 3 122 hHeld ?_
               refine zw6 HT_.out HW_.out 8 9 127 hHeld ?_
               refine zu HT_.out 9 10 128 ?_
               refine zu HT_.out 10 11 129 ?_
               refine zu HT_.out 11 12 130 ?_
               refine zu HT_.out 12 13 131 ?_
               refine zu HT_.out 13 14 132 ?_
               refine zug (mkb 46 49151) HT_.out 15 134 ?_
               refine zug (mkb 46 114687) HT_.out 16 135 ?_
               refine zug (mkb 46 245759) HT_.out 17 136 ?_
               refine zug (mkb 46 507903) HT_.out 18 137 ?_
               refine zwg6 (msk 46 19) HT_.out HW_.out 14 133 hHeld ?_
               refine zw6 HT_.out HW_.out 19 20 138 hHeld ?_
               refine zu HT_.out 20 21 139 ?_
               refine zu HT_.out 21 22 140 ?_
               refine zu HT_.out 22 23 141 ?_
               refine zv HT_.out 23 24 142 ?_
               refine zv HT_.out 24 25 143 ?_
               refine zv HT_.out 25 26 144 ?_
               refine zv HT_.out 26 27 145 ?_
               refine zv HT_.out 27 28 146 ?_
               refine zv HT_.out 28 29 147 ?_
               refine zv HT_.out 29 30 148 ?_
               refine zv HT_.out 30 31 149 ?_
               refine zv HT_.out 31 32 150 ?_
               refine zv HT_.out 32 33 151 ?_
               refine zu HT_.out 33 34 152 ?_
               refine zu HT_.out 34 35 153 ?_
               refine zv HT_.out 35 36 154 ?_
               refine zv HT_.out 36 37 155 ?_
               refine zv HT_.out 37 38 156 ?_
               refine zv HT_.out 38 39 157 ?_
               refine zv HT_.out 39 40 158 ?_
               refine zv HT_.out 40 41 159 ?_
               refine zv HT_.out 41 42 160 ?_
               refine zv HT_.out 42 43 161 ?_
               refine zv HT_.out 43 44 162 ?_
               refine zv HT_.out 44 45 163 ?_
               refine zu HT_.out 45 46 164 ?_
               refine done_ (done_of HT_.out (by kernel_rfl)) ?_
               try go_wp2
               go_ret
               exact ⟨by first | rfl | (simp [qaz, qba] <;> rfl) | (simp [*, qaz, qba] <;> rfl), by repeat (first | (with_reducible first | exact HB.out | apply qag | apply qaf | apply qah | refine qaj ?_ GE223.out) | exact HB.out)⟩
              ·
               rw [if_neg c82] at H
               have c82b0 : decide (((qbg t228 x15_3).f1) < (rd t232 x15_3)) = false := decide_eq_false c82
               clear c82
               by_cases c87 : x15_3 < (t239.length : Int)
               ·
                rw [if_pos c87] at H
                have c87b0 : decide (x15_3 < (t239.length : Int)) = true := decide_eq_true c87
                clear c87
                by_cases c88 : (rd t239 x15_3) = ((qbg t228 x15_3).f0)
                ·
                 rw [if_pos c88] at H
                 have c88b0 : ((rd t239 x15_3) == ((qbg t228 x15_3).f0)) = true := beq_iff_eq.mpr c88
                 have c88b1 : ((rd t239 x15_3) != ((qbg t228 x15_3).f0)) = false := bne_eq_false_iff_eq.mpr c88
                 clear c88
                 by_cases c89 : x15_3 < (t246.length : Int)
                 ·
                  rw [if_pos c89] at H
                  have c89b0 : decide (x15_3 < (t246.length : Int)) = true := decide_eq_true c89
                  clear c89
                  by_cases c90 : (rd t246 x15_3) = ((qbg t228 x15_3).f1)
                  ·
                   rw [if_pos c90] at H
                   have c90b0 : ((rd t246 x15_3) == ((qbg t228 x15_3).f1)) = true := beq_iff_eq.mpr c90
                   have c90b1 : ((rd t246 x15_3) != ((qbg t228 x15_3).f1)) = false := bne_eq_false_iff_eq.mpr c90
                   clear c90
                   have H' := qab.mk H
                   clear H
                   obtain ⟨hfz_, hcz91_0, hcz91_1, hcz91_2, hcz91_3, hcz91_4, hcz91_5⟩ := qz6 BK223.out
                   try go_wp2
                   replace HO_7 := qab.mk (Kd.qaw HO_7.out)
                   replace HO_9 := qab.mk (Kd.qaw HO_9.out)
                   replace HO_11 := qab.mk (Kd.qaw HO_11.out)
                   replace HO_13 := qab.mk (Kd.qaw HO_13.out)
                   replace BK223 := qab.mk (qav BK223.out)
                   replace HB := qab.mk (qah HB.out)
                   obtain ⟨Ao93, co93, eo93⟩ := Kd.R_slice HO_9.out
                   (first | subst eo93 | (injection eo93 with f1_ f2_ f3_; have f4_ := f1_.symm; have f5_ := f3_.symm; clear f1_ f2_ f3_; subst f4_; subst f5_))
                   have p250 : 0 ≤ (x15_3 : Int) := of_decide_eq_true (by first | (with_reducible assumption) | assumption)
                   have q250 : x15_3 < (t232.length : Int) := of_decide_eq_true (by first | (with_reducible assumption) | assumption)
                   obtain ⟨ad250, e250, hx250_0⟩ := Kd.at_int (Kd.qbc HO_9.out).2.2 x15_3 p250 q250
                   cases e250
                   replace p250 := eq_true p250
                   replace q250 := eq_true q250
                   obtain ⟨Ao94, co94, eo94⟩ := Kd.R_slice HO_7.out
                   (first | subst eo94 | (injection eo94 with f1_ f2_ f3_; have f4_ := f1_.symm; have f5_ := f3_.symm; clear f1_ f2_ f3_; subst f4_; subst f5_))
                   have p251 : 0 ≤ (x15_3 : Int) := of_decide_eq_true (by first | (with_reducible assumption) | assumption)
                   have q251 : x15_3 < (t228.length : Int) := of_decide_eq_true (by first | (with_reducible assumption) | assumption)
                   obtain ⟨ad251, e251, hx251_0, hx251_1⟩ := at_T41 (Kd.qbc HO_7.out).2.2 x15_3 p251 q251
                   cases e251
                   replace p251 := eq_true p251
                   replace q251 := eq_true q251
                   have p252 : 0 ≤ (x15_3 : Int) := of_decide_eq_true (by first | (with_reducible assumption) | assumption)
                   have q252 : x15_3 < (t232.length : Int) := of_decide_eq_true (by first | (with_reducible assumption) | assumption)
                   obtain ⟨ad252, e252, hx252_0⟩ := Kd.at_int (Kd.qbc HO_9.out).2.2 x15_3 p252 q252
                   obtain rfl : ad250 = ad252 := (by injection e252)
                   replace p252 := eq_true p252
                   replace q252 := eq_true q252
                   have p253 : 0 ≤ (x15_3 : Int) := of_decide_eq_true (by first | (with_reducible assumption) | assumption)
                   have q253 : x15_3 < (t228.length : Int) := of_decide_eq_true (by first | (with_reducible assumption) | assumption)
                   obtain ⟨ad253, e253, hx253_0, hx253_1⟩ := at_T41 (Kd.qbc HO_7.out).2.2 x15_3 p253 q253
                   obtain rfl : ad251 = ad253 := (by injection e253)
                   replace p253 := eq_true p253
                   replace q253 := eq_true q253
                   obtain ⟨Ao95, co95, eo95⟩ := Kd.R_slice HO_11.out
                   (first | subst eo95 | (injection eo95 with f1_ f2_ f3_; have f4_ := f1_.symm; have f5_ := f3_.symm; clear f1_ f2_ f3_; subst f4_; subst f5_))
                   have p254 : 0 ≤ (x15_3 : Int) := of_decide_eq_true (by first | (with_reducible assumption) | assumption)
                   have q254 : x15_3 < (t239.length : Int) := of_decide_eq_true (by first | (with_reducible assumption) | assumption)
                   obtain ⟨ad254, e254, hx254_0⟩ := Kd.at_int (Kd.qbc HO_11.out).2.2 x15_3 p254 q254
                   cases e254
                   replace p254 := eq_true p254
                   replace q254 := eq_true q254
                   have p255 : 0 ≤ (x15_3 : Int) := of_decide_eq_true (by first | (with_reducible assumption) | assumption)
                   have q255 : x15_3 < (t228.length : Int) := of_decide_eq_true (by first | (with_reducible assumption) | assumption)
                   obtain ⟨ad255, e255, hx255_0, hx255_1⟩ := at_T41 (Kd.qbc HO_7.out).2.2 x15_3 p255 q255
                   obtain rfl : ad251 = ad255 := (by injection e255)
                   replace p255 := eq_true p255
                   replace q255 := eq_true q255
                   obtain ⟨Ao96, co96, eo96⟩ := Kd.R_slice HO_13.out
                   (first | subst eo96 | (injection eo96 with f1_ f2_ f3_; have f4_ := f1_.symm; have f5_ := f3_.symm; clear f1_ f2_ f3_; subst f4_; subst f5_))
                   have p256 : 0 ≤ (x15_3 : Int) := of_decide_eq_true (by first | (with_reducible assumption) | assumption)
                   have q256 : x15_3 < (t246.length : Int) := of_decide_eq_true (by first | (with_reducible assumption) | assumption)
                   obtain ⟨ad256, e256, hx256_0⟩ := Kd.at_int (Kd.qbc HO_13.out).2.2 x15_3 p256 q256
                   cases e256
                   replace p256 := eq_true p256
                   replace q256 := eq_true q256
                   have p257 : 0 ≤ (x15_3 : Int) := of_decide_eq_true (by first | (with_reducible assumption) | assumption)
                   have q257 : x15_3 < (t228.length : Int) := of_decide_eq_true (by first | (with_reducible assumption) | assumption)
                   obtain ⟨ad257, e257, hx257_0, hx257_1⟩ := at_T41 (Kd.qbc HO_7.out).2.2 x15_3 p257 q257
                   obtain rfl : ad251 = ad257 := (by injection e257)
                   replace p257 := eq_true p257
                   replace q257 := eq_true q257
                   refine start_ (n := 46) (S := fun w' => w'.cell? (ad250.add (x15_3).toNat) = some (.int .i64 (rd t232 x15_3)) ∧ w'.cell? (ad251.add ((x15_3).toNat * 2)) = some (.int .i64 ((qbg t228 x15_3).f0)) ∧ w'.cell? ⟨(ad251.add ((x15_3).toNat * 2)).block, (ad251.add ((x15_3).toNat * 2)).off + 1, none⟩ = some (.int .i64 ((qbg t228 x15_3).f1)) ∧ w'.cell? (ad250.add (x15_3).toNat) = some (.int .i64 (rd t232 x15_3)) ∧ w'.cell? (ad251.add ((x15_3).toNat * 2)) = some (.int .i64 ((qbg t228 x15_3).f0)) ∧ w'.cell? ⟨(ad251.add ((x15_3).toNat * 2)).block, (ad251.add ((x15_3).toNat * 2)).off + 1, none⟩ = some (.int .i64 ((qbg t228 x15_3).f1)) ∧ w'.cell? (ad254.add (x15_3).toNat) = some (.int .i64 (rd t239 x15_3)) ∧ w'.cell? (ad251.add ((x15_3).toNat * 2)) = some (.int .i64 ((qbg t228 x15_3).f0)) ∧ w'.cell? ⟨(ad251.add ((x15_3).toNat * 2)).block, (ad251.add ((x15_3).toNat * 2)).off + 1, none⟩ = some (.int .i64 ((qbg t228 x15_3).f1)) ∧ w'.cell? (ad256.add (x15_3).toNat) = some (.int .i64 (rd t246 x15_3)) ∧ w'.cell? (ad251.add ((x15_3).toNat * 2)) = some (.int .i64 ((qbg t228 x15_3).f0)) ∧ w'.cell? ⟨(ad251.add ((x15_3).toNat * 2)).block, (ad251.add ((x15_3).toNat * 2)).off + 1, none⟩ = some (.int .i64 ((qbg t228 x15_3).f1))) (ds := []) (msk 46 0) (by kernel_rfl) rfl rfl ⟨hx250_0, hx251_0, hx251_1, hx252_0, hx253_0, hx253_1, hx254_0, hx255_0, hx255_1, hx256_0, hx257_0, hx257_1⟩ (fun hHeld => ?_); refine with_tabW taliklaw07_SeepTrue.tab12 taliklaw07_SeepTrue.bits12 (fun HT_ HW_ => ?_)
                   generalize wr.drew = w92 at HO_7 HO_9 HO_11 HO_13 BK223 HB hx250_0 hx251_0 hx251_1 hx252_0 hx253_0 hx253_1 hx254_0 hx255_0 hx255_1 hx256_0 hx257_0 hx257_1 hHeld ⊢
                   refine zu HT_.out 0 1 119 ?_
                   refine zu HT_.out 1 2 120 ?_
                   refine zu HT_.out 2 3 121 ?_
                   refine zug (mkb 46 23) HT_.out 4 123 ?_
                   refine zug (mkb 46 55) HT_.out 5 124 ?_
                   refine zug (mkb 46 119) HT_.out 6 125 ?_
                   refine zug (mkb 46 247) HT_.out 7 126 ?_
                   refine zwg12 (msk 46 8) HT_.out HW_.out 3 122 hHeld ?_
                   refine zw12 HT_.out HW_.out 8 9 127 hHeld ?_
                   refine zu HT_.out 9 10 128 ?_
                   refine zu HT_.out 10 11 129 ?_
                   refine zu HT_.out 11 12 130 ?_
                   refine zu HT_.out 12 13 131 ?_
                   refine zu HT_.out 13 14 132 ?_
                   refine zug (mkb 46 49151) HT_.out 15 134 ?_
                   refine zug (mkb 46 114687) HT_.out 16 135 ?_
                   refine zug (mkb 46 245759) HT_.out 17 136 ?_
                   refine zug (mkb 46 507903) HT_.out 18 137 ?_
                   refine zwg12 (msk 46 19) HT_.out HW_.out 14 133 hHeld ?_
                   refine zw12 HT_.out HW_.out 19 20 138 hHeld ?_
                   refine zu HT_.out 20 21 139 ?_
                   refine zu HT_.out 21 22 140 ?_
                   refine zu HT_.out 22 23 141 ?_
                   refine zu HT_.out 23 24 142 ?_
                   refine zu HT_.out 24 25 143 ?_
                   refine zu HT_.out 25 26 144 ?_
                   refine zug (mkb 46 201326591) HT_.out 27 146 ?_
                   refine zug (mkb 46 469762047) HT_.out 28 147 ?_
                   refine zug (mkb 46 1006632959) HT_.out 29 148 ?_
                   refine zug (mkb 46 2080374783) HT_.out 30 149 ?_
                   refine zwg12 (msk 46 31) HT_.out HW_.out 26 145 hHeld ?_
                   refine zw12 HT_.out HW_.out 31 32 150 hHeld ?_
                   refine zu HT_.out 32 33 151 ?_
                   refine zu HT_.out 33 34 152 ?_
                   refine zu HT_.out 34 35 153 ?_
                   refine zu HT_.out 35 36 154 ?_
                   refine zu HT_.out 36 37 155 ?_
                   refine zu HT_.out 37 38 156 ?_
                   refine zug (mkb 46 824633720831) HT_.out 39 158 ?_
                   refine zug (mkb 46 1924145348607) HT_.out 40 159 ?_
                   refine zug (mkb 46 4123168604159) HT_.out 41 160 ?_
                   refine zug (mkb 46 8521215115263) HT_.out 42 161 ?_
                   refine zwg12 (msk 46 43) HT_.out HW_.out 38 157 hHeld ?_
                   refine zw12 HT_.out HW_.out 43 44 162 hHeld ?_
                   refine zu HT_.out 44 45 163 ?_
                   refine zu HT_.out 45 46 164 ?_
                   refine done_ (done_of HT_.out (by kernel_rfl)) ?_
                   try go_wp2
                   go_roundg k3
                   case measure => have := HJ3.out; have := HJ37.out; have := HK3.out; omega
                   case rel => exact ⟨(wrap64 (x15_3 + 1)), (by first | rfl | (simp; done) | (simp [*]; done)), H', ⟨by have := HJ3.out; have := HJ37.out; have := HK3.out; omega⟩, ⟨zy HO_7.out⟩, ⟨zy HO_9.out⟩, ⟨zy HO_11.out⟩, ⟨zy HO_13.out⟩, ⟨zj BK223.out⟩, ⟨by repeat (first | (with_reducible first | exact HB.out | apply qag | apply qaf | apply qah | refine qaj ?_ GE223.out) | exact HB.out)⟩⟩
                  ·
                   rw [if_neg c90] at H
                   have c90b0 : ((rd t246 x15_3) == ((qbg t228 x15_3).f1)) = false := beq_eq_false_iff_ne.mpr c90
                   have c90b1 : ((rd t246 x15_3) != ((qbg t228 x15_3).f1)) = true := bne_iff_ne.mpr c90
                   obtain rfl := Option.some.inj H
                   obtain ⟨hfz_, hcz97_0, hcz97_1, hcz97_2, hcz97_3, hcz97_4, hcz97_5⟩ := qz6 BK223.out
                   try go_wp2
                   replace HO_7 := qab.mk (Kd.qaw HO_7.out)
                   replace HO_9 := qab.mk (Kd.qaw HO_9.out)
                   replace HO_11 := qab.mk (Kd.qaw HO_11.out)
                   replace HO_13 := qab.mk (Kd.qaw HO_13.out)
                   replace BK223 := qab.mk (qav BK223.out)
                   replace HB := qab.mk (qah HB.out)
                   obtain ⟨Ao99, co99, eo99⟩ := Kd.R_slice HO_9.out
                   (first | subst eo99 | (injection eo99 with f1_ f2_ f3_; have f4_ := f1_.symm; have f5_ := f3_.symm; clear f1_ f2_ f3_; subst f4_; subst f5_))
                   have p250 : 0 ≤ (x15_3 : Int) := of_decide_eq_true (by first | (with_reducible assumption) | assumption)
                   have q250 : x15_3 < (t232.length : Int) := of_decide_eq_true (by first | (with_reducible assumption) | assumption)
                   obtain ⟨ad250, e250, hx250_0⟩ := Kd.at_int (Kd.qbc HO_9.out).2.2 x15_3 p250 q250
                   cases e250
                   replace p250 := eq_true p250
                   replace q250 := eq_true q250
                   obtain ⟨Ao100, co100, eo100⟩ := Kd.R_slice HO_7.out
                   (first | subst eo100 | (injection eo100 with f1_ f2_ f3_; have f4_ := f1_.symm; have f5_ := f3_.symm; clear f1_ f2_ f3_; subst f4_; subst f5_))
                   have p251 : 0 ≤ (x15_3 : Int) := of_decide_eq_true (by first | (with_reducible assumption) | assumption)
                   have q251 : x15_3 < (t228.length : Int) := of_decide_eq_true (by first | (with_reducible assumption) | assumption)
                   obtain ⟨ad251, e251, hx251_0, hx251_1⟩ := at_T41 (Kd.qbc HO_7.out).2.2 x15_3 p251 q251
                   cases e251
                   replace p251 := eq_true p251
                   replace q251 := eq_true q251
                   have p252 : 0 ≤ (x15_3 : Int) := of_decide_eq_true (by first | (with_reducible assumption) | assumption)
                   have q252 : x15_3 < (t232.length : Int) := of_decide_eq_true (by first | (with_reducible assumption) | assumption)
                   obtain ⟨ad252, e252, hx252_0⟩ := Kd.at_int (Kd.qbc HO_9.out).2.2 x15_3 p252 q252
                   obtain rfl : ad250 = ad252 := (by injection e252)
                   replace p252 := eq_true p252
                   replace q252 := eq_true q252
                   have p253 : 0 ≤ (x15_3 : Int) := of_decide_eq_true (by first | (with_reducible assumption) | assumption)
                   have q253 : x15_3 < (t228.length : Int) := of_decide_eq_true (by first | (with_reducible assumption) | assumption)
                   obtain ⟨ad253, e253, hx253_0, hx253_1⟩ := at_T41 (Kd.qbc HO_7.out).2.2 x15_3 p253 q253
                   obtain rfl : ad251 = ad253 := (by injection e253)
                   replace p253 := eq_true p253
                   replace q253 := eq_true q253
                   obtain ⟨Ao101, co101, eo101⟩ := Kd.R_slice HO_11.out
                   (first | subst eo101 | (injection eo101 with f1_ f2_ f3_; have f4_ := f1_.symm; have f5_ := f3_.symm; clear f1_ f2_ f3_; subst f4_; subst f5_))
                   have p254 : 0 ≤ (x15_3 : Int) := of_decide_eq_true (by first | (with_reducible assumption) | assumption)
                   have q254 : x15_3 < (t239.length : Int) := of_decide_eq_true (by first | (with_reducible assumption) | assumption)
                   obtain ⟨ad254, e254, hx254_0⟩ := Kd.at_int (Kd.qbc HO_11.out).2.2 x15_3 p254 q254
                   cases e254
                   replace p254 := eq_true p254
                   replace q254 := eq_true q254
                   have p255 : 0 ≤ (x15_3 : Int) := of_decide_eq_true (by first | (with_reducible assumption) | assumption)
                   have q255 : x15_3 < (t228.length : Int) := of_decide_eq_true (by first | (with_reducible assumption) | assumption)
                   obtain ⟨ad255, e255, hx255_0, hx255_1⟩ := at_T41 (Kd.qbc HO_7.out).2.2 x15_3 p255 q255
                   obtain rfl : ad251 = ad255 := (by injection e255)
                   replace p255 := eq_true p255
                   replace q255 := eq_true q255
                   obtain ⟨Ao102, co102, eo102⟩ := Kd.R_slice HO_13.out
                   (first | subst eo102 | (injection eo102 with f1_ f2_ f3_; have f4_ := f1_.symm; have f5_ := f3_.symm; clear f1_ f2_ f3_; subst f4_; subst f5_))
                   have p256 : 0 ≤ (x15_3 : Int) := of_decide_eq_true (by first | (with_reducible assumption) | assumption)
                   have q256 : x15_3 < (t246.length : Int) := of_decide_eq_true (by first | (with_reducible assumption) | assumption)
                   obtain ⟨ad256, e256, hx256_0⟩ := Kd.at_int (Kd.qbc HO_13.out).2.2 x15_3 p256 q256
                   cases e256
                   replace p256 := eq_true p256
                   replace q256 := eq_true q256
                   have p257 : 0 ≤ (x15_3 : Int) := of_decide_eq_true (by first | (with_reducible assumption) | assumption)
                   have q257 : x15_3 < (t228.length : Int) := of_decide_eq_true (by first | (with_reducible assumption) | assumption)
                   obtain ⟨ad257, e257, hx257_0, hx257_1⟩ := at_T41 (Kd.qbc HO_7.out).2.2 x15_3 p257 q257
                   obtain rfl : ad251 = ad257 := (by injection e257)
                   replace p257 := eq_true p257
                   replace q257 := eq_true q257
                   refine start_ (n := 46) (S := fun w' => w'.cell? (ad250.add (x15_3).toNat) = some (.int .i64 (rd t232 x15_3)) ∧ w'.cell? (ad251.add ((x15_3).toNat * 2)) = some (.int .i64 ((qbg t228 x15_3).f0)) ∧ w'.cell? ⟨(ad251.add ((x15_3).toNat * 2)).block, (ad251.add ((x15_3).toNat * 2)).off + 1, none⟩ = some (.int .i64 ((qbg t228 x15_3).f1)) ∧ w'.cell? (ad250.add (x15_3).toNat) = some (.int .i64 (rd t232 x15_3)) ∧ w'.cell? (ad251.add ((x15_3).toNat * 2)) = some (.int .i64 ((qbg t228 x15_3).f0)) ∧ w'.cell? ⟨(ad251.add ((x15_3).toNat * 2)).block, (ad251.add ((x15_3).toNat * 2)).off + 1, none⟩ = some (.int .i64 ((qbg t228 x15_3).f1)) ∧ w'.cell? (ad254.add (x15_3).toNat) = some (.int .i64 (rd t239 x15_3)) ∧ w'.cell? (ad251.add ((x15_3).toNat * 2)) = some (.int .i64 ((qbg t228 x15_3).f0)) ∧ w'.cell? ⟨(ad251.add ((x15_3).toNat * 2)).block, (ad251.add ((x15_3).toNat * 2)).off + 1, none⟩ = some (.int .i64 ((qbg t228 x15_3).f1)) ∧ w'.cell? (ad256.add (x15_3).toNat) = some (.int .i64 (rd t246 x15_3)) ∧ w'.cell? (ad251.add ((x15_3).toNat * 2)) = some (.int .i64 ((qbg t228 x15_3).f0)) ∧ w'.cell? ⟨(ad251.add ((x15_3).toNat * 2)).block, (ad251.add ((x15_3).toNat * 2)).off + 1, none⟩ = some (.int .i64 ((qbg t228 x15_3).f1))) (ds := []) (msk 46 0) (by kernel_rfl) rfl rfl ⟨hx250_0, hx251_0, hx251_1, hx252_0, hx253_0, hx253_1, hx254_0, hx255_0, hx255_1, hx256_0, hx257_0, hx257_1⟩ (fun hHeld => ?_); refine with_tabW taliklaw07_SeepTrue.tab12 taliklaw07_SeepTrue.bits12 (fun HT_ HW_ => ?_)
                   generalize wr.drew = w98 at HO_7 HO_9 HO_11 HO_13 BK223 HB hx250_0 hx251_0 hx251_1 hx252_0 hx253_0 hx253_1 hx254_0 hx255_0 hx255_1 hx256_0 hx257_0 hx257_1 hHeld ⊢
                   refine zu HT_.out 0 1 119 ?_
                   refine zu HT_.out 1 2 120 ?_
                   refine zu HT_.out 2 3 121 ?_
                   refine zug (mkb 46 23) HT_.out 4 123 ?_
                   refine zug (mkb 46 55) HT_.out 5 124 ?_
                   refine zug (mkb 46 119) HT_.out 6 125 ?_
                   refine zug (mkb 46 247) HT_.out 7 126 ?_
                   refine zwg12 (msk 46 8) HT_.out HW_.out 3 122 hHeld ?_
                   refine zw12 HT_.out HW_.out 8 9 127 hHeld ?_
                   refine zu HT_.out 9 10 128 ?_
                   refine zu HT_.out 10 11 129 ?_
                   refine zu HT_.out 11 12 130 ?_
                   refine zu HT_.out 12 13 131 ?_
                   refine zu HT_.out 13 14 132 ?_
                   refine zug (mkb 46 49151) HT_.out 15 134 ?_
                   refine zug (mkb 46 114687) HT_.out 16 135 ?_
                   refine zug (mkb 46 245759) HT_.out 17 136 ?_
                   refine zug (mkb 46 507903) HT_.out 18 137 ?_
                   refine zwg12 (msk 46 19) HT_.out HW_.out 14 133 hHeld ?_
                   refine zw12 HT_.out HW_.out 19 20 138 hHeld ?_
                   refine zu HT_.out 20 21 139 ?_
                   refine zu HT_.out 21 22 140 ?_
                   refine zu HT_.out 22 23 141 ?_
                   refine zu HT_.out 23 24 142 ?_
                   refine zu HT_.out 24 25 143 ?_
                   refine zu HT_.out 25 26 144 ?_
                   refine zug (mkb 46 201326591) HT_.out 27 146 ?_
                   refine zug (mkb 46 469762047) HT_.out 28 147 ?_
                   refine zug (mkb 46 1006632959) HT_.out 29 148 ?_
                   refine zug (mkb 46 2080374783) HT_.out 30 149 ?_
                   refine zwg12 (msk 46 31) HT_.out HW_.out 26 145 hHeld ?_
                   refine zw12 HT_.out HW_.out 31 32 150 hHeld ?_
                   refine zu HT_.out 32 33 151 ?_
                   refine zu HT_.out 33 34 152 ?_
                   refine zu HT_.out 34 35 153 ?_
                   refine zu HT_.out 35 36 154 ?_
                   refine zu HT_.out 36 37 155 ?_
                   refine zu HT_.out 37 38 156 ?_
                   refine zug (mkb 46 824633720831) HT_.out 39 158 ?_
                   refine zug (mkb 46 1924145348607) HT_.out 40 159 ?_
                   refine zug (mkb 46 4123168604159) HT_.out 41 160 ?_
                   refine zug (mkb 46 8521215115263) HT_.out 42 161 ?_
                   refine zwg12 (msk 46 43) HT_.out HW_.out 38 157 hHeld ?_
                   refine zw12 HT_.out HW_.out 43 44 162 hHeld ?_
                   refine zu HT_.out 44 45 163 ?_
                   refine zu HT_.out 45 46 164 ?_
                   refine done_ (done_of HT_.out (by kernel_rfl)) ?_
                   try go_wp2
                   go_ret
                   exact ⟨by first | rfl | (simp [qaz, qba] <;> rfl) | (simp [*, qaz, qba] <;> rfl), by repeat (first | (with_reducible first | exact HB.out | apply qag | apply qaf | apply qah | refine qaj ?_ GE223.out) | exact HB.out)⟩
                 ·
                  rw [if_neg c89] at H
                  exact absurd H (by simp)
                ·
                 rw [if_neg c88] at H
                 have c88b0 : ((rd t239 x15_3) == ((qbg t228 x15_3).f0)) = false := beq_eq_false_iff_ne.mpr c88
                 have c88b1 : ((rd t239 x15_3) != ((qbg t228 x15_3).f0)) = true := bne_iff_ne.mpr c88
                 obtain rfl := Option.some.inj H
                 obtain ⟨hfz_, hcz103_0, hcz103_1, hcz103_2, hcz103_3, hcz103_4, hcz103_5⟩ := qz6 BK223.out
                 try go_wp2
                 replace HO_7 := qab.mk (Kd.qaw HO_7.out)
                 replace HO_9 := qab.mk (Kd.qaw HO_9.out)
                 replace HO_11 := qab.mk (Kd.qaw HO_11.out)
                 replace HO_13 := qab.mk (Kd.qaw HO_13.out)
                 replace BK223 := qab.mk (qav BK223.out)
                 replace HB := qab.mk (qah HB.out)
                 obtain ⟨Ao105, co105, eo105⟩ := Kd.R_slice HO_9.out
                 (first | subst eo105 | (injection eo105 with f1_ f2_ f3_; have f4_ := f1_.symm; have f5_ := f3_.symm; clear f1_ f2_ f3_; subst f4_; subst f5_))
                 have p250 : 0 ≤ (x15_3 : Int) := of_decide_eq_true (by first | (with_reducible assumption) | assumption)
                 have q250 : x15_3 < (t232.length : Int) := of_decide_eq_true (by first | (with_reducible assumption) | assumption)
                 obtain ⟨ad250, e250, hx250_0⟩ := Kd.at_int (Kd.qbc HO_9.out).2.2 x15_3 p250 q250
                 cases e250
                 replace p250 := eq_true p250
                 replace q250 := eq_true q250
                 obtain ⟨Ao106, co106, eo106⟩ := Kd.R_slice HO_7.out
                 (first | subst eo106 | (injection eo106 with f1_ f2_ f3_; have f4_ := f1_.symm; have f5_ := f3_.symm; clear f1_ f2_ f3_; subst f4_; subst f5_))
                 have p251 : 0 ≤ (x15_3 : Int) := of_decide_eq_true (by first | (with_reducible assumption) | assumption)
                 have q251 : x15_3 < (t228.length : Int) := of_decide_eq_true (by first | (with_reducible assumption) | assumption)
                 obtain ⟨ad251, e251, hx251_0, hx251_1⟩ := at_T41 (Kd.qbc HO_7.out).2.2 x15_3 p251 q251
                 cases e251
                 replace p251 := eq_true p251
                 replace q251 := eq_true q251
                 have p252 : 0 ≤ (x15_3 : Int) := of_decide_eq_true (by first | (with_reducible assumption) | assumption)
                 have q252 : x15_3 < (t232.length : Int) := of_decide_eq_true (by first | (with_reducible assumption) | assumption)
                 obtain ⟨ad252, e252, hx252_0⟩ := Kd.at_int (Kd.qbc HO_9.out).2.2 x15_3 p252 q252
                 obtain rfl : ad250 = ad252 := (by injection e252)
                 replace p252 := eq_true p252
                 replace q252 := eq_true q252
                 have p253 : 0 ≤ (x15_3 : Int) := of_decide_eq_true (by first | (with_reducible assumption) | assumption)
                 have q253 : x15_3 < (t228.length : Int) := of_decide_eq_true (by first | (with_reducible assumption) | assumption)
                 obtain ⟨ad253, e253, hx253_0, hx253_1⟩ := at_T41 (Kd.qbc HO_7.out).2.2 x15_3 p253 q253
                 obtain rfl : ad251 = ad253 := (by injection e253)
                 replace p253 := eq_true p253
                 replace q253 := eq_true q253
                 obtain ⟨Ao107, co107, eo107⟩ := Kd.R_slice HO_11.out
                 (first | subst eo107 | (injection eo107 with f1_ f2_ f3_; have f4_ := f1_.symm; have f5_ := f3_.symm; clear f1_ f2_ f3_; subst f4_; subst f5_))
                 have p254 : 0 ≤ (x15_3 : Int) := of_decide_eq_true (by first | (with_reducible assumption) | assumption)
                 have q254 : x15_3 < (t239.length : Int) := of_decide_eq_true (by first | (with_reducible assumption) | assumption)
                 obtain ⟨ad254, e254, hx254_0⟩ := Kd.at_int (Kd.qbc HO_11.out).2.2 x15_3 p254 q254
                 cases e254
                 replace p254 := eq_true p254
                 replace q254 := eq_true q254
                 have p255 : 0 ≤ (x15_3 : Int) := of_decide_eq_true (by first | (with_reducible assumption) | assumption)
                 have q255 : x15_3 < (t228.length : Int) := of_decide_eq_true (by first | (with_reducible assumption) | assumption)
                 obtain ⟨ad255, e255, hx255_0, hx255_1⟩ := at_T41 (Kd.qbc HO_7.out).2.2 x15_3 p255 q255
                 obtain rfl : ad251 = ad255 := (by injection e255)
                 replace p255 := eq_true p255
                 replace q255 := eq_true q255
                 refine start_ (n := 46) (S := fun w' => w'.cell? (ad250.add (x15_3).toNat) = some (.int .i64 (rd t232 x15_3)) ∧ w'.cell? (ad251.add ((x15_3).toNat * 2)) = some (.int .i64 ((qbg t228 x15_3).f0)) ∧ w'.cell? ⟨(ad251.add ((x15_3).toNat * 2)).block, (ad251.add ((x15_3).toNat * 2)).off + 1, none⟩ = some (.int .i64 ((qbg t228 x15_3).f1)) ∧ w'.cell? (ad250.add (x15_3).toNat) = some (.int .i64 (rd t232 x15_3)) ∧ w'.cell? (ad251.add ((x15_3).toNat * 2)) = some (.int .i64 ((qbg t228 x15_3).f0)) ∧ w'.cell? ⟨(ad251.add ((x15_3).toNat * 2)).block, (ad251.add ((x15_3).toNat * 2)).off + 1, none⟩ = some (.int .i64 ((qbg t228 x15_3).f1)) ∧ w'.cell? (ad254.add (x15_3).toNat) = some (.int .i64 (rd t239 x15_3)) ∧ w'.cell? (ad251.add ((x15_3).toNat * 2)) = some (.int .i64 ((qbg t228 x15_3).f0)) ∧ w'.cell? ⟨(ad251.add ((x15_3).toNat * 2)).block, (ad251.add ((x15_3).toNat * 2)).off + 1, none⟩ = some (.int .i64 ((qbg t228 x15_3).f1))) (ds := []) (msk 46 0) (by kernel_rfl) rfl rfl ⟨hx250_0, hx251_0, hx251_1, hx252_0, hx253_0, hx253_1, hx254_0, hx255_0, hx255_1⟩ (fun hHeld => ?_); refine with_tabW taliklaw07_SeepTrue.tab12 taliklaw07_SeepTrue.bits12 (fun HT_ HW_ => ?_)
                 generalize wr.drew = w104 at HO_7 HO_9 HO_11 HO_13 BK223 HB hx250_0 hx251_0 hx251_1 hx252_0 hx253_0 hx253_1 hx254_0 hx255_0 hx255_1 hHeld ⊢
                 refine zu HT_.out 0 1 119 ?_
                 refine zu HT_.out 1 2 120 ?_
                 refine zu HT_.out 2 3 121 ?_
                 refine zug (mkb 46 23) HT_.out 4 123 ?_
                 refine zug (mkb 46 55) HT_.out 5 124 ?_
                 refine zug (mkb 46 119) HT_.out 6 125 ?_
                 refine zug (mkb 46 247) HT_.out 7 126 ?_
                 refine zwg9 (msk 46 8) HT_.out HW_.out 3 122 hHeld ?_
                 refine zw9 HT_.out HW_.out 8 9 127 hHeld ?_
                 refine zu HT_.out 9 10 128 ?_
                 refine zu HT_.out 10 11 129 ?_
                 refine zu HT_.out 11 12 130 ?_
                 refine zu HT_.out 12 13 131 ?_
                 refine zu HT_.out 13 14 132 ?_
                 refine zug (mkb 46 49151) HT_.out 15 134 ?_
                 refine zug (mkb 46 114687) HT_.out 16 135 ?_
                 refine zug (mkb 46 245759) HT_.out 17 136 ?_
                 refine zug (mkb 46 507903) HT_.out 18 137 ?_
                 refine zwg9 (msk 46 19) HT_.out HW_.out 14 133 hHeld ?_
                 refine zw9 HT_.out HW_.out 19 20 138 hHeld ?_
                 refine zu HT_.out 20 21 139 ?_
                 refine zu HT_.out 21 22 140 ?_
                 refine zu HT_.out 22 23 141 ?_
                 refine zu HT_.out 23 24 142 ?_
                 refine zu HT_.out 24 25 143 ?_
                 refine zu HT_.out 25 26 144 ?_
                 refine zug (mkb 46 201326591) HT_.out 27 146 ?_
                 refine zug (mkb 46 469762047) HT_.out 28 147 ?_
                 refine zug (mkb 46 1006632959) HT_.out 29 148 ?_
                 refine zug (mkb 46 2080374783) HT_.out 30 149 ?_
                 refine zwg9 (msk 46 31) HT_.out HW_.out 26 145 hHeld ?_
                 refine zw9 HT_.out HW_.out 31 32 150 hHeld ?_
                 refine zu HT_.out 32 33 151 ?_
                 refine zu HT_.out 33 34 152 ?_
                 refine zu HT_.out 34 35 153 ?_
                 refine zv HT_.out 35 36 154 ?_
                 refine zv HT_.out 36 37 155 ?_
                 refine zv HT_.out 37 38 156 ?_
                 refine zv HT_.out 38 39 157 ?_
                 refine zv HT_.out 39 40 158 ?_
                 refine zv HT_.out 40 41 159 ?_
                 refine zv HT_.out 41 42 160 ?_
                 refine zv HT_.out 42 43 161 ?_
                 refine zv HT_.out 43 44 162 ?_
                 refine zv HT_.out 44 45 163 ?_
                 refine zu HT_.out 45 46 164 ?_
                 refine done_ (done_of HT_.out (by kernel_rfl)) ?_
                 try go_wp2
                 go_ret
                 exact ⟨by first | rfl | (simp [qaz, qba] <;> rfl) | (simp [*, qaz, qba] <;> rfl), by repeat (first | (with_reducible first | exact HB.out | apply qag | apply qaf | apply qah | refine qaj ?_ GE223.out) | exact HB.out)⟩
               ·
                rw [if_neg c87] at H
                exact absurd H (by simp)
            ·
             rw [if_neg c76] at H
             exact absurd H (by simp)
           ·
            rw [if_neg c75] at H
            exact absurd H (by simp)
          ·
           rw [if_neg c74] at H
           exact absurd H (by simp)
         ·
          rw [if_neg c73] at H
          have c73b0 : decide (x15_3 < a0_0) = false := decide_eq_false c73
          clear c73
          replace H := Option.bind_eq_some_iff.mp H
          obtain ⟨t258, A1080, H⟩ := H
          try dsimp only at H
          have A108 := qab.mk A1080
          clear A1080
          obtain rfl := Option.some.inj H
          obtain ⟨hfz_, hcz109_0, hcz109_1, hcz109_2, hcz109_3, hcz109_4, hcz109_5⟩ := qz6 BK223.out
          go_wp2_with (first | ((with_reducible refine qbb (f := 17) rfl ?_); refine zl 165 Try.func17 #[] ?_; (with_reducible refine (taliklaw07_known.calls  t258 _ A108.out).mono ?_); rintro e w110 ⟨rfl, hb⟩; refine ⟨_, rfl, ?_⟩; replace HO_7 := qab.mk (zx HO_7.out hb); replace HO_9 := qab.mk (zx HO_9.out hb); replace HO_11 := qab.mk (zx HO_11.out hb); replace HO_13 := qab.mk (zx HO_13.out hb); replace BK223 := qab.mk (zk BK223.out hb); replace HB := qab.mk (qae (by repeat (first | (with_reducible first | exact HB.out | apply qag | apply qaf | apply qah | refine qaj ?_ GE223.out) | exact HB.out)) hb); (try clear hb); (try clear hb2); (try clear hk); (try clear hi)))
          go_ret
          exact ⟨by first | rfl | (simp [qaz, qba] <;> rfl) | (simp [*, qaz, qba] <;> rfl), by repeat (first | (with_reducible first | exact HB.out | apply qag | apply qaf | apply qah | refine qaj ?_ GE223.out) | exact HB.out)⟩
end Go.Proofs.Ytafkanmioinbiaa.SA
