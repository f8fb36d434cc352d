/- What functions of the program answer. No condition. -/
import Derived.Test.YtafkanmioinbiaaSC
import Derived.Test.YtafkanmioinbiaaSF
import Derived.Test.YtafkanmioinbiaaSG
import Derived.Test.YtafkanmioinbiaaSQ
import Derived.Test.YtafkanmioinbiaaFpB
import Derived.Test.YtafkanmioinbiaaFpC
import Derived.RangeFuncNested
import Derived.RangeFuncBound
import Derived.RangeFuncCalls
import Derived.RangeFuncLeaves
import Derived.RangeFuncBox
import Derived.Shelf.Abstract
import Derived.Shelf.RegionOpen
import Derived.OwnWalkIn
import Derived.TacticsInMore
import Derived.LoopNIn
import Derived.LoopIn
import Derived.Recover
import Derived.Defers
import Derived.WalkLawsBesides
import Derived.WalkSmall
import Derived.Test.YtafkanmioinbiaaSD
import Derived.Test.YtafkanmioinbiaaSE
import Derived.Deep.Slices
import Derived.Lib.SmallJoins
import Derived.ChangeOld
import Derived.ProofKit
set_option linter.all false
set_option maxRecDepth 100000
set_option maxHeartbeats 8000000
namespace Go.Proofs.Ytafkanmioinbiaa.SA
open Go.RowKit Go.Proofs.YtafkanmioinbiaaW.PrintWords Go.Proofs.YtafkanmioinbiaaW.PrintLast Go.Proofs.YtafkanmioinbiaaW.PrintMore
attribute [local go_sem] max2_int min2_int max_two min_two qay qaz max_four min_four
mutual
def taliklaw07_SeepPlays.j0 : Nat → List Int → List Int → Bool → Int → List (S44) → List Int → List Int → List (S41) → List (S95) → Option (Bool)
 | 0, _, _, _, _, _, _, _, _, _ => none
 | k + 1, x1, x2, x21, x200000, x200001, x200002, x200003, x200004, x200005 => if x21 = true then ((taliklaw07_known.f).bind fun t201 => (some t201)) else ((seep_Play.f x200000 x200001 x200002 x200003 x200004 x200005 x1 x2).bind fun bt202 => ((taliklaw07_asked.f x200000 x200001 x200002 x200003 x200004 x200005 x1).bind fun t206 => (if t206 = true then ((talikref07_Thaws.f k x200000 x200001 x200002 x200003 x200004 x200005 x2).bind fun t207 => (taliklaw07_SeepPlays.j1 k x1 x2 bt202.1 bt202.2 (!t207) x200000 x200001 x200002 x200003 x200004 x200005)) else (taliklaw07_SeepPlays.j1 k x1 x2 bt202.1 bt202.2 true x200000 x200001 x200002 x200003 x200004 x200005))))
def taliklaw07_SeepPlays.j1 : Nat → List Int → List Int → List Int → Int → Bool → Int → List (S44) → List Int → List Int → List (S41) → List (S95) → Option (Bool)
 | 0, _, _, _, _, _, _, _, _, _, _, _ => none
 | k + 1, x1, x2, x7, x8, x39, x200000, x200001, x200002, x200003, x200004, x200005 => if x39 = true then (if x8 = 2 then (if (x7.length : Int) = 0 then ((taliklaw07_known.f).bind fun t208 => (some t208)) else (some false)) else (some false)) else (if x8 = 0 then ((talikref07_Foul.f x200000 x200001 x200002 x200003 x200004 x200005 x1 x2).bind fun t209 => ((talikref07_Same.f k x7 t209).bind fun t212 => (if t212 = true then ((taliklaw07_known.f).bind fun t213 => (some t213)) else (some false)))) else (some false))
end
def taliklaw07_SeepPlays.f (k : Nat) (a0_0 : Int) (l0_1 : List (S44)) (l0_2 : List Int) (l0_3 : List Int) (l0_4 : List (S41)) (l0_5 : List (S95)) (l1 : List Int) (l2 : List Int) : Option (Bool) := (taliklaw07_short.f a0_0 l0_1 l0_2 l0_3 l0_4 l0_5).bind fun t200 => (if t200 = true then (if (l1.length : Int) > 16 then (taliklaw07_SeepPlays.j0 k l1 l2 true a0_0 l0_1 l0_2 l0_3 l0_4 l0_5) else (taliklaw07_SeepPlays.j0 k l1 l2 (decide ((l2.length : Int) > 15)) a0_0 l0_1 l0_2 l0_3 l0_4 l0_5)) else (taliklaw07_SeepPlays.j0 k l1 l2 true a0_0 l0_1 l0_2 l0_3 l0_4 l0_5))
theorem taliklaw07_SeepPlays.calls (k : Nat) (a0_0 : Int) (A0_1 : Option Addr) (c0_1 : Nat) (l0_1 : List (S44)) (A0_2 : Option Addr) (c0_2 : Nat) (l0_2 : List Int) (A0_3 : Option Addr) (c0_3 : Nat) (l0_3 : List Int) (A0_4 : Option Addr) (c0_4 : Nat) (l0_4 : List (S41)) (A0_5 : Option Addr) (c0_5 : Nat) (l0_5 : List (S95)) (A1 : Option Addr) (c1 : Nat) (l1 : List Int) (A2 : Option Addr) (c2 : Nat) (l2 : List Int) (r : Bool) (w : World) (hr0_1 : Kd.C k44 w A0_1 l0_1.length l0_1) (hc0_1 : l0_1.length ≤ c0_1) (hr0_2 : Kd.C (Kd.int .i64) w A0_2 l0_2.length l0_2) (hc0_2 : l0_2.length ≤ c0_2) (hr0_3 : Kd.C (Kd.int .i64) w A0_3 l0_3.length l0_3) (hc0_3 : l0_3.length ≤ c0_3) (hr0_4 : Kd.C k41 w A0_4 l0_4.length l0_4) (hc0_4 : l0_4.length ≤ c0_4) (hr0_5 : Kd.C k95 w A0_5 l0_5.length l0_5) (hc0_5 : l0_5.length ≤ c0_5) (hr1 : Kd.C (Kd.int .i64) w A1 l1.length l1) (hc1 : l1.length ≤ c1) (hr2 : Kd.C (Kd.int .i64) w A2 l2.length l2) (hc2 : l2.length ≤ c2) (h : taliklaw07_SeepPlays.f k a0_0 l0_1 l0_2 l0_3 l0_4 l0_5 l1 l2 = some r) :
  Calls Try.prog 3 #[.agg #[.int .i64 a0_0, .slice A0_1 l0_1.length c0_1, .slice A0_2 l0_2.length c0_2, .slice A0_3 l0_3.length c0_3, .slice A0_4 l0_4.length c0_4, .slice A0_5 l0_5.length c0_5], .slice A1 l1.length c1, .slice A2 l2.length c2] w fun e w' => e = .returned (.bool r) ∧ Below w.heap.size w w' := by
 have hu27 := Try.underlying27
 have HR0_1 := qab.mk hr0_1
 have HC0_1 := qab.mk hc0_1
 clear hr0_1 hc0_1
 have HR0_2 := qab.mk hr0_2
 have HC0_2 := qab.mk hc0_2
 clear hr0_2 hc0_2
 have HR0_3 := qab.mk hr0_3
 have HC0_3 := qab.mk hc0_3
 clear hr0_3 hc0_3
 have HR0_4 := qab.mk hr0_4
 have HC0_4 := qab.mk hc0_4
 clear hr0_4 hc0_4
 have HR0_5 := qab.mk hr0_5
 have HC0_5 := qab.mk hc0_5
 clear hr0_5 hc0_5
 have HR1 := qab.mk hr1
 have HC1 := qab.mk hc1
 clear hr1 hc1
 have HR2 := qab.mk hr2
 have HC2 := qab.mk hc2
 clear hr2 hc2
 have HB := qab.mk (Below.refl w.heap.size w)
 have H : ((taliklaw07_short.f a0_0 l0_1 l0_2 l0_3 l0_4 l0_5).bind fun t200 => (if t200 = true then (if (l1.length : Int) > 16 then (taliklaw07_SeepPlays.j0 k l1 l2 true a0_0 l0_1 l0_2 l0_3 l0_4 l0_5) else (taliklaw07_SeepPlays.j0 k l1 l2 (decide ((l2.length : Int) > 15)) a0_0 l0_1 l0_2 l0_3 l0_4 l0_5)) else (taliklaw07_SeepPlays.j0 k l1 l2 true a0_0 l0_1 l0_2 l0_3 l0_4 l0_5))) = some r := h
 clear h
 have HC4 := qab.mk H
 clear H
 go_enter Try.func3, Try.ntmps3
 go_upto_region 1 with (first | ((with_reducible refine qam (N := 3) rfl ?_); (try (refine gate_guard (by rfl) ?_; dsimp only)); refine ze 3 #[.int .i64 a0_0, .slice A0_1 l0_1.length c0_1, .slice A0_2 l0_2.length c0_2, .slice A0_3 l0_3.length c0_3, .slice A0_4 l0_4.length c0_4, .slice A0_5 l0_5.length c0_5] 27 ?_; intro gb199 hg w5 hbox hb; have n0_ := qab.mk (qae (zb HB.out) hb); have n1_ := qab.mk (hbox); have n2_ := qab.mk ((by rw [hg]; exact (qat (zb HB.out)) : w.heap.size ≤ gb199)); have n3_ := qab.mk ((by rw [hg]; exact (qat (zb HB.out)) : w.heap.size ≤ gb199)); clear HB; have HB := n0_; have BK199 := n1_; have GW199 := n2_; have GE199 := n3_; clear n0_ n1_ n2_ n3_; clear hb hbox hg))
 (try simp only [Act.put, qzA, qzB, qzC])
 go_cut [21] (fun v21 wc => ∃ (kq : Nat) (x21_3 : Bool), v21 = .bool x21_3 ∧ qab (taliklaw07_SeepPlays.j0 kq l1 l2 x21_3 a0_0 l0_1 l0_2 l0_3 l0_4 l0_5 = some r) ∧ qab (kq ≤ k) ∧ qab (wc.heap[gb199]? = some (.cells #[.int .i64 a0_0, (.slice A0_1 l0_1.length c0_1), (.slice A0_2 l0_2.length c0_2), (.slice A0_3 l0_3.length c0_3), (.slice A0_4 l0_4.length c0_4), (.slice A0_5 l0_5.length c0_5)] 27 (0, 0))) ∧ qab (Below w.heap.size w wc))
 case first =>
  have H := HC4.out
  clear HC4
  replace H := Option.bind_eq_some_iff.mp H
  obtain ⟨t200, A60, H⟩ := H
  try dsimp only at H
  have A6 := qab.mk A60
  clear A60
  by_cases c7 : t200 = true
  ·
   subst c7
   rw [if_pos rfl] at H
   by_cases c8 : (l1.length : Int) > 16
   ·
    rw [if_pos c8] at H
    have c8b0 : decide (16 < (l1.length : Int)) = true := decide_eq_true c8
    have c8b1 : decide (16 < l1.length) = true := decide_eq_true (by omega)
    clear c8
    (first | rw [c8b0] | (simp only [i64_w, i32_w]; rw [c8b0]) | skip)
    have H' := qab.mk H
    clear H
    obtain ⟨hfz_, hcz9_0, hcz9_1, hcz9_2, hcz9_3, hcz9_4, hcz9_5⟩ := qz6 BK199.out
    go_wp2_with (first | ((with_reducible refine qbc (f := 16) rfl ?_); refine zl 10 Try.func16 #[.agg #[.int .i64 a0_0, .slice A0_1 l0_1.length c0_1, .slice A0_2 l0_2.length c0_2, .slice A0_3 l0_3.length c0_3, .slice A0_4 l0_4.length c0_4, .slice A0_5 l0_5.length c0_5]] ?_; (with_reducible refine (taliklaw07_short.calls a0_0 _ _ l0_1 _ _ l0_2 _ _ l0_3 _ _ l0_4 _ _ l0_5 true _ ?side1 ?side2 ?side3 ?side4 ?side5 ?side6 ?side7 ?side8 ?side9 ?side10 A6.out).mono ?_); (case side1 => exact zs (Kd.qai HR0_1.out HB.out)); (case side2 => exact HC0_1.out); (case side3 => exact zs (Kd.qai HR0_2.out HB.out)); (case side4 => exact HC0_2.out); (case side5 => exact zs (Kd.qai HR0_3.out HB.out)); (case side6 => exact HC0_3.out); (case side7 => exact zs (Kd.qai HR0_4.out HB.out)); (case side8 => exact HC0_4.out); (case side9 => exact zs (Kd.qai HR0_5.out HB.out)); (case side10 => exact HC0_5.out); rintro e w10 ⟨rfl, hb⟩; refine ⟨_, rfl, ?_⟩; replace BK199 := qab.mk (zk BK199.out hb); replace HB := qab.mk (qae (by repeat (first | (with_reducible first | exact HB.out | apply qag | apply qaf | apply qah | refine qaj ?_ GE199.out) | exact HB.out)) hb); (try clear hb); (try clear hb2); (try clear hk); (try clear hi)))
    go_meet
    case rel => exact ⟨_, (true), (by first | rfl | (simp; done) | (simp [*]; done)), H', ⟨by first | omega | exact Nat.le_refl _⟩, ⟨zj BK199.out⟩, ⟨by repeat (first | (with_reducible first | exact HB.out | apply qag | apply qaf | apply qah | refine qaj ?_ GE199.out) | exact HB.out)⟩⟩
   ·
    rw [if_neg c8] at H
    have c8b0 : decide (16 < (l1.length : Int)) = false := decide_eq_false c8
    have c8b1 : decide (16 < l1.length) = false := decide_eq_false (by omega)
    clear c8
    (first | rw [c8b0] | (simp only [i64_w, i32_w]; rw [c8b0]) | skip)
    have H' := qab.mk H
    clear H
    obtain ⟨hfz_, hcz11_0, hcz11_1, hcz11_2, hcz11_3, hcz11_4, hcz11_5⟩ := qz6 BK199.out
    go_wp2_with (first | ((with_reducible refine qbc (f := 16) rfl ?_); refine zl 10 Try.func16 #[.agg #[.int .i64 a0_0, .slice A0_1 l0_1.length c0_1, .slice A0_2 l0_2.length c0_2, .slice A0_3 l0_3.length c0_3, .slice A0_4 l0_4.length c0_4, .slice A0_5 l0_5.length c0_5]] ?_; (with_reducible refine (taliklaw07_short.calls a0_0 _ _ l0_1 _ _ l0_2 _ _ l0_3 _ _ l0_4 _ _ l0_5 true _ ?side1 ?side2 ?side3 ?side4 ?side5 ?side6 ?side7 ?side8 ?side9 ?side10 A6.out).mono ?_); (case side1 => exact zs (Kd.qai HR0_1.out HB.out)); (case side2 => exact HC0_1.out); (case side3 => exact zs (Kd.qai HR0_2.out HB.out)); (case side4 => exact HC0_2.out); (case side5 => exact zs (Kd.qai HR0_3.out HB.out)); (case side6 => exact HC0_3.out); (case side7 => exact zs (Kd.qai HR0_4.out HB.out)); (case side8 => exact HC0_4.out); (case side9 => exact zs (Kd.qai HR0_5.out HB.out)); (case side10 => exact HC0_5.out); rintro e w12 ⟨rfl, hb⟩; refine ⟨_, rfl, ?_⟩; replace BK199 := qab.mk (zk BK199.out hb); replace HB := qab.mk (qae (by repeat (first | (with_reducible first | exact HB.out | apply qag | apply qaf | apply qah | refine qaj ?_ GE199.out) | exact HB.out)) hb); (try clear hb); (try clear hb2); (try clear hk); (try clear hi)))
    go_meet
    case rel => exact ⟨_, (decide ((l2.length : Int) > 15)), (by first | rfl | (simp; done) | (simp [*]; done)), H', ⟨by first | omega | exact Nat.le_refl _⟩, ⟨zj BK199.out⟩, ⟨by repeat (first | (with_reducible first | exact HB.out | apply qag | apply qaf | apply qah | refine qaj ?_ GE199.out) | exact HB.out)⟩⟩
  ·
   replace c7 := Bool.eq_false_iff.mpr c7
   subst c7
   rw [if_neg (show ¬ (false = true) by decide)] at H
   have H' := qab.mk H
   clear H
   obtain ⟨hfz_, hcz13_0, hcz13_1, hcz13_2, hcz13_3, hcz13_4, hcz13_5⟩ := qz6 BK199.out
   go_wp2_with (first | ((with_reducible refine qbc (f := 16) rfl ?_); refine zl 10 Try.func16 #[.agg #[.int .i64 a0_0, .slice A0_1 l0_1.length c0_1, .slice A0_2 l0_2.length c0_2, .slice A0_3 l0_3.length c0_3, .slice A0_4 l0_4.length c0_4, .slice A0_5 l0_5.length c0_5]] ?_; (with_reducible refine (taliklaw07_short.calls a0_0 _ _ l0_1 _ _ l0_2 _ _ l0_3 _ _ l0_4 _ _ l0_5 false _ ?side1 ?side2 ?side3 ?side4 ?side5 ?side6 ?side7 ?side8 ?side9 ?side10 A6.out).mono ?_); (case side1 => exact zs (Kd.qai HR0_1.out HB.out)); (case side2 => exact HC0_1.out); (case side3 => exact zs (Kd.qai HR0_2.out HB.out)); (case side4 => exact HC0_2.out); (case side5 => exact zs (Kd.qai HR0_3.out HB.out)); (case side6 => exact HC0_3.out); (case side7 => exact zs (Kd.qai HR0_4.out HB.out)); (case side8 => exact HC0_4.out); (case side9 => exact zs (Kd.qai HR0_5.out HB.out)); (case side10 => exact HC0_5.out); rintro e w14 ⟨rfl, hb⟩; refine ⟨_, rfl, ?_⟩; replace BK199 := qab.mk (zk BK199.out hb); replace HB := qab.mk (qae (by repeat (first | (with_reducible first | exact HB.out | apply qag | apply qaf | apply qah | refine qaj ?_ GE199.out) | exact HB.out)) hb); (try clear hb); (try clear hb2); (try clear hk); (try clear hi)))
   go_meet
   case rel => exact ⟨_, (true), (by first | rfl | (simp; done) | (simp [*]; done)), H', ⟨by first | omega | exact Nat.le_refl _⟩, ⟨zj BK199.out⟩, ⟨by repeat (first | (with_reducible first | exact HB.out | apply qag | apply qaf | apply qah | refine qaj ?_ GE199.out) | exact HB.out)⟩⟩
 case rest =>
  clear HC4
  try clear c1
  try clear c2
  try clear p2
  try clear c3
  try clear c7
  try clear c8
  try clear c8b0
  try clear c8b1
  try clear hcz11_0
  try clear hcz11_1
  try clear hcz11_2
  try clear hcz11_3
  try clear hcz11_4
  try clear hcz11_5
  try clear hcz13_0
  try clear hcz13_1
  try clear hcz13_2
  try clear hcz13_3
  try clear hcz13_4
  try clear hcz13_5
  try clear hcz9_0
  try clear hcz9_1
  try clear hcz9_2
  try clear hcz9_3
  try clear hcz9_4
  try clear hcz9_5
  try clear hfz11_0
  try clear hfz11_1
  try clear hfz11_2
  try clear hfz11_3
  try clear hfz11_4
  try clear hfz11_5
  try clear hfz13_0
  try clear hfz13_1
  try clear hfz13_2
  try clear hfz13_3
  try clear hfz13_4
  try clear hfz13_5
  try clear hfz9_0
  try clear hfz9_1
  try clear hfz9_2
  try clear hfz9_3
  try clear hfz9_4
  try clear hfz9_5
  obtain ⟨kq, x21_3, rfl, HA, HJ3, BK199, HB⟩ := hcut
  cases kq with
  | zero => exact absurd HA.out (by simp [taliklaw07_SeepPlays.j0])
  | succ kj3 =>
   have H := HA.out
   clear HA
   simp only [taliklaw07_SeepPlays.j0] at H
   by_cases c15 : x21_3 = true
   ·
    subst c15
    rw [if_pos rfl] at H
    replace H := Option.bind_eq_some_iff.mp H
    obtain ⟨t201, A160, H⟩ := H
    try dsimp only at H
    have A16 := qab.mk A160
    clear A160
    obtain rfl := Option.some.inj H
    go_wp2_with (first | ((with_reducible refine qbc (f := 17) rfl ?_); refine zl 22 Try.func17 #[] ?_; (with_reducible refine (taliklaw07_known.calls  t201 _ A16.out).mono ?_); rintro e w17 ⟨rfl, hb⟩; refine ⟨_, rfl, ?_⟩; replace BK199 := qab.mk (zk BK199.out hb); replace HB := qab.mk (qae (by repeat (first | (with_reducible first | exact HB.out | apply qag | apply qaf | apply qah | refine qaj ?_ GE199.out) | exact HB.out)) hb); (try clear hb); (try clear hb2); (try clear hk); (try clear hi)))
    go_ret
    exact ⟨by first | rfl | (simp [qaw, qax] <;> rfl) | (simp [*, qaw, qax] <;> rfl), by repeat (first | (with_reducible first | exact HB.out | apply qag | apply qaf | apply qah | refine qaj ?_ GE199.out) | exact HB.out)⟩
   ·
    replace c15 := Bool.eq_false_iff.mpr c15
    subst c15
    rw [if_neg (show ¬ (false = true) by decide)] at H
    replace H := Option.bind_eq_some_iff.mp H
    obtain ⟨⟨t202, t205⟩, A180, H⟩ := H
    try dsimp only at H
    have A18 := qab.mk A180
    clear A180
    have HC19 := qab.mk H
    clear H
    obtain ⟨hfz_, hcz20_0, hcz20_1, hcz20_2, hcz20_3, hcz20_4, hcz20_5⟩ := qz6 BK199.out
    go_upto_region 4 with (first | ((with_reducible refine qbc (f := 18) rfl ?_); refine zl 27 Try.func18 #[.agg #[.int .i64 a0_0, .slice A0_1 l0_1.length c0_1, .slice A0_2 l0_2.length c0_2, .slice A0_3 l0_3.length c0_3, .slice A0_4 l0_4.length c0_4, .slice A0_5 l0_5.length c0_5], .slice A1 l1.length c1, .slice A2 l2.length c2] ?_; (with_reducible refine (seep_Play.calls a0_0 _ _ l0_1 _ _ l0_2 _ _ l0_3 _ _ l0_4 _ _ l0_5 _ _ l1 _ _ l2 t202 t205 _ ?side1 ?side2 ?side3 ?side4 ?side5 ?side6 ?side7 ?side8 ?side9 ?side10 ?side11 ?side12 ?side13 ?side14 A18.out).mono ?_); (case side1 => exact zs (Kd.qai HR0_1.out HB.out)); (case side2 => exact HC0_1.out); (case side3 => exact zs (Kd.qai HR0_2.out HB.out)); (case side4 => exact HC0_2.out); (case side5 => exact zs (Kd.qai HR0_3.out HB.out)); (case side6 => exact HC0_3.out); (case side7 => exact zs (Kd.qai HR0_4.out HB.out)); (case side8 => exact HC0_4.out); (case side9 => exact zs (Kd.qai HR0_5.out HB.out)); (case side10 => exact HC0_5.out); (case side11 => exact zs (Kd.qai HR1.out HB.out)); (case side12 => exact HC1.out); (case side13 => exact zs (Kd.qai HR2.out HB.out)); (case side14 => exact HC2.out); rintro e w21 ⟨v203, rfl, ho0, hb⟩; refine ⟨_, rfl, ?_⟩; have HO204 := qab.mk (Kd.R_lower ho0 (qat (by repeat (first | (with_reducible first | exact HB.out | apply qag | apply qaf | apply qah | refine qaj ?_ GE199.out) | exact HB.out)))); replace BK199 := qab.mk (zk BK199.out hb); replace HB := qab.mk (qae (by repeat (first | (with_reducible first | exact HB.out | apply qag | apply qaf | apply qah | refine qaj ?_ GE199.out) | exact HB.out)) hb); (try clear hb); (try clear hb2); (try clear hk); (try clear hi); (try clear ho0)))
    (try simp only [Act.put, qzA, qzB, qzC])
    go_cut [39] (fun v39 wc => ∃ (kq : Nat) (x39_18 : Bool), v39 = .bool x39_18 ∧ qab (taliklaw07_SeepPlays.j1 kq l1 l2 t202 t205 x39_18 a0_0 l0_1 l0_2 l0_3 l0_4 l0_5 = some r) ∧ qab (kq ≤ kj3) ∧ qab (Kd.R (Kd.int .i64) 3 wc w.heap.size (fun _ => True) v203 t202) ∧ qab (wc.heap[gb199]? = some (.cells #[.int .i64 a0_0, (.slice A0_1 l0_1.length c0_1), (.slice A0_2 l0_2.length c0_2), (.slice A0_3 l0_3.length c0_3), (.slice A0_4 l0_4.length c0_4), (.slice A0_5 l0_5.length c0_5)] 27 (0, 0))) ∧ qab (Below w.heap.size w wc))
    case first =>
     have H := HC19.out
     clear HC19
     replace H := Option.bind_eq_some_iff.mp H
     obtain ⟨t206, A220, H⟩ := H
     try dsimp only at H
     have A22 := qab.mk A220
     clear A220
     by_cases c23 : t206 = true
     ·
      subst c23
      rw [if_pos rfl] at H
      replace H := Option.bind_eq_some_iff.mp H
      obtain ⟨t207, A240, H⟩ := H
      try dsimp only at H
      have A24 := qab.mk A240
      clear A240
      have H' := qab.mk H
      clear H
      obtain ⟨hfz_, hcz25_0, hcz25_1, hcz25_2, hcz25_3, hcz25_4, hcz25_5⟩ := qz6 BK199.out
      go_wp2_with (first | ((with_reducible refine qbc (f := 19) rfl ?_); refine zl 32 Try.func19 #[.agg #[.int .i64 a0_0, .slice A0_1 l0_1.length c0_1, .slice A0_2 l0_2.length c0_2, .slice A0_3 l0_3.length c0_3, .slice A0_4 l0_4.length c0_4, .slice A0_5 l0_5.length c0_5], .slice A1 l1.length c1] ?_; (with_reducible refine (taliklaw07_asked.calls a0_0 _ _ l0_1 _ _ l0_2 _ _ l0_3 _ _ l0_4 _ _ l0_5 _ _ l1 true _ ?side1 ?side2 ?side3 ?side4 ?side5 ?side6 ?side7 ?side8 ?side9 ?side10 ?side11 ?side12 A22.out).mono ?_); (case side1 => exact zs (Kd.qai HR0_1.out HB.out)); (case side2 => exact HC0_1.out); (case side3 => exact zs (Kd.qai HR0_2.out HB.out)); (case side4 => exact HC0_2.out); (case side5 => exact zs (Kd.qai HR0_3.out HB.out)); (case side6 => exact HC0_3.out); (case side7 => exact zs (Kd.qai HR0_4.out HB.out)); (case side8 => exact HC0_4.out); (case side9 => exact zs (Kd.qai HR0_5.out HB.out)); (case side10 => exact HC0_5.out); (case side11 => exact zs (Kd.qai HR1.out HB.out)); (case side12 => exact HC1.out); rintro e w26 ⟨rfl, hb⟩; refine ⟨_, rfl, ?_⟩; replace HO204 := qab.mk (zx HO204.out hb); replace BK199 := qab.mk (zk BK199.out hb); replace HB := qab.mk (qae (by repeat (first | (with_reducible first | exact HB.out | apply qag | apply qaf | apply qah | refine qaj ?_ GE199.out) | exact HB.out)) hb); (try clear hb); (try clear hb2); (try clear hk); (try clear hi); obtain ⟨hfz_, hcz27_0, hcz27_1, hcz27_2, hcz27_3, hcz27_4, hcz27_5⟩ := qz6 BK199.out) | (go_at_call 20; (with_reducible refine (talikref07_Thaws.calls kj3 a0_0 _ _ l0_1 _ _ l0_2 _ _ l0_3 _ _ l0_4 _ _ l0_5 _ _ l2 t207 _ ?side1 ?side2 ?side3 ?side4 ?side5 ?side6 ?side7 ?side8 ?side9 ?side10 ?side11 ?side12 A24.out).mono ?_); (case side1 => exact zs (Kd.qai HR0_1.out HB.out)); (case side2 => exact HC0_1.out); (case side3 => exact zs (Kd.qai HR0_2.out HB.out)); (case side4 => exact HC0_2.out); (case side5 => exact zs (Kd.qai HR0_3.out HB.out)); (case side6 => exact HC0_3.out); (case side7 => exact zs (Kd.qai HR0_4.out HB.out)); (case side8 => exact HC0_4.out); (case side9 => exact zs (Kd.qai HR0_5.out HB.out)); (case side10 => exact HC0_5.out); (case side11 => exact zs (Kd.qai HR2.out HB.out)); (case side12 => exact HC2.out); rintro e w28 ⟨rfl, hb⟩; replace HO204 := qab.mk (zx HO204.out hb); replace BK199 := qab.mk (zk BK199.out hb); replace HB := qab.mk (qae (by repeat (first | (with_reducible first | exact HB.out | apply qag | apply qaf | apply qah | refine qaj ?_ GE199.out) | exact HB.out)) hb); (try clear hb); (try clear hb2); (try clear hk); (try clear hi)))
      go_meet
      case rel => exact ⟨_, (!t207), (by first | rfl | (simp; done) | (simp [*]; done)), H', ⟨by have := HJ3.out; first | omega | exact Nat.le_refl _⟩, ⟨zy HO204.out⟩, ⟨zj BK199.out⟩, ⟨by repeat (first | (with_reducible first | exact HB.out | apply qag | apply qaf | apply qah | refine qaj ?_ GE199.out) | exact HB.out)⟩⟩
     ·
      replace c23 := Bool.eq_false_iff.mpr c23
      subst c23
      rw [if_neg (show ¬ (false = true) by decide)] at H
      have H' := qab.mk H
      clear H
      obtain ⟨hfz_, hcz29_0, hcz29_1, hcz29_2, hcz29_3, hcz29_4, hcz29_5⟩ := qz6 BK199.out
      go_wp2_with (first | ((with_reducible refine qbc (f := 19) rfl ?_); refine zl 32 Try.func19 #[.agg #[.int .i64 a0_0, .slice A0_1 l0_1.length c0_1, .slice A0_2 l0_2.length c0_2, .slice A0_3 l0_3.length c0_3, .slice A0_4 l0_4.length c0_4, .slice A0_5 l0_5.length c0_5], .slice A1 l1.length c1] ?_; (with_reducible refine (taliklaw07_asked.calls a0_0 _ _ l0_1 _ _ l0_2 _ _ l0_3 _ _ l0_4 _ _ l0_5 _ _ l1 false _ ?side1 ?side2 ?side3 ?side4 ?side5 ?side6 ?side7 ?side8 ?side9 ?side10 ?side11 ?side12 A22.out).mono ?_); (case side1 => exact zs (Kd.qai HR0_1.out HB.out)); (case side2 => exact HC0_1.out); (case side3 => exact zs (Kd.qai HR0_2.out HB.out)); (case side4 => exact HC0_2.out); (case side5 => exact zs (Kd.qai HR0_3.out HB.out)); (case side6 => exact HC0_3.out); (case side7 => exact zs (Kd.qai HR0_4.out HB.out)); (case side8 => exact HC0_4.out); (case side9 => exact zs (Kd.qai HR0_5.out HB.out)); (case side10 => exact HC0_5.out); (case side11 => exact zs (Kd.qai HR1.out HB.out)); (case side12 => exact HC1.out); rintro e w30 ⟨rfl, hb⟩; refine ⟨_, rfl, ?_⟩; replace HO204 := qab.mk (zx HO204.out hb); replace BK199 := qab.mk (zk BK199.out hb); replace HB := qab.mk (qae (by repeat (first | (with_reducible first | exact HB.out | apply qag | apply qaf | apply qah | refine qaj ?_ GE199.out) | exact HB.out)) hb); (try clear hb); (try clear hb2); (try clear hk); (try clear hi)))
      go_meet
      case rel => exact ⟨_, (true), (by first | rfl | (simp; done) | (simp [*]; done)), H', ⟨by have := HJ3.out; first | omega | exact Nat.le_refl _⟩, ⟨zy HO204.out⟩, ⟨zj BK199.out⟩, ⟨by repeat (first | (with_reducible first | exact HB.out | apply qag | apply qaf | apply qah | refine qaj ?_ GE199.out) | exact HB.out)⟩⟩
    case rest =>
     clear HC19
     try clear c1
     try clear c2
     try clear p2
     try clear c3
     try clear c7
     try clear c8
     try clear c8b0
     try clear c8b1
     try clear c15
     try clear c16
     try clear c17
     try clear c18
     try clear c19
     try clear c23
     try clear hcz11_0
     try clear hcz11_1
     try clear hcz11_2
     try clear hcz11_3
     try clear hcz11_4
     try clear hcz11_5
     try clear hcz13_0
     try clear hcz13_1
     try clear hcz13_2
     try clear hcz13_3
     try clear hcz13_4
     try clear hcz13_5
     try clear hcz20_0
     try clear hcz20_1
     try clear hcz20_2
     try clear hcz20_3
     try clear hcz20_4
     try clear hcz20_5
     try clear hcz25_0
     try clear hcz25_1
     try clear hcz25_2
     try clear hcz25_3
     try clear hcz25_4
     try clear hcz25_5
     try clear hcz27_0
     try clear hcz27_1
     try clear hcz27_2
     try clear hcz27_3
     try clear hcz27_4
     try clear hcz27_5
     try clear hcz29_0
     try clear hcz29_1
     try clear hcz29_2
     try clear hcz29_3
     try clear hcz29_4
     try clear hcz29_5
     try clear hcz9_0
     try clear hcz9_1
     try clear hcz9_2
     try clear hcz9_3
     try clear hcz9_4
     try clear hcz9_5
     try clear hfz11_0
     try clear hfz11_1
     try clear hfz11_2
     try clear hfz11_3
     try clear hfz11_4
     try clear hfz11_5
     try clear hfz13_0
     try clear hfz13_1
     try clear hfz13_2
     try clear hfz13_3
     try clear hfz13_4
     try clear hfz13_5
     try clear hfz20_0
     try clear hfz20_1
     try clear hfz20_2
     try clear hfz20_3
     try clear hfz20_4
     try clear hfz20_5
     try clear hfz25_0
     try clear hfz25_1
     try clear hfz25_2
     try clear hfz25_3
     try clear hfz25_4
     try clear hfz25_5
     try clear hfz27_0
     try clear hfz27_1
     try clear hfz27_2
     try clear hfz27_3
     try clear hfz27_4
     try clear hfz27_5
     try clear hfz29_0
     try clear hfz29_1
     try clear hfz29_2
     try clear hfz29_3
     try clear hfz29_4
     try clear hfz29_5
     try clear hfz9_0
     try clear hfz9_1
     try clear hfz9_2
     try clear hfz9_3
     try clear hfz9_4
     try clear hfz9_5
     try clear p2
     obtain ⟨kq, x39_18, rfl, HA, HJ18, HO_7, BK199, HB⟩ := hcut
     cases kq with
     | zero => exact absurd HA.out (by simp [taliklaw07_SeepPlays.j1])
     | succ kj18 =>
      have H := HA.out
      clear HA
      simp only [taliklaw07_SeepPlays.j1] at H
      by_cases c31 : x39_18 = true
      ·
       subst c31
       rw [if_pos rfl] at H
       by_cases c32 : t205 = 2
       ·
        rw [if_pos c32] at H
        have c32b0 : (t205 == 2) = true := beq_iff_eq.mpr c32
        have c32b1 : (t205 != 2) = false := bne_eq_false_iff_eq.mpr c32
        clear c32
        by_cases c33 : (t202.length : Int) = 0
        ·
         rw [if_pos c33] at H
         have c33b0 : ((t202.length : Int) == 0) = true := beq_iff_eq.mpr c33
         have c33b1 : ((t202.length : Int) != 0) = false := bne_eq_false_iff_eq.mpr c33
         clear c33
         replace H := Option.bind_eq_some_iff.mp H
         obtain ⟨t208, A340, H⟩ := H
         try dsimp only at H
         have A34 := qab.mk A340
         clear A340
         obtain rfl := Option.some.inj H
         obtain ⟨Ao35, co35, eo35⟩ := Kd.R_slice HO_7.out
         subst eo35
         go_wp2_with (first | (go_at_call 17; (with_reducible refine (taliklaw07_known.calls  t208 _ A34.out).mono ?_); rintro e w36 ⟨rfl, hb⟩; replace HO_7 := qab.mk (zx HO_7.out hb); replace BK199 := qab.mk (zk BK199.out hb); replace HB := qab.mk (qae (by repeat (first | (with_reducible first | exact HB.out | apply qag | apply qaf | apply qah | refine qaj ?_ GE199.out) | exact HB.out)) hb); (try clear hb); (try clear hb2); (try clear hk); (try clear hi)))
         go_ret
         exact ⟨by first | rfl | (simp [qaw, qax] <;> rfl) | (simp [*, qaw, qax] <;> rfl), by repeat (first | (with_reducible first | exact HB.out | apply qag | apply qaf | apply qah | refine qaj ?_ GE199.out) | exact HB.out)⟩
        ·
         rw [if_neg c33] at H
         have c33b0 : ((t202.length : Int) == 0) = false := beq_eq_false_iff_ne.mpr c33
         have c33b1 : ((t202.length : Int) != 0) = true := bne_iff_ne.mpr c33
         have c33b2 : ¬ (t202 = []) := fun h_ => c33 (by rw [h_]; rfl)
         obtain rfl := Option.some.inj H
         obtain ⟨Ao37, co37, eo37⟩ := Kd.R_slice HO_7.out
         subst eo37
         go_wp2
         go_ret
         exact ⟨by first | rfl | (simp [qaw, qax] <;> rfl) | (simp [*, qaw, qax] <;> rfl), by repeat (first | (with_reducible first | exact HB.out | apply qag | apply qaf | apply qah | refine qaj ?_ GE199.out) | exact HB.out)⟩
       ·
        rw [if_neg c32] at H
        have c32b0 : (t205 == 2) = false := beq_eq_false_iff_ne.mpr c32
        have c32b1 : (t205 != 2) = true := bne_iff_ne.mpr c32
        obtain rfl := Option.some.inj H
        go_wp2
        go_ret
        exact ⟨by first | rfl | (simp [qaw, qax] <;> rfl) | (simp [*, qaw, qax] <;> rfl), by repeat (first | (with_reducible first | exact HB.out | apply qag | apply qaf | apply qah | refine qaj ?_ GE199.out) | exact HB.out)⟩
      ·
       replace c31 := Bool.eq_false_iff.mpr c31
       subst c31
       rw [if_neg (show ¬ (false = true) by decide)] at H
       by_cases c38 : t205 = 0
       ·
        rw [if_pos c38] at H
        have c38b0 : (t205 == 0) = true := beq_iff_eq.mpr c38
        have c38b1 : (t205 != 0) = false := bne_eq_false_iff_eq.mpr c38
        clear c38
        replace H := Option.bind_eq_some_iff.mp H
        obtain ⟨t209, A390, H⟩ := H
        try dsimp only at H
        have A39 := qab.mk A390
        clear A390
        replace H := Option.bind_eq_some_iff.mp H
        obtain ⟨t212, A400, H⟩ := H
        try dsimp only at H
        have A40 := qab.mk A400
        clear A400
        by_cases c41 : t212 = true
        ·
         subst c41
         rw [if_pos rfl] at H
         replace H := Option.bind_eq_some_iff.mp H
         obtain ⟨t213, A420, H⟩ := H
         try dsimp only at H
         have A42 := qab.mk A420
         clear A420
         obtain rfl := Option.some.inj H
         obtain ⟨hfz_, hcz43_0, hcz43_1, hcz43_2, hcz43_3, hcz43_4, hcz43_5⟩ := qz6 BK199.out
         go_wp2_with (first | (go_at_call 22; (with_reducible refine (talikref07_Foul.calls a0_0 _ _ l0_1 _ _ l0_2 _ _ l0_3 _ _ l0_4 _ _ l0_5 _ _ l1 _ _ l2 t209 _ ?side1 ?side2 ?side3 ?side4 ?side5 ?side6 ?side7 ?side8 ?side9 ?side10 ?side11 ?side12 ?side13 ?side14 A39.out).mono ?_); (case side1 => exact zs (Kd.qai HR0_1.out HB.out)); (case side2 => exact HC0_1.out); (case side3 => exact zs (Kd.qai HR0_2.out HB.out)); (case side4 => exact HC0_2.out); (case side5 => exact zs (Kd.qai HR0_3.out HB.out)); (case side6 => exact HC0_3.out); (case side7 => exact zs (Kd.qai HR0_4.out HB.out)); (case side8 => exact HC0_4.out); (case side9 => exact zs (Kd.qai HR0_5.out HB.out)); (case side10 => exact HC0_5.out); (case side11 => exact zs (Kd.qai HR1.out HB.out)); (case side12 => exact HC1.out); (case side13 => exact zs (Kd.qai HR2.out HB.out)); (case side14 => exact HC2.out); rintro e w44 ⟨v210, rfl, ho0, hb⟩; have n0_ := qab.mk (Kd.R_elder' (by (with_reducible repeat (first | apply Kd.qba | apply Kd.qbb | apply Kd.R_drew)); exact HO_7.out) (Kd.R_base ho0) hb); have n1_ := qab.mk (Kd.R_lower (Kd.R_new' ho0 (Kd.R_lt (by (with_reducible repeat (first | apply Kd.qba | apply Kd.qbb | apply Kd.R_drew)); exact HO_7.out))) (qat (by repeat (first | (with_reducible first | exact HB.out | apply qag | apply qaf | apply qah | refine qaj ?_ GE199.out) | exact HB.out)))); have n2_ := qab.mk (zk BK199.out hb); have n3_ := qab.mk (qae (by repeat (first | (with_reducible first | exact HB.out | apply qag | apply qaf | apply qah | refine qaj ?_ GE199.out) | exact HB.out)) hb); clear HO_7; clear BK199; clear HB; have HO_7 := n0_; have HO211 := n1_; have BK199 := n2_; have HB := n3_; clear n0_ n1_ n2_ n3_; (try clear hb); (try clear hb2); (try clear hk); (try clear hi); (try clear ho0); obtain ⟨Ao45, co45, eo45⟩ := Kd.R_slice HO_7.out; subst eo45; obtain ⟨Ao46, co46, eo46⟩ := Kd.R_slice HO211.out; subst eo46) | (go_at_call 21; (with_reducible refine (talikref07_Same.calls kj18 _ _ t202 _ _ t209 true _ ?side1 ?side2 ?side3 ?side4 A40.out).mono ?_); (case side1 => repeat (first | exact (Kd.R_reads' HO_7.out).2.2 | (with_reducible refine Kd.qan ?_ _) | (with_reducible refine Kd.qao ?_ _) | (with_reducible refine Kd.qaq ?_))); (case side2 => exact (Kd.R_reads' HO_7.out).2.1); (case side3 => repeat (first | exact (Kd.R_reads' HO211.out).2.2 | (with_reducible refine Kd.qan ?_ _) | (with_reducible refine Kd.qao ?_ _) | (with_reducible refine Kd.qaq ?_))); (case side4 => exact (Kd.R_reads' HO211.out).2.1); rintro e w' ⟨rfl, ⟨nd, rfl⟩⟩) | (go_at_call 17; (with_reducible refine (taliklaw07_known.calls  t213 _ A42.out).mono ?_); rintro e w47 ⟨rfl, hb⟩; replace HO_7 := qab.mk (zx HO_7.out hb); replace HO211 := qab.mk (zx HO211.out hb); replace BK199 := qab.mk (zk BK199.out hb); replace HB := qab.mk (qae (by repeat (first | (with_reducible first | exact HB.out | apply qag | apply qaf | apply qah | refine qaj ?_ GE199.out) | exact HB.out)) hb); (try clear hb); (try clear hb2); (try clear hk); (try clear hi)))
         go_ret
         exact ⟨by first | rfl | (simp [qaw, qax] <;> rfl) | (simp [*, qaw, qax] <;> rfl), by repeat (first | (with_reducible first | exact HB.out | apply qag | apply qaf | apply qah | refine qaj ?_ GE199.out) | exact HB.out)⟩
        ·
         replace c41 := Bool.eq_false_iff.mpr c41
         subst c41
         rw [if_neg (show ¬ (false = true) by decide)] at H
         obtain rfl := Option.some.inj H
         obtain ⟨hfz_, hcz48_0, hcz48_1, hcz48_2, hcz48_3, hcz48_4, hcz48_5⟩ := qz6 BK199.out
         go_wp2_with (first | (go_at_call 22; (with_reducible refine (talikref07_Foul.calls a0_0 _ _ l0_1 _ _ l0_2 _ _ l0_3 _ _ l0_4 _ _ l0_5 _ _ l1 _ _ l2 t209 _ ?side1 ?side2 ?side3 ?side4 ?side5 ?side6 ?side7 ?side8 ?side9 ?side10 ?side11 ?side12 ?side13 ?side14 A39.out).mono ?_); (case side1 => exact zs (Kd.qai HR0_1.out HB.out)); (case side2 => exact HC0_1.out); (case side3 => exact zs (Kd.qai HR0_2.out HB.out)); (case side4 => exact HC0_2.out); (case side5 => exact zs (Kd.qai HR0_3.out HB.out)); (case side6 => exact HC0_3.out); (case side7 => exact zs (Kd.qai HR0_4.out HB.out)); (case side8 => exact HC0_4.out); (case side9 => exact zs (Kd.qai HR0_5.out HB.out)); (case side10 => exact HC0_5.out); (case side11 => exact zs (Kd.qai HR1.out HB.out)); (case side12 => exact HC1.out); (case side13 => exact zs (Kd.qai HR2.out HB.out)); (case side14 => exact HC2.out); rintro e w49 ⟨v210, rfl, ho0, hb⟩; have n0_ := qab.mk (Kd.R_elder' (by (with_reducible repeat (first | apply Kd.qba | apply Kd.qbb | apply Kd.R_drew)); exact HO_7.out) (Kd.R_base ho0) hb); have n1_ := qab.mk (Kd.R_lower (Kd.R_new' ho0 (Kd.R_lt (by (with_reducible repeat (first | apply Kd.qba | apply Kd.qbb | apply Kd.R_drew)); exact HO_7.out))) (qat (by repeat (first | (with_reducible first | exact HB.out | apply qag | apply qaf | apply qah | refine qaj ?_ GE199.out) | exact HB.out)))); have n2_ := qab.mk (zk BK199.out hb); have n3_ := qab.mk (qae (by repeat (first | (with_reducible first | exact HB.out | apply qag | apply qaf | apply qah | refine qaj ?_ GE199.out) | exact HB.out)) hb); clear HO_7; clear BK199; clear HB; have HO_7 := n0_; have HO211 := n1_; have BK199 := n2_; have HB := n3_; clear n0_ n1_ n2_ n3_; (try clear hb); (try clear hb2); (try clear hk); (try clear hi); (try clear ho0); obtain ⟨Ao50, co50, eo50⟩ := Kd.R_slice HO_7.out; subst eo50; obtain ⟨Ao51, co51, eo51⟩ := Kd.R_slice HO211.out; subst eo51) | (go_at_call 21; (with_reducible refine (talikref07_Same.calls kj18 _ _ t202 _ _ t209 false _ ?side1 ?side2 ?side3 ?side4 A40.out).mono ?_); (case side1 => repeat (first | exact (Kd.R_reads' HO_7.out).2.2 | (with_reducible refine Kd.qan ?_ _) | (with_reducible refine Kd.qao ?_ _) | (with_reducible refine Kd.qaq ?_))); (case side2 => exact (Kd.R_reads' HO_7.out).2.1); (case side3 => repeat (first | exact (Kd.R_reads' HO211.out).2.2 | (with_reducible refine Kd.qan ?_ _) | (with_reducible refine Kd.qao ?_ _) | (with_reducible refine Kd.qaq ?_))); (case side4 => exact (Kd.R_reads' HO211.out).2.1); rintro e w' ⟨rfl, ⟨nd, rfl⟩⟩))
         go_ret
         exact ⟨by first | rfl | (simp [qaw, qax] <;> rfl) | (simp [*, qaw, qax] <;> rfl), by repeat (first | (with_reducible first | exact HB.out | apply qag | apply qaf | apply qah | refine qaj ?_ GE199.out) | exact HB.out)⟩
       ·
        rw [if_neg c38] at H
        have c38b0 : (t205 == 0) = false := beq_eq_false_iff_ne.mpr c38
        have c38b1 : (t205 != 0) = true := bne_iff_ne.mpr c38
        obtain rfl := Option.some.inj H
        go_wp2
        go_ret
        exact ⟨by first | rfl | (simp [qaw, qax] <;> rfl) | (simp [*, qaw, qax] <;> rfl), by repeat (first | (with_reducible first | exact HB.out | apply qag | apply qaf | apply qah | refine qaj ?_ GE199.out) | exact HB.out)⟩
end Go.Proofs.Ytafkanmioinbiaa.SA
namespace Go.Proofs.Ytafkanmioinbiaa.SA
open Go.RowKit Go.Shelf Go.Proofs.YtafkanmioinbiaaW.PrintWords Go.Proofs.YtafkanmioinbiaaW.PrintLast Go.Proofs.YtafkanmioinbiaaW.PrintMore
attribute [local go_sem] max2_int min2_int max_two min_two qay qaz max_four min_four
theorem plays_true (q : Nat) (hq : 99 ≤ q) (p : Int) (l1 : List S44) (l2 l3 : List Int) (l4 : List S41) (l5 : List S95) (l ths : List Int) : taliklaw07_SeepPlays.f (q + 1) p l1 l2 l3 l4 l5 l ths = some true := by
 obtain ⟨q, rfl⟩ : ∃ r, q = r + 1 := ⟨q - 1, by omega⟩
 unfold taliklaw07_SeepPlays.f
 rw [short_eq]
 simp only [Option.bind_some]
 have hknown : taliklaw07_SeepPlays.j0 (q + 1 + 1) l ths true p l1 l2 l3 l4 l5 = some true := by
  rw [taliklaw07_SeepPlays.j0]
  rw [if_pos rfl, known_some]
  rfl
 cases hs : shortB l1 l2 l3 l4 l5 with
 | false => rw [if_neg (by simp)]; exact hknown
 | true =>
  rw [if_pos rfl]
  by_cases h1 : (l.length : Int) > 16
  ·
   rw [if_pos h1]; exact hknown
  ·
   rw [if_neg h1]
   cases hd : decide ((ths.length : Int) > 15) with
   | true => exact hknown
   | false =>
    have hlen : ¬ (ths.length : Int) > 15 := of_decide_eq_false hd
    have hsh := short_of hs
    have hbad : taliklaw07_SeepPlays.j1 (q + 1) l ths [] 2 true p l1 l2 l3 l4 l5 = some true := by
     rw [taliklaw07_SeepPlays.j1]
     rw [if_pos rfl, if_pos rfl, if_pos (by simp), known_some]
     rfl
    rw [taliklaw07_SeepPlays.j0]
    rw [if_neg (by decide), show seep_Play.f p l1 l2 l3 l4 l5 l ths = some (playV p l1 l2 l3 l4 l5 l ths) from rfl, asked_eq]
    simp only [Option.bind_some]
    cases hg : givenB p l1 l2 l3 l4 l5 l with
    | false =>
     rw [if_neg (by simp), show playV p l1 l2 l3 l4 l5 l ths = ([], 2) from by unfold playV; rw [hg]; rfl]
     exact hbad
    | true =>
     rw [if_pos rfl, thaws_eq p l1 l2 l3 l4 l5 ths (by omega) (q + 1) (by omega)]
     simp only [Option.bind_some]
     cases hp : playOk l4 ths with
     | false =>
      rw [show playV p l1 l2 l3 l4 l5 l ths = ([], 2) from by unfold playV; rw [hg, hp]; rfl]
      exact hbad
     | true =>
      have hv := given_valid hg
      have hN : ths.length = l4.length := by
       unfold playOk at hp
       simp only [Bool.and_eq_true, decide_eq_true_eq] at hp
       exact hp.1
      have hn4 := (valid_facts hv).n4
      have hpp := (valid_facts hv).pp
      rw [show playV p l1 l2 l3 l4 l5 l ths = (foulV p.toNat l1 l2 (maskV l) ths, 0) from by unfold playV; rw [hg, hp]; rfl]
      rw [taliklaw07_SeepPlays.j1]
      rw [if_neg (by decide), if_pos rfl, show talikref07_Foul.f p l1 l2 l3 l4 l5 l ths = some (rfV p.toNat l1 l2 l ths) from by unfold talikref07_Foul.f; rw [if_pos hv], foul_eq hg ths (by omega)]
      simp only [Option.bind_some]
      rw [same_eq _ (by rw [rfV_length]; omega) q (by rw [rfV_length]; omega)]
      simp [known_some]
def Opens {α : Type} (d : Kd α) (t : TypeId) : Prop := ∀ (H : Type) (enc : TypeId × Value → H) (w : World) (base fuel : Nat) (cs : List Value) (x : DataW H × List MemPlace), DataW.trod enc Try.prog w base (fun _ => true) true fuel t cs = some x → ∃ v, d.K w v cs
theorem opens_int : Opens (Kd.int .i64) 3 := by
 intro H enc w base fuel cs x h
 obtain ⟨n, rfl, _, _⟩ := DataW.trod_int Try.underlying3 h
 exact ⟨n, rfl⟩
theorem cell_of_cells {w : World} {base n : Nat} {a : Addr} {cs : List Value} (h : w.cells? base a n = some cs) : cs.length = n ∧ ∀ i u, cs[i]? = some u → w.cell? (a.add i) = some u := by
 unfold World.cells? at h
 split at h
 ·
  refine ⟨by simpa using mapM_some_length h, fun i u hu => ?_⟩
  have hi : i < n := by
   have h1 := mapM_some_length h
   have h2 := (List.getElem?_eq_some_iff.1 hu).1
   simp at h1
   omega
  have h3 := mapM_some_get h i i (by simp [hi])
  rw [h3]
  exact hu
 ·
  cases h
theorem opens_slice {α : Type} {d : Kd α} {t e : TypeId} (z : α) (ht : Try.prog.underlying t = some (.slice e)) (hz : Try.prog.cellsOf e = d.sz) (hd : Opens d e) : Opens (Kd.slice e d) t := by
 intro H enc w base fuel cs x h
 rcases Deep.open_slice ht h with ⟨rfl, _⟩ | ⟨a, len, cap, m, n, D, Pl, rfl, hb, hl, hm, hmm, _, hel⟩
 ·
  exact ⟨[], none, 0, rfl, Nat.le_refl _, rfl, by simp, fun h => absurd h (by simp)⟩
 ·
  simp only [if_true] at hmm
  subst hmm
  haveI : Inhabited (α × List Value) := ⟨(z, [])⟩
  obtain ⟨F, hF⟩ : ∃ F : Nat → α × List Value, ∀ i, i < len → w.cells? base (a.add (i * Try.prog.cellsOf e)) (Try.prog.cellsOf e) = some (F i).2 ∧ d.K w (F i).1 (F i).2 := by
   have hx : ∀ i, i < len → ∃ q : α × List Value, w.cells? base (a.add (i * Try.prog.cellsOf e)) (Try.prog.cellsOf e) = some q.2 ∧ d.K w q.1 q.2 := fun i hi => by
    obtain ⟨cs', h1, h2⟩ := hel i (by omega)
    obtain ⟨v, hv⟩ := hd H enc w base n cs' _ h2
    exact ⟨(v, cs'), h1, hv⟩
   exact Deep.choose_lt hx
  have hlen : ((List.range len).map fun i => (F i).1).length = len := by simp
  refine ⟨(List.range len).map fun i => (F i).1, some a, m, by rw [hlen], by rw [hlen]; exact hl, rfl, ?_, fun _ => ⟨a, rfl, fun j p hj => ?_⟩⟩
  ·
   rw [hlen]
   have : maxLen ≤ 9223372036854775807 := by decide
   omega
  ·
   obtain ⟨hj1, hj2⟩ := List.getElem?_eq_some_iff.1 hj
   have hjl : j < len := by simpa using hj1
   have hp : p = (F j).1 := by simpa using hj2.symm
   subst hp
   obtain ⟨h1, h2⟩ := hF j hjl
   refine ⟨(F j).2, d.K_len h2, h2, fun i u hu => ?_⟩
   have h3 := (cell_of_cells h1).2 i u hu
   rw [Deep.add_add, hz] at h3
   exact h3
theorem K_pair {α β : Type} {a : Kd α} {b : Kd β} {w : World} {cs : List Value} {o : Nat} {x : α} {y : β} (h1 : a.K w x ((cs.drop o).take a.sz)) (h2 : b.K w y (cs.drop (o + a.sz))) : (Kd.pair a b).K w (x, y) (cs.drop o) :=
 ⟨_, _, by have h := (List.take_append_drop a.sz (cs.drop o)).symm; rwa [List.drop_drop] at h, h1, h2⟩
theorem K_last {α : Type} {a : Kd α} {w : World} {cs : List Value} {o : Nat} {x : α} (h1 : a.K w x ((cs.drop o).take a.sz)) (hl : cs.length = o + a.sz) : a.K w x (cs.drop o) := by
 rwa [List.take_of_length_le (by simp; omega)] at h1
theorem field_of {α : Type} {d : Kd α} {t : TypeId} (hd : Opens d t) (hz : Try.prog.cellsOf t = d.sz) {H : Type} {enc : TypeId × Value → H} {w : World} {base n o : Nat} {cs : List Value} {xs : List (DataW H × List MemPlace)} {i : Nat} (hi : i < xs.length)
  (h : DataW.trod enc Try.prog w base (fun _ => true) true n t ((cs.drop o).take (Try.prog.cellsOf t)) = xs[i]?) : ∃ v, d.K w v ((cs.drop o).take d.sz) := by
 rw [hz, List.getElem?_eq_getElem hi] at h
 exact hd H enc w base n _ _ h
theorem opens_41 : Opens k41 41 := by
 intro H enc w base fuel cs x h
 obtain ⟨xs, n, rfl, rfl, hl, hxl, hf⟩ := DataW.trod_struct Try.underlying41 h
 have hl' : cs.length = 2 := hl.trans (by kernel_rfl)
 have hx : xs.length = 2 := hxl
 obtain ⟨v0, e0⟩ := field_of opens_int (by kernel_rfl) (i := 0) (by omega) (hf 0 _ rfl)
 obtain ⟨v1, e1⟩ := field_of opens_int (by kernel_rfl) (i := 1) (by omega) (hf 1 _ rfl)
 exact ⟨⟨v0, v1⟩, K_pair (o := 0) e0 (K_last (o := 0 + 1) e1 hl')⟩
theorem opens_44 : Opens k44 44 := by
 intro H enc w base fuel cs x h
 obtain ⟨xs, n, rfl, rfl, hl, hxl, hf⟩ := DataW.trod_struct Try.underlying44 h
 have hl' : cs.length = 4 := hl.trans (by kernel_rfl)
 have hx : xs.length = 4 := hxl
 obtain ⟨v0, e0⟩ := field_of opens_int (by kernel_rfl) (i := 0) (by omega) (hf 0 _ rfl)
 obtain ⟨v1, e1⟩ := field_of opens_int (by kernel_rfl) (i := 1) (by omega) (hf 1 _ rfl)
 obtain ⟨v2, e2⟩ := field_of opens_int (by kernel_rfl) (i := 2) (by omega) (hf 2 _ rfl)
 obtain ⟨v3, e3⟩ := field_of opens_int (by kernel_rfl) (i := 3) (by omega) (hf 3 _ rfl)
 exact ⟨⟨v0, v1, v2, v3⟩, K_pair (o := 0) e0 (K_pair (o := 0 + 1) e1 (K_pair (o := 0 + 1 + 1) e2 (K_last (o := 0 + 1 + 1 + 1) e3 hl')))⟩
theorem opens_95 : Opens k95 95 := by
 intro H enc w base fuel cs x h
 obtain ⟨xs, n, rfl, rfl, hl, hxl, hf⟩ := DataW.trod_struct Try.underlying95 h
 have hl' : cs.length = 6 := hl.trans (by kernel_rfl)
 have hx : xs.length = 4 := hxl
 obtain ⟨v0, e0⟩ := field_of opens_int (by kernel_rfl) (i := 0) (by omega) (hf 0 _ rfl)
 obtain ⟨v1, e1⟩ := field_of opens_int (by kernel_rfl) (i := 1) (by omega) (hf 1 _ rfl)
 obtain ⟨v2, e2⟩ := field_of opens_41 (by kernel_rfl) (i := 2) (by omega) (hf 2 _ rfl)
 obtain ⟨v3, e3⟩ := field_of opens_41 (by kernel_rfl) (i := 3) (by omega) (hf 3 _ rfl)
 exact ⟨⟨v0, v1, v2, v3⟩, K_pair (o := 0) e0 (K_pair (o := 0 + 1) e1 (K_pair (o := 0 + 1 + 1) e2 (K_last (o := 0 + 1 + 1 + 2) e3 hl')))⟩
theorem opens_22 : Opens (Kd.slice 44 k44) 22 := opens_slice z44 Try.underlying22 (by kernel_rfl) opens_44
theorem opens_24 : Opens (Kd.slice 41 k41) 24 := opens_slice z41 Try.underlying24 (by kernel_rfl) opens_41
theorem opens_25 : Opens (Kd.slice 95 k95) 25 := opens_slice z95 Try.underlying25 (by kernel_rfl) opens_95
theorem opens_23 : Opens (Kd.slice 3 (Kd.int .i64)) 23 := opens_slice 0 Try.underlying23 (by kernel_rfl) opens_int
def kMap : Kd (Int × List S44 × List Int × List Int × List S41 × List S95) := Kd.pair (Kd.int .i64) (Kd.pair (Kd.slice 44 k44) (Kd.pair (Kd.slice 3 (Kd.int .i64)) (Kd.pair (Kd.slice 3 (Kd.int .i64)) (Kd.pair (Kd.slice 41 k41) (Kd.slice 95 k95)))))
theorem opens_27 : Opens kMap 27 := by
 intro H enc w base fuel cs x h
 obtain ⟨xs, n, rfl, rfl, hl, hxl, hf⟩ := DataW.trod_struct Try.underlying27 h
 have hl' : cs.length = 6 := hl.trans (by kernel_rfl)
 have hx : xs.length = 6 := hxl
 obtain ⟨v0, e0⟩ := field_of opens_int (by kernel_rfl) (i := 0) (by omega) (hf 0 _ rfl)
 obtain ⟨v1, e1⟩ := field_of opens_22 (by kernel_rfl) (i := 1) (by omega) (hf 1 _ rfl)
 obtain ⟨v2, e2⟩ := field_of opens_23 (by kernel_rfl) (i := 2) (by omega) (hf 2 _ rfl)
 obtain ⟨v3, e3⟩ := field_of opens_23 (by kernel_rfl) (i := 3) (by omega) (hf 3 _ rfl)
 obtain ⟨v4, e4⟩ := field_of opens_24 (by kernel_rfl) (i := 4) (by omega) (hf 4 _ rfl)
 obtain ⟨v5, e5⟩ := field_of opens_25 (by kernel_rfl) (i := 5) (by omega) (hf 5 _ rfl)
 exact ⟨(v0, v1, v2, v3, v4, v5), K_pair (o := 0) e0 (K_pair (o := 0 + 1) e1 (K_pair (o := 0 + 1 + 1) e2 (K_pair (o := 0 + 1 + 1 + 1) e3 (K_pair (o := 0 + 1 + 1 + 1 + 1) e4 (K_last (o := 0 + 1 + 1 + 1 + 1 + 1) e5 hl')))))⟩
theorem open_map {H : Type} {enc : TypeId × Value → H} {w : World} {b0 : Nat} {v : Value} {d : DataW H} {p : List MemPlace} (hv : Value.okWide Try.prog w .any b0 27 v) (h : DataW.Trod enc Try.prog w 0 (fun _ => true) true 27 v d p) :
  ∃ (m : Int) (A1 : Option Addr) (c1 : Nat) (l1 : List S44) (A2 : Option Addr) (c2 : Nat) (l2 : List Int) (A3 : Option Addr) (c3 : Nat) (l3 : List Int) (A4 : Option Addr) (c4 : Nat) (l4 : List S41) (A5 : Option Addr) (c5 : Nat) (l5 : List S95), v = .agg #[.int .i64 m, .slice A1 l1.length c1, .slice A2 l2.length c2, .slice A3 l3.length c3, .slice A4 l4.length c4, .slice A5 l5.length c5] ∧
   Kd.C k44 w A1 l1.length l1 ∧ l1.length ≤ c1 ∧ Kd.C (Kd.int .i64) w A2 l2.length l2 ∧ l2.length ≤ c2 ∧ Kd.C (Kd.int .i64) w A3 l3.length l3 ∧ l3.length ≤ c3 ∧ Kd.C k41 w A4 l4.length l4 ∧ l4.length ≤ c4 ∧ Kd.C k95 w A5 l5.length l5 ∧ l5.length ≤ c5 := by
 obtain ⟨cs, rfl, hsz⟩ := WideShapes.okWide_struct Try.underlying27 hv
 obtain ⟨n, hn⟩ := h
 obtain ⟨⟨m, l1, l2, l3, l4, l5⟩, c0, r0, e0, rfl, a1, r1, rfl, ⟨A1, c1, rfl, f1, g1⟩, a2, r2, rfl, ⟨A2, c2, rfl, f2, g2⟩, a3, r3, rfl, ⟨A3, c3, rfl, f3, g3⟩, a4, r4, rfl, ⟨A4, c4, rfl, f4, g4⟩, ⟨A5, c5, rfl, f5, g5⟩⟩ := opens_27 H enc w 0 n _ _ hn
 refine ⟨m, A1, c1, l1, A2, c2, l2, A3, c3, l3, A4, c4, l4, A5, c5, l5, ?_, g1, f1, g2, f2, g3, f3, g4, f4, g5, f5⟩
 have e : cs.toList = [.int .i64 m, .slice A1 l1.length c1, .slice A2 l2.length c2, .slice A3 l3.length c3, .slice A4 l4.length c4, .slice A5 l5.length c5] := by simpa [Value.cells] using e0
 rw [show cs = #[.int .i64 m, .slice A1 l1.length c1, .slice A2 l2.length c2, .slice A3 l3.length c3, .slice A4 l4.length c4, .slice A5 l5.length c5] from Array.toList_inj.1 e]
theorem open_nums {H : Type} {enc : TypeId × Value → H} {w : World} {b0 : Nat} {v : Value} {d : DataW H} {p : List MemPlace} (hv : Value.okWide Try.prog w .any b0 23 v) (h : DataW.Trod enc Try.prog w 0 (fun _ => true) true 23 v d p) :
  ∃ (A : Option Addr) (c : Nat) (l : List Int), v = .slice A l.length c ∧ Kd.C (Kd.int .i64) w A l.length l ∧ l.length ≤ c := by
 obtain ⟨a, len, cap, rfl⟩ := WideShapes.okWide_slice Try.underlying23 hv
 obtain ⟨n, hn⟩ := h
 obtain ⟨l, A, c, e, f, g⟩ := opens_23 H enc w 0 n _ _ hn
 simp [Value.cells] at e
 obtain ⟨rfl, rfl, rfl⟩ := e
 exact ⟨_, _, l, rfl, g, f⟩
end Go.Proofs.Ytafkanmioinbiaa.SA
