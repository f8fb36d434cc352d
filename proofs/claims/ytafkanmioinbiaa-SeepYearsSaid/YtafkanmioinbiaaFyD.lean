/- What functions of the program answer. No condition. -/
import Derived.Test.YtafkanmioinbiaaSC
import Derived.Test.YtafkanmioinbiaaFyC
import Derived.Test.YtafkanmioinbiaaFyB
import Derived.Test.YtafkanmioinbiaaSF
import Derived.Test.YtafkanmioinbiaaSH
import Derived.Test.YtafkanmioinbiaaSQ
import Derived.Test.YtafkanmioinbiaaFyA
import Derived.RangeFuncNested
import Derived.RangeFuncBound
import Derived.RangeFuncCalls
import Derived.RangeFuncLeaves
import Derived.RangeFuncBox
import Derived.Shelf.Abstract
import Derived.Shelf.RegionOpen
import Derived.OwnWalkIn
import Derived.TacticsInMore
import Derived.LoopNIn
import Derived.LoopIn
import Derived.Recover
import Derived.Defers
import Derived.WalkLawsBesides
import Derived.WalkSmall
import Derived.Test.YtafkanmioinbiaaSD
import Derived.Test.YtafkanmioinbiaaSE
import Derived.Test.YtafkanmioinbiaaSG
set_option linter.all false
set_option maxRecDepth 100000
set_option maxHeartbeats 8000000
namespace Go.Proofs.Ytafkanmioinbiaa.SA
open Go.RowKit Go.Proofs.YtafkanmioinbiaaW.PrintWords Go.Proofs.YtafkanmioinbiaaW.PrintLast Go.Proofs.YtafkanmioinbiaaW.PrintMore
attribute [local go_sem] max2_int min2_int max_two min_two qay qaz max_four min_four
def talikref07_Years.l0 : Nat → List Int → List Int → List (S41) → Int → Int → List (S44) → List Int → List Int → List (S41) → List (S95) → Option ((List (S41)))
 | 0, _, _, _, _, _, _, _, _, _, _ => none
 | k + 1, x5, x6, x7, x8, x290000, x290001, x290002, x290003, x290004, x290005 => if x8 < x290000 then (if 0 ≤ x8 then (if x8 < (x5.length : Int) then (if x8 < (x6.length : Int) then (if x7.length < 8796093022208 then (talikref07_Years.l0 k x5 x6 (x7 ++ [(⟨rd x5 x8, rd x6 x8⟩ : S41)]) (wrap64 (x8 + 1)) x290000 x290001 x290002 x290003 x290004 x290005) else (none)) else (none)) else (none)) else (none)) else (some x7)
def talikref07_Years.f (k : Nat) (a0_0 : Int) (l0_1 : List (S44)) (l0_2 : List Int) (l0_3 : List Int) (l0_4 : List (S41)) (l0_5 : List (S95)) (l1 : List Int) : Option ((List (S41))) := (talikref07_End.f k a0_0 l0_1 l0_2 l0_3 l0_4 l0_5 true).bind fun t290 => ((talikref07_Foul.f a0_0 l0_1 l0_2 l0_3 l0_4 l0_5 l1 t290).bind fun t293 => ((talikref07_End.f k a0_0 l0_1 l0_2 l0_3 l0_4 l0_5 false).bind fun t296 => ((talikref07_Foul.f a0_0 l0_1 l0_2 l0_3 l0_4 l0_5 l1 t296).bind fun t299 => (talikref07_Years.l0 k t293 t299 ([] : List (S41)) 0 a0_0 l0_1 l0_2 l0_3 l0_4 l0_5))))
def talikref07_Years.T1 : Bool × List (List Nat × List Nat) := (true, [([], []), ([], []), ([], []), ([2], [2]), ([0, 1, 3, 3], [0, 1, 3]), ([], []), ([], []), ([], []), ([7, 4], [7]), ([5, 6, 8, 8], [5, 6, 8]), ([4, 9, 0, 1, 2, 3, 4], [4]), ([9, 10, 0, 1, 2, 3, 4, 5, 6, 7, 8, 9, 10], [9])])
def talikref07_Years.B1 : List Nat := [0, 0, 0, 4, 15, 0, 0, 0, 159, 511, 1023, 2047]
theorem talikref07_Years.tab1 : rtab .any (opsOf Try.f52 1) = talikref07_Years.T1 := by kernel_rfl
theorem talikref07_Years.bits1 : waitsOk talikref07_Years.T1.2 talikref07_Years.B1 = true := by kernel_rfl
def talikref07_Years.T6 : Bool × List (List Nat × List Nat) := (true, [([], []), ([], []), ([], []), ([1, 2], [1, 2]), ([3], [3]), ([], []), ([], []), ([5, 6], [5, 6]), ([7], [7]), ([4, 8], [4, 8]), ([9], [9]), ([0, 10], [0, 10]), ([11, 11, 0, 1, 2, 3, 4, 5, 6, 7, 8, 9, 10, 11], [0, 11])])
def talikref07_Years.B6 : List Nat := [0, 0, 0, 6, 14, 0, 0, 96, 224, 510, 1022, 2047, 4095]
theorem talikref07_Years.tab6 : rtab .any (opsOf Try.f52 6) = talikref07_Years.T6 := by kernel_rfl
theorem talikref07_Years.bits6 : waitsOk talikref07_Years.T6.2 talikref07_Years.B6 = true := by kernel_rfl
theorem talikref07_Years.calls (k : Nat) (a0_0 : Int) (A0_1 : Option Addr) (c0_1 : Nat) (l0_1 : List (S44)) (A0_2 : Option Addr) (c0_2 : Nat) (l0_2 : List Int) (A0_3 : Option Addr) (c0_3 : Nat) (l0_3 : List Int) (A0_4 : Option Addr) (c0_4 : Nat) (l0_4 : List (S41)) (A0_5 : Option Addr) (c0_5 : Nat) (l0_5 : List (S95)) (A1 : Option Addr) (c1 : Nat) (l1 : List Int) (r : List (S41)) (w : World) (hr0_1 : Kd.C k44 w A0_1 l0_1.length l0_1) (hc0_1 : l0_1.length ≤ c0_1) (hr0_2 : Kd.C (Kd.int .i64) w A0_2 l0_2.length l0_2) (hc0_2 : l0_2.length ≤ c0_2) (hr0_3 : Kd.C (Kd.int .i64) w A0_3 l0_3.length l0_3) (hc0_3 : l0_3.length ≤ c0_3) (hr0_4 : Kd.C k41 w A0_4 l0_4.length l0_4) (hc0_4 : l0_4.length ≤ c0_4) (hr0_5 : Kd.C k95 w A0_5 l0_5.length l0_5) (hc0_5 : l0_5.length ≤ c0_5) (hr1 : Kd.C (Kd.int .i64) w A1 l1.length l1) (hc1 : l1.length ≤ c1) (h : talikref07_Years.f k a0_0 l0_1 l0_2 l0_3 l0_4 l0_5 l1 = some r) :
  Calls Try.prog 52 #[.agg #[.int .i64 a0_0, .slice A0_1 l0_1.length c0_1, .slice A0_2 l0_2.length c0_2, .slice A0_3 l0_3.length c0_3, .slice A0_4 l0_4.length c0_4, .slice A0_5 l0_5.length c0_5], .slice A1 l1.length c1] w fun e w' => ∃ v0_ : Value, e = .returned (v0_) ∧ Kd.R k41 41 w' w.heap.size (fun _ => True) v0_ r ∧ Below w.heap.size w w' := by
 have hu27 := Try.underlying27
 have hu41 := Try.underlying41
 have HR0_1 := qab.mk hr0_1
 have HC0_1 := qab.mk hc0_1
 clear hr0_1 hc0_1
 have HR0_2 := qab.mk hr0_2
 have HC0_2 := qab.mk hc0_2
 clear hr0_2 hc0_2
 have HR0_3 := qab.mk hr0_3
 have HC0_3 := qab.mk hc0_3
 clear hr0_3 hc0_3
 have HR0_4 := qab.mk hr0_4
 have HC0_4 := qab.mk hc0_4
 clear hr0_4 hc0_4
 have HR0_5 := qab.mk hr0_5
 have HC0_5 := qab.mk hc0_5
 clear hr0_5 hc0_5
 have HR1 := qab.mk hr1
 have HC1 := qab.mk hc1
 clear hr1 hc1
 have HB := qab.mk (Below.refl w.heap.size w)
 have H : ((talikref07_End.f k a0_0 l0_1 l0_2 l0_3 l0_4 l0_5 true).bind fun t290 => ((talikref07_Foul.f a0_0 l0_1 l0_2 l0_3 l0_4 l0_5 l1 t290).bind fun t293 => ((talikref07_End.f k a0_0 l0_1 l0_2 l0_3 l0_4 l0_5 false).bind fun t296 => ((talikref07_Foul.f a0_0 l0_1 l0_2 l0_3 l0_4 l0_5 l1 t296).bind fun t299 => (talikref07_Years.l0 k t293 t299 ([] : List (S41)) 0 a0_0 l0_1 l0_2 l0_3 l0_4 l0_5))))) = some r := h
 clear h
 replace H := Option.bind_eq_some_iff.mp H
 obtain ⟨t290, A30, H⟩ := H
 try dsimp only at H
 have A3 := qab.mk A30
 clear A30
 replace H := Option.bind_eq_some_iff.mp H
 obtain ⟨t293, A40, H⟩ := H
 try dsimp only at H
 have A4 := qab.mk A40
 clear A40
 replace H := Option.bind_eq_some_iff.mp H
 obtain ⟨t296, A50, H⟩ := H
 try dsimp only at H
 have A5 := qab.mk A50
 clear A50
 replace H := Option.bind_eq_some_iff.mp H
 obtain ⟨t299, A60, H⟩ := H
 try dsimp only at H
 have A6 := qab.mk A60
 clear A60
 have H' := qab.mk H
 clear H
 go_enter Try.func52, Try.ntmps52
 try go_wp2_with (first | ((with_reducible refine qam (N := 2) rfl ?_); refine ze 2 #[.int .i64 a0_0, .slice A0_1 l0_1.length c0_1, .slice A0_2 l0_2.length c0_2, .slice A0_3 l0_3.length c0_3, .slice A0_4 l0_4.length c0_4, .slice A0_5 l0_5.length c0_5] 27 ?_; intro gb289 hg w7 hbox hb; have n0_ := qab.mk (qae (zb HB.out) hb); have n1_ := qab.mk (hbox); have n2_ := qab.mk ((by rw [hg]; exact (qat (zb HB.out)) : w.heap.size ≤ gb289)); have n3_ := qab.mk ((by rw [hg]; exact (qat (zb HB.out)) : w.heap.size ≤ gb289)); clear HB; have HB := n0_; have BK289 := n1_; have GW289 := n2_; have GE289 := n3_; clear n0_ n1_ n2_ n3_; clear hb hbox hg))
 replace BK289 := qab.mk (qau BK289.out)
 replace HB := qab.mk (qah HB.out)
 refine start_ (n := 12) (S := fun w' => w'.cell? ⟨gb289, 0, none⟩ = some (.int .i64 a0_0) ∧ w'.cell? ⟨gb289, 1, none⟩ = some (.slice A0_1 l0_1.length c0_1) ∧ w'.cell? ⟨gb289, 2, none⟩ = some (.slice A0_2 l0_2.length c0_2) ∧ w'.cell? ⟨gb289, 3, none⟩ = some (.slice A0_3 l0_3.length c0_3) ∧ w'.cell? ⟨gb289, 4, none⟩ = some (.slice A0_4 l0_4.length c0_4) ∧ w'.cell? ⟨gb289, 5, none⟩ = some (.slice A0_5 l0_5.length c0_5)) (ds := []) (msk 12 0) (by kernel_rfl) rfl rfl ⟨(qaa BK289.out 0).trans rfl, (qaa BK289.out 1).trans rfl, (qaa BK289.out 2).trans rfl, (qaa BK289.out 3).trans rfl, (qaa BK289.out 4).trans rfl, (qaa BK289.out 5).trans rfl⟩ (fun hHeld => ?_); refine with_tabW talikref07_Years.tab1 talikref07_Years.bits1 (fun HT_ HW_ => ?_)
 generalize w7.drew = w8 at BK289 HB hHeld ⊢
 refine zug #[false, true, false, false, false, false, false, false, false, false, false, false] HT_.out 1 10 ?_
 refine zug #[false, true, false, false, false, false, true, false, false, false, false, false] HT_.out 6 15 ?_
 refine zwg6 #[true, true, false, false, false, false, true, false, false, false, false, false] HT_.out HW_.out 0 9 hHeld ?_
 refine zwg6 #[true, true, true, false, false, false, true, false, false, false, false, false] HT_.out HW_.out 2 11 hHeld ?_
 refine zwg6 #[true, true, true, false, false, true, true, false, false, false, false, false] HT_.out HW_.out 5 14 hHeld ?_
 refine zwg6 #[true, true, true, false, false, true, true, true, false, false, false, false] HT_.out HW_.out 7 16 hHeld ?_
 refine one_ (i := 3) (N := some 12) #[true, true, true, true, false, true, true, true, false, false, false, false] rfl rfl (one_of HT_.out (by kernel_rfl)) (by decide) (fun K hK => ?_)
 refine zg Try.func24 #[.agg #[.int .i64 a0_0, .slice A0_1 l0_1.length c0_1, .slice A0_2 l0_2.length c0_2, .slice A0_3 l0_3.length c0_3, .slice A0_4 l0_4.length c0_4, .slice A0_5 l0_5.length c0_5], .bool true] ?_
 with_reducible refine (talikref07_End.calls k a0_0 _ _ l0_1 _ _ l0_2 _ _ l0_3 _ _ l0_4 _ _ l0_5 true t290 _ ?side1 ?side2 ?side3 ?side4 ?side5 ?side6 ?side7 ?side8 ?side9 ?side10 A3.out).mono ?_
 (case side1 => exact zs (Kd.qai HR0_1.out HB.out))
 (case side2 => exact HC0_1.out)
 (case side3 => exact zs (Kd.qai HR0_2.out HB.out))
 (case side4 => exact HC0_2.out)
 (case side5 => exact zs (Kd.qai HR0_3.out HB.out))
 (case side6 => exact HC0_3.out)
 (case side7 => exact zs (Kd.qai HR0_4.out HB.out))
 (case side8 => exact HC0_4.out)
 (case side9 => exact zs (Kd.qai HR0_5.out HB.out))
 (case side10 => exact HC0_5.out)
 rintro e w9 ⟨v291, rfl, ho0, hb⟩
 refine ⟨_, rfl, ?_⟩
 have HO292 := qab.mk (Kd.R_lower ho0 (qat (by repeat (first | (with_reducible first | exact HB.out | apply qag | apply qaf | apply qah | refine qaj ?_ GE289.out) | exact HB.out))))
 replace BK289 := qab.mk (zk BK289.out hb)
 replace HB := qab.mk (qae (by repeat (first | (with_reducible first | exact HB.out | apply qag | apply qaf | apply qah | refine qaj ?_ GE289.out) | exact HB.out)) hb)
 (try clear hb)
 (try clear hb2)
 (try clear hk)
 (try clear hi)
 (try clear ho0)
 obtain ⟨Ao10, co10, eo10⟩ := Kd.R_slice HO292.out
 (first | subst eo10 | (injection eo10 with f1_ f2_ f3_; have f4_ := f1_.symm; have f5_ := f3_.symm; clear f1_ f2_ f3_; subst f4_; subst f5_))
 refine hK.out _ _ ⟨(qaa BK289.out 0).trans rfl, (qaa BK289.out 1).trans rfl, (qaa BK289.out 2).trans rfl, (qaa BK289.out 3).trans rfl, (qaa BK289.out 4).trans rfl, (qaa BK289.out 5).trans rfl⟩ (fun hHeld => ?_)
 clear hK K
 refine zn 12 ?_
 refine one_ (i := 4) (N := some 13) (msk 12 8) rfl rfl (one_of HT_.out (by kernel_rfl)) (by decide) (fun K hK => ?_)
 refine zg Try.func22 #[.agg #[.int .i64 a0_0, .slice A0_1 l0_1.length c0_1, .slice A0_2 l0_2.length c0_2, .slice A0_3 l0_3.length c0_3, .slice A0_4 l0_4.length c0_4, .slice A0_5 l0_5.length c0_5], .slice A1 l1.length c1, .slice Ao10 t290.length co10] ?_
 with_reducible refine (talikref07_Foul.calls a0_0 _ _ l0_1 _ _ l0_2 _ _ l0_3 _ _ l0_4 _ _ l0_5 _ _ l1 _ _ t290 t293 _ ?side1 ?side2 ?side3 ?side4 ?side5 ?side6 ?side7 ?side8 ?side9 ?side10 ?side11 ?side12 ?side13 ?side14 A4.out).mono ?_
 (case side1 => exact zs (Kd.qai HR0_1.out HB.out))
 (case side2 => exact HC0_1.out)
 (case side3 => exact zs (Kd.qai HR0_2.out HB.out))
 (case side4 => exact HC0_2.out)
 (case side5 => exact zs (Kd.qai HR0_3.out HB.out))
 (case side6 => exact HC0_3.out)
 (case side7 => exact zs (Kd.qai HR0_4.out HB.out))
 (case side8 => exact HC0_4.out)
 (case side9 => exact zs (Kd.qai HR0_5.out HB.out))
 (case side10 => exact HC0_5.out)
 (case side11 => exact zs (Kd.qai HR1.out HB.out))
 (case side12 => exact HC1.out)
 (case side13 => repeat (first | exact (Kd.R_reads' HO292.out).2.2 | (with_reducible refine Kd.qan ?_ _) | (with_reducible refine Kd.qao ?_ _) | (with_reducible refine Kd.qaq ?_)))
 (case side14 => exact (Kd.R_reads' HO292.out).2.1)
 rintro e w11 ⟨v294, rfl, ho0, hb⟩
 refine ⟨_, rfl, ?_⟩
 have n0_ := qab.mk (Kd.R_elder' (by (with_reducible repeat (first | apply Kd.qba | apply Kd.qbb | apply Kd.R_drew)); exact HO292.out) (Kd.R_base ho0) hb)
 have n1_ := qab.mk (Kd.R_lower (Kd.R_new' ho0 (Kd.R_lt (by (with_reducible repeat (first | apply Kd.qba | apply Kd.qbb | apply Kd.R_drew)); exact HO292.out))) (qat (by repeat (first | (with_reducible first | exact HB.out | apply qag | apply qaf | apply qah | refine qaj ?_ GE289.out) | exact HB.out))))
 have n2_ := qab.mk (zk BK289.out hb)
 have n3_ := qab.mk (qae (by repeat (first | (with_reducible first | exact HB.out | apply qag | apply qaf | apply qah | refine qaj ?_ GE289.out) | exact HB.out)) hb)
 clear HO292
 clear BK289
 clear HB
 have HO292 := n0_
 have HO295 := n1_
 have BK289 := n2_
 have HB := n3_
 clear n0_ n1_ n2_ n3_
 (try clear hb)
 (try clear hb2)
 (try clear hk)
 (try clear hi)
 (try clear ho0)
 refine hK.out _ _ ⟨(qaa BK289.out 0).trans rfl, (qaa BK289.out 1).trans rfl, (qaa BK289.out 2).trans rfl, (qaa BK289.out 3).trans rfl, (qaa BK289.out 4).trans rfl, (qaa BK289.out 5).trans rfl⟩ (fun hHeld => ?_)
 clear hK K
 refine zn 13 ?_
 refine one_ (i := 8) (N := some 17) (msk 12 9) rfl rfl (one_of HT_.out (by kernel_rfl)) (by decide) (fun K hK => ?_)
 refine zg Try.func24 #[.agg #[.int .i64 a0_0, .slice A0_1 l0_1.length c0_1, .slice A0_2 l0_2.length c0_2, .slice A0_3 l0_3.length c0_3, .slice A0_4 l0_4.length c0_4, .slice A0_5 l0_5.length c0_5], .bool false] ?_
 with_reducible refine (talikref07_End.calls k a0_0 _ _ l0_1 _ _ l0_2 _ _ l0_3 _ _ l0_4 _ _ l0_5 false t296 _ ?side1 ?side2 ?side3 ?side4 ?side5 ?side6 ?side7 ?side8 ?side9 ?side10 A5.out).mono ?_
 (case side1 => exact zs (Kd.qai HR0_1.out HB.out))
 (case side2 => exact HC0_1.out)
 (case side3 => exact zs (Kd.qai HR0_2.out HB.out))
 (case side4 => exact HC0_2.out)
 (case side5 => exact zs (Kd.qai HR0_3.out HB.out))
 (case side6 => exact HC0_3.out)
 (case side7 => exact zs (Kd.qai HR0_4.out HB.out))
 (case side8 => exact HC0_4.out)
 (case side9 => exact zs (Kd.qai HR0_5.out HB.out))
 (case side10 => exact HC0_5.out)
 rintro e w12 ⟨v297, rfl, ho0, hb⟩
 refine ⟨_, rfl, ?_⟩
 have n0_ := qab.mk (Kd.R_elder' (by (with_reducible repeat (first | apply Kd.qba | apply Kd.qbb | apply Kd.R_drew)); exact HO292.out) (Kd.R_base ho0) hb)
 have n1_ := qab.mk (Kd.R_elder' (by (with_reducible repeat (first | apply Kd.qba | apply Kd.qbb | apply Kd.R_drew)); exact HO295.out) (Kd.R_base ho0) hb)
 have n2_ := qab.mk (Kd.R_lower (Kd.R_new' (Kd.R_new' ho0 (Kd.R_lt (by (with_reducible repeat (first | apply Kd.qba | apply Kd.qbb | apply Kd.R_drew)); exact HO292.out))) (Kd.R_lt (by (with_reducible repeat (first | apply Kd.qba | apply Kd.qbb | apply Kd.R_drew)); exact HO295.out))) (qat (by repeat (first | (with_reducible first | exact HB.out | apply qag | apply qaf | apply qah | refine qaj ?_ GE289.out) | exact HB.out))))
 have n3_ := qab.mk (zk BK289.out hb)
 have n4_ := qab.mk (qae (by repeat (first | (with_reducible first | exact HB.out | apply qag | apply qaf | apply qah | refine qaj ?_ GE289.out) | exact HB.out)) hb)
 clear HO292
 clear HO295
 clear BK289
 clear HB
 have HO292 := n0_
 have HO295 := n1_
 have HO298 := n2_
 have BK289 := n3_
 have HB := n4_
 clear n0_ n1_ n2_ n3_ n4_
 (try clear hb)
 (try clear hb2)
 (try clear hk)
 (try clear hi)
 (try clear ho0)
 obtain ⟨Ao13, co13, eo13⟩ := Kd.R_slice HO298.out
 (first | subst eo13 | (injection eo13 with f1_ f2_ f3_; have f4_ := f1_.symm; have f5_ := f3_.symm; clear f1_ f2_ f3_; subst f4_; subst f5_))
 refine hK.out _ _ ⟨(qaa BK289.out 0).trans rfl, (qaa BK289.out 1).trans rfl, (qaa BK289.out 2).trans rfl, (qaa BK289.out 3).trans rfl, (qaa BK289.out 4).trans rfl, (qaa BK289.out 5).trans rfl⟩ (fun hHeld => ?_)
 clear hK K
 refine zn 17 ?_
 refine one_ (i := 9) (N := some 18) (msk 12 10) rfl rfl (one_of HT_.out (by kernel_rfl)) (by decide) (fun K hK => ?_)
 refine zg Try.func22 #[.agg #[.int .i64 a0_0, .slice A0_1 l0_1.length c0_1, .slice A0_2 l0_2.length c0_2, .slice A0_3 l0_3.length c0_3, .slice A0_4 l0_4.length c0_4, .slice A0_5 l0_5.length c0_5], .slice A1 l1.length c1, .slice Ao13 t296.length co13] ?_
 with_reducible refine (talikref07_Foul.calls a0_0 _ _ l0_1 _ _ l0_2 _ _ l0_3 _ _ l0_4 _ _ l0_5 _ _ l1 _ _ t296 t299 _ ?side1 ?side2 ?side3 ?side4 ?side5 ?side6 ?side7 ?side8 ?side9 ?side10 ?side11 ?side12 ?side13 ?side14 A6.out).mono ?_
 (case side1 => exact zs (Kd.qai HR0_1.out HB.out))
 (case side2 => exact HC0_1.out)
 (case side3 => exact zs (Kd.qai HR0_2.out HB.out))
 (case side4 => exact HC0_2.out)
 (case side5 => exact zs (Kd.qai HR0_3.out HB.out))
 (case side6 => exact HC0_3.out)
 (case side7 => exact zs (Kd.qai HR0_4.out HB.out))
 (case side8 => exact HC0_4.out)
 (case side9 => exact zs (Kd.qai HR0_5.out HB.out))
 (case side10 => exact HC0_5.out)
 (case side11 => exact zs (Kd.qai HR1.out HB.out))
 (case side12 => exact HC1.out)
 (case side13 => repeat (first | exact (Kd.R_reads' HO298.out).2.2 | (with_reducible refine Kd.qan ?_ _) | (with_reducible refine Kd.qao ?_ _) | (with_reducible refine Kd.qaq ?_)))
 (case side14 => exact (Kd.R_reads' HO298.out).2.1)
 rintro e w14 ⟨v300, rfl, ho0, hb⟩
 refine ⟨_, rfl, ?_⟩
 have n0_ := qab.mk (Kd.R_elder' (by (with_reducible repeat (first | apply Kd.qba | apply Kd.qbb | apply Kd.R_drew)); exact HO292.out) (Kd.R_base ho0) hb)
 have n1_ := qab.mk (Kd.R_elder' (by (with_reducible repeat (first | apply Kd.qba | apply Kd.qbb | apply Kd.R_drew)); exact HO295.out) (Kd.R_base ho0) hb)
 have n2_ := qab.mk (Kd.R_elder' (by (with_reducible repeat (first | apply Kd.qba | apply Kd.qbb | apply Kd.R_drew)); exact HO298.out) (Kd.R_base ho0) hb)
 have n3_ := qab.mk (Kd.R_lower (Kd.R_new' (Kd.R_new' (Kd.R_new' ho0 (Kd.R_lt (by (with_reducible repeat (first | apply Kd.qba | apply Kd.qbb | apply Kd.R_drew)); exact HO292.out))) (Kd.R_lt (by (with_reducible repeat (first | apply Kd.qba | apply Kd.qbb | apply Kd.R_drew)); exact HO295.out))) (Kd.R_lt (by (with_reducible repeat (first | apply Kd.qba | apply Kd.qbb | apply Kd.R_drew)); exact HO298.out))) (qat (by repeat (first | (with_reducible first | exact HB.out | apply qag | apply qaf | apply qah | refine qaj ?_ GE289.out) | exact HB.out))))
 have n4_ := qab.mk (zk BK289.out hb)
 have n5_ := qab.mk (qae (by repeat (first | (with_reducible first | exact HB.out | apply qag | apply qaf | apply qah | refine qaj ?_ GE289.out) | exact HB.out)) hb)
 clear HO292
 clear HO295
 clear HO298
 clear BK289
 clear HB
 have HO292 := n0_
 have HO295 := n1_
 have HO298 := n2_
 have HO301 := n3_
 have BK289 := n4_
 have HB := n5_
 clear n0_ n1_ n2_ n3_ n4_ n5_
 (try clear hb)
 (try clear hb2)
 (try clear hk)
 (try clear hi)
 (try clear ho0)
 refine hK.out _ _ ⟨(qaa BK289.out 0).trans rfl, (qaa BK289.out 1).trans rfl, (qaa BK289.out 2).trans rfl, (qaa BK289.out 3).trans rfl, (qaa BK289.out 4).trans rfl, (qaa BK289.out 5).trans rfl⟩ (fun hHeld => ?_)
 clear hK K
 refine zn 18 ?_
 refine zu HT_.out 10 11 5 ?_
 refine zu HT_.out 11 12 6 ?_
 refine done_ (done_of HT_.out (by kernel_rfl)) ?_
 try go_wp2
 go_loopg [7, 8] k (fun kq v7 v8 w' => ∃ (x7_1 : List (S41)) (x8_1 : Int), v8 = .int .i64 x8_1 ∧ qab (talikref07_Years.l0 kq t293 t299 x7_1 x8_1 a0_0 l0_1 l0_2 l0_3 l0_4 l0_5 = some r) ∧ qab (kq ≤ k) ∧ qab (Kd.R (Kd.int .i64) 3 w' w.heap.size (fun k_ => some k_ ≠ (v300 : Value).ownBlock) v294 t293) ∧ qab (Kd.R (Kd.int .i64) 3 w' w.heap.size (fun k_ => some k_ ≠ (v294 : Value).ownBlock) v300 t299) ∧ qab (Kd.R k41 41 w' w.heap.size (fun _ => True) v7 x7_1) ∧ qab (w'.heap[gb289]? = some (.cells #[.int .i64 a0_0, (.slice A0_1 l0_1.length c0_1), (.slice A0_2 l0_2.length c0_2), (.slice A0_3 l0_3.length c0_3), (.slice A0_4 l0_4.length c0_4), (.slice A0_5 l0_5.length c0_5)] 27 (0, 0))) ∧ qab (Below w.heap.size w w'))
 case atStart => exact ⟨(([] : List (S41))), (0), (by first | rfl | (simp; done) | (simp [*]; done)), H', ⟨Nat.le_refl _⟩, ⟨by (with_reducible repeat (first | apply Kd.qba | apply Kd.qbb | apply Kd.R_drew)); exact Kd.R_mono HO295.out (fun _ hk => hk.2)⟩, ⟨by (with_reducible repeat (first | apply Kd.qba | apply Kd.qbb | apply Kd.R_drew)); exact Kd.R_mono HO301.out (fun _ hk => hk.1.2)⟩, ⟨by first | exact Kd.R_nil _ _ _ _ _ | exact Kd.N_nil _ _ _ _ _ | exact Kd.V_nil _ _ _ _ _ | exact Kd.Q_nil _ _ _ _ _ | exact Kd.S_nil _ _ _ _ _⟩, ⟨zj BK289.out⟩, ⟨by repeat (first | (with_reducible first | exact HB.out | apply qag | apply qaf | apply qah | refine qaj ?_ GE289.out) | exact HB.out)⟩⟩
 case round =>
  clear H'
  try clear c1
  try clear c2
  try clear p2
  try clear c5
  obtain ⟨x7_1, x8_1, rfl, HA, HK1, HO_5, HO_6, HO_7, BK289, HB⟩ := hrel
  cases gk with
  | zero => exact absurd HA.out (by simp [talikref07_Years.l0])
  | succ k1 =>
   have H := HA.out
   clear HA
   simp only [talikref07_Years.l0] at H
   by_cases c15 : x8_1 < a0_0
   ·
    rw [if_pos c15] at H
    have c15b0 : decide (x8_1 < a0_0) = true := decide_eq_true c15
    clear c15
    by_cases c16 : 0 ≤ x8_1
    ·
     rw [if_pos c16] at H
     have c16b0 : decide (0 ≤ x8_1) = true := decide_eq_true c16
     clear c16
     by_cases c17 : x8_1 < (t293.length : Int)
     ·
      rw [if_pos c17] at H
      have c17b0 : decide (x8_1 < (t293.length : Int)) = true := decide_eq_true c17
      clear c17
      by_cases c18 : x8_1 < (t299.length : Int)
      ·
       rw [if_pos c18] at H
       have c18b0 : decide (x8_1 < (t299.length : Int)) = true := decide_eq_true c18
       clear c18
       by_cases c19 : x7_1.length < 8796093022208
       ·
        rw [if_pos c19] at H
        have LMc19 := qab.mk c19
        clear c19
        obtain ⟨y304, hy304⟩ : ∃ y_ : List (S41), y_ = (x7_1 ++ [(⟨rd t293 x8_1, rd t299 x8_1⟩ : S41)]) := ⟨_, rfl⟩
        replace H : (talikref07_Years.l0 k1 t293 t299 y304 (wrap64 (x8_1 + 1)) a0_0 l0_1 l0_2 l0_3 l0_4 l0_5) = some r := by first | (rw [hy304]; with_reducible exact H) | (have H2_ := (Option.bind_some _ _).symm.trans H; rw [hy304]; with_reducible exact H2_) | (have H2_ := (Option.bind_some _ _).symm.trans H; with_reducible exact H2_) | with_reducible exact H | (rw [hy304]; exact H) | exact H
        have Ny304 := qab.mk hy304
        clear hy304
        have H' := qab.mk H
        clear H
        obtain ⟨hfz_, hcz20_0, hcz20_1, hcz20_2, hcz20_3, hcz20_4, hcz20_5⟩ := qz6 BK289.out
        try go_wp2
        replace HO_5 := qab.mk (Kd.R_drew HO_5.out)
        replace HO_6 := qab.mk (Kd.R_drew HO_6.out)
        replace HO_7 := qab.mk (Kd.R_drew HO_7.out)
        replace BK289 := qab.mk (qau BK289.out)
        replace HB := qab.mk (qah HB.out)
        obtain ⟨Ao22, co22, eo22⟩ := Kd.R_slice HO_5.out
        (first | subst eo22 | (injection eo22 with f1_ f2_ f3_; have f4_ := f1_.symm; have f5_ := f3_.symm; clear f1_ f2_ f3_; subst f4_; subst f5_))
        have p302 : 0 ≤ (x8_1 : Int) := of_decide_eq_true (by first | (with_reducible assumption) | assumption)
        have q302 : x8_1 < (t293.length : Int) := of_decide_eq_true (by first | (with_reducible assumption) | assumption)
        obtain ⟨ad302, e302, hx302_0⟩ := Kd.at_int (Kd.R_reads' HO_5.out).2.2 x8_1 p302 q302
        cases e302
        replace p302 := eq_true p302
        replace q302 := eq_true q302
        obtain ⟨Ao23, co23, eo23⟩ := Kd.R_slice HO_6.out
        (first | subst eo23 | (injection eo23 with f1_ f2_ f3_; have f4_ := f1_.symm; have f5_ := f3_.symm; clear f1_ f2_ f3_; subst f4_; subst f5_))
        have p303 : 0 ≤ (x8_1 : Int) := of_decide_eq_true (by first | (with_reducible assumption) | assumption)
        have q303 : x8_1 < (t299.length : Int) := of_decide_eq_true (by first | (with_reducible assumption) | assumption)
        obtain ⟨ad303, e303, hx303_0⟩ := Kd.at_int (Kd.R_reads' HO_6.out).2.2 x8_1 p303 q303
        cases e303
        replace p303 := eq_true p303
        replace q303 := eq_true q303
        refine start_ (n := 13) (S := fun w' => w'.cell? (ad302.add (x8_1).toNat) = some (.int .i64 (rd t293 x8_1)) ∧ w'.cell? (ad303.add (x8_1).toNat) = some (.int .i64 (rd t299 x8_1))) (ds := [10, 11]) (msk 13 0) (by kernel_rfl) rfl rfl ⟨hx302_0, hx303_0⟩ (fun hHeld => ?_); refine with_tabW talikref07_Years.tab6 talikref07_Years.bits6 (fun HT_ HW_ => ?_)
        generalize wr.drew = w21 at HO_5 HO_6 HO_7 BK289 HB hx302_0 hx303_0 hHeld ⊢
        refine zu HT_.out 0 1 25 ?_
        refine zu HT_.out 1 2 26 ?_
        refine zu HT_.out 2 3 27 ?_
        refine zu HT_.out 3 4 28 ?_
        refine zug #[true, true, true, true, false, true, false, false, false, false, false, false, false] HT_.out 5 30 ?_
        refine zug #[true, true, true, true, false, true, true, false, false, false, false, false, false] HT_.out 6 31 ?_
        refine zug #[true, true, true, true, false, true, true, true, false, false, false, false, false] HT_.out 7 32 ?_
        refine zwg2 (msk 13 8) HT_.out HW_.out 4 29 hHeld ?_
        refine zw2 HT_.out HW_.out 8 9 33 hHeld ?_
        refine zu HT_.out 9 10 34 ?_
        refine last_ (i := 10) (N := some 35) (msk 13 11) rfl rfl (one_of HT_.out (by kernel_rfl)) (by decide) (fun K hK => ?_)
        refine value_ (w1 := ?_) (v := ?_) (by rfl) rfl ?_ ?_
        rotate_left 2
        ·
         go_simp
         constructor
         ·
          rfl
         ·
          rfl
        refine hK.out _ _ ?_
        clear hK K
        refine zn 35 ?_
        refine last_ (i := 11) (N := some 36) (msk 13 12) rfl rfl (one_of HT_.out (by kernel_rfl)) (by decide) (fun K hK => ?_)
        refine Kd.R_append_step k41 (w0 := w) w.heap.size (by rfl) (.tmp 25) (.tmp 35) 24 41 (.agg #[(.int .i64 0), (.int .i64 0)]) 16 rfl Try.underlying24 info41 rfl (by decide) (by omega) u7 x7_1 (⟨rd t293 x8_1, rd t299 x8_1⟩ : S41) [.int .i64 (rd t293 x8_1), .int .i64 (rd t299 x8_1)] (fun _ => True) (fun _ => False) rfl rfl ?aP (fun _ hk => hk.elim) ?aF ?aO ?aB ?aS ?aL ?_
        (case aP => exact k41_mkM _ _ _ (⟨rd t293 x8_1, rd t299 x8_1⟩ : S41))
        (case aB => exact (by repeat (first | (with_reducible first | exact HB.out | apply qag | apply qaf | apply qah | refine qaj ?_ GE289.out) | exact HB.out)))
        (case aF => exact (fun _ _ => trivial))
        (case aO => exact (by (with_reducible repeat (first | apply Kd.qba | apply Kd.qbb | apply Kd.R_drew)); exact HO_7.out))
        (case aS => exact (qat (by repeat (first | (with_reducible first | exact HB.out | apply qag | apply qaf | apply qah | refine qaj ?_ GE289.out) | exact HB.out))))
        (case aL => have := LMc19.out; omega)
        intro v305 w24 ho hb hg hat
        rw [← Ny304.out] at ho
        have n0_ := qab.mk (Kd.R_over' (by (with_reducible repeat (first | apply Kd.qba | apply Kd.qbb | apply Kd.R_drew)); exact HO_5.out) (Kd.R_typed (by (with_reducible repeat (first | apply Kd.qba | apply Kd.qbb | apply Kd.R_drew)); exact HO_7.out)) (by decide) hg)
        have n1_ := qab.mk (Kd.R_over' (by (with_reducible repeat (first | apply Kd.qba | apply Kd.qbb | apply Kd.R_drew)); exact HO_6.out) (Kd.R_typed (by (with_reducible repeat (first | apply Kd.qba | apply Kd.qbb | apply Kd.R_drew)); exact HO_7.out)) (by decide) hg)
        have n2_ := qab.mk (blk_grown (g := gb289) (o := .cells #[.int .i64 a0_0, .slice A0_1 l0_1.length c0_1, .slice A0_2 l0_2.length c0_2, .slice A0_3 l0_3.length c0_3, .slice A0_4 l0_4.length c0_4, .slice A0_5 l0_5.length c0_5] 27 (0, 0)) (by (with_reducible repeat (first | refine qas ?_ _ | refine qau ?_ | refine qap ?_ _)); exact BK289.out) hg (Kd.R_ne HO_7.out BK289.out (by decide)))
        have n3_ := qab.mk (hb)
        have n4_ := qab.mk (ho)
        clear HO_5
        clear HO_6
        clear BK289
        clear HB
        clear HO_7
        have HO_5 := n0_
        have HO_6 := n1_
        have BK289 := n2_
        have HB := n3_
        have HO306 := n4_
        clear n0_ n1_ n2_ n3_ n4_
        clear ho hb hg hat
        refine hK.out _ _ ?_
        clear hK K
        refine zn 36 ?_
        refine zu HT_.out 12 13 7 ?_
        refine done_ (done_of HT_.out (by kernel_rfl)) ?_
        try go_wp2
        go_roundg k1
        case measure => have := HK1.out; omega
        case rel => exact ⟨(y304), (wrap64 (x8_1 + 1)), (by first | rfl | (simp; done) | (simp [*]; done)), H', ⟨by have := HK1.out; omega⟩, ⟨zy HO_5.out⟩, ⟨zy HO_6.out⟩, ⟨zy HO306.out⟩, ⟨zj BK289.out⟩, ⟨by repeat (first | (with_reducible first | exact HB.out | apply qag | apply qaf | apply qah | refine qaj ?_ GE289.out) | exact HB.out)⟩⟩
       ·
        rw [if_neg c19] at H
        exact absurd H (by simp)
      ·
       rw [if_neg c18] at H
       exact absurd H (by simp)
     ·
      rw [if_neg c17] at H
      exact absurd H (by simp)
    ·
     rw [if_neg c16] at H
     exact absurd H (by simp)
   ·
    rw [if_neg c15] at H
    have c15b0 : decide (x8_1 < a0_0) = false := decide_eq_false c15
    clear c15
    obtain rfl := Option.some.inj H
    obtain ⟨hfz_, hcz25_0, hcz25_1, hcz25_2, hcz25_3, hcz25_4, hcz25_5⟩ := qz6 BK289.out
    go_wp2
    go_ret
    exact ⟨_, by first | rfl | (simp [qaw, qax] <;> rfl) | (simp [*, qaw, qax] <;> rfl), by (with_reducible repeat (first | apply Kd.qba | apply Kd.qbb | apply Kd.R_drew)); exact HO_7.out, by repeat (first | (with_reducible first | exact HB.out | apply qag | apply qaf | apply qah | refine qaj ?_ GE289.out) | exact HB.out)⟩
mutual
def taliklaw07_SeepYears.j0 : Nat → List Int → Bool → Int → List (S44) → List Int → List Int → List (S41) → List (S95) → Option (Bool)
 | 0, _, _, _, _, _, _, _, _ => none
 | k + 1, x1, x16, x681000, x681001, x681002, x681003, x681004, x681005 => if x16 = true then ((taliklaw07_known.f).bind fun t682 => (some t682)) else ((seep_Check.f x681000 x681001 x681002 x681003 x681004 x681005).bind fun t683 => ((seep_Years.f x681000 x681001 x681002 x681003 x681004 x681005 x1).bind fun bt684 => ((talikref07_Map.f x681000 x681001 x681002 x681003 x681004 x681005).bind fun t688 => (if t688 = true then (if t683 = 0 then (taliklaw07_SeepYears.j1 k x1 bt684.1 bt684.2 false x681000 x681001 x681002 x681003 x681004 x681005) else (taliklaw07_SeepYears.j1 k x1 bt684.1 bt684.2 true x681000 x681001 x681002 x681003 x681004 x681005)) else (taliklaw07_SeepYears.j1 k x1 bt684.1 bt684.2 (t683 != 2) x681000 x681001 x681002 x681003 x681004 x681005)))))
def taliklaw07_SeepYears.j1 : Nat → List Int → List (S41) → Int → Bool → Int → List (S44) → List Int → List Int → List (S41) → List (S95) → Option (Bool)
 | 0, _, _, _, _, _, _, _, _, _, _ => none
 | k + 1, x1, x6, x7, x40, x681000, x681001, x681002, x681003, x681004, x681005 => if x40 = true then (some false) else ((taliklaw07_asked.f x681000 x681001 x681002 x681003 x681004 x681005 x1).bind fun t689 => (if t689 = true then (if x7 = 0 then ((talikref07_Years.f k x681000 x681001 x681002 x681003 x681004 x681005 x1).bind fun t690 => ((talikref07_SameSpans.f k x6 t690).bind fun t693 => (if t693 = true then ((taliklaw07_known.f).bind fun t694 => (some t694)) else (some false)))) else (some false)) else (if x7 = 2 then (if (x6.length : Int) = 0 then ((taliklaw07_known.f).bind fun t695 => (some t695)) else (some false)) else (some false))))
end
def taliklaw07_SeepYears.f (k : Nat) (a0_0 : Int) (l0_1 : List (S44)) (l0_2 : List Int) (l0_3 : List Int) (l0_4 : List (S41)) (l0_5 : List (S95)) (l1 : List Int) : Option (Bool) := (taliklaw07_short.f a0_0 l0_1 l0_2 l0_3 l0_4 l0_5).bind fun t681 => (if t681 = true then (taliklaw07_SeepYears.j0 k l1 (decide ((l1.length : Int) > 16)) a0_0 l0_1 l0_2 l0_3 l0_4 l0_5) else (taliklaw07_SeepYears.j0 k l1 true a0_0 l0_1 l0_2 l0_3 l0_4 l0_5))
theorem taliklaw07_SeepYears.calls (k : Nat) (a0_0 : Int) (A0_1 : Option Addr) (c0_1 : Nat) (l0_1 : List (S44)) (A0_2 : Option Addr) (c0_2 : Nat) (l0_2 : List Int) (A0_3 : Option Addr) (c0_3 : Nat) (l0_3 : List Int) (A0_4 : Option Addr) (c0_4 : Nat) (l0_4 : List (S41)) (A0_5 : Option Addr) (c0_5 : Nat) (l0_5 : List (S95)) (A1 : Option Addr) (c1 : Nat) (l1 : List Int) (r : Bool) (w : World) (hr0_1 : Kd.C k44 w A0_1 l0_1.length l0_1) (hc0_1 : l0_1.length ≤ c0_1) (hr0_2 : Kd.C (Kd.int .i64) w A0_2 l0_2.length l0_2) (hc0_2 : l0_2.length ≤ c0_2) (hr0_3 : Kd.C (Kd.int .i64) w A0_3 l0_3.length l0_3) (hc0_3 : l0_3.length ≤ c0_3) (hr0_4 : Kd.C k41 w A0_4 l0_4.length l0_4) (hc0_4 : l0_4.length ≤ c0_4) (hr0_5 : Kd.C k95 w A0_5 l0_5.length l0_5) (hc0_5 : l0_5.length ≤ c0_5) (hr1 : Kd.C (Kd.int .i64) w A1 l1.length l1) (hc1 : l1.length ≤ c1) (h : taliklaw07_SeepYears.f k a0_0 l0_1 l0_2 l0_3 l0_4 l0_5 l1 = some r) :
  Calls Try.prog 15 #[.agg #[.int .i64 a0_0, .slice A0_1 l0_1.length c0_1, .slice A0_2 l0_2.length c0_2, .slice A0_3 l0_3.length c0_3, .slice A0_4 l0_4.length c0_4, .slice A0_5 l0_5.length c0_5], .slice A1 l1.length c1] w fun e w' => e = .returned (.bool r) ∧ Below w.heap.size w w' := by
 have hu27 := Try.underlying27
 have HR0_1 := qab.mk hr0_1
 have HC0_1 := qab.mk hc0_1
 clear hr0_1 hc0_1
 have HR0_2 := qab.mk hr0_2
 have HC0_2 := qab.mk hc0_2
 clear hr0_2 hc0_2
 have HR0_3 := qab.mk hr0_3
 have HC0_3 := qab.mk hc0_3
 clear hr0_3 hc0_3
 have HR0_4 := qab.mk hr0_4
 have HC0_4 := qab.mk hc0_4
 clear hr0_4 hc0_4
 have HR0_5 := qab.mk hr0_5
 have HC0_5 := qab.mk hc0_5
 clear hr0_5 hc0_5
 have HR1 := qab.mk hr1
 have HC1 := qab.mk hc1
 clear hr1 hc1
 have HB := qab.mk (Below.refl w.heap.size w)
 have H : ((taliklaw07_short.f a0_0 l0_1 l0_2 l0_3 l0_4 l0_5).bind fun t681 => (if t681 = true then (taliklaw07_SeepYears.j0 k l1 (decide ((l1.length : Int) > 16)) a0_0 l0_1 l0_2 l0_3 l0_4 l0_5) else (taliklaw07_SeepYears.j0 k l1 true a0_0 l0_1 l0_2 l0_3 l0_4 l0_5))) = some r := h
 clear h
 have HC3 := qab.mk H
 clear H
 go_enter Try.func15, Try.ntmps15
 go_upto_region 1 with (first | ((with_reducible refine qam (N := 2) rfl ?_); (try (refine gate_guard (by rfl) ?_; dsimp only)); refine ze 2 #[.int .i64 a0_0, .slice A0_1 l0_1.length c0_1, .slice A0_2 l0_2.length c0_2, .slice A0_3 l0_3.length c0_3, .slice A0_4 l0_4.length c0_4, .slice A0_5 l0_5.length c0_5] 27 ?_; intro gb680 hg w4 hbox hb; have n0_ := qab.mk (qae (zb HB.out) hb); have n1_ := qab.mk (hbox); have n2_ := qab.mk ((by rw [hg]; exact (qat (zb HB.out)) : w.heap.size ≤ gb680)); have n3_ := qab.mk ((by rw [hg]; exact (qat (zb HB.out)) : w.heap.size ≤ gb680)); clear HB; have HB := n0_; have BK680 := n1_; have GW680 := n2_; have GE680 := n3_; clear n0_ n1_ n2_ n3_; clear hb hbox hg))
 (try simp only [Act.put, qzA, qzB, qzC])
 go_cut [16] (fun v16 wc => ∃ (kq : Nat) (x16_2 : Bool), v16 = .bool x16_2 ∧ qab (taliklaw07_SeepYears.j0 kq l1 x16_2 a0_0 l0_1 l0_2 l0_3 l0_4 l0_5 = some r) ∧ qab (kq ≤ k) ∧ qab (wc.heap[gb680]? = some (.cells #[.int .i64 a0_0, (.slice A0_1 l0_1.length c0_1), (.slice A0_2 l0_2.length c0_2), (.slice A0_3 l0_3.length c0_3), (.slice A0_4 l0_4.length c0_4), (.slice A0_5 l0_5.length c0_5)] 27 (0, 0))) ∧ qab (Below w.heap.size w wc))
 case first =>
  have H := HC3.out
  clear HC3
  replace H := Option.bind_eq_some_iff.mp H
  obtain ⟨t681, A50, H⟩ := H
  try dsimp only at H
  have A5 := qab.mk A50
  clear A50
  by_cases c6 : t681 = true
  ·
   subst c6
   rw [if_pos rfl] at H
   have H' := qab.mk H
   clear H
   obtain ⟨hfz_, hcz7_0, hcz7_1, hcz7_2, hcz7_3, hcz7_4, hcz7_5⟩ := qz6 BK680.out
   go_wp2_with (first | ((with_reducible refine qbc (f := 16) rfl ?_); refine zl 10 Try.func16 #[.agg #[.int .i64 a0_0, .slice A0_1 l0_1.length c0_1, .slice A0_2 l0_2.length c0_2, .slice A0_3 l0_3.length c0_3, .slice A0_4 l0_4.length c0_4, .slice A0_5 l0_5.length c0_5]] ?_; (with_reducible refine (taliklaw07_short.calls a0_0 _ _ l0_1 _ _ l0_2 _ _ l0_3 _ _ l0_4 _ _ l0_5 true _ ?side1 ?side2 ?side3 ?side4 ?side5 ?side6 ?side7 ?side8 ?side9 ?side10 A5.out).mono ?_); (case side1 => exact zs (Kd.qai HR0_1.out HB.out)); (case side2 => exact HC0_1.out); (case side3 => exact zs (Kd.qai HR0_2.out HB.out)); (case side4 => exact HC0_2.out); (case side5 => exact zs (Kd.qai HR0_3.out HB.out)); (case side6 => exact HC0_3.out); (case side7 => exact zs (Kd.qai HR0_4.out HB.out)); (case side8 => exact HC0_4.out); (case side9 => exact zs (Kd.qai HR0_5.out HB.out)); (case side10 => exact HC0_5.out); rintro e w8 ⟨rfl, hb⟩; refine ⟨_, rfl, ?_⟩; replace BK680 := qab.mk (zk BK680.out hb); replace HB := qab.mk (qae (by repeat (first | (with_reducible first | exact HB.out | apply qag | apply qaf | apply qah | refine qaj ?_ GE680.out) | exact HB.out)) hb); (try clear hb); (try clear hb2); (try clear hk); (try clear hi)))
   go_meet
   case rel => exact ⟨_, (decide ((l1.length : Int) > 16)), (by first | rfl | (simp; done) | (simp [*]; done)), H', ⟨by first | omega | exact Nat.le_refl _⟩, ⟨zj BK680.out⟩, ⟨by repeat (first | (with_reducible first | exact HB.out | apply qag | apply qaf | apply qah | refine qaj ?_ GE680.out) | exact HB.out)⟩⟩
  ·
   replace c6 := Bool.eq_false_iff.mpr c6
   subst c6
   rw [if_neg (show ¬ (false = true) by decide)] at H
   have H' := qab.mk H
   clear H
   obtain ⟨hfz_, hcz9_0, hcz9_1, hcz9_2, hcz9_3, hcz9_4, hcz9_5⟩ := qz6 BK680.out
   go_wp2_with (first | ((with_reducible refine qbc (f := 16) rfl ?_); refine zl 10 Try.func16 #[.agg #[.int .i64 a0_0, .slice A0_1 l0_1.length c0_1, .slice A0_2 l0_2.length c0_2, .slice A0_3 l0_3.length c0_3, .slice A0_4 l0_4.length c0_4, .slice A0_5 l0_5.length c0_5]] ?_; (with_reducible refine (taliklaw07_short.calls a0_0 _ _ l0_1 _ _ l0_2 _ _ l0_3 _ _ l0_4 _ _ l0_5 false _ ?side1 ?side2 ?side3 ?side4 ?side5 ?side6 ?side7 ?side8 ?side9 ?side10 A5.out).mono ?_); (case side1 => exact zs (Kd.qai HR0_1.out HB.out)); (case side2 => exact HC0_1.out); (case side3 => exact zs (Kd.qai HR0_2.out HB.out)); (case side4 => exact HC0_2.out); (case side5 => exact zs (Kd.qai HR0_3.out HB.out)); (case side6 => exact HC0_3.out); (case side7 => exact zs (Kd.qai HR0_4.out HB.out)); (case side8 => exact HC0_4.out); (case side9 => exact zs (Kd.qai HR0_5.out HB.out)); (case side10 => exact HC0_5.out); rintro e w10 ⟨rfl, hb⟩; refine ⟨_, rfl, ?_⟩; replace BK680 := qab.mk (zk BK680.out hb); replace HB := qab.mk (qae (by repeat (first | (with_reducible first | exact HB.out | apply qag | apply qaf | apply qah | refine qaj ?_ GE680.out) | exact HB.out)) hb); (try clear hb); (try clear hb2); (try clear hk); (try clear hi)))
   go_meet
   case rel => exact ⟨_, (true), (by first | rfl | (simp; done) | (simp [*]; done)), H', ⟨by first | omega | exact Nat.le_refl _⟩, ⟨zj BK680.out⟩, ⟨by repeat (first | (with_reducible first | exact HB.out | apply qag | apply qaf | apply qah | refine qaj ?_ GE680.out) | exact HB.out)⟩⟩
 case rest =>
  clear HC3
  try clear c1
  try clear p2
  try clear c6
  try clear hcz7_0
  try clear hcz7_1
  try clear hcz7_2
  try clear hcz7_3
  try clear hcz7_4
  try clear hcz7_5
  try clear hcz9_0
  try clear hcz9_1
  try clear hcz9_2
  try clear hcz9_3
  try clear hcz9_4
  try clear hcz9_5
  try clear hfz7_0
  try clear hfz7_1
  try clear hfz7_2
  try clear hfz7_3
  try clear hfz7_4
  try clear hfz7_5
  try clear hfz9_0
  try clear hfz9_1
  try clear hfz9_2
  try clear hfz9_3
  try clear hfz9_4
  try clear hfz9_5
  obtain ⟨kq, x16_2, rfl, HA, HJ2, BK680, HB⟩ := hcut
  cases kq with
  | zero => exact absurd HA.out (by simp [taliklaw07_SeepYears.j0])
  | succ kj2 =>
   have H := HA.out
   clear HA
   simp only [taliklaw07_SeepYears.j0] at H
   by_cases c11 : x16_2 = true
   ·
    subst c11
    rw [if_pos rfl] at H
    replace H := Option.bind_eq_some_iff.mp H
    obtain ⟨t682, A120, H⟩ := H
    try dsimp only at H
    have A12 := qab.mk A120
    clear A120
    obtain rfl := Option.some.inj H
    go_wp2_with (first | ((with_reducible refine qbc (f := 17) rfl ?_); refine zl 17 Try.func17 #[] ?_; (with_reducible refine (taliklaw07_known.calls  t682 _ A12.out).mono ?_); rintro e w13 ⟨rfl, hb⟩; refine ⟨_, rfl, ?_⟩; replace BK680 := qab.mk (zk BK680.out hb); replace HB := qab.mk (qae (by repeat (first | (with_reducible first | exact HB.out | apply qag | apply qaf | apply qah | refine qaj ?_ GE680.out) | exact HB.out)) hb); (try clear hb); (try clear hb2); (try clear hk); (try clear hi)))
    go_ret
    exact ⟨by first | rfl | (simp [qaw, qax] <;> rfl) | (simp [*, qaw, qax] <;> rfl), by repeat (first | (with_reducible first | exact HB.out | apply qag | apply qaf | apply qah | refine qaj ?_ GE680.out) | exact HB.out)⟩
   ·
    replace c11 := Bool.eq_false_iff.mpr c11
    subst c11
    rw [if_neg (show ¬ (false = true) by decide)] at H
    replace H := Option.bind_eq_some_iff.mp H
    obtain ⟨t683, A140, H⟩ := H
    try dsimp only at H
    have A14 := qab.mk A140
    clear A140
    replace H := Option.bind_eq_some_iff.mp H
    obtain ⟨⟨t684, t687⟩, A150, H⟩ := H
    try dsimp only at H
    have A15 := qab.mk A150
    clear A150
    replace H := Option.bind_eq_some_iff.mp H
    obtain ⟨t688, A160, H⟩ := H
    try dsimp only at H
    have A16 := qab.mk A160
    clear A160
    have HC17 := qab.mk H
    clear H
    obtain ⟨hfz_, hcz18_0, hcz18_1, hcz18_2, hcz18_3, hcz18_4, hcz18_5⟩ := qz6 BK680.out
    go_upto_region 6 with (first | ((with_reducible refine qbc (f := 51) rfl ?_); refine zl 19 Try.func51 #[.agg #[.int .i64 a0_0, .slice A0_1 l0_1.length c0_1, .slice A0_2 l0_2.length c0_2, .slice A0_3 l0_3.length c0_3, .slice A0_4 l0_4.length c0_4, .slice A0_5 l0_5.length c0_5]] ?_; (with_reducible refine (seep_Check.calls a0_0 _ _ l0_1 _ _ l0_2 _ _ l0_3 _ _ l0_4 _ _ l0_5 t683 _ ?side1 ?side2 ?side3 ?side4 ?side5 ?side6 ?side7 ?side8 ?side9 ?side10 A14.out).mono ?_); (case side1 => exact zs (Kd.qai HR0_1.out HB.out)); (case side2 => exact HC0_1.out); (case side3 => exact zs (Kd.qai HR0_2.out HB.out)); (case side4 => exact HC0_2.out); (case side5 => exact zs (Kd.qai HR0_3.out HB.out)); (case side6 => exact HC0_3.out); (case side7 => exact zs (Kd.qai HR0_4.out HB.out)); (case side8 => exact HC0_4.out); (case side9 => exact zs (Kd.qai HR0_5.out HB.out)); (case side10 => exact HC0_5.out); rintro e w19 ⟨rfl, hb⟩; refine ⟨_, rfl, ?_⟩; replace BK680 := qab.mk (zk BK680.out hb); replace HB := qab.mk (qae (by repeat (first | (with_reducible first | exact HB.out | apply qag | apply qaf | apply qah | refine qaj ?_ GE680.out) | exact HB.out)) hb); (try clear hb); (try clear hb2); (try clear hk); (try clear hi); obtain ⟨hfz_, hcz20_0, hcz20_1, hcz20_2, hcz20_3, hcz20_4, hcz20_5⟩ := qz6 BK680.out) | ((with_reducible refine qbc (f := 23) rfl ?_); refine zl 23 Try.func23 #[.agg #[.int .i64 a0_0, .slice A0_1 l0_1.length c0_1, .slice A0_2 l0_2.length c0_2, .slice A0_3 l0_3.length c0_3, .slice A0_4 l0_4.length c0_4, .slice A0_5 l0_5.length c0_5], .slice A1 l1.length c1] ?_; (with_reducible refine (seep_Years.calls a0_0 _ _ l0_1 _ _ l0_2 _ _ l0_3 _ _ l0_4 _ _ l0_5 _ _ l1 t684 t687 _ ?side1 ?side2 ?side3 ?side4 ?side5 ?side6 ?side7 ?side8 ?side9 ?side10 ?side11 ?side12 A15.out).mono ?_); (case side1 => exact zs (Kd.qai HR0_1.out HB.out)); (case side2 => exact HC0_1.out); (case side3 => exact zs (Kd.qai HR0_2.out HB.out)); (case side4 => exact HC0_2.out); (case side5 => exact zs (Kd.qai HR0_3.out HB.out)); (case side6 => exact HC0_3.out); (case side7 => exact zs (Kd.qai HR0_4.out HB.out)); (case side8 => exact HC0_4.out); (case side9 => exact zs (Kd.qai HR0_5.out HB.out)); (case side10 => exact HC0_5.out); (case side11 => exact zs (Kd.qai HR1.out HB.out)); (case side12 => exact HC1.out); rintro e w21 ⟨v685, rfl, ho0, hb⟩; refine ⟨_, rfl, ?_⟩; have HO686 := qab.mk (Kd.R_lower ho0 (qat (by repeat (first | (with_reducible first | exact HB.out | apply qag | apply qaf | apply qah | refine qaj ?_ GE680.out) | exact HB.out)))); replace BK680 := qab.mk (zk BK680.out hb); replace HB := qab.mk (qae (by repeat (first | (with_reducible first | exact HB.out | apply qag | apply qaf | apply qah | refine qaj ?_ GE680.out) | exact HB.out)) hb); (try clear hb); (try clear hb2); (try clear hk); (try clear hi); (try clear ho0); obtain ⟨hfz_, hcz22_0, hcz22_1, hcz22_2, hcz22_3, hcz22_4, hcz22_5⟩ := qz6 BK680.out) | ((with_reducible refine qbc (f := 27) rfl ?_); refine zl 27 Try.func27 #[.agg #[.int .i64 a0_0, .slice A0_1 l0_1.length c0_1, .slice A0_2 l0_2.length c0_2, .slice A0_3 l0_3.length c0_3, .slice A0_4 l0_4.length c0_4, .slice A0_5 l0_5.length c0_5]] ?_; (with_reducible refine (talikref07_Map.calls a0_0 _ _ l0_1 _ _ l0_2 _ _ l0_3 _ _ l0_4 _ _ l0_5 t688 _ ?side1 ?side2 ?side3 ?side4 ?side5 ?side6 ?side7 ?side8 ?side9 ?side10 A16.out).mono ?_); (case side1 => exact zs (Kd.qai HR0_1.out HB.out)); (case side2 => exact HC0_1.out); (case side3 => exact zs (Kd.qai HR0_2.out HB.out)); (case side4 => exact HC0_2.out); (case side5 => exact zs (Kd.qai HR0_3.out HB.out)); (case side6 => exact HC0_3.out); (case side7 => exact zs (Kd.qai HR0_4.out HB.out)); (case side8 => exact HC0_4.out); (case side9 => exact zs (Kd.qai HR0_5.out HB.out)); (case side10 => exact HC0_5.out); rintro e w23 ⟨rfl, hb⟩; refine ⟨_, rfl, ?_⟩; replace HO686 := qab.mk (zx HO686.out hb); replace BK680 := qab.mk (zk BK680.out hb); replace HB := qab.mk (qae (by repeat (first | (with_reducible first | exact HB.out | apply qag | apply qaf | apply qah | refine qaj ?_ GE680.out) | exact HB.out)) hb); (try clear hb); (try clear hb2); (try clear hk); (try clear hi)))
    (try simp only [Act.put, qzA, qzB, qzC])
    go_cut [40] (fun v40 wc => ∃ (kq : Nat) (x40_16 : Bool), v40 = .bool x40_16 ∧ qab (taliklaw07_SeepYears.j1 kq l1 t684 t687 x40_16 a0_0 l0_1 l0_2 l0_3 l0_4 l0_5 = some r) ∧ qab (kq ≤ kj2) ∧ qab (Kd.R k41 41 wc w.heap.size (fun _ => True) v685 t684) ∧ qab (wc.heap[gb680]? = some (.cells #[.int .i64 a0_0, (.slice A0_1 l0_1.length c0_1), (.slice A0_2 l0_2.length c0_2), (.slice A0_3 l0_3.length c0_3), (.slice A0_4 l0_4.length c0_4), (.slice A0_5 l0_5.length c0_5)] 27 (0, 0))) ∧ qab (Below w.heap.size w wc))
    case first =>
     have H := HC17.out
     clear HC17
     by_cases c24 : t688 = true
     ·
      subst c24
      rw [if_pos rfl] at H
      by_cases c25 : t683 = 0
      ·
       rw [if_pos c25] at H
       have c25b0 : (t683 == 0) = true := beq_iff_eq.mpr c25
       have c25b1 : (t683 != 0) = false := bne_eq_false_iff_eq.mpr c25
       clear c25
       (first | rw [c25b0] | (simp only [i64_w, i32_w]; rw [c25b0]) | skip)
       have H' := qab.mk H
       clear H
       go_wp2
       go_meet
       case rel => exact ⟨_, (false), (by first | rfl | (simp; done) | (simp [*]; done)), H', ⟨by have := HJ2.out; first | omega | exact Nat.le_refl _⟩, ⟨zy HO686.out⟩, ⟨zj BK680.out⟩, ⟨by repeat (first | (with_reducible first | exact HB.out | apply qag | apply qaf | apply qah | refine qaj ?_ GE680.out) | exact HB.out)⟩⟩
      ·
       rw [if_neg c25] at H
       have c25b0 : (t683 == 0) = false := beq_eq_false_iff_ne.mpr c25
       have c25b1 : (t683 != 0) = true := bne_iff_ne.mpr c25
       (first | rw [c25b0] | (simp only [i64_w, i32_w]; rw [c25b0]) | skip)
       have H' := qab.mk H
       clear H
       go_wp2
       go_meet
       case rel => exact ⟨_, (true), (by first | rfl | (simp; done) | (simp [*]; done)), H', ⟨by have := HJ2.out; first | omega | exact Nat.le_refl _⟩, ⟨zy HO686.out⟩, ⟨zj BK680.out⟩, ⟨by repeat (first | (with_reducible first | exact HB.out | apply qag | apply qaf | apply qah | refine qaj ?_ GE680.out) | exact HB.out)⟩⟩
     ·
      replace c24 := Bool.eq_false_iff.mpr c24
      subst c24
      rw [if_neg (show ¬ (false = true) by decide)] at H
      have H' := qab.mk H
      clear H
      go_wp2
      go_meet
      case rel => exact ⟨_, ((t683 != 2)), (by first | rfl | (simp; done) | (simp [*]; done)), H', ⟨by have := HJ2.out; first | omega | exact Nat.le_refl _⟩, ⟨zy HO686.out⟩, ⟨zj BK680.out⟩, ⟨by repeat (first | (with_reducible first | exact HB.out | apply qag | apply qaf | apply qah | refine qaj ?_ GE680.out) | exact HB.out)⟩⟩
    case rest =>
     clear HC17
     try clear c1
     try clear c2
     try clear p2
     try clear c5
     try clear c6
     try clear c11
     try clear c15
     try clear c16
     try clear c17
     try clear c23
     try clear c24
     try clear c25
     try clear c25b0
     try clear c25b1
     try clear hcz18_0
     try clear hcz18_1
     try clear hcz18_2
     try clear hcz18_3
     try clear hcz18_4
     try clear hcz18_5
     try clear hcz20_0
     try clear hcz20_1
     try clear hcz20_2
     try clear hcz20_3
     try clear hcz20_4
     try clear hcz20_5
     try clear hcz22_0
     try clear hcz22_1
     try clear hcz22_2
     try clear hcz22_3
     try clear hcz22_4
     try clear hcz22_5
     try clear hcz7_0
     try clear hcz7_1
     try clear hcz7_2
     try clear hcz7_3
     try clear hcz7_4
     try clear hcz7_5
     try clear hcz9_0
     try clear hcz9_1
     try clear hcz9_2
     try clear hcz9_3
     try clear hcz9_4
     try clear hcz9_5
     try clear hfz18_0
     try clear hfz18_1
     try clear hfz18_2
     try clear hfz18_3
     try clear hfz18_4
     try clear hfz18_5
     try clear hfz20_0
     try clear hfz20_1
     try clear hfz20_2
     try clear hfz20_3
     try clear hfz20_4
     try clear hfz20_5
     try clear hfz22_0
     try clear hfz22_1
     try clear hfz22_2
     try clear hfz22_3
     try clear hfz22_4
     try clear hfz22_5
     try clear hfz7_0
     try clear hfz7_1
     try clear hfz7_2
     try clear hfz7_3
     try clear hfz7_4
     try clear hfz7_5
     try clear hfz9_0
     try clear hfz9_1
     try clear hfz9_2
     try clear hfz9_3
     try clear hfz9_4
     try clear hfz9_5
     try clear p2
     obtain ⟨kq, x40_16, rfl, HA, HJ16, HO_6, BK680, HB⟩ := hcut
     cases kq with
     | zero => exact absurd HA.out (by simp [taliklaw07_SeepYears.j1])
     | succ kj16 =>
      have H := HA.out
      clear HA
      simp only [taliklaw07_SeepYears.j1] at H
      by_cases c26 : x40_16 = true
      ·
       subst c26
       rw [if_pos rfl] at H
       obtain rfl := Option.some.inj H
       go_wp2
       go_ret
       exact ⟨by first | rfl | (simp [qaw, qax] <;> rfl) | (simp [*, qaw, qax] <;> rfl), by repeat (first | (with_reducible first | exact HB.out | apply qag | apply qaf | apply qah | refine qaj ?_ GE680.out) | exact HB.out)⟩
      ·
       replace c26 := Bool.eq_false_iff.mpr c26
       subst c26
       rw [if_neg (show ¬ (false = true) by decide)] at H
       replace H := Option.bind_eq_some_iff.mp H
       obtain ⟨t689, A270, H⟩ := H
       try dsimp only at H
       have A27 := qab.mk A270
       clear A270
       by_cases c28 : t689 = true
       ·
        subst c28
        rw [if_pos rfl] at H
        by_cases c29 : t687 = 0
        ·
         rw [if_pos c29] at H
         have c29b0 : (t687 == 0) = true := beq_iff_eq.mpr c29
         have c29b1 : (t687 != 0) = false := bne_eq_false_iff_eq.mpr c29
         clear c29
         replace H := Option.bind_eq_some_iff.mp H
         obtain ⟨t690, A300, H⟩ := H
         try dsimp only at H
         have A30 := qab.mk A300
         clear A300
         replace H := Option.bind_eq_some_iff.mp H
         obtain ⟨t693, A310, H⟩ := H
         try dsimp only at H
         have A31 := qab.mk A310
         clear A310
         by_cases c32 : t693 = true
         ·
          subst c32
          rw [if_pos rfl] at H
          replace H := Option.bind_eq_some_iff.mp H
          obtain ⟨t694, A330, H⟩ := H
          try dsimp only at H
          have A33 := qab.mk A330
          clear A330
          obtain rfl := Option.some.inj H
          obtain ⟨hfz_, hcz34_0, hcz34_1, hcz34_2, hcz34_3, hcz34_4, hcz34_5⟩ := qz6 BK680.out
          go_wp2_with (first | ((with_reducible refine qbc (f := 19) rfl ?_); refine zl 43 Try.func19 #[.agg #[.int .i64 a0_0, .slice A0_1 l0_1.length c0_1, .slice A0_2 l0_2.length c0_2, .slice A0_3 l0_3.length c0_3, .slice A0_4 l0_4.length c0_4, .slice A0_5 l0_5.length c0_5], .slice A1 l1.length c1] ?_; (with_reducible refine (taliklaw07_asked.calls a0_0 _ _ l0_1 _ _ l0_2 _ _ l0_3 _ _ l0_4 _ _ l0_5 _ _ l1 true _ ?side1 ?side2 ?side3 ?side4 ?side5 ?side6 ?side7 ?side8 ?side9 ?side10 ?side11 ?side12 A27.out).mono ?_); (case side1 => exact zs (Kd.qai HR0_1.out HB.out)); (case side2 => exact HC0_1.out); (case side3 => exact zs (Kd.qai HR0_2.out HB.out)); (case side4 => exact HC0_2.out); (case side5 => exact zs (Kd.qai HR0_3.out HB.out)); (case side6 => exact HC0_3.out); (case side7 => exact zs (Kd.qai HR0_4.out HB.out)); (case side8 => exact HC0_4.out); (case side9 => exact zs (Kd.qai HR0_5.out HB.out)); (case side10 => exact HC0_5.out); (case side11 => exact zs (Kd.qai HR1.out HB.out)); (case side12 => exact HC1.out); rintro e w35 ⟨rfl, hb⟩; refine ⟨_, rfl, ?_⟩; replace HO_6 := qab.mk (zx HO_6.out hb); replace BK680 := qab.mk (zk BK680.out hb); replace HB := qab.mk (qae (by repeat (first | (with_reducible first | exact HB.out | apply qag | apply qaf | apply qah | refine qaj ?_ GE680.out) | exact HB.out)) hb); (try clear hb); (try clear hb2); (try clear hk); (try clear hi); obtain ⟨hfz_, hcz36_0, hcz36_1, hcz36_2, hcz36_3, hcz36_4, hcz36_5⟩ := qz6 BK680.out) | (go_at_call 52; (with_reducible refine (talikref07_Years.calls kj16 a0_0 _ _ l0_1 _ _ l0_2 _ _ l0_3 _ _ l0_4 _ _ l0_5 _ _ l1 t690 _ ?side1 ?side2 ?side3 ?side4 ?side5 ?side6 ?side7 ?side8 ?side9 ?side10 ?side11 ?side12 A30.out).mono ?_); (case side1 => exact zs (Kd.qai HR0_1.out HB.out)); (case side2 => exact HC0_1.out); (case side3 => exact zs (Kd.qai HR0_2.out HB.out)); (case side4 => exact HC0_2.out); (case side5 => exact zs (Kd.qai HR0_3.out HB.out)); (case side6 => exact HC0_3.out); (case side7 => exact zs (Kd.qai HR0_4.out HB.out)); (case side8 => exact HC0_4.out); (case side9 => exact zs (Kd.qai HR0_5.out HB.out)); (case side10 => exact HC0_5.out); (case side11 => exact zs (Kd.qai HR1.out HB.out)); (case side12 => exact HC1.out); rintro e w37 ⟨v691, rfl, ho0, hb⟩; have n0_ := qab.mk (Kd.R_elder' (by (with_reducible repeat (first | apply Kd.qba | apply Kd.qbb | apply Kd.R_drew)); exact HO_6.out) (Kd.R_base ho0) hb); have n1_ := qab.mk (Kd.R_lower (Kd.R_new' ho0 (Kd.R_lt (by (with_reducible repeat (first | apply Kd.qba | apply Kd.qbb | apply Kd.R_drew)); exact HO_6.out))) (qat (by repeat (first | (with_reducible first | exact HB.out | apply qag | apply qaf | apply qah | refine qaj ?_ GE680.out) | exact HB.out)))); have n2_ := qab.mk (zk BK680.out hb); have n3_ := qab.mk (qae (by repeat (first | (with_reducible first | exact HB.out | apply qag | apply qaf | apply qah | refine qaj ?_ GE680.out) | exact HB.out)) hb); clear HO_6; clear BK680; clear HB; have HO_6 := n0_; have HO692 := n1_; have BK680 := n2_; have HB := n3_; clear n0_ n1_ n2_ n3_; (try clear hb); (try clear hb2); (try clear hk); (try clear hi); (try clear ho0); obtain ⟨Ao38, co38, eo38⟩ := Kd.R_slice HO_6.out; subst eo38; obtain ⟨Ao39, co39, eo39⟩ := Kd.R_slice HO692.out; subst eo39) | (go_at_call 46; (with_reducible refine (talikref07_SameSpans.calls kj16 _ _ t684 _ _ t690 true _ ?side1 ?side2 ?side3 ?side4 A31.out).mono ?_); (case side1 => repeat (first | exact (Kd.R_reads' HO_6.out).2.2 | (with_reducible refine Kd.qan ?_ _) | (with_reducible refine Kd.qao ?_ _) | (with_reducible refine Kd.qaq ?_))); (case side2 => exact (Kd.R_reads' HO_6.out).2.1); (case side3 => repeat (first | exact (Kd.R_reads' HO692.out).2.2 | (with_reducible refine Kd.qan ?_ _) | (with_reducible refine Kd.qao ?_ _) | (with_reducible refine Kd.qaq ?_))); (case side4 => exact (Kd.R_reads' HO692.out).2.1); rintro e w' ⟨rfl, ⟨nd, rfl⟩⟩) | (go_at_call 17; (with_reducible refine (taliklaw07_known.calls  t694 _ A33.out).mono ?_); rintro e w40 ⟨rfl, hb⟩; replace HO_6 := qab.mk (zx HO_6.out hb); replace HO692 := qab.mk (zx HO692.out hb); replace BK680 := qab.mk (zk BK680.out hb); replace HB := qab.mk (qae (by repeat (first | (with_reducible first | exact HB.out | apply qag | apply qaf | apply qah | refine qaj ?_ GE680.out) | exact HB.out)) hb); (try clear hb); (try clear hb2); (try clear hk); (try clear hi)))
          go_ret
          exact ⟨by first | rfl | (simp [qaw, qax] <;> rfl) | (simp [*, qaw, qax] <;> rfl), by repeat (first | (with_reducible first | exact HB.out | apply qag | apply qaf | apply qah | refine qaj ?_ GE680.out) | exact HB.out)⟩
         ·
          replace c32 := Bool.eq_false_iff.mpr c32
          subst c32
          rw [if_neg (show ¬ (false = true) by decide)] at H
          obtain rfl := Option.some.inj H
          obtain ⟨hfz_, hcz41_0, hcz41_1, hcz41_2, hcz41_3, hcz41_4, hcz41_5⟩ := qz6 BK680.out
          go_wp2_with (first | ((with_reducible refine qbc (f := 19) rfl ?_); refine zl 43 Try.func19 #[.agg #[.int .i64 a0_0, .slice A0_1 l0_1.length c0_1, .slice A0_2 l0_2.length c0_2, .slice A0_3 l0_3.length c0_3, .slice A0_4 l0_4.length c0_4, .slice A0_5 l0_5.length c0_5], .slice A1 l1.length c1] ?_; (with_reducible refine (taliklaw07_asked.calls a0_0 _ _ l0_1 _ _ l0_2 _ _ l0_3 _ _ l0_4 _ _ l0_5 _ _ l1 true _ ?side1 ?side2 ?side3 ?side4 ?side5 ?side6 ?side7 ?side8 ?side9 ?side10 ?side11 ?side12 A27.out).mono ?_); (case side1 => exact zs (Kd.qai HR0_1.out HB.out)); (case side2 => exact HC0_1.out); (case side3 => exact zs (Kd.qai HR0_2.out HB.out)); (case side4 => exact HC0_2.out); (case side5 => exact zs (Kd.qai HR0_3.out HB.out)); (case side6 => exact HC0_3.out); (case side7 => exact zs (Kd.qai HR0_4.out HB.out)); (case side8 => exact HC0_4.out); (case side9 => exact zs (Kd.qai HR0_5.out HB.out)); (case side10 => exact HC0_5.out); (case side11 => exact zs (Kd.qai HR1.out HB.out)); (case side12 => exact HC1.out); rintro e w42 ⟨rfl, hb⟩; refine ⟨_, rfl, ?_⟩; replace HO_6 := qab.mk (zx HO_6.out hb); replace BK680 := qab.mk (zk BK680.out hb); replace HB := qab.mk (qae (by repeat (first | (with_reducible first | exact HB.out | apply qag | apply qaf | apply qah | refine qaj ?_ GE680.out) | exact HB.out)) hb); (try clear hb); (try clear hb2); (try clear hk); (try clear hi); obtain ⟨hfz_, hcz43_0, hcz43_1, hcz43_2, hcz43_3, hcz43_4, hcz43_5⟩ := qz6 BK680.out) | (go_at_call 52; (with_reducible refine (talikref07_Years.calls kj16 a0_0 _ _ l0_1 _ _ l0_2 _ _ l0_3 _ _ l0_4 _ _ l0_5 _ _ l1 t690 _ ?side1 ?side2 ?side3 ?side4 ?side5 ?side6 ?side7 ?side8 ?side9 ?side10 ?side11 ?side12 A30.out).mono ?_); (case side1 => exact zs (Kd.qai HR0_1.out HB.out)); (case side2 => exact HC0_1.out); (case side3 => exact zs (Kd.qai HR0_2.out HB.out)); (case side4 => exact HC0_2.out); (case side5 => exact zs (Kd.qai HR0_3.out HB.out)); (case side6 => exact HC0_3.out); (case side7 => exact zs (Kd.qai HR0_4.out HB.out)); (case side8 => exact HC0_4.out); (case side9 => exact zs (Kd.qai HR0_5.out HB.out)); (case side10 => exact HC0_5.out); (case side11 => exact zs (Kd.qai HR1.out HB.out)); (case side12 => exact HC1.out); rintro e w44 ⟨v691, rfl, ho0, hb⟩; have n0_ := qab.mk (Kd.R_elder' (by (with_reducible repeat (first | apply Kd.qba | apply Kd.qbb | apply Kd.R_drew)); exact HO_6.out) (Kd.R_base ho0) hb); have n1_ := qab.mk (Kd.R_lower (Kd.R_new' ho0 (Kd.R_lt (by (with_reducible repeat (first | apply Kd.qba | apply Kd.qbb | apply Kd.R_drew)); exact HO_6.out))) (qat (by repeat (first | (with_reducible first | exact HB.out | apply qag | apply qaf | apply qah | refine qaj ?_ GE680.out) | exact HB.out)))); have n2_ := qab.mk (zk BK680.out hb); have n3_ := qab.mk (qae (by repeat (first | (with_reducible first | exact HB.out | apply qag | apply qaf | apply qah | refine qaj ?_ GE680.out) | exact HB.out)) hb); clear HO_6; clear BK680; clear HB; have HO_6 := n0_; have HO692 := n1_; have BK680 := n2_; have HB := n3_; clear n0_ n1_ n2_ n3_; (try clear hb); (try clear hb2); (try clear hk); (try clear hi); (try clear ho0); obtain ⟨Ao45, co45, eo45⟩ := Kd.R_slice HO_6.out; subst eo45; obtain ⟨Ao46, co46, eo46⟩ := Kd.R_slice HO692.out; subst eo46) | (go_at_call 46; (with_reducible refine (talikref07_SameSpans.calls kj16 _ _ t684 _ _ t690 false _ ?side1 ?side2 ?side3 ?side4 A31.out).mono ?_); (case side1 => repeat (first | exact (Kd.R_reads' HO_6.out).2.2 | (with_reducible refine Kd.qan ?_ _) | (with_reducible refine Kd.qao ?_ _) | (with_reducible refine Kd.qaq ?_))); (case side2 => exact (Kd.R_reads' HO_6.out).2.1); (case side3 => repeat (first | exact (Kd.R_reads' HO692.out).2.2 | (with_reducible refine Kd.qan ?_ _) | (with_reducible refine Kd.qao ?_ _) | (with_reducible refine Kd.qaq ?_))); (case side4 => exact (Kd.R_reads' HO692.out).2.1); rintro e w' ⟨rfl, ⟨nd, rfl⟩⟩))
          go_ret
          exact ⟨by first | rfl | (simp [qaw, qax] <;> rfl) | (simp [*, qaw, qax] <;> rfl), by repeat (first | (with_reducible first | exact HB.out | apply qag | apply qaf | apply qah | refine qaj ?_ GE680.out) | exact HB.out)⟩
        ·
         rw [if_neg c29] at H
         have c29b0 : (t687 == 0) = false := beq_eq_false_iff_ne.mpr c29
         have c29b1 : (t687 != 0) = true := bne_iff_ne.mpr c29
         obtain rfl := Option.some.inj H
         obtain ⟨hfz_, hcz47_0, hcz47_1, hcz47_2, hcz47_3, hcz47_4, hcz47_5⟩ := qz6 BK680.out
         go_wp2_with (first | ((with_reducible refine qbc (f := 19) rfl ?_); refine zl 43 Try.func19 #[.agg #[.int .i64 a0_0, .slice A0_1 l0_1.length c0_1, .slice A0_2 l0_2.length c0_2, .slice A0_3 l0_3.length c0_3, .slice A0_4 l0_4.length c0_4, .slice A0_5 l0_5.length c0_5], .slice A1 l1.length c1] ?_; (with_reducible refine (taliklaw07_asked.calls a0_0 _ _ l0_1 _ _ l0_2 _ _ l0_3 _ _ l0_4 _ _ l0_5 _ _ l1 true _ ?side1 ?side2 ?side3 ?side4 ?side5 ?side6 ?side7 ?side8 ?side9 ?side10 ?side11 ?side12 A27.out).mono ?_); (case side1 => exact zs (Kd.qai HR0_1.out HB.out)); (case side2 => exact HC0_1.out); (case side3 => exact zs (Kd.qai HR0_2.out HB.out)); (case side4 => exact HC0_2.out); (case side5 => exact zs (Kd.qai HR0_3.out HB.out)); (case side6 => exact HC0_3.out); (case side7 => exact zs (Kd.qai HR0_4.out HB.out)); (case side8 => exact HC0_4.out); (case side9 => exact zs (Kd.qai HR0_5.out HB.out)); (case side10 => exact HC0_5.out); (case side11 => exact zs (Kd.qai HR1.out HB.out)); (case side12 => exact HC1.out); rintro e w48 ⟨rfl, hb⟩; refine ⟨_, rfl, ?_⟩; replace HO_6 := qab.mk (zx HO_6.out hb); replace BK680 := qab.mk (zk BK680.out hb); replace HB := qab.mk (qae (by repeat (first | (with_reducible first | exact HB.out | apply qag | apply qaf | apply qah | refine qaj ?_ GE680.out) | exact HB.out)) hb); (try clear hb); (try clear hb2); (try clear hk); (try clear hi)))
         go_ret
         exact ⟨by first | rfl | (simp [qaw, qax] <;> rfl) | (simp [*, qaw, qax] <;> rfl), by repeat (first | (with_reducible first | exact HB.out | apply qag | apply qaf | apply qah | refine qaj ?_ GE680.out) | exact HB.out)⟩
       ·
        replace c28 := Bool.eq_false_iff.mpr c28
        subst c28
        rw [if_neg (show ¬ (false = true) by decide)] at H
        by_cases c49 : t687 = 2
        ·
         rw [if_pos c49] at H
         have c49b0 : (t687 == 2) = true := beq_iff_eq.mpr c49
         have c49b1 : (t687 != 2) = false := bne_eq_false_iff_eq.mpr c49
         clear c49
         by_cases c50 : (t684.length : Int) = 0
         ·
          rw [if_pos c50] at H
          have c50b0 : ((t684.length : Int) == 0) = true := beq_iff_eq.mpr c50
          have c50b1 : ((t684.length : Int) != 0) = false := bne_eq_false_iff_eq.mpr c50
          clear c50
          replace H := Option.bind_eq_some_iff.mp H
          obtain ⟨t695, A510, H⟩ := H
          try dsimp only at H
          have A51 := qab.mk A510
          clear A510
          obtain rfl := Option.some.inj H
          obtain ⟨hfz_, hcz52_0, hcz52_1, hcz52_2, hcz52_3, hcz52_4, hcz52_5⟩ := qz6 BK680.out
          go_wp2_with (first | ((with_reducible refine qbc (f := 19) rfl ?_); refine zl 43 Try.func19 #[.agg #[.int .i64 a0_0, .slice A0_1 l0_1.length c0_1, .slice A0_2 l0_2.length c0_2, .slice A0_3 l0_3.length c0_3, .slice A0_4 l0_4.length c0_4, .slice A0_5 l0_5.length c0_5], .slice A1 l1.length c1] ?_; (with_reducible refine (taliklaw07_asked.calls a0_0 _ _ l0_1 _ _ l0_2 _ _ l0_3 _ _ l0_4 _ _ l0_5 _ _ l1 false _ ?side1 ?side2 ?side3 ?side4 ?side5 ?side6 ?side7 ?side8 ?side9 ?side10 ?side11 ?side12 A27.out).mono ?_); (case side1 => exact zs (Kd.qai HR0_1.out HB.out)); (case side2 => exact HC0_1.out); (case side3 => exact zs (Kd.qai HR0_2.out HB.out)); (case side4 => exact HC0_2.out); (case side5 => exact zs (Kd.qai HR0_3.out HB.out)); (case side6 => exact HC0_3.out); (case side7 => exact zs (Kd.qai HR0_4.out HB.out)); (case side8 => exact HC0_4.out); (case side9 => exact zs (Kd.qai HR0_5.out HB.out)); (case side10 => exact HC0_5.out); (case side11 => exact zs (Kd.qai HR1.out HB.out)); (case side12 => exact HC1.out); rintro e w53 ⟨rfl, hb⟩; refine ⟨_, rfl, ?_⟩; replace HO_6 := qab.mk (zx HO_6.out hb); replace BK680 := qab.mk (zk BK680.out hb); replace HB := qab.mk (qae (by repeat (first | (with_reducible first | exact HB.out | apply qag | apply qaf | apply qah | refine qaj ?_ GE680.out) | exact HB.out)) hb); (try clear hb); (try clear hb2); (try clear hk); (try clear hi); obtain ⟨Ao54, co54, eo54⟩ := Kd.R_slice HO_6.out; subst eo54) | (go_at_call 17; (with_reducible refine (taliklaw07_known.calls  t695 _ A51.out).mono ?_); rintro e w55 ⟨rfl, hb⟩; replace HO_6 := qab.mk (zx HO_6.out hb); replace BK680 := qab.mk (zk BK680.out hb); replace HB := qab.mk (qae (by repeat (first | (with_reducible first | exact HB.out | apply qag | apply qaf | apply qah | refine qaj ?_ GE680.out) | exact HB.out)) hb); (try clear hb); (try clear hb2); (try clear hk); (try clear hi)))
          go_ret
          exact ⟨by first | rfl | (simp [qaw, qax] <;> rfl) | (simp [*, qaw, qax] <;> rfl), by repeat (first | (with_reducible first | exact HB.out | apply qag | apply qaf | apply qah | refine qaj ?_ GE680.out) | exact HB.out)⟩
         ·
          rw [if_neg c50] at H
          have c50b0 : ((t684.length : Int) == 0) = false := beq_eq_false_iff_ne.mpr c50
          have c50b1 : ((t684.length : Int) != 0) = true := bne_iff_ne.mpr c50
          have c50b2 : ¬ (t684 = []) := fun h_ => c50 (by rw [h_]; rfl)
          obtain rfl := Option.some.inj H
          obtain ⟨hfz_, hcz56_0, hcz56_1, hcz56_2, hcz56_3, hcz56_4, hcz56_5⟩ := qz6 BK680.out
          go_wp2_with (first | ((with_reducible refine qbc (f := 19) rfl ?_); refine zl 43 Try.func19 #[.agg #[.int .i64 a0_0, .slice A0_1 l0_1.length c0_1, .slice A0_2 l0_2.length c0_2, .slice A0_3 l0_3.length c0_3, .slice A0_4 l0_4.length c0_4, .slice A0_5 l0_5.length c0_5], .slice A1 l1.length c1] ?_; (with_reducible refine (taliklaw07_asked.calls a0_0 _ _ l0_1 _ _ l0_2 _ _ l0_3 _ _ l0_4 _ _ l0_5 _ _ l1 false _ ?side1 ?side2 ?side3 ?side4 ?side5 ?side6 ?side7 ?side8 ?side9 ?side10 ?side11 ?side12 A27.out).mono ?_); (case side1 => exact zs (Kd.qai HR0_1.out HB.out)); (case side2 => exact HC0_1.out); (case side3 => exact zs (Kd.qai HR0_2.out HB.out)); (case side4 => exact HC0_2.out); (case side5 => exact zs (Kd.qai HR0_3.out HB.out)); (case side6 => exact HC0_3.out); (case side7 => exact zs (Kd.qai HR0_4.out HB.out)); (case side8 => exact HC0_4.out); (case side9 => exact zs (Kd.qai HR0_5.out HB.out)); (case side10 => exact HC0_5.out); (case side11 => exact zs (Kd.qai HR1.out HB.out)); (case side12 => exact HC1.out); rintro e w57 ⟨rfl, hb⟩; refine ⟨_, rfl, ?_⟩; replace HO_6 := qab.mk (zx HO_6.out hb); replace BK680 := qab.mk (zk BK680.out hb); replace HB := qab.mk (qae (by repeat (first | (with_reducible first | exact HB.out | apply qag | apply qaf | apply qah | refine qaj ?_ GE680.out) | exact HB.out)) hb); (try clear hb); (try clear hb2); (try clear hk); (try clear hi); obtain ⟨Ao58, co58, eo58⟩ := Kd.R_slice HO_6.out; subst eo58))
          go_ret
          exact ⟨by first | rfl | (simp [qaw, qax] <;> rfl) | (simp [*, qaw, qax] <;> rfl), by repeat (first | (with_reducible first | exact HB.out | apply qag | apply qaf | apply qah | refine qaj ?_ GE680.out) | exact HB.out)⟩
        ·
         rw [if_neg c49] at H
         have c49b0 : (t687 == 2) = false := beq_eq_false_iff_ne.mpr c49
         have c49b1 : (t687 != 2) = true := bne_iff_ne.mpr c49
         obtain rfl := Option.some.inj H
         obtain ⟨hfz_, hcz59_0, hcz59_1, hcz59_2, hcz59_3, hcz59_4, hcz59_5⟩ := qz6 BK680.out
         go_wp2_with (first | ((with_reducible refine qbc (f := 19) rfl ?_); refine zl 43 Try.func19 #[.agg #[.int .i64 a0_0, .slice A0_1 l0_1.length c0_1, .slice A0_2 l0_2.length c0_2, .slice A0_3 l0_3.length c0_3, .slice A0_4 l0_4.length c0_4, .slice A0_5 l0_5.length c0_5], .slice A1 l1.length c1] ?_; (with_reducible refine (taliklaw07_asked.calls a0_0 _ _ l0_1 _ _ l0_2 _ _ l0_3 _ _ l0_4 _ _ l0_5 _ _ l1 false _ ?side1 ?side2 ?side3 ?side4 ?side5 ?side6 ?side7 ?side8 ?side9 ?side10 ?side11 ?side12 A27.out).mono ?_); (case side1 => exact zs (Kd.qai HR0_1.out HB.out)); (case side2 => exact HC0_1.out); (case side3 => exact zs (Kd.qai HR0_2.out HB.out)); (case side4 => exact HC0_2.out); (case side5 => exact zs (Kd.qai HR0_3.out HB.out)); (case side6 => exact HC0_3.out); (case side7 => exact zs (Kd.qai HR0_4.out HB.out)); (case side8 => exact HC0_4.out); (case side9 => exact zs (Kd.qai HR0_5.out HB.out)); (case side10 => exact HC0_5.out); (case side11 => exact zs (Kd.qai HR1.out HB.out)); (case side12 => exact HC1.out); rintro e w60 ⟨rfl, hb⟩; refine ⟨_, rfl, ?_⟩; replace HO_6 := qab.mk (zx HO_6.out hb); replace BK680 := qab.mk (zk BK680.out hb); replace HB := qab.mk (qae (by repeat (first | (with_reducible first | exact HB.out | apply qag | apply qaf | apply qah | refine qaj ?_ GE680.out) | exact HB.out)) hb); (try clear hb); (try clear hb2); (try clear hk); (try clear hi)))
         go_ret
         exact ⟨by first | rfl | (simp [qaw, qax] <;> rfl) | (simp [*, qaw, qax] <;> rfl), by repeat (first | (with_reducible first | exact HB.out | apply qag | apply qaf | apply qah | refine qaj ?_ GE680.out) | exact HB.out)⟩
end Go.Proofs.Ytafkanmioinbiaa.SA
namespace Go.Proofs.Ytafkanmioinbiaa.SA
open Go.RowKit Go.Shelf Go.Proofs.YtafkanmioinbiaaW.PrintWords Go.Proofs.YtafkanmioinbiaaW.PrintLast Go.Proofs.YtafkanmioinbiaaW.PrintMore
attribute [local go_sem] max2_int min2_int max_two min_two qay qaz max_four min_four
section
variable (p : Int) (l1 : List S44) (l2 l3 : List Int) (l4 : List S41) (l5 : List S95)
theorem ref_years_go (A B : List Int) (P : Nat) (hP : P ≤ 1000) (hA : A.length = P) (hB : B.length = P) : ∀ (m i k : Nat), i + m = P → m + 1 ≤ k → talikref07_Years.l0 k A B ((List.range i).map (spanAt A B)) (i : Int) (P : Int) l1 l2 l3 l4 l5 = some ((List.range P).map (spanAt A B)) := by
 intro m
 induction m with
 | zero =>
  intro i k hi hk
  obtain ⟨k, rfl⟩ : ∃ m, k = m + 1 := ⟨k - 1, by omega⟩
  rw [talikref07_Years.l0]
  rw [if_neg (by omega)]
  obtain rfl : i = P := by omega
  rfl
 | succ m ih =>
  intro i k hi hk
  obtain ⟨k, rfl⟩ : ∃ m, k = m + 1 := ⟨k - 1, by omega⟩
  have h := ih (i + 1) k (by omega) (by omega)
  rw [List.range_succ, List.map_append] at h
  rw [talikref07_Years.l0]
  rw [if_pos (by omega), if_pos (by omega), if_pos (by omega), if_pos (by omega), if_pos (by simp; omega), wsucc i (by omega)]
  exact h
theorem ref_years_eq (l : List Int) (hg : givenB p l1 l2 l3 l4 l5 l = true) (k : Nat) (hk : 40 ≤ k) : talikref07_Years.f k p l1 l2 l3 l4 l5 l = some ((List.range p.toNat).map (spanAt (mostY p l1 l2 l4 (maskV l)) (leastY p l1 l2 l4 (maskV l)))) := by
 have hv := given_valid hg
 have hn4 := (valid_facts hv).n4
 have hpp := (valid_facts hv).pp
 have hf : ∀ ths : List Int, ths.length = l4.length → talikref07_Foul.f p l1 l2 l3 l4 l5 l ths = some (foulV p.toNat l1 l2 (maskV l) ths) := fun ths he => by
  unfold talikref07_Foul.f
  rw [if_pos hv, foul_eq hg ths (by omega)]
 unfold talikref07_Years.f
 rw [end_hi p l1 l2 l3 l4 l5 (by omega) k (by omega), end_lo p l1 l2 l3 l4 l5 (by omega) k (by omega)]
 simp only [Option.bind_some]
 rw [hf _ (by simp)]
 simp only [Option.bind_some]
 rw [hf _ (by simp)]
 simp only [Option.bind_some]
 have h := ref_years_go l1 l2 l3 l4 l5 (mostY p l1 l2 l4 (maskV l)) (leastY p l1 l2 l4 (maskV l)) p.toNat (by omega) (foulV_length _ _ _ _ _) (foulV_length _ _ _ _ _) p.toNat 0 k (by omega) (by omega)
 rw [Int.toNat_of_nonneg (by omega)] at h
 exact h
end
theorem years_true (q : Nat) (hq : 99 ≤ q) (p : Int) (l1 : List S44) (l2 l3 : List Int) (l4 : List S41) (l5 : List S95) (l : List Int) : taliklaw07_SeepYears.f (q + 1) p l1 l2 l3 l4 l5 l = some true := by
 obtain ⟨q, rfl⟩ : ∃ r, q = r + 1 := ⟨q - 1, by omega⟩
 unfold taliklaw07_SeepYears.f
 rw [short_eq]
 simp only [Option.bind_some]
 have hknown : taliklaw07_SeepYears.j0 (q + 1 + 1) l true p l1 l2 l3 l4 l5 = some true := by
  rw [taliklaw07_SeepYears.j0]
  rw [if_pos rfl, known_some]
  rfl
 cases hs : shortB l1 l2 l3 l4 l5 with
 | false => rw [if_neg (by simp)]; exact hknown
 | true =>
  rw [if_pos rfl]
  cases hd : decide ((l.length : Int) > 16) with
  | true => exact hknown
  | false =>
   rw [taliklaw07_SeepYears.j0]
   have hck : seep_Check.f p l1 l2 l3 l4 l5 = some (if validB p l1 l2 l3 l4 l5 = true then 0 else 2) := by
    unfold seep_Check.f
    rw [show seep_valid.f p l1 l2 l3 l4 l5 = some (validB p l1 l2 l3 l4 l5) from rfl, Option.bind_some]
    split <;> rfl
   have hj : taliklaw07_SeepYears.j1 (q + 1) l (yearsV p l1 l2 l3 l4 l5 l).1 (yearsV p l1 l2 l3 l4 l5 l).2 false p l1 l2 l3 l4 l5 = some true := by
    rw [taliklaw07_SeepYears.j1]
    rw [if_neg (by decide), asked_eq]
    simp only [Option.bind_some]
    cases hg : givenB p l1 l2 l3 l4 l5 l with
    | false =>
     rw [if_neg (by simp), show yearsV p l1 l2 l3 l4 l5 l = ([], 2) from by unfold yearsV; rw [hg]; rfl, if_pos rfl, if_pos (by simp), known_some]
     rfl
    | true =>
     have hpp := (valid_facts (given_valid hg)).pp
     rw [if_pos rfl, show yearsV p l1 l2 l3 l4 l5 l = ((List.range p.toNat).map (spanAt (mostY p l1 l2 l4 (maskV l)) (leastY p l1 l2 l4 (maskV l))), 0) from by unfold yearsV; rw [if_pos hg], if_pos rfl, ref_years_eq p l1 l2 l3 l4 l5 l hg q (by omega)]
     simp only [Option.bind_some]
     rw [spans_eq _ (by simp; omega) q (by simp; omega)]
     simp [known_some]
   rw [if_neg (by decide), hck, show seep_Years.f p l1 l2 l3 l4 l5 l = some (yearsV p l1 l2 l3 l4 l5 l) from rfl, show talikref07_Map.f p l1 l2 l3 l4 l5 = some (validB p l1 l2 l3 l4 l5) from rfl]
   simp only [Option.bind_some]
   cases hv : validB p l1 l2 l3 l4 l5 with
   | true =>
    rw [if_pos rfl, if_pos rfl]
    exact hj
   | false =>
    rw [if_neg (by simp), if_neg (by simp)]
    exact hj
end Go.Proofs.Ytafkanmioinbiaa.SA
