/- What functions of the program answer. No condition. -/
import Derived.Test.YtipphcjgdebecaaSC
import Derived.Test.YtipphcjgdebecaaPlD
import Derived.RangeFuncNested
import Derived.RangeFuncBound
import Derived.RangeFuncCalls
import Derived.RangeFuncLeaves
import Derived.RangeFuncBox
import Derived.Shelf.Abstract
import Derived.Shelf.RegionOpen
import Derived.OwnWalkIn
import Derived.TacticsInMore
import Derived.LoopNIn
import Derived.LoopIn
import Derived.Recover
import Derived.Defers
import Derived.WalkLawsBesides
import Derived.WalkSmall
import Derived.Test.YtipphcjgdebecaaPlC
import Derived.Test.YtipphcjgdebecaaSE
import Derived.Test.YtipphcjgdebecaaSH
import Derived.Test.YtipphcjgdebecaaPlA
import Derived.Test.YtipphcjgdebecaaSG
import Derived.Deep.Slices
import Derived.Lib.SmallJoins
import Derived.ChangeOld
import Derived.ProofKit
import Derived.Test.YtipphcjgdebecaaSF
set_option linter.all false
set_option maxRecDepth 100000
set_option maxHeartbeats 8000000
namespace Go.Proofs.Ytipphcjgdebecaa.PA
open Go.RowKit Go.Proofs.YtipphcjgdebecaaW.PrintWords Go.Proofs.YtipphcjgdebecaaW.PrintLast Go.Proofs.YtipphcjgdebecaaW.PrintMore
attribute [local go_sem] qaw qay max_two min_two qas qat qax qaz
mutual
def talikref04_Freezes.l0 : Nat → Int → Int → Int → Int → List (S39) → List (S37) → List (List Int) → Option (Int × Int)
 | 0, _, _, _, _, _, _, _ => none
 | k + 1, x1, x6, x7, x8, x221000, x221001, x221002 => if x8 ≤ (x221001.length : Int) then ((talikref04_Warm.f x221000 x221001 x221002 x1 x8).bind fun bt221 => (if x6 < 0 then (talikref04_Freezes.j1 k x1 x6 x7 x8 (bt221.1 == 0) x221000 x221001 x221002 bt221.1 bt221.2) else (talikref04_Freezes.j1 k x1 x6 x7 x8 false x221000 x221001 x221002 bt221.1 bt221.2))) else (some (x6, x7))
def talikref04_Freezes.j1 : Nat → Int → Int → Int → Int → Bool → List (S39) → List (S37) → List (List Int) → Int → Int → Option (Int × Int)
 | 0, _, _, _, _, _, _, _, _, _, _ => none
 | k + 1, x1, x6, x7, x8, x27, x221000, x221001, x221002, x224000, x224001 => if x27 = true then (if x7 < 0 then (if x224001 = 0 then (talikref04_Freezes.l0 k x1 x8 x8 (wrap64 (x8 + 1)) x221000 x221001 x221002) else (talikref04_Freezes.l0 k x1 x8 x7 (wrap64 (x8 + 1)) x221000 x221001 x221002)) else (talikref04_Freezes.l0 k x1 x8 x7 (wrap64 (x8 + 1)) x221000 x221001 x221002)) else (if x7 < 0 then (if x224001 = 0 then (talikref04_Freezes.l0 k x1 x6 x8 (wrap64 (x8 + 1)) x221000 x221001 x221002) else (talikref04_Freezes.l0 k x1 x6 x7 (wrap64 (x8 + 1)) x221000 x221001 x221002)) else (talikref04_Freezes.l0 k x1 x6 x7 (wrap64 (x8 + 1)) x221000 x221001 x221002))
end
def talikref04_Freezes.f (k : Nat) (l0_0 : List (S39)) (l0_1 : List (S37)) (l0_2 : List (List Int)) (a1 : Int) : Option (Int × Int) := talikref04_Freezes.l0 k a1 (-1) (-1) 1 l0_0 l0_1 l0_2
theorem talikref04_Freezes.calls (k : Nat) (A0_0 : Option Addr) (c0_0 : Nat) (l0_0 : List (S39)) (A0_1 : Option Addr) (c0_1 : Nat) (l0_1 : List (S37)) (A0_2 : Option Addr) (c0_2 : Nat) (l0_2 : List (List Int)) (a1 : Int) (r1 : Int) (r2 : Int) (w : World) (hr0_0 : Kd.C k39 w A0_0 l0_0.length l0_0) (hc0_0 : l0_0.length ≤ c0_0) (hr0_1 : Kd.C k37 w A0_1 l0_1.length l0_1) (hc0_1 : l0_1.length ≤ c0_1) (hr0_2 : Kd.C (Kd.slice 3 (Kd.int .i64)) w A0_2 l0_2.length l0_2) (hc0_2 : l0_2.length ≤ c0_2) (h : talikref04_Freezes.f k l0_0 l0_1 l0_2 a1 = some (r1, r2)) :
  Calls Try.prog 52 #[.agg #[.slice A0_0 l0_0.length c0_0, .slice A0_1 l0_1.length c0_1, .slice A0_2 l0_2.length c0_2], .int .i64 a1] w fun e w' => e = .returned (.tuple #[.int .i64 r1, .int .i64 r2]) ∧ Below w.heap.size w w' := by
 have hu26 := Try.underlying26
 have hu37 := Try.underlying37
 have HR0_0 := qab.mk hr0_0
 have HC0_0 := qab.mk hc0_0
 clear hr0_0 hc0_0
 have HR0_1 := qab.mk hr0_1
 have HC0_1 := qab.mk hc0_1
 clear hr0_1 hc0_1
 have HR0_2 := qab.mk hr0_2
 have HC0_2 := qab.mk hc0_2
 clear hr0_2 hc0_2
 have HB := qab.mk (Below.refl w.heap.size w)
 have H : (talikref04_Freezes.l0 k a1 (-1) (-1) 1 l0_0 l0_1 l0_2) = some (r1, r2) := h
 clear h
 have H' := qab.mk H
 clear H
 go_enter Try.func52, Try.ntmps52
 go_wp2_with (first | ((with_reducible refine qan (N := 2) rfl ?_); refine qam ?hg (N := 2) ?hd (cs := #[.slice A0_0 l0_0.length c0_0, .slice A0_1 l0_1.length c0_1, .slice A0_2 l0_2.length c0_2]) (t := 26) ?hr ?_; (case hd => rfl); (case hg => rfl); (case hr => first | (go_simp; done) | (go_simp; rfl)); intro gb220 hg w3 hbox hb; have n0_ := qab.mk (qad (by repeat (first | (with_reducible first | exact HB.out | apply qaf | apply qae | apply qah) | exact HB.out)) hb); have n1_ := qab.mk (hbox); have n2_ := qab.mk ((by rw [hg]; exact (qap (by repeat (first | (with_reducible first | exact HB.out | apply qaf | apply qae | apply qah) | exact HB.out))) : w.heap.size ≤ gb220)); have n3_ := qab.mk ((by rw [hg]; exact (qap (by repeat (first | (with_reducible first | exact HB.out | apply qaf | apply qae | apply qah) | exact HB.out))) : w.heap.size ≤ gb220)); clear HB; have HB := n0_; have BK220 := n1_; have GW220 := n2_; have GE220 := n3_; clear n0_ n1_ n2_ n3_; clear hb hbox hg))
 go_loopg [6, 7, 8] k (fun kq v6 v7 v8 w' => ∃ (x6_1 : Int) (x7_1 : Int) (x8_1 : Int), v6 = .int .i64 x6_1 ∧ v7 = .int .i64 x7_1 ∧ v8 = .int .i64 x8_1 ∧ qab (talikref04_Freezes.l0 kq a1 x6_1 x7_1 x8_1 l0_0 l0_1 l0_2 = some (r1, r2)) ∧ qab (kq ≤ k) ∧ qab (w'.heap[gb220]? = some (.cells #[(.slice A0_0 l0_0.length c0_0), (.slice A0_1 l0_1.length c0_1), (.slice A0_2 l0_2.length c0_2)] 26 (0, 0))) ∧ qab (Below w.heap.size w w'))
 case atStart => exact ⟨((-1)), ((-1)), (1), (by first | rfl | (simp; done) | (simp [*]; done)), (by first | rfl | (simp; done) | (simp [*]; done)), (by first | rfl | (simp; done) | (simp [*]; done)), H', ⟨Nat.le_refl _⟩, ⟨by (with_reducible repeat (first | refine qao ?_ _ | refine qaq ?_ | refine qak ?_ _)); exact BK220.out⟩, ⟨by repeat (first | (with_reducible first | exact HB.out | apply qaf | apply qae | apply qah | refine qai ?_ GE220.out) | exact HB.out)⟩⟩
 case round =>
  clear H'
  try clear p2
  obtain ⟨x6_1, x7_1, x8_1, rfl, rfl, rfl, HA, HK1, BK220, HB⟩ := hrel
  cases gk with
  | zero => exact absurd HA.out (by simp [talikref04_Freezes.l0])
  | succ k1 =>
   have H := HA.out
   clear HA
   simp only [talikref04_Freezes.l0] at H
   by_cases c4 : x8_1 ≤ (l0_1.length : Int)
   ·
    rw [if_pos c4] at H
    have c4b0 : decide (x8_1 ≤ (l0_1.length : Int)) = true := decide_eq_true c4
    clear c4
    replace H := Option.bind_eq_some_iff.mp H
    obtain ⟨⟨t221, t222⟩, A50, H⟩ := H
    replace H : (if x6_1 < 0 then (talikref04_Freezes.j1 k1 a1 x6_1 x7_1 x8_1 (t221 == 0) l0_0 l0_1 l0_2 t221 t222) else (talikref04_Freezes.j1 k1 a1 x6_1 x7_1 x8_1 false l0_0 l0_1 l0_2 t221 t222)) = some (r1, r2) := H
    have A5 := qab.mk A50
    clear A50
    have HC6 := qab.mk H
    clear H
    have hcz7_0 : wr.cell? ⟨gb220, 0, none⟩ = some (.slice A0_0 l0_0.length c0_0) := (qaa BK220.out 0).trans rfl
    have hcz7_1 : wr.cell? ⟨gb220, 1, none⟩ = some (.slice A0_1 l0_1.length c0_1) := (qaa BK220.out 1).trans rfl
    have hcz7_2 : wr.cell? ⟨gb220, 2, none⟩ = some (.slice A0_2 l0_2.length c0_2) := (qaa BK220.out 2).trans rfl
    have hfz7_0 := qac BK220.out 0
    have hfz7_1 := qac BK220.out 1
    have hfz7_2 := qac BK220.out 2
    go_upto_region 6 with (first | ((with_reducible refine gate_callee (f := 80) rfl ?_); refine goesL_ (some 20) rfl rfl Try.func80 (by kernel_rfl) rfl #[.agg #[.slice A0_0 l0_0.length c0_0, .slice A0_1 l0_1.length c0_1, .slice A0_2 l0_2.length c0_2], .int .i64 a1, .int .i64 x8_1] rfl (by (try simp only [List.map_toArray, List.map_cons, List.map_nil]); first | done | rfl | (simp only [List.length_drop, List.length_take]; rfl)) ?_; (with_reducible refine (talikref04_Warm.calls _ _ l0_0 _ _ l0_1 _ _ l0_2 a1 x8_1 t221 t222 _ ?side1 ?side2 ?side3 ?side4 ?side5 ?side6 A5.out).mono ?_); (case side1 => repeat (first | exact (Kd.qaj HR0_0.out HB.out) | (with_reducible refine Kd.C_alloc ?_ _) | (with_reducible refine Kd.C_drewN ?_ _) | (with_reducible refine Kd.C_drew ?_))); (case side2 => exact HC0_0.out); (case side3 => repeat (first | exact (Kd.qaj HR0_1.out HB.out) | (with_reducible refine Kd.C_alloc ?_ _) | (with_reducible refine Kd.C_drewN ?_ _) | (with_reducible refine Kd.C_drew ?_))); (case side4 => exact HC0_1.out); (case side5 => repeat (first | exact (Kd.qaj HR0_2.out HB.out) | (with_reducible refine Kd.C_alloc ?_ _) | (with_reducible refine Kd.C_drewN ?_ _) | (with_reducible refine Kd.C_drew ?_))); (case side6 => exact HC0_2.out); rintro e w8 ⟨rfl, hb⟩; refine ⟨_, rfl, ?_⟩; have n0_ := qab.mk (qag (g := gb220) (o := .cells #[.slice A0_0 l0_0.length c0_0, .slice A0_1 l0_1.length c0_1, .slice A0_2 l0_2.length c0_2] 26 (0, 0)) (by (with_reducible repeat (first | refine qao ?_ _ | refine qaq ?_ | refine qak ?_ _)); exact BK220.out) hb); have n1_ := qab.mk (qad (by repeat (first | (with_reducible first | exact HB.out | apply qaf | apply qae | apply qah | refine qai ?_ GE220.out) | exact HB.out)) hb); clear BK220; clear HB; have BK220 := n0_; have HB := n1_; clear n0_ n1_; (try clear hb); (try clear hb2); (try clear hk); (try clear hi)) | ((with_reducible refine qan (N := 9) rfl ?_); refine qam ?hg (N := 9) ?hd (cs := #[.int .i64 0, .int .i64 0]) (t := 37) ?hr ?_; (case hd => rfl); (case hg => rfl); (case hr => first | (go_simp; done) | (go_simp; rfl)); intro gb223 hg w9 hbox hb; have n0_ := qab.mk (qag (g := gb220) (o := .cells #[.slice A0_0 l0_0.length c0_0, .slice A0_1 l0_1.length c0_1, .slice A0_2 l0_2.length c0_2] 26 (0, 0)) (by (with_reducible repeat (first | refine qao ?_ _ | refine qaq ?_ | refine qak ?_ _)); exact BK220.out) hb); have n1_ := qab.mk (qad (by repeat (first | (with_reducible first | exact HB.out | apply qaf | apply qae | apply qah | refine qai ?_ GE220.out) | exact HB.out)) hb); have n2_ := qab.mk (hbox); have n3_ := qab.mk ((by rw [hg]; exact (qap (by repeat (first | (with_reducible first | exact HB.out | apply qaf | apply qae | apply qah | refine qai ?_ GE220.out) | exact HB.out))) : w.heap.size ≤ gb223)); have n4_ := qab.mk ((by rw [hg]; exact (qap (by repeat (first | (with_reducible first | exact HB.out | apply qaf | apply qae | apply qah | refine qai ?_ GE220.out) | exact HB.out))) : w.heap.size ≤ gb223)); have n5_ := qab.mk ((by rw [hg]; exact Nat.ne_of_lt (blk_lt (g := gb220) (o := .cells #[.slice A0_0 l0_0.length c0_0, .slice A0_1 l0_1.length c0_1, .slice A0_2 l0_2.length c0_2] 26 (0, 0)) (by (with_reducible repeat (first | refine qao ?_ _ | refine qaq ?_ | refine qak ?_ _)); exact BK220.out)) : gb220 ≠ gb223)); have n6_ := qab.mk ((by rw [hg]; exact Nat.ne_of_gt (blk_lt (g := gb220) (o := .cells #[.slice A0_0 l0_0.length c0_0, .slice A0_1 l0_1.length c0_1, .slice A0_2 l0_2.length c0_2] 26 (0, 0)) (by (with_reducible repeat (first | refine qao ?_ _ | refine qaq ?_ | refine qak ?_ _)); exact BK220.out)) : gb223 ≠ gb220)); clear BK220; clear HB; have BK220 := n0_; have HB := n1_; have BK223 := n2_; have GW223 := n3_; have GE223 := n4_; have NB220_223 := n5_; have NB223_220 := n6_; clear n0_ n1_ n2_ n3_ n4_ n5_ n6_; clear hb hbox hg; have hnb10 := NB223_220.out; have hnc10 := NB220_223.out; have hcz11_0 : w9.cell? ⟨gb223, 0, none⟩ = some (.int .i64 0) := (qaa BK223.out 0).trans rfl; have hcz11_1 : w9.cell? ⟨gb223, 1, none⟩ = some (.int .i64 0) := (qaa BK223.out 1).trans rfl; have hfz11_0 := qac BK223.out 0; have hfz11_1 := qac BK223.out 1))
    (try simp only [Act.put, qzA, qzB, qzC])
    go_cut [27] (fun v27 wc => ∃ (kq : Nat) (x27_5 : Bool), v27 = .bool x27_5 ∧ qab (talikref04_Freezes.j1 kq a1 x6_1 x7_1 x8_1 x27_5 l0_0 l0_1 l0_2 t221 t222 = some (r1, r2)) ∧ qab (kq ≤ k1) ∧ qab (wc.heap[gb220]? = some (.cells #[(.slice A0_0 l0_0.length c0_0), (.slice A0_1 l0_1.length c0_1), (.slice A0_2 l0_2.length c0_2)] 26 (0, 0))) ∧ qab (wc.heap[gb223]? = some (.cells #[.int .i64 t221, .int .i64 t222] 37 (0, 0))) ∧ qab (Below w.heap.size w wc))
    case first =>
     have H := HC6.out
     clear HC6
     by_cases c12 : x6_1 < 0
     ·
      rw [if_pos c12] at H
      have c12b0 : decide (x6_1 < 0) = true := decide_eq_true c12
      clear c12
      (first | rw [c12b0] | (simp only [i64_w, i32_w]; rw [c12b0]) | skip)
      have H' := qab.mk H
      clear H
      have hnb13 := NB223_220.out
      have hnc13 := NB220_223.out
      have hcz14_0 : w9.cell? ⟨gb223, 0, none⟩ = some (.int .i64 0) := (qaa BK223.out 0).trans rfl
      have hcz14_1 : w9.cell? ⟨gb223, 1, none⟩ = some (.int .i64 0) := (qaa BK223.out 1).trans rfl
      have hfz14_0 := qac BK223.out 0
      have hfz14_1 := qac BK223.out 1
      go_wp2
      go_meet
      case rel => exact ⟨_, ((t221 == 0)), (by first | rfl | (simp; done) | (simp [*]; done)), H', ⟨by have := HK1.out; first | omega | exact Nat.le_refl _⟩, ⟨by (with_reducible repeat (first | refine qao ?_ _ | refine qaq ?_ | refine qak ?_ _)); refine blk_far ?_ NB220_223.out _; (with_reducible repeat (first | refine qao ?_ _ | refine qaq ?_ | refine qak ?_ _)); refine blk_far ?_ NB220_223.out _; (with_reducible repeat (first | refine qao ?_ _ | refine qaq ?_ | refine qak ?_ _)); exact BK220.out⟩, ⟨by (with_reducible repeat (first | refine qao ?_ _ | refine qaq ?_ | refine qak ?_ _)); refine blk_put (cs := #[.int .i64 t221, .int .i64 0]) ?_ 1 _ rfl; (with_reducible repeat (first | refine qao ?_ _ | refine qaq ?_ | refine qak ?_ _)); refine blk_put (cs := #[.int .i64 0, .int .i64 0]) ?_ 0 _ rfl; (with_reducible repeat (first | refine qao ?_ _ | refine qaq ?_ | refine qak ?_ _)); exact BK223.out⟩, ⟨by repeat (first | (with_reducible first | exact HB.out | apply qaf | apply qae | apply qah | refine qai ?_ GE220.out | refine qai ?_ GE223.out) | exact HB.out)⟩⟩
     ·
      rw [if_neg c12] at H
      have c12b0 : decide (x6_1 < 0) = false := decide_eq_false c12
      clear c12
      (first | rw [c12b0] | (simp only [i64_w, i32_w]; rw [c12b0]) | skip)
      have H' := qab.mk H
      clear H
      go_wp2
      go_meet
      case rel => exact ⟨_, (false), (by first | rfl | (simp; done) | (simp [*]; done)), H', ⟨by have := HK1.out; first | omega | exact Nat.le_refl _⟩, ⟨by (with_reducible repeat (first | refine qao ?_ _ | refine qaq ?_ | refine qak ?_ _)); refine blk_far ?_ NB220_223.out _; (with_reducible repeat (first | refine qao ?_ _ | refine qaq ?_ | refine qak ?_ _)); refine blk_far ?_ NB220_223.out _; (with_reducible repeat (first | refine qao ?_ _ | refine qaq ?_ | refine qak ?_ _)); exact BK220.out⟩, ⟨by (with_reducible repeat (first | refine qao ?_ _ | refine qaq ?_ | refine qak ?_ _)); refine blk_put (cs := #[.int .i64 t221, .int .i64 0]) ?_ 1 _ rfl; (with_reducible repeat (first | refine qao ?_ _ | refine qaq ?_ | refine qak ?_ _)); refine blk_put (cs := #[.int .i64 0, .int .i64 0]) ?_ 0 _ rfl; (with_reducible repeat (first | refine qao ?_ _ | refine qaq ?_ | refine qak ?_ _)); exact BK223.out⟩, ⟨by repeat (first | (with_reducible first | exact HB.out | apply qaf | apply qae | apply qah | refine qai ?_ GE220.out | refine qai ?_ GE223.out) | exact HB.out)⟩⟩
    case rest =>
     clear HC6
     try clear c1
     try clear p2
     try clear c4
     try clear c4b0
     try clear c5
     try clear c8
     try clear c10
     try clear c12
     try clear c12b0
     try clear c13
     try clear hcz11_0
     try clear hcz11_1
     try clear hcz14_0
     try clear hcz14_1
     try clear hcz7_0
     try clear hcz7_1
     try clear hcz7_2
     try clear hfz11_0
     try clear hfz11_1
     try clear hfz14_0
     try clear hfz14_1
     try clear hfz7_0
     try clear hfz7_1
     try clear hfz7_2
     try clear p2
     obtain ⟨kq, x27_5, rfl, HA, HJ5, BK220, BK223, HB⟩ := hcut
     cases kq with
     | zero => exact absurd HA.out (by simp [talikref04_Freezes.j1])
     | succ kj5 =>
      have H := HA.out
      clear HA
      simp only [talikref04_Freezes.j1] at H
      by_cases c15 : x27_5 = true
      ·
       subst c15
       have H1 : (if x7_1 < 0 then (if t222 = 0 then (talikref04_Freezes.l0 kj5 a1 x8_1 x8_1 (wrap64 (x8_1 + 1)) l0_0 l0_1 l0_2) else (talikref04_Freezes.l0 kj5 a1 x8_1 x7_1 (wrap64 (x8_1 + 1)) l0_0 l0_1 l0_2)) else (talikref04_Freezes.l0 kj5 a1 x8_1 x7_1 (wrap64 (x8_1 + 1)) l0_0 l0_1 l0_2)) = some (r1, r2) := by rw [if_pos rfl] at H; exact H
       clear H
       have H := H1
       clear H1
       by_cases c16 : x7_1 < 0
       ·
        rw [if_pos c16] at H
        have c16b0 : decide (x7_1 < 0) = true := decide_eq_true c16
        clear c16
        by_cases c17 : t222 = 0
        ·
         rw [if_pos c17] at H
         have c17b0 : (t222 == 0) = true := beq_iff_eq.mpr c17
         have c17b1 : (t222 != 0) = false := bne_eq_false_iff_eq.mpr c17
         clear c17
         have H' := qab.mk H
         clear H
         have hnb18 := NB223_220.out
         have hnc18 := NB220_223.out
         have hcz19_0 : wc.cell? ⟨gb223, 0, none⟩ = some (.int .i64 t221) := (qaa BK223.out 0).trans rfl
         have hcz19_1 : wc.cell? ⟨gb223, 1, none⟩ = some (.int .i64 t222) := (qaa BK223.out 1).trans rfl
         have hfz19_0 := qac BK223.out 0
         have hfz19_1 := qac BK223.out 1
         go_wp2
         go_roundg kj5
         case measure => have := HK1.out; have := HJ5.out; omega
         case rel => exact ⟨(x8_1), (x8_1), (wrap64 (x8_1 + 1)), (by first | rfl | (simp; done) | (simp [*]; done)), (by first | rfl | (simp; done) | (simp [*]; done)), (by first | rfl | (simp; done) | (simp [*]; done)), H', ⟨by have := HK1.out; have := HJ5.out; omega⟩, ⟨by (with_reducible repeat (first | refine qao ?_ _ | refine qaq ?_ | refine qak ?_ _)); exact BK220.out⟩, ⟨by repeat (first | (with_reducible first | exact HB.out | apply qaf | apply qae | apply qah | refine qai ?_ GE220.out | refine qai ?_ GE223.out) | exact HB.out)⟩⟩
        ·
         rw [if_neg c17] at H
         have c17b0 : (t222 == 0) = false := beq_eq_false_iff_ne.mpr c17
         have c17b1 : (t222 != 0) = true := bne_iff_ne.mpr c17
         have H' := qab.mk H
         clear H
         have hnb20 := NB223_220.out
         have hnc20 := NB220_223.out
         have hcz21_0 : wc.cell? ⟨gb223, 0, none⟩ = some (.int .i64 t221) := (qaa BK223.out 0).trans rfl
         have hcz21_1 : wc.cell? ⟨gb223, 1, none⟩ = some (.int .i64 t222) := (qaa BK223.out 1).trans rfl
         have hfz21_0 := qac BK223.out 0
         have hfz21_1 := qac BK223.out 1
         go_wp2
         go_roundg kj5
         case measure => have := HK1.out; have := HJ5.out; omega
         case rel => exact ⟨(x8_1), (x7_1), (wrap64 (x8_1 + 1)), (by first | rfl | (simp; done) | (simp [*]; done)), (by first | rfl | (simp; done) | (simp [*]; done)), (by first | rfl | (simp; done) | (simp [*]; done)), H', ⟨by have := HK1.out; have := HJ5.out; omega⟩, ⟨by (with_reducible repeat (first | refine qao ?_ _ | refine qaq ?_ | refine qak ?_ _)); exact BK220.out⟩, ⟨by repeat (first | (with_reducible first | exact HB.out | apply qaf | apply qae | apply qah | refine qai ?_ GE220.out | refine qai ?_ GE223.out) | exact HB.out)⟩⟩
       ·
        rw [if_neg c16] at H
        have c16b0 : decide (x7_1 < 0) = false := decide_eq_false c16
        clear c16
        have H' := qab.mk H
        clear H
        go_wp2
        go_roundg kj5
        case measure => have := HK1.out; have := HJ5.out; omega
        case rel => exact ⟨(x8_1), (x7_1), (wrap64 (x8_1 + 1)), (by first | rfl | (simp; done) | (simp [*]; done)), (by first | rfl | (simp; done) | (simp [*]; done)), (by first | rfl | (simp; done) | (simp [*]; done)), H', ⟨by have := HK1.out; have := HJ5.out; omega⟩, ⟨by (with_reducible repeat (first | refine qao ?_ _ | refine qaq ?_ | refine qak ?_ _)); exact BK220.out⟩, ⟨by repeat (first | (with_reducible first | exact HB.out | apply qaf | apply qae | apply qah | refine qai ?_ GE220.out | refine qai ?_ GE223.out) | exact HB.out)⟩⟩
      ·
       replace c15 := Bool.eq_false_iff.mpr c15
       subst c15
       have H1 : (if x7_1 < 0 then (if t222 = 0 then (talikref04_Freezes.l0 kj5 a1 x6_1 x8_1 (wrap64 (x8_1 + 1)) l0_0 l0_1 l0_2) else (talikref04_Freezes.l0 kj5 a1 x6_1 x7_1 (wrap64 (x8_1 + 1)) l0_0 l0_1 l0_2)) else (talikref04_Freezes.l0 kj5 a1 x6_1 x7_1 (wrap64 (x8_1 + 1)) l0_0 l0_1 l0_2)) = some (r1, r2) := by rw [if_neg (show ¬ (false = true) by decide)] at H; exact H
       clear H
       have H := H1
       clear H1
       by_cases c22 : x7_1 < 0
       ·
        rw [if_pos c22] at H
        have c22b0 : decide (x7_1 < 0) = true := decide_eq_true c22
        clear c22
        by_cases c23 : t222 = 0
        ·
         rw [if_pos c23] at H
         have c23b0 : (t222 == 0) = true := beq_iff_eq.mpr c23
         have c23b1 : (t222 != 0) = false := bne_eq_false_iff_eq.mpr c23
         clear c23
         have H' := qab.mk H
         clear H
         have hnb24 := NB223_220.out
         have hnc24 := NB220_223.out
         have hcz25_0 : wc.cell? ⟨gb223, 0, none⟩ = some (.int .i64 t221) := (qaa BK223.out 0).trans rfl
         have hcz25_1 : wc.cell? ⟨gb223, 1, none⟩ = some (.int .i64 t222) := (qaa BK223.out 1).trans rfl
         have hfz25_0 := qac BK223.out 0
         have hfz25_1 := qac BK223.out 1
         go_wp2
         go_roundg kj5
         case measure => have := HK1.out; have := HJ5.out; omega
         case rel => exact ⟨(x6_1), (x8_1), (wrap64 (x8_1 + 1)), (by first | rfl | (simp; done) | (simp [*]; done)), (by first | rfl | (simp; done) | (simp [*]; done)), (by first | rfl | (simp; done) | (simp [*]; done)), H', ⟨by have := HK1.out; have := HJ5.out; omega⟩, ⟨by (with_reducible repeat (first | refine qao ?_ _ | refine qaq ?_ | refine qak ?_ _)); exact BK220.out⟩, ⟨by repeat (first | (with_reducible first | exact HB.out | apply qaf | apply qae | apply qah | refine qai ?_ GE220.out | refine qai ?_ GE223.out) | exact HB.out)⟩⟩
        ·
         rw [if_neg c23] at H
         have c23b0 : (t222 == 0) = false := beq_eq_false_iff_ne.mpr c23
         have c23b1 : (t222 != 0) = true := bne_iff_ne.mpr c23
         have H' := qab.mk H
         clear H
         have hnb26 := NB223_220.out
         have hnc26 := NB220_223.out
         have hcz27_0 : wc.cell? ⟨gb223, 0, none⟩ = some (.int .i64 t221) := (qaa BK223.out 0).trans rfl
         have hcz27_1 : wc.cell? ⟨gb223, 1, none⟩ = some (.int .i64 t222) := (qaa BK223.out 1).trans rfl
         have hfz27_0 := qac BK223.out 0
         have hfz27_1 := qac BK223.out 1
         go_wp2
         go_roundg kj5
         case measure => have := HK1.out; have := HJ5.out; omega
         case rel => exact ⟨(x6_1), (x7_1), (wrap64 (x8_1 + 1)), (by first | rfl | (simp; done) | (simp [*]; done)), (by first | rfl | (simp; done) | (simp [*]; done)), (by first | rfl | (simp; done) | (simp [*]; done)), H', ⟨by have := HK1.out; have := HJ5.out; omega⟩, ⟨by (with_reducible repeat (first | refine qao ?_ _ | refine qaq ?_ | refine qak ?_ _)); exact BK220.out⟩, ⟨by repeat (first | (with_reducible first | exact HB.out | apply qaf | apply qae | apply qah | refine qai ?_ GE220.out | refine qai ?_ GE223.out) | exact HB.out)⟩⟩
       ·
        rw [if_neg c22] at H
        have c22b0 : decide (x7_1 < 0) = false := decide_eq_false c22
        clear c22
        have H' := qab.mk H
        clear H
        go_wp2
        go_roundg kj5
        case measure => have := HK1.out; have := HJ5.out; omega
        case rel => exact ⟨(x6_1), (x7_1), (wrap64 (x8_1 + 1)), (by first | rfl | (simp; done) | (simp [*]; done)), (by first | rfl | (simp; done) | (simp [*]; done)), (by first | rfl | (simp; done) | (simp [*]; done)), H', ⟨by have := HK1.out; have := HJ5.out; omega⟩, ⟨by (with_reducible repeat (first | refine qao ?_ _ | refine qaq ?_ | refine qak ?_ _)); exact BK220.out⟩, ⟨by repeat (first | (with_reducible first | exact HB.out | apply qaf | apply qae | apply qah | refine qai ?_ GE220.out | refine qai ?_ GE223.out) | exact HB.out)⟩⟩
   ·
    rw [if_neg c4] at H
    have c4b0 : decide (x8_1 ≤ (l0_1.length : Int)) = false := decide_eq_false c4
    clear c4
    simp only [Option.some.injEq, Prod.mk.injEq] at H
    obtain ⟨rfl, rfl⟩ := H
    have hcz28_0 : wr.cell? ⟨gb220, 0, none⟩ = some (.slice A0_0 l0_0.length c0_0) := (qaa BK220.out 0).trans rfl
    have hcz28_1 : wr.cell? ⟨gb220, 1, none⟩ = some (.slice A0_1 l0_1.length c0_1) := (qaa BK220.out 1).trans rfl
    have hcz28_2 : wr.cell? ⟨gb220, 2, none⟩ = some (.slice A0_2 l0_2.length c0_2) := (qaa BK220.out 2).trans rfl
    have hfz28_0 := qac BK220.out 0
    have hfz28_1 := qac BK220.out 1
    have hfz28_2 := qac BK220.out 2
    go_wp2
    go_ret2
    exact ⟨by first | rfl | (simp [qau, qav] <;> rfl) | (simp [*, qau, qav] <;> rfl), by repeat (first | (with_reducible first | exact HB.out | apply qaf | apply qae | apply qah | refine qai ?_ GE220.out) | exact HB.out)⟩
def talikref04_Due.f (k : Nat) (l0_0 : List (S39)) (l0_1 : List (S37)) (l0_2 : List (List Int)) (a1 : Int) : Option (Int) := (talikref04_Freezes.f k l0_0 l0_1 l0_2 a1).bind fun bt225 => (if bt225.1 < 0 then (some (l0_1.length : Int)) else (some (wrap64 (bt225.1 - 1))))
theorem talikref04_Due.calls (k : Nat) (A0_0 : Option Addr) (c0_0 : Nat) (l0_0 : List (S39)) (A0_1 : Option Addr) (c0_1 : Nat) (l0_1 : List (S37)) (A0_2 : Option Addr) (c0_2 : Nat) (l0_2 : List (List Int)) (a1 : Int) (r : Int) (w : World) (hr0_0 : Kd.C k39 w A0_0 l0_0.length l0_0) (hc0_0 : l0_0.length ≤ c0_0) (hr0_1 : Kd.C k37 w A0_1 l0_1.length l0_1) (hc0_1 : l0_1.length ≤ c0_1) (hr0_2 : Kd.C (Kd.slice 3 (Kd.int .i64)) w A0_2 l0_2.length l0_2) (hc0_2 : l0_2.length ≤ c0_2) (h : talikref04_Due.f k l0_0 l0_1 l0_2 a1 = some r) :
  Calls Try.prog 94 #[.agg #[.slice A0_0 l0_0.length c0_0, .slice A0_1 l0_1.length c0_1, .slice A0_2 l0_2.length c0_2], .int .i64 a1] w fun e w' => e = .returned (.int .i64 r) ∧ Below w.heap.size w w' := by
 have hu26 := Try.underlying26
 have HR0_0 := qab.mk hr0_0
 have HC0_0 := qab.mk hc0_0
 clear hr0_0 hc0_0
 have HR0_1 := qab.mk hr0_1
 have HC0_1 := qab.mk hc0_1
 clear hr0_1 hc0_1
 have HR0_2 := qab.mk hr0_2
 have HC0_2 := qab.mk hc0_2
 clear hr0_2 hc0_2
 have HB := qab.mk (Below.refl w.heap.size w)
 have H : ((talikref04_Freezes.f k l0_0 l0_1 l0_2 a1).bind fun bt225 => (if bt225.1 < 0 then (some (l0_1.length : Int)) else (some (wrap64 (bt225.1 - 1))))) = some r := h
 clear h
 replace H := Option.bind_eq_some_iff.mp H
 obtain ⟨⟨t225, t226⟩, A30, H⟩ := H
 replace H : (if t225 < 0 then (some (l0_1.length : Int)) else (some (wrap64 (t225 - 1)))) = some r := H
 have A3 := qab.mk A30
 clear A30
 by_cases c4 : t225 < 0
 ·
  rw [if_pos c4] at H
  have c4b0 : decide (t225 < 0) = true := decide_eq_true c4
  clear c4
  obtain rfl := Option.some.inj H
  go_enter Try.func94, Try.ntmps94
  go_wp2_with (first | ((with_reducible refine qan (N := 2) rfl ?_); refine qam ?hg (N := 2) ?hd (cs := #[.slice A0_0 l0_0.length c0_0, .slice A0_1 l0_1.length c0_1, .slice A0_2 l0_2.length c0_2]) (t := 26) ?hr ?_; (case hd => rfl); (case hg => rfl); (case hr => first | (go_simp; done) | (go_simp; rfl)); intro gb224 hg w5 hbox hb; have n0_ := qab.mk (qad (by repeat (first | (with_reducible first | exact HB.out | apply qaf | apply qae | apply qah) | exact HB.out)) hb); have n1_ := qab.mk (hbox); have n2_ := qab.mk ((by rw [hg]; exact (qap (by repeat (first | (with_reducible first | exact HB.out | apply qaf | apply qae | apply qah) | exact HB.out))) : w.heap.size ≤ gb224)); have n3_ := qab.mk ((by rw [hg]; exact (qap (by repeat (first | (with_reducible first | exact HB.out | apply qaf | apply qae | apply qah) | exact HB.out))) : w.heap.size ≤ gb224)); clear HB; have HB := n0_; have BK224 := n1_; have GW224 := n2_; have GE224 := n3_; clear n0_ n1_ n2_ n3_; clear hb hbox hg; have hcz6_0 : w5.cell? ⟨gb224, 0, none⟩ = some (.slice A0_0 l0_0.length c0_0) := (qaa BK224.out 0).trans rfl; have hcz6_1 : w5.cell? ⟨gb224, 1, none⟩ = some (.slice A0_1 l0_1.length c0_1) := (qaa BK224.out 1).trans rfl; have hcz6_2 : w5.cell? ⟨gb224, 2, none⟩ = some (.slice A0_2 l0_2.length c0_2) := (qaa BK224.out 2).trans rfl; have hfz6_0 := qac BK224.out 0; have hfz6_1 := qac BK224.out 1; have hfz6_2 := qac BK224.out 2) | ((with_reducible refine gate_callee (f := 52) rfl ?_); refine goesL_ (some 10) rfl rfl Try.func52 (by kernel_rfl) rfl #[.agg #[.slice A0_0 l0_0.length c0_0, .slice A0_1 l0_1.length c0_1, .slice A0_2 l0_2.length c0_2], .int .i64 a1] rfl (by (try simp only [List.map_toArray, List.map_cons, List.map_nil]); first | done | rfl | (simp only [List.length_drop, List.length_take]; rfl)) ?_; (with_reducible refine (talikref04_Freezes.calls k _ _ l0_0 _ _ l0_1 _ _ l0_2 a1 t225 t226 _ ?side1 ?side2 ?side3 ?side4 ?side5 ?side6 A3.out).mono ?_); (case side1 => repeat (first | exact (Kd.qaj HR0_0.out HB.out) | (with_reducible refine Kd.C_alloc ?_ _) | (with_reducible refine Kd.C_drewN ?_ _) | (with_reducible refine Kd.C_drew ?_))); (case side2 => exact HC0_0.out); (case side3 => repeat (first | exact (Kd.qaj HR0_1.out HB.out) | (with_reducible refine Kd.C_alloc ?_ _) | (with_reducible refine Kd.C_drewN ?_ _) | (with_reducible refine Kd.C_drew ?_))); (case side4 => exact HC0_1.out); (case side5 => repeat (first | exact (Kd.qaj HR0_2.out HB.out) | (with_reducible refine Kd.C_alloc ?_ _) | (with_reducible refine Kd.C_drewN ?_ _) | (with_reducible refine Kd.C_drew ?_))); (case side6 => exact HC0_2.out); rintro e w7 ⟨rfl, hb⟩; refine ⟨_, rfl, ?_⟩; have n0_ := qab.mk (qag (g := gb224) (o := .cells #[.slice A0_0 l0_0.length c0_0, .slice A0_1 l0_1.length c0_1, .slice A0_2 l0_2.length c0_2] 26 (0, 0)) (by (with_reducible repeat (first | refine qao ?_ _ | refine qaq ?_ | refine qak ?_ _)); exact BK224.out) hb); have n1_ := qab.mk (qad (by repeat (first | (with_reducible first | exact HB.out | apply qaf | apply qae | apply qah | refine qai ?_ GE224.out) | exact HB.out)) hb); clear BK224; clear HB; have BK224 := n0_; have HB := n1_; clear n0_ n1_; (try clear hb); (try clear hb2); (try clear hk); (try clear hi); have hcz8_0 : w7.cell? ⟨gb224, 0, none⟩ = some (.slice A0_0 l0_0.length c0_0) := (qaa BK224.out 0).trans rfl; have hcz8_1 : w7.cell? ⟨gb224, 1, none⟩ = some (.slice A0_1 l0_1.length c0_1) := (qaa BK224.out 1).trans rfl; have hcz8_2 : w7.cell? ⟨gb224, 2, none⟩ = some (.slice A0_2 l0_2.length c0_2) := (qaa BK224.out 2).trans rfl; have hfz8_0 := qac BK224.out 0; have hfz8_1 := qac BK224.out 1; have hfz8_2 := qac BK224.out 2))
  go_ret
  exact ⟨by first | rfl | (simp [qau, qav] <;> rfl) | (simp [*, qau, qav] <;> rfl), by repeat (first | (with_reducible first | exact HB.out | apply qaf | apply qae | apply qah | refine qai ?_ GE224.out) | exact HB.out)⟩
 ·
  rw [if_neg c4] at H
  have c4b0 : decide (t225 < 0) = false := decide_eq_false c4
  clear c4
  obtain rfl := Option.some.inj H
  go_enter Try.func94, Try.ntmps94
  go_wp2_with (first | ((with_reducible refine qan (N := 2) rfl ?_); refine qam ?hg (N := 2) ?hd (cs := #[.slice A0_0 l0_0.length c0_0, .slice A0_1 l0_1.length c0_1, .slice A0_2 l0_2.length c0_2]) (t := 26) ?hr ?_; (case hd => rfl); (case hg => rfl); (case hr => first | (go_simp; done) | (go_simp; rfl)); intro gb224 hg w9 hbox hb; have n0_ := qab.mk (qad (by repeat (first | (with_reducible first | exact HB.out | apply qaf | apply qae | apply qah) | exact HB.out)) hb); have n1_ := qab.mk (hbox); have n2_ := qab.mk ((by rw [hg]; exact (qap (by repeat (first | (with_reducible first | exact HB.out | apply qaf | apply qae | apply qah) | exact HB.out))) : w.heap.size ≤ gb224)); have n3_ := qab.mk ((by rw [hg]; exact (qap (by repeat (first | (with_reducible first | exact HB.out | apply qaf | apply qae | apply qah) | exact HB.out))) : w.heap.size ≤ gb224)); clear HB; have HB := n0_; have BK224 := n1_; have GW224 := n2_; have GE224 := n3_; clear n0_ n1_ n2_ n3_; clear hb hbox hg; have hcz10_0 : w9.cell? ⟨gb224, 0, none⟩ = some (.slice A0_0 l0_0.length c0_0) := (qaa BK224.out 0).trans rfl; have hcz10_1 : w9.cell? ⟨gb224, 1, none⟩ = some (.slice A0_1 l0_1.length c0_1) := (qaa BK224.out 1).trans rfl; have hcz10_2 : w9.cell? ⟨gb224, 2, none⟩ = some (.slice A0_2 l0_2.length c0_2) := (qaa BK224.out 2).trans rfl; have hfz10_0 := qac BK224.out 0; have hfz10_1 := qac BK224.out 1; have hfz10_2 := qac BK224.out 2) | ((with_reducible refine gate_callee (f := 52) rfl ?_); refine goesL_ (some 10) rfl rfl Try.func52 (by kernel_rfl) rfl #[.agg #[.slice A0_0 l0_0.length c0_0, .slice A0_1 l0_1.length c0_1, .slice A0_2 l0_2.length c0_2], .int .i64 a1] rfl (by (try simp only [List.map_toArray, List.map_cons, List.map_nil]); first | done | rfl | (simp only [List.length_drop, List.length_take]; rfl)) ?_; (with_reducible refine (talikref04_Freezes.calls k _ _ l0_0 _ _ l0_1 _ _ l0_2 a1 t225 t226 _ ?side1 ?side2 ?side3 ?side4 ?side5 ?side6 A3.out).mono ?_); (case side1 => repeat (first | exact (Kd.qaj HR0_0.out HB.out) | (with_reducible refine Kd.C_alloc ?_ _) | (with_reducible refine Kd.C_drewN ?_ _) | (with_reducible refine Kd.C_drew ?_))); (case side2 => exact HC0_0.out); (case side3 => repeat (first | exact (Kd.qaj HR0_1.out HB.out) | (with_reducible refine Kd.C_alloc ?_ _) | (with_reducible refine Kd.C_drewN ?_ _) | (with_reducible refine Kd.C_drew ?_))); (case side4 => exact HC0_1.out); (case side5 => repeat (first | exact (Kd.qaj HR0_2.out HB.out) | (with_reducible refine Kd.C_alloc ?_ _) | (with_reducible refine Kd.C_drewN ?_ _) | (with_reducible refine Kd.C_drew ?_))); (case side6 => exact HC0_2.out); rintro e w11 ⟨rfl, hb⟩; refine ⟨_, rfl, ?_⟩; have n0_ := qab.mk (qag (g := gb224) (o := .cells #[.slice A0_0 l0_0.length c0_0, .slice A0_1 l0_1.length c0_1, .slice A0_2 l0_2.length c0_2] 26 (0, 0)) (by (with_reducible repeat (first | refine qao ?_ _ | refine qaq ?_ | refine qak ?_ _)); exact BK224.out) hb); have n1_ := qab.mk (qad (by repeat (first | (with_reducible first | exact HB.out | apply qaf | apply qae | apply qah | refine qai ?_ GE224.out) | exact HB.out)) hb); clear BK224; clear HB; have BK224 := n0_; have HB := n1_; clear n0_ n1_; (try clear hb); (try clear hb2); (try clear hk); (try clear hi)))
  go_ret
  exact ⟨by first | rfl | (simp [qau, qav] <;> rfl) | (simp [*, qau, qav] <;> rfl), by repeat (first | (with_reducible first | exact HB.out | apply qaf | apply qae | apply qah | refine qai ?_ GE224.out) | exact HB.out)⟩
def talikref04_Dues.l0 : Nat → List Int → Int → List (S39) → List (S37) → List (List Int) → Option (List Int)
 | 0, _, _, _, _, _ => none
 | k + 1, x3, x4, x228000, x228001, x228002 => if x4 < (x228000.length : Int) then ((talikref04_Due.f k x228000 x228001 x228002 x4).bind fun t228 => (if x3.length < 17592186044416 then (talikref04_Dues.l0 k (x3 ++ [t228]) (wrap64 (x4 + 1)) x228000 x228001 x228002) else (none))) else (some x3)
def talikref04_Dues.f (k : Nat) (l0_0 : List (S39)) (l0_1 : List (S37)) (l0_2 : List (List Int)) : Option (List Int) := talikref04_Dues.l0 k ([] : List Int) 0 l0_0 l0_1 l0_2
theorem talikref04_Dues.calls (k : Nat) (A0_0 : Option Addr) (c0_0 : Nat) (l0_0 : List (S39)) (A0_1 : Option Addr) (c0_1 : Nat) (l0_1 : List (S37)) (A0_2 : Option Addr) (c0_2 : Nat) (l0_2 : List (List Int)) (r : List Int) (w : World) (hr0_0 : Kd.C k39 w A0_0 l0_0.length l0_0) (hc0_0 : l0_0.length ≤ c0_0) (hr0_1 : Kd.C k37 w A0_1 l0_1.length l0_1) (hc0_1 : l0_1.length ≤ c0_1) (hr0_2 : Kd.C (Kd.slice 3 (Kd.int .i64)) w A0_2 l0_2.length l0_2) (hc0_2 : l0_2.length ≤ c0_2) (h : talikref04_Dues.f k l0_0 l0_1 l0_2 = some r) :
  Calls Try.prog 67 #[.agg #[.slice A0_0 l0_0.length c0_0, .slice A0_1 l0_1.length c0_1, .slice A0_2 l0_2.length c0_2]] w fun e w' => ∃ v0_ : Value, e = .returned (v0_) ∧ Kd.R (Kd.int .i64) 3 w' w.heap.size (fun _ => True) v0_ r ∧ Below w.heap.size w w' := by
 have hu26 := Try.underlying26
 have HR0_0 := qab.mk hr0_0
 have HC0_0 := qab.mk hc0_0
 clear hr0_0 hc0_0
 have HR0_1 := qab.mk hr0_1
 have HC0_1 := qab.mk hc0_1
 clear hr0_1 hc0_1
 have HR0_2 := qab.mk hr0_2
 have HC0_2 := qab.mk hc0_2
 clear hr0_2 hc0_2
 have HB := qab.mk (Below.refl w.heap.size w)
 have H : (talikref04_Dues.l0 k ([] : List Int) 0 l0_0 l0_1 l0_2) = some r := h
 clear h
 have H' := qab.mk H
 clear H
 go_enter Try.func67, Try.ntmps67
 go_wp2_with (first | ((with_reducible refine qan (N := 1) rfl ?_); refine qam ?hg (N := 1) ?hd (cs := #[.slice A0_0 l0_0.length c0_0, .slice A0_1 l0_1.length c0_1, .slice A0_2 l0_2.length c0_2]) (t := 26) ?hr ?_; (case hd => rfl); (case hg => rfl); (case hr => first | (go_simp; done) | (go_simp; rfl)); intro gb227 hg w2 hbox hb; have n0_ := qab.mk (qad (by repeat (first | (with_reducible first | exact HB.out | apply qaf | apply qae | apply qah) | exact HB.out)) hb); have n1_ := qab.mk (hbox); have n2_ := qab.mk ((by rw [hg]; exact (qap (by repeat (first | (with_reducible first | exact HB.out | apply qaf | apply qae | apply qah) | exact HB.out))) : w.heap.size ≤ gb227)); have n3_ := qab.mk ((by rw [hg]; exact (qap (by repeat (first | (with_reducible first | exact HB.out | apply qaf | apply qae | apply qah) | exact HB.out))) : w.heap.size ≤ gb227)); clear HB; have HB := n0_; have BK227 := n1_; have GW227 := n2_; have GE227 := n3_; clear n0_ n1_ n2_ n3_; clear hb hbox hg))
 go_loopg [3, 4] k (fun kq v3 v4 w' => ∃ (x3_1 : List Int) (x4_1 : Int), v4 = .int .i64 x4_1 ∧ qab (talikref04_Dues.l0 kq x3_1 x4_1 l0_0 l0_1 l0_2 = some r) ∧ qab (kq ≤ k) ∧ qab (Kd.R (Kd.int .i64) 3 w' w.heap.size (fun _ => True) v3 x3_1) ∧ qab (w'.heap[gb227]? = some (.cells #[(.slice A0_0 l0_0.length c0_0), (.slice A0_1 l0_1.length c0_1), (.slice A0_2 l0_2.length c0_2)] 26 (0, 0))) ∧ qab (Below w.heap.size w w'))
 case atStart => exact ⟨(([] : List Int)), (0), (by first | rfl | (simp; done) | (simp [*]; done)), H', ⟨Nat.le_refl _⟩, ⟨by first | exact Kd.R_nil _ _ _ _ _ | exact Kd.N_nil _ _ _ _ _ | exact Kd.V_nil _ _ _ _ _ | exact Kd.Q_nil _ _ _ _ _ | exact Kd.S_nil _ _ _ _ _⟩, ⟨by (with_reducible repeat (first | refine qao ?_ _ | refine qaq ?_ | refine qak ?_ _)); exact BK227.out⟩, ⟨by repeat (first | (with_reducible first | exact HB.out | apply qaf | apply qae | apply qah | refine qai ?_ GE227.out) | exact HB.out)⟩⟩
 case round =>
  clear H'
  try clear p2
  obtain ⟨x3_1, x4_1, rfl, HA, HK1, HO_3, BK227, HB⟩ := hrel
  cases gk with
  | zero => exact absurd HA.out (by simp [talikref04_Dues.l0])
  | succ k1 =>
   have H := HA.out
   clear HA
   simp only [talikref04_Dues.l0] at H
   by_cases c3 : x4_1 < (l0_0.length : Int)
   ·
    rw [if_pos c3] at H
    have c3b0 : decide (x4_1 < (l0_0.length : Int)) = true := decide_eq_true c3
    clear c3
    replace H := Option.bind_eq_some_iff.mp H
    obtain ⟨t228, A40, H⟩ := H
    replace H : (if x3_1.length < 17592186044416 then (talikref04_Dues.l0 k1 (x3_1 ++ [t228]) (wrap64 (x4_1 + 1)) l0_0 l0_1 l0_2) else (none)) = some r := H
    have A4 := qab.mk A40
    clear A40
    by_cases c5 : x3_1.length < 17592186044416
    ·
     rw [if_pos c5] at H
     have LMc5 := qab.mk c5
     clear c5
     obtain ⟨y229, hy229⟩ : ∃ y_ : List Int, y_ = (x3_1 ++ [t228]) := ⟨_, rfl⟩
     replace H : (talikref04_Dues.l0 k1 y229 (wrap64 (x4_1 + 1)) l0_0 l0_1 l0_2) = some r := by first | (rw [hy229]; with_reducible exact H) | (have H2_ := (Option.bind_some _ _).symm.trans H; rw [hy229]; with_reducible exact H2_) | (have H2_ := (Option.bind_some _ _).symm.trans H; with_reducible exact H2_) | with_reducible exact H | (rw [hy229]; exact H) | exact H
     have Ny229 := qab.mk hy229
     clear hy229
     have H' := qab.mk H
     clear H
     have hcz6_0 : wr.cell? ⟨gb227, 0, none⟩ = some (.slice A0_0 l0_0.length c0_0) := (qaa BK227.out 0).trans rfl
     have hcz6_1 : wr.cell? ⟨gb227, 1, none⟩ = some (.slice A0_1 l0_1.length c0_1) := (qaa BK227.out 1).trans rfl
     have hcz6_2 : wr.cell? ⟨gb227, 2, none⟩ = some (.slice A0_2 l0_2.length c0_2) := (qaa BK227.out 2).trans rfl
     have hfz6_0 := qac BK227.out 0
     have hfz6_1 := qac BK227.out 1
     have hfz6_2 := qac BK227.out 2
     go_wp2_with (first | ((with_reducible refine gate_callee (f := 94) rfl ?_); refine goesL_ (some 15) rfl rfl Try.func94 (by kernel_rfl) rfl #[.agg #[.slice A0_0 l0_0.length c0_0, .slice A0_1 l0_1.length c0_1, .slice A0_2 l0_2.length c0_2], .int .i64 x4_1] rfl (by (try simp only [List.map_toArray, List.map_cons, List.map_nil]); first | done | rfl | (simp only [List.length_drop, List.length_take]; rfl)) ?_; (with_reducible refine (talikref04_Due.calls k1 _ _ l0_0 _ _ l0_1 _ _ l0_2 x4_1 t228 _ ?side1 ?side2 ?side3 ?side4 ?side5 ?side6 A4.out).mono ?_); (case side1 => repeat (first | exact (Kd.qaj HR0_0.out HB.out) | (with_reducible refine Kd.C_alloc ?_ _) | (with_reducible refine Kd.C_drewN ?_ _) | (with_reducible refine Kd.C_drew ?_))); (case side2 => exact HC0_0.out); (case side3 => repeat (first | exact (Kd.qaj HR0_1.out HB.out) | (with_reducible refine Kd.C_alloc ?_ _) | (with_reducible refine Kd.C_drewN ?_ _) | (with_reducible refine Kd.C_drew ?_))); (case side4 => exact HC0_1.out); (case side5 => repeat (first | exact (Kd.qaj HR0_2.out HB.out) | (with_reducible refine Kd.C_alloc ?_ _) | (with_reducible refine Kd.C_drewN ?_ _) | (with_reducible refine Kd.C_drew ?_))); (case side6 => exact HC0_2.out); rintro e w7 ⟨rfl, hb⟩; refine ⟨_, rfl, ?_⟩; have n0_ := qab.mk (Kd.R_below (by (with_reducible repeat (first | apply Kd.R_alloc | apply Kd.R_drewN | apply Kd.R_drew)); exact HO_3.out) hb); have n1_ := qab.mk (qag (g := gb227) (o := .cells #[.slice A0_0 l0_0.length c0_0, .slice A0_1 l0_1.length c0_1, .slice A0_2 l0_2.length c0_2] 26 (0, 0)) (by (with_reducible repeat (first | refine qao ?_ _ | refine qaq ?_ | refine qak ?_ _)); exact BK227.out) hb); have n2_ := qab.mk (qad (by repeat (first | (with_reducible first | exact HB.out | apply qaf | apply qae | apply qah | refine qai ?_ GE227.out) | exact HB.out)) hb); clear HO_3; clear BK227; clear HB; have HO_3 := n0_; have BK227 := n1_; have HB := n2_; clear n0_ n1_ n2_; (try clear hb); (try clear hb2); (try clear hk); (try clear hi)) | ((with_reducible refine gate_builtin (b := .append) (xs := #[.tmp 12, .tmp 16]) rfl ?_); at_builtin; refine Kd.R_append (Kd.int .i64) (w0 := w) w.heap.size rfl (.tmp 12) (.tmp 16) 47 3 (.int .i64 0) 8 rfl Try.underlying47 info3 rfl (by decide) (by omega) u3 x3_1 t228 [.int .i64 t228] (fun _ => True) (fun _ => False) rfl rfl ?aP (fun _ hk => hk.elim) ?aF ?aO ?aB ?aS ?aL ?_; (case aP => exact rfl); (case aB => exact (by repeat (first | (with_reducible first | exact HB.out | apply qaf | apply qae | apply qah | refine qai ?_ GE227.out) | exact HB.out))); (case aF => exact (fun _ _ => trivial)); (case aO => exact (by (with_reducible repeat (first | apply Kd.R_alloc | apply Kd.R_drewN | apply Kd.R_drew)); exact HO_3.out)); (case aS => exact (qap (by repeat (first | (with_reducible first | exact HB.out | apply qaf | apply qae | apply qah | refine qai ?_ GE227.out) | exact HB.out)))); (case aL => have := LMc5.out; omega); intro v230 w8 ho hb hg hat; rw [← Ny229.out] at ho; have n0_ := qab.mk (blk_grown (g := gb227) (o := .cells #[.slice A0_0 l0_0.length c0_0, .slice A0_1 l0_1.length c0_1, .slice A0_2 l0_2.length c0_2] 26 (0, 0)) (by (with_reducible repeat (first | refine qao ?_ _ | refine qaq ?_ | refine qak ?_ _)); exact BK227.out) hg (Kd.R_ne HO_3.out BK227.out (by decide))); have n1_ := qab.mk (hb); have n2_ := qab.mk (ho); clear BK227; clear HB; clear HO_3; have BK227 := n0_; have HB := n1_; have HO231 := n2_; clear n0_ n1_ n2_; clear ho hb hg hat))
     go_roundg k1
     case measure => have := HK1.out; omega
     case rel => exact ⟨(y229), (wrap64 (x4_1 + 1)), (by first | rfl | (simp; done) | (simp [*]; done)), H', ⟨by have := HK1.out; omega⟩, ⟨by (with_reducible repeat (first | apply Kd.R_alloc | apply Kd.R_drewN | apply Kd.R_drew)); exact HO231.out⟩, ⟨by (with_reducible repeat (first | refine qao ?_ _ | refine qaq ?_ | refine qak ?_ _)); exact BK227.out⟩, ⟨by repeat (first | (with_reducible first | exact HB.out | apply qaf | apply qae | apply qah | refine qai ?_ GE227.out) | exact HB.out)⟩⟩
    ·
     rw [if_neg c5] at H
     exact absurd H (by simp)
   ·
    rw [if_neg c3] at H
    have c3b0 : decide (x4_1 < (l0_0.length : Int)) = false := decide_eq_false c3
    clear c3
    obtain rfl := Option.some.inj H
    have hcz9_0 : wr.cell? ⟨gb227, 0, none⟩ = some (.slice A0_0 l0_0.length c0_0) := (qaa BK227.out 0).trans rfl
    have hcz9_1 : wr.cell? ⟨gb227, 1, none⟩ = some (.slice A0_1 l0_1.length c0_1) := (qaa BK227.out 1).trans rfl
    have hcz9_2 : wr.cell? ⟨gb227, 2, none⟩ = some (.slice A0_2 l0_2.length c0_2) := (qaa BK227.out 2).trans rfl
    have hfz9_0 := qac BK227.out 0
    have hfz9_1 := qac BK227.out 1
    have hfz9_2 := qac BK227.out 2
    go_wp2
    go_ret
    exact ⟨_, by first | rfl | (simp [qau, qav] <;> rfl) | (simp [*, qau, qav] <;> rfl), by (with_reducible repeat (first | apply Kd.R_alloc | apply Kd.R_drewN | apply Kd.R_drew)); exact HO_3.out, by repeat (first | (with_reducible first | exact HB.out | apply qaf | apply qae | apply qah | refine qai ?_ GE227.out) | exact HB.out)⟩
end Go.Proofs.Ytipphcjgdebecaa.PA
namespace Go.Proofs.Ytipphcjgdebecaa.PA
open Go.RowKit Go.Shelf Go.Proofs.YtipphcjgdebecaaW.PrintWords Go.Proofs.YtipphcjgdebecaaW.PrintLast Go.Proofs.YtipphcjgdebecaaW.PrintMore
attribute [local go_sem] qaw qay max_two min_two qas qat qax qaz
def cold (k c w : Int) : Int := w - min w (k * (w + c) / 1000)
theorem cold_bd {k c w : Int} (k0 : 0 ≤ k) (c0 : 0 ≤ c) (w0 : 0 ≤ w) : 0 ≤ cold k c w ∧ cold k c w ≤ w := by
 have h : 0 ≤ k * (w + c) := Int.mul_nonneg k0 (by omega)
 unfold cold
 omega
theorem cold_mono {k k' c c' w w' : Int} (k1 : k' ≤ 1000) (hk : k ≤ k') (k0 : 0 ≤ k) (hc : c ≤ c') (c0 : 0 ≤ c) (w0 : 0 ≤ w') (hw : w' ≤ w) : cold k' c' w' ≤ cold k c w := by
 have h1 : k * (w' + c) ≤ k' * (w' + c') := Int.mul_le_mul hk (by omega) (by omega) (by omega)
 have h2 : k * (w + c) = k * (w' + c) + k * (w - w') := by rw [← Int.mul_add]; congr 1; omega
 have h3 : k * (w - w') ≤ 1000 * (w - w') := Int.mul_le_mul_of_nonneg_right (by omega) (by omega)
 have h4 : 0 ≤ k * (w' + c) := Int.mul_nonneg k0 (by omega)
 have h5 : 0 ≤ k * (w - w') := Int.mul_nonneg k0 (by omega)
 unfold cold
 omega
theorem loss_tdiv {k c w : Int} (k0 : 0 ≤ k) (k1 : k ≤ 1000) (c0 : 0 ≤ c) (c1 : c ≤ 1000) (w0 : 0 ≤ w) (w1 : w ≤ 1000) : wrap64 (Int.tdiv (wrap64 (k * wrap64 (w + c))) 1000) = k * (w + c) / 1000 ∧ 0 ≤ k * (w + c) / 1000 ∧ k * (w + c) / 1000 ≤ 2000 := by
 obtain ⟨p0, p1⟩ := mul_small k0 k1 (b := w + c) (B := 2000) (by omega) (by omega)
 rw [wrap_id (x := w + c) (by omega) (by omega), wrap_id (x := k * (w + c)) (by omega) (by omega), Int.tdiv_eq_ediv_of_nonneg p0, wrap_id (by omega) (by omega)]
 exact ⟨rfl, by omega, by omega⟩
theorem cold_prog {k c w : Int} (k0 : 0 ≤ k) (k1 : k ≤ 1000) (c0 : 0 ≤ c) (c1 : c ≤ 1000) (w0 : 0 ≤ w) (w1 : w ≤ 1000) : wrap64 (w - lossV k c w) = cold k c w := by
 obtain ⟨e, d0, d1⟩ := loss_tdiv k0 k1 c0 c1 w0 w1
 have hl : lossV k c w = min (k * (w + c) / 1000) w := by
  show mn (wrap64 (Int.tdiv (wrap64 (k * (wrap64 (w + c)))) 1000)) (wrap64 (w + 0)) = _
  rw [e, mn_min, wrap_id (x := w + 0) (by omega) (by omega), Int.add_zero]
 rw [hl]
 unfold cold
 rw [wrap_id (by omega) (by omega)]
 omega
theorem cold_ref {L : S39} {T : S44} {x : Heat4} (hf : T.f2 = false) (k0 : 0 ≤ T.f0) (k1 : T.f0 ≤ 1000) (c0 : 0 ≤ T.f1) (c1 : T.f1 ≤ 1000) (w0 : 0 ≤ x.1) (w1 : x.1 ≤ 1000) : (stepR L T x).1 = cold T.f0 T.f1 x.1 := by
 obtain ⟨e, d0, d1⟩ := loss_tdiv k0 k1 c0 c1 w0 w1
 have hz : feedV L T = 0 := by unfold feedV; rw [hf]; rfl
 have hl : lossR L x.1 T = min x.1 (T.f0 * (x.1 + T.f1) / 1000) := by
  unfold lossR
  rw [e, hf, if_neg (by decide), mn_min]
 show wrap64 (wrap64 (x.1 + feedV L T) - lossR L x.1 T) = _
 rw [hz, hl, wrap_id (x := x.1 + 0) (by omega) (by omega), wrap_id (by omega) (by omega)]
 unfold cold
 omega
def Unfed (T : S44) : Prop := T.f2 = false ∧ 0 ≤ T.f0 ∧ T.f0 ≤ 1000 ∧ 0 ≤ T.f1 ∧ T.f1 ≤ 1000
def coldL (w : Int) (l : List S44) : Int := l.foldl (fun x T => cold T.f0 T.f1 x) w
theorem coldL_bd : ∀ (l : List S44) (w : Int), (∀ T ∈ l, Unfed T) → 0 ≤ w → 0 ≤ coldL w l ∧ coldL w l ≤ w
 | [], w, _, h0 => ⟨h0, Int.le_refl _⟩
 | T :: t, w, h, h0 => by
  have hT := h T (by simp)
  have h1 := cold_bd hT.2.1 hT.2.2.2.1 h0
  have h2 := coldL_bd t (cold T.f0 T.f1 w) (fun x hx => h x (by simp [hx])) h1.1
  show 0 ≤ coldL (cold T.f0 T.f1 w) t ∧ coldL (cold T.f0 T.f1 w) t ≤ w
  omega
theorem play_cold (L : S39) : ∀ (l : List S44) (x : Heat4), (∀ T ∈ l, Unfed T) → 0 ≤ x.1 → x.1 ≤ 1000 → (l.foldl (fun x T => stepR L T x) x).1 = coldL x.1 l
 | [], x, _, _, _ => rfl
 | T :: t, x, h, h0, h1 => by
  have hT := h T (by simp)
  have e := cold_ref (L := L) (x := x) hT.1 hT.2.1 hT.2.2.1 hT.2.2.2.1 hT.2.2.2.2 h0 h1
  have hb := cold_bd hT.2.1 hT.2.2.2.1 h0
  rw [List.foldl_cons, play_cold L t _ (fun y hy => h y (by simp [hy])) (by rw [e]; omega) (by rw [e]; omega), e]
  rfl
theorem rdT37_at (l1 : List S37) (h : Nat) (hh : h < l1.length) : rd_T37 l1 (h : Int) = l1[h] := by simp [rd_T37, hh]
theorem frost_at {l0 : List S39} {l1 : List S37} {l2 : List (List Int)} (hN : NetOk l0 l1 l2) (h : Nat) (hh : h < l1.length) : 0 ≤ (rd_T37 l1 (h : Int)).f0 ∧ (rd_T37 l1 (h : Int)).f0 ≤ (rd_T37 l1 (h : Int)).f1 ∧ (rd_T37 l1 (h : Int)).f1 ≤ 1000 := by
 rw [rdT37_at l1 h hh]
 exact hN.frost _ (List.getElem_mem hh)
theorem endL_unfed {l0 : List S39} {l1 : List S37} {l2 : List (List Int)} (hN : NetOk l0 l1 l2) {L : S39} (hL : LoopOk L) (n : Nat) (hn : n ≤ l1.length) (most : Bool) : ∀ T ∈ endL L l1 n most, Unfed T := by
 intro T hT
 unfold endL at hT
 simp only [List.mem_map, List.mem_range] at hT
 obtain ⟨h, hh, rfl⟩ := hT
 have hf := frost_at hN h (by omega)
 have k0 := hL.k0
 have k1 := hL.k1
 have k2 := hL.k2
 unfold Unfed
 cases most <;> simp <;> omega
theorem end_eq {l0 : List S39} {l1 : List S37} {l2 : List (List Int)} (i : Int) (i0 : 0 ≤ i) (i1 : i < l0.length) (n : Nat) (hn : n ≤ l1.length) (h1 : l1.length ≤ 1000) (most : Bool) : talikref04_End.f l0 l1 l2 i (n : Int) most = some (endL (qal l0 i) l1 n most) := by
 unfold talikref04_End.f
 rw [if_pos ⟨i0, i1, by omega, by omega, h1⟩, Int.toNat_natCast]
def lowW (L : S39) (l1 : List S37) (n : Nat) : Int := coldL L.f0.f0 (endL L l1 n true)
def highW (L : S39) (l1 : List S37) (n : Nat) : Int := coldL L.f0.f1 (endL L l1 n false)
theorem low_bd {l0 : List S39} {l1 : List S37} {l2 : List (List Int)} (hN : NetOk l0 l1 l2) {L : S39} (hL : LoopOk L) (n : Nat) (hn : n ≤ l1.length) : 0 ≤ lowW L l1 n ∧ lowW L l1 n ≤ 1000 := by
 have h := coldL_bd _ L.f0.f0 (endL_unfed hN hL n hn true) (by have := hL.w0; omega)
 have := hL.w1
 have := hL.w2
 unfold lowW
 omega
theorem high_bd {l0 : List S39} {l1 : List S37} {l2 : List (List Int)} (hN : NetOk l0 l1 l2) {L : S39} (hL : LoopOk L) (n : Nat) (hn : n ≤ l1.length) : 0 ≤ highW L l1 n ∧ highW L l1 n ≤ 1000 := by
 have h := coldL_bd _ L.f0.f1 (endL_unfed hN hL n hn false) (by have := hL.w0; have := hL.w1; omega)
 have := hL.w2
 unfold highW
 omega
theorem warm_eq {l0 : List S39} {l1 : List S37} {l2 : List (List Int)} (hN : NetOk l0 l1 l2) (i : Int) (i0 : 0 ≤ i) (i1 : i < l0.length) (n : Nat) (hn : n ≤ l1.length) : talikref04_Warm.f l0 l1 l2 i (n : Int) = some (lowW (qal l0 i) l1 n, highW (qal l0 i) l1 n) := by
 have hh := hN.h1
 have hL := hN.loops _ (rdT39_mem i0 i1)
 have w0 := hL.w0
 have w1 := hL.w1
 have w2 := hL.w2
 unfold talikref04_Warm.f
 rw [end_eq i i0 i1 n hn (by omega) true, end_eq i i0 i1 n hn (by omega) false]
 simp only [Option.bind_some]
 rw [if_pos ⟨i0, i1⟩]
 unfold playR
 rw [play_cold _ _ _ (endL_unfed hN hL n hn true) (by dsimp only; omega) (by dsimp only; omega), play_cold _ _ _ (endL_unfed hN hL n hn false) (by dsimp only; omega) (by dsimp only; omega)]
 rfl
theorem coldL_append (w : Int) (l : List S44) (T : S44) : coldL w (l ++ [T]) = cold T.f0 T.f1 (coldL w l) := by simp [coldL]
theorem low_succ (L : S39) (l1 : List S37) (n : Nat) : lowW L l1 (n + 1) = cold L.f1.f1 (rd_T37 l1 n).f1 (lowW L l1 n) := by
 unfold lowW
 rw [endL_succ, coldL_append]
 rfl
theorem high_succ (L : S39) (l1 : List S37) (n : Nat) : highW L l1 (n + 1) = cold L.f1.f0 (rd_T37 l1 n).f0 (highW L l1 n) := by
 unfold highW
 rw [endL_succ, coldL_append]
 rfl
theorem bitB_zero (i : Int) : bitB 0 i = false := by
 unfold bitB
 rw [Int.zero_ediv]
 rfl
theorem warmth_at {l0 : List S39} {l1 : List S37} {l2 : List (List Int)} (hN : NetOk l0 l1 l2) (i : Int) (i0 : 0 ≤ i) (i1 : i < l0.length) :
  ∀ n : Nat, n ≤ l1.length → wAt (fun h x => leastV l0 l1 0 i h x) (qal l0 i).f0.f0 n = lowW (qal l0 i) l1 n ∧ wAt (fun h x => greatestV l0 l1 0 i h x) (qal l0 i).f0.f1 n = highW (qal l0 i) l1 n := by
 have hL := hN.loops _ (rdT39_mem i0 i1)
 have k0 := hL.k0
 have k1 := hL.k1
 have k2 := hL.k2
 intro n
 induction n with
 | zero => intro _; exact ⟨rfl, rfl⟩
 | succ n ih =>
  intro hn
  obtain ⟨h1, h2⟩ := ih (by omega)
  have hf := frost_at hN n (by omega)
  have hl := low_bd hN hL n (by omega)
  have hh := high_bd hN hL n (by omega)
  rw [low_succ, high_succ]
  refine ⟨?_, ?_⟩
  ·
   show leastV l0 l1 0 i n (wAt (fun h x => leastV l0 l1 0 i h x) (qal l0 i).f0.f0 n) = _
   rw [h1]
   unfold leastV
   rw [bitB_zero]
   exact cold_prog (by show 0 ≤ (qal l0 i).f1.f1; omega) k2 (by omega) hf.2.2 hl.1 hl.2
  ·
   show greatestV l0 l1 0 i n (wAt (fun h x => greatestV l0 l1 0 i h x) (qal l0 i).f0.f1 n) = _
   rw [h2]
   unfold greatestV
   rw [bitB_zero]
   exact cold_prog k0 (by show (qal l0 i).f1.f0 ≤ 1000; omega) hf.1 (by omega) hh.1 hh.2
def rowW (L : S39) (l1 : List S37) (n : Nat) : List S37 := (List.range n).map fun h => ⟨lowW L l1 (h + 1), highW L l1 (h + 1)⟩
theorem rowW_length (L : S39) (l1 : List S37) (n : Nat) : (rowW L l1 n).length = n := by simp [rowW]
theorem warmthV_eq {l0 : List S39} {l1 : List S37} {l2 : List (List Int)} (hN : NetOk l0 l1 l2) (i : Int) (i0 : 0 ≤ i) (i1 : i < l0.length) : warmthV l0 l1 0 i = rowW (qal l0 i) l1 l1.length := by
 unfold warmthV rowW
 refine List.map_congr_left fun h hh => ?_
 have h1 := warmth_at hN i i0 i1 (h + 1) (by have := List.mem_range.1 hh; omega)
 rw [h1.1, h1.2]
theorem low_high {l0 : List S39} {l1 : List S37} {l2 : List (List Int)} (hN : NetOk l0 l1 l2) {L : S39} (hL : LoopOk L) : ∀ n : Nat, n ≤ l1.length → lowW L l1 n ≤ highW L l1 n := by
 intro n
 induction n with
 | zero => intro _; exact hL.w1
 | succ n ih =>
  intro hn
  have hf := frost_at hN n (by omega)
  have hl := low_bd hN hL n (by omega)
  rw [low_succ, high_succ]
  exact cold_mono hL.k2 hL.k1 hL.k0 hf.2.1 hf.1 hl.1 (ih (by omega))
def frz2 : List S37 → Int → Int → Int → Int × Int
 | [], _, may, must => (may, must)
 | s :: t, h, may, must => frz2 t (h + 1) (if may < 0 ∧ s.f0 = 0 then h + 1 else may) (if must < 0 ∧ s.f1 = 0 then h + 1 else must)
theorem frz2_stay : ∀ (t : List S37) (h may must : Int), 0 ≤ may → 0 ≤ must → frz2 t h may must = (may, must)
 | [], _, _, _, _, _ => rfl
 | s :: t, h, may, must, h0, h1 => by
  unfold frz2
  rw [if_neg (by omega), if_neg (by omega)]
  exact frz2_stay t _ _ _ h0 h1
theorem frz_frz2 : ∀ (t : List S37) (h may : Int), 0 ≤ h → (∀ s ∈ t, 0 ≤ s.f0 ∧ s.f0 ≤ s.f1) → frz2 t h may (-1) = frz t h may
 | [], _, _, _, _ => rfl
 | s :: t, h, may, h0, hs => by
  have h1 := hs s (by simp)
  unfold frz2 frz
  by_cases hz : s.f1 = 0
  ·
   rw [if_pos hz, if_pos (show (-1 : Int) < 0 ∧ s.f1 = 0 from ⟨by decide, hz⟩)]
   have e : (if may < 0 ∧ s.f0 = 0 then h + 1 else may) = (if s.f0 = 0 ∧ may < 0 then h + 1 else may) := by
    by_cases hm : may < 0 <;> by_cases h2 : s.f0 = 0 <;> simp [hm, h2]
   rw [e, frz2_stay _ _ _ _ (by split <;> omega) (by omega)]
  ·
   have e2 : (if (-1 : Int) < 0 ∧ s.f1 = 0 then h + 1 else -1) = -1 := if_neg (fun h => hz h.2)
   rw [if_neg hz, e2, frz_frz2 t (h + 1) _ (by omega) (fun x hx => hs x (by simp [hx]))]
   congr 1
   by_cases hm : may < 0 <;> by_cases h2 : s.f0 = 0 <;> simp [hm, h2]
theorem rfreezes_go {l0 : List S39} {l1 : List S37} {l2 : List (List Int)} (hN : NetOk l0 l1 l2) (i : Int) (i0 : 0 ≤ i) (i1 : i < l0.length) :
  ∀ (m j k : Nat) (may must : Int), j + m = l1.length → 2 * m + 80 ≤ k → talikref04_Freezes.l0 k i may must ((j + 1 : Nat) : Int) l0 l1 l2 = some (frz2 ((rowW (qal l0 i) l1 l1.length).drop j) j may must) := by
 have hh := hN.h1
 intro m
 induction m with
 | zero =>
  intro j k may must hj hk
  obtain ⟨k, rfl⟩ : ∃ k', k = k' + 1 := ⟨k - 1, by omega⟩
  unfold talikref04_Freezes.l0
  rw [if_neg (by omega), List.drop_eq_nil_of_le (by rw [rowW_length]; omega)]
  rfl
 | succ m ih =>
  intro j k may must hj hk
  obtain ⟨k, rfl⟩ : ∃ k', k = k' + 2 := ⟨k - 2, by omega⟩
  have hlt : j < (rowW (qal l0 i) l1 l1.length).length := by rw [rowW_length]; omega
  have hat : (rowW (qal l0 i) l1 l1.length)[j] = ⟨lowW (qal l0 i) l1 (j + 1), highW (qal l0 i) l1 (j + 1)⟩ := by simp [rowW]
  have hr := fun a b => ih (j + 1) k a b (by omega) (by omega)
  have hw : wrap64 (((j + 1 : Nat) : Int) + 1) = ((j + 1 + 1 : Nat) : Int) := wsucc (j + 1) (by omega)
  unfold talikref04_Freezes.l0
  rw [if_pos (by omega), warm_eq hN i i0 i1 (j + 1) (by omega), List.drop_eq_getElem_cons hlt, hat]
  simp only [Option.bind_some, frz2]
  have e : ((j : Int) + 1) = ((j + 1 : Nat) : Int) := by omega
  rw [e]
  generalize lowW (qal l0 i) l1 (j + 1) = a
  generalize highW (qal l0 i) l1 (j + 1) = b
  by_cases h1 : may < 0 <;> by_cases h2 : a = 0 <;> by_cases h3 : must < 0 <;> by_cases h4 : b = 0 <;> simp only [h1, h2, h3, h4, talikref04_Freezes.j1, hw, hr, if_true, if_false, and_true, and_false, and_self, true_and, false_and, beq_self_eq_true, beq_iff_eq, decide_false, decide_true, Bool.false_eq_true]
theorem rowW_ok {l0 : List S39} {l1 : List S37} {l2 : List (List Int)} (hN : NetOk l0 l1 l2) {L : S39} (hL : LoopOk L) : ∀ s ∈ rowW L l1 l1.length, 0 ≤ s.f0 ∧ s.f0 ≤ s.f1 := by
 intro s hs
 unfold rowW at hs
 simp only [List.mem_map, List.mem_range] at hs
 obtain ⟨h, hh, rfl⟩ := hs
 exact ⟨(low_bd hN hL (h + 1) (by omega)).1, low_high hN hL (h + 1) (by omega)⟩
theorem rfreezes_eq {l0 : List S39} {l1 : List S37} {l2 : List (List Int)} (hN : NetOk l0 l1 l2) (i : Int) (i0 : 0 ≤ i) (i1 : i < l0.length) (k : Nat) (hk : 230 ≤ k) : talikref04_Freezes.f k l0 l1 l2 i = some (frz (warmthV l0 l1 0 i) 0 (-1)) := by
 have hh := hN.h1
 have h := rfreezes_go hN i i0 i1 l1.length 0 k (-1) (-1) (by omega) (by omega)
 have hL := hN.loops _ (rdT39_mem i0 i1)
 rw [List.drop_zero] at h
 have h2 := frz_frz2 (rowW (qal l0 i) l1 l1.length) 0 (-1) (Int.le_refl _) (rowW_ok hN hL)
 rw [warmthV_eq hN i i0 i1]
 exact h.trans (congrArg some h2)
def Opens {α : Type} (d : Kd α) (t : TypeId) : Prop := ∀ (H : Type) (enc : TypeId × Value → H) (w : World) (base fuel : Nat) (cs : List Value) (x : DataW H × List MemPlace), DataW.trod enc Try.prog w base (fun _ => true) true fuel t cs = some x → ∃ v, d.K w v cs
theorem opens_int : Opens (Kd.int .i64) 3 := by
 intro H enc w base fuel cs x h
 obtain ⟨n, rfl, _, _⟩ := DataW.trod_int Try.underlying3 h
 exact ⟨n, rfl⟩
theorem cell_of_cells {w : World} {base n : Nat} {a : Addr} {cs : List Value} (h : w.cells? base a n = some cs) : cs.length = n ∧ ∀ i u, cs[i]? = some u → w.cell? (a.add i) = some u := by
 unfold World.cells? at h
 split at h
 ·
  refine ⟨by simpa using mapM_some_length h, fun i u hu => ?_⟩
  have hi : i < n := by
   have h1 := mapM_some_length h
   have h2 := (List.getElem?_eq_some_iff.1 hu).1
   simp at h1
   omega
  have h3 := mapM_some_get h i i (by simp [hi])
  rw [h3]
  exact hu
 ·
  cases h
theorem opens_slice {α : Type} {d : Kd α} {t e : TypeId} (z : α) (ht : Try.prog.underlying t = some (.slice e)) (hz : Try.prog.cellsOf e = d.sz) (hd : Opens d e) : Opens (Kd.slice e d) t := by
 intro H enc w base fuel cs x h
 rcases Deep.open_slice ht h with ⟨rfl, _⟩ | ⟨a, len, cap, m, n, D, Pl, rfl, hb, hl, hm, hmm, _, hel⟩
 ·
  exact ⟨[], none, 0, rfl, Nat.le_refl _, rfl, by simp, fun h => absurd h (by simp)⟩
 ·
  simp only [if_true] at hmm
  subst hmm
  haveI : Inhabited (α × List Value) := ⟨(z, [])⟩
  obtain ⟨F, hF⟩ : ∃ F : Nat → α × List Value, ∀ i, i < len → w.cells? base (a.add (i * Try.prog.cellsOf e)) (Try.prog.cellsOf e) = some (F i).2 ∧ d.K w (F i).1 (F i).2 := by
   have hx : ∀ i, i < len → ∃ q : α × List Value, w.cells? base (a.add (i * Try.prog.cellsOf e)) (Try.prog.cellsOf e) = some q.2 ∧ d.K w q.1 q.2 := fun i hi => by
    obtain ⟨cs', h1, h2⟩ := hel i (by omega)
    obtain ⟨v, hv⟩ := hd H enc w base n cs' _ h2
    exact ⟨(v, cs'), h1, hv⟩
   exact Deep.choose_lt hx
  have hlen : ((List.range len).map fun i => (F i).1).length = len := by simp
  refine ⟨(List.range len).map fun i => (F i).1, some a, m, by rw [hlen], by rw [hlen]; exact hl, rfl, ?_, fun _ => ⟨a, rfl, fun j p hj => ?_⟩⟩
  ·
   rw [hlen]
   have : maxLen ≤ 9223372036854775807 := by decide
   omega
  ·
   obtain ⟨hj1, hj2⟩ := List.getElem?_eq_some_iff.1 hj
   have hjl : j < len := by simpa using hj1
   have hp : p = (F j).1 := by simpa using hj2.symm
   subst hp
   obtain ⟨h1, h2⟩ := hF j hjl
   refine ⟨(F j).2, d.K_len h2, h2, fun i u hu => ?_⟩
   have h3 := (cell_of_cells h1).2 i u hu
   rw [Deep.add_add, hz] at h3
   exact h3
theorem K_pair {α β : Type} {a : Kd α} {b : Kd β} {w : World} {cs : List Value} {o : Nat} {x : α} {y : β} (h1 : a.K w x ((cs.drop o).take a.sz)) (h2 : b.K w y (cs.drop (o + a.sz))) : (Kd.pair a b).K w (x, y) (cs.drop o) :=
 ⟨_, _, by have h := (List.take_append_drop a.sz (cs.drop o)).symm; rwa [List.drop_drop] at h, h1, h2⟩
theorem K_last {α : Type} {a : Kd α} {w : World} {cs : List Value} {o : Nat} {x : α} (h1 : a.K w x ((cs.drop o).take a.sz)) (hl : cs.length = o + a.sz) : a.K w x (cs.drop o) := by
 rwa [List.take_of_length_le (by simp; omega)] at h1
theorem field_of {α : Type} {d : Kd α} {t : TypeId} (hd : Opens d t) (hz : Try.prog.cellsOf t = d.sz) {H : Type} {enc : TypeId × Value → H} {w : World} {base n o : Nat} {cs : List Value} {xs : List (DataW H × List MemPlace)} {i : Nat} (hi : i < xs.length)
  (h : DataW.trod enc Try.prog w base (fun _ => true) true n t ((cs.drop o).take (Try.prog.cellsOf t)) = xs[i]?) : ∃ v, d.K w v ((cs.drop o).take d.sz) := by
 rw [hz, List.getElem?_eq_getElem hi] at h
 exact hd H enc w base n _ _ h
theorem opens_37 : Opens k37 37 := by
 intro H enc w base fuel cs x h
 obtain ⟨xs, n, rfl, rfl, hl, hxl, hf⟩ := DataW.trod_struct Try.underlying37 h
 have hl' : cs.length = 2 := hl.trans (by kernel_rfl)
 have hx : xs.length = 2 := hxl
 obtain ⟨v0, e0⟩ := field_of opens_int (by kernel_rfl) (i := 0) (by omega) (hf 0 _ rfl)
 obtain ⟨v1, e1⟩ := field_of opens_int (by kernel_rfl) (i := 1) (by omega) (hf 1 _ rfl)
 exact ⟨⟨v0, v1⟩, K_pair (o := 0) e0 (K_last (o := 0 + 1) e1 hl')⟩
theorem opens_39 : Opens k39 39 := by
 intro H enc w base fuel cs x h
 obtain ⟨xs, n, rfl, rfl, hl, hxl, hf⟩ := DataW.trod_struct Try.underlying39 h
 have hl' : cs.length = 12 := hl.trans (by kernel_rfl)
 have hx : xs.length = 8 := hxl
 obtain ⟨v0, e0⟩ := field_of opens_37 (by kernel_rfl) (i := 0) (by omega) (hf 0 _ rfl)
 obtain ⟨v1, e1⟩ := field_of opens_37 (by kernel_rfl) (i := 1) (by omega) (hf 1 _ rfl)
 obtain ⟨v2, e2⟩ := field_of opens_37 (by kernel_rfl) (i := 2) (by omega) (hf 2 _ rfl)
 obtain ⟨v3, e3⟩ := field_of opens_int (by kernel_rfl) (i := 3) (by omega) (hf 3 _ rfl)
 obtain ⟨v4, e4⟩ := field_of opens_int (by kernel_rfl) (i := 4) (by omega) (hf 4 _ rfl)
 obtain ⟨v5, e5⟩ := field_of opens_int (by kernel_rfl) (i := 5) (by omega) (hf 5 _ rfl)
 obtain ⟨v6, e6⟩ := field_of opens_int (by kernel_rfl) (i := 6) (by omega) (hf 6 _ rfl)
 obtain ⟨v7, e7⟩ := field_of opens_37 (by kernel_rfl) (i := 7) (by omega) (hf 7 _ rfl)
 exact ⟨⟨v0, v1, v2, v3, v4, v5, v6, v7⟩, K_pair (o := 0) e0 (K_pair (o := 0 + 2) e1 (K_pair (o := 0 + 2 + 2) e2 (K_pair (o := 0 + 2 + 2 + 2) e3 (K_pair (o := 0 + 2 + 2 + 2 + 1) e4 (K_pair (o := 0 + 2 + 2 + 2 + 1 + 1) e5 (K_pair (o := 0 + 2 + 2 + 2 + 1 + 1 + 1) e6 (K_last (o := 0 + 2 + 2 + 2 + 1 + 1 + 1 + 1) e7 hl')))))))⟩
theorem opens_22 : Opens (Kd.slice 39 k39) 22 := opens_slice z39 Try.underlying22 (by kernel_rfl) opens_39
theorem opens_23 : Opens (Kd.slice 37 k37) 23 := opens_slice z37 Try.underlying23 (by kernel_rfl) opens_37
theorem opens_47 : Opens (Kd.slice 3 (Kd.int .i64)) 47 := opens_slice 0 Try.underlying47 (by kernel_rfl) opens_int
theorem opens_24 : Opens (Kd.slice 47 (Kd.slice 3 (Kd.int .i64))) 24 := opens_slice [] Try.underlying24 (by kernel_rfl) opens_47
theorem open_net {H : Type} {enc : TypeId × Value → H} {w : World} {b0 : Nat} {v : Value} {d : DataW H} {p : List MemPlace} (hv : Value.okWide Try.prog w .any b0 26 v) (h : DataW.Trod enc Try.prog w 0 (fun _ => true) true 26 v d p) :
  ∃ (A0 : Option Addr) (c0 : Nat) (l0 : List S39) (A1 : Option Addr) (c1 : Nat) (l1 : List S37) (A2 : Option Addr) (c2 : Nat) (l2 : List (List Int)), v = .agg #[.slice A0 l0.length c0, .slice A1 l1.length c1, .slice A2 l2.length c2] ∧
   Kd.C k39 w A0 l0.length l0 ∧ l0.length ≤ c0 ∧ Kd.C k37 w A1 l1.length l1 ∧ l1.length ≤ c1 ∧ Kd.C (Kd.slice 3 (Kd.int .i64)) w A2 l2.length l2 ∧ l2.length ≤ c2 := by
 obtain ⟨v0, v1, v2, y0, y1, y2, n, rfl, _, _, h0, h1, h2⟩ := Joins.open_agg3 Try.underlying26 (by kernel_rfl) (by kernel_rfl) hv h
 obtain ⟨l0, A0, c0, e0, f0, g0⟩ := opens_22 H enc w 0 n _ _ h0
 obtain ⟨l1, A1, c1, e1, f1, g1⟩ := opens_23 H enc w 0 n _ _ h1
 obtain ⟨l2, A2, c2, e2, f2, g2⟩ := opens_24 H enc w 0 n _ _ h2
 injection e0 with e0 _
 injection e1 with e1 _
 injection e2 with e2 _
 subst e0 e1 e2
 exact ⟨A0, c0, l0, A1, c1, l1, A2, c2, l2, rfl, g0, f0, g1, f1, g2, f2⟩
theorem open_nums {H : Type} {enc : TypeId × Value → H} {w : World} {b0 : Nat} {v : Value} {d : DataW H} {p : List MemPlace} (hv : Value.okWide Try.prog w .any b0 47 v) (h : DataW.Trod enc Try.prog w 0 (fun _ => true) true 47 v d p) :
  ∃ (A : Option Addr) (c : Nat) (l : List Int), v = .slice A l.length c ∧ Kd.C (Kd.int .i64) w A l.length l ∧ l.length ≤ c := by
 obtain ⟨a, len, cap, rfl⟩ := WideShapes.okWide_slice Try.underlying47 hv
 obtain ⟨n, hn⟩ := h
 obtain ⟨l, A, c, e, f, g⟩ := opens_47 H enc w 0 n _ _ hn
 simp [Value.cells] at e
 obtain ⟨rfl, rfl, rfl⟩ := e
 exact ⟨_, _, l, rfl, g, f⟩
end Go.Proofs.Ytipphcjgdebecaa.PA
