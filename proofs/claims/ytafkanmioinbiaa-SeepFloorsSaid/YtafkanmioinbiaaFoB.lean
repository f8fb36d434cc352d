/- What functions of the program answer. No condition. -/
import Derived.Test.YtafkanmioinbiaaSC
import Derived.Test.YtafkanmioinbiaaSH
import Derived.Test.YtafkanmioinbiaaSF
import Derived.Test.YtafkanmioinbiaaSL
import Derived.Test.YtafkanmioinbiaaSQ
import Derived.Test.YtafkanmioinbiaaFoA
import Derived.RangeFuncNested
import Derived.RangeFuncBound
import Derived.RangeFuncCalls
import Derived.RangeFuncLeaves
import Derived.RangeFuncBox
import Derived.Shelf.Abstract
import Derived.Shelf.RegionOpen
import Derived.OwnWalkIn
import Derived.TacticsInMore
import Derived.LoopNIn
import Derived.LoopIn
import Derived.Recover
import Derived.Defers
import Derived.WalkLawsBesides
import Derived.WalkSmall
import Derived.Test.YtafkanmioinbiaaSD
import Derived.Test.YtafkanmioinbiaaSE
import Derived.Test.YtafkanmioinbiaaSG
import Derived.Test.YtafkanmioinbiaaSJ
import Derived.Test.YtafkanmioinbiaaSK
import Derived.Test.YtafkanmioinbiaaSM
import Derived.Test.YtafkanmioinbiaaSI
set_option linter.all false
set_option maxRecDepth 100000
set_option maxHeartbeats 8000000
namespace Go.Proofs.Ytafkanmioinbiaa.SA
open Go.RowKit Go.Proofs.YtafkanmioinbiaaW.PrintWords Go.Proofs.YtafkanmioinbiaaW.PrintLast Go.Proofs.YtafkanmioinbiaaW.PrintMore
attribute [local go_sem] qax qaz max_two min_two qao qap qay qba
end Go.Proofs.Ytafkanmioinbiaa.SA
namespace Go.Proofs.Ytafkanmioinbiaa.SA
open Go.RowKit Go.Shelf Go.Proofs.YtafkanmioinbiaaW.PrintWords Go.Proofs.YtafkanmioinbiaaW.PrintLast Go.Proofs.YtafkanmioinbiaaW.PrintMore
attribute [local go_sem] qax qaz max_two min_two qao qap qay qba
end Go.Proofs.Ytafkanmioinbiaa.SA
namespace Go.Proofs.Ytafkanmioinbiaa.SA
open Go.RowKit Go.Proofs.YtafkanmioinbiaaW.PrintWords Go.Proofs.YtafkanmioinbiaaW.PrintLast Go.Proofs.YtafkanmioinbiaaW.PrintMore
attribute [local go_sem] qax qaz max_two min_two qao qap qay qba
mutual
def taliklaw07_brief.l0 : Nat → List (List Int) → Int → Option (Bool)
 | 0, _, _ => none
 | k + 1, x0, x3 => if x3 < (x0.length : Int) then (taliklaw07_brief.j1 k x0 x3 (decide (x3 < 15))) else (taliklaw07_brief.j1 k x0 x3 false)
def taliklaw07_brief.j1 : Nat → List (List Int) → Int → Bool → Option (Bool)
 | 0, _, _, _ => none
 | k + 1, x0, x3, x11 => if x11 = true then (if 0 ≤ x3 then (if x3 < (x0.length : Int) then (if ((rd_L4 x0 x3).length : Int) > 20 then (some false) else (taliklaw07_brief.l0 k x0 (wrap64 (x3 + 1)))) else (none)) else (none)) else (some (decide ((x0.length : Int) ≤ 15)))
end
def taliklaw07_brief.f (k : Nat) (l0 : List (List Int)) : Option (Bool) := taliklaw07_brief.l0 k l0 0
theorem taliklaw07_brief.calls (k : Nat) (A0 : Option Addr) (c0 : Nat) (l0 : List (List Int)) (r : Bool) (w : World) (hr0 : Kd.C (Kd.slice 3 (Kd.int .i64)) w A0 l0.length l0) (hc0 : l0.length ≤ c0) (h : taliklaw07_brief.f k l0 = some r) :
  Calls Try.prog 38 #[.slice A0 l0.length c0] w fun e w' => e = .returned (.bool r) ∧ qar w w' := by
 have HR0 := qab.mk hr0
 have HC0 := qab.mk hc0
 clear hr0 hc0
 have H : (taliklaw07_brief.l0 k l0 0) = some r := h
 clear h
 have H' := qab.mk H
 clear H
 go_enter Try.func38, Try.ntmps38
 go_wp2
 go_loopg [3] k (fun kq v3 w' => ∃ (x3_1 : Int), v3 = .int .i64 x3_1 ∧ qab (taliklaw07_brief.l0 kq l0 x3_1 = some r) ∧ qab (kq ≤ k) ∧ qar w w')
 case atStart => exact ⟨(0), (by first | rfl | (simp; done) | (simp [*]; done)), H', ⟨Nat.le_refl _⟩, by repeat (first | exact qar.refl _ | apply qar.step)⟩
 case round =>
  clear H'
  obtain ⟨x3_1, rfl, HA, HK1, ⟨m1, rfl⟩⟩ := hrel
  cases gk with
  | zero => exact absurd HA.out (by simp [taliklaw07_brief.l0])
  | succ k1 =>
   have H := HA.out
   clear HA
   simp only [taliklaw07_brief.l0] at H
   have HC2 := qab.mk H
   clear H
   go_upto_region 2 with (fail)
   go_cut [11] (fun v11 wc => ∃ (kq : Nat) (x11_1 : Bool), v11 = .bool x11_1 ∧ qab (taliklaw07_brief.j1 kq l0 x3_1 x11_1 = some r) ∧ qab (kq ≤ k1) ∧ qar w wc)
   case first =>
    have H := HC2.out
    clear HC2
    by_cases c3 : x3_1 < (l0.length : Int)
    ·
     rw [if_pos c3] at H
     have c3b0 : decide (x3_1 < (l0.length : Int)) = true := decide_eq_true c3
     clear c3
     (first | rw [c3b0] | (simp only [i64_w, i32_w]; rw [c3b0]) | skip)
     have H' := qab.mk H
     clear H
     go_wp2
     go_meet
     case rel => exact ⟨_, (decide (x3_1 < 15)), (by first | rfl | (simp; done) | (simp [*]; done)), H', ⟨by have := HK1.out; first | omega | exact Nat.le_refl _⟩, by repeat (first | exact qar.refl _ | apply qar.step)⟩
    ·
     rw [if_neg c3] at H
     have c3b0 : decide (x3_1 < (l0.length : Int)) = false := decide_eq_false c3
     clear c3
     (first | rw [c3b0] | (simp only [i64_w, i32_w]; rw [c3b0]) | skip)
     have H' := qab.mk H
     clear H
     go_wp2
     go_meet
     case rel => exact ⟨_, (false), (by first | rfl | (simp; done) | (simp [*]; done)), H', ⟨by have := HK1.out; first | omega | exact Nat.le_refl _⟩, by repeat (first | exact qar.refl _ | apply qar.step)⟩
   case rest =>
    clear HC2
    try clear p2
    try clear c3
    try clear c3b0
    obtain ⟨kq, x11_1, rfl, HA, HJ1, ⟨mc1, rfl⟩⟩ := hcut
    cases kq with
    | zero => exact absurd HA.out (by simp [taliklaw07_brief.j1])
    | succ kj1 =>
     have H := HA.out
     clear HA
     simp only [taliklaw07_brief.j1] at H
     by_cases c4 : x11_1 = true
     ·
      subst c4
      rw [if_pos rfl] at H
      by_cases c5 : 0 ≤ x3_1
      ·
       rw [if_pos c5] at H
       have c5b0 : decide (0 ≤ x3_1) = true := decide_eq_true c5
       clear c5
       by_cases c6 : x3_1 < (l0.length : Int)
       ·
        rw [if_pos c6] at H
        have c6b0 : decide (x3_1 < (l0.length : Int)) = true := decide_eq_true c6
        clear c6
        by_cases c7 : ((rd_L4 l0 x3_1).length : Int) > 20
        ·
         rw [if_pos c7] at H
         have c7b0 : decide (20 < ((rd_L4 l0 x3_1).length : Int)) = true := decide_eq_true c7
         have c7b1 : decide (20 < (rd_L4 l0 x3_1).length) = true := decide_eq_true (by omega)
         clear c7
         obtain rfl := Option.some.inj H
         have p468 : 0 ≤ (x3_1 : Int) := of_decide_eq_true (by first | (with_reducible assumption) | assumption)
         have q468 : x3_1 < (l0.length : Int) := of_decide_eq_true (by first | (with_reducible assumption) | assumption)
         obtain ⟨ad468, A468_0, c468_0, e468, hx468_0, hl468_0, hi468_0⟩ := at_L4 HR0.out x3_1 p468 q468
         cases e468
         have HR468_0 := qab.mk hi468_0
         have HC468_0 := qab.mk hl468_0
         clear hi468_0 hl468_0
         replace p468 := eq_true p468
         replace q468 := eq_true q468
         go_wp2
         go_ret
         exact ⟨by first | rfl | (simp; done) | (simp [*]; done), by repeat (first | exact qar.refl _ | apply qar.step)⟩
        ·
         rw [if_neg c7] at H
         have c7b0 : decide (20 < ((rd_L4 l0 x3_1).length : Int)) = false := decide_eq_false c7
         have c7b1 : decide (20 < (rd_L4 l0 x3_1).length) = false := decide_eq_false (by omega)
         clear c7
         have H' := qab.mk H
         clear H
         have p468 : 0 ≤ (x3_1 : Int) := of_decide_eq_true (by first | (with_reducible assumption) | assumption)
         have q468 : x3_1 < (l0.length : Int) := of_decide_eq_true (by first | (with_reducible assumption) | assumption)
         obtain ⟨ad468, A468_0, c468_0, e468, hx468_0, hl468_0, hi468_0⟩ := at_L4 HR0.out x3_1 p468 q468
         cases e468
         have HR468_0 := qab.mk hi468_0
         have HC468_0 := qab.mk hl468_0
         clear hi468_0 hl468_0
         replace p468 := eq_true p468
         replace q468 := eq_true q468
         go_wp2
         go_roundg kj1
         case measure => have := HK1.out; have := HJ1.out; omega
         case rel => exact ⟨(wrap64 (x3_1 + 1)), (by first | rfl | (simp; done) | (simp [*]; done)), H', ⟨by have := HK1.out; have := HJ1.out; omega⟩, by repeat (first | exact qar.refl _ | apply qar.step)⟩
       ·
        rw [if_neg c6] at H
        exact absurd H (by simp)
      ·
       rw [if_neg c5] at H
       exact absurd H (by simp)
     ·
      replace c4 := Bool.eq_false_iff.mpr c4
      subst c4
      rw [if_neg (show ¬ (false = true) by decide)] at H
      obtain rfl := Option.some.inj H
      go_wp2
      go_ret
      exact ⟨by first | rfl | (simp; done) | (simp [*]; done), by repeat (first | exact qar.refl _ | apply qar.step)⟩
mutual
def talikref07_Edges.l0 : Nat → List (List Int) → Int → Int → List (S44) → List Int → List Int → List (S41) → List (S95) → Option (Bool)
 | 0, _, _, _, _, _, _, _, _ => none
 | k + 1, x1, x5, x470000, x470001, x470002, x470003, x470004, x470005 => if x5 < (x1.length : Int) then (talikref07_Edges.l1 k x1 x5 0 x470000 x470001 x470002 x470003 x470004 x470005) else (some true)
def talikref07_Edges.l1 : Nat → List (List Int) → Int → Int → Int → List (S44) → List Int → List Int → List (S41) → List (S95) → Option (Bool)
 | 0, _, _, _, _, _, _, _, _, _ => none
 | k + 1, x1, x5, x6, x470000, x470001, x470002, x470003, x470004, x470005 => if 0 ≤ x5 then (if x5 < (x1.length : Int) then (if x6 < ((rd_L4 x1 x5).length : Int) then (if 0 ≤ x6 then ((talikref07_in.f (rd (rd_L4 x1 x5) x6) 0 (wrap64 ((x470001.length : Int) - 1))).bind fun t473 => (if t473 = true then (talikref07_Edges.l1 k x1 x5 (wrap64 (x6 + 1)) x470000 x470001 x470002 x470003 x470004 x470005) else (some false))) else (none)) else (talikref07_Edges.l0 k x1 (wrap64 (x5 + 1)) x470000 x470001 x470002 x470003 x470004 x470005)) else (none)) else (none)
end
def talikref07_Edges.f (k : Nat) (a0_0 : Int) (l0_1 : List (S44)) (l0_2 : List Int) (l0_3 : List Int) (l0_4 : List (S41)) (l0_5 : List (S95)) (l1 : List (List Int)) : Option (Bool) := talikref07_Edges.l0 k l1 0 a0_0 l0_1 l0_2 l0_3 l0_4 l0_5
theorem talikref07_Edges.calls (k : Nat) (a0_0 : Int) (A0_1 : Option Addr) (c0_1 : Nat) (l0_1 : List (S44)) (A0_2 : Option Addr) (c0_2 : Nat) (l0_2 : List Int) (A0_3 : Option Addr) (c0_3 : Nat) (l0_3 : List Int) (A0_4 : Option Addr) (c0_4 : Nat) (l0_4 : List (S41)) (A0_5 : Option Addr) (c0_5 : Nat) (l0_5 : List (S95)) (A1 : Option Addr) (c1 : Nat) (l1 : List (List Int)) (r : Bool) (w : World) (hr0_1 : Kd.C k44 w A0_1 l0_1.length l0_1) (hc0_1 : l0_1.length ≤ c0_1) (hr0_2 : Kd.C (Kd.int .i64) w A0_2 l0_2.length l0_2) (hc0_2 : l0_2.length ≤ c0_2) (hr0_3 : Kd.C (Kd.int .i64) w A0_3 l0_3.length l0_3) (hc0_3 : l0_3.length ≤ c0_3) (hr0_4 : Kd.C k41 w A0_4 l0_4.length l0_4) (hc0_4 : l0_4.length ≤ c0_4) (hr0_5 : Kd.C k95 w A0_5 l0_5.length l0_5) (hc0_5 : l0_5.length ≤ c0_5) (hr1 : Kd.C (Kd.slice 3 (Kd.int .i64)) w A1 l1.length l1) (hc1 : l1.length ≤ c1) (h : talikref07_Edges.f k a0_0 l0_1 l0_2 l0_3 l0_4 l0_5 l1 = some r) :
  Calls Try.prog 82 #[.agg #[.int .i64 a0_0, .slice A0_1 l0_1.length c0_1, .slice A0_2 l0_2.length c0_2, .slice A0_3 l0_3.length c0_3, .slice A0_4 l0_4.length c0_4, .slice A0_5 l0_5.length c0_5], .slice A1 l1.length c1] w fun e w' => e = .returned (.bool r) ∧ Below w.heap.size w w' := by
 have hu27 := Try.underlying27
 have HR0_1 := qab.mk hr0_1
 have HC0_1 := qab.mk hc0_1
 clear hr0_1 hc0_1
 have HR0_2 := qab.mk hr0_2
 have HC0_2 := qab.mk hc0_2
 clear hr0_2 hc0_2
 have HR0_3 := qab.mk hr0_3
 have HC0_3 := qab.mk hc0_3
 clear hr0_3 hc0_3
 have HR0_4 := qab.mk hr0_4
 have HC0_4 := qab.mk hc0_4
 clear hr0_4 hc0_4
 have HR0_5 := qab.mk hr0_5
 have HC0_5 := qab.mk hc0_5
 clear hr0_5 hc0_5
 have HR1 := qab.mk hr1
 have HC1 := qab.mk hc1
 clear hr1 hc1
 have HB := qab.mk (Below.refl w.heap.size w)
 have H : (talikref07_Edges.l0 k l1 0 a0_0 l0_1 l0_2 l0_3 l0_4 l0_5) = some r := h
 clear h
 have H' := qab.mk H
 clear H
 go_enter Try.func82, Try.ntmps82
 go_wp2_with (first | ((with_reducible refine qam (N := 2) rfl ?_); refine ze 2 #[.int .i64 a0_0, .slice A0_1 l0_1.length c0_1, .slice A0_2 l0_2.length c0_2, .slice A0_3 l0_3.length c0_3, .slice A0_4 l0_4.length c0_4, .slice A0_5 l0_5.length c0_5] 27 ?_; intro gb469 hg w3 hbox hb; have n0_ := qab.mk (qae (zb HB.out) hb); have n1_ := qab.mk (hbox); have n2_ := qab.mk ((by rw [hg]; exact (below_size (zb HB.out)) : w.heap.size ≤ gb469)); have n3_ := qab.mk ((by rw [hg]; exact (below_size (zb HB.out)) : w.heap.size ≤ gb469)); clear HB; have HB := n0_; have BK469 := n1_; have GW469 := n2_; have GE469 := n3_; clear n0_ n1_ n2_ n3_; clear hb hbox hg))
 repeat (go_quiet (first | ((with_reducible refine qam (N := 2) rfl ?_); refine ze 2 #[.int .i64 a0_0, .slice A0_1 l0_1.length c0_1, .slice A0_2 l0_2.length c0_2, .slice A0_3 l0_3.length c0_3, .slice A0_4 l0_4.length c0_4, .slice A0_5 l0_5.length c0_5] 27 ?_; intro gb469 hg w3 hbox hb; have n0_ := qab.mk (qae (zb HB.out) hb); have n1_ := qab.mk (hbox); have n2_ := qab.mk ((by rw [hg]; exact (below_size (zb HB.out)) : w.heap.size ≤ gb469)); have n3_ := qab.mk ((by rw [hg]; exact (below_size (zb HB.out)) : w.heap.size ≤ gb469)); clear HB; have HB := n0_; have BK469 := n1_; have GW469 := n2_; have GE469 := n3_; clear n0_ n1_ n2_ n3_; clear hb hbox hg)); try go_wp2_with (first | ((with_reducible refine qam (N := 2) rfl ?_); refine ze 2 #[.int .i64 a0_0, .slice A0_1 l0_1.length c0_1, .slice A0_2 l0_2.length c0_2, .slice A0_3 l0_3.length c0_3, .slice A0_4 l0_4.length c0_4, .slice A0_5 l0_5.length c0_5] 27 ?_; intro gb469 hg w3 hbox hb; have n0_ := qab.mk (qae (zb HB.out) hb); have n1_ := qab.mk (hbox); have n2_ := qab.mk ((by rw [hg]; exact (below_size (zb HB.out)) : w.heap.size ≤ gb469)); have n3_ := qab.mk ((by rw [hg]; exact (below_size (zb HB.out)) : w.heap.size ≤ gb469)); clear HB; have HB := n0_; have BK469 := n1_; have GW469 := n2_; have GE469 := n3_; clear n0_ n1_ n2_ n3_; clear hb hbox hg)))
 go_loopg [5] k (fun kq v5 w' => ∃ (x5_1 : Int), v5 = .int .i64 x5_1 ∧ qab (talikref07_Edges.l0 kq l1 x5_1 a0_0 l0_1 l0_2 l0_3 l0_4 l0_5 = some r) ∧ qab (kq ≤ k) ∧ qab (w'.heap[gb469]? = some (.cells #[.int .i64 a0_0, (.slice A0_1 l0_1.length c0_1), (.slice A0_2 l0_2.length c0_2), (.slice A0_3 l0_3.length c0_3), (.slice A0_4 l0_4.length c0_4), (.slice A0_5 l0_5.length c0_5)] 27 (0, 0))) ∧ qab (Below w.heap.size w w'))
 case atStart => exact ⟨(0), (by first | rfl | (simp; done) | (simp [*]; done)), H', ⟨Nat.le_refl _⟩, ⟨zj BK469.out⟩, ⟨by repeat (first | (with_reducible first | exact HB.out | apply qag | apply qaf | apply qah | refine qaj ?_ GE469.out) | exact HB.out)⟩⟩
 case round =>
  clear H'
  try clear c1
  try clear p2
  obtain ⟨x5_1, rfl, HA, HK1, BK469, HB⟩ := hrel
  cases gk with
  | zero => exact absurd HA.out (by simp [talikref07_Edges.l0])
  | succ k1 =>
   have H := HA.out
   clear HA
   simp only [talikref07_Edges.l0] at H
   by_cases c4 : x5_1 < (l1.length : Int)
   ·
    rw [if_pos c4] at H
    have c4b0 : decide (x5_1 < (l1.length : Int)) = true := decide_eq_true c4
    clear c4
    have H' := qab.mk H
    clear H
    go_wp2
    repeat (go_quiet (fail); try go_wp2)
    go_loopg [6] k1 (fun kq v6 w' => ∃ (x6_2 : Int), v6 = .int .i64 x6_2 ∧ qab (talikref07_Edges.l1 kq l1 x5_1 x6_2 a0_0 l0_1 l0_2 l0_3 l0_4 l0_5 = some r) ∧ qab (kq ≤ k1) ∧ qab (w'.heap[gb469]? = some (.cells #[.int .i64 a0_0, (.slice A0_1 l0_1.length c0_1), (.slice A0_2 l0_2.length c0_2), (.slice A0_3 l0_3.length c0_3), (.slice A0_4 l0_4.length c0_4), (.slice A0_5 l0_5.length c0_5)] 27 (0, 0))) ∧ qab (Below w.heap.size w w'))
    case atStart => exact ⟨(0), (by first | rfl | (simp; done) | (simp [*]; done)), H', ⟨Nat.le_refl _⟩, ⟨zj BK469.out⟩, ⟨by repeat (first | (with_reducible first | exact HB.out | apply qag | apply qaf | apply qah | refine qaj ?_ GE469.out) | exact HB.out)⟩⟩
    case round =>
     clear H'
     try clear c1
     try clear p2
     try clear c4
     try clear c4b0
     try clear p2
     obtain ⟨x6_2, rfl, HA, HK2, BK469, HB⟩ := hrel
     cases gk with
     | zero => exact absurd HA.out (by simp [talikref07_Edges.l1])
     | succ k2 =>
      have H := HA.out
      clear HA
      simp only [talikref07_Edges.l1] at H
      by_cases c5 : 0 ≤ x5_1
      ·
       rw [if_pos c5] at H
       have c5b0 : decide (0 ≤ x5_1) = true := decide_eq_true c5
       clear c5
       by_cases c6 : x5_1 < (l1.length : Int)
       ·
        rw [if_pos c6] at H
        have c6b0 : decide (x5_1 < (l1.length : Int)) = true := decide_eq_true c6
        clear c6
        by_cases c7 : x6_2 < ((rd_L4 l1 x5_1).length : Int)
        ·
         rw [if_pos c7] at H
         have c7b0 : decide (x6_2 < ((rd_L4 l1 x5_1).length : Int)) = true := decide_eq_true c7
         clear c7
         by_cases c8 : 0 ≤ x6_2
         ·
          rw [if_pos c8] at H
          have c8b0 : decide (0 ≤ x6_2) = true := decide_eq_true c8
          clear c8
          replace H := Option.bind_eq_some_iff.mp H
          obtain ⟨t473, A90, H⟩ := H
          try dsimp only at H
          have A9 := qab.mk A90
          clear A90
          by_cases c10 : t473 = true
          ·
           subst c10
           rw [if_pos rfl] at H
           have H' := qab.mk H
           clear H
           have p470 : 0 ≤ (x5_1 : Int) := of_decide_eq_true (by first | (with_reducible assumption) | assumption)
           have q470 : x5_1 < (l1.length : Int) := of_decide_eq_true (by first | (with_reducible assumption) | assumption)
           obtain ⟨ad470, A470_0, c470_0, e470, hx470_0, hl470_0, hi470_0⟩ := at_L4 HR1.out x5_1 p470 q470
           cases e470
           replace hx470_0 := (HB.out.cell (World.block_lt_of_cell? w _ hx470_0)).trans hx470_0
           have HR470_0 := qab.mk hi470_0
           have HC470_0 := qab.mk hl470_0
           clear hi470_0 hl470_0
           replace p470 := eq_true p470
           replace q470 := eq_true q470
           have p471 : 0 ≤ (x5_1 : Int) := of_decide_eq_true (by first | (with_reducible assumption) | assumption)
           have q471 : x5_1 < (l1.length : Int) := of_decide_eq_true (by first | (with_reducible assumption) | assumption)
           obtain ⟨ad471, A471_0, c471_0, e471, hx471_0, hl471_0, hi471_0⟩ := at_L4 HR1.out x5_1 p471 q471
           obtain rfl : ad470 = ad471 := (by injection e471)
           replace hx471_0 := (HB.out.cell (World.block_lt_of_cell? w _ hx471_0)).trans hx471_0
           have HR471_0 := qab.mk hi471_0
           have HC471_0 := qab.mk hl471_0
           clear hi471_0 hl471_0
           replace p471 := eq_true p471
           replace q471 := eq_true q471
           have ea_ := Option.some.inj (hx470_0.symm.trans hx471_0)
           injection ea_ with ea_ en_ ec_
           subst ea_
           subst ec_
           clear en_
           have p472 : 0 ≤ (x6_2 : Int) := of_decide_eq_true (by first | (with_reducible assumption) | assumption)
           have q472 : x6_2 < ((rd_L4 l1 x5_1).length : Int) := of_decide_eq_true (by first | (with_reducible assumption) | assumption)
           obtain ⟨ad472, e472, hx472_0⟩ := Kd.at_int HR471_0.out x6_2 p472 q472
           cases e472
           replace hx472_0 := (HB.out.cell (World.block_lt_of_cell? w _ hx472_0)).trans hx472_0
           replace p472 := eq_true p472
           replace q472 := eq_true q472
           obtain ⟨hfz_, hcz11_0, hcz11_1, hcz11_2, hcz11_3, hcz11_4, hcz11_5⟩ := qz6 BK469.out
           go_wp2_with (first | (go_at_call 57; (with_reducible refine (talikref07_in.calls (rd (rd_L4 l1 x5_1) x6_2) 0 (wrap64 ((l0_1.length : Int) - 1)) true _ A9.out).mono ?_); rintro e w' ⟨rfl, ⟨nd, rfl⟩⟩; (try first | exact ⟨rfl, _, World.drewN_drewN _ _ _⟩ | exact ⟨rfl, _, Eq.trans (World.drewN_drewN _ _ _) (congrArg (World.drewN _) (Nat.add_assoc _ _ _))⟩)))
           repeat (go_quiet (first | (go_at_call 57; (with_reducible refine (talikref07_in.calls (rd (rd_L4 l1 x5_1) x6_2) 0 (wrap64 ((l0_1.length : Int) - 1)) true _ A9.out).mono ?_); rintro e w' ⟨rfl, ⟨nd, rfl⟩⟩; (try first | exact ⟨rfl, _, World.drewN_drewN _ _ _⟩ | exact ⟨rfl, _, Eq.trans (World.drewN_drewN _ _ _) (congrArg (World.drewN _) (Nat.add_assoc _ _ _))⟩))); try go_wp2_with (first | (go_at_call 57; (with_reducible refine (talikref07_in.calls (rd (rd_L4 l1 x5_1) x6_2) 0 (wrap64 ((l0_1.length : Int) - 1)) true _ A9.out).mono ?_); rintro e w' ⟨rfl, ⟨nd, rfl⟩⟩; (try first | exact ⟨rfl, _, World.drewN_drewN _ _ _⟩ | exact ⟨rfl, _, Eq.trans (World.drewN_drewN _ _ _) (congrArg (World.drewN _) (Nat.add_assoc _ _ _))⟩))))
           go_roundg k2
           case measure => have := HK1.out; have := HK2.out; omega
           case rel => exact ⟨(wrap64 (x6_2 + 1)), (by first | rfl | (simp; done) | (simp [*]; done)), H', ⟨by have := HK1.out; have := HK2.out; omega⟩, ⟨zj BK469.out⟩, ⟨by repeat (first | (with_reducible first | exact HB.out | apply qag | apply qaf | apply qah | refine qaj ?_ GE469.out) | exact HB.out)⟩⟩
          ·
           replace c10 := Bool.eq_false_iff.mpr c10
           subst c10
           rw [if_neg (show ¬ (false = true) by decide)] at H
           obtain rfl := Option.some.inj H
           have p470 : 0 ≤ (x5_1 : Int) := of_decide_eq_true (by first | (with_reducible assumption) | assumption)
           have q470 : x5_1 < (l1.length : Int) := of_decide_eq_true (by first | (with_reducible assumption) | assumption)
           obtain ⟨ad470, A470_0, c470_0, e470, hx470_0, hl470_0, hi470_0⟩ := at_L4 HR1.out x5_1 p470 q470
           cases e470
           replace hx470_0 := (HB.out.cell (World.block_lt_of_cell? w _ hx470_0)).trans hx470_0
           have HR470_0 := qab.mk hi470_0
           have HC470_0 := qab.mk hl470_0
           clear hi470_0 hl470_0
           replace p470 := eq_true p470
           replace q470 := eq_true q470
           have p471 : 0 ≤ (x5_1 : Int) := of_decide_eq_true (by first | (with_reducible assumption) | assumption)
           have q471 : x5_1 < (l1.length : Int) := of_decide_eq_true (by first | (with_reducible assumption) | assumption)
           obtain ⟨ad471, A471_0, c471_0, e471, hx471_0, hl471_0, hi471_0⟩ := at_L4 HR1.out x5_1 p471 q471
           obtain rfl : ad470 = ad471 := (by injection e471)
           replace hx471_0 := (HB.out.cell (World.block_lt_of_cell? w _ hx471_0)).trans hx471_0
           have HR471_0 := qab.mk hi471_0
           have HC471_0 := qab.mk hl471_0
           clear hi471_0 hl471_0
           replace p471 := eq_true p471
           replace q471 := eq_true q471
           have ea_ := Option.some.inj (hx470_0.symm.trans hx471_0)
           injection ea_ with ea_ en_ ec_
           subst ea_
           subst ec_
           clear en_
           have p472 : 0 ≤ (x6_2 : Int) := of_decide_eq_true (by first | (with_reducible assumption) | assumption)
           have q472 : x6_2 < ((rd_L4 l1 x5_1).length : Int) := of_decide_eq_true (by first | (with_reducible assumption) | assumption)
           obtain ⟨ad472, e472, hx472_0⟩ := Kd.at_int HR471_0.out x6_2 p472 q472
           cases e472
           replace hx472_0 := (HB.out.cell (World.block_lt_of_cell? w _ hx472_0)).trans hx472_0
           replace p472 := eq_true p472
           replace q472 := eq_true q472
           obtain ⟨hfz_, hcz12_0, hcz12_1, hcz12_2, hcz12_3, hcz12_4, hcz12_5⟩ := qz6 BK469.out
           go_wp2_with (first | (go_at_call 57; (with_reducible refine (talikref07_in.calls (rd (rd_L4 l1 x5_1) x6_2) 0 (wrap64 ((l0_1.length : Int) - 1)) false _ A9.out).mono ?_); rintro e w' ⟨rfl, ⟨nd, rfl⟩⟩; (try first | exact ⟨rfl, _, World.drewN_drewN _ _ _⟩ | exact ⟨rfl, _, Eq.trans (World.drewN_drewN _ _ _) (congrArg (World.drewN _) (Nat.add_assoc _ _ _))⟩)))
           repeat (go_quiet (first | (go_at_call 57; (with_reducible refine (talikref07_in.calls (rd (rd_L4 l1 x5_1) x6_2) 0 (wrap64 ((l0_1.length : Int) - 1)) false _ A9.out).mono ?_); rintro e w' ⟨rfl, ⟨nd, rfl⟩⟩; (try first | exact ⟨rfl, _, World.drewN_drewN _ _ _⟩ | exact ⟨rfl, _, Eq.trans (World.drewN_drewN _ _ _) (congrArg (World.drewN _) (Nat.add_assoc _ _ _))⟩))); try go_wp2_with (first | (go_at_call 57; (with_reducible refine (talikref07_in.calls (rd (rd_L4 l1 x5_1) x6_2) 0 (wrap64 ((l0_1.length : Int) - 1)) false _ A9.out).mono ?_); rintro e w' ⟨rfl, ⟨nd, rfl⟩⟩; (try first | exact ⟨rfl, _, World.drewN_drewN _ _ _⟩ | exact ⟨rfl, _, Eq.trans (World.drewN_drewN _ _ _) (congrArg (World.drewN _) (Nat.add_assoc _ _ _))⟩))))
           go_ret
           exact ⟨by first | rfl | (simp [qbb, qbc] <;> rfl) | (simp [*, qbb, qbc] <;> rfl), by repeat (first | (with_reducible first | exact HB.out | apply qag | apply qaf | apply qah | refine qaj ?_ GE469.out) | exact HB.out)⟩
         ·
          rw [if_neg c8] at H
          exact absurd H (by simp)
        ·
         rw [if_neg c7] at H
         have c7b0 : decide (x6_2 < ((rd_L4 l1 x5_1).length : Int)) = false := decide_eq_false c7
         clear c7
         have H' := qab.mk H
         clear H
         have p470 : 0 ≤ (x5_1 : Int) := of_decide_eq_true (by first | (with_reducible assumption) | assumption)
         have q470 : x5_1 < (l1.length : Int) := of_decide_eq_true (by first | (with_reducible assumption) | assumption)
         obtain ⟨ad470, A470_0, c470_0, e470, hx470_0, hl470_0, hi470_0⟩ := at_L4 HR1.out x5_1 p470 q470
         cases e470
         replace hx470_0 := (HB.out.cell (World.block_lt_of_cell? w _ hx470_0)).trans hx470_0
         have HR470_0 := qab.mk hi470_0
         have HC470_0 := qab.mk hl470_0
         clear hi470_0 hl470_0
         replace p470 := eq_true p470
         replace q470 := eq_true q470
         go_wp2
         repeat (go_quiet (fail); try go_wp2)
         go_roundg k2
         case measure => have := HK1.out; have := HK2.out; omega
         case rel => exact ⟨(wrap64 (x5_1 + 1)), (by first | rfl | (simp; done) | (simp [*]; done)), H', ⟨by have := HK1.out; have := HK2.out; omega⟩, ⟨zj BK469.out⟩, ⟨by repeat (first | (with_reducible first | exact HB.out | apply qag | apply qaf | apply qah | refine qaj ?_ GE469.out) | exact HB.out)⟩⟩
       ·
        rw [if_neg c6] at H
        exact absurd H (by simp)
      ·
       rw [if_neg c5] at H
       exact absurd H (by simp)
   ·
    rw [if_neg c4] at H
    have c4b0 : decide (x5_1 < (l1.length : Int)) = false := decide_eq_false c4
    clear c4
    obtain rfl := Option.some.inj H
    go_wp2
    repeat (go_quiet (fail); try go_wp2)
    go_ret
    exact ⟨by first | rfl | (simp [qbb, qbc] <;> rfl) | (simp [*, qbb, qbc] <;> rfl), by repeat (first | (with_reducible first | exact HB.out | apply qag | apply qaf | apply qah | refine qaj ?_ GE469.out) | exact HB.out)⟩
def talikref07_Prices.l0 : Nat → List Int → Int → Option (Bool)
 | 0, _, _ => none
 | k + 1, x0, x3 => if x3 < (x0.length : Int) then (if 0 ≤ x3 then ((talikref07_in.f (rd x0 x3) 0 1000000).bind fun t475 => (if t475 = true then (talikref07_Prices.l0 k x0 (wrap64 (x3 + 1))) else (some false))) else (none)) else (some true)
def talikref07_Prices.f (k : Nat) (l0 : List Int) : Option (Bool) := talikref07_Prices.l0 k l0 0
theorem talikref07_Prices.calls (k : Nat) (A0 : Option Addr) (c0 : Nat) (l0 : List Int) (r : Bool) (w : World) (hr0 : Kd.C (Kd.int .i64) w A0 l0.length l0) (hc0 : l0.length ≤ c0) (h : talikref07_Prices.f k l0 = some r) :
  Calls Try.prog 83 #[.slice A0 l0.length c0] w fun e w' => e = .returned (.bool r) ∧ qar w w' := by
 have HR0 := qab.mk hr0
 have HC0 := qab.mk hc0
 clear hr0 hc0
 have H : (talikref07_Prices.l0 k l0 0) = some r := h
 clear h
 have H' := qab.mk H
 clear H
 go_enter Try.func83, Try.ntmps83
 go_wp2
 go_loopg [3] k (fun kq v3 w' => ∃ (x3_1 : Int), v3 = .int .i64 x3_1 ∧ qab (talikref07_Prices.l0 kq l0 x3_1 = some r) ∧ qab (kq ≤ k) ∧ qar w w')
 case atStart => exact ⟨(0), (by first | rfl | (simp; done) | (simp [*]; done)), H', ⟨Nat.le_refl _⟩, by repeat (first | exact qar.refl _ | apply qar.step)⟩
 case round =>
  clear H'
  obtain ⟨x3_1, rfl, HA, HK1, ⟨m1, rfl⟩⟩ := hrel
  cases gk with
  | zero => exact absurd HA.out (by simp [talikref07_Prices.l0])
  | succ k1 =>
   have H := HA.out
   clear HA
   simp only [talikref07_Prices.l0] at H
   by_cases c2 : x3_1 < (l0.length : Int)
   ·
    rw [if_pos c2] at H
    have c2b0 : decide (x3_1 < (l0.length : Int)) = true := decide_eq_true c2
    clear c2
    by_cases c3 : 0 ≤ x3_1
    ·
     rw [if_pos c3] at H
     have c3b0 : decide (0 ≤ x3_1) = true := decide_eq_true c3
     clear c3
     replace H := Option.bind_eq_some_iff.mp H
     obtain ⟨t475, A40, H⟩ := H
     try dsimp only at H
     have A4 := qab.mk A40
     clear A40
     by_cases c5 : t475 = true
     ·
      subst c5
      rw [if_pos rfl] at H
      have H' := qab.mk H
      clear H
      have p474 : 0 ≤ (x3_1 : Int) := of_decide_eq_true (by first | (with_reducible assumption) | assumption)
      have q474 : x3_1 < (l0.length : Int) := of_decide_eq_true (by first | (with_reducible assumption) | assumption)
      obtain ⟨ad474, e474, hx474_0⟩ := Kd.at_int HR0.out x3_1 p474 q474
      cases e474
      replace p474 := eq_true p474
      replace q474 := eq_true q474
      go_wp2_with (first | ((with_reducible refine gate_callee (f := 57) rfl ?_); refine zl 14 Try.func57 #[.int .i64 (rd l0 x3_1), .int .i64 0, .int .i64 1000000] ?_; (with_reducible refine (talikref07_in.calls (rd l0 x3_1) 0 1000000 true _ A4.out).mono ?_); rintro e w' ⟨rfl, ⟨nd, rfl⟩⟩; refine ⟨_, rfl, ?_⟩))
      go_roundg k1
      case measure => have := HK1.out; omega
      case rel => exact ⟨(wrap64 (x3_1 + 1)), (by first | rfl | (simp; done) | (simp [*]; done)), H', ⟨by have := HK1.out; omega⟩, by repeat (first | exact qar.refl _ | apply qar.step)⟩
     ·
      replace c5 := Bool.eq_false_iff.mpr c5
      subst c5
      rw [if_neg (show ¬ (false = true) by decide)] at H
      obtain rfl := Option.some.inj H
      have p474 : 0 ≤ (x3_1 : Int) := of_decide_eq_true (by first | (with_reducible assumption) | assumption)
      have q474 : x3_1 < (l0.length : Int) := of_decide_eq_true (by first | (with_reducible assumption) | assumption)
      obtain ⟨ad474, e474, hx474_0⟩ := Kd.at_int HR0.out x3_1 p474 q474
      cases e474
      replace p474 := eq_true p474
      replace q474 := eq_true q474
      go_wp2_with (first | ((with_reducible refine gate_callee (f := 57) rfl ?_); refine zl 14 Try.func57 #[.int .i64 (rd l0 x3_1), .int .i64 0, .int .i64 1000000] ?_; (with_reducible refine (talikref07_in.calls (rd l0 x3_1) 0 1000000 false _ A4.out).mono ?_); rintro e w' ⟨rfl, ⟨nd, rfl⟩⟩; refine ⟨_, rfl, ?_⟩))
      go_ret
      exact ⟨by first | rfl | (simp; done) | (simp [*]; done), by repeat (first | exact qar.refl _ | apply qar.step)⟩
    ·
     rw [if_neg c3] at H
     exact absurd H (by simp)
   ·
    rw [if_neg c2] at H
    have c2b0 : decide (x3_1 < (l0.length : Int)) = false := decide_eq_false c2
    clear c2
    obtain rfl := Option.some.inj H
    go_wp2
    go_ret
    exact ⟨by first | rfl | (simp; done) | (simp [*]; done), by repeat (first | exact qar.refl _ | apply qar.step)⟩
def taliklaw07_priced.j0 : Nat → List (List Int) → List Int → Bool → Int → List (S44) → List Int → List Int → List (S41) → List (S95) → Option (Int)
 | 0, _, _, _, _, _, _, _, _, _ => none
 | k + 1, x1, x2, x14, x477000, x477001, x477002, x477003, x477004, x477005 => if x14 = true then (some 3) else ((talikref07_Map.f x477000 x477001 x477002 x477003 x477004 x477005).bind fun t477 => (if t477 = true then (if (x1.length : Int) = (x2.length : Int) then ((talikref07_Edges.f k x477000 x477001 x477002 x477003 x477004 x477005 x1).bind fun t478 => (if t478 = true then ((talikref07_Prices.f k x2).bind fun t479 => (if t479 = true then (some 0) else (some 2))) else (some 2))) else (some 2)) else (some 2)))
def taliklaw07_priced.f (k : Nat) (a0_0 : Int) (l0_1 : List (S44)) (l0_2 : List Int) (l0_3 : List Int) (l0_4 : List (S41)) (l0_5 : List (S95)) (l1 : List (List Int)) (l2 : List Int) : Option (Int) := if (l1.length : Int) > 10 then (taliklaw07_priced.j0 k l1 l2 true a0_0 l0_1 l0_2 l0_3 l0_4 l0_5) else (taliklaw07_priced.j0 k l1 l2 (decide ((l2.length : Int) > 10)) a0_0 l0_1 l0_2 l0_3 l0_4 l0_5)
theorem taliklaw07_priced.calls (k : Nat) (a0_0 : Int) (A0_1 : Option Addr) (c0_1 : Nat) (l0_1 : List (S44)) (A0_2 : Option Addr) (c0_2 : Nat) (l0_2 : List Int) (A0_3 : Option Addr) (c0_3 : Nat) (l0_3 : List Int) (A0_4 : Option Addr) (c0_4 : Nat) (l0_4 : List (S41)) (A0_5 : Option Addr) (c0_5 : Nat) (l0_5 : List (S95)) (A1 : Option Addr) (c1 : Nat) (l1 : List (List Int)) (A2 : Option Addr) (c2 : Nat) (l2 : List Int) (r : Int) (w : World) (hr0_1 : Kd.C k44 w A0_1 l0_1.length l0_1) (hc0_1 : l0_1.length ≤ c0_1) (hr0_2 : Kd.C (Kd.int .i64) w A0_2 l0_2.length l0_2) (hc0_2 : l0_2.length ≤ c0_2) (hr0_3 : Kd.C (Kd.int .i64) w A0_3 l0_3.length l0_3) (hc0_3 : l0_3.length ≤ c0_3) (hr0_4 : Kd.C k41 w A0_4 l0_4.length l0_4) (hc0_4 : l0_4.length ≤ c0_4) (hr0_5 : Kd.C k95 w A0_5 l0_5.length l0_5) (hc0_5 : l0_5.length ≤ c0_5) (hr1 : Kd.C (Kd.slice 3 (Kd.int .i64)) w A1 l1.length l1) (hc1 : l1.length ≤ c1) (hr2 : Kd.C (Kd.int .i64) w A2 l2.length l2) (hc2 : l2.length ≤ c2) (h : taliklaw07_priced.f k a0_0 l0_1 l0_2 l0_3 l0_4 l0_5 l1 l2 = some r) :
  Calls Try.prog 40 #[.agg #[.int .i64 a0_0, .slice A0_1 l0_1.length c0_1, .slice A0_2 l0_2.length c0_2, .slice A0_3 l0_3.length c0_3, .slice A0_4 l0_4.length c0_4, .slice A0_5 l0_5.length c0_5], .slice A1 l1.length c1, .slice A2 l2.length c2] w fun e w' => e = .returned (.int .i64 r) ∧ Below w.heap.size w w' := by
 have hu27 := Try.underlying27
 have HR0_1 := qab.mk hr0_1
 have HC0_1 := qab.mk hc0_1
 clear hr0_1 hc0_1
 have HR0_2 := qab.mk hr0_2
 have HC0_2 := qab.mk hc0_2
 clear hr0_2 hc0_2
 have HR0_3 := qab.mk hr0_3
 have HC0_3 := qab.mk hc0_3
 clear hr0_3 hc0_3
 have HR0_4 := qab.mk hr0_4
 have HC0_4 := qab.mk hc0_4
 clear hr0_4 hc0_4
 have HR0_5 := qab.mk hr0_5
 have HC0_5 := qab.mk hc0_5
 clear hr0_5 hc0_5
 have HR1 := qab.mk hr1
 have HC1 := qab.mk hc1
 clear hr1 hc1
 have HR2 := qab.mk hr2
 have HC2 := qab.mk hc2
 clear hr2 hc2
 have HB := qab.mk (Below.refl w.heap.size w)
 have H : (if (l1.length : Int) > 10 then (taliklaw07_priced.j0 k l1 l2 true a0_0 l0_1 l0_2 l0_3 l0_4 l0_5) else (taliklaw07_priced.j0 k l1 l2 (decide ((l2.length : Int) > 10)) a0_0 l0_1 l0_2 l0_3 l0_4 l0_5)) = some r := h
 clear h
 have HC4 := qab.mk H
 clear H
 go_enter Try.func40, Try.ntmps40
 go_upto_region 1 with (first | ((with_reducible refine qam (N := 3) rfl ?_); (try (refine gate_guard (by rfl) ?_; dsimp only)); refine ze 3 #[.int .i64 a0_0, .slice A0_1 l0_1.length c0_1, .slice A0_2 l0_2.length c0_2, .slice A0_3 l0_3.length c0_3, .slice A0_4 l0_4.length c0_4, .slice A0_5 l0_5.length c0_5] 27 ?_; intro gb476 hg w5 hbox hb; have n0_ := qab.mk (qae (zb HB.out) hb); have n1_ := qab.mk (hbox); have n2_ := qab.mk ((by rw [hg]; exact (below_size (zb HB.out)) : w.heap.size ≤ gb476)); have n3_ := qab.mk ((by rw [hg]; exact (below_size (zb HB.out)) : w.heap.size ≤ gb476)); clear HB; have HB := n0_; have BK476 := n1_; have GW476 := n2_; have GE476 := n3_; clear n0_ n1_ n2_ n3_; clear hb hbox hg))
 (try simp only [Act.put, qzA, qzB, qzC])
 go_cut [14] (fun v14 wc => ∃ (kq : Nat) (x14_3 : Bool), v14 = .bool x14_3 ∧ qab (taliklaw07_priced.j0 kq l1 l2 x14_3 a0_0 l0_1 l0_2 l0_3 l0_4 l0_5 = some r) ∧ qab (kq ≤ k) ∧ qab (wc.heap[gb476]? = some (.cells #[.int .i64 a0_0, (.slice A0_1 l0_1.length c0_1), (.slice A0_2 l0_2.length c0_2), (.slice A0_3 l0_3.length c0_3), (.slice A0_4 l0_4.length c0_4), (.slice A0_5 l0_5.length c0_5)] 27 (0, 0))) ∧ qab (Below w.heap.size w wc))
 case first =>
  have H := HC4.out
  clear HC4
  by_cases c6 : (l1.length : Int) > 10
  ·
   rw [if_pos c6] at H
   have c6b0 : decide (10 < (l1.length : Int)) = true := decide_eq_true c6
   have c6b1 : decide (10 < l1.length) = true := decide_eq_true (by omega)
   clear c6
   (first | rw [c6b0] | (simp only [i64_w, i32_w]; rw [c6b0]) | skip)
   have H' := qab.mk H
   clear H
   go_wp2
   go_meet
   case rel => exact ⟨_, (true), (by first | rfl | (simp; done) | (simp [*]; done)), H', ⟨by first | omega | exact Nat.le_refl _⟩, ⟨zj BK476.out⟩, ⟨by repeat (first | (with_reducible first | exact HB.out | apply qag | apply qaf | apply qah | refine qaj ?_ GE476.out) | exact HB.out)⟩⟩
  ·
   rw [if_neg c6] at H
   have c6b0 : decide (10 < (l1.length : Int)) = false := decide_eq_false c6
   have c6b1 : decide (10 < l1.length) = false := decide_eq_false (by omega)
   clear c6
   (first | rw [c6b0] | (simp only [i64_w, i32_w]; rw [c6b0]) | skip)
   have H' := qab.mk H
   clear H
   go_wp2
   go_meet
   case rel => exact ⟨_, (decide ((l2.length : Int) > 10)), (by first | rfl | (simp; done) | (simp [*]; done)), H', ⟨by first | omega | exact Nat.le_refl _⟩, ⟨zj BK476.out⟩, ⟨by repeat (first | (with_reducible first | exact HB.out | apply qag | apply qaf | apply qah | refine qaj ?_ GE476.out) | exact HB.out)⟩⟩
 case rest =>
  clear HC4
  try clear c1
  try clear c2
  try clear p2
  try clear c4
  try clear c6
  try clear c6b0
  try clear c6b1
  obtain ⟨kq, x14_3, rfl, HA, HJ3, BK476, HB⟩ := hcut
  cases kq with
  | zero => exact absurd HA.out (by simp [taliklaw07_priced.j0])
  | succ kj3 =>
   have H := HA.out
   clear HA
   simp only [taliklaw07_priced.j0] at H
   by_cases c7 : x14_3 = true
   ·
    subst c7
    rw [if_pos rfl] at H
    obtain rfl := Option.some.inj H
    go_wp2
    go_ret
    exact ⟨by first | rfl | (simp [qbb, qbc] <;> rfl) | (simp [*, qbb, qbc] <;> rfl), by repeat (first | (with_reducible first | exact HB.out | apply qag | apply qaf | apply qah | refine qaj ?_ GE476.out) | exact HB.out)⟩
   ·
    replace c7 := Bool.eq_false_iff.mpr c7
    subst c7
    rw [if_neg (show ¬ (false = true) by decide)] at H
    replace H := Option.bind_eq_some_iff.mp H
    obtain ⟨t477, A80, H⟩ := H
    try dsimp only at H
    have A8 := qab.mk A80
    clear A80
    by_cases c9 : t477 = true
    ·
     subst c9
     rw [if_pos rfl] at H
     by_cases c10 : (l1.length : Int) = (l2.length : Int)
     ·
      rw [if_pos c10] at H
      have c10b0 : ((l1.length : Int) == (l2.length : Int)) = true := beq_iff_eq.mpr c10
      have c10b1 : ((l1.length : Int) != (l2.length : Int)) = false := bne_eq_false_iff_eq.mpr c10
      have c10b2 : (l1.length == l2.length) = true := by first | simpa using c10 | (simp at c10 ⊢; omega)
      clear c10
      replace H := Option.bind_eq_some_iff.mp H
      obtain ⟨t478, A110, H⟩ := H
      try dsimp only at H
      have A11 := qab.mk A110
      clear A110
      by_cases c12 : t478 = true
      ·
       subst c12
       rw [if_pos rfl] at H
       replace H := Option.bind_eq_some_iff.mp H
       obtain ⟨t479, A130, H⟩ := H
       try dsimp only at H
       have A13 := qab.mk A130
       clear A130
       by_cases c14 : t479 = true
       ·
        subst c14
        rw [if_pos rfl] at H
        obtain rfl := Option.some.inj H
        obtain ⟨hfz_, hcz15_0, hcz15_1, hcz15_2, hcz15_3, hcz15_4, hcz15_5⟩ := qz6 BK476.out
        go_wp2_with (first | ((with_reducible refine gate_callee (f := 27) rfl ?_); refine zl 16 Try.func27 #[.agg #[.int .i64 a0_0, .slice A0_1 l0_1.length c0_1, .slice A0_2 l0_2.length c0_2, .slice A0_3 l0_3.length c0_3, .slice A0_4 l0_4.length c0_4, .slice A0_5 l0_5.length c0_5]] ?_; (with_reducible refine (talikref07_Map.calls a0_0 _ _ l0_1 _ _ l0_2 _ _ l0_3 _ _ l0_4 _ _ l0_5 true _ ?side1 ?side2 ?side3 ?side4 ?side5 ?side6 ?side7 ?side8 ?side9 ?side10 A8.out).mono ?_); (case side1 => exact zs (Kd.qai HR0_1.out HB.out)); (case side2 => exact HC0_1.out); (case side3 => exact zs (Kd.qai HR0_2.out HB.out)); (case side4 => exact HC0_2.out); (case side5 => exact zs (Kd.qai HR0_3.out HB.out)); (case side6 => exact HC0_3.out); (case side7 => exact zs (Kd.qai HR0_4.out HB.out)); (case side8 => exact HC0_4.out); (case side9 => exact zs (Kd.qai HR0_5.out HB.out)); (case side10 => exact HC0_5.out); rintro e w16 ⟨rfl, hb⟩; refine ⟨_, rfl, ?_⟩; replace BK476 := qab.mk (zk BK476.out hb); replace HB := qab.mk (qae (by repeat (first | (with_reducible first | exact HB.out | apply qag | apply qaf | apply qah | refine qaj ?_ GE476.out) | exact HB.out)) hb); (try clear hb); (try clear hb2); (try clear hk); (try clear hi); obtain ⟨hfz_, hcz17_0, hcz17_1, hcz17_2, hcz17_3, hcz17_4, hcz17_5⟩ := qz6 BK476.out) | (go_at_call 82; (with_reducible refine (talikref07_Edges.calls kj3 a0_0 _ _ l0_1 _ _ l0_2 _ _ l0_3 _ _ l0_4 _ _ l0_5 _ _ l1 true _ ?side1 ?side2 ?side3 ?side4 ?side5 ?side6 ?side7 ?side8 ?side9 ?side10 ?side11 ?side12 A11.out).mono ?_); (case side1 => exact zs (Kd.qai HR0_1.out HB.out)); (case side2 => exact HC0_1.out); (case side3 => exact zs (Kd.qai HR0_2.out HB.out)); (case side4 => exact HC0_2.out); (case side5 => exact zs (Kd.qai HR0_3.out HB.out)); (case side6 => exact HC0_3.out); (case side7 => exact zs (Kd.qai HR0_4.out HB.out)); (case side8 => exact HC0_4.out); (case side9 => exact zs (Kd.qai HR0_5.out HB.out)); (case side10 => exact HC0_5.out); (case side11 => exact zs (Kd.qai HR1.out HB.out)); (case side12 => exact HC1.out); rintro e w18 ⟨rfl, hb⟩; replace BK476 := qab.mk (zk BK476.out hb); replace HB := qab.mk (qae (by repeat (first | (with_reducible first | exact HB.out | apply qag | apply qaf | apply qah | refine qaj ?_ GE476.out) | exact HB.out)) hb); (try clear hb); (try clear hb2); (try clear hk); (try clear hi)) | (go_at_call 83; (with_reducible refine (talikref07_Prices.calls kj3 _ _ l2 true _ ?side1 ?side2 A13.out).mono ?_); (case side1 => exact zs (Kd.qai HR2.out HB.out)); (case side2 => exact HC2.out); rintro e w' ⟨rfl, ⟨nd, rfl⟩⟩))
        go_ret
        exact ⟨by first | rfl | (simp [qbb, qbc] <;> rfl) | (simp [*, qbb, qbc] <;> rfl), by repeat (first | (with_reducible first | exact HB.out | apply qag | apply qaf | apply qah | refine qaj ?_ GE476.out) | exact HB.out)⟩
       ·
        replace c14 := Bool.eq_false_iff.mpr c14
        subst c14
        rw [if_neg (show ¬ (false = true) by decide)] at H
        obtain rfl := Option.some.inj H
        obtain ⟨hfz_, hcz19_0, hcz19_1, hcz19_2, hcz19_3, hcz19_4, hcz19_5⟩ := qz6 BK476.out
        go_wp2_with (first | ((with_reducible refine gate_callee (f := 27) rfl ?_); refine zl 16 Try.func27 #[.agg #[.int .i64 a0_0, .slice A0_1 l0_1.length c0_1, .slice A0_2 l0_2.length c0_2, .slice A0_3 l0_3.length c0_3, .slice A0_4 l0_4.length c0_4, .slice A0_5 l0_5.length c0_5]] ?_; (with_reducible refine (talikref07_Map.calls a0_0 _ _ l0_1 _ _ l0_2 _ _ l0_3 _ _ l0_4 _ _ l0_5 true _ ?side1 ?side2 ?side3 ?side4 ?side5 ?side6 ?side7 ?side8 ?side9 ?side10 A8.out).mono ?_); (case side1 => exact zs (Kd.qai HR0_1.out HB.out)); (case side2 => exact HC0_1.out); (case side3 => exact zs (Kd.qai HR0_2.out HB.out)); (case side4 => exact HC0_2.out); (case side5 => exact zs (Kd.qai HR0_3.out HB.out)); (case side6 => exact HC0_3.out); (case side7 => exact zs (Kd.qai HR0_4.out HB.out)); (case side8 => exact HC0_4.out); (case side9 => exact zs (Kd.qai HR0_5.out HB.out)); (case side10 => exact HC0_5.out); rintro e w20 ⟨rfl, hb⟩; refine ⟨_, rfl, ?_⟩; replace BK476 := qab.mk (zk BK476.out hb); replace HB := qab.mk (qae (by repeat (first | (with_reducible first | exact HB.out | apply qag | apply qaf | apply qah | refine qaj ?_ GE476.out) | exact HB.out)) hb); (try clear hb); (try clear hb2); (try clear hk); (try clear hi); obtain ⟨hfz_, hcz21_0, hcz21_1, hcz21_2, hcz21_3, hcz21_4, hcz21_5⟩ := qz6 BK476.out) | (go_at_call 82; (with_reducible refine (talikref07_Edges.calls kj3 a0_0 _ _ l0_1 _ _ l0_2 _ _ l0_3 _ _ l0_4 _ _ l0_5 _ _ l1 true _ ?side1 ?side2 ?side3 ?side4 ?side5 ?side6 ?side7 ?side8 ?side9 ?side10 ?side11 ?side12 A11.out).mono ?_); (case side1 => exact zs (Kd.qai HR0_1.out HB.out)); (case side2 => exact HC0_1.out); (case side3 => exact zs (Kd.qai HR0_2.out HB.out)); (case side4 => exact HC0_2.out); (case side5 => exact zs (Kd.qai HR0_3.out HB.out)); (case side6 => exact HC0_3.out); (case side7 => exact zs (Kd.qai HR0_4.out HB.out)); (case side8 => exact HC0_4.out); (case side9 => exact zs (Kd.qai HR0_5.out HB.out)); (case side10 => exact HC0_5.out); (case side11 => exact zs (Kd.qai HR1.out HB.out)); (case side12 => exact HC1.out); rintro e w22 ⟨rfl, hb⟩; replace BK476 := qab.mk (zk BK476.out hb); replace HB := qab.mk (qae (by repeat (first | (with_reducible first | exact HB.out | apply qag | apply qaf | apply qah | refine qaj ?_ GE476.out) | exact HB.out)) hb); (try clear hb); (try clear hb2); (try clear hk); (try clear hi)) | (go_at_call 83; (with_reducible refine (talikref07_Prices.calls kj3 _ _ l2 false _ ?side1 ?side2 A13.out).mono ?_); (case side1 => exact zs (Kd.qai HR2.out HB.out)); (case side2 => exact HC2.out); rintro e w' ⟨rfl, ⟨nd, rfl⟩⟩))
        go_ret
        exact ⟨by first | rfl | (simp [qbb, qbc] <;> rfl) | (simp [*, qbb, qbc] <;> rfl), by repeat (first | (with_reducible first | exact HB.out | apply qag | apply qaf | apply qah | refine qaj ?_ GE476.out) | exact HB.out)⟩
      ·
       replace c12 := Bool.eq_false_iff.mpr c12
       subst c12
       rw [if_neg (show ¬ (false = true) by decide)] at H
       obtain rfl := Option.some.inj H
       obtain ⟨hfz_, hcz23_0, hcz23_1, hcz23_2, hcz23_3, hcz23_4, hcz23_5⟩ := qz6 BK476.out
       go_wp2_with (first | ((with_reducible refine gate_callee (f := 27) rfl ?_); refine zl 16 Try.func27 #[.agg #[.int .i64 a0_0, .slice A0_1 l0_1.length c0_1, .slice A0_2 l0_2.length c0_2, .slice A0_3 l0_3.length c0_3, .slice A0_4 l0_4.length c0_4, .slice A0_5 l0_5.length c0_5]] ?_; (with_reducible refine (talikref07_Map.calls a0_0 _ _ l0_1 _ _ l0_2 _ _ l0_3 _ _ l0_4 _ _ l0_5 true _ ?side1 ?side2 ?side3 ?side4 ?side5 ?side6 ?side7 ?side8 ?side9 ?side10 A8.out).mono ?_); (case side1 => exact zs (Kd.qai HR0_1.out HB.out)); (case side2 => exact HC0_1.out); (case side3 => exact zs (Kd.qai HR0_2.out HB.out)); (case side4 => exact HC0_2.out); (case side5 => exact zs (Kd.qai HR0_3.out HB.out)); (case side6 => exact HC0_3.out); (case side7 => exact zs (Kd.qai HR0_4.out HB.out)); (case side8 => exact HC0_4.out); (case side9 => exact zs (Kd.qai HR0_5.out HB.out)); (case side10 => exact HC0_5.out); rintro e w24 ⟨rfl, hb⟩; refine ⟨_, rfl, ?_⟩; replace BK476 := qab.mk (zk BK476.out hb); replace HB := qab.mk (qae (by repeat (first | (with_reducible first | exact HB.out | apply qag | apply qaf | apply qah | refine qaj ?_ GE476.out) | exact HB.out)) hb); (try clear hb); (try clear hb2); (try clear hk); (try clear hi); obtain ⟨hfz_, hcz25_0, hcz25_1, hcz25_2, hcz25_3, hcz25_4, hcz25_5⟩ := qz6 BK476.out) | (go_at_call 82; (with_reducible refine (talikref07_Edges.calls kj3 a0_0 _ _ l0_1 _ _ l0_2 _ _ l0_3 _ _ l0_4 _ _ l0_5 _ _ l1 false _ ?side1 ?side2 ?side3 ?side4 ?side5 ?side6 ?side7 ?side8 ?side9 ?side10 ?side11 ?side12 A11.out).mono ?_); (case side1 => exact zs (Kd.qai HR0_1.out HB.out)); (case side2 => exact HC0_1.out); (case side3 => exact zs (Kd.qai HR0_2.out HB.out)); (case side4 => exact HC0_2.out); (case side5 => exact zs (Kd.qai HR0_3.out HB.out)); (case side6 => exact HC0_3.out); (case side7 => exact zs (Kd.qai HR0_4.out HB.out)); (case side8 => exact HC0_4.out); (case side9 => exact zs (Kd.qai HR0_5.out HB.out)); (case side10 => exact HC0_5.out); (case side11 => exact zs (Kd.qai HR1.out HB.out)); (case side12 => exact HC1.out); rintro e w26 ⟨rfl, hb⟩; replace BK476 := qab.mk (zk BK476.out hb); replace HB := qab.mk (qae (by repeat (first | (with_reducible first | exact HB.out | apply qag | apply qaf | apply qah | refine qaj ?_ GE476.out) | exact HB.out)) hb); (try clear hb); (try clear hb2); (try clear hk); (try clear hi)))
       go_ret
       exact ⟨by first | rfl | (simp [qbb, qbc] <;> rfl) | (simp [*, qbb, qbc] <;> rfl), by repeat (first | (with_reducible first | exact HB.out | apply qag | apply qaf | apply qah | refine qaj ?_ GE476.out) | exact HB.out)⟩
     ·
      rw [if_neg c10] at H
      have c10b0 : ((l1.length : Int) == (l2.length : Int)) = false := beq_eq_false_iff_ne.mpr c10
      have c10b1 : ((l1.length : Int) != (l2.length : Int)) = true := bne_iff_ne.mpr c10
      have c10b2 : (l1.length == l2.length) = false := by first | simpa using c10 | (simp at c10 ⊢; omega)
      obtain rfl := Option.some.inj H
      obtain ⟨hfz_, hcz27_0, hcz27_1, hcz27_2, hcz27_3, hcz27_4, hcz27_5⟩ := qz6 BK476.out
      go_wp2_with (first | ((with_reducible refine gate_callee (f := 27) rfl ?_); refine zl 16 Try.func27 #[.agg #[.int .i64 a0_0, .slice A0_1 l0_1.length c0_1, .slice A0_2 l0_2.length c0_2, .slice A0_3 l0_3.length c0_3, .slice A0_4 l0_4.length c0_4, .slice A0_5 l0_5.length c0_5]] ?_; (with_reducible refine (talikref07_Map.calls a0_0 _ _ l0_1 _ _ l0_2 _ _ l0_3 _ _ l0_4 _ _ l0_5 true _ ?side1 ?side2 ?side3 ?side4 ?side5 ?side6 ?side7 ?side8 ?side9 ?side10 A8.out).mono ?_); (case side1 => exact zs (Kd.qai HR0_1.out HB.out)); (case side2 => exact HC0_1.out); (case side3 => exact zs (Kd.qai HR0_2.out HB.out)); (case side4 => exact HC0_2.out); (case side5 => exact zs (Kd.qai HR0_3.out HB.out)); (case side6 => exact HC0_3.out); (case side7 => exact zs (Kd.qai HR0_4.out HB.out)); (case side8 => exact HC0_4.out); (case side9 => exact zs (Kd.qai HR0_5.out HB.out)); (case side10 => exact HC0_5.out); rintro e w28 ⟨rfl, hb⟩; refine ⟨_, rfl, ?_⟩; replace BK476 := qab.mk (zk BK476.out hb); replace HB := qab.mk (qae (by repeat (first | (with_reducible first | exact HB.out | apply qag | apply qaf | apply qah | refine qaj ?_ GE476.out) | exact HB.out)) hb); (try clear hb); (try clear hb2); (try clear hk); (try clear hi)))
      go_ret
      exact ⟨by first | rfl | (simp [qbb, qbc] <;> rfl) | (simp [*, qbb, qbc] <;> rfl), by repeat (first | (with_reducible first | exact HB.out | apply qag | apply qaf | apply qah | refine qaj ?_ GE476.out) | exact HB.out)⟩
    ·
     replace c9 := Bool.eq_false_iff.mpr c9
     subst c9
     rw [if_neg (show ¬ (false = true) by decide)] at H
     obtain rfl := Option.some.inj H
     obtain ⟨hfz_, hcz29_0, hcz29_1, hcz29_2, hcz29_3, hcz29_4, hcz29_5⟩ := qz6 BK476.out
     go_wp2_with (first | ((with_reducible refine gate_callee (f := 27) rfl ?_); refine zl 16 Try.func27 #[.agg #[.int .i64 a0_0, .slice A0_1 l0_1.length c0_1, .slice A0_2 l0_2.length c0_2, .slice A0_3 l0_3.length c0_3, .slice A0_4 l0_4.length c0_4, .slice A0_5 l0_5.length c0_5]] ?_; (with_reducible refine (talikref07_Map.calls a0_0 _ _ l0_1 _ _ l0_2 _ _ l0_3 _ _ l0_4 _ _ l0_5 false _ ?side1 ?side2 ?side3 ?side4 ?side5 ?side6 ?side7 ?side8 ?side9 ?side10 A8.out).mono ?_); (case side1 => exact zs (Kd.qai HR0_1.out HB.out)); (case side2 => exact HC0_1.out); (case side3 => exact zs (Kd.qai HR0_2.out HB.out)); (case side4 => exact HC0_2.out); (case side5 => exact zs (Kd.qai HR0_3.out HB.out)); (case side6 => exact HC0_3.out); (case side7 => exact zs (Kd.qai HR0_4.out HB.out)); (case side8 => exact HC0_4.out); (case side9 => exact zs (Kd.qai HR0_5.out HB.out)); (case side10 => exact HC0_5.out); rintro e w30 ⟨rfl, hb⟩; refine ⟨_, rfl, ?_⟩; replace BK476 := qab.mk (zk BK476.out hb); replace HB := qab.mk (qae (by repeat (first | (with_reducible first | exact HB.out | apply qag | apply qaf | apply qah | refine qaj ?_ GE476.out) | exact HB.out)) hb); (try clear hb); (try clear hb2); (try clear hk); (try clear hi)))
     go_ret
     exact ⟨by first | rfl | (simp [qbb, qbc] <;> rfl) | (simp [*, qbb, qbc] <;> rfl), by repeat (first | (with_reducible first | exact HB.out | apply qag | apply qaf | apply qah | refine qaj ?_ GE476.out) | exact HB.out)⟩
end Go.Proofs.Ytafkanmioinbiaa.SA
namespace Go.Proofs.Ytafkanmioinbiaa.SA
open Go.RowKit Go.Shelf Go.Proofs.YtafkanmioinbiaaW.PrintWords Go.Proofs.YtafkanmioinbiaaW.PrintLast Go.Proofs.YtafkanmioinbiaaW.PrintMore
attribute [local go_sem] qax qaz max_two min_two qao qap qay qba
def briefB (l : List (List Int)) : Bool := (List.range (min l.length 15)).all (fun i => decide ((rd_L4 l (i : Nat)).length ≤ 20)) && decide (l.length ≤ 15)
theorem brief_go (l : List (List Int)) : ∀ (m i k : Nat), i + m = min l.length 15 → 2 * m + 2 ≤ k → (∀ j : Nat, j < i → (rd_L4 l (j : Nat)).length ≤ 20) → taliklaw07_brief.l0 k l (i : Int) = some (briefB l) := by
 intro m
 induction m with
 | zero =>
  intro i k hi hk hp
  obtain ⟨k, rfl⟩ : ∃ m, k = m + 2 := ⟨k - 2, by omega⟩
  have h1 : (List.range (min l.length 15)).all (fun i => decide ((rd_L4 l (i : Nat)).length ≤ 20)) = true := range_all_true (fun j hj => decide_eq_true (hp j (by omega)))
  have hB : briefB l = decide ((l.length : Int) ≤ 15) := by
   unfold briefB
   rw [h1, Bool.true_and]
   exact decide_eq_decide.2 (by omega)
  rw [taliklaw07_brief.l0]
  by_cases c : (i : Int) < (l.length : Int)
  ·
   rw [if_pos c, show decide ((i : Int) < 15) = false from decide_eq_false (by omega), taliklaw07_brief.j1]
   rw [if_neg (by decide), hB]
  ·
   rw [if_neg c, taliklaw07_brief.j1]
   rw [if_neg (by decide), hB]
 | succ m ih =>
  intro i k hi hk hp
  obtain ⟨k, rfl⟩ : ∃ m, k = m + 2 := ⟨k - 2, by omega⟩
  rw [taliklaw07_brief.l0]
  rw [if_pos (by omega), show decide ((i : Int) < 15) = true from decide_eq_true (by omega), taliklaw07_brief.j1]
  rw [if_pos rfl, if_pos (by omega), if_pos (by omega)]
  by_cases c : ((rd_L4 l (i : Int)).length : Int) > 20
  ·
   rw [if_pos c]
   unfold briefB
   rw [range_all_false i (by omega) (decide_eq_false (by omega))]
   rfl
  ·
   rw [if_neg c, wsucc i (by omega)]
   refine ih (i + 1) k (by omega) (by omega) (fun j hj => ?_)
   rcases Nat.lt_or_ge j i with h | h
   ·
    exact hp j h
   ·
    obtain rfl : j = i := by omega
    omega
theorem brief_eq (l : List (List Int)) (k : Nat) (hk : 40 ≤ k) : taliklaw07_brief.f k l = some (briefB l) := brief_go l _ 0 k (Nat.zero_add _) (by omega) (fun j hj => by omega)
theorem brief_of {l : List (List Int)} (h : briefB l = true) : l.length ≤ 15 ∧ ∀ j : Nat, j < l.length → (rd_L4 l (j : Nat)).length ≤ 20 := by
 unfold briefB at h
 simp only [Bool.and_eq_true, decide_eq_true_eq] at h
 refine ⟨h.2, fun j hj => ?_⟩
 have := List.all_eq_true.1 h.1 j (List.mem_range.2 (by omega))
 simpa using this
section
variable (p : Int) (l1 : List S44) (l2 l3 : List Int) (l4 : List S41) (l5 : List S95)
def rowB (n : Nat) (row : List Int) : Bool := row.any fun x => !inB x 0 ((n : Int) - 1)
theorem edges_go (hn : l1.length ≤ 12) (l : List (List Int)) (hl : l.length ≤ 15) (hr : ∀ j : Nat, j < l.length → (rd_L4 l (j : Nat)).length ≤ 20) : ∀ (m i k : Nat), i + m = l.length → 25 * m + 1 ≤ k → (∀ j : Nat, j < i → rowB l1.length (rd_L4 l (j : Nat)) = false) → talikref07_Edges.l0 k l (i : Int) p l1 l2 l3 l4 l5 = some (!badR l1.length l) := by
 have hw : wrap64 ((l1.length : Int) - 1) = (l1.length : Int) - 1 := by unfold wrap64; omega
 have hrow : ∀ j : Nat, ∀ hj : j < l.length, rd_L4 l (j : Int) = l[j] := fun j hj => by simp [rd_L4, hj]
 intro m
 induction m with
 | zero =>
  intro i k hi hk hp
  obtain ⟨k, rfl⟩ : ∃ m, k = m + 1 := ⟨k - 1, by omega⟩
  rw [talikref07_Edges.l0]
  rw [if_neg (by omega)]
  have : badR l1.length l = false := by
   unfold badR
   rw [List.any_eq_false]
   intro row hrw
   obtain ⟨j, hj, rfl⟩ := List.mem_iff_getElem.1 hrw
   have := hp j (by omega)
   rw [hrow j hj] at this
   unfold rowB at this
   rw [this]
   simp
  rw [this]
  rfl
 | succ m ih =>
  intro i k hi hk hp
  obtain ⟨k, rfl⟩ : ∃ m, k = m + 1 := ⟨k - 1, by omega⟩
  have hil : i < l.length := by omega
  have hlr := hr i hil
  rw [talikref07_Edges.l0]
  rw [if_pos (by omega)]
  have inner : ∀ (d j k : Nat), j + d = (rd_L4 l (i : Nat)).length → d + 1 + (25 * m + 1) ≤ k → (∀ t : Nat, t < j → inB (rd (rd_L4 l (i : Nat)) t) 0 ((l1.length : Int) - 1) = true) → talikref07_Edges.l1 k l (i : Int) (j : Int) p l1 l2 l3 l4 l5 = some (!badR l1.length l) := by
   intro d
   induction d with
   | zero =>
    intro j k hj hk2 hq
    obtain ⟨k, rfl⟩ : ∃ m, k = m + 1 := ⟨k - 1, by omega⟩
    rw [talikref07_Edges.l1]
    rw [if_pos (by omega), if_pos (by omega), if_neg (by omega), wsucc i (by omega)]
    refine ih (i + 1) k (by omega) (by omega) (fun t ht => ?_)
    rcases Nat.lt_or_ge t i with h | h
    ·
     exact hp t h
    ·
     obtain rfl : t = i := by omega
     unfold rowB
     rw [List.any_eq_false]
     intro x hx
     obtain ⟨u, hu, rfl⟩ := List.mem_iff_getElem.1 hx
     have := hq u (by omega)
     rw [show rd (rd_L4 l (t : Nat)) (u : Int) = (rd_L4 l (t : Nat))[u] from by simp [rd, hu]] at this
     rw [this]
     simp
   | succ d ihd =>
    intro j k hj hk2 hq
    obtain ⟨k, rfl⟩ : ∃ m, k = m + 1 := ⟨k - 1, by omega⟩
    rw [talikref07_Edges.l1]
    rw [if_pos (by omega), if_pos (by omega), if_pos (by omega), if_pos (by omega), ref_in_eq, Option.bind_some, hw]
    cases hc : inB (rd (rd_L4 l (i : Nat)) (j : Int)) 0 ((l1.length : Int) - 1) with
    | true =>
     rw [if_pos rfl, wsucc j (by omega)]
     refine ihd (j + 1) k (by omega) (by omega) (fun t ht => ?_)
     rcases Nat.lt_or_ge t j with h | h
     ·
      exact hq t h
     ·
      obtain rfl : t = j := by omega
      exact hc
    | false =>
     rw [if_neg (by decide)]
     have hjl : j < (rd_L4 l (i : Nat)).length := by omega
     have : badR l1.length l = true := by
      unfold badR
      rw [List.any_eq_true]
      refine ⟨l[i], List.getElem_mem hil, ?_⟩
      rw [← hrow i hil, List.any_eq_true]
      refine ⟨_, List.getElem_mem hjl, ?_⟩
      rw [show rd (rd_L4 l (i : Nat)) (j : Int) = (rd_L4 l (i : Nat))[j] from by simp [rd, hjl]] at hc
      rw [hc]
      rfl
     rw [this]
     rfl
  exact inner _ 0 k (Nat.zero_add _) (by omega) (fun t ht => by omega)
theorem prices_go (l : List Int) (hl : l.length ≤ 15) : ∀ (m i k : Nat), i + m = l.length → m + 1 ≤ k → (∀ j : Nat, j < i → inB (rd l j) 0 1000000 = true) → talikref07_Prices.l0 k l (i : Int) = some (!badP l) := by
 intro m
 induction m with
 | zero =>
  intro i k hi hk hp
  obtain ⟨k, rfl⟩ : ∃ m, k = m + 1 := ⟨k - 1, by omega⟩
  rw [talikref07_Prices.l0]
  rw [if_neg (by omega)]
  have : badP l = false := by
   unfold badP
   rw [List.any_eq_false]
   intro x hx
   obtain ⟨j, hj, rfl⟩ := List.mem_iff_getElem.1 hx
   have := hp j (by omega)
   rw [show rd l (j : Int) = l[j] from by simp [rd, hj]] at this
   rw [this]
   simp
  rw [this]
  rfl
 | succ m ih =>
  intro i k hi hk hp
  obtain ⟨k, rfl⟩ : ∃ m, k = m + 1 := ⟨k - 1, by omega⟩
  have hil : i < l.length := by omega
  rw [talikref07_Prices.l0]
  rw [if_pos (by omega), if_pos (by omega), ref_in_eq, Option.bind_some]
  cases hc : inB (rd l (i : Int)) 0 1000000 with
  | true =>
   rw [if_pos rfl, wsucc i (by omega)]
   refine ih (i + 1) k (by omega) (by omega) (fun t ht => ?_)
   rcases Nat.lt_or_ge t i with h | h
   ·
    exact hp t h
   ·
    obtain rfl : t = i := by omega
    exact hc
  | false =>
   rw [if_neg (by decide)]
   have : badP l = true := by
    unfold badP
    rw [List.any_eq_true]
    refine ⟨l[i], List.getElem_mem hil, ?_⟩
    rw [show rd l (i : Int) = l[i] from by simp [rd, hil]] at hc
    rw [hc]
    rfl
   rw [this]
   rfl
def pricedV (routes : List (List Int)) (prices : List Int) : Int := if 10 < routes.length ∨ 10 < prices.length then 3 else if validB p l1 l2 l3 l4 l5 = true then (if routes.length = prices.length then (if badR l1.length routes = true then 2 else if badP prices = true then 2 else 0) else 2) else 2
theorem priced_eq (routes : List (List Int)) (prices : List Int) (hr : ∀ j : Nat, j < routes.length → (rd_L4 routes (j : Nat)).length ≤ 20) (k : Nat) (hk : 300 ≤ k) : taliklaw07_priced.f k p l1 l2 l3 l4 l5 routes prices = some (pricedV p l1 l2 l3 l4 l5 routes prices) := by
 obtain ⟨k, rfl⟩ : ∃ m, k = m + 1 := ⟨k - 1, by omega⟩
 unfold taliklaw07_priced.f pricedV
 by_cases c1 : (routes.length : Int) > 10
 ·
  rw [if_pos c1, taliklaw07_priced.j0]
  rw [if_pos rfl, if_pos (.inl (by omega))]
 ·
  rw [if_neg c1]
  by_cases c2 : (prices.length : Int) > 10
  ·
   rw [decide_eq_true c2, taliklaw07_priced.j0]
   rw [if_pos rfl, if_pos (.inr (by omega))]
  ·
   have hne : ¬ (10 < routes.length ∨ 10 < prices.length) := by omega
   rw [decide_eq_false c2, taliklaw07_priced.j0]
   rw [if_neg hne, if_neg (by decide), show talikref07_Map.f p l1 l2 l3 l4 l5 = some (validB p l1 l2 l3 l4 l5) from rfl, Option.bind_some]
   cases hv : validB p l1 l2 l3 l4 l5 with
   | false => rw [if_neg (by decide), if_neg (by decide)]
   | true =>
    have n1 := (valid_facts hv).n1
    rw [if_pos rfl, if_pos rfl]
    by_cases c3 : routes.length = prices.length
    ·
     rw [if_pos (by omega), if_pos c3, show talikref07_Edges.f k p l1 l2 l3 l4 l5 routes = some (!badR l1.length routes) from edges_go p l1 l2 l3 l4 l5 n1 routes (by omega) hr routes.length 0 k (by omega) (by omega) (fun j hj => by omega), Option.bind_some]
     cases badR l1.length routes with
     | true => rfl
     | false =>
      rw [show (!false) = true from rfl, if_pos rfl, if_neg (by decide), show talikref07_Prices.f k prices = some (!badP prices) from prices_go prices (by omega) prices.length 0 k (by omega) (by omega) (fun j hj => by omega), Option.bind_some]
      cases badP prices <;> rfl
    ·
     rw [if_neg (by omega), if_neg c3]
theorem given_nil (hv : validB p l1 l2 l3 l4 l5 = true) : givenB p l1 l2 l3 l4 l5 [] = true := by
 unfold givenB
 rw [hv]
 rfl
theorem floor_ok (routes : List (List Int)) (prices : List Int) (hr : ∀ j : Nat, j < routes.length → (rd_L4 routes (j : Nat)).length ≤ 20) (h : pricedV p l1 l2 l3 l4 l5 routes prices = 0) :
  seep_Floor.f p l1 l2 l3 l4 l5 routes prices = some (floorF prices (fairR 0 l1 l2 l3 l4 routes prices)) ∧ validB p l1 l2 l3 l4 l5 = true ∧ routes.length = prices.length ∧ badP prices = false ∧ badR l1.length routes = false := by
 unfold pricedV at h
 by_cases c1 : 10 < routes.length ∨ 10 < prices.length
 ·
  rw [if_pos c1] at h; cases h
 ·
  rw [if_neg c1] at h
  by_cases c2 : validB p l1 l2 l3 l4 l5 = true
  ·
   rw [if_pos c2] at h
   by_cases c3 : routes.length = prices.length
   ·
    rw [if_pos c3] at h
    by_cases c4 : badR l1.length routes = true
    ·
     rw [if_pos c4] at h; cases h
    ·
     rw [if_neg c4] at h
     by_cases c5 : badP prices = true
     ·
      rw [if_pos c5] at h; cases h
     ·
      refine ⟨?_, c2, c3, by simpa using c5, by simpa using c4⟩
      unfold seep_Floor.f floorV
      have hall : (routes.all fun l => decide (l.length ≤ 1000)) = true := by
       rw [List.all_eq_true]
       intro row hrw
       obtain ⟨j, hj, rfl⟩ := List.mem_iff_getElem.1 hrw
       have := hr j hj
       rw [show rd_L4 routes (j : Int) = routes[j] from by simp [rd_L4, hj]] at this
       simp
       omega
      rw [if_neg c1, if_pos (given_nil p l1 l2 l3 l4 l5 c2), if_pos c3, if_neg c5, if_neg c4, if_pos hall]
   ·
    rw [if_neg c3] at h; cases h
  ·
   rw [if_neg c2] at h; cases h
end
end Go.Proofs.Ytafkanmioinbiaa.SA
namespace Go.Proofs.Ytafkanmioinbiaa.SA
open Go.RowKit Go.Proofs.YtafkanmioinbiaaW.PrintWords Go.Proofs.YtafkanmioinbiaaW.PrintLast Go.Proofs.YtafkanmioinbiaaW.PrintMore
attribute [local go_sem] qax qaz max_two min_two qao qap qay qba
def ldE (l1 : List S44) (l : List Int) (i : Nat) : S44 := qav l1 (rd l i)
def ldAt (l1 : List S44) (ws l : List Int) (i : Nat) : Bool := inB (rd l i) 0 ((l1.length : Int) - 1) && (if i = 0 then ws.contains (ldE l1 l i).f0 else decide ((ldE l1 l (i - 1)).f1 = (ldE l1 l i).f0))
def leadsB (l1 : List S44) (ws l : List Int) (pt : Int) : Bool := if l.length = 0 then ws.contains pt else (List.range l.length).all (ldAt l1 ws l) && decide ((ldE l1 l (l.length - 1)).f1 = pt)
theorem leadsB_bad {l1 : List S44} {ws l : List Int} {pt : Int} (i : Nat) (hi : i < l.length) (h : ldAt l1 ws l i = false) : leadsB l1 ws l pt = false := by
 unfold leadsB
 rw [if_neg (by omega), range_all_false i hi h]
 rfl
theorem leadsB_end {l1 : List S44} {ws l : List Int} {pt : Int} (hl : 0 < l.length) (h : ∀ i, i < l.length → ldAt l1 ws l i = true) : leadsB l1 ws l pt = decide ((ldE l1 l (l.length - 1)).f1 = pt) := by
 unfold leadsB
 rw [if_neg (by omega), range_all_true h, Bool.true_and]
theorem ldAt_rng {l1 : List S44} {ws l : List Int} {i : Nat} (h : ldAt l1 ws l i = true) : 0 ≤ rd l i ∧ rd l i < l1.length := by
 unfold ldAt inB at h
 simp only [Bool.and_eq_true, decide_eq_true_eq] at h
 omega
end Go.Proofs.Ytafkanmioinbiaa.SA
