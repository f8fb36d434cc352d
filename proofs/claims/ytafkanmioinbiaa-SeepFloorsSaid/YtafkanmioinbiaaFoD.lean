/- What functions of the program answer. No condition. -/
import Derived.Test.YtafkanmioinbiaaSC
import Derived.Test.YtafkanmioinbiaaFoA
import Derived.Test.YtafkanmioinbiaaFoC
import Derived.Test.YtafkanmioinbiaaSF
import Derived.Test.YtafkanmioinbiaaSM
import Derived.Test.YtafkanmioinbiaaSQ
import Derived.Test.YtafkanmioinbiaaFoB
set_option linter.all false
set_option maxRecDepth 100000
set_option maxHeartbeats 8000000
namespace Go.Proofs.Ytafkanmioinbiaa.SA
open Go.RowKit Go.Proofs.YtafkanmioinbiaaW.PrintWords Go.Proofs.YtafkanmioinbiaaW.PrintLast Go.Proofs.YtafkanmioinbiaaW.PrintMore
attribute [local go_sem] qax qaz max_two min_two qao qap qay qba
mutual
def talikref07_Fair.l0 : Nat → List (List Int) → List Int → Int → Int → List (S44) → List Int → List Int → List (S41) → List (S95) → Option (Bool)
 | 0, _, _, _, _, _, _, _, _, _ => none
 | k + 1, x1, x2, x7, x484000, x484001, x484002, x484003, x484004, x484005 => if x7 < (x1.length : Int) then (talikref07_Fair.l1 k x1 x2 x7 false 0 x484000 x484001 x484002 x484003 x484004 x484005) else (talikref07_Fair.l2 k x1 x2 0 x484000 x484001 x484002 x484003 x484004 x484005)
def talikref07_Fair.l1 : Nat → List (List Int) → List Int → Int → Bool → Int → Int → List (S44) → List Int → List Int → List (S41) → List (S95) → Option (Bool)
 | 0, _, _, _, _, _, _, _, _, _, _, _ => none
 | k + 1, x1, x2, x7, x8, x9, x484000, x484001, x484002, x484003, x484004, x484005 => if x9 < (x484003.length : Int) then (if x8 = true then (talikref07_Fair.l1 k x1 x2 x7 true (wrap64 (x9 + 1)) x484000 x484001 x484002 x484003 x484004 x484005) else (if 0 ≤ x7 then (if x7 < (x1.length : Int) then (if 0 ≤ x9 then ((talikref07_IsRoute.f x484000 x484001 x484002 x484003 x484004 x484005 ([] : List Int) (rd_L4 x1 x7) (rd x484003 x9)).bind fun t486 => (talikref07_Fair.l1 k x1 x2 x7 t486 (wrap64 (x9 + 1)) x484000 x484001 x484002 x484003 x484004 x484005)) else (none)) else (none)) else (none))) else (if x8 = true then (talikref07_Fair.l0 k x1 x2 (wrap64 (x7 + 1)) x484000 x484001 x484002 x484003 x484004 x484005) else (some false))
def talikref07_Fair.l2 : Nat → List (List Int) → List Int → Int → Int → List (S44) → List Int → List Int → List (S41) → List (S95) → Option (Bool)
 | 0, _, _, _, _, _, _, _, _, _ => none
 | k + 1, x1, x2, x10, x484000, x484001, x484002, x484003, x484004, x484005 => if x10 < (x484001.length : Int) then (talikref07_Fair.l3 k x1 x2 x10 0 0 x484000 x484001 x484002 x484003 x484004 x484005) else (some true)
def talikref07_Fair.l3 : Nat → List (List Int) → List Int → Int → Int → Int → Int → List (S44) → List Int → List Int → List (S41) → List (S95) → Option (Bool)
 | 0, _, _, _, _, _, _, _, _, _, _, _ => none
 | k + 1, x1, x2, x10, x11, x12, x484000, x484001, x484002, x484003, x484004, x484005 => if x12 < (x1.length : Int) then (if 0 ≤ x12 then ((talikref07_Has.f k (rd_L4 x1 x12) x10).bind fun t488 => (if t488 = true then (if x12 < (x2.length : Int) then (talikref07_Fair.l3 k x1 x2 x10 (wrap64 (x11 + (rd x2 x12))) (wrap64 (x12 + 1)) x484000 x484001 x484002 x484003 x484004 x484005) else (none)) else (talikref07_Fair.l3 k x1 x2 x10 x11 (wrap64 (x12 + 1)) x484000 x484001 x484002 x484003 x484004 x484005))) else (none)) else (if 0 ≤ x10 then (if x10 < (x484001.length : Int) then (if ((qav x484001 x10).f3) ≥ 0 then (if x11 > ((qav x484001 x10).f3) then (some false) else (talikref07_Fair.l2 k x1 x2 (wrap64 (x10 + 1)) x484000 x484001 x484002 x484003 x484004 x484005)) else (talikref07_Fair.l2 k x1 x2 (wrap64 (x10 + 1)) x484000 x484001 x484002 x484003 x484004 x484005)) else (none)) else (none))
end
def talikref07_Fair.f (k : Nat) (a0_0 : Int) (l0_1 : List (S44)) (l0_2 : List Int) (l0_3 : List Int) (l0_4 : List (S41)) (l0_5 : List (S95)) (l1 : List (List Int)) (l2 : List Int) : Option (Bool) := talikref07_Fair.l0 k l1 l2 0 a0_0 l0_1 l0_2 l0_3 l0_4 l0_5
def talikref07_Fair.T8 : Bool × List (List Nat × List Nat) := (true, [([], []), ([0], [0]), ([1], [1]), ([1], [1]), ([1], [1]), ([3, 4, 1], [1, 3, 4]), ([5, 1], [1, 5]), ([1], [1]), ([7, 1], [1, 7]), ([1], [1]), ([8, 9, 1], [1, 8, 9]), ([10, 1], [1, 10]), ([2, 6, 11, 1, 1], [1, 2, 6, 11]), ([1, 12], [1, 12]), ([13, 12, 0, 1, 2, 3, 4, 5, 6, 7, 8, 9, 10, 11, 12, 13], [0, 13])])
def talikref07_Fair.B8 : List Nat := [0, 1, 3, 3, 3, 27, 59, 3, 131, 3, 899, 1923, 4095, 8191, 16383]
theorem talikref07_Fair.tab8 : rtab .any (opsOf Try.f41 8) = talikref07_Fair.T8 := by kernel_rfl
theorem talikref07_Fair.bits8 : waitsOk talikref07_Fair.T8.2 talikref07_Fair.B8 = true := by kernel_rfl
theorem talikref07_Fair.calls (k : Nat) (a0_0 : Int) (A0_1 : Option Addr) (c0_1 : Nat) (l0_1 : List (S44)) (A0_2 : Option Addr) (c0_2 : Nat) (l0_2 : List Int) (A0_3 : Option Addr) (c0_3 : Nat) (l0_3 : List Int) (A0_4 : Option Addr) (c0_4 : Nat) (l0_4 : List (S41)) (A0_5 : Option Addr) (c0_5 : Nat) (l0_5 : List (S95)) (A1 : Option Addr) (c1 : Nat) (l1 : List (List Int)) (A2 : Option Addr) (c2 : Nat) (l2 : List Int) (r : Bool) (w : World) (hr0_1 : Kd.C k44 w A0_1 l0_1.length l0_1) (hc0_1 : l0_1.length ≤ c0_1) (hr0_2 : Kd.C (Kd.int .i64) w A0_2 l0_2.length l0_2) (hc0_2 : l0_2.length ≤ c0_2) (hr0_3 : Kd.C (Kd.int .i64) w A0_3 l0_3.length l0_3) (hc0_3 : l0_3.length ≤ c0_3) (hr0_4 : Kd.C k41 w A0_4 l0_4.length l0_4) (hc0_4 : l0_4.length ≤ c0_4) (hr0_5 : Kd.C k95 w A0_5 l0_5.length l0_5) (hc0_5 : l0_5.length ≤ c0_5) (hr1 : Kd.C (Kd.slice 3 (Kd.int .i64)) w A1 l1.length l1) (hc1 : l1.length ≤ c1) (hr2 : Kd.C (Kd.int .i64) w A2 l2.length l2) (hc2 : l2.length ≤ c2) (h : talikref07_Fair.f k a0_0 l0_1 l0_2 l0_3 l0_4 l0_5 l1 l2 = some r) :
  Calls Try.prog 41 #[.agg #[.int .i64 a0_0, .slice A0_1 l0_1.length c0_1, .slice A0_2 l0_2.length c0_2, .slice A0_3 l0_3.length c0_3, .slice A0_4 l0_4.length c0_4, .slice A0_5 l0_5.length c0_5], .slice A1 l1.length c1, .slice A2 l2.length c2] w fun e w' => e = .returned (.bool r) ∧ Below w.heap.size w w' := by
 have hu27 := Try.underlying27
 have HR0_1 := qab.mk hr0_1
 have HC0_1 := qab.mk hc0_1
 clear hr0_1 hc0_1
 have HR0_2 := qab.mk hr0_2
 have HC0_2 := qab.mk hc0_2
 clear hr0_2 hc0_2
 have HR0_3 := qab.mk hr0_3
 have HC0_3 := qab.mk hc0_3
 clear hr0_3 hc0_3
 have HR0_4 := qab.mk hr0_4
 have HC0_4 := qab.mk hc0_4
 clear hr0_4 hc0_4
 have HR0_5 := qab.mk hr0_5
 have HC0_5 := qab.mk hc0_5
 clear hr0_5 hc0_5
 have HR1 := qab.mk hr1
 have HC1 := qab.mk hc1
 clear hr1 hc1
 have HR2 := qab.mk hr2
 have HC2 := qab.mk hc2
 clear hr2 hc2
 have HB := qab.mk (Below.refl w.heap.size w)
 have H : (talikref07_Fair.l0 k l1 l2 0 a0_0 l0_1 l0_2 l0_3 l0_4 l0_5) = some r := h
 clear h
 have H' := qab.mk H
 clear H
 go_enter Try.func41, Try.ntmps41
 go_wp2_with (first | ((with_reducible refine qam (N := 3) rfl ?_); refine ze 3 #[.int .i64 a0_0, .slice A0_1 l0_1.length c0_1, .slice A0_2 l0_2.length c0_2, .slice A0_3 l0_3.length c0_3, .slice A0_4 l0_4.length c0_4, .slice A0_5 l0_5.length c0_5] 27 ?_; intro gb483 hg w4 hbox hb; have n0_ := qab.mk (qae (zb HB.out) hb); have n1_ := qab.mk (hbox); have n2_ := qab.mk ((by rw [hg]; exact (below_size (zb HB.out)) : w.heap.size ≤ gb483)); have n3_ := qab.mk ((by rw [hg]; exact (below_size (zb HB.out)) : w.heap.size ≤ gb483)); clear HB; have HB := n0_; have BK483 := n1_; have GW483 := n2_; have GE483 := n3_; clear n0_ n1_ n2_ n3_; clear hb hbox hg))
 go_loopg [7] k (fun kq v7 w' => ∃ (x7_1 : Int), v7 = .int .i64 x7_1 ∧ qab (talikref07_Fair.l0 kq l1 l2 x7_1 a0_0 l0_1 l0_2 l0_3 l0_4 l0_5 = some r) ∧ qab (kq ≤ k) ∧ qab (w'.heap[gb483]? = some (.cells #[.int .i64 a0_0, (.slice A0_1 l0_1.length c0_1), (.slice A0_2 l0_2.length c0_2), (.slice A0_3 l0_3.length c0_3), (.slice A0_4 l0_4.length c0_4), (.slice A0_5 l0_5.length c0_5)] 27 (0, 0))) ∧ qab (Below w.heap.size w w'))
 case atStart => exact ⟨(0), (by first | rfl | (simp; done) | (simp [*]; done)), H', ⟨Nat.le_refl _⟩, ⟨zj BK483.out⟩, ⟨by repeat (first | (with_reducible first | exact HB.out | apply qag | apply qaf | apply qah | refine qaj ?_ GE483.out) | exact HB.out)⟩⟩
 case round =>
  clear H'
  try clear c1
  try clear c2
  try clear p2
  try clear c4
  obtain ⟨x7_1, rfl, HA, HK1, BK483, HB⟩ := hrel
  cases gk with
  | zero => exact absurd HA.out (by simp [talikref07_Fair.l0])
  | succ k1 =>
   have H := HA.out
   clear HA
   simp only [talikref07_Fair.l0] at H
   by_cases c5 : x7_1 < (l1.length : Int)
   ·
    rw [if_pos c5] at H
    have c5b0 : decide (x7_1 < (l1.length : Int)) = true := decide_eq_true c5
    clear c5
    have H' := qab.mk H
    clear H
    go_wp2
    go_loopg [8, 9] k1 (fun kq v8 v9 w' => ∃ (x8_2 : Bool) (x9_2 : Int), v8 = .bool x8_2 ∧ v9 = .int .i64 x9_2 ∧ qab (talikref07_Fair.l1 kq l1 l2 x7_1 x8_2 x9_2 a0_0 l0_1 l0_2 l0_3 l0_4 l0_5 = some r) ∧ qab (kq ≤ k1) ∧ qab (w'.heap[gb483]? = some (.cells #[.int .i64 a0_0, (.slice A0_1 l0_1.length c0_1), (.slice A0_2 l0_2.length c0_2), (.slice A0_3 l0_3.length c0_3), (.slice A0_4 l0_4.length c0_4), (.slice A0_5 l0_5.length c0_5)] 27 (0, 0))) ∧ qab (Below w.heap.size w w'))
    case atStart => exact ⟨(false), (0), (by first | rfl | (simp; done) | (simp [*]; done)), (by first | rfl | (simp; done) | (simp [*]; done)), H', ⟨Nat.le_refl _⟩, ⟨zj BK483.out⟩, ⟨by repeat (first | (with_reducible first | exact HB.out | apply qag | apply qaf | apply qah | refine qaj ?_ GE483.out) | exact HB.out)⟩⟩
    case round =>
     clear H'
     try clear c1
     try clear c2
     try clear p2
     try clear c4
     try clear c5
     try clear c5b0
     try clear p2
     obtain ⟨x8_2, x9_2, rfl, rfl, HA, HK2, BK483, HB⟩ := hrel
     cases gk with
     | zero => exact absurd HA.out (by simp [talikref07_Fair.l1])
     | succ k2 =>
      have H := HA.out
      clear HA
      simp only [talikref07_Fair.l1] at H
      by_cases c6 : x9_2 < (l0_3.length : Int)
      ·
       rw [if_pos c6] at H
       have c6b0 : decide (x9_2 < (l0_3.length : Int)) = true := decide_eq_true c6
       clear c6
       by_cases c7 : x8_2 = true
       ·
        subst c7
        rw [if_pos rfl] at H
        have H' := qab.mk H
        clear H
        obtain ⟨hfz_, hcz8_0, hcz8_1, hcz8_2, hcz8_3, hcz8_4, hcz8_5⟩ := qz6 BK483.out
        try go_wp2
        replace BK483 := qab.mk (qaw BK483.out)
        replace HB := qab.mk (qah HB.out)
        refine start_ (n := 15) (S := fun w' => True) (ds := []) (msk 15 0) (by kernel_rfl) rfl rfl trivial (fun hHeld => ?_); refine with_tabW talikref07_Fair.tab8 talikref07_Fair.bits8 (fun HT_ HW_ => ?_)
        generalize wr.drew = w9 at BK483 HB hHeld ⊢
        refine zu HT_.out 0 1 26 ?_
        refine zu HT_.out 1 2 27 ?_
        refine zv HT_.out 2 3 28 ?_
        refine zv HT_.out 3 4 29 ?_
        refine zv HT_.out 4 5 30 ?_
        refine zv HT_.out 5 6 31 ?_
        refine zv HT_.out 6 7 32 ?_
        refine zv HT_.out 7 8 33 ?_
        refine zv HT_.out 8 9 34 ?_
        refine zv HT_.out 9 10 35 ?_
        refine zv HT_.out 10 11 36 ?_
        refine zv HT_.out 11 12 37 ?_
        refine zv HT_.out 12 13 38 ?_
        refine zu HT_.out 13 14 39 ?_
        refine zu HT_.out 14 15 8 ?_
        refine done_ (done_of HT_.out (by kernel_rfl)) ?_
        try go_wp2
        go_roundg k2
        case measure => have := HK1.out; have := HK2.out; omega
        case rel => exact ⟨(true), (wrap64 (x9_2 + 1)), (by first | rfl | (simp; done) | (simp [*]; done)), (by first | rfl | (simp; done) | (simp [*]; done)), H', ⟨by have := HK1.out; have := HK2.out; omega⟩, ⟨zj BK483.out⟩, ⟨by repeat (first | (with_reducible first | exact HB.out | apply qag | apply qaf | apply qah | refine qaj ?_ GE483.out) | exact HB.out)⟩⟩
       ·
        replace c7 := Bool.eq_false_iff.mpr c7
        subst c7
        rw [if_neg (show ¬ (false = true) by decide)] at H
        by_cases c10 : 0 ≤ x7_1
        ·
         rw [if_pos c10] at H
         have c10b0 : decide (0 ≤ x7_1) = true := decide_eq_true c10
         clear c10
         by_cases c11 : x7_1 < (l1.length : Int)
         ·
          rw [if_pos c11] at H
          have c11b0 : decide (x7_1 < (l1.length : Int)) = true := decide_eq_true c11
          clear c11
          by_cases c12 : 0 ≤ x9_2
          ·
           rw [if_pos c12] at H
           have c12b0 : decide (0 ≤ x9_2) = true := decide_eq_true c12
           clear c12
           replace H := Option.bind_eq_some_iff.mp H
           obtain ⟨t486, A130, H⟩ := H
           try dsimp only at H
           have A13 := qab.mk A130
           clear A130
           have H' := qab.mk H
           clear H
           obtain ⟨hfz_, hcz14_0, hcz14_1, hcz14_2, hcz14_3, hcz14_4, hcz14_5⟩ := qz6 BK483.out
           try go_wp2
           replace BK483 := qab.mk (qaw BK483.out)
           replace HB := qab.mk (qah HB.out)
           have p484 : 0 ≤ (x7_1 : Int) := of_decide_eq_true (by first | (with_reducible assumption) | assumption)
           have q484 : x7_1 < (l1.length : Int) := of_decide_eq_true (by first | (with_reducible assumption) | assumption)
           obtain ⟨ad484, A484_0, c484_0, e484, hx484_0, hl484_0, hi484_0⟩ := at_L4 HR1.out x7_1 p484 q484
           have hw484_0 := hx484_0
           cases e484
           replace hx484_0 := (HB.out.cell (World.block_lt_of_cell? w _ hx484_0)).trans hx484_0
           have HR484_0 := qab.mk hi484_0
           have HC484_0 := qab.mk hl484_0
           clear hi484_0 hl484_0
           replace p484 := eq_true p484
           replace q484 := eq_true q484
           have p485 : 0 ≤ (x9_2 : Int) := of_decide_eq_true (by first | (with_reducible assumption) | assumption)
           have q485 : x9_2 < (l0_3.length : Int) := of_decide_eq_true (by first | (with_reducible assumption) | assumption)
           obtain ⟨ad485, e485, hx485_0⟩ := Kd.at_int HR0_3.out x9_2 p485 q485
           have hw485_0 := hx485_0
           cases e485
           replace hx485_0 := (HB.out.cell (World.block_lt_of_cell? w _ hx485_0)).trans hx485_0
           replace p485 := eq_true p485
           replace q485 := eq_true q485
           refine start_ (n := 15) (S := fun w' => w'.cell? ⟨gb483, 0, none⟩ = some (.int .i64 a0_0) ∧ w'.cell? ⟨gb483, 1, none⟩ = some (.slice A0_1 l0_1.length c0_1) ∧ w'.cell? ⟨gb483, 2, none⟩ = some (.slice A0_2 l0_2.length c0_2) ∧ w'.cell? ⟨gb483, 3, none⟩ = some (.slice (some ad485) l0_3.length c0_3) ∧ w'.cell? ⟨gb483, 4, none⟩ = some (.slice A0_4 l0_4.length c0_4) ∧ w'.cell? ⟨gb483, 5, none⟩ = some (.slice A0_5 l0_5.length c0_5) ∧ w'.cell? (ad484.add (x7_1).toNat) = some (.slice A484_0 (rd_L4 l1 x7_1).length c484_0) ∧ w'.cell? (ad485.add (x9_2).toNat) = some (.int .i64 (rd l0_3 x9_2))) (ds := []) (msk 15 0) (by kernel_rfl) rfl rfl ⟨(qaa BK483.out 0).trans rfl, (qaa BK483.out 1).trans rfl, (qaa BK483.out 2).trans rfl, (qaa BK483.out 3).trans rfl, (qaa BK483.out 4).trans rfl, (qaa BK483.out 5).trans rfl, ((HB.out.cell (World.block_lt_of_cell? w _ hw484_0)).trans hw484_0), ((HB.out.cell (World.block_lt_of_cell? w _ hw485_0)).trans hw485_0)⟩ (fun hHeld => ?_); refine with_tabW talikref07_Fair.tab8 talikref07_Fair.bits8 (fun HT_ HW_ => ?_)
           generalize wr.drew = w15 at BK483 HB HR484_0 hx484_0 hx485_0 hHeld ⊢
           refine zu HT_.out 0 1 26 ?_
           refine zu HT_.out 1 2 27 ?_
           refine zug #[true, true, false, true, false, false, false, false, false, false, false, false, false, false, false] HT_.out 3 29 ?_
           refine zug #[true, true, false, true, true, false, false, false, false, false, false, false, false, false, false] HT_.out 4 30 ?_
           refine zug #[true, true, false, true, true, true, false, false, false, false, false, false, false, false, false] HT_.out 5 31 ?_
           refine zug #[true, true, false, true, true, true, false, true, false, false, false, false, false, false, false] HT_.out 7 33 ?_
           refine zug #[true, true, false, true, true, true, false, true, false, true, false, false, false, false, false] HT_.out 9 35 ?_
           refine zwg8 #[true, true, true, true, true, true, false, true, false, true, false, false, false, false, false] HT_.out HW_.out 2 28 hHeld ?_
           refine zwg8 #[true, true, true, true, true, true, true, true, false, true, false, false, false, false, false] HT_.out HW_.out 6 32 hHeld ?_
           refine zwg8 (msk 15 10) HT_.out HW_.out 8 34 hHeld ?_
           refine zu HT_.out 10 11 36 ?_
           refine zw8 HT_.out HW_.out 11 12 37 hHeld ?_
           refine one_ (i := 12) (N := some 38) (msk 15 13) rfl rfl (one_of HT_.out (by kernel_rfl)) (by decide) (fun K hK => ?_)
           refine zg Try.func84 #[.agg #[.int .i64 a0_0, .slice A0_1 l0_1.length c0_1, .slice A0_2 l0_2.length c0_2, .slice (some ad485) l0_3.length c0_3, .slice A0_4 l0_4.length c0_4, .slice A0_5 l0_5.length c0_5], .slice none 0 0, .slice A484_0 (rd_L4 l1 x7_1).length c484_0, .int .i64 (rd l0_3 x9_2)] ?_
           refine (talikref07_IsRoute.calls a0_0 _ _ l0_1 _ _ l0_2 _ _ l0_3 _ _ l0_4 _ _ l0_5 _ _ ([] : List Int) _ _ (rd_L4 l1 x7_1) (rd l0_3 x9_2) t486 _ ?side1 ?side2 ?side3 ?side4 ?side5 ?side6 ?side7 ?side8 ?side9 ?side10 ?side11 ?side12 ?side13 ?side14 A13.out).mono ?_
           (case side1 => exact zs (Kd.qai HR0_1.out HB.out))
           (case side2 => exact HC0_1.out)
           (case side3 => exact zs (Kd.qai HR0_2.out HB.out))
           (case side4 => exact HC0_2.out)
           (case side5 => exact zs (Kd.qai HR0_3.out HB.out))
           (case side6 => exact HC0_3.out)
           (case side7 => exact zs (Kd.qai HR0_4.out HB.out))
           (case side8 => exact HC0_4.out)
           (case side9 => exact zs (Kd.qai HR0_5.out HB.out))
           (case side10 => exact HC0_5.out)
           (case side11 => exact Kd.C_nil _ _)
           (case side12 => exact Nat.le_refl _)
           (case side13 => exact zs (Kd.qai HR484_0.out HB.out))
           (case side14 => exact HC484_0.out)
           rintro e w16 ⟨rfl, hb⟩
           refine ⟨_, rfl, ?_⟩
           replace BK483 := qab.mk (zk BK483.out hb)
           replace HB := qab.mk (qae (by repeat (first | (with_reducible first | exact HB.out | apply qag | apply qaf | apply qah | refine qaj ?_ GE483.out) | exact HB.out)) hb)
           (try clear hb)
           (try clear hb2)
           (try clear hk)
           (try clear hi)
           refine hK.out _ _ ⟨(qaa BK483.out 0).trans rfl, (qaa BK483.out 1).trans rfl, (qaa BK483.out 2).trans rfl, (qaa BK483.out 3).trans rfl, (qaa BK483.out 4).trans rfl, (qaa BK483.out 5).trans rfl, ((HB.out.cell (World.block_lt_of_cell? w _ hw484_0)).trans hw484_0), ((HB.out.cell (World.block_lt_of_cell? w _ hw485_0)).trans hw485_0)⟩ (fun hHeld => ?_)
           clear hK K
           refine zn 38 ?_
           refine zu HT_.out 13 14 39 ?_
           refine zu HT_.out 14 15 8 ?_
           refine done_ (done_of HT_.out (by kernel_rfl)) ?_
           try go_wp2
           go_roundg k2
           case measure => have := HK1.out; have := HK2.out; omega
           case rel => exact ⟨(t486), (wrap64 (x9_2 + 1)), (by first | rfl | (simp; done) | (simp [*]; done)), (by first | rfl | (simp; done) | (simp [*]; done)), H', ⟨by have := HK1.out; have := HK2.out; omega⟩, ⟨zj BK483.out⟩, ⟨by repeat (first | (with_reducible first | exact HB.out | apply qag | apply qaf | apply qah | refine qaj ?_ GE483.out) | exact HB.out)⟩⟩
          ·
           rw [if_neg c12] at H
           exact absurd H (by simp)
         ·
          rw [if_neg c11] at H
          exact absurd H (by simp)
        ·
         rw [if_neg c10] at H
         exact absurd H (by simp)
      ·
       rw [if_neg c6] at H
       have c6b0 : decide (x9_2 < (l0_3.length : Int)) = false := decide_eq_false c6
       clear c6
       by_cases c17 : x8_2 = true
       ·
        subst c17
        rw [if_pos rfl] at H
        have H' := qab.mk H
        clear H
        obtain ⟨hfz_, hcz18_0, hcz18_1, hcz18_2, hcz18_3, hcz18_4, hcz18_5⟩ := qz6 BK483.out
        go_wp2
        go_roundg k2
        case measure => have := HK1.out; have := HK2.out; omega
        case rel => exact ⟨(wrap64 (x7_1 + 1)), (by first | rfl | (simp; done) | (simp [*]; done)), H', ⟨by have := HK1.out; have := HK2.out; omega⟩, ⟨zj BK483.out⟩, ⟨by repeat (first | (with_reducible first | exact HB.out | apply qag | apply qaf | apply qah | refine qaj ?_ GE483.out) | exact HB.out)⟩⟩
       ·
        replace c17 := Bool.eq_false_iff.mpr c17
        subst c17
        rw [if_neg (show ¬ (false = true) by decide)] at H
        obtain rfl := Option.some.inj H
        obtain ⟨hfz_, hcz19_0, hcz19_1, hcz19_2, hcz19_3, hcz19_4, hcz19_5⟩ := qz6 BK483.out
        go_wp2
        go_ret
        exact ⟨by first | rfl | (simp [qbb, qbc] <;> rfl) | (simp [*, qbb, qbc] <;> rfl), by repeat (first | (with_reducible first | exact HB.out | apply qag | apply qaf | apply qah | refine qaj ?_ GE483.out) | exact HB.out)⟩
   ·
    rw [if_neg c5] at H
    have c5b0 : decide (x7_1 < (l1.length : Int)) = false := decide_eq_false c5
    clear c5
    have H' := qab.mk H
    clear H
    go_wp2
    go_loopg [10] k1 (fun kq v10 w' => ∃ (x10_2 : Int), v10 = .int .i64 x10_2 ∧ qab (talikref07_Fair.l2 kq l1 l2 x10_2 a0_0 l0_1 l0_2 l0_3 l0_4 l0_5 = some r) ∧ qab (kq ≤ k1) ∧ qab (w'.heap[gb483]? = some (.cells #[.int .i64 a0_0, (.slice A0_1 l0_1.length c0_1), (.slice A0_2 l0_2.length c0_2), (.slice A0_3 l0_3.length c0_3), (.slice A0_4 l0_4.length c0_4), (.slice A0_5 l0_5.length c0_5)] 27 (0, 0))) ∧ qab (Below w.heap.size w w'))
    case atStart => exact ⟨(0), (by first | rfl | (simp; done) | (simp [*]; done)), H', ⟨Nat.le_refl _⟩, ⟨zj BK483.out⟩, ⟨by repeat (first | (with_reducible first | exact HB.out | apply qag | apply qaf | apply qah | refine qaj ?_ GE483.out) | exact HB.out)⟩⟩
    case round =>
     clear H'
     try clear c1
     try clear c2
     try clear p2
     try clear c4
     try clear p4
     try clear q4
     try clear hx4
     try clear c5
     try clear c5b0
     try clear c6
     try clear c6b0
     try clear p6
     try clear c7
     try clear c8
     try clear c10
     try clear c10b0
     try clear c11
     try clear c11b0
     try clear c12
     try clear c12b0
     try clear c17
     try clear hcz14_0
     try clear hcz14_1
     try clear hcz14_2
     try clear hcz14_3
     try clear hcz14_4
     try clear hcz14_5
     try clear hcz18_0
     try clear hcz18_1
     try clear hcz18_2
     try clear hcz18_3
     try clear hcz18_4
     try clear hcz18_5
     try clear hcz19_0
     try clear hcz19_1
     try clear hcz19_2
     try clear hcz19_3
     try clear hcz19_4
     try clear hcz19_5
     try clear hcz8_0
     try clear hcz8_1
     try clear hcz8_2
     try clear hcz8_3
     try clear hcz8_4
     try clear hcz8_5
     try clear hfz14_0
     try clear hfz14_1
     try clear hfz14_2
     try clear hfz14_3
     try clear hfz14_4
     try clear hfz14_5
     try clear hfz18_0
     try clear hfz18_1
     try clear hfz18_2
     try clear hfz18_3
     try clear hfz18_4
     try clear hfz18_5
     try clear hfz19_0
     try clear hfz19_1
     try clear hfz19_2
     try clear hfz19_3
     try clear hfz19_4
     try clear hfz19_5
     try clear hfz8_0
     try clear hfz8_1
     try clear hfz8_2
     try clear hfz8_3
     try clear hfz8_4
     try clear hfz8_5
     try clear hx484_0
     try clear hx485_0
     try clear p2
     try clear p484
     try clear p485
     try clear q484
     try clear q485
     obtain ⟨x10_2, rfl, HA, HK2, BK483, HB⟩ := hrel
     cases gk with
     | zero => exact absurd HA.out (by simp [talikref07_Fair.l2])
     | succ k2 =>
      have H := HA.out
      clear HA
      simp only [talikref07_Fair.l2] at H
      by_cases c20 : x10_2 < (l0_1.length : Int)
      ·
       rw [if_pos c20] at H
       have c20b0 : decide (x10_2 < (l0_1.length : Int)) = true := decide_eq_true c20
       clear c20
       have H' := qab.mk H
       clear H
       obtain ⟨hfz_, hcz21_0, hcz21_1, hcz21_2, hcz21_3, hcz21_4, hcz21_5⟩ := qz6 BK483.out
       go_wp2
       go_loopg [11, 12] k2 (fun kq v11 v12 w' => ∃ (x11_3 : Int) (x12_3 : Int), v11 = .int .i64 x11_3 ∧ v12 = .int .i64 x12_3 ∧ qab (talikref07_Fair.l3 kq l1 l2 x10_2 x11_3 x12_3 a0_0 l0_1 l0_2 l0_3 l0_4 l0_5 = some r) ∧ qab (kq ≤ k2) ∧ qab (w'.heap[gb483]? = some (.cells #[.int .i64 a0_0, (.slice A0_1 l0_1.length c0_1), (.slice A0_2 l0_2.length c0_2), (.slice A0_3 l0_3.length c0_3), (.slice A0_4 l0_4.length c0_4), (.slice A0_5 l0_5.length c0_5)] 27 (0, 0))) ∧ qab (Below w.heap.size w w'))
       case atStart => exact ⟨(0), (0), (by first | rfl | (simp; done) | (simp [*]; done)), (by first | rfl | (simp; done) | (simp [*]; done)), H', ⟨Nat.le_refl _⟩, ⟨zj BK483.out⟩, ⟨by repeat (first | (with_reducible first | exact HB.out | apply qag | apply qaf | apply qah | refine qaj ?_ GE483.out) | exact HB.out)⟩⟩
       case round =>
        clear H'
        try clear c1
        try clear c2
        try clear p2
        try clear c4
        try clear p4
        try clear q4
        try clear hx4
        try clear c5
        try clear c5b0
        try clear c6
        try clear c6b0
        try clear p6
        try clear c7
        try clear c8
        try clear c10
        try clear c10b0
        try clear c11
        try clear c11b0
        try clear c12
        try clear c12b0
        try clear c17
        try clear c20
        try clear c20b0
        try clear hcz14_0
        try clear hcz14_1
        try clear hcz14_2
        try clear hcz14_3
        try clear hcz14_4
        try clear hcz14_5
        try clear hcz18_0
        try clear hcz18_1
        try clear hcz18_2
        try clear hcz18_3
        try clear hcz18_4
        try clear hcz18_5
        try clear hcz19_0
        try clear hcz19_1
        try clear hcz19_2
        try clear hcz19_3
        try clear hcz19_4
        try clear hcz19_5
        try clear hcz21_0
        try clear hcz21_1
        try clear hcz21_2
        try clear hcz21_3
        try clear hcz21_4
        try clear hcz21_5
        try clear hcz8_0
        try clear hcz8_1
        try clear hcz8_2
        try clear hcz8_3
        try clear hcz8_4
        try clear hcz8_5
        try clear hfz14_0
        try clear hfz14_1
        try clear hfz14_2
        try clear hfz14_3
        try clear hfz14_4
        try clear hfz14_5
        try clear hfz18_0
        try clear hfz18_1
        try clear hfz18_2
        try clear hfz18_3
        try clear hfz18_4
        try clear hfz18_5
        try clear hfz19_0
        try clear hfz19_1
        try clear hfz19_2
        try clear hfz19_3
        try clear hfz19_4
        try clear hfz19_5
        try clear hfz21_0
        try clear hfz21_1
        try clear hfz21_2
        try clear hfz21_3
        try clear hfz21_4
        try clear hfz21_5
        try clear hfz8_0
        try clear hfz8_1
        try clear hfz8_2
        try clear hfz8_3
        try clear hfz8_4
        try clear hfz8_5
        try clear hx484_0
        try clear hx485_0
        try clear p2
        try clear p4
        try clear p484
        try clear p485
        try clear p6
        try clear q4
        try clear q484
        try clear q485
        obtain ⟨x11_3, x12_3, rfl, rfl, HA, HK3, BK483, HB⟩ := hrel
        cases gk with
        | zero => exact absurd HA.out (by simp [talikref07_Fair.l3])
        | succ k3 =>
         have H := HA.out
         clear HA
         simp only [talikref07_Fair.l3] at H
         by_cases c22 : x12_3 < (l1.length : Int)
         ·
          rw [if_pos c22] at H
          have c22b0 : decide (x12_3 < (l1.length : Int)) = true := decide_eq_true c22
          clear c22
          by_cases c23 : 0 ≤ x12_3
          ·
           rw [if_pos c23] at H
           have c23b0 : decide (0 ≤ x12_3) = true := decide_eq_true c23
           clear c23
           replace H := Option.bind_eq_some_iff.mp H
           obtain ⟨t488, A240, H⟩ := H
           try dsimp only at H
           have A24 := qab.mk A240
           clear A240
           by_cases c25 : t488 = true
           ·
            subst c25
            rw [if_pos rfl] at H
            by_cases c26 : x12_3 < (l2.length : Int)
            ·
             rw [if_pos c26] at H
             have c26b0 : decide (x12_3 < (l2.length : Int)) = true := decide_eq_true c26
             clear c26
             have H' := qab.mk H
             clear H
             have p487 : 0 ≤ (x12_3 : Int) := of_decide_eq_true (by first | (with_reducible assumption) | assumption)
             have q487 : x12_3 < (l1.length : Int) := of_decide_eq_true (by first | (with_reducible assumption) | assumption)
             obtain ⟨ad487, A487_0, c487_0, e487, hx487_0, hl487_0, hi487_0⟩ := at_L4 HR1.out x12_3 p487 q487
             cases e487
             replace hx487_0 := (HB.out.cell (World.block_lt_of_cell? w _ hx487_0)).trans hx487_0
             have HR487_0 := qab.mk hi487_0
             have HC487_0 := qab.mk hl487_0
             clear hi487_0 hl487_0
             replace p487 := eq_true p487
             replace q487 := eq_true q487
             go_wp2_with (first | ((with_reducible refine gate_callee (f := 25) rfl ?_); refine zl 60 Try.func25 #[.slice A487_0 (rd_L4 l1 x12_3).length c487_0, .int .i64 x10_2] ?_; (with_reducible refine (talikref07_Has.calls k3 _ _ (rd_L4 l1 x12_3) x10_2 true _ ?side1 ?side2 A24.out).mono ?_); (case side1 => exact zs (Kd.qai HR487_0.out HB.out)); (case side2 => exact HC487_0.out); rintro e w' ⟨rfl, ⟨nd, rfl⟩⟩; refine ⟨_, rfl, ?_⟩; have p489 : 0 ≤ (x12_3 : Int) := of_decide_eq_true (by first | (with_reducible assumption) | assumption); have q489 : x12_3 < (l2.length : Int) := of_decide_eq_true (by first | (with_reducible assumption) | assumption); obtain ⟨ad489, e489, hx489_0⟩ := Kd.at_int HR2.out x12_3 p489 q489; cases e489; replace hx489_0 := (HB.out.cell (World.block_lt_of_cell? w _ hx489_0)).trans hx489_0; replace p489 := eq_true p489; replace q489 := eq_true q489))
             go_roundg k3
             case measure => have := HK1.out; have := HK2.out; have := HK3.out; omega
             case rel => exact ⟨(wrap64 (x11_3 + (rd l2 x12_3))), (wrap64 (x12_3 + 1)), (by first | rfl | (simp; done) | (simp [*]; done)), (by first | rfl | (simp; done) | (simp [*]; done)), H', ⟨by have := HK1.out; have := HK2.out; have := HK3.out; omega⟩, ⟨zj BK483.out⟩, ⟨by repeat (first | (with_reducible first | exact HB.out | apply qag | apply qaf | apply qah | refine qaj ?_ GE483.out) | exact HB.out)⟩⟩
            ·
             rw [if_neg c26] at H
             exact absurd H (by simp)
           ·
            replace c25 := Bool.eq_false_iff.mpr c25
            subst c25
            rw [if_neg (show ¬ (false = true) by decide)] at H
            have H' := qab.mk H
            clear H
            have p487 : 0 ≤ (x12_3 : Int) := of_decide_eq_true (by first | (with_reducible assumption) | assumption)
            have q487 : x12_3 < (l1.length : Int) := of_decide_eq_true (by first | (with_reducible assumption) | assumption)
            obtain ⟨ad487, A487_0, c487_0, e487, hx487_0, hl487_0, hi487_0⟩ := at_L4 HR1.out x12_3 p487 q487
            cases e487
            replace hx487_0 := (HB.out.cell (World.block_lt_of_cell? w _ hx487_0)).trans hx487_0
            have HR487_0 := qab.mk hi487_0
            have HC487_0 := qab.mk hl487_0
            clear hi487_0 hl487_0
            replace p487 := eq_true p487
            replace q487 := eq_true q487
            go_wp2_with (first | ((with_reducible refine gate_callee (f := 25) rfl ?_); refine zl 60 Try.func25 #[.slice A487_0 (rd_L4 l1 x12_3).length c487_0, .int .i64 x10_2] ?_; (with_reducible refine (talikref07_Has.calls k3 _ _ (rd_L4 l1 x12_3) x10_2 false _ ?side1 ?side2 A24.out).mono ?_); (case side1 => exact zs (Kd.qai HR487_0.out HB.out)); (case side2 => exact HC487_0.out); rintro e w' ⟨rfl, ⟨nd, rfl⟩⟩; refine ⟨_, rfl, ?_⟩))
            go_roundg k3
            case measure => have := HK1.out; have := HK2.out; have := HK3.out; omega
            case rel => exact ⟨(x11_3), (wrap64 (x12_3 + 1)), (by first | rfl | (simp; done) | (simp [*]; done)), (by first | rfl | (simp; done) | (simp [*]; done)), H', ⟨by have := HK1.out; have := HK2.out; have := HK3.out; omega⟩, ⟨zj BK483.out⟩, ⟨by repeat (first | (with_reducible first | exact HB.out | apply qag | apply qaf | apply qah | refine qaj ?_ GE483.out) | exact HB.out)⟩⟩
          ·
           rw [if_neg c23] at H
           exact absurd H (by simp)
         ·
          rw [if_neg c22] at H
          have c22b0 : decide (x12_3 < (l1.length : Int)) = false := decide_eq_false c22
          clear c22
          by_cases c27 : 0 ≤ x10_2
          ·
           rw [if_pos c27] at H
           have c27b0 : decide (0 ≤ x10_2) = true := decide_eq_true c27
           clear c27
           by_cases c28 : x10_2 < (l0_1.length : Int)
           ·
            rw [if_pos c28] at H
            have c28b0 : decide (x10_2 < (l0_1.length : Int)) = true := decide_eq_true c28
            clear c28
            by_cases c29 : ((qav l0_1 x10_2).f3) ≥ 0
            ·
             rw [if_pos c29] at H
             have c29b0 : decide (0 ≤ ((qav l0_1 x10_2).f3)) = true := decide_eq_true c29
             clear c29
             by_cases c30 : x11_3 > ((qav l0_1 x10_2).f3)
             ·
              rw [if_pos c30] at H
              have c30b0 : decide (((qav l0_1 x10_2).f3) < x11_3) = true := decide_eq_true c30
              clear c30
              obtain rfl := Option.some.inj H
              obtain ⟨hfz_, hcz31_0, hcz31_1, hcz31_2, hcz31_3, hcz31_4, hcz31_5⟩ := qz6 BK483.out
              have p490 : 0 ≤ (x10_2 : Int) := of_decide_eq_true (by first | (with_reducible assumption) | assumption)
              have q490 : x10_2 < (l0_1.length : Int) := of_decide_eq_true (by first | (with_reducible assumption) | assumption)
              obtain ⟨ad490, e490, hx490_0, hx490_1, hx490_2, hx490_3⟩ := at_T44 HR0_1.out x10_2 p490 q490
              cases e490
              replace hx490_0 := (HB.out.cell (World.block_lt_of_cell? w _ hx490_0)).trans hx490_0
              replace hx490_1 := (HB.out.cell (World.block_lt_of_cell? w _ hx490_1)).trans hx490_1
              replace hx490_2 := (HB.out.cell (World.block_lt_of_cell? w _ hx490_2)).trans hx490_2
              replace hx490_3 := (HB.out.cell (World.block_lt_of_cell? w _ hx490_3)).trans hx490_3
              replace p490 := eq_true p490
              replace q490 := eq_true q490
              have p491 : 0 ≤ (x10_2 : Int) := of_decide_eq_true (by first | (with_reducible assumption) | assumption)
              have q491 : x10_2 < (l0_1.length : Int) := of_decide_eq_true (by first | (with_reducible assumption) | assumption)
              obtain ⟨ad491, e491, hx491_0, hx491_1, hx491_2, hx491_3⟩ := at_T44 HR0_1.out x10_2 p491 q491
              obtain rfl : ad490 = ad491 := (by injection e491)
              replace hx491_0 := (HB.out.cell (World.block_lt_of_cell? w _ hx491_0)).trans hx491_0
              replace hx491_1 := (HB.out.cell (World.block_lt_of_cell? w _ hx491_1)).trans hx491_1
              replace hx491_2 := (HB.out.cell (World.block_lt_of_cell? w _ hx491_2)).trans hx491_2
              replace hx491_3 := (HB.out.cell (World.block_lt_of_cell? w _ hx491_3)).trans hx491_3
              replace p491 := eq_true p491
              replace q491 := eq_true q491
              go_wp2
              go_ret
              exact ⟨by first | rfl | (simp [qbb, qbc] <;> rfl) | (simp [*, qbb, qbc] <;> rfl), by repeat (first | (with_reducible first | exact HB.out | apply qag | apply qaf | apply qah | refine qaj ?_ GE483.out) | exact HB.out)⟩
             ·
              rw [if_neg c30] at H
              have c30b0 : decide (((qav l0_1 x10_2).f3) < x11_3) = false := decide_eq_false c30
              clear c30
              have H' := qab.mk H
              clear H
              obtain ⟨hfz_, hcz32_0, hcz32_1, hcz32_2, hcz32_3, hcz32_4, hcz32_5⟩ := qz6 BK483.out
              have p490 : 0 ≤ (x10_2 : Int) := of_decide_eq_true (by first | (with_reducible assumption) | assumption)
              have q490 : x10_2 < (l0_1.length : Int) := of_decide_eq_true (by first | (with_reducible assumption) | assumption)
              obtain ⟨ad490, e490, hx490_0, hx490_1, hx490_2, hx490_3⟩ := at_T44 HR0_1.out x10_2 p490 q490
              cases e490
              replace hx490_0 := (HB.out.cell (World.block_lt_of_cell? w _ hx490_0)).trans hx490_0
              replace hx490_1 := (HB.out.cell (World.block_lt_of_cell? w _ hx490_1)).trans hx490_1
              replace hx490_2 := (HB.out.cell (World.block_lt_of_cell? w _ hx490_2)).trans hx490_2
              replace hx490_3 := (HB.out.cell (World.block_lt_of_cell? w _ hx490_3)).trans hx490_3
              replace p490 := eq_true p490
              replace q490 := eq_true q490
              have p491 : 0 ≤ (x10_2 : Int) := of_decide_eq_true (by first | (with_reducible assumption) | assumption)
              have q491 : x10_2 < (l0_1.length : Int) := of_decide_eq_true (by first | (with_reducible assumption) | assumption)
              obtain ⟨ad491, e491, hx491_0, hx491_1, hx491_2, hx491_3⟩ := at_T44 HR0_1.out x10_2 p491 q491
              obtain rfl : ad490 = ad491 := (by injection e491)
              replace hx491_0 := (HB.out.cell (World.block_lt_of_cell? w _ hx491_0)).trans hx491_0
              replace hx491_1 := (HB.out.cell (World.block_lt_of_cell? w _ hx491_1)).trans hx491_1
              replace hx491_2 := (HB.out.cell (World.block_lt_of_cell? w _ hx491_2)).trans hx491_2
              replace hx491_3 := (HB.out.cell (World.block_lt_of_cell? w _ hx491_3)).trans hx491_3
              replace p491 := eq_true p491
              replace q491 := eq_true q491
              go_wp2
              go_roundg k3
              case measure => have := HK1.out; have := HK2.out; have := HK3.out; omega
              case rel => exact ⟨(wrap64 (x10_2 + 1)), (by first | rfl | (simp; done) | (simp [*]; done)), H', ⟨by have := HK1.out; have := HK2.out; have := HK3.out; omega⟩, ⟨zj BK483.out⟩, ⟨by repeat (first | (with_reducible first | exact HB.out | apply qag | apply qaf | apply qah | refine qaj ?_ GE483.out) | exact HB.out)⟩⟩
            ·
             rw [if_neg c29] at H
             have c29b0 : decide (0 ≤ ((qav l0_1 x10_2).f3)) = false := decide_eq_false c29
             clear c29
             have H' := qab.mk H
             clear H
             obtain ⟨hfz_, hcz33_0, hcz33_1, hcz33_2, hcz33_3, hcz33_4, hcz33_5⟩ := qz6 BK483.out
             have p490 : 0 ≤ (x10_2 : Int) := of_decide_eq_true (by first | (with_reducible assumption) | assumption)
             have q490 : x10_2 < (l0_1.length : Int) := of_decide_eq_true (by first | (with_reducible assumption) | assumption)
             obtain ⟨ad490, e490, hx490_0, hx490_1, hx490_2, hx490_3⟩ := at_T44 HR0_1.out x10_2 p490 q490
             cases e490
             replace hx490_0 := (HB.out.cell (World.block_lt_of_cell? w _ hx490_0)).trans hx490_0
             replace hx490_1 := (HB.out.cell (World.block_lt_of_cell? w _ hx490_1)).trans hx490_1
             replace hx490_2 := (HB.out.cell (World.block_lt_of_cell? w _ hx490_2)).trans hx490_2
             replace hx490_3 := (HB.out.cell (World.block_lt_of_cell? w _ hx490_3)).trans hx490_3
             replace p490 := eq_true p490
             replace q490 := eq_true q490
             go_wp2
             go_roundg k3
             case measure => have := HK1.out; have := HK2.out; have := HK3.out; omega
             case rel => exact ⟨(wrap64 (x10_2 + 1)), (by first | rfl | (simp; done) | (simp [*]; done)), H', ⟨by have := HK1.out; have := HK2.out; have := HK3.out; omega⟩, ⟨zj BK483.out⟩, ⟨by repeat (first | (with_reducible first | exact HB.out | apply qag | apply qaf | apply qah | refine qaj ?_ GE483.out) | exact HB.out)⟩⟩
           ·
            rw [if_neg c28] at H
            exact absurd H (by simp)
          ·
           rw [if_neg c27] at H
           exact absurd H (by simp)
      ·
       rw [if_neg c20] at H
       have c20b0 : decide (x10_2 < (l0_1.length : Int)) = false := decide_eq_false c20
       clear c20
       obtain rfl := Option.some.inj H
       obtain ⟨hfz_, hcz34_0, hcz34_1, hcz34_2, hcz34_3, hcz34_4, hcz34_5⟩ := qz6 BK483.out
       go_wp2
       go_ret
       exact ⟨by first | rfl | (simp [qbb, qbc] <;> rfl) | (simp [*, qbb, qbc] <;> rfl), by repeat (first | (with_reducible first | exact HB.out | apply qag | apply qaf | apply qah | refine qaj ?_ GE483.out) | exact HB.out)⟩
def talikref07_Sum.l0 : Nat → List Int → Int → Int → Option (Int)
 | 0, _, _, _ => none
 | k + 1, x0, x3, x4 => if x4 < (x0.length : Int) then (if 0 ≤ x4 then (talikref07_Sum.l0 k x0 (wrap64 (x3 + (rd x0 x4))) (wrap64 (x4 + 1))) else (none)) else (some x3)
def talikref07_Sum.f (k : Nat) (l0 : List Int) : Option (Int) := talikref07_Sum.l0 k l0 0 0
theorem talikref07_Sum.calls (k : Nat) (A0 : Option Addr) (c0 : Nat) (l0 : List Int) (r : Int) (w : World) (hr0 : Kd.C (Kd.int .i64) w A0 l0.length l0) (hc0 : l0.length ≤ c0) (h : talikref07_Sum.f k l0 = some r) :
  Calls Try.prog 42 #[.slice A0 l0.length c0] w fun e w' => e = .returned (.int .i64 r) ∧ qar w w' := by
 have HR0 := qab.mk hr0
 have HC0 := qab.mk hc0
 clear hr0 hc0
 have H : (talikref07_Sum.l0 k l0 0 0) = some r := h
 clear h
 have H' := qab.mk H
 clear H
 go_enter Try.func42, Try.ntmps42
 go_wp2
 go_loopg [3, 4] k (fun kq v3 v4 w' => ∃ (x3_1 : Int) (x4_1 : Int), v3 = .int .i64 x3_1 ∧ v4 = .int .i64 x4_1 ∧ qab (talikref07_Sum.l0 kq l0 x3_1 x4_1 = some r) ∧ qab (kq ≤ k) ∧ qar w w')
 case atStart => exact ⟨(0), (0), (by first | rfl | (simp; done) | (simp [*]; done)), (by first | rfl | (simp; done) | (simp [*]; done)), H', ⟨Nat.le_refl _⟩, by repeat (first | exact qar.refl _ | apply qar.step)⟩
 case round =>
  clear H'
  obtain ⟨x3_1, x4_1, rfl, rfl, HA, HK1, ⟨m1, rfl⟩⟩ := hrel
  cases gk with
  | zero => exact absurd HA.out (by simp [talikref07_Sum.l0])
  | succ k1 =>
   have H := HA.out
   clear HA
   simp only [talikref07_Sum.l0] at H
   by_cases c2 : x4_1 < (l0.length : Int)
   ·
    rw [if_pos c2] at H
    have c2b0 : decide (x4_1 < (l0.length : Int)) = true := decide_eq_true c2
    clear c2
    by_cases c3 : 0 ≤ x4_1
    ·
     rw [if_pos c3] at H
     have c3b0 : decide (0 ≤ x4_1) = true := decide_eq_true c3
     clear c3
     have H' := qab.mk H
     clear H
     have p492 : 0 ≤ (x4_1 : Int) := of_decide_eq_true (by first | (with_reducible assumption) | assumption)
     have q492 : x4_1 < (l0.length : Int) := of_decide_eq_true (by first | (with_reducible assumption) | assumption)
     obtain ⟨ad492, e492, hx492_0⟩ := Kd.at_int HR0.out x4_1 p492 q492
     cases e492
     replace p492 := eq_true p492
     replace q492 := eq_true q492
     go_wp2
     go_roundg k1
     case measure => have := HK1.out; omega
     case rel => exact ⟨(wrap64 (x3_1 + (rd l0 x4_1))), (wrap64 (x4_1 + 1)), (by first | rfl | (simp; done) | (simp [*]; done)), (by first | rfl | (simp; done) | (simp [*]; done)), H', ⟨by have := HK1.out; omega⟩, by repeat (first | exact qar.refl _ | apply qar.step)⟩
    ·
     rw [if_neg c3] at H
     exact absurd H (by simp)
   ·
    rw [if_neg c2] at H
    have c2b0 : decide (x4_1 < (l0.length : Int)) = false := decide_eq_false c2
    clear c2
    obtain rfl := Option.some.inj H
    go_wp2
    go_ret
    exact ⟨by first | rfl | (simp; done) | (simp [*]; done), by repeat (first | exact qar.refl _ | apply qar.step)⟩
mutual
def taliklaw07_SeepFloors.j0 : Nat → List (List Int) → List Int → Bool → Int → List (S44) → List Int → List Int → List (S41) → List (S95) → Option (Bool)
 | 0, _, _, _, _, _, _, _, _, _ => none
 | k + 1, x1, x2, x22, x494000, x494001, x494002, x494003, x494004, x494005 => if x22 = true then ((taliklaw07_known.f).bind fun t496 => (some t496)) else ((seep_Floor.f x494000 x494001 x494002 x494003 x494004 x494005 x1 x2).bind fun bt497 => ((taliklaw07_priced.f k x494000 x494001 x494002 x494003 x494004 x494005 x1 x2).bind fun t499 => (if t499 = 0 then ((talikref07_Fair.f k x494000 x494001 x494002 x494003 x494004 x494005 x1 x2).bind fun t500 => (taliklaw07_SeepFloors.j1 k x2 bt497.1 bt497.2 t499 (!t500))) else (taliklaw07_SeepFloors.j1 k x2 bt497.1 bt497.2 t499 false))))
def taliklaw07_SeepFloors.j1 : Nat → List Int → Int → Int → Int → Bool → Option (Bool)
 | 0, _, _, _, _, _ => none
 | k + 1, x2, x7, x8, x9, x43 => if x43 = true then (taliklaw07_SeepFloors.j2 k x2 x7 x8 7) else (taliklaw07_SeepFloors.j2 k x2 x7 x8 x9)
def taliklaw07_SeepFloors.j2 : Nat → List Int → Int → Int → Int → Option (Bool)
 | 0, _, _, _, _ => none
 | k + 1, x2, x7, x8, x9 => if x9 = 0 then (if x8 = 0 then ((talikref07_Sum.f k x2).bind fun t501 => (if x7 = t501 then ((taliklaw07_known.f).bind fun t502 => (some t502)) else (some false))) else (some false)) else (if x8 = x9 then (if x7 = 0 then ((taliklaw07_known.f).bind fun t503 => (some t503)) else (some false)) else (some false))
end
def taliklaw07_SeepFloors.f (k : Nat) (a0_0 : Int) (l0_1 : List (S44)) (l0_2 : List Int) (l0_3 : List Int) (l0_4 : List (S41)) (l0_5 : List (S95)) (l1 : List (List Int)) (l2 : List Int) : Option (Bool) := (taliklaw07_short.f a0_0 l0_1 l0_2 l0_3 l0_4 l0_5).bind fun t494 => (if t494 = true then ((taliklaw07_brief.f k l1).bind fun t495 => (if t495 = true then (taliklaw07_SeepFloors.j0 k l1 l2 (decide ((l2.length : Int) > 15)) a0_0 l0_1 l0_2 l0_3 l0_4 l0_5) else (taliklaw07_SeepFloors.j0 k l1 l2 true a0_0 l0_1 l0_2 l0_3 l0_4 l0_5))) else (taliklaw07_SeepFloors.j0 k l1 l2 true a0_0 l0_1 l0_2 l0_3 l0_4 l0_5))
theorem taliklaw07_SeepFloors.calls (k : Nat) (a0_0 : Int) (A0_1 : Option Addr) (c0_1 : Nat) (l0_1 : List (S44)) (A0_2 : Option Addr) (c0_2 : Nat) (l0_2 : List Int) (A0_3 : Option Addr) (c0_3 : Nat) (l0_3 : List Int) (A0_4 : Option Addr) (c0_4 : Nat) (l0_4 : List (S41)) (A0_5 : Option Addr) (c0_5 : Nat) (l0_5 : List (S95)) (A1 : Option Addr) (c1 : Nat) (l1 : List (List Int)) (A2 : Option Addr) (c2 : Nat) (l2 : List Int) (r : Bool) (w : World) (hr0_1 : Kd.C k44 w A0_1 l0_1.length l0_1) (hc0_1 : l0_1.length ≤ c0_1) (hr0_2 : Kd.C (Kd.int .i64) w A0_2 l0_2.length l0_2) (hc0_2 : l0_2.length ≤ c0_2) (hr0_3 : Kd.C (Kd.int .i64) w A0_3 l0_3.length l0_3) (hc0_3 : l0_3.length ≤ c0_3) (hr0_4 : Kd.C k41 w A0_4 l0_4.length l0_4) (hc0_4 : l0_4.length ≤ c0_4) (hr0_5 : Kd.C k95 w A0_5 l0_5.length l0_5) (hc0_5 : l0_5.length ≤ c0_5) (hr1 : Kd.C (Kd.slice 3 (Kd.int .i64)) w A1 l1.length l1) (hc1 : l1.length ≤ c1) (hr2 : Kd.C (Kd.int .i64) w A2 l2.length l2) (hc2 : l2.length ≤ c2) (h : taliklaw07_SeepFloors.f k a0_0 l0_1 l0_2 l0_3 l0_4 l0_5 l1 l2 = some r) :
  Calls Try.prog 10 #[.agg #[.int .i64 a0_0, .slice A0_1 l0_1.length c0_1, .slice A0_2 l0_2.length c0_2, .slice A0_3 l0_3.length c0_3, .slice A0_4 l0_4.length c0_4, .slice A0_5 l0_5.length c0_5], .slice A1 l1.length c1, .slice A2 l2.length c2] w fun e w' => e = .returned (.bool r) ∧ Below w.heap.size w w' := by
 have hu27 := Try.underlying27
 have HR0_1 := qab.mk hr0_1
 have HC0_1 := qab.mk hc0_1
 clear hr0_1 hc0_1
 have HR0_2 := qab.mk hr0_2
 have HC0_2 := qab.mk hc0_2
 clear hr0_2 hc0_2
 have HR0_3 := qab.mk hr0_3
 have HC0_3 := qab.mk hc0_3
 clear hr0_3 hc0_3
 have HR0_4 := qab.mk hr0_4
 have HC0_4 := qab.mk hc0_4
 clear hr0_4 hc0_4
 have HR0_5 := qab.mk hr0_5
 have HC0_5 := qab.mk hc0_5
 clear hr0_5 hc0_5
 have HR1 := qab.mk hr1
 have HC1 := qab.mk hc1
 clear hr1 hc1
 have HR2 := qab.mk hr2
 have HC2 := qab.mk hc2
 clear hr2 hc2
 have HB := qab.mk (Below.refl w.heap.size w)
 have H : ((taliklaw07_short.f a0_0 l0_1 l0_2 l0_3 l0_4 l0_5).bind fun t494 => (if t494 = true then ((taliklaw07_brief.f k l1).bind fun t495 => (if t495 = true then (taliklaw07_SeepFloors.j0 k l1 l2 (decide ((l2.length : Int) > 15)) a0_0 l0_1 l0_2 l0_3 l0_4 l0_5) else (taliklaw07_SeepFloors.j0 k l1 l2 true a0_0 l0_1 l0_2 l0_3 l0_4 l0_5))) else (taliklaw07_SeepFloors.j0 k l1 l2 true a0_0 l0_1 l0_2 l0_3 l0_4 l0_5))) = some r := h
 clear h
 have HC4 := qab.mk H
 clear H
 go_enter Try.func10, Try.ntmps10
 go_upto_region 1 with (first | ((with_reducible refine qam (N := 3) rfl ?_); (try (refine gate_guard (by rfl) ?_; dsimp only)); refine ze 3 #[.int .i64 a0_0, .slice A0_1 l0_1.length c0_1, .slice A0_2 l0_2.length c0_2, .slice A0_3 l0_3.length c0_3, .slice A0_4 l0_4.length c0_4, .slice A0_5 l0_5.length c0_5] 27 ?_; intro gb493 hg w5 hbox hb; have n0_ := qab.mk (qae (zb HB.out) hb); have n1_ := qab.mk (hbox); have n2_ := qab.mk ((by rw [hg]; exact (below_size (zb HB.out)) : w.heap.size ≤ gb493)); have n3_ := qab.mk ((by rw [hg]; exact (below_size (zb HB.out)) : w.heap.size ≤ gb493)); clear HB; have HB := n0_; have BK493 := n1_; have GW493 := n2_; have GE493 := n3_; clear n0_ n1_ n2_ n3_; clear hb hbox hg))
 (try simp only [Act.put, qzA, qzB, qzC])
 go_cut [22] (fun v22 wc => ∃ (kq : Nat) (x22_3 : Bool), v22 = .bool x22_3 ∧ qab (taliklaw07_SeepFloors.j0 kq l1 l2 x22_3 a0_0 l0_1 l0_2 l0_3 l0_4 l0_5 = some r) ∧ qab (kq ≤ k) ∧ qab (wc.heap[gb493]? = some (.cells #[.int .i64 a0_0, (.slice A0_1 l0_1.length c0_1), (.slice A0_2 l0_2.length c0_2), (.slice A0_3 l0_3.length c0_3), (.slice A0_4 l0_4.length c0_4), (.slice A0_5 l0_5.length c0_5)] 27 (0, 0))) ∧ qab (Below w.heap.size w wc))
 case first =>
  have H := HC4.out
  clear HC4
  replace H := Option.bind_eq_some_iff.mp H
  obtain ⟨t494, A60, H⟩ := H
  try dsimp only at H
  have A6 := qab.mk A60
  clear A60
  by_cases c7 : t494 = true
  ·
   subst c7
   rw [if_pos rfl] at H
   replace H := Option.bind_eq_some_iff.mp H
   obtain ⟨t495, A80, H⟩ := H
   try dsimp only at H
   have A8 := qab.mk A80
   clear A80
   by_cases c9 : t495 = true
   ·
    subst c9
    rw [if_pos rfl] at H
    have H' := qab.mk H
    clear H
    obtain ⟨hfz_, hcz10_0, hcz10_1, hcz10_2, hcz10_3, hcz10_4, hcz10_5⟩ := qz6 BK493.out
    go_wp2_with (first | ((with_reducible refine gate_callee (f := 16) rfl ?_); refine zl 11 Try.func16 #[.agg #[.int .i64 a0_0, .slice A0_1 l0_1.length c0_1, .slice A0_2 l0_2.length c0_2, .slice A0_3 l0_3.length c0_3, .slice A0_4 l0_4.length c0_4, .slice A0_5 l0_5.length c0_5]] ?_; (with_reducible refine (taliklaw07_short.calls a0_0 _ _ l0_1 _ _ l0_2 _ _ l0_3 _ _ l0_4 _ _ l0_5 true _ ?side1 ?side2 ?side3 ?side4 ?side5 ?side6 ?side7 ?side8 ?side9 ?side10 A6.out).mono ?_); (case side1 => exact zs (Kd.qai HR0_1.out HB.out)); (case side2 => exact HC0_1.out); (case side3 => exact zs (Kd.qai HR0_2.out HB.out)); (case side4 => exact HC0_2.out); (case side5 => exact zs (Kd.qai HR0_3.out HB.out)); (case side6 => exact HC0_3.out); (case side7 => exact zs (Kd.qai HR0_4.out HB.out)); (case side8 => exact HC0_4.out); (case side9 => exact zs (Kd.qai HR0_5.out HB.out)); (case side10 => exact HC0_5.out); rintro e w11 ⟨rfl, hb⟩; refine ⟨_, rfl, ?_⟩; replace BK493 := qab.mk (zk BK493.out hb); replace HB := qab.mk (qae (by repeat (first | (with_reducible first | exact HB.out | apply qag | apply qaf | apply qah | refine qaj ?_ GE493.out) | exact HB.out)) hb); (try clear hb); (try clear hb2); (try clear hk); (try clear hi)) | (go_at_call 38; (with_reducible refine (taliklaw07_brief.calls k _ _ l1 true _ ?side1 ?side2 A8.out).mono ?_); (case side1 => exact zs (Kd.qai HR1.out HB.out)); (case side2 => exact HC1.out); rintro e w' ⟨rfl, ⟨nd, rfl⟩⟩))
    go_meet
    case rel => exact ⟨_, (decide ((l2.length : Int) > 15)), (by first | rfl | (simp; done) | (simp [*]; done)), H', ⟨by first | omega | exact Nat.le_refl _⟩, ⟨zj BK493.out⟩, ⟨by repeat (first | (with_reducible first | exact HB.out | apply qag | apply qaf | apply qah | refine qaj ?_ GE493.out) | exact HB.out)⟩⟩
   ·
    replace c9 := Bool.eq_false_iff.mpr c9
    subst c9
    rw [if_neg (show ¬ (false = true) by decide)] at H
    have H' := qab.mk H
    clear H
    obtain ⟨hfz_, hcz12_0, hcz12_1, hcz12_2, hcz12_3, hcz12_4, hcz12_5⟩ := qz6 BK493.out
    go_wp2_with (first | ((with_reducible refine gate_callee (f := 16) rfl ?_); refine zl 11 Try.func16 #[.agg #[.int .i64 a0_0, .slice A0_1 l0_1.length c0_1, .slice A0_2 l0_2.length c0_2, .slice A0_3 l0_3.length c0_3, .slice A0_4 l0_4.length c0_4, .slice A0_5 l0_5.length c0_5]] ?_; (with_reducible refine (taliklaw07_short.calls a0_0 _ _ l0_1 _ _ l0_2 _ _ l0_3 _ _ l0_4 _ _ l0_5 true _ ?side1 ?side2 ?side3 ?side4 ?side5 ?side6 ?side7 ?side8 ?side9 ?side10 A6.out).mono ?_); (case side1 => exact zs (Kd.qai HR0_1.out HB.out)); (case side2 => exact HC0_1.out); (case side3 => exact zs (Kd.qai HR0_2.out HB.out)); (case side4 => exact HC0_2.out); (case side5 => exact zs (Kd.qai HR0_3.out HB.out)); (case side6 => exact HC0_3.out); (case side7 => exact zs (Kd.qai HR0_4.out HB.out)); (case side8 => exact HC0_4.out); (case side9 => exact zs (Kd.qai HR0_5.out HB.out)); (case side10 => exact HC0_5.out); rintro e w13 ⟨rfl, hb⟩; refine ⟨_, rfl, ?_⟩; replace BK493 := qab.mk (zk BK493.out hb); replace HB := qab.mk (qae (by repeat (first | (with_reducible first | exact HB.out | apply qag | apply qaf | apply qah | refine qaj ?_ GE493.out) | exact HB.out)) hb); (try clear hb); (try clear hb2); (try clear hk); (try clear hi)) | (go_at_call 38; (with_reducible refine (taliklaw07_brief.calls k _ _ l1 false _ ?side1 ?side2 A8.out).mono ?_); (case side1 => exact zs (Kd.qai HR1.out HB.out)); (case side2 => exact HC1.out); rintro e w' ⟨rfl, ⟨nd, rfl⟩⟩))
    go_meet
    case rel => exact ⟨_, (true), (by first | rfl | (simp; done) | (simp [*]; done)), H', ⟨by first | omega | exact Nat.le_refl _⟩, ⟨zj BK493.out⟩, ⟨by repeat (first | (with_reducible first | exact HB.out | apply qag | apply qaf | apply qah | refine qaj ?_ GE493.out) | exact HB.out)⟩⟩
  ·
   replace c7 := Bool.eq_false_iff.mpr c7
   subst c7
   rw [if_neg (show ¬ (false = true) by decide)] at H
   have H' := qab.mk H
   clear H
   obtain ⟨hfz_, hcz14_0, hcz14_1, hcz14_2, hcz14_3, hcz14_4, hcz14_5⟩ := qz6 BK493.out
   go_wp2_with (first | ((with_reducible refine gate_callee (f := 16) rfl ?_); refine zl 11 Try.func16 #[.agg #[.int .i64 a0_0, .slice A0_1 l0_1.length c0_1, .slice A0_2 l0_2.length c0_2, .slice A0_3 l0_3.length c0_3, .slice A0_4 l0_4.length c0_4, .slice A0_5 l0_5.length c0_5]] ?_; (with_reducible refine (taliklaw07_short.calls a0_0 _ _ l0_1 _ _ l0_2 _ _ l0_3 _ _ l0_4 _ _ l0_5 false _ ?side1 ?side2 ?side3 ?side4 ?side5 ?side6 ?side7 ?side8 ?side9 ?side10 A6.out).mono ?_); (case side1 => exact zs (Kd.qai HR0_1.out HB.out)); (case side2 => exact HC0_1.out); (case side3 => exact zs (Kd.qai HR0_2.out HB.out)); (case side4 => exact HC0_2.out); (case side5 => exact zs (Kd.qai HR0_3.out HB.out)); (case side6 => exact HC0_3.out); (case side7 => exact zs (Kd.qai HR0_4.out HB.out)); (case side8 => exact HC0_4.out); (case side9 => exact zs (Kd.qai HR0_5.out HB.out)); (case side10 => exact HC0_5.out); rintro e w15 ⟨rfl, hb⟩; refine ⟨_, rfl, ?_⟩; replace BK493 := qab.mk (zk BK493.out hb); replace HB := qab.mk (qae (by repeat (first | (with_reducible first | exact HB.out | apply qag | apply qaf | apply qah | refine qaj ?_ GE493.out) | exact HB.out)) hb); (try clear hb); (try clear hb2); (try clear hk); (try clear hi)))
   go_meet
   case rel => exact ⟨_, (true), (by first | rfl | (simp; done) | (simp [*]; done)), H', ⟨by first | omega | exact Nat.le_refl _⟩, ⟨zj BK493.out⟩, ⟨by repeat (first | (with_reducible first | exact HB.out | apply qag | apply qaf | apply qah | refine qaj ?_ GE493.out) | exact HB.out)⟩⟩
 case rest =>
  clear HC4
  try clear c1
  try clear c2
  try clear p2
  try clear c7
  try clear c9
  try clear c10
  try clear hcz10_0
  try clear hcz10_1
  try clear hcz10_2
  try clear hcz10_3
  try clear hcz10_4
  try clear hcz10_5
  try clear hcz12_0
  try clear hcz12_1
  try clear hcz12_2
  try clear hcz12_3
  try clear hcz12_4
  try clear hcz12_5
  try clear hcz14_0
  try clear hcz14_1
  try clear hcz14_2
  try clear hcz14_3
  try clear hcz14_4
  try clear hcz14_5
  try clear hfz10_0
  try clear hfz10_1
  try clear hfz10_2
  try clear hfz10_3
  try clear hfz10_4
  try clear hfz10_5
  try clear hfz12_0
  try clear hfz12_1
  try clear hfz12_2
  try clear hfz12_3
  try clear hfz12_4
  try clear hfz12_5
  try clear hfz14_0
  try clear hfz14_1
  try clear hfz14_2
  try clear hfz14_3
  try clear hfz14_4
  try clear hfz14_5
  obtain ⟨kq, x22_3, rfl, HA, HJ3, BK493, HB⟩ := hcut
  cases kq with
  | zero => exact absurd HA.out (by simp [taliklaw07_SeepFloors.j0])
  | succ kj3 =>
   have H := HA.out
   clear HA
   simp only [taliklaw07_SeepFloors.j0] at H
   by_cases c16 : x22_3 = true
   ·
    subst c16
    rw [if_pos rfl] at H
    replace H := Option.bind_eq_some_iff.mp H
    obtain ⟨t496, A170, H⟩ := H
    try dsimp only at H
    have A17 := qab.mk A170
    clear A170
    obtain rfl := Option.some.inj H
    go_wp2_with (first | ((with_reducible refine gate_callee (f := 17) rfl ?_); refine zl 23 Try.func17 #[] ?_; (with_reducible refine (taliklaw07_known.calls  t496 _ A17.out).mono ?_); rintro e w18 ⟨rfl, hb⟩; refine ⟨_, rfl, ?_⟩; replace BK493 := qab.mk (zk BK493.out hb); replace HB := qab.mk (qae (by repeat (first | (with_reducible first | exact HB.out | apply qag | apply qaf | apply qah | refine qaj ?_ GE493.out) | exact HB.out)) hb); (try clear hb); (try clear hb2); (try clear hk); (try clear hi)))
    go_ret
    exact ⟨by first | rfl | (simp [qbb, qbc] <;> rfl) | (simp [*, qbb, qbc] <;> rfl), by repeat (first | (with_reducible first | exact HB.out | apply qag | apply qaf | apply qah | refine qaj ?_ GE493.out) | exact HB.out)⟩
   ·
    replace c16 := Bool.eq_false_iff.mpr c16
    subst c16
    rw [if_neg (show ¬ (false = true) by decide)] at H
    replace H := Option.bind_eq_some_iff.mp H
    obtain ⟨⟨t497, t498⟩, A190, H⟩ := H
    try dsimp only at H
    have A19 := qab.mk A190
    clear A190
    replace H := Option.bind_eq_some_iff.mp H
    obtain ⟨t499, A200, H⟩ := H
    try dsimp only at H
    have A20 := qab.mk A200
    clear A200
    have HC21 := qab.mk H
    clear H
    obtain ⟨hfz_, hcz22_0, hcz22_1, hcz22_2, hcz22_3, hcz22_4, hcz22_5⟩ := qz6 BK493.out
    go_upto_region 5 with (first | ((with_reducible refine gate_callee (f := 39) rfl ?_); refine zl 28 Try.func39 #[.agg #[.int .i64 a0_0, .slice A0_1 l0_1.length c0_1, .slice A0_2 l0_2.length c0_2, .slice A0_3 l0_3.length c0_3, .slice A0_4 l0_4.length c0_4, .slice A0_5 l0_5.length c0_5], .slice A1 l1.length c1, .slice A2 l2.length c2] ?_; (with_reducible refine (seep_Floor.calls a0_0 _ _ l0_1 _ _ l0_2 _ _ l0_3 _ _ l0_4 _ _ l0_5 _ _ l1 _ _ l2 t497 t498 _ ?side1 ?side2 ?side3 ?side4 ?side5 ?side6 ?side7 ?side8 ?side9 ?side10 ?side11 ?side12 ?side13 ?side14 A19.out).mono ?_); (case side1 => exact zs (Kd.qai HR0_1.out HB.out)); (case side2 => exact HC0_1.out); (case side3 => exact zs (Kd.qai HR0_2.out HB.out)); (case side4 => exact HC0_2.out); (case side5 => exact zs (Kd.qai HR0_3.out HB.out)); (case side6 => exact HC0_3.out); (case side7 => exact zs (Kd.qai HR0_4.out HB.out)); (case side8 => exact HC0_4.out); (case side9 => exact zs (Kd.qai HR0_5.out HB.out)); (case side10 => exact HC0_5.out); (case side11 => exact zs (Kd.qai HR1.out HB.out)); (case side12 => exact HC1.out); (case side13 => exact zs (Kd.qai HR2.out HB.out)); (case side14 => exact HC2.out); rintro e w23 ⟨rfl, hb⟩; refine ⟨_, rfl, ?_⟩; replace BK493 := qab.mk (zk BK493.out hb); replace HB := qab.mk (qae (by repeat (first | (with_reducible first | exact HB.out | apply qag | apply qaf | apply qah | refine qaj ?_ GE493.out) | exact HB.out)) hb); (try clear hb); (try clear hb2); (try clear hk); (try clear hi); obtain ⟨hfz_, hcz24_0, hcz24_1, hcz24_2, hcz24_3, hcz24_4, hcz24_5⟩ := qz6 BK493.out) | ((with_reducible refine gate_callee (f := 40) rfl ?_); refine zl 34 Try.func40 #[.agg #[.int .i64 a0_0, .slice A0_1 l0_1.length c0_1, .slice A0_2 l0_2.length c0_2, .slice A0_3 l0_3.length c0_3, .slice A0_4 l0_4.length c0_4, .slice A0_5 l0_5.length c0_5], .slice A1 l1.length c1, .slice A2 l2.length c2] ?_; (with_reducible refine (taliklaw07_priced.calls kj3 a0_0 _ _ l0_1 _ _ l0_2 _ _ l0_3 _ _ l0_4 _ _ l0_5 _ _ l1 _ _ l2 t499 _ ?side1 ?side2 ?side3 ?side4 ?side5 ?side6 ?side7 ?side8 ?side9 ?side10 ?side11 ?side12 ?side13 ?side14 A20.out).mono ?_); (case side1 => exact zs (Kd.qai HR0_1.out HB.out)); (case side2 => exact HC0_1.out); (case side3 => exact zs (Kd.qai HR0_2.out HB.out)); (case side4 => exact HC0_2.out); (case side5 => exact zs (Kd.qai HR0_3.out HB.out)); (case side6 => exact HC0_3.out); (case side7 => exact zs (Kd.qai HR0_4.out HB.out)); (case side8 => exact HC0_4.out); (case side9 => exact zs (Kd.qai HR0_5.out HB.out)); (case side10 => exact HC0_5.out); (case side11 => exact zs (Kd.qai HR1.out HB.out)); (case side12 => exact HC1.out); (case side13 => exact zs (Kd.qai HR2.out HB.out)); (case side14 => exact HC2.out); rintro e w25 ⟨rfl, hb⟩; refine ⟨_, rfl, ?_⟩; replace BK493 := qab.mk (zk BK493.out hb); replace HB := qab.mk (qae (by repeat (first | (with_reducible first | exact HB.out | apply qag | apply qaf | apply qah | refine qaj ?_ GE493.out) | exact HB.out)) hb); (try clear hb); (try clear hb2); (try clear hk); (try clear hi)))
    (try simp only [Act.put, qzA, qzB, qzC])
    go_cut [43] (fun v43 wc => ∃ (kq : Nat) (x43_20 : Bool), v43 = .bool x43_20 ∧ qab (taliklaw07_SeepFloors.j1 kq l2 t497 t498 t499 x43_20 = some r) ∧ qab (kq ≤ kj3) ∧ qab (wc.heap[gb493]? = some (.cells #[.int .i64 a0_0, (.slice A0_1 l0_1.length c0_1), (.slice A0_2 l0_2.length c0_2), (.slice A0_3 l0_3.length c0_3), (.slice A0_4 l0_4.length c0_4), (.slice A0_5 l0_5.length c0_5)] 27 (0, 0))) ∧ qab (Below w.heap.size w wc))
    case first =>
     have H := HC21.out
     clear HC21
     by_cases c26 : t499 = 0
     ·
      rw [if_pos c26] at H
      have c26b0 : (t499 == 0) = true := beq_iff_eq.mpr c26
      have c26b1 : (t499 != 0) = false := bne_eq_false_iff_eq.mpr c26
      clear c26
      (first | rw [c26b0] | (simp only [i64_w, i32_w]; rw [c26b0]) | skip)
      replace H := Option.bind_eq_some_iff.mp H
      obtain ⟨t500, A270, H⟩ := H
      try dsimp only at H
      have A27 := qab.mk A270
      clear A270
      have H' := qab.mk H
      clear H
      obtain ⟨hfz_, hcz28_0, hcz28_1, hcz28_2, hcz28_3, hcz28_4, hcz28_5⟩ := qz6 BK493.out
      go_wp2_with (first | (go_at_call 41; (with_reducible refine (talikref07_Fair.calls kj3 a0_0 _ _ l0_1 _ _ l0_2 _ _ l0_3 _ _ l0_4 _ _ l0_5 _ _ l1 _ _ l2 t500 _ ?side1 ?side2 ?side3 ?side4 ?side5 ?side6 ?side7 ?side8 ?side9 ?side10 ?side11 ?side12 ?side13 ?side14 A27.out).mono ?_); (case side1 => exact zs (Kd.qai HR0_1.out HB.out)); (case side2 => exact HC0_1.out); (case side3 => exact zs (Kd.qai HR0_2.out HB.out)); (case side4 => exact HC0_2.out); (case side5 => exact zs (Kd.qai HR0_3.out HB.out)); (case side6 => exact HC0_3.out); (case side7 => exact zs (Kd.qai HR0_4.out HB.out)); (case side8 => exact HC0_4.out); (case side9 => exact zs (Kd.qai HR0_5.out HB.out)); (case side10 => exact HC0_5.out); (case side11 => exact zs (Kd.qai HR1.out HB.out)); (case side12 => exact HC1.out); (case side13 => exact zs (Kd.qai HR2.out HB.out)); (case side14 => exact HC2.out); rintro e w29 ⟨rfl, hb⟩; replace BK493 := qab.mk (zk BK493.out hb); replace HB := qab.mk (qae (by repeat (first | (with_reducible first | exact HB.out | apply qag | apply qaf | apply qah | refine qaj ?_ GE493.out) | exact HB.out)) hb); (try clear hb); (try clear hb2); (try clear hk); (try clear hi)))
      go_meet
      case rel => exact ⟨_, (!t500), (by first | rfl | (simp; done) | (simp [*]; done)), H', ⟨by have := HJ3.out; first | omega | exact Nat.le_refl _⟩, ⟨zj BK493.out⟩, ⟨by repeat (first | (with_reducible first | exact HB.out | apply qag | apply qaf | apply qah | refine qaj ?_ GE493.out) | exact HB.out)⟩⟩
     ·
      rw [if_neg c26] at H
      have c26b0 : (t499 == 0) = false := beq_eq_false_iff_ne.mpr c26
      have c26b1 : (t499 != 0) = true := bne_iff_ne.mpr c26
      (first | rw [c26b0] | (simp only [i64_w, i32_w]; rw [c26b0]) | skip)
      have H' := qab.mk H
      clear H
      go_wp2
      go_meet
      case rel => exact ⟨_, (false), (by first | rfl | (simp; done) | (simp [*]; done)), H', ⟨by have := HJ3.out; first | omega | exact Nat.le_refl _⟩, ⟨zj BK493.out⟩, ⟨by repeat (first | (with_reducible first | exact HB.out | apply qag | apply qaf | apply qah | refine qaj ?_ GE493.out) | exact HB.out)⟩⟩
    case rest =>
     clear HC21
     try clear c1
     try clear c2
     try clear p2
     try clear c3
     try clear c4
     try clear c7
     try clear c9
     try clear c10
     try clear c16
     try clear c17
     try clear c26
     try clear c26b0
     try clear c26b1
     try clear hcz10_0
     try clear hcz10_1
     try clear hcz10_2
     try clear hcz10_3
     try clear hcz10_4
     try clear hcz10_5
     try clear hcz12_0
     try clear hcz12_1
     try clear hcz12_2
     try clear hcz12_3
     try clear hcz12_4
     try clear hcz12_5
     try clear hcz14_0
     try clear hcz14_1
     try clear hcz14_2
     try clear hcz14_3
     try clear hcz14_4
     try clear hcz14_5
     try clear hcz22_0
     try clear hcz22_1
     try clear hcz22_2
     try clear hcz22_3
     try clear hcz22_4
     try clear hcz22_5
     try clear hcz24_0
     try clear hcz24_1
     try clear hcz24_2
     try clear hcz24_3
     try clear hcz24_4
     try clear hcz24_5
     try clear hcz28_0
     try clear hcz28_1
     try clear hcz28_2
     try clear hcz28_3
     try clear hcz28_4
     try clear hcz28_5
     try clear hfz10_0
     try clear hfz10_1
     try clear hfz10_2
     try clear hfz10_3
     try clear hfz10_4
     try clear hfz10_5
     try clear hfz12_0
     try clear hfz12_1
     try clear hfz12_2
     try clear hfz12_3
     try clear hfz12_4
     try clear hfz12_5
     try clear hfz14_0
     try clear hfz14_1
     try clear hfz14_2
     try clear hfz14_3
     try clear hfz14_4
     try clear hfz14_5
     try clear hfz22_0
     try clear hfz22_1
     try clear hfz22_2
     try clear hfz22_3
     try clear hfz22_4
     try clear hfz22_5
     try clear hfz24_0
     try clear hfz24_1
     try clear hfz24_2
     try clear hfz24_3
     try clear hfz24_4
     try clear hfz24_5
     try clear hfz28_0
     try clear hfz28_1
     try clear hfz28_2
     try clear hfz28_3
     try clear hfz28_4
     try clear hfz28_5
     try clear p2
     obtain ⟨kq, x43_20, rfl, HA, HJ20, BK493, HB⟩ := hcut
     cases kq with
     | zero => exact absurd HA.out (by simp [taliklaw07_SeepFloors.j1])
     | succ kj20 =>
      have H := HA.out
      clear HA
      simp only [taliklaw07_SeepFloors.j1] at H
      have HC30 := qab.mk H
      clear H
      go_upto_if 43 with (fail)
      go_cut [9] (fun v9 wc => ∃ (kq : Nat) (x9_29 : Int), v9 = .int .i64 x9_29 ∧ qab (taliklaw07_SeepFloors.j2 kq l2 t497 t498 x9_29 = some r) ∧ qab (kq ≤ kj20) ∧ qab (wc.heap[gb493]? = some (.cells #[.int .i64 a0_0, (.slice A0_1 l0_1.length c0_1), (.slice A0_2 l0_2.length c0_2), (.slice A0_3 l0_3.length c0_3), (.slice A0_4 l0_4.length c0_4), (.slice A0_5 l0_5.length c0_5)] 27 (0, 0))) ∧ qab (Below w.heap.size w wc))
      case first =>
       have H := HC30.out
       clear HC30
       by_cases c31 : x43_20 = true
       ·
        subst c31
        rw [if_pos rfl] at H
        have H' := qab.mk H
        clear H
        go_wp2
        go_meet
        case rel => exact ⟨_, (7), (by first | rfl | (simp; done) | (simp [*]; done)), H', ⟨by have := HJ3.out; have := HJ20.out; first | omega | exact Nat.le_refl _⟩, ⟨zj BK493.out⟩, ⟨by repeat (first | (with_reducible first | exact HB.out | apply qag | apply qaf | apply qah | refine qaj ?_ GE493.out) | exact HB.out)⟩⟩
       ·
        replace c31 := Bool.eq_false_iff.mpr c31
        subst c31
        rw [if_neg (show ¬ (false = true) by decide)] at H
        have H' := qab.mk H
        clear H
        go_wp2
        go_meet
        case rel => exact ⟨_, (t499), (by first | rfl | (simp; done) | (simp [*]; done)), H', ⟨by have := HJ3.out; have := HJ20.out; first | omega | exact Nat.le_refl _⟩, ⟨zj BK493.out⟩, ⟨by repeat (first | (with_reducible first | exact HB.out | apply qag | apply qaf | apply qah | refine qaj ?_ GE493.out) | exact HB.out)⟩⟩
      case rest =>
       clear HC30
       try clear c1
       try clear c2
       try clear p2
       try clear c3
       try clear c4
       try clear c7
       try clear c9
       try clear c10
       try clear c16
       try clear c17
       try clear c26
       try clear c26b0
       try clear c26b1
       try clear c31
       try clear hcz10_0
       try clear hcz10_1
       try clear hcz10_2
       try clear hcz10_3
       try clear hcz10_4
       try clear hcz10_5
       try clear hcz12_0
       try clear hcz12_1
       try clear hcz12_2
       try clear hcz12_3
       try clear hcz12_4
       try clear hcz12_5
       try clear hcz14_0
       try clear hcz14_1
       try clear hcz14_2
       try clear hcz14_3
       try clear hcz14_4
       try clear hcz14_5
       try clear hcz22_0
       try clear hcz22_1
       try clear hcz22_2
       try clear hcz22_3
       try clear hcz22_4
       try clear hcz22_5
       try clear hcz24_0
       try clear hcz24_1
       try clear hcz24_2
       try clear hcz24_3
       try clear hcz24_4
       try clear hcz24_5
       try clear hcz28_0
       try clear hcz28_1
       try clear hcz28_2
       try clear hcz28_3
       try clear hcz28_4
       try clear hcz28_5
       try clear hfz10_0
       try clear hfz10_1
       try clear hfz10_2
       try clear hfz10_3
       try clear hfz10_4
       try clear hfz10_5
       try clear hfz12_0
       try clear hfz12_1
       try clear hfz12_2
       try clear hfz12_3
       try clear hfz12_4
       try clear hfz12_5
       try clear hfz14_0
       try clear hfz14_1
       try clear hfz14_2
       try clear hfz14_3
       try clear hfz14_4
       try clear hfz14_5
       try clear hfz22_0
       try clear hfz22_1
       try clear hfz22_2
       try clear hfz22_3
       try clear hfz22_4
       try clear hfz22_5
       try clear hfz24_0
       try clear hfz24_1
       try clear hfz24_2
       try clear hfz24_3
       try clear hfz24_4
       try clear hfz24_5
       try clear hfz28_0
       try clear hfz28_1
       try clear hfz28_2
       try clear hfz28_3
       try clear hfz28_4
       try clear hfz28_5
       try clear p2
       obtain ⟨kq, x9_29, rfl, HA, HJ29, BK493, HB⟩ := hcut
       cases kq with
       | zero => exact absurd HA.out (by simp [taliklaw07_SeepFloors.j2])
       | succ kj29 =>
        have H := HA.out
        clear HA
        simp only [taliklaw07_SeepFloors.j2] at H
        by_cases c32 : x9_29 = 0
        ·
         rw [if_pos c32] at H
         have c32b0 : (x9_29 == 0) = true := beq_iff_eq.mpr c32
         have c32b1 : (x9_29 != 0) = false := bne_eq_false_iff_eq.mpr c32
         clear c32
         by_cases c33 : t498 = 0
         ·
          rw [if_pos c33] at H
          have c33b0 : (t498 == 0) = true := beq_iff_eq.mpr c33
          have c33b1 : (t498 != 0) = false := bne_eq_false_iff_eq.mpr c33
          clear c33
          replace H := Option.bind_eq_some_iff.mp H
          obtain ⟨t501, A340, H⟩ := H
          try dsimp only at H
          have A34 := qab.mk A340
          clear A340
          by_cases c35 : t497 = t501
          ·
           rw [if_pos c35] at H
           have c35b0 : (t497 == t501) = true := beq_iff_eq.mpr c35
           have c35b1 : (t497 != t501) = false := bne_eq_false_iff_eq.mpr c35
           clear c35
           replace H := Option.bind_eq_some_iff.mp H
           obtain ⟨t502, A360, H⟩ := H
           try dsimp only at H
           have A36 := qab.mk A360
           clear A360
           obtain rfl := Option.some.inj H
           go_wp2_with (first | (go_at_call 42; (with_reducible refine (talikref07_Sum.calls kj29 _ _ l2 t501 _ ?side1 ?side2 A34.out).mono ?_); (case side1 => exact zs (Kd.qai HR2.out HB.out)); (case side2 => exact HC2.out); rintro e w' ⟨rfl, ⟨nd, rfl⟩⟩) | (go_at_call 17; (with_reducible refine (taliklaw07_known.calls  t502 _ A36.out).mono ?_); rintro e w37 ⟨rfl, hb⟩; replace BK493 := qab.mk (zk BK493.out hb); replace HB := qab.mk (qae (by repeat (first | (with_reducible first | exact HB.out | apply qag | apply qaf | apply qah | refine qaj ?_ GE493.out) | exact HB.out)) hb); (try clear hb); (try clear hb2); (try clear hk); (try clear hi)))
           go_ret
           exact ⟨by first | rfl | (simp [qbb, qbc] <;> rfl) | (simp [*, qbb, qbc] <;> rfl), by repeat (first | (with_reducible first | exact HB.out | apply qag | apply qaf | apply qah | refine qaj ?_ GE493.out) | exact HB.out)⟩
          ·
           rw [if_neg c35] at H
           have c35b0 : (t497 == t501) = false := beq_eq_false_iff_ne.mpr c35
           have c35b1 : (t497 != t501) = true := bne_iff_ne.mpr c35
           obtain rfl := Option.some.inj H
           go_wp2_with (first | (go_at_call 42; (with_reducible refine (talikref07_Sum.calls kj29 _ _ l2 t501 _ ?side1 ?side2 A34.out).mono ?_); (case side1 => exact zs (Kd.qai HR2.out HB.out)); (case side2 => exact HC2.out); rintro e w' ⟨rfl, ⟨nd, rfl⟩⟩))
           go_ret
           exact ⟨by first | rfl | (simp [qbb, qbc] <;> rfl) | (simp [*, qbb, qbc] <;> rfl), by repeat (first | (with_reducible first | exact HB.out | apply qag | apply qaf | apply qah | refine qaj ?_ GE493.out) | exact HB.out)⟩
         ·
          rw [if_neg c33] at H
          have c33b0 : (t498 == 0) = false := beq_eq_false_iff_ne.mpr c33
          have c33b1 : (t498 != 0) = true := bne_iff_ne.mpr c33
          obtain rfl := Option.some.inj H
          go_wp2
          go_ret
          exact ⟨by first | rfl | (simp [qbb, qbc] <;> rfl) | (simp [*, qbb, qbc] <;> rfl), by repeat (first | (with_reducible first | exact HB.out | apply qag | apply qaf | apply qah | refine qaj ?_ GE493.out) | exact HB.out)⟩
        ·
         rw [if_neg c32] at H
         have c32b0 : (x9_29 == 0) = false := beq_eq_false_iff_ne.mpr c32
         have c32b1 : (x9_29 != 0) = true := bne_iff_ne.mpr c32
         by_cases c38 : t498 = x9_29
         ·
          rw [if_pos c38] at H
          have c38b0 : (t498 == x9_29) = true := beq_iff_eq.mpr c38
          have c38b1 : (t498 != x9_29) = false := bne_eq_false_iff_eq.mpr c38
          clear c38
          by_cases c39 : t497 = 0
          ·
           rw [if_pos c39] at H
           have c39b0 : (t497 == 0) = true := beq_iff_eq.mpr c39
           have c39b1 : (t497 != 0) = false := bne_eq_false_iff_eq.mpr c39
           clear c39
           replace H := Option.bind_eq_some_iff.mp H
           obtain ⟨t503, A400, H⟩ := H
           try dsimp only at H
           have A40 := qab.mk A400
           clear A400
           obtain rfl := Option.some.inj H
           go_wp2_with (first | (go_at_call 17; (with_reducible refine (taliklaw07_known.calls  t503 _ A40.out).mono ?_); rintro e w41 ⟨rfl, hb⟩; replace BK493 := qab.mk (zk BK493.out hb); replace HB := qab.mk (qae (by repeat (first | (with_reducible first | exact HB.out | apply qag | apply qaf | apply qah | refine qaj ?_ GE493.out) | exact HB.out)) hb); (try clear hb); (try clear hb2); (try clear hk); (try clear hi)))
           go_ret
           exact ⟨by first | rfl | (simp [qbb, qbc] <;> rfl) | (simp [*, qbb, qbc] <;> rfl), by repeat (first | (with_reducible first | exact HB.out | apply qag | apply qaf | apply qah | refine qaj ?_ GE493.out) | exact HB.out)⟩
          ·
           rw [if_neg c39] at H
           have c39b0 : (t497 == 0) = false := beq_eq_false_iff_ne.mpr c39
           have c39b1 : (t497 != 0) = true := bne_iff_ne.mpr c39
           obtain rfl := Option.some.inj H
           go_wp2
           go_ret
           exact ⟨by first | rfl | (simp [qbb, qbc] <;> rfl) | (simp [*, qbb, qbc] <;> rfl), by repeat (first | (with_reducible first | exact HB.out | apply qag | apply qaf | apply qah | refine qaj ?_ GE493.out) | exact HB.out)⟩
         ·
          rw [if_neg c38] at H
          have c38b0 : (t498 == x9_29) = false := beq_eq_false_iff_ne.mpr c38
          have c38b1 : (t498 != x9_29) = true := bne_iff_ne.mpr c38
          obtain rfl := Option.some.inj H
          go_wp2
          go_ret
          exact ⟨by first | rfl | (simp [qbb, qbc] <;> rfl) | (simp [*, qbb, qbc] <;> rfl), by repeat (first | (with_reducible first | exact HB.out | apply qag | apply qaf | apply qah | refine qaj ?_ GE493.out) | exact HB.out)⟩
end Go.Proofs.Ytafkanmioinbiaa.SA
