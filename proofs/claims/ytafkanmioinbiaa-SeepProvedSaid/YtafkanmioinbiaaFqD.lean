/- What functions of the program answer. No condition. -/
import Derived.Test.YtafkanmioinbiaaSC
import Derived.Test.YtafkanmioinbiaaSF
import Derived.Test.YtafkanmioinbiaaSL
import Derived.Test.YtafkanmioinbiaaSM
import Derived.Test.YtafkanmioinbiaaSQ
import Derived.Test.YtafkanmioinbiaaFqB
import Derived.Test.YtafkanmioinbiaaFqC
set_option linter.all false
set_option maxRecDepth 100000
set_option maxHeartbeats 8000000
namespace Go.Proofs.Ytafkanmioinbiaa.SA
open Go.RowKit Go.Proofs.YtafkanmioinbiaaW.PrintWords Go.Proofs.YtafkanmioinbiaaW.PrintLast Go.Proofs.YtafkanmioinbiaaW.PrintMore
attribute [local go_sem] qbc qbe max_two min_two qaz qba qbd qbf
mutual
def taliklaw07_SeepProved.j0 : Nat → List (List Int) → List Int → List Int → Bool → Int → List (S44) → List Int → List Int → List (S41) → List (S95) → Option (Bool)
 | 0, _, _, _, _, _, _, _, _, _, _ => none
 | k + 1, x1, x2, x3, x46, x475000, x475001, x475002, x475003, x475004, x475005 => if x46 = true then ((taliklaw07_known.f).bind fun t479 => (some t479)) else ((seep_Floor.f x475000 x475001 x475002 x475003 x475004 x475005 x1 x2).bind fun bt480 => ((seep_Dykes.f x475000 x475001 x475002 x475003 x475004 x475005).bind fun bt482 => ((taliklaw07_clean.f k x475000 x475001 x475002 x475003 x475004 x475005 x3).bind fun bt487 => (if bt480.2 = 0 then (if bt482.2.2 = 0 then (taliklaw07_SeepProved.j1 k x3 bt480.1 bt480.2 bt482.2.1 bt482.2.2 bt487.1 (!bt487.2) x475000 x475001 x475002 x475003 x475004 x475005) else (if bt482.2.2 = 5 then (taliklaw07_SeepProved.j1 k x3 bt480.1 bt480.2 bt482.2.1 bt482.2.2 bt487.1 (!bt487.2) x475000 x475001 x475002 x475003 x475004 x475005) else (taliklaw07_SeepProved.j1 k x3 bt480.1 bt480.2 bt482.2.1 bt482.2.2 bt487.1 true x475000 x475001 x475002 x475003 x475004 x475005))) else (if bt480.2 = 7 then (if bt482.2.2 = 0 then (taliklaw07_SeepProved.j1 k x3 bt480.1 bt480.2 bt482.2.1 bt482.2.2 bt487.1 (!bt487.2) x475000 x475001 x475002 x475003 x475004 x475005) else (if bt482.2.2 = 5 then (taliklaw07_SeepProved.j1 k x3 bt480.1 bt480.2 bt482.2.1 bt482.2.2 bt487.1 (!bt487.2) x475000 x475001 x475002 x475003 x475004 x475005) else (taliklaw07_SeepProved.j1 k x3 bt480.1 bt480.2 bt482.2.1 bt482.2.2 bt487.1 true x475000 x475001 x475002 x475003 x475004 x475005))) else (taliklaw07_SeepProved.j1 k x3 bt480.1 bt480.2 bt482.2.1 bt482.2.2 bt487.1 true x475000 x475001 x475002 x475003 x475004 x475005))))))
def taliklaw07_SeepProved.j1 : Nat → List Int → Int → Int → Int → Int → Bool → Bool → Int → List (S44) → List Int → List Int → List (S41) → List (S95) → Option (Bool)
 | 0, _, _, _, _, _, _, _, _, _, _, _, _, _ => none
 | k + 1, x3, x9, x10, x12, x13, x14, x84, x475000, x475001, x475002, x475003, x475004, x475005 => if x84 = true then (some false) else (if x10 = 0 then (if x13 = 0 then (if x12 ≥ x9 then (if x14 = true then ((talikref07_Cost.f k x475000 x475001 x475002 x475003 x475004 x475005 x3).bind fun t489 => (if t489 ≥ x9 then ((taliklaw07_known.f).bind fun t490 => (some t490)) else (some false))) else ((taliklaw07_known.f).bind fun t491 => (some t491))) else (some false)) else (if x14 = true then ((talikref07_Cost.f k x475000 x475001 x475002 x475003 x475004 x475005 x3).bind fun t492 => (if t492 ≥ x9 then ((taliklaw07_known.f).bind fun t493 => (some t493)) else (some false))) else ((taliklaw07_known.f).bind fun t494 => (some t494)))) else ((taliklaw07_known.f).bind fun t495 => (some t495)))
end
def taliklaw07_SeepProved.f (k : Nat) (a0_0 : Int) (l0_1 : List (S44)) (l0_2 : List Int) (l0_3 : List Int) (l0_4 : List (S41)) (l0_5 : List (S95)) (l1 : List (List Int)) (l2 : List Int) (l3 : List Int) : Option (Bool) := (taliklaw07_short.f a0_0 l0_1 l0_2 l0_3 l0_4 l0_5).bind fun t475 => (if t475 = true then ((taliklaw07_brief.f k l1).bind fun t476 => (if t476 = true then (if (l2.length : Int) > 15 then (taliklaw07_SeepProved.j0 k l1 l2 l3 true a0_0 l0_1 l0_2 l0_3 l0_4 l0_5) else (if (l3.length : Int) > 16 then (taliklaw07_SeepProved.j0 k l1 l2 l3 true a0_0 l0_1 l0_2 l0_3 l0_4 l0_5) else ((taliklaw07_priced.f k a0_0 l0_1 l0_2 l0_3 l0_4 l0_5 l1 l2).bind fun t477 => (if t477 = 0 then ((taliklaw07_asked.f a0_0 l0_1 l0_2 l0_3 l0_4 l0_5 l3).bind fun t478 => (taliklaw07_SeepProved.j0 k l1 l2 l3 (!t478) a0_0 l0_1 l0_2 l0_3 l0_4 l0_5)) else (taliklaw07_SeepProved.j0 k l1 l2 l3 true a0_0 l0_1 l0_2 l0_3 l0_4 l0_5))))) else (taliklaw07_SeepProved.j0 k l1 l2 l3 true a0_0 l0_1 l0_2 l0_3 l0_4 l0_5))) else (taliklaw07_SeepProved.j0 k l1 l2 l3 true a0_0 l0_1 l0_2 l0_3 l0_4 l0_5))
theorem taliklaw07_SeepProved.calls (k : Nat) (a0_0 : Int) (A0_1 : Option Addr) (c0_1 : Nat) (l0_1 : List (S44)) (A0_2 : Option Addr) (c0_2 : Nat) (l0_2 : List Int) (A0_3 : Option Addr) (c0_3 : Nat) (l0_3 : List Int) (A0_4 : Option Addr) (c0_4 : Nat) (l0_4 : List (S41)) (A0_5 : Option Addr) (c0_5 : Nat) (l0_5 : List (S95)) (A1 : Option Addr) (c1 : Nat) (l1 : List (List Int)) (A2 : Option Addr) (c2 : Nat) (l2 : List Int) (A3 : Option Addr) (c3 : Nat) (l3 : List Int) (r : Bool) (w : World) (hr0_1 : Kd.C k44 w A0_1 l0_1.length l0_1) (hc0_1 : l0_1.length ≤ c0_1) (hr0_2 : Kd.C (Kd.int .i64) w A0_2 l0_2.length l0_2) (hc0_2 : l0_2.length ≤ c0_2) (hr0_3 : Kd.C (Kd.int .i64) w A0_3 l0_3.length l0_3) (hc0_3 : l0_3.length ≤ c0_3) (hr0_4 : Kd.C k41 w A0_4 l0_4.length l0_4) (hc0_4 : l0_4.length ≤ c0_4) (hr0_5 : Kd.C k95 w A0_5 l0_5.length l0_5) (hc0_5 : l0_5.length ≤ c0_5) (hr1 : Kd.C (Kd.slice 3 (Kd.int .i64)) w A1 l1.length l1) (hc1 : l1.length ≤ c1) (hr2 : Kd.C (Kd.int .i64) w A2 l2.length l2) (hc2 : l2.length ≤ c2) (hr3 : Kd.C (Kd.int .i64) w A3 l3.length l3) (hc3 : l3.length ≤ c3) (h : taliklaw07_SeepProved.f k a0_0 l0_1 l0_2 l0_3 l0_4 l0_5 l1 l2 l3 = some r) :
  Calls Try.prog 11 #[.agg #[.int .i64 a0_0, .slice A0_1 l0_1.length c0_1, .slice A0_2 l0_2.length c0_2, .slice A0_3 l0_3.length c0_3, .slice A0_4 l0_4.length c0_4, .slice A0_5 l0_5.length c0_5], .slice A1 l1.length c1, .slice A2 l2.length c2, .slice A3 l3.length c3] w fun e w' => e = .returned (.bool r) ∧ Below w.heap.size w w' := by
 have hu27 := Try.underlying27
 have HR0_1 := qab.mk hr0_1
 have HC0_1 := qab.mk hc0_1
 clear hr0_1 hc0_1
 have HR0_2 := qab.mk hr0_2
 have HC0_2 := qab.mk hc0_2
 clear hr0_2 hc0_2
 have HR0_3 := qab.mk hr0_3
 have HC0_3 := qab.mk hc0_3
 clear hr0_3 hc0_3
 have HR0_4 := qab.mk hr0_4
 have HC0_4 := qab.mk hc0_4
 clear hr0_4 hc0_4
 have HR0_5 := qab.mk hr0_5
 have HC0_5 := qab.mk hc0_5
 clear hr0_5 hc0_5
 have HR1 := qab.mk hr1
 have HC1 := qab.mk hc1
 clear hr1 hc1
 have HR2 := qab.mk hr2
 have HC2 := qab.mk hc2
 clear hr2 hc2
 have HR3 := qab.mk hr3
 have HC3 := qab.mk hc3
 clear hr3 hc3
 have HB := qab.mk (Below.refl w.heap.size w)
 have H : ((taliklaw07_short.f a0_0 l0_1 l0_2 l0_3 l0_4 l0_5).bind fun t475 => (if t475 = true then ((taliklaw07_brief.f k l1).bind fun t476 => (if t476 = true then (if (l2.length : Int) > 15 then (taliklaw07_SeepProved.j0 k l1 l2 l3 true a0_0 l0_1 l0_2 l0_3 l0_4 l0_5) else (if (l3.length : Int) > 16 then (taliklaw07_SeepProved.j0 k l1 l2 l3 true a0_0 l0_1 l0_2 l0_3 l0_4 l0_5) else ((taliklaw07_priced.f k a0_0 l0_1 l0_2 l0_3 l0_4 l0_5 l1 l2).bind fun t477 => (if t477 = 0 then ((taliklaw07_asked.f a0_0 l0_1 l0_2 l0_3 l0_4 l0_5 l3).bind fun t478 => (taliklaw07_SeepProved.j0 k l1 l2 l3 (!t478) a0_0 l0_1 l0_2 l0_3 l0_4 l0_5)) else (taliklaw07_SeepProved.j0 k l1 l2 l3 true a0_0 l0_1 l0_2 l0_3 l0_4 l0_5))))) else (taliklaw07_SeepProved.j0 k l1 l2 l3 true a0_0 l0_1 l0_2 l0_3 l0_4 l0_5))) else (taliklaw07_SeepProved.j0 k l1 l2 l3 true a0_0 l0_1 l0_2 l0_3 l0_4 l0_5))) = some r := h
 clear h
 have HC5 := qab.mk H
 clear H
 go_enter Try.func11, Try.ntmps11
 go_upto_region 1 with (first | ((with_reducible refine qaq (N := 4) rfl ?_); (try (refine gate_guard (by rfl) ?_; dsimp only)); refine ze 4 #[.int .i64 a0_0, .slice A0_1 l0_1.length c0_1, .slice A0_2 l0_2.length c0_2, .slice A0_3 l0_3.length c0_3, .slice A0_4 l0_4.length c0_4, .slice A0_5 l0_5.length c0_5] 27 ?_; intro gb474 hg w6 hbox hb; have n0_ := qab.mk (qae (zb HB.out) hb); have n1_ := qab.mk (hbox); have n2_ := qab.mk ((by rw [hg]; exact (qaw (zb HB.out)) : w.heap.size ≤ gb474)); have n3_ := qab.mk ((by rw [hg]; exact (qaw (zb HB.out)) : w.heap.size ≤ gb474)); clear HB; have HB := n0_; have BK474 := n1_; have GW474 := n2_; have GE474 := n3_; clear n0_ n1_ n2_ n3_; clear hb hbox hg))
 (try simp only [Act.put, qzA, qzB, qzC])
 go_cut [46] (fun v46 wc => ∃ (kq : Nat) (x46_4 : Bool), v46 = .bool x46_4 ∧ qab (taliklaw07_SeepProved.j0 kq l1 l2 l3 x46_4 a0_0 l0_1 l0_2 l0_3 l0_4 l0_5 = some r) ∧ qab (kq ≤ k) ∧ qab (wc.heap[gb474]? = some (.cells #[.int .i64 a0_0, (.slice A0_1 l0_1.length c0_1), (.slice A0_2 l0_2.length c0_2), (.slice A0_3 l0_3.length c0_3), (.slice A0_4 l0_4.length c0_4), (.slice A0_5 l0_5.length c0_5)] 27 (0, 0))) ∧ qab (Below w.heap.size w wc))
 case first =>
  have H := HC5.out
  clear HC5
  replace H := Option.bind_eq_some_iff.mp H
  obtain ⟨t475, A70, H⟩ := H
  try dsimp only at H
  have A7 := qab.mk A70
  clear A70
  by_cases c8 : t475 = true
  ·
   subst c8
   rw [if_pos rfl] at H
   replace H := Option.bind_eq_some_iff.mp H
   obtain ⟨t476, A90, H⟩ := H
   try dsimp only at H
   have A9 := qab.mk A90
   clear A90
   by_cases c10 : t476 = true
   ·
    subst c10
    rw [if_pos rfl] at H
    by_cases c11 : (l2.length : Int) > 15
    ·
     rw [if_pos c11] at H
     have c11b0 : decide (15 < (l2.length : Int)) = true := decide_eq_true c11
     have c11b1 : decide (15 < l2.length) = true := decide_eq_true (by omega)
     clear c11
     (first | rw [c11b0] | (simp only [i64_w, i32_w]; rw [c11b0]) | skip)
     have H' := qab.mk H
     clear H
     obtain ⟨hfz_, hcz12_0, hcz12_1, hcz12_2, hcz12_3, hcz12_4, hcz12_5⟩ := qz6 BK474.out
     go_wp2_with (first | ((with_reducible refine qav (f := 16) rfl ?_); refine zl 17 Try.func16 #[.agg #[.int .i64 a0_0, .slice A0_1 l0_1.length c0_1, .slice A0_2 l0_2.length c0_2, .slice A0_3 l0_3.length c0_3, .slice A0_4 l0_4.length c0_4, .slice A0_5 l0_5.length c0_5]] ?_; (with_reducible refine (taliklaw07_short.calls a0_0 _ _ l0_1 _ _ l0_2 _ _ l0_3 _ _ l0_4 _ _ l0_5 true _ ?side1 ?side2 ?side3 ?side4 ?side5 ?side6 ?side7 ?side8 ?side9 ?side10 A7.out).mono ?_); (case side1 => exact zs (Kd.qai HR0_1.out HB.out)); (case side2 => exact HC0_1.out); (case side3 => exact zs (Kd.qai HR0_2.out HB.out)); (case side4 => exact HC0_2.out); (case side5 => exact zs (Kd.qai HR0_3.out HB.out)); (case side6 => exact HC0_3.out); (case side7 => exact zs (Kd.qai HR0_4.out HB.out)); (case side8 => exact HC0_4.out); (case side9 => exact zs (Kd.qai HR0_5.out HB.out)); (case side10 => exact HC0_5.out); rintro e w13 ⟨rfl, hb⟩; refine ⟨_, rfl, ?_⟩; replace BK474 := qab.mk (zk BK474.out hb); replace HB := qab.mk (qae (by repeat (first | (with_reducible first | exact HB.out | apply qag | apply qaf | apply qah | refine qaj ?_ GE474.out) | exact HB.out)) hb); (try clear hb); (try clear hb2); (try clear hk); (try clear hi)) | (go_at_call 38; (with_reducible refine (taliklaw07_brief.calls k _ _ l1 true _ ?side1 ?side2 A9.out).mono ?_); (case side1 => exact zs (Kd.qai HR1.out HB.out)); (case side2 => exact HC1.out); rintro e w' ⟨rfl, ⟨nd, rfl⟩⟩))
     go_meet
     case rel => exact ⟨_, (true), (by first | rfl | (simp; done) | (simp [*]; done)), H', ⟨by first | omega | exact Nat.le_refl _⟩, ⟨zj BK474.out⟩, ⟨by repeat (first | (with_reducible first | exact HB.out | apply qag | apply qaf | apply qah | refine qaj ?_ GE474.out) | exact HB.out)⟩⟩
    ·
     rw [if_neg c11] at H
     have c11b0 : decide (15 < (l2.length : Int)) = false := decide_eq_false c11
     have c11b1 : decide (15 < l2.length) = false := decide_eq_false (by omega)
     clear c11
     (first | rw [c11b0] | (simp only [i64_w, i32_w]; rw [c11b0]) | skip)
     by_cases c14 : (l3.length : Int) > 16
     ·
      rw [if_pos c14] at H
      have c14b0 : decide (16 < (l3.length : Int)) = true := decide_eq_true c14
      have c14b1 : decide (16 < l3.length) = true := decide_eq_true (by omega)
      clear c14
      have H' := qab.mk H
      clear H
      obtain ⟨hfz_, hcz15_0, hcz15_1, hcz15_2, hcz15_3, hcz15_4, hcz15_5⟩ := qz6 BK474.out
      go_wp2_with (first | ((with_reducible refine qav (f := 16) rfl ?_); refine zl 17 Try.func16 #[.agg #[.int .i64 a0_0, .slice A0_1 l0_1.length c0_1, .slice A0_2 l0_2.length c0_2, .slice A0_3 l0_3.length c0_3, .slice A0_4 l0_4.length c0_4, .slice A0_5 l0_5.length c0_5]] ?_; (with_reducible refine (taliklaw07_short.calls a0_0 _ _ l0_1 _ _ l0_2 _ _ l0_3 _ _ l0_4 _ _ l0_5 true _ ?side1 ?side2 ?side3 ?side4 ?side5 ?side6 ?side7 ?side8 ?side9 ?side10 A7.out).mono ?_); (case side1 => exact zs (Kd.qai HR0_1.out HB.out)); (case side2 => exact HC0_1.out); (case side3 => exact zs (Kd.qai HR0_2.out HB.out)); (case side4 => exact HC0_2.out); (case side5 => exact zs (Kd.qai HR0_3.out HB.out)); (case side6 => exact HC0_3.out); (case side7 => exact zs (Kd.qai HR0_4.out HB.out)); (case side8 => exact HC0_4.out); (case side9 => exact zs (Kd.qai HR0_5.out HB.out)); (case side10 => exact HC0_5.out); rintro e w16 ⟨rfl, hb⟩; refine ⟨_, rfl, ?_⟩; replace BK474 := qab.mk (zk BK474.out hb); replace HB := qab.mk (qae (by repeat (first | (with_reducible first | exact HB.out | apply qag | apply qaf | apply qah | refine qaj ?_ GE474.out) | exact HB.out)) hb); (try clear hb); (try clear hb2); (try clear hk); (try clear hi)) | (go_at_call 38; (with_reducible refine (taliklaw07_brief.calls k _ _ l1 true _ ?side1 ?side2 A9.out).mono ?_); (case side1 => exact zs (Kd.qai HR1.out HB.out)); (case side2 => exact HC1.out); rintro e w' ⟨rfl, ⟨nd, rfl⟩⟩))
      go_meet
      case rel => exact ⟨_, (true), (by first | rfl | (simp; done) | (simp [*]; done)), H', ⟨by first | omega | exact Nat.le_refl _⟩, ⟨zj BK474.out⟩, ⟨by repeat (first | (with_reducible first | exact HB.out | apply qag | apply qaf | apply qah | refine qaj ?_ GE474.out) | exact HB.out)⟩⟩
     ·
      rw [if_neg c14] at H
      have c14b0 : decide (16 < (l3.length : Int)) = false := decide_eq_false c14
      have c14b1 : decide (16 < l3.length) = false := decide_eq_false (by omega)
      clear c14
      replace H := Option.bind_eq_some_iff.mp H
      obtain ⟨t477, A170, H⟩ := H
      try dsimp only at H
      have A17 := qab.mk A170
      clear A170
      by_cases c18 : t477 = 0
      ·
       rw [if_pos c18] at H
       have c18b0 : (t477 == 0) = true := beq_iff_eq.mpr c18
       have c18b1 : (t477 != 0) = false := bne_eq_false_iff_eq.mpr c18
       clear c18
       replace H := Option.bind_eq_some_iff.mp H
       obtain ⟨t478, A190, H⟩ := H
       try dsimp only at H
       have A19 := qab.mk A190
       clear A190
       have H' := qab.mk H
       clear H
       obtain ⟨hfz_, hcz20_0, hcz20_1, hcz20_2, hcz20_3, hcz20_4, hcz20_5⟩ := qz6 BK474.out
       go_wp2_with (first | ((with_reducible refine qav (f := 16) rfl ?_); refine zl 17 Try.func16 #[.agg #[.int .i64 a0_0, .slice A0_1 l0_1.length c0_1, .slice A0_2 l0_2.length c0_2, .slice A0_3 l0_3.length c0_3, .slice A0_4 l0_4.length c0_4, .slice A0_5 l0_5.length c0_5]] ?_; (with_reducible refine (taliklaw07_short.calls a0_0 _ _ l0_1 _ _ l0_2 _ _ l0_3 _ _ l0_4 _ _ l0_5 true _ ?side1 ?side2 ?side3 ?side4 ?side5 ?side6 ?side7 ?side8 ?side9 ?side10 A7.out).mono ?_); (case side1 => exact zs (Kd.qai HR0_1.out HB.out)); (case side2 => exact HC0_1.out); (case side3 => exact zs (Kd.qai HR0_2.out HB.out)); (case side4 => exact HC0_2.out); (case side5 => exact zs (Kd.qai HR0_3.out HB.out)); (case side6 => exact HC0_3.out); (case side7 => exact zs (Kd.qai HR0_4.out HB.out)); (case side8 => exact HC0_4.out); (case side9 => exact zs (Kd.qai HR0_5.out HB.out)); (case side10 => exact HC0_5.out); rintro e w21 ⟨rfl, hb⟩; refine ⟨_, rfl, ?_⟩; replace BK474 := qab.mk (zk BK474.out hb); replace HB := qab.mk (qae (by repeat (first | (with_reducible first | exact HB.out | apply qag | apply qaf | apply qah | refine qaj ?_ GE474.out) | exact HB.out)) hb); (try clear hb); (try clear hb2); (try clear hk); (try clear hi)) | (go_at_call 38; (with_reducible refine (taliklaw07_brief.calls k _ _ l1 true _ ?side1 ?side2 A9.out).mono ?_); (case side1 => exact zs (Kd.qai HR1.out HB.out)); (case side2 => exact HC1.out); rintro e w' ⟨rfl, ⟨nd, rfl⟩⟩; obtain ⟨hfz_, hcz22_0, hcz22_1, hcz22_2, hcz22_3, hcz22_4, hcz22_5⟩ := qz6 BK474.out) | (go_at_call 40; (with_reducible refine (taliklaw07_priced.calls k a0_0 _ _ l0_1 _ _ l0_2 _ _ l0_3 _ _ l0_4 _ _ l0_5 _ _ l1 _ _ l2 t477 _ ?side1 ?side2 ?side3 ?side4 ?side5 ?side6 ?side7 ?side8 ?side9 ?side10 ?side11 ?side12 ?side13 ?side14 A17.out).mono ?_); (case side1 => repeat (first | exact (Kd.qai HR0_1.out (by repeat (first | (with_reducible first | exact HB.out | apply qag | apply qaf | apply qah | refine qaj ?_ GE474.out) | exact HB.out))) | (with_reducible refine Kd.qak ?_ _) | (with_reducible refine Kd.qal ?_ _) | (with_reducible refine Kd.qam ?_))); (case side2 => exact HC0_1.out); (case side3 => repeat (first | exact (Kd.qai HR0_2.out (by repeat (first | (with_reducible first | exact HB.out | apply qag | apply qaf | apply qah | refine qaj ?_ GE474.out) | exact HB.out))) | (with_reducible refine Kd.qak ?_ _) | (with_reducible refine Kd.qal ?_ _) | (with_reducible refine Kd.qam ?_))); (case side4 => exact HC0_2.out); (case side5 => repeat (first | exact (Kd.qai HR0_3.out (by repeat (first | (with_reducible first | exact HB.out | apply qag | apply qaf | apply qah | refine qaj ?_ GE474.out) | exact HB.out))) | (with_reducible refine Kd.qak ?_ _) | (with_reducible refine Kd.qal ?_ _) | (with_reducible refine Kd.qam ?_))); (case side6 => exact HC0_3.out); (case side7 => repeat (first | exact (Kd.qai HR0_4.out (by repeat (first | (with_reducible first | exact HB.out | apply qag | apply qaf | apply qah | refine qaj ?_ GE474.out) | exact HB.out))) | (with_reducible refine Kd.qak ?_ _) | (with_reducible refine Kd.qal ?_ _) | (with_reducible refine Kd.qam ?_))); (case side8 => exact HC0_4.out); (case side9 => repeat (first | exact (Kd.qai HR0_5.out (by repeat (first | (with_reducible first | exact HB.out | apply qag | apply qaf | apply qah | refine qaj ?_ GE474.out) | exact HB.out))) | (with_reducible refine Kd.qak ?_ _) | (with_reducible refine Kd.qal ?_ _) | (with_reducible refine Kd.qam ?_))); (case side10 => exact HC0_5.out); (case side11 => repeat (first | exact (Kd.qai HR1.out (by repeat (first | (with_reducible first | exact HB.out | apply qag | apply qaf | apply qah | refine qaj ?_ GE474.out) | exact HB.out))) | (with_reducible refine Kd.qak ?_ _) | (with_reducible refine Kd.qal ?_ _) | (with_reducible refine Kd.qam ?_))); (case side12 => exact HC1.out); (case side13 => repeat (first | exact (Kd.qai HR2.out (by repeat (first | (with_reducible first | exact HB.out | apply qag | apply qaf | apply qah | refine qaj ?_ GE474.out) | exact HB.out))) | (with_reducible refine Kd.qak ?_ _) | (with_reducible refine Kd.qal ?_ _) | (with_reducible refine Kd.qam ?_))); (case side14 => exact HC2.out); rintro e w23 ⟨rfl, hb⟩; replace BK474 := qab.mk (zk BK474.out hb); replace HB := qab.mk (qae (by repeat (first | (with_reducible first | exact HB.out | apply qag | apply qaf | apply qah | refine qaj ?_ GE474.out) | exact HB.out)) hb); (try clear hb); (try clear hb2); (try clear hk); (try clear hi); obtain ⟨hfz_, hcz24_0, hcz24_1, hcz24_2, hcz24_3, hcz24_4, hcz24_5⟩ := qz6 BK474.out) | (go_at_call 19; (with_reducible refine (taliklaw07_asked.calls a0_0 _ _ l0_1 _ _ l0_2 _ _ l0_3 _ _ l0_4 _ _ l0_5 _ _ l3 t478 _ ?side1 ?side2 ?side3 ?side4 ?side5 ?side6 ?side7 ?side8 ?side9 ?side10 ?side11 ?side12 A19.out).mono ?_); (case side1 => exact zs (Kd.qai HR0_1.out HB.out)); (case side2 => exact HC0_1.out); (case side3 => exact zs (Kd.qai HR0_2.out HB.out)); (case side4 => exact HC0_2.out); (case side5 => exact zs (Kd.qai HR0_3.out HB.out)); (case side6 => exact HC0_3.out); (case side7 => exact zs (Kd.qai HR0_4.out HB.out)); (case side8 => exact HC0_4.out); (case side9 => exact zs (Kd.qai HR0_5.out HB.out)); (case side10 => exact HC0_5.out); (case side11 => exact zs (Kd.qai HR3.out HB.out)); (case side12 => exact HC3.out); rintro e w25 ⟨rfl, hb⟩; replace BK474 := qab.mk (zk BK474.out hb); replace HB := qab.mk (qae (by repeat (first | (with_reducible first | exact HB.out | apply qag | apply qaf | apply qah | refine qaj ?_ GE474.out) | exact HB.out)) hb); (try clear hb); (try clear hb2); (try clear hk); (try clear hi)))
       go_meet
       case rel => exact ⟨_, (!t478), (by first | rfl | (simp; done) | (simp [*]; done)), H', ⟨by first | omega | exact Nat.le_refl _⟩, ⟨zj BK474.out⟩, ⟨by repeat (first | (with_reducible first | exact HB.out | apply qag | apply qaf | apply qah | refine qaj ?_ GE474.out) | exact HB.out)⟩⟩
      ·
       rw [if_neg c18] at H
       have c18b0 : (t477 == 0) = false := beq_eq_false_iff_ne.mpr c18
       have c18b1 : (t477 != 0) = true := bne_iff_ne.mpr c18
       have H' := qab.mk H
       clear H
       obtain ⟨hfz_, hcz26_0, hcz26_1, hcz26_2, hcz26_3, hcz26_4, hcz26_5⟩ := qz6 BK474.out
       go_wp2_with (first | ((with_reducible refine qav (f := 16) rfl ?_); refine zl 17 Try.func16 #[.agg #[.int .i64 a0_0, .slice A0_1 l0_1.length c0_1, .slice A0_2 l0_2.length c0_2, .slice A0_3 l0_3.length c0_3, .slice A0_4 l0_4.length c0_4, .slice A0_5 l0_5.length c0_5]] ?_; (with_reducible refine (taliklaw07_short.calls a0_0 _ _ l0_1 _ _ l0_2 _ _ l0_3 _ _ l0_4 _ _ l0_5 true _ ?side1 ?side2 ?side3 ?side4 ?side5 ?side6 ?side7 ?side8 ?side9 ?side10 A7.out).mono ?_); (case side1 => exact zs (Kd.qai HR0_1.out HB.out)); (case side2 => exact HC0_1.out); (case side3 => exact zs (Kd.qai HR0_2.out HB.out)); (case side4 => exact HC0_2.out); (case side5 => exact zs (Kd.qai HR0_3.out HB.out)); (case side6 => exact HC0_3.out); (case side7 => exact zs (Kd.qai HR0_4.out HB.out)); (case side8 => exact HC0_4.out); (case side9 => exact zs (Kd.qai HR0_5.out HB.out)); (case side10 => exact HC0_5.out); rintro e w27 ⟨rfl, hb⟩; refine ⟨_, rfl, ?_⟩; replace BK474 := qab.mk (zk BK474.out hb); replace HB := qab.mk (qae (by repeat (first | (with_reducible first | exact HB.out | apply qag | apply qaf | apply qah | refine qaj ?_ GE474.out) | exact HB.out)) hb); (try clear hb); (try clear hb2); (try clear hk); (try clear hi)) | (go_at_call 38; (with_reducible refine (taliklaw07_brief.calls k _ _ l1 true _ ?side1 ?side2 A9.out).mono ?_); (case side1 => exact zs (Kd.qai HR1.out HB.out)); (case side2 => exact HC1.out); rintro e w' ⟨rfl, ⟨nd, rfl⟩⟩; obtain ⟨hfz_, hcz28_0, hcz28_1, hcz28_2, hcz28_3, hcz28_4, hcz28_5⟩ := qz6 BK474.out) | (go_at_call 40; (with_reducible refine (taliklaw07_priced.calls k a0_0 _ _ l0_1 _ _ l0_2 _ _ l0_3 _ _ l0_4 _ _ l0_5 _ _ l1 _ _ l2 t477 _ ?side1 ?side2 ?side3 ?side4 ?side5 ?side6 ?side7 ?side8 ?side9 ?side10 ?side11 ?side12 ?side13 ?side14 A17.out).mono ?_); (case side1 => repeat (first | exact (Kd.qai HR0_1.out (by repeat (first | (with_reducible first | exact HB.out | apply qag | apply qaf | apply qah | refine qaj ?_ GE474.out) | exact HB.out))) | (with_reducible refine Kd.qak ?_ _) | (with_reducible refine Kd.qal ?_ _) | (with_reducible refine Kd.qam ?_))); (case side2 => exact HC0_1.out); (case side3 => repeat (first | exact (Kd.qai HR0_2.out (by repeat (first | (with_reducible first | exact HB.out | apply qag | apply qaf | apply qah | refine qaj ?_ GE474.out) | exact HB.out))) | (with_reducible refine Kd.qak ?_ _) | (with_reducible refine Kd.qal ?_ _) | (with_reducible refine Kd.qam ?_))); (case side4 => exact HC0_2.out); (case side5 => repeat (first | exact (Kd.qai HR0_3.out (by repeat (first | (with_reducible first | exact HB.out | apply qag | apply qaf | apply qah | refine qaj ?_ GE474.out) | exact HB.out))) | (with_reducible refine Kd.qak ?_ _) | (with_reducible refine Kd.qal ?_ _) | (with_reducible refine Kd.qam ?_))); (case side6 => exact HC0_3.out); (case side7 => repeat (first | exact (Kd.qai HR0_4.out (by repeat (first | (with_reducible first | exact HB.out | apply qag | apply qaf | apply qah | refine qaj ?_ GE474.out) | exact HB.out))) | (with_reducible refine Kd.qak ?_ _) | (with_reducible refine Kd.qal ?_ _) | (with_reducible refine Kd.qam ?_))); (case side8 => exact HC0_4.out); (case side9 => repeat (first | exact (Kd.qai HR0_5.out (by repeat (first | (with_reducible first | exact HB.out | apply qag | apply qaf | apply qah | refine qaj ?_ GE474.out) | exact HB.out))) | (with_reducible refine Kd.qak ?_ _) | (with_reducible refine Kd.qal ?_ _) | (with_reducible refine Kd.qam ?_))); (case side10 => exact HC0_5.out); (case side11 => repeat (first | exact (Kd.qai HR1.out (by repeat (first | (with_reducible first | exact HB.out | apply qag | apply qaf | apply qah | refine qaj ?_ GE474.out) | exact HB.out))) | (with_reducible refine Kd.qak ?_ _) | (with_reducible refine Kd.qal ?_ _) | (with_reducible refine Kd.qam ?_))); (case side12 => exact HC1.out); (case side13 => repeat (first | exact (Kd.qai HR2.out (by repeat (first | (with_reducible first | exact HB.out | apply qag | apply qaf | apply qah | refine qaj ?_ GE474.out) | exact HB.out))) | (with_reducible refine Kd.qak ?_ _) | (with_reducible refine Kd.qal ?_ _) | (with_reducible refine Kd.qam ?_))); (case side14 => exact HC2.out); rintro e w29 ⟨rfl, hb⟩; replace BK474 := qab.mk (zk BK474.out hb); replace HB := qab.mk (qae (by repeat (first | (with_reducible first | exact HB.out | apply qag | apply qaf | apply qah | refine qaj ?_ GE474.out) | exact HB.out)) hb); (try clear hb); (try clear hb2); (try clear hk); (try clear hi)))
       go_meet
       case rel => exact ⟨_, (true), (by first | rfl | (simp; done) | (simp [*]; done)), H', ⟨by first | omega | exact Nat.le_refl _⟩, ⟨zj BK474.out⟩, ⟨by repeat (first | (with_reducible first | exact HB.out | apply qag | apply qaf | apply qah | refine qaj ?_ GE474.out) | exact HB.out)⟩⟩
   ·
    replace c10 := Bool.eq_false_iff.mpr c10
    subst c10
    rw [if_neg (show ¬ (false = true) by decide)] at H
    have H' := qab.mk H
    clear H
    obtain ⟨hfz_, hcz30_0, hcz30_1, hcz30_2, hcz30_3, hcz30_4, hcz30_5⟩ := qz6 BK474.out
    go_wp2_with (first | ((with_reducible refine qav (f := 16) rfl ?_); refine zl 17 Try.func16 #[.agg #[.int .i64 a0_0, .slice A0_1 l0_1.length c0_1, .slice A0_2 l0_2.length c0_2, .slice A0_3 l0_3.length c0_3, .slice A0_4 l0_4.length c0_4, .slice A0_5 l0_5.length c0_5]] ?_; (with_reducible refine (taliklaw07_short.calls a0_0 _ _ l0_1 _ _ l0_2 _ _ l0_3 _ _ l0_4 _ _ l0_5 true _ ?side1 ?side2 ?side3 ?side4 ?side5 ?side6 ?side7 ?side8 ?side9 ?side10 A7.out).mono ?_); (case side1 => exact zs (Kd.qai HR0_1.out HB.out)); (case side2 => exact HC0_1.out); (case side3 => exact zs (Kd.qai HR0_2.out HB.out)); (case side4 => exact HC0_2.out); (case side5 => exact zs (Kd.qai HR0_3.out HB.out)); (case side6 => exact HC0_3.out); (case side7 => exact zs (Kd.qai HR0_4.out HB.out)); (case side8 => exact HC0_4.out); (case side9 => exact zs (Kd.qai HR0_5.out HB.out)); (case side10 => exact HC0_5.out); rintro e w31 ⟨rfl, hb⟩; refine ⟨_, rfl, ?_⟩; replace BK474 := qab.mk (zk BK474.out hb); replace HB := qab.mk (qae (by repeat (first | (with_reducible first | exact HB.out | apply qag | apply qaf | apply qah | refine qaj ?_ GE474.out) | exact HB.out)) hb); (try clear hb); (try clear hb2); (try clear hk); (try clear hi)) | (go_at_call 38; (with_reducible refine (taliklaw07_brief.calls k _ _ l1 false _ ?side1 ?side2 A9.out).mono ?_); (case side1 => exact zs (Kd.qai HR1.out HB.out)); (case side2 => exact HC1.out); rintro e w' ⟨rfl, ⟨nd, rfl⟩⟩))
    go_meet
    case rel => exact ⟨_, (true), (by first | rfl | (simp; done) | (simp [*]; done)), H', ⟨by first | omega | exact Nat.le_refl _⟩, ⟨zj BK474.out⟩, ⟨by repeat (first | (with_reducible first | exact HB.out | apply qag | apply qaf | apply qah | refine qaj ?_ GE474.out) | exact HB.out)⟩⟩
  ·
   replace c8 := Bool.eq_false_iff.mpr c8
   subst c8
   rw [if_neg (show ¬ (false = true) by decide)] at H
   have H' := qab.mk H
   clear H
   obtain ⟨hfz_, hcz32_0, hcz32_1, hcz32_2, hcz32_3, hcz32_4, hcz32_5⟩ := qz6 BK474.out
   go_wp2_with (first | ((with_reducible refine qav (f := 16) rfl ?_); refine zl 17 Try.func16 #[.agg #[.int .i64 a0_0, .slice A0_1 l0_1.length c0_1, .slice A0_2 l0_2.length c0_2, .slice A0_3 l0_3.length c0_3, .slice A0_4 l0_4.length c0_4, .slice A0_5 l0_5.length c0_5]] ?_; (with_reducible refine (taliklaw07_short.calls a0_0 _ _ l0_1 _ _ l0_2 _ _ l0_3 _ _ l0_4 _ _ l0_5 false _ ?side1 ?side2 ?side3 ?side4 ?side5 ?side6 ?side7 ?side8 ?side9 ?side10 A7.out).mono ?_); (case side1 => exact zs (Kd.qai HR0_1.out HB.out)); (case side2 => exact HC0_1.out); (case side3 => exact zs (Kd.qai HR0_2.out HB.out)); (case side4 => exact HC0_2.out); (case side5 => exact zs (Kd.qai HR0_3.out HB.out)); (case side6 => exact HC0_3.out); (case side7 => exact zs (Kd.qai HR0_4.out HB.out)); (case side8 => exact HC0_4.out); (case side9 => exact zs (Kd.qai HR0_5.out HB.out)); (case side10 => exact HC0_5.out); rintro e w33 ⟨rfl, hb⟩; refine ⟨_, rfl, ?_⟩; replace BK474 := qab.mk (zk BK474.out hb); replace HB := qab.mk (qae (by repeat (first | (with_reducible first | exact HB.out | apply qag | apply qaf | apply qah | refine qaj ?_ GE474.out) | exact HB.out)) hb); (try clear hb); (try clear hb2); (try clear hk); (try clear hi)))
   go_meet
   case rel => exact ⟨_, (true), (by first | rfl | (simp; done) | (simp [*]; done)), H', ⟨by first | omega | exact Nat.le_refl _⟩, ⟨zj BK474.out⟩, ⟨by repeat (first | (with_reducible first | exact HB.out | apply qag | apply qaf | apply qah | refine qaj ?_ GE474.out) | exact HB.out)⟩⟩
 case rest =>
  clear HC5
  try clear c1
  try clear c2
  try clear p2
  try clear c3
  try clear c8
  try clear c10
  try clear c11
  try clear c11b0
  try clear c11b1
  try clear c14
  try clear c14b0
  try clear c14b1
  try clear c16
  try clear c18
  try clear c18b0
  try clear c18b1
  try clear hcz12_0
  try clear hcz12_1
  try clear hcz12_2
  try clear hcz12_3
  try clear hcz12_4
  try clear hcz12_5
  try clear hcz15_0
  try clear hcz15_1
  try clear hcz15_2
  try clear hcz15_3
  try clear hcz15_4
  try clear hcz15_5
  try clear hcz20_0
  try clear hcz20_1
  try clear hcz20_2
  try clear hcz20_3
  try clear hcz20_4
  try clear hcz20_5
  try clear hcz22_0
  try clear hcz22_1
  try clear hcz22_2
  try clear hcz22_3
  try clear hcz22_4
  try clear hcz22_5
  try clear hcz24_0
  try clear hcz24_1
  try clear hcz24_2
  try clear hcz24_3
  try clear hcz24_4
  try clear hcz24_5
  try clear hcz26_0
  try clear hcz26_1
  try clear hcz26_2
  try clear hcz26_3
  try clear hcz26_4
  try clear hcz26_5
  try clear hcz28_0
  try clear hcz28_1
  try clear hcz28_2
  try clear hcz28_3
  try clear hcz28_4
  try clear hcz28_5
  try clear hcz30_0
  try clear hcz30_1
  try clear hcz30_2
  try clear hcz30_3
  try clear hcz30_4
  try clear hcz30_5
  try clear hcz32_0
  try clear hcz32_1
  try clear hcz32_2
  try clear hcz32_3
  try clear hcz32_4
  try clear hcz32_5
  try clear hfz12_0
  try clear hfz12_1
  try clear hfz12_2
  try clear hfz12_3
  try clear hfz12_4
  try clear hfz12_5
  try clear hfz15_0
  try clear hfz15_1
  try clear hfz15_2
  try clear hfz15_3
  try clear hfz15_4
  try clear hfz15_5
  try clear hfz20_0
  try clear hfz20_1
  try clear hfz20_2
  try clear hfz20_3
  try clear hfz20_4
  try clear hfz20_5
  try clear hfz22_0
  try clear hfz22_1
  try clear hfz22_2
  try clear hfz22_3
  try clear hfz22_4
  try clear hfz22_5
  try clear hfz24_0
  try clear hfz24_1
  try clear hfz24_2
  try clear hfz24_3
  try clear hfz24_4
  try clear hfz24_5
  try clear hfz26_0
  try clear hfz26_1
  try clear hfz26_2
  try clear hfz26_3
  try clear hfz26_4
  try clear hfz26_5
  try clear hfz28_0
  try clear hfz28_1
  try clear hfz28_2
  try clear hfz28_3
  try clear hfz28_4
  try clear hfz28_5
  try clear hfz30_0
  try clear hfz30_1
  try clear hfz30_2
  try clear hfz30_3
  try clear hfz30_4
  try clear hfz30_5
  try clear hfz32_0
  try clear hfz32_1
  try clear hfz32_2
  try clear hfz32_3
  try clear hfz32_4
  try clear hfz32_5
  obtain ⟨kq, x46_4, rfl, HA, HJ4, BK474, HB⟩ := hcut
  cases kq with
  | zero => exact absurd HA.out (by simp [taliklaw07_SeepProved.j0])
  | succ kj4 =>
   have H := HA.out
   clear HA
   simp only [taliklaw07_SeepProved.j0] at H
   by_cases c34 : x46_4 = true
   ·
    subst c34
    rw [if_pos rfl] at H
    replace H := Option.bind_eq_some_iff.mp H
    obtain ⟨t479, A350, H⟩ := H
    try dsimp only at H
    have A35 := qab.mk A350
    clear A350
    obtain rfl := Option.some.inj H
    go_wp2_with (first | ((with_reducible refine qav (f := 17) rfl ?_); refine zl 47 Try.func17 #[] ?_; (with_reducible refine (taliklaw07_known.calls  t479 _ A35.out).mono ?_); rintro e w36 ⟨rfl, hb⟩; refine ⟨_, rfl, ?_⟩; replace BK474 := qab.mk (zk BK474.out hb); replace HB := qab.mk (qae (by repeat (first | (with_reducible first | exact HB.out | apply qag | apply qaf | apply qah | refine qaj ?_ GE474.out) | exact HB.out)) hb); (try clear hb); (try clear hb2); (try clear hk); (try clear hi)))
    go_ret
    exact ⟨by first | rfl | (simp [qat, qau] <;> rfl) | (simp [*, qat, qau] <;> rfl), by repeat (first | (with_reducible first | exact HB.out | apply qag | apply qaf | apply qah | refine qaj ?_ GE474.out) | exact HB.out)⟩
   ·
    replace c34 := Bool.eq_false_iff.mpr c34
    subst c34
    rw [if_neg (show ¬ (false = true) by decide)] at H
    replace H := Option.bind_eq_some_iff.mp H
    obtain ⟨⟨t480, t481⟩, A370, H⟩ := H
    try dsimp only at H
    have A37 := qab.mk A370
    clear A370
    replace H := Option.bind_eq_some_iff.mp H
    obtain ⟨⟨t482, t485, t486⟩, A380, H⟩ := H
    try dsimp only at H
    have A38 := qab.mk A380
    clear A380
    replace H := Option.bind_eq_some_iff.mp H
    obtain ⟨⟨t487, t488⟩, A390, H⟩ := H
    try dsimp only at H
    have A39 := qab.mk A390
    clear A390
    have HC40 := qab.mk H
    clear H
    obtain ⟨hfz_, hcz41_0, hcz41_1, hcz41_2, hcz41_3, hcz41_4, hcz41_5⟩ := qz6 BK474.out
    go_upto_region 6 with (first | ((with_reducible refine qav (f := 39) rfl ?_); refine zl 52 Try.func39 #[.agg #[.int .i64 a0_0, .slice A0_1 l0_1.length c0_1, .slice A0_2 l0_2.length c0_2, .slice A0_3 l0_3.length c0_3, .slice A0_4 l0_4.length c0_4, .slice A0_5 l0_5.length c0_5], .slice A1 l1.length c1, .slice A2 l2.length c2] ?_; (with_reducible refine (seep_Floor.calls a0_0 _ _ l0_1 _ _ l0_2 _ _ l0_3 _ _ l0_4 _ _ l0_5 _ _ l1 _ _ l2 t480 t481 _ ?side1 ?side2 ?side3 ?side4 ?side5 ?side6 ?side7 ?side8 ?side9 ?side10 ?side11 ?side12 ?side13 ?side14 A37.out).mono ?_); (case side1 => exact zs (Kd.qai HR0_1.out HB.out)); (case side2 => exact HC0_1.out); (case side3 => exact zs (Kd.qai HR0_2.out HB.out)); (case side4 => exact HC0_2.out); (case side5 => exact zs (Kd.qai HR0_3.out HB.out)); (case side6 => exact HC0_3.out); (case side7 => exact zs (Kd.qai HR0_4.out HB.out)); (case side8 => exact HC0_4.out); (case side9 => exact zs (Kd.qai HR0_5.out HB.out)); (case side10 => exact HC0_5.out); (case side11 => exact zs (Kd.qai HR1.out HB.out)); (case side12 => exact HC1.out); (case side13 => exact zs (Kd.qai HR2.out HB.out)); (case side14 => exact HC2.out); rintro e w42 ⟨rfl, hb⟩; refine ⟨_, rfl, ?_⟩; replace BK474 := qab.mk (zk BK474.out hb); replace HB := qab.mk (qae (by repeat (first | (with_reducible first | exact HB.out | apply qag | apply qaf | apply qah | refine qaj ?_ GE474.out) | exact HB.out)) hb); (try clear hb); (try clear hb2); (try clear hk); (try clear hi); obtain ⟨hfz_, hcz43_0, hcz43_1, hcz43_2, hcz43_3, hcz43_4, hcz43_5⟩ := qz6 BK474.out) | ((with_reducible refine qav (f := 33) rfl ?_); refine zl 57 Try.func33 #[.agg #[.int .i64 a0_0, .slice A0_1 l0_1.length c0_1, .slice A0_2 l0_2.length c0_2, .slice A0_3 l0_3.length c0_3, .slice A0_4 l0_4.length c0_4, .slice A0_5 l0_5.length c0_5]] ?_; (with_reducible refine (seep_Dykes.calls a0_0 _ _ l0_1 _ _ l0_2 _ _ l0_3 _ _ l0_4 _ _ l0_5 t482 t485 t486 _ ?side1 ?side2 ?side3 ?side4 ?side5 ?side6 ?side7 ?side8 ?side9 ?side10 A38.out).mono ?_); (case side1 => exact zs (Kd.qai HR0_1.out HB.out)); (case side2 => exact HC0_1.out); (case side3 => exact zs (Kd.qai HR0_2.out HB.out)); (case side4 => exact HC0_2.out); (case side5 => exact zs (Kd.qai HR0_3.out HB.out)); (case side6 => exact HC0_3.out); (case side7 => exact zs (Kd.qai HR0_4.out HB.out)); (case side8 => exact HC0_4.out); (case side9 => exact zs (Kd.qai HR0_5.out HB.out)); (case side10 => exact HC0_5.out); rintro e w44 ⟨v483, rfl, ho0, hb⟩; refine ⟨_, rfl, ?_⟩; have HO484 := qab.mk (Kd.R_lower ho0 (qaw (by repeat (first | (with_reducible first | exact HB.out | apply qag | apply qaf | apply qah | refine qaj ?_ GE474.out) | exact HB.out)))); replace BK474 := qab.mk (zk BK474.out hb); replace HB := qab.mk (qae (by repeat (first | (with_reducible first | exact HB.out | apply qag | apply qaf | apply qah | refine qaj ?_ GE474.out) | exact HB.out)) hb); (try clear hb); (try clear hb2); (try clear hk); (try clear hi); (try clear ho0); obtain ⟨hfz_, hcz45_0, hcz45_1, hcz45_2, hcz45_3, hcz45_4, hcz45_5⟩ := qz6 BK474.out) | ((with_reducible refine qav (f := 36) rfl ?_); refine zl 64 Try.func36 #[.agg #[.int .i64 a0_0, .slice A0_1 l0_1.length c0_1, .slice A0_2 l0_2.length c0_2, .slice A0_3 l0_3.length c0_3, .slice A0_4 l0_4.length c0_4, .slice A0_5 l0_5.length c0_5], .slice A3 l3.length c3] ?_; (with_reducible refine (taliklaw07_clean.calls kj4 a0_0 _ _ l0_1 _ _ l0_2 _ _ l0_3 _ _ l0_4 _ _ l0_5 _ _ l3 t487 t488 _ ?side1 ?side2 ?side3 ?side4 ?side5 ?side6 ?side7 ?side8 ?side9 ?side10 ?side11 ?side12 A39.out).mono ?_); (case side1 => exact zs (Kd.qai HR0_1.out HB.out)); (case side2 => exact HC0_1.out); (case side3 => exact zs (Kd.qai HR0_2.out HB.out)); (case side4 => exact HC0_2.out); (case side5 => exact zs (Kd.qai HR0_3.out HB.out)); (case side6 => exact HC0_3.out); (case side7 => exact zs (Kd.qai HR0_4.out HB.out)); (case side8 => exact HC0_4.out); (case side9 => exact zs (Kd.qai HR0_5.out HB.out)); (case side10 => exact HC0_5.out); (case side11 => exact zs (Kd.qai HR3.out HB.out)); (case side12 => exact HC3.out); rintro e w46 ⟨rfl, hb⟩; refine ⟨_, rfl, ?_⟩; replace HO484 := qab.mk (zx HO484.out hb); replace BK474 := qab.mk (zk BK474.out hb); replace HB := qab.mk (qae (by repeat (first | (with_reducible first | exact HB.out | apply qag | apply qaf | apply qah | refine qaj ?_ GE474.out) | exact HB.out)) hb); (try clear hb); (try clear hb2); (try clear hk); (try clear hi)))
    (try simp only [Act.put, qzA, qzB, qzC])
    go_cut [84] (fun v84 wc => ∃ (kq : Nat) (x84_39 : Bool), v84 = .bool x84_39 ∧ qab (taliklaw07_SeepProved.j1 kq l3 t480 t481 t485 t486 t487 x84_39 a0_0 l0_1 l0_2 l0_3 l0_4 l0_5 = some r) ∧ qab (kq ≤ kj4) ∧ qab (wc.heap[gb474]? = some (.cells #[.int .i64 a0_0, (.slice A0_1 l0_1.length c0_1), (.slice A0_2 l0_2.length c0_2), (.slice A0_3 l0_3.length c0_3), (.slice A0_4 l0_4.length c0_4), (.slice A0_5 l0_5.length c0_5)] 27 (0, 0))) ∧ qab (Below w.heap.size w wc))
    case first =>
     have H := HC40.out
     clear HC40
     by_cases c47 : t481 = 0
     ·
      rw [if_pos c47] at H
      have c47b0 : (t481 == 0) = true := beq_iff_eq.mpr c47
      have c47b1 : (t481 != 0) = false := bne_eq_false_iff_eq.mpr c47
      clear c47
      (first | rw [c47b0] | (simp only [i64_w, i32_w]; rw [c47b0]) | skip)
      by_cases c48 : t486 = 0
      ·
       rw [if_pos c48] at H
       have c48b0 : (t486 == 0) = true := beq_iff_eq.mpr c48
       have c48b1 : (t486 != 0) = false := bne_eq_false_iff_eq.mpr c48
       clear c48
       have H' := qab.mk H
       clear H
       go_wp2
       go_meet
       case rel => exact ⟨_, (!t488), (by first | rfl | (simp; done) | (simp [*]; done)), H', ⟨by have := HJ4.out; first | omega | exact Nat.le_refl _⟩, ⟨zj BK474.out⟩, ⟨by repeat (first | (with_reducible first | exact HB.out | apply qag | apply qaf | apply qah | refine qaj ?_ GE474.out) | exact HB.out)⟩⟩
      ·
       rw [if_neg c48] at H
       have c48b0 : (t486 == 0) = false := beq_eq_false_iff_ne.mpr c48
       have c48b1 : (t486 != 0) = true := bne_iff_ne.mpr c48
       by_cases c49 : t486 = 5
       ·
        rw [if_pos c49] at H
        have c49b0 : (t486 == 5) = true := beq_iff_eq.mpr c49
        have c49b1 : (t486 != 5) = false := bne_eq_false_iff_eq.mpr c49
        clear c49
        have H' := qab.mk H
        clear H
        go_wp2
        go_meet
        case rel => exact ⟨_, (!t488), (by first | rfl | (simp; done) | (simp [*]; done)), H', ⟨by have := HJ4.out; first | omega | exact Nat.le_refl _⟩, ⟨zj BK474.out⟩, ⟨by repeat (first | (with_reducible first | exact HB.out | apply qag | apply qaf | apply qah | refine qaj ?_ GE474.out) | exact HB.out)⟩⟩
       ·
        rw [if_neg c49] at H
        have c49b0 : (t486 == 5) = false := beq_eq_false_iff_ne.mpr c49
        have c49b1 : (t486 != 5) = true := bne_iff_ne.mpr c49
        have H' := qab.mk H
        clear H
        go_wp2
        go_meet
        case rel => exact ⟨_, (true), (by first | rfl | (simp; done) | (simp [*]; done)), H', ⟨by have := HJ4.out; first | omega | exact Nat.le_refl _⟩, ⟨zj BK474.out⟩, ⟨by repeat (first | (with_reducible first | exact HB.out | apply qag | apply qaf | apply qah | refine qaj ?_ GE474.out) | exact HB.out)⟩⟩
     ·
      rw [if_neg c47] at H
      have c47b0 : (t481 == 0) = false := beq_eq_false_iff_ne.mpr c47
      have c47b1 : (t481 != 0) = true := bne_iff_ne.mpr c47
      (first | rw [c47b0] | (simp only [i64_w, i32_w]; rw [c47b0]) | skip)
      by_cases c50 : t481 = 7
      ·
       rw [if_pos c50] at H
       have c50b0 : (t481 == 7) = true := beq_iff_eq.mpr c50
       have c50b1 : (t481 != 7) = false := bne_eq_false_iff_eq.mpr c50
       clear c50
       by_cases c51 : t486 = 0
       ·
        rw [if_pos c51] at H
        have c51b0 : (t486 == 0) = true := beq_iff_eq.mpr c51
        have c51b1 : (t486 != 0) = false := bne_eq_false_iff_eq.mpr c51
        clear c51
        have H' := qab.mk H
        clear H
        go_wp2
        go_meet
        case rel => exact ⟨_, (!t488), (by first | rfl | (simp; done) | (simp [*]; done)), H', ⟨by have := HJ4.out; first | omega | exact Nat.le_refl _⟩, ⟨zj BK474.out⟩, ⟨by repeat (first | (with_reducible first | exact HB.out | apply qag | apply qaf | apply qah | refine qaj ?_ GE474.out) | exact HB.out)⟩⟩
       ·
        rw [if_neg c51] at H
        have c51b0 : (t486 == 0) = false := beq_eq_false_iff_ne.mpr c51
        have c51b1 : (t486 != 0) = true := bne_iff_ne.mpr c51
        by_cases c52 : t486 = 5
        ·
         rw [if_pos c52] at H
         have c52b0 : (t486 == 5) = true := beq_iff_eq.mpr c52
         have c52b1 : (t486 != 5) = false := bne_eq_false_iff_eq.mpr c52
         clear c52
         have H' := qab.mk H
         clear H
         go_wp2
         go_meet
         case rel => exact ⟨_, (!t488), (by first | rfl | (simp; done) | (simp [*]; done)), H', ⟨by have := HJ4.out; first | omega | exact Nat.le_refl _⟩, ⟨zj BK474.out⟩, ⟨by repeat (first | (with_reducible first | exact HB.out | apply qag | apply qaf | apply qah | refine qaj ?_ GE474.out) | exact HB.out)⟩⟩
        ·
         rw [if_neg c52] at H
         have c52b0 : (t486 == 5) = false := beq_eq_false_iff_ne.mpr c52
         have c52b1 : (t486 != 5) = true := bne_iff_ne.mpr c52
         have H' := qab.mk H
         clear H
         go_wp2
         go_meet
         case rel => exact ⟨_, (true), (by first | rfl | (simp; done) | (simp [*]; done)), H', ⟨by have := HJ4.out; first | omega | exact Nat.le_refl _⟩, ⟨zj BK474.out⟩, ⟨by repeat (first | (with_reducible first | exact HB.out | apply qag | apply qaf | apply qah | refine qaj ?_ GE474.out) | exact HB.out)⟩⟩
      ·
       rw [if_neg c50] at H
       have c50b0 : (t481 == 7) = false := beq_eq_false_iff_ne.mpr c50
       have c50b1 : (t481 != 7) = true := bne_iff_ne.mpr c50
       have H' := qab.mk H
       clear H
       go_wp2
       go_meet
       case rel => exact ⟨_, (true), (by first | rfl | (simp; done) | (simp [*]; done)), H', ⟨by have := HJ4.out; first | omega | exact Nat.le_refl _⟩, ⟨zj BK474.out⟩, ⟨by repeat (first | (with_reducible first | exact HB.out | apply qag | apply qaf | apply qah | refine qaj ?_ GE474.out) | exact HB.out)⟩⟩
    case rest =>
     clear HC40
     try clear c1
     try clear c2
     try clear p2
     try clear c3
     try clear c4
     try clear c5
     try clear c8
     try clear c10
     try clear c11
     try clear c11b0
     try clear c11b1
     try clear c14
     try clear c14b0
     try clear c14b1
     try clear c16
     try clear c17
     try clear c18
     try clear c18b0
     try clear c18b1
     try clear c33
     try clear c34
     try clear c36
     try clear c39
     try clear c47
     try clear c47b0
     try clear c47b1
     try clear c48
     try clear c48b0
     try clear c48b1
     try clear c49
     try clear c49b0
     try clear c49b1
     try clear c50
     try clear c50b0
     try clear c50b1
     try clear c51
     try clear c51b0
     try clear c51b1
     try clear c52
     try clear c52b0
     try clear c52b1
     try clear hcz12_0
     try clear hcz12_1
     try clear hcz12_2
     try clear hcz12_3
     try clear hcz12_4
     try clear hcz12_5
     try clear hcz15_0
     try clear hcz15_1
     try clear hcz15_2
     try clear hcz15_3
     try clear hcz15_4
     try clear hcz15_5
     try clear hcz20_0
     try clear hcz20_1
     try clear hcz20_2
     try clear hcz20_3
     try clear hcz20_4
     try clear hcz20_5
     try clear hcz22_0
     try clear hcz22_1
     try clear hcz22_2
     try clear hcz22_3
     try clear hcz22_4
     try clear hcz22_5
     try clear hcz24_0
     try clear hcz24_1
     try clear hcz24_2
     try clear hcz24_3
     try clear hcz24_4
     try clear hcz24_5
     try clear hcz26_0
     try clear hcz26_1
     try clear hcz26_2
     try clear hcz26_3
     try clear hcz26_4
     try clear hcz26_5
     try clear hcz28_0
     try clear hcz28_1
     try clear hcz28_2
     try clear hcz28_3
     try clear hcz28_4
     try clear hcz28_5
     try clear hcz30_0
     try clear hcz30_1
     try clear hcz30_2
     try clear hcz30_3
     try clear hcz30_4
     try clear hcz30_5
     try clear hcz32_0
     try clear hcz32_1
     try clear hcz32_2
     try clear hcz32_3
     try clear hcz32_4
     try clear hcz32_5
     try clear hcz41_0
     try clear hcz41_1
     try clear hcz41_2
     try clear hcz41_3
     try clear hcz41_4
     try clear hcz41_5
     try clear hcz43_0
     try clear hcz43_1
     try clear hcz43_2
     try clear hcz43_3
     try clear hcz43_4
     try clear hcz43_5
     try clear hcz45_0
     try clear hcz45_1
     try clear hcz45_2
     try clear hcz45_3
     try clear hcz45_4
     try clear hcz45_5
     try clear hfz12_0
     try clear hfz12_1
     try clear hfz12_2
     try clear hfz12_3
     try clear hfz12_4
     try clear hfz12_5
     try clear hfz15_0
     try clear hfz15_1
     try clear hfz15_2
     try clear hfz15_3
     try clear hfz15_4
     try clear hfz15_5
     try clear hfz20_0
     try clear hfz20_1
     try clear hfz20_2
     try clear hfz20_3
     try clear hfz20_4
     try clear hfz20_5
     try clear hfz22_0
     try clear hfz22_1
     try clear hfz22_2
     try clear hfz22_3
     try clear hfz22_4
     try clear hfz22_5
     try clear hfz24_0
     try clear hfz24_1
     try clear hfz24_2
     try clear hfz24_3
     try clear hfz24_4
     try clear hfz24_5
     try clear hfz26_0
     try clear hfz26_1
     try clear hfz26_2
     try clear hfz26_3
     try clear hfz26_4
     try clear hfz26_5
     try clear hfz28_0
     try clear hfz28_1
     try clear hfz28_2
     try clear hfz28_3
     try clear hfz28_4
     try clear hfz28_5
     try clear hfz30_0
     try clear hfz30_1
     try clear hfz30_2
     try clear hfz30_3
     try clear hfz30_4
     try clear hfz30_5
     try clear hfz32_0
     try clear hfz32_1
     try clear hfz32_2
     try clear hfz32_3
     try clear hfz32_4
     try clear hfz32_5
     try clear hfz41_0
     try clear hfz41_1
     try clear hfz41_2
     try clear hfz41_3
     try clear hfz41_4
     try clear hfz41_5
     try clear hfz43_0
     try clear hfz43_1
     try clear hfz43_2
     try clear hfz43_3
     try clear hfz43_4
     try clear hfz43_5
     try clear hfz45_0
     try clear hfz45_1
     try clear hfz45_2
     try clear hfz45_3
     try clear hfz45_4
     try clear hfz45_5
     try clear p2
     obtain ⟨kq, x84_39, rfl, HA, HJ39, BK474, HB⟩ := hcut
     cases kq with
     | zero => exact absurd HA.out (by simp [taliklaw07_SeepProved.j1])
     | succ kj39 =>
      have H := HA.out
      clear HA
      simp only [taliklaw07_SeepProved.j1] at H
      by_cases c53 : x84_39 = true
      ·
       subst c53
       rw [if_pos rfl] at H
       obtain rfl := Option.some.inj H
       go_wp2
       go_ret
       exact ⟨by first | rfl | (simp [qat, qau] <;> rfl) | (simp [*, qat, qau] <;> rfl), by repeat (first | (with_reducible first | exact HB.out | apply qag | apply qaf | apply qah | refine qaj ?_ GE474.out) | exact HB.out)⟩
      ·
       replace c53 := Bool.eq_false_iff.mpr c53
       subst c53
       rw [if_neg (show ¬ (false = true) by decide)] at H
       by_cases c54 : t481 = 0
       ·
        rw [if_pos c54] at H
        have c54b0 : (t481 == 0) = true := beq_iff_eq.mpr c54
        have c54b1 : (t481 != 0) = false := bne_eq_false_iff_eq.mpr c54
        clear c54
        by_cases c55 : t486 = 0
        ·
         rw [if_pos c55] at H
         have c55b0 : (t486 == 0) = true := beq_iff_eq.mpr c55
         have c55b1 : (t486 != 0) = false := bne_eq_false_iff_eq.mpr c55
         clear c55
         by_cases c56 : t485 ≥ t480
         ·
          rw [if_pos c56] at H
          have c56b0 : decide (t480 ≤ t485) = true := decide_eq_true c56
          clear c56
          by_cases c57 : t487 = true
          ·
           subst c57
           rw [if_pos rfl] at H
           replace H := Option.bind_eq_some_iff.mp H
           obtain ⟨t489, A580, H⟩ := H
           try dsimp only at H
           have A58 := qab.mk A580
           clear A580
           by_cases c59 : t489 ≥ t480
           ·
            rw [if_pos c59] at H
            have c59b0 : decide (t480 ≤ t489) = true := decide_eq_true c59
            clear c59
            replace H := Option.bind_eq_some_iff.mp H
            obtain ⟨t490, A600, H⟩ := H
            try dsimp only at H
            have A60 := qab.mk A600
            clear A600
            obtain rfl := Option.some.inj H
            obtain ⟨hfz_, hcz61_0, hcz61_1, hcz61_2, hcz61_3, hcz61_4, hcz61_5⟩ := qz6 BK474.out
            go_wp2_with (first | (go_at_call 35; (with_reducible refine (talikref07_Cost.calls kj39 a0_0 _ _ l0_1 _ _ l0_2 _ _ l0_3 _ _ l0_4 _ _ l0_5 _ _ l3 t489 _ ?side1 ?side2 ?side3 ?side4 ?side5 ?side6 ?side7 ?side8 ?side9 ?side10 ?side11 ?side12 A58.out).mono ?_); (case side1 => exact zs (Kd.qai HR0_1.out HB.out)); (case side2 => exact HC0_1.out); (case side3 => exact zs (Kd.qai HR0_2.out HB.out)); (case side4 => exact HC0_2.out); (case side5 => exact zs (Kd.qai HR0_3.out HB.out)); (case side6 => exact HC0_3.out); (case side7 => exact zs (Kd.qai HR0_4.out HB.out)); (case side8 => exact HC0_4.out); (case side9 => exact zs (Kd.qai HR0_5.out HB.out)); (case side10 => exact HC0_5.out); (case side11 => exact zs (Kd.qai HR3.out HB.out)); (case side12 => exact HC3.out); rintro e w62 ⟨rfl, hb⟩; replace BK474 := qab.mk (zk BK474.out hb); replace HB := qab.mk (qae (by repeat (first | (with_reducible first | exact HB.out | apply qag | apply qaf | apply qah | refine qaj ?_ GE474.out) | exact HB.out)) hb); (try clear hb); (try clear hb2); (try clear hk); (try clear hi)) | (go_at_call 17; (with_reducible refine (taliklaw07_known.calls  t490 _ A60.out).mono ?_); rintro e w63 ⟨rfl, hb⟩; replace BK474 := qab.mk (zk BK474.out hb); replace HB := qab.mk (qae (by repeat (first | (with_reducible first | exact HB.out | apply qag | apply qaf | apply qah | refine qaj ?_ GE474.out) | exact HB.out)) hb); (try clear hb); (try clear hb2); (try clear hk); (try clear hi)))
            go_ret
            exact ⟨by first | rfl | (simp [qat, qau] <;> rfl) | (simp [*, qat, qau] <;> rfl), by repeat (first | (with_reducible first | exact HB.out | apply qag | apply qaf | apply qah | refine qaj ?_ GE474.out) | exact HB.out)⟩
           ·
            rw [if_neg c59] at H
            have c59b0 : decide (t480 ≤ t489) = false := decide_eq_false c59
            clear c59
            obtain rfl := Option.some.inj H
            obtain ⟨hfz_, hcz64_0, hcz64_1, hcz64_2, hcz64_3, hcz64_4, hcz64_5⟩ := qz6 BK474.out
            go_wp2_with (first | (go_at_call 35; (with_reducible refine (talikref07_Cost.calls kj39 a0_0 _ _ l0_1 _ _ l0_2 _ _ l0_3 _ _ l0_4 _ _ l0_5 _ _ l3 t489 _ ?side1 ?side2 ?side3 ?side4 ?side5 ?side6 ?side7 ?side8 ?side9 ?side10 ?side11 ?side12 A58.out).mono ?_); (case side1 => exact zs (Kd.qai HR0_1.out HB.out)); (case side2 => exact HC0_1.out); (case side3 => exact zs (Kd.qai HR0_2.out HB.out)); (case side4 => exact HC0_2.out); (case side5 => exact zs (Kd.qai HR0_3.out HB.out)); (case side6 => exact HC0_3.out); (case side7 => exact zs (Kd.qai HR0_4.out HB.out)); (case side8 => exact HC0_4.out); (case side9 => exact zs (Kd.qai HR0_5.out HB.out)); (case side10 => exact HC0_5.out); (case side11 => exact zs (Kd.qai HR3.out HB.out)); (case side12 => exact HC3.out); rintro e w65 ⟨rfl, hb⟩; replace BK474 := qab.mk (zk BK474.out hb); replace HB := qab.mk (qae (by repeat (first | (with_reducible first | exact HB.out | apply qag | apply qaf | apply qah | refine qaj ?_ GE474.out) | exact HB.out)) hb); (try clear hb); (try clear hb2); (try clear hk); (try clear hi)))
            go_ret
            exact ⟨by first | rfl | (simp [qat, qau] <;> rfl) | (simp [*, qat, qau] <;> rfl), by repeat (first | (with_reducible first | exact HB.out | apply qag | apply qaf | apply qah | refine qaj ?_ GE474.out) | exact HB.out)⟩
          ·
           replace c57 := Bool.eq_false_iff.mpr c57
           subst c57
           rw [if_neg (show ¬ (false = true) by decide)] at H
           replace H := Option.bind_eq_some_iff.mp H
           obtain ⟨t491, A660, H⟩ := H
           try dsimp only at H
           have A66 := qab.mk A660
           clear A660
           obtain rfl := Option.some.inj H
           go_wp2_with (first | (go_at_call 17; (with_reducible refine (taliklaw07_known.calls  t491 _ A66.out).mono ?_); rintro e w67 ⟨rfl, hb⟩; replace BK474 := qab.mk (zk BK474.out hb); replace HB := qab.mk (qae (by repeat (first | (with_reducible first | exact HB.out | apply qag | apply qaf | apply qah | refine qaj ?_ GE474.out) | exact HB.out)) hb); (try clear hb); (try clear hb2); (try clear hk); (try clear hi)))
           go_ret
           exact ⟨by first | rfl | (simp [qat, qau] <;> rfl) | (simp [*, qat, qau] <;> rfl), by repeat (first | (with_reducible first | exact HB.out | apply qag | apply qaf | apply qah | refine qaj ?_ GE474.out) | exact HB.out)⟩
         ·
          rw [if_neg c56] at H
          have c56b0 : decide (t480 ≤ t485) = false := decide_eq_false c56
          clear c56
          obtain rfl := Option.some.inj H
          go_wp2
          go_ret
          exact ⟨by first | rfl | (simp [qat, qau] <;> rfl) | (simp [*, qat, qau] <;> rfl), by repeat (first | (with_reducible first | exact HB.out | apply qag | apply qaf | apply qah | refine qaj ?_ GE474.out) | exact HB.out)⟩
        ·
         rw [if_neg c55] at H
         have c55b0 : (t486 == 0) = false := beq_eq_false_iff_ne.mpr c55
         have c55b1 : (t486 != 0) = true := bne_iff_ne.mpr c55
         by_cases c68 : t487 = true
         ·
          subst c68
          rw [if_pos rfl] at H
          replace H := Option.bind_eq_some_iff.mp H
          obtain ⟨t492, A690, H⟩ := H
          try dsimp only at H
          have A69 := qab.mk A690
          clear A690
          by_cases c70 : t492 ≥ t480
          ·
           rw [if_pos c70] at H
           have c70b0 : decide (t480 ≤ t492) = true := decide_eq_true c70
           clear c70
           replace H := Option.bind_eq_some_iff.mp H
           obtain ⟨t493, A710, H⟩ := H
           try dsimp only at H
           have A71 := qab.mk A710
           clear A710
           obtain rfl := Option.some.inj H
           obtain ⟨hfz_, hcz72_0, hcz72_1, hcz72_2, hcz72_3, hcz72_4, hcz72_5⟩ := qz6 BK474.out
           go_wp2_with (first | (go_at_call 35; (with_reducible refine (talikref07_Cost.calls kj39 a0_0 _ _ l0_1 _ _ l0_2 _ _ l0_3 _ _ l0_4 _ _ l0_5 _ _ l3 t492 _ ?side1 ?side2 ?side3 ?side4 ?side5 ?side6 ?side7 ?side8 ?side9 ?side10 ?side11 ?side12 A69.out).mono ?_); (case side1 => exact zs (Kd.qai HR0_1.out HB.out)); (case side2 => exact HC0_1.out); (case side3 => exact zs (Kd.qai HR0_2.out HB.out)); (case side4 => exact HC0_2.out); (case side5 => exact zs (Kd.qai HR0_3.out HB.out)); (case side6 => exact HC0_3.out); (case side7 => exact zs (Kd.qai HR0_4.out HB.out)); (case side8 => exact HC0_4.out); (case side9 => exact zs (Kd.qai HR0_5.out HB.out)); (case side10 => exact HC0_5.out); (case side11 => exact zs (Kd.qai HR3.out HB.out)); (case side12 => exact HC3.out); rintro e w73 ⟨rfl, hb⟩; replace BK474 := qab.mk (zk BK474.out hb); replace HB := qab.mk (qae (by repeat (first | (with_reducible first | exact HB.out | apply qag | apply qaf | apply qah | refine qaj ?_ GE474.out) | exact HB.out)) hb); (try clear hb); (try clear hb2); (try clear hk); (try clear hi)) | (go_at_call 17; (with_reducible refine (taliklaw07_known.calls  t493 _ A71.out).mono ?_); rintro e w74 ⟨rfl, hb⟩; replace BK474 := qab.mk (zk BK474.out hb); replace HB := qab.mk (qae (by repeat (first | (with_reducible first | exact HB.out | apply qag | apply qaf | apply qah | refine qaj ?_ GE474.out) | exact HB.out)) hb); (try clear hb); (try clear hb2); (try clear hk); (try clear hi)))
           go_ret
           exact ⟨by first | rfl | (simp [qat, qau] <;> rfl) | (simp [*, qat, qau] <;> rfl), by repeat (first | (with_reducible first | exact HB.out | apply qag | apply qaf | apply qah | refine qaj ?_ GE474.out) | exact HB.out)⟩
          ·
           rw [if_neg c70] at H
           have c70b0 : decide (t480 ≤ t492) = false := decide_eq_false c70
           clear c70
           obtain rfl := Option.some.inj H
           obtain ⟨hfz_, hcz75_0, hcz75_1, hcz75_2, hcz75_3, hcz75_4, hcz75_5⟩ := qz6 BK474.out
           go_wp2_with (first | (go_at_call 35; (with_reducible refine (talikref07_Cost.calls kj39 a0_0 _ _ l0_1 _ _ l0_2 _ _ l0_3 _ _ l0_4 _ _ l0_5 _ _ l3 t492 _ ?side1 ?side2 ?side3 ?side4 ?side5 ?side6 ?side7 ?side8 ?side9 ?side10 ?side11 ?side12 A69.out).mono ?_); (case side1 => exact zs (Kd.qai HR0_1.out HB.out)); (case side2 => exact HC0_1.out); (case side3 => exact zs (Kd.qai HR0_2.out HB.out)); (case side4 => exact HC0_2.out); (case side5 => exact zs (Kd.qai HR0_3.out HB.out)); (case side6 => exact HC0_3.out); (case side7 => exact zs (Kd.qai HR0_4.out HB.out)); (case side8 => exact HC0_4.out); (case side9 => exact zs (Kd.qai HR0_5.out HB.out)); (case side10 => exact HC0_5.out); (case side11 => exact zs (Kd.qai HR3.out HB.out)); (case side12 => exact HC3.out); rintro e w76 ⟨rfl, hb⟩; replace BK474 := qab.mk (zk BK474.out hb); replace HB := qab.mk (qae (by repeat (first | (with_reducible first | exact HB.out | apply qag | apply qaf | apply qah | refine qaj ?_ GE474.out) | exact HB.out)) hb); (try clear hb); (try clear hb2); (try clear hk); (try clear hi)))
           go_ret
           exact ⟨by first | rfl | (simp [qat, qau] <;> rfl) | (simp [*, qat, qau] <;> rfl), by repeat (first | (with_reducible first | exact HB.out | apply qag | apply qaf | apply qah | refine qaj ?_ GE474.out) | exact HB.out)⟩
         ·
          replace c68 := Bool.eq_false_iff.mpr c68
          subst c68
          rw [if_neg (show ¬ (false = true) by decide)] at H
          replace H := Option.bind_eq_some_iff.mp H
          obtain ⟨t494, A770, H⟩ := H
          try dsimp only at H
          have A77 := qab.mk A770
          clear A770
          obtain rfl := Option.some.inj H
          go_wp2_with (first | (go_at_call 17; (with_reducible refine (taliklaw07_known.calls  t494 _ A77.out).mono ?_); rintro e w78 ⟨rfl, hb⟩; replace BK474 := qab.mk (zk BK474.out hb); replace HB := qab.mk (qae (by repeat (first | (with_reducible first | exact HB.out | apply qag | apply qaf | apply qah | refine qaj ?_ GE474.out) | exact HB.out)) hb); (try clear hb); (try clear hb2); (try clear hk); (try clear hi)))
          go_ret
          exact ⟨by first | rfl | (simp [qat, qau] <;> rfl) | (simp [*, qat, qau] <;> rfl), by repeat (first | (with_reducible first | exact HB.out | apply qag | apply qaf | apply qah | refine qaj ?_ GE474.out) | exact HB.out)⟩
       ·
        rw [if_neg c54] at H
        have c54b0 : (t481 == 0) = false := beq_eq_false_iff_ne.mpr c54
        have c54b1 : (t481 != 0) = true := bne_iff_ne.mpr c54
        replace H := Option.bind_eq_some_iff.mp H
        obtain ⟨t495, A790, H⟩ := H
        try dsimp only at H
        have A79 := qab.mk A790
        clear A790
        obtain rfl := Option.some.inj H
        go_wp2_with (first | (go_at_call 17; (with_reducible refine (taliklaw07_known.calls  t495 _ A79.out).mono ?_); rintro e w80 ⟨rfl, hb⟩; replace BK474 := qab.mk (zk BK474.out hb); replace HB := qab.mk (qae (by repeat (first | (with_reducible first | exact HB.out | apply qag | apply qaf | apply qah | refine qaj ?_ GE474.out) | exact HB.out)) hb); (try clear hb); (try clear hb2); (try clear hk); (try clear hi)))
        go_ret
        exact ⟨by first | rfl | (simp [qat, qau] <;> rfl) | (simp [*, qat, qau] <;> rfl), by repeat (first | (with_reducible first | exact HB.out | apply qag | apply qaf | apply qah | refine qaj ?_ GE474.out) | exact HB.out)⟩
end Go.Proofs.Ytafkanmioinbiaa.SA
