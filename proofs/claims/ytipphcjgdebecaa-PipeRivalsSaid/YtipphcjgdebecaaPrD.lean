/- Parts of a proof about the pipe seat's laws: what the functions of the program answer. No condition of its own. -/
import Derived.Test.YtipphcjgdebecaaSC
set_option linter.all false
namespace Go.Proofs.Ytipphcjgdebecaa.PA
open Go.RowKit Go.Proofs.YtipphcjgdebecaaW.PrintWords Go.Proofs.YtipphcjgdebecaaW.PrintLast Go.Proofs.YtipphcjgdebecaaW.PrintMore
attribute [local go_sem] max2_int min2_int max_two min_two max_three min_three max_four min_four
def talikref04_Slack.l0 : Nat → List Int → List Int → Int → Int → Int → Int → List (S39) → List (S37) → List (List Int) → Option (Int)
 | 0, _, _, _, _, _, _, _, _, _ => none
 | k + 1, x1, x3, x9, x10, x11, x12, x222000, x222001, x222002 => if x12 < (x3.length : Int) then (if 0 ≤ x10 then (if x10 < (x222002.length : Int) then (if 0 ≤ x12 then (if 0 ≤ (wrap64 ((rd x3 x12) + 1)) then (if (wrap64 ((rd x3 x12) + 1)) < ((rd_L1 x222002 x10).length : Int) then (if 0 ≤ (rd x3 x12) then (if (rd x3 x12) < (x222000.length : Int) then (if (rd x3 x12) < (x1.length : Int) then (if x12 = 0 then (talikref04_Slack.l0 k x1 x3 (wrap64 ((rd x1 (rd x3 x12)) - (wrap64 ((wrap64 (x11 + (rd (rd_L1 x222002 x10) (wrap64 ((rd x3 x12) + 1))))) + ((qah x222000 (rd x3 x12)).f7.f1))))) (wrap64 ((rd x3 x12) + 1)) (wrap64 ((wrap64 (x11 + (rd (rd_L1 x222002 x10) (wrap64 ((rd x3 x12) + 1))))) + ((qah x222000 (rd x3 x12)).f7.f1))) (wrap64 (x12 + 1)) x222000 x222001 x222002) else (if (wrap64 ((rd x1 (rd x3 x12)) - (wrap64 ((wrap64 (x11 + (rd (rd_L1 x222002 x10) (wrap64 ((rd x3 x12) + 1))))) + ((qah x222000 (rd x3 x12)).f7.f1))))) < x9 then (talikref04_Slack.l0 k x1 x3 (wrap64 ((rd x1 (rd x3 x12)) - (wrap64 ((wrap64 (x11 + (rd (rd_L1 x222002 x10) (wrap64 ((rd x3 x12) + 1))))) + ((qah x222000 (rd x3 x12)).f7.f1))))) (wrap64 ((rd x3 x12) + 1)) (wrap64 ((wrap64 (x11 + (rd (rd_L1 x222002 x10) (wrap64 ((rd x3 x12) + 1))))) + ((qah x222000 (rd x3 x12)).f7.f1))) (wrap64 (x12 + 1)) x222000 x222001 x222002) else (talikref04_Slack.l0 k x1 x3 x9 (wrap64 ((rd x3 x12) + 1)) (wrap64 ((wrap64 (x11 + (rd (rd_L1 x222002 x10) (wrap64 ((rd x3 x12) + 1))))) + ((qah x222000 (rd x3 x12)).f7.f1))) (wrap64 (x12 + 1)) x222000 x222001 x222002))) else (none)) else (none)) else (none)) else (none)) else (none)) else (none)) else (none)) else (none)) else (some x9)
def talikref04_Slack.f (k : Nat) (l0_0 : List (S39)) (l0_1 : List (S37)) (l0_2 : List (List Int)) (l1 : List Int) (a2 : Int) (l3 : List Int) : Option (Int) := talikref04_Slack.l0 k l1 l3 (l0_1.length : Int) a2 0 0 l0_0 l0_1 l0_2
set_option maxHeartbeats 8000000 in
set_option maxRecDepth 100000 in
theorem talikref04_Slack.calls (k : Nat) (A0_0 : Option Addr) (c0_0 : Nat) (l0_0 : List (S39)) (A0_1 : Option Addr) (c0_1 : Nat) (l0_1 : List (S37)) (A0_2 : Option Addr) (c0_2 : Nat) (l0_2 : List (List Int)) (A1 : Option Addr) (c1 : Nat) (l1 : List Int) (a2 : Int) (A3 : Option Addr) (c3 : Nat) (l3 : List Int) (r : Int) (w : World) (hr0_0 : Kd.C k39 w A0_0 l0_0.length l0_0) (hc0_0 : l0_0.length ≤ c0_0) (hr0_1 : Kd.C k37 w A0_1 l0_1.length l0_1) (hc0_1 : l0_1.length ≤ c0_1) (hr0_2 : Kd.C (Kd.slice 3 (Kd.int .i64)) w A0_2 l0_2.length l0_2) (hc0_2 : l0_2.length ≤ c0_2) (hr1 : Kd.C (Kd.int .i64) w A1 l1.length l1) (hc1 : l1.length ≤ c1) (hr3 : Kd.C (Kd.int .i64) w A3 l3.length l3) (hc3 : l3.length ≤ c3) (h : talikref04_Slack.f k l0_0 l0_1 l0_2 l1 a2 l3 = some r) :
  Calls Try.prog 31 #[.agg #[.slice A0_0 l0_0.length c0_0, .slice A0_1 l0_1.length c0_1, .slice A0_2 l0_2.length c0_2], .slice A1 l1.length c1, .int .i64 a2, .slice A3 l3.length c3] w fun e w' => e = .returned (.int .i64 r) ∧ Below w.heap.size w w' := by
 have hu26 := Try.underlying26
 have HR0_0 := qac.mk hr0_0
 have HC0_0 := qac.mk hc0_0
 clear hr0_0 hc0_0
 have HR0_1 := qac.mk hr0_1
 have HC0_1 := qac.mk hc0_1
 clear hr0_1 hc0_1
 have HR0_2 := qac.mk hr0_2
 have HC0_2 := qac.mk hc0_2
 clear hr0_2 hc0_2
 have HR1 := qac.mk hr1
 have HC1 := qac.mk hc1
 clear hr1 hc1
 have HR3 := qac.mk hr3
 have HC3 := qac.mk hc3
 clear hr3 hc3
 have HB := qac.mk (Below.refl w.heap.size w)
 have H : (talikref04_Slack.l0 k l1 l3 (l0_1.length : Int) a2 0 0 l0_0 l0_1 l0_2) = some r := h
 clear h
 have H' := qac.mk H
 clear H
 go_enter Try.func31, Try.ntmps31
 go_wp2_with (first | ((with_reducible refine qax (N := 4) rfl ?_); refine qaw ?hg (N := 4) ?hd (cs := #[.slice A0_0 l0_0.length c0_0, .slice A0_1 l0_1.length c0_1, .slice A0_2 l0_2.length c0_2]) (t := 26) ?hr ?_; (case hd => rfl); (case hg => rfl); (case hr => first | (go_simp; done) | (go_simp; rfl)); intro gb221 hg w5 hbox hb; have n0_ := qac.mk (qai (by repeat (first | (with_reducible first | exact HB.out | apply qae | apply qad | apply qaf) | exact HB.out)) hb); have n1_ := qac.mk (hbox); have n2_ := qac.mk ((by rw [hg]; exact (qar (by repeat (first | (with_reducible first | exact HB.out | apply qae | apply qad | apply qaf) | exact HB.out))) : w.heap.size ≤ gb221)); have n3_ := qac.mk ((by rw [hg]; exact (qar (by repeat (first | (with_reducible first | exact HB.out | apply qae | apply qad | apply qaf) | exact HB.out))) : w.heap.size ≤ gb221)); clear HB; have HB := n0_; have BK221 := n1_; have GW221 := n2_; have GE221 := n3_; clear n0_ n1_ n2_ n3_; clear hb hbox hg; have hcz6_0 : w5.cell? ⟨gb221, 0, none⟩ = some (.slice A0_0 l0_0.length c0_0) := (qaa BK221.out 0).trans rfl; have hcz6_1 : w5.cell? ⟨gb221, 1, none⟩ = some (.slice A0_1 l0_1.length c0_1) := (qaa BK221.out 1).trans rfl; have hcz6_2 : w5.cell? ⟨gb221, 2, none⟩ = some (.slice A0_2 l0_2.length c0_2) := (qaa BK221.out 2).trans rfl; have hfz6_0 := qab BK221.out 0; have hfz6_1 := qab BK221.out 1; have hfz6_2 := qab BK221.out 2))
 repeat (go_quiet (first | ((with_reducible refine qax (N := 4) rfl ?_); refine qaw ?hg (N := 4) ?hd (cs := #[.slice A0_0 l0_0.length c0_0, .slice A0_1 l0_1.length c0_1, .slice A0_2 l0_2.length c0_2]) (t := 26) ?hr ?_; (case hd => rfl); (case hg => rfl); (case hr => first | (go_simp; done) | (go_simp; rfl)); intro gb221 hg w5 hbox hb; have n0_ := qac.mk (qai (by repeat (first | (with_reducible first | exact HB.out | apply qae | apply qad | apply qaf) | exact HB.out)) hb); have n1_ := qac.mk (hbox); have n2_ := qac.mk ((by rw [hg]; exact (qar (by repeat (first | (with_reducible first | exact HB.out | apply qae | apply qad | apply qaf) | exact HB.out))) : w.heap.size ≤ gb221)); have n3_ := qac.mk ((by rw [hg]; exact (qar (by repeat (first | (with_reducible first | exact HB.out | apply qae | apply qad | apply qaf) | exact HB.out))) : w.heap.size ≤ gb221)); clear HB; have HB := n0_; have BK221 := n1_; have GW221 := n2_; have GE221 := n3_; clear n0_ n1_ n2_ n3_; clear hb hbox hg; have hcz6_0 : w5.cell? ⟨gb221, 0, none⟩ = some (.slice A0_0 l0_0.length c0_0) := (qaa BK221.out 0).trans rfl; have hcz6_1 : w5.cell? ⟨gb221, 1, none⟩ = some (.slice A0_1 l0_1.length c0_1) := (qaa BK221.out 1).trans rfl; have hcz6_2 : w5.cell? ⟨gb221, 2, none⟩ = some (.slice A0_2 l0_2.length c0_2) := (qaa BK221.out 2).trans rfl; have hfz6_0 := qab BK221.out 0; have hfz6_1 := qab BK221.out 1; have hfz6_2 := qab BK221.out 2)); try go_wp2_with (first | ((with_reducible refine qax (N := 4) rfl ?_); refine qaw ?hg (N := 4) ?hd (cs := #[.slice A0_0 l0_0.length c0_0, .slice A0_1 l0_1.length c0_1, .slice A0_2 l0_2.length c0_2]) (t := 26) ?hr ?_; (case hd => rfl); (case hg => rfl); (case hr => first | (go_simp; done) | (go_simp; rfl)); intro gb221 hg w5 hbox hb; have n0_ := qac.mk (qai (by repeat (first | (with_reducible first | exact HB.out | apply qae | apply qad | apply qaf) | exact HB.out)) hb); have n1_ := qac.mk (hbox); have n2_ := qac.mk ((by rw [hg]; exact (qar (by repeat (first | (with_reducible first | exact HB.out | apply qae | apply qad | apply qaf) | exact HB.out))) : w.heap.size ≤ gb221)); have n3_ := qac.mk ((by rw [hg]; exact (qar (by repeat (first | (with_reducible first | exact HB.out | apply qae | apply qad | apply qaf) | exact HB.out))) : w.heap.size ≤ gb221)); clear HB; have HB := n0_; have BK221 := n1_; have GW221 := n2_; have GE221 := n3_; clear n0_ n1_ n2_ n3_; clear hb hbox hg; have hcz6_0 : w5.cell? ⟨gb221, 0, none⟩ = some (.slice A0_0 l0_0.length c0_0) := (qaa BK221.out 0).trans rfl; have hcz6_1 : w5.cell? ⟨gb221, 1, none⟩ = some (.slice A0_1 l0_1.length c0_1) := (qaa BK221.out 1).trans rfl; have hcz6_2 : w5.cell? ⟨gb221, 2, none⟩ = some (.slice A0_2 l0_2.length c0_2) := (qaa BK221.out 2).trans rfl; have hfz6_0 := qab BK221.out 0; have hfz6_1 := qab BK221.out 1; have hfz6_2 := qab BK221.out 2)))
 go_loopg [9, 10, 11, 12] k (fun kq v9 v10 v11 v12 w' => ∃ (x9_1 : Int) (x10_1 : Int) (x11_1 : Int) (x12_1 : Int), v9 = .int .i64 x9_1 ∧ v10 = .int .i64 x10_1 ∧ v11 = .int .i64 x11_1 ∧ v12 = .int .i64 x12_1 ∧ qac (talikref04_Slack.l0 kq l1 l3 x9_1 x10_1 x11_1 x12_1 l0_0 l0_1 l0_2 = some r) ∧ qac (kq ≤ k) ∧ qac (w'.heap[gb221]? = some (.cells #[(.slice A0_0 l0_0.length c0_0), (.slice A0_1 l0_1.length c0_1), (.slice A0_2 l0_2.length c0_2)] 26 (0, 0))) ∧ qac (Below w.heap.size w w'))
 case atStart => exact ⟨((l0_1.length : Int)), (a2), (0), (0), (by first | rfl | (simp; done) | (simp [*]; done)), (by first | rfl | (simp; done) | (simp [*]; done)), (by first | rfl | (simp; done) | (simp [*]; done)), (by first | rfl | (simp; done) | (simp [*]; done)), H', ⟨Nat.le_refl _⟩, ⟨by (with_reducible repeat (first | refine qak ?_ _ | refine qap ?_ | refine qaj ?_ _)); exact BK221.out⟩, ⟨by repeat (first | (with_reducible first | exact HB.out | apply qae | apply qad | apply qaf | refine qag ?_ GE221.out) | exact HB.out)⟩⟩
 case round =>
  clear H'
  try clear c1
  try clear p2
  try clear c3
  try clear hcz6_0
  try clear hcz6_1
  try clear hcz6_2
  try clear hfz6_0
  try clear hfz6_1
  try clear hfz6_2
  obtain ⟨x9_1, x10_1, x11_1, x12_1, rfl, rfl, rfl, rfl, HA, HK1, BK221, HB⟩ := hrel
  cases gk with
  | zero => exact absurd HA.out (by simp [talikref04_Slack.l0])
  | succ k1 =>
   have H := HA.out
   clear HA
   simp only [talikref04_Slack.l0] at H
   by_cases c7 : x12_1 < (l3.length : Int)
   ·
    rw [if_pos c7] at H
    have c7b0 : decide (x12_1 < (l3.length : Int)) = true := decide_eq_true c7
    clear c7
    by_cases c8 : 0 ≤ x10_1
    ·
     rw [if_pos c8] at H
     have c8b0 : decide (0 ≤ x10_1) = true := decide_eq_true c8
     clear c8
     by_cases c9 : x10_1 < (l0_2.length : Int)
     ·
      rw [if_pos c9] at H
      have c9b0 : decide (x10_1 < (l0_2.length : Int)) = true := decide_eq_true c9
      clear c9
      by_cases c10 : 0 ≤ x12_1
      ·
       rw [if_pos c10] at H
       have c10b0 : decide (0 ≤ x12_1) = true := decide_eq_true c10
       clear c10
       obtain ⟨ji11, hji11⟩ : ∃ j_ : Int, (wrap64 ((rd l3 x12_1) + 1)) = j_ := ⟨_, rfl⟩
       replace H : (if 0 ≤ (ji11) then (if (ji11) < ((rd_L1 l0_2 x10_1).length : Int) then (if 0 ≤ (rd l3 x12_1) then (if (rd l3 x12_1) < (l0_0.length : Int) then (if (rd l3 x12_1) < (l1.length : Int) then (if x12_1 = 0 then (talikref04_Slack.l0 k1 l1 l3 (wrap64 ((rd l1 (rd l3 x12_1)) - (wrap64 ((wrap64 (x11_1 + (rd (rd_L1 l0_2 x10_1) (ji11)))) + ((qah l0_0 (rd l3 x12_1)).f7.f1))))) ji11 (wrap64 ((wrap64 (x11_1 + (rd (rd_L1 l0_2 x10_1) (ji11)))) + ((qah l0_0 (rd l3 x12_1)).f7.f1))) (wrap64 (x12_1 + 1)) l0_0 l0_1 l0_2) else (if (wrap64 ((rd l1 (rd l3 x12_1)) - (wrap64 ((wrap64 (x11_1 + (rd (rd_L1 l0_2 x10_1) (ji11)))) + ((qah l0_0 (rd l3 x12_1)).f7.f1))))) < x9_1 then (talikref04_Slack.l0 k1 l1 l3 (wrap64 ((rd l1 (rd l3 x12_1)) - (wrap64 ((wrap64 (x11_1 + (rd (rd_L1 l0_2 x10_1) (ji11)))) + ((qah l0_0 (rd l3 x12_1)).f7.f1))))) ji11 (wrap64 ((wrap64 (x11_1 + (rd (rd_L1 l0_2 x10_1) (ji11)))) + ((qah l0_0 (rd l3 x12_1)).f7.f1))) (wrap64 (x12_1 + 1)) l0_0 l0_1 l0_2) else (talikref04_Slack.l0 k1 l1 l3 x9_1 ji11 (wrap64 ((wrap64 (x11_1 + (rd (rd_L1 l0_2 x10_1) (ji11)))) + ((qah l0_0 (rd l3 x12_1)).f7.f1))) (wrap64 (x12_1 + 1)) l0_0 l0_1 l0_2))) else (none)) else (none)) else (none)) else (none)) else (none)) = some r := by first | (rw [hji11] at H; exact H) | (simp only [hji11] at H ⊢; exact H)
       have hji11w : (IntKind.i64.wrap ((rd l3 x12_1) + 1)) = ji11 := (i64_w _).trans hji11
       by_cases c12 : 0 ≤ (ji11)
       ·
        rw [if_pos c12] at H
        have c12b0 : decide (0 ≤ (ji11)) = true := decide_eq_true c12
        clear c12
        by_cases c13 : (ji11) < ((rd_L1 l0_2 x10_1).length : Int)
        ·
         rw [if_pos c13] at H
         have c13b0 : decide ((ji11) < ((rd_L1 l0_2 x10_1).length : Int)) = true := decide_eq_true c13
         clear c13
         by_cases c14 : 0 ≤ (rd l3 x12_1)
         ·
          rw [if_pos c14] at H
          have c14b0 : decide (0 ≤ (rd l3 x12_1)) = true := decide_eq_true c14
          clear c14
          by_cases c15 : (rd l3 x12_1) < (l0_0.length : Int)
          ·
           rw [if_pos c15] at H
           have c15b0 : decide ((rd l3 x12_1) < (l0_0.length : Int)) = true := decide_eq_true c15
           clear c15
           by_cases c16 : (rd l3 x12_1) < (l1.length : Int)
           ·
            rw [if_pos c16] at H
            have c16b0 : decide ((rd l3 x12_1) < (l1.length : Int)) = true := decide_eq_true c16
            clear c16
            by_cases c17 : x12_1 = 0
            ·
             rw [if_pos c17] at H
             have c17b0 : (x12_1 == 0) = true := beq_iff_eq.mpr c17
             have c17b1 : (x12_1 != 0) = false := bne_eq_false_iff_eq.mpr c17
             clear c17
             have H' := qac.mk H
             clear H
             have hcz18_0 : wr.cell? ⟨gb221, 0, none⟩ = some (.slice A0_0 l0_0.length c0_0) := (qaa BK221.out 0).trans rfl
             have hcz18_1 : wr.cell? ⟨gb221, 1, none⟩ = some (.slice A0_1 l0_1.length c0_1) := (qaa BK221.out 1).trans rfl
             have hcz18_2 : wr.cell? ⟨gb221, 2, none⟩ = some (.slice A0_2 l0_2.length c0_2) := (qaa BK221.out 2).trans rfl
             have hfz18_0 := qab BK221.out 0
             have hfz18_1 := qab BK221.out 1
             have hfz18_2 := qab BK221.out 2
             have p222 : 0 ≤ (x10_1 : Int) := of_decide_eq_true (by first | (with_reducible assumption) | assumption)
             have q222 : x10_1 < (l0_2.length : Int) := of_decide_eq_true (by first | (with_reducible assumption) | assumption)
             obtain ⟨ad222, A222_0, c222_0, e222, hx222_0, hl222_0, hi222_0⟩ := at_L1 HR0_2.out x10_1 p222 q222
             cases e222
             replace hx222_0 := (HB.out.cell (World.block_lt_of_cell? w _ hx222_0)).trans hx222_0
             have HR222_0 := qac.mk hi222_0
             have HC222_0 := qac.mk hl222_0
             clear hi222_0 hl222_0
             replace p222 := eq_true p222
             replace q222 := eq_true q222
             have p223 : 0 ≤ (x12_1 : Int) := of_decide_eq_true (by first | (with_reducible assumption) | assumption)
             have q223 : x12_1 < (l3.length : Int) := of_decide_eq_true (by first | (with_reducible assumption) | assumption)
             obtain ⟨ad223, e223, hx223_0⟩ := Kd.at_int HR3.out x12_1 p223 q223
             cases e223
             replace hx223_0 := (HB.out.cell (World.block_lt_of_cell? w _ hx223_0)).trans hx223_0
             replace p223 := eq_true p223
             replace q223 := eq_true q223
             have p224 : 0 ≤ ((ji11) : Int) := of_decide_eq_true (by first | (with_reducible assumption) | assumption)
             have q224 : (ji11) < ((rd_L1 l0_2 x10_1).length : Int) := of_decide_eq_true (by first | (with_reducible assumption) | assumption)
             obtain ⟨ad224, e224, hx224_0⟩ := Kd.at_int HR222_0.out (ji11) p224 q224
             cases e224
             replace hx224_0 := (HB.out.cell (World.block_lt_of_cell? w _ hx224_0)).trans hx224_0
             replace p224 := eq_true p224
             replace q224 := eq_true q224
             have p225 : 0 ≤ (x12_1 : Int) := of_decide_eq_true (by first | (with_reducible assumption) | assumption)
             have q225 : x12_1 < (l3.length : Int) := of_decide_eq_true (by first | (with_reducible assumption) | assumption)
             obtain ⟨ad225, e225, hx225_0⟩ := Kd.at_int HR3.out x12_1 p225 q225
             obtain rfl : ad223 = ad225 := (by injection e225)
             replace hx225_0 := (HB.out.cell (World.block_lt_of_cell? w _ hx225_0)).trans hx225_0
             replace p225 := eq_true p225
             replace q225 := eq_true q225
             have p226 : 0 ≤ ((rd l3 x12_1) : Int) := of_decide_eq_true (by first | (with_reducible assumption) | assumption)
             have q226 : (rd l3 x12_1) < (l0_0.length : Int) := of_decide_eq_true (by first | (with_reducible assumption) | assumption)
             obtain ⟨ad226, e226, hx226_0, hx226_1, hx226_2, hx226_3, hx226_4, hx226_5, hx226_6, hx226_7, hx226_8, hx226_9, hx226_10, hx226_11⟩ := at_T39 HR0_0.out (rd l3 x12_1) p226 q226
             cases e226
             replace hx226_0 := (HB.out.cell (World.block_lt_of_cell? w _ hx226_0)).trans hx226_0
             replace hx226_1 := (HB.out.cell (World.block_lt_of_cell? w _ hx226_1)).trans hx226_1
             replace hx226_2 := (HB.out.cell (World.block_lt_of_cell? w _ hx226_2)).trans hx226_2
             replace hx226_3 := (HB.out.cell (World.block_lt_of_cell? w _ hx226_3)).trans hx226_3
             replace hx226_4 := (HB.out.cell (World.block_lt_of_cell? w _ hx226_4)).trans hx226_4
             replace hx226_5 := (HB.out.cell (World.block_lt_of_cell? w _ hx226_5)).trans hx226_5
             replace hx226_6 := (HB.out.cell (World.block_lt_of_cell? w _ hx226_6)).trans hx226_6
             replace hx226_7 := (HB.out.cell (World.block_lt_of_cell? w _ hx226_7)).trans hx226_7
             replace hx226_8 := (HB.out.cell (World.block_lt_of_cell? w _ hx226_8)).trans hx226_8
             replace hx226_9 := (HB.out.cell (World.block_lt_of_cell? w _ hx226_9)).trans hx226_9
             replace hx226_10 := (HB.out.cell (World.block_lt_of_cell? w _ hx226_10)).trans hx226_10
             replace hx226_11 := (HB.out.cell (World.block_lt_of_cell? w _ hx226_11)).trans hx226_11
             replace p226 := eq_true p226
             replace q226 := eq_true q226
             have p227 : 0 ≤ (x12_1 : Int) := of_decide_eq_true (by first | (with_reducible assumption) | assumption)
             have q227 : x12_1 < (l3.length : Int) := of_decide_eq_true (by first | (with_reducible assumption) | assumption)
             obtain ⟨ad227, e227, hx227_0⟩ := Kd.at_int HR3.out x12_1 p227 q227
             obtain rfl : ad223 = ad227 := (by injection e227)
             replace hx227_0 := (HB.out.cell (World.block_lt_of_cell? w _ hx227_0)).trans hx227_0
             replace p227 := eq_true p227
             replace q227 := eq_true q227
             have p228 : 0 ≤ (x12_1 : Int) := of_decide_eq_true (by first | (with_reducible assumption) | assumption)
             have q228 : x12_1 < (l3.length : Int) := of_decide_eq_true (by first | (with_reducible assumption) | assumption)
             obtain ⟨ad228, e228, hx228_0⟩ := Kd.at_int HR3.out x12_1 p228 q228
             obtain rfl : ad223 = ad228 := (by injection e228)
             replace hx228_0 := (HB.out.cell (World.block_lt_of_cell? w _ hx228_0)).trans hx228_0
             replace p228 := eq_true p228
             replace q228 := eq_true q228
             have p229 : 0 ≤ ((rd l3 x12_1) : Int) := of_decide_eq_true (by first | (with_reducible assumption) | assumption)
             have q229 : (rd l3 x12_1) < (l1.length : Int) := of_decide_eq_true (by first | (with_reducible assumption) | assumption)
             obtain ⟨ad229, e229, hx229_0⟩ := Kd.at_int HR1.out (rd l3 x12_1) p229 q229
             cases e229
             replace hx229_0 := (HB.out.cell (World.block_lt_of_cell? w _ hx229_0)).trans hx229_0
             replace p229 := eq_true p229
             replace q229 := eq_true q229
             go_wp2
             repeat (go_quiet (fail); try go_wp2)
             go_roundg k1
             case measure => have := HK1.out; omega
             case rel => exact ⟨(wrap64 ((rd l1 (rd l3 x12_1)) - (wrap64 ((wrap64 (x11_1 + (rd (rd_L1 l0_2 x10_1) (ji11)))) + ((qah l0_0 (rd l3 x12_1)).f7.f1))))), (ji11), (wrap64 ((wrap64 (x11_1 + (rd (rd_L1 l0_2 x10_1) (ji11)))) + ((qah l0_0 (rd l3 x12_1)).f7.f1))), (wrap64 (x12_1 + 1)), (by first | rfl | (simp; done) | (simp only [← hji11] <;> (first | rfl | simp)) | (simp [*]; done)), (by first | rfl | (simp; done) | (simp only [← hji11] <;> (first | rfl | simp)) | (simp [*]; done)), (by first | rfl | (simp; done) | (simp only [← hji11] <;> (first | rfl | simp)) | (simp [*]; done)), (by first | rfl | (simp; done) | (simp [*]; done)), H', ⟨by have := HK1.out; omega⟩, ⟨by (with_reducible repeat (first | refine qak ?_ _ | refine qap ?_ | refine qaj ?_ _)); exact BK221.out⟩, ⟨by repeat (first | (with_reducible first | exact HB.out | apply qae | apply qad | apply qaf | refine qag ?_ GE221.out) | exact HB.out)⟩⟩
            ·
             rw [if_neg c17] at H
             have c17b0 : (x12_1 == 0) = false := beq_eq_false_iff_ne.mpr c17
             have c17b1 : (x12_1 != 0) = true := bne_iff_ne.mpr c17
             by_cases c19 : (wrap64 ((rd l1 (rd l3 x12_1)) - (wrap64 ((wrap64 (x11_1 + (rd (rd_L1 l0_2 x10_1) (ji11)))) + ((qah l0_0 (rd l3 x12_1)).f7.f1))))) < x9_1
             ·
              rw [if_pos c19] at H
              have c19b0 : decide ((wrap64 ((rd l1 (rd l3 x12_1)) - (wrap64 ((wrap64 (x11_1 + (rd (rd_L1 l0_2 x10_1) (ji11)))) + ((qah l0_0 (rd l3 x12_1)).f7.f1))))) < x9_1) = true := decide_eq_true c19
              clear c19
              have H' := qac.mk H
              clear H
              have hcz20_0 : wr.cell? ⟨gb221, 0, none⟩ = some (.slice A0_0 l0_0.length c0_0) := (qaa BK221.out 0).trans rfl
              have hcz20_1 : wr.cell? ⟨gb221, 1, none⟩ = some (.slice A0_1 l0_1.length c0_1) := (qaa BK221.out 1).trans rfl
              have hcz20_2 : wr.cell? ⟨gb221, 2, none⟩ = some (.slice A0_2 l0_2.length c0_2) := (qaa BK221.out 2).trans rfl
              have hfz20_0 := qab BK221.out 0
              have hfz20_1 := qab BK221.out 1
              have hfz20_2 := qab BK221.out 2
              have p222 : 0 ≤ (x10_1 : Int) := of_decide_eq_true (by first | (with_reducible assumption) | assumption)
              have q222 : x10_1 < (l0_2.length : Int) := of_decide_eq_true (by first | (with_reducible assumption) | assumption)
              obtain ⟨ad222, A222_0, c222_0, e222, hx222_0, hl222_0, hi222_0⟩ := at_L1 HR0_2.out x10_1 p222 q222
              cases e222
              replace hx222_0 := (HB.out.cell (World.block_lt_of_cell? w _ hx222_0)).trans hx222_0
              have HR222_0 := qac.mk hi222_0
              have HC222_0 := qac.mk hl222_0
              clear hi222_0 hl222_0
              replace p222 := eq_true p222
              replace q222 := eq_true q222
              have p223 : 0 ≤ (x12_1 : Int) := of_decide_eq_true (by first | (with_reducible assumption) | assumption)
              have q223 : x12_1 < (l3.length : Int) := of_decide_eq_true (by first | (with_reducible assumption) | assumption)
              obtain ⟨ad223, e223, hx223_0⟩ := Kd.at_int HR3.out x12_1 p223 q223
              cases e223
              replace hx223_0 := (HB.out.cell (World.block_lt_of_cell? w _ hx223_0)).trans hx223_0
              replace p223 := eq_true p223
              replace q223 := eq_true q223
              have p224 : 0 ≤ ((ji11) : Int) := of_decide_eq_true (by first | (with_reducible assumption) | assumption)
              have q224 : (ji11) < ((rd_L1 l0_2 x10_1).length : Int) := of_decide_eq_true (by first | (with_reducible assumption) | assumption)
              obtain ⟨ad224, e224, hx224_0⟩ := Kd.at_int HR222_0.out (ji11) p224 q224
              cases e224
              replace hx224_0 := (HB.out.cell (World.block_lt_of_cell? w _ hx224_0)).trans hx224_0
              replace p224 := eq_true p224
              replace q224 := eq_true q224
              have p225 : 0 ≤ (x12_1 : Int) := of_decide_eq_true (by first | (with_reducible assumption) | assumption)
              have q225 : x12_1 < (l3.length : Int) := of_decide_eq_true (by first | (with_reducible assumption) | assumption)
              obtain ⟨ad225, e225, hx225_0⟩ := Kd.at_int HR3.out x12_1 p225 q225
              obtain rfl : ad223 = ad225 := (by injection e225)
              replace hx225_0 := (HB.out.cell (World.block_lt_of_cell? w _ hx225_0)).trans hx225_0
              replace p225 := eq_true p225
              replace q225 := eq_true q225
              have p226 : 0 ≤ ((rd l3 x12_1) : Int) := of_decide_eq_true (by first | (with_reducible assumption) | assumption)
              have q226 : (rd l3 x12_1) < (l0_0.length : Int) := of_decide_eq_true (by first | (with_reducible assumption) | assumption)
              obtain ⟨ad226, e226, hx226_0, hx226_1, hx226_2, hx226_3, hx226_4, hx226_5, hx226_6, hx226_7, hx226_8, hx226_9, hx226_10, hx226_11⟩ := at_T39 HR0_0.out (rd l3 x12_1) p226 q226
              cases e226
              replace hx226_0 := (HB.out.cell (World.block_lt_of_cell? w _ hx226_0)).trans hx226_0
              replace hx226_1 := (HB.out.cell (World.block_lt_of_cell? w _ hx226_1)).trans hx226_1
              replace hx226_2 := (HB.out.cell (World.block_lt_of_cell? w _ hx226_2)).trans hx226_2
              replace hx226_3 := (HB.out.cell (World.block_lt_of_cell? w _ hx226_3)).trans hx226_3
              replace hx226_4 := (HB.out.cell (World.block_lt_of_cell? w _ hx226_4)).trans hx226_4
              replace hx226_5 := (HB.out.cell (World.block_lt_of_cell? w _ hx226_5)).trans hx226_5
              replace hx226_6 := (HB.out.cell (World.block_lt_of_cell? w _ hx226_6)).trans hx226_6
              replace hx226_7 := (HB.out.cell (World.block_lt_of_cell? w _ hx226_7)).trans hx226_7
              replace hx226_8 := (HB.out.cell (World.block_lt_of_cell? w _ hx226_8)).trans hx226_8
              replace hx226_9 := (HB.out.cell (World.block_lt_of_cell? w _ hx226_9)).trans hx226_9
              replace hx226_10 := (HB.out.cell (World.block_lt_of_cell? w _ hx226_10)).trans hx226_10
              replace hx226_11 := (HB.out.cell (World.block_lt_of_cell? w _ hx226_11)).trans hx226_11
              replace p226 := eq_true p226
              replace q226 := eq_true q226
              have p227 : 0 ≤ (x12_1 : Int) := of_decide_eq_true (by first | (with_reducible assumption) | assumption)
              have q227 : x12_1 < (l3.length : Int) := of_decide_eq_true (by first | (with_reducible assumption) | assumption)
              obtain ⟨ad227, e227, hx227_0⟩ := Kd.at_int HR3.out x12_1 p227 q227
              obtain rfl : ad223 = ad227 := (by injection e227)
              replace hx227_0 := (HB.out.cell (World.block_lt_of_cell? w _ hx227_0)).trans hx227_0
              replace p227 := eq_true p227
              replace q227 := eq_true q227
              have p228 : 0 ≤ (x12_1 : Int) := of_decide_eq_true (by first | (with_reducible assumption) | assumption)
              have q228 : x12_1 < (l3.length : Int) := of_decide_eq_true (by first | (with_reducible assumption) | assumption)
              obtain ⟨ad228, e228, hx228_0⟩ := Kd.at_int HR3.out x12_1 p228 q228
              obtain rfl : ad223 = ad228 := (by injection e228)
              replace hx228_0 := (HB.out.cell (World.block_lt_of_cell? w _ hx228_0)).trans hx228_0
              replace p228 := eq_true p228
              replace q228 := eq_true q228
              have p229 : 0 ≤ ((rd l3 x12_1) : Int) := of_decide_eq_true (by first | (with_reducible assumption) | assumption)
              have q229 : (rd l3 x12_1) < (l1.length : Int) := of_decide_eq_true (by first | (with_reducible assumption) | assumption)
              obtain ⟨ad229, e229, hx229_0⟩ := Kd.at_int HR1.out (rd l3 x12_1) p229 q229
              cases e229
              replace hx229_0 := (HB.out.cell (World.block_lt_of_cell? w _ hx229_0)).trans hx229_0
              replace p229 := eq_true p229
              replace q229 := eq_true q229
              go_wp2
              repeat (go_quiet (fail); try go_wp2)
              go_roundg k1
              case measure => have := HK1.out; omega
              case rel => exact ⟨(wrap64 ((rd l1 (rd l3 x12_1)) - (wrap64 ((wrap64 (x11_1 + (rd (rd_L1 l0_2 x10_1) (ji11)))) + ((qah l0_0 (rd l3 x12_1)).f7.f1))))), (ji11), (wrap64 ((wrap64 (x11_1 + (rd (rd_L1 l0_2 x10_1) (ji11)))) + ((qah l0_0 (rd l3 x12_1)).f7.f1))), (wrap64 (x12_1 + 1)), (by first | rfl | (simp; done) | (simp only [← hji11] <;> (first | rfl | simp)) | (simp [*]; done)), (by first | rfl | (simp; done) | (simp only [← hji11] <;> (first | rfl | simp)) | (simp [*]; done)), (by first | rfl | (simp; done) | (simp only [← hji11] <;> (first | rfl | simp)) | (simp [*]; done)), (by first | rfl | (simp; done) | (simp [*]; done)), H', ⟨by have := HK1.out; omega⟩, ⟨by (with_reducible repeat (first | refine qak ?_ _ | refine qap ?_ | refine qaj ?_ _)); exact BK221.out⟩, ⟨by repeat (first | (with_reducible first | exact HB.out | apply qae | apply qad | apply qaf | refine qag ?_ GE221.out) | exact HB.out)⟩⟩
             ·
              rw [if_neg c19] at H
              have c19b0 : decide ((wrap64 ((rd l1 (rd l3 x12_1)) - (wrap64 ((wrap64 (x11_1 + (rd (rd_L1 l0_2 x10_1) (ji11)))) + ((qah l0_0 (rd l3 x12_1)).f7.f1))))) < x9_1) = false := decide_eq_false c19
              clear c19
              have H' := qac.mk H
              clear H
              have hcz21_0 : wr.cell? ⟨gb221, 0, none⟩ = some (.slice A0_0 l0_0.length c0_0) := (qaa BK221.out 0).trans rfl
              have hcz21_1 : wr.cell? ⟨gb221, 1, none⟩ = some (.slice A0_1 l0_1.length c0_1) := (qaa BK221.out 1).trans rfl
              have hcz21_2 : wr.cell? ⟨gb221, 2, none⟩ = some (.slice A0_2 l0_2.length c0_2) := (qaa BK221.out 2).trans rfl
              have hfz21_0 := qab BK221.out 0
              have hfz21_1 := qab BK221.out 1
              have hfz21_2 := qab BK221.out 2
              have p222 : 0 ≤ (x10_1 : Int) := of_decide_eq_true (by first | (with_reducible assumption) | assumption)
              have q222 : x10_1 < (l0_2.length : Int) := of_decide_eq_true (by first | (with_reducible assumption) | assumption)
              obtain ⟨ad222, A222_0, c222_0, e222, hx222_0, hl222_0, hi222_0⟩ := at_L1 HR0_2.out x10_1 p222 q222
              cases e222
              replace hx222_0 := (HB.out.cell (World.block_lt_of_cell? w _ hx222_0)).trans hx222_0
              have HR222_0 := qac.mk hi222_0
              have HC222_0 := qac.mk hl222_0
              clear hi222_0 hl222_0
              replace p222 := eq_true p222
              replace q222 := eq_true q222
              have p223 : 0 ≤ (x12_1 : Int) := of_decide_eq_true (by first | (with_reducible assumption) | assumption)
              have q223 : x12_1 < (l3.length : Int) := of_decide_eq_true (by first | (with_reducible assumption) | assumption)
              obtain ⟨ad223, e223, hx223_0⟩ := Kd.at_int HR3.out x12_1 p223 q223
              cases e223
              replace hx223_0 := (HB.out.cell (World.block_lt_of_cell? w _ hx223_0)).trans hx223_0
              replace p223 := eq_true p223
              replace q223 := eq_true q223
              have p224 : 0 ≤ ((ji11) : Int) := of_decide_eq_true (by first | (with_reducible assumption) | assumption)
              have q224 : (ji11) < ((rd_L1 l0_2 x10_1).length : Int) := of_decide_eq_true (by first | (with_reducible assumption) | assumption)
              obtain ⟨ad224, e224, hx224_0⟩ := Kd.at_int HR222_0.out (ji11) p224 q224
              cases e224
              replace hx224_0 := (HB.out.cell (World.block_lt_of_cell? w _ hx224_0)).trans hx224_0
              replace p224 := eq_true p224
              replace q224 := eq_true q224
              have p225 : 0 ≤ (x12_1 : Int) := of_decide_eq_true (by first | (with_reducible assumption) | assumption)
              have q225 : x12_1 < (l3.length : Int) := of_decide_eq_true (by first | (with_reducible assumption) | assumption)
              obtain ⟨ad225, e225, hx225_0⟩ := Kd.at_int HR3.out x12_1 p225 q225
              obtain rfl : ad223 = ad225 := (by injection e225)
              replace hx225_0 := (HB.out.cell (World.block_lt_of_cell? w _ hx225_0)).trans hx225_0
              replace p225 := eq_true p225
              replace q225 := eq_true q225
              have p226 : 0 ≤ ((rd l3 x12_1) : Int) := of_decide_eq_true (by first | (with_reducible assumption) | assumption)
              have q226 : (rd l3 x12_1) < (l0_0.length : Int) := of_decide_eq_true (by first | (with_reducible assumption) | assumption)
              obtain ⟨ad226, e226, hx226_0, hx226_1, hx226_2, hx226_3, hx226_4, hx226_5, hx226_6, hx226_7, hx226_8, hx226_9, hx226_10, hx226_11⟩ := at_T39 HR0_0.out (rd l3 x12_1) p226 q226
              cases e226
              replace hx226_0 := (HB.out.cell (World.block_lt_of_cell? w _ hx226_0)).trans hx226_0
              replace hx226_1 := (HB.out.cell (World.block_lt_of_cell? w _ hx226_1)).trans hx226_1
              replace hx226_2 := (HB.out.cell (World.block_lt_of_cell? w _ hx226_2)).trans hx226_2
              replace hx226_3 := (HB.out.cell (World.block_lt_of_cell? w _ hx226_3)).trans hx226_3
              replace hx226_4 := (HB.out.cell (World.block_lt_of_cell? w _ hx226_4)).trans hx226_4
              replace hx226_5 := (HB.out.cell (World.block_lt_of_cell? w _ hx226_5)).trans hx226_5
              replace hx226_6 := (HB.out.cell (World.block_lt_of_cell? w _ hx226_6)).trans hx226_6
              replace hx226_7 := (HB.out.cell (World.block_lt_of_cell? w _ hx226_7)).trans hx226_7
              replace hx226_8 := (HB.out.cell (World.block_lt_of_cell? w _ hx226_8)).trans hx226_8
              replace hx226_9 := (HB.out.cell (World.block_lt_of_cell? w _ hx226_9)).trans hx226_9
              replace hx226_10 := (HB.out.cell (World.block_lt_of_cell? w _ hx226_10)).trans hx226_10
              replace hx226_11 := (HB.out.cell (World.block_lt_of_cell? w _ hx226_11)).trans hx226_11
              replace p226 := eq_true p226
              replace q226 := eq_true q226
              have p227 : 0 ≤ (x12_1 : Int) := of_decide_eq_true (by first | (with_reducible assumption) | assumption)
              have q227 : x12_1 < (l3.length : Int) := of_decide_eq_true (by first | (with_reducible assumption) | assumption)
              obtain ⟨ad227, e227, hx227_0⟩ := Kd.at_int HR3.out x12_1 p227 q227
              obtain rfl : ad223 = ad227 := (by injection e227)
              replace hx227_0 := (HB.out.cell (World.block_lt_of_cell? w _ hx227_0)).trans hx227_0
              replace p227 := eq_true p227
              replace q227 := eq_true q227
              have p228 : 0 ≤ (x12_1 : Int) := of_decide_eq_true (by first | (with_reducible assumption) | assumption)
              have q228 : x12_1 < (l3.length : Int) := of_decide_eq_true (by first | (with_reducible assumption) | assumption)
              obtain ⟨ad228, e228, hx228_0⟩ := Kd.at_int HR3.out x12_1 p228 q228
              obtain rfl : ad223 = ad228 := (by injection e228)
              replace hx228_0 := (HB.out.cell (World.block_lt_of_cell? w _ hx228_0)).trans hx228_0
              replace p228 := eq_true p228
              replace q228 := eq_true q228
              have p229 : 0 ≤ ((rd l3 x12_1) : Int) := of_decide_eq_true (by first | (with_reducible assumption) | assumption)
              have q229 : (rd l3 x12_1) < (l1.length : Int) := of_decide_eq_true (by first | (with_reducible assumption) | assumption)
              obtain ⟨ad229, e229, hx229_0⟩ := Kd.at_int HR1.out (rd l3 x12_1) p229 q229
              cases e229
              replace hx229_0 := (HB.out.cell (World.block_lt_of_cell? w _ hx229_0)).trans hx229_0
              replace p229 := eq_true p229
              replace q229 := eq_true q229
              go_wp2
              repeat (go_quiet (fail); try go_wp2)
              go_roundg k1
              case measure => have := HK1.out; omega
              case rel => exact ⟨(x9_1), (ji11), (wrap64 ((wrap64 (x11_1 + (rd (rd_L1 l0_2 x10_1) (ji11)))) + ((qah l0_0 (rd l3 x12_1)).f7.f1))), (wrap64 (x12_1 + 1)), (by first | rfl | (simp; done) | (simp [*]; done)), (by first | rfl | (simp; done) | (simp only [← hji11] <;> (first | rfl | simp)) | (simp [*]; done)), (by first | rfl | (simp; done) | (simp only [← hji11] <;> (first | rfl | simp)) | (simp [*]; done)), (by first | rfl | (simp; done) | (simp [*]; done)), H', ⟨by have := HK1.out; omega⟩, ⟨by (with_reducible repeat (first | refine qak ?_ _ | refine qap ?_ | refine qaj ?_ _)); exact BK221.out⟩, ⟨by repeat (first | (with_reducible first | exact HB.out | apply qae | apply qad | apply qaf | refine qag ?_ GE221.out) | exact HB.out)⟩⟩
           ·
            rw [if_neg c16] at H
            exact absurd H (by simp)
          ·
           rw [if_neg c15] at H
           exact absurd H (by simp)
         ·
          rw [if_neg c14] at H
          exact absurd H (by simp)
        ·
         rw [if_neg c13] at H
         exact absurd H (by simp)
       ·
        rw [if_neg c12] at H
        exact absurd H (by simp)
      ·
       rw [if_neg c10] at H
       exact absurd H (by simp)
     ·
      rw [if_neg c9] at H
      exact absurd H (by simp)
    ·
     rw [if_neg c8] at H
     exact absurd H (by simp)
   ·
    rw [if_neg c7] at H
    have c7b0 : decide (x12_1 < (l3.length : Int)) = false := decide_eq_false c7
    clear c7
    obtain rfl := Option.some.inj H
    go_wp2
    repeat (go_quiet (fail); try go_wp2)
    go_ret
    exact ⟨by first | rfl | (simp [qas, qat] <;> rfl) | (simp [*, qas, qat] <;> rfl), by repeat (first | (with_reducible first | exact HB.out | apply qae | apply qad | apply qaf | refine qag ?_ GE221.out) | exact HB.out)⟩
def talikref04_Has.l0 : Nat → Int → Int → Int → Option (Bool)
 | 0, _, _, _ => none
 | k + 1, x0, x1, x5 => if x5 < x1 then (talikref04_Has.l0 k (wrap64 (Int.tdiv x0 2)) x1 (wrap64 (x5 + 1))) else (some ((Int.tmod x0 2) == 1))
def talikref04_Has.f (k : Nat) (a0 : Int) (a1 : Int) : Option (Bool) := talikref04_Has.l0 k a0 a1 0
set_option maxHeartbeats 8000000 in
set_option maxRecDepth 100000 in
theorem talikref04_Has.calls (k : Nat) (a0 : Int) (a1 : Int) (r : Bool) (w : World) (h : talikref04_Has.f k a0 a1 = some r) :
  Calls Try.prog 68 #[.int .i64 a0, .int .i64 a1] w fun e w' => e = .returned (.bool r) ∧ Drawn0 w w' := by
 have H : (talikref04_Has.l0 k a0 a1 0) = some r := h
 clear h
 have H' := qac.mk H
 clear H
 go_enter Try.func68, Try.ntmps68
 go_wp2
 go_loopg [0, 5] k (fun kq v0 v5 w' => ∃ (x0_1 : Int) (x5_1 : Int), v0 = .int .i64 x0_1 ∧ v5 = .int .i64 x5_1 ∧ qac (talikref04_Has.l0 kq x0_1 a1 x5_1 = some r) ∧ qac (kq ≤ k) ∧ Drawn0 w w')
 case atStart => exact ⟨(a0), (0), (by first | rfl | (simp; done) | (simp [*]; done)), (by first | rfl | (simp; done) | (simp [*]; done)), H', ⟨Nat.le_refl _⟩, by repeat (first | exact Drawn0.refl _ | apply Drawn0.step)⟩
 case round =>
  clear H'
  try clear p2
  obtain ⟨x0_1, x5_1, rfl, rfl, HA, HK1, ⟨m1, rfl⟩⟩ := hrel
  cases gk with
  | zero => exact absurd HA.out (by simp [talikref04_Has.l0])
  | succ k1 =>
   have H := HA.out
   clear HA
   simp only [talikref04_Has.l0] at H
   by_cases c3 : x5_1 < a1
   ·
    rw [if_pos c3] at H
    have c3b0 : decide (x5_1 < a1) = true := decide_eq_true c3
    clear c3
    have H' := qac.mk H
    clear H
    go_wp2
    go_roundg k1
    case measure => have := HK1.out; omega
    case rel => exact ⟨(wrap64 (Int.tdiv x0_1 2)), (wrap64 (x5_1 + 1)), (by first | rfl | (simp; done) | (simp [*]; done)), (by first | rfl | (simp; done) | (simp [*]; done)), H', ⟨by have := HK1.out; omega⟩, by repeat (first | exact Drawn0.refl _ | apply Drawn0.step)⟩
   ·
    rw [if_neg c3] at H
    have c3b0 : decide (x5_1 < a1) = false := decide_eq_false c3
    clear c3
    obtain rfl := Option.some.inj H
    go_wp2
    go_ret
    exact ⟨by first | rfl | (simp; done) | (simp [*]; done), by repeat (first | exact Drawn0.refl _ | apply Drawn0.step)⟩
end Go.Proofs.Ytipphcjgdebecaa.PA
