/- Parts of a proof about the pipe seat's laws: what the functions of the program answer. No condition of its own. -/
import Derived.Test.YtipphcjgdebecaaSC
import Derived.Test.YtipphcjgdebecaaPrA
set_option linter.all false
namespace Go.Proofs.Ytipphcjgdebecaa.PA
open Go.RowKit Go.Proofs.YtipphcjgdebecaaW.PrintWords Go.Proofs.YtipphcjgdebecaaW.PrintLast Go.Proofs.YtipphcjgdebecaaW.PrintMore
attribute [local go_sem] max2_int min2_int max_two min_two max_three min_three max_four min_four
mutual
def talikref04_Net.l0 : Nat → Int → List (S39) → List (S37) → List (List Int) → Option (Bool)
 | 0, _, _, _, _ => none
 | k + 1, x3, x168000, x168001, x168002 => if x3 < (x168000.length : Int) then (if 0 ≤ x3 then ((talikref04_Loop.f ((qah x168000 x3).f0.f0) ((qah x168000 x3).f0.f1) ((qah x168000 x3).f1.f0) ((qah x168000 x3).f1.f1) ((qah x168000 x3).f2.f0) ((qah x168000 x3).f2.f1) ((qah x168000 x3).f3) ((qah x168000 x3).f4) ((qah x168000 x3).f5) ((qah x168000 x3).f6) ((qah x168000 x3).f7.f0) ((qah x168000 x3).f7.f1)).bind fun t169 => (if t169 = true then (talikref04_Net.l0 k (wrap64 (x3 + 1)) x168000 x168001 x168002) else (some false))) else (none)) else (talikref04_Net.l1 k 0 x168000 x168001 x168002)
def talikref04_Net.l1 : Nat → Int → List (S39) → List (S37) → List (List Int) → Option (Bool)
 | 0, _, _, _, _ => none
 | k + 1, x4, x168000, x168001, x168002 => if x4 < (x168001.length : Int) then (if 0 ≤ x4 then ((talikref04_Span.f ((rd_T37 x168001 x4).f0) ((rd_T37 x168001 x4).f1) 0 1000).bind fun t171 => (if t171 = true then (talikref04_Net.l1 k (wrap64 (x4 + 1)) x168000 x168001 x168002) else (some false))) else (none)) else (talikref04_Net.l2 k 0 x168000 x168001 x168002)
def talikref04_Net.l2 : Nat → Int → List (S39) → List (S37) → List (List Int) → Option (Bool)
 | 0, _, _, _, _ => none
 | k + 1, x5, x168000, x168001, x168002 => if x5 < (x168002.length : Int) then (if 0 ≤ x5 then (if ((rd_L1 x168002 x5).length : Int) = (wrap64 ((x168000.length : Int) + 1)) then (talikref04_Net.l3 k x5 0 x168000 x168001 x168002) else (some false)) else (none)) else ((talikref04_in.f (x168000.length : Int) 1 5).bind fun t172 => (if t172 = true then ((talikref04_in.f (x168001.length : Int) 1 72).bind fun t173 => (if t173 = true then (some ((x168002.length : Int) == (wrap64 ((x168000.length : Int) + 1)))) else (some false))) else (some false)))
def talikref04_Net.l3 : Nat → Int → Int → List (S39) → List (S37) → List (List Int) → Option (Bool)
 | 0, _, _, _, _, _ => none
 | k + 1, x5, x6, x168000, x168001, x168002 => if 0 ≤ x5 then (if x5 < (x168002.length : Int) then (if x6 < ((rd_L1 x168002 x5).length : Int) then (if 0 ≤ x6 then ((talikref04_in.f (rd (rd_L1 x168002 x5) x6) 0 72).bind fun t178 => (if t178 = true then (if x5 = x6 then (if (rd (rd_L1 x168002 x5) x6) = 0 then (talikref04_Net.l3 k x5 (wrap64 (x6 + 1)) x168000 x168001 x168002) else (some false)) else (talikref04_Net.l3 k x5 (wrap64 (x6 + 1)) x168000 x168001 x168002)) else (some false))) else (none)) else (talikref04_Net.l2 k (wrap64 (x5 + 1)) x168000 x168001 x168002)) else (none)) else (none)
end
def talikref04_Net.f (k : Nat) (l0_0 : List (S39)) (l0_1 : List (S37)) (l0_2 : List (List Int)) : Option (Bool) := talikref04_Net.l0 k 0 l0_0 l0_1 l0_2
set_option maxHeartbeats 8000000 in
set_option maxRecDepth 100000 in
theorem talikref04_Net.calls (k : Nat) (A0_0 : Option Addr) (c0_0 : Nat) (l0_0 : List (S39)) (A0_1 : Option Addr) (c0_1 : Nat) (l0_1 : List (S37)) (A0_2 : Option Addr) (c0_2 : Nat) (l0_2 : List (List Int)) (r : Bool) (w : World) (hr0_0 : Kd.C k39 w A0_0 l0_0.length l0_0) (hc0_0 : l0_0.length ≤ c0_0) (hr0_1 : Kd.C k37 w A0_1 l0_1.length l0_1) (hc0_1 : l0_1.length ≤ c0_1) (hr0_2 : Kd.C (Kd.slice 3 (Kd.int .i64)) w A0_2 l0_2.length l0_2) (hc0_2 : l0_2.length ≤ c0_2) (h : talikref04_Net.f k l0_0 l0_1 l0_2 = some r) :
  Calls Try.prog 19 #[.agg #[.slice A0_0 l0_0.length c0_0, .slice A0_1 l0_1.length c0_1, .slice A0_2 l0_2.length c0_2]] w fun e w' => e = .returned (.bool r) ∧ Below w.heap.size w w' := by
 have hu26 := Try.underlying26
 have hu39 := Try.underlying39
 have hu37 := Try.underlying37
 have HR0_0 := qac.mk hr0_0
 have HC0_0 := qac.mk hc0_0
 clear hr0_0 hc0_0
 have HR0_1 := qac.mk hr0_1
 have HC0_1 := qac.mk hc0_1
 clear hr0_1 hc0_1
 have HR0_2 := qac.mk hr0_2
 have HC0_2 := qac.mk hc0_2
 clear hr0_2 hc0_2
 have HB := qac.mk (Below.refl w.heap.size w)
 have H : (talikref04_Net.l0 k 0 l0_0 l0_1 l0_2) = some r := h
 clear h
 have H' := qac.mk H
 clear H
 go_enter Try.func19, Try.ntmps19
 go_wp2_with (first | ((with_reducible refine qax (N := 1) rfl ?_); (try (refine gate_guard (by rfl) ?_; dsimp only)); refine qaw ?hg (N := 1) ?hd (cs := #[.slice A0_0 l0_0.length c0_0, .slice A0_1 l0_1.length c0_1, .slice A0_2 l0_2.length c0_2]) (t := 26) ?hr ?_; (case hd => rfl); (case hg => rfl); (case hr => first | (go_simp; done) | (go_simp; rfl)); intro gb167 hg w2 hbox hb; have n0_ := qac.mk (qai (by repeat (first | (with_reducible first | exact HB.out | apply qae | apply qad | apply qaf) | exact HB.out)) hb); have n1_ := qac.mk (hbox); have n2_ := qac.mk ((by rw [hg]; exact (qar (by repeat (first | (with_reducible first | exact HB.out | apply qae | apply qad | apply qaf) | exact HB.out))) : w.heap.size ≤ gb167)); have n3_ := qac.mk ((by rw [hg]; exact (qar (by repeat (first | (with_reducible first | exact HB.out | apply qae | apply qad | apply qaf) | exact HB.out))) : w.heap.size ≤ gb167)); clear HB; have HB := n0_; have BK167 := n1_; have GW167 := n2_; have GE167 := n3_; clear n0_ n1_ n2_ n3_; clear hb hbox hg))
 repeat (go_quiet (first | ((with_reducible refine qax (N := 1) rfl ?_); (try (refine gate_guard (by rfl) ?_; dsimp only)); refine qaw ?hg (N := 1) ?hd (cs := #[.slice A0_0 l0_0.length c0_0, .slice A0_1 l0_1.length c0_1, .slice A0_2 l0_2.length c0_2]) (t := 26) ?hr ?_; (case hd => rfl); (case hg => rfl); (case hr => first | (go_simp; done) | (go_simp; rfl)); intro gb167 hg w2 hbox hb; have n0_ := qac.mk (qai (by repeat (first | (with_reducible first | exact HB.out | apply qae | apply qad | apply qaf) | exact HB.out)) hb); have n1_ := qac.mk (hbox); have n2_ := qac.mk ((by rw [hg]; exact (qar (by repeat (first | (with_reducible first | exact HB.out | apply qae | apply qad | apply qaf) | exact HB.out))) : w.heap.size ≤ gb167)); have n3_ := qac.mk ((by rw [hg]; exact (qar (by repeat (first | (with_reducible first | exact HB.out | apply qae | apply qad | apply qaf) | exact HB.out))) : w.heap.size ≤ gb167)); clear HB; have HB := n0_; have BK167 := n1_; have GW167 := n2_; have GE167 := n3_; clear n0_ n1_ n2_ n3_; clear hb hbox hg)); try go_wp2_with (first | ((with_reducible refine qax (N := 1) rfl ?_); (try (refine gate_guard (by rfl) ?_; dsimp only)); refine qaw ?hg (N := 1) ?hd (cs := #[.slice A0_0 l0_0.length c0_0, .slice A0_1 l0_1.length c0_1, .slice A0_2 l0_2.length c0_2]) (t := 26) ?hr ?_; (case hd => rfl); (case hg => rfl); (case hr => first | (go_simp; done) | (go_simp; rfl)); intro gb167 hg w2 hbox hb; have n0_ := qac.mk (qai (by repeat (first | (with_reducible first | exact HB.out | apply qae | apply qad | apply qaf) | exact HB.out)) hb); have n1_ := qac.mk (hbox); have n2_ := qac.mk ((by rw [hg]; exact (qar (by repeat (first | (with_reducible first | exact HB.out | apply qae | apply qad | apply qaf) | exact HB.out))) : w.heap.size ≤ gb167)); have n3_ := qac.mk ((by rw [hg]; exact (qar (by repeat (first | (with_reducible first | exact HB.out | apply qae | apply qad | apply qaf) | exact HB.out))) : w.heap.size ≤ gb167)); clear HB; have HB := n0_; have BK167 := n1_; have GW167 := n2_; have GE167 := n3_; clear n0_ n1_ n2_ n3_; clear hb hbox hg)))
 go_loopg [3] k (fun kq v3 w' => ∃ (x3_1 : Int), v3 = .int .i64 x3_1 ∧ qac (talikref04_Net.l0 kq x3_1 l0_0 l0_1 l0_2 = some r) ∧ qac (kq ≤ k) ∧ qac (w'.heap[gb167]? = some (.cells #[(.slice A0_0 l0_0.length c0_0), (.slice A0_1 l0_1.length c0_1), (.slice A0_2 l0_2.length c0_2)] 26 (0, 0))) ∧ qac (Below w.heap.size w w'))
 case atStart => exact ⟨(0), (by first | rfl | (simp; done) | (simp [*]; done)), H', ⟨Nat.le_refl _⟩, ⟨by (with_reducible repeat (first | refine qak ?_ _ | refine qap ?_ | refine qaj ?_ _)); exact BK167.out⟩, ⟨by repeat (first | (with_reducible first | exact HB.out | apply qae | apply qad | apply qaf | refine qag ?_ GE167.out) | exact HB.out)⟩⟩
 case round =>
  clear H'
  try clear c1
  try clear p2
  obtain ⟨x3_1, rfl, HA, HK1, BK167, HB⟩ := hrel
  cases gk with
  | zero => exact absurd HA.out (by simp [talikref04_Net.l0])
  | succ k1 =>
   have H := HA.out
   clear HA
   simp only [talikref04_Net.l0] at H
   by_cases c3 : x3_1 < (l0_0.length : Int)
   ·
    rw [if_pos c3] at H
    have c3b0 : decide (x3_1 < (l0_0.length : Int)) = true := decide_eq_true c3
    clear c3
    by_cases c4 : 0 ≤ x3_1
    ·
     rw [if_pos c4] at H
     have c4b0 : decide (0 ≤ x3_1) = true := decide_eq_true c4
     clear c4
     replace H := Option.bind_eq_some_iff.mp H
     obtain ⟨t169, A50, H⟩ := H
     replace H : (if t169 = true then (talikref04_Net.l0 k1 (wrap64 (x3_1 + 1)) l0_0 l0_1 l0_2) else (some false)) = some r := H
     have A5 := qac.mk A50
     clear A50
     by_cases c6 : t169 = true
     ·
      subst c6
      have H1 : (talikref04_Net.l0 k1 (wrap64 (x3_1 + 1)) l0_0 l0_1 l0_2) = some r := by rw [if_pos rfl] at H; exact H
      clear H
      have H := H1
      clear H1
      have H' := qac.mk H
      clear H
      have hcz7_0 : wr.cell? ⟨gb167, 0, none⟩ = some (.slice A0_0 l0_0.length c0_0) := (qaa BK167.out 0).trans rfl
      have hcz7_1 : wr.cell? ⟨gb167, 1, none⟩ = some (.slice A0_1 l0_1.length c0_1) := (qaa BK167.out 1).trans rfl
      have hcz7_2 : wr.cell? ⟨gb167, 2, none⟩ = some (.slice A0_2 l0_2.length c0_2) := (qaa BK167.out 2).trans rfl
      have hfz7_0 := qab BK167.out 0
      have hfz7_1 := qab BK167.out 1
      have hfz7_2 := qab BK167.out 2
      have p168 : 0 ≤ (x3_1 : Int) := of_decide_eq_true (by first | (with_reducible assumption) | assumption)
      have q168 : x3_1 < (l0_0.length : Int) := of_decide_eq_true (by first | (with_reducible assumption) | assumption)
      obtain ⟨ad168, e168, hx168_0, hx168_1, hx168_2, hx168_3, hx168_4, hx168_5, hx168_6, hx168_7, hx168_8, hx168_9, hx168_10, hx168_11⟩ := at_T39 HR0_0.out x3_1 p168 q168
      cases e168
      replace hx168_0 := (HB.out.cell (World.block_lt_of_cell? w _ hx168_0)).trans hx168_0
      replace hx168_1 := (HB.out.cell (World.block_lt_of_cell? w _ hx168_1)).trans hx168_1
      replace hx168_2 := (HB.out.cell (World.block_lt_of_cell? w _ hx168_2)).trans hx168_2
      replace hx168_3 := (HB.out.cell (World.block_lt_of_cell? w _ hx168_3)).trans hx168_3
      replace hx168_4 := (HB.out.cell (World.block_lt_of_cell? w _ hx168_4)).trans hx168_4
      replace hx168_5 := (HB.out.cell (World.block_lt_of_cell? w _ hx168_5)).trans hx168_5
      replace hx168_6 := (HB.out.cell (World.block_lt_of_cell? w _ hx168_6)).trans hx168_6
      replace hx168_7 := (HB.out.cell (World.block_lt_of_cell? w _ hx168_7)).trans hx168_7
      replace hx168_8 := (HB.out.cell (World.block_lt_of_cell? w _ hx168_8)).trans hx168_8
      replace hx168_9 := (HB.out.cell (World.block_lt_of_cell? w _ hx168_9)).trans hx168_9
      replace hx168_10 := (HB.out.cell (World.block_lt_of_cell? w _ hx168_10)).trans hx168_10
      replace hx168_11 := (HB.out.cell (World.block_lt_of_cell? w _ hx168_11)).trans hx168_11
      replace p168 := eq_true p168
      replace q168 := eq_true q168
      go_wp2_with (first | (go_at_call 58; (with_reducible refine (talikref04_Loop.calls ((qah l0_0 x3_1).f0.f0) ((qah l0_0 x3_1).f0.f1) ((qah l0_0 x3_1).f1.f0) ((qah l0_0 x3_1).f1.f1) ((qah l0_0 x3_1).f2.f0) ((qah l0_0 x3_1).f2.f1) ((qah l0_0 x3_1).f3) ((qah l0_0 x3_1).f4) ((qah l0_0 x3_1).f5) ((qah l0_0 x3_1).f6) ((qah l0_0 x3_1).f7.f0) ((qah l0_0 x3_1).f7.f1) true _ A5.out).mono ?_); rintro e w8 ⟨rfl, hb⟩; have n0_ := qac.mk (qam (g := gb167) (o := .cells #[.slice (some ad168) l0_0.length c0_0, .slice A0_1 l0_1.length c0_1, .slice A0_2 l0_2.length c0_2] 26 (0, 0)) (by (with_reducible repeat (first | refine qak ?_ _ | refine qap ?_ | refine qaj ?_ _)); exact BK167.out) hb); have n1_ := qac.mk (qai (by repeat (first | (with_reducible first | exact HB.out | apply qae | apply qad | apply qaf | refine qag ?_ GE167.out) | exact HB.out)) hb); clear BK167; clear HB; have BK167 := n0_; have HB := n1_; clear n0_ n1_; (try clear hb); (try clear hb2); (try clear hk); (try clear hi)))
      repeat (go_quiet (first | (go_at_call 58; (with_reducible refine (talikref04_Loop.calls ((qah l0_0 x3_1).f0.f0) ((qah l0_0 x3_1).f0.f1) ((qah l0_0 x3_1).f1.f0) ((qah l0_0 x3_1).f1.f1) ((qah l0_0 x3_1).f2.f0) ((qah l0_0 x3_1).f2.f1) ((qah l0_0 x3_1).f3) ((qah l0_0 x3_1).f4) ((qah l0_0 x3_1).f5) ((qah l0_0 x3_1).f6) ((qah l0_0 x3_1).f7.f0) ((qah l0_0 x3_1).f7.f1) true _ A5.out).mono ?_); rintro e w8 ⟨rfl, hb⟩; have n0_ := qac.mk (qam (g := gb167) (o := .cells #[.slice (some ad168) l0_0.length c0_0, .slice A0_1 l0_1.length c0_1, .slice A0_2 l0_2.length c0_2] 26 (0, 0)) (by (with_reducible repeat (first | refine qak ?_ _ | refine qap ?_ | refine qaj ?_ _)); exact BK167.out) hb); have n1_ := qac.mk (qai (by repeat (first | (with_reducible first | exact HB.out | apply qae | apply qad | apply qaf | refine qag ?_ GE167.out) | exact HB.out)) hb); clear BK167; clear HB; have BK167 := n0_; have HB := n1_; clear n0_ n1_; (try clear hb); (try clear hb2); (try clear hk); (try clear hi))); try go_wp2_with (first | (go_at_call 58; (with_reducible refine (talikref04_Loop.calls ((qah l0_0 x3_1).f0.f0) ((qah l0_0 x3_1).f0.f1) ((qah l0_0 x3_1).f1.f0) ((qah l0_0 x3_1).f1.f1) ((qah l0_0 x3_1).f2.f0) ((qah l0_0 x3_1).f2.f1) ((qah l0_0 x3_1).f3) ((qah l0_0 x3_1).f4) ((qah l0_0 x3_1).f5) ((qah l0_0 x3_1).f6) ((qah l0_0 x3_1).f7.f0) ((qah l0_0 x3_1).f7.f1) true _ A5.out).mono ?_); rintro e w8 ⟨rfl, hb⟩; have n0_ := qac.mk (qam (g := gb167) (o := .cells #[.slice (some ad168) l0_0.length c0_0, .slice A0_1 l0_1.length c0_1, .slice A0_2 l0_2.length c0_2] 26 (0, 0)) (by (with_reducible repeat (first | refine qak ?_ _ | refine qap ?_ | refine qaj ?_ _)); exact BK167.out) hb); have n1_ := qac.mk (qai (by repeat (first | (with_reducible first | exact HB.out | apply qae | apply qad | apply qaf | refine qag ?_ GE167.out) | exact HB.out)) hb); clear BK167; clear HB; have BK167 := n0_; have HB := n1_; clear n0_ n1_; (try clear hb); (try clear hb2); (try clear hk); (try clear hi))))
      go_roundg k1
      case measure => have := HK1.out; omega
      case rel => exact ⟨(wrap64 (x3_1 + 1)), (by first | rfl | (simp; done) | (simp [*]; done)), H', ⟨by have := HK1.out; omega⟩, ⟨by (with_reducible repeat (first | refine qak ?_ _ | refine qap ?_ | refine qaj ?_ _)); exact BK167.out⟩, ⟨by repeat (first | (with_reducible first | exact HB.out | apply qae | apply qad | apply qaf | refine qag ?_ GE167.out) | exact HB.out)⟩⟩
     ·
      replace c6 := Bool.eq_false_iff.mpr c6
      subst c6
      have H1 : (some false) = some r := by rw [if_neg (show ¬ (false = true) by decide)] at H; exact H
      clear H
      have H := H1
      clear H1
      obtain rfl := Option.some.inj H
      have hcz9_0 : wr.cell? ⟨gb167, 0, none⟩ = some (.slice A0_0 l0_0.length c0_0) := (qaa BK167.out 0).trans rfl
      have hcz9_1 : wr.cell? ⟨gb167, 1, none⟩ = some (.slice A0_1 l0_1.length c0_1) := (qaa BK167.out 1).trans rfl
      have hcz9_2 : wr.cell? ⟨gb167, 2, none⟩ = some (.slice A0_2 l0_2.length c0_2) := (qaa BK167.out 2).trans rfl
      have hfz9_0 := qab BK167.out 0
      have hfz9_1 := qab BK167.out 1
      have hfz9_2 := qab BK167.out 2
      have p168 : 0 ≤ (x3_1 : Int) := of_decide_eq_true (by first | (with_reducible assumption) | assumption)
      have q168 : x3_1 < (l0_0.length : Int) := of_decide_eq_true (by first | (with_reducible assumption) | assumption)
      obtain ⟨ad168, e168, hx168_0, hx168_1, hx168_2, hx168_3, hx168_4, hx168_5, hx168_6, hx168_7, hx168_8, hx168_9, hx168_10, hx168_11⟩ := at_T39 HR0_0.out x3_1 p168 q168
      cases e168
      replace hx168_0 := (HB.out.cell (World.block_lt_of_cell? w _ hx168_0)).trans hx168_0
      replace hx168_1 := (HB.out.cell (World.block_lt_of_cell? w _ hx168_1)).trans hx168_1
      replace hx168_2 := (HB.out.cell (World.block_lt_of_cell? w _ hx168_2)).trans hx168_2
      replace hx168_3 := (HB.out.cell (World.block_lt_of_cell? w _ hx168_3)).trans hx168_3
      replace hx168_4 := (HB.out.cell (World.block_lt_of_cell? w _ hx168_4)).trans hx168_4
      replace hx168_5 := (HB.out.cell (World.block_lt_of_cell? w _ hx168_5)).trans hx168_5
      replace hx168_6 := (HB.out.cell (World.block_lt_of_cell? w _ hx168_6)).trans hx168_6
      replace hx168_7 := (HB.out.cell (World.block_lt_of_cell? w _ hx168_7)).trans hx168_7
      replace hx168_8 := (HB.out.cell (World.block_lt_of_cell? w _ hx168_8)).trans hx168_8
      replace hx168_9 := (HB.out.cell (World.block_lt_of_cell? w _ hx168_9)).trans hx168_9
      replace hx168_10 := (HB.out.cell (World.block_lt_of_cell? w _ hx168_10)).trans hx168_10
      replace hx168_11 := (HB.out.cell (World.block_lt_of_cell? w _ hx168_11)).trans hx168_11
      replace p168 := eq_true p168
      replace q168 := eq_true q168
      go_wp2_with (first | (go_at_call 58; (with_reducible refine (talikref04_Loop.calls ((qah l0_0 x3_1).f0.f0) ((qah l0_0 x3_1).f0.f1) ((qah l0_0 x3_1).f1.f0) ((qah l0_0 x3_1).f1.f1) ((qah l0_0 x3_1).f2.f0) ((qah l0_0 x3_1).f2.f1) ((qah l0_0 x3_1).f3) ((qah l0_0 x3_1).f4) ((qah l0_0 x3_1).f5) ((qah l0_0 x3_1).f6) ((qah l0_0 x3_1).f7.f0) ((qah l0_0 x3_1).f7.f1) false _ A5.out).mono ?_); rintro e w10 ⟨rfl, hb⟩; have n0_ := qac.mk (qam (g := gb167) (o := .cells #[.slice (some ad168) l0_0.length c0_0, .slice A0_1 l0_1.length c0_1, .slice A0_2 l0_2.length c0_2] 26 (0, 0)) (by (with_reducible repeat (first | refine qak ?_ _ | refine qap ?_ | refine qaj ?_ _)); exact BK167.out) hb); have n1_ := qac.mk (qai (by repeat (first | (with_reducible first | exact HB.out | apply qae | apply qad | apply qaf | refine qag ?_ GE167.out) | exact HB.out)) hb); clear BK167; clear HB; have BK167 := n0_; have HB := n1_; clear n0_ n1_; (try clear hb); (try clear hb2); (try clear hk); (try clear hi)))
      repeat (go_quiet (first | (go_at_call 58; (with_reducible refine (talikref04_Loop.calls ((qah l0_0 x3_1).f0.f0) ((qah l0_0 x3_1).f0.f1) ((qah l0_0 x3_1).f1.f0) ((qah l0_0 x3_1).f1.f1) ((qah l0_0 x3_1).f2.f0) ((qah l0_0 x3_1).f2.f1) ((qah l0_0 x3_1).f3) ((qah l0_0 x3_1).f4) ((qah l0_0 x3_1).f5) ((qah l0_0 x3_1).f6) ((qah l0_0 x3_1).f7.f0) ((qah l0_0 x3_1).f7.f1) false _ A5.out).mono ?_); rintro e w10 ⟨rfl, hb⟩; have n0_ := qac.mk (qam (g := gb167) (o := .cells #[.slice (some ad168) l0_0.length c0_0, .slice A0_1 l0_1.length c0_1, .slice A0_2 l0_2.length c0_2] 26 (0, 0)) (by (with_reducible repeat (first | refine qak ?_ _ | refine qap ?_ | refine qaj ?_ _)); exact BK167.out) hb); have n1_ := qac.mk (qai (by repeat (first | (with_reducible first | exact HB.out | apply qae | apply qad | apply qaf | refine qag ?_ GE167.out) | exact HB.out)) hb); clear BK167; clear HB; have BK167 := n0_; have HB := n1_; clear n0_ n1_; (try clear hb); (try clear hb2); (try clear hk); (try clear hi))); try go_wp2_with (first | (go_at_call 58; (with_reducible refine (talikref04_Loop.calls ((qah l0_0 x3_1).f0.f0) ((qah l0_0 x3_1).f0.f1) ((qah l0_0 x3_1).f1.f0) ((qah l0_0 x3_1).f1.f1) ((qah l0_0 x3_1).f2.f0) ((qah l0_0 x3_1).f2.f1) ((qah l0_0 x3_1).f3) ((qah l0_0 x3_1).f4) ((qah l0_0 x3_1).f5) ((qah l0_0 x3_1).f6) ((qah l0_0 x3_1).f7.f0) ((qah l0_0 x3_1).f7.f1) false _ A5.out).mono ?_); rintro e w10 ⟨rfl, hb⟩; have n0_ := qac.mk (qam (g := gb167) (o := .cells #[.slice (some ad168) l0_0.length c0_0, .slice A0_1 l0_1.length c0_1, .slice A0_2 l0_2.length c0_2] 26 (0, 0)) (by (with_reducible repeat (first | refine qak ?_ _ | refine qap ?_ | refine qaj ?_ _)); exact BK167.out) hb); have n1_ := qac.mk (qai (by repeat (first | (with_reducible first | exact HB.out | apply qae | apply qad | apply qaf | refine qag ?_ GE167.out) | exact HB.out)) hb); clear BK167; clear HB; have BK167 := n0_; have HB := n1_; clear n0_ n1_; (try clear hb); (try clear hb2); (try clear hk); (try clear hi))))
      go_ret
      exact ⟨by first | rfl | (simp [qas, qat] <;> rfl) | (simp [*, qas, qat] <;> rfl), by repeat (first | (with_reducible first | exact HB.out | apply qae | apply qad | apply qaf | refine qag ?_ GE167.out) | exact HB.out)⟩
    ·
     rw [if_neg c4] at H
     exact absurd H (by simp)
   ·
    rw [if_neg c3] at H
    have c3b0 : decide (x3_1 < (l0_0.length : Int)) = false := decide_eq_false c3
    clear c3
    have H' := qac.mk H
    clear H
    have hcz11_0 : wr.cell? ⟨gb167, 0, none⟩ = some (.slice A0_0 l0_0.length c0_0) := (qaa BK167.out 0).trans rfl
    have hcz11_1 : wr.cell? ⟨gb167, 1, none⟩ = some (.slice A0_1 l0_1.length c0_1) := (qaa BK167.out 1).trans rfl
    have hcz11_2 : wr.cell? ⟨gb167, 2, none⟩ = some (.slice A0_2 l0_2.length c0_2) := (qaa BK167.out 2).trans rfl
    have hfz11_0 := qab BK167.out 0
    have hfz11_1 := qab BK167.out 1
    have hfz11_2 := qab BK167.out 2
    go_wp2
    repeat (go_quiet (fail); try go_wp2)
    go_loopg [4] k1 (fun kq v4 w' => ∃ (x4_2 : Int), v4 = .int .i64 x4_2 ∧ qac (talikref04_Net.l1 kq x4_2 l0_0 l0_1 l0_2 = some r) ∧ qac (kq ≤ k1) ∧ qac (w'.heap[gb167]? = some (.cells #[(.slice A0_0 l0_0.length c0_0), (.slice A0_1 l0_1.length c0_1), (.slice A0_2 l0_2.length c0_2)] 26 (0, 0))) ∧ qac (Below w.heap.size w w'))
    case atStart => exact ⟨(0), (by first | rfl | (simp; done) | (simp [*]; done)), H', ⟨Nat.le_refl _⟩, ⟨by (with_reducible repeat (first | refine qak ?_ _ | refine qap ?_ | refine qaj ?_ _)); exact BK167.out⟩, ⟨by repeat (first | (with_reducible first | exact HB.out | apply qae | apply qad | apply qaf | refine qag ?_ GE167.out) | exact HB.out)⟩⟩
    case round =>
     clear H'
     try clear c1
     try clear p1
     try clear q1
     try clear hx1
     try clear p2
     try clear c3
     try clear c3b0
     try clear c4
     try clear c4b0
     try clear c6
     try clear p6
     try clear hcz11_0
     try clear hcz11_1
     try clear hcz11_2
     try clear hcz7_0
     try clear hcz7_1
     try clear hcz7_2
     try clear hcz9_0
     try clear hcz9_1
     try clear hcz9_2
     try clear hfz11_0
     try clear hfz11_1
     try clear hfz11_2
     try clear hfz7_0
     try clear hfz7_1
     try clear hfz7_2
     try clear hfz9_0
     try clear hfz9_1
     try clear hfz9_2
     try clear hx168_0
     try clear hx168_1
     try clear hx168_10
     try clear hx168_11
     try clear hx168_2
     try clear hx168_3
     try clear hx168_4
     try clear hx168_5
     try clear hx168_6
     try clear hx168_7
     try clear hx168_8
     try clear hx168_9
     try clear p168
     try clear p2
     try clear q168
     obtain ⟨x4_2, rfl, HA, HK2, BK167, HB⟩ := hrel
     cases gk with
     | zero => exact absurd HA.out (by simp [talikref04_Net.l1])
     | succ k2 =>
      have H := HA.out
      clear HA
      simp only [talikref04_Net.l1] at H
      by_cases c12 : x4_2 < (l0_1.length : Int)
      ·
       rw [if_pos c12] at H
       have c12b0 : decide (x4_2 < (l0_1.length : Int)) = true := decide_eq_true c12
       clear c12
       by_cases c13 : 0 ≤ x4_2
       ·
        rw [if_pos c13] at H
        have c13b0 : decide (0 ≤ x4_2) = true := decide_eq_true c13
        clear c13
        replace H := Option.bind_eq_some_iff.mp H
        obtain ⟨t171, A140, H⟩ := H
        replace H : (if t171 = true then (talikref04_Net.l1 k2 (wrap64 (x4_2 + 1)) l0_0 l0_1 l0_2) else (some false)) = some r := H
        have A14 := qac.mk A140
        clear A140
        by_cases c15 : t171 = true
        ·
         subst c15
         have H1 : (talikref04_Net.l1 k2 (wrap64 (x4_2 + 1)) l0_0 l0_1 l0_2) = some r := by rw [if_pos rfl] at H; exact H
         clear H
         have H := H1
         clear H1
         have H' := qac.mk H
         clear H
         have hcz16_0 : wr.cell? ⟨gb167, 0, none⟩ = some (.slice A0_0 l0_0.length c0_0) := (qaa BK167.out 0).trans rfl
         have hcz16_1 : wr.cell? ⟨gb167, 1, none⟩ = some (.slice A0_1 l0_1.length c0_1) := (qaa BK167.out 1).trans rfl
         have hcz16_2 : wr.cell? ⟨gb167, 2, none⟩ = some (.slice A0_2 l0_2.length c0_2) := (qaa BK167.out 2).trans rfl
         have hfz16_0 := qab BK167.out 0
         have hfz16_1 := qab BK167.out 1
         have hfz16_2 := qab BK167.out 2
         have p170 : 0 ≤ (x4_2 : Int) := of_decide_eq_true (by first | (with_reducible assumption) | assumption)
         have q170 : x4_2 < (l0_1.length : Int) := of_decide_eq_true (by first | (with_reducible assumption) | assumption)
         obtain ⟨ad170, e170, hx170_0, hx170_1⟩ := at_T37 HR0_1.out x4_2 p170 q170
         cases e170
         replace hx170_0 := (HB.out.cell (World.block_lt_of_cell? w _ hx170_0)).trans hx170_0
         replace hx170_1 := (HB.out.cell (World.block_lt_of_cell? w _ hx170_1)).trans hx170_1
         replace p170 := eq_true p170
         replace q170 := eq_true q170
         go_wp2_with (first | (go_at_call 59; (with_reducible refine (talikref04_Span.calls ((rd_T37 l0_1 x4_2).f0) ((rd_T37 l0_1 x4_2).f1) 0 1000 true _ A14.out).mono ?_); rintro e w17 ⟨rfl, hb⟩; have n0_ := qac.mk (qam (g := gb167) (o := .cells #[.slice A0_0 l0_0.length c0_0, .slice (some ad170) l0_1.length c0_1, .slice A0_2 l0_2.length c0_2] 26 (0, 0)) (by (with_reducible repeat (first | refine qak ?_ _ | refine qap ?_ | refine qaj ?_ _)); exact BK167.out) hb); have n1_ := qac.mk (qai (by repeat (first | (with_reducible first | exact HB.out | apply qae | apply qad | apply qaf | refine qag ?_ GE167.out) | exact HB.out)) hb); clear BK167; clear HB; have BK167 := n0_; have HB := n1_; clear n0_ n1_; (try clear hb); (try clear hb2); (try clear hk); (try clear hi)))
         repeat (go_quiet (first | (go_at_call 59; (with_reducible refine (talikref04_Span.calls ((rd_T37 l0_1 x4_2).f0) ((rd_T37 l0_1 x4_2).f1) 0 1000 true _ A14.out).mono ?_); rintro e w17 ⟨rfl, hb⟩; have n0_ := qac.mk (qam (g := gb167) (o := .cells #[.slice A0_0 l0_0.length c0_0, .slice (some ad170) l0_1.length c0_1, .slice A0_2 l0_2.length c0_2] 26 (0, 0)) (by (with_reducible repeat (first | refine qak ?_ _ | refine qap ?_ | refine qaj ?_ _)); exact BK167.out) hb); have n1_ := qac.mk (qai (by repeat (first | (with_reducible first | exact HB.out | apply qae | apply qad | apply qaf | refine qag ?_ GE167.out) | exact HB.out)) hb); clear BK167; clear HB; have BK167 := n0_; have HB := n1_; clear n0_ n1_; (try clear hb); (try clear hb2); (try clear hk); (try clear hi))); try go_wp2_with (first | (go_at_call 59; (with_reducible refine (talikref04_Span.calls ((rd_T37 l0_1 x4_2).f0) ((rd_T37 l0_1 x4_2).f1) 0 1000 true _ A14.out).mono ?_); rintro e w17 ⟨rfl, hb⟩; have n0_ := qac.mk (qam (g := gb167) (o := .cells #[.slice A0_0 l0_0.length c0_0, .slice (some ad170) l0_1.length c0_1, .slice A0_2 l0_2.length c0_2] 26 (0, 0)) (by (with_reducible repeat (first | refine qak ?_ _ | refine qap ?_ | refine qaj ?_ _)); exact BK167.out) hb); have n1_ := qac.mk (qai (by repeat (first | (with_reducible first | exact HB.out | apply qae | apply qad | apply qaf | refine qag ?_ GE167.out) | exact HB.out)) hb); clear BK167; clear HB; have BK167 := n0_; have HB := n1_; clear n0_ n1_; (try clear hb); (try clear hb2); (try clear hk); (try clear hi))))
         go_roundg k2
         case measure => have := HK1.out; have := HK2.out; omega
         case rel => exact ⟨(wrap64 (x4_2 + 1)), (by first | rfl | (simp; done) | (simp [*]; done)), H', ⟨by have := HK1.out; have := HK2.out; omega⟩, ⟨by (with_reducible repeat (first | refine qak ?_ _ | refine qap ?_ | refine qaj ?_ _)); exact BK167.out⟩, ⟨by repeat (first | (with_reducible first | exact HB.out | apply qae | apply qad | apply qaf | refine qag ?_ GE167.out) | exact HB.out)⟩⟩
        ·
         replace c15 := Bool.eq_false_iff.mpr c15
         subst c15
         have H1 : (some false) = some r := by rw [if_neg (show ¬ (false = true) by decide)] at H; exact H
         clear H
         have H := H1
         clear H1
         obtain rfl := Option.some.inj H
         have hcz18_0 : wr.cell? ⟨gb167, 0, none⟩ = some (.slice A0_0 l0_0.length c0_0) := (qaa BK167.out 0).trans rfl
         have hcz18_1 : wr.cell? ⟨gb167, 1, none⟩ = some (.slice A0_1 l0_1.length c0_1) := (qaa BK167.out 1).trans rfl
         have hcz18_2 : wr.cell? ⟨gb167, 2, none⟩ = some (.slice A0_2 l0_2.length c0_2) := (qaa BK167.out 2).trans rfl
         have hfz18_0 := qab BK167.out 0
         have hfz18_1 := qab BK167.out 1
         have hfz18_2 := qab BK167.out 2
         have p170 : 0 ≤ (x4_2 : Int) := of_decide_eq_true (by first | (with_reducible assumption) | assumption)
         have q170 : x4_2 < (l0_1.length : Int) := of_decide_eq_true (by first | (with_reducible assumption) | assumption)
         obtain ⟨ad170, e170, hx170_0, hx170_1⟩ := at_T37 HR0_1.out x4_2 p170 q170
         cases e170
         replace hx170_0 := (HB.out.cell (World.block_lt_of_cell? w _ hx170_0)).trans hx170_0
         replace hx170_1 := (HB.out.cell (World.block_lt_of_cell? w _ hx170_1)).trans hx170_1
         replace p170 := eq_true p170
         replace q170 := eq_true q170
         go_wp2_with (first | (go_at_call 59; (with_reducible refine (talikref04_Span.calls ((rd_T37 l0_1 x4_2).f0) ((rd_T37 l0_1 x4_2).f1) 0 1000 false _ A14.out).mono ?_); rintro e w19 ⟨rfl, hb⟩; have n0_ := qac.mk (qam (g := gb167) (o := .cells #[.slice A0_0 l0_0.length c0_0, .slice (some ad170) l0_1.length c0_1, .slice A0_2 l0_2.length c0_2] 26 (0, 0)) (by (with_reducible repeat (first | refine qak ?_ _ | refine qap ?_ | refine qaj ?_ _)); exact BK167.out) hb); have n1_ := qac.mk (qai (by repeat (first | (with_reducible first | exact HB.out | apply qae | apply qad | apply qaf | refine qag ?_ GE167.out) | exact HB.out)) hb); clear BK167; clear HB; have BK167 := n0_; have HB := n1_; clear n0_ n1_; (try clear hb); (try clear hb2); (try clear hk); (try clear hi)))
         repeat (go_quiet (first | (go_at_call 59; (with_reducible refine (talikref04_Span.calls ((rd_T37 l0_1 x4_2).f0) ((rd_T37 l0_1 x4_2).f1) 0 1000 false _ A14.out).mono ?_); rintro e w19 ⟨rfl, hb⟩; have n0_ := qac.mk (qam (g := gb167) (o := .cells #[.slice A0_0 l0_0.length c0_0, .slice (some ad170) l0_1.length c0_1, .slice A0_2 l0_2.length c0_2] 26 (0, 0)) (by (with_reducible repeat (first | refine qak ?_ _ | refine qap ?_ | refine qaj ?_ _)); exact BK167.out) hb); have n1_ := qac.mk (qai (by repeat (first | (with_reducible first | exact HB.out | apply qae | apply qad | apply qaf | refine qag ?_ GE167.out) | exact HB.out)) hb); clear BK167; clear HB; have BK167 := n0_; have HB := n1_; clear n0_ n1_; (try clear hb); (try clear hb2); (try clear hk); (try clear hi))); try go_wp2_with (first | (go_at_call 59; (with_reducible refine (talikref04_Span.calls ((rd_T37 l0_1 x4_2).f0) ((rd_T37 l0_1 x4_2).f1) 0 1000 false _ A14.out).mono ?_); rintro e w19 ⟨rfl, hb⟩; have n0_ := qac.mk (qam (g := gb167) (o := .cells #[.slice A0_0 l0_0.length c0_0, .slice (some ad170) l0_1.length c0_1, .slice A0_2 l0_2.length c0_2] 26 (0, 0)) (by (with_reducible repeat (first | refine qak ?_ _ | refine qap ?_ | refine qaj ?_ _)); exact BK167.out) hb); have n1_ := qac.mk (qai (by repeat (first | (with_reducible first | exact HB.out | apply qae | apply qad | apply qaf | refine qag ?_ GE167.out) | exact HB.out)) hb); clear BK167; clear HB; have BK167 := n0_; have HB := n1_; clear n0_ n1_; (try clear hb); (try clear hb2); (try clear hk); (try clear hi))))
         go_ret
         exact ⟨by first | rfl | (simp [qas, qat] <;> rfl) | (simp [*, qas, qat] <;> rfl), by repeat (first | (with_reducible first | exact HB.out | apply qae | apply qad | apply qaf | refine qag ?_ GE167.out) | exact HB.out)⟩
       ·
        rw [if_neg c13] at H
        exact absurd H (by simp)
      ·
       rw [if_neg c12] at H
       have c12b0 : decide (x4_2 < (l0_1.length : Int)) = false := decide_eq_false c12
       clear c12
       have H' := qac.mk H
       clear H
       have hcz20_0 : wr.cell? ⟨gb167, 0, none⟩ = some (.slice A0_0 l0_0.length c0_0) := (qaa BK167.out 0).trans rfl
       have hcz20_1 : wr.cell? ⟨gb167, 1, none⟩ = some (.slice A0_1 l0_1.length c0_1) := (qaa BK167.out 1).trans rfl
       have hcz20_2 : wr.cell? ⟨gb167, 2, none⟩ = some (.slice A0_2 l0_2.length c0_2) := (qaa BK167.out 2).trans rfl
       have hfz20_0 := qab BK167.out 0
       have hfz20_1 := qab BK167.out 1
       have hfz20_2 := qab BK167.out 2
       go_wp2
       repeat (go_quiet (fail); try go_wp2)
       go_loopg [5] k2 (fun kq v5 w' => ∃ (x5_3 : Int), v5 = .int .i64 x5_3 ∧ qac (talikref04_Net.l2 kq x5_3 l0_0 l0_1 l0_2 = some r) ∧ qac (kq ≤ k2) ∧ qac (w'.heap[gb167]? = some (.cells #[(.slice A0_0 l0_0.length c0_0), (.slice A0_1 l0_1.length c0_1), (.slice A0_2 l0_2.length c0_2)] 26 (0, 0))) ∧ qac (Below w.heap.size w w'))
       case atStart => exact ⟨(0), (by first | rfl | (simp; done) | (simp [*]; done)), H', ⟨Nat.le_refl _⟩, ⟨by (with_reducible repeat (first | refine qak ?_ _ | refine qap ?_ | refine qaj ?_ _)); exact BK167.out⟩, ⟨by repeat (first | (with_reducible first | exact HB.out | apply qae | apply qad | apply qaf | refine qag ?_ GE167.out) | exact HB.out)⟩⟩
       case round =>
        clear H'
        try clear c1
        try clear p1
        try clear q1
        try clear hx1
        try clear p2
        try clear c3
        try clear c3b0
        try clear c4
        try clear c4b0
        try clear c6
        try clear p6
        try clear c12
        try clear c12b0
        try clear c13
        try clear c13b0
        try clear c15
        try clear p16
        try clear q16
        try clear hx16
        try clear p17
        try clear q17
        try clear hx17
        try clear c19
        try clear hcz11_0
        try clear hcz11_1
        try clear hcz11_2
        try clear hcz16_0
        try clear hcz16_1
        try clear hcz16_2
        try clear hcz18_0
        try clear hcz18_1
        try clear hcz18_2
        try clear hcz20_0
        try clear hcz20_1
        try clear hcz20_2
        try clear hcz7_0
        try clear hcz7_1
        try clear hcz7_2
        try clear hcz9_0
        try clear hcz9_1
        try clear hcz9_2
        try clear hfz11_0
        try clear hfz11_1
        try clear hfz11_2
        try clear hfz16_0
        try clear hfz16_1
        try clear hfz16_2
        try clear hfz18_0
        try clear hfz18_1
        try clear hfz18_2
        try clear hfz20_0
        try clear hfz20_1
        try clear hfz20_2
        try clear hfz7_0
        try clear hfz7_1
        try clear hfz7_2
        try clear hfz9_0
        try clear hfz9_1
        try clear hfz9_2
        try clear hx168_0
        try clear hx168_1
        try clear hx168_10
        try clear hx168_11
        try clear hx168_2
        try clear hx168_3
        try clear hx168_4
        try clear hx168_5
        try clear hx168_6
        try clear hx168_7
        try clear hx168_8
        try clear hx168_9
        try clear hx170_0
        try clear hx170_1
        try clear p1
        try clear p168
        try clear p170
        try clear p2
        try clear p6
        try clear q1
        try clear q168
        try clear q170
        obtain ⟨x5_3, rfl, HA, HK3, BK167, HB⟩ := hrel
        cases gk with
        | zero => exact absurd HA.out (by simp [talikref04_Net.l2])
        | succ k3 =>
         have H := HA.out
         clear HA
         simp only [talikref04_Net.l2] at H
         by_cases c21 : x5_3 < (l0_2.length : Int)
         ·
          rw [if_pos c21] at H
          have c21b0 : decide (x5_3 < (l0_2.length : Int)) = true := decide_eq_true c21
          clear c21
          by_cases c22 : 0 ≤ x5_3
          ·
           rw [if_pos c22] at H
           have c22b0 : decide (0 ≤ x5_3) = true := decide_eq_true c22
           clear c22
           by_cases c23 : ((rd_L1 l0_2 x5_3).length : Int) = (wrap64 ((l0_0.length : Int) + 1))
           ·
            rw [if_pos c23] at H
            have c23b0 : (((rd_L1 l0_2 x5_3).length : Int) == (wrap64 ((l0_0.length : Int) + 1))) = true := beq_iff_eq.mpr c23
            have c23b1 : (((rd_L1 l0_2 x5_3).length : Int) != (wrap64 ((l0_0.length : Int) + 1))) = false := bne_eq_false_iff_eq.mpr c23
            clear c23
            have H' := qac.mk H
            clear H
            have hcz24_0 : wr.cell? ⟨gb167, 0, none⟩ = some (.slice A0_0 l0_0.length c0_0) := (qaa BK167.out 0).trans rfl
            have hcz24_1 : wr.cell? ⟨gb167, 1, none⟩ = some (.slice A0_1 l0_1.length c0_1) := (qaa BK167.out 1).trans rfl
            have hcz24_2 : wr.cell? ⟨gb167, 2, none⟩ = some (.slice A0_2 l0_2.length c0_2) := (qaa BK167.out 2).trans rfl
            have hfz24_0 := qab BK167.out 0
            have hfz24_1 := qab BK167.out 1
            have hfz24_2 := qab BK167.out 2
            have p174 : 0 ≤ (x5_3 : Int) := of_decide_eq_true (by first | (with_reducible assumption) | assumption)
            have q174 : x5_3 < (l0_2.length : Int) := of_decide_eq_true (by first | (with_reducible assumption) | assumption)
            obtain ⟨ad174, A174_0, c174_0, e174, hx174_0, hl174_0, hi174_0⟩ := at_L1 HR0_2.out x5_3 p174 q174
            cases e174
            replace hx174_0 := (HB.out.cell (World.block_lt_of_cell? w _ hx174_0)).trans hx174_0
            have HR174_0 := qac.mk hi174_0
            have HC174_0 := qac.mk hl174_0
            clear hi174_0 hl174_0
            replace p174 := eq_true p174
            replace q174 := eq_true q174
            go_wp2
            repeat (go_quiet (fail); try go_wp2)
            go_loopg [6] k3 (fun kq v6 w' => ∃ (x6_4 : Int), v6 = .int .i64 x6_4 ∧ qac (talikref04_Net.l3 kq x5_3 x6_4 l0_0 l0_1 l0_2 = some r) ∧ qac (kq ≤ k3) ∧ qac (w'.heap[gb167]? = some (.cells #[(.slice A0_0 l0_0.length c0_0), (.slice A0_1 l0_1.length c0_1), (.slice (some ad174) l0_2.length c0_2)] 26 (0, 0))) ∧ qac (Below w.heap.size w w'))
            case atStart => exact ⟨(0), (by first | rfl | (simp; done) | (simp [*]; done)), H', ⟨Nat.le_refl _⟩, ⟨by (with_reducible repeat (first | refine qak ?_ _ | refine qap ?_ | refine qaj ?_ _)); exact BK167.out⟩, ⟨by repeat (first | (with_reducible first | exact HB.out | apply qae | apply qad | apply qaf | refine qag ?_ GE167.out) | exact HB.out)⟩⟩
            case round =>
             clear H'
             try clear c1
             try clear p1
             try clear q1
             try clear hx1
             try clear c2
             try clear p2
             try clear c3
             try clear c3b0
             try clear c4
             try clear c4b0
             try clear c6
             try clear p6
             try clear c12
             try clear c12b0
             try clear c13
             try clear c13b0
             try clear c15
             try clear p16
             try clear q16
             try clear hx16
             try clear c17
             try clear p17
             try clear q17
             try clear hx17
             try clear c19
             try clear c21
             try clear c21b0
             try clear c22
             try clear c22b0
             try clear c23
             try clear c23b0
             try clear c23b1
             try clear hcz11_0
             try clear hcz11_1
             try clear hcz11_2
             try clear hcz16_0
             try clear hcz16_1
             try clear hcz16_2
             try clear hcz18_0
             try clear hcz18_1
             try clear hcz18_2
             try clear hcz20_0
             try clear hcz20_1
             try clear hcz20_2
             try clear hcz24_0
             try clear hcz24_1
             try clear hcz24_2
             try clear hcz7_0
             try clear hcz7_1
             try clear hcz7_2
             try clear hcz9_0
             try clear hcz9_1
             try clear hcz9_2
             try clear hfz11_0
             try clear hfz11_1
             try clear hfz11_2
             try clear hfz16_0
             try clear hfz16_1
             try clear hfz16_2
             try clear hfz18_0
             try clear hfz18_1
             try clear hfz18_2
             try clear hfz20_0
             try clear hfz20_1
             try clear hfz20_2
             try clear hfz24_0
             try clear hfz24_1
             try clear hfz24_2
             try clear hfz7_0
             try clear hfz7_1
             try clear hfz7_2
             try clear hfz9_0
             try clear hfz9_1
             try clear hfz9_2
             try clear hx168_0
             try clear hx168_1
             try clear hx168_10
             try clear hx168_11
             try clear hx168_2
             try clear hx168_3
             try clear hx168_4
             try clear hx168_5
             try clear hx168_6
             try clear hx168_7
             try clear hx168_8
             try clear hx168_9
             try clear hx170_0
             try clear hx170_1
             try clear hx174_0
             try clear p1
             try clear p16
             try clear p168
             try clear p17
             try clear p170
             try clear p174
             try clear p2
             try clear p6
             try clear q1
             try clear q16
             try clear q168
             try clear q17
             try clear q170
             try clear q174
             obtain ⟨x6_4, rfl, HA, HK4, BK167, HB⟩ := hrel
             cases gk with
             | zero => exact absurd HA.out (by simp [talikref04_Net.l3])
             | succ k4 =>
              have H := HA.out
              clear HA
              simp only [talikref04_Net.l3] at H
              by_cases c25 : 0 ≤ x5_3
              ·
               rw [if_pos c25] at H
               have c25b0 : decide (0 ≤ x5_3) = true := decide_eq_true c25
               clear c25
               by_cases c26 : x5_3 < (l0_2.length : Int)
               ·
                rw [if_pos c26] at H
                have c26b0 : decide (x5_3 < (l0_2.length : Int)) = true := decide_eq_true c26
                clear c26
                by_cases c27 : x6_4 < ((rd_L1 l0_2 x5_3).length : Int)
                ·
                 rw [if_pos c27] at H
                 have c27b0 : decide (x6_4 < ((rd_L1 l0_2 x5_3).length : Int)) = true := decide_eq_true c27
                 clear c27
                 by_cases c28 : 0 ≤ x6_4
                 ·
                  rw [if_pos c28] at H
                  have c28b0 : decide (0 ≤ x6_4) = true := decide_eq_true c28
                  clear c28
                  replace H := Option.bind_eq_some_iff.mp H
                  obtain ⟨t178, A290, H⟩ := H
                  replace H : (if t178 = true then (if x5_3 = x6_4 then (if (rd (rd_L1 l0_2 x5_3) x6_4) = 0 then (talikref04_Net.l3 k4 x5_3 (wrap64 (x6_4 + 1)) l0_0 l0_1 l0_2) else (some false)) else (talikref04_Net.l3 k4 x5_3 (wrap64 (x6_4 + 1)) l0_0 l0_1 l0_2)) else (some false)) = some r := H
                  have A29 := qac.mk A290
                  clear A290
                  by_cases c30 : t178 = true
                  ·
                   subst c30
                   have H1 : (if x5_3 = x6_4 then (if (rd (rd_L1 l0_2 x5_3) x6_4) = 0 then (talikref04_Net.l3 k4 x5_3 (wrap64 (x6_4 + 1)) l0_0 l0_1 l0_2) else (some false)) else (talikref04_Net.l3 k4 x5_3 (wrap64 (x6_4 + 1)) l0_0 l0_1 l0_2)) = some r := by rw [if_pos rfl] at H; exact H
                   clear H
                   have H := H1
                   clear H1
                   by_cases c31 : x5_3 = x6_4
                   ·
                    rw [if_pos c31] at H
                    have c31b0 : (x5_3 == x6_4) = true := beq_iff_eq.mpr c31
                    have c31b1 : (x5_3 != x6_4) = false := bne_eq_false_iff_eq.mpr c31
                    clear c31
                    by_cases c32 : (rd (rd_L1 l0_2 x5_3) x6_4) = 0
                    ·
                     rw [if_pos c32] at H
                     have c32b0 : ((rd (rd_L1 l0_2 x5_3) x6_4) == 0) = true := beq_iff_eq.mpr c32
                     have c32b1 : ((rd (rd_L1 l0_2 x5_3) x6_4) != 0) = false := bne_eq_false_iff_eq.mpr c32
                     clear c32
                     have H' := qac.mk H
                     clear H
                     have hcz33_0 : wr.cell? ⟨gb167, 0, none⟩ = some (.slice A0_0 l0_0.length c0_0) := (qaa BK167.out 0).trans rfl
                     have hcz33_1 : wr.cell? ⟨gb167, 1, none⟩ = some (.slice A0_1 l0_1.length c0_1) := (qaa BK167.out 1).trans rfl
                     have hcz33_2 : wr.cell? ⟨gb167, 2, none⟩ = some (.slice (some ad174) l0_2.length c0_2) := (qaa BK167.out 2).trans rfl
                     have hfz33_0 := qab BK167.out 0
                     have hfz33_1 := qab BK167.out 1
                     have hfz33_2 := qab BK167.out 2
                     have p175 : 0 ≤ (x5_3 : Int) := of_decide_eq_true (by first | (with_reducible assumption) | assumption)
                     have q175 : x5_3 < (l0_2.length : Int) := of_decide_eq_true (by first | (with_reducible assumption) | assumption)
                     obtain ⟨ad175, A175_0, c175_0, e175, hx175_0, hl175_0, hi175_0⟩ := at_L1 HR0_2.out x5_3 p175 q175
                     obtain rfl : ad174 = ad175 := (by injection e175)
                     replace hx175_0 := (HB.out.cell (World.block_lt_of_cell? w _ hx175_0)).trans hx175_0
                     have HR175_0 := qac.mk hi175_0
                     have HC175_0 := qac.mk hl175_0
                     clear hi175_0 hl175_0
                     replace p175 := eq_true p175
                     replace q175 := eq_true q175
                     have p176 : 0 ≤ (x5_3 : Int) := of_decide_eq_true (by first | (with_reducible assumption) | assumption)
                     have q176 : x5_3 < (l0_2.length : Int) := of_decide_eq_true (by first | (with_reducible assumption) | assumption)
                     obtain ⟨ad176, A176_0, c176_0, e176, hx176_0, hl176_0, hi176_0⟩ := at_L1 HR0_2.out x5_3 p176 q176
                     obtain rfl : ad174 = ad176 := (by injection e176)
                     replace hx176_0 := (HB.out.cell (World.block_lt_of_cell? w _ hx176_0)).trans hx176_0
                     have HR176_0 := qac.mk hi176_0
                     have HC176_0 := qac.mk hl176_0
                     clear hi176_0 hl176_0
                     replace p176 := eq_true p176
                     replace q176 := eq_true q176
                     have ea_ := Option.some.inj (hx175_0.symm.trans hx176_0)
                     injection ea_ with ea_ en_ ec_
                     subst ea_
                     subst ec_
                     clear en_
                     have p177 : 0 ≤ (x6_4 : Int) := of_decide_eq_true (by first | (with_reducible assumption) | assumption)
                     have q177 : x6_4 < ((rd_L1 l0_2 x5_3).length : Int) := of_decide_eq_true (by first | (with_reducible assumption) | assumption)
                     obtain ⟨ad177, e177, hx177_0⟩ := Kd.at_int HR176_0.out x6_4 p177 q177
                     cases e177
                     replace hx177_0 := (HB.out.cell (World.block_lt_of_cell? w _ hx177_0)).trans hx177_0
                     replace p177 := eq_true p177
                     replace q177 := eq_true q177
                     go_wp2_with (first | (go_at_call 60; (with_reducible refine (talikref04_in.calls (rd (rd_L1 l0_2 x5_3) x6_4) 0 72 true _ A29.out).mono ?_); rintro e w' ⟨rfl, ⟨nd, rfl⟩⟩; (try first | exact ⟨rfl, _, World.drewN_drewN _ _ _⟩ | exact ⟨rfl, _, Eq.trans (World.drewN_drewN _ _ _) (congrArg (World.drewN _) (Nat.add_assoc _ _ _))⟩); have p179 : 0 ≤ (x5_3 : Int) := of_decide_eq_true (by first | (with_reducible assumption) | assumption); have q179 : x5_3 < (l0_2.length : Int) := of_decide_eq_true (by first | (with_reducible assumption) | assumption); obtain ⟨ad179, A179_0, c179_0, e179, hx179_0, hl179_0, hi179_0⟩ := at_L1 HR0_2.out x5_3 p179 q179; obtain rfl : ad174 = ad179 := (by injection e179); replace hx179_0 := (HB.out.cell (World.block_lt_of_cell? w _ hx179_0)).trans hx179_0; have HR179_0 := qac.mk hi179_0; have HC179_0 := qac.mk hl179_0; clear hi179_0 hl179_0; replace p179 := eq_true p179; replace q179 := eq_true q179; have ea_ := Option.some.inj (hx175_0.symm.trans hx179_0); injection ea_ with ea_ en_ ec_; subst ea_; subst ec_; clear en_; have p180 : 0 ≤ (x6_4 : Int) := of_decide_eq_true (by first | (with_reducible assumption) | assumption); have q180 : x6_4 < ((rd_L1 l0_2 x5_3).length : Int) := of_decide_eq_true (by first | (with_reducible assumption) | assumption); obtain ⟨ad180, e180, hx180_0⟩ := Kd.at_int HR179_0.out x6_4 p180 q180; cases e180; replace hx180_0 := (HB.out.cell (World.block_lt_of_cell? w _ hx180_0)).trans hx180_0; replace p180 := eq_true p180; replace q180 := eq_true q180))
                     repeat (go_quiet (first | (go_at_call 60; (with_reducible refine (talikref04_in.calls (rd (rd_L1 l0_2 x5_3) x6_4) 0 72 true _ A29.out).mono ?_); rintro e w' ⟨rfl, ⟨nd, rfl⟩⟩; (try first | exact ⟨rfl, _, World.drewN_drewN _ _ _⟩ | exact ⟨rfl, _, Eq.trans (World.drewN_drewN _ _ _) (congrArg (World.drewN _) (Nat.add_assoc _ _ _))⟩); have p179 : 0 ≤ (x5_3 : Int) := of_decide_eq_true (by first | (with_reducible assumption) | assumption); have q179 : x5_3 < (l0_2.length : Int) := of_decide_eq_true (by first | (with_reducible assumption) | assumption); obtain ⟨ad179, A179_0, c179_0, e179, hx179_0, hl179_0, hi179_0⟩ := at_L1 HR0_2.out x5_3 p179 q179; obtain rfl : ad174 = ad179 := (by injection e179); replace hx179_0 := (HB.out.cell (World.block_lt_of_cell? w _ hx179_0)).trans hx179_0; have HR179_0 := qac.mk hi179_0; have HC179_0 := qac.mk hl179_0; clear hi179_0 hl179_0; replace p179 := eq_true p179; replace q179 := eq_true q179; have ea_ := Option.some.inj (hx175_0.symm.trans hx179_0); injection ea_ with ea_ en_ ec_; subst ea_; subst ec_; clear en_; have p180 : 0 ≤ (x6_4 : Int) := of_decide_eq_true (by first | (with_reducible assumption) | assumption); have q180 : x6_4 < ((rd_L1 l0_2 x5_3).length : Int) := of_decide_eq_true (by first | (with_reducible assumption) | assumption); obtain ⟨ad180, e180, hx180_0⟩ := Kd.at_int HR179_0.out x6_4 p180 q180; cases e180; replace hx180_0 := (HB.out.cell (World.block_lt_of_cell? w _ hx180_0)).trans hx180_0; replace p180 := eq_true p180; replace q180 := eq_true q180)); try go_wp2_with (first | (go_at_call 60; (with_reducible refine (talikref04_in.calls (rd (rd_L1 l0_2 x5_3) x6_4) 0 72 true _ A29.out).mono ?_); rintro e w' ⟨rfl, ⟨nd, rfl⟩⟩; (try first | exact ⟨rfl, _, World.drewN_drewN _ _ _⟩ | exact ⟨rfl, _, Eq.trans (World.drewN_drewN _ _ _) (congrArg (World.drewN _) (Nat.add_assoc _ _ _))⟩); have p179 : 0 ≤ (x5_3 : Int) := of_decide_eq_true (by first | (with_reducible assumption) | assumption); have q179 : x5_3 < (l0_2.length : Int) := of_decide_eq_true (by first | (with_reducible assumption) | assumption); obtain ⟨ad179, A179_0, c179_0, e179, hx179_0, hl179_0, hi179_0⟩ := at_L1 HR0_2.out x5_3 p179 q179; obtain rfl : ad174 = ad179 := (by injection e179); replace hx179_0 := (HB.out.cell (World.block_lt_of_cell? w _ hx179_0)).trans hx179_0; have HR179_0 := qac.mk hi179_0; have HC179_0 := qac.mk hl179_0; clear hi179_0 hl179_0; replace p179 := eq_true p179; replace q179 := eq_true q179; have ea_ := Option.some.inj (hx175_0.symm.trans hx179_0); injection ea_ with ea_ en_ ec_; subst ea_; subst ec_; clear en_; have p180 : 0 ≤ (x6_4 : Int) := of_decide_eq_true (by first | (with_reducible assumption) | assumption); have q180 : x6_4 < ((rd_L1 l0_2 x5_3).length : Int) := of_decide_eq_true (by first | (with_reducible assumption) | assumption); obtain ⟨ad180, e180, hx180_0⟩ := Kd.at_int HR179_0.out x6_4 p180 q180; cases e180; replace hx180_0 := (HB.out.cell (World.block_lt_of_cell? w _ hx180_0)).trans hx180_0; replace p180 := eq_true p180; replace q180 := eq_true q180)))
                     go_roundg k4
                     case measure => have := HK1.out; have := HK2.out; have := HK3.out; have := HK4.out; omega
                     case rel => exact ⟨(wrap64 (x6_4 + 1)), (by first | rfl | (simp; done) | (simp [*]; done)), H', ⟨by have := HK1.out; have := HK2.out; have := HK3.out; have := HK4.out; omega⟩, ⟨by (with_reducible repeat (first | refine qak ?_ _ | refine qap ?_ | refine qaj ?_ _)); exact BK167.out⟩, ⟨by repeat (first | (with_reducible first | exact HB.out | apply qae | apply qad | apply qaf | refine qag ?_ GE167.out) | exact HB.out)⟩⟩
                    ·
                     rw [if_neg c32] at H
                     have c32b0 : ((rd (rd_L1 l0_2 x5_3) x6_4) == 0) = false := beq_eq_false_iff_ne.mpr c32
                     have c32b1 : ((rd (rd_L1 l0_2 x5_3) x6_4) != 0) = true := bne_iff_ne.mpr c32
                     obtain rfl := Option.some.inj H
                     have hcz34_0 : wr.cell? ⟨gb167, 0, none⟩ = some (.slice A0_0 l0_0.length c0_0) := (qaa BK167.out 0).trans rfl
                     have hcz34_1 : wr.cell? ⟨gb167, 1, none⟩ = some (.slice A0_1 l0_1.length c0_1) := (qaa BK167.out 1).trans rfl
                     have hcz34_2 : wr.cell? ⟨gb167, 2, none⟩ = some (.slice (some ad174) l0_2.length c0_2) := (qaa BK167.out 2).trans rfl
                     have hfz34_0 := qab BK167.out 0
                     have hfz34_1 := qab BK167.out 1
                     have hfz34_2 := qab BK167.out 2
                     have p175 : 0 ≤ (x5_3 : Int) := of_decide_eq_true (by first | (with_reducible assumption) | assumption)
                     have q175 : x5_3 < (l0_2.length : Int) := of_decide_eq_true (by first | (with_reducible assumption) | assumption)
                     obtain ⟨ad175, A175_0, c175_0, e175, hx175_0, hl175_0, hi175_0⟩ := at_L1 HR0_2.out x5_3 p175 q175
                     obtain rfl : ad174 = ad175 := (by injection e175)
                     replace hx175_0 := (HB.out.cell (World.block_lt_of_cell? w _ hx175_0)).trans hx175_0
                     have HR175_0 := qac.mk hi175_0
                     have HC175_0 := qac.mk hl175_0
                     clear hi175_0 hl175_0
                     replace p175 := eq_true p175
                     replace q175 := eq_true q175
                     have p176 : 0 ≤ (x5_3 : Int) := of_decide_eq_true (by first | (with_reducible assumption) | assumption)
                     have q176 : x5_3 < (l0_2.length : Int) := of_decide_eq_true (by first | (with_reducible assumption) | assumption)
                     obtain ⟨ad176, A176_0, c176_0, e176, hx176_0, hl176_0, hi176_0⟩ := at_L1 HR0_2.out x5_3 p176 q176
                     obtain rfl : ad174 = ad176 := (by injection e176)
                     replace hx176_0 := (HB.out.cell (World.block_lt_of_cell? w _ hx176_0)).trans hx176_0
                     have HR176_0 := qac.mk hi176_0
                     have HC176_0 := qac.mk hl176_0
                     clear hi176_0 hl176_0
                     replace p176 := eq_true p176
                     replace q176 := eq_true q176
                     have ea_ := Option.some.inj (hx175_0.symm.trans hx176_0)
                     injection ea_ with ea_ en_ ec_
                     subst ea_
                     subst ec_
                     clear en_
                     have p177 : 0 ≤ (x6_4 : Int) := of_decide_eq_true (by first | (with_reducible assumption) | assumption)
                     have q177 : x6_4 < ((rd_L1 l0_2 x5_3).length : Int) := of_decide_eq_true (by first | (with_reducible assumption) | assumption)
                     obtain ⟨ad177, e177, hx177_0⟩ := Kd.at_int HR176_0.out x6_4 p177 q177
                     cases e177
                     replace hx177_0 := (HB.out.cell (World.block_lt_of_cell? w _ hx177_0)).trans hx177_0
                     replace p177 := eq_true p177
                     replace q177 := eq_true q177
                     go_wp2_with (first | (go_at_call 60; (with_reducible refine (talikref04_in.calls (rd (rd_L1 l0_2 x5_3) x6_4) 0 72 true _ A29.out).mono ?_); rintro e w' ⟨rfl, ⟨nd, rfl⟩⟩; (try first | exact ⟨rfl, _, World.drewN_drewN _ _ _⟩ | exact ⟨rfl, _, Eq.trans (World.drewN_drewN _ _ _) (congrArg (World.drewN _) (Nat.add_assoc _ _ _))⟩); have p179 : 0 ≤ (x5_3 : Int) := of_decide_eq_true (by first | (with_reducible assumption) | assumption); have q179 : x5_3 < (l0_2.length : Int) := of_decide_eq_true (by first | (with_reducible assumption) | assumption); obtain ⟨ad179, A179_0, c179_0, e179, hx179_0, hl179_0, hi179_0⟩ := at_L1 HR0_2.out x5_3 p179 q179; obtain rfl : ad174 = ad179 := (by injection e179); replace hx179_0 := (HB.out.cell (World.block_lt_of_cell? w _ hx179_0)).trans hx179_0; have HR179_0 := qac.mk hi179_0; have HC179_0 := qac.mk hl179_0; clear hi179_0 hl179_0; replace p179 := eq_true p179; replace q179 := eq_true q179; have ea_ := Option.some.inj (hx175_0.symm.trans hx179_0); injection ea_ with ea_ en_ ec_; subst ea_; subst ec_; clear en_; have p180 : 0 ≤ (x6_4 : Int) := of_decide_eq_true (by first | (with_reducible assumption) | assumption); have q180 : x6_4 < ((rd_L1 l0_2 x5_3).length : Int) := of_decide_eq_true (by first | (with_reducible assumption) | assumption); obtain ⟨ad180, e180, hx180_0⟩ := Kd.at_int HR179_0.out x6_4 p180 q180; cases e180; replace hx180_0 := (HB.out.cell (World.block_lt_of_cell? w _ hx180_0)).trans hx180_0; replace p180 := eq_true p180; replace q180 := eq_true q180))
                     repeat (go_quiet (first | (go_at_call 60; (with_reducible refine (talikref04_in.calls (rd (rd_L1 l0_2 x5_3) x6_4) 0 72 true _ A29.out).mono ?_); rintro e w' ⟨rfl, ⟨nd, rfl⟩⟩; (try first | exact ⟨rfl, _, World.drewN_drewN _ _ _⟩ | exact ⟨rfl, _, Eq.trans (World.drewN_drewN _ _ _) (congrArg (World.drewN _) (Nat.add_assoc _ _ _))⟩); have p179 : 0 ≤ (x5_3 : Int) := of_decide_eq_true (by first | (with_reducible assumption) | assumption); have q179 : x5_3 < (l0_2.length : Int) := of_decide_eq_true (by first | (with_reducible assumption) | assumption); obtain ⟨ad179, A179_0, c179_0, e179, hx179_0, hl179_0, hi179_0⟩ := at_L1 HR0_2.out x5_3 p179 q179; obtain rfl : ad174 = ad179 := (by injection e179); replace hx179_0 := (HB.out.cell (World.block_lt_of_cell? w _ hx179_0)).trans hx179_0; have HR179_0 := qac.mk hi179_0; have HC179_0 := qac.mk hl179_0; clear hi179_0 hl179_0; replace p179 := eq_true p179; replace q179 := eq_true q179; have ea_ := Option.some.inj (hx175_0.symm.trans hx179_0); injection ea_ with ea_ en_ ec_; subst ea_; subst ec_; clear en_; have p180 : 0 ≤ (x6_4 : Int) := of_decide_eq_true (by first | (with_reducible assumption) | assumption); have q180 : x6_4 < ((rd_L1 l0_2 x5_3).length : Int) := of_decide_eq_true (by first | (with_reducible assumption) | assumption); obtain ⟨ad180, e180, hx180_0⟩ := Kd.at_int HR179_0.out x6_4 p180 q180; cases e180; replace hx180_0 := (HB.out.cell (World.block_lt_of_cell? w _ hx180_0)).trans hx180_0; replace p180 := eq_true p180; replace q180 := eq_true q180)); try go_wp2_with (first | (go_at_call 60; (with_reducible refine (talikref04_in.calls (rd (rd_L1 l0_2 x5_3) x6_4) 0 72 true _ A29.out).mono ?_); rintro e w' ⟨rfl, ⟨nd, rfl⟩⟩; (try first | exact ⟨rfl, _, World.drewN_drewN _ _ _⟩ | exact ⟨rfl, _, Eq.trans (World.drewN_drewN _ _ _) (congrArg (World.drewN _) (Nat.add_assoc _ _ _))⟩); have p179 : 0 ≤ (x5_3 : Int) := of_decide_eq_true (by first | (with_reducible assumption) | assumption); have q179 : x5_3 < (l0_2.length : Int) := of_decide_eq_true (by first | (with_reducible assumption) | assumption); obtain ⟨ad179, A179_0, c179_0, e179, hx179_0, hl179_0, hi179_0⟩ := at_L1 HR0_2.out x5_3 p179 q179; obtain rfl : ad174 = ad179 := (by injection e179); replace hx179_0 := (HB.out.cell (World.block_lt_of_cell? w _ hx179_0)).trans hx179_0; have HR179_0 := qac.mk hi179_0; have HC179_0 := qac.mk hl179_0; clear hi179_0 hl179_0; replace p179 := eq_true p179; replace q179 := eq_true q179; have ea_ := Option.some.inj (hx175_0.symm.trans hx179_0); injection ea_ with ea_ en_ ec_; subst ea_; subst ec_; clear en_; have p180 : 0 ≤ (x6_4 : Int) := of_decide_eq_true (by first | (with_reducible assumption) | assumption); have q180 : x6_4 < ((rd_L1 l0_2 x5_3).length : Int) := of_decide_eq_true (by first | (with_reducible assumption) | assumption); obtain ⟨ad180, e180, hx180_0⟩ := Kd.at_int HR179_0.out x6_4 p180 q180; cases e180; replace hx180_0 := (HB.out.cell (World.block_lt_of_cell? w _ hx180_0)).trans hx180_0; replace p180 := eq_true p180; replace q180 := eq_true q180)))
                     go_ret
                     exact ⟨by first | rfl | (simp [qas, qat] <;> rfl) | (simp [*, qas, qat] <;> rfl), by repeat (first | (with_reducible first | exact HB.out | apply qae | apply qad | apply qaf | refine qag ?_ GE167.out) | exact HB.out)⟩
                   ·
                    rw [if_neg c31] at H
                    have c31b0 : (x5_3 == x6_4) = false := beq_eq_false_iff_ne.mpr c31
                    have c31b1 : (x5_3 != x6_4) = true := bne_iff_ne.mpr c31
                    have H' := qac.mk H
                    clear H
                    have hcz35_0 : wr.cell? ⟨gb167, 0, none⟩ = some (.slice A0_0 l0_0.length c0_0) := (qaa BK167.out 0).trans rfl
                    have hcz35_1 : wr.cell? ⟨gb167, 1, none⟩ = some (.slice A0_1 l0_1.length c0_1) := (qaa BK167.out 1).trans rfl
                    have hcz35_2 : wr.cell? ⟨gb167, 2, none⟩ = some (.slice (some ad174) l0_2.length c0_2) := (qaa BK167.out 2).trans rfl
                    have hfz35_0 := qab BK167.out 0
                    have hfz35_1 := qab BK167.out 1
                    have hfz35_2 := qab BK167.out 2
                    have p175 : 0 ≤ (x5_3 : Int) := of_decide_eq_true (by first | (with_reducible assumption) | assumption)
                    have q175 : x5_3 < (l0_2.length : Int) := of_decide_eq_true (by first | (with_reducible assumption) | assumption)
                    obtain ⟨ad175, A175_0, c175_0, e175, hx175_0, hl175_0, hi175_0⟩ := at_L1 HR0_2.out x5_3 p175 q175
                    obtain rfl : ad174 = ad175 := (by injection e175)
                    replace hx175_0 := (HB.out.cell (World.block_lt_of_cell? w _ hx175_0)).trans hx175_0
                    have HR175_0 := qac.mk hi175_0
                    have HC175_0 := qac.mk hl175_0
                    clear hi175_0 hl175_0
                    replace p175 := eq_true p175
                    replace q175 := eq_true q175
                    have p176 : 0 ≤ (x5_3 : Int) := of_decide_eq_true (by first | (with_reducible assumption) | assumption)
                    have q176 : x5_3 < (l0_2.length : Int) := of_decide_eq_true (by first | (with_reducible assumption) | assumption)
                    obtain ⟨ad176, A176_0, c176_0, e176, hx176_0, hl176_0, hi176_0⟩ := at_L1 HR0_2.out x5_3 p176 q176
                    obtain rfl : ad174 = ad176 := (by injection e176)
                    replace hx176_0 := (HB.out.cell (World.block_lt_of_cell? w _ hx176_0)).trans hx176_0
                    have HR176_0 := qac.mk hi176_0
                    have HC176_0 := qac.mk hl176_0
                    clear hi176_0 hl176_0
                    replace p176 := eq_true p176
                    replace q176 := eq_true q176
                    have ea_ := Option.some.inj (hx175_0.symm.trans hx176_0)
                    injection ea_ with ea_ en_ ec_
                    subst ea_
                    subst ec_
                    clear en_
                    have p177 : 0 ≤ (x6_4 : Int) := of_decide_eq_true (by first | (with_reducible assumption) | assumption)
                    have q177 : x6_4 < ((rd_L1 l0_2 x5_3).length : Int) := of_decide_eq_true (by first | (with_reducible assumption) | assumption)
                    obtain ⟨ad177, e177, hx177_0⟩ := Kd.at_int HR176_0.out x6_4 p177 q177
                    cases e177
                    replace hx177_0 := (HB.out.cell (World.block_lt_of_cell? w _ hx177_0)).trans hx177_0
                    replace p177 := eq_true p177
                    replace q177 := eq_true q177
                    go_wp2_with (first | (go_at_call 60; (with_reducible refine (talikref04_in.calls (rd (rd_L1 l0_2 x5_3) x6_4) 0 72 true _ A29.out).mono ?_); rintro e w' ⟨rfl, ⟨nd, rfl⟩⟩; (try first | exact ⟨rfl, _, World.drewN_drewN _ _ _⟩ | exact ⟨rfl, _, Eq.trans (World.drewN_drewN _ _ _) (congrArg (World.drewN _) (Nat.add_assoc _ _ _))⟩)))
                    repeat (go_quiet (first | (go_at_call 60; (with_reducible refine (talikref04_in.calls (rd (rd_L1 l0_2 x5_3) x6_4) 0 72 true _ A29.out).mono ?_); rintro e w' ⟨rfl, ⟨nd, rfl⟩⟩; (try first | exact ⟨rfl, _, World.drewN_drewN _ _ _⟩ | exact ⟨rfl, _, Eq.trans (World.drewN_drewN _ _ _) (congrArg (World.drewN _) (Nat.add_assoc _ _ _))⟩))); try go_wp2_with (first | (go_at_call 60; (with_reducible refine (talikref04_in.calls (rd (rd_L1 l0_2 x5_3) x6_4) 0 72 true _ A29.out).mono ?_); rintro e w' ⟨rfl, ⟨nd, rfl⟩⟩; (try first | exact ⟨rfl, _, World.drewN_drewN _ _ _⟩ | exact ⟨rfl, _, Eq.trans (World.drewN_drewN _ _ _) (congrArg (World.drewN _) (Nat.add_assoc _ _ _))⟩))))
                    go_roundg k4
                    case measure => have := HK1.out; have := HK2.out; have := HK3.out; have := HK4.out; omega
                    case rel => exact ⟨(wrap64 (x6_4 + 1)), (by first | rfl | (simp; done) | (simp [*]; done)), H', ⟨by have := HK1.out; have := HK2.out; have := HK3.out; have := HK4.out; omega⟩, ⟨by (with_reducible repeat (first | refine qak ?_ _ | refine qap ?_ | refine qaj ?_ _)); exact BK167.out⟩, ⟨by repeat (first | (with_reducible first | exact HB.out | apply qae | apply qad | apply qaf | refine qag ?_ GE167.out) | exact HB.out)⟩⟩
                  ·
                   replace c30 := Bool.eq_false_iff.mpr c30
                   subst c30
                   have H1 : (some false) = some r := by rw [if_neg (show ¬ (false = true) by decide)] at H; exact H
                   clear H
                   have H := H1
                   clear H1
                   obtain rfl := Option.some.inj H
                   have hcz36_0 : wr.cell? ⟨gb167, 0, none⟩ = some (.slice A0_0 l0_0.length c0_0) := (qaa BK167.out 0).trans rfl
                   have hcz36_1 : wr.cell? ⟨gb167, 1, none⟩ = some (.slice A0_1 l0_1.length c0_1) := (qaa BK167.out 1).trans rfl
                   have hcz36_2 : wr.cell? ⟨gb167, 2, none⟩ = some (.slice (some ad174) l0_2.length c0_2) := (qaa BK167.out 2).trans rfl
                   have hfz36_0 := qab BK167.out 0
                   have hfz36_1 := qab BK167.out 1
                   have hfz36_2 := qab BK167.out 2
                   have p175 : 0 ≤ (x5_3 : Int) := of_decide_eq_true (by first | (with_reducible assumption) | assumption)
                   have q175 : x5_3 < (l0_2.length : Int) := of_decide_eq_true (by first | (with_reducible assumption) | assumption)
                   obtain ⟨ad175, A175_0, c175_0, e175, hx175_0, hl175_0, hi175_0⟩ := at_L1 HR0_2.out x5_3 p175 q175
                   obtain rfl : ad174 = ad175 := (by injection e175)
                   replace hx175_0 := (HB.out.cell (World.block_lt_of_cell? w _ hx175_0)).trans hx175_0
                   have HR175_0 := qac.mk hi175_0
                   have HC175_0 := qac.mk hl175_0
                   clear hi175_0 hl175_0
                   replace p175 := eq_true p175
                   replace q175 := eq_true q175
                   have p176 : 0 ≤ (x5_3 : Int) := of_decide_eq_true (by first | (with_reducible assumption) | assumption)
                   have q176 : x5_3 < (l0_2.length : Int) := of_decide_eq_true (by first | (with_reducible assumption) | assumption)
                   obtain ⟨ad176, A176_0, c176_0, e176, hx176_0, hl176_0, hi176_0⟩ := at_L1 HR0_2.out x5_3 p176 q176
                   obtain rfl : ad174 = ad176 := (by injection e176)
                   replace hx176_0 := (HB.out.cell (World.block_lt_of_cell? w _ hx176_0)).trans hx176_0
                   have HR176_0 := qac.mk hi176_0
                   have HC176_0 := qac.mk hl176_0
                   clear hi176_0 hl176_0
                   replace p176 := eq_true p176
                   replace q176 := eq_true q176
                   have ea_ := Option.some.inj (hx175_0.symm.trans hx176_0)
                   injection ea_ with ea_ en_ ec_
                   subst ea_
                   subst ec_
                   clear en_
                   have p177 : 0 ≤ (x6_4 : Int) := of_decide_eq_true (by first | (with_reducible assumption) | assumption)
                   have q177 : x6_4 < ((rd_L1 l0_2 x5_3).length : Int) := of_decide_eq_true (by first | (with_reducible assumption) | assumption)
                   obtain ⟨ad177, e177, hx177_0⟩ := Kd.at_int HR176_0.out x6_4 p177 q177
                   cases e177
                   replace hx177_0 := (HB.out.cell (World.block_lt_of_cell? w _ hx177_0)).trans hx177_0
                   replace p177 := eq_true p177
                   replace q177 := eq_true q177
                   go_wp2_with (first | (go_at_call 60; (with_reducible refine (talikref04_in.calls (rd (rd_L1 l0_2 x5_3) x6_4) 0 72 false _ A29.out).mono ?_); rintro e w' ⟨rfl, ⟨nd, rfl⟩⟩; (try first | exact ⟨rfl, _, World.drewN_drewN _ _ _⟩ | exact ⟨rfl, _, Eq.trans (World.drewN_drewN _ _ _) (congrArg (World.drewN _) (Nat.add_assoc _ _ _))⟩)))
                   repeat (go_quiet (first | (go_at_call 60; (with_reducible refine (talikref04_in.calls (rd (rd_L1 l0_2 x5_3) x6_4) 0 72 false _ A29.out).mono ?_); rintro e w' ⟨rfl, ⟨nd, rfl⟩⟩; (try first | exact ⟨rfl, _, World.drewN_drewN _ _ _⟩ | exact ⟨rfl, _, Eq.trans (World.drewN_drewN _ _ _) (congrArg (World.drewN _) (Nat.add_assoc _ _ _))⟩))); try go_wp2_with (first | (go_at_call 60; (with_reducible refine (talikref04_in.calls (rd (rd_L1 l0_2 x5_3) x6_4) 0 72 false _ A29.out).mono ?_); rintro e w' ⟨rfl, ⟨nd, rfl⟩⟩; (try first | exact ⟨rfl, _, World.drewN_drewN _ _ _⟩ | exact ⟨rfl, _, Eq.trans (World.drewN_drewN _ _ _) (congrArg (World.drewN _) (Nat.add_assoc _ _ _))⟩))))
                   go_ret
                   exact ⟨by first | rfl | (simp [qas, qat] <;> rfl) | (simp [*, qas, qat] <;> rfl), by repeat (first | (with_reducible first | exact HB.out | apply qae | apply qad | apply qaf | refine qag ?_ GE167.out) | exact HB.out)⟩
                 ·
                  rw [if_neg c28] at H
                  exact absurd H (by simp)
                ·
                 rw [if_neg c27] at H
                 have c27b0 : decide (x6_4 < ((rd_L1 l0_2 x5_3).length : Int)) = false := decide_eq_false c27
                 clear c27
                 have H' := qac.mk H
                 clear H
                 have hcz37_0 : wr.cell? ⟨gb167, 0, none⟩ = some (.slice A0_0 l0_0.length c0_0) := (qaa BK167.out 0).trans rfl
                 have hcz37_1 : wr.cell? ⟨gb167, 1, none⟩ = some (.slice A0_1 l0_1.length c0_1) := (qaa BK167.out 1).trans rfl
                 have hcz37_2 : wr.cell? ⟨gb167, 2, none⟩ = some (.slice (some ad174) l0_2.length c0_2) := (qaa BK167.out 2).trans rfl
                 have hfz37_0 := qab BK167.out 0
                 have hfz37_1 := qab BK167.out 1
                 have hfz37_2 := qab BK167.out 2
                 have p175 : 0 ≤ (x5_3 : Int) := of_decide_eq_true (by first | (with_reducible assumption) | assumption)
                 have q175 : x5_3 < (l0_2.length : Int) := of_decide_eq_true (by first | (with_reducible assumption) | assumption)
                 obtain ⟨ad175, A175_0, c175_0, e175, hx175_0, hl175_0, hi175_0⟩ := at_L1 HR0_2.out x5_3 p175 q175
                 obtain rfl : ad174 = ad175 := (by injection e175)
                 replace hx175_0 := (HB.out.cell (World.block_lt_of_cell? w _ hx175_0)).trans hx175_0
                 have HR175_0 := qac.mk hi175_0
                 have HC175_0 := qac.mk hl175_0
                 clear hi175_0 hl175_0
                 replace p175 := eq_true p175
                 replace q175 := eq_true q175
                 go_wp2
                 repeat (go_quiet (fail); try go_wp2)
                 go_roundg k4
                 case measure => have := HK1.out; have := HK2.out; have := HK3.out; have := HK4.out; omega
                 case rel => exact ⟨(wrap64 (x5_3 + 1)), (by first | rfl | (simp; done) | (simp [*]; done)), H', ⟨by have := HK1.out; have := HK2.out; have := HK3.out; have := HK4.out; omega⟩, ⟨by (with_reducible repeat (first | refine qak ?_ _ | refine qap ?_ | refine qaj ?_ _)); exact BK167.out⟩, ⟨by repeat (first | (with_reducible first | exact HB.out | apply qae | apply qad | apply qaf | refine qag ?_ GE167.out) | exact HB.out)⟩⟩
               ·
                rw [if_neg c26] at H
                exact absurd H (by simp)
              ·
               rw [if_neg c25] at H
               exact absurd H (by simp)
           ·
            rw [if_neg c23] at H
            have c23b0 : (((rd_L1 l0_2 x5_3).length : Int) == (wrap64 ((l0_0.length : Int) + 1))) = false := beq_eq_false_iff_ne.mpr c23
            have c23b1 : (((rd_L1 l0_2 x5_3).length : Int) != (wrap64 ((l0_0.length : Int) + 1))) = true := bne_iff_ne.mpr c23
            obtain rfl := Option.some.inj H
            have hcz38_0 : wr.cell? ⟨gb167, 0, none⟩ = some (.slice A0_0 l0_0.length c0_0) := (qaa BK167.out 0).trans rfl
            have hcz38_1 : wr.cell? ⟨gb167, 1, none⟩ = some (.slice A0_1 l0_1.length c0_1) := (qaa BK167.out 1).trans rfl
            have hcz38_2 : wr.cell? ⟨gb167, 2, none⟩ = some (.slice A0_2 l0_2.length c0_2) := (qaa BK167.out 2).trans rfl
            have hfz38_0 := qab BK167.out 0
            have hfz38_1 := qab BK167.out 1
            have hfz38_2 := qab BK167.out 2
            have p174 : 0 ≤ (x5_3 : Int) := of_decide_eq_true (by first | (with_reducible assumption) | assumption)
            have q174 : x5_3 < (l0_2.length : Int) := of_decide_eq_true (by first | (with_reducible assumption) | assumption)
            obtain ⟨ad174, A174_0, c174_0, e174, hx174_0, hl174_0, hi174_0⟩ := at_L1 HR0_2.out x5_3 p174 q174
            cases e174
            replace hx174_0 := (HB.out.cell (World.block_lt_of_cell? w _ hx174_0)).trans hx174_0
            have HR174_0 := qac.mk hi174_0
            have HC174_0 := qac.mk hl174_0
            clear hi174_0 hl174_0
            replace p174 := eq_true p174
            replace q174 := eq_true q174
            go_wp2
            repeat (go_quiet (fail); try go_wp2)
            go_ret
            exact ⟨by first | rfl | (simp [qas, qat] <;> rfl) | (simp [*, qas, qat] <;> rfl), by repeat (first | (with_reducible first | exact HB.out | apply qae | apply qad | apply qaf | refine qag ?_ GE167.out) | exact HB.out)⟩
          ·
           rw [if_neg c22] at H
           exact absurd H (by simp)
         ·
          rw [if_neg c21] at H
          have c21b0 : decide (x5_3 < (l0_2.length : Int)) = false := decide_eq_false c21
          clear c21
          replace H := Option.bind_eq_some_iff.mp H
          obtain ⟨t172, A390, H⟩ := H
          replace H : (if t172 = true then ((talikref04_in.f (l0_1.length : Int) 1 72).bind fun t173 => (if t173 = true then (some ((l0_2.length : Int) == (wrap64 ((l0_0.length : Int) + 1)))) else (some false))) else (some false)) = some r := H
          have A39 := qac.mk A390
          clear A390
          by_cases c40 : t172 = true
          ·
           subst c40
           have H1 : ((talikref04_in.f (l0_1.length : Int) 1 72).bind fun t173 => (if t173 = true then (some ((l0_2.length : Int) == (wrap64 ((l0_0.length : Int) + 1)))) else (some false))) = some r := by rw [if_pos rfl] at H; exact H
           clear H
           have H := H1
           clear H1
           replace H := Option.bind_eq_some_iff.mp H
           obtain ⟨t173, A410, H⟩ := H
           replace H : (if t173 = true then (some ((l0_2.length : Int) == (wrap64 ((l0_0.length : Int) + 1)))) else (some false)) = some r := H
           have A41 := qac.mk A410
           clear A410
           by_cases c42 : t173 = true
           ·
            subst c42
            have H1 : (some ((l0_2.length : Int) == (wrap64 ((l0_0.length : Int) + 1)))) = some r := by rw [if_pos rfl] at H; exact H
            clear H
            have H := H1
            clear H1
            obtain rfl := Option.some.inj H
            have hcz43_0 : wr.cell? ⟨gb167, 0, none⟩ = some (.slice A0_0 l0_0.length c0_0) := (qaa BK167.out 0).trans rfl
            have hcz43_1 : wr.cell? ⟨gb167, 1, none⟩ = some (.slice A0_1 l0_1.length c0_1) := (qaa BK167.out 1).trans rfl
            have hcz43_2 : wr.cell? ⟨gb167, 2, none⟩ = some (.slice A0_2 l0_2.length c0_2) := (qaa BK167.out 2).trans rfl
            have hfz43_0 := qab BK167.out 0
            have hfz43_1 := qab BK167.out 1
            have hfz43_2 := qab BK167.out 2
            go_wp2_with (first | (go_at_call 60; (with_reducible refine (talikref04_in.calls (l0_0.length : Int) 1 5 true _ A39.out).mono ?_); rintro e w' ⟨rfl, ⟨nd, rfl⟩⟩; (try first | exact ⟨rfl, _, World.drewN_drewN _ _ _⟩ | exact ⟨rfl, _, Eq.trans (World.drewN_drewN _ _ _) (congrArg (World.drewN _) (Nat.add_assoc _ _ _))⟩)) | (go_at_call 60; (with_reducible refine (talikref04_in.calls (l0_1.length : Int) 1 72 true _ A41.out).mono ?_); rintro e w' ⟨rfl, ⟨nd, rfl⟩⟩; (try first | exact ⟨rfl, _, World.drewN_drewN _ _ _⟩ | exact ⟨rfl, _, Eq.trans (World.drewN_drewN _ _ _) (congrArg (World.drewN _) (Nat.add_assoc _ _ _))⟩)))
            repeat (go_quiet (first | (go_at_call 60; (with_reducible refine (talikref04_in.calls (l0_0.length : Int) 1 5 true _ A39.out).mono ?_); rintro e w' ⟨rfl, ⟨nd, rfl⟩⟩; (try first | exact ⟨rfl, _, World.drewN_drewN _ _ _⟩ | exact ⟨rfl, _, Eq.trans (World.drewN_drewN _ _ _) (congrArg (World.drewN _) (Nat.add_assoc _ _ _))⟩)) | (go_at_call 60; (with_reducible refine (talikref04_in.calls (l0_1.length : Int) 1 72 true _ A41.out).mono ?_); rintro e w' ⟨rfl, ⟨nd, rfl⟩⟩; (try first | exact ⟨rfl, _, World.drewN_drewN _ _ _⟩ | exact ⟨rfl, _, Eq.trans (World.drewN_drewN _ _ _) (congrArg (World.drewN _) (Nat.add_assoc _ _ _))⟩))); try go_wp2_with (first | (go_at_call 60; (with_reducible refine (talikref04_in.calls (l0_0.length : Int) 1 5 true _ A39.out).mono ?_); rintro e w' ⟨rfl, ⟨nd, rfl⟩⟩; (try first | exact ⟨rfl, _, World.drewN_drewN _ _ _⟩ | exact ⟨rfl, _, Eq.trans (World.drewN_drewN _ _ _) (congrArg (World.drewN _) (Nat.add_assoc _ _ _))⟩)) | (go_at_call 60; (with_reducible refine (talikref04_in.calls (l0_1.length : Int) 1 72 true _ A41.out).mono ?_); rintro e w' ⟨rfl, ⟨nd, rfl⟩⟩; (try first | exact ⟨rfl, _, World.drewN_drewN _ _ _⟩ | exact ⟨rfl, _, Eq.trans (World.drewN_drewN _ _ _) (congrArg (World.drewN _) (Nat.add_assoc _ _ _))⟩))))
            go_ret
            exact ⟨by first | rfl | (simp [qas, qat] <;> rfl) | (simp [*, qas, qat] <;> rfl), by repeat (first | (with_reducible first | exact HB.out | apply qae | apply qad | apply qaf | refine qag ?_ GE167.out) | exact HB.out)⟩
           ·
            replace c42 := Bool.eq_false_iff.mpr c42
            subst c42
            have H1 : (some false) = some r := by rw [if_neg (show ¬ (false = true) by decide)] at H; exact H
            clear H
            have H := H1
            clear H1
            obtain rfl := Option.some.inj H
            have hcz44_0 : wr.cell? ⟨gb167, 0, none⟩ = some (.slice A0_0 l0_0.length c0_0) := (qaa BK167.out 0).trans rfl
            have hcz44_1 : wr.cell? ⟨gb167, 1, none⟩ = some (.slice A0_1 l0_1.length c0_1) := (qaa BK167.out 1).trans rfl
            have hcz44_2 : wr.cell? ⟨gb167, 2, none⟩ = some (.slice A0_2 l0_2.length c0_2) := (qaa BK167.out 2).trans rfl
            have hfz44_0 := qab BK167.out 0
            have hfz44_1 := qab BK167.out 1
            have hfz44_2 := qab BK167.out 2
            go_wp2_with (first | (go_at_call 60; (with_reducible refine (talikref04_in.calls (l0_0.length : Int) 1 5 true _ A39.out).mono ?_); rintro e w' ⟨rfl, ⟨nd, rfl⟩⟩; (try first | exact ⟨rfl, _, World.drewN_drewN _ _ _⟩ | exact ⟨rfl, _, Eq.trans (World.drewN_drewN _ _ _) (congrArg (World.drewN _) (Nat.add_assoc _ _ _))⟩)) | (go_at_call 60; (with_reducible refine (talikref04_in.calls (l0_1.length : Int) 1 72 false _ A41.out).mono ?_); rintro e w' ⟨rfl, ⟨nd, rfl⟩⟩; (try first | exact ⟨rfl, _, World.drewN_drewN _ _ _⟩ | exact ⟨rfl, _, Eq.trans (World.drewN_drewN _ _ _) (congrArg (World.drewN _) (Nat.add_assoc _ _ _))⟩)))
            repeat (go_quiet (first | (go_at_call 60; (with_reducible refine (talikref04_in.calls (l0_0.length : Int) 1 5 true _ A39.out).mono ?_); rintro e w' ⟨rfl, ⟨nd, rfl⟩⟩; (try first | exact ⟨rfl, _, World.drewN_drewN _ _ _⟩ | exact ⟨rfl, _, Eq.trans (World.drewN_drewN _ _ _) (congrArg (World.drewN _) (Nat.add_assoc _ _ _))⟩)) | (go_at_call 60; (with_reducible refine (talikref04_in.calls (l0_1.length : Int) 1 72 false _ A41.out).mono ?_); rintro e w' ⟨rfl, ⟨nd, rfl⟩⟩; (try first | exact ⟨rfl, _, World.drewN_drewN _ _ _⟩ | exact ⟨rfl, _, Eq.trans (World.drewN_drewN _ _ _) (congrArg (World.drewN _) (Nat.add_assoc _ _ _))⟩))); try go_wp2_with (first | (go_at_call 60; (with_reducible refine (talikref04_in.calls (l0_0.length : Int) 1 5 true _ A39.out).mono ?_); rintro e w' ⟨rfl, ⟨nd, rfl⟩⟩; (try first | exact ⟨rfl, _, World.drewN_drewN _ _ _⟩ | exact ⟨rfl, _, Eq.trans (World.drewN_drewN _ _ _) (congrArg (World.drewN _) (Nat.add_assoc _ _ _))⟩)) | (go_at_call 60; (with_reducible refine (talikref04_in.calls (l0_1.length : Int) 1 72 false _ A41.out).mono ?_); rintro e w' ⟨rfl, ⟨nd, rfl⟩⟩; (try first | exact ⟨rfl, _, World.drewN_drewN _ _ _⟩ | exact ⟨rfl, _, Eq.trans (World.drewN_drewN _ _ _) (congrArg (World.drewN _) (Nat.add_assoc _ _ _))⟩))))
            go_ret
            exact ⟨by first | rfl | (simp [qas, qat] <;> rfl) | (simp [*, qas, qat] <;> rfl), by repeat (first | (with_reducible first | exact HB.out | apply qae | apply qad | apply qaf | refine qag ?_ GE167.out) | exact HB.out)⟩
          ·
           replace c40 := Bool.eq_false_iff.mpr c40
           subst c40
           have H1 : (some false) = some r := by rw [if_neg (show ¬ (false = true) by decide)] at H; exact H
           clear H
           have H := H1
           clear H1
           obtain rfl := Option.some.inj H
           have hcz45_0 : wr.cell? ⟨gb167, 0, none⟩ = some (.slice A0_0 l0_0.length c0_0) := (qaa BK167.out 0).trans rfl
           have hcz45_1 : wr.cell? ⟨gb167, 1, none⟩ = some (.slice A0_1 l0_1.length c0_1) := (qaa BK167.out 1).trans rfl
           have hcz45_2 : wr.cell? ⟨gb167, 2, none⟩ = some (.slice A0_2 l0_2.length c0_2) := (qaa BK167.out 2).trans rfl
           have hfz45_0 := qab BK167.out 0
           have hfz45_1 := qab BK167.out 1
           have hfz45_2 := qab BK167.out 2
           go_wp2_with (first | (go_at_call 60; (with_reducible refine (talikref04_in.calls (l0_0.length : Int) 1 5 false _ A39.out).mono ?_); rintro e w' ⟨rfl, ⟨nd, rfl⟩⟩; (try first | exact ⟨rfl, _, World.drewN_drewN _ _ _⟩ | exact ⟨rfl, _, Eq.trans (World.drewN_drewN _ _ _) (congrArg (World.drewN _) (Nat.add_assoc _ _ _))⟩)))
           repeat (go_quiet (first | (go_at_call 60; (with_reducible refine (talikref04_in.calls (l0_0.length : Int) 1 5 false _ A39.out).mono ?_); rintro e w' ⟨rfl, ⟨nd, rfl⟩⟩; (try first | exact ⟨rfl, _, World.drewN_drewN _ _ _⟩ | exact ⟨rfl, _, Eq.trans (World.drewN_drewN _ _ _) (congrArg (World.drewN _) (Nat.add_assoc _ _ _))⟩))); try go_wp2_with (first | (go_at_call 60; (with_reducible refine (talikref04_in.calls (l0_0.length : Int) 1 5 false _ A39.out).mono ?_); rintro e w' ⟨rfl, ⟨nd, rfl⟩⟩; (try first | exact ⟨rfl, _, World.drewN_drewN _ _ _⟩ | exact ⟨rfl, _, Eq.trans (World.drewN_drewN _ _ _) (congrArg (World.drewN _) (Nat.add_assoc _ _ _))⟩))))
           go_ret
           exact ⟨by first | rfl | (simp [qas, qat] <;> rfl) | (simp [*, qas, qat] <;> rfl), by repeat (first | (with_reducible first | exact HB.out | apply qae | apply qad | apply qaf | refine qag ?_ GE167.out) | exact HB.out)⟩
end Go.Proofs.Ytipphcjgdebecaa.PA
