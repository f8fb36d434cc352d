/- What functions of the program answer. No condition. -/
import Derived.Test.YtipphcjgdebecaaSC
import Derived.Test.YtipphcjgdebecaaSJ
import Derived.Test.YtipphcjgdebecaaSK
import Derived.Test.YtipphcjgdebecaaSF
import Derived.Test.YtipphcjgdebecaaSE
import Derived.Test.YtipphcjgdebecaaSH
set_option linter.all false
set_option maxRecDepth 100000
set_option maxHeartbeats 8000000
namespace Go.Proofs.Ytipphcjgdebecaa.PA
open Go.RowKit Go.Proofs.YtipphcjgdebecaaW.PrintWords Go.Proofs.YtipphcjgdebecaaW.PrintLast Go.Proofs.YtipphcjgdebecaaW.PrintMore
attribute [local go_sem] max2_int min2_int max_two min_two qau qav max_four min_four
def pipe_net_weak.l0 : Nat → Int → Int → List Int → Int → Int → List (S39) → List (S37) → List (List Int) → Int → Option (Int × Int)
 | 0, _, _, _, _, _, _, _, _, _ => none
 | k + 1, x1, x8, x16, x17, x18, x435000, x435001, x435002, x435003 => if x18 < x17 then (if 0 ≤ x18 then (if x18 < (x16.length : Int) then ((pipe_net_order.f x435000 x435001 x435002 x435003 x1 (rd x16 x18)).bind fun bt436 => (if bt436.2.2 = true then (pipe_net_weak.l0 k x1 (mn x8 bt436.2.1) x16 x17 (wrap64 (x18 + 1)) x435000 x435001 x435002 x435003) else (some (x18, 0)))) else (none)) else (none)) else (some ((-1), x8))
def pipe_net_weak.f (k : Nat) (l0_0 : List (S39)) (l0_1 : List (S37)) (l0_2 : List (List Int)) (a0_3 : Int) (a1 : Int) (l2 : List Int) : Option (Int × Int) := pipe_net_weak.l0 k a1 (l0_1.length : Int) l2 (l2.length : Int) 0 l0_0 l0_1 l0_2 a0_3
theorem pipe_net_weak.calls (k : Nat) (A0_0 : Option Addr) (c0_0 : Nat) (l0_0 : List (S39)) (A0_1 : Option Addr) (c0_1 : Nat) (l0_1 : List (S37)) (A0_2 : Option Addr) (c0_2 : Nat) (l0_2 : List (List Int)) (a0_3 : Int) (a1 : Int) (A2 : Option Addr) (c2 : Nat) (l2 : List Int) (r1 : Int) (r2 : Int) (w : World) (hr0_0 : Kd.C k39 w A0_0 l0_0.length l0_0) (hc0_0 : l0_0.length ≤ c0_0) (hr0_1 : Kd.C k37 w A0_1 l0_1.length l0_1) (hc0_1 : l0_1.length ≤ c0_1) (hr0_2 : Kd.C (Kd.slice 3 (Kd.int .i64)) w A0_2 l0_2.length l0_2) (hc0_2 : l0_2.length ≤ c0_2) (hr2 : Kd.C (Kd.int .i64) w A2 l2.length l2) (hc2 : l2.length ≤ c2) (h : pipe_net_weak.f k l0_0 l0_1 l0_2 a0_3 a1 l2 = some (r1, r2)) :
  Calls Try.prog 74 #[.agg #[.slice A0_0 l0_0.length c0_0, .slice A0_1 l0_1.length c0_1, .slice A0_2 l0_2.length c0_2, .int .i64 a0_3], .int .i64 a1, .slice A2 l2.length c2] w fun e w' => e = .returned (.tuple #[.int .i64 r1, .int .i64 r2]) ∧ Below w.heap.size w w' := by
 have hu99 := Try.underlying99
 have hu97 := Try.underlying97
 have HR0_0 := qab.mk hr0_0
 have HC0_0 := qab.mk hc0_0
 clear hr0_0 hc0_0
 have HR0_1 := qab.mk hr0_1
 have HC0_1 := qab.mk hc0_1
 clear hr0_1 hc0_1
 have HR0_2 := qab.mk hr0_2
 have HC0_2 := qab.mk hc0_2
 clear hr0_2 hc0_2
 have HR2 := qab.mk hr2
 have HC2 := qab.mk hc2
 clear hr2 hc2
 have HB := qab.mk (Below.refl w.heap.size w)
 have H : (pipe_net_weak.l0 k a1 (l0_1.length : Int) l2 (l2.length : Int) 0 l0_0 l0_1 l0_2 a0_3) = some (r1, r2) := h
 clear h
 have H' := qab.mk H
 clear H
 go_enter Try.func74, Try.ntmps74
 go_wp2_with (first | ((with_reducible refine qaq (N := 3) rfl ?_); refine qam ?hg (N := 3) ?hd (cs := #[.slice A0_0 l0_0.length c0_0, .slice A0_1 l0_1.length c0_1, .slice A0_2 l0_2.length c0_2, .int .i64 a0_3]) (t := 99) ?hr ?_; (case hd => rfl); (case hg => rfl); (case hr => first | (go_simp; done) | (go_simp; rfl)); intro gb434 hg w4 hbox hb; have n0_ := qab.mk (qag (by repeat (first | (with_reducible first | exact HB.out | apply qae | apply qad | apply qaf) | exact HB.out)) hb); have n1_ := qab.mk (hbox); have n2_ := qab.mk ((by rw [hg]; exact (qan (by repeat (first | (with_reducible first | exact HB.out | apply qae | apply qad | apply qaf) | exact HB.out))) : w.heap.size ≤ gb434)); have n3_ := qab.mk ((by rw [hg]; exact (qan (by repeat (first | (with_reducible first | exact HB.out | apply qae | apply qad | apply qaf) | exact HB.out))) : w.heap.size ≤ gb434)); clear HB; have HB := n0_; have BK434 := n1_; have GW434 := n2_; have GE434 := n3_; clear n0_ n1_ n2_ n3_; clear hb hbox hg; have hcz5_0 : w4.cell? ⟨gb434, 0, none⟩ = some (.slice A0_0 l0_0.length c0_0) := (qaa BK434.out 0).trans rfl; have hcz5_1 : w4.cell? ⟨gb434, 1, none⟩ = some (.slice A0_1 l0_1.length c0_1) := (qaa BK434.out 1).trans rfl; have hcz5_2 : w4.cell? ⟨gb434, 2, none⟩ = some (.slice A0_2 l0_2.length c0_2) := (qaa BK434.out 2).trans rfl; have hcz5_3 : w4.cell? ⟨gb434, 3, none⟩ = some (.int .i64 a0_3) := (qaa BK434.out 3).trans rfl; have hfz5_0 := qac BK434.out 0; have hfz5_1 := qac BK434.out 1; have hfz5_2 := qac BK434.out 2; have hfz5_3 := qac BK434.out 3))
 go_loopg [8, 18] k (fun kq v8 v18 w' => ∃ (x8_1 : Int) (x18_1 : Int), v8 = .int .i64 x8_1 ∧ v18 = .int .i64 x18_1 ∧ qab (pipe_net_weak.l0 kq a1 x8_1 l2 (l2.length : Int) x18_1 l0_0 l0_1 l0_2 a0_3 = some (r1, r2)) ∧ qab (kq ≤ k) ∧ qab (w'.heap[gb434]? = some (.cells #[(.slice A0_0 l0_0.length c0_0), (.slice A0_1 l0_1.length c0_1), (.slice A0_2 l0_2.length c0_2), .int .i64 a0_3] 99 (0, 0))) ∧ qab (Below w.heap.size w w'))
 case atStart => exact ⟨((l0_1.length : Int)), (0), (by first | rfl | (simp; done) | (simp [*]; done)), (by first | rfl | (simp; done) | (simp [*]; done)), H', ⟨Nat.le_refl _⟩, ⟨by (with_reducible repeat (first | refine qal ?_ _ | refine qao ?_ | refine qaj ?_ _)); exact BK434.out⟩, ⟨by repeat (first | (with_reducible first | exact HB.out | apply qae | apply qad | apply qaf | refine qai ?_ GE434.out) | exact HB.out)⟩⟩
 case round =>
  clear H'
  try clear c2
  try clear p2
  try clear hcz5_0
  try clear hcz5_1
  try clear hcz5_2
  try clear hcz5_3
  try clear hfz5_0
  try clear hfz5_1
  try clear hfz5_2
  try clear hfz5_3
  obtain ⟨x8_1, x18_1, rfl, rfl, HA, HK1, BK434, HB⟩ := hrel
  cases gk with
  | zero => exact absurd HA.out (by simp [pipe_net_weak.l0])
  | succ k1 =>
   have H := HA.out
   clear HA
   simp only [pipe_net_weak.l0] at H
   by_cases c6 : x18_1 < (l2.length : Int)
   ·
    rw [if_pos c6] at H
    have c6b0 : decide (x18_1 < (l2.length : Int)) = true := decide_eq_true c6
    clear c6
    by_cases c7 : 0 ≤ x18_1
    ·
     rw [if_pos c7] at H
     have c7b0 : decide (0 ≤ x18_1) = true := decide_eq_true c7
     clear c7
     by_cases c8 : x18_1 < (l2.length : Int)
     ·
      rw [if_pos c8] at H
      have c8b0 : decide (x18_1 < (l2.length : Int)) = true := decide_eq_true c8
      clear c8
      replace H := Option.bind_eq_some_iff.mp H
      obtain ⟨⟨t436, t439, t440⟩, A90, H⟩ := H
      replace H : (if t440 = true then (pipe_net_weak.l0 k1 a1 (mn x8_1 t439) l2 (l2.length : Int) (wrap64 (x18_1 + 1)) l0_0 l0_1 l0_2 a0_3) else (some (x18_1, 0))) = some (r1, r2) := H
      have A9 := qab.mk A90
      clear A90
      by_cases c10 : t440 = true
      ·
       subst c10
       have H1 : (pipe_net_weak.l0 k1 a1 (mn x8_1 t439) l2 (l2.length : Int) (wrap64 (x18_1 + 1)) l0_0 l0_1 l0_2 a0_3) = some (r1, r2) := by rw [if_pos rfl] at H; exact H
       clear H
       have H := H1
       clear H1
       obtain ⟨ji11, hji11⟩ : ∃ j_ : Int, (mn x8_1 t439) = j_ := ⟨_, rfl⟩
       replace H : (pipe_net_weak.l0 k1 a1 ji11 l2 (l2.length : Int) (wrap64 (x18_1 + 1)) l0_0 l0_1 l0_2 a0_3) = some (r1, r2) := by first | (rw [hji11] at H; exact H) | (simp only [hji11] at H ⊢; exact H)
       (try rw [hji11] at A9)
       have hji11_ : (if t439 < x8_1 then t439 else x8_1) = ji11 := hji11
       have H' := qab.mk H
       clear H
       have p435 : 0 ≤ (x18_1 : Int) := of_decide_eq_true (by first | (with_reducible assumption) | assumption)
       have q435 : x18_1 < (l2.length : Int) := of_decide_eq_true (by first | (with_reducible assumption) | assumption)
       obtain ⟨ad435, e435, hx435_0⟩ := Kd.at_int HR2.out x18_1 p435 q435
       cases e435
       replace hx435_0 := (HB.out.cell (World.block_lt_of_cell? w _ hx435_0)).trans hx435_0
       replace p435 := eq_true p435
       replace q435 := eq_true q435
       have hcz12_0 : wr.cell? ⟨gb434, 0, none⟩ = some (.slice A0_0 l0_0.length c0_0) := (qaa BK434.out 0).trans rfl
       have hcz12_1 : wr.cell? ⟨gb434, 1, none⟩ = some (.slice A0_1 l0_1.length c0_1) := (qaa BK434.out 1).trans rfl
       have hcz12_2 : wr.cell? ⟨gb434, 2, none⟩ = some (.slice A0_2 l0_2.length c0_2) := (qaa BK434.out 2).trans rfl
       have hcz12_3 : wr.cell? ⟨gb434, 3, none⟩ = some (.int .i64 a0_3) := (qaa BK434.out 3).trans rfl
       have hfz12_0 := qac BK434.out 0
       have hfz12_1 := qac BK434.out 1
       have hfz12_2 := qac BK434.out 2
       have hfz12_3 := qac BK434.out 3
       go_wp2_with (first | ((with_reducible refine gate_callee (f := 64) rfl ?_); refine goesL_ (some 26) rfl rfl Try.func64 (by kernel_rfl) rfl #[.agg #[.slice A0_0 l0_0.length c0_0, .slice A0_1 l0_1.length c0_1, .slice A0_2 l0_2.length c0_2, .int .i64 a0_3], .int .i64 a1, .int .i64 (rd l2 x18_1)] rfl (by (try simp only [List.map_toArray, List.map_cons, List.map_nil]); first | done | rfl | (simp only [List.length_drop, List.length_take]; rfl)) ?_; (with_reducible refine (pipe_net_order.calls _ _ l0_0 _ _ l0_1 _ _ l0_2 a0_3 a1 (rd l2 x18_1) t436 t439 true _ ?side1 ?side2 ?side3 ?side4 ?side5 ?side6 A9.out).mono ?_); (case side1 => repeat (first | exact (Kd.qak HR0_0.out HB.out) | (with_reducible refine Kd.C_alloc ?_ _) | (with_reducible refine Kd.C_drewN ?_ _) | (with_reducible refine Kd.C_drew ?_))); (case side2 => exact HC0_0.out); (case side3 => repeat (first | exact (Kd.qak HR0_1.out HB.out) | (with_reducible refine Kd.C_alloc ?_ _) | (with_reducible refine Kd.C_drewN ?_ _) | (with_reducible refine Kd.C_drew ?_))); (case side4 => exact HC0_1.out); (case side5 => repeat (first | exact (Kd.qak HR0_2.out HB.out) | (with_reducible refine Kd.C_alloc ?_ _) | (with_reducible refine Kd.C_drewN ?_ _) | (with_reducible refine Kd.C_drew ?_))); (case side6 => exact HC0_2.out); rintro e w13 ⟨v437, rfl, ho0, hb⟩; refine ⟨_, rfl, ?_⟩; have n0_ := qab.mk (Kd.R_lower ho0 (qan (by repeat (first | (with_reducible first | exact HB.out | apply qae | apply qad | apply qaf | refine qai ?_ GE434.out) | exact HB.out)))); have n1_ := qab.mk (qah (g := gb434) (o := .cells #[.slice A0_0 l0_0.length c0_0, .slice A0_1 l0_1.length c0_1, .slice A0_2 l0_2.length c0_2, .int .i64 a0_3] 99 (0, 0)) (by (with_reducible repeat (first | refine qal ?_ _ | refine qao ?_ | refine qaj ?_ _)); exact BK434.out) hb); have n2_ := qab.mk (qag (by repeat (first | (with_reducible first | exact HB.out | apply qae | apply qad | apply qaf | refine qai ?_ GE434.out) | exact HB.out)) hb); clear BK434; clear HB; have HO438 := n0_; have BK434 := n1_; have HB := n2_; clear n0_ n1_ n2_; (try clear hb); (try clear hb2); (try clear hk); (try clear hi); (try clear ho0)) | ((with_reducible refine qaq (N := 11) rfl ?_); refine qam ?hg (N := 11) ?hd (cs := #[.slice none 0 0, .int .i64 0, .bool false]) (t := 97) ?hr ?_; (case hd => rfl); (case hg => rfl); (case hr => first | (go_simp; done) | (go_simp; rfl)); intro gb441 hg w14 hbox hb; have n0_ := qab.mk (Kd.R_below (by (with_reducible repeat (first | apply Kd.R_alloc | apply Kd.R_drewN | apply Kd.R_drew)); exact HO438.out) hb); have n1_ := qab.mk (qah (g := gb434) (o := .cells #[.slice A0_0 l0_0.length c0_0, .slice A0_1 l0_1.length c0_1, .slice A0_2 l0_2.length c0_2, .int .i64 a0_3] 99 (0, 0)) (by (with_reducible repeat (first | refine qal ?_ _ | refine qao ?_ | refine qaj ?_ _)); exact BK434.out) hb); have n2_ := qab.mk (qag (by repeat (first | (with_reducible first | exact HB.out | apply qae | apply qad | apply qaf | refine qai ?_ GE434.out) | exact HB.out)) hb); have n3_ := qab.mk (hbox); have n4_ := qab.mk ((by rw [hg]; exact (qan (by repeat (first | (with_reducible first | exact HB.out | apply qae | apply qad | apply qaf | refine qai ?_ GE434.out) | exact HB.out))) : w.heap.size ≤ gb441)); have n5_ := qab.mk ((by rw [hg]; exact (qan (by repeat (first | (with_reducible first | exact HB.out | apply qae | apply qad | apply qaf | refine qai ?_ GE434.out) | exact HB.out))) : w.heap.size ≤ gb441)); have n6_ := qab.mk ((by rw [hg]; exact Nat.ne_of_lt (blk_lt (g := gb434) (o := .cells #[.slice A0_0 l0_0.length c0_0, .slice A0_1 l0_1.length c0_1, .slice A0_2 l0_2.length c0_2, .int .i64 a0_3] 99 (0, 0)) (by (with_reducible repeat (first | refine qal ?_ _ | refine qao ?_ | refine qaj ?_ _)); exact BK434.out)) : gb434 ≠ gb441)); have n7_ := qab.mk ((by rw [hg]; exact Nat.ne_of_gt (blk_lt (g := gb434) (o := .cells #[.slice A0_0 l0_0.length c0_0, .slice A0_1 l0_1.length c0_1, .slice A0_2 l0_2.length c0_2, .int .i64 a0_3] 99 (0, 0)) (by (with_reducible repeat (first | refine qal ?_ _ | refine qao ?_ | refine qaj ?_ _)); exact BK434.out)) : gb441 ≠ gb434)); clear HO438; clear BK434; clear HB; have HO438 := n0_; have BK434 := n1_; have HB := n2_; have BK441 := n3_; have GW441 := n4_; have GE441 := n5_; have NB434_441 := n6_; have NB441_434 := n7_; clear n0_ n1_ n2_ n3_ n4_ n5_ n6_ n7_; clear hb hbox hg; obtain ⟨Ao15, co15, eo15⟩ := Kd.R_slice HO438.out; subst eo15; have hnb16 := NB441_434.out; have hnc16 := NB434_441.out; have hcz17_0 : w14.cell? ⟨gb441, 0, none⟩ = some (.slice none 0 0) := (qaa BK441.out 0).trans rfl; have hcz17_1 : w14.cell? ⟨gb441, 1, none⟩ = some (.int .i64 0) := (qaa BK441.out 1).trans rfl; have hcz17_2 : w14.cell? ⟨gb441, 2, none⟩ = some (.bool false) := (qaa BK441.out 2).trans rfl; have hfz17_0 := qac BK441.out 0; have hfz17_1 := qac BK441.out 1; have hfz17_2 := qac BK441.out 2))
       go_roundg k1
       case measure => have := HK1.out; omega
       case rel => exact ⟨(ji11), (wrap64 (x18_1 + 1)), (by first | rfl | (simp; done) | (simp only [← hji11] <;> (first | rfl | simp)) | (simp [*]; done)), (by first | rfl | (simp; done) | (simp [*]; done)), H', ⟨by have := HK1.out; omega⟩, ⟨by (with_reducible repeat (first | refine qal ?_ _ | refine qao ?_ | refine qaj ?_ _)); refine blk_far ?_ NB434_441.out _; (with_reducible repeat (first | refine qal ?_ _ | refine qao ?_ | refine qaj ?_ _)); refine blk_far ?_ NB434_441.out _; (with_reducible repeat (first | refine qal ?_ _ | refine qao ?_ | refine qaj ?_ _)); refine blk_far ?_ NB434_441.out _; (with_reducible repeat (first | refine qal ?_ _ | refine qao ?_ | refine qaj ?_ _)); exact BK434.out⟩, ⟨by repeat (first | (with_reducible first | exact HB.out | apply qae | apply qad | apply qaf | refine qai ?_ GE434.out | refine qai ?_ GE441.out) | exact HB.out)⟩⟩
      ·
       replace c10 := Bool.eq_false_iff.mpr c10
       subst c10
       have H1 : (some (x18_1, 0)) = some (r1, r2) := by rw [if_neg (show ¬ (false = true) by decide)] at H; exact H
       clear H
       have H := H1
       clear H1
       simp only [Option.some.injEq, Prod.mk.injEq] at H
       obtain ⟨rfl, rfl⟩ := H
       have p435 : 0 ≤ (x18_1 : Int) := of_decide_eq_true (by first | (with_reducible assumption) | assumption)
       have q435 : x18_1 < (l2.length : Int) := of_decide_eq_true (by first | (with_reducible assumption) | assumption)
       obtain ⟨ad435, e435, hx435_0⟩ := Kd.at_int HR2.out x18_1 p435 q435
       cases e435
       replace hx435_0 := (HB.out.cell (World.block_lt_of_cell? w _ hx435_0)).trans hx435_0
       replace p435 := eq_true p435
       replace q435 := eq_true q435
       have hcz18_0 : wr.cell? ⟨gb434, 0, none⟩ = some (.slice A0_0 l0_0.length c0_0) := (qaa BK434.out 0).trans rfl
       have hcz18_1 : wr.cell? ⟨gb434, 1, none⟩ = some (.slice A0_1 l0_1.length c0_1) := (qaa BK434.out 1).trans rfl
       have hcz18_2 : wr.cell? ⟨gb434, 2, none⟩ = some (.slice A0_2 l0_2.length c0_2) := (qaa BK434.out 2).trans rfl
       have hcz18_3 : wr.cell? ⟨gb434, 3, none⟩ = some (.int .i64 a0_3) := (qaa BK434.out 3).trans rfl
       have hfz18_0 := qac BK434.out 0
       have hfz18_1 := qac BK434.out 1
       have hfz18_2 := qac BK434.out 2
       have hfz18_3 := qac BK434.out 3
       go_wp2_with (first | ((with_reducible refine gate_callee (f := 64) rfl ?_); refine goesL_ (some 26) rfl rfl Try.func64 (by kernel_rfl) rfl #[.agg #[.slice A0_0 l0_0.length c0_0, .slice A0_1 l0_1.length c0_1, .slice A0_2 l0_2.length c0_2, .int .i64 a0_3], .int .i64 a1, .int .i64 (rd l2 x18_1)] rfl (by (try simp only [List.map_toArray, List.map_cons, List.map_nil]); first | done | rfl | (simp only [List.length_drop, List.length_take]; rfl)) ?_; (with_reducible refine (pipe_net_order.calls _ _ l0_0 _ _ l0_1 _ _ l0_2 a0_3 a1 (rd l2 x18_1) t436 t439 false _ ?side1 ?side2 ?side3 ?side4 ?side5 ?side6 A9.out).mono ?_); (case side1 => repeat (first | exact (Kd.qak HR0_0.out HB.out) | (with_reducible refine Kd.C_alloc ?_ _) | (with_reducible refine Kd.C_drewN ?_ _) | (with_reducible refine Kd.C_drew ?_))); (case side2 => exact HC0_0.out); (case side3 => repeat (first | exact (Kd.qak HR0_1.out HB.out) | (with_reducible refine Kd.C_alloc ?_ _) | (with_reducible refine Kd.C_drewN ?_ _) | (with_reducible refine Kd.C_drew ?_))); (case side4 => exact HC0_1.out); (case side5 => repeat (first | exact (Kd.qak HR0_2.out HB.out) | (with_reducible refine Kd.C_alloc ?_ _) | (with_reducible refine Kd.C_drewN ?_ _) | (with_reducible refine Kd.C_drew ?_))); (case side6 => exact HC0_2.out); rintro e w19 ⟨v437, rfl, ho0, hb⟩; refine ⟨_, rfl, ?_⟩; have n0_ := qab.mk (Kd.R_lower ho0 (qan (by repeat (first | (with_reducible first | exact HB.out | apply qae | apply qad | apply qaf | refine qai ?_ GE434.out) | exact HB.out)))); have n1_ := qab.mk (qah (g := gb434) (o := .cells #[.slice A0_0 l0_0.length c0_0, .slice A0_1 l0_1.length c0_1, .slice A0_2 l0_2.length c0_2, .int .i64 a0_3] 99 (0, 0)) (by (with_reducible repeat (first | refine qal ?_ _ | refine qao ?_ | refine qaj ?_ _)); exact BK434.out) hb); have n2_ := qab.mk (qag (by repeat (first | (with_reducible first | exact HB.out | apply qae | apply qad | apply qaf | refine qai ?_ GE434.out) | exact HB.out)) hb); clear BK434; clear HB; have HO438 := n0_; have BK434 := n1_; have HB := n2_; clear n0_ n1_ n2_; (try clear hb); (try clear hb2); (try clear hk); (try clear hi); (try clear ho0)) | ((with_reducible refine qaq (N := 11) rfl ?_); refine qam ?hg (N := 11) ?hd (cs := #[.slice none 0 0, .int .i64 0, .bool false]) (t := 97) ?hr ?_; (case hd => rfl); (case hg => rfl); (case hr => first | (go_simp; done) | (go_simp; rfl)); intro gb441 hg w20 hbox hb; have n0_ := qab.mk (Kd.R_below (by (with_reducible repeat (first | apply Kd.R_alloc | apply Kd.R_drewN | apply Kd.R_drew)); exact HO438.out) hb); have n1_ := qab.mk (qah (g := gb434) (o := .cells #[.slice A0_0 l0_0.length c0_0, .slice A0_1 l0_1.length c0_1, .slice A0_2 l0_2.length c0_2, .int .i64 a0_3] 99 (0, 0)) (by (with_reducible repeat (first | refine qal ?_ _ | refine qao ?_ | refine qaj ?_ _)); exact BK434.out) hb); have n2_ := qab.mk (qag (by repeat (first | (with_reducible first | exact HB.out | apply qae | apply qad | apply qaf | refine qai ?_ GE434.out) | exact HB.out)) hb); have n3_ := qab.mk (hbox); have n4_ := qab.mk ((by rw [hg]; exact (qan (by repeat (first | (with_reducible first | exact HB.out | apply qae | apply qad | apply qaf | refine qai ?_ GE434.out) | exact HB.out))) : w.heap.size ≤ gb441)); have n5_ := qab.mk ((by rw [hg]; exact (qan (by repeat (first | (with_reducible first | exact HB.out | apply qae | apply qad | apply qaf | refine qai ?_ GE434.out) | exact HB.out))) : w.heap.size ≤ gb441)); have n6_ := qab.mk ((by rw [hg]; exact Nat.ne_of_lt (blk_lt (g := gb434) (o := .cells #[.slice A0_0 l0_0.length c0_0, .slice A0_1 l0_1.length c0_1, .slice A0_2 l0_2.length c0_2, .int .i64 a0_3] 99 (0, 0)) (by (with_reducible repeat (first | refine qal ?_ _ | refine qao ?_ | refine qaj ?_ _)); exact BK434.out)) : gb434 ≠ gb441)); have n7_ := qab.mk ((by rw [hg]; exact Nat.ne_of_gt (blk_lt (g := gb434) (o := .cells #[.slice A0_0 l0_0.length c0_0, .slice A0_1 l0_1.length c0_1, .slice A0_2 l0_2.length c0_2, .int .i64 a0_3] 99 (0, 0)) (by (with_reducible repeat (first | refine qal ?_ _ | refine qao ?_ | refine qaj ?_ _)); exact BK434.out)) : gb441 ≠ gb434)); clear HO438; clear BK434; clear HB; have HO438 := n0_; have BK434 := n1_; have HB := n2_; have BK441 := n3_; have GW441 := n4_; have GE441 := n5_; have NB434_441 := n6_; have NB441_434 := n7_; clear n0_ n1_ n2_ n3_ n4_ n5_ n6_ n7_; clear hb hbox hg; obtain ⟨Ao21, co21, eo21⟩ := Kd.R_slice HO438.out; subst eo21; have hnb22 := NB441_434.out; have hnc22 := NB434_441.out; have hcz23_0 : w20.cell? ⟨gb441, 0, none⟩ = some (.slice none 0 0) := (qaa BK441.out 0).trans rfl; have hcz23_1 : w20.cell? ⟨gb441, 1, none⟩ = some (.int .i64 0) := (qaa BK441.out 1).trans rfl; have hcz23_2 : w20.cell? ⟨gb441, 2, none⟩ = some (.bool false) := (qaa BK441.out 2).trans rfl; have hfz23_0 := qac BK441.out 0; have hfz23_1 := qac BK441.out 1; have hfz23_2 := qac BK441.out 2))
       go_ret2
       exact ⟨by first | rfl | (simp [qas, qat] <;> rfl) | (simp [*, qas, qat] <;> rfl), by repeat (first | (with_reducible first | exact HB.out | apply qae | apply qad | apply qaf | refine qai ?_ GE434.out | refine qai ?_ GE441.out) | exact HB.out)⟩
     ·
      rw [if_neg c8] at H
      exact absurd H (by simp)
    ·
     rw [if_neg c7] at H
     exact absurd H (by simp)
   ·
    rw [if_neg c6] at H
    have c6b0 : decide (x18_1 < (l2.length : Int)) = false := decide_eq_false c6
    clear c6
    simp only [Option.some.injEq, Prod.mk.injEq] at H
    obtain ⟨rfl, rfl⟩ := H
    go_wp2
    go_ret2
    exact ⟨by first | rfl | (simp [qas, qat] <;> rfl) | (simp [*, qas, qat] <;> rfl), by repeat (first | (with_reducible first | exact HB.out | apply qae | apply qad | apply qaf | refine qai ?_ GE434.out) | exact HB.out)⟩
def pipe_Weak.f (k : Nat) (l0_0 : List (S39)) (l0_1 : List (S37)) (l0_2 : List (List Int)) (a1 : Int) (l2 : List Int) : Option (Int × Int) := (pipe_given.f l0_0 l0_1 l0_2 a1 l2).bind fun t443 => (if t443 = 0 then ((pipe_net_weak.f k l0_0 l0_1 l0_2 0 a1 l2).bind fun bt444 => (some (bt444.1, 0))) else (some (0, t443)))
theorem pipe_Weak.calls (k : Nat) (A0_0 : Option Addr) (c0_0 : Nat) (l0_0 : List (S39)) (A0_1 : Option Addr) (c0_1 : Nat) (l0_1 : List (S37)) (A0_2 : Option Addr) (c0_2 : Nat) (l0_2 : List (List Int)) (a1 : Int) (A2 : Option Addr) (c2 : Nat) (l2 : List Int) (r1 : Int) (r2 : Int) (w : World) (hr0_0 : Kd.C k39 w A0_0 l0_0.length l0_0) (hc0_0 : l0_0.length ≤ c0_0) (hr0_1 : Kd.C k37 w A0_1 l0_1.length l0_1) (hc0_1 : l0_1.length ≤ c0_1) (hr0_2 : Kd.C (Kd.slice 3 (Kd.int .i64)) w A0_2 l0_2.length l0_2) (hc0_2 : l0_2.length ≤ c0_2) (hr2 : Kd.C (Kd.int .i64) w A2 l2.length l2) (hc2 : l2.length ≤ c2) (h : pipe_Weak.f k l0_0 l0_1 l0_2 a1 l2 = some (r1, r2)) :
  Calls Try.prog 44 #[.agg #[.slice A0_0 l0_0.length c0_0, .slice A0_1 l0_1.length c0_1, .slice A0_2 l0_2.length c0_2], .int .i64 a1, .slice A2 l2.length c2] w fun e w' => e = .returned (.tuple #[.int .i64 r1, .int .i64 r2]) ∧ Below w.heap.size w w' := by
 have hu26 := Try.underlying26
 have hu99 := Try.underlying99
 have HR0_0 := qab.mk hr0_0
 have HC0_0 := qab.mk hc0_0
 clear hr0_0 hc0_0
 have HR0_1 := qab.mk hr0_1
 have HC0_1 := qab.mk hc0_1
 clear hr0_1 hc0_1
 have HR0_2 := qab.mk hr0_2
 have HC0_2 := qab.mk hc0_2
 clear hr0_2 hc0_2
 have HR2 := qab.mk hr2
 have HC2 := qab.mk hc2
 clear hr2 hc2
 have HB := qab.mk (Below.refl w.heap.size w)
 have H : ((pipe_given.f l0_0 l0_1 l0_2 a1 l2).bind fun t443 => (if t443 = 0 then ((pipe_net_weak.f k l0_0 l0_1 l0_2 0 a1 l2).bind fun bt444 => (some (bt444.1, 0))) else (some (0, t443)))) = some (r1, r2) := h
 clear h
 replace H := Option.bind_eq_some_iff.mp H
 obtain ⟨t443, A40, H⟩ := H
 replace H : (if t443 = 0 then ((pipe_net_weak.f k l0_0 l0_1 l0_2 0 a1 l2).bind fun bt444 => (some (bt444.1, 0))) else (some (0, t443))) = some (r1, r2) := H
 have A4 := qab.mk A40
 clear A40
 by_cases c5 : t443 = 0
 ·
  rw [if_pos c5] at H
  have c5b0 : (t443 == 0) = true := beq_iff_eq.mpr c5
  have c5b1 : (t443 != 0) = false := bne_eq_false_iff_eq.mpr c5
  clear c5
  replace H := Option.bind_eq_some_iff.mp H
  obtain ⟨⟨t444, t445⟩, A60, H⟩ := H
  replace H : (some (t444, 0)) = some (r1, r2) := H
  have A6 := qab.mk A60
  clear A60
  simp only [Option.some.injEq, Prod.mk.injEq] at H
  obtain ⟨rfl, rfl⟩ := H
  go_enter Try.func44, Try.ntmps44
  go_wp2_with (first | ((with_reducible refine qaq (N := 3) rfl ?_); refine qam ?hg (N := 3) ?hd (cs := #[.slice A0_0 l0_0.length c0_0, .slice A0_1 l0_1.length c0_1, .slice A0_2 l0_2.length c0_2]) (t := 26) ?hr ?_; (case hd => rfl); (case hg => rfl); (case hr => first | (go_simp; done) | (go_simp; rfl)); intro gb442 hg w7 hbox hb; have n0_ := qab.mk (qag (by repeat (first | (with_reducible first | exact HB.out | apply qae | apply qad | apply qaf) | exact HB.out)) hb); have n1_ := qab.mk (hbox); have n2_ := qab.mk ((by rw [hg]; exact (qan (by repeat (first | (with_reducible first | exact HB.out | apply qae | apply qad | apply qaf) | exact HB.out))) : w.heap.size ≤ gb442)); have n3_ := qab.mk ((by rw [hg]; exact (qan (by repeat (first | (with_reducible first | exact HB.out | apply qae | apply qad | apply qaf) | exact HB.out))) : w.heap.size ≤ gb442)); clear HB; have HB := n0_; have BK442 := n1_; have GW442 := n2_; have GE442 := n3_; clear n0_ n1_ n2_ n3_; clear hb hbox hg; have hcz8_0 : w7.cell? ⟨gb442, 0, none⟩ = some (.slice A0_0 l0_0.length c0_0) := (qaa BK442.out 0).trans rfl; have hcz8_1 : w7.cell? ⟨gb442, 1, none⟩ = some (.slice A0_1 l0_1.length c0_1) := (qaa BK442.out 1).trans rfl; have hcz8_2 : w7.cell? ⟨gb442, 2, none⟩ = some (.slice A0_2 l0_2.length c0_2) := (qaa BK442.out 2).trans rfl; have hfz8_0 := qac BK442.out 0; have hfz8_1 := qac BK442.out 1; have hfz8_2 := qac BK442.out 2) | ((with_reducible refine gate_callee (f := 70) rfl ?_); refine goesL_ (some 14) rfl rfl Try.func70 (by kernel_rfl) rfl #[.agg #[.slice A0_0 l0_0.length c0_0, .slice A0_1 l0_1.length c0_1, .slice A0_2 l0_2.length c0_2], .int .i64 a1, .slice A2 l2.length c2] rfl (by (try simp only [List.map_toArray, List.map_cons, List.map_nil]); first | done | rfl | (simp only [List.length_drop, List.length_take]; rfl)) ?_; (with_reducible refine (pipe_given.calls _ _ l0_0 _ _ l0_1 _ _ l0_2 a1 _ _ l2 t443 _ ?side1 ?side2 ?side3 ?side4 ?side5 ?side6 ?side7 ?side8 A4.out).mono ?_); (case side1 => repeat (first | exact (Kd.qak HR0_0.out HB.out) | (with_reducible refine Kd.C_alloc ?_ _) | (with_reducible refine Kd.C_drewN ?_ _) | (with_reducible refine Kd.C_drew ?_))); (case side2 => exact HC0_0.out); (case side3 => repeat (first | exact (Kd.qak HR0_1.out HB.out) | (with_reducible refine Kd.C_alloc ?_ _) | (with_reducible refine Kd.C_drewN ?_ _) | (with_reducible refine Kd.C_drew ?_))); (case side4 => exact HC0_1.out); (case side5 => repeat (first | exact (Kd.qak HR0_2.out HB.out) | (with_reducible refine Kd.C_alloc ?_ _) | (with_reducible refine Kd.C_drewN ?_ _) | (with_reducible refine Kd.C_drew ?_))); (case side6 => exact HC0_2.out); (case side7 => repeat (first | exact (Kd.qak HR2.out HB.out) | (with_reducible refine Kd.C_alloc ?_ _) | (with_reducible refine Kd.C_drewN ?_ _) | (with_reducible refine Kd.C_drew ?_))); (case side8 => exact HC2.out); rintro e w9 ⟨rfl, hb⟩; refine ⟨_, rfl, ?_⟩; have n0_ := qab.mk (qah (g := gb442) (o := .cells #[.slice A0_0 l0_0.length c0_0, .slice A0_1 l0_1.length c0_1, .slice A0_2 l0_2.length c0_2] 26 (0, 0)) (by (with_reducible repeat (first | refine qal ?_ _ | refine qao ?_ | refine qaj ?_ _)); exact BK442.out) hb); have n1_ := qab.mk (qag (by repeat (first | (with_reducible first | exact HB.out | apply qae | apply qad | apply qaf | refine qai ?_ GE442.out) | exact HB.out)) hb); clear BK442; clear HB; have BK442 := n0_; have HB := n1_; clear n0_ n1_; (try clear hb); (try clear hb2); (try clear hk); (try clear hi); have hcz10_0 : w9.cell? ⟨gb442, 0, none⟩ = some (.slice A0_0 l0_0.length c0_0) := (qaa BK442.out 0).trans rfl; have hcz10_1 : w9.cell? ⟨gb442, 1, none⟩ = some (.slice A0_1 l0_1.length c0_1) := (qaa BK442.out 1).trans rfl; have hcz10_2 : w9.cell? ⟨gb442, 2, none⟩ = some (.slice A0_2 l0_2.length c0_2) := (qaa BK442.out 2).trans rfl; have hfz10_0 := qac BK442.out 0; have hfz10_1 := qac BK442.out 1; have hfz10_2 := qac BK442.out 2) | ((with_reducible refine gate_callee (f := 74) rfl ?_); refine goesL_ (some 23) rfl rfl Try.func74 (by kernel_rfl) rfl #[.agg #[.slice A0_0 l0_0.length c0_0, .slice A0_1 l0_1.length c0_1, .slice A0_2 l0_2.length c0_2, .int .i64 0], .int .i64 a1, .slice A2 l2.length c2] rfl (by (try simp only [List.map_toArray, List.map_cons, List.map_nil]); first | done | rfl | (simp only [List.length_drop, List.length_take]; rfl)) ?_; (with_reducible refine (pipe_net_weak.calls k _ _ l0_0 _ _ l0_1 _ _ l0_2 0 a1 _ _ l2 t444 t445 _ ?side1 ?side2 ?side3 ?side4 ?side5 ?side6 ?side7 ?side8 A6.out).mono ?_); (case side1 => repeat (first | exact (Kd.qak HR0_0.out HB.out) | (with_reducible refine Kd.C_alloc ?_ _) | (with_reducible refine Kd.C_drewN ?_ _) | (with_reducible refine Kd.C_drew ?_))); (case side2 => exact HC0_0.out); (case side3 => repeat (first | exact (Kd.qak HR0_1.out HB.out) | (with_reducible refine Kd.C_alloc ?_ _) | (with_reducible refine Kd.C_drewN ?_ _) | (with_reducible refine Kd.C_drew ?_))); (case side4 => exact HC0_1.out); (case side5 => repeat (first | exact (Kd.qak HR0_2.out HB.out) | (with_reducible refine Kd.C_alloc ?_ _) | (with_reducible refine Kd.C_drewN ?_ _) | (with_reducible refine Kd.C_drew ?_))); (case side6 => exact HC0_2.out); (case side7 => repeat (first | exact (Kd.qak HR2.out HB.out) | (with_reducible refine Kd.C_alloc ?_ _) | (with_reducible refine Kd.C_drewN ?_ _) | (with_reducible refine Kd.C_drew ?_))); (case side8 => exact HC2.out); rintro e w11 ⟨rfl, hb⟩; refine ⟨_, rfl, ?_⟩; have n0_ := qab.mk (qah (g := gb442) (o := .cells #[.slice A0_0 l0_0.length c0_0, .slice A0_1 l0_1.length c0_1, .slice A0_2 l0_2.length c0_2] 26 (0, 0)) (by (with_reducible repeat (first | refine qal ?_ _ | refine qao ?_ | refine qaj ?_ _)); exact BK442.out) hb); have n1_ := qab.mk (qag (by repeat (first | (with_reducible first | exact HB.out | apply qae | apply qad | apply qaf | refine qai ?_ GE442.out) | exact HB.out)) hb); clear BK442; clear HB; have BK442 := n0_; have HB := n1_; clear n0_ n1_; (try clear hb); (try clear hb2); (try clear hk); (try clear hi)))
  go_ret2
  exact ⟨by first | rfl | (simp [qas, qat] <;> rfl) | (simp [*, qas, qat] <;> rfl), by repeat (first | (with_reducible first | exact HB.out | apply qae | apply qad | apply qaf | refine qai ?_ GE442.out) | exact HB.out)⟩
 ·
  rw [if_neg c5] at H
  have c5b0 : (t443 == 0) = false := beq_eq_false_iff_ne.mpr c5
  have c5b1 : (t443 != 0) = true := bne_iff_ne.mpr c5
  simp only [Option.some.injEq, Prod.mk.injEq] at H
  obtain ⟨rfl, rfl⟩ := H
  go_enter Try.func44, Try.ntmps44
  go_wp2_with (first | ((with_reducible refine qaq (N := 3) rfl ?_); refine qam ?hg (N := 3) ?hd (cs := #[.slice A0_0 l0_0.length c0_0, .slice A0_1 l0_1.length c0_1, .slice A0_2 l0_2.length c0_2]) (t := 26) ?hr ?_; (case hd => rfl); (case hg => rfl); (case hr => first | (go_simp; done) | (go_simp; rfl)); intro gb442 hg w12 hbox hb; have n0_ := qab.mk (qag (by repeat (first | (with_reducible first | exact HB.out | apply qae | apply qad | apply qaf) | exact HB.out)) hb); have n1_ := qab.mk (hbox); have n2_ := qab.mk ((by rw [hg]; exact (qan (by repeat (first | (with_reducible first | exact HB.out | apply qae | apply qad | apply qaf) | exact HB.out))) : w.heap.size ≤ gb442)); have n3_ := qab.mk ((by rw [hg]; exact (qan (by repeat (first | (with_reducible first | exact HB.out | apply qae | apply qad | apply qaf) | exact HB.out))) : w.heap.size ≤ gb442)); clear HB; have HB := n0_; have BK442 := n1_; have GW442 := n2_; have GE442 := n3_; clear n0_ n1_ n2_ n3_; clear hb hbox hg; have hcz13_0 : w12.cell? ⟨gb442, 0, none⟩ = some (.slice A0_0 l0_0.length c0_0) := (qaa BK442.out 0).trans rfl; have hcz13_1 : w12.cell? ⟨gb442, 1, none⟩ = some (.slice A0_1 l0_1.length c0_1) := (qaa BK442.out 1).trans rfl; have hcz13_2 : w12.cell? ⟨gb442, 2, none⟩ = some (.slice A0_2 l0_2.length c0_2) := (qaa BK442.out 2).trans rfl; have hfz13_0 := qac BK442.out 0; have hfz13_1 := qac BK442.out 1; have hfz13_2 := qac BK442.out 2) | ((with_reducible refine gate_callee (f := 70) rfl ?_); refine goesL_ (some 14) rfl rfl Try.func70 (by kernel_rfl) rfl #[.agg #[.slice A0_0 l0_0.length c0_0, .slice A0_1 l0_1.length c0_1, .slice A0_2 l0_2.length c0_2], .int .i64 a1, .slice A2 l2.length c2] rfl (by (try simp only [List.map_toArray, List.map_cons, List.map_nil]); first | done | rfl | (simp only [List.length_drop, List.length_take]; rfl)) ?_; (with_reducible refine (pipe_given.calls _ _ l0_0 _ _ l0_1 _ _ l0_2 a1 _ _ l2 t443 _ ?side1 ?side2 ?side3 ?side4 ?side5 ?side6 ?side7 ?side8 A4.out).mono ?_); (case side1 => repeat (first | exact (Kd.qak HR0_0.out HB.out) | (with_reducible refine Kd.C_alloc ?_ _) | (with_reducible refine Kd.C_drewN ?_ _) | (with_reducible refine Kd.C_drew ?_))); (case side2 => exact HC0_0.out); (case side3 => repeat (first | exact (Kd.qak HR0_1.out HB.out) | (with_reducible refine Kd.C_alloc ?_ _) | (with_reducible refine Kd.C_drewN ?_ _) | (with_reducible refine Kd.C_drew ?_))); (case side4 => exact HC0_1.out); (case side5 => repeat (first | exact (Kd.qak HR0_2.out HB.out) | (with_reducible refine Kd.C_alloc ?_ _) | (with_reducible refine Kd.C_drewN ?_ _) | (with_reducible refine Kd.C_drew ?_))); (case side6 => exact HC0_2.out); (case side7 => repeat (first | exact (Kd.qak HR2.out HB.out) | (with_reducible refine Kd.C_alloc ?_ _) | (with_reducible refine Kd.C_drewN ?_ _) | (with_reducible refine Kd.C_drew ?_))); (case side8 => exact HC2.out); rintro e w14 ⟨rfl, hb⟩; refine ⟨_, rfl, ?_⟩; have n0_ := qab.mk (qah (g := gb442) (o := .cells #[.slice A0_0 l0_0.length c0_0, .slice A0_1 l0_1.length c0_1, .slice A0_2 l0_2.length c0_2] 26 (0, 0)) (by (with_reducible repeat (first | refine qal ?_ _ | refine qao ?_ | refine qaj ?_ _)); exact BK442.out) hb); have n1_ := qab.mk (qag (by repeat (first | (with_reducible first | exact HB.out | apply qae | apply qad | apply qaf | refine qai ?_ GE442.out) | exact HB.out)) hb); clear BK442; clear HB; have BK442 := n0_; have HB := n1_; clear n0_ n1_; (try clear hb); (try clear hb2); (try clear hk); (try clear hi)))
  go_ret2
  exact ⟨by first | rfl | (simp [qas, qat] <;> rfl) | (simp [*, qas, qat] <;> rfl), by repeat (first | (with_reducible first | exact HB.out | apply qae | apply qad | apply qaf | refine qai ?_ GE442.out) | exact HB.out)⟩
theorem weak_some (l0 : List S39) (l1 : List S37) (l2 : List (List Int)) (wp from_ : Int) (fs : List Int) (ho : ∀ f ∈ fs, ∃ r, pipe_net_order.f l0 l1 l2 wp from_ f = some r) :
  ∀ (k j : Nat) (s : Int), fs.length - j < k → j ≤ fs.length → fs.length ≤ 1000 → ∃ r, pipe_net_weak.l0 k from_ s fs (fs.length : Int) (j : Int) l0 l1 l2 wp = some r := by
 intro k
 induction k with
 | zero => intro j s h; omega
 | succ k ih =>
  intro j s h hj hn
  unfold pipe_net_weak.l0
  by_cases hlt : j < fs.length
  ·
   rw [if_pos (by omega), if_pos (by omega), if_pos (by omega)]
   obtain ⟨r, hr⟩ := ho (rd fs j) (by unfold rd; simp [hlt])
   rw [hr]
   simp only [Option.bind_some]
   split
   ·
    have hw : wrap64 ((j : Int) + 1) = ((j + 1 : Nat) : Int) := by unfold wrap64; omega
    rw [hw]
    exact ih (j + 1) _ (by omega) (by omega) hn
   ·
    exact ⟨_, rfl⟩
  ·
   rw [if_neg (by omega)]
   exact ⟨_, rfl⟩
def weakV (l0 : List S39) (l1 : List S37) (l2 : List (List Int)) (wp from_ : Int) (fs : List Int) : Int × Int := (pipe_net_weak.f 14 l0 l1 l2 wp from_ fs).getD (0, 0)
theorem weakV_some (l0 : List S39) (l1 : List S37) (l2 : List (List Int)) (wp from_ : Int) (fs : List Int) (hl : fs.length ≤ 12) (ho : ∀ f ∈ fs, ∃ r, pipe_net_order.f l0 l1 l2 wp from_ f = some r) :
  pipe_net_weak.f 14 l0 l1 l2 wp from_ fs = some ((weakV l0 l1 l2 wp from_ fs).1, (weakV l0 l1 l2 wp from_ fs).2) := by
 obtain ⟨r, hr⟩ := weak_some l0 l1 l2 wp from_ fs ho 14 0 (l1.length : Int) (by omega) (by omega) (by omega)
 have h : pipe_net_weak.f 14 l0 l1 l2 wp from_ fs = some r := hr
 unfold weakV
 rw [h]
 rfl
theorem shl_pow (n : Nat) (h : n ≤ 5) : shl .i64 1 (n : Int) = 2 ^ n := by
 match n, h with
 | 0, _ => rfl
 | 1, _ => rfl
 | 2, _ => rfl
 | 3, _ => rfl
 | 4, _ => rfl
 | 5, _ => rfl
theorem given_ok {l0 : List S39} {l1 : List S37} {l2 : List (List Int)} {a1 : Int} {fs : List Int} (h : givenV l0 l1 l2 a1 fs = 0) : fs.length ≤ 12 ∧ validB l0 l1 l2 = true ∧ 0 ≤ a1 ∧ a1 ≤ l0.length ∧ ∀ f ∈ fs, 0 ≤ f ∧ f < 2 ^ l0.length := by
 unfold givenV at h
 split at h
 ·
  cases h
 ·
  rename_i hl
  split at h
  ·
   cases h
  ·
   rename_i hc
   simp only [Bool.or_eq_true, Bool.not_eq_true', not_or, Bool.not_eq_false] at hc
   obtain ⟨hv, hp, ha⟩ := hc
   have hlen := valid_lens hv
   unfold inB at hp
   simp only [Bool.and_eq_true, decide_eq_true_eq] at hp
   refine ⟨by omega, hv, hp.1, hp.2, fun f hf => ?_⟩
   rw [Bool.not_eq_true, List.any_eq_false] at ha
   have h1 := ha f hf
   simp only [Bool.not_eq_true', Bool.not_eq_false] at h1
   unfold faultB inB at h1
   simp only [Bool.and_eq_true, decide_eq_true_eq] at h1
   rw [shl_pow _ hlen.2.2.1] at h1
   have h32 : (2 : Int) ^ l0.length ≤ 32 := by
    have h := Nat.pow_le_pow_right (n := 2) (by decide) hlen.2.2.1
    have : ((2 ^ l0.length : Nat) : Int) ≤ ((2 ^ 5 : Nat) : Int) := Int.ofNat_le.2 h
    simpa using this
   have h0 : (0 : Int) < 2 ^ l0.length := Int.pow_pos (by decide)
   unfold wrap64 at h1
   exact ⟨h1.1, by omega⟩
theorem order_some {l0 : List S39} {l1 : List S37} {l2 : List (List Int)} {wp a1 f : Int} (hv : validB l0 l1 l2 = true) (hw : 0 ≤ wp) (h0 : 0 ≤ a1) (h1 : a1 ≤ l0.length) (f0 : 0 ≤ f) (f1 : f < 2 ^ l0.length) : ∃ r, pipe_net_order.f l0 l1 l2 wp a1 f = some r := by
 unfold pipe_net_order.f
 rw [if_pos ⟨hv, hw, h0, h1, f0, f1⟩]
 exact ⟨_, rfl⟩
structure Inv73 (w0 : World) (gn gf : Nat) (cn cf : Value) (cs : Array Value) (A : Nat → Prop) (W : World) : Prop where
 an : ¬ A gn
 af : ¬ A gf
 lo : ∀ k, A k → w0.heap.size ≤ k
 xn : W.heap[gn]? = some (.cells cs 26 (0, 0))
 xf : W.heap[gf]? = some (.cells #[cf] 47 (0, 0))
 hb : Below w0.heap.size w0 W
theorem Inv73.held {w0 : World} {gn gf : Nat} {cn cf : Value} {cs : Array Value} {B : Nat} (hB : w0.heap.size ≤ B) : Held B (Inv73 w0 gn gf cn cf cs) where
 mono A A' W hA h := ⟨fun hk => h.an (hA _ hk), fun hk => h.af (hA _ hk), fun k hk => h.lo k (hA k hk), h.xn, h.xf, h.hb⟩
 fresh A W h := ⟨fun hk => hk.elim h.an (fun e => by have := blk_lt h.xn; omega), fun hk => hk.elim h.af (fun e => by have := blk_lt h.xf; omega), fun k hk => hk.elim (h.lo k) (fun e => Nat.le_trans h.hb.size e), h.xn, h.xf, h.hb⟩
 step A W W' h hk := ⟨h.an, h.af, h.lo, hk.blk h.xn h.an, hk.blk h.xf h.af, ⟨hk.os.trans h.hb.os, hk.tape.trans h.hb.tape, hk.output.trans h.hb.output, Nat.le_trans h.hb.size hk.size, fun k hlt => (hk.block k (Nat.lt_of_lt_of_le hlt h.hb.size) (fun ha => by have := h.lo k ha; omega)).trans (h.hb.block k hlt)⟩⟩
 own A W W' row h hg hr := ⟨h.an, h.af, h.lo, blk_own h.xn hg hr, blk_own h.xf hg hr, ⟨hg.os.trans h.hb.os, hg.tape.trans h.hb.tape, hg.output.trans h.hb.output, Nat.le_trans h.hb.size hg.size, fun k hlt => (hg.block k (Nat.lt_of_lt_of_le hlt h.hb.size) (fun e => by have := (hr k e.symm).1; omega)).trans (h.hb.block k hlt)⟩⟩
def ofPost (l0 : List S39) (l1 : List S37) (l2 : List (List Int)) (fs : List Int) (p : Int) : Int × Bool := ((weakV l0 l1 l2 0 p fs).2, decide ((weakV l0 l1 l2 0 p fs).1 < 0))
theorem of73_calls (A0 : Option Addr) (c0 : Nat) (l0 : List S39) (A1 : Option Addr) (c1 : Nat) (l1 : List S37) (A2 : Option Addr) (c2 : Nat) (l2 : List (List Int)) (A3 : Option Addr) (c3 : Nat) (fs : List Int) (w0 : World) (gn gf : Nat) (cn : Value)
  (hr0 : Kd.C k39 w0 A0 l0.length l0) (hc0 : l0.length ≤ c0) (hr1 : Kd.C k37 w0 A1 l1.length l1) (hc1 : l1.length ≤ c1) (hr2 : Kd.C (Kd.slice 3 (Kd.int .i64)) w0 A2 l2.length l2) (hc2 : l2.length ≤ c2) (hr3 : Kd.C (Kd.int .i64) w0 A3 fs.length fs) (hc3 : fs.length ≤ c3)
  (x : Int) (hok : pipe_net_weak.f 14 l0 l1 l2 0 x fs = some ((weakV l0 l1 l2 0 x fs).1, (weakV l0 l1 l2 0 x fs).2)) (A : Nat → Prop) (w : World) (hinv : Inv73 w0 gn gf cn (.slice A3 fs.length c3) #[.slice A0 l0.length c0, .slice A1 l1.length c1, .slice A2 l2.length c2] A w) :
  Calls Try.prog 73 #[.int .i64 x, .pointer (some ⟨gn, 0, none⟩), .pointer (some ⟨gf, 0, none⟩)] w fun e w' => e = .returned (.tuple #[.int .i64 (ofPost l0 l1 l2 fs x).1, .bool (ofPost l0 l1 l2 fs x).2]) ∧ Inv73 w0 gn gf cn (.slice A3 fs.length c3) #[.slice A0 l0.length c0, .slice A1 l1.length c1, .slice A2 l2.length c2] A w' ∧ KB (fun _ => False) w w' := by
 have hu26 := Try.underlying26
 have hu99 := Try.underlying99
 have H := qab.mk (pipe_net_weak.calls 14 _ _ l0 _ _ l1 _ _ l2 0 x _ _ fs _ _ w (Kd.qak hr0 hinv.hb) hc0 (Kd.qak hr1 hinv.hb) hc1 (Kd.qak hr2 hinv.hb) hc2 (Kd.qak hr3 hinv.hb) hc3 hok)
 have k0 : w.cell? ⟨gn, 0, none⟩ = some (.slice A0 l0.length c0) := qaa hinv.xn 0
 have k1 : w.cell? ⟨gn, 1, none⟩ = some (.slice A1 l1.length c1) := qaa hinv.xn 1
 have k2 : w.cell? ⟨gn, 2, none⟩ = some (.slice A2 l2.length c2) := qaa hinv.xn 2
 have k3 : w.cell? ⟨gf, 0, none⟩ = some (.slice A3 fs.length c3) := qaa hinv.xf 0
 have HI := qab.mk hinv
 unfold ofPost
 clear hr0 hc0 hr1 hc1 hr2 hc2 hr3 hc3 hok hinv
 generalize weakV l0 l1 l2 0 x fs = ws at H ⊢
 obtain ⟨i, sl⟩ := ws
 try dsimp only at H ⊢
 go_enter Try.func73, Try.ntmps73
 go_wp2_with (go_at_call 74; refine H.out.mono ?_; rintro e w2 ⟨rfl, hb⟩; have HB := qab.mk hb; clear hb)
 go_ret2
 exact ⟨rfl, (Inv73.held (Nat.le_refl _)).step A w _ HI.out (KB.of_below HB.out A), KB.of_below HB.out _⟩
def postV (l0 : List S39) (l1 : List S37) (l2 : List (List Int)) (fs : List Int) : Int × Int × Int :=
 if givenV l0 l1 l2 0 fs ≠ 0 then (0, 0, givenV l0 l1 l2 0 fs) else
  if (g1 (ofPost l0 l1 l2 fs) (numsOf (l0.length + 1))).2.2 = true then ((g1 (ofPost l0 l1 l2 fs) (numsOf (l0.length + 1))).1, (g1 (ofPost l0 l1 l2 fs) (numsOf (l0.length + 1))).2.1, 0) else (0, 0, 5)
def pipe_Post.f (l0_0 : List (S39)) (l0_1 : List (S37)) (l0_2 : List (List Int)) (l1 : List Int) : Option (Int × Int × Int) := some (postV l0_0 l0_1 l0_2 l1)
theorem pipe_Post.calls (A0_0 : Option Addr) (c0_0 : Nat) (l0_0 : List (S39)) (A0_1 : Option Addr) (c0_1 : Nat) (l0_1 : List (S37)) (A0_2 : Option Addr) (c0_2 : Nat) (l0_2 : List (List Int)) (A1 : Option Addr) (c1 : Nat) (l1 : List Int) (r1 : Int) (r2 : Int) (r3 : Int) (w : World) (hr0_0 : Kd.C k39 w A0_0 l0_0.length l0_0) (hc0_0 : l0_0.length ≤ c0_0) (hr0_1 : Kd.C k37 w A0_1 l0_1.length l0_1) (hc0_1 : l0_1.length ≤ c0_1) (hr0_2 : Kd.C (Kd.slice 3 (Kd.int .i64)) w A0_2 l0_2.length l0_2) (hc0_2 : l0_2.length ≤ c0_2) (hr1 : Kd.C (Kd.int .i64) w A1 l1.length l1) (hc1 : l1.length ≤ c1) (h : pipe_Post.f l0_0 l0_1 l0_2 l1 = some (r1, r2, r3)) :
  Calls Try.prog 37 #[.agg #[.slice A0_0 l0_0.length c0_0, .slice A0_1 l0_1.length c0_1, .slice A0_2 l0_2.length c0_2], .slice A1 l1.length c1] w fun e w' => e = .returned (.tuple #[.int .i64 r1, .int .i64 r2, .int .i64 r3]) ∧ Below w.heap.size w w' := by
 have h' := Option.some.inj h
 clear h
 have HF := qab.mk h'
 clear h'
 have hu26 := Try.underlying26
 have HB := qab.mk (Below.refl w.heap.size w)
 have HR0 := qab.mk hr0_0
 have HR1 := qab.mk hr0_1
 have HR2 := qab.mk hr0_2
 have HR3 := qab.mk hr1
 clear hr0_0 hr0_1 hr0_2 hr1
 have hmf : ∀ (fn : Fn) (first cap : Array Value) (w : World), (Instr.makeFunc fn first cap).run Try.prog w = .ok (.func fn first cap) w := fun _ _ _ _ => rfl
 have hgiven : ∀ W, Below w.heap.size w W → Calls Try.prog 70 #[.agg #[.slice A0_0 l0_0.length c0_0, .slice A0_1 l0_1.length c0_1, .slice A0_2 l0_2.length c0_2], .int .i64 0, .slice A1 l1.length c1] W fun e w' => e = .returned (.int .i64 (givenV l0_0 l0_1 l0_2 0 l1)) ∧ Below W.heap.size W w' := fun W hW =>
  pipe_given.calls _ _ _ _ _ _ _ _ _ 0 _ _ l1 _ W (Kd.qak HR0.out hW) hc0_0 (Kd.qak HR1.out hW) hc0_1 (Kd.qak HR2.out hW) hc0_2 (Kd.qak HR3.out hW) hc1 rfl
 have HGIV := qab.mk hgiven
 clear hgiven
 obtain ⟨gv, hgv⟩ : ∃ gv, gv = givenV l0_0 l0_1 l0_2 0 l1 := ⟨_, rfl⟩
 rw [← hgv] at HGIV
 by_cases hz : gv = 0
 ·
  have hgo := given_ok (hgv.symm.trans hz)
  have hlen := valid_lens hgo.2.1
  have hweak : ∀ x, x ∈ numsOf (l0_0.length + 1) → pipe_net_weak.f 14 l0_0 l0_1 l0_2 0 x l1 = some ((weakV l0_0 l0_1 l0_2 0 x l1).1, (weakV l0_0 l0_1 l0_2 0 x l1).2) := fun x hx => by
   unfold numsOf at hx
   simp only [List.mem_map, List.mem_range] at hx
   obtain ⟨k, hk, rfl⟩ := hx
   exact weakV_some _ _ _ _ _ _ hgo.1 (fun f hf => order_some hgo.2.1 (by omega) (by omega) (by omega) (hgo.2.2.2.2 f hf).1 (hgo.2.2.2.2 f hf).2)
  have HW := qab.mk hweak
  have HLN : qab (l0_0.length ≤ 5) := ⟨hlen.2.2.1⟩
  have hPV : postV l0_0 l0_1 l0_2 l1 = (if (g1 (ofPost l0_0 l0_1 l0_2 l1) (numsOf (l0_0.length + 1))).2.2 = true then ((g1 (ofPost l0_0 l0_1 l0_2 l1) (numsOf (l0_0.length + 1))).1, (g1 (ofPost l0_0 l0_1 l0_2 l1) (numsOf (l0_0.length + 1))).2.1, 0) else (0, 0, 5)) := by
   unfold postV
   rw [if_neg (by rw [← hgv]; simp [hz])]
  have HPV := qab.mk (hPV.symm.trans HF.out)
  clear hPV hweak hlen hgo hgv
  subst hz
  have hw1 : IntKind.i64.wrap ((l0_0.length : Int) + 1) = (l0_0.length : Int) + 1 := by rw [i64_w]; unfold wrap64; have := HLN.out; omega
  go_enter Try.func37, Try.ntmps37
  go_wp2_with (first | ((with_reducible refine qaq (N := 2) rfl ?_); refine qam ?hg (N := 2) ?hd (cs := #[.slice A0_0 l0_0.length c0_0, .slice A0_1 l0_1.length c0_1, .slice A0_2 l0_2.length c0_2]) (t := 26) ?hr ?_; (case hd => rfl); (case hg => rfl); (case hr => first | (go_simp; done) | (go_simp; rfl)); intro gb hg_gb w2 hbox hb; have BKgb := qab.mk hbox; have n_HB := qab.mk (qag HB.out hb); have GEgb : w.heap.size ≤ gb := (by rw [hg_gb]; exact HB.out.size); clear HB; have HB := n_HB; clear n_HB; clear hbox hb hg_gb) | ((with_reducible refine qaq (N := 3) rfl ?_); refine qam ?hg (N := 3) ?hd (cs := #[.slice A1 l1.length c1]) (t := 47) ?hr ?_; (case hd => rfl); (case hg => rfl); (case hr => first | (go_simp; done) | (go_simp; rfl)); intro gf hg_gf w3 hbox hb; have BKgf := qab.mk hbox; have n_BKgb := qab.mk (qah BKgb.out hb); clear BKgb; have BKgb := n_BKgb; clear n_BKgb; have n_HB := qab.mk (qag HB.out hb); have GEgf : w.heap.size ≤ gf := (by rw [hg_gf]; exact HB.out.size); clear HB; have HB := n_HB; clear n_HB; clear hbox hb hg_gf; have hfgb := qac BKgb.out; have hcgb_0 : w3.cell? ⟨gb, 0, none⟩ = some (.slice A0_0 l0_0.length c0_0) := (qaa BKgb.out 0).trans rfl; have hcgb_1 : w3.cell? ⟨gb, 1, none⟩ = some (.slice A0_1 l0_1.length c0_1) := (qaa BKgb.out 1).trans rfl; have hcgb_2 : w3.cell? ⟨gb, 2, none⟩ = some (.slice A0_2 l0_2.length c0_2) := (qaa BKgb.out 2).trans rfl; have hfgf := qac BKgf.out; have hcgf_0 : w3.cell? ⟨gf, 0, none⟩ = some (.slice A1 l1.length c1) := (qaa BKgf.out 0).trans rfl) | (go_at_call 70; refine (HGIV.out _ HB.out).mono ?_; rintro e w4 ⟨rfl, hb⟩; have n_BKgb := qab.mk (qah BKgb.out hb); clear BKgb; have BKgb := n_BKgb; clear n_BKgb; have n_BKgf := qab.mk (qah BKgf.out hb); clear BKgf; have BKgf := n_BKgf; clear n_BKgf; have n_HB := qab.mk (qag HB.out hb); clear HB; have HB := n_HB; clear n_HB; clear hb; have hfgb := qac BKgb.out; have hcgb_0 : w4.cell? ⟨gb, 0, none⟩ = some (.slice A0_0 l0_0.length c0_0) := (qaa BKgb.out 0).trans rfl; have hcgb_1 : w4.cell? ⟨gb, 1, none⟩ = some (.slice A0_1 l0_1.length c0_1) := (qaa BKgb.out 1).trans rfl; have hcgb_2 : w4.cell? ⟨gb, 2, none⟩ = some (.slice A0_2 l0_2.length c0_2) := (qaa BKgb.out 2).trans rfl) | (go_at_call 72; refine (numbers_calls _ _).mono ?_; rintro e w5 ⟨BB, rfl, hBB, hge, hb⟩; have n_BKgb := qab.mk (qah BKgb.out hb); clear BKgb; have BKgb := n_BKgb; clear n_BKgb; have n_BKgf := qab.mk (qah BKgf.out hb); clear BKgf; have BKgf := n_BKgf; clear n_BKgf; have n_HB := qab.mk (qag HB.out hb); clear HB; have HB := n_HB; clear n_HB; clear hb))
  have hcall := greatest73_calls (p := fun x => x ∈ numsOf (l0_0.length + 1)) (gf := 96) (lb := #[.pointer (some ⟨BB, 0, none⟩)]) (enters_of Try.func96 (by kernel_rfl) rfl) (Bn := BB) (w := w5) (blk_lt hBB) (fun n hn => numbers_stops n hn (l0_0.length + 1) (by have := HLN.out; omega) BB w5 hBB) (numsOf (l0_0.length + 1)) (fun xs h => h)
   (Inv73.held (w0 := w) (gn := gb) (gf := gf) (cn := .nilIface) (cf := .slice A1 l1.length c1) (cs := #[.slice A0_0 l0_0.length c0_0, .slice A0_1 l0_1.length c0_1, .slice A0_2 l0_2.length c0_2]) (B := w5.heap.size) HB.out.size) (fun _ => False) (fun k hk => hk.elim)
   (fun _ => False) (.pointer (some ⟨gb, 0, none⟩)) (.pointer (some ⟨gf, 0, none⟩)) (ofPost l0_0 l0_1 l0_2 l1)
   (fun A' W' x hx hA' hi' => of73_calls _ _ l0_0 _ _ l0_1 _ _ l0_2 _ _ l1 w gb gf .nilIface HR0.out hc0_0 HR1.out hc0_1 HR2.out hc0_2 HR3.out hc1 x (HW.out x hx) A' W' hi')
   ⟨fun h => h, fun h => h, fun k h => h.elim, BKgb.out, BKgf.out, HB.out⟩ (fun k hk => hk.elim)
  refine hcall.mono ?_
  rintro e w7 ⟨rfl, i7, k7⟩
  have hb7 := HB.out.trans (k7.toBelow (fun k h => h.elim) |>.mono HB.out.size)
  clear hcall i7 k7 hBB hge
  generalize g1 (ofPost l0_0 l0_1 l0_2 l1) (numsOf (l0_0.length + 1)) = g at HPV ⊢
  obtain ⟨ga, gc, gd⟩ := g
  try dsimp only at HPV ⊢
  have HB7 := qab.mk hb7
  clear hb7
  cases gd with
  | false =>
   have he := HPV.out
   cases he
   go_wp2_with fail
   go_ret3
   exact ⟨rfl, HB7.out⟩
  | true =>
   have he := HPV.out
   cases he
   go_wp2_with fail
   go_ret3
   exact ⟨rfl, HB7.out⟩
 ·
  have hzb : (gv != 0) = true := by simp [hz]
  have hv : (r1, r2, r3) = (0, 0, gv) := by rw [← HF.out]; unfold postV; rw [← hgv, if_pos hz]
  cases hv
  clear hgv
  go_enter Try.func37, Try.ntmps37
  go_wp2_with (first | ((with_reducible refine qaq (N := 2) rfl ?_); refine qam ?hg (N := 2) ?hd (cs := #[.slice A0_0 l0_0.length c0_0, .slice A0_1 l0_1.length c0_1, .slice A0_2 l0_2.length c0_2]) (t := 26) ?hr ?_; (case hd => rfl); (case hg => rfl); (case hr => first | (go_simp; done) | (go_simp; rfl)); intro gb hg_gb w2 hbox hb; have BKgb := qab.mk hbox; have n_HB := qab.mk (qag HB.out hb); have GEgb : w.heap.size ≤ gb := (by rw [hg_gb]; exact HB.out.size); clear HB; have HB := n_HB; clear n_HB; clear hbox hb hg_gb) | ((with_reducible refine qaq (N := 3) rfl ?_); refine qam ?hg (N := 3) ?hd (cs := #[.slice A1 l1.length c1]) (t := 47) ?hr ?_; (case hd => rfl); (case hg => rfl); (case hr => first | (go_simp; done) | (go_simp; rfl)); intro gf hg_gf w3 hbox hb; have BKgf := qab.mk hbox; have n_BKgb := qab.mk (qah BKgb.out hb); clear BKgb; have BKgb := n_BKgb; clear n_BKgb; have n_HB := qab.mk (qag HB.out hb); have GEgf : w.heap.size ≤ gf := (by rw [hg_gf]; exact HB.out.size); clear HB; have HB := n_HB; clear n_HB; clear hbox hb hg_gf; have hfgb := qac BKgb.out; have hcgb_0 : w3.cell? ⟨gb, 0, none⟩ = some (.slice A0_0 l0_0.length c0_0) := (qaa BKgb.out 0).trans rfl; have hcgb_1 : w3.cell? ⟨gb, 1, none⟩ = some (.slice A0_1 l0_1.length c0_1) := (qaa BKgb.out 1).trans rfl; have hcgb_2 : w3.cell? ⟨gb, 2, none⟩ = some (.slice A0_2 l0_2.length c0_2) := (qaa BKgb.out 2).trans rfl; have hfgf := qac BKgf.out; have hcgf_0 : w3.cell? ⟨gf, 0, none⟩ = some (.slice A1 l1.length c1) := (qaa BKgf.out 0).trans rfl) | (go_at_call 70; refine (HGIV.out _ HB.out).mono ?_; rintro e w4 ⟨rfl, hb⟩; have n_HB := qab.mk (qag HB.out hb); clear HB; have HB := n_HB; clear n_HB; clear hb))
  go_ret3
  exact ⟨rfl, HB.out⟩
end Go.Proofs.Ytipphcjgdebecaa.PA
namespace Go.Proofs.Ytipphcjgdebecaa.PA
open Go.RowKit Go.Proofs.YtipphcjgdebecaaW.PrintWords Go.Proofs.YtipphcjgdebecaaW.PrintLast Go.Proofs.YtipphcjgdebecaaW.PrintMore
attribute [local go_sem] max2_int min2_int max_two min_two qau qav max_four min_four
attribute [local go_sem] Oper.semAt_some
def costS (l0 : List S39) (a : Int) (i : Int) : Int := wrap64 (a + (qap l0 i).f3)
def costV (l0 : List S39) (s : List Int) : Int := s.foldl (costS l0) 0
theorem costV_snoc (l0 : List S39) (s : List Int) (x : Int) : costV l0 (s ++ [x]) = wrap64 (costV l0 s + (qap l0 x).f3) := by simp [costV, costS]
structure Inv75 (w0 : World) (gn gf gm : Nat) (cf cm : Value) (cs : Array Value) (A : Nat → Prop) (W : World) : Prop where
 an : ¬ A gn
 af : ¬ A gf
 am : ¬ A gm
 lo : ∀ k, A k → w0.heap.size ≤ k
 xn : W.heap[gn]? = some (.cells cs 26 (0, 0))
 xf : W.heap[gf]? = some (.cells #[cf] 47 (0, 0))
 xm : W.heap[gm]? = some (.cells #[cm] 3 (0, 0))
 hb : Below w0.heap.size w0 W
theorem Inv75.held {w0 : World} {gn gf gm : Nat} {cf cm : Value} {cs : Array Value} {B : Nat} (hB : w0.heap.size ≤ B) : Held B (Inv75 w0 gn gf gm cf cm cs) where
 mono A A' W hA h := ⟨fun hk => h.an (hA _ hk), fun hk => h.af (hA _ hk), fun hk => h.am (hA _ hk), fun k hk => h.lo k (hA k hk), h.xn, h.xf, h.xm, h.hb⟩
 fresh A W h := ⟨fun hk => hk.elim h.an (fun e => by have := blk_lt h.xn; omega), fun hk => hk.elim h.af (fun e => by have := blk_lt h.xf; omega), fun hk => hk.elim h.am (fun e => by have := blk_lt h.xm; omega), fun k hk => hk.elim (h.lo k) (fun e => Nat.le_trans h.hb.size e), h.xn, h.xf, h.xm, h.hb⟩
 step A W W' h hk := ⟨h.an, h.af, h.am, h.lo, hk.blk h.xn h.an, hk.blk h.xf h.af, hk.blk h.xm h.am, ⟨hk.os.trans h.hb.os, hk.tape.trans h.hb.tape, hk.output.trans h.hb.output, Nat.le_trans h.hb.size hk.size, fun k hlt => (hk.block k (Nat.lt_of_lt_of_le hlt h.hb.size) (fun ha => by have := h.lo k ha; omega)).trans (h.hb.block k hlt)⟩⟩
 own A W W' row h hg hr := ⟨h.an, h.af, h.am, h.lo, blk_own h.xn hg hr, blk_own h.xf hg hr, blk_own h.xm hg hr, ⟨hg.os.trans h.hb.os, hg.tape.trans h.hb.tape, hg.output.trans h.hb.output, Nat.le_trans h.hb.size hg.size, fun k hlt => (hg.block k (Nat.lt_of_lt_of_le hlt h.hb.size) (fun e => by have := (hr k e.symm).1; omega)).trans (h.hb.block k hlt)⟩⟩
def ofWrap (l0 : List S39) (l1 : List S37) (l2 : List (List Int)) (from_ : Int) (fs : List Int) (x : Int) : Int × Bool := (wrap64 (-(costV l0 (qar x 5))), decide ((weakV l0 l1 l2 x from_ fs).1 < 0))
theorem of75_calls (A0 : Option Addr) (c0 : Nat) (l0 : List S39) (A1 : Option Addr) (c1 : Nat) (l1 : List S37) (A2 : Option Addr) (c2 : Nat) (l2 : List (List Int)) (A3 : Option Addr) (c3 : Nat) (fs : List Int) (from_ : Int) (w0 : World) (gn gf gm : Nat)
  (hr0 : Kd.C k39 w0 A0 l0.length l0) (hc0 : l0.length ≤ c0) (hr1 : Kd.C k37 w0 A1 l1.length l1) (hc1 : l1.length ≤ c1) (hr2 : Kd.C (Kd.slice 3 (Kd.int .i64)) w0 A2 l2.length l2) (hc2 : l2.length ≤ c2) (hr3 : Kd.C (Kd.int .i64) w0 A3 fs.length fs) (hc3 : fs.length ≤ c3)
  (x : Int) (hx0 : 0 ≤ x) (hlp : ∀ i ∈ qar x 5, i < l0.length) (hok : pipe_net_weak.f 14 l0 l1 l2 x from_ fs = some ((weakV l0 l1 l2 x from_ fs).1, (weakV l0 l1 l2 x from_ fs).2)) (A : Nat → Prop) (w : World) (hinv : Inv75 w0 gn gf gm (.slice A3 fs.length c3) (.int .i64 from_) #[.slice A0 l0.length c0, .slice A1 l1.length c1, .slice A2 l2.length c2] A w) :
  Calls Try.prog 75 #[.int .i64 x, .pointer (some ⟨gn, 0, none⟩), .pointer (some ⟨gm, 0, none⟩), .pointer (some ⟨gf, 0, none⟩)] w fun e w' => e = .returned (.tuple #[.int .i64 (ofWrap l0 l1 l2 from_ fs x).1, .bool (ofWrap l0 l1 l2 from_ fs x).2]) ∧ Inv75 w0 gn gf gm (.slice A3 fs.length c3) (.int .i64 from_) #[.slice A0 l0.length c0, .slice A1 l1.length c1, .slice A2 l2.length c2] A w' ∧ KB (fun _ => False) w w' := by
 have hu26 := Try.underlying26
 have hu39 := Try.underlying39
 have hu99 := Try.underlying99
 have HI := qab.mk hinv
 refine (callsIn_wide (n := 8)).1 ?_
 refine callsIn_of_wp_marks Try.func75 rfl trivial ?_ rfl
 refine wpIn_wide.2 ?_
 simp only [Try.ntmps75, List.size_toArray, List.length_cons, List.length_nil, Nat.reduceAdd, Nat.reduceSub, Array.replicate_succ, Array.replicate_zero, List.push_toArray, List.append_toArray, List.nil_append, List.cons_append]
 go_wp2_with (go_at_call 76; refine (loops_calls x _).mono ?_; rintro e w2 ⟨BB, rfl, hBB, hge, hb⟩)
 refine (wpIn_wide (n := 8)).1 ?_
 have hbw := blk_new w (.cells #[.int .i64 0] 3)
 have hba := qae (Below.refl w.heap.size w) (.cells #[.int .i64 0] 3)
 have h7 := qah hbw hb
 have hb2 := qag hba hb
 have hl2 : w.heap.size < w2.heap.size := by have := hb.size; simp at this; omega
 have hBl := blk_lt hBB
 have hBne : BB ≠ w.heap.size := by simp at hge; omega
 have hi2 : Inv75 w0 gn gf gm (.slice A3 fs.length c3) (.int .i64 from_) #[.slice A0 l0.length c0, .slice A1 l1.length c1, .slice A2 l2.length c2] (fun k => A k ∨ k = w.heap.size) w2 := by
  have hh := Inv75.held (w0 := w0) (gn := gn) (gf := gf) (gm := gm) (cf := .slice A3 fs.length c3) (cm := .int .i64 from_) (cs := #[.slice A0 l0.length c0, .slice A1 l1.length c1, .slice A2 l2.length c2]) (B := w0.heap.size) (Nat.le_refl _)
  exact hh.step _ w _ (hh.mono _ _ _ (fun k hk => hk.elim .inl (fun e => .inr (by omega))) (hh.fresh _ _ hinv)) (KB.of_below hb2 _)
 have hw0 : w0.heap.size ≤ w2.heap.size := hi2.hb.size
 refine wpIn_rangeFunc_ownG rfl (by omega) (gf := 97) (lb := #[.pointer (some ⟨BB, 0, none⟩)]) rfl trivial (enters_of Try.func97 (by kernel_rfl) rfl) (loops_stops _ (by omega) x hx0 BB w2 hBB) (fun h k => KeptAt.trans h k) (keptAt_put hBl) (Below.refl _ _) (fun _ => rfl)
  (fun (pre : List (LoopOf x)) W => Inv75 w0 gn gf gm (.slice A3 fs.length c3) (.int .i64 from_) #[.slice A0 l0.length c0, .slice A1 l1.length c1, .slice A2 l2.length c2] (fun k => A k ∨ k = w.heap.size) W ∧ W.heap[w.heap.size]? = some (.cells #[.int .i64 (costV l0 (pre.map (fun y : LoopOf x => y.1)))] 3 (0, 0)) ∧ KB (fun k => k = w.heap.size) w2 W)
  (fun _ _ _ => False)
  (fun s A' B row hs hg hr => ⟨(Inv75.held hw0).own _ _ _ row hs.1 hg hr, blk_own hs.2.1 hg hr, hs.2.2.trans (KB.of_grown hg) (fun k e => .inr (by have := (hr k e).1; omega))⟩)
  (fun _ _ _ _ _ hs _ _ => hs)
  ⟨hi2, h7, KB.refl _ _⟩
  (fun y => { tmps := #[.int .i64 x, .pointer (some ⟨gn, 0, none⟩), .pointer (some ⟨gm, 0, none⟩), .pointer (some ⟨gf, 0, none⟩), undef, .int .i64 0, .bool false, .pointer (some ⟨w.heap.size, 0, none⟩), .int .i64 y.1, undef, undef, .int .i64 x, .func (.func 97) #[] #[.pointer (some ⟨BB, 0, none⟩)], .int .i64 y.1, undef, undef, undef, undef, undef, undef, undef, undef, undef, undef, undef, undef, undef, undef, undef, undef, undef, undef, undef, undef, undef], defers := [] }) ?assign ?body ?done ?stop
 case assign =>
  intro l y W K hK
  gi_wp2
  exact hK
 case body =>
  rintro l pre ⟨y, hy⟩ W ⟨hi, h7', hk⟩ _
  obtain ⟨k, rfl, hk5, _⟩ := (mem_loopsOf x 5 y).1 hy
  have hyl := hlp _ hy
  obtain ⟨ad, e, hl0, hl1, hl2, hl3, hl4, hl5, hl6, hl7, hl8, hl9, hl10, hl11⟩ := at_T39 (Kd.qak hr0 hi.hb) (k : Int) (by omega) hyl
  cases e
  clear hl0 hl1 hl2 hl3 hl4 hl5 hl7 hl8 hl9 hl10 hl11
  simp only [Int.toNat_natCast] at hl6
  have hmx : Try.prog.follows .mixedOrders = true := by kernel_rfl
  have j0 : W.drew.cell? ⟨gn, 0, none⟩ = some (.slice (some ad) l0.length c0) := qaa hi.xn 0
  have j1 : W.drew.cell? ⟨w.heap.size, 0, none⟩ = some (.int .i64 (costV l0 (pre.map (fun y : LoopOf x => y.1)))) := qaa h7' 0
  have j2 : W.drew.frozen? ⟨w.heap.size, 0, none⟩ = false := qac h7' 0
  have j3 : W.drew.cell? ⟨(ad.add (k * 12)).block, (ad.add (k * 12)).off + 6, none⟩ = some (.int .i64 (qap l0 k).f3) := hl6
  have hk0 : (0 : Int) ≤ k := by omega
  have HH := qab.mk (And.intro hi (And.intro h7' hk))
  clear hi h7' hk hl6 hlp hok hr0 hr1 hr2 hr3 hinv hi2 h7
  have FIN : ∀ a : Act, ownPostG w2.heap.size (KeptAt BB) (fun (pre : List (LoopOf x)) W => Inv75 w0 gn gf gm (.slice A3 fs.length c3) (.int .i64 from_) #[.slice (some ad) l0.length c0, .slice A1 l1.length c1, .slice A2 l2.length c2] (fun k => A k ∨ k = w.heap.size) W ∧ W.heap[w.heap.size]? = some (.cells #[.int .i64 (costV l0 (pre.map (fun y : LoopOf x => y.1)))] 3 (0, 0)) ∧ KB (fun k => k = w.heap.size) w2 W)
    (fun _ _ _ => False) (pre ++ [(⟨(k : Int), hy⟩ : LoopOf x)]) W .normal a ((W.setCell ⟨w.heap.size, 0, none⟩ (.int .i64 (IntKind.i64.wrap (costV l0 (pre.map (fun y : LoopOf x => y.1)) + (qap l0 k).f3)))).drew) := by
   intro a
   have hK : ∀ v, KB (fun k => k = w.heap.size) W ((W.setCell ⟨w.heap.size, 0, none⟩ v).drew) := fun v => by
    have h := (KB.refl (fun k => k = w.heap.size) W).set (p := ⟨w.heap.size, 0, none⟩) (.inl rfl) v
    exact ⟨h.os, h.tape, h.output, h.size, h.block⟩
   have hsz := HH.out.2.2.size
   refine ⟨(hK _).from (fun k e => by omega), (hK _).block BB (by omega) (fun e => hBne e), (Inv75.held hw0).step _ _ _ HH.out.1 ((hK _).mono (fun k e => .inr e)), ?_, HH.out.2.2.trans (hK _) (fun k e => .inl e)⟩
   rw [List.map_append, List.map_cons, List.map_nil, costV_snoc, ← i64_w]
   exact qax HH.out.2.1 0 _
  gi_wp2
  gi_region
  all_goals gi_wp2
  all_goals exact FIN _
 case done =>
  rintro D xs W hD hSx ⟨hi, h7', hk⟩ hK
  have hcall : ∀ W', Below W.heap.size W W' → _ := fun W' hW => pipe_net_weak.calls 14 _ _ l0 _ _ l1 _ _ l2 x from_ _ _ fs _ _ W' (Kd.qak (Kd.qak hr0 hi.hb) hW) hc0 (Kd.qak (Kd.qak hr1 hi.hb) hW) hc1 (Kd.qak (Kd.qak hr2 hi.hb) hW) hc2 (Kd.qak (Kd.qak hr3 hi.hb) hW) hc3 hok
  have HC := qab.mk hcall
  clear hcall
  have k0 : W.cell? ⟨gn, 0, none⟩ = some (.slice A0 l0.length c0) := qaa hi.xn 0
  have k1 : W.cell? ⟨gn, 1, none⟩ = some (.slice A1 l1.length c1) := qaa hi.xn 1
  have k2 : W.cell? ⟨gn, 2, none⟩ = some (.slice A2 l2.length c2) := qaa hi.xn 2
  have k3 : W.cell? ⟨gf, 0, none⟩ = some (.slice A3 fs.length c3) := qaa hi.xf 0
  have k4 : W.cell? ⟨gm, 0, none⟩ = some (.int .i64 from_) := qaa hi.xm 0
  have k5 : W.cell? ⟨w.heap.size, 0, none⟩ = some (.int .i64 (costV l0 (xs.map (fun y : LoopOf x => y.1)))) := qaa h7' 0
  have H1 := qab.mk hi
  have H6 := qab.mk hk
  have H7 := qab.mk h7'
  have HK := qab.mk hK
  have HSX := qab.mk hSx
  clear hi hk h7' hK hSx hr0 hr1 hr2 hr3 hok hlp hinv hi2 h7
  gi_wp2
  go_wp2_with (go_at_call 74; refine (HC.out _ (Below.refl _ _)).mono ?_; rintro e w3 ⟨rfl, hb⟩; have k6 : w3.cell? ⟨w.heap.size, 0, none⟩ = some (.int .i64 (costV l0 (xs.map (fun y : LoopOf x => y.1)))) := (hb.cell (World.block_lt_of_cell? _ _ k5)).trans k5; have HB3 : qab (Below W.heap.size W w3) := ⟨hb⟩; clear hb k0 k1 k2 k3 k4 k5)
  have hD3 : w3.heap[D]? = some (.deferred (some [])) := (HB3.out.block D (blk_lt HK.out)).trans HK.out
  refine ⟨by simp, .inl ⟨_, _, rfl, run_takeDeferred hD3, ?_⟩⟩
  have hput := grownBy_putObj' w3 D (.deferred none)
  have hrow : ∀ r, some D = some r → w0.heap.size ≤ r ∧ ∃ o : Obj, w3.heap[r]? = some o ∧ o.isCells = false := fun r e => by
   injection e with e
   subst e
   exact ⟨by omega, _, hD3, rfl⟩
  have hl0 := Inv75.held (w0 := w0) (gn := gn) (gf := gf) (gm := gm) (cf := .slice A3 fs.length c3) (cm := .int .i64 from_) (cs := #[.slice A0 l0.length c0, .slice A1 l1.length c1, .slice A2 l2.length c2]) (B := w0.heap.size) (Nat.le_refl _)
  have hi3 := hl0.step _ W w3 H1.out (KB.of_below HB3.out _)
  have hi4 := hl0.own _ w3 _ (some D) hi3 hput hrow
  refine ⟨_, results_tmp2 rfl _ _ _, ?_, hl0.mono _ _ _ (fun k hk => .inl hk) hi4, ?_⟩
  ·
   have hx : xs.unattach = qar x 5 := HSX.out
   rw [hx]
   rfl
  ·
   exact (((KB.of_below hb2 (fun _ => False)).trans H6.out (fun k e => .inr (by omega))).trans (KB.of_below HB3.out (fun _ => False)) (fun k e => .inl e)).trans (KB.of_grown hput) (fun k e => .inr (by injection e with e; omega))
 case stop =>
  rintro D c pre W _ _ h _
  exact h.elim
end Go.Proofs.Ytipphcjgdebecaa.PA
namespace Go.Proofs.Ytipphcjgdebecaa.PA
open Go.RowKit Go.Proofs.YtipphcjgdebecaaW.PrintWords Go.Proofs.YtipphcjgdebecaaW.PrintLast Go.Proofs.YtipphcjgdebecaaW.PrintMore
attribute [local go_sem] max2_int min2_int max_two min_two qau qav max_four min_four
def wrapV (l0 : List S39) (l1 : List S37) (l2 : List (List Int)) (from_ : Int) (fs : List Int) : Int × Int × Int :=
 if givenV l0 l1 l2 from_ fs ≠ 0 then (0, 0, givenV l0 l1 l2 from_ fs) else
  if (g1 (ofWrap l0 l1 l2 from_ fs) (numsOf (2 ^ l0.length))).2.2 = true then ((g1 (ofWrap l0 l1 l2 from_ fs) (numsOf (2 ^ l0.length))).1, wrap64 (-(g1 (ofWrap l0 l1 l2 from_ fs) (numsOf (2 ^ l0.length))).2.1), 0) else (0, 0, 5)
theorem pow_le32 {n : Nat} (h : n ≤ 5) : 2 ^ n ≤ 32 := Nat.pow_le_pow_right (n := 2) (by decide) h
theorem loops_low {n : Nat} (h5 : n ≤ 5) {x : Nat} (hx : x < 2 ^ n) : ∀ i ∈ qar (x : Int) 5, i < n := fun i hi => by
 have h32 := pow_le32 h5
 obtain ⟨k, rfl, hk, hb⟩ := (mem_loopsOf _ 5 i).1 hi
 have h1 := bit_le (x : Int) (by omega) (by omega) k hk hb
 rcases Nat.lt_or_ge k n with h2 | h2
 ·
  omega
 ·
  exfalso
  have h3 := Nat.pow_le_pow_right (n := 2) (by decide) h2
  have h4 : ((2 ^ n : Nat) : Int) ≤ ((2 ^ k : Nat) : Int) := Int.ofNat_le.2 h3
  simp at h4
  have h5 : ((x : Nat) : Int) < ((2 ^ n : Nat) : Int) := Int.ofNat_lt.2 hx
  simp at h5
  omega
theorem shl_powN (n : Nat) (h : n ≤ 5) : shl .i64 1 (n : Int) = ((2 ^ n : Nat) : Int) := by rw [shl_pow n h]; simp
def pipe_Wrap.f (l0_0 : List (S39)) (l0_1 : List (S37)) (l0_2 : List (List Int)) (a1 : Int) (l2 : List Int) : Option (Int × Int × Int) := some (wrapV l0_0 l0_1 l0_2 a1 l2)
theorem pipe_Wrap.calls (A0_0 : Option Addr) (c0_0 : Nat) (l0_0 : List (S39)) (A0_1 : Option Addr) (c0_1 : Nat) (l0_1 : List (S37)) (A0_2 : Option Addr) (c0_2 : Nat) (l0_2 : List (List Int)) (a1 : Int) (A2 : Option Addr) (c2 : Nat) (l2 : List Int) (r1 : Int) (r2 : Int) (r3 : Int) (w : World) (hr0_0 : Kd.C k39 w A0_0 l0_0.length l0_0) (hc0_0 : l0_0.length ≤ c0_0) (hr0_1 : Kd.C k37 w A0_1 l0_1.length l0_1) (hc0_1 : l0_1.length ≤ c0_1) (hr0_2 : Kd.C (Kd.slice 3 (Kd.int .i64)) w A0_2 l0_2.length l0_2) (hc0_2 : l0_2.length ≤ c0_2) (hr2 : Kd.C (Kd.int .i64) w A2 l2.length l2) (hc2 : l2.length ≤ c2) (h : pipe_Wrap.f l0_0 l0_1 l0_2 a1 l2 = some (r1, r2, r3)) :
  Calls Try.prog 39 #[.agg #[.slice A0_0 l0_0.length c0_0, .slice A0_1 l0_1.length c0_1, .slice A0_2 l0_2.length c0_2], .int .i64 a1, .slice A2 l2.length c2] w fun e w' => e = .returned (.tuple #[.int .i64 r1, .int .i64 r2, .int .i64 r3]) ∧ Below w.heap.size w w' := by
 have h' := Option.some.inj h
 clear h
 have HF := qab.mk h'
 clear h'
 have hu26 := Try.underlying26
 have HB := qab.mk (Below.refl w.heap.size w)
 have HR0 := qab.mk hr0_0
 have HR1 := qab.mk hr0_1
 have HR2 := qab.mk hr0_2
 have HR3 := qab.mk hr2
 clear hr0_0 hr0_1 hr0_2 hr2
 have hmf : ∀ (fn : Fn) (first cap : Array Value) (w : World), (Instr.makeFunc fn first cap).run Try.prog w = .ok (.func fn first cap) w := fun _ _ _ _ => rfl
 have hgiven : ∀ W, Below w.heap.size w W → Calls Try.prog 70 #[.agg #[.slice A0_0 l0_0.length c0_0, .slice A0_1 l0_1.length c0_1, .slice A0_2 l0_2.length c0_2], .int .i64 a1, .slice A2 l2.length c2] W fun e w' => e = .returned (.int .i64 (givenV l0_0 l0_1 l0_2 a1 l2)) ∧ Below W.heap.size W w' := fun W hW =>
  pipe_given.calls _ _ _ _ _ _ _ _ _ a1 _ _ l2 _ W (Kd.qak HR0.out hW) hc0_0 (Kd.qak HR1.out hW) hc0_1 (Kd.qak HR2.out hW) hc0_2 (Kd.qak HR3.out hW) hc2 rfl
 have HGIV := qab.mk hgiven
 clear hgiven
 obtain ⟨gv, hgv⟩ : ∃ gv, gv = givenV l0_0 l0_1 l0_2 a1 l2 := ⟨_, rfl⟩
 rw [← hgv] at HGIV
 by_cases hz : gv = 0
 ·
  have hgo := given_ok (hgv.symm.trans hz)
  have hlen := valid_lens hgo.2.1
  have hweak : ∀ x, x ∈ numsOf (2 ^ l0_0.length) → pipe_net_weak.f 14 l0_0 l0_1 l0_2 x a1 l2 = some ((weakV l0_0 l0_1 l0_2 x a1 l2).1, (weakV l0_0 l0_1 l0_2 x a1 l2).2) := fun x hx => by
   unfold numsOf at hx
   simp only [List.mem_map, List.mem_range] at hx
   obtain ⟨k, hk, rfl⟩ := hx
   exact weakV_some _ _ _ _ _ _ hgo.1 (fun f hf => order_some hgo.2.1 (by omega) hgo.2.2.1 hgo.2.2.2.1 (hgo.2.2.2.2 f hf).1 (hgo.2.2.2.2 f hf).2)
  have hx01 : ∀ x, x ∈ numsOf (2 ^ l0_0.length) → 0 ≤ x ∧ ∀ i ∈ qar x 5, i < l0_0.length := fun x hx => by
   unfold numsOf at hx
   simp only [List.mem_map, List.mem_range] at hx
   obtain ⟨k, hk, rfl⟩ := hx
   exact ⟨by omega, loops_low hlen.2.2.1 hk⟩
  have hsh0 : wrap64 (2 ^ min l0_0.length 64) = ((2 ^ l0_0.length : Nat) : Int) := by
   have h32 := pow_le32 hlen.2.2.1
   rw [Nat.min_eq_left (by have := hlen.2.2.1; omega)]
   have : ((2 : Int) ^ l0_0.length) = ((2 ^ l0_0.length : Nat) : Int) := by simp
   rw [this]
   generalize 2 ^ l0_0.length = m at h32 ⊢
   unfold wrap64
   omega
  have hm32 := pow_le32 hlen.2.2.1
  obtain ⟨M, hM⟩ : ∃ M : Nat, M = 2 ^ l0_0.length := ⟨_, rfl⟩
  rw [← hM] at hweak hx01 hsh0 hm32
  have HX := qab.mk hx01
  have HSH := qab.mk hsh0
  clear hsh0
  have HM32 := qab.mk hm32
  have HW := qab.mk hweak
  have HLN : qab (l0_0.length ≤ 5) := ⟨hlen.2.2.1⟩
  have hPV : wrapV l0_0 l0_1 l0_2 a1 l2 = (if (g1 (ofWrap l0_0 l0_1 l0_2 a1 l2) (numsOf M)).2.2 = true then ((g1 (ofWrap l0_0 l0_1 l0_2 a1 l2) (numsOf M)).1, wrap64 (-(g1 (ofWrap l0_0 l0_1 l0_2 a1 l2) (numsOf M)).2.1), 0) else (0, 0, 5)) := by
   unfold wrapV
   rw [if_neg (by rw [← hgv]; simp [hz]), ← hM]
  have HPV := qab.mk (hPV.symm.trans HF.out)
  clear hPV hweak hlen hgo hgv hx01 hm32 hM
  subst hz
  have hnn : ((l0_0.length : Int) < 0) = False := by simp
  go_enter Try.func39, Try.ntmps39
  go_wp2_with (first | ((with_reducible refine qaq (N := 3) rfl ?_); refine qam ?hg (N := 3) ?hd (cs := #[.slice A0_0 l0_0.length c0_0, .slice A0_1 l0_1.length c0_1, .slice A0_2 l0_2.length c0_2]) (t := 26) ?hr ?_; (case hd => rfl); (case hg => rfl); (case hr => first | (go_simp; done) | (go_simp; rfl)); intro gb hg_gb w2 hbox hb; have BKgb := qab.mk hbox; have n_HB := qab.mk (qag HB.out hb); have GEgb : w.heap.size ≤ gb := (by rw [hg_gb]; exact HB.out.size); clear HB; have HB := n_HB; clear n_HB; clear hbox hb hg_gb) | ((with_reducible refine qaq (N := 4) rfl ?_); refine qam ?hg (N := 4) ?hd (cs := #[.int .i64 a1]) (t := 3) ?hr ?_; (case hd => rfl); (case hg => rfl); (case hr => first | (go_simp; done) | (go_simp; rfl)); intro gm hg_gm w2b hbox hb; have BKgm := qab.mk hbox; have n_BKgb := qab.mk (qah BKgb.out hb); clear BKgb; have BKgb := n_BKgb; clear n_BKgb; have n_HB := qab.mk (qag HB.out hb); have GEgm : w.heap.size ≤ gm := (by rw [hg_gm]; exact HB.out.size); clear HB; have HB := n_HB; clear n_HB; clear hbox hb hg_gm) | ((with_reducible refine qaq (N := 5) rfl ?_); refine qam ?hg (N := 5) ?hd (cs := #[.slice A2 l2.length c2]) (t := 47) ?hr ?_; (case hd => rfl); (case hg => rfl); (case hr => first | (go_simp; done) | (go_simp; rfl)); intro gf hg_gf w3 hbox hb; have BKgf := qab.mk hbox; have n_BKgb := qab.mk (qah BKgb.out hb); clear BKgb; have BKgb := n_BKgb; clear n_BKgb; have n_BKgm := qab.mk (qah BKgm.out hb); clear BKgm; have BKgm := n_BKgm; clear n_BKgm; have n_HB := qab.mk (qag HB.out hb); have GEgf : w.heap.size ≤ gf := (by rw [hg_gf]; exact HB.out.size); clear HB; have HB := n_HB; clear n_HB; clear hbox hb hg_gf; have hfgb := qac BKgb.out; have hcgb_0 : w3.cell? ⟨gb, 0, none⟩ = some (.slice A0_0 l0_0.length c0_0) := (qaa BKgb.out 0).trans rfl; have hcgb_1 : w3.cell? ⟨gb, 1, none⟩ = some (.slice A0_1 l0_1.length c0_1) := (qaa BKgb.out 1).trans rfl; have hcgb_2 : w3.cell? ⟨gb, 2, none⟩ = some (.slice A0_2 l0_2.length c0_2) := (qaa BKgb.out 2).trans rfl; have hfgm := qac BKgm.out; have hcgm_0 : w3.cell? ⟨gm, 0, none⟩ = some (.int .i64 a1) := (qaa BKgm.out 0).trans rfl; have hfgf := qac BKgf.out; have hcgf_0 : w3.cell? ⟨gf, 0, none⟩ = some (.slice A2 l2.length c2) := (qaa BKgf.out 0).trans rfl) | (go_at_call 70; refine (HGIV.out _ HB.out).mono ?_; rintro e w4 ⟨rfl, hb⟩; have n_BKgb := qab.mk (qah BKgb.out hb); clear BKgb; have BKgb := n_BKgb; clear n_BKgb; have n_BKgm := qab.mk (qah BKgm.out hb); clear BKgm; have BKgm := n_BKgm; clear n_BKgm; have n_BKgf := qab.mk (qah BKgf.out hb); clear BKgf; have BKgf := n_BKgf; clear n_BKgf; have n_HB := qab.mk (qag HB.out hb); clear HB; have HB := n_HB; clear n_HB; clear hb; have hfgb := qac BKgb.out; have hcgb_0 : w4.cell? ⟨gb, 0, none⟩ = some (.slice A0_0 l0_0.length c0_0) := (qaa BKgb.out 0).trans rfl; have hcgb_1 : w4.cell? ⟨gb, 1, none⟩ = some (.slice A0_1 l0_1.length c0_1) := (qaa BKgb.out 1).trans rfl; have hcgb_2 : w4.cell? ⟨gb, 2, none⟩ = some (.slice A0_2 l0_2.length c0_2) := (qaa BKgb.out 2).trans rfl) | (go_at_call 72; refine (numbers_calls _ _).mono ?_; rintro e w5 ⟨BB, rfl, hBB, hge, hb⟩; have n_BKgb := qab.mk (qah BKgb.out hb); clear BKgb; have BKgb := n_BKgb; clear n_BKgb; have n_BKgm := qab.mk (qah BKgm.out hb); clear BKgm; have BKgm := n_BKgm; clear n_BKgm; have n_BKgf := qab.mk (qah BKgf.out hb); clear BKgf; have BKgf := n_BKgf; clear n_BKgf; have n_HB := qab.mk (qag HB.out hb); clear HB; have HB := n_HB; clear n_HB; clear hb))
  rw [HSH.out] at hBB
  have hcall := greatest75_calls (p := fun x => x ∈ numsOf M) (gf := 96) (lb := #[.pointer (some ⟨BB, 0, none⟩)]) (enters_of Try.func96 (by kernel_rfl) rfl) (Bn := BB) (w := w5) (blk_lt hBB) (fun n hn => numbers_stops n hn M (by have := HM32.out; omega) BB w5 hBB) (numsOf M) (fun xs h => h)
   (Inv75.held (w0 := w) (gn := gb) (gf := gf) (gm := gm) (cf := .slice A2 l2.length c2) (cm := .int .i64 a1) (cs := #[.slice A0_0 l0_0.length c0_0, .slice A0_1 l0_1.length c0_1, .slice A0_2 l0_2.length c0_2]) (B := w5.heap.size) HB.out.size) (fun _ => False) (fun k hk => hk.elim)
   (fun _ => False) (.pointer (some ⟨gb, 0, none⟩)) (.pointer (some ⟨gm, 0, none⟩)) (.pointer (some ⟨gf, 0, none⟩)) (ofWrap l0_0 l0_1 l0_2 a1 l2)
   (fun A' W' x hx hA' hi' => of75_calls _ _ l0_0 _ _ l0_1 _ _ l0_2 _ _ l2 a1 w gb gf gm HR0.out hc0_0 HR1.out hc0_1 HR2.out hc0_2 HR3.out hc2 x (HX.out x hx).1 (HX.out x hx).2 (HW.out x hx) A' W' hi')
   ⟨fun h => h, fun h => h, fun h => h, fun k h => h.elim, BKgb.out, BKgf.out, BKgm.out, HB.out⟩ (fun k hk => hk.elim)
  refine hcall.mono ?_
  rintro e w7 ⟨rfl, i7, k7⟩
  have hb7 := HB.out.trans (k7.toBelow (fun k h => h.elim) |>.mono HB.out.size)
  clear hcall i7 k7 hBB hge
  generalize g1 (ofWrap l0_0 l0_1 l0_2 a1 l2) (numsOf M) = g at HPV ⊢
  obtain ⟨ga, gc, gd⟩ := g
  try dsimp only at HPV ⊢
  have HB7 := qab.mk hb7
  clear hb7
  cases gd with
  | false =>
   have he := HPV.out
   cases he
   go_wp2_with fail
   go_ret3
   exact ⟨rfl, HB7.out⟩
  | true =>
   have he := HPV.out
   cases he
   go_wp2_with fail
   go_ret3
   exact ⟨rfl, HB7.out⟩
 ·
  have hzb : (gv != 0) = true := by simp [hz]
  have hv : (r1, r2, r3) = (0, 0, gv) := by rw [← HF.out]; unfold wrapV; rw [← hgv, if_pos hz]
  cases hv
  clear hgv
  go_enter Try.func39, Try.ntmps39
  go_wp2_with (first | ((with_reducible refine qaq (N := 3) rfl ?_); refine qam ?hg (N := 3) ?hd (cs := #[.slice A0_0 l0_0.length c0_0, .slice A0_1 l0_1.length c0_1, .slice A0_2 l0_2.length c0_2]) (t := 26) ?hr ?_; (case hd => rfl); (case hg => rfl); (case hr => first | (go_simp; done) | (go_simp; rfl)); intro gb hg_gb w2 hbox hb; have BKgb := qab.mk hbox; have n_HB := qab.mk (qag HB.out hb); have GEgb : w.heap.size ≤ gb := (by rw [hg_gb]; exact HB.out.size); clear HB; have HB := n_HB; clear n_HB; clear hbox hb hg_gb) | ((with_reducible refine qaq (N := 4) rfl ?_); refine qam ?hg (N := 4) ?hd (cs := #[.int .i64 a1]) (t := 3) ?hr ?_; (case hd => rfl); (case hg => rfl); (case hr => first | (go_simp; done) | (go_simp; rfl)); intro gm hg_gm w2b hbox hb; have BKgm := qab.mk hbox; have n_BKgb := qab.mk (qah BKgb.out hb); clear BKgb; have BKgb := n_BKgb; clear n_BKgb; have n_HB := qab.mk (qag HB.out hb); have GEgm : w.heap.size ≤ gm := (by rw [hg_gm]; exact HB.out.size); clear HB; have HB := n_HB; clear n_HB; clear hbox hb hg_gm) | ((with_reducible refine qaq (N := 5) rfl ?_); refine qam ?hg (N := 5) ?hd (cs := #[.slice A2 l2.length c2]) (t := 47) ?hr ?_; (case hd => rfl); (case hg => rfl); (case hr => first | (go_simp; done) | (go_simp; rfl)); intro gf hg_gf w3 hbox hb; have BKgf := qab.mk hbox; have n_BKgb := qab.mk (qah BKgb.out hb); clear BKgb; have BKgb := n_BKgb; clear n_BKgb; have n_BKgm := qab.mk (qah BKgm.out hb); clear BKgm; have BKgm := n_BKgm; clear n_BKgm; have n_HB := qab.mk (qag HB.out hb); have GEgf : w.heap.size ≤ gf := (by rw [hg_gf]; exact HB.out.size); clear HB; have HB := n_HB; clear n_HB; clear hbox hb hg_gf; have hfgb := qac BKgb.out; have hcgb_0 : w3.cell? ⟨gb, 0, none⟩ = some (.slice A0_0 l0_0.length c0_0) := (qaa BKgb.out 0).trans rfl; have hcgb_1 : w3.cell? ⟨gb, 1, none⟩ = some (.slice A0_1 l0_1.length c0_1) := (qaa BKgb.out 1).trans rfl; have hcgb_2 : w3.cell? ⟨gb, 2, none⟩ = some (.slice A0_2 l0_2.length c0_2) := (qaa BKgb.out 2).trans rfl; have hfgm := qac BKgm.out; have hcgm_0 : w3.cell? ⟨gm, 0, none⟩ = some (.int .i64 a1) := (qaa BKgm.out 0).trans rfl; have hfgf := qac BKgf.out; have hcgf_0 : w3.cell? ⟨gf, 0, none⟩ = some (.slice A2 l2.length c2) := (qaa BKgf.out 0).trans rfl) | (go_at_call 70; refine (HGIV.out _ HB.out).mono ?_; rintro e w4 ⟨rfl, hb⟩; have n_HB := qab.mk (qag HB.out hb); clear HB; have HB := n_HB; clear n_HB; clear hb))
  go_ret3
  exact ⟨rfl, HB.out⟩
end Go.Proofs.Ytipphcjgdebecaa.PA
