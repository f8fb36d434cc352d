/- Parts of a proof about the pipe seat's laws: what the functions of the program answer. No condition of its own. -/
import Derived.Test.YtipphcjgdebecaaSC
import Derived.Test.YtipphcjgdebecaaSD
import Derived.Test.YtipphcjgdebecaaSJ
import Derived.Test.YtipphcjgdebecaaSM
import Derived.Test.YtipphcjgdebecaaPqC
import Derived.Test.YtipphcjgdebecaaPqB
import Derived.Test.YtipphcjgdebecaaPqF
set_option linter.all false
namespace Go.Proofs.Ytipphcjgdebecaa.PA
open Go.RowKit Go.Proofs.YtipphcjgdebecaaW.PrintWords Go.Proofs.YtipphcjgdebecaaW.PrintLast Go.Proofs.YtipphcjgdebecaaW.PrintMore
attribute [local go_sem] qbd qbf max_two min_two qay qaz qbe qbg
mutual
def taliklaw04_PipeOrders.j0 : Nat → Int → Int → Bool → List (S39) → List (S37) → List (List Int) → Option (Bool)
 | 0, _, _, _, _, _, _ => none
 | k + 1, x1, x2, x25, x233000, x233001, x233002 => if x25 = true then ((taliklaw04_known.f).bind fun t235 => (some t235)) else ((pipe_Order.f k x233000 x233001 x233002 x1 x2).bind fun bt236 => ((talikref04_Net.f x233000 x233001 x233002).bind fun t241 => (if t241 = true then ((talikref04_Place.f x233000 x233001 x233002 x1).bind fun t242 => (if t242 = true then ((talikref04_Fault.f k x233000 x233001 x233002 x2).bind fun t243 => (taliklaw04_PipeOrders.j1 k x1 x2 bt236.1 bt236.2.1 bt236.2.2 (!t243) x233000 x233001 x233002)) else (taliklaw04_PipeOrders.j1 k x1 x2 bt236.1 bt236.2.1 bt236.2.2 true x233000 x233001 x233002))) else (taliklaw04_PipeOrders.j1 k x1 x2 bt236.1 bt236.2.1 bt236.2.2 true x233000 x233001 x233002))))
def taliklaw04_PipeOrders.j1 : Nat → Int → Int → List Int → Int → Int → Bool → List (S39) → List (S37) → List (List Int) → Option (Bool)
 | 0, _, _, _, _, _, _, _, _, _ => none
 | k + 1, x1, x2, x7, x8, x9, x49, x233000, x233001, x233002 => if x49 = true then (if x9 = 2 then (if (x7.length : Int) = 0 then (if x8 = 0 then ((taliklaw04_known.f).bind fun t244 => (some t244)) else (some false)) else (some false)) else (some false)) else ((talikref04_Order.f k x233000 x233001 x233002 x1 x2).bind fun bt245 => (if bt245.2.2 = true then (if x9 = 0 then ((talikref04_Same.f k x7 bt245.1).bind fun t250 => (if t250 = true then (if x8 = bt245.2.1 then ((taliklaw04_known.f).bind fun t251 => (some t251)) else (some false)) else (some false))) else (some false)) else (if x9 = 5 then (if (x7.length : Int) = 0 then (if x8 = 0 then ((taliklaw04_known.f).bind fun t252 => (some t252)) else (some false)) else (some false)) else (some false))))
end
def taliklaw04_PipeOrders.f (k : Nat) (l0_0 : List (S39)) (l0_1 : List (S37)) (l0_2 : List (List Int)) (a1 : Int) (a2 : Int) : Option (Bool) := (taliklaw04_short.f k l0_0 l0_1 l0_2).bind fun t233 => (if t233 = true then ((talikref04_Net.f l0_0 l0_1 l0_2).bind fun t234 => (if t234 = true then (taliklaw04_PipeOrders.j0 k a1 a2 (decide ((l0_0.length : Int) > 4)) l0_0 l0_1 l0_2) else (taliklaw04_PipeOrders.j0 k a1 a2 false l0_0 l0_1 l0_2))) else (taliklaw04_PipeOrders.j0 k a1 a2 true l0_0 l0_1 l0_2))
set_option maxHeartbeats 8000000 in
set_option maxRecDepth 100000 in
theorem taliklaw04_PipeOrders.calls (k : Nat) (A0_0 : Option Addr) (c0_0 : Nat) (l0_0 : List (S39)) (A0_1 : Option Addr) (c0_1 : Nat) (l0_1 : List (S37)) (A0_2 : Option Addr) (c0_2 : Nat) (l0_2 : List (List Int)) (a1 : Int) (a2 : Int) (r : Bool) (w : World) (hr0_0 : Kd.C k39 w A0_0 l0_0.length l0_0) (hc0_0 : l0_0.length ≤ c0_0) (hr0_1 : Kd.C k37 w A0_1 l0_1.length l0_1) (hc0_1 : l0_1.length ≤ c0_1) (hr0_2 : Kd.C (Kd.slice 3 (Kd.int .i64)) w A0_2 l0_2.length l0_2) (hc0_2 : l0_2.length ≤ c0_2) (h : taliklaw04_PipeOrders.f k l0_0 l0_1 l0_2 a1 a2 = some r) :
  Calls Try.prog 5 #[.agg #[.slice A0_0 l0_0.length c0_0, .slice A0_1 l0_1.length c0_1, .slice A0_2 l0_2.length c0_2], .int .i64 a1, .int .i64 a2] w fun e w' => e = .returned (.bool r) ∧ Below w.heap.size w w' := by
 have hu26 := Try.underlying26
 have HR0_0 := qab.mk hr0_0
 have HC0_0 := qab.mk hc0_0
 clear hr0_0 hc0_0
 have HR0_1 := qab.mk hr0_1
 have HC0_1 := qab.mk hc0_1
 clear hr0_1 hc0_1
 have HR0_2 := qab.mk hr0_2
 have HC0_2 := qab.mk hc0_2
 clear hr0_2 hc0_2
 have HB := qab.mk (Below.refl w.heap.size w)
 have H : ((taliklaw04_short.f k l0_0 l0_1 l0_2).bind fun t233 => (if t233 = true then ((talikref04_Net.f l0_0 l0_1 l0_2).bind fun t234 => (if t234 = true then (taliklaw04_PipeOrders.j0 k a1 a2 (decide ((l0_0.length : Int) > 4)) l0_0 l0_1 l0_2) else (taliklaw04_PipeOrders.j0 k a1 a2 false l0_0 l0_1 l0_2))) else (taliklaw04_PipeOrders.j0 k a1 a2 true l0_0 l0_1 l0_2))) = some r := h
 clear h
 have HC4 := qab.mk H
 clear H
 go_enter Try.func5, Try.ntmps5
 go_upto_region 1 with (first | ((with_reducible refine qav (N := 3) rfl ?_); (try (refine gate_guard (by rfl) ?_; dsimp only)); refine qau ?hg (N := 3) ?hd (cs := #[.slice A0_0 l0_0.length c0_0, .slice A0_1 l0_1.length c0_1, .slice A0_2 l0_2.length c0_2]) (t := 26) ?hr ?_; (case hd => rfl); (case hg => rfl); (case hr => first | (go_simp; done) | (go_simp; rfl)); intro gb232 hg w5 hbox hb; have n0_ := qab.mk (qag (by repeat (first | (with_reducible first | exact HB.out | apply qae | apply qac | apply qaf) | exact HB.out)) hb); have n1_ := qab.mk (hbox); have n2_ := qab.mk ((by rw [hg]; exact (qaq (by repeat (first | (with_reducible first | exact HB.out | apply qae | apply qac | apply qaf) | exact HB.out))) : w.heap.size ≤ gb232)); have n3_ := qab.mk ((by rw [hg]; exact (qaq (by repeat (first | (with_reducible first | exact HB.out | apply qae | apply qac | apply qaf) | exact HB.out))) : w.heap.size ≤ gb232)); clear HB; have HB := n0_; have BK232 := n1_; have GW232 := n2_; have GE232 := n3_; clear n0_ n1_ n2_ n3_; clear hb hbox hg))
 (try simp only [Act.put, List.setIfInBounds_toArray, List.set_cons_zero, List.set_cons_succ])
 go_cut [25] (fun v25 wc => ∃ (kq : Nat) (x25_3 : Bool), v25 = .bool x25_3 ∧ qab (taliklaw04_PipeOrders.j0 kq a1 a2 x25_3 l0_0 l0_1 l0_2 = some r) ∧ qab (kq ≤ k) ∧ qab (wc.heap[gb232]? = some (.cells #[(.slice A0_0 l0_0.length c0_0), (.slice A0_1 l0_1.length c0_1), (.slice A0_2 l0_2.length c0_2)] 26 (0, 0))) ∧ qab (Below w.heap.size w wc))
 case first =>
  have H := HC4.out
  clear HC4
  replace H := Option.bind_eq_some_iff.mp H
  obtain ⟨t233, A60, H⟩ := H
  replace H : (if t233 = true then ((talikref04_Net.f l0_0 l0_1 l0_2).bind fun t234 => (if t234 = true then (taliklaw04_PipeOrders.j0 k a1 a2 (decide ((l0_0.length : Int) > 4)) l0_0 l0_1 l0_2) else (taliklaw04_PipeOrders.j0 k a1 a2 false l0_0 l0_1 l0_2))) else (taliklaw04_PipeOrders.j0 k a1 a2 true l0_0 l0_1 l0_2)) = some r := H
  have A6 := qab.mk A60
  clear A60
  by_cases c7 : t233 = true
  ·
   subst c7
   have H1 : ((talikref04_Net.f l0_0 l0_1 l0_2).bind fun t234 => (if t234 = true then (taliklaw04_PipeOrders.j0 k a1 a2 (decide ((l0_0.length : Int) > 4)) l0_0 l0_1 l0_2) else (taliklaw04_PipeOrders.j0 k a1 a2 false l0_0 l0_1 l0_2))) = some r := by rw [if_pos rfl] at H; exact H
   clear H
   have H := H1
   clear H1
   replace H := Option.bind_eq_some_iff.mp H
   obtain ⟨t234, A80, H⟩ := H
   replace H : (if t234 = true then (taliklaw04_PipeOrders.j0 k a1 a2 (decide ((l0_0.length : Int) > 4)) l0_0 l0_1 l0_2) else (taliklaw04_PipeOrders.j0 k a1 a2 false l0_0 l0_1 l0_2)) = some r := H
   have A8 := qab.mk A80
   clear A80
   by_cases c9 : t234 = true
   ·
    subst c9
    have H1 : (taliklaw04_PipeOrders.j0 k a1 a2 (decide ((l0_0.length : Int) > 4)) l0_0 l0_1 l0_2) = some r := by rw [if_pos rfl] at H; exact H
    clear H
    have H := H1
    clear H1
    have H' := qab.mk H
    clear H
    have hcz10_0 : w5.cell? ⟨gb232, 0, none⟩ = some (.slice A0_0 l0_0.length c0_0) := (qaa BK232.out 0).trans rfl
    have hcz10_1 : w5.cell? ⟨gb232, 1, none⟩ = some (.slice A0_1 l0_1.length c0_1) := (qaa BK232.out 1).trans rfl
    have hcz10_2 : w5.cell? ⟨gb232, 2, none⟩ = some (.slice A0_2 l0_2.length c0_2) := (qaa BK232.out 2).trans rfl
    have hfz10_0 := qad BK232.out 0
    have hfz10_1 := qad BK232.out 1
    have hfz10_2 := qad BK232.out 2
    go_wp2_with (first | ((with_reducible refine qat (f := 16) rfl ?_); refine qbb (some 14) rfl rfl Try.func16 (by kernel_rfl) rfl #[.agg #[.slice A0_0 l0_0.length c0_0, .slice A0_1 l0_1.length c0_1, .slice A0_2 l0_2.length c0_2]] rfl (by (try simp only [List.map_toArray, List.map_cons, List.map_nil]); first | done | rfl | (simp only [List.length_drop, List.length_take]; rfl)) ?_; (with_reducible refine (taliklaw04_short.calls k _ _ l0_0 _ _ l0_1 _ _ l0_2 true _ ?side1 ?side2 ?side3 ?side4 ?side5 ?side6 A6.out).mono ?_); (case side1 => repeat (first | exact (Kd.qai HR0_0.out HB.out) | (with_reducible refine Kd.qal ?_ _) | (with_reducible refine Kd.qam ?_ _) | (with_reducible refine Kd.qap ?_))); (case side2 => exact HC0_0.out); (case side3 => repeat (first | exact (Kd.qai HR0_1.out HB.out) | (with_reducible refine Kd.qal ?_ _) | (with_reducible refine Kd.qam ?_ _) | (with_reducible refine Kd.qap ?_))); (case side4 => exact HC0_1.out); (case side5 => repeat (first | exact (Kd.qai HR0_2.out HB.out) | (with_reducible refine Kd.qal ?_ _) | (with_reducible refine Kd.qam ?_ _) | (with_reducible refine Kd.qap ?_))); (case side6 => exact HC0_2.out); rintro e w11 ⟨rfl, hb⟩; refine ⟨_, rfl, ?_⟩; have n0_ := qab.mk (qaj (g := gb232) (o := .cells #[.slice A0_0 l0_0.length c0_0, .slice A0_1 l0_1.length c0_1, .slice A0_2 l0_2.length c0_2] 26 (0, 0)) (by (with_reducible repeat (first | refine qan ?_ _ | refine qao ?_ | refine qak ?_ _)); exact BK232.out) hb); have n1_ := qab.mk (qag (by repeat (first | (with_reducible first | exact HB.out | apply qae | apply qac | apply qaf | refine qah ?_ GE232.out) | exact HB.out)) hb); clear BK232; clear HB; have BK232 := n0_; have HB := n1_; clear n0_ n1_; (try clear hb); (try clear hb2); (try clear hk); (try clear hi); have hcz12_0 : w11.cell? ⟨gb232, 0, none⟩ = some (.slice A0_0 l0_0.length c0_0) := (qaa BK232.out 0).trans rfl; have hcz12_1 : w11.cell? ⟨gb232, 1, none⟩ = some (.slice A0_1 l0_1.length c0_1) := (qaa BK232.out 1).trans rfl; have hcz12_2 : w11.cell? ⟨gb232, 2, none⟩ = some (.slice A0_2 l0_2.length c0_2) := (qaa BK232.out 2).trans rfl; have hfz12_0 := qad BK232.out 0; have hfz12_1 := qad BK232.out 1; have hfz12_2 := qad BK232.out 2) | (go_at_call 19; (with_reducible refine (talikref04_Net.calls _ _ l0_0 _ _ l0_1 _ _ l0_2 true _ ?side1 ?side2 ?side3 ?side4 ?side5 ?side6 A8.out).mono ?_); (case side1 => repeat (first | exact (Kd.qai HR0_0.out HB.out) | (with_reducible refine Kd.qal ?_ _) | (with_reducible refine Kd.qam ?_ _) | (with_reducible refine Kd.qap ?_))); (case side2 => exact HC0_0.out); (case side3 => repeat (first | exact (Kd.qai HR0_1.out HB.out) | (with_reducible refine Kd.qal ?_ _) | (with_reducible refine Kd.qam ?_ _) | (with_reducible refine Kd.qap ?_))); (case side4 => exact HC0_1.out); (case side5 => repeat (first | exact (Kd.qai HR0_2.out HB.out) | (with_reducible refine Kd.qal ?_ _) | (with_reducible refine Kd.qam ?_ _) | (with_reducible refine Kd.qap ?_))); (case side6 => exact HC0_2.out); rintro e w13 ⟨rfl, hb⟩; have n0_ := qab.mk (qaj (g := gb232) (o := .cells #[.slice A0_0 l0_0.length c0_0, .slice A0_1 l0_1.length c0_1, .slice A0_2 l0_2.length c0_2] 26 (0, 0)) (by (with_reducible repeat (first | refine qan ?_ _ | refine qao ?_ | refine qak ?_ _)); exact BK232.out) hb); have n1_ := qab.mk (qag (by repeat (first | (with_reducible first | exact HB.out | apply qae | apply qac | apply qaf | refine qah ?_ GE232.out) | exact HB.out)) hb); clear BK232; clear HB; have BK232 := n0_; have HB := n1_; clear n0_ n1_; (try clear hb); (try clear hb2); (try clear hk); (try clear hi); have hcz14_0 : w13.cell? ⟨gb232, 0, none⟩ = some (.slice A0_0 l0_0.length c0_0) := (qaa BK232.out 0).trans rfl; have hcz14_1 : w13.cell? ⟨gb232, 1, none⟩ = some (.slice A0_1 l0_1.length c0_1) := (qaa BK232.out 1).trans rfl; have hcz14_2 : w13.cell? ⟨gb232, 2, none⟩ = some (.slice A0_2 l0_2.length c0_2) := (qaa BK232.out 2).trans rfl; have hfz14_0 := qad BK232.out 0; have hfz14_1 := qad BK232.out 1; have hfz14_2 := qad BK232.out 2))
    go_meet
    case rel => exact ⟨_, (decide ((l0_0.length : Int) > 4)), (by first | rfl | (simp; done) | (simp [*]; done)), H', ⟨by first | omega | exact Nat.le_refl _⟩, ⟨by (with_reducible repeat (first | refine qan ?_ _ | refine qao ?_ | refine qak ?_ _)); exact BK232.out⟩, ⟨by repeat (first | (with_reducible first | exact HB.out | apply qae | apply qac | apply qaf | refine qah ?_ GE232.out) | exact HB.out)⟩⟩
   ·
    replace c9 := Bool.eq_false_iff.mpr c9
    subst c9
    have H1 : (taliklaw04_PipeOrders.j0 k a1 a2 false l0_0 l0_1 l0_2) = some r := by rw [if_neg (show ¬ (false = true) by decide)] at H; exact H
    clear H
    have H := H1
    clear H1
    have H' := qab.mk H
    clear H
    have hcz15_0 : w5.cell? ⟨gb232, 0, none⟩ = some (.slice A0_0 l0_0.length c0_0) := (qaa BK232.out 0).trans rfl
    have hcz15_1 : w5.cell? ⟨gb232, 1, none⟩ = some (.slice A0_1 l0_1.length c0_1) := (qaa BK232.out 1).trans rfl
    have hcz15_2 : w5.cell? ⟨gb232, 2, none⟩ = some (.slice A0_2 l0_2.length c0_2) := (qaa BK232.out 2).trans rfl
    have hfz15_0 := qad BK232.out 0
    have hfz15_1 := qad BK232.out 1
    have hfz15_2 := qad BK232.out 2
    go_wp2_with (first | ((with_reducible refine qat (f := 16) rfl ?_); refine qbb (some 14) rfl rfl Try.func16 (by kernel_rfl) rfl #[.agg #[.slice A0_0 l0_0.length c0_0, .slice A0_1 l0_1.length c0_1, .slice A0_2 l0_2.length c0_2]] rfl (by (try simp only [List.map_toArray, List.map_cons, List.map_nil]); first | done | rfl | (simp only [List.length_drop, List.length_take]; rfl)) ?_; (with_reducible refine (taliklaw04_short.calls k _ _ l0_0 _ _ l0_1 _ _ l0_2 true _ ?side1 ?side2 ?side3 ?side4 ?side5 ?side6 A6.out).mono ?_); (case side1 => repeat (first | exact (Kd.qai HR0_0.out HB.out) | (with_reducible refine Kd.qal ?_ _) | (with_reducible refine Kd.qam ?_ _) | (with_reducible refine Kd.qap ?_))); (case side2 => exact HC0_0.out); (case side3 => repeat (first | exact (Kd.qai HR0_1.out HB.out) | (with_reducible refine Kd.qal ?_ _) | (with_reducible refine Kd.qam ?_ _) | (with_reducible refine Kd.qap ?_))); (case side4 => exact HC0_1.out); (case side5 => repeat (first | exact (Kd.qai HR0_2.out HB.out) | (with_reducible refine Kd.qal ?_ _) | (with_reducible refine Kd.qam ?_ _) | (with_reducible refine Kd.qap ?_))); (case side6 => exact HC0_2.out); rintro e w16 ⟨rfl, hb⟩; refine ⟨_, rfl, ?_⟩; have n0_ := qab.mk (qaj (g := gb232) (o := .cells #[.slice A0_0 l0_0.length c0_0, .slice A0_1 l0_1.length c0_1, .slice A0_2 l0_2.length c0_2] 26 (0, 0)) (by (with_reducible repeat (first | refine qan ?_ _ | refine qao ?_ | refine qak ?_ _)); exact BK232.out) hb); have n1_ := qab.mk (qag (by repeat (first | (with_reducible first | exact HB.out | apply qae | apply qac | apply qaf | refine qah ?_ GE232.out) | exact HB.out)) hb); clear BK232; clear HB; have BK232 := n0_; have HB := n1_; clear n0_ n1_; (try clear hb); (try clear hb2); (try clear hk); (try clear hi); have hcz17_0 : w16.cell? ⟨gb232, 0, none⟩ = some (.slice A0_0 l0_0.length c0_0) := (qaa BK232.out 0).trans rfl; have hcz17_1 : w16.cell? ⟨gb232, 1, none⟩ = some (.slice A0_1 l0_1.length c0_1) := (qaa BK232.out 1).trans rfl; have hcz17_2 : w16.cell? ⟨gb232, 2, none⟩ = some (.slice A0_2 l0_2.length c0_2) := (qaa BK232.out 2).trans rfl; have hfz17_0 := qad BK232.out 0; have hfz17_1 := qad BK232.out 1; have hfz17_2 := qad BK232.out 2) | (go_at_call 19; (with_reducible refine (talikref04_Net.calls _ _ l0_0 _ _ l0_1 _ _ l0_2 false _ ?side1 ?side2 ?side3 ?side4 ?side5 ?side6 A8.out).mono ?_); (case side1 => repeat (first | exact (Kd.qai HR0_0.out HB.out) | (with_reducible refine Kd.qal ?_ _) | (with_reducible refine Kd.qam ?_ _) | (with_reducible refine Kd.qap ?_))); (case side2 => exact HC0_0.out); (case side3 => repeat (first | exact (Kd.qai HR0_1.out HB.out) | (with_reducible refine Kd.qal ?_ _) | (with_reducible refine Kd.qam ?_ _) | (with_reducible refine Kd.qap ?_))); (case side4 => exact HC0_1.out); (case side5 => repeat (first | exact (Kd.qai HR0_2.out HB.out) | (with_reducible refine Kd.qal ?_ _) | (with_reducible refine Kd.qam ?_ _) | (with_reducible refine Kd.qap ?_))); (case side6 => exact HC0_2.out); rintro e w18 ⟨rfl, hb⟩; have n0_ := qab.mk (qaj (g := gb232) (o := .cells #[.slice A0_0 l0_0.length c0_0, .slice A0_1 l0_1.length c0_1, .slice A0_2 l0_2.length c0_2] 26 (0, 0)) (by (with_reducible repeat (first | refine qan ?_ _ | refine qao ?_ | refine qak ?_ _)); exact BK232.out) hb); have n1_ := qab.mk (qag (by repeat (first | (with_reducible first | exact HB.out | apply qae | apply qac | apply qaf | refine qah ?_ GE232.out) | exact HB.out)) hb); clear BK232; clear HB; have BK232 := n0_; have HB := n1_; clear n0_ n1_; (try clear hb); (try clear hb2); (try clear hk); (try clear hi)))
    go_meet
    case rel => exact ⟨_, (false), (by first | rfl | (simp; done) | (simp [*]; done)), H', ⟨by first | omega | exact Nat.le_refl _⟩, ⟨by (with_reducible repeat (first | refine qan ?_ _ | refine qao ?_ | refine qak ?_ _)); exact BK232.out⟩, ⟨by repeat (first | (with_reducible first | exact HB.out | apply qae | apply qac | apply qaf | refine qah ?_ GE232.out) | exact HB.out)⟩⟩
  ·
   replace c7 := Bool.eq_false_iff.mpr c7
   subst c7
   have H1 : (taliklaw04_PipeOrders.j0 k a1 a2 true l0_0 l0_1 l0_2) = some r := by rw [if_neg (show ¬ (false = true) by decide)] at H; exact H
   clear H
   have H := H1
   clear H1
   have H' := qab.mk H
   clear H
   have hcz19_0 : w5.cell? ⟨gb232, 0, none⟩ = some (.slice A0_0 l0_0.length c0_0) := (qaa BK232.out 0).trans rfl
   have hcz19_1 : w5.cell? ⟨gb232, 1, none⟩ = some (.slice A0_1 l0_1.length c0_1) := (qaa BK232.out 1).trans rfl
   have hcz19_2 : w5.cell? ⟨gb232, 2, none⟩ = some (.slice A0_2 l0_2.length c0_2) := (qaa BK232.out 2).trans rfl
   have hfz19_0 := qad BK232.out 0
   have hfz19_1 := qad BK232.out 1
   have hfz19_2 := qad BK232.out 2
   go_wp2_with (first | ((with_reducible refine qat (f := 16) rfl ?_); refine qbb (some 14) rfl rfl Try.func16 (by kernel_rfl) rfl #[.agg #[.slice A0_0 l0_0.length c0_0, .slice A0_1 l0_1.length c0_1, .slice A0_2 l0_2.length c0_2]] rfl (by (try simp only [List.map_toArray, List.map_cons, List.map_nil]); first | done | rfl | (simp only [List.length_drop, List.length_take]; rfl)) ?_; (with_reducible refine (taliklaw04_short.calls k _ _ l0_0 _ _ l0_1 _ _ l0_2 false _ ?side1 ?side2 ?side3 ?side4 ?side5 ?side6 A6.out).mono ?_); (case side1 => repeat (first | exact (Kd.qai HR0_0.out HB.out) | (with_reducible refine Kd.qal ?_ _) | (with_reducible refine Kd.qam ?_ _) | (with_reducible refine Kd.qap ?_))); (case side2 => exact HC0_0.out); (case side3 => repeat (first | exact (Kd.qai HR0_1.out HB.out) | (with_reducible refine Kd.qal ?_ _) | (with_reducible refine Kd.qam ?_ _) | (with_reducible refine Kd.qap ?_))); (case side4 => exact HC0_1.out); (case side5 => repeat (first | exact (Kd.qai HR0_2.out HB.out) | (with_reducible refine Kd.qal ?_ _) | (with_reducible refine Kd.qam ?_ _) | (with_reducible refine Kd.qap ?_))); (case side6 => exact HC0_2.out); rintro e w20 ⟨rfl, hb⟩; refine ⟨_, rfl, ?_⟩; have n0_ := qab.mk (qaj (g := gb232) (o := .cells #[.slice A0_0 l0_0.length c0_0, .slice A0_1 l0_1.length c0_1, .slice A0_2 l0_2.length c0_2] 26 (0, 0)) (by (with_reducible repeat (first | refine qan ?_ _ | refine qao ?_ | refine qak ?_ _)); exact BK232.out) hb); have n1_ := qab.mk (qag (by repeat (first | (with_reducible first | exact HB.out | apply qae | apply qac | apply qaf | refine qah ?_ GE232.out) | exact HB.out)) hb); clear BK232; clear HB; have BK232 := n0_; have HB := n1_; clear n0_ n1_; (try clear hb); (try clear hb2); (try clear hk); (try clear hi)))
   go_meet
   case rel => exact ⟨_, (true), (by first | rfl | (simp; done) | (simp [*]; done)), H', ⟨by first | omega | exact Nat.le_refl _⟩, ⟨by (with_reducible repeat (first | refine qan ?_ _ | refine qao ?_ | refine qak ?_ _)); exact BK232.out⟩, ⟨by repeat (first | (with_reducible first | exact HB.out | apply qae | apply qac | apply qaf | refine qah ?_ GE232.out) | exact HB.out)⟩⟩
 case rest =>
  clear HC4
  try clear c1
  try clear p2
  try clear c5
  try clear c7
  try clear c9
  try clear c16
  try clear hcz10_0
  try clear hcz10_1
  try clear hcz10_2
  try clear hcz12_0
  try clear hcz12_1
  try clear hcz12_2
  try clear hcz14_0
  try clear hcz14_1
  try clear hcz14_2
  try clear hcz15_0
  try clear hcz15_1
  try clear hcz15_2
  try clear hcz17_0
  try clear hcz17_1
  try clear hcz17_2
  try clear hcz19_0
  try clear hcz19_1
  try clear hcz19_2
  try clear hfz10_0
  try clear hfz10_1
  try clear hfz10_2
  try clear hfz12_0
  try clear hfz12_1
  try clear hfz12_2
  try clear hfz14_0
  try clear hfz14_1
  try clear hfz14_2
  try clear hfz15_0
  try clear hfz15_1
  try clear hfz15_2
  try clear hfz17_0
  try clear hfz17_1
  try clear hfz17_2
  try clear hfz19_0
  try clear hfz19_1
  try clear hfz19_2
  obtain ⟨kq, x25_3, rfl, HA, HJ3, BK232, HB⟩ := hcut
  cases kq with
  | zero => exact absurd HA.out (by simp [taliklaw04_PipeOrders.j0])
  | succ kj3 =>
   have H := HA.out
   clear HA
   simp only [taliklaw04_PipeOrders.j0] at H
   by_cases c21 : x25_3 = true
   ·
    subst c21
    have H1 : ((taliklaw04_known.f).bind fun t235 => (some t235)) = some r := by rw [if_pos rfl] at H; exact H
    clear H
    have H := H1
    clear H1
    replace H := Option.bind_eq_some_iff.mp H
    obtain ⟨t235, A220, H⟩ := H
    replace H : (some t235) = some r := H
    have A22 := qab.mk A220
    clear A220
    obtain rfl := Option.some.inj H
    go_wp2_with (first | ((with_reducible refine qat (f := 17) rfl ?_); refine qbb (some 26) rfl rfl Try.func17 (by kernel_rfl) rfl #[] rfl (by (try simp only [List.map_toArray, List.map_cons, List.map_nil]); first | done | rfl | (simp only [List.length_drop, List.length_take]; rfl)) ?_; (with_reducible refine (taliklaw04_known.calls  t235 _ A22.out).mono ?_); rintro e w23 ⟨rfl, hb⟩; refine ⟨_, rfl, ?_⟩; have n0_ := qab.mk (qaj (g := gb232) (o := .cells #[.slice A0_0 l0_0.length c0_0, .slice A0_1 l0_1.length c0_1, .slice A0_2 l0_2.length c0_2] 26 (0, 0)) (by (with_reducible repeat (first | refine qan ?_ _ | refine qao ?_ | refine qak ?_ _)); exact BK232.out) hb); have n1_ := qab.mk (qag (by repeat (first | (with_reducible first | exact HB.out | apply qae | apply qac | apply qaf | refine qah ?_ GE232.out) | exact HB.out)) hb); clear BK232; clear HB; have BK232 := n0_; have HB := n1_; clear n0_ n1_; (try clear hb); (try clear hb2); (try clear hk); (try clear hi)))
    go_ret
    exact ⟨by first | rfl | (simp [qar, qas] <;> rfl) | (simp [*, qar, qas] <;> rfl), by repeat (first | (with_reducible first | exact HB.out | apply qae | apply qac | apply qaf | refine qah ?_ GE232.out) | exact HB.out)⟩
   ·
    replace c21 := Bool.eq_false_iff.mpr c21
    subst c21
    have H1 : ((pipe_Order.f kj3 l0_0 l0_1 l0_2 a1 a2).bind fun bt236 => ((talikref04_Net.f l0_0 l0_1 l0_2).bind fun t241 => (if t241 = true then ((talikref04_Place.f l0_0 l0_1 l0_2 a1).bind fun t242 => (if t242 = true then ((talikref04_Fault.f kj3 l0_0 l0_1 l0_2 a2).bind fun t243 => (taliklaw04_PipeOrders.j1 kj3 a1 a2 bt236.1 bt236.2.1 bt236.2.2 (!t243) l0_0 l0_1 l0_2)) else (taliklaw04_PipeOrders.j1 kj3 a1 a2 bt236.1 bt236.2.1 bt236.2.2 true l0_0 l0_1 l0_2))) else (taliklaw04_PipeOrders.j1 kj3 a1 a2 bt236.1 bt236.2.1 bt236.2.2 true l0_0 l0_1 l0_2)))) = some r := by rw [if_neg (show ¬ (false = true) by decide)] at H; exact H
    clear H
    have H := H1
    clear H1
    replace H := Option.bind_eq_some_iff.mp H
    obtain ⟨⟨t236, t239, t240⟩, A240, H⟩ := H
    replace H : ((talikref04_Net.f l0_0 l0_1 l0_2).bind fun t241 => (if t241 = true then ((talikref04_Place.f l0_0 l0_1 l0_2 a1).bind fun t242 => (if t242 = true then ((talikref04_Fault.f kj3 l0_0 l0_1 l0_2 a2).bind fun t243 => (taliklaw04_PipeOrders.j1 kj3 a1 a2 t236 t239 t240 (!t243) l0_0 l0_1 l0_2)) else (taliklaw04_PipeOrders.j1 kj3 a1 a2 t236 t239 t240 true l0_0 l0_1 l0_2))) else (taliklaw04_PipeOrders.j1 kj3 a1 a2 t236 t239 t240 true l0_0 l0_1 l0_2))) = some r := H
    have A24 := qab.mk A240
    clear A240
    have HC25 := qab.mk H
    clear H
    have hcz26_0 : wc.cell? ⟨gb232, 0, none⟩ = some (.slice A0_0 l0_0.length c0_0) := (qaa BK232.out 0).trans rfl
    have hcz26_1 : wc.cell? ⟨gb232, 1, none⟩ = some (.slice A0_1 l0_1.length c0_1) := (qaa BK232.out 1).trans rfl
    have hcz26_2 : wc.cell? ⟨gb232, 2, none⟩ = some (.slice A0_2 l0_2.length c0_2) := (qaa BK232.out 2).trans rfl
    have hfz26_0 := qad BK232.out 0
    have hfz26_1 := qad BK232.out 1
    have hfz26_2 := qad BK232.out 2
    go_upto_region 4 with (first | ((with_reducible refine qat (f := 24) rfl ?_); refine qbb (some 31) rfl rfl Try.func24 (by kernel_rfl) rfl #[.agg #[.slice A0_0 l0_0.length c0_0, .slice A0_1 l0_1.length c0_1, .slice A0_2 l0_2.length c0_2], .int .i64 a1, .int .i64 a2] rfl (by (try simp only [List.map_toArray, List.map_cons, List.map_nil]); first | done | rfl | (simp only [List.length_drop, List.length_take]; rfl)) ?_; (with_reducible refine (pipe_Order.calls kj3 _ _ l0_0 _ _ l0_1 _ _ l0_2 a1 a2 t236 t239 t240 _ ?side1 ?side2 ?side3 ?side4 ?side5 ?side6 A24.out).mono ?_); (case side1 => repeat (first | exact (Kd.qai HR0_0.out HB.out) | (with_reducible refine Kd.qal ?_ _) | (with_reducible refine Kd.qam ?_ _) | (with_reducible refine Kd.qap ?_))); (case side2 => exact HC0_0.out); (case side3 => repeat (first | exact (Kd.qai HR0_1.out HB.out) | (with_reducible refine Kd.qal ?_ _) | (with_reducible refine Kd.qam ?_ _) | (with_reducible refine Kd.qap ?_))); (case side4 => exact HC0_1.out); (case side5 => repeat (first | exact (Kd.qai HR0_2.out HB.out) | (with_reducible refine Kd.qal ?_ _) | (with_reducible refine Kd.qam ?_ _) | (with_reducible refine Kd.qap ?_))); (case side6 => exact HC0_2.out); rintro e w27 ⟨v237, rfl, ho0, hb⟩; refine ⟨_, rfl, ?_⟩; have n0_ := qab.mk (Kd.R_lower ho0 (qaq (by repeat (first | (with_reducible first | exact HB.out | apply qae | apply qac | apply qaf | refine qah ?_ GE232.out) | exact HB.out)))); have n1_ := qab.mk (qaj (g := gb232) (o := .cells #[.slice A0_0 l0_0.length c0_0, .slice A0_1 l0_1.length c0_1, .slice A0_2 l0_2.length c0_2] 26 (0, 0)) (by (with_reducible repeat (first | refine qan ?_ _ | refine qao ?_ | refine qak ?_ _)); exact BK232.out) hb); have n2_ := qab.mk (qag (by repeat (first | (with_reducible first | exact HB.out | apply qae | apply qac | apply qaf | refine qah ?_ GE232.out) | exact HB.out)) hb); clear BK232; clear HB; have HO238 := n0_; have BK232 := n1_; have HB := n2_; clear n0_ n1_ n2_; (try clear hb); (try clear hb2); (try clear hk); (try clear hi); (try clear ho0)))
    (try simp only [Act.put, List.setIfInBounds_toArray, List.set_cons_zero, List.set_cons_succ])
    go_cut [49] (fun v49 wc => ∃ (kq : Nat) (x49_24 : Bool), v49 = .bool x49_24 ∧ qab (taliklaw04_PipeOrders.j1 kq a1 a2 t236 t239 t240 x49_24 l0_0 l0_1 l0_2 = some r) ∧ qab (kq ≤ kj3) ∧ qab (Kd.R (Kd.int .i64) 3 wc w.heap.size (fun _ => True) v237 t236) ∧ qab (wc.heap[gb232]? = some (.cells #[(.slice A0_0 l0_0.length c0_0), (.slice A0_1 l0_1.length c0_1), (.slice A0_2 l0_2.length c0_2)] 26 (0, 0))) ∧ qab (Below w.heap.size w wc))
    case first =>
     have H := HC25.out
     clear HC25
     replace H := Option.bind_eq_some_iff.mp H
     obtain ⟨t241, A280, H⟩ := H
     replace H : (if t241 = true then ((talikref04_Place.f l0_0 l0_1 l0_2 a1).bind fun t242 => (if t242 = true then ((talikref04_Fault.f kj3 l0_0 l0_1 l0_2 a2).bind fun t243 => (taliklaw04_PipeOrders.j1 kj3 a1 a2 t236 t239 t240 (!t243) l0_0 l0_1 l0_2)) else (taliklaw04_PipeOrders.j1 kj3 a1 a2 t236 t239 t240 true l0_0 l0_1 l0_2))) else (taliklaw04_PipeOrders.j1 kj3 a1 a2 t236 t239 t240 true l0_0 l0_1 l0_2)) = some r := H
     have A28 := qab.mk A280
     clear A280
     by_cases c29 : t241 = true
     ·
      subst c29
      have H1 : ((talikref04_Place.f l0_0 l0_1 l0_2 a1).bind fun t242 => (if t242 = true then ((talikref04_Fault.f kj3 l0_0 l0_1 l0_2 a2).bind fun t243 => (taliklaw04_PipeOrders.j1 kj3 a1 a2 t236 t239 t240 (!t243) l0_0 l0_1 l0_2)) else (taliklaw04_PipeOrders.j1 kj3 a1 a2 t236 t239 t240 true l0_0 l0_1 l0_2))) = some r := by rw [if_pos rfl] at H; exact H
      clear H
      have H := H1
      clear H1
      replace H := Option.bind_eq_some_iff.mp H
      obtain ⟨t242, A300, H⟩ := H
      replace H : (if t242 = true then ((talikref04_Fault.f kj3 l0_0 l0_1 l0_2 a2).bind fun t243 => (taliklaw04_PipeOrders.j1 kj3 a1 a2 t236 t239 t240 (!t243) l0_0 l0_1 l0_2)) else (taliklaw04_PipeOrders.j1 kj3 a1 a2 t236 t239 t240 true l0_0 l0_1 l0_2)) = some r := H
      have A30 := qab.mk A300
      clear A300
      by_cases c31 : t242 = true
      ·
       subst c31
       have H1 : ((talikref04_Fault.f kj3 l0_0 l0_1 l0_2 a2).bind fun t243 => (taliklaw04_PipeOrders.j1 kj3 a1 a2 t236 t239 t240 (!t243) l0_0 l0_1 l0_2)) = some r := by rw [if_pos rfl] at H; exact H
       clear H
       have H := H1
       clear H1
       replace H := Option.bind_eq_some_iff.mp H
       obtain ⟨t243, A320, H⟩ := H
       replace H : (taliklaw04_PipeOrders.j1 kj3 a1 a2 t236 t239 t240 (!t243) l0_0 l0_1 l0_2) = some r := H
       have A32 := qab.mk A320
       clear A320
       have H' := qab.mk H
       clear H
       have hcz33_0 : w27.cell? ⟨gb232, 0, none⟩ = some (.slice A0_0 l0_0.length c0_0) := (qaa BK232.out 0).trans rfl
       have hcz33_1 : w27.cell? ⟨gb232, 1, none⟩ = some (.slice A0_1 l0_1.length c0_1) := (qaa BK232.out 1).trans rfl
       have hcz33_2 : w27.cell? ⟨gb232, 2, none⟩ = some (.slice A0_2 l0_2.length c0_2) := (qaa BK232.out 2).trans rfl
       have hfz33_0 := qad BK232.out 0
       have hfz33_1 := qad BK232.out 1
       have hfz33_2 := qad BK232.out 2
       go_wp2_with (first | ((with_reducible refine qat (f := 19) rfl ?_); refine qbb (some 36) rfl rfl Try.func19 (by kernel_rfl) rfl #[.agg #[.slice A0_0 l0_0.length c0_0, .slice A0_1 l0_1.length c0_1, .slice A0_2 l0_2.length c0_2]] rfl (by (try simp only [List.map_toArray, List.map_cons, List.map_nil]); first | done | rfl | (simp only [List.length_drop, List.length_take]; rfl)) ?_; (with_reducible refine (talikref04_Net.calls _ _ l0_0 _ _ l0_1 _ _ l0_2 true _ ?side1 ?side2 ?side3 ?side4 ?side5 ?side6 A28.out).mono ?_); (case side1 => repeat (first | exact (Kd.qai HR0_0.out HB.out) | (with_reducible refine Kd.qal ?_ _) | (with_reducible refine Kd.qam ?_ _) | (with_reducible refine Kd.qap ?_))); (case side2 => exact HC0_0.out); (case side3 => repeat (first | exact (Kd.qai HR0_1.out HB.out) | (with_reducible refine Kd.qal ?_ _) | (with_reducible refine Kd.qam ?_ _) | (with_reducible refine Kd.qap ?_))); (case side4 => exact HC0_1.out); (case side5 => repeat (first | exact (Kd.qai HR0_2.out HB.out) | (with_reducible refine Kd.qal ?_ _) | (with_reducible refine Kd.qam ?_ _) | (with_reducible refine Kd.qap ?_))); (case side6 => exact HC0_2.out); rintro e w34 ⟨rfl, hb⟩; refine ⟨_, rfl, ?_⟩; have n0_ := qab.mk (Kd.R_below (by (with_reducible repeat (first | apply Kd.R_alloc | apply Kd.R_drewN | apply Kd.R_drew)); exact HO238.out) hb); have n1_ := qab.mk (qaj (g := gb232) (o := .cells #[.slice A0_0 l0_0.length c0_0, .slice A0_1 l0_1.length c0_1, .slice A0_2 l0_2.length c0_2] 26 (0, 0)) (by (with_reducible repeat (first | refine qan ?_ _ | refine qao ?_ | refine qak ?_ _)); exact BK232.out) hb); have n2_ := qab.mk (qag (by repeat (first | (with_reducible first | exact HB.out | apply qae | apply qac | apply qaf | refine qah ?_ GE232.out) | exact HB.out)) hb); clear HO238; clear BK232; clear HB; have HO238 := n0_; have BK232 := n1_; have HB := n2_; clear n0_ n1_ n2_; (try clear hb); (try clear hb2); (try clear hk); (try clear hi); have hcz35_0 : w34.cell? ⟨gb232, 0, none⟩ = some (.slice A0_0 l0_0.length c0_0) := (qaa BK232.out 0).trans rfl; have hcz35_1 : w34.cell? ⟨gb232, 1, none⟩ = some (.slice A0_1 l0_1.length c0_1) := (qaa BK232.out 1).trans rfl; have hcz35_2 : w34.cell? ⟨gb232, 2, none⟩ = some (.slice A0_2 l0_2.length c0_2) := (qaa BK232.out 2).trans rfl; have hfz35_0 := qad BK232.out 0; have hfz35_1 := qad BK232.out 1; have hfz35_2 := qad BK232.out 2) | (go_at_call 25; (with_reducible refine (talikref04_Place.calls _ _ l0_0 _ _ l0_1 _ _ l0_2 a1 true _ ?side1 ?side2 ?side3 ?side4 ?side5 ?side6 A30.out).mono ?_); (case side1 => repeat (first | exact (Kd.qai HR0_0.out HB.out) | (with_reducible refine Kd.qal ?_ _) | (with_reducible refine Kd.qam ?_ _) | (with_reducible refine Kd.qap ?_))); (case side2 => exact HC0_0.out); (case side3 => repeat (first | exact (Kd.qai HR0_1.out HB.out) | (with_reducible refine Kd.qal ?_ _) | (with_reducible refine Kd.qam ?_ _) | (with_reducible refine Kd.qap ?_))); (case side4 => exact HC0_1.out); (case side5 => repeat (first | exact (Kd.qai HR0_2.out HB.out) | (with_reducible refine Kd.qal ?_ _) | (with_reducible refine Kd.qam ?_ _) | (with_reducible refine Kd.qap ?_))); (case side6 => exact HC0_2.out); rintro e w36 ⟨rfl, hb⟩; have n0_ := qab.mk (Kd.R_below (by (with_reducible repeat (first | apply Kd.R_alloc | apply Kd.R_drewN | apply Kd.R_drew)); exact HO238.out) hb); have n1_ := qab.mk (qaj (g := gb232) (o := .cells #[.slice A0_0 l0_0.length c0_0, .slice A0_1 l0_1.length c0_1, .slice A0_2 l0_2.length c0_2] 26 (0, 0)) (by (with_reducible repeat (first | refine qan ?_ _ | refine qao ?_ | refine qak ?_ _)); exact BK232.out) hb); have n2_ := qab.mk (qag (by repeat (first | (with_reducible first | exact HB.out | apply qae | apply qac | apply qaf | refine qah ?_ GE232.out) | exact HB.out)) hb); clear HO238; clear BK232; clear HB; have HO238 := n0_; have BK232 := n1_; have HB := n2_; clear n0_ n1_ n2_; (try clear hb); (try clear hb2); (try clear hk); (try clear hi); have hcz37_0 : w36.cell? ⟨gb232, 0, none⟩ = some (.slice A0_0 l0_0.length c0_0) := (qaa BK232.out 0).trans rfl; have hcz37_1 : w36.cell? ⟨gb232, 1, none⟩ = some (.slice A0_1 l0_1.length c0_1) := (qaa BK232.out 1).trans rfl; have hcz37_2 : w36.cell? ⟨gb232, 2, none⟩ = some (.slice A0_2 l0_2.length c0_2) := (qaa BK232.out 2).trans rfl; have hfz37_0 := qad BK232.out 0; have hfz37_1 := qad BK232.out 1; have hfz37_2 := qad BK232.out 2) | (go_at_call 26; (with_reducible refine (talikref04_Fault.calls kj3 _ _ l0_0 _ _ l0_1 _ _ l0_2 a2 t243 _ ?side1 ?side2 ?side3 ?side4 ?side5 ?side6 A32.out).mono ?_); (case side1 => repeat (first | exact (Kd.qai HR0_0.out HB.out) | (with_reducible refine Kd.qal ?_ _) | (with_reducible refine Kd.qam ?_ _) | (with_reducible refine Kd.qap ?_))); (case side2 => exact HC0_0.out); (case side3 => repeat (first | exact (Kd.qai HR0_1.out HB.out) | (with_reducible refine Kd.qal ?_ _) | (with_reducible refine Kd.qam ?_ _) | (with_reducible refine Kd.qap ?_))); (case side4 => exact HC0_1.out); (case side5 => repeat (first | exact (Kd.qai HR0_2.out HB.out) | (with_reducible refine Kd.qal ?_ _) | (with_reducible refine Kd.qam ?_ _) | (with_reducible refine Kd.qap ?_))); (case side6 => exact HC0_2.out); rintro e w38 ⟨rfl, hb⟩; have n0_ := qab.mk (Kd.R_below (by (with_reducible repeat (first | apply Kd.R_alloc | apply Kd.R_drewN | apply Kd.R_drew)); exact HO238.out) hb); have n1_ := qab.mk (qaj (g := gb232) (o := .cells #[.slice A0_0 l0_0.length c0_0, .slice A0_1 l0_1.length c0_1, .slice A0_2 l0_2.length c0_2] 26 (0, 0)) (by (with_reducible repeat (first | refine qan ?_ _ | refine qao ?_ | refine qak ?_ _)); exact BK232.out) hb); have n2_ := qab.mk (qag (by repeat (first | (with_reducible first | exact HB.out | apply qae | apply qac | apply qaf | refine qah ?_ GE232.out) | exact HB.out)) hb); clear HO238; clear BK232; clear HB; have HO238 := n0_; have BK232 := n1_; have HB := n2_; clear n0_ n1_ n2_; (try clear hb); (try clear hb2); (try clear hk); (try clear hi)))
       go_meet
       case rel => exact ⟨_, (!t243), (by first | rfl | (simp; done) | (simp [*]; done)), H', ⟨by have := HJ3.out; first | omega | exact Nat.le_refl _⟩, ⟨by (with_reducible repeat (first | apply Kd.R_alloc | apply Kd.R_drewN | apply Kd.R_drew)); exact HO238.out⟩, ⟨by (with_reducible repeat (first | refine qan ?_ _ | refine qao ?_ | refine qak ?_ _)); exact BK232.out⟩, ⟨by repeat (first | (with_reducible first | exact HB.out | apply qae | apply qac | apply qaf | refine qah ?_ GE232.out) | exact HB.out)⟩⟩
      ·
       replace c31 := Bool.eq_false_iff.mpr c31
       subst c31
       have H1 : (taliklaw04_PipeOrders.j1 kj3 a1 a2 t236 t239 t240 true l0_0 l0_1 l0_2) = some r := by rw [if_neg (show ¬ (false = true) by decide)] at H; exact H
       clear H
       have H := H1
       clear H1
       have H' := qab.mk H
       clear H
       have hcz39_0 : w27.cell? ⟨gb232, 0, none⟩ = some (.slice A0_0 l0_0.length c0_0) := (qaa BK232.out 0).trans rfl
       have hcz39_1 : w27.cell? ⟨gb232, 1, none⟩ = some (.slice A0_1 l0_1.length c0_1) := (qaa BK232.out 1).trans rfl
       have hcz39_2 : w27.cell? ⟨gb232, 2, none⟩ = some (.slice A0_2 l0_2.length c0_2) := (qaa BK232.out 2).trans rfl
       have hfz39_0 := qad BK232.out 0
       have hfz39_1 := qad BK232.out 1
       have hfz39_2 := qad BK232.out 2
       go_wp2_with (first | ((with_reducible refine qat (f := 19) rfl ?_); refine qbb (some 36) rfl rfl Try.func19 (by kernel_rfl) rfl #[.agg #[.slice A0_0 l0_0.length c0_0, .slice A0_1 l0_1.length c0_1, .slice A0_2 l0_2.length c0_2]] rfl (by (try simp only [List.map_toArray, List.map_cons, List.map_nil]); first | done | rfl | (simp only [List.length_drop, List.length_take]; rfl)) ?_; (with_reducible refine (talikref04_Net.calls _ _ l0_0 _ _ l0_1 _ _ l0_2 true _ ?side1 ?side2 ?side3 ?side4 ?side5 ?side6 A28.out).mono ?_); (case side1 => repeat (first | exact (Kd.qai HR0_0.out HB.out) | (with_reducible refine Kd.qal ?_ _) | (with_reducible refine Kd.qam ?_ _) | (with_reducible refine Kd.qap ?_))); (case side2 => exact HC0_0.out); (case side3 => repeat (first | exact (Kd.qai HR0_1.out HB.out) | (with_reducible refine Kd.qal ?_ _) | (with_reducible refine Kd.qam ?_ _) | (with_reducible refine Kd.qap ?_))); (case side4 => exact HC0_1.out); (case side5 => repeat (first | exact (Kd.qai HR0_2.out HB.out) | (with_reducible refine Kd.qal ?_ _) | (with_reducible refine Kd.qam ?_ _) | (with_reducible refine Kd.qap ?_))); (case side6 => exact HC0_2.out); rintro e w40 ⟨rfl, hb⟩; refine ⟨_, rfl, ?_⟩; have n0_ := qab.mk (Kd.R_below (by (with_reducible repeat (first | apply Kd.R_alloc | apply Kd.R_drewN | apply Kd.R_drew)); exact HO238.out) hb); have n1_ := qab.mk (qaj (g := gb232) (o := .cells #[.slice A0_0 l0_0.length c0_0, .slice A0_1 l0_1.length c0_1, .slice A0_2 l0_2.length c0_2] 26 (0, 0)) (by (with_reducible repeat (first | refine qan ?_ _ | refine qao ?_ | refine qak ?_ _)); exact BK232.out) hb); have n2_ := qab.mk (qag (by repeat (first | (with_reducible first | exact HB.out | apply qae | apply qac | apply qaf | refine qah ?_ GE232.out) | exact HB.out)) hb); clear HO238; clear BK232; clear HB; have HO238 := n0_; have BK232 := n1_; have HB := n2_; clear n0_ n1_ n2_; (try clear hb); (try clear hb2); (try clear hk); (try clear hi); have hcz41_0 : w40.cell? ⟨gb232, 0, none⟩ = some (.slice A0_0 l0_0.length c0_0) := (qaa BK232.out 0).trans rfl; have hcz41_1 : w40.cell? ⟨gb232, 1, none⟩ = some (.slice A0_1 l0_1.length c0_1) := (qaa BK232.out 1).trans rfl; have hcz41_2 : w40.cell? ⟨gb232, 2, none⟩ = some (.slice A0_2 l0_2.length c0_2) := (qaa BK232.out 2).trans rfl; have hfz41_0 := qad BK232.out 0; have hfz41_1 := qad BK232.out 1; have hfz41_2 := qad BK232.out 2) | (go_at_call 25; (with_reducible refine (talikref04_Place.calls _ _ l0_0 _ _ l0_1 _ _ l0_2 a1 false _ ?side1 ?side2 ?side3 ?side4 ?side5 ?side6 A30.out).mono ?_); (case side1 => repeat (first | exact (Kd.qai HR0_0.out HB.out) | (with_reducible refine Kd.qal ?_ _) | (with_reducible refine Kd.qam ?_ _) | (with_reducible refine Kd.qap ?_))); (case side2 => exact HC0_0.out); (case side3 => repeat (first | exact (Kd.qai HR0_1.out HB.out) | (with_reducible refine Kd.qal ?_ _) | (with_reducible refine Kd.qam ?_ _) | (with_reducible refine Kd.qap ?_))); (case side4 => exact HC0_1.out); (case side5 => repeat (first | exact (Kd.qai HR0_2.out HB.out) | (with_reducible refine Kd.qal ?_ _) | (with_reducible refine Kd.qam ?_ _) | (with_reducible refine Kd.qap ?_))); (case side6 => exact HC0_2.out); rintro e w42 ⟨rfl, hb⟩; have n0_ := qab.mk (Kd.R_below (by (with_reducible repeat (first | apply Kd.R_alloc | apply Kd.R_drewN | apply Kd.R_drew)); exact HO238.out) hb); have n1_ := qab.mk (qaj (g := gb232) (o := .cells #[.slice A0_0 l0_0.length c0_0, .slice A0_1 l0_1.length c0_1, .slice A0_2 l0_2.length c0_2] 26 (0, 0)) (by (with_reducible repeat (first | refine qan ?_ _ | refine qao ?_ | refine qak ?_ _)); exact BK232.out) hb); have n2_ := qab.mk (qag (by repeat (first | (with_reducible first | exact HB.out | apply qae | apply qac | apply qaf | refine qah ?_ GE232.out) | exact HB.out)) hb); clear HO238; clear BK232; clear HB; have HO238 := n0_; have BK232 := n1_; have HB := n2_; clear n0_ n1_ n2_; (try clear hb); (try clear hb2); (try clear hk); (try clear hi)))
       go_meet
       case rel => exact ⟨_, (true), (by first | rfl | (simp; done) | (simp [*]; done)), H', ⟨by have := HJ3.out; first | omega | exact Nat.le_refl _⟩, ⟨by (with_reducible repeat (first | apply Kd.R_alloc | apply Kd.R_drewN | apply Kd.R_drew)); exact HO238.out⟩, ⟨by (with_reducible repeat (first | refine qan ?_ _ | refine qao ?_ | refine qak ?_ _)); exact BK232.out⟩, ⟨by repeat (first | (with_reducible first | exact HB.out | apply qae | apply qac | apply qaf | refine qah ?_ GE232.out) | exact HB.out)⟩⟩
     ·
      replace c29 := Bool.eq_false_iff.mpr c29
      subst c29
      have H1 : (taliklaw04_PipeOrders.j1 kj3 a1 a2 t236 t239 t240 true l0_0 l0_1 l0_2) = some r := by rw [if_neg (show ¬ (false = true) by decide)] at H; exact H
      clear H
      have H := H1
      clear H1
      have H' := qab.mk H
      clear H
      have hcz43_0 : w27.cell? ⟨gb232, 0, none⟩ = some (.slice A0_0 l0_0.length c0_0) := (qaa BK232.out 0).trans rfl
      have hcz43_1 : w27.cell? ⟨gb232, 1, none⟩ = some (.slice A0_1 l0_1.length c0_1) := (qaa BK232.out 1).trans rfl
      have hcz43_2 : w27.cell? ⟨gb232, 2, none⟩ = some (.slice A0_2 l0_2.length c0_2) := (qaa BK232.out 2).trans rfl
      have hfz43_0 := qad BK232.out 0
      have hfz43_1 := qad BK232.out 1
      have hfz43_2 := qad BK232.out 2
      go_wp2_with (first | ((with_reducible refine qat (f := 19) rfl ?_); refine qbb (some 36) rfl rfl Try.func19 (by kernel_rfl) rfl #[.agg #[.slice A0_0 l0_0.length c0_0, .slice A0_1 l0_1.length c0_1, .slice A0_2 l0_2.length c0_2]] rfl (by (try simp only [List.map_toArray, List.map_cons, List.map_nil]); first | done | rfl | (simp only [List.length_drop, List.length_take]; rfl)) ?_; (with_reducible refine (talikref04_Net.calls _ _ l0_0 _ _ l0_1 _ _ l0_2 false _ ?side1 ?side2 ?side3 ?side4 ?side5 ?side6 A28.out).mono ?_); (case side1 => repeat (first | exact (Kd.qai HR0_0.out HB.out) | (with_reducible refine Kd.qal ?_ _) | (with_reducible refine Kd.qam ?_ _) | (with_reducible refine Kd.qap ?_))); (case side2 => exact HC0_0.out); (case side3 => repeat (first | exact (Kd.qai HR0_1.out HB.out) | (with_reducible refine Kd.qal ?_ _) | (with_reducible refine Kd.qam ?_ _) | (with_reducible refine Kd.qap ?_))); (case side4 => exact HC0_1.out); (case side5 => repeat (first | exact (Kd.qai HR0_2.out HB.out) | (with_reducible refine Kd.qal ?_ _) | (with_reducible refine Kd.qam ?_ _) | (with_reducible refine Kd.qap ?_))); (case side6 => exact HC0_2.out); rintro e w44 ⟨rfl, hb⟩; refine ⟨_, rfl, ?_⟩; have n0_ := qab.mk (Kd.R_below (by (with_reducible repeat (first | apply Kd.R_alloc | apply Kd.R_drewN | apply Kd.R_drew)); exact HO238.out) hb); have n1_ := qab.mk (qaj (g := gb232) (o := .cells #[.slice A0_0 l0_0.length c0_0, .slice A0_1 l0_1.length c0_1, .slice A0_2 l0_2.length c0_2] 26 (0, 0)) (by (with_reducible repeat (first | refine qan ?_ _ | refine qao ?_ | refine qak ?_ _)); exact BK232.out) hb); have n2_ := qab.mk (qag (by repeat (first | (with_reducible first | exact HB.out | apply qae | apply qac | apply qaf | refine qah ?_ GE232.out) | exact HB.out)) hb); clear HO238; clear BK232; clear HB; have HO238 := n0_; have BK232 := n1_; have HB := n2_; clear n0_ n1_ n2_; (try clear hb); (try clear hb2); (try clear hk); (try clear hi)))
      go_meet
      case rel => exact ⟨_, (true), (by first | rfl | (simp; done) | (simp [*]; done)), H', ⟨by have := HJ3.out; first | omega | exact Nat.le_refl _⟩, ⟨by (with_reducible repeat (first | apply Kd.R_alloc | apply Kd.R_drewN | apply Kd.R_drew)); exact HO238.out⟩, ⟨by (with_reducible repeat (first | refine qan ?_ _ | refine qao ?_ | refine qak ?_ _)); exact BK232.out⟩, ⟨by repeat (first | (with_reducible first | exact HB.out | apply qae | apply qac | apply qaf | refine qah ?_ GE232.out) | exact HB.out)⟩⟩
    case rest =>
     clear HC25
     try clear c1
     try clear c2
     try clear p2
     try clear c3
     try clear c5
     try clear c7
     try clear c9
     try clear c16
     try clear c17
     try clear c19
     try clear c21
     try clear c24
     try clear c29
     try clear c31
     try clear hcz10_0
     try clear hcz10_1
     try clear hcz10_2
     try clear hcz12_0
     try clear hcz12_1
     try clear hcz12_2
     try clear hcz14_0
     try clear hcz14_1
     try clear hcz14_2
     try clear hcz15_0
     try clear hcz15_1
     try clear hcz15_2
     try clear hcz17_0
     try clear hcz17_1
     try clear hcz17_2
     try clear hcz19_0
     try clear hcz19_1
     try clear hcz19_2
     try clear hcz26_0
     try clear hcz26_1
     try clear hcz26_2
     try clear hcz33_0
     try clear hcz33_1
     try clear hcz33_2
     try clear hcz35_0
     try clear hcz35_1
     try clear hcz35_2
     try clear hcz37_0
     try clear hcz37_1
     try clear hcz37_2
     try clear hcz39_0
     try clear hcz39_1
     try clear hcz39_2
     try clear hcz41_0
     try clear hcz41_1
     try clear hcz41_2
     try clear hcz43_0
     try clear hcz43_1
     try clear hcz43_2
     try clear hfz10_0
     try clear hfz10_1
     try clear hfz10_2
     try clear hfz12_0
     try clear hfz12_1
     try clear hfz12_2
     try clear hfz14_0
     try clear hfz14_1
     try clear hfz14_2
     try clear hfz15_0
     try clear hfz15_1
     try clear hfz15_2
     try clear hfz17_0
     try clear hfz17_1
     try clear hfz17_2
     try clear hfz19_0
     try clear hfz19_1
     try clear hfz19_2
     try clear hfz26_0
     try clear hfz26_1
     try clear hfz26_2
     try clear hfz33_0
     try clear hfz33_1
     try clear hfz33_2
     try clear hfz35_0
     try clear hfz35_1
     try clear hfz35_2
     try clear hfz37_0
     try clear hfz37_1
     try clear hfz37_2
     try clear hfz39_0
     try clear hfz39_1
     try clear hfz39_2
     try clear hfz41_0
     try clear hfz41_1
     try clear hfz41_2
     try clear hfz43_0
     try clear hfz43_1
     try clear hfz43_2
     try clear p2
     obtain ⟨kq, x49_24, rfl, HA, HJ24, HO_7, BK232, HB⟩ := hcut
     cases kq with
     | zero => exact absurd HA.out (by simp [taliklaw04_PipeOrders.j1])
     | succ kj24 =>
      have H := HA.out
      clear HA
      simp only [taliklaw04_PipeOrders.j1] at H
      by_cases c45 : x49_24 = true
      ·
       subst c45
       have H1 : (if t240 = 2 then (if (t236.length : Int) = 0 then (if t239 = 0 then ((taliklaw04_known.f).bind fun t244 => (some t244)) else (some false)) else (some false)) else (some false)) = some r := by rw [if_pos rfl] at H; exact H
       clear H
       have H := H1
       clear H1
       by_cases c46 : t240 = 2
       ·
        rw [if_pos c46] at H
        have c46b0 : (t240 == 2) = true := beq_iff_eq.mpr c46
        have c46b1 : (t240 != 2) = false := bne_eq_false_iff_eq.mpr c46
        clear c46
        by_cases c47 : (t236.length : Int) = 0
        ·
         rw [if_pos c47] at H
         have c47b0 : ((t236.length : Int) == 0) = true := beq_iff_eq.mpr c47
         have c47b1 : ((t236.length : Int) != 0) = false := bne_eq_false_iff_eq.mpr c47
         clear c47
         by_cases c48 : t239 = 0
         ·
          rw [if_pos c48] at H
          have c48b0 : (t239 == 0) = true := beq_iff_eq.mpr c48
          have c48b1 : (t239 != 0) = false := bne_eq_false_iff_eq.mpr c48
          clear c48
          replace H := Option.bind_eq_some_iff.mp H
          obtain ⟨t244, A490, H⟩ := H
          replace H : (some t244) = some r := H
          have A49 := qab.mk A490
          clear A490
          obtain rfl := Option.some.inj H
          obtain ⟨Ao50, co50, eo50⟩ := Kd.R_slice HO_7.out
          subst eo50
          go_wp2_with (first | (go_at_call 17; (with_reducible refine (taliklaw04_known.calls  t244 _ A49.out).mono ?_); rintro e w51 ⟨rfl, hb⟩; have n0_ := qab.mk (Kd.R_below (by (with_reducible repeat (first | apply Kd.R_alloc | apply Kd.R_drewN | apply Kd.R_drew)); exact HO_7.out) hb); have n1_ := qab.mk (qaj (g := gb232) (o := .cells #[.slice A0_0 l0_0.length c0_0, .slice A0_1 l0_1.length c0_1, .slice A0_2 l0_2.length c0_2] 26 (0, 0)) (by (with_reducible repeat (first | refine qan ?_ _ | refine qao ?_ | refine qak ?_ _)); exact BK232.out) hb); have n2_ := qab.mk (qag (by repeat (first | (with_reducible first | exact HB.out | apply qae | apply qac | apply qaf | refine qah ?_ GE232.out) | exact HB.out)) hb); clear HO_7; clear BK232; clear HB; have HO_7 := n0_; have BK232 := n1_; have HB := n2_; clear n0_ n1_ n2_; (try clear hb); (try clear hb2); (try clear hk); (try clear hi)))
          go_ret
          exact ⟨by first | rfl | (simp [qar, qas] <;> rfl) | (simp [*, qar, qas] <;> rfl), by repeat (first | (with_reducible first | exact HB.out | apply qae | apply qac | apply qaf | refine qah ?_ GE232.out) | exact HB.out)⟩
         ·
          rw [if_neg c48] at H
          have c48b0 : (t239 == 0) = false := beq_eq_false_iff_ne.mpr c48
          have c48b1 : (t239 != 0) = true := bne_iff_ne.mpr c48
          obtain rfl := Option.some.inj H
          obtain ⟨Ao52, co52, eo52⟩ := Kd.R_slice HO_7.out
          subst eo52
          go_wp2
          go_ret
          exact ⟨by first | rfl | (simp [qar, qas] <;> rfl) | (simp [*, qar, qas] <;> rfl), by repeat (first | (with_reducible first | exact HB.out | apply qae | apply qac | apply qaf | refine qah ?_ GE232.out) | exact HB.out)⟩
        ·
         rw [if_neg c47] at H
         have c47b0 : ((t236.length : Int) == 0) = false := beq_eq_false_iff_ne.mpr c47
         have c47b1 : ((t236.length : Int) != 0) = true := bne_iff_ne.mpr c47
         have c47b2 : ¬ (t236 = []) := fun h_ => c47 (by rw [h_]; rfl)
         obtain rfl := Option.some.inj H
         obtain ⟨Ao53, co53, eo53⟩ := Kd.R_slice HO_7.out
         subst eo53
         go_wp2
         go_ret
         exact ⟨by first | rfl | (simp [qar, qas] <;> rfl) | (simp [*, qar, qas] <;> rfl), by repeat (first | (with_reducible first | exact HB.out | apply qae | apply qac | apply qaf | refine qah ?_ GE232.out) | exact HB.out)⟩
       ·
        rw [if_neg c46] at H
        have c46b0 : (t240 == 2) = false := beq_eq_false_iff_ne.mpr c46
        have c46b1 : (t240 != 2) = true := bne_iff_ne.mpr c46
        obtain rfl := Option.some.inj H
        go_wp2
        go_ret
        exact ⟨by first | rfl | (simp [qar, qas] <;> rfl) | (simp [*, qar, qas] <;> rfl), by repeat (first | (with_reducible first | exact HB.out | apply qae | apply qac | apply qaf | refine qah ?_ GE232.out) | exact HB.out)⟩
      ·
       replace c45 := Bool.eq_false_iff.mpr c45
       subst c45
       have H1 : ((talikref04_Order.f kj24 l0_0 l0_1 l0_2 a1 a2).bind fun bt245 => (if bt245.2.2 = true then (if t240 = 0 then ((talikref04_Same.f kj24 t236 bt245.1).bind fun t250 => (if t250 = true then (if t239 = bt245.2.1 then ((taliklaw04_known.f).bind fun t251 => (some t251)) else (some false)) else (some false))) else (some false)) else (if t240 = 5 then (if (t236.length : Int) = 0 then (if t239 = 0 then ((taliklaw04_known.f).bind fun t252 => (some t252)) else (some false)) else (some false)) else (some false)))) = some r := by rw [if_neg (show ¬ (false = true) by decide)] at H; exact H
       clear H
       have H := H1
       clear H1
       replace H := Option.bind_eq_some_iff.mp H
       obtain ⟨⟨t245, t248, t249⟩, A540, H⟩ := H
       replace H : (if t249 = true then (if t240 = 0 then ((talikref04_Same.f kj24 t236 t245).bind fun t250 => (if t250 = true then (if t239 = t248 then ((taliklaw04_known.f).bind fun t251 => (some t251)) else (some false)) else (some false))) else (some false)) else (if t240 = 5 then (if (t236.length : Int) = 0 then (if t239 = 0 then ((taliklaw04_known.f).bind fun t252 => (some t252)) else (some false)) else (some false)) else (some false))) = some r := H
       have A54 := qab.mk A540
       clear A540
       by_cases c55 : t249 = true
       ·
        subst c55
        have H1 : (if t240 = 0 then ((talikref04_Same.f kj24 t236 t245).bind fun t250 => (if t250 = true then (if t239 = t248 then ((taliklaw04_known.f).bind fun t251 => (some t251)) else (some false)) else (some false))) else (some false)) = some r := by rw [if_pos rfl] at H; exact H
        clear H
        have H := H1
        clear H1
        by_cases c56 : t240 = 0
        ·
         rw [if_pos c56] at H
         have c56b0 : (t240 == 0) = true := beq_iff_eq.mpr c56
         have c56b1 : (t240 != 0) = false := bne_eq_false_iff_eq.mpr c56
         clear c56
         replace H := Option.bind_eq_some_iff.mp H
         obtain ⟨t250, A570, H⟩ := H
         replace H : (if t250 = true then (if t239 = t248 then ((taliklaw04_known.f).bind fun t251 => (some t251)) else (some false)) else (some false)) = some r := H
         have A57 := qab.mk A570
         clear A570
         by_cases c58 : t250 = true
         ·
          subst c58
          have H1 : (if t239 = t248 then ((taliklaw04_known.f).bind fun t251 => (some t251)) else (some false)) = some r := by rw [if_pos rfl] at H; exact H
          clear H
          have H := H1
          clear H1
          by_cases c59 : t239 = t248
          ·
           rw [if_pos c59] at H
           have c59b0 : (t239 == t248) = true := beq_iff_eq.mpr c59
           have c59b1 : (t239 != t248) = false := bne_eq_false_iff_eq.mpr c59
           clear c59
           replace H := Option.bind_eq_some_iff.mp H
           obtain ⟨t251, A600, H⟩ := H
           replace H : (some t251) = some r := H
           have A60 := qab.mk A600
           clear A600
           obtain rfl := Option.some.inj H
           have hcz61_0 : wc.cell? ⟨gb232, 0, none⟩ = some (.slice A0_0 l0_0.length c0_0) := (qaa BK232.out 0).trans rfl
           have hcz61_1 : wc.cell? ⟨gb232, 1, none⟩ = some (.slice A0_1 l0_1.length c0_1) := (qaa BK232.out 1).trans rfl
           have hcz61_2 : wc.cell? ⟨gb232, 2, none⟩ = some (.slice A0_2 l0_2.length c0_2) := (qaa BK232.out 2).trans rfl
           have hfz61_0 := qad BK232.out 0
           have hfz61_1 := qad BK232.out 1
           have hfz61_2 := qad BK232.out 2
           go_wp2_with (first | ((with_reducible refine qat (f := 27) rfl ?_); refine qbb (some 68) rfl rfl Try.func27 (by kernel_rfl) rfl #[.agg #[.slice A0_0 l0_0.length c0_0, .slice A0_1 l0_1.length c0_1, .slice A0_2 l0_2.length c0_2], .int .i64 a1, .int .i64 a2] rfl (by (try simp only [List.map_toArray, List.map_cons, List.map_nil]); first | done | rfl | (simp only [List.length_drop, List.length_take]; rfl)) ?_; (with_reducible refine (talikref04_Order.calls kj24 _ _ l0_0 _ _ l0_1 _ _ l0_2 a1 a2 t245 t248 true _ ?side1 ?side2 ?side3 ?side4 ?side5 ?side6 A54.out).mono ?_); (case side1 => repeat (first | exact (Kd.qai HR0_0.out HB.out) | (with_reducible refine Kd.qal ?_ _) | (with_reducible refine Kd.qam ?_ _) | (with_reducible refine Kd.qap ?_))); (case side2 => exact HC0_0.out); (case side3 => repeat (first | exact (Kd.qai HR0_1.out HB.out) | (with_reducible refine Kd.qal ?_ _) | (with_reducible refine Kd.qam ?_ _) | (with_reducible refine Kd.qap ?_))); (case side4 => exact HC0_1.out); (case side5 => repeat (first | exact (Kd.qai HR0_2.out HB.out) | (with_reducible refine Kd.qal ?_ _) | (with_reducible refine Kd.qam ?_ _) | (with_reducible refine Kd.qap ?_))); (case side6 => exact HC0_2.out); rintro e w62 ⟨v246, rfl, ho0, hb⟩; refine ⟨_, rfl, ?_⟩; have n0_ := qab.mk (Kd.R_elder' (by (with_reducible repeat (first | apply Kd.R_alloc | apply Kd.R_drewN | apply Kd.R_drew)); exact HO_7.out) (Kd.R_base ho0) hb); have n1_ := qab.mk (Kd.R_lower (Kd.R_new' ho0 (Kd.R_lt (by (with_reducible repeat (first | apply Kd.R_alloc | apply Kd.R_drewN | apply Kd.R_drew)); exact HO_7.out))) (qaq (by repeat (first | (with_reducible first | exact HB.out | apply qae | apply qac | apply qaf | refine qah ?_ GE232.out) | exact HB.out)))); have n2_ := qab.mk (qaj (g := gb232) (o := .cells #[.slice A0_0 l0_0.length c0_0, .slice A0_1 l0_1.length c0_1, .slice A0_2 l0_2.length c0_2] 26 (0, 0)) (by (with_reducible repeat (first | refine qan ?_ _ | refine qao ?_ | refine qak ?_ _)); exact BK232.out) hb); have n3_ := qab.mk (qag (by repeat (first | (with_reducible first | exact HB.out | apply qae | apply qac | apply qaf | refine qah ?_ GE232.out) | exact HB.out)) hb); clear HO_7; clear BK232; clear HB; have HO_7 := n0_; have HO247 := n1_; have BK232 := n2_; have HB := n3_; clear n0_ n1_ n2_ n3_; (try clear hb); (try clear hb2); (try clear hk); (try clear hi); (try clear ho0); obtain ⟨Ao63, co63, eo63⟩ := Kd.R_slice HO_7.out; subst eo63; obtain ⟨Ao64, co64, eo64⟩ := Kd.R_slice HO247.out; subst eo64) | (go_at_call 28; (with_reducible refine (talikref04_Same.calls kj24 _ _ t236 _ _ t245 true _ ?side1 ?side2 ?side3 ?side4 A57.out).mono ?_); (case side1 => repeat (first | exact (Kd.R_reads' HO_7.out).2.2 | (with_reducible refine Kd.qal ?_ _) | (with_reducible refine Kd.qam ?_ _) | (with_reducible refine Kd.qap ?_))); (case side2 => exact (Kd.R_reads' HO_7.out).2.1); (case side3 => repeat (first | exact (Kd.R_reads' HO247.out).2.2 | (with_reducible refine Kd.qal ?_ _) | (with_reducible refine Kd.qam ?_ _) | (with_reducible refine Kd.qap ?_))); (case side4 => exact (Kd.R_reads' HO247.out).2.1); rintro e w' ⟨rfl, ⟨nd, rfl⟩⟩) | (go_at_call 17; (with_reducible refine (taliklaw04_known.calls  t251 _ A60.out).mono ?_); rintro e w65 ⟨rfl, hb⟩; have n0_ := qab.mk (Kd.R_below (by (with_reducible repeat (first | apply Kd.R_alloc | apply Kd.R_drewN | apply Kd.R_drew)); exact HO_7.out) hb); have n1_ := qab.mk (Kd.R_below (by (with_reducible repeat (first | apply Kd.R_alloc | apply Kd.R_drewN | apply Kd.R_drew)); exact HO247.out) hb); have n2_ := qab.mk (qaj (g := gb232) (o := .cells #[.slice A0_0 l0_0.length c0_0, .slice A0_1 l0_1.length c0_1, .slice A0_2 l0_2.length c0_2] 26 (0, 0)) (by (with_reducible repeat (first | refine qan ?_ _ | refine qao ?_ | refine qak ?_ _)); exact BK232.out) hb); have n3_ := qab.mk (qag (by repeat (first | (with_reducible first | exact HB.out | apply qae | apply qac | apply qaf | refine qah ?_ GE232.out) | exact HB.out)) hb); clear HO_7; clear HO247; clear BK232; clear HB; have HO_7 := n0_; have HO247 := n1_; have BK232 := n2_; have HB := n3_; clear n0_ n1_ n2_ n3_; (try clear hb); (try clear hb2); (try clear hk); (try clear hi)))
           go_ret
           exact ⟨by first | rfl | (simp [qar, qas] <;> rfl) | (simp [*, qar, qas] <;> rfl), by repeat (first | (with_reducible first | exact HB.out | apply qae | apply qac | apply qaf | refine qah ?_ GE232.out) | exact HB.out)⟩
          ·
           rw [if_neg c59] at H
           have c59b0 : (t239 == t248) = false := beq_eq_false_iff_ne.mpr c59
           have c59b1 : (t239 != t248) = true := bne_iff_ne.mpr c59
           obtain rfl := Option.some.inj H
           have hcz66_0 : wc.cell? ⟨gb232, 0, none⟩ = some (.slice A0_0 l0_0.length c0_0) := (qaa BK232.out 0).trans rfl
           have hcz66_1 : wc.cell? ⟨gb232, 1, none⟩ = some (.slice A0_1 l0_1.length c0_1) := (qaa BK232.out 1).trans rfl
           have hcz66_2 : wc.cell? ⟨gb232, 2, none⟩ = some (.slice A0_2 l0_2.length c0_2) := (qaa BK232.out 2).trans rfl
           have hfz66_0 := qad BK232.out 0
           have hfz66_1 := qad BK232.out 1
           have hfz66_2 := qad BK232.out 2
           go_wp2_with (first | ((with_reducible refine qat (f := 27) rfl ?_); refine qbb (some 68) rfl rfl Try.func27 (by kernel_rfl) rfl #[.agg #[.slice A0_0 l0_0.length c0_0, .slice A0_1 l0_1.length c0_1, .slice A0_2 l0_2.length c0_2], .int .i64 a1, .int .i64 a2] rfl (by (try simp only [List.map_toArray, List.map_cons, List.map_nil]); first | done | rfl | (simp only [List.length_drop, List.length_take]; rfl)) ?_; (with_reducible refine (talikref04_Order.calls kj24 _ _ l0_0 _ _ l0_1 _ _ l0_2 a1 a2 t245 t248 true _ ?side1 ?side2 ?side3 ?side4 ?side5 ?side6 A54.out).mono ?_); (case side1 => repeat (first | exact (Kd.qai HR0_0.out HB.out) | (with_reducible refine Kd.qal ?_ _) | (with_reducible refine Kd.qam ?_ _) | (with_reducible refine Kd.qap ?_))); (case side2 => exact HC0_0.out); (case side3 => repeat (first | exact (Kd.qai HR0_1.out HB.out) | (with_reducible refine Kd.qal ?_ _) | (with_reducible refine Kd.qam ?_ _) | (with_reducible refine Kd.qap ?_))); (case side4 => exact HC0_1.out); (case side5 => repeat (first | exact (Kd.qai HR0_2.out HB.out) | (with_reducible refine Kd.qal ?_ _) | (with_reducible refine Kd.qam ?_ _) | (with_reducible refine Kd.qap ?_))); (case side6 => exact HC0_2.out); rintro e w67 ⟨v246, rfl, ho0, hb⟩; refine ⟨_, rfl, ?_⟩; have n0_ := qab.mk (Kd.R_elder' (by (with_reducible repeat (first | apply Kd.R_alloc | apply Kd.R_drewN | apply Kd.R_drew)); exact HO_7.out) (Kd.R_base ho0) hb); have n1_ := qab.mk (Kd.R_lower (Kd.R_new' ho0 (Kd.R_lt (by (with_reducible repeat (first | apply Kd.R_alloc | apply Kd.R_drewN | apply Kd.R_drew)); exact HO_7.out))) (qaq (by repeat (first | (with_reducible first | exact HB.out | apply qae | apply qac | apply qaf | refine qah ?_ GE232.out) | exact HB.out)))); have n2_ := qab.mk (qaj (g := gb232) (o := .cells #[.slice A0_0 l0_0.length c0_0, .slice A0_1 l0_1.length c0_1, .slice A0_2 l0_2.length c0_2] 26 (0, 0)) (by (with_reducible repeat (first | refine qan ?_ _ | refine qao ?_ | refine qak ?_ _)); exact BK232.out) hb); have n3_ := qab.mk (qag (by repeat (first | (with_reducible first | exact HB.out | apply qae | apply qac | apply qaf | refine qah ?_ GE232.out) | exact HB.out)) hb); clear HO_7; clear BK232; clear HB; have HO_7 := n0_; have HO247 := n1_; have BK232 := n2_; have HB := n3_; clear n0_ n1_ n2_ n3_; (try clear hb); (try clear hb2); (try clear hk); (try clear hi); (try clear ho0); obtain ⟨Ao68, co68, eo68⟩ := Kd.R_slice HO_7.out; subst eo68; obtain ⟨Ao69, co69, eo69⟩ := Kd.R_slice HO247.out; subst eo69) | (go_at_call 28; (with_reducible refine (talikref04_Same.calls kj24 _ _ t236 _ _ t245 true _ ?side1 ?side2 ?side3 ?side4 A57.out).mono ?_); (case side1 => repeat (first | exact (Kd.R_reads' HO_7.out).2.2 | (with_reducible refine Kd.qal ?_ _) | (with_reducible refine Kd.qam ?_ _) | (with_reducible refine Kd.qap ?_))); (case side2 => exact (Kd.R_reads' HO_7.out).2.1); (case side3 => repeat (first | exact (Kd.R_reads' HO247.out).2.2 | (with_reducible refine Kd.qal ?_ _) | (with_reducible refine Kd.qam ?_ _) | (with_reducible refine Kd.qap ?_))); (case side4 => exact (Kd.R_reads' HO247.out).2.1); rintro e w' ⟨rfl, ⟨nd, rfl⟩⟩))
           go_ret
           exact ⟨by first | rfl | (simp [qar, qas] <;> rfl) | (simp [*, qar, qas] <;> rfl), by repeat (first | (with_reducible first | exact HB.out | apply qae | apply qac | apply qaf | refine qah ?_ GE232.out) | exact HB.out)⟩
         ·
          replace c58 := Bool.eq_false_iff.mpr c58
          subst c58
          have H1 : (some false) = some r := by rw [if_neg (show ¬ (false = true) by decide)] at H; exact H
          clear H
          have H := H1
          clear H1
          obtain rfl := Option.some.inj H
          have hcz70_0 : wc.cell? ⟨gb232, 0, none⟩ = some (.slice A0_0 l0_0.length c0_0) := (qaa BK232.out 0).trans rfl
          have hcz70_1 : wc.cell? ⟨gb232, 1, none⟩ = some (.slice A0_1 l0_1.length c0_1) := (qaa BK232.out 1).trans rfl
          have hcz70_2 : wc.cell? ⟨gb232, 2, none⟩ = some (.slice A0_2 l0_2.length c0_2) := (qaa BK232.out 2).trans rfl
          have hfz70_0 := qad BK232.out 0
          have hfz70_1 := qad BK232.out 1
          have hfz70_2 := qad BK232.out 2
          go_wp2_with (first | ((with_reducible refine qat (f := 27) rfl ?_); refine qbb (some 68) rfl rfl Try.func27 (by kernel_rfl) rfl #[.agg #[.slice A0_0 l0_0.length c0_0, .slice A0_1 l0_1.length c0_1, .slice A0_2 l0_2.length c0_2], .int .i64 a1, .int .i64 a2] rfl (by (try simp only [List.map_toArray, List.map_cons, List.map_nil]); first | done | rfl | (simp only [List.length_drop, List.length_take]; rfl)) ?_; (with_reducible refine (talikref04_Order.calls kj24 _ _ l0_0 _ _ l0_1 _ _ l0_2 a1 a2 t245 t248 true _ ?side1 ?side2 ?side3 ?side4 ?side5 ?side6 A54.out).mono ?_); (case side1 => repeat (first | exact (Kd.qai HR0_0.out HB.out) | (with_reducible refine Kd.qal ?_ _) | (with_reducible refine Kd.qam ?_ _) | (with_reducible refine Kd.qap ?_))); (case side2 => exact HC0_0.out); (case side3 => repeat (first | exact (Kd.qai HR0_1.out HB.out) | (with_reducible refine Kd.qal ?_ _) | (with_reducible refine Kd.qam ?_ _) | (with_reducible refine Kd.qap ?_))); (case side4 => exact HC0_1.out); (case side5 => repeat (first | exact (Kd.qai HR0_2.out HB.out) | (with_reducible refine Kd.qal ?_ _) | (with_reducible refine Kd.qam ?_ _) | (with_reducible refine Kd.qap ?_))); (case side6 => exact HC0_2.out); rintro e w71 ⟨v246, rfl, ho0, hb⟩; refine ⟨_, rfl, ?_⟩; have n0_ := qab.mk (Kd.R_elder' (by (with_reducible repeat (first | apply Kd.R_alloc | apply Kd.R_drewN | apply Kd.R_drew)); exact HO_7.out) (Kd.R_base ho0) hb); have n1_ := qab.mk (Kd.R_lower (Kd.R_new' ho0 (Kd.R_lt (by (with_reducible repeat (first | apply Kd.R_alloc | apply Kd.R_drewN | apply Kd.R_drew)); exact HO_7.out))) (qaq (by repeat (first | (with_reducible first | exact HB.out | apply qae | apply qac | apply qaf | refine qah ?_ GE232.out) | exact HB.out)))); have n2_ := qab.mk (qaj (g := gb232) (o := .cells #[.slice A0_0 l0_0.length c0_0, .slice A0_1 l0_1.length c0_1, .slice A0_2 l0_2.length c0_2] 26 (0, 0)) (by (with_reducible repeat (first | refine qan ?_ _ | refine qao ?_ | refine qak ?_ _)); exact BK232.out) hb); have n3_ := qab.mk (qag (by repeat (first | (with_reducible first | exact HB.out | apply qae | apply qac | apply qaf | refine qah ?_ GE232.out) | exact HB.out)) hb); clear HO_7; clear BK232; clear HB; have HO_7 := n0_; have HO247 := n1_; have BK232 := n2_; have HB := n3_; clear n0_ n1_ n2_ n3_; (try clear hb); (try clear hb2); (try clear hk); (try clear hi); (try clear ho0); obtain ⟨Ao72, co72, eo72⟩ := Kd.R_slice HO_7.out; subst eo72; obtain ⟨Ao73, co73, eo73⟩ := Kd.R_slice HO247.out; subst eo73) | (go_at_call 28; (with_reducible refine (talikref04_Same.calls kj24 _ _ t236 _ _ t245 false _ ?side1 ?side2 ?side3 ?side4 A57.out).mono ?_); (case side1 => repeat (first | exact (Kd.R_reads' HO_7.out).2.2 | (with_reducible refine Kd.qal ?_ _) | (with_reducible refine Kd.qam ?_ _) | (with_reducible refine Kd.qap ?_))); (case side2 => exact (Kd.R_reads' HO_7.out).2.1); (case side3 => repeat (first | exact (Kd.R_reads' HO247.out).2.2 | (with_reducible refine Kd.qal ?_ _) | (with_reducible refine Kd.qam ?_ _) | (with_reducible refine Kd.qap ?_))); (case side4 => exact (Kd.R_reads' HO247.out).2.1); rintro e w' ⟨rfl, ⟨nd, rfl⟩⟩))
          go_ret
          exact ⟨by first | rfl | (simp [qar, qas] <;> rfl) | (simp [*, qar, qas] <;> rfl), by repeat (first | (with_reducible first | exact HB.out | apply qae | apply qac | apply qaf | refine qah ?_ GE232.out) | exact HB.out)⟩
        ·
         rw [if_neg c56] at H
         have c56b0 : (t240 == 0) = false := beq_eq_false_iff_ne.mpr c56
         have c56b1 : (t240 != 0) = true := bne_iff_ne.mpr c56
         obtain rfl := Option.some.inj H
         have hcz74_0 : wc.cell? ⟨gb232, 0, none⟩ = some (.slice A0_0 l0_0.length c0_0) := (qaa BK232.out 0).trans rfl
         have hcz74_1 : wc.cell? ⟨gb232, 1, none⟩ = some (.slice A0_1 l0_1.length c0_1) := (qaa BK232.out 1).trans rfl
         have hcz74_2 : wc.cell? ⟨gb232, 2, none⟩ = some (.slice A0_2 l0_2.length c0_2) := (qaa BK232.out 2).trans rfl
         have hfz74_0 := qad BK232.out 0
         have hfz74_1 := qad BK232.out 1
         have hfz74_2 := qad BK232.out 2
         go_wp2_with (first | ((with_reducible refine qat (f := 27) rfl ?_); refine qbb (some 68) rfl rfl Try.func27 (by kernel_rfl) rfl #[.agg #[.slice A0_0 l0_0.length c0_0, .slice A0_1 l0_1.length c0_1, .slice A0_2 l0_2.length c0_2], .int .i64 a1, .int .i64 a2] rfl (by (try simp only [List.map_toArray, List.map_cons, List.map_nil]); first | done | rfl | (simp only [List.length_drop, List.length_take]; rfl)) ?_; (with_reducible refine (talikref04_Order.calls kj24 _ _ l0_0 _ _ l0_1 _ _ l0_2 a1 a2 t245 t248 true _ ?side1 ?side2 ?side3 ?side4 ?side5 ?side6 A54.out).mono ?_); (case side1 => repeat (first | exact (Kd.qai HR0_0.out HB.out) | (with_reducible refine Kd.qal ?_ _) | (with_reducible refine Kd.qam ?_ _) | (with_reducible refine Kd.qap ?_))); (case side2 => exact HC0_0.out); (case side3 => repeat (first | exact (Kd.qai HR0_1.out HB.out) | (with_reducible refine Kd.qal ?_ _) | (with_reducible refine Kd.qam ?_ _) | (with_reducible refine Kd.qap ?_))); (case side4 => exact HC0_1.out); (case side5 => repeat (first | exact (Kd.qai HR0_2.out HB.out) | (with_reducible refine Kd.qal ?_ _) | (with_reducible refine Kd.qam ?_ _) | (with_reducible refine Kd.qap ?_))); (case side6 => exact HC0_2.out); rintro e w75 ⟨v246, rfl, ho0, hb⟩; refine ⟨_, rfl, ?_⟩; have n0_ := qab.mk (Kd.R_elder' (by (with_reducible repeat (first | apply Kd.R_alloc | apply Kd.R_drewN | apply Kd.R_drew)); exact HO_7.out) (Kd.R_base ho0) hb); have n1_ := qab.mk (Kd.R_lower (Kd.R_new' ho0 (Kd.R_lt (by (with_reducible repeat (first | apply Kd.R_alloc | apply Kd.R_drewN | apply Kd.R_drew)); exact HO_7.out))) (qaq (by repeat (first | (with_reducible first | exact HB.out | apply qae | apply qac | apply qaf | refine qah ?_ GE232.out) | exact HB.out)))); have n2_ := qab.mk (qaj (g := gb232) (o := .cells #[.slice A0_0 l0_0.length c0_0, .slice A0_1 l0_1.length c0_1, .slice A0_2 l0_2.length c0_2] 26 (0, 0)) (by (with_reducible repeat (first | refine qan ?_ _ | refine qao ?_ | refine qak ?_ _)); exact BK232.out) hb); have n3_ := qab.mk (qag (by repeat (first | (with_reducible first | exact HB.out | apply qae | apply qac | apply qaf | refine qah ?_ GE232.out) | exact HB.out)) hb); clear HO_7; clear BK232; clear HB; have HO_7 := n0_; have HO247 := n1_; have BK232 := n2_; have HB := n3_; clear n0_ n1_ n2_ n3_; (try clear hb); (try clear hb2); (try clear hk); (try clear hi); (try clear ho0)))
         go_ret
         exact ⟨by first | rfl | (simp [qar, qas] <;> rfl) | (simp [*, qar, qas] <;> rfl), by repeat (first | (with_reducible first | exact HB.out | apply qae | apply qac | apply qaf | refine qah ?_ GE232.out) | exact HB.out)⟩
       ·
        replace c55 := Bool.eq_false_iff.mpr c55
        subst c55
        have H1 : (if t240 = 5 then (if (t236.length : Int) = 0 then (if t239 = 0 then ((taliklaw04_known.f).bind fun t252 => (some t252)) else (some false)) else (some false)) else (some false)) = some r := by rw [if_neg (show ¬ (false = true) by decide)] at H; exact H
        clear H
        have H := H1
        clear H1
        by_cases c76 : t240 = 5
        ·
         rw [if_pos c76] at H
         have c76b0 : (t240 == 5) = true := beq_iff_eq.mpr c76
         have c76b1 : (t240 != 5) = false := bne_eq_false_iff_eq.mpr c76
         clear c76
         by_cases c77 : (t236.length : Int) = 0
         ·
          rw [if_pos c77] at H
          have c77b0 : ((t236.length : Int) == 0) = true := beq_iff_eq.mpr c77
          have c77b1 : ((t236.length : Int) != 0) = false := bne_eq_false_iff_eq.mpr c77
          clear c77
          by_cases c78 : t239 = 0
          ·
           rw [if_pos c78] at H
           have c78b0 : (t239 == 0) = true := beq_iff_eq.mpr c78
           have c78b1 : (t239 != 0) = false := bne_eq_false_iff_eq.mpr c78
           clear c78
           replace H := Option.bind_eq_some_iff.mp H
           obtain ⟨t252, A790, H⟩ := H
           replace H : (some t252) = some r := H
           have A79 := qab.mk A790
           clear A790
           obtain rfl := Option.some.inj H
           have hcz80_0 : wc.cell? ⟨gb232, 0, none⟩ = some (.slice A0_0 l0_0.length c0_0) := (qaa BK232.out 0).trans rfl
           have hcz80_1 : wc.cell? ⟨gb232, 1, none⟩ = some (.slice A0_1 l0_1.length c0_1) := (qaa BK232.out 1).trans rfl
           have hcz80_2 : wc.cell? ⟨gb232, 2, none⟩ = some (.slice A0_2 l0_2.length c0_2) := (qaa BK232.out 2).trans rfl
           have hfz80_0 := qad BK232.out 0
           have hfz80_1 := qad BK232.out 1
           have hfz80_2 := qad BK232.out 2
           go_wp2_with (first | ((with_reducible refine qat (f := 27) rfl ?_); refine qbb (some 68) rfl rfl Try.func27 (by kernel_rfl) rfl #[.agg #[.slice A0_0 l0_0.length c0_0, .slice A0_1 l0_1.length c0_1, .slice A0_2 l0_2.length c0_2], .int .i64 a1, .int .i64 a2] rfl (by (try simp only [List.map_toArray, List.map_cons, List.map_nil]); first | done | rfl | (simp only [List.length_drop, List.length_take]; rfl)) ?_; (with_reducible refine (talikref04_Order.calls kj24 _ _ l0_0 _ _ l0_1 _ _ l0_2 a1 a2 t245 t248 false _ ?side1 ?side2 ?side3 ?side4 ?side5 ?side6 A54.out).mono ?_); (case side1 => repeat (first | exact (Kd.qai HR0_0.out HB.out) | (with_reducible refine Kd.qal ?_ _) | (with_reducible refine Kd.qam ?_ _) | (with_reducible refine Kd.qap ?_))); (case side2 => exact HC0_0.out); (case side3 => repeat (first | exact (Kd.qai HR0_1.out HB.out) | (with_reducible refine Kd.qal ?_ _) | (with_reducible refine Kd.qam ?_ _) | (with_reducible refine Kd.qap ?_))); (case side4 => exact HC0_1.out); (case side5 => repeat (first | exact (Kd.qai HR0_2.out HB.out) | (with_reducible refine Kd.qal ?_ _) | (with_reducible refine Kd.qam ?_ _) | (with_reducible refine Kd.qap ?_))); (case side6 => exact HC0_2.out); rintro e w81 ⟨v246, rfl, ho0, hb⟩; refine ⟨_, rfl, ?_⟩; have n0_ := qab.mk (Kd.R_elder' (by (with_reducible repeat (first | apply Kd.R_alloc | apply Kd.R_drewN | apply Kd.R_drew)); exact HO_7.out) (Kd.R_base ho0) hb); have n1_ := qab.mk (Kd.R_lower (Kd.R_new' ho0 (Kd.R_lt (by (with_reducible repeat (first | apply Kd.R_alloc | apply Kd.R_drewN | apply Kd.R_drew)); exact HO_7.out))) (qaq (by repeat (first | (with_reducible first | exact HB.out | apply qae | apply qac | apply qaf | refine qah ?_ GE232.out) | exact HB.out)))); have n2_ := qab.mk (qaj (g := gb232) (o := .cells #[.slice A0_0 l0_0.length c0_0, .slice A0_1 l0_1.length c0_1, .slice A0_2 l0_2.length c0_2] 26 (0, 0)) (by (with_reducible repeat (first | refine qan ?_ _ | refine qao ?_ | refine qak ?_ _)); exact BK232.out) hb); have n3_ := qab.mk (qag (by repeat (first | (with_reducible first | exact HB.out | apply qae | apply qac | apply qaf | refine qah ?_ GE232.out) | exact HB.out)) hb); clear HO_7; clear BK232; clear HB; have HO_7 := n0_; have HO247 := n1_; have BK232 := n2_; have HB := n3_; clear n0_ n1_ n2_ n3_; (try clear hb); (try clear hb2); (try clear hk); (try clear hi); (try clear ho0); obtain ⟨Ao82, co82, eo82⟩ := Kd.R_slice HO_7.out; subst eo82) | (go_at_call 17; (with_reducible refine (taliklaw04_known.calls  t252 _ A79.out).mono ?_); rintro e w83 ⟨rfl, hb⟩; have n0_ := qab.mk (Kd.R_below (by (with_reducible repeat (first | apply Kd.R_alloc | apply Kd.R_drewN | apply Kd.R_drew)); exact HO_7.out) hb); have n1_ := qab.mk (Kd.R_below (by (with_reducible repeat (first | apply Kd.R_alloc | apply Kd.R_drewN | apply Kd.R_drew)); exact HO247.out) hb); have n2_ := qab.mk (qaj (g := gb232) (o := .cells #[.slice A0_0 l0_0.length c0_0, .slice A0_1 l0_1.length c0_1, .slice A0_2 l0_2.length c0_2] 26 (0, 0)) (by (with_reducible repeat (first | refine qan ?_ _ | refine qao ?_ | refine qak ?_ _)); exact BK232.out) hb); have n3_ := qab.mk (qag (by repeat (first | (with_reducible first | exact HB.out | apply qae | apply qac | apply qaf | refine qah ?_ GE232.out) | exact HB.out)) hb); clear HO_7; clear HO247; clear BK232; clear HB; have HO_7 := n0_; have HO247 := n1_; have BK232 := n2_; have HB := n3_; clear n0_ n1_ n2_ n3_; (try clear hb); (try clear hb2); (try clear hk); (try clear hi)))
           go_ret
           exact ⟨by first | rfl | (simp [qar, qas] <;> rfl) | (simp [*, qar, qas] <;> rfl), by repeat (first | (with_reducible first | exact HB.out | apply qae | apply qac | apply qaf | refine qah ?_ GE232.out) | exact HB.out)⟩
          ·
           rw [if_neg c78] at H
           have c78b0 : (t239 == 0) = false := beq_eq_false_iff_ne.mpr c78
           have c78b1 : (t239 != 0) = true := bne_iff_ne.mpr c78
           obtain rfl := Option.some.inj H
           have hcz84_0 : wc.cell? ⟨gb232, 0, none⟩ = some (.slice A0_0 l0_0.length c0_0) := (qaa BK232.out 0).trans rfl
           have hcz84_1 : wc.cell? ⟨gb232, 1, none⟩ = some (.slice A0_1 l0_1.length c0_1) := (qaa BK232.out 1).trans rfl
           have hcz84_2 : wc.cell? ⟨gb232, 2, none⟩ = some (.slice A0_2 l0_2.length c0_2) := (qaa BK232.out 2).trans rfl
           have hfz84_0 := qad BK232.out 0
           have hfz84_1 := qad BK232.out 1
           have hfz84_2 := qad BK232.out 2
           go_wp2_with (first | ((with_reducible refine qat (f := 27) rfl ?_); refine qbb (some 68) rfl rfl Try.func27 (by kernel_rfl) rfl #[.agg #[.slice A0_0 l0_0.length c0_0, .slice A0_1 l0_1.length c0_1, .slice A0_2 l0_2.length c0_2], .int .i64 a1, .int .i64 a2] rfl (by (try simp only [List.map_toArray, List.map_cons, List.map_nil]); first | done | rfl | (simp only [List.length_drop, List.length_take]; rfl)) ?_; (with_reducible refine (talikref04_Order.calls kj24 _ _ l0_0 _ _ l0_1 _ _ l0_2 a1 a2 t245 t248 false _ ?side1 ?side2 ?side3 ?side4 ?side5 ?side6 A54.out).mono ?_); (case side1 => repeat (first | exact (Kd.qai HR0_0.out HB.out) | (with_reducible refine Kd.qal ?_ _) | (with_reducible refine Kd.qam ?_ _) | (with_reducible refine Kd.qap ?_))); (case side2 => exact HC0_0.out); (case side3 => repeat (first | exact (Kd.qai HR0_1.out HB.out) | (with_reducible refine Kd.qal ?_ _) | (with_reducible refine Kd.qam ?_ _) | (with_reducible refine Kd.qap ?_))); (case side4 => exact HC0_1.out); (case side5 => repeat (first | exact (Kd.qai HR0_2.out HB.out) | (with_reducible refine Kd.qal ?_ _) | (with_reducible refine Kd.qam ?_ _) | (with_reducible refine Kd.qap ?_))); (case side6 => exact HC0_2.out); rintro e w85 ⟨v246, rfl, ho0, hb⟩; refine ⟨_, rfl, ?_⟩; have n0_ := qab.mk (Kd.R_elder' (by (with_reducible repeat (first | apply Kd.R_alloc | apply Kd.R_drewN | apply Kd.R_drew)); exact HO_7.out) (Kd.R_base ho0) hb); have n1_ := qab.mk (Kd.R_lower (Kd.R_new' ho0 (Kd.R_lt (by (with_reducible repeat (first | apply Kd.R_alloc | apply Kd.R_drewN | apply Kd.R_drew)); exact HO_7.out))) (qaq (by repeat (first | (with_reducible first | exact HB.out | apply qae | apply qac | apply qaf | refine qah ?_ GE232.out) | exact HB.out)))); have n2_ := qab.mk (qaj (g := gb232) (o := .cells #[.slice A0_0 l0_0.length c0_0, .slice A0_1 l0_1.length c0_1, .slice A0_2 l0_2.length c0_2] 26 (0, 0)) (by (with_reducible repeat (first | refine qan ?_ _ | refine qao ?_ | refine qak ?_ _)); exact BK232.out) hb); have n3_ := qab.mk (qag (by repeat (first | (with_reducible first | exact HB.out | apply qae | apply qac | apply qaf | refine qah ?_ GE232.out) | exact HB.out)) hb); clear HO_7; clear BK232; clear HB; have HO_7 := n0_; have HO247 := n1_; have BK232 := n2_; have HB := n3_; clear n0_ n1_ n2_ n3_; (try clear hb); (try clear hb2); (try clear hk); (try clear hi); (try clear ho0); obtain ⟨Ao86, co86, eo86⟩ := Kd.R_slice HO_7.out; subst eo86))
           go_ret
           exact ⟨by first | rfl | (simp [qar, qas] <;> rfl) | (simp [*, qar, qas] <;> rfl), by repeat (first | (with_reducible first | exact HB.out | apply qae | apply qac | apply qaf | refine qah ?_ GE232.out) | exact HB.out)⟩
         ·
          rw [if_neg c77] at H
          have c77b0 : ((t236.length : Int) == 0) = false := beq_eq_false_iff_ne.mpr c77
          have c77b1 : ((t236.length : Int) != 0) = true := bne_iff_ne.mpr c77
          have c77b2 : ¬ (t236 = []) := fun h_ => c77 (by rw [h_]; rfl)
          obtain rfl := Option.some.inj H
          have hcz87_0 : wc.cell? ⟨gb232, 0, none⟩ = some (.slice A0_0 l0_0.length c0_0) := (qaa BK232.out 0).trans rfl
          have hcz87_1 : wc.cell? ⟨gb232, 1, none⟩ = some (.slice A0_1 l0_1.length c0_1) := (qaa BK232.out 1).trans rfl
          have hcz87_2 : wc.cell? ⟨gb232, 2, none⟩ = some (.slice A0_2 l0_2.length c0_2) := (qaa BK232.out 2).trans rfl
          have hfz87_0 := qad BK232.out 0
          have hfz87_1 := qad BK232.out 1
          have hfz87_2 := qad BK232.out 2
          go_wp2_with (first | ((with_reducible refine qat (f := 27) rfl ?_); refine qbb (some 68) rfl rfl Try.func27 (by kernel_rfl) rfl #[.agg #[.slice A0_0 l0_0.length c0_0, .slice A0_1 l0_1.length c0_1, .slice A0_2 l0_2.length c0_2], .int .i64 a1, .int .i64 a2] rfl (by (try simp only [List.map_toArray, List.map_cons, List.map_nil]); first | done | rfl | (simp only [List.length_drop, List.length_take]; rfl)) ?_; (with_reducible refine (talikref04_Order.calls kj24 _ _ l0_0 _ _ l0_1 _ _ l0_2 a1 a2 t245 t248 false _ ?side1 ?side2 ?side3 ?side4 ?side5 ?side6 A54.out).mono ?_); (case side1 => repeat (first | exact (Kd.qai HR0_0.out HB.out) | (with_reducible refine Kd.qal ?_ _) | (with_reducible refine Kd.qam ?_ _) | (with_reducible refine Kd.qap ?_))); (case side2 => exact HC0_0.out); (case side3 => repeat (first | exact (Kd.qai HR0_1.out HB.out) | (with_reducible refine Kd.qal ?_ _) | (with_reducible refine Kd.qam ?_ _) | (with_reducible refine Kd.qap ?_))); (case side4 => exact HC0_1.out); (case side5 => repeat (first | exact (Kd.qai HR0_2.out HB.out) | (with_reducible refine Kd.qal ?_ _) | (with_reducible refine Kd.qam ?_ _) | (with_reducible refine Kd.qap ?_))); (case side6 => exact HC0_2.out); rintro e w88 ⟨v246, rfl, ho0, hb⟩; refine ⟨_, rfl, ?_⟩; have n0_ := qab.mk (Kd.R_elder' (by (with_reducible repeat (first | apply Kd.R_alloc | apply Kd.R_drewN | apply Kd.R_drew)); exact HO_7.out) (Kd.R_base ho0) hb); have n1_ := qab.mk (Kd.R_lower (Kd.R_new' ho0 (Kd.R_lt (by (with_reducible repeat (first | apply Kd.R_alloc | apply Kd.R_drewN | apply Kd.R_drew)); exact HO_7.out))) (qaq (by repeat (first | (with_reducible first | exact HB.out | apply qae | apply qac | apply qaf | refine qah ?_ GE232.out) | exact HB.out)))); have n2_ := qab.mk (qaj (g := gb232) (o := .cells #[.slice A0_0 l0_0.length c0_0, .slice A0_1 l0_1.length c0_1, .slice A0_2 l0_2.length c0_2] 26 (0, 0)) (by (with_reducible repeat (first | refine qan ?_ _ | refine qao ?_ | refine qak ?_ _)); exact BK232.out) hb); have n3_ := qab.mk (qag (by repeat (first | (with_reducible first | exact HB.out | apply qae | apply qac | apply qaf | refine qah ?_ GE232.out) | exact HB.out)) hb); clear HO_7; clear BK232; clear HB; have HO_7 := n0_; have HO247 := n1_; have BK232 := n2_; have HB := n3_; clear n0_ n1_ n2_ n3_; (try clear hb); (try clear hb2); (try clear hk); (try clear hi); (try clear ho0); obtain ⟨Ao89, co89, eo89⟩ := Kd.R_slice HO_7.out; subst eo89))
          go_ret
          exact ⟨by first | rfl | (simp [qar, qas] <;> rfl) | (simp [*, qar, qas] <;> rfl), by repeat (first | (with_reducible first | exact HB.out | apply qae | apply qac | apply qaf | refine qah ?_ GE232.out) | exact HB.out)⟩
        ·
         rw [if_neg c76] at H
         have c76b0 : (t240 == 5) = false := beq_eq_false_iff_ne.mpr c76
         have c76b1 : (t240 != 5) = true := bne_iff_ne.mpr c76
         obtain rfl := Option.some.inj H
         have hcz90_0 : wc.cell? ⟨gb232, 0, none⟩ = some (.slice A0_0 l0_0.length c0_0) := (qaa BK232.out 0).trans rfl
         have hcz90_1 : wc.cell? ⟨gb232, 1, none⟩ = some (.slice A0_1 l0_1.length c0_1) := (qaa BK232.out 1).trans rfl
         have hcz90_2 : wc.cell? ⟨gb232, 2, none⟩ = some (.slice A0_2 l0_2.length c0_2) := (qaa BK232.out 2).trans rfl
         have hfz90_0 := qad BK232.out 0
         have hfz90_1 := qad BK232.out 1
         have hfz90_2 := qad BK232.out 2
         go_wp2_with (first | ((with_reducible refine qat (f := 27) rfl ?_); refine qbb (some 68) rfl rfl Try.func27 (by kernel_rfl) rfl #[.agg #[.slice A0_0 l0_0.length c0_0, .slice A0_1 l0_1.length c0_1, .slice A0_2 l0_2.length c0_2], .int .i64 a1, .int .i64 a2] rfl (by (try simp only [List.map_toArray, List.map_cons, List.map_nil]); first | done | rfl | (simp only [List.length_drop, List.length_take]; rfl)) ?_; (with_reducible refine (talikref04_Order.calls kj24 _ _ l0_0 _ _ l0_1 _ _ l0_2 a1 a2 t245 t248 false _ ?side1 ?side2 ?side3 ?side4 ?side5 ?side6 A54.out).mono ?_); (case side1 => repeat (first | exact (Kd.qai HR0_0.out HB.out) | (with_reducible refine Kd.qal ?_ _) | (with_reducible refine Kd.qam ?_ _) | (with_reducible refine Kd.qap ?_))); (case side2 => exact HC0_0.out); (case side3 => repeat (first | exact (Kd.qai HR0_1.out HB.out) | (with_reducible refine Kd.qal ?_ _) | (with_reducible refine Kd.qam ?_ _) | (with_reducible refine Kd.qap ?_))); (case side4 => exact HC0_1.out); (case side5 => repeat (first | exact (Kd.qai HR0_2.out HB.out) | (with_reducible refine Kd.qal ?_ _) | (with_reducible refine Kd.qam ?_ _) | (with_reducible refine Kd.qap ?_))); (case side6 => exact HC0_2.out); rintro e w91 ⟨v246, rfl, ho0, hb⟩; refine ⟨_, rfl, ?_⟩; have n0_ := qab.mk (Kd.R_elder' (by (with_reducible repeat (first | apply Kd.R_alloc | apply Kd.R_drewN | apply Kd.R_drew)); exact HO_7.out) (Kd.R_base ho0) hb); have n1_ := qab.mk (Kd.R_lower (Kd.R_new' ho0 (Kd.R_lt (by (with_reducible repeat (first | apply Kd.R_alloc | apply Kd.R_drewN | apply Kd.R_drew)); exact HO_7.out))) (qaq (by repeat (first | (with_reducible first | exact HB.out | apply qae | apply qac | apply qaf | refine qah ?_ GE232.out) | exact HB.out)))); have n2_ := qab.mk (qaj (g := gb232) (o := .cells #[.slice A0_0 l0_0.length c0_0, .slice A0_1 l0_1.length c0_1, .slice A0_2 l0_2.length c0_2] 26 (0, 0)) (by (with_reducible repeat (first | refine qan ?_ _ | refine qao ?_ | refine qak ?_ _)); exact BK232.out) hb); have n3_ := qab.mk (qag (by repeat (first | (with_reducible first | exact HB.out | apply qae | apply qac | apply qaf | refine qah ?_ GE232.out) | exact HB.out)) hb); clear HO_7; clear BK232; clear HB; have HO_7 := n0_; have HO247 := n1_; have BK232 := n2_; have HB := n3_; clear n0_ n1_ n2_ n3_; (try clear hb); (try clear hb2); (try clear hk); (try clear hi); (try clear ho0)))
         go_ret
         exact ⟨by first | rfl | (simp [qar, qas] <;> rfl) | (simp [*, qar, qas] <;> rfl), by repeat (first | (with_reducible first | exact HB.out | apply qae | apply qac | apply qaf | refine qah ?_ GE232.out) | exact HB.out)⟩
end Go.Proofs.Ytipphcjgdebecaa.PA
