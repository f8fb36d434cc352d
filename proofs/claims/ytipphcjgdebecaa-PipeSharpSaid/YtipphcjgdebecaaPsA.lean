/- What functions of the program answer. No condition. -/
import Derived.Test.YtipphcjgdebecaaSC
import Derived.Test.YtipphcjgdebecaaSF
import Derived.Test.YtipphcjgdebecaaSG
import Derived.Test.YtipphcjgdebecaaSM
import Derived.RangeFuncNested
import Derived.RangeFuncBound
import Derived.RangeFuncCalls
import Derived.RangeFuncLeaves
import Derived.RangeFuncBox
import Derived.Shelf.Abstract
import Derived.Shelf.RegionOpen
import Derived.OwnWalkIn
import Derived.TacticsInMore
import Derived.LoopNIn
import Derived.LoopIn
import Derived.Recover
import Derived.Defers
import Derived.WalkLawsBesides
import Derived.WalkSmall
import Derived.Test.YtipphcjgdebecaaSE
import Derived.Test.YtipphcjgdebecaaSL
import Derived.Test.YtipphcjgdebecaaSH
import Derived.Test.YtipphcjgdebecaaSJ
set_option linter.all false
set_option maxRecDepth 100000
set_option maxHeartbeats 8000000
namespace Go.Proofs.Ytipphcjgdebecaa.PA
open Go.RowKit Go.Proofs.YtipphcjgdebecaaW.PrintWords Go.Proofs.YtipphcjgdebecaaW.PrintLast Go.Proofs.YtipphcjgdebecaaW.PrintMore
attribute [local go_sem] qaw qay max_two min_two qas qat qax qaz
def talikref04_Span.f (a0_0 : Int) (a0_1 : Int) (a1 : Int) (a2 : Int) : Option (Bool) := if a0_0 ≥ a1 then (if a0_0 ≤ a0_1 then (some (decide (a0_1 ≤ a2))) else (some false)) else (some false)
theorem talikref04_Span.calls (a0_0 : Int) (a0_1 : Int) (a1 : Int) (a2 : Int) (r : Bool) (w : World) (h : talikref04_Span.f a0_0 a0_1 a1 a2 = some r) :
  Calls Try.prog 59 #[.agg #[.int .i64 a0_0, .int .i64 a0_1], .int .i64 a1, .int .i64 a2] w fun e w' => e = .returned (.bool r) ∧ Below w.heap.size w w' := by
 have hu37 := Try.underlying37
 have HB := qab.mk (Below.refl w.heap.size w)
 have H : (if a0_0 ≥ a1 then (if a0_0 ≤ a0_1 then (some (decide (a0_1 ≤ a2))) else (some false)) else (some false)) = some r := h
 clear h
 by_cases c4 : a0_0 ≥ a1
 ·
  rw [if_pos c4] at H
  have c4b0 : decide (a1 ≤ a0_0) = true := decide_eq_true c4
  clear c4
  by_cases c5 : a0_0 ≤ a0_1
  ·
   rw [if_pos c5] at H
   have c5b0 : decide (a0_0 ≤ a0_1) = true := decide_eq_true c5
   clear c5
   obtain rfl := Option.some.inj H
   go_enter Try.func59, Try.ntmps59
   go_wp2_with (first | ((with_reducible refine qan (N := 3) rfl ?_); refine qam ?hg (N := 3) ?hd (cs := #[.int .i64 a0_0, .int .i64 a0_1]) (t := 37) ?hr ?_; (case hd => rfl); (case hg => rfl); (case hr => first | (go_simp; done) | (go_simp; rfl)); intro gb151 hg w6 hbox hb; have n0_ := qab.mk (qad (by repeat (first | (with_reducible first | exact HB.out | apply qaf | apply qae | apply qah) | exact HB.out)) hb); have n1_ := qab.mk (hbox); have n2_ := qab.mk ((by rw [hg]; exact (qap (by repeat (first | (with_reducible first | exact HB.out | apply qaf | apply qae | apply qah) | exact HB.out))) : w.heap.size ≤ gb151)); have n3_ := qab.mk ((by rw [hg]; exact (qap (by repeat (first | (with_reducible first | exact HB.out | apply qaf | apply qae | apply qah) | exact HB.out))) : w.heap.size ≤ gb151)); clear HB; have HB := n0_; have BK151 := n1_; have GW151 := n2_; have GE151 := n3_; clear n0_ n1_ n2_ n3_; clear hb hbox hg; have hcz7_0 : w6.cell? ⟨gb151, 0, none⟩ = some (.int .i64 a0_0) := (qaa BK151.out 0).trans rfl; have hcz7_1 : w6.cell? ⟨gb151, 1, none⟩ = some (.int .i64 a0_1) := (qaa BK151.out 1).trans rfl; have hfz7_0 := qac BK151.out 0; have hfz7_1 := qac BK151.out 1))
   go_ret
   exact ⟨by first | rfl | (simp [qau, qav] <;> rfl) | (simp [*, qau, qav] <;> rfl), by repeat (first | (with_reducible first | exact HB.out | apply qaf | apply qae | apply qah | refine qai ?_ GE151.out) | exact HB.out)⟩
  ·
   rw [if_neg c5] at H
   have c5b0 : decide (a0_0 ≤ a0_1) = false := decide_eq_false c5
   clear c5
   obtain rfl := Option.some.inj H
   go_enter Try.func59, Try.ntmps59
   go_wp2_with (first | ((with_reducible refine qan (N := 3) rfl ?_); refine qam ?hg (N := 3) ?hd (cs := #[.int .i64 a0_0, .int .i64 a0_1]) (t := 37) ?hr ?_; (case hd => rfl); (case hg => rfl); (case hr => first | (go_simp; done) | (go_simp; rfl)); intro gb151 hg w8 hbox hb; have n0_ := qab.mk (qad (by repeat (first | (with_reducible first | exact HB.out | apply qaf | apply qae | apply qah) | exact HB.out)) hb); have n1_ := qab.mk (hbox); have n2_ := qab.mk ((by rw [hg]; exact (qap (by repeat (first | (with_reducible first | exact HB.out | apply qaf | apply qae | apply qah) | exact HB.out))) : w.heap.size ≤ gb151)); have n3_ := qab.mk ((by rw [hg]; exact (qap (by repeat (first | (with_reducible first | exact HB.out | apply qaf | apply qae | apply qah) | exact HB.out))) : w.heap.size ≤ gb151)); clear HB; have HB := n0_; have BK151 := n1_; have GW151 := n2_; have GE151 := n3_; clear n0_ n1_ n2_ n3_; clear hb hbox hg; have hcz9_0 : w8.cell? ⟨gb151, 0, none⟩ = some (.int .i64 a0_0) := (qaa BK151.out 0).trans rfl; have hcz9_1 : w8.cell? ⟨gb151, 1, none⟩ = some (.int .i64 a0_1) := (qaa BK151.out 1).trans rfl; have hfz9_0 := qac BK151.out 0; have hfz9_1 := qac BK151.out 1))
   go_ret
   exact ⟨by first | rfl | (simp [qau, qav] <;> rfl) | (simp [*, qau, qav] <;> rfl), by repeat (first | (with_reducible first | exact HB.out | apply qaf | apply qae | apply qah | refine qai ?_ GE151.out) | exact HB.out)⟩
 ·
  rw [if_neg c4] at H
  have c4b0 : decide (a1 ≤ a0_0) = false := decide_eq_false c4
  clear c4
  obtain rfl := Option.some.inj H
  go_enter Try.func59, Try.ntmps59
  go_wp2_with (first | ((with_reducible refine qan (N := 3) rfl ?_); refine qam ?hg (N := 3) ?hd (cs := #[.int .i64 a0_0, .int .i64 a0_1]) (t := 37) ?hr ?_; (case hd => rfl); (case hg => rfl); (case hr => first | (go_simp; done) | (go_simp; rfl)); intro gb151 hg w10 hbox hb; have n0_ := qab.mk (qad (by repeat (first | (with_reducible first | exact HB.out | apply qaf | apply qae | apply qah) | exact HB.out)) hb); have n1_ := qab.mk (hbox); have n2_ := qab.mk ((by rw [hg]; exact (qap (by repeat (first | (with_reducible first | exact HB.out | apply qaf | apply qae | apply qah) | exact HB.out))) : w.heap.size ≤ gb151)); have n3_ := qab.mk ((by rw [hg]; exact (qap (by repeat (first | (with_reducible first | exact HB.out | apply qaf | apply qae | apply qah) | exact HB.out))) : w.heap.size ≤ gb151)); clear HB; have HB := n0_; have BK151 := n1_; have GW151 := n2_; have GE151 := n3_; clear n0_ n1_ n2_ n3_; clear hb hbox hg; have hcz11_0 : w10.cell? ⟨gb151, 0, none⟩ = some (.int .i64 a0_0) := (qaa BK151.out 0).trans rfl; have hcz11_1 : w10.cell? ⟨gb151, 1, none⟩ = some (.int .i64 a0_1) := (qaa BK151.out 1).trans rfl; have hfz11_0 := qac BK151.out 0; have hfz11_1 := qac BK151.out 1))
  go_ret
  exact ⟨by first | rfl | (simp [qau, qav] <;> rfl) | (simp [*, qau, qav] <;> rfl), by repeat (first | (with_reducible first | exact HB.out | apply qaf | apply qae | apply qah | refine qai ?_ GE151.out) | exact HB.out)⟩
def talikref04_in.f (a0 : Int) (a1 : Int) (a2 : Int) : Option (Bool) := if a0 ≥ a1 then (some (decide (a0 ≤ a2))) else (some false)
theorem talikref04_in.calls (a0 : Int) (a1 : Int) (a2 : Int) (r : Bool) (w : World) (h : talikref04_in.f a0 a1 a2 = some r) :
  Calls Try.prog 60 #[.int .i64 a0, .int .i64 a1, .int .i64 a2] w fun e w' => e = .returned (.bool r) ∧ Drawn0 w w' := by
 have H : (if a0 ≥ a1 then (some (decide (a0 ≤ a2))) else (some false)) = some r := h
 clear h
 by_cases c4 : a0 ≥ a1
 ·
  rw [if_pos c4] at H
  have c4b0 : decide (a1 ≤ a0) = true := decide_eq_true c4
  clear c4
  obtain rfl := Option.some.inj H
  go_enter Try.func60, Try.ntmps60
  go_wp2
  go_ret
  exact ⟨by first | rfl | (simp; done) | (simp [*]; done), by repeat (first | exact Drawn0.refl _ | apply Drawn0.step)⟩
 ·
  rw [if_neg c4] at H
  have c4b0 : decide (a1 ≤ a0) = false := decide_eq_false c4
  clear c4
  obtain rfl := Option.some.inj H
  go_enter Try.func60, Try.ntmps60
  go_wp2
  go_ret
  exact ⟨by first | rfl | (simp; done) | (simp [*]; done), by repeat (first | exact Drawn0.refl _ | apply Drawn0.step)⟩
theorem talikref04_Span_tot (a b lo hi : Int) : ∃ r, talikref04_Span.f a b lo hi = some r := by
 unfold talikref04_Span.f
 split
 ·
  split
  ·
   exact ⟨_, rfl⟩
  ·
   exact ⟨_, rfl⟩
 ·
  exact ⟨_, rfl⟩
theorem talikref04_in_tot (a lo hi : Int) : ∃ r, talikref04_in.f a lo hi = some r := by
 unfold talikref04_in.f
 split
 ·
  exact ⟨_, rfl⟩
 ·
  exact ⟨_, rfl⟩
theorem talikref04_Span_to {f : Nat} {args : Array Value} {W : World} {r : Bool} (h : Calls Try.prog f args W fun e w' => e = .returned (.bool r) ∧ Below W.heap.size W w') : Calls Try.prog f args W fun e w' => e = .returned (.bool r) ∧ Below W.heap.size W w' := h
theorem talikref04_in_to {f : Nat} {args : Array Value} {W : World} {r : Bool} (h : Calls Try.prog f args W fun e w' => e = .returned (.bool r) ∧ Drawn0 W w') : Calls Try.prog f args W fun e w' => e = .returned (.bool r) ∧ Below W.heap.size W w' := h.mono fun e w' ⟨h1, h2⟩ => ⟨h1, h2.below⟩
def talikref04_Loop.f (a0_0 : Int) (a0_1 : Int) (a0_2 : Int) (a0_3 : Int) (a0_4 : Int) (a0_5 : Int) (a0_6 : Int) (a0_7 : Int) (a0_8 : Int) (a0_9 : Int) (a0_10 : Int) (a0_11 : Int) : Option (Bool) := (talikref04_Span.f a0_0 a0_1 1 1000).bind fun t177 => (if t177 = true then ((talikref04_Span.f a0_2 a0_3 0 1000).bind fun t178 => (if t178 = true then ((talikref04_Span.f a0_4 a0_5 0 1000).bind fun t179 => (if t179 = true then (if a0_4 ≤ a0_2 then (if a0_5 ≤ a0_3 then ((talikref04_in.f a0_6 0 1000000).bind fun t180 => (if t180 = true then ((talikref04_in.f a0_7 1 10000).bind fun t181 => (if t181 = true then ((talikref04_in.f a0_8 0 1000).bind fun t182 => (if t182 = true then ((talikref04_in.f a0_9 0 1000).bind fun t183 => (if t183 = true then ((talikref04_Span.f a0_10 a0_11 0 72).bind fun t184 => (some t184)) else (some false))) else (some false))) else (some false))) else (some false))) else (some false)) else (some false)) else (some false))) else (some false))) else (some false))
theorem talikref04_Loop.calls (a0_0 : Int) (a0_1 : Int) (a0_2 : Int) (a0_3 : Int) (a0_4 : Int) (a0_5 : Int) (a0_6 : Int) (a0_7 : Int) (a0_8 : Int) (a0_9 : Int) (a0_10 : Int) (a0_11 : Int) (r : Bool) (w : World) (h : talikref04_Loop.f a0_0 a0_1 a0_2 a0_3 a0_4 a0_5 a0_6 a0_7 a0_8 a0_9 a0_10 a0_11 = some r) :
  Calls Try.prog 58 #[.agg #[.int .i64 a0_0, .int .i64 a0_1, .int .i64 a0_2, .int .i64 a0_3, .int .i64 a0_4, .int .i64 a0_5, .int .i64 a0_6, .int .i64 a0_7, .int .i64 a0_8, .int .i64 a0_9, .int .i64 a0_10, .int .i64 a0_11]] w fun e w' => e = .returned (.bool r) ∧ Below w.heap.size w w' := by
 obtain ⟨b1, e_b1⟩ := talikref04_Span_tot a0_0 a0_1 1 1000
 obtain ⟨b2, e_b2⟩ := talikref04_Span_tot a0_2 a0_3 0 1000
 obtain ⟨b3, e_b3⟩ := talikref04_Span_tot a0_4 a0_5 0 1000
 obtain ⟨b10, e_b10⟩ := talikref04_Span_tot a0_10 a0_11 0 72
 obtain ⟨b6, e_b6⟩ := talikref04_in_tot a0_6 0 1000000
 obtain ⟨b7, e_b7⟩ := talikref04_in_tot a0_7 1 10000
 obtain ⟨b8, e_b8⟩ := talikref04_in_tot a0_8 0 1000
 obtain ⟨b9, e_b9⟩ := talikref04_in_tot a0_9 0 1000
 unfold talikref04_Loop.f at h
 rw [e_b1, e_b2, e_b3, e_b6, e_b7, e_b8, e_b9, e_b10] at h
 simp only [Option.bind_some] at h
 have H_b1 : qab (∀ W, Calls Try.prog 59 #[.agg #[.int .i64 a0_0, .int .i64 a0_1], .int .i64 1, .int .i64 1000] W fun e w' => e = .returned (.bool b1) ∧ Below W.heap.size W w') := ⟨fun W => talikref04_Span_to (talikref04_Span.calls _ _ _ _ _ W e_b1)⟩
 have H_b2 : qab (∀ W, Calls Try.prog 59 #[.agg #[.int .i64 a0_2, .int .i64 a0_3], .int .i64 0, .int .i64 1000] W fun e w' => e = .returned (.bool b2) ∧ Below W.heap.size W w') := ⟨fun W => talikref04_Span_to (talikref04_Span.calls _ _ _ _ _ W e_b2)⟩
 have H_b3 : qab (∀ W, Calls Try.prog 59 #[.agg #[.int .i64 a0_4, .int .i64 a0_5], .int .i64 0, .int .i64 1000] W fun e w' => e = .returned (.bool b3) ∧ Below W.heap.size W w') := ⟨fun W => talikref04_Span_to (talikref04_Span.calls _ _ _ _ _ W e_b3)⟩
 have H_b10 : qab (∀ W, Calls Try.prog 59 #[.agg #[.int .i64 a0_10, .int .i64 a0_11], .int .i64 0, .int .i64 72] W fun e w' => e = .returned (.bool b10) ∧ Below W.heap.size W w') := ⟨fun W => talikref04_Span_to (talikref04_Span.calls _ _ _ _ _ W e_b10)⟩
 have H_b6 : qab (∀ W, Calls Try.prog 60 #[.int .i64 a0_6, .int .i64 0, .int .i64 1000000] W fun e w' => e = .returned (.bool b6) ∧ Below W.heap.size W w') := ⟨fun W => talikref04_in_to (talikref04_in.calls _ _ _ _ W e_b6)⟩
 have H_b7 : qab (∀ W, Calls Try.prog 60 #[.int .i64 a0_7, .int .i64 1, .int .i64 10000] W fun e w' => e = .returned (.bool b7) ∧ Below W.heap.size W w') := ⟨fun W => talikref04_in_to (talikref04_in.calls _ _ _ _ W e_b7)⟩
 have H_b8 : qab (∀ W, Calls Try.prog 60 #[.int .i64 a0_8, .int .i64 0, .int .i64 1000] W fun e w' => e = .returned (.bool b8) ∧ Below W.heap.size W w') := ⟨fun W => talikref04_in_to (talikref04_in.calls _ _ _ _ W e_b8)⟩
 have H_b9 : qab (∀ W, Calls Try.prog 60 #[.int .i64 a0_9, .int .i64 0, .int .i64 1000] W fun e w' => e = .returned (.bool b9) ∧ Below W.heap.size W w') := ⟨fun W => talikref04_in_to (talikref04_in.calls _ _ _ _ W e_b9)⟩
 clear e_b1 e_b2 e_b3 e_b6 e_b7 e_b8 e_b9 e_b10
 have hu39 := Try.underlying39
 have hu37 := Try.underlying37
 have HB := qab.mk (Below.refl w.heap.size w)
 cases b1; rotate_left; cases b2; rotate_left; cases b3; rotate_left; by_cases c4 : a0_4 ≤ a0_2; by_cases c5 : a0_5 ≤ a0_3; cases b6; rotate_left; cases b7; rotate_left; cases b8; rotate_left; cases b9; rotate_left; cases b10
 all_goals
  have hr : r = _ := Option.some.inj (Eq.symm (by first | exact h | (simp only [Bool.false_eq_true, if_true, if_false] at h; exact h) | (simp only [c4, Bool.false_eq_true, if_true, if_false] at h; exact h) | (simp only [c4, c5, Bool.false_eq_true, if_true, if_false] at h; exact h)))
  subst hr
  clear h
  go_enter Try.func58, Try.ntmps58
  go_wp2_with (first | ((with_reducible refine qan (N := 1) rfl ?_); refine qam ?hg (N := 1) ?hd (cs := #[.int .i64 a0_0, .int .i64 a0_1, .int .i64 a0_2, .int .i64 a0_3, .int .i64 a0_4, .int .i64 a0_5, .int .i64 a0_6, .int .i64 a0_7, .int .i64 a0_8, .int .i64 a0_9, .int .i64 a0_10, .int .i64 a0_11]) (t := 39) ?hr ?_; (case hd => rfl); (case hg => rfl); (case hr => first | (go_simp; done) | (go_simp; rfl)); intro gb hg_gb w2 hbox hb; have BKgb := qab.mk hbox; have n_HB := qab.mk (qad HB.out hb); have GEgb : w.heap.size ≤ gb := (by rw [hg_gb]; exact HB.out.size); clear HB; have HB := n_HB; clear n_HB; obtain ⟨hfgb, hcgb_0, hcgb_1, hcgb_2, hcgb_3, hcgb_4, hcgb_5, hcgb_6, hcgb_7, hcgb_8, hcgb_9, hcgb_10, hcgb_11⟩ := qz12 BKgb.out; clear hbox hb hg_gb; clear hfgb) | (go_at_call 59; with_reducible refine (H_b1.out _).mono ?_; rintro e w3 ⟨rfl, hb⟩; replace BKgb := qab.mk (qag BKgb.out hb); replace HB := qab.mk (qad HB.out hb); clear hb; have q2 : w3.cell? ⟨gb, 2, none⟩ = some (.int .i64 a0_2) := (qaa BKgb.out 2).trans rfl; have q3 : w3.cell? ⟨gb, 3, none⟩ = some (.int .i64 a0_3) := (qaa BKgb.out 3).trans rfl; have q4 : w3.cell? ⟨gb, 4, none⟩ = some (.int .i64 a0_4) := (qaa BKgb.out 4).trans rfl; have q5 : w3.cell? ⟨gb, 5, none⟩ = some (.int .i64 a0_5) := (qaa BKgb.out 5).trans rfl; have q6 : w3.cell? ⟨gb, 6, none⟩ = some (.int .i64 a0_6) := (qaa BKgb.out 6).trans rfl; have q7 : w3.cell? ⟨gb, 7, none⟩ = some (.int .i64 a0_7) := (qaa BKgb.out 7).trans rfl; have q8 : w3.cell? ⟨gb, 8, none⟩ = some (.int .i64 a0_8) := (qaa BKgb.out 8).trans rfl; have q9 : w3.cell? ⟨gb, 9, none⟩ = some (.int .i64 a0_9) := (qaa BKgb.out 9).trans rfl; have q10 : w3.cell? ⟨gb, 10, none⟩ = some (.int .i64 a0_10) := (qaa BKgb.out 10).trans rfl; have q11 : w3.cell? ⟨gb, 11, none⟩ = some (.int .i64 a0_11) := (qaa BKgb.out 11).trans rfl) | (go_at_call 59; with_reducible refine (H_b2.out _).mono ?_; rintro e w4 ⟨rfl, hb⟩; replace BKgb := qab.mk (qag BKgb.out hb); replace HB := qab.mk (qad HB.out hb); clear hb; have q2 : w4.cell? ⟨gb, 2, none⟩ = some (.int .i64 a0_2) := (qaa BKgb.out 2).trans rfl; have q3 : w4.cell? ⟨gb, 3, none⟩ = some (.int .i64 a0_3) := (qaa BKgb.out 3).trans rfl; have q4 : w4.cell? ⟨gb, 4, none⟩ = some (.int .i64 a0_4) := (qaa BKgb.out 4).trans rfl; have q5 : w4.cell? ⟨gb, 5, none⟩ = some (.int .i64 a0_5) := (qaa BKgb.out 5).trans rfl; have q6 : w4.cell? ⟨gb, 6, none⟩ = some (.int .i64 a0_6) := (qaa BKgb.out 6).trans rfl; have q7 : w4.cell? ⟨gb, 7, none⟩ = some (.int .i64 a0_7) := (qaa BKgb.out 7).trans rfl; have q8 : w4.cell? ⟨gb, 8, none⟩ = some (.int .i64 a0_8) := (qaa BKgb.out 8).trans rfl; have q9 : w4.cell? ⟨gb, 9, none⟩ = some (.int .i64 a0_9) := (qaa BKgb.out 9).trans rfl; have q10 : w4.cell? ⟨gb, 10, none⟩ = some (.int .i64 a0_10) := (qaa BKgb.out 10).trans rfl; have q11 : w4.cell? ⟨gb, 11, none⟩ = some (.int .i64 a0_11) := (qaa BKgb.out 11).trans rfl) | (go_at_call 59; with_reducible refine (H_b3.out _).mono ?_; rintro e w5 ⟨rfl, hb⟩; replace BKgb := qab.mk (qag BKgb.out hb); replace HB := qab.mk (qad HB.out hb); clear hb; have q2 : w5.cell? ⟨gb, 2, none⟩ = some (.int .i64 a0_2) := (qaa BKgb.out 2).trans rfl; have q3 : w5.cell? ⟨gb, 3, none⟩ = some (.int .i64 a0_3) := (qaa BKgb.out 3).trans rfl; have q4 : w5.cell? ⟨gb, 4, none⟩ = some (.int .i64 a0_4) := (qaa BKgb.out 4).trans rfl; have q5 : w5.cell? ⟨gb, 5, none⟩ = some (.int .i64 a0_5) := (qaa BKgb.out 5).trans rfl; have q6 : w5.cell? ⟨gb, 6, none⟩ = some (.int .i64 a0_6) := (qaa BKgb.out 6).trans rfl; have q7 : w5.cell? ⟨gb, 7, none⟩ = some (.int .i64 a0_7) := (qaa BKgb.out 7).trans rfl; have q8 : w5.cell? ⟨gb, 8, none⟩ = some (.int .i64 a0_8) := (qaa BKgb.out 8).trans rfl; have q9 : w5.cell? ⟨gb, 9, none⟩ = some (.int .i64 a0_9) := (qaa BKgb.out 9).trans rfl; have q10 : w5.cell? ⟨gb, 10, none⟩ = some (.int .i64 a0_10) := (qaa BKgb.out 10).trans rfl; have q11 : w5.cell? ⟨gb, 11, none⟩ = some (.int .i64 a0_11) := (qaa BKgb.out 11).trans rfl) | (go_at_call 60; with_reducible refine (H_b6.out _).mono ?_; rintro e w6 ⟨rfl, hb⟩; replace BKgb := qab.mk (qag BKgb.out hb); replace HB := qab.mk (qad HB.out hb); clear hb; have q7 : w6.cell? ⟨gb, 7, none⟩ = some (.int .i64 a0_7) := (qaa BKgb.out 7).trans rfl; have q8 : w6.cell? ⟨gb, 8, none⟩ = some (.int .i64 a0_8) := (qaa BKgb.out 8).trans rfl; have q9 : w6.cell? ⟨gb, 9, none⟩ = some (.int .i64 a0_9) := (qaa BKgb.out 9).trans rfl; have q10 : w6.cell? ⟨gb, 10, none⟩ = some (.int .i64 a0_10) := (qaa BKgb.out 10).trans rfl; have q11 : w6.cell? ⟨gb, 11, none⟩ = some (.int .i64 a0_11) := (qaa BKgb.out 11).trans rfl) | (go_at_call 60; with_reducible refine (H_b7.out _).mono ?_; rintro e w7 ⟨rfl, hb⟩; replace BKgb := qab.mk (qag BKgb.out hb); replace HB := qab.mk (qad HB.out hb); clear hb; have q8 : w7.cell? ⟨gb, 8, none⟩ = some (.int .i64 a0_8) := (qaa BKgb.out 8).trans rfl; have q9 : w7.cell? ⟨gb, 9, none⟩ = some (.int .i64 a0_9) := (qaa BKgb.out 9).trans rfl; have q10 : w7.cell? ⟨gb, 10, none⟩ = some (.int .i64 a0_10) := (qaa BKgb.out 10).trans rfl; have q11 : w7.cell? ⟨gb, 11, none⟩ = some (.int .i64 a0_11) := (qaa BKgb.out 11).trans rfl) | (go_at_call 60; with_reducible refine (H_b8.out _).mono ?_; rintro e w8 ⟨rfl, hb⟩; replace BKgb := qab.mk (qag BKgb.out hb); replace HB := qab.mk (qad HB.out hb); clear hb; have q9 : w8.cell? ⟨gb, 9, none⟩ = some (.int .i64 a0_9) := (qaa BKgb.out 9).trans rfl; have q10 : w8.cell? ⟨gb, 10, none⟩ = some (.int .i64 a0_10) := (qaa BKgb.out 10).trans rfl; have q11 : w8.cell? ⟨gb, 11, none⟩ = some (.int .i64 a0_11) := (qaa BKgb.out 11).trans rfl) | (go_at_call 60; with_reducible refine (H_b9.out _).mono ?_; rintro e w9 ⟨rfl, hb⟩; replace BKgb := qab.mk (qag BKgb.out hb); replace HB := qab.mk (qad HB.out hb); clear hb; have q10 : w9.cell? ⟨gb, 10, none⟩ = some (.int .i64 a0_10) := (qaa BKgb.out 10).trans rfl; have q11 : w9.cell? ⟨gb, 11, none⟩ = some (.int .i64 a0_11) := (qaa BKgb.out 11).trans rfl) | (go_at_call 59; with_reducible refine (H_b10.out _).mono ?_; rintro e w10 ⟨rfl, hb⟩; replace BKgb := qab.mk (qag BKgb.out hb); replace HB := qab.mk (qad HB.out hb); clear hb))
  go_ret
  exact ⟨rfl, HB.out⟩
theorem wsucc (i : Nat) (h : i ≤ 1000000) : wrap64 ((i : Int) + 1) = ((i + 1 : Nat) : Int) := by unfold wrap64; omega
def shortB (l0 : List S39) (l1 : List S37) (l2 : List (List Int)) : Bool := (l2.take 10).all (fun r => decide (r.length ≤ 10)) && (decide (l0.length ≤ 8) && (decide (l1.length ≤ 77) && decide (l2.length ≤ 10)))
theorem rd_L1_at (l2 : List (List Int)) (i : Nat) (h : i < l2.length) : rd_L1 l2 (i : Int) = l2[i] := by simp [rd_L1, h]
structure Short (l0 : List S39) (l1 : List S37) (l2 : List (List Int)) : Prop where
 h0 : l0.length ≤ 8
 h1 : l1.length ≤ 77
 h2 : l2.length ≤ 10
 hr : ∀ i (h : i < l2.length), l2[i].length ≤ 10
theorem short_of {l0 : List S39} {l1 : List S37} {l2 : List (List Int)} (h : shortB l0 l1 l2 = true) : Short l0 l1 l2 := by
 unfold shortB at h
 simp only [Bool.and_eq_true, decide_eq_true_eq] at h
 obtain ⟨h1, h2, h3, h4⟩ := h
 rw [List.take_of_length_le h4, List.all_eq_true] at h1
 exact ⟨h2, h3, h4, fun i hi => by simpa using h1 _ (List.getElem_mem hi)⟩
theorem of_short {l0 : List S39} {l1 : List S37} {l2 : List (List Int)} (h : Short l0 l1 l2) : shortB l0 l1 l2 = true := by
 unfold shortB
 simp only [Bool.and_eq_true, decide_eq_true_eq]
 refine ⟨?_, h.h0, h.h1, h.h2⟩
 rw [List.take_of_length_le h.h2, List.all_eq_true]
 intro r hr
 obtain ⟨i, hi, rfl⟩ := List.mem_iff_getElem.1 hr
 simpa using h.hr i hi
theorem rspan_eq (s : S37) (lo hi : Int) : talikref04_Span.f s.f0 s.f1 lo hi = some (spanB s lo hi) := by
 unfold talikref04_Span.f spanB
 by_cases h1 : s.f0 ≥ lo <;> by_cases h2 : s.f0 ≤ s.f1 <;> simp [h1, h2]
theorem rin_eq (x lo hi : Int) : talikref04_in.f x lo hi = some (inB x lo hi) := by
 unfold talikref04_in.f inB
 by_cases h : x ≥ lo <;> simp [h]
theorem rloop_eq (l : S39) : talikref04_Loop.f l.f0.f0 l.f0.f1 l.f1.f0 l.f1.f1 l.f2.f0 l.f2.f1 l.f3 l.f4 l.f5 l.f6 l.f7.f0 l.f7.f1 = some (loopB l) := by
 unfold talikref04_Loop.f loopB
 rw [rspan_eq l.f0, rspan_eq l.f1, rspan_eq l.f2, rspan_eq l.f7, rin_eq, rin_eq, rin_eq, rin_eq]
 simp only [Option.bind_some]
 cases spanB l.f0 1 1000 <;> cases spanB l.f1 0 1000 <;> cases spanB l.f2 0 1000 <;> by_cases h1 : l.f2.f0 ≤ l.f1.f0 <;> by_cases h2 : l.f2.f1 ≤ l.f1.f1 <;> simp [h1, h2]
 cases inB l.f3 0 1000000 <;> cases inB l.f4 1 10000 <;> cases inB l.f5 0 1000 <;> cases inB l.f6 0 1000 <;> simp
def chkR (i : Nat) : List Int → Nat → Bool
 | [], _ => true
 | h :: t, j => inB h 0 72 && ((i != j || h == 0) && chkR i t (j + 1))
def rowsR (n : Nat) : List (List Int) → Nat → Bool
 | [], _ => true
 | r :: t, i => decide (r.length = n) && (chkR i r 0 && rowsR n t (i + 1))
def finR (l0 : List S39) (l1 : List S37) (l2 : List (List Int)) : Bool := inB l0.length 1 5 && (inB l1.length 1 72 && decide (l2.length = l0.length + 1))
def talikref04_IsLoop.f (l0_0 : List (S39)) (l0_1 : List (S37)) (l0_2 : List (List Int)) (a1 : Int) : Option (Bool) := (talikref04_in.f a1 0 (wrap64 ((l0_0.length : Int) - 1))).bind fun t153 => (some t153)
theorem talikref04_IsLoop.calls (A0_0 : Option Addr) (c0_0 : Nat) (l0_0 : List (S39)) (A0_1 : Option Addr) (c0_1 : Nat) (l0_1 : List (S37)) (A0_2 : Option Addr) (c0_2 : Nat) (l0_2 : List (List Int)) (a1 : Int) (r : Bool) (w : World) (hr0_0 : Kd.C k39 w A0_0 l0_0.length l0_0) (hc0_0 : l0_0.length ≤ c0_0) (hr0_1 : Kd.C k37 w A0_1 l0_1.length l0_1) (hc0_1 : l0_1.length ≤ c0_1) (hr0_2 : Kd.C (Kd.slice 3 (Kd.int .i64)) w A0_2 l0_2.length l0_2) (hc0_2 : l0_2.length ≤ c0_2) (h : talikref04_IsLoop.f l0_0 l0_1 l0_2 a1 = some r) :
  Calls Try.prog 20 #[.agg #[.slice A0_0 l0_0.length c0_0, .slice A0_1 l0_1.length c0_1, .slice A0_2 l0_2.length c0_2], .int .i64 a1] w fun e w' => e = .returned (.bool r) ∧ Below w.heap.size w w' := by
 have hu26 := Try.underlying26
 have HR0_0 := qab.mk hr0_0
 have HC0_0 := qab.mk hc0_0
 clear hr0_0 hc0_0
 have HR0_1 := qab.mk hr0_1
 have HC0_1 := qab.mk hc0_1
 clear hr0_1 hc0_1
 have HR0_2 := qab.mk hr0_2
 have HC0_2 := qab.mk hc0_2
 clear hr0_2 hc0_2
 have HB := qab.mk (Below.refl w.heap.size w)
 have H : ((talikref04_in.f a1 0 (wrap64 ((l0_0.length : Int) - 1))).bind fun t153 => (some t153)) = some r := h
 clear h
 replace H := Option.bind_eq_some_iff.mp H
 obtain ⟨t153, A30, H⟩ := H
 replace H : (some t153) = some r := H
 have A3 := qab.mk A30
 clear A30
 obtain rfl := Option.some.inj H
 go_enter Try.func20, Try.ntmps20
 go_wp2_with (first | ((with_reducible refine qan (N := 2) rfl ?_); refine qam ?hg (N := 2) ?hd (cs := #[.slice A0_0 l0_0.length c0_0, .slice A0_1 l0_1.length c0_1, .slice A0_2 l0_2.length c0_2]) (t := 26) ?hr ?_; (case hd => rfl); (case hg => rfl); (case hr => first | (go_simp; done) | (go_simp; rfl)); intro gb152 hg w4 hbox hb; have n0_ := qab.mk (qad (by repeat (first | (with_reducible first | exact HB.out | apply qaf | apply qae | apply qah) | exact HB.out)) hb); have n1_ := qab.mk (hbox); have n2_ := qab.mk ((by rw [hg]; exact (qap (by repeat (first | (with_reducible first | exact HB.out | apply qaf | apply qae | apply qah) | exact HB.out))) : w.heap.size ≤ gb152)); have n3_ := qab.mk ((by rw [hg]; exact (qap (by repeat (first | (with_reducible first | exact HB.out | apply qaf | apply qae | apply qah) | exact HB.out))) : w.heap.size ≤ gb152)); clear HB; have HB := n0_; have BK152 := n1_; have GW152 := n2_; have GE152 := n3_; clear n0_ n1_ n2_ n3_; clear hb hbox hg; have hcz5_0 : w4.cell? ⟨gb152, 0, none⟩ = some (.slice A0_0 l0_0.length c0_0) := (qaa BK152.out 0).trans rfl; have hcz5_1 : w4.cell? ⟨gb152, 1, none⟩ = some (.slice A0_1 l0_1.length c0_1) := (qaa BK152.out 1).trans rfl; have hcz5_2 : w4.cell? ⟨gb152, 2, none⟩ = some (.slice A0_2 l0_2.length c0_2) := (qaa BK152.out 2).trans rfl; have hfz5_0 := qac BK152.out 0; have hfz5_1 := qac BK152.out 1; have hfz5_2 := qac BK152.out 2) | ((with_reducible refine gate_callee (f := 60) rfl ?_); refine goesL_ (some 10) rfl rfl Try.func60 (by kernel_rfl) rfl #[.int .i64 a1, .int .i64 0, .int .i64 (wrap64 ((l0_0.length : Int) - 1))] rfl (by (try simp only [List.map_toArray, List.map_cons, List.map_nil]); first | done | rfl | (simp only [List.length_drop, List.length_take]; rfl)) ?_; (with_reducible refine (talikref04_in.calls a1 0 (wrap64 ((l0_0.length : Int) - 1)) t153 _ A3.out).mono ?_); rintro e w' ⟨rfl, ⟨nd, rfl⟩⟩; refine ⟨_, rfl, ?_⟩))
 go_ret
 exact ⟨by first | rfl | (simp [qau, qav] <;> rfl) | (simp [*, qau, qav] <;> rfl), by repeat (first | (with_reducible first | exact HB.out | apply qaf | apply qae | apply qah | refine qai ?_ GE152.out) | exact HB.out)⟩
def truthB (L : S39) : List S44 → List S37 → Bool
 | [], _ => true
 | _ :: _, [] => false
 | T :: ts, F :: fs => inB T.f0 L.f1.f0 L.f1.f1 && (inB T.f1 F.f0 F.f1 && truthB L ts fs)
structure BI (w : World) (gb : Nat) (nb : Array Value) (W : World) : Prop where
 b : W.heap[gb]? = some (.cells nb 26 (0, 0))
 hb : Below w.heap.size w W
theorem BI.below {w W W' : World} {gb : Nat} {nb : Array Value} (h : BI w gb nb W) (hb : Below W.heap.size W W') : BI w gb nb W' := ⟨qag h.b hb, qad h.hb hb⟩
def lossR (L : S39) (warm : Int) (T : S44) : Int := mn (if T.f2 = true then wrap64 (warm + L.f6) else warm) (wrap64 (Int.tdiv (wrap64 (T.f0 * (wrap64 (warm + T.f1)))) 1000))
def groundR (L : S39) (lost : Int) : Int := wrap64 (Int.tdiv (wrap64 (wrap64 (L.f4 * lost) * L.f5)) 1000)
def stepR (L : S39) (T : S44) (x : Heat4) : Heat4 :=
 (wrap64 (wrap64 (x.1 + feedV L T) - lossR L x.1 T), wrap64 (x.2.1 + wrap64 (L.f4 * feedV L T)), wrap64 (x.2.2.1 + groundR L (lossR L x.1 T)), wrap64 (wrap64 (x.2.2.2 + wrap64 (L.f4 * lossR L x.1 T)) - groundR L (lossR L x.1 T)))
structure RI (w : World) (g3 g6 g7 : Nat) (L : S39) (x : Heat4) (W : World) : Prop where
 l : W.heap[g3]? = some (.cells #[.int .i64 L.f0.f0, .int .i64 L.f0.f1, .int .i64 L.f1.f0, .int .i64 L.f1.f1, .int .i64 L.f2.f0, .int .i64 L.f2.f1, .int .i64 L.f3, .int .i64 L.f4, .int .i64 L.f5, .int .i64 L.f6, .int .i64 L.f7.f0, .int .i64 L.f7.f1] 39 (0, 0))
 r : W.heap[g6]? = some (.cells #[.int .i64 0, .int .i64 0, .int .i64 0, .int .i64 0] 31 (0, 0))
 o : W.heap[g7]? = some (.cells #[.int .i64 x.1, .int .i64 x.2.1, .int .i64 x.2.2.1, .int .i64 x.2.2.2] 31 (0, 0))
 hb : Below w.heap.size w W
 ge : w.heap.size ≤ g7
 ne : g6 ≠ g7
theorem RI.below {w W W' : World} {g3 g6 g7 : Nat} {L : S39} {x : Heat4} (h : RI w g3 g6 g7 L x W) (hb : Below W.heap.size W W') : RI w g3 g6 g7 L x W' :=
 ⟨qag h.l hb, qag h.r hb, qag h.o hb, qad h.hb hb, h.ge, h.ne⟩
theorem wrap_id {x : Int} (h0 : -9223372036854775808 ≤ x) (h1 : x ≤ 9223372036854775807) : wrap64 x = x := by unfold wrap64; omega
structure LoopOk (L : S39) : Prop where
 w0 : 1 ≤ L.f0.f0
 w1 : L.f0.f0 ≤ L.f0.f1
 w2 : L.f0.f1 ≤ 1000
 k0 : 0 ≤ L.f1.f0
 k1 : L.f1.f0 ≤ L.f1.f1
 k2 : L.f1.f1 ≤ 1000
 p0 : 0 ≤ L.f2.f0
 p1 : L.f2.f0 ≤ L.f2.f1
 p2 : L.f2.f1 ≤ 1000
 q0 : L.f2.f0 ≤ L.f1.f0
 q1 : L.f2.f1 ≤ L.f1.f1
 c0 : 0 ≤ L.f3
 c1 : L.f3 ≤ 1000000
 m0 : 1 ≤ L.f4
 m1 : L.f4 ≤ 10000
 g0 : 0 ≤ L.f5
 g1 : L.f5 ≤ 1000
 e0 : 0 ≤ L.f6
 e1 : L.f6 ≤ 1000
 x0 : 0 ≤ L.f7.f0
 x1 : L.f7.f0 ≤ L.f7.f1
 x2 : L.f7.f1 ≤ 72
theorem loop_ok {L : S39} (h : loopB L = true) : LoopOk L := by
 unfold loopB spanB inB at h
 simp only [Bool.and_eq_true, decide_eq_true_eq] at h
 obtain ⟨⟨a1, a2, a3⟩, ⟨b1, b2, b3⟩, ⟨c1, c2, c3⟩, d, e, ⟨f1, f2⟩, ⟨g1, g2⟩, ⟨h1, h2⟩, ⟨i1, i2⟩, j1, j2, j3⟩ := h
 exact ⟨a1, a2, a3, b1, b2, b3, c1, c2, c3, d, e, f1, f2, g1, g2, h1, h2, i1, i2, j1, j2, j3⟩
structure NetOk (l0 : List S39) (l1 : List S37) (l2 : List (List Int)) : Prop where
 n0 : 1 ≤ l0.length
 n1 : l0.length ≤ 5
 h0 : 1 ≤ l1.length
 h1 : l1.length ≤ 72
 m : l2.length = l0.length + 1
 ways : ∀ i (h : i < l2.length), l2[i].length = l0.length + 1 ∧ rd l2[i] i = 0 ∧ ∀ x ∈ l2[i], 0 ≤ x ∧ x ≤ 72
 loops : ∀ L ∈ l0, LoopOk L
 frost : ∀ F ∈ l1, 0 ≤ F.f0 ∧ F.f0 ≤ F.f1 ∧ F.f1 ≤ 1000
theorem net_ok {l0 : List S39} {l1 : List S37} {l2 : List (List Int)} (h : validB l0 l1 l2 = true) : NetOk l0 l1 l2 := by
 unfold validB at h
 simp only [Bool.and_eq_true, List.all_eq_true] at h
 obtain ⟨h1, h2, h3, h4, h5, h6⟩ := h
 unfold inB at h3 h4
 simp only [Bool.and_eq_true, decide_eq_true_eq] at h1 h3 h4
 refine ⟨by omega, by omega, by omega, by omega, by omega, fun i hi => ?_, fun L hL => loop_ok (h5 L hL), fun F hF => ?_⟩
 ·
  unfold waysB at h2
  rw [List.all_eq_true] at h2
  have h7 := h2 i (by simpa using hi)
  have e : l2.getD i [] = l2[i] := by simp [hi]
  rw [e] at h7
  unfold rowB inB at h7
  simp only [Bool.and_eq_true, decide_eq_true_eq, List.all_eq_true] at h7
  exact ⟨by omega, h7.2.1, h7.2.2⟩
 ·
  have h7 := h6 F hF
  unfold spanB at h7
  simp only [Bool.and_eq_true, decide_eq_true_eq] at h7
  exact h7
theorem mn_min (a b : Int) : mn a b = min a b := by unfold mn; split <;> omega
theorem mul_small {a b A B : Int} (ha0 : 0 ≤ a) (ha : a ≤ A) (hb0 : 0 ≤ b) (hb : b ≤ B) : 0 ≤ a * b ∧ a * b ≤ A * B :=
 ⟨Int.mul_nonneg ha0 hb0, Int.mul_le_mul ha hb hb0 (by omega)⟩
theorem tdiv_small {a : Int} (h : 0 ≤ a) : 0 ≤ Int.tdiv a 1000 ∧ Int.tdiv a 1000 ≤ a := by
 rw [Int.tdiv_eq_ediv_of_nonneg h]
 omega
structure HeatOk (n : Nat) (x : Heat4) : Prop where
 a0 : 0 ≤ x.1
 a1 : x.1 ≤ 1000 * (n + 1)
 b0 : 0 ≤ x.2.1
 b1 : x.2.1 ≤ 10000000 * n
 c0 : 0 ≤ x.2.2.1
 c1 : x.2.2.1 ≤ 2000000000 * n
 d0 : 0 ≤ x.2.2.2
 d1 : x.2.2.2 ≤ 2000000000 * n
theorem feed_bd {L : S39} (hL : LoopOk L) (T : S44) : 0 ≤ feedV L T ∧ feedV L T ≤ 1000 := by
 unfold feedV
 split
 ·
  exact ⟨hL.e0, hL.e1⟩
 ·
  omega
theorem sum2_id {a b : Int} (ha0 : -1000000000000000000 ≤ a) (ha1 : a ≤ 1000000000000000000) (hb0 : -1000000000000000000 ≤ b) (hb1 : b ≤ 1000000000000000000) : sumV [a, b] = a + b := by
 show wrap64 (wrap64 (0 + a) + b) = a + b
 unfold wrap64
 omega
theorem sum3_id {a b c : Int} (ha0 : -1000000000000000000 ≤ a) (ha1 : a ≤ 1000000000000000000) (hb0 : -1000000000000000000 ≤ b) (hb1 : b ≤ 1000000000000000000) (hc0 : -1000000000000000000 ≤ c) (hc1 : c ≤ 1000000000000000000) : sumV [a, b, c] = a + b + c := by
 show wrap64 (wrap64 (wrap64 (0 + a) + b) + c) = a + b + c
 unfold wrap64
 omega
theorem step_eq {L : S39} (hL : LoopOk L) {T : S44} (hk0 : 0 ≤ T.f0) (hk1 : T.f0 ≤ 1000) (hf0 : 0 ≤ T.f1) (hf1 : T.f1 ≤ 1000) {n : Nat} (hn : n ≤ 100) {x : Heat4} (hx : HeatOk n x) :
  stepH L T x = stepR L T x ∧ HeatOk (n + 1) (stepR L T x) ∧ (∃ lost, 0 ≤ lost ∧ lost ≤ x.1 + feedV L T ∧ 0 ≤ L.f4 * lost * L.f5 / 1000 ∧ L.f4 * lost * L.f5 / 1000 ≤ L.f4 * lost ∧ lossR L x.1 T = lost ∧
   stepR L T x = (x.1 + feedV L T - lost, x.2.1 + L.f4 * feedV L T, x.2.2.1 + L.f4 * lost * L.f5 / 1000, x.2.2.2 + L.f4 * lost - L.f4 * lost * L.f5 / 1000)) := by
 obtain ⟨e0, e1⟩ := feed_bd hL T
 have ha0 := hx.a0
 have ha1 := hx.a1
 have hb0 := hx.b0
 have hb1 := hx.b1
 have hc0 := hx.c0
 have hc1 := hx.c1
 have hd0 := hx.d0
 have hd1 := hx.d1
 have hm0 := hL.m0
 have hm1 := hL.m1
 have hg0 := hL.g0
 have hg1 := hL.g1
 have p1 := mul_small hk0 hk1 (b := x.1 + T.f1) (B := 200000) (by omega) (by omega)
 obtain ⟨d0, d1⟩ := tdiv_small p1.1
 have w1 : wrap64 (x.1 + T.f1) = x.1 + T.f1 := wrap_id (by omega) (by omega)
 have w2 : wrap64 (T.f0 * (x.1 + T.f1)) = T.f0 * (x.1 + T.f1) := wrap_id (by omega) (by omega)
 have w3 : wrap64 (Int.tdiv (T.f0 * (x.1 + T.f1)) 1000) = Int.tdiv (T.f0 * (x.1 + T.f1)) 1000 := wrap_id (by omega) (by omega)
 have hmost : (if T.f2 = true then wrap64 (x.1 + L.f6) else x.1) = x.1 + feedV L T := by
  have := hL.e0
  have := hL.e1
  unfold feedV
  split
  ·
   exact wrap_id (by omega) (by omega)
  ·
   omega
 have hR : lossR L x.1 T = min (x.1 + feedV L T) (Int.tdiv (T.f0 * (x.1 + T.f1)) 1000) := by
  unfold lossR
  rw [hmost, w1, w2, w3, mn_min]
 have hI : lossI T.f0 T.f1 x.1 (feedV L T) = min (x.1 + feedV L T) (Int.tdiv (T.f0 * (x.1 + T.f1)) 1000) := by
  unfold lossI
  rw [w1, w2, w3, wrap_id (x := x.1 + feedV L T) (by omega) (by omega), mn_min, Int.min_comm]
 obtain ⟨lost, hlost⟩ : ∃ lost, lost = min (x.1 + feedV L T) (Int.tdiv (T.f0 * (x.1 + T.f1)) 1000) := ⟨_, rfl⟩
 rw [← hlost] at hR hI
 have l0 : 0 ≤ lost := by omega
 have l1 : lost ≤ x.1 + feedV L T := by omega
 clear hlost w1 w2 w3 hmost p1 d0 d1
 obtain ⟨feed, hfeed⟩ : ∃ feed, feedV L T = feed := ⟨_, rfl⟩
 rw [hfeed] at e0 e1 hI l1
 rw [hfeed]
 obtain ⟨m0, m1⟩ := mul_small (a := L.f4) (A := 10000) (b := lost) (B := 200000) (by omega) hm1 l0 (by omega)
 obtain ⟨n0, n1⟩ := mul_small (a := L.f4 * lost) (A := 2000000000) (b := L.f5) (B := 1000) m0 (by omega) hg0 hg1
 obtain ⟨f0, f1⟩ := mul_small (a := L.f4) (A := 10000) (b := feed) (B := 1000) (by omega) hm1 e0 e1
 have gle : L.f4 * lost * L.f5 ≤ L.f4 * lost * 1000 := Int.mul_le_mul_of_nonneg_left hg1 m0
 have gd0 : 0 ≤ L.f4 * lost * L.f5 / 1000 := by omega
 have gd1 : L.f4 * lost * L.f5 / 1000 ≤ L.f4 * lost := by omega
 have gt : Int.tdiv (L.f4 * lost * L.f5) 1000 = L.f4 * lost * L.f5 / 1000 := Int.tdiv_eq_ediv_of_nonneg n0
 have hgR : groundR L lost = L.f4 * lost * L.f5 / 1000 := by
  unfold groundR
  rw [wrap_id (x := L.f4 * lost) (by omega) (by omega), wrap_id (x := L.f4 * lost * L.f5) (by omega) (by omega), gt, wrap_id (by omega) (by omega)]
 have hcm : lost * L.f4 = L.f4 * lost := Int.mul_comm _ _
 have hcf : feed * L.f4 = L.f4 * feed := Int.mul_comm _ _
 have hgV : groundV L lost = L.f4 * lost * L.f5 / 1000 := by
  unfold groundV
  rw [hcm, wrap_id (x := L.f4 * lost) (by omega) (by omega), wrap_id (x := L.f4 * lost * L.f5) (by omega) (by omega), gt, wrap_id (by omega) (by omega)]
 have key : stepR L T x = (x.1 + feed - lost, x.2.1 + L.f4 * feed, x.2.2.1 + L.f4 * lost * L.f5 / 1000, x.2.2.2 + L.f4 * lost - L.f4 * lost * L.f5 / 1000) := by
  unfold stepR
  rw [hfeed, hR, hgR, wrap_id (x := L.f4 * feed) (by omega) (by omega), wrap_id (x := L.f4 * lost) (by omega) (by omega), wrap_id (x := x.1 + feed) (by omega) (by omega), wrap_id (x := x.1 + feed - lost) (by omega) (by omega),
   wrap_id (x := x.2.1 + L.f4 * feed) (by omega) (by omega), wrap_id (x := x.2.2.1 + L.f4 * lost * L.f5 / 1000) (by omega) (by omega), wrap_id (x := x.2.2.2 + L.f4 * lost) (by omega) (by omega), wrap_id (x := x.2.2.2 + L.f4 * lost - L.f4 * lost * L.f5 / 1000) (by omega) (by omega)]
 have keyH : stepH L T x = (x.1 + feed - lost, x.2.1 + L.f4 * feed, x.2.2.1 + L.f4 * lost * L.f5 / 1000, x.2.2.2 + L.f4 * lost - L.f4 * lost * L.f5 / 1000) := by
  unfold stepH
  rw [hfeed, hI, hgV, hcf, hcm, wrap_id (x := L.f4 * feed) (by omega) (by omega), wrap_id (x := L.f4 * lost) (by omega) (by omega), wrap_id (x := -lost) (by omega) (by omega), wrap_id (x := -(L.f4 * lost * L.f5 / 1000)) (by omega) (by omega),
   sum3_id (a := x.1) (by omega) (by omega) (by omega) (by omega) (by omega) (by omega), sum2_id (a := x.2.1) (by omega) (by omega) (by omega) (by omega), sum2_id (a := x.2.2.1) (by omega) (by omega) (by omega) (by omega), sum3_id (a := x.2.2.2) (by omega) (by omega) (by omega) (by omega) (by omega) (by omega)]
  rfl
 refine ⟨keyH.trans key.symm, ?_, lost, l0, l1, gd0, gd1, hR, key⟩
 rw [key]
 refine ⟨?_, ?_, ?_, ?_, ?_, ?_, ?_, ?_⟩ <;> dsimp only <;> push_cast <;> omega
theorem playGo_yes (L : S39) (hL : LoopOk L) : ∀ (l3 : List S44) (l1 : List S37) (x : Heat4) (n : Nat), truthB L l3 l1 = true → (∀ F ∈ l1, 0 ≤ F.f0 ∧ F.f0 ≤ F.f1 ∧ F.f1 ≤ 1000) → n + l3.length ≤ 90 → HeatOk n x →
  playGo L l3 l1 x = some (l3.foldl (fun x T => stepR L T x) x) ∧ HeatOk (n + l3.length) (l3.foldl (fun x T => stepR L T x) x)
 | [], l1, x, n, h, hf, hn, hx => ⟨rfl, hx⟩
 | T :: ts, [], x, n, h, hf, hn, hx => by simp [truthB] at h
 | T :: ts, F :: fs, x, n, h, hf, hn, hx => by
  simp only [truthB, Bool.and_eq_true] at h
  obtain ⟨hA, hB, hC⟩ := h
  simp only [playGo, hA, hB, Bool.and_self, if_true, List.foldl_cons]
  have hF := hf F (by simp)
  have hA' := hA
  have hB' := hB
  unfold inB at hA' hB'
  simp only [Bool.and_eq_true, decide_eq_true_eq] at hA' hB'
  have k0 := hL.k0
  have k2 := hL.k2
  simp only [List.length_cons] at hn ⊢
  obtain ⟨h1, h2, _⟩ := step_eq hL (T := T) (by omega) (by omega) (by omega) (by omega) (n := n) (by omega) hx
  rw [h1]
  have := playGo_yes L hL ts fs (stepR L T x) (n + 1) hC (fun F' hF' => hf F' (by simp [hF'])) (by omega) h2
  rw [show n + (ts.length + 1) = n + 1 + ts.length from by omega]
  exact this
theorem rdT39_mem {l0 : List S39} {i : Int} (h0 : 0 ≤ i) (h1 : i < l0.length) : qal l0 i ∈ l0 := by
 have h2 : i.toNat < l0.length := by omega
 have e : qal l0 i = l0[i.toNat] := by simp [qal, h2]
 rw [e]
 exact List.getElem_mem _
theorem isloop_eq (l0 : List S39) (l1 : List S37) (l2 : List (List Int)) (a1 : Int) : talikref04_IsLoop.f l0 l1 l2 a1 = some (inB a1 0 (wrap64 ((l0.length : Int) - 1))) := by
 unfold talikref04_IsLoop.f
 rw [rin_eq]
 rfl
theorem isloop_iff {l0 : List S39} {l1 : List S37} {l2 : List (List Int)} (h : NetOk l0 l1 l2) (a1 : Int) : inB a1 0 (wrap64 ((l0.length : Int) - 1)) = true ↔ 0 ≤ a1 ∧ a1 < l0.length := by
 have h0 := h.n0
 have h1 := h.n1
 rw [wrap_id (by omega) (by omega)]
 unfold inB
 simp only [Bool.and_eq_true, decide_eq_true_eq]
 omega
end Go.Proofs.Ytipphcjgdebecaa.PA
namespace Go.Proofs.Ytipphcjgdebecaa.PA
open Go.RowKit Go.Shelf Go.Proofs.YtipphcjgdebecaaW.PrintWords Go.Proofs.YtipphcjgdebecaaW.PrintLast Go.Proofs.YtipphcjgdebecaaW.PrintMore
attribute [local go_sem] qaw qay max_two min_two qas qat qax qaz
def sl (l0 : List S39) (l2 : List (List Int)) (D : List Int) (N : Int) : Int → Int → List Int → Int
 | _, _, [] => N
 | p, h, i :: t => min (rd D i - (h + rd (rd_L1 l2 p) (i + 1) + (qal l0 i).f7.f1)) (sl l0 l2 D N (i + 1) (h + rd (rd_L1 l2 p) (i + 1) + (qal l0 i).f7.f1) t)
end Go.Proofs.Ytipphcjgdebecaa.PA
namespace Go.Proofs.Ytipphcjgdebecaa.PA
open Go.RowKit Go.Proofs.YtipphcjgdebecaaW.PrintWords Go.Proofs.YtipphcjgdebecaaW.PrintLast Go.Proofs.YtipphcjgdebecaaW.PrintMore
attribute [local go_sem] qaw qay max_two min_two qas qat qax qaz
end Go.Proofs.Ytipphcjgdebecaa.PA
namespace Go.Proofs.Ytipphcjgdebecaa.PA
open Go.RowKit Go.Shelf Go.Proofs.YtipphcjgdebecaaW.PrintWords Go.Proofs.YtipphcjgdebecaaW.PrintLast Go.Proofs.YtipphcjgdebecaaW.PrintMore
attribute [local go_sem] qaw qay max_two min_two qas qat qax qaz
end Go.Proofs.Ytipphcjgdebecaa.PA
namespace Go.Proofs.Ytipphcjgdebecaa.PA
open Go.RowKit Go.Proofs.YtipphcjgdebecaaW.PrintWords Go.Proofs.YtipphcjgdebecaaW.PrintLast Go.Proofs.YtipphcjgdebecaaW.PrintMore
attribute [local go_sem] qaw qay max_two min_two qas qat qax qaz
structure BIN (w : World) (gb : Nat) (nb : Array Value) (W : World) : Prop where
 b : W.heap[gb]? = some (.cells nb 26 (0, 0))
 hb : Below w.heap.size w W
theorem BIN.below {w W W' : World} {gb : Nat} {nb : Array Value} (h : BIN w gb nb W) (hb : Below W.heap.size W W') : BIN w gb nb W' := ⟨qag h.b hb, qad h.hb hb⟩
theorem all_step {α : Type} (f : α → Bool) (l : List α) (d : α) (j : Nat) (hj : j < l.length) : (l.drop j).all f = (f (l.getD j d) && (l.drop (j + 1)).all f) := by
 rw [List.drop_eq_getElem_cons hj, List.all_cons]
 simp [hj]
theorem chkR_step (i : Nat) (row : List Int) (j : Nat) (hj : j < row.length) : chkR i (row.drop j) j = (inB (rd row j) 0 72 && ((i != j || rd row j == 0) && chkR i (row.drop (j + 1)) (j + 1))) := by
 rw [List.drop_eq_getElem_cons hj]
 have : rd row (j : Int) = row[j] := by simp [rd, hj]
 rw [this]
 rfl
theorem rowsR_step (n : Nat) (l : List (List Int)) (i : Nat) (hi : i < l.length) : rowsR n (l.drop i) i = (decide ((rd_L1 l i).length = n) && (chkR i (rd_L1 l i) 0 && rowsR n (l.drop (i + 1)) (i + 1))) := by
 rw [List.drop_eq_getElem_cons hi, rd_L1_at l i hi]
 rfl
theorem in60 (a lo hi : Int) (W : World) : Calls Try.prog 60 #[.int .i64 a, .int .i64 lo, .int .i64 hi] W fun e w' => e = .returned (.bool (inB a lo hi)) ∧ Below W.heap.size W w' :=
 talikref04_in_to (talikref04_in.calls _ _ _ _ W (rin_eq a lo hi))
def talikref04_Net.f (l0_0 : List (S39)) (l0_1 : List (S37)) (l0_2 : List (List Int)) : Option (Bool) := if shortB l0_0 l0_1 l0_2 = true then some (l0_0.all loopB && (l0_1.all (fun s => spanB s 0 1000) && (rowsR (l0_0.length + 1) l0_2 0 && finR l0_0 l0_1 l0_2))) else none
theorem talikref04_Net.calls (A0_0 : Option Addr) (c0_0 : Nat) (l0_0 : List (S39)) (A0_1 : Option Addr) (c0_1 : Nat) (l0_1 : List (S37)) (A0_2 : Option Addr) (c0_2 : Nat) (l0_2 : List (List Int)) (r : Bool) (w : World) (hr0_0 : Kd.C k39 w A0_0 l0_0.length l0_0) (hc0_0 : l0_0.length ≤ c0_0) (hr0_1 : Kd.C k37 w A0_1 l0_1.length l0_1) (hc0_1 : l0_1.length ≤ c0_1) (hr0_2 : Kd.C (Kd.slice 3 (Kd.int .i64)) w A0_2 l0_2.length l0_2) (hc0_2 : l0_2.length ≤ c0_2) (h : talikref04_Net.f l0_0 l0_1 l0_2 = some r) :
  Calls Try.prog 19 #[.agg #[.slice A0_0 l0_0.length c0_0, .slice A0_1 l0_1.length c0_1, .slice A0_2 l0_2.length c0_2]] w fun e w' => e = .returned (.bool r) ∧ Below w.heap.size w w' := by
 unfold talikref04_Net.f at h
 split at h
 case isFalse => cases h
 rename_i hsb
 have hs := short_of hsb
 have H0 := hs.h0
 have H1 := hs.h1
 have H2 := hs.h2
 have HRW := qab.mk hs.hr
 have h' := Option.some.inj h
 clear h hs hsb
 have hu26 := Try.underlying26
 have hu39 := Try.underlying39
 have hu37 := Try.underlying37
 have HB := qab.mk (Below.refl w.heap.size w)
 have HR0 := qab.mk hr0_0
 have HR1 := qab.mk hr0_1
 have HR2 := qab.mk hr0_2
 clear hr0_0 hr0_1 hr0_2
 obtain ⟨R3, hR3⟩ : ∃ x, x = finR l0_0 l0_1 l0_2 := ⟨_, rfl⟩
 obtain ⟨R2, hR2⟩ : ∃ x, x = (rowsR (l0_0.length + 1) l0_2 0 && R3) := ⟨_, rfl⟩
 obtain ⟨R1, hR1⟩ : ∃ x, x = (l0_1.all (fun s => spanB s 0 1000) && R2) := ⟨_, rfl⟩
 have HF0 : qab (((l0_0.drop 0).all loopB && R1) = r) := ⟨by rw [List.drop_zero, hR1, hR2, hR3]; exact h'⟩
 have HE1 := qab.mk hR1
 have HE2 := qab.mk hR2
 have HE3 := qab.mk hR3
 clear h' hR1 hR2 hR3
 go_enter Try.func19, Try.ntmps19
 go_wp2_with (first | (with_reducible refine qan (N := 1) rfl ?_); refine qam ?hg (N := 1) ?hd (cs := #[.slice A0_0 l0_0.length c0_0, .slice A0_1 l0_1.length c0_1, .slice A0_2 l0_2.length c0_2]) (t := 26) ?hr ?_; (case hd => rfl); (case hg => rfl); (case hr => first | (go_simp; done) | (go_simp; rfl)); intro gb hg_gb w2 hbox hb; have BKgb := qab.mk hbox; have n_HB := qab.mk (qad HB.out hb); have GEgb : w.heap.size ≤ gb := (by rw [hg_gb]; exact HB.out.size); clear HB; have HB := n_HB; clear n_HB; obtain ⟨hfgb, hcgb_0, hcgb_1, hcgb_2⟩ := qz3 BKgb.out; clear hbox hb hg_gb)
 clear hfgb hcgb_0 hcgb_1 hcgb_2
 have HI : qab (BIN w gb #[.slice A0_0 l0_0.length c0_0, .slice A0_1 l0_1.length c0_1, .slice A0_2 l0_2.length c0_2] w2) := ⟨⟨BKgb.out, HB.out⟩⟩
 clear BKgb HB GEgb
 go_loopw [3] (fun s3 wr => ∃ j : Nat, j ≤ l0_0.length ∧ s3 = .int .i64 j ∧ qab (((l0_0.drop j).all loopB && R1) = r) ∧ qab (BIN w gb #[.slice A0_0 l0_0.length c0_0, .slice A0_1 l0_1.length c0_1, .slice A0_2 l0_2.length c0_2] wr)) (fun s _ => l0_0.length - (intOf s).toNat)
 case atStart => exact ⟨0, by omega, rfl, HF0, HI⟩
 case round =>
  clear HI HF0
  obtain ⟨j, hj, rfl, HF, HI⟩ := hrel
  by_cases hlt : j < l0_0.length
  ·
   have hlt1 : (j : Int) < l0_0.length := by omega
   have hj0 : (0 : Int) ≤ j := by omega
   have hw1 : IntKind.i64.wrap ((j : Int) + 1) = (j : Int) + 1 := by rw [i64_w]; unfold wrap64; omega
   obtain ⟨ad, e, hl0, hl1, hl2, hl3, hl4, hl5, hl6, hl7, hl8, hl9, hl10, hl11⟩ := at_T39 (Kd.qaj HR0.out HI.out.hb) j hj0 hlt1
   cases e
   simp only [Int.toNat_natCast] at hl0 hl1 hl2 hl3 hl4 hl5 hl6 hl7 hl8 hl9 hl10 hl11
   have hf := HF.out
   rw [all_step loopB l0_0 z39 j hlt, show l0_0.getD j z39 = qal l0_0 (j : Int) from by simp [qal]] at hf
   generalize qal l0_0 (j : Int) = L at *
   have HC := qab.mk (talikref04_Loop.calls _ _ _ _ _ _ _ _ _ _ _ _ _ wr (rloop_eq L))
   obtain ⟨b, hb⟩ : ∃ b, b = loopB L := ⟨_, rfl⟩
   rw [← hb] at HC hf
   clear hb HF
   have hq0 : wr.cell? ⟨gb, 0, none⟩ = some (.slice (some ad) l0_0.length c0_0) := (qaa HI.out.b 0).trans rfl; have hq1 : wr.cell? ⟨gb, 1, none⟩ = some (.slice A0_1 l0_1.length c0_1) := (qaa HI.out.b 1).trans rfl; have hq2 : wr.cell? ⟨gb, 2, none⟩ = some (.slice A0_2 l0_2.length c0_2) := (qaa HI.out.b 2).trans rfl
   cases b with
   | false =>
    rw [Bool.false_and, Bool.false_and] at hf
    subst hf
    go_wp2_with (first | (go_at_call 58; with_reducible refine (HC.out).mono ?_; rintro e w3 ⟨rfl, hb⟩; replace HI := qab.mk (HI.out.below hb); clear hb hq0 hq1 hq2; have hq0 : w3.cell? ⟨gb, 0, none⟩ = some (.slice (some ad) l0_0.length c0_0) := (qaa HI.out.b 0).trans rfl; have hq1 : w3.cell? ⟨gb, 1, none⟩ = some (.slice A0_1 l0_1.length c0_1) := (qaa HI.out.b 1).trans rfl; have hq2 : w3.cell? ⟨gb, 2, none⟩ = some (.slice A0_2 l0_2.length c0_2) := (qaa HI.out.b 2).trans rfl))
    go_ret
    exact ⟨rfl, HI.out.hb⟩
   | true =>
    rw [Bool.true_and] at hf
    have HF := qab.mk hf
    clear hf
    go_wp2_with (first | (go_at_call 58; with_reducible refine (HC.out).mono ?_; rintro e w3 ⟨rfl, hb⟩; replace HI := qab.mk (HI.out.below hb); clear hb hq0 hq1 hq2; have hq0 : w3.cell? ⟨gb, 0, none⟩ = some (.slice (some ad) l0_0.length c0_0) := (qaa HI.out.b 0).trans rfl; have hq1 : w3.cell? ⟨gb, 1, none⟩ = some (.slice A0_1 l0_1.length c0_1) := (qaa HI.out.b 1).trans rfl; have hq2 : w3.cell? ⟨gb, 2, none⟩ = some (.slice A0_2 l0_2.length c0_2) := (qaa HI.out.b 2).trans rfl))
    go_roundw
    case rel => exact ⟨j + 1, by omega, by go_num, HF, HI⟩
    case measure => simp [intOf]; omega
  ·
   have he := HF.out
   rw [List.drop_eq_nil_of_le (by omega), List.all_nil, Bool.true_and] at he
   have HF0 : qab (((l0_1.drop 0).all (fun s => spanB s 0 1000) && R2) = r) := ⟨by rw [List.drop_zero, ← HE1.out]; exact he⟩
   clear HF he
   obtain ⟨wA, rfl⟩ : ∃ wa : World, wa = wr := ⟨_, rfl⟩
   have hq0 : wA.cell? ⟨gb, 0, none⟩ = some (.slice A0_0 l0_0.length c0_0) := (qaa HI.out.b 0).trans rfl; have hq1 : wA.cell? ⟨gb, 1, none⟩ = some (.slice A0_1 l0_1.length c0_1) := (qaa HI.out.b 1).trans rfl; have hq2 : wA.cell? ⟨gb, 2, none⟩ = some (.slice A0_2 l0_2.length c0_2) := (qaa HI.out.b 2).trans rfl
   go_wp2_with fail
   clear hq0 hq1 hq2
   go_loopw [4] (fun s4 wr => ∃ j : Nat, j ≤ l0_1.length ∧ s4 = .int .i64 j ∧ qab (((l0_1.drop j).all (fun s => spanB s 0 1000) && R2) = r) ∧ qab (BIN w gb #[.slice A0_0 l0_0.length c0_0, .slice A0_1 l0_1.length c0_1, .slice A0_2 l0_2.length c0_2] wr)) (fun s _ => l0_1.length - (intOf s).toNat)
   case atStart => exact ⟨0, by omega, rfl, HF0, HI⟩
   case round =>
    clear HI HF0
    obtain ⟨j, hj, rfl, HF, HI⟩ := hrel
    by_cases hlt : j < l0_1.length
    ·
     have hlt1 : (j : Int) < l0_1.length := by omega
     have hj0 : (0 : Int) ≤ j := by omega
     have hw1 : IntKind.i64.wrap ((j : Int) + 1) = (j : Int) + 1 := by rw [i64_w]; unfold wrap64; omega
     obtain ⟨ad, e, hl0, hl1⟩ := at_T37 (Kd.qaj HR1.out HI.out.hb) j hj0 hlt1
     cases e
     simp only [Int.toNat_natCast] at hl0 hl1
     have hf := HF.out
     rw [all_step (fun s => spanB s 0 1000) l0_1 z37 j hlt, show l0_1.getD j z37 = rd_T37 l0_1 (j : Int) from by simp [rd_T37]] at hf
     generalize rd_T37 l0_1 (j : Int) = F at *
     have HC := qab.mk (talikref04_Span_to (talikref04_Span.calls _ _ _ _ _ wr (rspan_eq F 0 1000)))
     obtain ⟨b, hb⟩ : ∃ b, b = spanB F 0 1000 := ⟨_, rfl⟩
     rw [← hb] at HC hf
     clear hb HF
     have hq0 : wr.cell? ⟨gb, 0, none⟩ = some (.slice A0_0 l0_0.length c0_0) := (qaa HI.out.b 0).trans rfl; have hq1 : wr.cell? ⟨gb, 1, none⟩ = some (.slice (some ad) l0_1.length c0_1) := (qaa HI.out.b 1).trans rfl; have hq2 : wr.cell? ⟨gb, 2, none⟩ = some (.slice A0_2 l0_2.length c0_2) := (qaa HI.out.b 2).trans rfl
     cases b with
     | false =>
      rw [Bool.false_and, Bool.false_and] at hf
      subst hf
      go_wp2_with (first | (go_at_call 59; with_reducible refine (HC.out).mono ?_; rintro e w3 ⟨rfl, hb⟩; replace HI := qab.mk (HI.out.below hb); clear hb hq0 hq1 hq2; have hq0 : w3.cell? ⟨gb, 0, none⟩ = some (.slice A0_0 l0_0.length c0_0) := (qaa HI.out.b 0).trans rfl; have hq1 : w3.cell? ⟨gb, 1, none⟩ = some (.slice (some ad) l0_1.length c0_1) := (qaa HI.out.b 1).trans rfl; have hq2 : w3.cell? ⟨gb, 2, none⟩ = some (.slice A0_2 l0_2.length c0_2) := (qaa HI.out.b 2).trans rfl))
      go_ret
      exact ⟨rfl, HI.out.hb⟩
     | true =>
      rw [Bool.true_and] at hf
      have HF := qab.mk hf
      clear hf
      go_wp2_with (first | (go_at_call 59; with_reducible refine (HC.out).mono ?_; rintro e w3 ⟨rfl, hb⟩; replace HI := qab.mk (HI.out.below hb); clear hb hq0 hq1 hq2; have hq0 : w3.cell? ⟨gb, 0, none⟩ = some (.slice A0_0 l0_0.length c0_0) := (qaa HI.out.b 0).trans rfl; have hq1 : w3.cell? ⟨gb, 1, none⟩ = some (.slice (some ad) l0_1.length c0_1) := (qaa HI.out.b 1).trans rfl; have hq2 : w3.cell? ⟨gb, 2, none⟩ = some (.slice A0_2 l0_2.length c0_2) := (qaa HI.out.b 2).trans rfl))
      go_roundw
      case rel => exact ⟨j + 1, by omega, by go_num, HF, HI⟩
      case measure => simp [intOf]; omega
    ·
     have he := HF.out
     rw [List.drop_eq_nil_of_le (by omega), List.all_nil, Bool.true_and] at he
     have HF0 : qab ((rowsR (l0_0.length + 1) (l0_2.drop 0) 0 && R3) = r) := ⟨by rw [List.drop_zero, ← HE2.out]; exact he⟩
     clear HF he
     obtain ⟨wB, rfl⟩ : ∃ wa : World, wa = wr := ⟨_, rfl⟩
     have hq0 : wB.cell? ⟨gb, 0, none⟩ = some (.slice A0_0 l0_0.length c0_0) := (qaa HI.out.b 0).trans rfl; have hq1 : wB.cell? ⟨gb, 1, none⟩ = some (.slice A0_1 l0_1.length c0_1) := (qaa HI.out.b 1).trans rfl; have hq2 : wB.cell? ⟨gb, 2, none⟩ = some (.slice A0_2 l0_2.length c0_2) := (qaa HI.out.b 2).trans rfl
     go_wp2_with fail
     clear hq0 hq1 hq2
     have hw2 : IntKind.i64.wrap ((l0_0.length : Int) + 1) = (l0_0.length : Int) + 1 := by rw [i64_w]; unfold wrap64; omega
     go_loopw [5] (fun s5 wr => ∃ i : Nat, i ≤ l0_2.length ∧ s5 = .int .i64 i ∧ qab ((rowsR (l0_0.length + 1) (l0_2.drop i) i && R3) = r) ∧ qab (BIN w gb #[.slice A0_0 l0_0.length c0_0, .slice A0_1 l0_1.length c0_1, .slice A0_2 l0_2.length c0_2] wr)) (fun s _ => l0_2.length - (intOf s).toNat)
     case atStart => exact ⟨0, by omega, rfl, HF0, HI⟩
     case round =>
      clear HI HF0
      obtain ⟨i, hi, rfl, HF, HI⟩ := hrel
      by_cases hlt : i < l0_2.length
      ·
       have hlt1 : (i : Int) < l0_2.length := by omega
       have hi0 : (0 : Int) ≤ i := by omega
       have hrl : (rd_L1 l0_2 (i : Int)).length ≤ 10 := by rw [rd_L1_at l0_2 i hlt]; exact HRW.out i hlt
       have hf := HF.out
       rw [rowsR_step _ l0_2 i hlt] at hf
       obtain ⟨wO, rfl⟩ : ∃ wo : World, wo = wr := ⟨_, rfl⟩
       obtain ⟨ad, rA, rc, e, hcell, hrc, hrC⟩ := at_L1 (Kd.qaj HR2.out HI.out.hb) i hi0 hlt1
       cases e
       simp only [Int.toNat_natCast] at hcell
       have HT : qab (∀ W, BIN w gb #[.slice A0_0 l0_0.length c0_0, .slice A0_1 l0_1.length c0_1, .slice (some ad) l0_2.length c0_2] W → W.cell? (ad.add i) = some (.slice rA (rd_L1 l0_2 i).length rc) → (W.cell? ⟨gb, 0, none⟩ = some (.slice A0_0 l0_0.length c0_0) ∧ W.cell? ⟨gb, 2, none⟩ = some (.slice (some ad) l0_2.length c0_2) ∧ W.cell? (ad.add i) = some (.slice rA (rd_L1 l0_2 i).length rc))) := ⟨fun W h hc => ⟨qaa h.b 0, qaa h.b 2, hc⟩⟩
       have HCELL := qab.mk hcell
       have HRC := qab.mk hrC
       by_cases hlen : (rd_L1 l0_2 (i : Int)).length = l0_0.length + 1
       ·
        have d1 : (((rd_L1 l0_2 (i : Int)).length : Int) != (l0_0.length : Int) + 1) = false := by rw [bne_eq_false_iff_eq]; omega
        rw [decide_eq_true hlen, Bool.true_and, Bool.and_assoc] at hf
        have HF0 : qab ((chkR i ((rd_L1 l0_2 (i : Int)).drop 0) 0 && (rowsR (l0_0.length + 1) (l0_2.drop (i + 1)) (i + 1) && R3)) = r) := ⟨by rw [List.drop_zero]; exact hf⟩
        clear hf HF
        have hq0 : wO.cell? ⟨gb, 0, none⟩ = some (.slice A0_0 l0_0.length c0_0) := (qaa HI.out.b 0).trans rfl; have hq1 : wO.cell? ⟨gb, 1, none⟩ = some (.slice A0_1 l0_1.length c0_1) := (qaa HI.out.b 1).trans rfl; have hq2 : wO.cell? ⟨gb, 2, none⟩ = some (.slice (some ad) l0_2.length c0_2) := (qaa HI.out.b 2).trans rfl
        go_upto_region 14 with fail
        clear hq0 hq1 hq2
        refine start_ (n := 11) (S := (fun w' => (w'.cell? ⟨gb, 0, none⟩ = some (.slice A0_0 l0_0.length c0_0) ∧ w'.cell? ⟨gb, 2, none⟩ = some (.slice (some ad) l0_2.length c0_2) ∧ w'.cell? (ad.add i) = some (.slice rA (rd_L1 l0_2 i).length rc)))) (ds := []) (msk 11 0) (by kernel_rfl) rfl rfl (HT.out wO.drew (HI.out.below (qbb (Below.refl _ _))) (hcell.trans rfl)) (fun hHeld => ?_)
        refine pure_ (i := 0) (N := some 42) (v := ?_) (a' := ?_) (msk 11 1) rfl rfl (by kernel_rfl) (fun _ _ _ h => h) (Or.inl ⟨by rfl, ?_⟩) ?_ ?_; rotate_left; (focus (intro w'; go_simp; with_reducible rfl)); rotate_left; (focus (simp only [Act.put, qzA, qzB, qzC, i64_w, i32_w]; rfl))
        refine take_ (i := 1) (N := some 43) (v := ?_) (a' := ?_) (msk 11 2) rfl rfl (by kernel_rfl) (fun _ _ _ h => h) (Or.inl ⟨by rfl, ?_⟩) hHeld ?_ ?_; rotate_left; (focus (rintro w' ⟨s0, s1, s2⟩; go_simp; with_reducible rfl)); rotate_left; (focus (simp only [Act.put, qzA, qzB, qzC, i64_w, i32_w]; rfl))
        refine pure_ (i := 2) (N := some 44) (v := ?_) (a' := ?_) (msk 11 3) rfl rfl (by kernel_rfl) (fun _ _ _ h => h) (Or.inl ⟨by rfl, ?_⟩) ?_ ?_; rotate_left; (focus (intro w'; go_simp; with_reducible rfl)); rotate_left; (focus (simp only [Act.put, qzA, qzB, qzC, i64_w, i32_w]; rfl))
        refine pure_ (i := 3) (N := some 45) (v := ?_) (a' := ?_) (msk 11 4) rfl rfl (by kernel_rfl) (fun _ _ _ h => h) (Or.inl ⟨by rfl, ?_⟩) ?_ ?_; rotate_left; (focus (intro w'; go_simp; with_reducible rfl)); rotate_left; (focus (simp only [Act.put, qzA, qzB, qzC, i64_w, i32_w]; rfl))
        refine take_ (i := 4) (N := some 46) (v := ?_) (a' := ?_) (msk 11 5) rfl rfl (by kernel_rfl) (fun _ _ _ h => h) (Or.inl ⟨by rfl, ?_⟩) hHeld ?_ ?_; rotate_left; (focus (rintro w' ⟨s0, s1, s2⟩; go_simp; with_reducible rfl)); rotate_left; (focus (simp only [Act.put, qzA, qzB, qzC, i64_w, i32_w]; rfl))
        refine pure_ (i := 5) (N := some 47) (v := ?_) (a' := ?_) (msk 11 6) rfl rfl (by kernel_rfl) (fun _ _ _ h => h) (Or.inl ⟨by rfl, ?_⟩) ?_ ?_; rotate_left; (focus (intro w'; go_simp; with_reducible rfl)); rotate_left; (focus (simp only [Act.put, qzA, qzB, qzC, i64_w, i32_w]; rfl))
        refine pure_ (i := 6) (N := some 48) (v := ?_) (a' := ?_) (msk 11 7) rfl rfl (by kernel_rfl) (fun _ _ _ h => h) (Or.inl ⟨by rfl, ?_⟩) ?_ ?_; rotate_left; (focus (intro w'; go_simp; with_reducible rfl)); rotate_left; (focus (simp only [Act.put, qzA, qzB, qzC, i64_w, i32_w]; rfl))
        refine take_ (i := 7) (N := some 49) (v := ?_) (a' := ?_) (msk 11 8) rfl rfl (by kernel_rfl) (fun _ _ _ h => h) (Or.inl ⟨by rfl, ?_⟩) hHeld ?_ ?_; rotate_left; (focus (rintro w' ⟨s0, s1, s2⟩; go_simp; with_reducible rfl)); rotate_left; (focus (simp only [Act.put, qzA, qzB, qzC, i64_w, i32_w]; rfl))
        refine pure_ (i := 8) (N := some 50) (v := ?_) (a' := ?_) (msk 11 9) rfl rfl (by kernel_rfl) (fun _ _ _ h => h) (Or.inl ⟨by rfl, ?_⟩) ?_ ?_; rotate_left; (focus (intro w'; go_simp; with_reducible rfl)); rotate_left; (focus (simp only [Act.put, qzA, qzB, qzC, i64_w, i32_w]; rfl))
        refine pure_ (i := 9) (N := some 51) (v := ?_) (a' := ?_) (msk 11 10) rfl rfl (by kernel_rfl) (fun _ _ _ h => h) (Or.inl ⟨by rfl, ?_⟩) ?_ ?_; rotate_left; (focus (intro w'; go_simp; with_reducible rfl)); rotate_left; (focus (simp only [Act.put, qzA, qzB, qzC, i64_w, i32_w]; rfl))
        refine pure_ (i := 10) (N := some 52) (v := ?_) (a' := ?_) (msk 11 11) rfl rfl (by kernel_rfl) (fun _ _ _ h => h) (Or.inl ⟨by rfl, ?_⟩) ?_ ?_; rotate_left; (focus (intro w'; go_simp; with_reducible rfl)); rotate_left; (focus (simp only [Act.put, qzA, qzB, qzC, i64_w, i32_w]; rfl))
        refine done_ (by kernel_rfl) ?_
        have n_HI := qab.mk (HI.out.below (qbb (Below.refl wO.heap.size wO)))
        clear HI
        have HI := n_HI
        clear n_HI HT
        have n_HC := qab.mk ((qbb (Below.refl wO.heap.size wO)).cell (World.block_lt_of_cell? _ _ HCELL.out) |>.trans HCELL.out)
        have n_HR := qab.mk (Kd.qaj HRC.out (qbb (Below.refl wO.heap.size wO)))
        clear HCELL HRC hcell hrC
        have HCELL := n_HC
        have HRC := n_HR
        clear n_HC n_HR
        generalize wO.drew = wP at HI HCELL HRC ⊢
        go_wp2_with fail
        go_loopw [6] (fun s6 wr => ∃ k : Nat, k ≤ (rd_L1 l0_2 (i : Int)).length ∧ s6 = .int .i64 k ∧ qab ((chkR i ((rd_L1 l0_2 (i : Int)).drop k) k && (rowsR (l0_0.length + 1) (l0_2.drop (i + 1)) (i + 1) && R3)) = r) ∧ qab (BIN w gb #[.slice A0_0 l0_0.length c0_0, .slice A0_1 l0_1.length c0_1, .slice (some ad) l0_2.length c0_2] wr) ∧ qab (Below wP.heap.size wP wr)) (fun s _ => (rd_L1 l0_2 (i : Int)).length - (intOf s).toNat)
        case atStart => exact ⟨0, by omega, rfl, HF0, HI, ⟨Below.refl _ _⟩⟩
        case round =>
         clear HI HF0
         obtain ⟨k, hk, rfl, HF, HI, HBP⟩ := hrel
         have hcell := ((HBP.out.cell (World.block_lt_of_cell? _ _ HCELL.out)).trans HCELL.out)
         by_cases hlt2 : k < (rd_L1 l0_2 (i : Int)).length
         ·
          have hlt3 : (k : Int) < (rd_L1 l0_2 (i : Int)).length := by omega
          have hk0 : (0 : Int) ≤ k := by omega
          have hw1 : IntKind.i64.wrap ((k : Int) + 1) = (k : Int) + 1 := by rw [i64_w]; unfold wrap64; omega
          have hf := HF.out
          rw [chkR_step i _ k hlt2] at hf
          obtain ⟨ad3, e, hx⟩ := Kd.at_int HRC.out k hk0 hlt3
          subst e
          have HXX := qab.mk hx
          have hx' := (HBP.out.cell (World.block_lt_of_cell? _ _ hx)).trans hx
          simp only [Int.toNat_natCast] at hx'
          clear hx
          generalize rd (rd_L1 l0_2 (i : Int)) (k : Int) = x at hf hx'
          have HC := qab.mk (in60 x 0 72 wr)
          obtain ⟨b, hb⟩ : ∃ b, b = inB x 0 72 := ⟨_, rfl⟩
          rw [← hb] at HC hf
          clear hb HF HXX
          have hq0 : wr.cell? ⟨gb, 0, none⟩ = some (.slice A0_0 l0_0.length c0_0) := (qaa HI.out.b 0).trans rfl; have hq1 : wr.cell? ⟨gb, 1, none⟩ = some (.slice A0_1 l0_1.length c0_1) := (qaa HI.out.b 1).trans rfl; have hq2 : wr.cell? ⟨gb, 2, none⟩ = some (.slice (some ad) l0_2.length c0_2) := (qaa HI.out.b 2).trans rfl
          cases b with
          | false =>
           rw [Bool.false_and, Bool.false_and] at hf
           subst hf
           go_wp2_with (first | (go_at_call 60; with_reducible refine HC.out.mono ?_; rintro e w4 ⟨rfl, hb⟩; have n_HI := qab.mk (HI.out.below hb); have n_HBP := qab.mk (qad HBP.out hb); have n_c := (hb.cell (World.block_lt_of_cell? _ _ hcell)).trans hcell; have n_x := (hb.cell (World.block_lt_of_cell? _ _ hx')).trans hx'; clear HI HBP hcell hx' hb hq0 hq1 hq2; have HI := n_HI; have HBP := n_HBP; have hcell := n_c; have hx' := n_x; clear n_HI n_HBP n_c n_x; have hq0 : w4.cell? ⟨gb, 0, none⟩ = some (.slice A0_0 l0_0.length c0_0) := (qaa HI.out.b 0).trans rfl; have hq1 : w4.cell? ⟨gb, 1, none⟩ = some (.slice A0_1 l0_1.length c0_1) := (qaa HI.out.b 1).trans rfl; have hq2 : w4.cell? ⟨gb, 2, none⟩ = some (.slice (some ad) l0_2.length c0_2) := (qaa HI.out.b 2).trans rfl))
           go_ret
           exact ⟨rfl, HI.out.hb⟩
          | true =>
           rw [Bool.true_and] at hf
           by_cases hik : i = k
           ·
            have e1 : ((i : Int) == (k : Int)) = true := by simp [hik]
            have e2 : (i != k) = false := by simp [hik]
            rw [e2, Bool.false_or] at hf
            clear hik e2
            by_cases hx0 : x = 0
            ·
             have e3 : (x != 0) = false := by simp [hx0]
             have e4 : (x == 0) = true := by simp [hx0]
             rw [e4, Bool.true_and] at hf
             clear hx0 e4
             have HF := qab.mk hf
             clear hf
             go_wp2_with (first | (go_at_call 60; with_reducible refine HC.out.mono ?_; rintro e w4 ⟨rfl, hb⟩; have n_HI := qab.mk (HI.out.below hb); have n_HBP := qab.mk (qad HBP.out hb); have n_c := (hb.cell (World.block_lt_of_cell? _ _ hcell)).trans hcell; have n_x := (hb.cell (World.block_lt_of_cell? _ _ hx')).trans hx'; clear HI HBP hcell hx' hb hq0 hq1 hq2; have HI := n_HI; have HBP := n_HBP; have hcell := n_c; have hx' := n_x; clear n_HI n_HBP n_c n_x; have hq0 : w4.cell? ⟨gb, 0, none⟩ = some (.slice A0_0 l0_0.length c0_0) := (qaa HI.out.b 0).trans rfl; have hq1 : w4.cell? ⟨gb, 1, none⟩ = some (.slice A0_1 l0_1.length c0_1) := (qaa HI.out.b 1).trans rfl; have hq2 : w4.cell? ⟨gb, 2, none⟩ = some (.slice (some ad) l0_2.length c0_2) := (qaa HI.out.b 2).trans rfl))
             go_roundw
             case rel => exact ⟨k + 1, by omega, by go_num, HF, HI, HBP⟩
             case measure => simp [intOf]; omega
            ·
             have e3 : (x != 0) = true := by simp [hx0]
             have e4 : (x == 0) = false := by simp [hx0]
             rw [e4, Bool.false_and, Bool.false_and] at hf
             clear hx0 e4
             subst hf
             go_wp2_with (first | (go_at_call 60; with_reducible refine HC.out.mono ?_; rintro e w4 ⟨rfl, hb⟩; have n_HI := qab.mk (HI.out.below hb); have n_HBP := qab.mk (qad HBP.out hb); have n_c := (hb.cell (World.block_lt_of_cell? _ _ hcell)).trans hcell; have n_x := (hb.cell (World.block_lt_of_cell? _ _ hx')).trans hx'; clear HI HBP hcell hx' hb hq0 hq1 hq2; have HI := n_HI; have HBP := n_HBP; have hcell := n_c; have hx' := n_x; clear n_HI n_HBP n_c n_x; have hq0 : w4.cell? ⟨gb, 0, none⟩ = some (.slice A0_0 l0_0.length c0_0) := (qaa HI.out.b 0).trans rfl; have hq1 : w4.cell? ⟨gb, 1, none⟩ = some (.slice A0_1 l0_1.length c0_1) := (qaa HI.out.b 1).trans rfl; have hq2 : w4.cell? ⟨gb, 2, none⟩ = some (.slice (some ad) l0_2.length c0_2) := (qaa HI.out.b 2).trans rfl))
             go_ret
             exact ⟨rfl, HI.out.hb⟩
           ·
            have e1 : ((i : Int) == (k : Int)) = false := by simp; omega
            have e2 : (i != k) = true := by simp [hik]
            rw [e2, Bool.true_or, Bool.true_and] at hf
            have HF := qab.mk hf
            clear hf
            go_wp2_with (first | (go_at_call 60; with_reducible refine HC.out.mono ?_; rintro e w4 ⟨rfl, hb⟩; have n_HI := qab.mk (HI.out.below hb); have n_HBP := qab.mk (qad HBP.out hb); have n_c := (hb.cell (World.block_lt_of_cell? _ _ hcell)).trans hcell; have n_x := (hb.cell (World.block_lt_of_cell? _ _ hx')).trans hx'; clear HI HBP hcell hx' hb hq0 hq1 hq2; have HI := n_HI; have HBP := n_HBP; have hcell := n_c; have hx' := n_x; clear n_HI n_HBP n_c n_x; have hq0 : w4.cell? ⟨gb, 0, none⟩ = some (.slice A0_0 l0_0.length c0_0) := (qaa HI.out.b 0).trans rfl; have hq1 : w4.cell? ⟨gb, 1, none⟩ = some (.slice A0_1 l0_1.length c0_1) := (qaa HI.out.b 1).trans rfl; have hq2 : w4.cell? ⟨gb, 2, none⟩ = some (.slice (some ad) l0_2.length c0_2) := (qaa HI.out.b 2).trans rfl))
            go_roundw
            case rel => exact ⟨k + 1, by omega, by go_num, HF, HI, HBP⟩
            case measure => simp [intOf]; omega
         ·
          have he := HF.out
          rw [List.drop_eq_nil_of_le (by omega)] at he
          have HF0 : qab ((rowsR (l0_0.length + 1) (l0_2.drop (i + 1)) (i + 1) && R3) = r) := ⟨by simpa [chkR] using he⟩
          clear HF he
          have hw1 : IntKind.i64.wrap ((i : Int) + 1) = (i : Int) + 1 := by rw [i64_w]; unfold wrap64; omega
          have hq0 : wr.cell? ⟨gb, 0, none⟩ = some (.slice A0_0 l0_0.length c0_0) := (qaa HI.out.b 0).trans rfl; have hq1 : wr.cell? ⟨gb, 1, none⟩ = some (.slice A0_1 l0_1.length c0_1) := (qaa HI.out.b 1).trans rfl; have hq2 : wr.cell? ⟨gb, 2, none⟩ = some (.slice (some ad) l0_2.length c0_2) := (qaa HI.out.b 2).trans rfl
          go_wp2_with fail
          go_roundw
          case rel => exact ⟨i + 1, by omega, by go_num, HF0, HI⟩
          case measure => simp [intOf]; omega
       ·
        have d1 : (((rd_L1 l0_2 (i : Int)).length : Int) != (l0_0.length : Int) + 1) = true := by rw [bne_iff_ne]; omega
        rw [decide_eq_false hlen, Bool.false_and, Bool.false_and] at hf
        subst hf
        have hq0 : wO.cell? ⟨gb, 0, none⟩ = some (.slice A0_0 l0_0.length c0_0) := (qaa HI.out.b 0).trans rfl; have hq1 : wO.cell? ⟨gb, 1, none⟩ = some (.slice A0_1 l0_1.length c0_1) := (qaa HI.out.b 1).trans rfl; have hq2 : wO.cell? ⟨gb, 2, none⟩ = some (.slice (some ad) l0_2.length c0_2) := (qaa HI.out.b 2).trans rfl
        go_upto_region 14 with fail
        clear hq0 hq1 hq2
        refine start_ (n := 11) (S := (fun w' => (w'.cell? ⟨gb, 0, none⟩ = some (.slice A0_0 l0_0.length c0_0) ∧ w'.cell? ⟨gb, 2, none⟩ = some (.slice (some ad) l0_2.length c0_2) ∧ w'.cell? (ad.add i) = some (.slice rA (rd_L1 l0_2 i).length rc)))) (ds := []) (msk 11 0) (by kernel_rfl) rfl rfl (HT.out wO.drew (HI.out.below (qbb (Below.refl _ _))) (hcell.trans rfl)) (fun hHeld => ?_)
        refine pure_ (i := 0) (N := some 42) (v := ?_) (a' := ?_) (msk 11 1) rfl rfl (by kernel_rfl) (fun _ _ _ h => h) (Or.inl ⟨by rfl, ?_⟩) ?_ ?_; rotate_left; (focus (intro w'; go_simp; with_reducible rfl)); rotate_left; (focus (simp only [Act.put, qzA, qzB, qzC, i64_w, i32_w]; rfl))
        refine take_ (i := 1) (N := some 43) (v := ?_) (a' := ?_) (msk 11 2) rfl rfl (by kernel_rfl) (fun _ _ _ h => h) (Or.inl ⟨by rfl, ?_⟩) hHeld ?_ ?_; rotate_left; (focus (rintro w' ⟨s0, s1, s2⟩; go_simp; with_reducible rfl)); rotate_left; (focus (simp only [Act.put, qzA, qzB, qzC, i64_w, i32_w]; rfl))
        refine pure_ (i := 2) (N := some 44) (v := ?_) (a' := ?_) (msk 11 3) rfl rfl (by kernel_rfl) (fun _ _ _ h => h) (Or.inl ⟨by rfl, ?_⟩) ?_ ?_; rotate_left; (focus (intro w'; go_simp; with_reducible rfl)); rotate_left; (focus (simp only [Act.put, qzA, qzB, qzC, i64_w, i32_w]; rfl))
        refine pure_ (i := 3) (N := some 45) (v := ?_) (a' := ?_) (msk 11 4) rfl rfl (by kernel_rfl) (fun _ _ _ h => h) (Or.inl ⟨by rfl, ?_⟩) ?_ ?_; rotate_left; (focus (intro w'; go_simp; with_reducible rfl)); rotate_left; (focus (simp only [Act.put, qzA, qzB, qzC, i64_w, i32_w]; rfl))
        refine take_ (i := 4) (N := some 46) (v := ?_) (a' := ?_) (msk 11 5) rfl rfl (by kernel_rfl) (fun _ _ _ h => h) (Or.inl ⟨by rfl, ?_⟩) hHeld ?_ ?_; rotate_left; (focus (rintro w' ⟨s0, s1, s2⟩; go_simp; with_reducible rfl)); rotate_left; (focus (simp only [Act.put, qzA, qzB, qzC, i64_w, i32_w]; rfl))
        refine pure_ (i := 5) (N := some 47) (v := ?_) (a' := ?_) (msk 11 6) rfl rfl (by kernel_rfl) (fun _ _ _ h => h) (Or.inl ⟨by rfl, ?_⟩) ?_ ?_; rotate_left; (focus (intro w'; go_simp; with_reducible rfl)); rotate_left; (focus (simp only [Act.put, qzA, qzB, qzC, i64_w, i32_w]; rfl))
        refine pure_ (i := 6) (N := some 48) (v := ?_) (a' := ?_) (msk 11 7) rfl rfl (by kernel_rfl) (fun _ _ _ h => h) (Or.inl ⟨by rfl, ?_⟩) ?_ ?_; rotate_left; (focus (intro w'; go_simp; with_reducible rfl)); rotate_left; (focus (simp only [Act.put, qzA, qzB, qzC, i64_w, i32_w]; rfl))
        refine take_ (i := 7) (N := some 49) (v := ?_) (a' := ?_) (msk 11 8) rfl rfl (by kernel_rfl) (fun _ _ _ h => h) (Or.inl ⟨by rfl, ?_⟩) hHeld ?_ ?_; rotate_left; (focus (rintro w' ⟨s0, s1, s2⟩; go_simp; with_reducible rfl)); rotate_left; (focus (simp only [Act.put, qzA, qzB, qzC, i64_w, i32_w]; rfl))
        refine pure_ (i := 8) (N := some 50) (v := ?_) (a' := ?_) (msk 11 9) rfl rfl (by kernel_rfl) (fun _ _ _ h => h) (Or.inl ⟨by rfl, ?_⟩) ?_ ?_; rotate_left; (focus (intro w'; go_simp; with_reducible rfl)); rotate_left; (focus (simp only [Act.put, qzA, qzB, qzC, i64_w, i32_w]; rfl))
        refine pure_ (i := 9) (N := some 51) (v := ?_) (a' := ?_) (msk 11 10) rfl rfl (by kernel_rfl) (fun _ _ _ h => h) (Or.inl ⟨by rfl, ?_⟩) ?_ ?_; rotate_left; (focus (intro w'; go_simp; with_reducible rfl)); rotate_left; (focus (simp only [Act.put, qzA, qzB, qzC, i64_w, i32_w]; rfl))
        refine pure_ (i := 10) (N := some 52) (v := ?_) (a' := ?_) (msk 11 11) rfl rfl (by kernel_rfl) (fun _ _ _ h => h) (Or.inl ⟨by rfl, ?_⟩) ?_ ?_; rotate_left; (focus (intro w'; go_simp; with_reducible rfl)); rotate_left; (focus (simp only [Act.put, qzA, qzB, qzC, i64_w, i32_w]; rfl))
        refine done_ (by kernel_rfl) ?_
        go_wp2_with fail
        go_ret
        exact ⟨rfl, qbb HI.out.hb⟩
      ·
       have he := HF.out
       rw [List.drop_eq_nil_of_le (by omega)] at he
       have HF0 : qab (R3 = r) := ⟨by simpa [rowsR] using he⟩
       clear HF he
       have hr := HF0.out.symm.trans HE3.out
       unfold finR at hr
       have C1 := in60 (l0_0.length : Int) 1 5
       have C2 := in60 (l0_1.length : Int) 1 72
       obtain ⟨b1, h1⟩ : ∃ b, b = inB (l0_0.length : Int) 1 5 := ⟨_, rfl⟩
       obtain ⟨b2, h2⟩ : ∃ b, b = inB (l0_1.length : Int) 1 72 := ⟨_, rfl⟩
       rw [← h1] at C1 hr
       rw [← h2] at C2 hr
       have HC1 := qab.mk C1
       have HC2 := qab.mk C2
       clear C1 C2 h1 h2 HF0
       have hq0 : wr.cell? ⟨gb, 0, none⟩ = some (.slice A0_0 l0_0.length c0_0) := (qaa HI.out.b 0).trans rfl; have hq1 : wr.cell? ⟨gb, 1, none⟩ = some (.slice A0_1 l0_1.length c0_1) := (qaa HI.out.b 1).trans rfl; have hq2 : wr.cell? ⟨gb, 2, none⟩ = some (.slice A0_2 l0_2.length c0_2) := (qaa HI.out.b 2).trans rfl
       cases b1 with
       | false =>
        rw [Bool.false_and] at hr
        subst hr
        go_wp2_with (first | (go_at_call 60; with_reducible refine (HC1.out _).mono ?_; rintro e w4 ⟨rfl, hb⟩; replace HI := qab.mk (HI.out.below hb); clear hb hq0 hq1 hq2; have hq0 : w4.cell? ⟨gb, 0, none⟩ = some (.slice A0_0 l0_0.length c0_0) := (qaa HI.out.b 0).trans rfl; have hq1 : w4.cell? ⟨gb, 1, none⟩ = some (.slice A0_1 l0_1.length c0_1) := (qaa HI.out.b 1).trans rfl; have hq2 : w4.cell? ⟨gb, 2, none⟩ = some (.slice A0_2 l0_2.length c0_2) := (qaa HI.out.b 2).trans rfl))
        go_ret
        exact ⟨rfl, HI.out.hb⟩
       | true =>
        rw [Bool.true_and] at hr
        cases b2 with
        | false =>
         rw [Bool.false_and] at hr
         subst hr
         go_wp2_with (first | (go_at_call 60; with_reducible refine (HC1.out _).mono ?_; rintro e w4 ⟨rfl, hb⟩; replace HI := qab.mk (HI.out.below hb); clear hb hq0 hq1 hq2; have hq0 : w4.cell? ⟨gb, 0, none⟩ = some (.slice A0_0 l0_0.length c0_0) := (qaa HI.out.b 0).trans rfl; have hq1 : w4.cell? ⟨gb, 1, none⟩ = some (.slice A0_1 l0_1.length c0_1) := (qaa HI.out.b 1).trans rfl; have hq2 : w4.cell? ⟨gb, 2, none⟩ = some (.slice A0_2 l0_2.length c0_2) := (qaa HI.out.b 2).trans rfl) | (go_at_call 60; with_reducible refine (HC2.out _).mono ?_; rintro e w5 ⟨rfl, hb⟩; replace HI := qab.mk (HI.out.below hb); clear hb hq0 hq1 hq2; have hq0 : w5.cell? ⟨gb, 0, none⟩ = some (.slice A0_0 l0_0.length c0_0) := (qaa HI.out.b 0).trans rfl; have hq1 : w5.cell? ⟨gb, 1, none⟩ = some (.slice A0_1 l0_1.length c0_1) := (qaa HI.out.b 1).trans rfl; have hq2 : w5.cell? ⟨gb, 2, none⟩ = some (.slice A0_2 l0_2.length c0_2) := (qaa HI.out.b 2).trans rfl))
         go_ret
         exact ⟨rfl, HI.out.hb⟩
        | true =>
         rw [Bool.true_and] at hr
         have hq : ((l0_2.length : Int) == (l0_0.length : Int) + 1) = r := by rw [hr, Bool.eq_iff_iff, beq_iff_eq, decide_eq_true_eq]; omega
         clear hr
         go_wp2_with (first | (go_at_call 60; with_reducible refine (HC1.out _).mono ?_; rintro e w4 ⟨rfl, hb⟩; replace HI := qab.mk (HI.out.below hb); clear hb hq0 hq1 hq2; have hq0 : w4.cell? ⟨gb, 0, none⟩ = some (.slice A0_0 l0_0.length c0_0) := (qaa HI.out.b 0).trans rfl; have hq1 : w4.cell? ⟨gb, 1, none⟩ = some (.slice A0_1 l0_1.length c0_1) := (qaa HI.out.b 1).trans rfl; have hq2 : w4.cell? ⟨gb, 2, none⟩ = some (.slice A0_2 l0_2.length c0_2) := (qaa HI.out.b 2).trans rfl) | (go_at_call 60; with_reducible refine (HC2.out _).mono ?_; rintro e w5 ⟨rfl, hb⟩; replace HI := qab.mk (HI.out.below hb); clear hb hq0 hq1 hq2; have hq0 : w5.cell? ⟨gb, 0, none⟩ = some (.slice A0_0 l0_0.length c0_0) := (qaa HI.out.b 0).trans rfl; have hq1 : w5.cell? ⟨gb, 1, none⟩ = some (.slice A0_1 l0_1.length c0_1) := (qaa HI.out.b 1).trans rfl; have hq2 : w5.cell? ⟨gb, 2, none⟩ = some (.slice A0_2 l0_2.length c0_2) := (qaa HI.out.b 2).trans rfl))
         go_ret
         exact ⟨by first | rfl | (rw [hq]), HI.out.hb⟩
end Go.Proofs.Ytipphcjgdebecaa.PA
