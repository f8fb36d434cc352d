/- What functions of the program answer. No condition. -/
import Derived.Test.YtipphcjgdebecaaSC
import Derived.Test.YtipphcjgdebecaaSF
import Derived.Test.YtipphcjgdebecaaSG
import Derived.Test.YtipphcjgdebecaaSM
import Derived.RangeFuncNested
import Derived.RangeFuncBound
import Derived.RangeFuncCalls
import Derived.RangeFuncLeaves
import Derived.RangeFuncBox
import Derived.Shelf.Abstract
import Derived.Shelf.RegionOpen
import Derived.OwnWalkIn
import Derived.TacticsInMore
import Derived.LoopNIn
import Derived.LoopIn
import Derived.Recover
import Derived.Defers
import Derived.WalkLawsBesides
import Derived.WalkSmall
import Derived.Test.YtipphcjgdebecaaSE
import Derived.Test.YtipphcjgdebecaaSL
set_option linter.all false
set_option maxRecDepth 100000
set_option maxHeartbeats 8000000
namespace Go.Proofs.Ytipphcjgdebecaa.PA
open Go.RowKit Go.Proofs.YtipphcjgdebecaaW.PrintWords Go.Proofs.YtipphcjgdebecaaW.PrintLast Go.Proofs.YtipphcjgdebecaaW.PrintMore
attribute [local go_sem] qas qau max_two min_two qao qap qat qav
def talikref04_Span.f (a0_0 : Int) (a0_1 : Int) (a1 : Int) (a2 : Int) : Option (Bool) := if a0_0 ≥ a1 then (if a0_0 ≤ a0_1 then (some (decide (a0_1 ≤ a2))) else (some false)) else (some false)
theorem talikref04_Span.calls (a0_0 : Int) (a0_1 : Int) (a1 : Int) (a2 : Int) (r : Bool) (w : World) (h : talikref04_Span.f a0_0 a0_1 a1 a2 = some r) :
  Calls Try.prog 59 #[.agg #[.int .i64 a0_0, .int .i64 a0_1], .int .i64 a1, .int .i64 a2] w fun e w' => e = .returned (.bool r) ∧ Below w.heap.size w w' := by
 have hu37 := Try.underlying37
 have HB := qab.mk (Below.refl w.heap.size w)
 have H : (if a0_0 ≥ a1 then (if a0_0 ≤ a0_1 then (some (decide (a0_1 ≤ a2))) else (some false)) else (some false)) = some r := h
 clear h
 by_cases c4 : a0_0 ≥ a1
 ·
  rw [if_pos c4] at H
  have c4b0 : decide (a1 ≤ a0_0) = true := decide_eq_true c4
  clear c4
  by_cases c5 : a0_0 ≤ a0_1
  ·
   rw [if_pos c5] at H
   have c5b0 : decide (a0_0 ≤ a0_1) = true := decide_eq_true c5
   clear c5
   obtain rfl := Option.some.inj H
   go_enter Try.func59, Try.ntmps59
   go_wp2_with (first | ((with_reducible refine qam (N := 3) rfl ?_); refine qal ?hg (N := 3) ?hd (cs := #[.int .i64 a0_0, .int .i64 a0_1]) (t := 37) ?hr ?_; (case hd => rfl); (case hg => rfl); (case hr => first | (go_simp; done) | (go_simp; rfl)); intro gb151 hg w6 hbox hb; have n0_ := qab.mk (qad (by repeat (first | (with_reducible first | exact HB.out | apply qag | apply qaf | apply qah) | exact HB.out)) hb); have n1_ := qab.mk (hbox); have n2_ := qab.mk ((by rw [hg]; exact (qar (by repeat (first | (with_reducible first | exact HB.out | apply qag | apply qaf | apply qah) | exact HB.out))) : w.heap.size ≤ gb151)); have n3_ := qab.mk ((by rw [hg]; exact (qar (by repeat (first | (with_reducible first | exact HB.out | apply qag | apply qaf | apply qah) | exact HB.out))) : w.heap.size ≤ gb151)); clear HB; have HB := n0_; have BK151 := n1_; have GW151 := n2_; have GE151 := n3_; clear n0_ n1_ n2_ n3_; clear hb hbox hg; have hcz7_0 : w6.cell? ⟨gb151, 0, none⟩ = some (.int .i64 a0_0) := (qaa BK151.out 0).trans rfl; have hcz7_1 : w6.cell? ⟨gb151, 1, none⟩ = some (.int .i64 a0_1) := (qaa BK151.out 1).trans rfl; have hfz7_0 := qac BK151.out 0; have hfz7_1 := qac BK151.out 1))
   go_ret
   exact ⟨by first | rfl | (simp [errW_none, errW_some] <;> rfl) | (simp [*, errW_none, errW_some] <;> rfl), by repeat (first | (with_reducible first | exact HB.out | apply qag | apply qaf | apply qah | refine qai ?_ GE151.out) | exact HB.out)⟩
  ·
   rw [if_neg c5] at H
   have c5b0 : decide (a0_0 ≤ a0_1) = false := decide_eq_false c5
   clear c5
   obtain rfl := Option.some.inj H
   go_enter Try.func59, Try.ntmps59
   go_wp2_with (first | ((with_reducible refine qam (N := 3) rfl ?_); refine qal ?hg (N := 3) ?hd (cs := #[.int .i64 a0_0, .int .i64 a0_1]) (t := 37) ?hr ?_; (case hd => rfl); (case hg => rfl); (case hr => first | (go_simp; done) | (go_simp; rfl)); intro gb151 hg w8 hbox hb; have n0_ := qab.mk (qad (by repeat (first | (with_reducible first | exact HB.out | apply qag | apply qaf | apply qah) | exact HB.out)) hb); have n1_ := qab.mk (hbox); have n2_ := qab.mk ((by rw [hg]; exact (qar (by repeat (first | (with_reducible first | exact HB.out | apply qag | apply qaf | apply qah) | exact HB.out))) : w.heap.size ≤ gb151)); have n3_ := qab.mk ((by rw [hg]; exact (qar (by repeat (first | (with_reducible first | exact HB.out | apply qag | apply qaf | apply qah) | exact HB.out))) : w.heap.size ≤ gb151)); clear HB; have HB := n0_; have BK151 := n1_; have GW151 := n2_; have GE151 := n3_; clear n0_ n1_ n2_ n3_; clear hb hbox hg; have hcz9_0 : w8.cell? ⟨gb151, 0, none⟩ = some (.int .i64 a0_0) := (qaa BK151.out 0).trans rfl; have hcz9_1 : w8.cell? ⟨gb151, 1, none⟩ = some (.int .i64 a0_1) := (qaa BK151.out 1).trans rfl; have hfz9_0 := qac BK151.out 0; have hfz9_1 := qac BK151.out 1))
   go_ret
   exact ⟨by first | rfl | (simp [errW_none, errW_some] <;> rfl) | (simp [*, errW_none, errW_some] <;> rfl), by repeat (first | (with_reducible first | exact HB.out | apply qag | apply qaf | apply qah | refine qai ?_ GE151.out) | exact HB.out)⟩
 ·
  rw [if_neg c4] at H
  have c4b0 : decide (a1 ≤ a0_0) = false := decide_eq_false c4
  clear c4
  obtain rfl := Option.some.inj H
  go_enter Try.func59, Try.ntmps59
  go_wp2_with (first | ((with_reducible refine qam (N := 3) rfl ?_); refine qal ?hg (N := 3) ?hd (cs := #[.int .i64 a0_0, .int .i64 a0_1]) (t := 37) ?hr ?_; (case hd => rfl); (case hg => rfl); (case hr => first | (go_simp; done) | (go_simp; rfl)); intro gb151 hg w10 hbox hb; have n0_ := qab.mk (qad (by repeat (first | (with_reducible first | exact HB.out | apply qag | apply qaf | apply qah) | exact HB.out)) hb); have n1_ := qab.mk (hbox); have n2_ := qab.mk ((by rw [hg]; exact (qar (by repeat (first | (with_reducible first | exact HB.out | apply qag | apply qaf | apply qah) | exact HB.out))) : w.heap.size ≤ gb151)); have n3_ := qab.mk ((by rw [hg]; exact (qar (by repeat (first | (with_reducible first | exact HB.out | apply qag | apply qaf | apply qah) | exact HB.out))) : w.heap.size ≤ gb151)); clear HB; have HB := n0_; have BK151 := n1_; have GW151 := n2_; have GE151 := n3_; clear n0_ n1_ n2_ n3_; clear hb hbox hg; have hcz11_0 : w10.cell? ⟨gb151, 0, none⟩ = some (.int .i64 a0_0) := (qaa BK151.out 0).trans rfl; have hcz11_1 : w10.cell? ⟨gb151, 1, none⟩ = some (.int .i64 a0_1) := (qaa BK151.out 1).trans rfl; have hfz11_0 := qac BK151.out 0; have hfz11_1 := qac BK151.out 1))
  go_ret
  exact ⟨by first | rfl | (simp [errW_none, errW_some] <;> rfl) | (simp [*, errW_none, errW_some] <;> rfl), by repeat (first | (with_reducible first | exact HB.out | apply qag | apply qaf | apply qah | refine qai ?_ GE151.out) | exact HB.out)⟩
def talikref04_in.f (a0 : Int) (a1 : Int) (a2 : Int) : Option (Bool) := if a0 ≥ a1 then (some (decide (a0 ≤ a2))) else (some false)
theorem talikref04_in.calls (a0 : Int) (a1 : Int) (a2 : Int) (r : Bool) (w : World) (h : talikref04_in.f a0 a1 a2 = some r) :
  Calls Try.prog 60 #[.int .i64 a0, .int .i64 a1, .int .i64 a2] w fun e w' => e = .returned (.bool r) ∧ Drawn0 w w' := by
 have H : (if a0 ≥ a1 then (some (decide (a0 ≤ a2))) else (some false)) = some r := h
 clear h
 by_cases c4 : a0 ≥ a1
 ·
  rw [if_pos c4] at H
  have c4b0 : decide (a1 ≤ a0) = true := decide_eq_true c4
  clear c4
  obtain rfl := Option.some.inj H
  go_enter Try.func60, Try.ntmps60
  go_wp2
  go_ret
  exact ⟨by first | rfl | (simp; done) | (simp [*]; done), by repeat (first | exact Drawn0.refl _ | apply Drawn0.step)⟩
 ·
  rw [if_neg c4] at H
  have c4b0 : decide (a1 ≤ a0) = false := decide_eq_false c4
  clear c4
  obtain rfl := Option.some.inj H
  go_enter Try.func60, Try.ntmps60
  go_wp2
  go_ret
  exact ⟨by first | rfl | (simp; done) | (simp [*]; done), by repeat (first | exact Drawn0.refl _ | apply Drawn0.step)⟩
theorem talikref04_Span_tot (a b lo hi : Int) : ∃ r, talikref04_Span.f a b lo hi = some r := by
 unfold talikref04_Span.f
 split
 ·
  split
  ·
   exact ⟨_, rfl⟩
  ·
   exact ⟨_, rfl⟩
 ·
  exact ⟨_, rfl⟩
theorem talikref04_in_tot (a lo hi : Int) : ∃ r, talikref04_in.f a lo hi = some r := by
 unfold talikref04_in.f
 split
 ·
  exact ⟨_, rfl⟩
 ·
  exact ⟨_, rfl⟩
theorem talikref04_Span_to {f : Nat} {args : Array Value} {W : World} {r : Bool} (h : Calls Try.prog f args W fun e w' => e = .returned (.bool r) ∧ Below W.heap.size W w') : Calls Try.prog f args W fun e w' => e = .returned (.bool r) ∧ Below W.heap.size W w' := h
theorem talikref04_in_to {f : Nat} {args : Array Value} {W : World} {r : Bool} (h : Calls Try.prog f args W fun e w' => e = .returned (.bool r) ∧ Drawn0 W w') : Calls Try.prog f args W fun e w' => e = .returned (.bool r) ∧ Below W.heap.size W w' := h.mono fun e w' ⟨h1, h2⟩ => ⟨h1, h2.below⟩
def talikref04_Loop.f (a0_0 : Int) (a0_1 : Int) (a0_2 : Int) (a0_3 : Int) (a0_4 : Int) (a0_5 : Int) (a0_6 : Int) (a0_7 : Int) (a0_8 : Int) (a0_9 : Int) (a0_10 : Int) (a0_11 : Int) : Option (Bool) := (talikref04_Span.f a0_0 a0_1 1 1000).bind fun t177 => (if t177 = true then ((talikref04_Span.f a0_2 a0_3 0 1000).bind fun t178 => (if t178 = true then ((talikref04_Span.f a0_4 a0_5 0 1000).bind fun t179 => (if t179 = true then (if a0_4 ≤ a0_2 then (if a0_5 ≤ a0_3 then ((talikref04_in.f a0_6 0 1000000).bind fun t180 => (if t180 = true then ((talikref04_in.f a0_7 1 10000).bind fun t181 => (if t181 = true then ((talikref04_in.f a0_8 0 1000).bind fun t182 => (if t182 = true then ((talikref04_in.f a0_9 0 1000).bind fun t183 => (if t183 = true then ((talikref04_Span.f a0_10 a0_11 0 72).bind fun t184 => (some t184)) else (some false))) else (some false))) else (some false))) else (some false))) else (some false)) else (some false)) else (some false))) else (some false))) else (some false))
theorem talikref04_Loop.calls (a0_0 : Int) (a0_1 : Int) (a0_2 : Int) (a0_3 : Int) (a0_4 : Int) (a0_5 : Int) (a0_6 : Int) (a0_7 : Int) (a0_8 : Int) (a0_9 : Int) (a0_10 : Int) (a0_11 : Int) (r : Bool) (w : World) (h : talikref04_Loop.f a0_0 a0_1 a0_2 a0_3 a0_4 a0_5 a0_6 a0_7 a0_8 a0_9 a0_10 a0_11 = some r) :
  Calls Try.prog 58 #[.agg #[.int .i64 a0_0, .int .i64 a0_1, .int .i64 a0_2, .int .i64 a0_3, .int .i64 a0_4, .int .i64 a0_5, .int .i64 a0_6, .int .i64 a0_7, .int .i64 a0_8, .int .i64 a0_9, .int .i64 a0_10, .int .i64 a0_11]] w fun e w' => e = .returned (.bool r) ∧ Below w.heap.size w w' := by
 obtain ⟨b1, e_b1⟩ := talikref04_Span_tot a0_0 a0_1 1 1000
 obtain ⟨b2, e_b2⟩ := talikref04_Span_tot a0_2 a0_3 0 1000
 obtain ⟨b3, e_b3⟩ := talikref04_Span_tot a0_4 a0_5 0 1000
 obtain ⟨b10, e_b10⟩ := talikref04_Span_tot a0_10 a0_11 0 72
 obtain ⟨b6, e_b6⟩ := talikref04_in_tot a0_6 0 1000000
 obtain ⟨b7, e_b7⟩ := talikref04_in_tot a0_7 1 10000
 obtain ⟨b8, e_b8⟩ := talikref04_in_tot a0_8 0 1000
 obtain ⟨b9, e_b9⟩ := talikref04_in_tot a0_9 0 1000
 unfold talikref04_Loop.f at h
 rw [e_b1, e_b2, e_b3, e_b6, e_b7, e_b8, e_b9, e_b10] at h
 simp only [Option.bind_some] at h
 have H_b1 : qab (∀ W, Calls Try.prog 59 #[.agg #[.int .i64 a0_0, .int .i64 a0_1], .int .i64 1, .int .i64 1000] W fun e w' => e = .returned (.bool b1) ∧ Below W.heap.size W w') := ⟨fun W => talikref04_Span_to (talikref04_Span.calls _ _ _ _ _ W e_b1)⟩
 have H_b2 : qab (∀ W, Calls Try.prog 59 #[.agg #[.int .i64 a0_2, .int .i64 a0_3], .int .i64 0, .int .i64 1000] W fun e w' => e = .returned (.bool b2) ∧ Below W.heap.size W w') := ⟨fun W => talikref04_Span_to (talikref04_Span.calls _ _ _ _ _ W e_b2)⟩
 have H_b3 : qab (∀ W, Calls Try.prog 59 #[.agg #[.int .i64 a0_4, .int .i64 a0_5], .int .i64 0, .int .i64 1000] W fun e w' => e = .returned (.bool b3) ∧ Below W.heap.size W w') := ⟨fun W => talikref04_Span_to (talikref04_Span.calls _ _ _ _ _ W e_b3)⟩
 have H_b10 : qab (∀ W, Calls Try.prog 59 #[.agg #[.int .i64 a0_10, .int .i64 a0_11], .int .i64 0, .int .i64 72] W fun e w' => e = .returned (.bool b10) ∧ Below W.heap.size W w') := ⟨fun W => talikref04_Span_to (talikref04_Span.calls _ _ _ _ _ W e_b10)⟩
 have H_b6 : qab (∀ W, Calls Try.prog 60 #[.int .i64 a0_6, .int .i64 0, .int .i64 1000000] W fun e w' => e = .returned (.bool b6) ∧ Below W.heap.size W w') := ⟨fun W => talikref04_in_to (talikref04_in.calls _ _ _ _ W e_b6)⟩
 have H_b7 : qab (∀ W, Calls Try.prog 60 #[.int .i64 a0_7, .int .i64 1, .int .i64 10000] W fun e w' => e = .returned (.bool b7) ∧ Below W.heap.size W w') := ⟨fun W => talikref04_in_to (talikref04_in.calls _ _ _ _ W e_b7)⟩
 have H_b8 : qab (∀ W, Calls Try.prog 60 #[.int .i64 a0_8, .int .i64 0, .int .i64 1000] W fun e w' => e = .returned (.bool b8) ∧ Below W.heap.size W w') := ⟨fun W => talikref04_in_to (talikref04_in.calls _ _ _ _ W e_b8)⟩
 have H_b9 : qab (∀ W, Calls Try.prog 60 #[.int .i64 a0_9, .int .i64 0, .int .i64 1000] W fun e w' => e = .returned (.bool b9) ∧ Below W.heap.size W w') := ⟨fun W => talikref04_in_to (talikref04_in.calls _ _ _ _ W e_b9)⟩
 clear e_b1 e_b2 e_b3 e_b6 e_b7 e_b8 e_b9 e_b10
 have hu39 := Try.underlying39
 have hu37 := Try.underlying37
 have HB := qab.mk (Below.refl w.heap.size w)
 cases b1; rotate_left; cases b2; rotate_left; cases b3; rotate_left; by_cases c4 : a0_4 ≤ a0_2; by_cases c5 : a0_5 ≤ a0_3; cases b6; rotate_left; cases b7; rotate_left; cases b8; rotate_left; cases b9; rotate_left; cases b10
 all_goals
  have hr : r = _ := Option.some.inj (Eq.symm (by first | exact h | (simp only [Bool.false_eq_true, if_true, if_false] at h; exact h) | (simp only [c4, Bool.false_eq_true, if_true, if_false] at h; exact h) | (simp only [c4, c5, Bool.false_eq_true, if_true, if_false] at h; exact h)))
  subst hr
  clear h
  go_enter Try.func58, Try.ntmps58
  go_wp2_with (first | ((with_reducible refine qam (N := 1) rfl ?_); refine qal ?hg (N := 1) ?hd (cs := #[.int .i64 a0_0, .int .i64 a0_1, .int .i64 a0_2, .int .i64 a0_3, .int .i64 a0_4, .int .i64 a0_5, .int .i64 a0_6, .int .i64 a0_7, .int .i64 a0_8, .int .i64 a0_9, .int .i64 a0_10, .int .i64 a0_11]) (t := 39) ?hr ?_; (case hd => rfl); (case hg => rfl); (case hr => first | (go_simp; done) | (go_simp; rfl)); intro gb hg_gb w2 hbox hb; have BKgb := qab.mk hbox; have n_HB := qab.mk (qad HB.out hb); have GEgb : w.heap.size ≤ gb := (by rw [hg_gb]; exact HB.out.size); clear HB; have HB := n_HB; clear n_HB; obtain ⟨hfgb, hcgb_0, hcgb_1, hcgb_2, hcgb_3, hcgb_4, hcgb_5, hcgb_6, hcgb_7, hcgb_8, hcgb_9, hcgb_10, hcgb_11⟩ := qz12 BKgb.out; clear hbox hb hg_gb; clear hfgb) | (go_at_call 59; with_reducible refine (H_b1.out _).mono ?_; rintro e w3 ⟨rfl, hb⟩; replace BKgb := qab.mk (qae BKgb.out hb); replace HB := qab.mk (qad HB.out hb); clear hb; have q2 : w3.cell? ⟨gb, 2, none⟩ = some (.int .i64 a0_2) := (qaa BKgb.out 2).trans rfl; have q3 : w3.cell? ⟨gb, 3, none⟩ = some (.int .i64 a0_3) := (qaa BKgb.out 3).trans rfl; have q4 : w3.cell? ⟨gb, 4, none⟩ = some (.int .i64 a0_4) := (qaa BKgb.out 4).trans rfl; have q5 : w3.cell? ⟨gb, 5, none⟩ = some (.int .i64 a0_5) := (qaa BKgb.out 5).trans rfl; have q6 : w3.cell? ⟨gb, 6, none⟩ = some (.int .i64 a0_6) := (qaa BKgb.out 6).trans rfl; have q7 : w3.cell? ⟨gb, 7, none⟩ = some (.int .i64 a0_7) := (qaa BKgb.out 7).trans rfl; have q8 : w3.cell? ⟨gb, 8, none⟩ = some (.int .i64 a0_8) := (qaa BKgb.out 8).trans rfl; have q9 : w3.cell? ⟨gb, 9, none⟩ = some (.int .i64 a0_9) := (qaa BKgb.out 9).trans rfl; have q10 : w3.cell? ⟨gb, 10, none⟩ = some (.int .i64 a0_10) := (qaa BKgb.out 10).trans rfl; have q11 : w3.cell? ⟨gb, 11, none⟩ = some (.int .i64 a0_11) := (qaa BKgb.out 11).trans rfl) | (go_at_call 59; with_reducible refine (H_b2.out _).mono ?_; rintro e w4 ⟨rfl, hb⟩; replace BKgb := qab.mk (qae BKgb.out hb); replace HB := qab.mk (qad HB.out hb); clear hb; have q2 : w4.cell? ⟨gb, 2, none⟩ = some (.int .i64 a0_2) := (qaa BKgb.out 2).trans rfl; have q3 : w4.cell? ⟨gb, 3, none⟩ = some (.int .i64 a0_3) := (qaa BKgb.out 3).trans rfl; have q4 : w4.cell? ⟨gb, 4, none⟩ = some (.int .i64 a0_4) := (qaa BKgb.out 4).trans rfl; have q5 : w4.cell? ⟨gb, 5, none⟩ = some (.int .i64 a0_5) := (qaa BKgb.out 5).trans rfl; have q6 : w4.cell? ⟨gb, 6, none⟩ = some (.int .i64 a0_6) := (qaa BKgb.out 6).trans rfl; have q7 : w4.cell? ⟨gb, 7, none⟩ = some (.int .i64 a0_7) := (qaa BKgb.out 7).trans rfl; have q8 : w4.cell? ⟨gb, 8, none⟩ = some (.int .i64 a0_8) := (qaa BKgb.out 8).trans rfl; have q9 : w4.cell? ⟨gb, 9, none⟩ = some (.int .i64 a0_9) := (qaa BKgb.out 9).trans rfl; have q10 : w4.cell? ⟨gb, 10, none⟩ = some (.int .i64 a0_10) := (qaa BKgb.out 10).trans rfl; have q11 : w4.cell? ⟨gb, 11, none⟩ = some (.int .i64 a0_11) := (qaa BKgb.out 11).trans rfl) | (go_at_call 59; with_reducible refine (H_b3.out _).mono ?_; rintro e w5 ⟨rfl, hb⟩; replace BKgb := qab.mk (qae BKgb.out hb); replace HB := qab.mk (qad HB.out hb); clear hb; have q2 : w5.cell? ⟨gb, 2, none⟩ = some (.int .i64 a0_2) := (qaa BKgb.out 2).trans rfl; have q3 : w5.cell? ⟨gb, 3, none⟩ = some (.int .i64 a0_3) := (qaa BKgb.out 3).trans rfl; have q4 : w5.cell? ⟨gb, 4, none⟩ = some (.int .i64 a0_4) := (qaa BKgb.out 4).trans rfl; have q5 : w5.cell? ⟨gb, 5, none⟩ = some (.int .i64 a0_5) := (qaa BKgb.out 5).trans rfl; have q6 : w5.cell? ⟨gb, 6, none⟩ = some (.int .i64 a0_6) := (qaa BKgb.out 6).trans rfl; have q7 : w5.cell? ⟨gb, 7, none⟩ = some (.int .i64 a0_7) := (qaa BKgb.out 7).trans rfl; have q8 : w5.cell? ⟨gb, 8, none⟩ = some (.int .i64 a0_8) := (qaa BKgb.out 8).trans rfl; have q9 : w5.cell? ⟨gb, 9, none⟩ = some (.int .i64 a0_9) := (qaa BKgb.out 9).trans rfl; have q10 : w5.cell? ⟨gb, 10, none⟩ = some (.int .i64 a0_10) := (qaa BKgb.out 10).trans rfl; have q11 : w5.cell? ⟨gb, 11, none⟩ = some (.int .i64 a0_11) := (qaa BKgb.out 11).trans rfl) | (go_at_call 60; with_reducible refine (H_b6.out _).mono ?_; rintro e w6 ⟨rfl, hb⟩; replace BKgb := qab.mk (qae BKgb.out hb); replace HB := qab.mk (qad HB.out hb); clear hb; have q7 : w6.cell? ⟨gb, 7, none⟩ = some (.int .i64 a0_7) := (qaa BKgb.out 7).trans rfl; have q8 : w6.cell? ⟨gb, 8, none⟩ = some (.int .i64 a0_8) := (qaa BKgb.out 8).trans rfl; have q9 : w6.cell? ⟨gb, 9, none⟩ = some (.int .i64 a0_9) := (qaa BKgb.out 9).trans rfl; have q10 : w6.cell? ⟨gb, 10, none⟩ = some (.int .i64 a0_10) := (qaa BKgb.out 10).trans rfl; have q11 : w6.cell? ⟨gb, 11, none⟩ = some (.int .i64 a0_11) := (qaa BKgb.out 11).trans rfl) | (go_at_call 60; with_reducible refine (H_b7.out _).mono ?_; rintro e w7 ⟨rfl, hb⟩; replace BKgb := qab.mk (qae BKgb.out hb); replace HB := qab.mk (qad HB.out hb); clear hb; have q8 : w7.cell? ⟨gb, 8, none⟩ = some (.int .i64 a0_8) := (qaa BKgb.out 8).trans rfl; have q9 : w7.cell? ⟨gb, 9, none⟩ = some (.int .i64 a0_9) := (qaa BKgb.out 9).trans rfl; have q10 : w7.cell? ⟨gb, 10, none⟩ = some (.int .i64 a0_10) := (qaa BKgb.out 10).trans rfl; have q11 : w7.cell? ⟨gb, 11, none⟩ = some (.int .i64 a0_11) := (qaa BKgb.out 11).trans rfl) | (go_at_call 60; with_reducible refine (H_b8.out _).mono ?_; rintro e w8 ⟨rfl, hb⟩; replace BKgb := qab.mk (qae BKgb.out hb); replace HB := qab.mk (qad HB.out hb); clear hb; have q9 : w8.cell? ⟨gb, 9, none⟩ = some (.int .i64 a0_9) := (qaa BKgb.out 9).trans rfl; have q10 : w8.cell? ⟨gb, 10, none⟩ = some (.int .i64 a0_10) := (qaa BKgb.out 10).trans rfl; have q11 : w8.cell? ⟨gb, 11, none⟩ = some (.int .i64 a0_11) := (qaa BKgb.out 11).trans rfl) | (go_at_call 60; with_reducible refine (H_b9.out _).mono ?_; rintro e w9 ⟨rfl, hb⟩; replace BKgb := qab.mk (qae BKgb.out hb); replace HB := qab.mk (qad HB.out hb); clear hb; have q10 : w9.cell? ⟨gb, 10, none⟩ = some (.int .i64 a0_10) := (qaa BKgb.out 10).trans rfl; have q11 : w9.cell? ⟨gb, 11, none⟩ = some (.int .i64 a0_11) := (qaa BKgb.out 11).trans rfl) | (go_at_call 59; with_reducible refine (H_b10.out _).mono ?_; rintro e w10 ⟨rfl, hb⟩; replace BKgb := qab.mk (qae BKgb.out hb); replace HB := qab.mk (qad HB.out hb); clear hb))
  go_ret
  exact ⟨rfl, HB.out⟩
theorem wsucc (i : Nat) (h : i ≤ 1000000) : wrap64 ((i : Int) + 1) = ((i + 1 : Nat) : Int) := by unfold wrap64; omega
def shortB (l0 : List S39) (l1 : List S37) (l2 : List (List Int)) : Bool := (l2.take 10).all (fun r => decide (r.length ≤ 10)) && (decide (l0.length ≤ 8) && (decide (l1.length ≤ 77) && decide (l2.length ≤ 10)))
theorem rd_L1_at (l2 : List (List Int)) (i : Nat) (h : i < l2.length) : rd_L1 l2 (i : Int) = l2[i] := by simp [rd_L1, h]
structure Short (l0 : List S39) (l1 : List S37) (l2 : List (List Int)) : Prop where
 h0 : l0.length ≤ 8
 h1 : l1.length ≤ 77
 h2 : l2.length ≤ 10
 hr : ∀ i (h : i < l2.length), l2[i].length ≤ 10
theorem short_of {l0 : List S39} {l1 : List S37} {l2 : List (List Int)} (h : shortB l0 l1 l2 = true) : Short l0 l1 l2 := by
 unfold shortB at h
 simp only [Bool.and_eq_true, decide_eq_true_eq] at h
 obtain ⟨h1, h2, h3, h4⟩ := h
 rw [List.take_of_length_le h4, List.all_eq_true] at h1
 exact ⟨h2, h3, h4, fun i hi => by simpa using h1 _ (List.getElem_mem hi)⟩
theorem of_short {l0 : List S39} {l1 : List S37} {l2 : List (List Int)} (h : Short l0 l1 l2) : shortB l0 l1 l2 = true := by
 unfold shortB
 simp only [Bool.and_eq_true, decide_eq_true_eq]
 refine ⟨?_, h.h0, h.h1, h.h2⟩
 rw [List.take_of_length_le h.h2, List.all_eq_true]
 intro r hr
 obtain ⟨i, hi, rfl⟩ := List.mem_iff_getElem.1 hr
 simpa using h.hr i hi
theorem rspan_eq (s : S37) (lo hi : Int) : talikref04_Span.f s.f0 s.f1 lo hi = some (spanB s lo hi) := by
 unfold talikref04_Span.f spanB
 by_cases h1 : s.f0 ≥ lo <;> by_cases h2 : s.f0 ≤ s.f1 <;> simp [h1, h2]
theorem rin_eq (x lo hi : Int) : talikref04_in.f x lo hi = some (inB x lo hi) := by
 unfold talikref04_in.f inB
 by_cases h : x ≥ lo <;> simp [h]
theorem rloop_eq (l : S39) : talikref04_Loop.f l.f0.f0 l.f0.f1 l.f1.f0 l.f1.f1 l.f2.f0 l.f2.f1 l.f3 l.f4 l.f5 l.f6 l.f7.f0 l.f7.f1 = some (loopB l) := by
 unfold talikref04_Loop.f loopB
 rw [rspan_eq l.f0, rspan_eq l.f1, rspan_eq l.f2, rspan_eq l.f7, rin_eq, rin_eq, rin_eq, rin_eq]
 simp only [Option.bind_some]
 cases spanB l.f0 1 1000 <;> cases spanB l.f1 0 1000 <;> cases spanB l.f2 0 1000 <;> by_cases h1 : l.f2.f0 ≤ l.f1.f0 <;> by_cases h2 : l.f2.f1 ≤ l.f1.f1 <;> simp [h1, h2]
 cases inB l.f3 0 1000000 <;> cases inB l.f4 1 10000 <;> cases inB l.f5 0 1000 <;> cases inB l.f6 0 1000 <;> simp
def chkR (i : Nat) : List Int → Nat → Bool
 | [], _ => true
 | h :: t, j => inB h 0 72 && ((i != j || h == 0) && chkR i t (j + 1))
def rowsR (n : Nat) : List (List Int) → Nat → Bool
 | [], _ => true
 | r :: t, i => decide (r.length = n) && (chkR i r 0 && rowsR n t (i + 1))
def finR (l0 : List S39) (l1 : List S37) (l2 : List (List Int)) : Bool := inB l0.length 1 5 && (inB l1.length 1 72 && decide (l2.length = l0.length + 1))
def talikref04_IsLoop.f (l0_0 : List (S39)) (l0_1 : List (S37)) (l0_2 : List (List Int)) (a1 : Int) : Option (Bool) := (talikref04_in.f a1 0 (wrap64 ((l0_0.length : Int) - 1))).bind fun t153 => (some t153)
theorem talikref04_IsLoop.calls (A0_0 : Option Addr) (c0_0 : Nat) (l0_0 : List (S39)) (A0_1 : Option Addr) (c0_1 : Nat) (l0_1 : List (S37)) (A0_2 : Option Addr) (c0_2 : Nat) (l0_2 : List (List Int)) (a1 : Int) (r : Bool) (w : World) (hr0_0 : Kd.C k39 w A0_0 l0_0.length l0_0) (hc0_0 : l0_0.length ≤ c0_0) (hr0_1 : Kd.C k37 w A0_1 l0_1.length l0_1) (hc0_1 : l0_1.length ≤ c0_1) (hr0_2 : Kd.C (Kd.slice 3 (Kd.int .i64)) w A0_2 l0_2.length l0_2) (hc0_2 : l0_2.length ≤ c0_2) (h : talikref04_IsLoop.f l0_0 l0_1 l0_2 a1 = some r) :
  Calls Try.prog 20 #[.agg #[.slice A0_0 l0_0.length c0_0, .slice A0_1 l0_1.length c0_1, .slice A0_2 l0_2.length c0_2], .int .i64 a1] w fun e w' => e = .returned (.bool r) ∧ Below w.heap.size w w' := by
 have hu26 := Try.underlying26
 have HR0_0 := qab.mk hr0_0
 have HC0_0 := qab.mk hc0_0
 clear hr0_0 hc0_0
 have HR0_1 := qab.mk hr0_1
 have HC0_1 := qab.mk hc0_1
 clear hr0_1 hc0_1
 have HR0_2 := qab.mk hr0_2
 have HC0_2 := qab.mk hc0_2
 clear hr0_2 hc0_2
 have HB := qab.mk (Below.refl w.heap.size w)
 have H : ((talikref04_in.f a1 0 (wrap64 ((l0_0.length : Int) - 1))).bind fun t153 => (some t153)) = some r := h
 clear h
 replace H := Option.bind_eq_some_iff.mp H
 obtain ⟨t153, A30, H⟩ := H
 replace H : (some t153) = some r := H
 have A3 := qab.mk A30
 clear A30
 obtain rfl := Option.some.inj H
 go_enter Try.func20, Try.ntmps20
 go_wp2_with (first | ((with_reducible refine qam (N := 2) rfl ?_); refine qal ?hg (N := 2) ?hd (cs := #[.slice A0_0 l0_0.length c0_0, .slice A0_1 l0_1.length c0_1, .slice A0_2 l0_2.length c0_2]) (t := 26) ?hr ?_; (case hd => rfl); (case hg => rfl); (case hr => first | (go_simp; done) | (go_simp; rfl)); intro gb152 hg w4 hbox hb; have n0_ := qab.mk (qad (by repeat (first | (with_reducible first | exact HB.out | apply qag | apply qaf | apply qah) | exact HB.out)) hb); have n1_ := qab.mk (hbox); have n2_ := qab.mk ((by rw [hg]; exact (qar (by repeat (first | (with_reducible first | exact HB.out | apply qag | apply qaf | apply qah) | exact HB.out))) : w.heap.size ≤ gb152)); have n3_ := qab.mk ((by rw [hg]; exact (qar (by repeat (first | (with_reducible first | exact HB.out | apply qag | apply qaf | apply qah) | exact HB.out))) : w.heap.size ≤ gb152)); clear HB; have HB := n0_; have BK152 := n1_; have GW152 := n2_; have GE152 := n3_; clear n0_ n1_ n2_ n3_; clear hb hbox hg; have hcz5_0 : w4.cell? ⟨gb152, 0, none⟩ = some (.slice A0_0 l0_0.length c0_0) := (qaa BK152.out 0).trans rfl; have hcz5_1 : w4.cell? ⟨gb152, 1, none⟩ = some (.slice A0_1 l0_1.length c0_1) := (qaa BK152.out 1).trans rfl; have hcz5_2 : w4.cell? ⟨gb152, 2, none⟩ = some (.slice A0_2 l0_2.length c0_2) := (qaa BK152.out 2).trans rfl; have hfz5_0 := qac BK152.out 0; have hfz5_1 := qac BK152.out 1; have hfz5_2 := qac BK152.out 2) | ((with_reducible refine gate_callee (f := 60) rfl ?_); refine goesL_ (some 10) rfl rfl Try.func60 (by kernel_rfl) rfl #[.int .i64 a1, .int .i64 0, .int .i64 (wrap64 ((l0_0.length : Int) - 1))] rfl (by (try simp only [List.map_toArray, List.map_cons, List.map_nil]); first | done | rfl | (simp only [List.length_drop, List.length_take]; rfl)) ?_; (with_reducible refine (talikref04_in.calls a1 0 (wrap64 ((l0_0.length : Int) - 1)) t153 _ A3.out).mono ?_); rintro e w' ⟨rfl, ⟨nd, rfl⟩⟩; refine ⟨_, rfl, ?_⟩))
 go_ret
 exact ⟨by first | rfl | (simp [errW_none, errW_some] <;> rfl) | (simp [*, errW_none, errW_some] <;> rfl), by repeat (first | (with_reducible first | exact HB.out | apply qag | apply qaf | apply qah | refine qai ?_ GE152.out) | exact HB.out)⟩
structure BI (w : World) (gb : Nat) (nb : Array Value) (W : World) : Prop where
 b : W.heap[gb]? = some (.cells nb 26 (0, 0))
 hb : Below w.heap.size w W
theorem BI.below {w W W' : World} {gb : Nat} {nb : Array Value} (h : BI w gb nb W) (hb : Below W.heap.size W W') : BI w gb nb W' := ⟨qae h.b hb, qad h.hb hb⟩
structure RI (w : World) (g3 g6 g7 : Nat) (L : S39) (x : Heat4) (W : World) : Prop where
 l : W.heap[g3]? = some (.cells #[.int .i64 L.f0.f0, .int .i64 L.f0.f1, .int .i64 L.f1.f0, .int .i64 L.f1.f1, .int .i64 L.f2.f0, .int .i64 L.f2.f1, .int .i64 L.f3, .int .i64 L.f4, .int .i64 L.f5, .int .i64 L.f6, .int .i64 L.f7.f0, .int .i64 L.f7.f1] 39 (0, 0))
 r : W.heap[g6]? = some (.cells #[.int .i64 0, .int .i64 0, .int .i64 0, .int .i64 0] 31 (0, 0))
 o : W.heap[g7]? = some (.cells #[.int .i64 x.1, .int .i64 x.2.1, .int .i64 x.2.2.1, .int .i64 x.2.2.2] 31 (0, 0))
 hb : Below w.heap.size w W
 ge : w.heap.size ≤ g7
 ne : g6 ≠ g7
theorem RI.below {w W W' : World} {g3 g6 g7 : Nat} {L : S39} {x : Heat4} (h : RI w g3 g6 g7 L x W) (hb : Below W.heap.size W W') : RI w g3 g6 g7 L x W' :=
 ⟨qae h.l hb, qae h.r hb, qae h.o hb, qad h.hb hb, h.ge, h.ne⟩
theorem wrap_id {x : Int} (h0 : -9223372036854775808 ≤ x) (h1 : x ≤ 9223372036854775807) : wrap64 x = x := by unfold wrap64; omega
structure LoopOk (L : S39) : Prop where
 w0 : 1 ≤ L.f0.f0
 w1 : L.f0.f0 ≤ L.f0.f1
 w2 : L.f0.f1 ≤ 1000
 k0 : 0 ≤ L.f1.f0
 k1 : L.f1.f0 ≤ L.f1.f1
 k2 : L.f1.f1 ≤ 1000
 p0 : 0 ≤ L.f2.f0
 p1 : L.f2.f0 ≤ L.f2.f1
 p2 : L.f2.f1 ≤ 1000
 q0 : L.f2.f0 ≤ L.f1.f0
 q1 : L.f2.f1 ≤ L.f1.f1
 c0 : 0 ≤ L.f3
 c1 : L.f3 ≤ 1000000
 m0 : 1 ≤ L.f4
 m1 : L.f4 ≤ 10000
 g0 : 0 ≤ L.f5
 g1 : L.f5 ≤ 1000
 e0 : 0 ≤ L.f6
 e1 : L.f6 ≤ 1000
 x0 : 0 ≤ L.f7.f0
 x1 : L.f7.f0 ≤ L.f7.f1
 x2 : L.f7.f1 ≤ 72
theorem loop_ok {L : S39} (h : loopB L = true) : LoopOk L := by
 unfold loopB spanB inB at h
 simp only [Bool.and_eq_true, decide_eq_true_eq] at h
 obtain ⟨⟨a1, a2, a3⟩, ⟨b1, b2, b3⟩, ⟨c1, c2, c3⟩, d, e, ⟨f1, f2⟩, ⟨g1, g2⟩, ⟨h1, h2⟩, ⟨i1, i2⟩, j1, j2, j3⟩ := h
 exact ⟨a1, a2, a3, b1, b2, b3, c1, c2, c3, d, e, f1, f2, g1, g2, h1, h2, i1, i2, j1, j2, j3⟩
structure NetOk (l0 : List S39) (l1 : List S37) (l2 : List (List Int)) : Prop where
 n0 : 1 ≤ l0.length
 n1 : l0.length ≤ 5
 h0 : 1 ≤ l1.length
 h1 : l1.length ≤ 72
 m : l2.length = l0.length + 1
 ways : ∀ i (h : i < l2.length), l2[i].length = l0.length + 1 ∧ rd l2[i] i = 0 ∧ ∀ x ∈ l2[i], 0 ≤ x ∧ x ≤ 72
 loops : ∀ L ∈ l0, LoopOk L
 frost : ∀ F ∈ l1, 0 ≤ F.f0 ∧ F.f0 ≤ F.f1 ∧ F.f1 ≤ 1000
theorem net_ok {l0 : List S39} {l1 : List S37} {l2 : List (List Int)} (h : validB l0 l1 l2 = true) : NetOk l0 l1 l2 := by
 unfold validB at h
 simp only [Bool.and_eq_true, List.all_eq_true] at h
 obtain ⟨h1, h2, h3, h4, h5, h6⟩ := h
 unfold inB at h3 h4
 simp only [Bool.and_eq_true, decide_eq_true_eq] at h1 h3 h4
 refine ⟨by omega, by omega, by omega, by omega, by omega, fun i hi => ?_, fun L hL => loop_ok (h5 L hL), fun F hF => ?_⟩
 ·
  unfold waysB at h2
  rw [List.all_eq_true] at h2
  have h7 := h2 i (by simpa using hi)
  have e : l2.getD i [] = l2[i] := by simp [hi]
  rw [e] at h7
  unfold rowB inB at h7
  simp only [Bool.and_eq_true, decide_eq_true_eq, List.all_eq_true] at h7
  exact ⟨by omega, h7.2.1, h7.2.2⟩
 ·
  have h7 := h6 F hF
  unfold spanB at h7
  simp only [Bool.and_eq_true, decide_eq_true_eq] at h7
  exact h7
theorem mn_min (a b : Int) : mn a b = min a b := by unfold mn; split <;> omega
theorem mul_small {a b A B : Int} (ha0 : 0 ≤ a) (ha : a ≤ A) (hb0 : 0 ≤ b) (hb : b ≤ B) : 0 ≤ a * b ∧ a * b ≤ A * B :=
 ⟨Int.mul_nonneg ha0 hb0, Int.mul_le_mul ha hb hb0 (by omega)⟩
theorem rdT39_mem {l0 : List S39} {i : Int} (h0 : 0 ≤ i) (h1 : i < l0.length) : qaj l0 i ∈ l0 := by
 have h2 : i.toNat < l0.length := by omega
 have e : qaj l0 i = l0[i.toNat] := by simp [qaj, h2]
 rw [e]
 exact List.getElem_mem _
theorem isloop_eq (l0 : List S39) (l1 : List S37) (l2 : List (List Int)) (a1 : Int) : talikref04_IsLoop.f l0 l1 l2 a1 = some (inB a1 0 (wrap64 ((l0.length : Int) - 1))) := by
 unfold talikref04_IsLoop.f
 rw [rin_eq]
 rfl
theorem isloop_iff {l0 : List S39} {l1 : List S37} {l2 : List (List Int)} (h : NetOk l0 l1 l2) (a1 : Int) : inB a1 0 (wrap64 ((l0.length : Int) - 1)) = true ↔ 0 ≤ a1 ∧ a1 < l0.length := by
 have h0 := h.n0
 have h1 := h.n1
 rw [wrap_id (by omega) (by omega)]
 unfold inB
 simp only [Bool.and_eq_true, decide_eq_true_eq]
 omega
end Go.Proofs.Ytipphcjgdebecaa.PA
namespace Go.Proofs.Ytipphcjgdebecaa.PA
open Go.RowKit Go.Shelf Go.Proofs.YtipphcjgdebecaaW.PrintWords Go.Proofs.YtipphcjgdebecaaW.PrintLast Go.Proofs.YtipphcjgdebecaaW.PrintMore
attribute [local go_sem] qas qau max_two min_two qao qap qat qav
structure G1Ok (of : Int → Int × Bool) (l : List Int) (a : Int × Int × Bool) : Prop where
 no : a.2.2 = false → ∀ x ∈ l, (of x).2 = false
 mem : a.2.2 = true → a.1 ∈ l ∧ of a.1 = (a.2.1, true)
 max : a.2.2 = true → ∀ x ∈ l, (of x).2 = true → (of x).1 ≤ a.2.1
 first : a.2.2 = true → ∀ x ∈ l, of x = (a.2.1, true) → a.1 ≤ x
theorem g1_step (of : Int → Int × Bool) (l : List Int) (a : Int × Int × Bool) (h : G1Ok of l a) (x : Int) (hx : ∀ y ∈ l, y < x) : G1Ok of (l ++ [x]) (g1s of a x) := by
 unfold g1s
 by_cases hc : (of x).2 = true ∧ (a.2.2 = false ∨ (of x).1 > a.2.1)
 ·
  rw [if_pos hc]
  obtain ⟨h1, h2⟩ := hc
  refine ⟨fun h => by simp at h, fun _ => ⟨by simp, by rw [← h1]⟩, fun _ y hy ht => ?_, fun _ y hy he => ?_⟩
  ·
   rcases List.mem_append.1 hy with hy | hy
   ·
    rcases h2 with h2 | h2
    ·
     rw [h.no h2 y hy] at ht
     cases ht
    ·
     cases ha : a.2.2 with
     | false => rw [h.no ha y hy] at ht; cases ht
     | true => have := h.max ha y hy ht; show (of y).1 ≤ (of x).1; omega
   ·
    obtain rfl : y = x := by simpa using hy
    exact Int.le_refl _
  ·
   rcases List.mem_append.1 hy with hy | hy
   ·
    have hyt : (of y).2 = true := by rw [he]
    have hyv : (of y).1 = (of x).1 := by rw [he]
    rcases h2 with h2 | h2
    ·
     rw [h.no h2 y hy] at hyt
     cases hyt
    ·
     cases ha : a.2.2 with
     | false => rw [h.no ha y hy] at hyt; cases hyt
     | true => have := h.max ha y hy hyt; omega
   ·
    obtain rfl : y = x := by simpa using hy
    exact Int.le_refl _
 ·
  rw [if_neg hc]
  refine ⟨fun ha y hy => ?_, fun ha => ⟨by simp [(h.mem ha).1], (h.mem ha).2⟩, fun ha y hy ht => ?_, fun ha y hy he => ?_⟩
  ·
   rcases List.mem_append.1 hy with hy | hy
   ·
    exact h.no ha y hy
   ·
    obtain rfl : y = x := by simpa using hy
    cases ho : (of y).2 with
    | false => rfl
    | true => exact absurd ⟨ho, .inl ha⟩ hc
  ·
   rcases List.mem_append.1 hy with hy | hy
   ·
    exact h.max ha y hy ht
   ·
    obtain rfl : y = x := by simpa using hy
    by_cases hgt : (of y).1 > a.2.1
    ·
     exact absurd ⟨ht, .inr hgt⟩ hc
    ·
     omega
  ·
   rcases List.mem_append.1 hy with hy | hy
   ·
    exact h.first ha y hy he
   ·
    obtain rfl : y = x := by simpa using hy
    have := hx _ (h.mem ha).1
    omega
theorem g1_ok (of : Int → Int × Bool) (l : List Int) (hl : l.Pairwise (· < ·)) : G1Ok of l (g1 of l) := by
 have key : ∀ (m p : List Int) (a : Int × Int × Bool), G1Ok of p a → (p ++ m).Pairwise (· < ·) → G1Ok of (p ++ m) (m.foldl (g1s of) a) := by
  intro m
  induction m with
  | nil => intro p a h _; simpa using h
  | cons x m ih =>
   intro p a h hp
   have hp' : ((p ++ [x]) ++ m).Pairwise (· < ·) := by simpa using hp
   have hx : ∀ y ∈ p, y < x := fun y hy => (List.pairwise_append.1 hp).2.2 y hy x (by simp)
   have := ih (p ++ [x]) _ (g1_step of p a h x hx) hp'
   simpa using this
 exact key l [] (0, 0, false) ⟨fun _ x hx => (by simp at hx), fun h => (by simp at h), fun h => (by simp at h), fun h => (by simp at h)⟩ (by simpa using hl)
theorem sorted_loopsOf (f : Int) (n : Nat) : (qaq f n).Pairwise (· < ·) := by
 induction n with
 | zero => simp [qaq]
 | succ n ih =>
  unfold qaq
  split
  ·
   rw [List.pairwise_append]
   refine ⟨ih, by simp, fun x hx y hy => ?_⟩
   obtain ⟨k, rfl, hk, _⟩ := (mem_loopsOf f n x).1 hx
   obtain rfl : y = (n : Int) := by simpa using hy
   omega
  ·
   exact ih
def sl (l0 : List S39) (l2 : List (List Int)) (D : List Int) (N : Int) : Int → Int → List Int → Int
 | _, _, [] => N
 | p, h, i :: t => min (rd D i - (h + rd (rd_L1 l2 p) (i + 1) + (qaj l0 i).f7.f1)) (sl l0 l2 D N (i + 1) (h + rd (rd_L1 l2 p) (i + 1) + (qaj l0 i).f7.f1) t)
def lexLe : List Int → List Int → Prop
 | [], _ => True
 | _ :: _, [] => False
 | i :: t, j :: u => i < j ∨ (i = j ∧ lexLe t u)
section
variable {l0 : List S39} {l1 : List S37} {l2 : List (List Int)} {D : List Int}
structure BOk (l0 : List S39) (l1 : List S37) (l2 : List (List Int)) (D : List Int) : Prop where
 ways : ∀ p i : Int, 0 ≤ p → p ≤ l0.length → 0 ≤ i → i < l0.length → 0 ≤ rd (rd_L1 l2 p) (i + 1) ∧ rd (rd_L1 l2 p) (i + 1) ≤ 72
 fix : ∀ i : Int, 0 ≤ i → i < l0.length → 0 ≤ (qaj l0 i).f7.f1 ∧ (qaj l0 i).f7.f1 ≤ 72
 due : ∀ i : Int, 0 ≤ i → i < l0.length → 0 ≤ rd D i ∧ rd D i ≤ l1.length
 len : 1 ≤ l1.length ∧ l1.length ≤ 72
structure SOk (l0 : List S39) (s : Sp) : Prop where
 ok : OkS s
 p0 : 0 ≤ s.p
 p1 : s.p ≤ l0.length
 h0 : 0 ≤ s.h
 h1 : s.h ≤ 72
 lo : ∀ i ∈ qaq s.r 5, 0 ≤ i ∧ i < l0.length
theorem hour_eq (hB : BOk l0 l1 l2 D) {s : Sp} (hs : SOk l0 s) {i : Int} (hi : i ∈ qaq s.r 5) : hourV l0 l2 s i = s.h + rd (rd_L1 l2 s.p) (i + 1) + (qaj l0 i).f7.f1 := by
 obtain ⟨i0, i1⟩ := hs.lo i hi
 have h1 := hB.ways s.p i hs.p0 hs.p1 i0 i1
 have h2 := hB.fix i i0 i1
 have h3 := hs.h0
 have h4 := hs.h1
 unfold hourV
 rw [wrap_id (x := s.h + rd (rd_L1 l2 s.p) (i + 1)) (by omega) (by omega), wrap_id (by omega) (by omega)]
theorem rep_eq (hB : BOk l0 l1 l2 D) {s : Sp} (hs : SOk l0 s) {i : Int} (hi : i ∈ qaq s.r 5) :
  (repV l0 l2 D s i).2.2 = decide (s.h + rd (rd_L1 l2 s.p) (i + 1) + (qaj l0 i).f7.f1 ≤ rd D i) ∧
  ((repV l0 l2 D s i).2.2 = true → (repV l0 l2 D s i).2.1 = rd D i - (s.h + rd (rd_L1 l2 s.p) (i + 1) + (qaj l0 i).f7.f1) ∧ (repV l0 l2 D s i).1.p = i + 1 ∧ (repV l0 l2 D s i).1.h = s.h + rd (rd_L1 l2 s.p) (i + 1) + (qaj l0 i).f7.f1 ∧
   qaq (repV l0 l2 D s i).1.r 5 = (qaq s.r 5).erase i ∧ SOk l0 (repV l0 l2 D s i).1 ∧ cntB (repV l0 l2 D s i).1.r + 1 = cntB s.r) := by
 obtain ⟨i0, i1⟩ := hs.lo i hi
 have h1 := hB.ways s.p i hs.p0 hs.p1 i0 i1
 have h2 := hB.fix i i0 i1
 have h3 := hs.h0
 have h4 := hs.h1
 have h5 := hB.due i i0 i1
 have h6 := hB.len
 have hh := hour_eq hB hs hi
 have hrest := rest_of s.r hs.ok.1 hs.ok.2 i hi
 have hers := (nodup_loopsOf s.r 5).erase_eq_filter i
 by_cases hc : hourV l0 l2 s i > rd D i
 ·
  have hd : decide (s.h + rd (rd_L1 l2 s.p) (i + 1) + (qaj l0 i).f7.f1 ≤ rd D i) = false := decide_eq_false (by omega)
  have e : repV l0 l2 D s i = (⟨0, 0, 0⟩, 0, false) := by unfold repV; rw [if_pos hc]
  rw [e, hd]
  exact ⟨rfl, fun h => by cases h⟩
 ·
  have hd : decide (s.h + rd (rd_L1 l2 s.p) (i + 1) + (qaj l0 i).f7.f1 ≤ rd D i) = true := decide_eq_true (by omega)
  have e : repV l0 l2 D s i = (nextV l0 l2 s i, wrap64 (rd D i - hourV l0 l2 s i), true) := by unfold repV; rw [if_neg hc]
  have hn := next_ok l0 l2 D s hs.ok i hi (by rw [e])
  rw [e, hd]
  rw [e] at hn
  refine ⟨rfl, fun _ => ⟨?_, rfl, hh, ?_, ⟨hn.1, ?_, ?_, ?_, ?_, ?_⟩, hn.2⟩⟩
  ·
   show wrap64 (rd D i - hourV l0 l2 s i) = _
   rw [hh, wrap_id (by omega) (by omega)]
  ·
   show qaq (bits .andNot .i64 s.r (wrap64 (2 ^ i.toNat))) 5 = _
   rw [hrest.2.2, hers]
  ·
   show 0 ≤ i + 1
   omega
  ·
   show i + 1 ≤ (l0.length : Int)
   omega
  ·
   show 0 ≤ hourV l0 l2 s i
   omega
  ·
   show hourV l0 l2 s i ≤ 72
   omega
  ·
   intro j hj
   have hj' : j ∈ qaq (bits .andNot .i64 s.r (wrap64 (2 ^ i.toNat))) 5 := hj
   rw [hrest.2.2] at hj'
   exact hs.lo j (List.mem_filter.1 hj').1
theorem zero_of (r : Int) (h0 : 0 ≤ r) (h1 : r < 32) (hl : qaq r 5 = []) : r = 0 := by
 obtain ⟨n, rfl⟩ := Int.eq_ofNat_of_zero_le h0
 have hb := List.all_eq_true.1 bits_zero n (by simp; omega)
 simp only [hl, decide_true] at hb
 have hb2 := eq_of_beq hb
 exact of_decide_eq_true hb2
theorem nil_of_zero {s : Sp} (hs : OkS s) (h : s.r = 0) : qaq s.r 5 = [] := by
 rw [h]
 decide
theorem best_ok (hB : BOk l0 l1 l2 D) : ∀ (c : Nat) (s : Sp), SOk l0 s → cntB s.r ≤ c →
  ((bestV l0 l1 l2 D s).2.2 = true → 0 ≤ (bestV l0 l1 l2 D s).2.1 ∧ (bestV l0 l1 l2 D s).2.1 ≤ l1.length ∧ (∃ o, o.Perm (qaq s.r 5) ∧ sl l0 l2 D l1.length s.p s.h o = (bestV l0 l1 l2 D s).2.1) ∧ ∀ o, o.Perm (qaq s.r 5) → sl l0 l2 D l1.length s.p s.h o ≤ (bestV l0 l1 l2 D s).2.1) ∧
  ((bestV l0 l1 l2 D s).2.2 = false → ∀ o, o.Perm (qaq s.r 5) → sl l0 l2 D l1.length s.p s.h o < 0) := by
 have base : ∀ s : Sp, SOk l0 s → s.r = 0 → ((bestV l0 l1 l2 D s).2.2 = true → 0 ≤ (bestV l0 l1 l2 D s).2.1 ∧ (bestV l0 l1 l2 D s).2.1 ≤ l1.length ∧ (∃ o, o.Perm (qaq s.r 5) ∧ sl l0 l2 D l1.length s.p s.h o = (bestV l0 l1 l2 D s).2.1) ∧ ∀ o, o.Perm (qaq s.r 5) → sl l0 l2 D l1.length s.p s.h o ≤ (bestV l0 l1 l2 D s).2.1) ∧
   ((bestV l0 l1 l2 D s).2.2 = false → ∀ o, o.Perm (qaq s.r 5) → sl l0 l2 D l1.length s.p s.h o < 0) := by
  intro s hs h0
  have hb : bestV l0 l1 l2 D s = ([], (l1.length : Int), true) := by
   rw [bestV_eq l0 l1 l2 D s hs.ok]
   unfold stepV
   rw [if_pos h0]
  have hl := nil_of_zero hs.ok h0
  rw [hb, hl]
  refine ⟨fun _ => ⟨by have := hB.len; show (0 : Int) ≤ l1.length; omega, Int.le_refl _, ⟨[], List.Perm.refl _, rfl⟩, fun o ho => ?_⟩, fun h => by simp at h⟩
  obtain rfl := List.perm_nil.1 ho
  exact Int.le_refl _
 intro c
 induction c with
 | zero =>
  intro s hs hc
  refine base s hs ?_
  have hl : qaq s.r 5 = [] := List.length_eq_zero_iff.1 (by unfold cntB at hc; omega)
  exact (zero_of s.r hs.ok.1 hs.ok.2 hl)
 | succ c ih =>
  intro s hs hc
  by_cases h0 : s.r = 0
  ·
   exact base s hs h0
  ·
   have hbv : bestV l0 l1 l2 D s = stepV l0 l1 l2 D (bestV l0 l1 l2 D) s := bestV_eq l0 l1 l2 D s hs.ok
   have hb1 : (bestV l0 l1 l2 D s).2.1 = (g1 (ofV l0 l2 D (bestV l0 l1 l2 D) s) (qaq s.r 5)).2.1 := by
    rw [hbv]
    unfold stepV
    rw [if_neg h0]
   have hb2 : (bestV l0 l1 l2 D s).2.2 = (g1 (ofV l0 l2 D (bestV l0 l1 l2 D) s) (qaq s.r 5)).2.2 := by
    rw [hbv]
    unfold stepV
    rw [if_neg h0]
   have hg := g1_ok (ofV l0 l2 D (bestV l0 l1 l2 D) s) _ (sorted_loopsOf s.r 5)
   have hord : ∀ i t, (i :: t).Perm (qaq s.r 5) → 0 ≤ sl l0 l2 D l1.length s.p s.h (i :: t) → (ofV l0 l2 D (bestV l0 l1 l2 D) s i).2 = true ∧ sl l0 l2 D l1.length s.p s.h (i :: t) ≤ (ofV l0 l2 D (bestV l0 l1 l2 D) s i).1 := by
    intro i t hp hsl
    obtain ⟨hi, ht⟩ := List.cons_perm_iff_perm_erase.1 hp
    obtain ⟨r1, r2⟩ := rep_eq hB hs hi
    simp only [sl] at hsl ⊢
    have hown : s.h + rd (rd_L1 l2 s.p) (i + 1) + (qaj l0 i).f7.f1 ≤ rd D i := by omega
    have hr : (repV l0 l2 D s i).2.2 = true := by rw [r1]; exact decide_eq_true hown
    obtain ⟨e1, e2, e3, e4, e5, e6⟩ := r2 hr
    obtain ⟨ihA, ihB⟩ := ih (repV l0 l2 D s i).1 e5 (by omega)
    rw [e2, e3, e4] at ihA ihB
    unfold ofV
    rw [if_pos hr, e1]
    cases hn : (bestV l0 l1 l2 D (repV l0 l2 D s i).1).2.2 with
    | false =>
     have := ihB hn t ht
     omega
    | true =>
     have := (ihA hn).2.2.2 t ht
     refine ⟨rfl, ?_⟩
     show min _ _ ≤ min _ _
     omega
   rw [hb1, hb2]
   refine ⟨fun ht => ?_, fun hf o ho => ?_⟩
   ·
    obtain ⟨hm, he⟩ := hg.mem ht
    have hmax := hg.max ht
    obtain ⟨X, hX⟩ : ∃ X, (g1 (ofV l0 l2 D (bestV l0 l1 l2 D) s) (qaq s.r 5)).1 = X := ⟨_, rfl⟩
    obtain ⟨V, hV⟩ : ∃ V, (g1 (ofV l0 l2 D (bestV l0 l1 l2 D) s) (qaq s.r 5)).2.1 = V := ⟨_, rfl⟩
    rw [hX] at hm he
    rw [hV] at he hmax ⊢
    obtain ⟨r1, r2⟩ := rep_eq hB hs hm
    unfold ofV at he
    by_cases hr : (repV l0 l2 D s X).2.2 = true
    ·
     rw [if_pos hr] at he
     obtain ⟨e1, e2, e3, e4, e5, e6⟩ := r2 hr
     obtain ⟨ihA, ihB⟩ := ih _ e5 (by omega)
     rw [e2, e3, e4] at ihA
     have hn : (bestV l0 l1 l2 D (repV l0 l2 D s X).1).2.2 = true := (Prod.mk.inj he).2
     obtain ⟨a1, a2, ⟨o, ho, hso⟩, _⟩ := ihA hn
     have hv := (Prod.mk.inj he).1
     have hdec := r1.symm.trans hr
     have hle := of_decide_eq_true hdec
     rw [e1] at hv
     refine ⟨by omega, by omega, ⟨X :: o, List.cons_perm_iff_perm_erase.2 ⟨hm, ho⟩, ?_⟩, fun o' ho' => ?_⟩
     ·
      simp only [sl]
      rw [hso]
      exact hv
     ·
      cases o' with
      | nil =>
       have := List.nil_perm.1 ho'
       rw [this] at hm
       simp at hm
      | cons i t =>
       by_cases hneg : 0 ≤ sl l0 l2 D l1.length s.p s.h (i :: t)
       ·
        obtain ⟨q1, q2⟩ := hord i t ho' hneg
        have := hmax i ((List.Perm.mem_iff ho').1 (by simp)) q1
        omega
       ·
        omega
    ·
     rw [if_neg hr] at he
     exact absurd (Prod.mk.inj he).2 (by decide)
   ·
    cases o with
    | nil =>
     have h1 := List.nil_perm.1 ho
     exact absurd (zero_of s.r hs.ok.1 hs.ok.2 h1) h0
    | cons i t =>
     by_cases hneg : 0 ≤ sl l0 l2 D l1.length s.p s.h (i :: t)
     ·
      obtain ⟨q1, _⟩ := hord i t ho hneg
      rw [hg.no hf i ((List.Perm.mem_iff ho).1 (by simp))] at q1
      cases q1
     ·
      omega
theorem find_first {p : Int → Bool} : ∀ {l : List Int} {i : Int}, l.Pairwise (· < ·) → l.find? p = some i → i ∈ l ∧ p i = true ∧ ∀ j ∈ l, p j = true → i ≤ j
 | [], i, _, h => by simp at h
 | x :: l, i, hl, h => by
  obtain ⟨h1, h2⟩ := List.pairwise_cons.1 hl
  rw [List.find?_cons] at h
  cases hx : p x with
  | true =>
   rw [hx] at h
   obtain rfl : x = i := Option.some.inj h
   refine ⟨by simp, hx, fun j hj hp => ?_⟩
   rcases List.mem_cons.1 hj with rfl | hj
   ·
    exact Int.le_refl _
   ·
    have := h1 j hj
    omega
  | false =>
   rw [hx] at h
   obtain ⟨a, b, c⟩ := find_first h2 h
   refine ⟨by simp [a], b, fun j hj hp => ?_⟩
   rcases List.mem_cons.1 hj with rfl | hj
   ·
    rw [hx] at hp
    cases hp
   ·
    exact c j hj hp
theorem same_ok (hB : BOk l0 l1 l2 D) : ∀ (k : Nat) (s : Sp) (out : List Int) (slack : Int), SOk l0 s → cntB s.r ≤ k → 0 ≤ slack → slack ≤ l1.length → (bestV l0 l1 l2 D s).2.2 = true → slack ≤ (bestV l0 l1 l2 D s).2.1 →
  ∃ t, sameV l0 l2 D (bestV l0 l1 l2 D) slack k s out = out ++ t ∧ t.Perm (qaq s.r 5) ∧ slack ≤ sl l0 l2 D l1.length s.p s.h t ∧ ∀ t', t'.Perm (qaq s.r 5) → slack ≤ sl l0 l2 D l1.length s.p s.h t' → lexLe t t' := by
 intro k
 induction k with
 | zero =>
  intro s out slack hs hc h0 h1 hr hsl
  have hl : qaq s.r 5 = [] := List.length_eq_zero_iff.1 (by unfold cntB at hc; omega)
  rw [hl]
  exact ⟨[], by simp [sameV], List.Perm.refl _, h1, fun t' ht' _ => by trivial⟩
 | succ k ih =>
  intro s out slack hs hc h0 h1 hr hsl
  unfold sameV
  by_cases hz : s.r = 0
  ·
   rw [if_pos hz, nil_of_zero hs.ok hz]
   exact ⟨[], by simp, List.Perm.refl _, h1, fun t' ht' _ => by trivial⟩
  ·
   rw [if_neg hz]
   obtain ⟨i, hi⟩ := good_some l0 l1 l2 D s hs.ok hz slack hr hsl
   rw [hi]
   obtain ⟨hm, hg, hfirst⟩ := find_first (sorted_loopsOf s.r 5) hi
   have hg' := hg
   unfold goodV at hg'
   simp only [Bool.and_eq_true, decide_eq_true_eq] at hg'
   obtain ⟨⟨⟨g1, g2⟩, g3⟩, g4⟩ := hg'
   obtain ⟨r1, r2⟩ := rep_eq hB hs hm
   obtain ⟨e1, e2, e3, e4, e5, e6⟩ := r2 g1
   obtain ⟨t, ht, hp, hsl', hlex⟩ := ih (repV l0 l2 D s i).1 (out ++ [i]) slack e5 (by omega) h0 h1 g3 g4
   rw [e2, e3] at hsl'
   rw [e2, e3, e4] at hlex
   rw [e4] at hp
   refine ⟨i :: t, by show sameV l0 l2 D (bestV l0 l1 l2 D) slack k (repV l0 l2 D s i).1 (out ++ [i]) = _; rw [ht]; simp, List.cons_perm_iff_perm_erase.2 ⟨hm, hp⟩, ?_, fun t' ht' hs' => ?_⟩
   ·
    simp only [sl]
    omega
   ·
    cases t' with
    | nil =>
     have := List.nil_perm.1 ht'
     rw [this] at hm
     simp at hm
    | cons j u =>
     obtain ⟨hj, hu⟩ := List.cons_perm_iff_perm_erase.1 ht'
     obtain ⟨q1, q2⟩ := rep_eq hB hs hj
     simp only [sl] at hs'
     have hr' : (repV l0 l2 D s j).2.2 = true := by rw [q1]; exact decide_eq_true (by omega)
     obtain ⟨f1, f2, f3, f4, f5, f6⟩ := q2 hr'
     obtain ⟨bA, bB⟩ := best_ok hB _ (repV l0 l2 D s j).1 f5 (Nat.le_refl _)
     rw [f2, f3, f4] at bA bB
     have hgood : goodV l0 l2 D (bestV l0 l1 l2 D) slack s j = true := by
      unfold goodV
      cases hn : (bestV l0 l1 l2 D (repV l0 l2 D s j).1).2.2 with
      | false =>
       have := bB hn u hu
       omega
      | true =>
       have := (bA hn).2.2.2 u hu
       rw [hr', f1]
       simp
       omega
     have hle := hfirst j hj hgood
     rcases Int.lt_or_eq_of_le hle with hlt | rfl
     ·
      exact .inl hlt
     ·
      exact .inr ⟨rfl, hlex u hu (by omega)⟩
theorem best_order (hB : BOk l0 l1 l2 D) (s : Sp) (hs : SOk l0 s) (hr : (bestV l0 l1 l2 D s).2.2 = true) :
  (bestV l0 l1 l2 D s).1.Perm (qaq s.r 5) ∧ sl l0 l2 D l1.length s.p s.h (bestV l0 l1 l2 D s).1 = (bestV l0 l1 l2 D s).2.1 ∧ ∀ t', t'.Perm (qaq s.r 5) → sl l0 l2 D l1.length s.p s.h t' = (bestV l0 l1 l2 D s).2.1 → lexLe (bestV l0 l1 l2 D s).1 t' := by
 obtain ⟨bA, _⟩ := best_ok hB _ s hs (Nat.le_refl _)
 obtain ⟨b0, b1, _, bmax⟩ := bA hr
 by_cases hz : s.r = 0
 ·
  have hb : bestV l0 l1 l2 D s = ([], (l1.length : Int), true) := by
   rw [bestV_eq l0 l1 l2 D s hs.ok]
   unfold stepV
   rw [if_pos hz]
  rw [hb, nil_of_zero hs.ok hz]
  exact ⟨List.Perm.refl _, rfl, fun t' _ _ => by trivial⟩
 ·
  have hbv : bestV l0 l1 l2 D s = stepV l0 l1 l2 D (bestV l0 l1 l2 D) s := bestV_eq l0 l1 l2 D s hs.ok
  have hb1 : (bestV l0 l1 l2 D s).2.1 = (g1 (ofV l0 l2 D (bestV l0 l1 l2 D) s) (qaq s.r 5)).2.1 := by
   rw [hbv]
   unfold stepV
   rw [if_neg hz]
  have hb2 : (bestV l0 l1 l2 D s).2.2 = (g1 (ofV l0 l2 D (bestV l0 l1 l2 D) s) (qaq s.r 5)).2.2 := by
   rw [hbv]
   unfold stepV
   rw [if_neg hz]
  have ht : (g1 (ofV l0 l2 D (bestV l0 l1 l2 D) s) (qaq s.r 5)).2.2 = true := hb2.symm.trans hr
  have hb0 : (bestV l0 l1 l2 D s).1 = sameV l0 l2 D (bestV l0 l1 l2 D) (g1 (ofV l0 l2 D (bestV l0 l1 l2 D) s) (qaq s.r 5)).2.1 5 (repV l0 l2 D s (g1 (ofV l0 l2 D (bestV l0 l1 l2 D) s) (qaq s.r 5)).1).1 [(g1 (ofV l0 l2 D (bestV l0 l1 l2 D) s) (qaq s.r 5)).1] := by
   rw [hbv]
   unfold stepV
   rw [if_neg hz]
   dsimp only
   rw [if_pos ht]
  have hg := g1_ok (ofV l0 l2 D (bestV l0 l1 l2 D) s) _ (sorted_loopsOf s.r 5)
  obtain ⟨hm, he⟩ := hg.mem ht
  rw [← hb1] at hb0 he
  have hfst : ∀ x ∈ qaq s.r 5, ofV l0 l2 D (bestV l0 l1 l2 D) s x = ((bestV l0 l1 l2 D s).2.1, true) → (g1 (ofV l0 l2 D (bestV l0 l1 l2 D) s) (qaq s.r 5)).1 ≤ x := fun x hx h => hg.first ht x hx (by rw [h, hb1])
  generalize (g1 (ofV l0 l2 D (bestV l0 l1 l2 D) s) (qaq s.r 5)).1 = i at hm he hb0 hfst
  generalize hsk : (bestV l0 l1 l2 D s).2.1 = slack at b0 b1 bmax he hb0 hfst ⊢
  obtain ⟨r1, r2⟩ := rep_eq hB hs hm
  have he' := he
  unfold ofV at he'
  by_cases hrr : (repV l0 l2 D s i).2.2 = true
  ·
   rw [if_pos hrr] at he'
   obtain ⟨e1, e2, e3, e4, e5, e6⟩ := r2 hrr
   have hn : (bestV l0 l1 l2 D (repV l0 l2 D s i).1).2.2 = true := (Prod.mk.inj he').2
   have hv := (Prod.mk.inj he').1
   rw [e1] at hv
   obtain ⟨t, ht', hp, hsl', hlex⟩ := same_ok hB 5 (repV l0 l2 D s i).1 [i] slack e5 (cnt_le _) b0 b1 hn (by omega)
   rw [e2, e3] at hsl'
   rw [e2, e3, e4] at hlex
   rw [e4] at hp
   have hfull : (bestV l0 l1 l2 D s).1 = i :: t := by rw [hb0, ht']; rfl
   have hperm : (i :: t).Perm (qaq s.r 5) := List.cons_perm_iff_perm_erase.2 ⟨hm, hp⟩
   have hslf : sl l0 l2 D l1.length s.p s.h (i :: t) = slack := by
    have h1 := bmax _ hperm
    have h2 : slack ≤ sl l0 l2 D l1.length s.p s.h (i :: t) := by
     simp only [sl]
     omega
    omega
   rw [hfull]
   refine ⟨hperm, hslf, fun t' ht'' hs' => ?_⟩
   cases t' with
   | nil =>
    have := List.nil_perm.1 ht''
    rw [this] at hm
    simp at hm
   | cons j u =>
    obtain ⟨hj, hu⟩ := List.cons_perm_iff_perm_erase.1 ht''
    obtain ⟨q1, q2⟩ := rep_eq hB hs hj
    have hs'' := hs'
    simp only [sl] at hs''
    have hr' : (repV l0 l2 D s j).2.2 = true := by rw [q1]; exact decide_eq_true (by omega)
    obtain ⟨f1, f2, f3, f4, f5, f6⟩ := q2 hr'
    obtain ⟨cA, cB⟩ := best_ok hB _ (repV l0 l2 D s j).1 f5 (Nat.le_refl _)
    rw [f2, f3, f4] at cA cB
    have hval : ofV l0 l2 D (bestV l0 l1 l2 D) s j = (slack, true) := by
     have hmx : (ofV l0 l2 D (bestV l0 l1 l2 D) s j).2 = true → (ofV l0 l2 D (bestV l0 l1 l2 D) s j).1 ≤ slack := fun h => by
      have := hg.max ht j hj h
      rw [← hb1, hsk] at this
      exact this
     cases hn' : (bestV l0 l1 l2 D (repV l0 l2 D s j).1).2.2 with
     | false =>
      have := cB hn' u hu
      omega
     | true =>
      have h3 := (cA hn').2.2.2 u hu
      have hof : ofV l0 l2 D (bestV l0 l1 l2 D) s j = (min (rd D j - (s.h + rd (rd_L1 l2 s.p) (j + 1) + (qaj l0 j).f7.f1)) (bestV l0 l1 l2 D (repV l0 l2 D s j).1).2.1, true) := by
       unfold ofV
       rw [if_pos hr', f1, hn']
      rw [hof] at hmx ⊢
      have h4 := hmx rfl
      dsimp only at h4
      congr 1
      omega
    have hle := hfst j hj hval
    rcases Int.lt_or_eq_of_le hle with hlt | rfl
    ·
     exact .inl hlt
    ·
     exact .inr ⟨rfl, hlex u hu (by omega)⟩
  ·
   rw [if_neg hrr] at he'
   exact absurd (Prod.mk.inj he').2 (by decide)
end
end Go.Proofs.Ytipphcjgdebecaa.PA
namespace Go.Proofs.Ytipphcjgdebecaa.PA
open Go.RowKit Go.Proofs.YtipphcjgdebecaaW.PrintWords Go.Proofs.YtipphcjgdebecaaW.PrintLast Go.Proofs.YtipphcjgdebecaaW.PrintMore
attribute [local go_sem] qas qau max_two min_two qao qap qat qav
def talikref04_Has.l0 : Nat → Int → Int → Int → Option (Bool)
 | 0, _, _, _ => none
 | k + 1, x0, x1, x5 => if x5 < x1 then (talikref04_Has.l0 k (wrap64 (Int.tdiv x0 2)) x1 (wrap64 (x5 + 1))) else (some ((Int.tmod x0 2) == 1))
def talikref04_Has.f (k : Nat) (a0 : Int) (a1 : Int) : Option (Bool) := talikref04_Has.l0 k a0 a1 0
theorem talikref04_Has.calls (k : Nat) (a0 : Int) (a1 : Int) (r : Bool) (w : World) (h : talikref04_Has.f k a0 a1 = some r) :
  Calls Try.prog 68 #[.int .i64 a0, .int .i64 a1] w fun e w' => e = .returned (.bool r) ∧ Drawn0 w w' := by
 have H : (talikref04_Has.l0 k a0 a1 0) = some r := h
 clear h
 have H' := qab.mk H
 clear H
 go_enter Try.func68, Try.ntmps68
 go_wp2
 go_loopg [0, 5] k (fun kq v0 v5 w' => ∃ (x0_1 : Int) (x5_1 : Int), v0 = .int .i64 x0_1 ∧ v5 = .int .i64 x5_1 ∧ qab (talikref04_Has.l0 kq x0_1 a1 x5_1 = some r) ∧ qab (kq ≤ k) ∧ Drawn0 w w')
 case atStart => exact ⟨(a0), (0), (by first | rfl | (simp; done) | (simp [*]; done)), (by first | rfl | (simp; done) | (simp [*]; done)), H', ⟨Nat.le_refl _⟩, by repeat (first | exact Drawn0.refl _ | apply Drawn0.step)⟩
 case round =>
  clear H'
  try clear p2
  obtain ⟨x0_1, x5_1, rfl, rfl, HA, HK1, ⟨m1, rfl⟩⟩ := hrel
  cases gk with
  | zero => exact absurd HA.out (by simp [talikref04_Has.l0])
  | succ k1 =>
   have H := HA.out
   clear HA
   simp only [talikref04_Has.l0] at H
   by_cases c3 : x5_1 < a1
   ·
    rw [if_pos c3] at H
    have c3b0 : decide (x5_1 < a1) = true := decide_eq_true c3
    clear c3
    have H' := qab.mk H
    clear H
    go_wp2
    go_roundg k1
    case measure => have := HK1.out; omega
    case rel => exact ⟨(wrap64 (Int.tdiv x0_1 2)), (wrap64 (x5_1 + 1)), (by first | rfl | (simp; done) | (simp [*]; done)), (by first | rfl | (simp; done) | (simp [*]; done)), H', ⟨by have := HK1.out; omega⟩, by repeat (first | exact Drawn0.refl _ | apply Drawn0.step)⟩
   ·
    rw [if_neg c3] at H
    have c3b0 : decide (x5_1 < a1) = false := decide_eq_false c3
    clear c3
    obtain rfl := Option.some.inj H
    go_wp2
    go_ret
    exact ⟨by first | rfl | (simp; done) | (simp [*]; done), by repeat (first | exact Drawn0.refl _ | apply Drawn0.step)⟩
def talikref04_Place.f (l0_0 : List (S39)) (l0_1 : List (S37)) (l0_2 : List (List Int)) (a1 : Int) : Option (Bool) := (talikref04_in.f a1 0 (l0_0.length : Int)).bind fun t187 => (some t187)
theorem talikref04_Place.calls (A0_0 : Option Addr) (c0_0 : Nat) (l0_0 : List (S39)) (A0_1 : Option Addr) (c0_1 : Nat) (l0_1 : List (S37)) (A0_2 : Option Addr) (c0_2 : Nat) (l0_2 : List (List Int)) (a1 : Int) (r : Bool) (w : World) (hr0_0 : Kd.C k39 w A0_0 l0_0.length l0_0) (hc0_0 : l0_0.length ≤ c0_0) (hr0_1 : Kd.C k37 w A0_1 l0_1.length l0_1) (hc0_1 : l0_1.length ≤ c0_1) (hr0_2 : Kd.C (Kd.slice 3 (Kd.int .i64)) w A0_2 l0_2.length l0_2) (hc0_2 : l0_2.length ≤ c0_2) (h : talikref04_Place.f l0_0 l0_1 l0_2 a1 = some r) :
  Calls Try.prog 25 #[.agg #[.slice A0_0 l0_0.length c0_0, .slice A0_1 l0_1.length c0_1, .slice A0_2 l0_2.length c0_2], .int .i64 a1] w fun e w' => e = .returned (.bool r) ∧ Below w.heap.size w w' := by
 have hu26 := Try.underlying26
 have HR0_0 := qab.mk hr0_0
 have HC0_0 := qab.mk hc0_0
 clear hr0_0 hc0_0
 have HR0_1 := qab.mk hr0_1
 have HC0_1 := qab.mk hc0_1
 clear hr0_1 hc0_1
 have HR0_2 := qab.mk hr0_2
 have HC0_2 := qab.mk hc0_2
 clear hr0_2 hc0_2
 have HB := qab.mk (Below.refl w.heap.size w)
 have H : ((talikref04_in.f a1 0 (l0_0.length : Int)).bind fun t187 => (some t187)) = some r := h
 clear h
 replace H := Option.bind_eq_some_iff.mp H
 obtain ⟨t187, A30, H⟩ := H
 replace H : (some t187) = some r := H
 have A3 := qab.mk A30
 clear A30
 obtain rfl := Option.some.inj H
 go_enter Try.func25, Try.ntmps25
 go_wp2_with (first | ((with_reducible refine qam (N := 2) rfl ?_); refine qal ?hg (N := 2) ?hd (cs := #[.slice A0_0 l0_0.length c0_0, .slice A0_1 l0_1.length c0_1, .slice A0_2 l0_2.length c0_2]) (t := 26) ?hr ?_; (case hd => rfl); (case hg => rfl); (case hr => first | (go_simp; done) | (go_simp; rfl)); intro gb186 hg w4 hbox hb; have n0_ := qab.mk (qad (by repeat (first | (with_reducible first | exact HB.out | apply qag | apply qaf | apply qah) | exact HB.out)) hb); have n1_ := qab.mk (hbox); have n2_ := qab.mk ((by rw [hg]; exact (qar (by repeat (first | (with_reducible first | exact HB.out | apply qag | apply qaf | apply qah) | exact HB.out))) : w.heap.size ≤ gb186)); have n3_ := qab.mk ((by rw [hg]; exact (qar (by repeat (first | (with_reducible first | exact HB.out | apply qag | apply qaf | apply qah) | exact HB.out))) : w.heap.size ≤ gb186)); clear HB; have HB := n0_; have BK186 := n1_; have GW186 := n2_; have GE186 := n3_; clear n0_ n1_ n2_ n3_; clear hb hbox hg; have hcz5_0 : w4.cell? ⟨gb186, 0, none⟩ = some (.slice A0_0 l0_0.length c0_0) := (qaa BK186.out 0).trans rfl; have hcz5_1 : w4.cell? ⟨gb186, 1, none⟩ = some (.slice A0_1 l0_1.length c0_1) := (qaa BK186.out 1).trans rfl; have hcz5_2 : w4.cell? ⟨gb186, 2, none⟩ = some (.slice A0_2 l0_2.length c0_2) := (qaa BK186.out 2).trans rfl; have hfz5_0 := qac BK186.out 0; have hfz5_1 := qac BK186.out 1; have hfz5_2 := qac BK186.out 2) | ((with_reducible refine gate_callee (f := 60) rfl ?_); refine goesL_ (some 9) rfl rfl Try.func60 (by kernel_rfl) rfl #[.int .i64 a1, .int .i64 0, .int .i64 (l0_0.length : Int)] rfl (by (try simp only [List.map_toArray, List.map_cons, List.map_nil]); first | done | rfl | (simp only [List.length_drop, List.length_take]; rfl)) ?_; (with_reducible refine (talikref04_in.calls a1 0 (l0_0.length : Int) t187 _ A3.out).mono ?_); rintro e w' ⟨rfl, ⟨nd, rfl⟩⟩; refine ⟨_, rfl, ?_⟩))
 go_ret
 exact ⟨by first | rfl | (simp [errW_none, errW_some] <;> rfl) | (simp [*, errW_none, errW_some] <;> rfl), by repeat (first | (with_reducible first | exact HB.out | apply qag | apply qaf | apply qah | refine qai ?_ GE186.out) | exact HB.out)⟩
def talikref04_Sets.l0 : Nat → Int → Int → List (S39) → List (S37) → List (List Int) → Option (Int)
 | 0, _, _, _, _, _ => none
 | k + 1, x3, x4, x189000, x189001, x189002 => if x4 < (x189000.length : Int) then (talikref04_Sets.l0 k (wrap64 (2 * x3)) (wrap64 (x4 + 1)) x189000 x189001 x189002) else (some x3)
def talikref04_Sets.f (k : Nat) (l0_0 : List (S39)) (l0_1 : List (S37)) (l0_2 : List (List Int)) : Option (Int) := talikref04_Sets.l0 k 1 0 l0_0 l0_1 l0_2
theorem talikref04_Sets.calls (k : Nat) (A0_0 : Option Addr) (c0_0 : Nat) (l0_0 : List (S39)) (A0_1 : Option Addr) (c0_1 : Nat) (l0_1 : List (S37)) (A0_2 : Option Addr) (c0_2 : Nat) (l0_2 : List (List Int)) (r : Int) (w : World) (hr0_0 : Kd.C k39 w A0_0 l0_0.length l0_0) (hc0_0 : l0_0.length ≤ c0_0) (hr0_1 : Kd.C k37 w A0_1 l0_1.length l0_1) (hc0_1 : l0_1.length ≤ c0_1) (hr0_2 : Kd.C (Kd.slice 3 (Kd.int .i64)) w A0_2 l0_2.length l0_2) (hc0_2 : l0_2.length ≤ c0_2) (h : talikref04_Sets.f k l0_0 l0_1 l0_2 = some r) :
  Calls Try.prog 65 #[.agg #[.slice A0_0 l0_0.length c0_0, .slice A0_1 l0_1.length c0_1, .slice A0_2 l0_2.length c0_2]] w fun e w' => e = .returned (.int .i64 r) ∧ Below w.heap.size w w' := by
 have hu26 := Try.underlying26
 have HR0_0 := qab.mk hr0_0
 have HC0_0 := qab.mk hc0_0
 clear hr0_0 hc0_0
 have HR0_1 := qab.mk hr0_1
 have HC0_1 := qab.mk hc0_1
 clear hr0_1 hc0_1
 have HR0_2 := qab.mk hr0_2
 have HC0_2 := qab.mk hc0_2
 clear hr0_2 hc0_2
 have HB := qab.mk (Below.refl w.heap.size w)
 have H : (talikref04_Sets.l0 k 1 0 l0_0 l0_1 l0_2) = some r := h
 clear h
 have H' := qab.mk H
 clear H
 go_enter Try.func65, Try.ntmps65
 go_wp2_with (first | ((with_reducible refine qam (N := 1) rfl ?_); refine qal ?hg (N := 1) ?hd (cs := #[.slice A0_0 l0_0.length c0_0, .slice A0_1 l0_1.length c0_1, .slice A0_2 l0_2.length c0_2]) (t := 26) ?hr ?_; (case hd => rfl); (case hg => rfl); (case hr => first | (go_simp; done) | (go_simp; rfl)); intro gb188 hg w2 hbox hb; have n0_ := qab.mk (qad (by repeat (first | (with_reducible first | exact HB.out | apply qag | apply qaf | apply qah) | exact HB.out)) hb); have n1_ := qab.mk (hbox); have n2_ := qab.mk ((by rw [hg]; exact (qar (by repeat (first | (with_reducible first | exact HB.out | apply qag | apply qaf | apply qah) | exact HB.out))) : w.heap.size ≤ gb188)); have n3_ := qab.mk ((by rw [hg]; exact (qar (by repeat (first | (with_reducible first | exact HB.out | apply qag | apply qaf | apply qah) | exact HB.out))) : w.heap.size ≤ gb188)); clear HB; have HB := n0_; have BK188 := n1_; have GW188 := n2_; have GE188 := n3_; clear n0_ n1_ n2_ n3_; clear hb hbox hg))
 go_loopg [3, 4] k (fun kq v3 v4 w' => ∃ (x3_1 : Int) (x4_1 : Int), v3 = .int .i64 x3_1 ∧ v4 = .int .i64 x4_1 ∧ qab (talikref04_Sets.l0 kq x3_1 x4_1 l0_0 l0_1 l0_2 = some r) ∧ qab (kq ≤ k) ∧ qab (w'.heap[gb188]? = some (.cells #[(.slice A0_0 l0_0.length c0_0), (.slice A0_1 l0_1.length c0_1), (.slice A0_2 l0_2.length c0_2)] 26 (0, 0))) ∧ qab (Below w.heap.size w w'))
 case atStart => exact ⟨(1), (0), (by first | rfl | (simp; done) | (simp [*]; done)), (by first | rfl | (simp; done) | (simp [*]; done)), H', ⟨Nat.le_refl _⟩, ⟨by (with_reducible repeat (first | refine blk_drewN ?_ _ | refine blk_drew ?_ | refine qan ?_ _)); exact BK188.out⟩, ⟨by repeat (first | (with_reducible first | exact HB.out | apply qag | apply qaf | apply qah | refine qai ?_ GE188.out) | exact HB.out)⟩⟩
 case round =>
  clear H'
  try clear p2
  obtain ⟨x3_1, x4_1, rfl, rfl, HA, HK1, BK188, HB⟩ := hrel
  cases gk with
  | zero => exact absurd HA.out (by simp [talikref04_Sets.l0])
  | succ k1 =>
   have H := HA.out
   clear HA
   simp only [talikref04_Sets.l0] at H
   by_cases c3 : x4_1 < (l0_0.length : Int)
   ·
    rw [if_pos c3] at H
    have c3b0 : decide (x4_1 < (l0_0.length : Int)) = true := decide_eq_true c3
    clear c3
    have H' := qab.mk H
    clear H
    have hcz4_0 : wr.cell? ⟨gb188, 0, none⟩ = some (.slice A0_0 l0_0.length c0_0) := (qaa BK188.out 0).trans rfl
    have hcz4_1 : wr.cell? ⟨gb188, 1, none⟩ = some (.slice A0_1 l0_1.length c0_1) := (qaa BK188.out 1).trans rfl
    have hcz4_2 : wr.cell? ⟨gb188, 2, none⟩ = some (.slice A0_2 l0_2.length c0_2) := (qaa BK188.out 2).trans rfl
    have hfz4_0 := qac BK188.out 0
    have hfz4_1 := qac BK188.out 1
    have hfz4_2 := qac BK188.out 2
    go_wp2
    go_roundg k1
    case measure => have := HK1.out; omega
    case rel => exact ⟨(wrap64 (2 * x3_1)), (wrap64 (x4_1 + 1)), (by first | rfl | (simp; done) | (simp [*]; done)), (by first | rfl | (simp; done) | (simp [*]; done)), H', ⟨by have := HK1.out; omega⟩, ⟨by (with_reducible repeat (first | refine blk_drewN ?_ _ | refine blk_drew ?_ | refine qan ?_ _)); exact BK188.out⟩, ⟨by repeat (first | (with_reducible first | exact HB.out | apply qag | apply qaf | apply qah | refine qai ?_ GE188.out) | exact HB.out)⟩⟩
   ·
    rw [if_neg c3] at H
    have c3b0 : decide (x4_1 < (l0_0.length : Int)) = false := decide_eq_false c3
    clear c3
    obtain rfl := Option.some.inj H
    have hcz5_0 : wr.cell? ⟨gb188, 0, none⟩ = some (.slice A0_0 l0_0.length c0_0) := (qaa BK188.out 0).trans rfl
    have hcz5_1 : wr.cell? ⟨gb188, 1, none⟩ = some (.slice A0_1 l0_1.length c0_1) := (qaa BK188.out 1).trans rfl
    have hcz5_2 : wr.cell? ⟨gb188, 2, none⟩ = some (.slice A0_2 l0_2.length c0_2) := (qaa BK188.out 2).trans rfl
    have hfz5_0 := qac BK188.out 0
    have hfz5_1 := qac BK188.out 1
    have hfz5_2 := qac BK188.out 2
    go_wp2
    go_ret
    exact ⟨by first | rfl | (simp [errW_none, errW_some] <;> rfl) | (simp [*, errW_none, errW_some] <;> rfl), by repeat (first | (with_reducible first | exact HB.out | apply qag | apply qaf | apply qah | refine qai ?_ GE188.out) | exact HB.out)⟩
def talikref04_Fault.f (k : Nat) (l0_0 : List (S39)) (l0_1 : List (S37)) (l0_2 : List (List Int)) (a1 : Int) : Option (Bool) := (talikref04_Sets.f k l0_0 l0_1 l0_2).bind fun t190 => ((talikref04_in.f a1 0 (wrap64 (t190 - 1))).bind fun t191 => (some t191))
theorem talikref04_Fault.calls (k : Nat) (A0_0 : Option Addr) (c0_0 : Nat) (l0_0 : List (S39)) (A0_1 : Option Addr) (c0_1 : Nat) (l0_1 : List (S37)) (A0_2 : Option Addr) (c0_2 : Nat) (l0_2 : List (List Int)) (a1 : Int) (r : Bool) (w : World) (hr0_0 : Kd.C k39 w A0_0 l0_0.length l0_0) (hc0_0 : l0_0.length ≤ c0_0) (hr0_1 : Kd.C k37 w A0_1 l0_1.length l0_1) (hc0_1 : l0_1.length ≤ c0_1) (hr0_2 : Kd.C (Kd.slice 3 (Kd.int .i64)) w A0_2 l0_2.length l0_2) (hc0_2 : l0_2.length ≤ c0_2) (h : talikref04_Fault.f k l0_0 l0_1 l0_2 a1 = some r) :
  Calls Try.prog 26 #[.agg #[.slice A0_0 l0_0.length c0_0, .slice A0_1 l0_1.length c0_1, .slice A0_2 l0_2.length c0_2], .int .i64 a1] w fun e w' => e = .returned (.bool r) ∧ Below w.heap.size w w' := by
 have hu26 := Try.underlying26
 have HR0_0 := qab.mk hr0_0
 have HC0_0 := qab.mk hc0_0
 clear hr0_0 hc0_0
 have HR0_1 := qab.mk hr0_1
 have HC0_1 := qab.mk hc0_1
 clear hr0_1 hc0_1
 have HR0_2 := qab.mk hr0_2
 have HC0_2 := qab.mk hc0_2
 clear hr0_2 hc0_2
 have HB := qab.mk (Below.refl w.heap.size w)
 have H : ((talikref04_Sets.f k l0_0 l0_1 l0_2).bind fun t190 => ((talikref04_in.f a1 0 (wrap64 (t190 - 1))).bind fun t191 => (some t191))) = some r := h
 clear h
 replace H := Option.bind_eq_some_iff.mp H
 obtain ⟨t190, A30, H⟩ := H
 replace H : ((talikref04_in.f a1 0 (wrap64 (t190 - 1))).bind fun t191 => (some t191)) = some r := H
 have A3 := qab.mk A30
 clear A30
 replace H := Option.bind_eq_some_iff.mp H
 obtain ⟨t191, A40, H⟩ := H
 replace H : (some t191) = some r := H
 have A4 := qab.mk A40
 clear A40
 obtain rfl := Option.some.inj H
 go_enter Try.func26, Try.ntmps26
 go_wp2_with (first | ((with_reducible refine qam (N := 2) rfl ?_); refine qal ?hg (N := 2) ?hd (cs := #[.slice A0_0 l0_0.length c0_0, .slice A0_1 l0_1.length c0_1, .slice A0_2 l0_2.length c0_2]) (t := 26) ?hr ?_; (case hd => rfl); (case hg => rfl); (case hr => first | (go_simp; done) | (go_simp; rfl)); intro gb189 hg w5 hbox hb; have n0_ := qab.mk (qad (by repeat (first | (with_reducible first | exact HB.out | apply qag | apply qaf | apply qah) | exact HB.out)) hb); have n1_ := qab.mk (hbox); have n2_ := qab.mk ((by rw [hg]; exact (qar (by repeat (first | (with_reducible first | exact HB.out | apply qag | apply qaf | apply qah) | exact HB.out))) : w.heap.size ≤ gb189)); have n3_ := qab.mk ((by rw [hg]; exact (qar (by repeat (first | (with_reducible first | exact HB.out | apply qag | apply qaf | apply qah) | exact HB.out))) : w.heap.size ≤ gb189)); clear HB; have HB := n0_; have BK189 := n1_; have GW189 := n2_; have GE189 := n3_; clear n0_ n1_ n2_ n3_; clear hb hbox hg; have hcz6_0 : w5.cell? ⟨gb189, 0, none⟩ = some (.slice A0_0 l0_0.length c0_0) := (qaa BK189.out 0).trans rfl; have hcz6_1 : w5.cell? ⟨gb189, 1, none⟩ = some (.slice A0_1 l0_1.length c0_1) := (qaa BK189.out 1).trans rfl; have hcz6_2 : w5.cell? ⟨gb189, 2, none⟩ = some (.slice A0_2 l0_2.length c0_2) := (qaa BK189.out 2).trans rfl; have hfz6_0 := qac BK189.out 0; have hfz6_1 := qac BK189.out 1; have hfz6_2 := qac BK189.out 2) | ((with_reducible refine gate_callee (f := 65) rfl ?_); refine goesL_ (some 7) rfl rfl Try.func65 (by kernel_rfl) rfl #[.agg #[.slice A0_0 l0_0.length c0_0, .slice A0_1 l0_1.length c0_1, .slice A0_2 l0_2.length c0_2]] rfl (by (try simp only [List.map_toArray, List.map_cons, List.map_nil]); first | done | rfl | (simp only [List.length_drop, List.length_take]; rfl)) ?_; (with_reducible refine (talikref04_Sets.calls k _ _ l0_0 _ _ l0_1 _ _ l0_2 t190 _ ?side1 ?side2 ?side3 ?side4 ?side5 ?side6 A3.out).mono ?_); (case side1 => repeat (first | exact (Kd.qak HR0_0.out HB.out) | (with_reducible refine Kd.C_alloc ?_ _) | (with_reducible refine Kd.C_drewN ?_ _) | (with_reducible refine Kd.C_drew ?_))); (case side2 => exact HC0_0.out); (case side3 => repeat (first | exact (Kd.qak HR0_1.out HB.out) | (with_reducible refine Kd.C_alloc ?_ _) | (with_reducible refine Kd.C_drewN ?_ _) | (with_reducible refine Kd.C_drew ?_))); (case side4 => exact HC0_1.out); (case side5 => repeat (first | exact (Kd.qak HR0_2.out HB.out) | (with_reducible refine Kd.C_alloc ?_ _) | (with_reducible refine Kd.C_drewN ?_ _) | (with_reducible refine Kd.C_drew ?_))); (case side6 => exact HC0_2.out); rintro e w7 ⟨rfl, hb⟩; refine ⟨_, rfl, ?_⟩; have n0_ := qab.mk (qae (g := gb189) (o := .cells #[.slice A0_0 l0_0.length c0_0, .slice A0_1 l0_1.length c0_1, .slice A0_2 l0_2.length c0_2] 26 (0, 0)) (by (with_reducible repeat (first | refine blk_drewN ?_ _ | refine blk_drew ?_ | refine qan ?_ _)); exact BK189.out) hb); have n1_ := qab.mk (qad (by repeat (first | (with_reducible first | exact HB.out | apply qag | apply qaf | apply qah | refine qai ?_ GE189.out) | exact HB.out)) hb); clear BK189; clear HB; have BK189 := n0_; have HB := n1_; clear n0_ n1_; (try clear hb); (try clear hb2); (try clear hk); (try clear hi)) | ((with_reducible refine gate_callee (f := 60) rfl ?_); refine goesL_ (some 9) rfl rfl Try.func60 (by kernel_rfl) rfl #[.int .i64 a1, .int .i64 0, .int .i64 (wrap64 (t190 - 1))] rfl (by (try simp only [List.map_toArray, List.map_cons, List.map_nil]); first | done | rfl | (simp only [List.length_drop, List.length_take]; rfl)) ?_; (with_reducible refine (talikref04_in.calls a1 0 (wrap64 (t190 - 1)) t191 _ A4.out).mono ?_); rintro e w' ⟨rfl, ⟨nd, rfl⟩⟩; refine ⟨_, rfl, ?_⟩))
 go_ret
 exact ⟨by first | rfl | (simp [errW_none, errW_some] <;> rfl) | (simp [*, errW_none, errW_some] <;> rfl), by repeat (first | (with_reducible first | exact HB.out | apply qag | apply qaf | apply qah | refine qai ?_ GE189.out) | exact HB.out)⟩
theorem sets_go (l0 : List S39) (l1 : List S37) (l2 : List (List Int)) (h5 : l0.length ≤ 8) : ∀ (m i k : Nat), i + m = l0.length → m + 1 ≤ k → talikref04_Sets.l0 k (((2 ^ i : Nat) : Int)) (i : Int) l0 l1 l2 = some (((2 ^ l0.length : Nat) : Int)) := by
 intro m
 induction m with
 | zero =>
  intro i k hi hk
  obtain ⟨k, rfl⟩ : ∃ k', k = k' + 1 := ⟨k - 1, by omega⟩
  obtain rfl : i = l0.length := by omega
  unfold talikref04_Sets.l0
  rw [if_neg (by omega)]
 | succ m ih =>
  intro i k hi hk
  obtain ⟨k, rfl⟩ : ∃ k', k = k' + 1 := ⟨k - 1, by omega⟩
  have hp : 2 ^ i ≤ 2 ^ 8 := Nat.pow_le_pow_right (n := 2) (by decide) (by omega)
  have e : wrap64 (2 * ((2 ^ i : Nat) : Int)) = ((2 ^ (i + 1) : Nat) : Int) := by
   rw [Nat.pow_succ]
   generalize 2 ^ i = p at hp ⊢
   unfold wrap64
   omega
  unfold talikref04_Sets.l0
  rw [if_pos (by omega), e, wsucc i (by omega), ih (i + 1) k (by omega) (by omega)]
theorem sets_eq (l0 : List S39) (l1 : List S37) (l2 : List (List Int)) (h5 : l0.length ≤ 8) (k : Nat) (hk : 10 ≤ k) : talikref04_Sets.f k l0 l1 l2 = some (((2 ^ l0.length : Nat) : Int)) := sets_go l0 l1 l2 h5 l0.length 0 k (by omega) (by omega)
def inFault (l0 : List S39) (f : Int) : Bool := inB f 0 (((2 ^ l0.length : Nat) : Int) - 1)
theorem rfault_eq (l0 : List S39) (l1 : List S37) (l2 : List (List Int)) (h5 : l0.length ≤ 8) (f : Int) (k : Nat) (hk : 10 ≤ k) : talikref04_Fault.f k l0 l1 l2 f = some (inFault l0 f) := by
 have hp : 2 ^ l0.length ≤ 2 ^ 8 := Nat.pow_le_pow_right (n := 2) (by decide) (by omega)
 have h0 : 0 < 2 ^ l0.length := Nat.pow_pos (by decide)
 unfold talikref04_Fault.f
 rw [sets_eq l0 l1 l2 h5 k hk]
 simp only [Option.bind_some]
 rw [rin_eq]
 unfold inFault
 generalize 2 ^ l0.length = p at hp h0 ⊢
 rw [wrap_id (by omega) (by omega)]
 rfl
theorem rplace_eq (l0 : List S39) (l1 : List S37) (l2 : List (List Int)) (a : Int) : talikref04_Place.f l0 l1 l2 a = some (inB a 0 l0.length) := by
 unfold talikref04_Place.f
 rw [rin_eq]
 rfl
def halfV : Nat → Int → Int
 | 0, x => x
 | n + 1, x => halfV n (Int.tdiv x 2)
theorem has_go : ∀ (n k : Nat) (x j i : Int), i + n = j → 0 ≤ i → j ≤ 100 → 0 ≤ x → x ≤ 1000 → n + 1 ≤ k → talikref04_Has.l0 k x j i = some (Int.tmod (halfV n x) 2 == 1) := by
 intro n
 induction n with
 | zero =>
  intro k x j i hi h0 hj x0 x1 hk
  obtain ⟨k, rfl⟩ : ∃ k', k = k' + 1 := ⟨k - 1, by omega⟩
  unfold talikref04_Has.l0
  rw [if_neg (by omega)]
  rfl
 | succ n ih =>
  intro k x j i hi h0 hj x0 x1 hk
  obtain ⟨k, rfl⟩ : ∃ k', k = k' + 1 := ⟨k - 1, by omega⟩
  have e : Int.tdiv x 2 = x / 2 := Int.tdiv_eq_ediv_of_nonneg x0
  unfold talikref04_Has.l0
  rw [if_pos (by omega), e, wrap_id (x := x / 2) (by omega) (by omega), wrap_id (x := i + 1) (by omega) (by omega), ih k (x / 2) j (i + 1) (by omega) (by omega) hj (by omega) (by omega) (by omega)]
  simp only [halfV, e]
theorem half_table : (List.range 32).all (fun f => (List.range 5).all fun i => (Int.tmod (halfV i (f : Int)) 2 == 1) == bitB (f : Int) i) = true := by kernel_rfl
theorem has_eq (f : Int) (f0 : 0 ≤ f) (f1 : f < 32) (i : Nat) (hi : i < 5) (k : Nat) (hk : 10 ≤ k) : talikref04_Has.f k f (i : Int) = some (bitB f i) := by
 obtain ⟨n, rfl⟩ := Int.eq_ofNat_of_zero_le f0
 have h := has_go i k (n : Int) (i : Int) 0 (by omega) (by omega) (by omega) (by omega) (by omega) (by omega)
 have ht := List.all_eq_true.1 (List.all_eq_true.1 half_table n (by simp; omega)) i (by simp; omega)
 unfold talikref04_Has.f
 rw [h, eq_of_beq ht]
end Go.Proofs.Ytipphcjgdebecaa.PA
