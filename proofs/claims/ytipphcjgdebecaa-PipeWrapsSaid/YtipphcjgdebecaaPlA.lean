/- What functions of the program answer. No condition. -/
import Derived.Test.YtipphcjgdebecaaSC
import Derived.Test.YtipphcjgdebecaaSF
import Derived.Test.YtipphcjgdebecaaSG
import Derived.Test.YtipphcjgdebecaaSM
set_option linter.all false
set_option maxRecDepth 100000
set_option maxHeartbeats 8000000
namespace Go.Proofs.Ytipphcjgdebecaa.PA
open Go.RowKit Go.Proofs.YtipphcjgdebecaaW.PrintWords Go.Proofs.YtipphcjgdebecaaW.PrintLast Go.Proofs.YtipphcjgdebecaaW.PrintMore
attribute [local go_sem] qaw qay max_two min_two qas qat qax qaz
def talikref04_Span.f (a0_0 : Int) (a0_1 : Int) (a1 : Int) (a2 : Int) : Option (Bool) := if a0_0 ≥ a1 then (if a0_0 ≤ a0_1 then (some (decide (a0_1 ≤ a2))) else (some false)) else (some false)
theorem talikref04_Span.calls (a0_0 : Int) (a0_1 : Int) (a1 : Int) (a2 : Int) (r : Bool) (w : World) (h : talikref04_Span.f a0_0 a0_1 a1 a2 = some r) :
  Calls Try.prog 59 #[.agg #[.int .i64 a0_0, .int .i64 a0_1], .int .i64 a1, .int .i64 a2] w fun e w' => e = .returned (.bool r) ∧ Below w.heap.size w w' := by
 have hu37 := Try.underlying37
 have HB := qab.mk (Below.refl w.heap.size w)
 have H : (if a0_0 ≥ a1 then (if a0_0 ≤ a0_1 then (some (decide (a0_1 ≤ a2))) else (some false)) else (some false)) = some r := h
 clear h
 by_cases c4 : a0_0 ≥ a1
 ·
  rw [if_pos c4] at H
  have c4b0 : decide (a1 ≤ a0_0) = true := decide_eq_true c4
  clear c4
  by_cases c5 : a0_0 ≤ a0_1
  ·
   rw [if_pos c5] at H
   have c5b0 : decide (a0_0 ≤ a0_1) = true := decide_eq_true c5
   clear c5
   obtain rfl := Option.some.inj H
   go_enter Try.func59, Try.ntmps59
   go_wp2_with (first | ((with_reducible refine qan (N := 3) rfl ?_); refine qam ?hg (N := 3) ?hd (cs := #[.int .i64 a0_0, .int .i64 a0_1]) (t := 37) ?hr ?_; (case hd => rfl); (case hg => rfl); (case hr => first | (go_simp; done) | (go_simp; rfl)); intro gb151 hg w6 hbox hb; have n0_ := qab.mk (qad (by repeat (first | (with_reducible first | exact HB.out | apply qaf | apply qae | apply qah) | exact HB.out)) hb); have n1_ := qab.mk (hbox); have n2_ := qab.mk ((by rw [hg]; exact (qap (by repeat (first | (with_reducible first | exact HB.out | apply qaf | apply qae | apply qah) | exact HB.out))) : w.heap.size ≤ gb151)); have n3_ := qab.mk ((by rw [hg]; exact (qap (by repeat (first | (with_reducible first | exact HB.out | apply qaf | apply qae | apply qah) | exact HB.out))) : w.heap.size ≤ gb151)); clear HB; have HB := n0_; have BK151 := n1_; have GW151 := n2_; have GE151 := n3_; clear n0_ n1_ n2_ n3_; clear hb hbox hg; have hcz7_0 : w6.cell? ⟨gb151, 0, none⟩ = some (.int .i64 a0_0) := (qaa BK151.out 0).trans rfl; have hcz7_1 : w6.cell? ⟨gb151, 1, none⟩ = some (.int .i64 a0_1) := (qaa BK151.out 1).trans rfl; have hfz7_0 := qac BK151.out 0; have hfz7_1 := qac BK151.out 1))
   go_ret
   exact ⟨by first | rfl | (simp [qau, qav] <;> rfl) | (simp [*, qau, qav] <;> rfl), by repeat (first | (with_reducible first | exact HB.out | apply qaf | apply qae | apply qah | refine qai ?_ GE151.out) | exact HB.out)⟩
  ·
   rw [if_neg c5] at H
   have c5b0 : decide (a0_0 ≤ a0_1) = false := decide_eq_false c5
   clear c5
   obtain rfl := Option.some.inj H
   go_enter Try.func59, Try.ntmps59
   go_wp2_with (first | ((with_reducible refine qan (N := 3) rfl ?_); refine qam ?hg (N := 3) ?hd (cs := #[.int .i64 a0_0, .int .i64 a0_1]) (t := 37) ?hr ?_; (case hd => rfl); (case hg => rfl); (case hr => first | (go_simp; done) | (go_simp; rfl)); intro gb151 hg w8 hbox hb; have n0_ := qab.mk (qad (by repeat (first | (with_reducible first | exact HB.out | apply qaf | apply qae | apply qah) | exact HB.out)) hb); have n1_ := qab.mk (hbox); have n2_ := qab.mk ((by rw [hg]; exact (qap (by repeat (first | (with_reducible first | exact HB.out | apply qaf | apply qae | apply qah) | exact HB.out))) : w.heap.size ≤ gb151)); have n3_ := qab.mk ((by rw [hg]; exact (qap (by repeat (first | (with_reducible first | exact HB.out | apply qaf | apply qae | apply qah) | exact HB.out))) : w.heap.size ≤ gb151)); clear HB; have HB := n0_; have BK151 := n1_; have GW151 := n2_; have GE151 := n3_; clear n0_ n1_ n2_ n3_; clear hb hbox hg; have hcz9_0 : w8.cell? ⟨gb151, 0, none⟩ = some (.int .i64 a0_0) := (qaa BK151.out 0).trans rfl; have hcz9_1 : w8.cell? ⟨gb151, 1, none⟩ = some (.int .i64 a0_1) := (qaa BK151.out 1).trans rfl; have hfz9_0 := qac BK151.out 0; have hfz9_1 := qac BK151.out 1))
   go_ret
   exact ⟨by first | rfl | (simp [qau, qav] <;> rfl) | (simp [*, qau, qav] <;> rfl), by repeat (first | (with_reducible first | exact HB.out | apply qaf | apply qae | apply qah | refine qai ?_ GE151.out) | exact HB.out)⟩
 ·
  rw [if_neg c4] at H
  have c4b0 : decide (a1 ≤ a0_0) = false := decide_eq_false c4
  clear c4
  obtain rfl := Option.some.inj H
  go_enter Try.func59, Try.ntmps59
  go_wp2_with (first | ((with_reducible refine qan (N := 3) rfl ?_); refine qam ?hg (N := 3) ?hd (cs := #[.int .i64 a0_0, .int .i64 a0_1]) (t := 37) ?hr ?_; (case hd => rfl); (case hg => rfl); (case hr => first | (go_simp; done) | (go_simp; rfl)); intro gb151 hg w10 hbox hb; have n0_ := qab.mk (qad (by repeat (first | (with_reducible first | exact HB.out | apply qaf | apply qae | apply qah) | exact HB.out)) hb); have n1_ := qab.mk (hbox); have n2_ := qab.mk ((by rw [hg]; exact (qap (by repeat (first | (with_reducible first | exact HB.out | apply qaf | apply qae | apply qah) | exact HB.out))) : w.heap.size ≤ gb151)); have n3_ := qab.mk ((by rw [hg]; exact (qap (by repeat (first | (with_reducible first | exact HB.out | apply qaf | apply qae | apply qah) | exact HB.out))) : w.heap.size ≤ gb151)); clear HB; have HB := n0_; have BK151 := n1_; have GW151 := n2_; have GE151 := n3_; clear n0_ n1_ n2_ n3_; clear hb hbox hg; have hcz11_0 : w10.cell? ⟨gb151, 0, none⟩ = some (.int .i64 a0_0) := (qaa BK151.out 0).trans rfl; have hcz11_1 : w10.cell? ⟨gb151, 1, none⟩ = some (.int .i64 a0_1) := (qaa BK151.out 1).trans rfl; have hfz11_0 := qac BK151.out 0; have hfz11_1 := qac BK151.out 1))
  go_ret
  exact ⟨by first | rfl | (simp [qau, qav] <;> rfl) | (simp [*, qau, qav] <;> rfl), by repeat (first | (with_reducible first | exact HB.out | apply qaf | apply qae | apply qah | refine qai ?_ GE151.out) | exact HB.out)⟩
def talikref04_in.f (a0 : Int) (a1 : Int) (a2 : Int) : Option (Bool) := if a0 ≥ a1 then (some (decide (a0 ≤ a2))) else (some false)
theorem talikref04_in.calls (a0 : Int) (a1 : Int) (a2 : Int) (r : Bool) (w : World) (h : talikref04_in.f a0 a1 a2 = some r) :
  Calls Try.prog 60 #[.int .i64 a0, .int .i64 a1, .int .i64 a2] w fun e w' => e = .returned (.bool r) ∧ Drawn0 w w' := by
 have H : (if a0 ≥ a1 then (some (decide (a0 ≤ a2))) else (some false)) = some r := h
 clear h
 by_cases c4 : a0 ≥ a1
 ·
  rw [if_pos c4] at H
  have c4b0 : decide (a1 ≤ a0) = true := decide_eq_true c4
  clear c4
  obtain rfl := Option.some.inj H
  go_enter Try.func60, Try.ntmps60
  go_wp2
  go_ret
  exact ⟨by first | rfl | (simp; done) | (simp [*]; done), by repeat (first | exact Drawn0.refl _ | apply Drawn0.step)⟩
 ·
  rw [if_neg c4] at H
  have c4b0 : decide (a1 ≤ a0) = false := decide_eq_false c4
  clear c4
  obtain rfl := Option.some.inj H
  go_enter Try.func60, Try.ntmps60
  go_wp2
  go_ret
  exact ⟨by first | rfl | (simp; done) | (simp [*]; done), by repeat (first | exact Drawn0.refl _ | apply Drawn0.step)⟩
theorem talikref04_Span_tot (a b lo hi : Int) : ∃ r, talikref04_Span.f a b lo hi = some r := by
 unfold talikref04_Span.f
 split
 ·
  split
  ·
   exact ⟨_, rfl⟩
  ·
   exact ⟨_, rfl⟩
 ·
  exact ⟨_, rfl⟩
theorem talikref04_in_tot (a lo hi : Int) : ∃ r, talikref04_in.f a lo hi = some r := by
 unfold talikref04_in.f
 split
 ·
  exact ⟨_, rfl⟩
 ·
  exact ⟨_, rfl⟩
theorem talikref04_Span_to {f : Nat} {args : Array Value} {W : World} {r : Bool} (h : Calls Try.prog f args W fun e w' => e = .returned (.bool r) ∧ Below W.heap.size W w') : Calls Try.prog f args W fun e w' => e = .returned (.bool r) ∧ Below W.heap.size W w' := h
theorem talikref04_in_to {f : Nat} {args : Array Value} {W : World} {r : Bool} (h : Calls Try.prog f args W fun e w' => e = .returned (.bool r) ∧ Drawn0 W w') : Calls Try.prog f args W fun e w' => e = .returned (.bool r) ∧ Below W.heap.size W w' := h.mono fun e w' ⟨h1, h2⟩ => ⟨h1, h2.below⟩
def talikref04_Loop.f (a0_0 : Int) (a0_1 : Int) (a0_2 : Int) (a0_3 : Int) (a0_4 : Int) (a0_5 : Int) (a0_6 : Int) (a0_7 : Int) (a0_8 : Int) (a0_9 : Int) (a0_10 : Int) (a0_11 : Int) : Option (Bool) := (talikref04_Span.f a0_0 a0_1 1 1000).bind fun t177 => (if t177 = true then ((talikref04_Span.f a0_2 a0_3 0 1000).bind fun t178 => (if t178 = true then ((talikref04_Span.f a0_4 a0_5 0 1000).bind fun t179 => (if t179 = true then (if a0_4 ≤ a0_2 then (if a0_5 ≤ a0_3 then ((talikref04_in.f a0_6 0 1000000).bind fun t180 => (if t180 = true then ((talikref04_in.f a0_7 1 10000).bind fun t181 => (if t181 = true then ((talikref04_in.f a0_8 0 1000).bind fun t182 => (if t182 = true then ((talikref04_in.f a0_9 0 1000).bind fun t183 => (if t183 = true then ((talikref04_Span.f a0_10 a0_11 0 72).bind fun t184 => (some t184)) else (some false))) else (some false))) else (some false))) else (some false))) else (some false)) else (some false)) else (some false))) else (some false))) else (some false))
theorem talikref04_Loop.calls (a0_0 : Int) (a0_1 : Int) (a0_2 : Int) (a0_3 : Int) (a0_4 : Int) (a0_5 : Int) (a0_6 : Int) (a0_7 : Int) (a0_8 : Int) (a0_9 : Int) (a0_10 : Int) (a0_11 : Int) (r : Bool) (w : World) (h : talikref04_Loop.f a0_0 a0_1 a0_2 a0_3 a0_4 a0_5 a0_6 a0_7 a0_8 a0_9 a0_10 a0_11 = some r) :
  Calls Try.prog 58 #[.agg #[.int .i64 a0_0, .int .i64 a0_1, .int .i64 a0_2, .int .i64 a0_3, .int .i64 a0_4, .int .i64 a0_5, .int .i64 a0_6, .int .i64 a0_7, .int .i64 a0_8, .int .i64 a0_9, .int .i64 a0_10, .int .i64 a0_11]] w fun e w' => e = .returned (.bool r) ∧ Below w.heap.size w w' := by
 obtain ⟨b1, e_b1⟩ := talikref04_Span_tot a0_0 a0_1 1 1000
 obtain ⟨b2, e_b2⟩ := talikref04_Span_tot a0_2 a0_3 0 1000
 obtain ⟨b3, e_b3⟩ := talikref04_Span_tot a0_4 a0_5 0 1000
 obtain ⟨b10, e_b10⟩ := talikref04_Span_tot a0_10 a0_11 0 72
 obtain ⟨b6, e_b6⟩ := talikref04_in_tot a0_6 0 1000000
 obtain ⟨b7, e_b7⟩ := talikref04_in_tot a0_7 1 10000
 obtain ⟨b8, e_b8⟩ := talikref04_in_tot a0_8 0 1000
 obtain ⟨b9, e_b9⟩ := talikref04_in_tot a0_9 0 1000
 unfold talikref04_Loop.f at h
 rw [e_b1, e_b2, e_b3, e_b6, e_b7, e_b8, e_b9, e_b10] at h
 simp only [Option.bind_some] at h
 have H_b1 : qab (∀ W, Calls Try.prog 59 #[.agg #[.int .i64 a0_0, .int .i64 a0_1], .int .i64 1, .int .i64 1000] W fun e w' => e = .returned (.bool b1) ∧ Below W.heap.size W w') := ⟨fun W => talikref04_Span_to (talikref04_Span.calls _ _ _ _ _ W e_b1)⟩
 have H_b2 : qab (∀ W, Calls Try.prog 59 #[.agg #[.int .i64 a0_2, .int .i64 a0_3], .int .i64 0, .int .i64 1000] W fun e w' => e = .returned (.bool b2) ∧ Below W.heap.size W w') := ⟨fun W => talikref04_Span_to (talikref04_Span.calls _ _ _ _ _ W e_b2)⟩
 have H_b3 : qab (∀ W, Calls Try.prog 59 #[.agg #[.int .i64 a0_4, .int .i64 a0_5], .int .i64 0, .int .i64 1000] W fun e w' => e = .returned (.bool b3) ∧ Below W.heap.size W w') := ⟨fun W => talikref04_Span_to (talikref04_Span.calls _ _ _ _ _ W e_b3)⟩
 have H_b10 : qab (∀ W, Calls Try.prog 59 #[.agg #[.int .i64 a0_10, .int .i64 a0_11], .int .i64 0, .int .i64 72] W fun e w' => e = .returned (.bool b10) ∧ Below W.heap.size W w') := ⟨fun W => talikref04_Span_to (talikref04_Span.calls _ _ _ _ _ W e_b10)⟩
 have H_b6 : qab (∀ W, Calls Try.prog 60 #[.int .i64 a0_6, .int .i64 0, .int .i64 1000000] W fun e w' => e = .returned (.bool b6) ∧ Below W.heap.size W w') := ⟨fun W => talikref04_in_to (talikref04_in.calls _ _ _ _ W e_b6)⟩
 have H_b7 : qab (∀ W, Calls Try.prog 60 #[.int .i64 a0_7, .int .i64 1, .int .i64 10000] W fun e w' => e = .returned (.bool b7) ∧ Below W.heap.size W w') := ⟨fun W => talikref04_in_to (talikref04_in.calls _ _ _ _ W e_b7)⟩
 have H_b8 : qab (∀ W, Calls Try.prog 60 #[.int .i64 a0_8, .int .i64 0, .int .i64 1000] W fun e w' => e = .returned (.bool b8) ∧ Below W.heap.size W w') := ⟨fun W => talikref04_in_to (talikref04_in.calls _ _ _ _ W e_b8)⟩
 have H_b9 : qab (∀ W, Calls Try.prog 60 #[.int .i64 a0_9, .int .i64 0, .int .i64 1000] W fun e w' => e = .returned (.bool b9) ∧ Below W.heap.size W w') := ⟨fun W => talikref04_in_to (talikref04_in.calls _ _ _ _ W e_b9)⟩
 clear e_b1 e_b2 e_b3 e_b6 e_b7 e_b8 e_b9 e_b10
 have hu39 := Try.underlying39
 have hu37 := Try.underlying37
 have HB := qab.mk (Below.refl w.heap.size w)
 cases b1; rotate_left; cases b2; rotate_left; cases b3; rotate_left; by_cases c4 : a0_4 ≤ a0_2; by_cases c5 : a0_5 ≤ a0_3; cases b6; rotate_left; cases b7; rotate_left; cases b8; rotate_left; cases b9; rotate_left; cases b10
 all_goals
  have hr : r = _ := Option.some.inj (Eq.symm (by first | exact h | (simp only [Bool.false_eq_true, if_true, if_false] at h; exact h) | (simp only [c4, Bool.false_eq_true, if_true, if_false] at h; exact h) | (simp only [c4, c5, Bool.false_eq_true, if_true, if_false] at h; exact h)))
  subst hr
  clear h
  go_enter Try.func58, Try.ntmps58
  go_wp2_with (first | ((with_reducible refine qan (N := 1) rfl ?_); refine qam ?hg (N := 1) ?hd (cs := #[.int .i64 a0_0, .int .i64 a0_1, .int .i64 a0_2, .int .i64 a0_3, .int .i64 a0_4, .int .i64 a0_5, .int .i64 a0_6, .int .i64 a0_7, .int .i64 a0_8, .int .i64 a0_9, .int .i64 a0_10, .int .i64 a0_11]) (t := 39) ?hr ?_; (case hd => rfl); (case hg => rfl); (case hr => first | (go_simp; done) | (go_simp; rfl)); intro gb hg_gb w2 hbox hb; have BKgb := qab.mk hbox; have n_HB := qab.mk (qad HB.out hb); have GEgb : w.heap.size ≤ gb := (by rw [hg_gb]; exact HB.out.size); clear HB; have HB := n_HB; clear n_HB; obtain ⟨hfgb, hcgb_0, hcgb_1, hcgb_2, hcgb_3, hcgb_4, hcgb_5, hcgb_6, hcgb_7, hcgb_8, hcgb_9, hcgb_10, hcgb_11⟩ := qz12 BKgb.out; clear hbox hb hg_gb; clear hfgb) | (go_at_call 59; with_reducible refine (H_b1.out _).mono ?_; rintro e w3 ⟨rfl, hb⟩; replace BKgb := qab.mk (qag BKgb.out hb); replace HB := qab.mk (qad HB.out hb); clear hb; have q2 : w3.cell? ⟨gb, 2, none⟩ = some (.int .i64 a0_2) := (qaa BKgb.out 2).trans rfl; have q3 : w3.cell? ⟨gb, 3, none⟩ = some (.int .i64 a0_3) := (qaa BKgb.out 3).trans rfl; have q4 : w3.cell? ⟨gb, 4, none⟩ = some (.int .i64 a0_4) := (qaa BKgb.out 4).trans rfl; have q5 : w3.cell? ⟨gb, 5, none⟩ = some (.int .i64 a0_5) := (qaa BKgb.out 5).trans rfl; have q6 : w3.cell? ⟨gb, 6, none⟩ = some (.int .i64 a0_6) := (qaa BKgb.out 6).trans rfl; have q7 : w3.cell? ⟨gb, 7, none⟩ = some (.int .i64 a0_7) := (qaa BKgb.out 7).trans rfl; have q8 : w3.cell? ⟨gb, 8, none⟩ = some (.int .i64 a0_8) := (qaa BKgb.out 8).trans rfl; have q9 : w3.cell? ⟨gb, 9, none⟩ = some (.int .i64 a0_9) := (qaa BKgb.out 9).trans rfl; have q10 : w3.cell? ⟨gb, 10, none⟩ = some (.int .i64 a0_10) := (qaa BKgb.out 10).trans rfl; have q11 : w3.cell? ⟨gb, 11, none⟩ = some (.int .i64 a0_11) := (qaa BKgb.out 11).trans rfl) | (go_at_call 59; with_reducible refine (H_b2.out _).mono ?_; rintro e w4 ⟨rfl, hb⟩; replace BKgb := qab.mk (qag BKgb.out hb); replace HB := qab.mk (qad HB.out hb); clear hb; have q2 : w4.cell? ⟨gb, 2, none⟩ = some (.int .i64 a0_2) := (qaa BKgb.out 2).trans rfl; have q3 : w4.cell? ⟨gb, 3, none⟩ = some (.int .i64 a0_3) := (qaa BKgb.out 3).trans rfl; have q4 : w4.cell? ⟨gb, 4, none⟩ = some (.int .i64 a0_4) := (qaa BKgb.out 4).trans rfl; have q5 : w4.cell? ⟨gb, 5, none⟩ = some (.int .i64 a0_5) := (qaa BKgb.out 5).trans rfl; have q6 : w4.cell? ⟨gb, 6, none⟩ = some (.int .i64 a0_6) := (qaa BKgb.out 6).trans rfl; have q7 : w4.cell? ⟨gb, 7, none⟩ = some (.int .i64 a0_7) := (qaa BKgb.out 7).trans rfl; have q8 : w4.cell? ⟨gb, 8, none⟩ = some (.int .i64 a0_8) := (qaa BKgb.out 8).trans rfl; have q9 : w4.cell? ⟨gb, 9, none⟩ = some (.int .i64 a0_9) := (qaa BKgb.out 9).trans rfl; have q10 : w4.cell? ⟨gb, 10, none⟩ = some (.int .i64 a0_10) := (qaa BKgb.out 10).trans rfl; have q11 : w4.cell? ⟨gb, 11, none⟩ = some (.int .i64 a0_11) := (qaa BKgb.out 11).trans rfl) | (go_at_call 59; with_reducible refine (H_b3.out _).mono ?_; rintro e w5 ⟨rfl, hb⟩; replace BKgb := qab.mk (qag BKgb.out hb); replace HB := qab.mk (qad HB.out hb); clear hb; have q2 : w5.cell? ⟨gb, 2, none⟩ = some (.int .i64 a0_2) := (qaa BKgb.out 2).trans rfl; have q3 : w5.cell? ⟨gb, 3, none⟩ = some (.int .i64 a0_3) := (qaa BKgb.out 3).trans rfl; have q4 : w5.cell? ⟨gb, 4, none⟩ = some (.int .i64 a0_4) := (qaa BKgb.out 4).trans rfl; have q5 : w5.cell? ⟨gb, 5, none⟩ = some (.int .i64 a0_5) := (qaa BKgb.out 5).trans rfl; have q6 : w5.cell? ⟨gb, 6, none⟩ = some (.int .i64 a0_6) := (qaa BKgb.out 6).trans rfl; have q7 : w5.cell? ⟨gb, 7, none⟩ = some (.int .i64 a0_7) := (qaa BKgb.out 7).trans rfl; have q8 : w5.cell? ⟨gb, 8, none⟩ = some (.int .i64 a0_8) := (qaa BKgb.out 8).trans rfl; have q9 : w5.cell? ⟨gb, 9, none⟩ = some (.int .i64 a0_9) := (qaa BKgb.out 9).trans rfl; have q10 : w5.cell? ⟨gb, 10, none⟩ = some (.int .i64 a0_10) := (qaa BKgb.out 10).trans rfl; have q11 : w5.cell? ⟨gb, 11, none⟩ = some (.int .i64 a0_11) := (qaa BKgb.out 11).trans rfl) | (go_at_call 60; with_reducible refine (H_b6.out _).mono ?_; rintro e w6 ⟨rfl, hb⟩; replace BKgb := qab.mk (qag BKgb.out hb); replace HB := qab.mk (qad HB.out hb); clear hb; have q7 : w6.cell? ⟨gb, 7, none⟩ = some (.int .i64 a0_7) := (qaa BKgb.out 7).trans rfl; have q8 : w6.cell? ⟨gb, 8, none⟩ = some (.int .i64 a0_8) := (qaa BKgb.out 8).trans rfl; have q9 : w6.cell? ⟨gb, 9, none⟩ = some (.int .i64 a0_9) := (qaa BKgb.out 9).trans rfl; have q10 : w6.cell? ⟨gb, 10, none⟩ = some (.int .i64 a0_10) := (qaa BKgb.out 10).trans rfl; have q11 : w6.cell? ⟨gb, 11, none⟩ = some (.int .i64 a0_11) := (qaa BKgb.out 11).trans rfl) | (go_at_call 60; with_reducible refine (H_b7.out _).mono ?_; rintro e w7 ⟨rfl, hb⟩; replace BKgb := qab.mk (qag BKgb.out hb); replace HB := qab.mk (qad HB.out hb); clear hb; have q8 : w7.cell? ⟨gb, 8, none⟩ = some (.int .i64 a0_8) := (qaa BKgb.out 8).trans rfl; have q9 : w7.cell? ⟨gb, 9, none⟩ = some (.int .i64 a0_9) := (qaa BKgb.out 9).trans rfl; have q10 : w7.cell? ⟨gb, 10, none⟩ = some (.int .i64 a0_10) := (qaa BKgb.out 10).trans rfl; have q11 : w7.cell? ⟨gb, 11, none⟩ = some (.int .i64 a0_11) := (qaa BKgb.out 11).trans rfl) | (go_at_call 60; with_reducible refine (H_b8.out _).mono ?_; rintro e w8 ⟨rfl, hb⟩; replace BKgb := qab.mk (qag BKgb.out hb); replace HB := qab.mk (qad HB.out hb); clear hb; have q9 : w8.cell? ⟨gb, 9, none⟩ = some (.int .i64 a0_9) := (qaa BKgb.out 9).trans rfl; have q10 : w8.cell? ⟨gb, 10, none⟩ = some (.int .i64 a0_10) := (qaa BKgb.out 10).trans rfl; have q11 : w8.cell? ⟨gb, 11, none⟩ = some (.int .i64 a0_11) := (qaa BKgb.out 11).trans rfl) | (go_at_call 60; with_reducible refine (H_b9.out _).mono ?_; rintro e w9 ⟨rfl, hb⟩; replace BKgb := qab.mk (qag BKgb.out hb); replace HB := qab.mk (qad HB.out hb); clear hb; have q10 : w9.cell? ⟨gb, 10, none⟩ = some (.int .i64 a0_10) := (qaa BKgb.out 10).trans rfl; have q11 : w9.cell? ⟨gb, 11, none⟩ = some (.int .i64 a0_11) := (qaa BKgb.out 11).trans rfl) | (go_at_call 59; with_reducible refine (H_b10.out _).mono ?_; rintro e w10 ⟨rfl, hb⟩; replace BKgb := qab.mk (qag BKgb.out hb); replace HB := qab.mk (qad HB.out hb); clear hb))
  go_ret
  exact ⟨rfl, HB.out⟩
theorem wsucc (i : Nat) (h : i ≤ 1000000) : wrap64 ((i : Int) + 1) = ((i + 1 : Nat) : Int) := by unfold wrap64; omega
def shortB (l0 : List S39) (l1 : List S37) (l2 : List (List Int)) : Bool := (l2.take 10).all (fun r => decide (r.length ≤ 10)) && (decide (l0.length ≤ 8) && (decide (l1.length ≤ 77) && decide (l2.length ≤ 10)))
theorem rd_L1_at (l2 : List (List Int)) (i : Nat) (h : i < l2.length) : rd_L1 l2 (i : Int) = l2[i] := by simp [rd_L1, h]
structure Short (l0 : List S39) (l1 : List S37) (l2 : List (List Int)) : Prop where
 h0 : l0.length ≤ 8
 h1 : l1.length ≤ 77
 h2 : l2.length ≤ 10
 hr : ∀ i (h : i < l2.length), l2[i].length ≤ 10
theorem short_of {l0 : List S39} {l1 : List S37} {l2 : List (List Int)} (h : shortB l0 l1 l2 = true) : Short l0 l1 l2 := by
 unfold shortB at h
 simp only [Bool.and_eq_true, decide_eq_true_eq] at h
 obtain ⟨h1, h2, h3, h4⟩ := h
 rw [List.take_of_length_le h4, List.all_eq_true] at h1
 exact ⟨h2, h3, h4, fun i hi => by simpa using h1 _ (List.getElem_mem hi)⟩
theorem of_short {l0 : List S39} {l1 : List S37} {l2 : List (List Int)} (h : Short l0 l1 l2) : shortB l0 l1 l2 = true := by
 unfold shortB
 simp only [Bool.and_eq_true, decide_eq_true_eq]
 refine ⟨?_, h.h0, h.h1, h.h2⟩
 rw [List.take_of_length_le h.h2, List.all_eq_true]
 intro r hr
 obtain ⟨i, hi, rfl⟩ := List.mem_iff_getElem.1 hr
 simpa using h.hr i hi
theorem rspan_eq (s : S37) (lo hi : Int) : talikref04_Span.f s.f0 s.f1 lo hi = some (spanB s lo hi) := by
 unfold talikref04_Span.f spanB
 by_cases h1 : s.f0 ≥ lo <;> by_cases h2 : s.f0 ≤ s.f1 <;> simp [h1, h2]
theorem rin_eq (x lo hi : Int) : talikref04_in.f x lo hi = some (inB x lo hi) := by
 unfold talikref04_in.f inB
 by_cases h : x ≥ lo <;> simp [h]
theorem rloop_eq (l : S39) : talikref04_Loop.f l.f0.f0 l.f0.f1 l.f1.f0 l.f1.f1 l.f2.f0 l.f2.f1 l.f3 l.f4 l.f5 l.f6 l.f7.f0 l.f7.f1 = some (loopB l) := by
 unfold talikref04_Loop.f loopB
 rw [rspan_eq l.f0, rspan_eq l.f1, rspan_eq l.f2, rspan_eq l.f7, rin_eq, rin_eq, rin_eq, rin_eq]
 simp only [Option.bind_some]
 cases spanB l.f0 1 1000 <;> cases spanB l.f1 0 1000 <;> cases spanB l.f2 0 1000 <;> by_cases h1 : l.f2.f0 ≤ l.f1.f0 <;> by_cases h2 : l.f2.f1 ≤ l.f1.f1 <;> simp [h1, h2]
 cases inB l.f3 0 1000000 <;> cases inB l.f4 1 10000 <;> cases inB l.f5 0 1000 <;> cases inB l.f6 0 1000 <;> simp
def chkR (i : Nat) : List Int → Nat → Bool
 | [], _ => true
 | h :: t, j => inB h 0 72 && ((i != j || h == 0) && chkR i t (j + 1))
def rowsR (n : Nat) : List (List Int) → Nat → Bool
 | [], _ => true
 | r :: t, i => decide (r.length = n) && (chkR i r 0 && rowsR n t (i + 1))
def finR (l0 : List S39) (l1 : List S37) (l2 : List (List Int)) : Bool := inB l0.length 1 5 && (inB l1.length 1 72 && decide (l2.length = l0.length + 1))
structure BI (w : World) (gb : Nat) (nb : Array Value) (W : World) : Prop where
 b : W.heap[gb]? = some (.cells nb 26 (0, 0))
 hb : Below w.heap.size w W
theorem BI.below {w W W' : World} {gb : Nat} {nb : Array Value} (h : BI w gb nb W) (hb : Below W.heap.size W W') : BI w gb nb W' := ⟨qag h.b hb, qad h.hb hb⟩
def talikref04_Loss.f (a0_0 : Int) (a0_1 : Int) (a0_2 : Int) (a0_3 : Int) (a0_4 : Int) (a0_5 : Int) (a0_6 : Int) (a0_7 : Int) (a0_8 : Int) (a0_9 : Int) (a0_10 : Int) (a0_11 : Int) (a1 : Int) (a2_0 : Int) (a2_1 : Int) (a2_2 : Bool) : Option (Int) := if a2_2 = true then (some (mn (wrap64 (a1 + a0_9)) (wrap64 (Int.tdiv (wrap64 (a2_0 * (wrap64 (a1 + a2_1)))) 1000)))) else (some (mn a1 (wrap64 (Int.tdiv (wrap64 (a2_0 * (wrap64 (a1 + a2_1)))) 1000))))
theorem talikref04_Loss.calls (a0_0 : Int) (a0_1 : Int) (a0_2 : Int) (a0_3 : Int) (a0_4 : Int) (a0_5 : Int) (a0_6 : Int) (a0_7 : Int) (a0_8 : Int) (a0_9 : Int) (a0_10 : Int) (a0_11 : Int) (a1 : Int) (a2_0 : Int) (a2_1 : Int) (a2_2 : Bool) (r : Int) (w : World) (h : talikref04_Loss.f a0_0 a0_1 a0_2 a0_3 a0_4 a0_5 a0_6 a0_7 a0_8 a0_9 a0_10 a0_11 a1 a2_0 a2_1 a2_2 = some r) :
  Calls Try.prog 61 #[.agg #[.int .i64 a0_0, .int .i64 a0_1, .int .i64 a0_2, .int .i64 a0_3, .int .i64 a0_4, .int .i64 a0_5, .int .i64 a0_6, .int .i64 a0_7, .int .i64 a0_8, .int .i64 a0_9, .int .i64 a0_10, .int .i64 a0_11], .int .i64 a1, .agg #[.int .i64 a2_0, .int .i64 a2_1, .bool a2_2]] w fun e w' => e = .returned (.int .i64 r) ∧ Below w.heap.size w w' := by
 have hu39 := Try.underlying39
 have hu44 := Try.underlying44
 have HB := qab.mk (Below.refl w.heap.size w)
 have H : (if a2_2 = true then (some (mn (wrap64 (a1 + a0_9)) (wrap64 (Int.tdiv (wrap64 (a2_0 * (wrap64 (a1 + a2_1)))) 1000)))) else (some (mn a1 (wrap64 (Int.tdiv (wrap64 (a2_0 * (wrap64 (a1 + a2_1)))) 1000))))) = some r := h
 clear h
 by_cases c4 : a2_2 = true
 ·
  subst c4
  have H1 : (some (mn (wrap64 (a1 + a0_9)) (wrap64 (Int.tdiv (wrap64 (a2_0 * (wrap64 (a1 + a2_1)))) 1000)))) = some r := by rw [if_pos rfl] at H; exact H
  clear H
  have H := H1
  clear H1
  obtain ⟨ji5, hji5⟩ : ∃ j_ : Int, (mn (wrap64 (a1 + a0_9)) (wrap64 (Int.tdiv (wrap64 (a2_0 * (wrap64 (a1 + a2_1)))) 1000))) = j_ := ⟨_, rfl⟩
  replace H : (some ji5) = some r := by first | (rw [hji5] at H; exact H) | (simp only [hji5] at H ⊢; exact H)
  have hji5_ : (if (wrap64 (Int.tdiv (wrap64 (a2_0 * (wrap64 (a1 + a2_1)))) 1000)) < (wrap64 (a1 + a0_9)) then (wrap64 (Int.tdiv (wrap64 (a2_0 * (wrap64 (a1 + a2_1)))) 1000)) else (wrap64 (a1 + a0_9))) = ji5 := hji5
  obtain rfl := Option.some.inj H
  go_enter Try.func61, Try.ntmps61
  go_wp2_with (first | ((with_reducible refine qan (N := 3) rfl ?_); refine qam ?hg (N := 3) ?hd (cs := #[.int .i64 a0_0, .int .i64 a0_1, .int .i64 a0_2, .int .i64 a0_3, .int .i64 a0_4, .int .i64 a0_5, .int .i64 a0_6, .int .i64 a0_7, .int .i64 a0_8, .int .i64 a0_9, .int .i64 a0_10, .int .i64 a0_11]) (t := 39) ?hr ?_; (case hd => rfl); (case hg => rfl); (case hr => first | (go_simp; done) | (go_simp; rfl)); intro gb154 hg w6 hbox hb; have n0_ := qab.mk (qad (by repeat (first | (with_reducible first | exact HB.out | apply qaf | apply qae | apply qah) | exact HB.out)) hb); have n1_ := qab.mk (hbox); have n2_ := qab.mk ((by rw [hg]; exact (qap (by repeat (first | (with_reducible first | exact HB.out | apply qaf | apply qae | apply qah) | exact HB.out))) : w.heap.size ≤ gb154)); have n3_ := qab.mk ((by rw [hg]; exact (qap (by repeat (first | (with_reducible first | exact HB.out | apply qaf | apply qae | apply qah) | exact HB.out))) : w.heap.size ≤ gb154)); clear HB; have HB := n0_; have BK154 := n1_; have GW154 := n2_; have GE154 := n3_; clear n0_ n1_ n2_ n3_; clear hb hbox hg) | ((with_reducible refine qan (N := 5) rfl ?_); refine qam ?hg (N := 5) ?hd (cs := #[.int .i64 a2_0, .int .i64 a2_1, .bool true]) (t := 44) ?hr ?_; (case hd => rfl); (case hg => rfl); (case hr => first | (go_simp; done) | (go_simp; rfl)); intro gb155 hg w7 hbox hb; have n0_ := qab.mk (qag (g := gb154) (o := .cells #[.int .i64 a0_0, .int .i64 a0_1, .int .i64 a0_2, .int .i64 a0_3, .int .i64 a0_4, .int .i64 a0_5, .int .i64 a0_6, .int .i64 a0_7, .int .i64 a0_8, .int .i64 a0_9, .int .i64 a0_10, .int .i64 a0_11] 39 (0, 0)) (by (with_reducible repeat (first | refine qao ?_ _ | refine qaq ?_ | refine qak ?_ _)); exact BK154.out) hb); have n1_ := qab.mk (qad (by repeat (first | (with_reducible first | exact HB.out | apply qaf | apply qae | apply qah | refine qai ?_ GE154.out) | exact HB.out)) hb); have n2_ := qab.mk (hbox); have n3_ := qab.mk ((by rw [hg]; exact (qap (by repeat (first | (with_reducible first | exact HB.out | apply qaf | apply qae | apply qah | refine qai ?_ GE154.out) | exact HB.out))) : w.heap.size ≤ gb155)); have n4_ := qab.mk ((by rw [hg]; exact (qap (by repeat (first | (with_reducible first | exact HB.out | apply qaf | apply qae | apply qah | refine qai ?_ GE154.out) | exact HB.out))) : w.heap.size ≤ gb155)); have n5_ := qab.mk ((by rw [hg]; exact Nat.ne_of_lt (blk_lt (g := gb154) (o := .cells #[.int .i64 a0_0, .int .i64 a0_1, .int .i64 a0_2, .int .i64 a0_3, .int .i64 a0_4, .int .i64 a0_5, .int .i64 a0_6, .int .i64 a0_7, .int .i64 a0_8, .int .i64 a0_9, .int .i64 a0_10, .int .i64 a0_11] 39 (0, 0)) (by (with_reducible repeat (first | refine qao ?_ _ | refine qaq ?_ | refine qak ?_ _)); exact BK154.out)) : gb154 ≠ gb155)); have n6_ := qab.mk ((by rw [hg]; exact Nat.ne_of_gt (blk_lt (g := gb154) (o := .cells #[.int .i64 a0_0, .int .i64 a0_1, .int .i64 a0_2, .int .i64 a0_3, .int .i64 a0_4, .int .i64 a0_5, .int .i64 a0_6, .int .i64 a0_7, .int .i64 a0_8, .int .i64 a0_9, .int .i64 a0_10, .int .i64 a0_11] 39 (0, 0)) (by (with_reducible repeat (first | refine qao ?_ _ | refine qaq ?_ | refine qak ?_ _)); exact BK154.out)) : gb155 ≠ gb154)); clear BK154; clear HB; have BK154 := n0_; have HB := n1_; have BK155 := n2_; have GW155 := n3_; have GE155 := n4_; have NB154_155 := n5_; have NB155_154 := n6_; clear n0_ n1_ n2_ n3_ n4_ n5_ n6_; clear hb hbox hg; have hnb8 := NB155_154.out; have hnc8 := NB154_155.out; have hcz9_0 : w7.cell? ⟨gb155, 0, none⟩ = some (.int .i64 a2_0) := (qaa BK155.out 0).trans rfl; have hcz9_1 : w7.cell? ⟨gb155, 1, none⟩ = some (.int .i64 a2_1) := (qaa BK155.out 1).trans rfl; have hcz9_2 : w7.cell? ⟨gb155, 2, none⟩ = some (.bool true) := (qaa BK155.out 2).trans rfl; have hfz9_0 := qac BK155.out 0; have hfz9_1 := qac BK155.out 1; have hfz9_2 := qac BK155.out 2; have hcz10_0 : w7.cell? ⟨gb154, 0, none⟩ = some (.int .i64 a0_0) := (qaa BK154.out 0).trans rfl; have hcz10_1 : w7.cell? ⟨gb154, 1, none⟩ = some (.int .i64 a0_1) := (qaa BK154.out 1).trans rfl; have hcz10_2 : w7.cell? ⟨gb154, 2, none⟩ = some (.int .i64 a0_2) := (qaa BK154.out 2).trans rfl; have hcz10_3 : w7.cell? ⟨gb154, 3, none⟩ = some (.int .i64 a0_3) := (qaa BK154.out 3).trans rfl; have hcz10_4 : w7.cell? ⟨gb154, 4, none⟩ = some (.int .i64 a0_4) := (qaa BK154.out 4).trans rfl; have hcz10_5 : w7.cell? ⟨gb154, 5, none⟩ = some (.int .i64 a0_5) := (qaa BK154.out 5).trans rfl; have hcz10_6 : w7.cell? ⟨gb154, 6, none⟩ = some (.int .i64 a0_6) := (qaa BK154.out 6).trans rfl; have hcz10_7 : w7.cell? ⟨gb154, 7, none⟩ = some (.int .i64 a0_7) := (qaa BK154.out 7).trans rfl; have hcz10_8 : w7.cell? ⟨gb154, 8, none⟩ = some (.int .i64 a0_8) := (qaa BK154.out 8).trans rfl; have hcz10_9 : w7.cell? ⟨gb154, 9, none⟩ = some (.int .i64 a0_9) := (qaa BK154.out 9).trans rfl; have hcz10_10 : w7.cell? ⟨gb154, 10, none⟩ = some (.int .i64 a0_10) := (qaa BK154.out 10).trans rfl; have hcz10_11 : w7.cell? ⟨gb154, 11, none⟩ = some (.int .i64 a0_11) := (qaa BK154.out 11).trans rfl; have hfz10_0 := qac BK154.out 0; have hfz10_1 := qac BK154.out 1; have hfz10_2 := qac BK154.out 2; have hfz10_3 := qac BK154.out 3; have hfz10_4 := qac BK154.out 4; have hfz10_5 := qac BK154.out 5; have hfz10_6 := qac BK154.out 6; have hfz10_7 := qac BK154.out 7; have hfz10_8 := qac BK154.out 8; have hfz10_9 := qac BK154.out 9; have hfz10_10 := qac BK154.out 10; have hfz10_11 := qac BK154.out 11))
  go_ret
  exact ⟨by first | rfl | (simp [qau, qav] <;> rfl) | (simp only [← hji5]; first | rfl | (simp [qau, qav] <;> rfl)) | (simp [*, qau, qav] <;> rfl), by repeat (first | (with_reducible first | exact HB.out | apply qaf | apply qae | apply qah | refine qai ?_ GE154.out | refine qai ?_ GE155.out) | exact HB.out)⟩
 ·
  replace c4 := Bool.eq_false_iff.mpr c4
  subst c4
  have H1 : (some (mn a1 (wrap64 (Int.tdiv (wrap64 (a2_0 * (wrap64 (a1 + a2_1)))) 1000)))) = some r := by rw [if_neg (show ¬ (false = true) by decide)] at H; exact H
  clear H
  have H := H1
  clear H1
  obtain ⟨ji11, hji11⟩ : ∃ j_ : Int, (mn a1 (wrap64 (Int.tdiv (wrap64 (a2_0 * (wrap64 (a1 + a2_1)))) 1000))) = j_ := ⟨_, rfl⟩
  replace H : (some ji11) = some r := by first | (rw [hji11] at H; exact H) | (simp only [hji11] at H ⊢; exact H)
  have hji11_ : (if (wrap64 (Int.tdiv (wrap64 (a2_0 * (wrap64 (a1 + a2_1)))) 1000)) < a1 then (wrap64 (Int.tdiv (wrap64 (a2_0 * (wrap64 (a1 + a2_1)))) 1000)) else a1) = ji11 := hji11
  obtain rfl := Option.some.inj H
  go_enter Try.func61, Try.ntmps61
  go_wp2_with (first | ((with_reducible refine qan (N := 3) rfl ?_); refine qam ?hg (N := 3) ?hd (cs := #[.int .i64 a0_0, .int .i64 a0_1, .int .i64 a0_2, .int .i64 a0_3, .int .i64 a0_4, .int .i64 a0_5, .int .i64 a0_6, .int .i64 a0_7, .int .i64 a0_8, .int .i64 a0_9, .int .i64 a0_10, .int .i64 a0_11]) (t := 39) ?hr ?_; (case hd => rfl); (case hg => rfl); (case hr => first | (go_simp; done) | (go_simp; rfl)); intro gb154 hg w12 hbox hb; have n0_ := qab.mk (qad (by repeat (first | (with_reducible first | exact HB.out | apply qaf | apply qae | apply qah) | exact HB.out)) hb); have n1_ := qab.mk (hbox); have n2_ := qab.mk ((by rw [hg]; exact (qap (by repeat (first | (with_reducible first | exact HB.out | apply qaf | apply qae | apply qah) | exact HB.out))) : w.heap.size ≤ gb154)); have n3_ := qab.mk ((by rw [hg]; exact (qap (by repeat (first | (with_reducible first | exact HB.out | apply qaf | apply qae | apply qah) | exact HB.out))) : w.heap.size ≤ gb154)); clear HB; have HB := n0_; have BK154 := n1_; have GW154 := n2_; have GE154 := n3_; clear n0_ n1_ n2_ n3_; clear hb hbox hg) | ((with_reducible refine qan (N := 5) rfl ?_); refine qam ?hg (N := 5) ?hd (cs := #[.int .i64 a2_0, .int .i64 a2_1, .bool false]) (t := 44) ?hr ?_; (case hd => rfl); (case hg => rfl); (case hr => first | (go_simp; done) | (go_simp; rfl)); intro gb155 hg w13 hbox hb; have n0_ := qab.mk (qag (g := gb154) (o := .cells #[.int .i64 a0_0, .int .i64 a0_1, .int .i64 a0_2, .int .i64 a0_3, .int .i64 a0_4, .int .i64 a0_5, .int .i64 a0_6, .int .i64 a0_7, .int .i64 a0_8, .int .i64 a0_9, .int .i64 a0_10, .int .i64 a0_11] 39 (0, 0)) (by (with_reducible repeat (first | refine qao ?_ _ | refine qaq ?_ | refine qak ?_ _)); exact BK154.out) hb); have n1_ := qab.mk (qad (by repeat (first | (with_reducible first | exact HB.out | apply qaf | apply qae | apply qah | refine qai ?_ GE154.out) | exact HB.out)) hb); have n2_ := qab.mk (hbox); have n3_ := qab.mk ((by rw [hg]; exact (qap (by repeat (first | (with_reducible first | exact HB.out | apply qaf | apply qae | apply qah | refine qai ?_ GE154.out) | exact HB.out))) : w.heap.size ≤ gb155)); have n4_ := qab.mk ((by rw [hg]; exact (qap (by repeat (first | (with_reducible first | exact HB.out | apply qaf | apply qae | apply qah | refine qai ?_ GE154.out) | exact HB.out))) : w.heap.size ≤ gb155)); have n5_ := qab.mk ((by rw [hg]; exact Nat.ne_of_lt (blk_lt (g := gb154) (o := .cells #[.int .i64 a0_0, .int .i64 a0_1, .int .i64 a0_2, .int .i64 a0_3, .int .i64 a0_4, .int .i64 a0_5, .int .i64 a0_6, .int .i64 a0_7, .int .i64 a0_8, .int .i64 a0_9, .int .i64 a0_10, .int .i64 a0_11] 39 (0, 0)) (by (with_reducible repeat (first | refine qao ?_ _ | refine qaq ?_ | refine qak ?_ _)); exact BK154.out)) : gb154 ≠ gb155)); have n6_ := qab.mk ((by rw [hg]; exact Nat.ne_of_gt (blk_lt (g := gb154) (o := .cells #[.int .i64 a0_0, .int .i64 a0_1, .int .i64 a0_2, .int .i64 a0_3, .int .i64 a0_4, .int .i64 a0_5, .int .i64 a0_6, .int .i64 a0_7, .int .i64 a0_8, .int .i64 a0_9, .int .i64 a0_10, .int .i64 a0_11] 39 (0, 0)) (by (with_reducible repeat (first | refine qao ?_ _ | refine qaq ?_ | refine qak ?_ _)); exact BK154.out)) : gb155 ≠ gb154)); clear BK154; clear HB; have BK154 := n0_; have HB := n1_; have BK155 := n2_; have GW155 := n3_; have GE155 := n4_; have NB154_155 := n5_; have NB155_154 := n6_; clear n0_ n1_ n2_ n3_ n4_ n5_ n6_; clear hb hbox hg; have hnb14 := NB155_154.out; have hnc14 := NB154_155.out; have hcz15_0 : w13.cell? ⟨gb155, 0, none⟩ = some (.int .i64 a2_0) := (qaa BK155.out 0).trans rfl; have hcz15_1 : w13.cell? ⟨gb155, 1, none⟩ = some (.int .i64 a2_1) := (qaa BK155.out 1).trans rfl; have hcz15_2 : w13.cell? ⟨gb155, 2, none⟩ = some (.bool false) := (qaa BK155.out 2).trans rfl; have hfz15_0 := qac BK155.out 0; have hfz15_1 := qac BK155.out 1; have hfz15_2 := qac BK155.out 2))
  go_ret
  exact ⟨by first | rfl | (simp [qau, qav] <;> rfl) | (simp only [← hji11]; first | rfl | (simp [qau, qav] <;> rfl)) | (simp [*, qau, qav] <;> rfl), by repeat (first | (with_reducible first | exact HB.out | apply qaf | apply qae | apply qah | refine qai ?_ GE154.out | refine qai ?_ GE155.out) | exact HB.out)⟩
def lossR (L : S39) (warm : Int) (T : S44) : Int := mn (if T.f2 = true then wrap64 (warm + L.f6) else warm) (wrap64 (Int.tdiv (wrap64 (T.f0 * (wrap64 (warm + T.f1)))) 1000))
def groundR (L : S39) (lost : Int) : Int := wrap64 (Int.tdiv (wrap64 (wrap64 (L.f4 * lost) * L.f5)) 1000)
def stepR (L : S39) (T : S44) (x : Heat4) : Heat4 :=
 (wrap64 (wrap64 (x.1 + feedV L T) - lossR L x.1 T), wrap64 (x.2.1 + wrap64 (L.f4 * feedV L T)), wrap64 (x.2.2.1 + groundR L (lossR L x.1 T)), wrap64 (wrap64 (x.2.2.2 + wrap64 (L.f4 * lossR L x.1 T)) - groundR L (lossR L x.1 T)))
def playR (L : S39) (warm : Int) (l : List S44) : Heat4 := l.foldl (fun x T => stepR L T x) (warm, 0, 0, 0)
theorem fold_round {α β : Type} (f : β → α → β) (l : List α) (d : α) (k : Nat) (hk : k < l.length) (x : β) : (l.drop k).foldl f x = (l.drop (k + 1)).foldl f (f x (l.getD k d)) := by
 rw [List.drop_eq_getElem_cons hk, List.foldl_cons]
 simp [hk]
theorem rloss_calls (L : S39) (warm : Int) (T : S44) (W : World) : Calls Try.prog 61 #[.agg #[.int .i64 L.f0.f0, .int .i64 L.f0.f1, .int .i64 L.f1.f0, .int .i64 L.f1.f1, .int .i64 L.f2.f0, .int .i64 L.f2.f1, .int .i64 L.f3, .int .i64 L.f4, .int .i64 L.f5, .int .i64 L.f6, .int .i64 L.f7.f0, .int .i64 L.f7.f1], .int .i64 warm, .agg #[.int .i64 T.f0, .int .i64 T.f1, .bool T.f2]] W fun e w' => e = .returned (.int .i64 (lossR L warm T)) ∧ Below W.heap.size W w' :=
 talikref04_Loss.calls _ _ _ _ _ _ _ _ _ _ _ _ warm _ _ T.f2 _ W (by unfold talikref04_Loss.f lossR; cases T.f2 <;> rfl)
structure RI (w : World) (g3 g6 g7 : Nat) (L : S39) (x : Heat4) (W : World) : Prop where
 l : W.heap[g3]? = some (.cells #[.int .i64 L.f0.f0, .int .i64 L.f0.f1, .int .i64 L.f1.f0, .int .i64 L.f1.f1, .int .i64 L.f2.f0, .int .i64 L.f2.f1, .int .i64 L.f3, .int .i64 L.f4, .int .i64 L.f5, .int .i64 L.f6, .int .i64 L.f7.f0, .int .i64 L.f7.f1] 39 (0, 0))
 r : W.heap[g6]? = some (.cells #[.int .i64 0, .int .i64 0, .int .i64 0, .int .i64 0] 31 (0, 0))
 o : W.heap[g7]? = some (.cells #[.int .i64 x.1, .int .i64 x.2.1, .int .i64 x.2.2.1, .int .i64 x.2.2.2] 31 (0, 0))
 hb : Below w.heap.size w W
 ge : w.heap.size ≤ g7
 ne : g6 ≠ g7
theorem RI.below {w W W' : World} {g3 g6 g7 : Nat} {L : S39} {x : Heat4} (h : RI w g3 g6 g7 L x W) (hb : Below W.heap.size W W') : RI w g3 g6 g7 L x W' :=
 ⟨qag h.l hb, qag h.r hb, qag h.o hb, qad h.hb hb, h.ge, h.ne⟩
def talikref04_Play.T5 : Bool × List (List Nat × List Nat) := (true, [([], []), ([], []), ([1], [1]), ([], []), ([], []), ([3, 4], [3, 4]), ([5], [5]), ([0, 2, 6], [0, 2, 6]), ([7, 7, 0, 1, 2, 3, 4, 5, 6, 7], [7])])
def talikref04_Play.B5 : List Nat := [0, 0, 2, 0, 0, 24, 56, 127, 255]
theorem talikref04_Play.tab5 : rtab .any (opsOf Try.f22 5) = talikref04_Play.T5 := by kernel_rfl
theorem talikref04_Play.bits5 : waitsOk talikref04_Play.T5.2 talikref04_Play.B5 = true := by kernel_rfl
def talikref04_Play.f (a0_0 : Int) (a0_1 : Int) (a0_2 : Int) (a0_3 : Int) (a0_4 : Int) (a0_5 : Int) (a0_6 : Int) (a0_7 : Int) (a0_8 : Int) (a0_9 : Int) (a0_10 : Int) (a0_11 : Int) (a1 : Int) (l2 : List (S44)) : Option (Int × Int × Int × Int) := some (playR ⟨⟨a0_0, a0_1⟩, ⟨a0_2, a0_3⟩, ⟨a0_4, a0_5⟩, a0_6, a0_7, a0_8, a0_9, ⟨a0_10, a0_11⟩⟩ a1 l2)
theorem talikref04_Play.calls (a0_0 : Int) (a0_1 : Int) (a0_2 : Int) (a0_3 : Int) (a0_4 : Int) (a0_5 : Int) (a0_6 : Int) (a0_7 : Int) (a0_8 : Int) (a0_9 : Int) (a0_10 : Int) (a0_11 : Int) (a1 : Int) (A2 : Option Addr) (c2 : Nat) (l2 : List (S44)) (r1 : Int) (r2 : Int) (r3 : Int) (r4 : Int) (w : World) (hr2 : Kd.C k44 w A2 l2.length l2) (hc2 : l2.length ≤ c2) (h : talikref04_Play.f a0_0 a0_1 a0_2 a0_3 a0_4 a0_5 a0_6 a0_7 a0_8 a0_9 a0_10 a0_11 a1 l2 = some (r1, r2, r3, r4)) :
  Calls Try.prog 22 #[.agg #[.int .i64 a0_0, .int .i64 a0_1, .int .i64 a0_2, .int .i64 a0_3, .int .i64 a0_4, .int .i64 a0_5, .int .i64 a0_6, .int .i64 a0_7, .int .i64 a0_8, .int .i64 a0_9, .int .i64 a0_10, .int .i64 a0_11], .int .i64 a1, .slice A2 l2.length c2] w fun e w' => e = .returned (.agg #[.int .i64 r1, .int .i64 r2, .int .i64 r3, .int .i64 r4]) ∧ Below w.heap.size w w' := by
 have h' := Option.some.inj h
 clear h
 have HF := qab.mk h'
 clear h'
 have hu31 := Try.underlying31
 have hu39 := Try.underlying39
 have hu44 := Try.underlying44
 have hu37 := Try.underlying37
 have HB := qab.mk (Below.refl w.heap.size w)
 have HR2 := qab.mk hr2
 have hm2 := Kd.C_max hr2
 clear hr2
 obtain ⟨L, hL⟩ : ∃ L : S39, L = ⟨⟨a0_0, a0_1⟩, ⟨a0_2, a0_3⟩, ⟨a0_4, a0_5⟩, a0_6, a0_7, a0_8, a0_9, ⟨a0_10, a0_11⟩⟩ := ⟨_, rfl⟩
 have HL := qab.mk hL
 rw [← hL] at HF
 rw [show a0_0 = L.f0.f0 from by rw [hL], show a0_1 = L.f0.f1 from by rw [hL], show a0_2 = L.f1.f0 from by rw [hL], show a0_3 = L.f1.f1 from by rw [hL], show a0_4 = L.f2.f0 from by rw [hL], show a0_5 = L.f2.f1 from by rw [hL], show a0_6 = L.f3 from by rw [hL], show a0_7 = L.f4 from by rw [hL], show a0_8 = L.f5 from by rw [hL], show a0_9 = L.f6 from by rw [hL], show a0_10 = L.f7.f0 from by rw [hL], show a0_11 = L.f7.f1 from by rw [hL]]
 clear hL HL
 go_enter Try.func22, Try.ntmps22
 go_upto_region 2 with (first | ((with_reducible refine qan (N := 3) rfl ?_); refine qam ?hg (N := 3) ?hd (cs := #[.int .i64 L.f0.f0, .int .i64 L.f0.f1, .int .i64 L.f1.f0, .int .i64 L.f1.f1, .int .i64 L.f2.f0, .int .i64 L.f2.f1, .int .i64 L.f3, .int .i64 L.f4, .int .i64 L.f5, .int .i64 L.f6, .int .i64 L.f7.f0, .int .i64 L.f7.f1]) (t := 39) ?hr ?_; (case hd => rfl); (case hg => rfl); (case hr => first | (go_simp; done) | (go_simp; rfl)); intro g3 hg_g3 w2 hbox hb; have BKg3 := qab.mk hbox; have n_HB := qab.mk (qad HB.out hb); have GEg3 : w.heap.size ≤ g3 := (by rw [hg_g3]; exact HB.out.size); clear HB; have HB := n_HB; clear n_HB; obtain ⟨hfg3, hcg3_0, hcg3_1, hcg3_2, hcg3_3, hcg3_4, hcg3_5, hcg3_6, hcg3_7, hcg3_8, hcg3_9, hcg3_10, hcg3_11⟩ := qz12 BKg3.out; clear hbox hb hg_g3) | ((with_reducible refine qan (N := 6) rfl ?_); refine qam ?hg (N := 6) ?hd (cs := #[.int .i64 0, .int .i64 0, .int .i64 0, .int .i64 0]) (t := 31) ?hr ?_; (case hd => rfl); (case hg => rfl); (case hr => first | (go_simp; done) | (go_simp; rfl)); intro g6 hg_g6 w3 hbox hb; have BKg6 := qab.mk hbox; replace BKg3 := qab.mk (qag BKg3.out hb); have n_HB := qab.mk (qad HB.out hb); have GEg6 : w.heap.size ≤ g6 := (by rw [hg_g6]; exact HB.out.size); clear HB; have HB := n_HB; clear n_HB; obtain ⟨hfg6, hcg6_0, hcg6_1, hcg6_2, hcg6_3⟩ := qz4 BKg6.out; clear hbox hb hg_g6) | ((with_reducible refine qan (N := 7) rfl ?_); refine qam ?hg (N := 7) ?hd (cs := #[.int .i64 0, .int .i64 0, .int .i64 0, .int .i64 0]) (t := 31) ?hr ?_; (case hd => rfl); (case hg => rfl); (case hr => first | (go_simp; done) | (go_simp; rfl)); intro g7 hg_g7 w4 hbox hb; have BKg7 := qab.mk hbox; have ne_g3_g7 : g3 ≠ g7 := (by rw [hg_g7]; exact Nat.ne_of_lt (blk_lt BKg3.out)); have ne_g6_g7 : g6 ≠ g7 := (by rw [hg_g7]; exact Nat.ne_of_lt (blk_lt BKg6.out)); replace BKg3 := qab.mk (qag BKg3.out hb); replace BKg6 := qab.mk (qag BKg6.out hb); have n_HB := qab.mk (qad HB.out hb); have GEg7 : w.heap.size ≤ g7 := (by rw [hg_g7]; exact HB.out.size); clear HB; have HB := n_HB; clear n_HB; obtain ⟨hfg7, hcg7_0, hcg7_1, hcg7_2, hcg7_3⟩ := qz4 BKg7.out; clear hbox hb hg_g7))
 have he_ : setAll w4 g7 [.int .i64 a1, .int .i64 0, .int .i64 0, .int .i64 0] 0 = ((((w4.setCell ⟨g7, 0, none⟩ (.int .i64 a1)).setCell ⟨g7, 1, none⟩ (.int .i64 0)).setCell ⟨g7, 2, none⟩ (.int .i64 0)).setCell ⟨g7, 3, none⟩ (.int .i64 0)) := rfl; have hbl := setAll_below GEg7 [.int .i64 a1, .int .i64 0, .int .i64 0, .int .i64 0] 0 _ HB.out; have hbx : (setAll w4 g7 [.int .i64 a1, .int .i64 0, .int .i64 0, .int .i64 0] 0).heap[g7]? = some (.cells #[.int .i64 a1, .int .i64 0, .int .i64 0, .int .i64 0] 31 (0, 0)) := setAll_new [.int .i64 a1, .int .i64 0, .int .i64 0, .int .i64 0] [.int .i64 0, .int .i64 0, .int .i64 0, .int .i64 0] BKg7.out rfl; have hx_BKg3 := setAll_far ne_g3_g7 [.int .i64 a1, .int .i64 0, .int .i64 0, .int .i64 0] 0 _ BKg3.out; have hx_BKg6 := setAll_far ne_g6_g7 [.int .i64 a1, .int .i64 0, .int .i64 0, .int .i64 0] 0 _ BKg6.out; rw [he_] at hbl hbx hx_BKg3 hx_BKg6; clear he_; generalize ((((w4.setCell ⟨g7, 0, none⟩ (.int .i64 a1)).setCell ⟨g7, 1, none⟩ (.int .i64 0)).setCell ⟨g7, 2, none⟩ (.int .i64 0)).setCell ⟨g7, 3, none⟩ (.int .i64 0)) = w5 at hbl hbx hx_BKg3 hx_BKg6 ⊢; clear HB BKg7; have HB := qab.mk hbl; have BKg7 := qab.mk hbx; clear hbl hbx; clear BKg3; have BKg3 := qab.mk hx_BKg3; clear hx_BKg3; clear BKg6; have BKg6 := qab.mk hx_BKg6; clear hx_BKg6
 have HT : qab (RI w g3 g6 g7 L (a1, 0, 0, 0) w5) := ⟨⟨BKg3.out, BKg6.out, BKg7.out, HB.out, GEg7, ne_g6_g7⟩⟩
 clear BKg3 BKg6 BKg7 HB hfg3 hfg6 hfg7 hcg3_0 hcg3_1 hcg3_2 hcg3_3 hcg3_4 hcg3_5 hcg3_6 hcg3_7 hcg3_8 hcg3_9 hcg3_10 hcg3_11 hcg6_0 hcg6_1 hcg6_2 hcg6_3 hcg7_0 hcg7_1 hcg7_2 hcg7_3
 have HF0 : qab ((l2.drop 0).foldl (fun x T => stepR L T x) (a1, 0, 0, 0) = (r1, r2, r3, r4)) := ⟨by rw [List.drop_zero]; exact HF.out⟩
 clear HF
 go_wp2_with fail
 go_loopw [8] (fun s8 wr => ∃ (k : Nat) (x : Heat4), k ≤ l2.length ∧ s8 = .int .i64 k ∧ qab ((l2.drop k).foldl (fun x T => stepR L T x) x = (r1, r2, r3, r4)) ∧ qab (RI w g3 g6 g7 L x wr)) (fun s _ => l2.length - (intOf s).toNat)
 case atStart => exact ⟨0, (a1, 0, 0, 0), by omega, rfl, HF0, HT⟩
 case round =>
  clear HT HF0
  obtain ⟨k, x, hk, rfl, HF, HT⟩ := hrel
  by_cases hlt : k < l2.length
  ·
   have hki : (k : Int) < l2.length := by omega
   have hk0 : (0 : Int) ≤ k := by omega
   obtain ⟨ad, e, ht0, ht1, ht2⟩ := at_T44 HR2.out k (by omega) hki
   cases e
   simp only [Int.toNat_natCast] at ht0 ht1 ht2
   have hrd := fold_round (fun x T => stepR L T x) l2 z44 k hlt x
   rw [show l2.getD k z44 = rd_T44 l2 (k : Int) from by simp [rd_T44]] at hrd
   have HD : qab ((l2.drop (k + 1)).foldl (fun x T => stepR L T x) (stepR L (rd_T44 l2 (k : Int)) x) = (r1, r2, r3, r4)) := ⟨by rw [← hrd]; exact HF.out⟩
   clear hrd HF
   generalize rd_T44 l2 (k : Int) = T at HD ht0 ht1 ht2
   have htup : ∀ W, RI w g3 g6 g7 L x W → (W.cell? ⟨g3, 0, none⟩ = some (.int .i64 L.f0.f0) ∧ W.cell? ⟨g3, 1, none⟩ = some (.int .i64 L.f0.f1) ∧ W.cell? ⟨g3, 2, none⟩ = some (.int .i64 L.f1.f0) ∧ W.cell? ⟨g3, 3, none⟩ = some (.int .i64 L.f1.f1) ∧ W.cell? ⟨g3, 4, none⟩ = some (.int .i64 L.f2.f0) ∧ W.cell? ⟨g3, 5, none⟩ = some (.int .i64 L.f2.f1) ∧ W.cell? ⟨g3, 6, none⟩ = some (.int .i64 L.f3) ∧ W.cell? ⟨g3, 7, none⟩ = some (.int .i64 L.f4) ∧ W.cell? ⟨g3, 8, none⟩ = some (.int .i64 L.f5) ∧ W.cell? ⟨g3, 9, none⟩ = some (.int .i64 L.f6) ∧ W.cell? ⟨g3, 10, none⟩ = some (.int .i64 L.f7.f0) ∧ W.cell? ⟨g3, 11, none⟩ = some (.int .i64 L.f7.f1) ∧ W.cell? ⟨g7, 0, none⟩ = some (.int .i64 x.1) ∧ W.cell? (ad.add (k * 3)) = some (.int .i64 T.f0) ∧ W.cell? ⟨(ad.add (k * 3)).block, (ad.add (k * 3)).off + 1, none⟩ = some (.int .i64 T.f1) ∧ W.cell? ⟨(ad.add (k * 3)).block, (ad.add (k * 3)).off + 2, none⟩ = some (.bool T.f2) ∧ qab (RI w g3 g6 g7 L x W)) := fun W h =>
    ⟨qaa h.l 0, qaa h.l 1, qaa h.l 2, qaa h.l 3, qaa h.l 4, qaa h.l 5, qaa h.l 6, qaa h.l 7, qaa h.l 8, qaa h.l 9, qaa h.l 10, qaa h.l 11, qaa h.o 0, (h.hb.cell (World.block_lt_of_cell? w _ ht0)).trans ht0, (h.hb.cell (World.block_lt_of_cell? w _ ht1)).trans ht1, (h.hb.cell (World.block_lt_of_cell? w _ ht2)).trans ht2, ⟨h⟩⟩
   have HTUP := qab.mk htup
   clear htup ht0 ht1 ht2
   have HP1 := qab.mk (HTUP.out _ (HT.out.below (qbb (Below.refl wr.heap.size wr))))
   clear HT
   go_upto_region 5 with fail
   refine start_ (n := 9) (S := fun w' => w'.cell? ⟨g3, 0, none⟩ = some (.int .i64 L.f0.f0) ∧ w'.cell? ⟨g3, 1, none⟩ = some (.int .i64 L.f0.f1) ∧ w'.cell? ⟨g3, 2, none⟩ = some (.int .i64 L.f1.f0) ∧ w'.cell? ⟨g3, 3, none⟩ = some (.int .i64 L.f1.f1) ∧ w'.cell? ⟨g3, 4, none⟩ = some (.int .i64 L.f2.f0) ∧ w'.cell? ⟨g3, 5, none⟩ = some (.int .i64 L.f2.f1) ∧ w'.cell? ⟨g3, 6, none⟩ = some (.int .i64 L.f3) ∧ w'.cell? ⟨g3, 7, none⟩ = some (.int .i64 L.f4) ∧ w'.cell? ⟨g3, 8, none⟩ = some (.int .i64 L.f5) ∧ w'.cell? ⟨g3, 9, none⟩ = some (.int .i64 L.f6) ∧ w'.cell? ⟨g3, 10, none⟩ = some (.int .i64 L.f7.f0) ∧ w'.cell? ⟨g3, 11, none⟩ = some (.int .i64 L.f7.f1) ∧ w'.cell? ⟨g7, 0, none⟩ = some (.int .i64 x.1) ∧ w'.cell? (ad.add (k * 3)) = some (.int .i64 T.f0) ∧ w'.cell? ⟨(ad.add (k * 3)).block, (ad.add (k * 3)).off + 1, none⟩ = some (.int .i64 T.f1) ∧ w'.cell? ⟨(ad.add (k * 3)).block, (ad.add (k * 3)).off + 2, none⟩ = some (.bool T.f2) ∧ qab (RI w g3 g6 g7 L x w')) (ds := []) (msk 9 0) (by kernel_rfl) rfl (by kernel_rfl) HP1.out (fun hHeld => ?_); refine with_tabW talikref04_Play.tab5 talikref04_Play.bits5 (fun HT_ HW_ => ?_)
   refine take_ (i := 0) (N := some 20) (v := ?_) (a' := ?_) (msk 9 1) rfl rfl (take_ofW HT_.out HW_.out (by kernel_rfl)) (fun _ _ _ h => h) (Or.inl ⟨by rfl, ?_⟩) hHeld ?_ ?_; rotate_left; (focus (rintro w' ⟨s0, s1, s2, s3, s4, s5, s6, s7, s8, s9, s10, s11, s12, s13, s14, s15, s16⟩; go_simp; with_reducible rfl)); rotate_left; (focus (simp only [Act.put, qzA, qzB, qzC, i64_w, i32_w]; rfl))
   refine pure_ (i := 1) (N := some 21) (v := ?_) (a' := ?_) (msk 9 2) rfl rfl (any_of HT_.out (by kernel_rfl)) (fun _ _ _ h => h) (Or.inl ⟨by rfl, ?_⟩) ?_ ?_; rotate_left; (focus (intro w'; go_simp; with_reducible rfl)); rotate_left; (focus (simp only [Act.put, qzA, qzB, qzC, i64_w, i32_w]; rfl))
   refine take_ (i := 2) (N := some 22) (v := ?_) (a' := ?_) (msk 9 3) rfl rfl (take_ofW HT_.out HW_.out (by kernel_rfl)) (fun _ _ _ h => h) (Or.inl ⟨by rfl, ?_⟩) hHeld ?_ ?_; rotate_left; (focus (rintro w' ⟨s0, s1, s2, s3, s4, s5, s6, s7, s8, s9, s10, s11, s12, s13, s14, s15, s16⟩; go_simp; with_reducible rfl)); rotate_left; (focus (simp only [Act.put, qzA, qzB, qzC, i64_w, i32_w]; rfl))
   refine pure_ (i := 3) (N := some 23) (v := ?_) (a' := ?_) (msk 9 4) rfl rfl (any_of HT_.out (by kernel_rfl)) (fun _ _ _ h => h) (Or.inl ⟨by rfl, ?_⟩) ?_ ?_; rotate_left; (focus (intro w'; go_simp; with_reducible rfl)); rotate_left; (focus (simp only [Act.put, qzA, qzB, qzC, i64_w, i32_w]; rfl))
   refine pure_ (i := 4) (N := some 24) (v := ?_) (a' := ?_) (msk 9 5) rfl rfl (any_of HT_.out (by kernel_rfl)) (fun _ _ _ h => h) (Or.inl ⟨by rfl, ?_⟩) ?_ ?_; rotate_left; (focus (intro w'; go_simp; with_reducible rfl)); rotate_left; (focus (simp only [Act.put, qzA, qzB, qzC, i64_w, i32_w]; rfl))
   refine pure_ (i := 5) (N := some 25) (v := ?_) (a' := ?_) (msk 9 6) rfl rfl (any_of HT_.out (by kernel_rfl)) (fun _ _ _ h => h) (Or.inl ⟨by rfl, ?_⟩) ?_ ?_; rotate_left; (focus (intro w'; go_simp; with_reducible rfl)); rotate_left; (focus (simp only [Act.put, qzA, qzB, qzC, i64_w, i32_w]; rfl))
   refine take_ (i := 6) (N := some 26) (v := ?_) (a' := ?_) (msk 9 7) rfl rfl (take_ofW HT_.out HW_.out (by kernel_rfl)) (fun _ _ _ h => h) (Or.inl ⟨by rfl, ?_⟩) hHeld ?_ ?_; rotate_left; (focus (rintro w' ⟨s0, s1, s2, s3, s4, s5, s6, s7, s8, s9, s10, s11, s12, s13, s14, s15, s16⟩; go_simp; with_reducible rfl)); rotate_left; (focus (simp only [Act.put, qzA, qzB, qzC, i64_w, i32_w]; rfl))
   refine one_ (i := 7) (N := some 27) (msk 9 8) rfl rfl (one_of HT_.out (by kernel_rfl)) (by decide) (fun K hK => ?_)
   refine goes_ Try.func61 (by kernel_rfl) rfl #[.agg #[.int .i64 L.f0.f0, .int .i64 L.f0.f1, .int .i64 L.f1.f0, .int .i64 L.f1.f1, .int .i64 L.f2.f0, .int .i64 L.f2.f1, .int .i64 L.f3, .int .i64 L.f4, .int .i64 L.f5, .int .i64 L.f6, .int .i64 L.f7.f0, .int .i64 L.f7.f1], .int .i64 x.1, .agg #[.int .i64 T.f0, .int .i64 T.f1, .bool T.f2]] (by rfl) rfl rfl (by (try simp only [List.map_toArray, List.map_cons, List.map_nil]); first | done | rfl | (simp only [List.length_drop, List.length_take]; rfl)) ?_
   refine (rloss_calls L x.1 T _).mono ?_; rintro e w8 ⟨rfl, hb⟩; have HP2 := qab.mk (HTUP.out w8 (RI.below hHeld.2.2.2.2.2.2.2.2.2.2.2.2.2.2.2.2.out hb)); clear hb; refine ⟨_, rfl, ?_⟩; refine hK.out _ _ HP2.out (fun hHeld => ?_); clear hK K; refine norm_ (a' := ?_) ?_ ?_; rotate_left; (focus (show Act.put _ (some 27) _ = _; simp only [Act.put, qzA, qzB, qzC, i64_w, i32_w]; rfl))
   refine pure_ (i := 8) (N := some 9) (v := ?_) (a' := ?_) (msk 9 9) rfl rfl (any_of HT_.out (by kernel_rfl)) (fun _ _ _ h => h) (Or.inl ⟨by rfl, ?_⟩) ?_ ?_; rotate_left; (focus (intro w'; go_simp; with_reducible rfl)); rotate_left; (focus (simp only [Act.put, qzA, qzB, qzC, i64_w, i32_w]; rfl))
   refine done_ (done_of HT_.out (by kernel_rfl)) ?_
   have HT := qab.mk HP2.out.2.2.2.2.2.2.2.2.2.2.2.2.2.2.2.2.out
   have ht2 := HP2.out.2.2.2.2.2.2.2.2.2.2.2.2.2.2.2.1
   clear HP1 HP2 HTUP
   obtain ⟨feed, hfe⟩ : ∃ feed, feed = feedV L T := ⟨_, rfl⟩
   have HFE := qab.mk hfe
   obtain ⟨lost, hlo⟩ : ∃ lost, lost = lossR L x.1 T := ⟨_, rfl⟩
   rw [← hlo]
   have HLO := qab.mk hlo
   clear hfe hlo
   go_upto_if 32 with (fail)
   go_cut [10] (fun v10 wc => v10 = .int .i64 feed ∧ qab (RI w g3 g6 g7 L x wc))
   case first =>
    cases hfd : T.f2 with
    | true =>
     have he : L.f6 = feed := by rw [HFE.out]; unfold feedV; rw [if_pos hfd]
     clear hfd ht2
     have h_l9 : w8.cell? ⟨g3, 9, none⟩ = some (.int .i64 L.f6) := (qaa HT.out.l 9).trans rfl
     go_wp2_with fail
     go_meet
     case rel => exact ⟨by first | rfl | rw [he], HT⟩
    | false =>
     have he : 0 = feed := by rw [HFE.out]; unfold feedV; rw [if_neg (by rw [hfd]; decide)]
     clear hfd ht2
     go_wp2_with fail
     go_meet
     case rel => exact ⟨by first | rfl | rw [he], HT⟩
   case rest =>
    clear HT ht2
    obtain ⟨rfl, HT⟩ := hcut
    obtain ⟨ground, hgr⟩ : ∃ ground, ground = groundR L lost := ⟨_, rfl⟩
    have HGR := qab.mk hgr
    unfold groundR at hgr
    have h_l7 : wc.cell? ⟨g3, 7, none⟩ = some (.int .i64 L.f4) := (qaa HT.out.l 7).trans rfl; have h_l8 : wc.cell? ⟨g3, 8, none⟩ = some (.int .i64 L.f5) := (qaa HT.out.l 8).trans rfl
    go_upto_region 10 with fail
    rw [← hgr]
    clear hgr
    have h_o0 : wc.cell? ⟨g7, 0, none⟩ = some (.int .i64 x.1) := (qaa HT.out.o 0).trans rfl; have h_o1 : wc.cell? ⟨g7, 1, none⟩ = some (.int .i64 x.2.1) := (qaa HT.out.o 1).trans rfl; have h_o2 : wc.cell? ⟨g7, 2, none⟩ = some (.int .i64 x.2.2.1) := (qaa HT.out.o 2).trans rfl; have h_o3 : wc.cell? ⟨g7, 3, none⟩ = some (.int .i64 x.2.2.2) := (qaa HT.out.o 3).trans rfl; have hf_o := qac HT.out.o
    have hw1 : IntKind.i64.wrap ((k : Int) + 1) = (k : Int) + 1 := by rw [i64_w]; unfold wrap64; omega
    go_upto_region 4 with fail
    have hy : RI w g3 g6 g7 L (wrap64 (wrap64 (x.1 + feed) - lost), wrap64 (x.2.1 + wrap64 (L.f4 * feed)), wrap64 (x.2.2.1 + ground), wrap64 (wrap64 (x.2.2.2 + wrap64 (L.f4 * lost)) - ground)) (setAll wc g7 [.int .i64 (wrap64 (wrap64 (x.1 + feed) - lost)), .int .i64 (wrap64 (x.2.1 + wrap64 (L.f4 * feed))), .int .i64 (wrap64 (x.2.2.1 + ground)), .int .i64 (wrap64 (wrap64 (x.2.2.2 + wrap64 (L.f4 * lost)) - ground))] 0) :=
     ⟨setAll_far (blk_ne HT.out.l HT.out.o (by decide)) _ _ _ HT.out.l, setAll_far HT.out.ne _ _ _ HT.out.r, setAll_new [.int .i64 (wrap64 (wrap64 (x.1 + feed) - lost)), .int .i64 (wrap64 (x.2.1 + wrap64 (L.f4 * feed))), .int .i64 (wrap64 (x.2.2.1 + ground)), .int .i64 (wrap64 (wrap64 (x.2.2.2 + wrap64 (L.f4 * lost)) - ground))] [.int .i64 x.1, .int .i64 x.2.1, .int .i64 x.2.2.1, .int .i64 x.2.2.2] HT.out.o rfl, setAll_below HT.out.ge _ _ _ HT.out.hb, HT.out.ge, HT.out.ne⟩
    have he_ : setAll wc g7 [.int .i64 (wrap64 (wrap64 (x.1 + feed) - lost)), .int .i64 (wrap64 (x.2.1 + wrap64 (L.f4 * feed))), .int .i64 (wrap64 (x.2.2.1 + ground)), .int .i64 (wrap64 (wrap64 (x.2.2.2 + wrap64 (L.f4 * lost)) - ground))] 0 = ((((wc.setCell ⟨g7, 0, none⟩ (.int .i64 (wrap64 (wrap64 (x.1 + feed) - lost)))).setCell ⟨g7, 1, none⟩ (.int .i64 (wrap64 (x.2.1 + wrap64 (L.f4 * feed))))).setCell ⟨g7, 2, none⟩ (.int .i64 (wrap64 (x.2.2.1 + ground)))).setCell ⟨g7, 3, none⟩ (.int .i64 (wrap64 (wrap64 (x.2.2.2 + wrap64 (L.f4 * lost)) - ground)))) := rfl
    rw [he_] at hy
    clear he_ h_o0 h_o1 h_o2 h_o3 hf_o
    generalize ((((wc.setCell ⟨g7, 0, none⟩ (.int .i64 (wrap64 (wrap64 (x.1 + feed) - lost)))).setCell ⟨g7, 1, none⟩ (.int .i64 (wrap64 (x.2.1 + wrap64 (L.f4 * feed))))).setCell ⟨g7, 2, none⟩ (.int .i64 (wrap64 (x.2.2.1 + ground)))).setCell ⟨g7, 3, none⟩ (.int .i64 (wrap64 (wrap64 (x.2.2.2 + wrap64 (L.f4 * lost)) - ground)))) = w9 at hy ⊢
    have hfin : (l2.drop (k + 1)).foldl (fun x T => stepR L T x) (wrap64 (wrap64 (x.1 + feed) - lost), wrap64 (x.2.1 + wrap64 (L.f4 * feed)), wrap64 (x.2.2.1 + ground), wrap64 (wrap64 (x.2.2.2 + wrap64 (L.f4 * lost)) - ground)) = (r1, r2, r3, r4) := by
     rw [← HD.out, HGR.out, HLO.out, HFE.out]
     rfl
    have HFIN := qab.mk hfin
    have HY := qab.mk hy
    clear hfin hy
    go_wp2_with fail
    go_roundw
    case rel => exact ⟨k + 1, _, by omega, by go_num, HFIN, HY⟩
    case measure => simp [intOf]; omega
  ·
   have he := HF.out
   rw [List.drop_eq_nil_of_le (by omega)] at he
   simp only [List.foldl_nil] at he
   have HE := qab.mk he
   clear he
   have h_r0 : wr.cell? ⟨g6, 0, none⟩ = some (.int .i64 0) := (qaa HT.out.r 0).trans rfl; have h_r1 : wr.cell? ⟨g6, 1, none⟩ = some (.int .i64 0) := (qaa HT.out.r 1).trans rfl; have h_r2 : wr.cell? ⟨g6, 2, none⟩ = some (.int .i64 0) := (qaa HT.out.r 2).trans rfl; have h_r3 : wr.cell? ⟨g6, 3, none⟩ = some (.int .i64 0) := (qaa HT.out.r 3).trans rfl; have h_o0 : wr.cell? ⟨g7, 0, none⟩ = some (.int .i64 x.1) := (qaa HT.out.o 0).trans rfl; have h_o1 : wr.cell? ⟨g7, 1, none⟩ = some (.int .i64 x.2.1) := (qaa HT.out.o 1).trans rfl; have h_o2 : wr.cell? ⟨g7, 2, none⟩ = some (.int .i64 x.2.2.1) := (qaa HT.out.o 2).trans rfl; have h_o3 : wr.cell? ⟨g7, 3, none⟩ = some (.int .i64 x.2.2.2) := (qaa HT.out.o 3).trans rfl; have hf_r := qac HT.out.r
   go_wp2_with fail
   try rw [Exit.noGoto_ret]
   refine bodyPost_ret (results_cell_row rfl _ _ g6 31 #[.int .i64 x.1, .int .i64 x.2.1, .int .i64 x.2.2.1, .int .i64 x.2.2.2] (0, 0) _ rfl ((qba (qba (qba (qba HT.out.r 0 _) 1 _) 2 _) 3 _)) Try.underlying31 rfl (by kernel_rfl)) rfl ?_
   refine ⟨?_, (qai (j := 3) (qai (j := 2) (qai (j := 1) (qai (j := 0) HT.out.hb GEg6) GEg6) GEg6) GEg6)⟩
   rw [HE.out]
theorem wrap_id {x : Int} (h0 : -9223372036854775808 ≤ x) (h1 : x ≤ 9223372036854775807) : wrap64 x = x := by unfold wrap64; omega
structure LoopOk (L : S39) : Prop where
 w0 : 1 ≤ L.f0.f0
 w1 : L.f0.f0 ≤ L.f0.f1
 w2 : L.f0.f1 ≤ 1000
 k0 : 0 ≤ L.f1.f0
 k1 : L.f1.f0 ≤ L.f1.f1
 k2 : L.f1.f1 ≤ 1000
 p0 : 0 ≤ L.f2.f0
 p1 : L.f2.f0 ≤ L.f2.f1
 p2 : L.f2.f1 ≤ 1000
 q0 : L.f2.f0 ≤ L.f1.f0
 q1 : L.f2.f1 ≤ L.f1.f1
 c0 : 0 ≤ L.f3
 c1 : L.f3 ≤ 1000000
 m0 : 1 ≤ L.f4
 m1 : L.f4 ≤ 10000
 g0 : 0 ≤ L.f5
 g1 : L.f5 ≤ 1000
 e0 : 0 ≤ L.f6
 e1 : L.f6 ≤ 1000
 x0 : 0 ≤ L.f7.f0
 x1 : L.f7.f0 ≤ L.f7.f1
 x2 : L.f7.f1 ≤ 72
theorem loop_ok {L : S39} (h : loopB L = true) : LoopOk L := by
 unfold loopB spanB inB at h
 simp only [Bool.and_eq_true, decide_eq_true_eq] at h
 obtain ⟨⟨a1, a2, a3⟩, ⟨b1, b2, b3⟩, ⟨c1, c2, c3⟩, d, e, ⟨f1, f2⟩, ⟨g1, g2⟩, ⟨h1, h2⟩, ⟨i1, i2⟩, j1, j2, j3⟩ := h
 exact ⟨a1, a2, a3, b1, b2, b3, c1, c2, c3, d, e, f1, f2, g1, g2, h1, h2, i1, i2, j1, j2, j3⟩
structure NetOk (l0 : List S39) (l1 : List S37) (l2 : List (List Int)) : Prop where
 n0 : 1 ≤ l0.length
 n1 : l0.length ≤ 5
 h0 : 1 ≤ l1.length
 h1 : l1.length ≤ 72
 m : l2.length = l0.length + 1
 ways : ∀ i (h : i < l2.length), l2[i].length = l0.length + 1 ∧ rd l2[i] i = 0 ∧ ∀ x ∈ l2[i], 0 ≤ x ∧ x ≤ 72
 loops : ∀ L ∈ l0, LoopOk L
 frost : ∀ F ∈ l1, 0 ≤ F.f0 ∧ F.f0 ≤ F.f1 ∧ F.f1 ≤ 1000
theorem net_ok {l0 : List S39} {l1 : List S37} {l2 : List (List Int)} (h : validB l0 l1 l2 = true) : NetOk l0 l1 l2 := by
 unfold validB at h
 simp only [Bool.and_eq_true, List.all_eq_true] at h
 obtain ⟨h1, h2, h3, h4, h5, h6⟩ := h
 unfold inB at h3 h4
 simp only [Bool.and_eq_true, decide_eq_true_eq] at h1 h3 h4
 refine ⟨by omega, by omega, by omega, by omega, by omega, fun i hi => ?_, fun L hL => loop_ok (h5 L hL), fun F hF => ?_⟩
 ·
  unfold waysB at h2
  rw [List.all_eq_true] at h2
  have h7 := h2 i (by simpa using hi)
  have e : l2.getD i [] = l2[i] := by simp [hi]
  rw [e] at h7
  unfold rowB inB at h7
  simp only [Bool.and_eq_true, decide_eq_true_eq, List.all_eq_true] at h7
  exact ⟨by omega, h7.2.1, h7.2.2⟩
 ·
  have h7 := h6 F hF
  unfold spanB at h7
  simp only [Bool.and_eq_true, decide_eq_true_eq] at h7
  exact h7
theorem mn_min (a b : Int) : mn a b = min a b := by unfold mn; split <;> omega
theorem mul_small {a b A B : Int} (ha0 : 0 ≤ a) (ha : a ≤ A) (hb0 : 0 ≤ b) (hb : b ≤ B) : 0 ≤ a * b ∧ a * b ≤ A * B :=
 ⟨Int.mul_nonneg ha0 hb0, Int.mul_le_mul ha hb hb0 (by omega)⟩
theorem rdT39_mem {l0 : List S39} {i : Int} (h0 : 0 ≤ i) (h1 : i < l0.length) : qal l0 i ∈ l0 := by
 have h2 : i.toNat < l0.length := by omega
 have e : qal l0 i = l0[i.toNat] := by simp [qal, h2]
 rw [e]
 exact List.getElem_mem _
end Go.Proofs.Ytipphcjgdebecaa.PA
