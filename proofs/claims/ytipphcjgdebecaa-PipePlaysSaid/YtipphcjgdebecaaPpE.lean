/- Parts of a proof about the pipe seat's laws: what the functions of the program answer. No condition of its own. -/
import Derived.Test.YtipphcjgdebecaaPpB
import Derived.Test.YtipphcjgdebecaaPpC
import Derived.Test.YtipphcjgdebecaaPpD
import Derived.Test.YtipphcjgdebecaaPpA
set_option linter.all false
namespace Go.Proofs.Ytipphcjgdebecaa.PA
open Go.RowKit Go.Proofs.YtipphcjgdebecaaW.PrintWords Go.Proofs.YtipphcjgdebecaaW.PrintLast Go.Proofs.YtipphcjgdebecaaW.PrintMore
attribute [local go_sem] max2_int min2_int max_two min_two max_three min_three max_four min_four
def pipe_Freezes.f (l0_0 : List (S39)) (l0_1 : List (S37)) (l0_2 : List (List Int)) (a1 : Int) : Option (Int × Int × Int) := (pipe_valid.f l0_0 l0_1 l0_2).bind fun t142 => (if t142 = true then ((pipe_in.f a1 0 (wrap64 ((l0_0.length : Int) - 1))).bind fun t143 => (if t143 = true then ((pipe_net_freezes.f l0_0 l0_1 l0_2 0 a1).bind fun bt144 => (some (bt144.1, bt144.2, 0))) else (some (0, 0, 2)))) else (some (0, 0, 2)))
set_option maxHeartbeats 8000000 in
set_option maxRecDepth 100000 in
theorem pipe_Freezes.calls (A0_0 : Option Addr) (c0_0 : Nat) (l0_0 : List (S39)) (A0_1 : Option Addr) (c0_1 : Nat) (l0_1 : List (S37)) (A0_2 : Option Addr) (c0_2 : Nat) (l0_2 : List (List Int)) (a1 : Int) (r1 : Int) (r2 : Int) (r3 : Int) (w : World) (hr0_0 : Kd.C k39 w A0_0 l0_0.length l0_0) (hc0_0 : l0_0.length ≤ c0_0) (hr0_1 : Kd.C k37 w A0_1 l0_1.length l0_1) (hc0_1 : l0_1.length ≤ c0_1) (hr0_2 : Kd.C (Kd.slice 3 (Kd.int .i64)) w A0_2 l0_2.length l0_2) (hc0_2 : l0_2.length ≤ c0_2) (h : pipe_Freezes.f l0_0 l0_1 l0_2 a1 = some (r1, r2, r3)) :
  Calls Try.prog 43 #[.agg #[.slice A0_0 l0_0.length c0_0, .slice A0_1 l0_1.length c0_1, .slice A0_2 l0_2.length c0_2], .int .i64 a1] w fun e w' => e = .returned (.tuple #[.int .i64 r1, .int .i64 r2, .int .i64 r3]) ∧ Below w.heap.size w w' := by
 have hu26 := Try.underlying26
 have hu99 := Try.underlying99
 have HR0_0 := qab.mk hr0_0
 have HC0_0 := qab.mk hc0_0
 clear hr0_0 hc0_0
 have HR0_1 := qab.mk hr0_1
 have HC0_1 := qab.mk hc0_1
 clear hr0_1 hc0_1
 have HR0_2 := qab.mk hr0_2
 have HC0_2 := qab.mk hc0_2
 clear hr0_2 hc0_2
 have HB := qab.mk (Below.refl w.heap.size w)
 have H : ((pipe_valid.f l0_0 l0_1 l0_2).bind fun t142 => (if t142 = true then ((pipe_in.f a1 0 (wrap64 ((l0_0.length : Int) - 1))).bind fun t143 => (if t143 = true then ((pipe_net_freezes.f l0_0 l0_1 l0_2 0 a1).bind fun bt144 => (some (bt144.1, bt144.2, 0))) else (some (0, 0, 2)))) else (some (0, 0, 2)))) = some (r1, r2, r3) := h
 clear h
 replace H := Option.bind_eq_some_iff.mp H
 obtain ⟨t142, A30, H⟩ := H
 replace H : (if t142 = true then ((pipe_in.f a1 0 (wrap64 ((l0_0.length : Int) - 1))).bind fun t143 => (if t143 = true then ((pipe_net_freezes.f l0_0 l0_1 l0_2 0 a1).bind fun bt144 => (some (bt144.1, bt144.2, 0))) else (some (0, 0, 2)))) else (some (0, 0, 2))) = some (r1, r2, r3) := H
 have A3 := qab.mk A30
 clear A30
 by_cases c4 : t142 = true
 ·
  subst c4
  have H1 : ((pipe_in.f a1 0 (wrap64 ((l0_0.length : Int) - 1))).bind fun t143 => (if t143 = true then ((pipe_net_freezes.f l0_0 l0_1 l0_2 0 a1).bind fun bt144 => (some (bt144.1, bt144.2, 0))) else (some (0, 0, 2)))) = some (r1, r2, r3) := by rw [if_pos rfl] at H; exact H
  clear H
  have H := H1
  clear H1
  replace H := Option.bind_eq_some_iff.mp H
  obtain ⟨t143, A50, H⟩ := H
  replace H : (if t143 = true then ((pipe_net_freezes.f l0_0 l0_1 l0_2 0 a1).bind fun bt144 => (some (bt144.1, bt144.2, 0))) else (some (0, 0, 2))) = some (r1, r2, r3) := H
  have A5 := qab.mk A50
  clear A50
  by_cases c6 : t143 = true
  ·
   subst c6
   have H1 : ((pipe_net_freezes.f l0_0 l0_1 l0_2 0 a1).bind fun bt144 => (some (bt144.1, bt144.2, 0))) = some (r1, r2, r3) := by rw [if_pos rfl] at H; exact H
   clear H
   have H := H1
   clear H1
   replace H := Option.bind_eq_some_iff.mp H
   obtain ⟨⟨t144, t145⟩, A70, H⟩ := H
   replace H : (some (t144, t145, 0)) = some (r1, r2, r3) := H
   have A7 := qab.mk A70
   clear A70
   simp only [Option.some.injEq, Prod.mk.injEq] at H
   obtain ⟨rfl, rfl, rfl⟩ := H
   go_enter Try.func43, Try.ntmps43
   go_wp2_with (first | ((with_reducible refine qar (N := 2) rfl ?_); (try (refine gate_guard (by rfl) ?_; dsimp only)); refine qap ?hg (N := 2) ?hd (cs := #[.slice A0_0 l0_0.length c0_0, .slice A0_1 l0_1.length c0_1, .slice A0_2 l0_2.length c0_2]) (t := 26) ?hr ?_; (case hd => rfl); (case hg => rfl); (case hr => first | (go_simp; done) | (go_simp; rfl)); intro gb141 hg w8 hbox hb; have n0_ := qab.mk (qag (by repeat (first | (with_reducible first | exact HB.out | apply qae | apply qad | apply qaf) | exact HB.out)) hb); have n1_ := qab.mk (hbox); have n2_ := qab.mk ((by rw [hg]; exact (qan (by repeat (first | (with_reducible first | exact HB.out | apply qae | apply qad | apply qaf) | exact HB.out))) : w.heap.size ≤ gb141)); have n3_ := qab.mk ((by rw [hg]; exact (qan (by repeat (first | (with_reducible first | exact HB.out | apply qae | apply qad | apply qaf) | exact HB.out))) : w.heap.size ≤ gb141)); clear HB; have HB := n0_; have BK141 := n1_; have GW141 := n2_; have GE141 := n3_; clear n0_ n1_ n2_ n3_; clear hb hbox hg; have hcz9_0 : w8.cell? ⟨gb141, 0, none⟩ = some (.slice A0_0 l0_0.length c0_0) := (qaa BK141.out 0).trans rfl; have hcz9_1 : w8.cell? ⟨gb141, 1, none⟩ = some (.slice A0_1 l0_1.length c0_1) := (qaa BK141.out 1).trans rfl; have hcz9_2 : w8.cell? ⟨gb141, 2, none⟩ = some (.slice A0_2 l0_2.length c0_2) := (qaa BK141.out 2).trans rfl; have hfz9_0 := qac BK141.out 0; have hfz9_1 := qac BK141.out 1; have hfz9_2 := qac BK141.out 2) | ((with_reducible refine gate_callee (f := 54) rfl ?_); refine goesL_ (some 10) rfl rfl Try.func54 (by kernel_rfl) rfl #[.agg #[.slice A0_0 l0_0.length c0_0, .slice A0_1 l0_1.length c0_1, .slice A0_2 l0_2.length c0_2]] rfl (by (try simp only [List.map_toArray, List.map_cons, List.map_nil]); first | done | rfl | (simp only [List.length_drop, List.length_take]; rfl)) ?_; (with_reducible refine (pipe_valid.calls _ _ l0_0 _ _ l0_1 _ _ l0_2 true _ ?side1 ?side2 ?side3 ?side4 ?side5 ?side6 A3.out).mono ?_); (case side1 => repeat (first | exact (Kd.qam HR0_0.out HB.out) | (with_reducible refine Kd.C_alloc ?_ _) | (with_reducible refine Kd.C_drewN ?_ _) | (with_reducible refine Kd.C_drew ?_))); (case side2 => exact HC0_0.out); (case side3 => repeat (first | exact (Kd.qam HR0_1.out HB.out) | (with_reducible refine Kd.C_alloc ?_ _) | (with_reducible refine Kd.C_drewN ?_ _) | (with_reducible refine Kd.C_drew ?_))); (case side4 => exact HC0_1.out); (case side5 => repeat (first | exact (Kd.qam HR0_2.out HB.out) | (with_reducible refine Kd.C_alloc ?_ _) | (with_reducible refine Kd.C_drewN ?_ _) | (with_reducible refine Kd.C_drew ?_))); (case side6 => exact HC0_2.out); rintro e w10 ⟨rfl, hb⟩; refine ⟨_, rfl, ?_⟩; have n0_ := qab.mk (qah (g := gb141) (o := .cells #[.slice A0_0 l0_0.length c0_0, .slice A0_1 l0_1.length c0_1, .slice A0_2 l0_2.length c0_2] 26 (0, 0)) (by (with_reducible repeat (first | refine qal ?_ _ | refine qao ?_ | refine qaj ?_ _)); exact BK141.out) hb); have n1_ := qab.mk (qag (by repeat (first | (with_reducible first | exact HB.out | apply qae | apply qad | apply qaf | refine qai ?_ GE141.out) | exact HB.out)) hb); clear BK141; clear HB; have BK141 := n0_; have HB := n1_; clear n0_ n1_; (try clear hb); (try clear hb2); (try clear hk); (try clear hi); have hcz11_0 : w10.cell? ⟨gb141, 0, none⟩ = some (.slice A0_0 l0_0.length c0_0) := (qaa BK141.out 0).trans rfl; have hcz11_1 : w10.cell? ⟨gb141, 1, none⟩ = some (.slice A0_1 l0_1.length c0_1) := (qaa BK141.out 1).trans rfl; have hcz11_2 : w10.cell? ⟨gb141, 2, none⟩ = some (.slice A0_2 l0_2.length c0_2) := (qaa BK141.out 2).trans rfl; have hfz11_0 := qac BK141.out 0; have hfz11_1 := qac BK141.out 1; have hfz11_2 := qac BK141.out 2) | (go_at_call 55; (with_reducible refine (pipe_in.calls a1 0 (wrap64 ((l0_0.length : Int) - 1)) true _ A5.out).mono ?_); rintro e w' ⟨rfl, ⟨nd, rfl⟩⟩) | ((with_reducible refine gate_callee (f := 77) rfl ?_); refine goesL_ (some 25) rfl rfl Try.func77 (by kernel_rfl) rfl #[.agg #[.slice A0_0 l0_0.length c0_0, .slice A0_1 l0_1.length c0_1, .slice A0_2 l0_2.length c0_2, .int .i64 0], .int .i64 a1] rfl (by (try simp only [List.map_toArray, List.map_cons, List.map_nil]); first | done | rfl | (simp only [List.length_drop, List.length_take]; rfl)) ?_; (with_reducible refine (pipe_net_freezes.calls _ _ l0_0 _ _ l0_1 _ _ l0_2 0 a1 t144 t145 _ ?side1 ?side2 ?side3 ?side4 ?side5 ?side6 A7.out).mono ?_); (case side1 => repeat (first | exact (Kd.qam HR0_0.out (by repeat (first | (with_reducible first | exact HB.out | apply qae | apply qad | apply qaf | refine qai ?_ GE141.out) | exact HB.out))) | (with_reducible refine Kd.C_alloc ?_ _) | (with_reducible refine Kd.C_drewN ?_ _) | (with_reducible refine Kd.C_drew ?_))); (case side2 => exact HC0_0.out); (case side3 => repeat (first | exact (Kd.qam HR0_1.out (by repeat (first | (with_reducible first | exact HB.out | apply qae | apply qad | apply qaf | refine qai ?_ GE141.out) | exact HB.out))) | (with_reducible refine Kd.C_alloc ?_ _) | (with_reducible refine Kd.C_drewN ?_ _) | (with_reducible refine Kd.C_drew ?_))); (case side4 => exact HC0_1.out); (case side5 => repeat (first | exact (Kd.qam HR0_2.out (by repeat (first | (with_reducible first | exact HB.out | apply qae | apply qad | apply qaf | refine qai ?_ GE141.out) | exact HB.out))) | (with_reducible refine Kd.C_alloc ?_ _) | (with_reducible refine Kd.C_drewN ?_ _) | (with_reducible refine Kd.C_drew ?_))); (case side6 => exact HC0_2.out); rintro e w12 ⟨rfl, hb⟩; refine ⟨_, rfl, ?_⟩; have n0_ := qab.mk (qah (g := gb141) (o := .cells #[.slice A0_0 l0_0.length c0_0, .slice A0_1 l0_1.length c0_1, .slice A0_2 l0_2.length c0_2] 26 (0, 0)) (by (with_reducible repeat (first | refine qal ?_ _ | refine qao ?_ | refine qaj ?_ _)); exact BK141.out) hb); have n1_ := qab.mk (qag (by repeat (first | (with_reducible first | exact HB.out | apply qae | apply qad | apply qaf | refine qai ?_ GE141.out) | exact HB.out)) hb); clear BK141; clear HB; have BK141 := n0_; have HB := n1_; clear n0_ n1_; (try clear hb); (try clear hb2); (try clear hk); (try clear hi)))
   go_ret3
   exact ⟨by first | rfl | (simp [qas, qat] <;> rfl) | (simp [*, qas, qat] <;> rfl), by repeat (first | (with_reducible first | exact HB.out | apply qae | apply qad | apply qaf | refine qai ?_ GE141.out) | exact HB.out)⟩
  ·
   replace c6 := Bool.eq_false_iff.mpr c6
   subst c6
   have H1 : (some (0, 0, 2)) = some (r1, r2, r3) := by rw [if_neg (show ¬ (false = true) by decide)] at H; exact H
   clear H
   have H := H1
   clear H1
   simp only [Option.some.injEq, Prod.mk.injEq] at H
   obtain ⟨rfl, rfl, rfl⟩ := H
   go_enter Try.func43, Try.ntmps43
   go_wp2_with (first | ((with_reducible refine qar (N := 2) rfl ?_); (try (refine gate_guard (by rfl) ?_; dsimp only)); refine qap ?hg (N := 2) ?hd (cs := #[.slice A0_0 l0_0.length c0_0, .slice A0_1 l0_1.length c0_1, .slice A0_2 l0_2.length c0_2]) (t := 26) ?hr ?_; (case hd => rfl); (case hg => rfl); (case hr => first | (go_simp; done) | (go_simp; rfl)); intro gb141 hg w13 hbox hb; have n0_ := qab.mk (qag (by repeat (first | (with_reducible first | exact HB.out | apply qae | apply qad | apply qaf) | exact HB.out)) hb); have n1_ := qab.mk (hbox); have n2_ := qab.mk ((by rw [hg]; exact (qan (by repeat (first | (with_reducible first | exact HB.out | apply qae | apply qad | apply qaf) | exact HB.out))) : w.heap.size ≤ gb141)); have n3_ := qab.mk ((by rw [hg]; exact (qan (by repeat (first | (with_reducible first | exact HB.out | apply qae | apply qad | apply qaf) | exact HB.out))) : w.heap.size ≤ gb141)); clear HB; have HB := n0_; have BK141 := n1_; have GW141 := n2_; have GE141 := n3_; clear n0_ n1_ n2_ n3_; clear hb hbox hg; have hcz14_0 : w13.cell? ⟨gb141, 0, none⟩ = some (.slice A0_0 l0_0.length c0_0) := (qaa BK141.out 0).trans rfl; have hcz14_1 : w13.cell? ⟨gb141, 1, none⟩ = some (.slice A0_1 l0_1.length c0_1) := (qaa BK141.out 1).trans rfl; have hcz14_2 : w13.cell? ⟨gb141, 2, none⟩ = some (.slice A0_2 l0_2.length c0_2) := (qaa BK141.out 2).trans rfl; have hfz14_0 := qac BK141.out 0; have hfz14_1 := qac BK141.out 1; have hfz14_2 := qac BK141.out 2) | ((with_reducible refine gate_callee (f := 54) rfl ?_); refine goesL_ (some 10) rfl rfl Try.func54 (by kernel_rfl) rfl #[.agg #[.slice A0_0 l0_0.length c0_0, .slice A0_1 l0_1.length c0_1, .slice A0_2 l0_2.length c0_2]] rfl (by (try simp only [List.map_toArray, List.map_cons, List.map_nil]); first | done | rfl | (simp only [List.length_drop, List.length_take]; rfl)) ?_; (with_reducible refine (pipe_valid.calls _ _ l0_0 _ _ l0_1 _ _ l0_2 true _ ?side1 ?side2 ?side3 ?side4 ?side5 ?side6 A3.out).mono ?_); (case side1 => repeat (first | exact (Kd.qam HR0_0.out HB.out) | (with_reducible refine Kd.C_alloc ?_ _) | (with_reducible refine Kd.C_drewN ?_ _) | (with_reducible refine Kd.C_drew ?_))); (case side2 => exact HC0_0.out); (case side3 => repeat (first | exact (Kd.qam HR0_1.out HB.out) | (with_reducible refine Kd.C_alloc ?_ _) | (with_reducible refine Kd.C_drewN ?_ _) | (with_reducible refine Kd.C_drew ?_))); (case side4 => exact HC0_1.out); (case side5 => repeat (first | exact (Kd.qam HR0_2.out HB.out) | (with_reducible refine Kd.C_alloc ?_ _) | (with_reducible refine Kd.C_drewN ?_ _) | (with_reducible refine Kd.C_drew ?_))); (case side6 => exact HC0_2.out); rintro e w15 ⟨rfl, hb⟩; refine ⟨_, rfl, ?_⟩; have n0_ := qab.mk (qah (g := gb141) (o := .cells #[.slice A0_0 l0_0.length c0_0, .slice A0_1 l0_1.length c0_1, .slice A0_2 l0_2.length c0_2] 26 (0, 0)) (by (with_reducible repeat (first | refine qal ?_ _ | refine qao ?_ | refine qaj ?_ _)); exact BK141.out) hb); have n1_ := qab.mk (qag (by repeat (first | (with_reducible first | exact HB.out | apply qae | apply qad | apply qaf | refine qai ?_ GE141.out) | exact HB.out)) hb); clear BK141; clear HB; have BK141 := n0_; have HB := n1_; clear n0_ n1_; (try clear hb); (try clear hb2); (try clear hk); (try clear hi); have hcz16_0 : w15.cell? ⟨gb141, 0, none⟩ = some (.slice A0_0 l0_0.length c0_0) := (qaa BK141.out 0).trans rfl; have hcz16_1 : w15.cell? ⟨gb141, 1, none⟩ = some (.slice A0_1 l0_1.length c0_1) := (qaa BK141.out 1).trans rfl; have hcz16_2 : w15.cell? ⟨gb141, 2, none⟩ = some (.slice A0_2 l0_2.length c0_2) := (qaa BK141.out 2).trans rfl; have hfz16_0 := qac BK141.out 0; have hfz16_1 := qac BK141.out 1; have hfz16_2 := qac BK141.out 2) | (go_at_call 55; (with_reducible refine (pipe_in.calls a1 0 (wrap64 ((l0_0.length : Int) - 1)) false _ A5.out).mono ?_); rintro e w' ⟨rfl, ⟨nd, rfl⟩⟩))
   go_ret3
   exact ⟨by first | rfl | (simp [qas, qat] <;> rfl) | (simp [*, qas, qat] <;> rfl), by repeat (first | (with_reducible first | exact HB.out | apply qae | apply qad | apply qaf | refine qai ?_ GE141.out) | exact HB.out)⟩
 ·
  replace c4 := Bool.eq_false_iff.mpr c4
  subst c4
  have H1 : (some (0, 0, 2)) = some (r1, r2, r3) := by rw [if_neg (show ¬ (false = true) by decide)] at H; exact H
  clear H
  have H := H1
  clear H1
  simp only [Option.some.injEq, Prod.mk.injEq] at H
  obtain ⟨rfl, rfl, rfl⟩ := H
  go_enter Try.func43, Try.ntmps43
  go_wp2_with (first | ((with_reducible refine qar (N := 2) rfl ?_); (try (refine gate_guard (by rfl) ?_; dsimp only)); refine qap ?hg (N := 2) ?hd (cs := #[.slice A0_0 l0_0.length c0_0, .slice A0_1 l0_1.length c0_1, .slice A0_2 l0_2.length c0_2]) (t := 26) ?hr ?_; (case hd => rfl); (case hg => rfl); (case hr => first | (go_simp; done) | (go_simp; rfl)); intro gb141 hg w17 hbox hb; have n0_ := qab.mk (qag (by repeat (first | (with_reducible first | exact HB.out | apply qae | apply qad | apply qaf) | exact HB.out)) hb); have n1_ := qab.mk (hbox); have n2_ := qab.mk ((by rw [hg]; exact (qan (by repeat (first | (with_reducible first | exact HB.out | apply qae | apply qad | apply qaf) | exact HB.out))) : w.heap.size ≤ gb141)); have n3_ := qab.mk ((by rw [hg]; exact (qan (by repeat (first | (with_reducible first | exact HB.out | apply qae | apply qad | apply qaf) | exact HB.out))) : w.heap.size ≤ gb141)); clear HB; have HB := n0_; have BK141 := n1_; have GW141 := n2_; have GE141 := n3_; clear n0_ n1_ n2_ n3_; clear hb hbox hg; have hcz18_0 : w17.cell? ⟨gb141, 0, none⟩ = some (.slice A0_0 l0_0.length c0_0) := (qaa BK141.out 0).trans rfl; have hcz18_1 : w17.cell? ⟨gb141, 1, none⟩ = some (.slice A0_1 l0_1.length c0_1) := (qaa BK141.out 1).trans rfl; have hcz18_2 : w17.cell? ⟨gb141, 2, none⟩ = some (.slice A0_2 l0_2.length c0_2) := (qaa BK141.out 2).trans rfl; have hfz18_0 := qac BK141.out 0; have hfz18_1 := qac BK141.out 1; have hfz18_2 := qac BK141.out 2) | ((with_reducible refine gate_callee (f := 54) rfl ?_); refine goesL_ (some 10) rfl rfl Try.func54 (by kernel_rfl) rfl #[.agg #[.slice A0_0 l0_0.length c0_0, .slice A0_1 l0_1.length c0_1, .slice A0_2 l0_2.length c0_2]] rfl (by (try simp only [List.map_toArray, List.map_cons, List.map_nil]); first | done | rfl | (simp only [List.length_drop, List.length_take]; rfl)) ?_; (with_reducible refine (pipe_valid.calls _ _ l0_0 _ _ l0_1 _ _ l0_2 false _ ?side1 ?side2 ?side3 ?side4 ?side5 ?side6 A3.out).mono ?_); (case side1 => repeat (first | exact (Kd.qam HR0_0.out HB.out) | (with_reducible refine Kd.C_alloc ?_ _) | (with_reducible refine Kd.C_drewN ?_ _) | (with_reducible refine Kd.C_drew ?_))); (case side2 => exact HC0_0.out); (case side3 => repeat (first | exact (Kd.qam HR0_1.out HB.out) | (with_reducible refine Kd.C_alloc ?_ _) | (with_reducible refine Kd.C_drewN ?_ _) | (with_reducible refine Kd.C_drew ?_))); (case side4 => exact HC0_1.out); (case side5 => repeat (first | exact (Kd.qam HR0_2.out HB.out) | (with_reducible refine Kd.C_alloc ?_ _) | (with_reducible refine Kd.C_drewN ?_ _) | (with_reducible refine Kd.C_drew ?_))); (case side6 => exact HC0_2.out); rintro e w19 ⟨rfl, hb⟩; refine ⟨_, rfl, ?_⟩; have n0_ := qab.mk (qah (g := gb141) (o := .cells #[.slice A0_0 l0_0.length c0_0, .slice A0_1 l0_1.length c0_1, .slice A0_2 l0_2.length c0_2] 26 (0, 0)) (by (with_reducible repeat (first | refine qal ?_ _ | refine qao ?_ | refine qaj ?_ _)); exact BK141.out) hb); have n1_ := qab.mk (qag (by repeat (first | (with_reducible first | exact HB.out | apply qae | apply qad | apply qaf | refine qai ?_ GE141.out) | exact HB.out)) hb); clear BK141; clear HB; have BK141 := n0_; have HB := n1_; clear n0_ n1_; (try clear hb); (try clear hb2); (try clear hk); (try clear hi)))
  go_ret3
  exact ⟨by first | rfl | (simp [qas, qat] <;> rfl) | (simp [*, qas, qat] <;> rfl), by repeat (first | (with_reducible first | exact HB.out | apply qae | apply qad | apply qaf | refine qai ?_ GE141.out) | exact HB.out)⟩
def taliklaw04_Net.l0 : Nat → Int → List (S39) → List (S37) → List (List Int) → Option ((List (S39)) × (List (S37)) × (List (List Int)))
 | 0, _, _, _, _ => none
 | k + 1, x2, x163000, x163001, x163002 => if x2 < 8 then (if x163001.length < 8796093022208 then (taliklaw04_Net.l0 k (wrap64 (x2 + 1)) x163000 (x163001 ++ [(⟨200, 300⟩ : S37)]) x163002) else (none)) else (some (x163000, x163001, x163002))
def taliklaw04_Net.f (k : Nat)  : Option ((List (S39)) × (List (S37)) × (List (List Int))) := taliklaw04_Net.l0 k 0 (([(⟨(⟨300, 400⟩ : S37), (⟨100, 150⟩ : S37), (⟨50, 80⟩ : S37), 30, 50, 200, 60, (⟨1, 2⟩ : S37)⟩ : S39), (⟨(⟨300, 300⟩ : S37), (⟨200, 200⟩ : S37), (⟨60, 60⟩ : S37), 40, 50, 200, 80, (⟨1, 1⟩ : S37)⟩ : S39)] : List (S39))) ([] : List (S37)) (([(([0, 1, 1] : List Int)), (([1, 0, 1] : List Int)), (([1, 1, 0] : List Int))] : List (List Int)))
set_option maxHeartbeats 8000000 in
set_option maxRecDepth 100000 in
theorem taliklaw04_Net.calls (k : Nat)  (r1 : List (S39)) (r2 : List (S37)) (r3 : List (List Int)) (w : World) (h : taliklaw04_Net.f k  = some (r1, r2, r3)) :
  Calls Try.prog 53 #[] w fun e w' => ∃ v0_ v1_ v2_ : Value, e = .returned (.agg #[v0_, v1_, v2_]) ∧ Kd.R k39 39 w' w.heap.size (fun k_ => (w.heap.size ≤ k_)) v0_ r1 ∧ Kd.R k37 37 w' w.heap.size (fun k_ => (w.heap.size ≤ k_)) v1_ r2 ∧ Kd.N (Kd.slice 3 (Kd.int .i64)) 47 w' w.heap.size (fun k_ => (w.heap.size ≤ k_) ∧ some k_ ≠ (v0_ : Value).ownBlock ∧ some k_ ≠ (v1_ : Value).ownBlock) v2_ r3 ∧ Below w.heap.size w w' := by
 have hu26 := Try.underlying26
 have hu37 := Try.underlying37
 have hu39 := Try.underlying39
 have HB := qab.mk (Below.refl w.heap.size w)
 have H : (taliklaw04_Net.l0 k 0 (([(⟨(⟨300, 400⟩ : S37), (⟨100, 150⟩ : S37), (⟨50, 80⟩ : S37), 30, 50, 200, 60, (⟨1, 2⟩ : S37)⟩ : S39), (⟨(⟨300, 300⟩ : S37), (⟨200, 200⟩ : S37), (⟨60, 60⟩ : S37), 40, 50, 200, 80, (⟨1, 1⟩ : S37)⟩ : S39)] : List (S39))) ([] : List (S37)) (([(([0, 1, 1] : List Int)), (([1, 0, 1] : List Int)), (([1, 1, 0] : List Int))] : List (List Int)))) = some (r1, r2, r3) := h
 clear h
 obtain ⟨y147, hy147⟩ : ∃ y_ : List (S39), y_ = (([(⟨(⟨300, 400⟩ : S37), (⟨100, 150⟩ : S37), (⟨50, 80⟩ : S37), 30, 50, 200, 60, (⟨1, 2⟩ : S37)⟩ : S39), (⟨(⟨300, 300⟩ : S37), (⟨200, 200⟩ : S37), (⟨60, 60⟩ : S37), 40, 50, 200, 80, (⟨1, 1⟩ : S37)⟩ : S39)] : List (S39))) := ⟨_, rfl⟩
 replace H : (taliklaw04_Net.l0 k 0 y147 ([] : List (S37)) (([(([0, 1, 1] : List Int)), (([1, 0, 1] : List Int)), (([1, 1, 0] : List Int))] : List (List Int)))) = some (r1, r2, r3) := by first | (rw [hy147]; with_reducible exact H) | (have H2_ := (Option.bind_some _ _).symm.trans H; rw [hy147]; with_reducible exact H2_) | (have H2_ := (Option.bind_some _ _).symm.trans H; with_reducible exact H2_) | with_reducible exact H | (rw [hy147]; exact H) | exact H
 have Ny147 := qab.mk hy147
 clear hy147
 obtain ⟨y150, hy150⟩ : ∃ y_ : List Int, y_ = (([0, 1, 1] : List Int)) := ⟨_, rfl⟩
 replace H : (taliklaw04_Net.l0 k 0 y147 ([] : List (S37)) (([y150, (([1, 0, 1] : List Int)), (([1, 1, 0] : List Int))] : List (List Int)))) = some (r1, r2, r3) := by first | (rw [hy150]; with_reducible exact H) | (have H2_ := (Option.bind_some _ _).symm.trans H; rw [hy150]; with_reducible exact H2_) | (have H2_ := (Option.bind_some _ _).symm.trans H; with_reducible exact H2_) | with_reducible exact H | (rw [hy150]; exact H) | exact H
 have Ny150 := qab.mk hy150
 clear hy150
 obtain ⟨y153, hy153⟩ : ∃ y_ : List Int, y_ = (([1, 0, 1] : List Int)) := ⟨_, rfl⟩
 replace H : (taliklaw04_Net.l0 k 0 y147 ([] : List (S37)) (([y150, y153, (([1, 1, 0] : List Int))] : List (List Int)))) = some (r1, r2, r3) := by first | (rw [hy153]; with_reducible exact H) | (have H2_ := (Option.bind_some _ _).symm.trans H; rw [hy153]; with_reducible exact H2_) | (have H2_ := (Option.bind_some _ _).symm.trans H; with_reducible exact H2_) | with_reducible exact H | (rw [hy153]; exact H) | exact H
 have Ny153 := qab.mk hy153
 clear hy153
 obtain ⟨y156, hy156⟩ : ∃ y_ : List Int, y_ = (([1, 1, 0] : List Int)) := ⟨_, rfl⟩
 replace H : (taliklaw04_Net.l0 k 0 y147 ([] : List (S37)) (([y150, y153, y156] : List (List Int)))) = some (r1, r2, r3) := by first | (rw [hy156]; with_reducible exact H) | (have H2_ := (Option.bind_some _ _).symm.trans H; rw [hy156]; with_reducible exact H2_) | (have H2_ := (Option.bind_some _ _).symm.trans H; with_reducible exact H2_) | with_reducible exact H | (rw [hy156]; exact H) | exact H
 have Ny156 := qab.mk hy156
 clear hy156
 obtain ⟨y159, hy159⟩ : ∃ y_ : List (List Int), y_ = (([y150, y153, y156] : List (List Int))) := ⟨_, rfl⟩
 replace H : (taliklaw04_Net.l0 k 0 y147 ([] : List (S37)) y159) = some (r1, r2, r3) := by first | (rw [hy159]; with_reducible exact H) | (have H2_ := (Option.bind_some _ _).symm.trans H; rw [hy159]; with_reducible exact H2_) | (have H2_ := (Option.bind_some _ _).symm.trans H; with_reducible exact H2_) | with_reducible exact H | (rw [hy159]; exact H) | exact H
 have Ny159 := qab.mk hy159
 clear hy159
 have H' := qab.mk H
 clear H
 go_enter Try.func53, Try.ntmps53
 go_wp2_with (first | ((with_reducible refine qar (N := 0) rfl ?_); refine qap ?hg (N := 0) ?hd (cs := #[.slice none 0 0, .slice none 0 0, .slice none 0 0]) (t := 26) ?hr ?_; (case hd => rfl); (case hg => rfl); (case hr => first | (go_simp; done) | (go_simp; rfl)); intro gb146 hg w1 hbox hb; have n0_ := qab.mk (qag (by repeat (first | (with_reducible first | exact HB.out | apply qae | apply qad | apply qaf) | exact HB.out)) hb); have n1_ := qab.mk (hbox); have n2_ := qab.mk ((by rw [hg]; exact (qan (by repeat (first | (with_reducible first | exact HB.out | apply qae | apply qad | apply qaf) | exact HB.out))) : w.heap.size ≤ gb146)); have n3_ := qab.mk ((by rw [hg]; exact (qan (by repeat (first | (with_reducible first | exact HB.out | apply qae | apply qad | apply qaf) | exact HB.out))) : w.heap.size ≤ gb146)); clear HB; have HB := n0_; have BK146 := n1_; have GW146 := n2_; have GE146 := n3_; clear n0_ n1_ n2_ n3_; clear hb hbox hg) | ((with_reducible refine qar (N := 13) rfl ?_); refine Kd.R_lit k39 _ 39 ?hg (N := 13) ?hd (xs := ([(⟨(⟨300, 400⟩ : S37), (⟨100, 150⟩ : S37), (⟨50, 80⟩ : S37), 30, 50, 200, 60, (⟨1, 2⟩ : S37)⟩ : S39), (⟨(⟨300, 300⟩ : S37), (⟨200, 200⟩ : S37), (⟨60, 60⟩ : S37), 40, 50, 200, 80, (⟨1, 1⟩ : S37)⟩ : S39)] : List (S39))) (inner := [.int .i64 300, .int .i64 400, .int .i64 100, .int .i64 150, .int .i64 50, .int .i64 80, .int .i64 30, .int .i64 50, .int .i64 200, .int .i64 60, .int .i64 1, .int .i64 2, .int .i64 300, .int .i64 300, .int .i64 200, .int .i64 200, .int .i64 60, .int .i64 60, .int .i64 40, .int .i64 50, .int .i64 200, .int .i64 80, .int .i64 1, .int .i64 1]) (ok := fun _ => True) (okp := fun _ => True) ?hr ?hp (fun _ hk => hk) trivial (Below.refl _ _) (Nat.le_refl _) (by simp) ?_; (case hd => rfl); (case hg => rfl); (case hr => first | (go_simp; done) | (go_simp; rfl)); (case hp => exact (Reps.front (show Kd.M k39 _ _ _ (⟨(⟨300, 400⟩ : S37), (⟨100, 150⟩ : S37), (⟨50, 80⟩ : S37), 30, 50, 200, 60, (⟨1, 2⟩ : S37)⟩ : S39) [.int .i64 300, .int .i64 400, .int .i64 100, .int .i64 150, .int .i64 50, .int .i64 80, .int .i64 30, .int .i64 50, .int .i64 200, .int .i64 60, .int .i64 1, .int .i64 2] from (k39_mkM _ _ _ (⟨(⟨300, 400⟩ : S37), (⟨100, 150⟩ : S37), (⟨50, 80⟩ : S37), 30, 50, 200, 60, (⟨1, 2⟩ : S37)⟩ : S39) )) rfl (Reps.front (show Kd.M k39 _ _ _ (⟨(⟨300, 300⟩ : S37), (⟨200, 200⟩ : S37), (⟨60, 60⟩ : S37), 40, 50, 200, 80, (⟨1, 1⟩ : S37)⟩ : S39) [.int .i64 300, .int .i64 300, .int .i64 200, .int .i64 200, .int .i64 60, .int .i64 60, .int .i64 40, .int .i64 50, .int .i64 200, .int .i64 80, .int .i64 1, .int .i64 1] from (k39_mkM _ _ _ (⟨(⟨300, 300⟩ : S37), (⟨200, 200⟩ : S37), (⟨60, 60⟩ : S37), 40, 50, 200, 80, (⟨1, 1⟩ : S37)⟩ : S39) )) rfl (Reps.none _ _) rfl) rfl)); intro v148 w2 ho3 hb hg_ hnew_; clear hg_ hnew_; (first | rw [← Ny147.out] at ho3 | (simp only [Int.reduceToNat] at ho3; rw [← Ny147.out] at ho3)); have n0_ := qab.mk (Kd.R_lower (Kd.R_newM (M := fun k_ => (w.heap.size ≤ k_)) ho3 (qan (by repeat (first | (with_reducible first | exact HB.out | apply qae | apply qad | apply qaf | refine qai ?_ GE146.out) | exact HB.out))) (fun k_ h_ => h_)) (qan (by repeat (first | (with_reducible first | exact HB.out | apply qae | apply qad | apply qaf | refine qai ?_ GE146.out) | exact HB.out)))); have n1_ := qab.mk (qah (g := gb146) (o := .cells #[.slice none 0 0, .slice none 0 0, .slice none 0 0] 26 (0, 0)) (by (with_reducible repeat (first | refine qal ?_ _ | refine qao ?_ | refine qaj ?_ _)); exact BK146.out) hb); have n2_ := qab.mk (qag (by repeat (first | (with_reducible first | exact HB.out | apply qae | apply qad | apply qaf | refine qai ?_ GE146.out) | exact HB.out)) hb); clear BK146; clear HB; have HO149 := n0_; have BK146 := n1_; have HB := n2_; clear n0_ n1_ n2_; clear hb ho3) | ((with_reducible refine qar (N := 14) rfl ?_); refine Kd.R_lit (Kd.int .i64) _ 3 ?hg (N := 14) ?hd (xs := ([0, 1, 1] : List Int)) (inner := [.int .i64 0, .int .i64 1, .int .i64 1]) (ok := fun _ => True) (okp := fun _ => True) ?hr ?hp (fun _ hk => hk) trivial (Below.refl _ _) (Nat.le_refl _) (by simp) ?_; (case hd => rfl); (case hg => rfl); (case hr => first | (go_simp; done) | (go_simp; rfl)); (case hp => exact (Reps.one (show Kd.M (Kd.int .i64) _ _ _ 0 [.int .i64 0] from rfl) (Reps.one (show Kd.M (Kd.int .i64) _ _ _ 1 [.int .i64 1] from rfl) (Reps.one (show Kd.M (Kd.int .i64) _ _ _ 1 [.int .i64 1] from rfl) (Reps.none _ _))))); intro v151 w4 ho5 hb hg_ hnew_; clear hg_ hnew_; (first | rw [← Ny150.out] at ho5 | (simp only [Int.reduceToNat] at ho5; rw [← Ny150.out] at ho5)); have n0_ := qab.mk (Kd.R_below (by (with_reducible repeat (first | apply Kd.R_alloc | apply Kd.R_drewN | apply Kd.R_drew)); exact HO149.out) hb); have n1_ := qab.mk (Kd.R_lower (Kd.R_newM (M := fun k_ => (w.heap.size ≤ k_)) ho5 (qan (by repeat (first | (with_reducible first | exact HB.out | apply qae | apply qad | apply qaf | refine qai ?_ GE146.out) | exact HB.out))) (fun k_ h_ => h_)) (qan (by repeat (first | (with_reducible first | exact HB.out | apply qae | apply qad | apply qaf | refine qai ?_ GE146.out) | exact HB.out)))); have n2_ := qab.mk (qah (g := gb146) (o := .cells #[.slice none 0 0, .slice none 0 0, .slice none 0 0] 26 (0, 0)) (by (with_reducible repeat (first | refine qal ?_ _ | refine qao ?_ | refine qaj ?_ _)); exact BK146.out) hb); have n3_ := qab.mk (qag (by repeat (first | (with_reducible first | exact HB.out | apply qae | apply qad | apply qaf | refine qai ?_ GE146.out) | exact HB.out)) hb); clear HO149; clear BK146; clear HB; have HO149 := n0_; have HO152 := n1_; have BK146 := n2_; have HB := n3_; clear n0_ n1_ n2_ n3_; clear hb ho5) | ((with_reducible refine qar (N := 15) rfl ?_); refine Kd.R_lit (Kd.int .i64) _ 3 ?hg (N := 15) ?hd (xs := ([1, 0, 1] : List Int)) (inner := [.int .i64 1, .int .i64 0, .int .i64 1]) (ok := fun _ => True) (okp := fun _ => True) ?hr ?hp (fun _ hk => hk) trivial (Below.refl _ _) (Nat.le_refl _) (by simp) ?_; (case hd => rfl); (case hg => rfl); (case hr => first | (go_simp; done) | (go_simp; rfl)); (case hp => exact (Reps.one (show Kd.M (Kd.int .i64) _ _ _ 1 [.int .i64 1] from rfl) (Reps.one (show Kd.M (Kd.int .i64) _ _ _ 0 [.int .i64 0] from rfl) (Reps.one (show Kd.M (Kd.int .i64) _ _ _ 1 [.int .i64 1] from rfl) (Reps.none _ _))))); intro v154 w6 ho7 hb hg_ hnew_; clear hg_ hnew_; (first | rw [← Ny153.out] at ho7 | (simp only [Int.reduceToNat] at ho7; rw [← Ny153.out] at ho7)); have n0_ := qab.mk (Kd.R_below (by (with_reducible repeat (first | apply Kd.R_alloc | apply Kd.R_drewN | apply Kd.R_drew)); exact HO149.out) hb); have n1_ := qab.mk (Kd.R_elder' (by (with_reducible repeat (first | apply Kd.R_alloc | apply Kd.R_drewN | apply Kd.R_drew)); exact HO152.out) (Kd.R_base ho7) hb); have n2_ := qab.mk (Kd.R_lower (Kd.R_new' (Kd.R_newM (M := fun k_ => (w.heap.size ≤ k_)) ho7 (qan (by repeat (first | (with_reducible first | exact HB.out | apply qae | apply qad | apply qaf | refine qai ?_ GE146.out) | exact HB.out))) (fun k_ h_ => h_)) (Kd.R_lt (by (with_reducible repeat (first | apply Kd.R_alloc | apply Kd.R_drewN | apply Kd.R_drew)); exact HO152.out))) (qan (by repeat (first | (with_reducible first | exact HB.out | apply qae | apply qad | apply qaf | refine qai ?_ GE146.out) | exact HB.out)))); have n3_ := qab.mk (qah (g := gb146) (o := .cells #[.slice none 0 0, .slice none 0 0, .slice none 0 0] 26 (0, 0)) (by (with_reducible repeat (first | refine qal ?_ _ | refine qao ?_ | refine qaj ?_ _)); exact BK146.out) hb); have n4_ := qab.mk (qag (by repeat (first | (with_reducible first | exact HB.out | apply qae | apply qad | apply qaf | refine qai ?_ GE146.out) | exact HB.out)) hb); clear HO149; clear HO152; clear BK146; clear HB; have HO149 := n0_; have HO152 := n1_; have HO155 := n2_; have BK146 := n3_; have HB := n4_; clear n0_ n1_ n2_ n3_ n4_; clear hb ho7) | ((with_reducible refine qar (N := 16) rfl ?_); refine Kd.R_lit (Kd.int .i64) _ 3 ?hg (N := 16) ?hd (xs := ([1, 1, 0] : List Int)) (inner := [.int .i64 1, .int .i64 1, .int .i64 0]) (ok := fun _ => True) (okp := fun _ => True) ?hr ?hp (fun _ hk => hk) trivial (Below.refl _ _) (Nat.le_refl _) (by simp) ?_; (case hd => rfl); (case hg => rfl); (case hr => first | (go_simp; done) | (go_simp; rfl)); (case hp => exact (Reps.one (show Kd.M (Kd.int .i64) _ _ _ 1 [.int .i64 1] from rfl) (Reps.one (show Kd.M (Kd.int .i64) _ _ _ 1 [.int .i64 1] from rfl) (Reps.one (show Kd.M (Kd.int .i64) _ _ _ 0 [.int .i64 0] from rfl) (Reps.none _ _))))); intro v157 w8 ho9 hb hg_ hnew_; clear hg_ hnew_; (first | rw [← Ny156.out] at ho9 | (simp only [Int.reduceToNat] at ho9; rw [← Ny156.out] at ho9)); have n0_ := qab.mk (Kd.R_below (by (with_reducible repeat (first | apply Kd.R_alloc | apply Kd.R_drewN | apply Kd.R_drew)); exact HO149.out) hb); have n1_ := qab.mk (Kd.R_elder' (by (with_reducible repeat (first | apply Kd.R_alloc | apply Kd.R_drewN | apply Kd.R_drew)); exact HO152.out) (Kd.R_base ho9) hb); have n2_ := qab.mk (Kd.R_elder' (by (with_reducible repeat (first | apply Kd.R_alloc | apply Kd.R_drewN | apply Kd.R_drew)); exact HO155.out) (Kd.R_base ho9) hb); have n3_ := qab.mk (Kd.R_lower (Kd.R_new' (Kd.R_new' (Kd.R_newM (M := fun k_ => (w.heap.size ≤ k_)) ho9 (qan (by repeat (first | (with_reducible first | exact HB.out | apply qae | apply qad | apply qaf | refine qai ?_ GE146.out) | exact HB.out))) (fun k_ h_ => h_)) (Kd.R_lt (by (with_reducible repeat (first | apply Kd.R_alloc | apply Kd.R_drewN | apply Kd.R_drew)); exact HO152.out))) (Kd.R_lt (by (with_reducible repeat (first | apply Kd.R_alloc | apply Kd.R_drewN | apply Kd.R_drew)); exact HO155.out))) (qan (by repeat (first | (with_reducible first | exact HB.out | apply qae | apply qad | apply qaf | refine qai ?_ GE146.out) | exact HB.out)))); have n4_ := qab.mk (qah (g := gb146) (o := .cells #[.slice none 0 0, .slice none 0 0, .slice none 0 0] 26 (0, 0)) (by (with_reducible repeat (first | refine qal ?_ _ | refine qao ?_ | refine qaj ?_ _)); exact BK146.out) hb); have n5_ := qab.mk (qag (by repeat (first | (with_reducible first | exact HB.out | apply qae | apply qad | apply qaf | refine qai ?_ GE146.out) | exact HB.out)) hb); clear HO149; clear HO152; clear HO155; clear BK146; clear HB; have HO149 := n0_; have HO152 := n1_; have HO155 := n2_; have HO158 := n3_; have BK146 := n4_; have HB := n5_; clear n0_ n1_ n2_ n3_ n4_ n5_; clear hb ho9; obtain ⟨Ao10, co10, eo10⟩ := Kd.R_slice HO152.out; subst eo10; obtain ⟨Ao11, co11, eo11⟩ := Kd.R_slice HO155.out; subst eo11; obtain ⟨Ao12, co12, eo12⟩ := Kd.R_slice HO158.out; subst eo12) | ((with_reducible refine qar (N := 17) rfl ?_); refine Kd.N_lit (Kd.slice 3 (Kd.int .i64)) _ 47 ?hg (N' := 17) ?hd (xs := ([y150, y153, y156] : List (List Int))) (inner := [.slice Ao10 y150.length co10, .slice Ao11 y153.length co11, .slice Ao12 y156.length co12]) (ok := (fun k_ => (w.heap.size ≤ k_) ∧ some k_ ≠ (v148 : Value).ownBlock ∧ k_ ≠ gb146)) (okp := (fun k_ => (w.heap.size ≤ k_) ∧ some k_ ≠ (v148 : Value).ownBlock ∧ k_ ≠ gb146)) ?hr ?hp (fun _ hk => hk) ((show ∀ k_, w8.heap.size ≤ k_ → (fun k_ => (w.heap.size ≤ k_) ∧ some k_ ≠ (v148 : Value).ownBlock ∧ k_ ≠ gb146) k_ from fun k_ hk => ⟨(Nat.le_trans (qan (by repeat (first | (with_reducible first | exact HB.out | apply qae | apply qad | apply qaf | refine qai ?_ GE146.out) | exact HB.out))) hk), Kd.fresh' (Kd.R_lt (by (with_reducible repeat (first | apply Kd.R_alloc | apply Kd.R_drewN | apply Kd.R_drew)); exact HO149.out)) k_ hk, Kd.freshB (g := gb146) (o := .cells #[.slice none 0 0, .slice none 0 0, .slice none 0 0] 26 (0, 0)) (by (with_reducible repeat (first | refine qal ?_ _ | refine qao ?_ | refine qaj ?_ _)); exact BK146.out) k_ hk⟩) _ (Nat.le_refl _)) (Below.refl _ _) (Nat.le_refl _) (by simp) ?_; (case hd => rfl); (case hg => rfl); (case hr => first | (go_simp; done) | (go_simp; rfl)); (case hp => exact (Reps.one (show Kd.FK (Kd.slice 3 (Kd.int .i64)) _ _ y150 [.slice Ao10 y150.length co10] from (Kd.FK_slice_mk (Kd.R_reads' (Kd.R_mono (ok' := (fun k_ => (w.heap.size ≤ k_) ∧ some k_ ≠ (v148 : Value).ownBlock ∧ k_ ≠ gb146)) (Kd.R_types (Kd.R_apart' (HO152.out) (Kd.R_typed HO149.out) (by decide)) BK146.out (by decide)) (fun k_ hk => ⟨hk.1.1.1.1.1, ⟨hk.1.2, hk.2⟩⟩))).2.1 (Kd.R_F (Kd.R_mono (ok' := (fun k_ => (w.heap.size ≤ k_) ∧ some k_ ≠ (v148 : Value).ownBlock ∧ k_ ≠ gb146)) (Kd.R_types (Kd.R_apart' (HO152.out) (Kd.R_typed HO149.out) (by decide)) BK146.out (by decide)) (fun k_ hk => ⟨hk.1.1.1.1.1, ⟨hk.1.2, hk.2⟩⟩))))) (Reps.one (show Kd.FK (Kd.slice 3 (Kd.int .i64)) _ _ y153 [.slice Ao11 y153.length co11] from (Kd.FK_slice_mk (Kd.R_reads' (Kd.R_mono (ok' := (fun k_ => (w.heap.size ≤ k_) ∧ some k_ ≠ (v148 : Value).ownBlock ∧ k_ ≠ gb146)) (Kd.R_types (Kd.R_apart' (HO155.out) (Kd.R_typed HO149.out) (by decide)) BK146.out (by decide)) (fun k_ hk => ⟨hk.1.1.1.1.1, ⟨hk.1.2, hk.2⟩⟩))).2.1 (Kd.R_F (Kd.R_mono (ok' := (fun k_ => (w.heap.size ≤ k_) ∧ some k_ ≠ (v148 : Value).ownBlock ∧ k_ ≠ gb146)) (Kd.R_types (Kd.R_apart' (HO155.out) (Kd.R_typed HO149.out) (by decide)) BK146.out (by decide)) (fun k_ hk => ⟨hk.1.1.1.1.1, ⟨hk.1.2, hk.2⟩⟩))))) (Reps.one (show Kd.FK (Kd.slice 3 (Kd.int .i64)) _ _ y156 [.slice Ao12 y156.length co12] from (Kd.FK_slice_mk (Kd.R_reads' (Kd.R_mono (ok' := (fun k_ => (w.heap.size ≤ k_) ∧ some k_ ≠ (v148 : Value).ownBlock ∧ k_ ≠ gb146)) (Kd.R_types (Kd.R_apart' (HO158.out) (Kd.R_typed HO149.out) (by decide)) BK146.out (by decide)) (fun k_ hk => ⟨hk.1.1.1.1.1, ⟨hk.1.2, hk.2⟩⟩))).2.1 (Kd.R_F (Kd.R_mono (ok' := (fun k_ => (w.heap.size ≤ k_) ∧ some k_ ≠ (v148 : Value).ownBlock ∧ k_ ≠ gb146)) (Kd.R_types (Kd.R_apart' (HO158.out) (Kd.R_typed HO149.out) (by decide)) BK146.out (by decide)) (fun k_ hk => ⟨hk.1.1.1.1.1, ⟨hk.1.2, hk.2⟩⟩))))) (Reps.none _ _))))); intro v160 w13 ho14 hb hg_ hnew_; clear hg_ hnew_; (first | rw [← Ny159.out] at ho14 | (simp only [Int.reduceToNat] at ho14; rw [← Ny159.out] at ho14)); have n0_ := qab.mk (Kd.R_below (by (with_reducible repeat (first | apply Kd.R_alloc | apply Kd.R_drewN | apply Kd.R_drew)); exact HO149.out) hb); have n1_ := qab.mk (Kd.N_lower ho14 (qan (by repeat (first | (with_reducible first | exact HB.out | apply qae | apply qad | apply qaf | refine qai ?_ GE146.out) | exact HB.out)))); have n2_ := qab.mk (qah (g := gb146) (o := .cells #[.slice none 0 0, .slice none 0 0, .slice none 0 0] 26 (0, 0)) (by (with_reducible repeat (first | refine qal ?_ _ | refine qao ?_ | refine qaj ?_ _)); exact BK146.out) hb); have n3_ := qab.mk (qag (by repeat (first | (with_reducible first | exact HB.out | apply qae | apply qad | apply qaf | refine qai ?_ GE146.out) | exact HB.out)) hb); clear HO149; clear BK146; clear HB; clear HO152; clear HO155; clear HO158; have HO149 := n0_; have HO161 := n1_; have BK146 := n2_; have HB := n3_; clear n0_ n1_ n2_ n3_; clear hb ho14; obtain ⟨Ao15, co15, eo15⟩ := Kd.N_slice HO161.out; subst eo15; obtain ⟨Ao16, co16, eo16⟩ := Kd.R_slice HO149.out; subst eo16) | ((with_reducible refine qar (N := 1) rfl ?_); refine qap ?hg (N := 1) ?hd (cs := #[.slice none 0 0, .slice none 0 0, .slice none 0 0]) (t := 26) ?hr ?_; (case hd => rfl); (case hg => rfl); (case hr => first | (go_simp; done) | (go_simp; rfl)); intro gb162 hg w17 hbox hb; have n0_ := qab.mk (Kd.R_below (by (with_reducible repeat (first | apply Kd.R_alloc | apply Kd.R_drewN | apply Kd.R_drew)); exact HO149.out) hb); have n1_ := qab.mk (Kd.N_below (Kd.N_elderB (by (with_reducible repeat (first | apply Kd.N_alloc | apply Kd.N_drewN | apply Kd.N_drew)); exact HO161.out) gb162 (Nat.le_of_eq hg.symm)) hb); have n2_ := qab.mk (qah (g := gb146) (o := .cells #[.slice none 0 0, .slice none 0 0, .slice none 0 0] 26 (0, 0)) (by (with_reducible repeat (first | refine qal ?_ _ | refine qao ?_ | refine qaj ?_ _)); exact BK146.out) hb); have n3_ := qab.mk (qag (by repeat (first | (with_reducible first | exact HB.out | apply qae | apply qad | apply qaf | refine qai ?_ GE146.out) | exact HB.out)) hb); have n4_ := qab.mk (hbox); have n5_ := qab.mk ((by rw [hg]; exact (qan (by repeat (first | (with_reducible first | exact HB.out | apply qae | apply qad | apply qaf | refine qai ?_ GE146.out) | exact HB.out))) : w.heap.size ≤ gb162)); have n6_ := qab.mk ((by rw [hg]; exact (qan (by repeat (first | (with_reducible first | exact HB.out | apply qae | apply qad | apply qaf | refine qai ?_ GE146.out) | exact HB.out))) : w.heap.size ≤ gb162)); have n7_ := qab.mk ((by rw [hg]; exact Nat.ne_of_lt (blk_lt (g := gb146) (o := .cells #[.slice none 0 0, .slice none 0 0, .slice none 0 0] 26 (0, 0)) (by (with_reducible repeat (first | refine qal ?_ _ | refine qao ?_ | refine qaj ?_ _)); exact BK146.out)) : gb146 ≠ gb162)); have n8_ := qab.mk ((by rw [hg]; exact Nat.ne_of_gt (blk_lt (g := gb146) (o := .cells #[.slice none 0 0, .slice none 0 0, .slice none 0 0] 26 (0, 0)) (by (with_reducible repeat (first | refine qal ?_ _ | refine qao ?_ | refine qaj ?_ _)); exact BK146.out)) : gb162 ≠ gb146)); clear HO149; clear HO161; clear BK146; clear HB; have HO149 := n0_; have HO161 := n1_; have BK146 := n2_; have HB := n3_; have BK162 := n4_; have GW162 := n5_; have GE162 := n6_; have NB146_162 := n7_; have NB162_146 := n8_; clear n0_ n1_ n2_ n3_ n4_ n5_ n6_ n7_ n8_; clear hb hbox hg; have hnb18 := NB162_146.out; have hnc18 := NB146_162.out; have hcz19_0 : w17.cell? ⟨gb162, 0, none⟩ = some (.slice none 0 0) := (qaa BK162.out 0).trans rfl; have hcz19_1 : w17.cell? ⟨gb162, 1, none⟩ = some (.slice none 0 0) := (qaa BK162.out 1).trans rfl; have hcz19_2 : w17.cell? ⟨gb162, 2, none⟩ = some (.slice none 0 0) := (qaa BK162.out 2).trans rfl; have hfz19_0 := qac BK162.out 0; have hfz19_1 := qac BK162.out 1; have hfz19_2 := qac BK162.out 2))
 go_loopg [2] k (fun kq v2 w' => ∃ (x2_1 : Int) (x163001_1 : List (S37)) (u163001 : Value), v2 = .int .i64 x2_1 ∧ qab (taliklaw04_Net.l0 kq x2_1 y147 x163001_1 y159 = some (r1, r2, r3)) ∧ qab (kq ≤ k) ∧ qab (Kd.R k39 39 w' w.heap.size (fun k_ => (w.heap.size ≤ k_)) (.slice Ao16 y147.length co16) y147) ∧ qab (Kd.R k37 37 w' w.heap.size (fun k_ => (w.heap.size ≤ k_)) u163001 x163001_1) ∧ qab (Kd.N (Kd.slice 3 (Kd.int .i64)) 47 w' w.heap.size (fun k_ => (w.heap.size ≤ k_) ∧ some k_ ≠ ((.slice Ao16 y147.length co16) : Value).ownBlock ∧ some k_ ≠ (u163001 : Value).ownBlock ∧ k_ ≠ gb146 ∧ k_ ≠ gb162) (.slice Ao15 y159.length co15) y159) ∧ qab (w'.heap[gb146]? = some (.cells #[(.slice none 0 0), (.slice none 0 0), (.slice none 0 0)] 26 (0, 0))) ∧ qab (w'.heap[gb162]? = some (.cells #[(.slice Ao16 y147.length co16), u163001, (.slice Ao15 y159.length co15)] 26 (0, 0))) ∧ qab (Below w.heap.size w w'))
 case atStart => exact ⟨(0), (([] : List (S37))), (.slice none 0 0), (by first | rfl | (simp; done) | (simp [*]; done)), H', ⟨Nat.le_refl _⟩, ⟨by (with_reducible repeat (first | apply Kd.R_alloc | apply Kd.R_drewN | apply Kd.R_drew)); exact Kd.R_mono (Kd.R_far (p := ⟨gb162, 2, none⟩) (Kd.R_far (p := ⟨gb162, 1, none⟩) (Kd.R_far (p := ⟨gb162, 0, none⟩) (Kd.R_types HO149.out BK162.out (by decide)) (fun _ hk => hk.2) (.slice Ao16 y147.length co16)) (fun _ hk => hk.2) (.slice none 0 0)) (fun _ hk => hk.2) (.slice Ao15 y159.length co15)) (fun _ hk => hk.1.1)⟩, ⟨by first | exact Kd.R_nil _ _ _ _ _ | exact Kd.N_nil _ _ _ _ _ | exact Kd.V_nil _ _ _ _ _ | exact Kd.Q_nil _ _ _ _ _ | exact Kd.S_nil _ _ _ _ _⟩, ⟨by (with_reducible repeat (first | apply Kd.N_alloc | apply Kd.N_drewN | apply Kd.N_drew)); exact Kd.N_mono (Kd.N_far (p := ⟨gb162, 2, none⟩) (Kd.N_far (p := ⟨gb162, 1, none⟩) (Kd.N_far (p := ⟨gb162, 0, none⟩) (Kd.N_mono HO161.out (fun k_ hk => (⟨hk, hk.2⟩ : _ ∧ k_ ≠ gb162))) (fun _ hk => hk.2) (.slice Ao16 y147.length co16)) (fun _ hk => hk.2) (.slice none 0 0)) (fun _ hk => hk.2) (.slice Ao15 y159.length co15)) (fun _ hk => ⟨hk.1.1.1, ⟨hk.1.1.2.1, ⟨(by simp [Value.ownBlock]), ⟨hk.1.1.2.2, hk.1.2⟩⟩⟩⟩)⟩, ⟨by (with_reducible repeat (first | refine qal ?_ _ | refine qao ?_ | refine qaj ?_ _)); refine blk_far ?_ NB146_162.out _; (with_reducible repeat (first | refine qal ?_ _ | refine qao ?_ | refine qaj ?_ _)); refine blk_far ?_ NB146_162.out _; (with_reducible repeat (first | refine qal ?_ _ | refine qao ?_ | refine qaj ?_ _)); refine blk_far ?_ NB146_162.out _; (with_reducible repeat (first | refine qal ?_ _ | refine qao ?_ | refine qaj ?_ _)); exact BK146.out⟩, ⟨by (with_reducible repeat (first | refine qal ?_ _ | refine qao ?_ | refine qaj ?_ _)); refine blk_put (cs := #[.slice Ao16 y147.length co16, .slice none 0 0, .slice none 0 0]) ?_ 2 _ rfl; (with_reducible repeat (first | refine qal ?_ _ | refine qao ?_ | refine qaj ?_ _)); refine blk_put (cs := #[.slice Ao16 y147.length co16, .slice none 0 0, .slice none 0 0]) ?_ 1 _ rfl; (with_reducible repeat (first | refine qal ?_ _ | refine qao ?_ | refine qaj ?_ _)); refine blk_put (cs := #[.slice none 0 0, .slice none 0 0, .slice none 0 0]) ?_ 0 _ rfl; (with_reducible repeat (first | refine qal ?_ _ | refine qao ?_ | refine qaj ?_ _)); exact BK162.out⟩, ⟨by repeat (first | (with_reducible first | exact HB.out | apply qae | apply qad | apply qaf | refine qai ?_ GE146.out | refine qai ?_ GE162.out) | exact HB.out)⟩⟩
 case round =>
  clear H'
  try clear c1
  try clear p2
  try clear c5
  try clear c18
  try clear hcz19_0
  try clear hcz19_1
  try clear hcz19_2
  try clear hfz19_0
  try clear hfz19_1
  try clear hfz19_2
  obtain ⟨x2_1, x163001_1, u163001, rfl, HA, HK1, HO_163000, HO_163001, HO_163002, BK146, BK162, HB⟩ := hrel
  cases gk with
  | zero => exact absurd HA.out (by simp [taliklaw04_Net.l0])
  | succ k1 =>
   have H := HA.out
   clear HA
   simp only [taliklaw04_Net.l0] at H
   by_cases c20 : x2_1 < 8
   ·
    rw [if_pos c20] at H
    have c20b0 : decide (x2_1 < 8) = true := decide_eq_true c20
    clear c20
    by_cases c21 : x163001_1.length < 8796093022208
    ·
     rw [if_pos c21] at H
     have LMc21 := qab.mk c21
     clear c21
     obtain ⟨y163, hy163⟩ : ∃ y_ : List (S37), y_ = (x163001_1 ++ [(⟨200, 300⟩ : S37)]) := ⟨_, rfl⟩
     replace H : (taliklaw04_Net.l0 k1 (wrap64 (x2_1 + 1)) y147 y163 y159) = some (r1, r2, r3) := by first | (rw [hy163]; with_reducible exact H) | (have H2_ := (Option.bind_some _ _).symm.trans H; rw [hy163]; with_reducible exact H2_) | (have H2_ := (Option.bind_some _ _).symm.trans H; with_reducible exact H2_) | with_reducible exact H | (rw [hy163]; exact H) | exact H
     have Ny163 := qab.mk hy163
     clear hy163
     have H' := qab.mk H
     clear H
     have hnb22 := NB162_146.out
     have hnc22 := NB146_162.out
     have hcz23_0 : wr.cell? ⟨gb162, 0, none⟩ = some (.slice Ao16 y147.length co16) := (qaa BK162.out 0).trans rfl
     have hcz23_1 : wr.cell? ⟨gb162, 1, none⟩ = some (u163001) := (qaa BK162.out 1).trans rfl
     have hcz23_2 : wr.cell? ⟨gb162, 2, none⟩ = some (.slice Ao15 y159.length co15) := (qaa BK162.out 2).trans rfl
     have hfz23_0 := qac BK162.out 0
     have hfz23_1 := qac BK162.out 1
     have hfz23_2 := qac BK162.out 2
     go_wp2_with (first | ((with_reducible refine gate_builtin (b := .append) (xs := #[.tmp 24, .tmp 26]) rfl ?_); at_builtin; refine Kd.R_append k37 (w0 := w) w.heap.size rfl (.tmp 24) (.tmp 26) 23 37 (.agg #[(.int .i64 0), (.int .i64 0)]) 16 rfl Try.underlying23 info37 rfl (by decide) (by omega) u163001 x163001_1 (⟨200, 300⟩ : S37) [.int .i64 200, .int .i64 300] (fun k_ => (w.heap.size ≤ k_)) (fun _ => False) rfl rfl ?aP (fun _ hk => hk.elim) ?aF ?aO ?aB ?aS ?aL ?_; (case aP => exact k37_mkM _ _ _ (⟨200, 300⟩ : S37)); (case aB => exact (by repeat (first | (with_reducible first | exact HB.out | apply qae | apply qad | apply qaf | refine qai ?_ GE146.out | refine qai ?_ GE162.out) | exact HB.out))); (case aF => exact (fun k_ hk => (Nat.le_trans (qan (by repeat (first | (with_reducible first | exact HB.out | apply qae | apply qad | apply qaf | refine qai ?_ GE146.out | refine qai ?_ GE162.out) | exact HB.out))) hk))); (case aO => exact (by (with_reducible repeat (first | apply Kd.R_alloc | apply Kd.R_drewN | apply Kd.R_drew)); exact HO_163001.out)); (case aS => exact (qan (by repeat (first | (with_reducible first | exact HB.out | apply qae | apply qad | apply qaf | refine qai ?_ GE146.out | refine qai ?_ GE162.out) | exact HB.out)))); (case aL => have := LMc21.out; omega); intro v164 w24 ho hb hg hat; rw [← Ny163.out] at ho; have n0_ := qab.mk (Kd.R_over' (by (with_reducible repeat (first | apply Kd.R_alloc | apply Kd.R_drewN | apply Kd.R_drew)); exact HO_163000.out) (Kd.R_typed (by (with_reducible repeat (first | apply Kd.R_alloc | apply Kd.R_drewN | apply Kd.R_drew)); exact HO_163001.out)) (by decide) hg); have n1_ := qab.mk (Kd.N_afterv (ok := (fun k_ => (w.heap.size ≤ k_) ∧ some k_ ≠ (.slice Ao16 y147.length co16 : Value).ownBlock ∧ k_ ≠ gb146 ∧ k_ ≠ gb162)) (by (with_reducible repeat (first | apply Kd.N_alloc | apply Kd.N_drewN | apply Kd.N_drew)); exact Kd.N_mono HO_163002.out (fun _ hk => ⟨⟨hk.1, ⟨hk.2.1, ⟨hk.2.2.2.1, hk.2.2.2.2⟩⟩⟩, hk.2.2.1⟩)) hg hat); have n2_ := qab.mk (blk_grown (g := gb146) (o := .cells #[.slice none 0 0, .slice none 0 0, .slice none 0 0] 26 (0, 0)) (by (with_reducible repeat (first | refine qal ?_ _ | refine qao ?_ | refine qaj ?_ _)); exact BK146.out) hg (Kd.R_ne HO_163001.out BK146.out (by decide))); have n3_ := qab.mk (blk_grown (g := gb162) (o := .cells #[.slice Ao16 y147.length co16, u163001, .slice Ao15 y159.length co15] 26 (0, 0)) (by (with_reducible repeat (first | refine qal ?_ _ | refine qao ?_ | refine qaj ?_ _)); exact BK162.out) hg (Kd.R_ne HO_163001.out BK162.out (by decide))); have n4_ := qab.mk (hb); have n5_ := qab.mk (ho); clear HO_163000; clear HO_163002; clear BK146; clear BK162; clear HB; clear HO_163001; have HO_163000 := n0_; have HO_163002 := n1_; have BK146 := n2_; have BK162 := n3_; have HB := n4_; have HO165 := n5_; clear n0_ n1_ n2_ n3_ n4_ n5_; clear ho hb hg hat; obtain ⟨Ao25, co25, eo25⟩ := Kd.R_slice HO165.out; subst eo25; have hcz26_0 : w24.cell? ⟨gb162, 0, none⟩ = some (.slice Ao16 y147.length co16) := (qaa BK162.out 0).trans rfl; have hcz26_1 : w24.cell? ⟨gb162, 1, none⟩ = some (u163001) := (qaa BK162.out 1).trans rfl; have hcz26_2 : w24.cell? ⟨gb162, 2, none⟩ = some (.slice Ao15 y159.length co15) := (qaa BK162.out 2).trans rfl; have hfz26_0 := qac BK162.out 0; have hfz26_1 := qac BK162.out 1; have hfz26_2 := qac BK162.out 2))
     go_roundg k1
     case measure => have := HK1.out; omega
     case rel => exact ⟨(wrap64 (x2_1 + 1)), (y163), (.slice Ao25 y163.length co25), (by first | rfl | (simp; done) | (simp [*]; done)), H', ⟨by have := HK1.out; omega⟩, ⟨by (with_reducible repeat (first | apply Kd.R_alloc | apply Kd.R_drewN | apply Kd.R_drew)); exact Kd.R_mono (Kd.R_far (p := ⟨gb162, 1, none⟩) (Kd.R_types HO_163000.out BK162.out (by decide)) (fun _ hk => hk.2) (.slice Ao25 y163.length co25)) (fun _ hk => hk.1)⟩, ⟨by (with_reducible repeat (first | apply Kd.R_alloc | apply Kd.R_drewN | apply Kd.R_drew)); exact Kd.R_mono (Kd.R_far (p := ⟨gb162, 1, none⟩) (Kd.R_types HO165.out BK162.out (by decide)) (fun _ hk => hk.2) (.slice Ao25 y163.length co25)) (fun _ hk => hk.1)⟩, ⟨by (with_reducible repeat (first | apply Kd.N_alloc | apply Kd.N_drewN | apply Kd.N_drew)); exact Kd.N_mono (Kd.N_far (p := ⟨gb162, 1, none⟩) (Kd.N_mono HO_163002.out (fun k_ hk => (⟨hk, hk.1.2.2.2⟩ : _ ∧ k_ ≠ gb162))) (fun _ hk => hk.2) (.slice Ao25 y163.length co25)) (fun _ hk => ⟨hk.1.1.1, ⟨hk.1.1.2.1, ⟨hk.1.2, ⟨hk.1.1.2.2.1, hk.1.1.2.2.2⟩⟩⟩⟩)⟩, ⟨by (with_reducible repeat (first | refine qal ?_ _ | refine qao ?_ | refine qaj ?_ _)); refine blk_far ?_ NB146_162.out _; (with_reducible repeat (first | refine qal ?_ _ | refine qao ?_ | refine qaj ?_ _)); exact BK146.out⟩, ⟨by (with_reducible repeat (first | refine qal ?_ _ | refine qao ?_ | refine qaj ?_ _)); refine blk_put (cs := #[.slice Ao16 y147.length co16, u163001, .slice Ao15 y159.length co15]) ?_ 1 _ rfl; (with_reducible repeat (first | refine qal ?_ _ | refine qao ?_ | refine qaj ?_ _)); exact BK162.out⟩, ⟨by repeat (first | (with_reducible first | exact HB.out | apply qae | apply qad | apply qaf | refine qai ?_ GE146.out | refine qai ?_ GE162.out) | exact HB.out)⟩⟩
    ·
     rw [if_neg c21] at H
     exact absurd H (by simp)
   ·
    rw [if_neg c20] at H
    have c20b0 : decide (x2_1 < 8) = false := decide_eq_false c20
    clear c20
    simp only [Option.some.injEq, Prod.mk.injEq] at H
    obtain ⟨rfl, rfl, rfl⟩ := H
    have hnb27 := NB162_146.out
    have hnc27 := NB146_162.out
    have hcz28_0 : wr.cell? ⟨gb162, 0, none⟩ = some (.slice Ao16 y147.length co16) := (qaa BK162.out 0).trans rfl
    have hcz28_1 : wr.cell? ⟨gb162, 1, none⟩ = some (u163001) := (qaa BK162.out 1).trans rfl
    have hcz28_2 : wr.cell? ⟨gb162, 2, none⟩ = some (.slice Ao15 y159.length co15) := (qaa BK162.out 2).trans rfl
    have hfz28_0 := qac BK162.out 0
    have hfz28_1 := qac BK162.out 1
    have hfz28_2 := qac BK162.out 2
    have hcz29_0 : wr.cell? ⟨gb146, 0, none⟩ = some (.slice none 0 0) := (qaa BK146.out 0).trans rfl
    have hcz29_1 : wr.cell? ⟨gb146, 1, none⟩ = some (.slice none 0 0) := (qaa BK146.out 1).trans rfl
    have hcz29_2 : wr.cell? ⟨gb146, 2, none⟩ = some (.slice none 0 0) := (qaa BK146.out 2).trans rfl
    have hfz29_0 := qac BK146.out 0
    have hfz29_1 := qac BK146.out 1
    have hfz29_2 := qac BK146.out 2
    obtain ⟨Ao30, co30, eo30⟩ := Kd.R_slice HO_163001.out
    subst eo30
    go_wp2
    refine bodyPost_ret (results_cell_row rfl _ _ gb146 26 #[.slice Ao16 y147.length co16, .slice Ao30 x163001_1.length co30, .slice Ao15 y159.length co15] (0, 0) _ rfl (by (with_reducible repeat (first | refine qal ?_ _ | refine qao ?_ | refine qaj ?_ _)); refine blk_put (cs := #[.slice Ao16 y147.length co16, .slice Ao30 x163001_1.length co30, .slice none 0 0]) ?_ 2 _ rfl; (with_reducible repeat (first | refine qal ?_ _ | refine qao ?_ | refine qaj ?_ _)); refine blk_put (cs := #[.slice Ao16 y147.length co16, .slice none 0 0, .slice none 0 0]) ?_ 1 _ rfl; (with_reducible repeat (first | refine qal ?_ _ | refine qao ?_ | refine qaj ?_ _)); refine blk_put (cs := #[.slice none 0 0, .slice none 0 0, .slice none 0 0]) ?_ 0 _ rfl; (with_reducible repeat (first | refine qal ?_ _ | refine qao ?_ | refine qaj ?_ _)); exact BK146.out) Try.underlying26 rfl (by kernel_rfl)) rfl ?_
    exact ⟨_, _, _, by first | rfl | (simp [qas, qat] <;> rfl) | (simp [*, qas, qat] <;> rfl), by (with_reducible repeat (first | apply Kd.R_alloc | apply Kd.R_drewN | apply Kd.R_drew)); exact Kd.R_mono (Kd.R_far (p := ⟨gb146, 2, none⟩) (Kd.R_far (p := ⟨gb146, 1, none⟩) (Kd.R_far (p := ⟨gb146, 0, none⟩) (Kd.R_types HO_163000.out BK146.out (by decide)) (fun _ hk => hk.2) (.slice Ao16 y147.length co16)) (fun _ hk => hk.2) (.slice Ao30 x163001_1.length co30)) (fun _ hk => hk.2) (.slice Ao15 y159.length co15)) (fun _ hk => hk.1), by (with_reducible repeat (first | apply Kd.R_alloc | apply Kd.R_drewN | apply Kd.R_drew)); exact Kd.R_mono (Kd.R_far (p := ⟨gb146, 2, none⟩) (Kd.R_far (p := ⟨gb146, 1, none⟩) (Kd.R_far (p := ⟨gb146, 0, none⟩) (Kd.R_types HO_163001.out BK146.out (by decide)) (fun _ hk => hk.2) (.slice Ao16 y147.length co16)) (fun _ hk => hk.2) (.slice Ao30 x163001_1.length co30)) (fun _ hk => hk.2) (.slice Ao15 y159.length co15)) (fun _ hk => hk.1), by (with_reducible repeat (first | apply Kd.N_alloc | apply Kd.N_drewN | apply Kd.N_drew)); exact Kd.N_mono (Kd.N_far (p := ⟨gb146, 2, none⟩) (Kd.N_far (p := ⟨gb146, 1, none⟩) (Kd.N_far (p := ⟨gb146, 0, none⟩) (Kd.N_mono HO_163002.out (fun k_ hk => (⟨hk, hk.2.2.2.1⟩ : _ ∧ k_ ≠ gb146))) (fun _ hk => hk.2) (.slice Ao16 y147.length co16)) (fun _ hk => hk.2) (.slice Ao30 x163001_1.length co30)) (fun _ hk => hk.2) (.slice Ao15 y159.length co15)) (fun _ hk => ⟨hk.1.1, ⟨hk.1.2.1, hk.1.2.2.1⟩⟩), by repeat (first | (with_reducible first | exact HB.out | apply qae | apply qad | apply qaf | refine qai ?_ GE146.out | refine qai ?_ GE162.out) | exact HB.out)⟩
end Go.Proofs.Ytipphcjgdebecaa.PA
namespace Go.Proofs.Ytipphcjgdebecaa.PA
open Go.RowKit Go.Proofs.YtipphcjgdebecaaW.PrintWords Go.Proofs.YtipphcjgdebecaaW.PrintLast Go.Proofs.YtipphcjgdebecaaW.PrintMore
attribute [local go_sem] max2_int min2_int max_two min_two max_three min_three max_four min_four
structure NetC (l0 : List S39) (l1 : List S37) (l2 : List (List Int)) (A0 : Option Addr) (c0 : Nat) (A1 : Option Addr) (c1 : Nat) (A2 : Option Addr) (c2 : Nat) (W : World) : Prop where
 r0 : Kd.C k39 W A0 l0.length l0
 h0 : l0.length ≤ c0
 r1 : Kd.C k37 W A1 l1.length l1
 h1 : l1.length ≤ c1
 r2 : Kd.C (Kd.slice 3 (Kd.int .i64)) W A2 l2.length l2
 h2 : l2.length ≤ c2
theorem NetC.below {l0 : List S39} {l1 : List S37} {l2 : List (List Int)} {A0 A1 A2 : Option Addr} {c0 c1 c2 : Nat} {W W' : World} (h : NetC l0 l1 l2 A0 c0 A1 c1 A2 c2 W) (hb : Below W.heap.size W W') : NetC l0 l1 l2 A0 c0 A1 c1 A2 c2 W' :=
 ⟨Kd.qam h.r0 hb, h.h0, Kd.qam h.r1 hb, h.h1, Kd.qam h.r2 hb, h.h2⟩
def TR0 : List S44 := [⟨120, 250, true⟩, ⟨120, 250, false⟩]
section
variable {l0 : List S39} {l1 : List S37} {l2 : List (List Int)} {A0 A1 A2 : Option Addr} {c0 c1 c2 : Nat} {W : World}
theorem net_known (k : Nat) (hf : taliklaw04_Net.f k = some (l0, l1, l2)) (W : World) : Calls Try.prog 53 #[] W fun e w' => ∃ A0 c0 A1 c1 A2 c2, e = .returned (.agg #[.slice A0 l0.length c0, .slice A1 l1.length c1, .slice A2 l2.length c2]) ∧ NetC l0 l1 l2 A0 c0 A1 c1 A2 c2 w' ∧ Below W.heap.size W w' := by
 refine (taliklaw04_Net.calls k l0 l1 l2 W hf).mono ?_
 rintro e w' ⟨v0, v1, v2, rfl, h0, h1, h2, hb⟩
 obtain ⟨A0, n0, d0, rfl⟩ := R_shape h0
 obtain ⟨A1, n1, d1, rfl⟩ := R_shape h1
 obtain ⟨A2, d2, rfl, e2, f2⟩ := Kd.N_reads h2
 obtain ⟨rfl, e0, f0⟩ := Kd.R_reads' h0
 obtain ⟨rfl, e1, f1⟩ := Kd.R_reads' h1
 exact ⟨A0, d0, A1, d1, A2, d2, rfl, ⟨f0, e0, f1, e1, f2, e2⟩, hb⟩
theorem play_known (h : NetC l0 l1 l2 A0 c0 A1 c1 A2 c2 W) (hf : playV l0 l1 l2 0 350 TR0 = (268, 3000, 1420, 5680, 0)) :
  Calls Try.prog 18 #[.agg #[.slice A0 l0.length c0, .slice A1 l1.length c1, .slice A2 l2.length c2], .int .i64 0, .int .i64 350, .slice (some ⟨W.heap.size, 0, none⟩) 2 2] (W.alloc (.cells #[.int .i64 120, .int .i64 250, .bool true, .int .i64 120, .int .i64 250, .bool false] 44)) fun e w' =>
   e = .returned (.tuple #[.agg #[.int .i64 268, .int .i64 3000, .int .i64 1420, .int .i64 5680], .int .i64 0]) ∧ Below W.heap.size W w' := by
 have hb := qae (Below.refl W.heap.size W) (.cells #[.int .i64 120, .int .i64 250, .bool true, .int .i64 120, .int .i64 250, .bool false] 44)
 have h' := h.below hb
 have hr := new_row k44 44 W TR0 [.int .i64 120, .int .i64 250, .bool true, .int .i64 120, .int .i64 250, .bool false] (Reps.front (k44_mkM W _ _ ⟨120, 250, true⟩) rfl (Reps.front (k44_mkM W _ _ ⟨120, 250, false⟩) rfl (Reps.none _ _) rfl) rfl) (by decide)
 have hc := (Kd.R_reads' hr).2.2
 exact (pipe_Play.calls _ _ l0 _ _ l1 _ _ l2 0 350 _ 2 TR0 _ _ _ _ _ _ h'.r0 h'.h0 h'.r1 h'.h1 h'.r2 h'.h2 hc (by decide) (by unfold pipe_Play.f; rw [hf])).mono fun e w' ⟨h1, h2⟩ => ⟨h1, qag hb h2⟩
theorem freezes_known (h : NetC l0 l1 l2 A0 c0 A1 c1 A2 c2 W) (hf : pipe_Freezes.f l0 l1 l2 1 = some (4, 5, 0)) :
  Calls Try.prog 43 #[.agg #[.slice A0 l0.length c0, .slice A1 l1.length c1, .slice A2 l2.length c2], .int .i64 1] W fun e w' => e = .returned (.tuple #[.int .i64 4, .int .i64 5, .int .i64 0]) ∧ Below W.heap.size W w' :=
 pipe_Freezes.calls _ _ l0 _ _ l1 _ _ l2 1 _ _ _ _ h.r0 h.h0 h.r1 h.h1 h.r2 h.h2 hf
theorem order_known (h : NetC l0 l1 l2 A0 c0 A1 c1 A2 c2 W) (k : Nat) (f : Int) (l : List Int) (s e0 : Int) (hf : pipe_Order.f k l0 l1 l2 0 f = some (l, s, e0)) :
  Calls Try.prog 24 #[.agg #[.slice A0 l0.length c0, .slice A1 l1.length c1, .slice A2 l2.length c2], .int .i64 0, .int .i64 f] W fun e w' => ∃ v, e = .returned (.tuple #[v, .int .i64 s, .int .i64 e0]) ∧ Kd.R (Kd.int .i64) 3 w' W.heap.size (fun _ => True) v l ∧ Below W.heap.size W w' :=
 pipe_Order.calls k _ _ l0 _ _ l1 _ _ l2 0 f l s e0 _ h.r0 h.h0 h.r1 h.h1 h.r2 h.h2 hf
theorem post_known (h : NetC l0 l1 l2 A0 c0 A1 c1 A2 c2 W) (hf : postV l0 l1 l2 [1] = (1, 2, 0)) :
  Calls Try.prog 37 #[.agg #[.slice A0 l0.length c0, .slice A1 l1.length c1, .slice A2 l2.length c2], .slice (some ⟨W.heap.size, 0, none⟩) 1 1] (W.alloc (.cells #[.int .i64 1] 3)) fun e w' => e = .returned (.tuple #[.int .i64 1, .int .i64 2, .int .i64 0]) ∧ Below W.heap.size W w' := by
 have hb := qae (Below.refl W.heap.size W) (.cells #[.int .i64 1] 3)
 have h' := h.below hb
 exact (pipe_Post.calls _ _ l0 _ _ l1 _ _ l2 _ 1 [1] _ _ _ _ h'.r0 h'.h0 h'.r1 h'.h1 h'.r2 h'.h2 (new_ints W [1] (by decide)) (by decide) (by unfold pipe_Post.f; rw [hf])).mono fun e w' ⟨h1, h2⟩ => ⟨h1, qag hb h2⟩
theorem wrap_known (h : NetC l0 l1 l2 A0 c0 A1 c1 A2 c2 W) (hf : wrapV l0 l1 l2 0 [1, 2, 3] = (1, 30, 0)) :
  Calls Try.prog 39 #[.agg #[.slice A0 l0.length c0, .slice A1 l1.length c1, .slice A2 l2.length c2], .int .i64 0, .slice (some ⟨W.heap.size, 0, none⟩) 3 3] (W.alloc (.cells #[.int .i64 1, .int .i64 2, .int .i64 3] 3)) fun e w' => e = .returned (.tuple #[.int .i64 1, .int .i64 30, .int .i64 0]) ∧ Below W.heap.size W w' := by
 have hb := qae (Below.refl W.heap.size W) (.cells #[.int .i64 1, .int .i64 2, .int .i64 3] 3)
 have h' := h.below hb
 exact (pipe_Wrap.calls _ _ l0 _ _ l1 _ _ l2 0 _ 3 [1, 2, 3] _ _ _ _ h'.r0 h'.h0 h'.r1 h'.h1 h'.r2 h'.h2 (new_ints W [1, 2, 3] (by decide)) (by decide) (by unfold pipe_Wrap.f; rw [hf])).mono fun e w' ⟨h1, h2⟩ => ⟨h1, qag hb h2⟩
theorem same_known {base : Nat} {ok : Nat → Prop} {v : Value} (h : Kd.R (Kd.int .i64) 3 W base ok v [0]) :
  Calls Try.prog 28 #[v, .slice (some ⟨W.heap.size, 0, none⟩) 1 1] (W.alloc (.cells #[.int .i64 0] 3)) fun e w' => e = .returned (.bool true) ∧ Below W.heap.size W w' := by
 have hb := qae (Below.refl W.heap.size W) (.cells #[.int .i64 0] 3)
 obtain ⟨A, n, c, rfl⟩ := R_shape h
 obtain ⟨rfl, hc, hC⟩ := Kd.R_reads' h
 exact (talikref04_Same.calls 5 A c [0] _ 1 [0] true _ (Kd.qam hC hb) hc (new_ints W [0] (by decide)) (by decide) (by kernel_rfl)).mono fun e w' ⟨h1, h2⟩ => ⟨h1, qag hb h2.below⟩
end
def KL0 : List S39 := [⟨⟨300, 400⟩, ⟨100, 150⟩, ⟨50, 80⟩, 30, 50, 200, 60, ⟨1, 2⟩⟩, ⟨⟨300, 300⟩, ⟨200, 200⟩, ⟨60, 60⟩, 40, 50, 200, 80, ⟨1, 1⟩⟩]
def KL1 : List S37 := [⟨200, 300⟩, ⟨200, 300⟩, ⟨200, 300⟩, ⟨200, 300⟩, ⟨200, 300⟩, ⟨200, 300⟩, ⟨200, 300⟩, ⟨200, 300⟩]
def KL2 : List (List Int) := [[0, 1, 1], [1, 0, 1], [1, 1, 0]]
theorem kNet : taliklaw04_Net.f 12 = some (KL0, KL1, KL2) := by kernel_rfl
theorem kPlay : playV KL0 KL1 KL2 0 350 TR0 = (268, 3000, 1420, 5680, 0) := by kernel_rfl
theorem kFreezes : pipe_Freezes.f KL0 KL1 KL2 1 = some (4, 5, 0) := by kernel_rfl
theorem kOrder1 : pipe_Order.f 5 KL0 KL1 KL2 0 1 = some ([0], 1, 0) := by kernel_rfl
theorem kOrder3 : pipe_Order.f 5 KL0 KL1 KL2 0 3 = some ([], 0, 5) := by kernel_rfl
theorem kPost : postV KL0 KL1 KL2 [1] = (1, 2, 0) := by kernel_rfl
theorem kWrap : wrapV KL0 KL1 KL2 0 [1, 2, 3] = (1, 30, 0) := by kernel_rfl
def taliklaw04_known.f  : Option (Bool) := some true
set_option maxHeartbeats 4000000 in
set_option maxRecDepth 100000 in
theorem taliklaw04_known.calls  (r : Bool) (w : World) (h : taliklaw04_known.f  = some r) :
  Calls Try.prog 17 #[] w fun e w' => e = .returned (.bool r) ∧ Below w.heap.size w w' := by
 obtain rfl := Option.some.inj h
 clear h
 have hu26 := Try.underlying26
 have hu31 := Try.underlying31
 have hu44 := Try.underlying44
 have HB := qab.mk (Below.refl w.heap.size w)
 have hnet := net_known 12 kNet
 have hplay : ∀ A0 c0 A1 c1 A2 c2 W, NetC KL0 KL1 KL2 A0 c0 A1 c1 A2 c2 W → _ := fun A0 c0 A1 c1 A2 c2 W h => play_known h kPlay
 have hfrz : ∀ A0 c0 A1 c1 A2 c2 W, NetC KL0 KL1 KL2 A0 c0 A1 c1 A2 c2 W → _ := fun A0 c0 A1 c1 A2 c2 W h => freezes_known h kFreezes
 have hor1 : ∀ A0 c0 A1 c1 A2 c2 W, NetC KL0 KL1 KL2 A0 c0 A1 c1 A2 c2 W → _ := fun A0 c0 A1 c1 A2 c2 W h => order_known h _ 1 _ _ _ kOrder1
 have hor3 : ∀ A0 c0 A1 c1 A2 c2 W, NetC KL0 KL1 KL2 A0 c0 A1 c1 A2 c2 W → _ := fun A0 c0 A1 c1 A2 c2 W h => order_known h _ 3 _ _ _ kOrder3
 have hpost : ∀ A0 c0 A1 c1 A2 c2 W, NetC KL0 KL1 KL2 A0 c0 A1 c1 A2 c2 W → _ := fun A0 c0 A1 c1 A2 c2 W h => post_known h kPost
 have hwrap : ∀ A0 c0 A1 c1 A2 c2 W, NetC KL0 KL1 KL2 A0 c0 A1 c1 A2 c2 W → _ := fun A0 c0 A1 c1 A2 c2 W h => wrap_known h kWrap
 have HNET := qab.mk hnet
 have HPLAY := qab.mk hplay
 have HFRZ := qab.mk hfrz
 have HOR1 := qab.mk hor1
 have HOR3 := qab.mk hor3
 have HPOST := qab.mk hpost
 have HWRAP := qab.mk hwrap
 clear hnet hplay hfrz hor1 hor3 hpost hwrap
 generalize KL0 = l0 at *
 generalize KL1 = l1 at *
 generalize KL2 = l2 at *
 go_enter Try.func17, Try.ntmps17
 go_upto_region 2 with (first | (with_reducible refine qar (N := 1) rfl ?_); refine qap ?hg (N := 1) ?hd (cs := #[.int .i64 0, .int .i64 0, .int .i64 0, .int .i64 0]) (t := 31) ?hr ?_; (case hd => rfl); (case hg => rfl); (case hr => first | (go_simp; done) | (go_simp; rfl)); intro gx hg_gx w4 hbox hb; have BKgx := qab.mk hbox; have n_HB := qab.mk (qag HB.out hb); have GEgx : w.heap.size ≤ gx := (by rw [hg_gx]; exact HB.out.size); clear HB; have HB := n_HB; clear n_HB; have hfgx := qac BKgx.out; have hcgx_0 : w4.cell? ⟨gx, 0, none⟩ = some (.int .i64 0) := (qaa BKgx.out 0).trans rfl; have hcgx_1 : w4.cell? ⟨gx, 1, none⟩ = some (.int .i64 0) := (qaa BKgx.out 1).trans rfl; have hcgx_2 : w4.cell? ⟨gx, 2, none⟩ = some (.int .i64 0) := (qaa BKgx.out 2).trans rfl; have hcgx_3 : w4.cell? ⟨gx, 3, none⟩ = some (.int .i64 0) := (qaa BKgx.out 3).trans rfl; clear hbox hb hg_gx | (go_at_call 53; with_reducible refine (HNET.out _).mono ?_; rintro e w2 ⟨A0, c0, A1, c1, A2, c2, rfl, hn, hb⟩; have HN := qab.mk hn; clear hn; (try (have n_HO := qab.mk (Kd.R_below HO.out hb); clear HO; have HO := n_HO; clear n_HO)); have n_HB := qab.mk (qag HB.out hb); clear HB; have HB := n_HB; clear n_HB; clear hb) | (go_at_call 18; with_reducible refine (HPLAY.out _ _ _ _ _ _ _ HN.out).mono ?_; rintro e w3 ⟨rfl, hb⟩; have n_HB := qab.mk (qag HB.out hb); clear HB; have HB := n_HB; clear n_HB; clear hb))
 have he_ : setAll w4 gx [.int .i64 268, .int .i64 3000, .int .i64 1420, .int .i64 5680] 0 = ((((w4.setCell ⟨gx, 0, none⟩ (.int .i64 268)).setCell ⟨gx, 1, none⟩ (.int .i64 3000)).setCell ⟨gx, 2, none⟩ (.int .i64 1420)).setCell ⟨gx, 3, none⟩ (.int .i64 5680)) := rfl; have hbl := setAll_below GEgx [.int .i64 268, .int .i64 3000, .int .i64 1420, .int .i64 5680] 0 _ HB.out; have hbx : (setAll w4 gx [.int .i64 268, .int .i64 3000, .int .i64 1420, .int .i64 5680] 0).heap[gx]? = some (.cells #[.int .i64 268, .int .i64 3000, .int .i64 1420, .int .i64 5680] 31 (0, 0)) := setAll_new [.int .i64 268, .int .i64 3000, .int .i64 1420, .int .i64 5680] [.int .i64 0, .int .i64 0, .int .i64 0, .int .i64 0] BKgx.out rfl; rw [he_] at hbl hbx ; clear he_; generalize ((((w4.setCell ⟨gx, 0, none⟩ (.int .i64 268)).setCell ⟨gx, 1, none⟩ (.int .i64 3000)).setCell ⟨gx, 2, none⟩ (.int .i64 1420)).setCell ⟨gx, 3, none⟩ (.int .i64 5680)) = w5 at hbl hbx  ⊢; clear HB BKgx; have HB := qab.mk hbl; have BKgx := qab.mk hbx; clear hbl hbx
 clear hfgx hcgx_0 hcgx_1 hcgx_2 hcgx_3 HN
 go_upto_region 7 with (first | (go_at_call 53; with_reducible refine (HNET.out _).mono ?_; rintro e w6 ⟨A0, c0, A1, c1, A2, c2, rfl, hn, hb⟩; have HN := qab.mk hn; clear hn; (try (have n_HO := qab.mk (Kd.R_below HO.out hb); clear HO; have HO := n_HO; clear n_HO)); have n_BKgx := qab.mk (qah BKgx.out hb); clear BKgx; have BKgx := n_BKgx; clear n_BKgx; have n_HB := qab.mk (qag HB.out hb); clear HB; have HB := n_HB; clear n_HB; clear hb) | (go_at_call 43; with_reducible refine (HFRZ.out _ _ _ _ _ _ _ HN.out).mono ?_; rintro e w7 ⟨rfl, hb⟩; have n_BKgx := qab.mk (qah BKgx.out hb); clear BKgx; have BKgx := n_BKgx; clear n_BKgx; have n_HB := qab.mk (qag HB.out hb); clear HB; have HB := n_HB; clear n_HB; clear hb; clear HN) | (go_at_call 24; with_reducible refine (HOR1.out _ _ _ _ _ _ _ HN.out).mono ?_; rintro e w8 ⟨v1, rfl, ho, hb⟩; have HO := qab.mk ho; clear ho; have n_BKgx := qab.mk (qah BKgx.out hb); clear BKgx; have BKgx := n_BKgx; clear n_BKgx; have n_HB := qab.mk (qag HB.out hb); clear HB; have HB := n_HB; clear n_HB; clear hb; clear HN) | (go_at_call 24; with_reducible refine (HOR3.out _ _ _ _ _ _ _ HN.out).mono ?_; rintro e w9 ⟨v3, rfl, _, hb⟩; have n_HO := qab.mk (Kd.R_below HO.out hb); clear HO; have HO := n_HO; clear n_HO; have n_BKgx := qab.mk (qah BKgx.out hb); clear BKgx; have BKgx := n_BKgx; clear n_BKgx; have n_HB := qab.mk (qag HB.out hb); clear HB; have HB := n_HB; clear n_HB; clear hb; clear HN) | (go_at_call 37; with_reducible refine (HPOST.out _ _ _ _ _ _ _ HN.out).mono ?_; rintro e w10 ⟨rfl, hb⟩; have n_HO := qab.mk (Kd.R_below HO.out hb); clear HO; have HO := n_HO; clear n_HO; have n_BKgx := qab.mk (qah BKgx.out hb); clear BKgx; have BKgx := n_BKgx; clear n_BKgx; have n_HB := qab.mk (qag HB.out hb); clear HB; have HB := n_HB; clear n_HB; clear hb; clear HN) | (go_at_call 39; with_reducible refine (HWRAP.out _ _ _ _ _ _ _ HN.out).mono ?_; rintro e w11 ⟨rfl, hb⟩; have n_HO := qab.mk (Kd.R_below HO.out hb); clear HO; have HO := n_HO; clear n_HO; have n_BKgx := qab.mk (qah BKgx.out hb); clear BKgx; have BKgx := n_BKgx; clear n_BKgx; have n_HB := qab.mk (qag HB.out hb); clear HB; have HB := n_HB; clear n_HB; clear hb; clear HN))
 have hfgx := qac BKgx.out; have hcgx_0 : w11.cell? ⟨gx, 0, none⟩ = some (.int .i64 268) := (qaa BKgx.out 0).trans rfl; have hcgx_1 : w11.cell? ⟨gx, 1, none⟩ = some (.int .i64 3000) := (qaa BKgx.out 1).trans rfl; have hcgx_2 : w11.cell? ⟨gx, 2, none⟩ = some (.int .i64 1420) := (qaa BKgx.out 2).trans rfl; have hcgx_3 : w11.cell? ⟨gx, 3, none⟩ = some (.int .i64 5680) := (qaa BKgx.out 3).trans rfl
 go_wp2_with (first | (go_at_call 28; with_reducible refine (same_known HO.out).mono ?_; rintro e w12 ⟨rfl, hb⟩; have n_HB := qab.mk (qag HB.out hb); clear HB; have HB := n_HB; clear n_HB; clear hb))
 go_ret
 exact ⟨rfl, HB.out⟩
end Go.Proofs.Ytipphcjgdebecaa.PA
namespace Go.Proofs.Ytipphcjgdebecaa.PA
open Go.RowKit Go.Proofs.YtipphcjgdebecaaW.PrintWords Go.Proofs.YtipphcjgdebecaaW.PrintLast Go.Proofs.YtipphcjgdebecaaW.PrintMore
attribute [local go_sem] max2_int min2_int max_two min_two max_three min_three max_four min_four
def talikref04_Span.f (a0_0 : Int) (a0_1 : Int) (a1 : Int) (a2 : Int) : Option (Bool) := if a0_0 ≥ a1 then (if a0_0 ≤ a0_1 then (some (decide (a0_1 ≤ a2))) else (some false)) else (some false)
set_option maxHeartbeats 8000000 in
set_option maxRecDepth 100000 in
theorem talikref04_Span.calls (a0_0 : Int) (a0_1 : Int) (a1 : Int) (a2 : Int) (r : Bool) (w : World) (h : talikref04_Span.f a0_0 a0_1 a1 a2 = some r) :
  Calls Try.prog 59 #[.agg #[.int .i64 a0_0, .int .i64 a0_1], .int .i64 a1, .int .i64 a2] w fun e w' => e = .returned (.bool r) ∧ Below w.heap.size w w' := by
 have hu37 := Try.underlying37
 have HB := qab.mk (Below.refl w.heap.size w)
 have H : (if a0_0 ≥ a1 then (if a0_0 ≤ a0_1 then (some (decide (a0_1 ≤ a2))) else (some false)) else (some false)) = some r := h
 clear h
 by_cases c4 : a0_0 ≥ a1
 ·
  rw [if_pos c4] at H
  have c4b0 : decide (a1 ≤ a0_0) = true := decide_eq_true c4
  clear c4
  by_cases c5 : a0_0 ≤ a0_1
  ·
   rw [if_pos c5] at H
   have c5b0 : decide (a0_0 ≤ a0_1) = true := decide_eq_true c5
   clear c5
   obtain rfl := Option.some.inj H
   go_enter Try.func59, Try.ntmps59
   go_wp2_with (first | ((with_reducible refine qar (N := 3) rfl ?_); refine qap ?hg (N := 3) ?hd (cs := #[.int .i64 a0_0, .int .i64 a0_1]) (t := 37) ?hr ?_; (case hd => rfl); (case hg => rfl); (case hr => first | (go_simp; done) | (go_simp; rfl)); intro gb166 hg w6 hbox hb; have n0_ := qab.mk (qag (by repeat (first | (with_reducible first | exact HB.out | apply qae | apply qad | apply qaf) | exact HB.out)) hb); have n1_ := qab.mk (hbox); have n2_ := qab.mk ((by rw [hg]; exact (qan (by repeat (first | (with_reducible first | exact HB.out | apply qae | apply qad | apply qaf) | exact HB.out))) : w.heap.size ≤ gb166)); have n3_ := qab.mk ((by rw [hg]; exact (qan (by repeat (first | (with_reducible first | exact HB.out | apply qae | apply qad | apply qaf) | exact HB.out))) : w.heap.size ≤ gb166)); clear HB; have HB := n0_; have BK166 := n1_; have GW166 := n2_; have GE166 := n3_; clear n0_ n1_ n2_ n3_; clear hb hbox hg; have hcz7_0 : w6.cell? ⟨gb166, 0, none⟩ = some (.int .i64 a0_0) := (qaa BK166.out 0).trans rfl; have hcz7_1 : w6.cell? ⟨gb166, 1, none⟩ = some (.int .i64 a0_1) := (qaa BK166.out 1).trans rfl; have hfz7_0 := qac BK166.out 0; have hfz7_1 := qac BK166.out 1))
   go_ret
   exact ⟨by first | rfl | (simp [qas, qat] <;> rfl) | (simp [*, qas, qat] <;> rfl), by repeat (first | (with_reducible first | exact HB.out | apply qae | apply qad | apply qaf | refine qai ?_ GE166.out) | exact HB.out)⟩
  ·
   rw [if_neg c5] at H
   have c5b0 : decide (a0_0 ≤ a0_1) = false := decide_eq_false c5
   clear c5
   obtain rfl := Option.some.inj H
   go_enter Try.func59, Try.ntmps59
   go_wp2_with (first | ((with_reducible refine qar (N := 3) rfl ?_); refine qap ?hg (N := 3) ?hd (cs := #[.int .i64 a0_0, .int .i64 a0_1]) (t := 37) ?hr ?_; (case hd => rfl); (case hg => rfl); (case hr => first | (go_simp; done) | (go_simp; rfl)); intro gb166 hg w8 hbox hb; have n0_ := qab.mk (qag (by repeat (first | (with_reducible first | exact HB.out | apply qae | apply qad | apply qaf) | exact HB.out)) hb); have n1_ := qab.mk (hbox); have n2_ := qab.mk ((by rw [hg]; exact (qan (by repeat (first | (with_reducible first | exact HB.out | apply qae | apply qad | apply qaf) | exact HB.out))) : w.heap.size ≤ gb166)); have n3_ := qab.mk ((by rw [hg]; exact (qan (by repeat (first | (with_reducible first | exact HB.out | apply qae | apply qad | apply qaf) | exact HB.out))) : w.heap.size ≤ gb166)); clear HB; have HB := n0_; have BK166 := n1_; have GW166 := n2_; have GE166 := n3_; clear n0_ n1_ n2_ n3_; clear hb hbox hg; have hcz9_0 : w8.cell? ⟨gb166, 0, none⟩ = some (.int .i64 a0_0) := (qaa BK166.out 0).trans rfl; have hcz9_1 : w8.cell? ⟨gb166, 1, none⟩ = some (.int .i64 a0_1) := (qaa BK166.out 1).trans rfl; have hfz9_0 := qac BK166.out 0; have hfz9_1 := qac BK166.out 1))
   go_ret
   exact ⟨by first | rfl | (simp [qas, qat] <;> rfl) | (simp [*, qas, qat] <;> rfl), by repeat (first | (with_reducible first | exact HB.out | apply qae | apply qad | apply qaf | refine qai ?_ GE166.out) | exact HB.out)⟩
 ·
  rw [if_neg c4] at H
  have c4b0 : decide (a1 ≤ a0_0) = false := decide_eq_false c4
  clear c4
  obtain rfl := Option.some.inj H
  go_enter Try.func59, Try.ntmps59
  go_wp2_with (first | ((with_reducible refine qar (N := 3) rfl ?_); refine qap ?hg (N := 3) ?hd (cs := #[.int .i64 a0_0, .int .i64 a0_1]) (t := 37) ?hr ?_; (case hd => rfl); (case hg => rfl); (case hr => first | (go_simp; done) | (go_simp; rfl)); intro gb166 hg w10 hbox hb; have n0_ := qab.mk (qag (by repeat (first | (with_reducible first | exact HB.out | apply qae | apply qad | apply qaf) | exact HB.out)) hb); have n1_ := qab.mk (hbox); have n2_ := qab.mk ((by rw [hg]; exact (qan (by repeat (first | (with_reducible first | exact HB.out | apply qae | apply qad | apply qaf) | exact HB.out))) : w.heap.size ≤ gb166)); have n3_ := qab.mk ((by rw [hg]; exact (qan (by repeat (first | (with_reducible first | exact HB.out | apply qae | apply qad | apply qaf) | exact HB.out))) : w.heap.size ≤ gb166)); clear HB; have HB := n0_; have BK166 := n1_; have GW166 := n2_; have GE166 := n3_; clear n0_ n1_ n2_ n3_; clear hb hbox hg; have hcz11_0 : w10.cell? ⟨gb166, 0, none⟩ = some (.int .i64 a0_0) := (qaa BK166.out 0).trans rfl; have hcz11_1 : w10.cell? ⟨gb166, 1, none⟩ = some (.int .i64 a0_1) := (qaa BK166.out 1).trans rfl; have hfz11_0 := qac BK166.out 0; have hfz11_1 := qac BK166.out 1))
  go_ret
  exact ⟨by first | rfl | (simp [qas, qat] <;> rfl) | (simp [*, qas, qat] <;> rfl), by repeat (first | (with_reducible first | exact HB.out | apply qae | apply qad | apply qaf | refine qai ?_ GE166.out) | exact HB.out)⟩
def talikref04_in.f (a0 : Int) (a1 : Int) (a2 : Int) : Option (Bool) := if a0 ≥ a1 then (some (decide (a0 ≤ a2))) else (some false)
set_option maxHeartbeats 8000000 in
set_option maxRecDepth 100000 in
theorem talikref04_in.calls (a0 : Int) (a1 : Int) (a2 : Int) (r : Bool) (w : World) (h : talikref04_in.f a0 a1 a2 = some r) :
  Calls Try.prog 60 #[.int .i64 a0, .int .i64 a1, .int .i64 a2] w fun e w' => e = .returned (.bool r) ∧ Drawn0 w w' := by
 have H : (if a0 ≥ a1 then (some (decide (a0 ≤ a2))) else (some false)) = some r := h
 clear h
 by_cases c4 : a0 ≥ a1
 ·
  rw [if_pos c4] at H
  have c4b0 : decide (a1 ≤ a0) = true := decide_eq_true c4
  clear c4
  obtain rfl := Option.some.inj H
  go_enter Try.func60, Try.ntmps60
  go_wp2
  go_ret
  exact ⟨by first | rfl | (simp; done) | (simp [*]; done), by repeat (first | exact Drawn0.refl _ | apply Drawn0.step)⟩
 ·
  rw [if_neg c4] at H
  have c4b0 : decide (a1 ≤ a0) = false := decide_eq_false c4
  clear c4
  obtain rfl := Option.some.inj H
  go_enter Try.func60, Try.ntmps60
  go_wp2
  go_ret
  exact ⟨by first | rfl | (simp; done) | (simp [*]; done), by repeat (first | exact Drawn0.refl _ | apply Drawn0.step)⟩
end Go.Proofs.Ytipphcjgdebecaa.PA
namespace Go.Proofs.Ytipphcjgdebecaa.PA
open Go.RowKit Go.Proofs.YtipphcjgdebecaaW.PrintWords Go.Proofs.YtipphcjgdebecaaW.PrintLast Go.Proofs.YtipphcjgdebecaaW.PrintMore
attribute [local go_sem] max2_int min2_int max_two min_two max_three min_three max_four min_four
theorem talikref04_Span_tot (a b lo hi : Int) : ∃ r, talikref04_Span.f a b lo hi = some r := by
 unfold talikref04_Span.f
 split
 ·
  split
  ·
   exact ⟨_, rfl⟩
  ·
   exact ⟨_, rfl⟩
 ·
  exact ⟨_, rfl⟩
theorem talikref04_in_tot (a lo hi : Int) : ∃ r, talikref04_in.f a lo hi = some r := by
 unfold talikref04_in.f
 split
 ·
  exact ⟨_, rfl⟩
 ·
  exact ⟨_, rfl⟩
theorem talikref04_Span_to {f : Nat} {args : Array Value} {W : World} {r : Bool} (h : Calls Try.prog f args W fun e w' => e = .returned (.bool r) ∧ Below W.heap.size W w') : Calls Try.prog f args W fun e w' => e = .returned (.bool r) ∧ Below W.heap.size W w' := h
theorem talikref04_in_to {f : Nat} {args : Array Value} {W : World} {r : Bool} (h : Calls Try.prog f args W fun e w' => e = .returned (.bool r) ∧ Drawn0 W w') : Calls Try.prog f args W fun e w' => e = .returned (.bool r) ∧ Below W.heap.size W w' := h.mono fun e w' ⟨h1, h2⟩ => ⟨h1, h2.below⟩
def talikref04_Loop.f (a0_0 : Int) (a0_1 : Int) (a0_2 : Int) (a0_3 : Int) (a0_4 : Int) (a0_5 : Int) (a0_6 : Int) (a0_7 : Int) (a0_8 : Int) (a0_9 : Int) (a0_10 : Int) (a0_11 : Int) : Option (Bool) := (talikref04_Span.f a0_0 a0_1 1 1000).bind fun t177 => (if t177 = true then ((talikref04_Span.f a0_2 a0_3 0 1000).bind fun t178 => (if t178 = true then ((talikref04_Span.f a0_4 a0_5 0 1000).bind fun t179 => (if t179 = true then (if a0_4 ≤ a0_2 then (if a0_5 ≤ a0_3 then ((talikref04_in.f a0_6 0 1000000).bind fun t180 => (if t180 = true then ((talikref04_in.f a0_7 1 10000).bind fun t181 => (if t181 = true then ((talikref04_in.f a0_8 0 1000).bind fun t182 => (if t182 = true then ((talikref04_in.f a0_9 0 1000).bind fun t183 => (if t183 = true then ((talikref04_Span.f a0_10 a0_11 0 72).bind fun t184 => (some t184)) else (some false))) else (some false))) else (some false))) else (some false))) else (some false)) else (some false)) else (some false))) else (some false))) else (some false))
set_option maxHeartbeats 8000000 in
set_option maxRecDepth 100000 in
theorem talikref04_Loop.calls (a0_0 : Int) (a0_1 : Int) (a0_2 : Int) (a0_3 : Int) (a0_4 : Int) (a0_5 : Int) (a0_6 : Int) (a0_7 : Int) (a0_8 : Int) (a0_9 : Int) (a0_10 : Int) (a0_11 : Int) (r : Bool) (w : World) (h : talikref04_Loop.f a0_0 a0_1 a0_2 a0_3 a0_4 a0_5 a0_6 a0_7 a0_8 a0_9 a0_10 a0_11 = some r) :
  Calls Try.prog 58 #[.agg #[.int .i64 a0_0, .int .i64 a0_1, .int .i64 a0_2, .int .i64 a0_3, .int .i64 a0_4, .int .i64 a0_5, .int .i64 a0_6, .int .i64 a0_7, .int .i64 a0_8, .int .i64 a0_9, .int .i64 a0_10, .int .i64 a0_11]] w fun e w' => e = .returned (.bool r) ∧ Below w.heap.size w w' := by
 obtain ⟨b1, e_b1⟩ := talikref04_Span_tot a0_0 a0_1 1 1000
 obtain ⟨b2, e_b2⟩ := talikref04_Span_tot a0_2 a0_3 0 1000
 obtain ⟨b3, e_b3⟩ := talikref04_Span_tot a0_4 a0_5 0 1000
 obtain ⟨b10, e_b10⟩ := talikref04_Span_tot a0_10 a0_11 0 72
 obtain ⟨b6, e_b6⟩ := talikref04_in_tot a0_6 0 1000000
 obtain ⟨b7, e_b7⟩ := talikref04_in_tot a0_7 1 10000
 obtain ⟨b8, e_b8⟩ := talikref04_in_tot a0_8 0 1000
 obtain ⟨b9, e_b9⟩ := talikref04_in_tot a0_9 0 1000
 unfold talikref04_Loop.f at h
 rw [e_b1, e_b2, e_b3, e_b6, e_b7, e_b8, e_b9, e_b10] at h
 simp only [Option.bind_some] at h
 have H_b1 : qab (∀ W, Calls Try.prog 59 #[.agg #[.int .i64 a0_0, .int .i64 a0_1], .int .i64 1, .int .i64 1000] W fun e w' => e = .returned (.bool b1) ∧ Below W.heap.size W w') := ⟨fun W => talikref04_Span_to (talikref04_Span.calls _ _ _ _ _ W e_b1)⟩
 have H_b2 : qab (∀ W, Calls Try.prog 59 #[.agg #[.int .i64 a0_2, .int .i64 a0_3], .int .i64 0, .int .i64 1000] W fun e w' => e = .returned (.bool b2) ∧ Below W.heap.size W w') := ⟨fun W => talikref04_Span_to (talikref04_Span.calls _ _ _ _ _ W e_b2)⟩
 have H_b3 : qab (∀ W, Calls Try.prog 59 #[.agg #[.int .i64 a0_4, .int .i64 a0_5], .int .i64 0, .int .i64 1000] W fun e w' => e = .returned (.bool b3) ∧ Below W.heap.size W w') := ⟨fun W => talikref04_Span_to (talikref04_Span.calls _ _ _ _ _ W e_b3)⟩
 have H_b10 : qab (∀ W, Calls Try.prog 59 #[.agg #[.int .i64 a0_10, .int .i64 a0_11], .int .i64 0, .int .i64 72] W fun e w' => e = .returned (.bool b10) ∧ Below W.heap.size W w') := ⟨fun W => talikref04_Span_to (talikref04_Span.calls _ _ _ _ _ W e_b10)⟩
 have H_b6 : qab (∀ W, Calls Try.prog 60 #[.int .i64 a0_6, .int .i64 0, .int .i64 1000000] W fun e w' => e = .returned (.bool b6) ∧ Below W.heap.size W w') := ⟨fun W => talikref04_in_to (talikref04_in.calls _ _ _ _ W e_b6)⟩
 have H_b7 : qab (∀ W, Calls Try.prog 60 #[.int .i64 a0_7, .int .i64 1, .int .i64 10000] W fun e w' => e = .returned (.bool b7) ∧ Below W.heap.size W w') := ⟨fun W => talikref04_in_to (talikref04_in.calls _ _ _ _ W e_b7)⟩
 have H_b8 : qab (∀ W, Calls Try.prog 60 #[.int .i64 a0_8, .int .i64 0, .int .i64 1000] W fun e w' => e = .returned (.bool b8) ∧ Below W.heap.size W w') := ⟨fun W => talikref04_in_to (talikref04_in.calls _ _ _ _ W e_b8)⟩
 have H_b9 : qab (∀ W, Calls Try.prog 60 #[.int .i64 a0_9, .int .i64 0, .int .i64 1000] W fun e w' => e = .returned (.bool b9) ∧ Below W.heap.size W w') := ⟨fun W => talikref04_in_to (talikref04_in.calls _ _ _ _ W e_b9)⟩
 clear e_b1 e_b2 e_b3 e_b6 e_b7 e_b8 e_b9 e_b10
 have hu39 := Try.underlying39
 have hu37 := Try.underlying37
 have HB := qab.mk (Below.refl w.heap.size w)
 cases b1; rotate_left; cases b2; rotate_left; cases b3; rotate_left; by_cases c4 : a0_4 ≤ a0_2; by_cases c5 : a0_5 ≤ a0_3; cases b6; rotate_left; cases b7; rotate_left; cases b8; rotate_left; cases b9; rotate_left; cases b10
 all_goals
  have hr : r = _ := Option.some.inj (Eq.symm (by first | exact h | (simp only [Bool.false_eq_true, if_true, if_false] at h; exact h) | (simp only [c4, Bool.false_eq_true, if_true, if_false] at h; exact h) | (simp only [c4, c5, Bool.false_eq_true, if_true, if_false] at h; exact h)))
  subst hr
  clear h
  go_enter Try.func58, Try.ntmps58
  go_wp2_with (first | ((with_reducible refine qar (N := 1) rfl ?_); refine qap ?hg (N := 1) ?hd (cs := #[.int .i64 a0_0, .int .i64 a0_1, .int .i64 a0_2, .int .i64 a0_3, .int .i64 a0_4, .int .i64 a0_5, .int .i64 a0_6, .int .i64 a0_7, .int .i64 a0_8, .int .i64 a0_9, .int .i64 a0_10, .int .i64 a0_11]) (t := 39) ?hr ?_; (case hd => rfl); (case hg => rfl); (case hr => first | (go_simp; done) | (go_simp; rfl)); intro gb hg_gb w2 hbox hb; have BKgb := qab.mk hbox; have n_HB := qab.mk (qag HB.out hb); have GEgb : w.heap.size ≤ gb := (by rw [hg_gb]; exact HB.out.size); clear HB; have HB := n_HB; clear n_HB; have hfgb := qac BKgb.out; have hcgb_0 : w2.cell? ⟨gb, 0, none⟩ = some (.int .i64 a0_0) := (qaa BKgb.out 0).trans rfl; have hcgb_1 : w2.cell? ⟨gb, 1, none⟩ = some (.int .i64 a0_1) := (qaa BKgb.out 1).trans rfl; have hcgb_2 : w2.cell? ⟨gb, 2, none⟩ = some (.int .i64 a0_2) := (qaa BKgb.out 2).trans rfl; have hcgb_3 : w2.cell? ⟨gb, 3, none⟩ = some (.int .i64 a0_3) := (qaa BKgb.out 3).trans rfl; have hcgb_4 : w2.cell? ⟨gb, 4, none⟩ = some (.int .i64 a0_4) := (qaa BKgb.out 4).trans rfl; have hcgb_5 : w2.cell? ⟨gb, 5, none⟩ = some (.int .i64 a0_5) := (qaa BKgb.out 5).trans rfl; have hcgb_6 : w2.cell? ⟨gb, 6, none⟩ = some (.int .i64 a0_6) := (qaa BKgb.out 6).trans rfl; have hcgb_7 : w2.cell? ⟨gb, 7, none⟩ = some (.int .i64 a0_7) := (qaa BKgb.out 7).trans rfl; have hcgb_8 : w2.cell? ⟨gb, 8, none⟩ = some (.int .i64 a0_8) := (qaa BKgb.out 8).trans rfl; have hcgb_9 : w2.cell? ⟨gb, 9, none⟩ = some (.int .i64 a0_9) := (qaa BKgb.out 9).trans rfl; have hcgb_10 : w2.cell? ⟨gb, 10, none⟩ = some (.int .i64 a0_10) := (qaa BKgb.out 10).trans rfl; have hcgb_11 : w2.cell? ⟨gb, 11, none⟩ = some (.int .i64 a0_11) := (qaa BKgb.out 11).trans rfl; clear hbox hb hg_gb; clear hfgb) | (go_at_call 59; with_reducible refine (H_b1.out _).mono ?_; rintro e w3 ⟨rfl, hb⟩; have n_BKgb := qab.mk (qah BKgb.out hb); clear BKgb; have BKgb := n_BKgb; clear n_BKgb; have n_HB := qab.mk (qag HB.out hb); clear HB; have HB := n_HB; clear n_HB; clear hb; have q2 : w3.cell? ⟨gb, 2, none⟩ = some (.int .i64 a0_2) := (qaa BKgb.out 2).trans rfl; have q3 : w3.cell? ⟨gb, 3, none⟩ = some (.int .i64 a0_3) := (qaa BKgb.out 3).trans rfl; have q4 : w3.cell? ⟨gb, 4, none⟩ = some (.int .i64 a0_4) := (qaa BKgb.out 4).trans rfl; have q5 : w3.cell? ⟨gb, 5, none⟩ = some (.int .i64 a0_5) := (qaa BKgb.out 5).trans rfl; have q6 : w3.cell? ⟨gb, 6, none⟩ = some (.int .i64 a0_6) := (qaa BKgb.out 6).trans rfl; have q7 : w3.cell? ⟨gb, 7, none⟩ = some (.int .i64 a0_7) := (qaa BKgb.out 7).trans rfl; have q8 : w3.cell? ⟨gb, 8, none⟩ = some (.int .i64 a0_8) := (qaa BKgb.out 8).trans rfl; have q9 : w3.cell? ⟨gb, 9, none⟩ = some (.int .i64 a0_9) := (qaa BKgb.out 9).trans rfl; have q10 : w3.cell? ⟨gb, 10, none⟩ = some (.int .i64 a0_10) := (qaa BKgb.out 10).trans rfl; have q11 : w3.cell? ⟨gb, 11, none⟩ = some (.int .i64 a0_11) := (qaa BKgb.out 11).trans rfl) | (go_at_call 59; with_reducible refine (H_b2.out _).mono ?_; rintro e w4 ⟨rfl, hb⟩; have n_BKgb := qab.mk (qah BKgb.out hb); clear BKgb; have BKgb := n_BKgb; clear n_BKgb; have n_HB := qab.mk (qag HB.out hb); clear HB; have HB := n_HB; clear n_HB; clear hb; have q2 : w4.cell? ⟨gb, 2, none⟩ = some (.int .i64 a0_2) := (qaa BKgb.out 2).trans rfl; have q3 : w4.cell? ⟨gb, 3, none⟩ = some (.int .i64 a0_3) := (qaa BKgb.out 3).trans rfl; have q4 : w4.cell? ⟨gb, 4, none⟩ = some (.int .i64 a0_4) := (qaa BKgb.out 4).trans rfl; have q5 : w4.cell? ⟨gb, 5, none⟩ = some (.int .i64 a0_5) := (qaa BKgb.out 5).trans rfl; have q6 : w4.cell? ⟨gb, 6, none⟩ = some (.int .i64 a0_6) := (qaa BKgb.out 6).trans rfl; have q7 : w4.cell? ⟨gb, 7, none⟩ = some (.int .i64 a0_7) := (qaa BKgb.out 7).trans rfl; have q8 : w4.cell? ⟨gb, 8, none⟩ = some (.int .i64 a0_8) := (qaa BKgb.out 8).trans rfl; have q9 : w4.cell? ⟨gb, 9, none⟩ = some (.int .i64 a0_9) := (qaa BKgb.out 9).trans rfl; have q10 : w4.cell? ⟨gb, 10, none⟩ = some (.int .i64 a0_10) := (qaa BKgb.out 10).trans rfl; have q11 : w4.cell? ⟨gb, 11, none⟩ = some (.int .i64 a0_11) := (qaa BKgb.out 11).trans rfl) | (go_at_call 59; with_reducible refine (H_b3.out _).mono ?_; rintro e w5 ⟨rfl, hb⟩; have n_BKgb := qab.mk (qah BKgb.out hb); clear BKgb; have BKgb := n_BKgb; clear n_BKgb; have n_HB := qab.mk (qag HB.out hb); clear HB; have HB := n_HB; clear n_HB; clear hb; have q2 : w5.cell? ⟨gb, 2, none⟩ = some (.int .i64 a0_2) := (qaa BKgb.out 2).trans rfl; have q3 : w5.cell? ⟨gb, 3, none⟩ = some (.int .i64 a0_3) := (qaa BKgb.out 3).trans rfl; have q4 : w5.cell? ⟨gb, 4, none⟩ = some (.int .i64 a0_4) := (qaa BKgb.out 4).trans rfl; have q5 : w5.cell? ⟨gb, 5, none⟩ = some (.int .i64 a0_5) := (qaa BKgb.out 5).trans rfl; have q6 : w5.cell? ⟨gb, 6, none⟩ = some (.int .i64 a0_6) := (qaa BKgb.out 6).trans rfl; have q7 : w5.cell? ⟨gb, 7, none⟩ = some (.int .i64 a0_7) := (qaa BKgb.out 7).trans rfl; have q8 : w5.cell? ⟨gb, 8, none⟩ = some (.int .i64 a0_8) := (qaa BKgb.out 8).trans rfl; have q9 : w5.cell? ⟨gb, 9, none⟩ = some (.int .i64 a0_9) := (qaa BKgb.out 9).trans rfl; have q10 : w5.cell? ⟨gb, 10, none⟩ = some (.int .i64 a0_10) := (qaa BKgb.out 10).trans rfl; have q11 : w5.cell? ⟨gb, 11, none⟩ = some (.int .i64 a0_11) := (qaa BKgb.out 11).trans rfl) | (go_at_call 60; with_reducible refine (H_b6.out _).mono ?_; rintro e w6 ⟨rfl, hb⟩; have n_BKgb := qab.mk (qah BKgb.out hb); clear BKgb; have BKgb := n_BKgb; clear n_BKgb; have n_HB := qab.mk (qag HB.out hb); clear HB; have HB := n_HB; clear n_HB; clear hb; have q7 : w6.cell? ⟨gb, 7, none⟩ = some (.int .i64 a0_7) := (qaa BKgb.out 7).trans rfl; have q8 : w6.cell? ⟨gb, 8, none⟩ = some (.int .i64 a0_8) := (qaa BKgb.out 8).trans rfl; have q9 : w6.cell? ⟨gb, 9, none⟩ = some (.int .i64 a0_9) := (qaa BKgb.out 9).trans rfl; have q10 : w6.cell? ⟨gb, 10, none⟩ = some (.int .i64 a0_10) := (qaa BKgb.out 10).trans rfl; have q11 : w6.cell? ⟨gb, 11, none⟩ = some (.int .i64 a0_11) := (qaa BKgb.out 11).trans rfl) | (go_at_call 60; with_reducible refine (H_b7.out _).mono ?_; rintro e w7 ⟨rfl, hb⟩; have n_BKgb := qab.mk (qah BKgb.out hb); clear BKgb; have BKgb := n_BKgb; clear n_BKgb; have n_HB := qab.mk (qag HB.out hb); clear HB; have HB := n_HB; clear n_HB; clear hb; have q8 : w7.cell? ⟨gb, 8, none⟩ = some (.int .i64 a0_8) := (qaa BKgb.out 8).trans rfl; have q9 : w7.cell? ⟨gb, 9, none⟩ = some (.int .i64 a0_9) := (qaa BKgb.out 9).trans rfl; have q10 : w7.cell? ⟨gb, 10, none⟩ = some (.int .i64 a0_10) := (qaa BKgb.out 10).trans rfl; have q11 : w7.cell? ⟨gb, 11, none⟩ = some (.int .i64 a0_11) := (qaa BKgb.out 11).trans rfl) | (go_at_call 60; with_reducible refine (H_b8.out _).mono ?_; rintro e w8 ⟨rfl, hb⟩; have n_BKgb := qab.mk (qah BKgb.out hb); clear BKgb; have BKgb := n_BKgb; clear n_BKgb; have n_HB := qab.mk (qag HB.out hb); clear HB; have HB := n_HB; clear n_HB; clear hb; have q9 : w8.cell? ⟨gb, 9, none⟩ = some (.int .i64 a0_9) := (qaa BKgb.out 9).trans rfl; have q10 : w8.cell? ⟨gb, 10, none⟩ = some (.int .i64 a0_10) := (qaa BKgb.out 10).trans rfl; have q11 : w8.cell? ⟨gb, 11, none⟩ = some (.int .i64 a0_11) := (qaa BKgb.out 11).trans rfl) | (go_at_call 60; with_reducible refine (H_b9.out _).mono ?_; rintro e w9 ⟨rfl, hb⟩; have n_BKgb := qab.mk (qah BKgb.out hb); clear BKgb; have BKgb := n_BKgb; clear n_BKgb; have n_HB := qab.mk (qag HB.out hb); clear HB; have HB := n_HB; clear n_HB; clear hb; have q10 : w9.cell? ⟨gb, 10, none⟩ = some (.int .i64 a0_10) := (qaa BKgb.out 10).trans rfl; have q11 : w9.cell? ⟨gb, 11, none⟩ = some (.int .i64 a0_11) := (qaa BKgb.out 11).trans rfl) | (go_at_call 59; with_reducible refine (H_b10.out _).mono ?_; rintro e w10 ⟨rfl, hb⟩; have n_BKgb := qab.mk (qah BKgb.out hb); clear BKgb; have BKgb := n_BKgb; clear n_BKgb; have n_HB := qab.mk (qag HB.out hb); clear HB; have HB := n_HB; clear n_HB; clear hb))
  go_ret
  exact ⟨rfl, HB.out⟩
end Go.Proofs.Ytipphcjgdebecaa.PA
namespace Go.Proofs.Ytipphcjgdebecaa.PA
open Go.RowKit Go.Proofs.YtipphcjgdebecaaW.PrintWords Go.Proofs.YtipphcjgdebecaaW.PrintLast Go.Proofs.YtipphcjgdebecaaW.PrintMore
attribute [local go_sem] max2_int min2_int max_two min_two max_three min_three max_four min_four
mutual
def talikref04_Net.l0 : Nat → Int → List (S39) → List (S37) → List (List Int) → Option (Bool)
 | 0, _, _, _, _ => none
 | k + 1, x3, x168000, x168001, x168002 => if x3 < (x168000.length : Int) then (if 0 ≤ x3 then ((talikref04_Loop.f ((qak x168000 x3).f0.f0) ((qak x168000 x3).f0.f1) ((qak x168000 x3).f1.f0) ((qak x168000 x3).f1.f1) ((qak x168000 x3).f2.f0) ((qak x168000 x3).f2.f1) ((qak x168000 x3).f3) ((qak x168000 x3).f4) ((qak x168000 x3).f5) ((qak x168000 x3).f6) ((qak x168000 x3).f7.f0) ((qak x168000 x3).f7.f1)).bind fun t169 => (if t169 = true then (talikref04_Net.l0 k (wrap64 (x3 + 1)) x168000 x168001 x168002) else (some false))) else (none)) else (talikref04_Net.l1 k 0 x168000 x168001 x168002)
def talikref04_Net.l1 : Nat → Int → List (S39) → List (S37) → List (List Int) → Option (Bool)
 | 0, _, _, _, _ => none
 | k + 1, x4, x168000, x168001, x168002 => if x4 < (x168001.length : Int) then (if 0 ≤ x4 then ((talikref04_Span.f ((rd_T37 x168001 x4).f0) ((rd_T37 x168001 x4).f1) 0 1000).bind fun t171 => (if t171 = true then (talikref04_Net.l1 k (wrap64 (x4 + 1)) x168000 x168001 x168002) else (some false))) else (none)) else (talikref04_Net.l2 k 0 x168000 x168001 x168002)
def talikref04_Net.l2 : Nat → Int → List (S39) → List (S37) → List (List Int) → Option (Bool)
 | 0, _, _, _, _ => none
 | k + 1, x5, x168000, x168001, x168002 => if x5 < (x168002.length : Int) then (if 0 ≤ x5 then (if ((rd_L1 x168002 x5).length : Int) = (wrap64 ((x168000.length : Int) + 1)) then (talikref04_Net.l3 k x5 0 x168000 x168001 x168002) else (some false)) else (none)) else ((talikref04_in.f (x168000.length : Int) 1 5).bind fun t172 => (if t172 = true then ((talikref04_in.f (x168001.length : Int) 1 72).bind fun t173 => (if t173 = true then (some ((x168002.length : Int) == (wrap64 ((x168000.length : Int) + 1)))) else (some false))) else (some false)))
def talikref04_Net.l3 : Nat → Int → Int → List (S39) → List (S37) → List (List Int) → Option (Bool)
 | 0, _, _, _, _, _ => none
 | k + 1, x5, x6, x168000, x168001, x168002 => if 0 ≤ x5 then (if x5 < (x168002.length : Int) then (if x6 < ((rd_L1 x168002 x5).length : Int) then (if 0 ≤ x6 then ((talikref04_in.f (rd (rd_L1 x168002 x5) x6) 0 72).bind fun t178 => (if t178 = true then (if x5 = x6 then (if (rd (rd_L1 x168002 x5) x6) = 0 then (talikref04_Net.l3 k x5 (wrap64 (x6 + 1)) x168000 x168001 x168002) else (some false)) else (talikref04_Net.l3 k x5 (wrap64 (x6 + 1)) x168000 x168001 x168002)) else (some false))) else (none)) else (talikref04_Net.l2 k (wrap64 (x5 + 1)) x168000 x168001 x168002)) else (none)) else (none)
end
def talikref04_Net.f (k : Nat) (l0_0 : List (S39)) (l0_1 : List (S37)) (l0_2 : List (List Int)) : Option (Bool) := talikref04_Net.l0 k 0 l0_0 l0_1 l0_2
set_option maxHeartbeats 8000000 in
set_option maxRecDepth 100000 in
theorem talikref04_Net.calls (k : Nat) (A0_0 : Option Addr) (c0_0 : Nat) (l0_0 : List (S39)) (A0_1 : Option Addr) (c0_1 : Nat) (l0_1 : List (S37)) (A0_2 : Option Addr) (c0_2 : Nat) (l0_2 : List (List Int)) (r : Bool) (w : World) (hr0_0 : Kd.C k39 w A0_0 l0_0.length l0_0) (hc0_0 : l0_0.length ≤ c0_0) (hr0_1 : Kd.C k37 w A0_1 l0_1.length l0_1) (hc0_1 : l0_1.length ≤ c0_1) (hr0_2 : Kd.C (Kd.slice 3 (Kd.int .i64)) w A0_2 l0_2.length l0_2) (hc0_2 : l0_2.length ≤ c0_2) (h : talikref04_Net.f k l0_0 l0_1 l0_2 = some r) :
  Calls Try.prog 19 #[.agg #[.slice A0_0 l0_0.length c0_0, .slice A0_1 l0_1.length c0_1, .slice A0_2 l0_2.length c0_2]] w fun e w' => e = .returned (.bool r) ∧ Below w.heap.size w w' := by
 have hu26 := Try.underlying26
 have hu39 := Try.underlying39
 have hu37 := Try.underlying37
 have HR0_0 := qab.mk hr0_0
 have HC0_0 := qab.mk hc0_0
 clear hr0_0 hc0_0
 have HR0_1 := qab.mk hr0_1
 have HC0_1 := qab.mk hc0_1
 clear hr0_1 hc0_1
 have HR0_2 := qab.mk hr0_2
 have HC0_2 := qab.mk hc0_2
 clear hr0_2 hc0_2
 have HB := qab.mk (Below.refl w.heap.size w)
 have H : (talikref04_Net.l0 k 0 l0_0 l0_1 l0_2) = some r := h
 clear h
 have H' := qab.mk H
 clear H
 go_enter Try.func19, Try.ntmps19
 go_wp2_with (first | ((with_reducible refine qar (N := 1) rfl ?_); (try (refine gate_guard (by rfl) ?_; dsimp only)); refine qap ?hg (N := 1) ?hd (cs := #[.slice A0_0 l0_0.length c0_0, .slice A0_1 l0_1.length c0_1, .slice A0_2 l0_2.length c0_2]) (t := 26) ?hr ?_; (case hd => rfl); (case hg => rfl); (case hr => first | (go_simp; done) | (go_simp; rfl)); intro gb167 hg w2 hbox hb; have n0_ := qab.mk (qag (by repeat (first | (with_reducible first | exact HB.out | apply qae | apply qad | apply qaf) | exact HB.out)) hb); have n1_ := qab.mk (hbox); have n2_ := qab.mk ((by rw [hg]; exact (qan (by repeat (first | (with_reducible first | exact HB.out | apply qae | apply qad | apply qaf) | exact HB.out))) : w.heap.size ≤ gb167)); have n3_ := qab.mk ((by rw [hg]; exact (qan (by repeat (first | (with_reducible first | exact HB.out | apply qae | apply qad | apply qaf) | exact HB.out))) : w.heap.size ≤ gb167)); clear HB; have HB := n0_; have BK167 := n1_; have GW167 := n2_; have GE167 := n3_; clear n0_ n1_ n2_ n3_; clear hb hbox hg))
 repeat (go_quiet (first | ((with_reducible refine qar (N := 1) rfl ?_); (try (refine gate_guard (by rfl) ?_; dsimp only)); refine qap ?hg (N := 1) ?hd (cs := #[.slice A0_0 l0_0.length c0_0, .slice A0_1 l0_1.length c0_1, .slice A0_2 l0_2.length c0_2]) (t := 26) ?hr ?_; (case hd => rfl); (case hg => rfl); (case hr => first | (go_simp; done) | (go_simp; rfl)); intro gb167 hg w2 hbox hb; have n0_ := qab.mk (qag (by repeat (first | (with_reducible first | exact HB.out | apply qae | apply qad | apply qaf) | exact HB.out)) hb); have n1_ := qab.mk (hbox); have n2_ := qab.mk ((by rw [hg]; exact (qan (by repeat (first | (with_reducible first | exact HB.out | apply qae | apply qad | apply qaf) | exact HB.out))) : w.heap.size ≤ gb167)); have n3_ := qab.mk ((by rw [hg]; exact (qan (by repeat (first | (with_reducible first | exact HB.out | apply qae | apply qad | apply qaf) | exact HB.out))) : w.heap.size ≤ gb167)); clear HB; have HB := n0_; have BK167 := n1_; have GW167 := n2_; have GE167 := n3_; clear n0_ n1_ n2_ n3_; clear hb hbox hg)); try go_wp2_with (first | ((with_reducible refine qar (N := 1) rfl ?_); (try (refine gate_guard (by rfl) ?_; dsimp only)); refine qap ?hg (N := 1) ?hd (cs := #[.slice A0_0 l0_0.length c0_0, .slice A0_1 l0_1.length c0_1, .slice A0_2 l0_2.length c0_2]) (t := 26) ?hr ?_; (case hd => rfl); (case hg => rfl); (case hr => first | (go_simp; done) | (go_simp; rfl)); intro gb167 hg w2 hbox hb; have n0_ := qab.mk (qag (by repeat (first | (with_reducible first | exact HB.out | apply qae | apply qad | apply qaf) | exact HB.out)) hb); have n1_ := qab.mk (hbox); have n2_ := qab.mk ((by rw [hg]; exact (qan (by repeat (first | (with_reducible first | exact HB.out | apply qae | apply qad | apply qaf) | exact HB.out))) : w.heap.size ≤ gb167)); have n3_ := qab.mk ((by rw [hg]; exact (qan (by repeat (first | (with_reducible first | exact HB.out | apply qae | apply qad | apply qaf) | exact HB.out))) : w.heap.size ≤ gb167)); clear HB; have HB := n0_; have BK167 := n1_; have GW167 := n2_; have GE167 := n3_; clear n0_ n1_ n2_ n3_; clear hb hbox hg)))
 go_loopg [3] k (fun kq v3 w' => ∃ (x3_1 : Int), v3 = .int .i64 x3_1 ∧ qab (talikref04_Net.l0 kq x3_1 l0_0 l0_1 l0_2 = some r) ∧ qab (kq ≤ k) ∧ qab (w'.heap[gb167]? = some (.cells #[(.slice A0_0 l0_0.length c0_0), (.slice A0_1 l0_1.length c0_1), (.slice A0_2 l0_2.length c0_2)] 26 (0, 0))) ∧ qab (Below w.heap.size w w'))
 case atStart => exact ⟨(0), (by first | rfl | (simp; done) | (simp [*]; done)), H', ⟨Nat.le_refl _⟩, ⟨by (with_reducible repeat (first | refine qal ?_ _ | refine qao ?_ | refine qaj ?_ _)); exact BK167.out⟩, ⟨by repeat (first | (with_reducible first | exact HB.out | apply qae | apply qad | apply qaf | refine qai ?_ GE167.out) | exact HB.out)⟩⟩
 case round =>
  clear H'
  try clear c1
  try clear p2
  obtain ⟨x3_1, rfl, HA, HK1, BK167, HB⟩ := hrel
  cases gk with
  | zero => exact absurd HA.out (by simp [talikref04_Net.l0])
  | succ k1 =>
   have H := HA.out
   clear HA
   simp only [talikref04_Net.l0] at H
   by_cases c3 : x3_1 < (l0_0.length : Int)
   ·
    rw [if_pos c3] at H
    have c3b0 : decide (x3_1 < (l0_0.length : Int)) = true := decide_eq_true c3
    clear c3
    by_cases c4 : 0 ≤ x3_1
    ·
     rw [if_pos c4] at H
     have c4b0 : decide (0 ≤ x3_1) = true := decide_eq_true c4
     clear c4
     replace H := Option.bind_eq_some_iff.mp H
     obtain ⟨t169, A50, H⟩ := H
     replace H : (if t169 = true then (talikref04_Net.l0 k1 (wrap64 (x3_1 + 1)) l0_0 l0_1 l0_2) else (some false)) = some r := H
     have A5 := qab.mk A50
     clear A50
     by_cases c6 : t169 = true
     ·
      subst c6
      have H1 : (talikref04_Net.l0 k1 (wrap64 (x3_1 + 1)) l0_0 l0_1 l0_2) = some r := by rw [if_pos rfl] at H; exact H
      clear H
      have H := H1
      clear H1
      have H' := qab.mk H
      clear H
      have hcz7_0 : wr.cell? ⟨gb167, 0, none⟩ = some (.slice A0_0 l0_0.length c0_0) := (qaa BK167.out 0).trans rfl
      have hcz7_1 : wr.cell? ⟨gb167, 1, none⟩ = some (.slice A0_1 l0_1.length c0_1) := (qaa BK167.out 1).trans rfl
      have hcz7_2 : wr.cell? ⟨gb167, 2, none⟩ = some (.slice A0_2 l0_2.length c0_2) := (qaa BK167.out 2).trans rfl
      have hfz7_0 := qac BK167.out 0
      have hfz7_1 := qac BK167.out 1
      have hfz7_2 := qac BK167.out 2
      have p168 : 0 ≤ (x3_1 : Int) := of_decide_eq_true (by first | (with_reducible assumption) | assumption)
      have q168 : x3_1 < (l0_0.length : Int) := of_decide_eq_true (by first | (with_reducible assumption) | assumption)
      obtain ⟨ad168, e168, hx168_0, hx168_1, hx168_2, hx168_3, hx168_4, hx168_5, hx168_6, hx168_7, hx168_8, hx168_9, hx168_10, hx168_11⟩ := at_T39 HR0_0.out x3_1 p168 q168
      cases e168
      replace hx168_0 := (HB.out.cell (World.block_lt_of_cell? w _ hx168_0)).trans hx168_0
      replace hx168_1 := (HB.out.cell (World.block_lt_of_cell? w _ hx168_1)).trans hx168_1
      replace hx168_2 := (HB.out.cell (World.block_lt_of_cell? w _ hx168_2)).trans hx168_2
      replace hx168_3 := (HB.out.cell (World.block_lt_of_cell? w _ hx168_3)).trans hx168_3
      replace hx168_4 := (HB.out.cell (World.block_lt_of_cell? w _ hx168_4)).trans hx168_4
      replace hx168_5 := (HB.out.cell (World.block_lt_of_cell? w _ hx168_5)).trans hx168_5
      replace hx168_6 := (HB.out.cell (World.block_lt_of_cell? w _ hx168_6)).trans hx168_6
      replace hx168_7 := (HB.out.cell (World.block_lt_of_cell? w _ hx168_7)).trans hx168_7
      replace hx168_8 := (HB.out.cell (World.block_lt_of_cell? w _ hx168_8)).trans hx168_8
      replace hx168_9 := (HB.out.cell (World.block_lt_of_cell? w _ hx168_9)).trans hx168_9
      replace hx168_10 := (HB.out.cell (World.block_lt_of_cell? w _ hx168_10)).trans hx168_10
      replace hx168_11 := (HB.out.cell (World.block_lt_of_cell? w _ hx168_11)).trans hx168_11
      replace p168 := eq_true p168
      replace q168 := eq_true q168
      go_wp2_with (first | (go_at_call 58; (with_reducible refine (talikref04_Loop.calls ((qak l0_0 x3_1).f0.f0) ((qak l0_0 x3_1).f0.f1) ((qak l0_0 x3_1).f1.f0) ((qak l0_0 x3_1).f1.f1) ((qak l0_0 x3_1).f2.f0) ((qak l0_0 x3_1).f2.f1) ((qak l0_0 x3_1).f3) ((qak l0_0 x3_1).f4) ((qak l0_0 x3_1).f5) ((qak l0_0 x3_1).f6) ((qak l0_0 x3_1).f7.f0) ((qak l0_0 x3_1).f7.f1) true _ A5.out).mono ?_); rintro e w8 ⟨rfl, hb⟩; have n0_ := qab.mk (qah (g := gb167) (o := .cells #[.slice (some ad168) l0_0.length c0_0, .slice A0_1 l0_1.length c0_1, .slice A0_2 l0_2.length c0_2] 26 (0, 0)) (by (with_reducible repeat (first | refine qal ?_ _ | refine qao ?_ | refine qaj ?_ _)); exact BK167.out) hb); have n1_ := qab.mk (qag (by repeat (first | (with_reducible first | exact HB.out | apply qae | apply qad | apply qaf | refine qai ?_ GE167.out) | exact HB.out)) hb); clear BK167; clear HB; have BK167 := n0_; have HB := n1_; clear n0_ n1_; (try clear hb); (try clear hb2); (try clear hk); (try clear hi)))
      repeat (go_quiet (first | (go_at_call 58; (with_reducible refine (talikref04_Loop.calls ((qak l0_0 x3_1).f0.f0) ((qak l0_0 x3_1).f0.f1) ((qak l0_0 x3_1).f1.f0) ((qak l0_0 x3_1).f1.f1) ((qak l0_0 x3_1).f2.f0) ((qak l0_0 x3_1).f2.f1) ((qak l0_0 x3_1).f3) ((qak l0_0 x3_1).f4) ((qak l0_0 x3_1).f5) ((qak l0_0 x3_1).f6) ((qak l0_0 x3_1).f7.f0) ((qak l0_0 x3_1).f7.f1) true _ A5.out).mono ?_); rintro e w8 ⟨rfl, hb⟩; have n0_ := qab.mk (qah (g := gb167) (o := .cells #[.slice (some ad168) l0_0.length c0_0, .slice A0_1 l0_1.length c0_1, .slice A0_2 l0_2.length c0_2] 26 (0, 0)) (by (with_reducible repeat (first | refine qal ?_ _ | refine qao ?_ | refine qaj ?_ _)); exact BK167.out) hb); have n1_ := qab.mk (qag (by repeat (first | (with_reducible first | exact HB.out | apply qae | apply qad | apply qaf | refine qai ?_ GE167.out) | exact HB.out)) hb); clear BK167; clear HB; have BK167 := n0_; have HB := n1_; clear n0_ n1_; (try clear hb); (try clear hb2); (try clear hk); (try clear hi))); try go_wp2_with (first | (go_at_call 58; (with_reducible refine (talikref04_Loop.calls ((qak l0_0 x3_1).f0.f0) ((qak l0_0 x3_1).f0.f1) ((qak l0_0 x3_1).f1.f0) ((qak l0_0 x3_1).f1.f1) ((qak l0_0 x3_1).f2.f0) ((qak l0_0 x3_1).f2.f1) ((qak l0_0 x3_1).f3) ((qak l0_0 x3_1).f4) ((qak l0_0 x3_1).f5) ((qak l0_0 x3_1).f6) ((qak l0_0 x3_1).f7.f0) ((qak l0_0 x3_1).f7.f1) true _ A5.out).mono ?_); rintro e w8 ⟨rfl, hb⟩; have n0_ := qab.mk (qah (g := gb167) (o := .cells #[.slice (some ad168) l0_0.length c0_0, .slice A0_1 l0_1.length c0_1, .slice A0_2 l0_2.length c0_2] 26 (0, 0)) (by (with_reducible repeat (first | refine qal ?_ _ | refine qao ?_ | refine qaj ?_ _)); exact BK167.out) hb); have n1_ := qab.mk (qag (by repeat (first | (with_reducible first | exact HB.out | apply qae | apply qad | apply qaf | refine qai ?_ GE167.out) | exact HB.out)) hb); clear BK167; clear HB; have BK167 := n0_; have HB := n1_; clear n0_ n1_; (try clear hb); (try clear hb2); (try clear hk); (try clear hi))))
      go_roundg k1
      case measure => have := HK1.out; omega
      case rel => exact ⟨(wrap64 (x3_1 + 1)), (by first | rfl | (simp; done) | (simp [*]; done)), H', ⟨by have := HK1.out; omega⟩, ⟨by (with_reducible repeat (first | refine qal ?_ _ | refine qao ?_ | refine qaj ?_ _)); exact BK167.out⟩, ⟨by repeat (first | (with_reducible first | exact HB.out | apply qae | apply qad | apply qaf | refine qai ?_ GE167.out) | exact HB.out)⟩⟩
     ·
      replace c6 := Bool.eq_false_iff.mpr c6
      subst c6
      have H1 : (some false) = some r := by rw [if_neg (show ¬ (false = true) by decide)] at H; exact H
      clear H
      have H := H1
      clear H1
      obtain rfl := Option.some.inj H
      have hcz9_0 : wr.cell? ⟨gb167, 0, none⟩ = some (.slice A0_0 l0_0.length c0_0) := (qaa BK167.out 0).trans rfl
      have hcz9_1 : wr.cell? ⟨gb167, 1, none⟩ = some (.slice A0_1 l0_1.length c0_1) := (qaa BK167.out 1).trans rfl
      have hcz9_2 : wr.cell? ⟨gb167, 2, none⟩ = some (.slice A0_2 l0_2.length c0_2) := (qaa BK167.out 2).trans rfl
      have hfz9_0 := qac BK167.out 0
      have hfz9_1 := qac BK167.out 1
      have hfz9_2 := qac BK167.out 2
      have p168 : 0 ≤ (x3_1 : Int) := of_decide_eq_true (by first | (with_reducible assumption) | assumption)
      have q168 : x3_1 < (l0_0.length : Int) := of_decide_eq_true (by first | (with_reducible assumption) | assumption)
      obtain ⟨ad168, e168, hx168_0, hx168_1, hx168_2, hx168_3, hx168_4, hx168_5, hx168_6, hx168_7, hx168_8, hx168_9, hx168_10, hx168_11⟩ := at_T39 HR0_0.out x3_1 p168 q168
      cases e168
      replace hx168_0 := (HB.out.cell (World.block_lt_of_cell? w _ hx168_0)).trans hx168_0
      replace hx168_1 := (HB.out.cell (World.block_lt_of_cell? w _ hx168_1)).trans hx168_1
      replace hx168_2 := (HB.out.cell (World.block_lt_of_cell? w _ hx168_2)).trans hx168_2
      replace hx168_3 := (HB.out.cell (World.block_lt_of_cell? w _ hx168_3)).trans hx168_3
      replace hx168_4 := (HB.out.cell (World.block_lt_of_cell? w _ hx168_4)).trans hx168_4
      replace hx168_5 := (HB.out.cell (World.block_lt_of_cell? w _ hx168_5)).trans hx168_5
      replace hx168_6 := (HB.out.cell (World.block_lt_of_cell? w _ hx168_6)).trans hx168_6
      replace hx168_7 := (HB.out.cell (World.block_lt_of_cell? w _ hx168_7)).trans hx168_7
      replace hx168_8 := (HB.out.cell (World.block_lt_of_cell? w _ hx168_8)).trans hx168_8
      replace hx168_9 := (HB.out.cell (World.block_lt_of_cell? w _ hx168_9)).trans hx168_9
      replace hx168_10 := (HB.out.cell (World.block_lt_of_cell? w _ hx168_10)).trans hx168_10
      replace hx168_11 := (HB.out.cell (World.block_lt_of_cell? w _ hx168_11)).trans hx168_11
      replace p168 := eq_true p168
      replace q168 := eq_true q168
      go_wp2_with (first | (go_at_call 58; (with_reducible refine (talikref04_Loop.calls ((qak l0_0 x3_1).f0.f0) ((qak l0_0 x3_1).f0.f1) ((qak l0_0 x3_1).f1.f0) ((qak l0_0 x3_1).f1.f1) ((qak l0_0 x3_1).f2.f0) ((qak l0_0 x3_1).f2.f1) ((qak l0_0 x3_1).f3) ((qak l0_0 x3_1).f4) ((qak l0_0 x3_1).f5) ((qak l0_0 x3_1).f6) ((qak l0_0 x3_1).f7.f0) ((qak l0_0 x3_1).f7.f1) false _ A5.out).mono ?_); rintro e w10 ⟨rfl, hb⟩; have n0_ := qab.mk (qah (g := gb167) (o := .cells #[.slice (some ad168) l0_0.length c0_0, .slice A0_1 l0_1.length c0_1, .slice A0_2 l0_2.length c0_2] 26 (0, 0)) (by (with_reducible repeat (first | refine qal ?_ _ | refine qao ?_ | refine qaj ?_ _)); exact BK167.out) hb); have n1_ := qab.mk (qag (by repeat (first | (with_reducible first | exact HB.out | apply qae | apply qad | apply qaf | refine qai ?_ GE167.out) | exact HB.out)) hb); clear BK167; clear HB; have BK167 := n0_; have HB := n1_; clear n0_ n1_; (try clear hb); (try clear hb2); (try clear hk); (try clear hi)))
      repeat (go_quiet (first | (go_at_call 58; (with_reducible refine (talikref04_Loop.calls ((qak l0_0 x3_1).f0.f0) ((qak l0_0 x3_1).f0.f1) ((qak l0_0 x3_1).f1.f0) ((qak l0_0 x3_1).f1.f1) ((qak l0_0 x3_1).f2.f0) ((qak l0_0 x3_1).f2.f1) ((qak l0_0 x3_1).f3) ((qak l0_0 x3_1).f4) ((qak l0_0 x3_1).f5) ((qak l0_0 x3_1).f6) ((qak l0_0 x3_1).f7.f0) ((qak l0_0 x3_1).f7.f1) false _ A5.out).mono ?_); rintro e w10 ⟨rfl, hb⟩; have n0_ := qab.mk (qah (g := gb167) (o := .cells #[.slice (some ad168) l0_0.length c0_0, .slice A0_1 l0_1.length c0_1, .slice A0_2 l0_2.length c0_2] 26 (0, 0)) (by (with_reducible repeat (first | refine qal ?_ _ | refine qao ?_ | refine qaj ?_ _)); exact BK167.out) hb); have n1_ := qab.mk (qag (by repeat (first | (with_reducible first | exact HB.out | apply qae | apply qad | apply qaf | refine qai ?_ GE167.out) | exact HB.out)) hb); clear BK167; clear HB; have BK167 := n0_; have HB := n1_; clear n0_ n1_; (try clear hb); (try clear hb2); (try clear hk); (try clear hi))); try go_wp2_with (first | (go_at_call 58; (with_reducible refine (talikref04_Loop.calls ((qak l0_0 x3_1).f0.f0) ((qak l0_0 x3_1).f0.f1) ((qak l0_0 x3_1).f1.f0) ((qak l0_0 x3_1).f1.f1) ((qak l0_0 x3_1).f2.f0) ((qak l0_0 x3_1).f2.f1) ((qak l0_0 x3_1).f3) ((qak l0_0 x3_1).f4) ((qak l0_0 x3_1).f5) ((qak l0_0 x3_1).f6) ((qak l0_0 x3_1).f7.f0) ((qak l0_0 x3_1).f7.f1) false _ A5.out).mono ?_); rintro e w10 ⟨rfl, hb⟩; have n0_ := qab.mk (qah (g := gb167) (o := .cells #[.slice (some ad168) l0_0.length c0_0, .slice A0_1 l0_1.length c0_1, .slice A0_2 l0_2.length c0_2] 26 (0, 0)) (by (with_reducible repeat (first | refine qal ?_ _ | refine qao ?_ | refine qaj ?_ _)); exact BK167.out) hb); have n1_ := qab.mk (qag (by repeat (first | (with_reducible first | exact HB.out | apply qae | apply qad | apply qaf | refine qai ?_ GE167.out) | exact HB.out)) hb); clear BK167; clear HB; have BK167 := n0_; have HB := n1_; clear n0_ n1_; (try clear hb); (try clear hb2); (try clear hk); (try clear hi))))
      go_ret
      exact ⟨by first | rfl | (simp [qas, qat] <;> rfl) | (simp [*, qas, qat] <;> rfl), by repeat (first | (with_reducible first | exact HB.out | apply qae | apply qad | apply qaf | refine qai ?_ GE167.out) | exact HB.out)⟩
    ·
     rw [if_neg c4] at H
     exact absurd H (by simp)
   ·
    rw [if_neg c3] at H
    have c3b0 : decide (x3_1 < (l0_0.length : Int)) = false := decide_eq_false c3
    clear c3
    have H' := qab.mk H
    clear H
    have hcz11_0 : wr.cell? ⟨gb167, 0, none⟩ = some (.slice A0_0 l0_0.length c0_0) := (qaa BK167.out 0).trans rfl
    have hcz11_1 : wr.cell? ⟨gb167, 1, none⟩ = some (.slice A0_1 l0_1.length c0_1) := (qaa BK167.out 1).trans rfl
    have hcz11_2 : wr.cell? ⟨gb167, 2, none⟩ = some (.slice A0_2 l0_2.length c0_2) := (qaa BK167.out 2).trans rfl
    have hfz11_0 := qac BK167.out 0
    have hfz11_1 := qac BK167.out 1
    have hfz11_2 := qac BK167.out 2
    go_wp2
    repeat (go_quiet (fail); try go_wp2)
    go_loopg [4] k1 (fun kq v4 w' => ∃ (x4_2 : Int), v4 = .int .i64 x4_2 ∧ qab (talikref04_Net.l1 kq x4_2 l0_0 l0_1 l0_2 = some r) ∧ qab (kq ≤ k1) ∧ qab (w'.heap[gb167]? = some (.cells #[(.slice A0_0 l0_0.length c0_0), (.slice A0_1 l0_1.length c0_1), (.slice A0_2 l0_2.length c0_2)] 26 (0, 0))) ∧ qab (Below w.heap.size w w'))
    case atStart => exact ⟨(0), (by first | rfl | (simp; done) | (simp [*]; done)), H', ⟨Nat.le_refl _⟩, ⟨by (with_reducible repeat (first | refine qal ?_ _ | refine qao ?_ | refine qaj ?_ _)); exact BK167.out⟩, ⟨by repeat (first | (with_reducible first | exact HB.out | apply qae | apply qad | apply qaf | refine qai ?_ GE167.out) | exact HB.out)⟩⟩
    case round =>
     clear H'
     try clear c1
     try clear p1
     try clear q1
     try clear hx1
     try clear p2
     try clear c3
     try clear c3b0
     try clear c4
     try clear c4b0
     try clear c6
     try clear p6
     try clear hcz11_0
     try clear hcz11_1
     try clear hcz11_2
     try clear hcz7_0
     try clear hcz7_1
     try clear hcz7_2
     try clear hcz9_0
     try clear hcz9_1
     try clear hcz9_2
     try clear hfz11_0
     try clear hfz11_1
     try clear hfz11_2
     try clear hfz7_0
     try clear hfz7_1
     try clear hfz7_2
     try clear hfz9_0
     try clear hfz9_1
     try clear hfz9_2
     try clear hx168_0
     try clear hx168_1
     try clear hx168_10
     try clear hx168_11
     try clear hx168_2
     try clear hx168_3
     try clear hx168_4
     try clear hx168_5
     try clear hx168_6
     try clear hx168_7
     try clear hx168_8
     try clear hx168_9
     try clear p168
     try clear p2
     try clear q168
     obtain ⟨x4_2, rfl, HA, HK2, BK167, HB⟩ := hrel
     cases gk with
     | zero => exact absurd HA.out (by simp [talikref04_Net.l1])
     | succ k2 =>
      have H := HA.out
      clear HA
      simp only [talikref04_Net.l1] at H
      by_cases c12 : x4_2 < (l0_1.length : Int)
      ·
       rw [if_pos c12] at H
       have c12b0 : decide (x4_2 < (l0_1.length : Int)) = true := decide_eq_true c12
       clear c12
       by_cases c13 : 0 ≤ x4_2
       ·
        rw [if_pos c13] at H
        have c13b0 : decide (0 ≤ x4_2) = true := decide_eq_true c13
        clear c13
        replace H := Option.bind_eq_some_iff.mp H
        obtain ⟨t171, A140, H⟩ := H
        replace H : (if t171 = true then (talikref04_Net.l1 k2 (wrap64 (x4_2 + 1)) l0_0 l0_1 l0_2) else (some false)) = some r := H
        have A14 := qab.mk A140
        clear A140
        by_cases c15 : t171 = true
        ·
         subst c15
         have H1 : (talikref04_Net.l1 k2 (wrap64 (x4_2 + 1)) l0_0 l0_1 l0_2) = some r := by rw [if_pos rfl] at H; exact H
         clear H
         have H := H1
         clear H1
         have H' := qab.mk H
         clear H
         have hcz16_0 : wr.cell? ⟨gb167, 0, none⟩ = some (.slice A0_0 l0_0.length c0_0) := (qaa BK167.out 0).trans rfl
         have hcz16_1 : wr.cell? ⟨gb167, 1, none⟩ = some (.slice A0_1 l0_1.length c0_1) := (qaa BK167.out 1).trans rfl
         have hcz16_2 : wr.cell? ⟨gb167, 2, none⟩ = some (.slice A0_2 l0_2.length c0_2) := (qaa BK167.out 2).trans rfl
         have hfz16_0 := qac BK167.out 0
         have hfz16_1 := qac BK167.out 1
         have hfz16_2 := qac BK167.out 2
         have p170 : 0 ≤ (x4_2 : Int) := of_decide_eq_true (by first | (with_reducible assumption) | assumption)
         have q170 : x4_2 < (l0_1.length : Int) := of_decide_eq_true (by first | (with_reducible assumption) | assumption)
         obtain ⟨ad170, e170, hx170_0, hx170_1⟩ := at_T37 HR0_1.out x4_2 p170 q170
         cases e170
         replace hx170_0 := (HB.out.cell (World.block_lt_of_cell? w _ hx170_0)).trans hx170_0
         replace hx170_1 := (HB.out.cell (World.block_lt_of_cell? w _ hx170_1)).trans hx170_1
         replace p170 := eq_true p170
         replace q170 := eq_true q170
         go_wp2_with (first | (go_at_call 59; (with_reducible refine (talikref04_Span.calls ((rd_T37 l0_1 x4_2).f0) ((rd_T37 l0_1 x4_2).f1) 0 1000 true _ A14.out).mono ?_); rintro e w17 ⟨rfl, hb⟩; have n0_ := qab.mk (qah (g := gb167) (o := .cells #[.slice A0_0 l0_0.length c0_0, .slice (some ad170) l0_1.length c0_1, .slice A0_2 l0_2.length c0_2] 26 (0, 0)) (by (with_reducible repeat (first | refine qal ?_ _ | refine qao ?_ | refine qaj ?_ _)); exact BK167.out) hb); have n1_ := qab.mk (qag (by repeat (first | (with_reducible first | exact HB.out | apply qae | apply qad | apply qaf | refine qai ?_ GE167.out) | exact HB.out)) hb); clear BK167; clear HB; have BK167 := n0_; have HB := n1_; clear n0_ n1_; (try clear hb); (try clear hb2); (try clear hk); (try clear hi)))
         repeat (go_quiet (first | (go_at_call 59; (with_reducible refine (talikref04_Span.calls ((rd_T37 l0_1 x4_2).f0) ((rd_T37 l0_1 x4_2).f1) 0 1000 true _ A14.out).mono ?_); rintro e w17 ⟨rfl, hb⟩; have n0_ := qab.mk (qah (g := gb167) (o := .cells #[.slice A0_0 l0_0.length c0_0, .slice (some ad170) l0_1.length c0_1, .slice A0_2 l0_2.length c0_2] 26 (0, 0)) (by (with_reducible repeat (first | refine qal ?_ _ | refine qao ?_ | refine qaj ?_ _)); exact BK167.out) hb); have n1_ := qab.mk (qag (by repeat (first | (with_reducible first | exact HB.out | apply qae | apply qad | apply qaf | refine qai ?_ GE167.out) | exact HB.out)) hb); clear BK167; clear HB; have BK167 := n0_; have HB := n1_; clear n0_ n1_; (try clear hb); (try clear hb2); (try clear hk); (try clear hi))); try go_wp2_with (first | (go_at_call 59; (with_reducible refine (talikref04_Span.calls ((rd_T37 l0_1 x4_2).f0) ((rd_T37 l0_1 x4_2).f1) 0 1000 true _ A14.out).mono ?_); rintro e w17 ⟨rfl, hb⟩; have n0_ := qab.mk (qah (g := gb167) (o := .cells #[.slice A0_0 l0_0.length c0_0, .slice (some ad170) l0_1.length c0_1, .slice A0_2 l0_2.length c0_2] 26 (0, 0)) (by (with_reducible repeat (first | refine qal ?_ _ | refine qao ?_ | refine qaj ?_ _)); exact BK167.out) hb); have n1_ := qab.mk (qag (by repeat (first | (with_reducible first | exact HB.out | apply qae | apply qad | apply qaf | refine qai ?_ GE167.out) | exact HB.out)) hb); clear BK167; clear HB; have BK167 := n0_; have HB := n1_; clear n0_ n1_; (try clear hb); (try clear hb2); (try clear hk); (try clear hi))))
         go_roundg k2
         case measure => have := HK1.out; have := HK2.out; omega
         case rel => exact ⟨(wrap64 (x4_2 + 1)), (by first | rfl | (simp; done) | (simp [*]; done)), H', ⟨by have := HK1.out; have := HK2.out; omega⟩, ⟨by (with_reducible repeat (first | refine qal ?_ _ | refine qao ?_ | refine qaj ?_ _)); exact BK167.out⟩, ⟨by repeat (first | (with_reducible first | exact HB.out | apply qae | apply qad | apply qaf | refine qai ?_ GE167.out) | exact HB.out)⟩⟩
        ·
         replace c15 := Bool.eq_false_iff.mpr c15
         subst c15
         have H1 : (some false) = some r := by rw [if_neg (show ¬ (false = true) by decide)] at H; exact H
         clear H
         have H := H1
         clear H1
         obtain rfl := Option.some.inj H
         have hcz18_0 : wr.cell? ⟨gb167, 0, none⟩ = some (.slice A0_0 l0_0.length c0_0) := (qaa BK167.out 0).trans rfl
         have hcz18_1 : wr.cell? ⟨gb167, 1, none⟩ = some (.slice A0_1 l0_1.length c0_1) := (qaa BK167.out 1).trans rfl
         have hcz18_2 : wr.cell? ⟨gb167, 2, none⟩ = some (.slice A0_2 l0_2.length c0_2) := (qaa BK167.out 2).trans rfl
         have hfz18_0 := qac BK167.out 0
         have hfz18_1 := qac BK167.out 1
         have hfz18_2 := qac BK167.out 2
         have p170 : 0 ≤ (x4_2 : Int) := of_decide_eq_true (by first | (with_reducible assumption) | assumption)
         have q170 : x4_2 < (l0_1.length : Int) := of_decide_eq_true (by first | (with_reducible assumption) | assumption)
         obtain ⟨ad170, e170, hx170_0, hx170_1⟩ := at_T37 HR0_1.out x4_2 p170 q170
         cases e170
         replace hx170_0 := (HB.out.cell (World.block_lt_of_cell? w _ hx170_0)).trans hx170_0
         replace hx170_1 := (HB.out.cell (World.block_lt_of_cell? w _ hx170_1)).trans hx170_1
         replace p170 := eq_true p170
         replace q170 := eq_true q170
         go_wp2_with (first | (go_at_call 59; (with_reducible refine (talikref04_Span.calls ((rd_T37 l0_1 x4_2).f0) ((rd_T37 l0_1 x4_2).f1) 0 1000 false _ A14.out).mono ?_); rintro e w19 ⟨rfl, hb⟩; have n0_ := qab.mk (qah (g := gb167) (o := .cells #[.slice A0_0 l0_0.length c0_0, .slice (some ad170) l0_1.length c0_1, .slice A0_2 l0_2.length c0_2] 26 (0, 0)) (by (with_reducible repeat (first | refine qal ?_ _ | refine qao ?_ | refine qaj ?_ _)); exact BK167.out) hb); have n1_ := qab.mk (qag (by repeat (first | (with_reducible first | exact HB.out | apply qae | apply qad | apply qaf | refine qai ?_ GE167.out) | exact HB.out)) hb); clear BK167; clear HB; have BK167 := n0_; have HB := n1_; clear n0_ n1_; (try clear hb); (try clear hb2); (try clear hk); (try clear hi)))
         repeat (go_quiet (first | (go_at_call 59; (with_reducible refine (talikref04_Span.calls ((rd_T37 l0_1 x4_2).f0) ((rd_T37 l0_1 x4_2).f1) 0 1000 false _ A14.out).mono ?_); rintro e w19 ⟨rfl, hb⟩; have n0_ := qab.mk (qah (g := gb167) (o := .cells #[.slice A0_0 l0_0.length c0_0, .slice (some ad170) l0_1.length c0_1, .slice A0_2 l0_2.length c0_2] 26 (0, 0)) (by (with_reducible repeat (first | refine qal ?_ _ | refine qao ?_ | refine qaj ?_ _)); exact BK167.out) hb); have n1_ := qab.mk (qag (by repeat (first | (with_reducible first | exact HB.out | apply qae | apply qad | apply qaf | refine qai ?_ GE167.out) | exact HB.out)) hb); clear BK167; clear HB; have BK167 := n0_; have HB := n1_; clear n0_ n1_; (try clear hb); (try clear hb2); (try clear hk); (try clear hi))); try go_wp2_with (first | (go_at_call 59; (with_reducible refine (talikref04_Span.calls ((rd_T37 l0_1 x4_2).f0) ((rd_T37 l0_1 x4_2).f1) 0 1000 false _ A14.out).mono ?_); rintro e w19 ⟨rfl, hb⟩; have n0_ := qab.mk (qah (g := gb167) (o := .cells #[.slice A0_0 l0_0.length c0_0, .slice (some ad170) l0_1.length c0_1, .slice A0_2 l0_2.length c0_2] 26 (0, 0)) (by (with_reducible repeat (first | refine qal ?_ _ | refine qao ?_ | refine qaj ?_ _)); exact BK167.out) hb); have n1_ := qab.mk (qag (by repeat (first | (with_reducible first | exact HB.out | apply qae | apply qad | apply qaf | refine qai ?_ GE167.out) | exact HB.out)) hb); clear BK167; clear HB; have BK167 := n0_; have HB := n1_; clear n0_ n1_; (try clear hb); (try clear hb2); (try clear hk); (try clear hi))))
         go_ret
         exact ⟨by first | rfl | (simp [qas, qat] <;> rfl) | (simp [*, qas, qat] <;> rfl), by repeat (first | (with_reducible first | exact HB.out | apply qae | apply qad | apply qaf | refine qai ?_ GE167.out) | exact HB.out)⟩
       ·
        rw [if_neg c13] at H
        exact absurd H (by simp)
      ·
       rw [if_neg c12] at H
       have c12b0 : decide (x4_2 < (l0_1.length : Int)) = false := decide_eq_false c12
       clear c12
       have H' := qab.mk H
       clear H
       have hcz20_0 : wr.cell? ⟨gb167, 0, none⟩ = some (.slice A0_0 l0_0.length c0_0) := (qaa BK167.out 0).trans rfl
       have hcz20_1 : wr.cell? ⟨gb167, 1, none⟩ = some (.slice A0_1 l0_1.length c0_1) := (qaa BK167.out 1).trans rfl
       have hcz20_2 : wr.cell? ⟨gb167, 2, none⟩ = some (.slice A0_2 l0_2.length c0_2) := (qaa BK167.out 2).trans rfl
       have hfz20_0 := qac BK167.out 0
       have hfz20_1 := qac BK167.out 1
       have hfz20_2 := qac BK167.out 2
       go_wp2
       repeat (go_quiet (fail); try go_wp2)
       go_loopg [5] k2 (fun kq v5 w' => ∃ (x5_3 : Int), v5 = .int .i64 x5_3 ∧ qab (talikref04_Net.l2 kq x5_3 l0_0 l0_1 l0_2 = some r) ∧ qab (kq ≤ k2) ∧ qab (w'.heap[gb167]? = some (.cells #[(.slice A0_0 l0_0.length c0_0), (.slice A0_1 l0_1.length c0_1), (.slice A0_2 l0_2.length c0_2)] 26 (0, 0))) ∧ qab (Below w.heap.size w w'))
       case atStart => exact ⟨(0), (by first | rfl | (simp; done) | (simp [*]; done)), H', ⟨Nat.le_refl _⟩, ⟨by (with_reducible repeat (first | refine qal ?_ _ | refine qao ?_ | refine qaj ?_ _)); exact BK167.out⟩, ⟨by repeat (first | (with_reducible first | exact HB.out | apply qae | apply qad | apply qaf | refine qai ?_ GE167.out) | exact HB.out)⟩⟩
       case round =>
        clear H'
        try clear c1
        try clear p1
        try clear q1
        try clear hx1
        try clear p2
        try clear c3
        try clear c3b0
        try clear c4
        try clear c4b0
        try clear c6
        try clear p6
        try clear c12
        try clear c12b0
        try clear c13
        try clear c13b0
        try clear c15
        try clear p16
        try clear q16
        try clear hx16
        try clear p17
        try clear q17
        try clear hx17
        try clear c19
        try clear hcz11_0
        try clear hcz11_1
        try clear hcz11_2
        try clear hcz16_0
        try clear hcz16_1
        try clear hcz16_2
        try clear hcz18_0
        try clear hcz18_1
        try clear hcz18_2
        try clear hcz20_0
        try clear hcz20_1
        try clear hcz20_2
        try clear hcz7_0
        try clear hcz7_1
        try clear hcz7_2
        try clear hcz9_0
        try clear hcz9_1
        try clear hcz9_2
        try clear hfz11_0
        try clear hfz11_1
        try clear hfz11_2
        try clear hfz16_0
        try clear hfz16_1
        try clear hfz16_2
        try clear hfz18_0
        try clear hfz18_1
        try clear hfz18_2
        try clear hfz20_0
        try clear hfz20_1
        try clear hfz20_2
        try clear hfz7_0
        try clear hfz7_1
        try clear hfz7_2
        try clear hfz9_0
        try clear hfz9_1
        try clear hfz9_2
        try clear hx168_0
        try clear hx168_1
        try clear hx168_10
        try clear hx168_11
        try clear hx168_2
        try clear hx168_3
        try clear hx168_4
        try clear hx168_5
        try clear hx168_6
        try clear hx168_7
        try clear hx168_8
        try clear hx168_9
        try clear hx170_0
        try clear hx170_1
        try clear p1
        try clear p168
        try clear p170
        try clear p2
        try clear p6
        try clear q1
        try clear q168
        try clear q170
        obtain ⟨x5_3, rfl, HA, HK3, BK167, HB⟩ := hrel
        cases gk with
        | zero => exact absurd HA.out (by simp [talikref04_Net.l2])
        | succ k3 =>
         have H := HA.out
         clear HA
         simp only [talikref04_Net.l2] at H
         by_cases c21 : x5_3 < (l0_2.length : Int)
         ·
          rw [if_pos c21] at H
          have c21b0 : decide (x5_3 < (l0_2.length : Int)) = true := decide_eq_true c21
          clear c21
          by_cases c22 : 0 ≤ x5_3
          ·
           rw [if_pos c22] at H
           have c22b0 : decide (0 ≤ x5_3) = true := decide_eq_true c22
           clear c22
           by_cases c23 : ((rd_L1 l0_2 x5_3).length : Int) = (wrap64 ((l0_0.length : Int) + 1))
           ·
            rw [if_pos c23] at H
            have c23b0 : (((rd_L1 l0_2 x5_3).length : Int) == (wrap64 ((l0_0.length : Int) + 1))) = true := beq_iff_eq.mpr c23
            have c23b1 : (((rd_L1 l0_2 x5_3).length : Int) != (wrap64 ((l0_0.length : Int) + 1))) = false := bne_eq_false_iff_eq.mpr c23
            clear c23
            have H' := qab.mk H
            clear H
            have hcz24_0 : wr.cell? ⟨gb167, 0, none⟩ = some (.slice A0_0 l0_0.length c0_0) := (qaa BK167.out 0).trans rfl
            have hcz24_1 : wr.cell? ⟨gb167, 1, none⟩ = some (.slice A0_1 l0_1.length c0_1) := (qaa BK167.out 1).trans rfl
            have hcz24_2 : wr.cell? ⟨gb167, 2, none⟩ = some (.slice A0_2 l0_2.length c0_2) := (qaa BK167.out 2).trans rfl
            have hfz24_0 := qac BK167.out 0
            have hfz24_1 := qac BK167.out 1
            have hfz24_2 := qac BK167.out 2
            have p174 : 0 ≤ (x5_3 : Int) := of_decide_eq_true (by first | (with_reducible assumption) | assumption)
            have q174 : x5_3 < (l0_2.length : Int) := of_decide_eq_true (by first | (with_reducible assumption) | assumption)
            obtain ⟨ad174, A174_0, c174_0, e174, hx174_0, hl174_0, hi174_0⟩ := at_L1 HR0_2.out x5_3 p174 q174
            cases e174
            replace hx174_0 := (HB.out.cell (World.block_lt_of_cell? w _ hx174_0)).trans hx174_0
            have HR174_0 := qab.mk hi174_0
            have HC174_0 := qab.mk hl174_0
            clear hi174_0 hl174_0
            replace p174 := eq_true p174
            replace q174 := eq_true q174
            go_wp2
            repeat (go_quiet (fail); try go_wp2)
            go_loopg [6] k3 (fun kq v6 w' => ∃ (x6_4 : Int), v6 = .int .i64 x6_4 ∧ qab (talikref04_Net.l3 kq x5_3 x6_4 l0_0 l0_1 l0_2 = some r) ∧ qab (kq ≤ k3) ∧ qab (w'.heap[gb167]? = some (.cells #[(.slice A0_0 l0_0.length c0_0), (.slice A0_1 l0_1.length c0_1), (.slice (some ad174) l0_2.length c0_2)] 26 (0, 0))) ∧ qab (Below w.heap.size w w'))
            case atStart => exact ⟨(0), (by first | rfl | (simp; done) | (simp [*]; done)), H', ⟨Nat.le_refl _⟩, ⟨by (with_reducible repeat (first | refine qal ?_ _ | refine qao ?_ | refine qaj ?_ _)); exact BK167.out⟩, ⟨by repeat (first | (with_reducible first | exact HB.out | apply qae | apply qad | apply qaf | refine qai ?_ GE167.out) | exact HB.out)⟩⟩
            case round =>
             clear H'
             try clear c1
             try clear p1
             try clear q1
             try clear hx1
             try clear c2
             try clear p2
             try clear c3
             try clear c3b0
             try clear c4
             try clear c4b0
             try clear c6
             try clear p6
             try clear c12
             try clear c12b0
             try clear c13
             try clear c13b0
             try clear c15
             try clear p16
             try clear q16
             try clear hx16
             try clear c17
             try clear p17
             try clear q17
             try clear hx17
             try clear c19
             try clear c21
             try clear c21b0
             try clear c22
             try clear c22b0
             try clear c23
             try clear c23b0
             try clear c23b1
             try clear hcz11_0
             try clear hcz11_1
             try clear hcz11_2
             try clear hcz16_0
             try clear hcz16_1
             try clear hcz16_2
             try clear hcz18_0
             try clear hcz18_1
             try clear hcz18_2
             try clear hcz20_0
             try clear hcz20_1
             try clear hcz20_2
             try clear hcz24_0
             try clear hcz24_1
             try clear hcz24_2
             try clear hcz7_0
             try clear hcz7_1
             try clear hcz7_2
             try clear hcz9_0
             try clear hcz9_1
             try clear hcz9_2
             try clear hfz11_0
             try clear hfz11_1
             try clear hfz11_2
             try clear hfz16_0
             try clear hfz16_1
             try clear hfz16_2
             try clear hfz18_0
             try clear hfz18_1
             try clear hfz18_2
             try clear hfz20_0
             try clear hfz20_1
             try clear hfz20_2
             try clear hfz24_0
             try clear hfz24_1
             try clear hfz24_2
             try clear hfz7_0
             try clear hfz7_1
             try clear hfz7_2
             try clear hfz9_0
             try clear hfz9_1
             try clear hfz9_2
             try clear hx168_0
             try clear hx168_1
             try clear hx168_10
             try clear hx168_11
             try clear hx168_2
             try clear hx168_3
             try clear hx168_4
             try clear hx168_5
             try clear hx168_6
             try clear hx168_7
             try clear hx168_8
             try clear hx168_9
             try clear hx170_0
             try clear hx170_1
             try clear hx174_0
             try clear p1
             try clear p16
             try clear p168
             try clear p17
             try clear p170
             try clear p174
             try clear p2
             try clear p6
             try clear q1
             try clear q16
             try clear q168
             try clear q17
             try clear q170
             try clear q174
             obtain ⟨x6_4, rfl, HA, HK4, BK167, HB⟩ := hrel
             cases gk with
             | zero => exact absurd HA.out (by simp [talikref04_Net.l3])
             | succ k4 =>
              have H := HA.out
              clear HA
              simp only [talikref04_Net.l3] at H
              by_cases c25 : 0 ≤ x5_3
              ·
               rw [if_pos c25] at H
               have c25b0 : decide (0 ≤ x5_3) = true := decide_eq_true c25
               clear c25
               by_cases c26 : x5_3 < (l0_2.length : Int)
               ·
                rw [if_pos c26] at H
                have c26b0 : decide (x5_3 < (l0_2.length : Int)) = true := decide_eq_true c26
                clear c26
                by_cases c27 : x6_4 < ((rd_L1 l0_2 x5_3).length : Int)
                ·
                 rw [if_pos c27] at H
                 have c27b0 : decide (x6_4 < ((rd_L1 l0_2 x5_3).length : Int)) = true := decide_eq_true c27
                 clear c27
                 by_cases c28 : 0 ≤ x6_4
                 ·
                  rw [if_pos c28] at H
                  have c28b0 : decide (0 ≤ x6_4) = true := decide_eq_true c28
                  clear c28
                  replace H := Option.bind_eq_some_iff.mp H
                  obtain ⟨t178, A290, H⟩ := H
                  replace H : (if t178 = true then (if x5_3 = x6_4 then (if (rd (rd_L1 l0_2 x5_3) x6_4) = 0 then (talikref04_Net.l3 k4 x5_3 (wrap64 (x6_4 + 1)) l0_0 l0_1 l0_2) else (some false)) else (talikref04_Net.l3 k4 x5_3 (wrap64 (x6_4 + 1)) l0_0 l0_1 l0_2)) else (some false)) = some r := H
                  have A29 := qab.mk A290
                  clear A290
                  by_cases c30 : t178 = true
                  ·
                   subst c30
                   have H1 : (if x5_3 = x6_4 then (if (rd (rd_L1 l0_2 x5_3) x6_4) = 0 then (talikref04_Net.l3 k4 x5_3 (wrap64 (x6_4 + 1)) l0_0 l0_1 l0_2) else (some false)) else (talikref04_Net.l3 k4 x5_3 (wrap64 (x6_4 + 1)) l0_0 l0_1 l0_2)) = some r := by rw [if_pos rfl] at H; exact H
                   clear H
                   have H := H1
                   clear H1
                   by_cases c31 : x5_3 = x6_4
                   ·
                    rw [if_pos c31] at H
                    have c31b0 : (x5_3 == x6_4) = true := beq_iff_eq.mpr c31
                    have c31b1 : (x5_3 != x6_4) = false := bne_eq_false_iff_eq.mpr c31
                    clear c31
                    by_cases c32 : (rd (rd_L1 l0_2 x5_3) x6_4) = 0
                    ·
                     rw [if_pos c32] at H
                     have c32b0 : ((rd (rd_L1 l0_2 x5_3) x6_4) == 0) = true := beq_iff_eq.mpr c32
                     have c32b1 : ((rd (rd_L1 l0_2 x5_3) x6_4) != 0) = false := bne_eq_false_iff_eq.mpr c32
                     clear c32
                     have H' := qab.mk H
                     clear H
                     have hcz33_0 : wr.cell? ⟨gb167, 0, none⟩ = some (.slice A0_0 l0_0.length c0_0) := (qaa BK167.out 0).trans rfl
                     have hcz33_1 : wr.cell? ⟨gb167, 1, none⟩ = some (.slice A0_1 l0_1.length c0_1) := (qaa BK167.out 1).trans rfl
                     have hcz33_2 : wr.cell? ⟨gb167, 2, none⟩ = some (.slice (some ad174) l0_2.length c0_2) := (qaa BK167.out 2).trans rfl
                     have hfz33_0 := qac BK167.out 0
                     have hfz33_1 := qac BK167.out 1
                     have hfz33_2 := qac BK167.out 2
                     have p175 : 0 ≤ (x5_3 : Int) := of_decide_eq_true (by first | (with_reducible assumption) | assumption)
                     have q175 : x5_3 < (l0_2.length : Int) := of_decide_eq_true (by first | (with_reducible assumption) | assumption)
                     obtain ⟨ad175, A175_0, c175_0, e175, hx175_0, hl175_0, hi175_0⟩ := at_L1 HR0_2.out x5_3 p175 q175
                     obtain rfl : ad174 = ad175 := (by injection e175)
                     replace hx175_0 := (HB.out.cell (World.block_lt_of_cell? w _ hx175_0)).trans hx175_0
                     have HR175_0 := qab.mk hi175_0
                     have HC175_0 := qab.mk hl175_0
                     clear hi175_0 hl175_0
                     replace p175 := eq_true p175
                     replace q175 := eq_true q175
                     have p176 : 0 ≤ (x5_3 : Int) := of_decide_eq_true (by first | (with_reducible assumption) | assumption)
                     have q176 : x5_3 < (l0_2.length : Int) := of_decide_eq_true (by first | (with_reducible assumption) | assumption)
                     obtain ⟨ad176, A176_0, c176_0, e176, hx176_0, hl176_0, hi176_0⟩ := at_L1 HR0_2.out x5_3 p176 q176
                     obtain rfl : ad174 = ad176 := (by injection e176)
                     replace hx176_0 := (HB.out.cell (World.block_lt_of_cell? w _ hx176_0)).trans hx176_0
                     have HR176_0 := qab.mk hi176_0
                     have HC176_0 := qab.mk hl176_0
                     clear hi176_0 hl176_0
                     replace p176 := eq_true p176
                     replace q176 := eq_true q176
                     have ea_ := Option.some.inj (hx175_0.symm.trans hx176_0)
                     injection ea_ with ea_ en_ ec_
                     subst ea_
                     subst ec_
                     clear en_
                     have p177 : 0 ≤ (x6_4 : Int) := of_decide_eq_true (by first | (with_reducible assumption) | assumption)
                     have q177 : x6_4 < ((rd_L1 l0_2 x5_3).length : Int) := of_decide_eq_true (by first | (with_reducible assumption) | assumption)
                     obtain ⟨ad177, e177, hx177_0⟩ := Kd.at_int HR176_0.out x6_4 p177 q177
                     cases e177
                     replace hx177_0 := (HB.out.cell (World.block_lt_of_cell? w _ hx177_0)).trans hx177_0
                     replace p177 := eq_true p177
                     replace q177 := eq_true q177
                     go_wp2_with (first | (go_at_call 60; (with_reducible refine (talikref04_in.calls (rd (rd_L1 l0_2 x5_3) x6_4) 0 72 true _ A29.out).mono ?_); rintro e w' ⟨rfl, ⟨nd, rfl⟩⟩; (try first | exact ⟨rfl, _, World.drewN_drewN _ _ _⟩ | exact ⟨rfl, _, Eq.trans (World.drewN_drewN _ _ _) (congrArg (World.drewN _) (Nat.add_assoc _ _ _))⟩); have p179 : 0 ≤ (x5_3 : Int) := of_decide_eq_true (by first | (with_reducible assumption) | assumption); have q179 : x5_3 < (l0_2.length : Int) := of_decide_eq_true (by first | (with_reducible assumption) | assumption); obtain ⟨ad179, A179_0, c179_0, e179, hx179_0, hl179_0, hi179_0⟩ := at_L1 HR0_2.out x5_3 p179 q179; obtain rfl : ad174 = ad179 := (by injection e179); replace hx179_0 := (HB.out.cell (World.block_lt_of_cell? w _ hx179_0)).trans hx179_0; have HR179_0 := qab.mk hi179_0; have HC179_0 := qab.mk hl179_0; clear hi179_0 hl179_0; replace p179 := eq_true p179; replace q179 := eq_true q179; have ea_ := Option.some.inj (hx175_0.symm.trans hx179_0); injection ea_ with ea_ en_ ec_; subst ea_; subst ec_; clear en_; have p180 : 0 ≤ (x6_4 : Int) := of_decide_eq_true (by first | (with_reducible assumption) | assumption); have q180 : x6_4 < ((rd_L1 l0_2 x5_3).length : Int) := of_decide_eq_true (by first | (with_reducible assumption) | assumption); obtain ⟨ad180, e180, hx180_0⟩ := Kd.at_int HR179_0.out x6_4 p180 q180; cases e180; replace hx180_0 := (HB.out.cell (World.block_lt_of_cell? w _ hx180_0)).trans hx180_0; replace p180 := eq_true p180; replace q180 := eq_true q180))
                     repeat (go_quiet (first | (go_at_call 60; (with_reducible refine (talikref04_in.calls (rd (rd_L1 l0_2 x5_3) x6_4) 0 72 true _ A29.out).mono ?_); rintro e w' ⟨rfl, ⟨nd, rfl⟩⟩; (try first | exact ⟨rfl, _, World.drewN_drewN _ _ _⟩ | exact ⟨rfl, _, Eq.trans (World.drewN_drewN _ _ _) (congrArg (World.drewN _) (Nat.add_assoc _ _ _))⟩); have p179 : 0 ≤ (x5_3 : Int) := of_decide_eq_true (by first | (with_reducible assumption) | assumption); have q179 : x5_3 < (l0_2.length : Int) := of_decide_eq_true (by first | (with_reducible assumption) | assumption); obtain ⟨ad179, A179_0, c179_0, e179, hx179_0, hl179_0, hi179_0⟩ := at_L1 HR0_2.out x5_3 p179 q179; obtain rfl : ad174 = ad179 := (by injection e179); replace hx179_0 := (HB.out.cell (World.block_lt_of_cell? w _ hx179_0)).trans hx179_0; have HR179_0 := qab.mk hi179_0; have HC179_0 := qab.mk hl179_0; clear hi179_0 hl179_0; replace p179 := eq_true p179; replace q179 := eq_true q179; have ea_ := Option.some.inj (hx175_0.symm.trans hx179_0); injection ea_ with ea_ en_ ec_; subst ea_; subst ec_; clear en_; have p180 : 0 ≤ (x6_4 : Int) := of_decide_eq_true (by first | (with_reducible assumption) | assumption); have q180 : x6_4 < ((rd_L1 l0_2 x5_3).length : Int) := of_decide_eq_true (by first | (with_reducible assumption) | assumption); obtain ⟨ad180, e180, hx180_0⟩ := Kd.at_int HR179_0.out x6_4 p180 q180; cases e180; replace hx180_0 := (HB.out.cell (World.block_lt_of_cell? w _ hx180_0)).trans hx180_0; replace p180 := eq_true p180; replace q180 := eq_true q180)); try go_wp2_with (first | (go_at_call 60; (with_reducible refine (talikref04_in.calls (rd (rd_L1 l0_2 x5_3) x6_4) 0 72 true _ A29.out).mono ?_); rintro e w' ⟨rfl, ⟨nd, rfl⟩⟩; (try first | exact ⟨rfl, _, World.drewN_drewN _ _ _⟩ | exact ⟨rfl, _, Eq.trans (World.drewN_drewN _ _ _) (congrArg (World.drewN _) (Nat.add_assoc _ _ _))⟩); have p179 : 0 ≤ (x5_3 : Int) := of_decide_eq_true (by first | (with_reducible assumption) | assumption); have q179 : x5_3 < (l0_2.length : Int) := of_decide_eq_true (by first | (with_reducible assumption) | assumption); obtain ⟨ad179, A179_0, c179_0, e179, hx179_0, hl179_0, hi179_0⟩ := at_L1 HR0_2.out x5_3 p179 q179; obtain rfl : ad174 = ad179 := (by injection e179); replace hx179_0 := (HB.out.cell (World.block_lt_of_cell? w _ hx179_0)).trans hx179_0; have HR179_0 := qab.mk hi179_0; have HC179_0 := qab.mk hl179_0; clear hi179_0 hl179_0; replace p179 := eq_true p179; replace q179 := eq_true q179; have ea_ := Option.some.inj (hx175_0.symm.trans hx179_0); injection ea_ with ea_ en_ ec_; subst ea_; subst ec_; clear en_; have p180 : 0 ≤ (x6_4 : Int) := of_decide_eq_true (by first | (with_reducible assumption) | assumption); have q180 : x6_4 < ((rd_L1 l0_2 x5_3).length : Int) := of_decide_eq_true (by first | (with_reducible assumption) | assumption); obtain ⟨ad180, e180, hx180_0⟩ := Kd.at_int HR179_0.out x6_4 p180 q180; cases e180; replace hx180_0 := (HB.out.cell (World.block_lt_of_cell? w _ hx180_0)).trans hx180_0; replace p180 := eq_true p180; replace q180 := eq_true q180)))
                     go_roundg k4
                     case measure => have := HK1.out; have := HK2.out; have := HK3.out; have := HK4.out; omega
                     case rel => exact ⟨(wrap64 (x6_4 + 1)), (by first | rfl | (simp; done) | (simp [*]; done)), H', ⟨by have := HK1.out; have := HK2.out; have := HK3.out; have := HK4.out; omega⟩, ⟨by (with_reducible repeat (first | refine qal ?_ _ | refine qao ?_ | refine qaj ?_ _)); exact BK167.out⟩, ⟨by repeat (first | (with_reducible first | exact HB.out | apply qae | apply qad | apply qaf | refine qai ?_ GE167.out) | exact HB.out)⟩⟩
                    ·
                     rw [if_neg c32] at H
                     have c32b0 : ((rd (rd_L1 l0_2 x5_3) x6_4) == 0) = false := beq_eq_false_iff_ne.mpr c32
                     have c32b1 : ((rd (rd_L1 l0_2 x5_3) x6_4) != 0) = true := bne_iff_ne.mpr c32
                     obtain rfl := Option.some.inj H
                     have hcz34_0 : wr.cell? ⟨gb167, 0, none⟩ = some (.slice A0_0 l0_0.length c0_0) := (qaa BK167.out 0).trans rfl
                     have hcz34_1 : wr.cell? ⟨gb167, 1, none⟩ = some (.slice A0_1 l0_1.length c0_1) := (qaa BK167.out 1).trans rfl
                     have hcz34_2 : wr.cell? ⟨gb167, 2, none⟩ = some (.slice (some ad174) l0_2.length c0_2) := (qaa BK167.out 2).trans rfl
                     have hfz34_0 := qac BK167.out 0
                     have hfz34_1 := qac BK167.out 1
                     have hfz34_2 := qac BK167.out 2
                     have p175 : 0 ≤ (x5_3 : Int) := of_decide_eq_true (by first | (with_reducible assumption) | assumption)
                     have q175 : x5_3 < (l0_2.length : Int) := of_decide_eq_true (by first | (with_reducible assumption) | assumption)
                     obtain ⟨ad175, A175_0, c175_0, e175, hx175_0, hl175_0, hi175_0⟩ := at_L1 HR0_2.out x5_3 p175 q175
                     obtain rfl : ad174 = ad175 := (by injection e175)
                     replace hx175_0 := (HB.out.cell (World.block_lt_of_cell? w _ hx175_0)).trans hx175_0
                     have HR175_0 := qab.mk hi175_0
                     have HC175_0 := qab.mk hl175_0
                     clear hi175_0 hl175_0
                     replace p175 := eq_true p175
                     replace q175 := eq_true q175
                     have p176 : 0 ≤ (x5_3 : Int) := of_decide_eq_true (by first | (with_reducible assumption) | assumption)
                     have q176 : x5_3 < (l0_2.length : Int) := of_decide_eq_true (by first | (with_reducible assumption) | assumption)
                     obtain ⟨ad176, A176_0, c176_0, e176, hx176_0, hl176_0, hi176_0⟩ := at_L1 HR0_2.out x5_3 p176 q176
                     obtain rfl : ad174 = ad176 := (by injection e176)
                     replace hx176_0 := (HB.out.cell (World.block_lt_of_cell? w _ hx176_0)).trans hx176_0
                     have HR176_0 := qab.mk hi176_0
                     have HC176_0 := qab.mk hl176_0
                     clear hi176_0 hl176_0
                     replace p176 := eq_true p176
                     replace q176 := eq_true q176
                     have ea_ := Option.some.inj (hx175_0.symm.trans hx176_0)
                     injection ea_ with ea_ en_ ec_
                     subst ea_
                     subst ec_
                     clear en_
                     have p177 : 0 ≤ (x6_4 : Int) := of_decide_eq_true (by first | (with_reducible assumption) | assumption)
                     have q177 : x6_4 < ((rd_L1 l0_2 x5_3).length : Int) := of_decide_eq_true (by first | (with_reducible assumption) | assumption)
                     obtain ⟨ad177, e177, hx177_0⟩ := Kd.at_int HR176_0.out x6_4 p177 q177
                     cases e177
                     replace hx177_0 := (HB.out.cell (World.block_lt_of_cell? w _ hx177_0)).trans hx177_0
                     replace p177 := eq_true p177
                     replace q177 := eq_true q177
                     go_wp2_with (first | (go_at_call 60; (with_reducible refine (talikref04_in.calls (rd (rd_L1 l0_2 x5_3) x6_4) 0 72 true _ A29.out).mono ?_); rintro e w' ⟨rfl, ⟨nd, rfl⟩⟩; (try first | exact ⟨rfl, _, World.drewN_drewN _ _ _⟩ | exact ⟨rfl, _, Eq.trans (World.drewN_drewN _ _ _) (congrArg (World.drewN _) (Nat.add_assoc _ _ _))⟩); have p179 : 0 ≤ (x5_3 : Int) := of_decide_eq_true (by first | (with_reducible assumption) | assumption); have q179 : x5_3 < (l0_2.length : Int) := of_decide_eq_true (by first | (with_reducible assumption) | assumption); obtain ⟨ad179, A179_0, c179_0, e179, hx179_0, hl179_0, hi179_0⟩ := at_L1 HR0_2.out x5_3 p179 q179; obtain rfl : ad174 = ad179 := (by injection e179); replace hx179_0 := (HB.out.cell (World.block_lt_of_cell? w _ hx179_0)).trans hx179_0; have HR179_0 := qab.mk hi179_0; have HC179_0 := qab.mk hl179_0; clear hi179_0 hl179_0; replace p179 := eq_true p179; replace q179 := eq_true q179; have ea_ := Option.some.inj (hx175_0.symm.trans hx179_0); injection ea_ with ea_ en_ ec_; subst ea_; subst ec_; clear en_; have p180 : 0 ≤ (x6_4 : Int) := of_decide_eq_true (by first | (with_reducible assumption) | assumption); have q180 : x6_4 < ((rd_L1 l0_2 x5_3).length : Int) := of_decide_eq_true (by first | (with_reducible assumption) | assumption); obtain ⟨ad180, e180, hx180_0⟩ := Kd.at_int HR179_0.out x6_4 p180 q180; cases e180; replace hx180_0 := (HB.out.cell (World.block_lt_of_cell? w _ hx180_0)).trans hx180_0; replace p180 := eq_true p180; replace q180 := eq_true q180))
                     repeat (go_quiet (first | (go_at_call 60; (with_reducible refine (talikref04_in.calls (rd (rd_L1 l0_2 x5_3) x6_4) 0 72 true _ A29.out).mono ?_); rintro e w' ⟨rfl, ⟨nd, rfl⟩⟩; (try first | exact ⟨rfl, _, World.drewN_drewN _ _ _⟩ | exact ⟨rfl, _, Eq.trans (World.drewN_drewN _ _ _) (congrArg (World.drewN _) (Nat.add_assoc _ _ _))⟩); have p179 : 0 ≤ (x5_3 : Int) := of_decide_eq_true (by first | (with_reducible assumption) | assumption); have q179 : x5_3 < (l0_2.length : Int) := of_decide_eq_true (by first | (with_reducible assumption) | assumption); obtain ⟨ad179, A179_0, c179_0, e179, hx179_0, hl179_0, hi179_0⟩ := at_L1 HR0_2.out x5_3 p179 q179; obtain rfl : ad174 = ad179 := (by injection e179); replace hx179_0 := (HB.out.cell (World.block_lt_of_cell? w _ hx179_0)).trans hx179_0; have HR179_0 := qab.mk hi179_0; have HC179_0 := qab.mk hl179_0; clear hi179_0 hl179_0; replace p179 := eq_true p179; replace q179 := eq_true q179; have ea_ := Option.some.inj (hx175_0.symm.trans hx179_0); injection ea_ with ea_ en_ ec_; subst ea_; subst ec_; clear en_; have p180 : 0 ≤ (x6_4 : Int) := of_decide_eq_true (by first | (with_reducible assumption) | assumption); have q180 : x6_4 < ((rd_L1 l0_2 x5_3).length : Int) := of_decide_eq_true (by first | (with_reducible assumption) | assumption); obtain ⟨ad180, e180, hx180_0⟩ := Kd.at_int HR179_0.out x6_4 p180 q180; cases e180; replace hx180_0 := (HB.out.cell (World.block_lt_of_cell? w _ hx180_0)).trans hx180_0; replace p180 := eq_true p180; replace q180 := eq_true q180)); try go_wp2_with (first | (go_at_call 60; (with_reducible refine (talikref04_in.calls (rd (rd_L1 l0_2 x5_3) x6_4) 0 72 true _ A29.out).mono ?_); rintro e w' ⟨rfl, ⟨nd, rfl⟩⟩; (try first | exact ⟨rfl, _, World.drewN_drewN _ _ _⟩ | exact ⟨rfl, _, Eq.trans (World.drewN_drewN _ _ _) (congrArg (World.drewN _) (Nat.add_assoc _ _ _))⟩); have p179 : 0 ≤ (x5_3 : Int) := of_decide_eq_true (by first | (with_reducible assumption) | assumption); have q179 : x5_3 < (l0_2.length : Int) := of_decide_eq_true (by first | (with_reducible assumption) | assumption); obtain ⟨ad179, A179_0, c179_0, e179, hx179_0, hl179_0, hi179_0⟩ := at_L1 HR0_2.out x5_3 p179 q179; obtain rfl : ad174 = ad179 := (by injection e179); replace hx179_0 := (HB.out.cell (World.block_lt_of_cell? w _ hx179_0)).trans hx179_0; have HR179_0 := qab.mk hi179_0; have HC179_0 := qab.mk hl179_0; clear hi179_0 hl179_0; replace p179 := eq_true p179; replace q179 := eq_true q179; have ea_ := Option.some.inj (hx175_0.symm.trans hx179_0); injection ea_ with ea_ en_ ec_; subst ea_; subst ec_; clear en_; have p180 : 0 ≤ (x6_4 : Int) := of_decide_eq_true (by first | (with_reducible assumption) | assumption); have q180 : x6_4 < ((rd_L1 l0_2 x5_3).length : Int) := of_decide_eq_true (by first | (with_reducible assumption) | assumption); obtain ⟨ad180, e180, hx180_0⟩ := Kd.at_int HR179_0.out x6_4 p180 q180; cases e180; replace hx180_0 := (HB.out.cell (World.block_lt_of_cell? w _ hx180_0)).trans hx180_0; replace p180 := eq_true p180; replace q180 := eq_true q180)))
                     go_ret
                     exact ⟨by first | rfl | (simp [qas, qat] <;> rfl) | (simp [*, qas, qat] <;> rfl), by repeat (first | (with_reducible first | exact HB.out | apply qae | apply qad | apply qaf | refine qai ?_ GE167.out) | exact HB.out)⟩
                   ·
                    rw [if_neg c31] at H
                    have c31b0 : (x5_3 == x6_4) = false := beq_eq_false_iff_ne.mpr c31
                    have c31b1 : (x5_3 != x6_4) = true := bne_iff_ne.mpr c31
                    have H' := qab.mk H
                    clear H
                    have hcz35_0 : wr.cell? ⟨gb167, 0, none⟩ = some (.slice A0_0 l0_0.length c0_0) := (qaa BK167.out 0).trans rfl
                    have hcz35_1 : wr.cell? ⟨gb167, 1, none⟩ = some (.slice A0_1 l0_1.length c0_1) := (qaa BK167.out 1).trans rfl
                    have hcz35_2 : wr.cell? ⟨gb167, 2, none⟩ = some (.slice (some ad174) l0_2.length c0_2) := (qaa BK167.out 2).trans rfl
                    have hfz35_0 := qac BK167.out 0
                    have hfz35_1 := qac BK167.out 1
                    have hfz35_2 := qac BK167.out 2
                    have p175 : 0 ≤ (x5_3 : Int) := of_decide_eq_true (by first | (with_reducible assumption) | assumption)
                    have q175 : x5_3 < (l0_2.length : Int) := of_decide_eq_true (by first | (with_reducible assumption) | assumption)
                    obtain ⟨ad175, A175_0, c175_0, e175, hx175_0, hl175_0, hi175_0⟩ := at_L1 HR0_2.out x5_3 p175 q175
                    obtain rfl : ad174 = ad175 := (by injection e175)
                    replace hx175_0 := (HB.out.cell (World.block_lt_of_cell? w _ hx175_0)).trans hx175_0
                    have HR175_0 := qab.mk hi175_0
                    have HC175_0 := qab.mk hl175_0
                    clear hi175_0 hl175_0
                    replace p175 := eq_true p175
                    replace q175 := eq_true q175
                    have p176 : 0 ≤ (x5_3 : Int) := of_decide_eq_true (by first | (with_reducible assumption) | assumption)
                    have q176 : x5_3 < (l0_2.length : Int) := of_decide_eq_true (by first | (with_reducible assumption) | assumption)
                    obtain ⟨ad176, A176_0, c176_0, e176, hx176_0, hl176_0, hi176_0⟩ := at_L1 HR0_2.out x5_3 p176 q176
                    obtain rfl : ad174 = ad176 := (by injection e176)
                    replace hx176_0 := (HB.out.cell (World.block_lt_of_cell? w _ hx176_0)).trans hx176_0
                    have HR176_0 := qab.mk hi176_0
                    have HC176_0 := qab.mk hl176_0
                    clear hi176_0 hl176_0
                    replace p176 := eq_true p176
                    replace q176 := eq_true q176
                    have ea_ := Option.some.inj (hx175_0.symm.trans hx176_0)
                    injection ea_ with ea_ en_ ec_
                    subst ea_
                    subst ec_
                    clear en_
                    have p177 : 0 ≤ (x6_4 : Int) := of_decide_eq_true (by first | (with_reducible assumption) | assumption)
                    have q177 : x6_4 < ((rd_L1 l0_2 x5_3).length : Int) := of_decide_eq_true (by first | (with_reducible assumption) | assumption)
                    obtain ⟨ad177, e177, hx177_0⟩ := Kd.at_int HR176_0.out x6_4 p177 q177
                    cases e177
                    replace hx177_0 := (HB.out.cell (World.block_lt_of_cell? w _ hx177_0)).trans hx177_0
                    replace p177 := eq_true p177
                    replace q177 := eq_true q177
                    go_wp2_with (first | (go_at_call 60; (with_reducible refine (talikref04_in.calls (rd (rd_L1 l0_2 x5_3) x6_4) 0 72 true _ A29.out).mono ?_); rintro e w' ⟨rfl, ⟨nd, rfl⟩⟩; (try first | exact ⟨rfl, _, World.drewN_drewN _ _ _⟩ | exact ⟨rfl, _, Eq.trans (World.drewN_drewN _ _ _) (congrArg (World.drewN _) (Nat.add_assoc _ _ _))⟩)))
                    repeat (go_quiet (first | (go_at_call 60; (with_reducible refine (talikref04_in.calls (rd (rd_L1 l0_2 x5_3) x6_4) 0 72 true _ A29.out).mono ?_); rintro e w' ⟨rfl, ⟨nd, rfl⟩⟩; (try first | exact ⟨rfl, _, World.drewN_drewN _ _ _⟩ | exact ⟨rfl, _, Eq.trans (World.drewN_drewN _ _ _) (congrArg (World.drewN _) (Nat.add_assoc _ _ _))⟩))); try go_wp2_with (first | (go_at_call 60; (with_reducible refine (talikref04_in.calls (rd (rd_L1 l0_2 x5_3) x6_4) 0 72 true _ A29.out).mono ?_); rintro e w' ⟨rfl, ⟨nd, rfl⟩⟩; (try first | exact ⟨rfl, _, World.drewN_drewN _ _ _⟩ | exact ⟨rfl, _, Eq.trans (World.drewN_drewN _ _ _) (congrArg (World.drewN _) (Nat.add_assoc _ _ _))⟩))))
                    go_roundg k4
                    case measure => have := HK1.out; have := HK2.out; have := HK3.out; have := HK4.out; omega
                    case rel => exact ⟨(wrap64 (x6_4 + 1)), (by first | rfl | (simp; done) | (simp [*]; done)), H', ⟨by have := HK1.out; have := HK2.out; have := HK3.out; have := HK4.out; omega⟩, ⟨by (with_reducible repeat (first | refine qal ?_ _ | refine qao ?_ | refine qaj ?_ _)); exact BK167.out⟩, ⟨by repeat (first | (with_reducible first | exact HB.out | apply qae | apply qad | apply qaf | refine qai ?_ GE167.out) | exact HB.out)⟩⟩
                  ·
                   replace c30 := Bool.eq_false_iff.mpr c30
                   subst c30
                   have H1 : (some false) = some r := by rw [if_neg (show ¬ (false = true) by decide)] at H; exact H
                   clear H
                   have H := H1
                   clear H1
                   obtain rfl := Option.some.inj H
                   have hcz36_0 : wr.cell? ⟨gb167, 0, none⟩ = some (.slice A0_0 l0_0.length c0_0) := (qaa BK167.out 0).trans rfl
                   have hcz36_1 : wr.cell? ⟨gb167, 1, none⟩ = some (.slice A0_1 l0_1.length c0_1) := (qaa BK167.out 1).trans rfl
                   have hcz36_2 : wr.cell? ⟨gb167, 2, none⟩ = some (.slice (some ad174) l0_2.length c0_2) := (qaa BK167.out 2).trans rfl
                   have hfz36_0 := qac BK167.out 0
                   have hfz36_1 := qac BK167.out 1
                   have hfz36_2 := qac BK167.out 2
                   have p175 : 0 ≤ (x5_3 : Int) := of_decide_eq_true (by first | (with_reducible assumption) | assumption)
                   have q175 : x5_3 < (l0_2.length : Int) := of_decide_eq_true (by first | (with_reducible assumption) | assumption)
                   obtain ⟨ad175, A175_0, c175_0, e175, hx175_0, hl175_0, hi175_0⟩ := at_L1 HR0_2.out x5_3 p175 q175
                   obtain rfl : ad174 = ad175 := (by injection e175)
                   replace hx175_0 := (HB.out.cell (World.block_lt_of_cell? w _ hx175_0)).trans hx175_0
                   have HR175_0 := qab.mk hi175_0
                   have HC175_0 := qab.mk hl175_0
                   clear hi175_0 hl175_0
                   replace p175 := eq_true p175
                   replace q175 := eq_true q175
                   have p176 : 0 ≤ (x5_3 : Int) := of_decide_eq_true (by first | (with_reducible assumption) | assumption)
                   have q176 : x5_3 < (l0_2.length : Int) := of_decide_eq_true (by first | (with_reducible assumption) | assumption)
                   obtain ⟨ad176, A176_0, c176_0, e176, hx176_0, hl176_0, hi176_0⟩ := at_L1 HR0_2.out x5_3 p176 q176
                   obtain rfl : ad174 = ad176 := (by injection e176)
                   replace hx176_0 := (HB.out.cell (World.block_lt_of_cell? w _ hx176_0)).trans hx176_0
                   have HR176_0 := qab.mk hi176_0
                   have HC176_0 := qab.mk hl176_0
                   clear hi176_0 hl176_0
                   replace p176 := eq_true p176
                   replace q176 := eq_true q176
                   have ea_ := Option.some.inj (hx175_0.symm.trans hx176_0)
                   injection ea_ with ea_ en_ ec_
                   subst ea_
                   subst ec_
                   clear en_
                   have p177 : 0 ≤ (x6_4 : Int) := of_decide_eq_true (by first | (with_reducible assumption) | assumption)
                   have q177 : x6_4 < ((rd_L1 l0_2 x5_3).length : Int) := of_decide_eq_true (by first | (with_reducible assumption) | assumption)
                   obtain ⟨ad177, e177, hx177_0⟩ := Kd.at_int HR176_0.out x6_4 p177 q177
                   cases e177
                   replace hx177_0 := (HB.out.cell (World.block_lt_of_cell? w _ hx177_0)).trans hx177_0
                   replace p177 := eq_true p177
                   replace q177 := eq_true q177
                   go_wp2_with (first | (go_at_call 60; (with_reducible refine (talikref04_in.calls (rd (rd_L1 l0_2 x5_3) x6_4) 0 72 false _ A29.out).mono ?_); rintro e w' ⟨rfl, ⟨nd, rfl⟩⟩; (try first | exact ⟨rfl, _, World.drewN_drewN _ _ _⟩ | exact ⟨rfl, _, Eq.trans (World.drewN_drewN _ _ _) (congrArg (World.drewN _) (Nat.add_assoc _ _ _))⟩)))
                   repeat (go_quiet (first | (go_at_call 60; (with_reducible refine (talikref04_in.calls (rd (rd_L1 l0_2 x5_3) x6_4) 0 72 false _ A29.out).mono ?_); rintro e w' ⟨rfl, ⟨nd, rfl⟩⟩; (try first | exact ⟨rfl, _, World.drewN_drewN _ _ _⟩ | exact ⟨rfl, _, Eq.trans (World.drewN_drewN _ _ _) (congrArg (World.drewN _) (Nat.add_assoc _ _ _))⟩))); try go_wp2_with (first | (go_at_call 60; (with_reducible refine (talikref04_in.calls (rd (rd_L1 l0_2 x5_3) x6_4) 0 72 false _ A29.out).mono ?_); rintro e w' ⟨rfl, ⟨nd, rfl⟩⟩; (try first | exact ⟨rfl, _, World.drewN_drewN _ _ _⟩ | exact ⟨rfl, _, Eq.trans (World.drewN_drewN _ _ _) (congrArg (World.drewN _) (Nat.add_assoc _ _ _))⟩))))
                   go_ret
                   exact ⟨by first | rfl | (simp [qas, qat] <;> rfl) | (simp [*, qas, qat] <;> rfl), by repeat (first | (with_reducible first | exact HB.out | apply qae | apply qad | apply qaf | refine qai ?_ GE167.out) | exact HB.out)⟩
                 ·
                  rw [if_neg c28] at H
                  exact absurd H (by simp)
                ·
                 rw [if_neg c27] at H
                 have c27b0 : decide (x6_4 < ((rd_L1 l0_2 x5_3).length : Int)) = false := decide_eq_false c27
                 clear c27
                 have H' := qab.mk H
                 clear H
                 have hcz37_0 : wr.cell? ⟨gb167, 0, none⟩ = some (.slice A0_0 l0_0.length c0_0) := (qaa BK167.out 0).trans rfl
                 have hcz37_1 : wr.cell? ⟨gb167, 1, none⟩ = some (.slice A0_1 l0_1.length c0_1) := (qaa BK167.out 1).trans rfl
                 have hcz37_2 : wr.cell? ⟨gb167, 2, none⟩ = some (.slice (some ad174) l0_2.length c0_2) := (qaa BK167.out 2).trans rfl
                 have hfz37_0 := qac BK167.out 0
                 have hfz37_1 := qac BK167.out 1
                 have hfz37_2 := qac BK167.out 2
                 have p175 : 0 ≤ (x5_3 : Int) := of_decide_eq_true (by first | (with_reducible assumption) | assumption)
                 have q175 : x5_3 < (l0_2.length : Int) := of_decide_eq_true (by first | (with_reducible assumption) | assumption)
                 obtain ⟨ad175, A175_0, c175_0, e175, hx175_0, hl175_0, hi175_0⟩ := at_L1 HR0_2.out x5_3 p175 q175
                 obtain rfl : ad174 = ad175 := (by injection e175)
                 replace hx175_0 := (HB.out.cell (World.block_lt_of_cell? w _ hx175_0)).trans hx175_0
                 have HR175_0 := qab.mk hi175_0
                 have HC175_0 := qab.mk hl175_0
                 clear hi175_0 hl175_0
                 replace p175 := eq_true p175
                 replace q175 := eq_true q175
                 go_wp2
                 repeat (go_quiet (fail); try go_wp2)
                 go_roundg k4
                 case measure => have := HK1.out; have := HK2.out; have := HK3.out; have := HK4.out; omega
                 case rel => exact ⟨(wrap64 (x5_3 + 1)), (by first | rfl | (simp; done) | (simp [*]; done)), H', ⟨by have := HK1.out; have := HK2.out; have := HK3.out; have := HK4.out; omega⟩, ⟨by (with_reducible repeat (first | refine qal ?_ _ | refine qao ?_ | refine qaj ?_ _)); exact BK167.out⟩, ⟨by repeat (first | (with_reducible first | exact HB.out | apply qae | apply qad | apply qaf | refine qai ?_ GE167.out) | exact HB.out)⟩⟩
               ·
                rw [if_neg c26] at H
                exact absurd H (by simp)
              ·
               rw [if_neg c25] at H
               exact absurd H (by simp)
           ·
            rw [if_neg c23] at H
            have c23b0 : (((rd_L1 l0_2 x5_3).length : Int) == (wrap64 ((l0_0.length : Int) + 1))) = false := beq_eq_false_iff_ne.mpr c23
            have c23b1 : (((rd_L1 l0_2 x5_3).length : Int) != (wrap64 ((l0_0.length : Int) + 1))) = true := bne_iff_ne.mpr c23
            obtain rfl := Option.some.inj H
            have hcz38_0 : wr.cell? ⟨gb167, 0, none⟩ = some (.slice A0_0 l0_0.length c0_0) := (qaa BK167.out 0).trans rfl
            have hcz38_1 : wr.cell? ⟨gb167, 1, none⟩ = some (.slice A0_1 l0_1.length c0_1) := (qaa BK167.out 1).trans rfl
            have hcz38_2 : wr.cell? ⟨gb167, 2, none⟩ = some (.slice A0_2 l0_2.length c0_2) := (qaa BK167.out 2).trans rfl
            have hfz38_0 := qac BK167.out 0
            have hfz38_1 := qac BK167.out 1
            have hfz38_2 := qac BK167.out 2
            have p174 : 0 ≤ (x5_3 : Int) := of_decide_eq_true (by first | (with_reducible assumption) | assumption)
            have q174 : x5_3 < (l0_2.length : Int) := of_decide_eq_true (by first | (with_reducible assumption) | assumption)
            obtain ⟨ad174, A174_0, c174_0, e174, hx174_0, hl174_0, hi174_0⟩ := at_L1 HR0_2.out x5_3 p174 q174
            cases e174
            replace hx174_0 := (HB.out.cell (World.block_lt_of_cell? w _ hx174_0)).trans hx174_0
            have HR174_0 := qab.mk hi174_0
            have HC174_0 := qab.mk hl174_0
            clear hi174_0 hl174_0
            replace p174 := eq_true p174
            replace q174 := eq_true q174
            go_wp2
            repeat (go_quiet (fail); try go_wp2)
            go_ret
            exact ⟨by first | rfl | (simp [qas, qat] <;> rfl) | (simp [*, qas, qat] <;> rfl), by repeat (first | (with_reducible first | exact HB.out | apply qae | apply qad | apply qaf | refine qai ?_ GE167.out) | exact HB.out)⟩
          ·
           rw [if_neg c22] at H
           exact absurd H (by simp)
         ·
          rw [if_neg c21] at H
          have c21b0 : decide (x5_3 < (l0_2.length : Int)) = false := decide_eq_false c21
          clear c21
          replace H := Option.bind_eq_some_iff.mp H
          obtain ⟨t172, A390, H⟩ := H
          replace H : (if t172 = true then ((talikref04_in.f (l0_1.length : Int) 1 72).bind fun t173 => (if t173 = true then (some ((l0_2.length : Int) == (wrap64 ((l0_0.length : Int) + 1)))) else (some false))) else (some false)) = some r := H
          have A39 := qab.mk A390
          clear A390
          by_cases c40 : t172 = true
          ·
           subst c40
           have H1 : ((talikref04_in.f (l0_1.length : Int) 1 72).bind fun t173 => (if t173 = true then (some ((l0_2.length : Int) == (wrap64 ((l0_0.length : Int) + 1)))) else (some false))) = some r := by rw [if_pos rfl] at H; exact H
           clear H
           have H := H1
           clear H1
           replace H := Option.bind_eq_some_iff.mp H
           obtain ⟨t173, A410, H⟩ := H
           replace H : (if t173 = true then (some ((l0_2.length : Int) == (wrap64 ((l0_0.length : Int) + 1)))) else (some false)) = some r := H
           have A41 := qab.mk A410
           clear A410
           by_cases c42 : t173 = true
           ·
            subst c42
            have H1 : (some ((l0_2.length : Int) == (wrap64 ((l0_0.length : Int) + 1)))) = some r := by rw [if_pos rfl] at H; exact H
            clear H
            have H := H1
            clear H1
            obtain rfl := Option.some.inj H
            have hcz43_0 : wr.cell? ⟨gb167, 0, none⟩ = some (.slice A0_0 l0_0.length c0_0) := (qaa BK167.out 0).trans rfl
            have hcz43_1 : wr.cell? ⟨gb167, 1, none⟩ = some (.slice A0_1 l0_1.length c0_1) := (qaa BK167.out 1).trans rfl
            have hcz43_2 : wr.cell? ⟨gb167, 2, none⟩ = some (.slice A0_2 l0_2.length c0_2) := (qaa BK167.out 2).trans rfl
            have hfz43_0 := qac BK167.out 0
            have hfz43_1 := qac BK167.out 1
            have hfz43_2 := qac BK167.out 2
            go_wp2_with (first | (go_at_call 60; (with_reducible refine (talikref04_in.calls (l0_0.length : Int) 1 5 true _ A39.out).mono ?_); rintro e w' ⟨rfl, ⟨nd, rfl⟩⟩; (try first | exact ⟨rfl, _, World.drewN_drewN _ _ _⟩ | exact ⟨rfl, _, Eq.trans (World.drewN_drewN _ _ _) (congrArg (World.drewN _) (Nat.add_assoc _ _ _))⟩)) | (go_at_call 60; (with_reducible refine (talikref04_in.calls (l0_1.length : Int) 1 72 true _ A41.out).mono ?_); rintro e w' ⟨rfl, ⟨nd, rfl⟩⟩; (try first | exact ⟨rfl, _, World.drewN_drewN _ _ _⟩ | exact ⟨rfl, _, Eq.trans (World.drewN_drewN _ _ _) (congrArg (World.drewN _) (Nat.add_assoc _ _ _))⟩)))
            repeat (go_quiet (first | (go_at_call 60; (with_reducible refine (talikref04_in.calls (l0_0.length : Int) 1 5 true _ A39.out).mono ?_); rintro e w' ⟨rfl, ⟨nd, rfl⟩⟩; (try first | exact ⟨rfl, _, World.drewN_drewN _ _ _⟩ | exact ⟨rfl, _, Eq.trans (World.drewN_drewN _ _ _) (congrArg (World.drewN _) (Nat.add_assoc _ _ _))⟩)) | (go_at_call 60; (with_reducible refine (talikref04_in.calls (l0_1.length : Int) 1 72 true _ A41.out).mono ?_); rintro e w' ⟨rfl, ⟨nd, rfl⟩⟩; (try first | exact ⟨rfl, _, World.drewN_drewN _ _ _⟩ | exact ⟨rfl, _, Eq.trans (World.drewN_drewN _ _ _) (congrArg (World.drewN _) (Nat.add_assoc _ _ _))⟩))); try go_wp2_with (first | (go_at_call 60; (with_reducible refine (talikref04_in.calls (l0_0.length : Int) 1 5 true _ A39.out).mono ?_); rintro e w' ⟨rfl, ⟨nd, rfl⟩⟩; (try first | exact ⟨rfl, _, World.drewN_drewN _ _ _⟩ | exact ⟨rfl, _, Eq.trans (World.drewN_drewN _ _ _) (congrArg (World.drewN _) (Nat.add_assoc _ _ _))⟩)) | (go_at_call 60; (with_reducible refine (talikref04_in.calls (l0_1.length : Int) 1 72 true _ A41.out).mono ?_); rintro e w' ⟨rfl, ⟨nd, rfl⟩⟩; (try first | exact ⟨rfl, _, World.drewN_drewN _ _ _⟩ | exact ⟨rfl, _, Eq.trans (World.drewN_drewN _ _ _) (congrArg (World.drewN _) (Nat.add_assoc _ _ _))⟩))))
            go_ret
            exact ⟨by first | rfl | (simp [qas, qat] <;> rfl) | (simp [*, qas, qat] <;> rfl), by repeat (first | (with_reducible first | exact HB.out | apply qae | apply qad | apply qaf | refine qai ?_ GE167.out) | exact HB.out)⟩
           ·
            replace c42 := Bool.eq_false_iff.mpr c42
            subst c42
            have H1 : (some false) = some r := by rw [if_neg (show ¬ (false = true) by decide)] at H; exact H
            clear H
            have H := H1
            clear H1
            obtain rfl := Option.some.inj H
            have hcz44_0 : wr.cell? ⟨gb167, 0, none⟩ = some (.slice A0_0 l0_0.length c0_0) := (qaa BK167.out 0).trans rfl
            have hcz44_1 : wr.cell? ⟨gb167, 1, none⟩ = some (.slice A0_1 l0_1.length c0_1) := (qaa BK167.out 1).trans rfl
            have hcz44_2 : wr.cell? ⟨gb167, 2, none⟩ = some (.slice A0_2 l0_2.length c0_2) := (qaa BK167.out 2).trans rfl
            have hfz44_0 := qac BK167.out 0
            have hfz44_1 := qac BK167.out 1
            have hfz44_2 := qac BK167.out 2
            go_wp2_with (first | (go_at_call 60; (with_reducible refine (talikref04_in.calls (l0_0.length : Int) 1 5 true _ A39.out).mono ?_); rintro e w' ⟨rfl, ⟨nd, rfl⟩⟩; (try first | exact ⟨rfl, _, World.drewN_drewN _ _ _⟩ | exact ⟨rfl, _, Eq.trans (World.drewN_drewN _ _ _) (congrArg (World.drewN _) (Nat.add_assoc _ _ _))⟩)) | (go_at_call 60; (with_reducible refine (talikref04_in.calls (l0_1.length : Int) 1 72 false _ A41.out).mono ?_); rintro e w' ⟨rfl, ⟨nd, rfl⟩⟩; (try first | exact ⟨rfl, _, World.drewN_drewN _ _ _⟩ | exact ⟨rfl, _, Eq.trans (World.drewN_drewN _ _ _) (congrArg (World.drewN _) (Nat.add_assoc _ _ _))⟩)))
            repeat (go_quiet (first | (go_at_call 60; (with_reducible refine (talikref04_in.calls (l0_0.length : Int) 1 5 true _ A39.out).mono ?_); rintro e w' ⟨rfl, ⟨nd, rfl⟩⟩; (try first | exact ⟨rfl, _, World.drewN_drewN _ _ _⟩ | exact ⟨rfl, _, Eq.trans (World.drewN_drewN _ _ _) (congrArg (World.drewN _) (Nat.add_assoc _ _ _))⟩)) | (go_at_call 60; (with_reducible refine (talikref04_in.calls (l0_1.length : Int) 1 72 false _ A41.out).mono ?_); rintro e w' ⟨rfl, ⟨nd, rfl⟩⟩; (try first | exact ⟨rfl, _, World.drewN_drewN _ _ _⟩ | exact ⟨rfl, _, Eq.trans (World.drewN_drewN _ _ _) (congrArg (World.drewN _) (Nat.add_assoc _ _ _))⟩))); try go_wp2_with (first | (go_at_call 60; (with_reducible refine (talikref04_in.calls (l0_0.length : Int) 1 5 true _ A39.out).mono ?_); rintro e w' ⟨rfl, ⟨nd, rfl⟩⟩; (try first | exact ⟨rfl, _, World.drewN_drewN _ _ _⟩ | exact ⟨rfl, _, Eq.trans (World.drewN_drewN _ _ _) (congrArg (World.drewN _) (Nat.add_assoc _ _ _))⟩)) | (go_at_call 60; (with_reducible refine (talikref04_in.calls (l0_1.length : Int) 1 72 false _ A41.out).mono ?_); rintro e w' ⟨rfl, ⟨nd, rfl⟩⟩; (try first | exact ⟨rfl, _, World.drewN_drewN _ _ _⟩ | exact ⟨rfl, _, Eq.trans (World.drewN_drewN _ _ _) (congrArg (World.drewN _) (Nat.add_assoc _ _ _))⟩))))
            go_ret
            exact ⟨by first | rfl | (simp [qas, qat] <;> rfl) | (simp [*, qas, qat] <;> rfl), by repeat (first | (with_reducible first | exact HB.out | apply qae | apply qad | apply qaf | refine qai ?_ GE167.out) | exact HB.out)⟩
          ·
           replace c40 := Bool.eq_false_iff.mpr c40
           subst c40
           have H1 : (some false) = some r := by rw [if_neg (show ¬ (false = true) by decide)] at H; exact H
           clear H
           have H := H1
           clear H1
           obtain rfl := Option.some.inj H
           have hcz45_0 : wr.cell? ⟨gb167, 0, none⟩ = some (.slice A0_0 l0_0.length c0_0) := (qaa BK167.out 0).trans rfl
           have hcz45_1 : wr.cell? ⟨gb167, 1, none⟩ = some (.slice A0_1 l0_1.length c0_1) := (qaa BK167.out 1).trans rfl
           have hcz45_2 : wr.cell? ⟨gb167, 2, none⟩ = some (.slice A0_2 l0_2.length c0_2) := (qaa BK167.out 2).trans rfl
           have hfz45_0 := qac BK167.out 0
           have hfz45_1 := qac BK167.out 1
           have hfz45_2 := qac BK167.out 2
           go_wp2_with (first | (go_at_call 60; (with_reducible refine (talikref04_in.calls (l0_0.length : Int) 1 5 false _ A39.out).mono ?_); rintro e w' ⟨rfl, ⟨nd, rfl⟩⟩; (try first | exact ⟨rfl, _, World.drewN_drewN _ _ _⟩ | exact ⟨rfl, _, Eq.trans (World.drewN_drewN _ _ _) (congrArg (World.drewN _) (Nat.add_assoc _ _ _))⟩)))
           repeat (go_quiet (first | (go_at_call 60; (with_reducible refine (talikref04_in.calls (l0_0.length : Int) 1 5 false _ A39.out).mono ?_); rintro e w' ⟨rfl, ⟨nd, rfl⟩⟩; (try first | exact ⟨rfl, _, World.drewN_drewN _ _ _⟩ | exact ⟨rfl, _, Eq.trans (World.drewN_drewN _ _ _) (congrArg (World.drewN _) (Nat.add_assoc _ _ _))⟩))); try go_wp2_with (first | (go_at_call 60; (with_reducible refine (talikref04_in.calls (l0_0.length : Int) 1 5 false _ A39.out).mono ?_); rintro e w' ⟨rfl, ⟨nd, rfl⟩⟩; (try first | exact ⟨rfl, _, World.drewN_drewN _ _ _⟩ | exact ⟨rfl, _, Eq.trans (World.drewN_drewN _ _ _) (congrArg (World.drewN _) (Nat.add_assoc _ _ _))⟩))))
           go_ret
           exact ⟨by first | rfl | (simp [qas, qat] <;> rfl) | (simp [*, qas, qat] <;> rfl), by repeat (first | (with_reducible first | exact HB.out | apply qae | apply qad | apply qaf | refine qai ?_ GE167.out) | exact HB.out)⟩
end Go.Proofs.Ytipphcjgdebecaa.PA
namespace Go.Proofs.Ytipphcjgdebecaa.PA
open Go.RowKit Go.Proofs.YtipphcjgdebecaaW.PrintWords Go.Proofs.YtipphcjgdebecaaW.PrintLast Go.Proofs.YtipphcjgdebecaaW.PrintMore
attribute [local go_sem] max2_int min2_int max_two min_two max_three min_three max_four min_four
def talikref04_IsLoop.f (l0_0 : List (S39)) (l0_1 : List (S37)) (l0_2 : List (List Int)) (a1 : Int) : Option (Bool) := (talikref04_in.f a1 0 (wrap64 ((l0_0.length : Int) - 1))).bind fun t182 => (some t182)
set_option maxHeartbeats 8000000 in
set_option maxRecDepth 100000 in
theorem talikref04_IsLoop.calls (A0_0 : Option Addr) (c0_0 : Nat) (l0_0 : List (S39)) (A0_1 : Option Addr) (c0_1 : Nat) (l0_1 : List (S37)) (A0_2 : Option Addr) (c0_2 : Nat) (l0_2 : List (List Int)) (a1 : Int) (r : Bool) (w : World) (hr0_0 : Kd.C k39 w A0_0 l0_0.length l0_0) (hc0_0 : l0_0.length ≤ c0_0) (hr0_1 : Kd.C k37 w A0_1 l0_1.length l0_1) (hc0_1 : l0_1.length ≤ c0_1) (hr0_2 : Kd.C (Kd.slice 3 (Kd.int .i64)) w A0_2 l0_2.length l0_2) (hc0_2 : l0_2.length ≤ c0_2) (h : talikref04_IsLoop.f l0_0 l0_1 l0_2 a1 = some r) :
  Calls Try.prog 20 #[.agg #[.slice A0_0 l0_0.length c0_0, .slice A0_1 l0_1.length c0_1, .slice A0_2 l0_2.length c0_2], .int .i64 a1] w fun e w' => e = .returned (.bool r) ∧ Below w.heap.size w w' := by
 have hu26 := Try.underlying26
 have HR0_0 := qab.mk hr0_0
 have HC0_0 := qab.mk hc0_0
 clear hr0_0 hc0_0
 have HR0_1 := qab.mk hr0_1
 have HC0_1 := qab.mk hc0_1
 clear hr0_1 hc0_1
 have HR0_2 := qab.mk hr0_2
 have HC0_2 := qab.mk hc0_2
 clear hr0_2 hc0_2
 have HB := qab.mk (Below.refl w.heap.size w)
 have H : ((talikref04_in.f a1 0 (wrap64 ((l0_0.length : Int) - 1))).bind fun t182 => (some t182)) = some r := h
 clear h
 replace H := Option.bind_eq_some_iff.mp H
 obtain ⟨t182, A30, H⟩ := H
 replace H : (some t182) = some r := H
 have A3 := qab.mk A30
 clear A30
 obtain rfl := Option.some.inj H
 go_enter Try.func20, Try.ntmps20
 go_wp2_with (first | ((with_reducible refine qar (N := 2) rfl ?_); refine qap ?hg (N := 2) ?hd (cs := #[.slice A0_0 l0_0.length c0_0, .slice A0_1 l0_1.length c0_1, .slice A0_2 l0_2.length c0_2]) (t := 26) ?hr ?_; (case hd => rfl); (case hg => rfl); (case hr => first | (go_simp; done) | (go_simp; rfl)); intro gb181 hg w4 hbox hb; have n0_ := qab.mk (qag (by repeat (first | (with_reducible first | exact HB.out | apply qae | apply qad | apply qaf) | exact HB.out)) hb); have n1_ := qab.mk (hbox); have n2_ := qab.mk ((by rw [hg]; exact (qan (by repeat (first | (with_reducible first | exact HB.out | apply qae | apply qad | apply qaf) | exact HB.out))) : w.heap.size ≤ gb181)); have n3_ := qab.mk ((by rw [hg]; exact (qan (by repeat (first | (with_reducible first | exact HB.out | apply qae | apply qad | apply qaf) | exact HB.out))) : w.heap.size ≤ gb181)); clear HB; have HB := n0_; have BK181 := n1_; have GW181 := n2_; have GE181 := n3_; clear n0_ n1_ n2_ n3_; clear hb hbox hg; have hcz5_0 : w4.cell? ⟨gb181, 0, none⟩ = some (.slice A0_0 l0_0.length c0_0) := (qaa BK181.out 0).trans rfl; have hcz5_1 : w4.cell? ⟨gb181, 1, none⟩ = some (.slice A0_1 l0_1.length c0_1) := (qaa BK181.out 1).trans rfl; have hcz5_2 : w4.cell? ⟨gb181, 2, none⟩ = some (.slice A0_2 l0_2.length c0_2) := (qaa BK181.out 2).trans rfl; have hfz5_0 := qac BK181.out 0; have hfz5_1 := qac BK181.out 1; have hfz5_2 := qac BK181.out 2) | ((with_reducible refine gate_callee (f := 60) rfl ?_); refine goesL_ (some 10) rfl rfl Try.func60 (by kernel_rfl) rfl #[.int .i64 a1, .int .i64 0, .int .i64 (wrap64 ((l0_0.length : Int) - 1))] rfl (by (try simp only [List.map_toArray, List.map_cons, List.map_nil]); first | done | rfl | (simp only [List.length_drop, List.length_take]; rfl)) ?_; (with_reducible refine (talikref04_in.calls a1 0 (wrap64 ((l0_0.length : Int) - 1)) t182 _ A3.out).mono ?_); rintro e w' ⟨rfl, ⟨nd, rfl⟩⟩; refine ⟨_, rfl, ?_⟩))
 go_ret
 exact ⟨by first | rfl | (simp [qas, qat] <;> rfl) | (simp [*, qas, qat] <;> rfl), by repeat (first | (with_reducible first | exact HB.out | apply qae | apply qad | apply qaf | refine qai ?_ GE181.out) | exact HB.out)⟩
end Go.Proofs.Ytipphcjgdebecaa.PA
namespace Go.Proofs.Ytipphcjgdebecaa.PA
open Go.RowKit Go.Proofs.YtipphcjgdebecaaW.PrintWords Go.Proofs.YtipphcjgdebecaaW.PrintLast Go.Proofs.YtipphcjgdebecaaW.PrintMore
attribute [local go_sem] max2_int min2_int max_two min_two max_three min_three max_four min_four
def truthB (L : S39) : List S44 → List S37 → Bool
 | [], _ => true
 | _ :: _, [] => false
 | T :: ts, F :: fs => inB T.f0 L.f1.f0 L.f1.f1 && (inB T.f1 F.f0 F.f1 && truthB L ts fs)
theorem truth_step (L : S39) (l3 : List S44) (l1 : List S37) (k : Nat) (h3 : k < l3.length) (h1 : k < l1.length) :
  truthB L (l3.drop k) (l1.drop k) = (inB (rd_T44 l3 k).f0 L.f1.f0 L.f1.f1 && (inB (rd_T44 l3 k).f1 (rd_T37 l1 k).f0 (rd_T37 l1 k).f1 && truthB L (l3.drop (k + 1)) (l1.drop (k + 1)))) := by
 rw [List.drop_eq_getElem_cons h3, List.drop_eq_getElem_cons h1]
 have e3 : rd_T44 l3 k = l3[k] := by simp [rd_T44, h3]
 have e1 : rd_T37 l1 k = l1[k] := by simp [rd_T37, h1]
 rw [e3, e1]
 rfl
theorem rin_calls (x lo hi : Int) (W : World) : Calls Try.prog 60 #[.int .i64 x, .int .i64 lo, .int .i64 hi] W fun e w' => e = .returned (.bool (inB x lo hi)) ∧ Below W.heap.size W w' :=
 (talikref04_in.calls x lo hi _ W (by unfold talikref04_in.f inB; by_cases h : x ≥ lo <;> simp [h])).mono fun e w' ⟨h1, h2⟩ => ⟨h1, h2.below⟩
structure BI (w : World) (gb : Nat) (nb : Array Value) (W : World) : Prop where
 b : W.heap[gb]? = some (.cells nb 26 (0, 0))
 hb : Below w.heap.size w W
theorem BI.below {w W W' : World} {gb : Nat} {nb : Array Value} (h : BI w gb nb W) (hb : Below W.heap.size W W') : BI w gb nb W' := ⟨qah h.b hb, qag h.hb hb⟩
def talikref04_Truth.T4 : Bool × List (List Nat × List Nat) := (true, [([], []), ([], []), ([1], [1]), ([2], [2]), ([0, 3], [0, 3]), ([4], [4]), ([5], [5]), ([5], [5]), ([6, 7, 5], [5, 6, 7]), ([8, 5], [5, 8]), ([9, 5], [5, 9]), ([5], [5]), ([11, 5], [5, 11]), ([5], [5]), ([12, 13, 5], [5, 12, 13]), ([14, 5], [5, 14]), ([15, 5], [5, 15]), ([16, 5], [5, 16]), ([5], [5]), ([18, 5], [5, 18]), ([5], [5]), ([19, 20, 5], [5, 19, 20]), ([21, 5], [5, 21]), ([22, 5], [5, 22]), ([23, 5], [5, 23]), ([10, 17, 24, 5, 5], [5, 10, 17, 24]), ([25, 5], [5, 25]), ([5, 26], [5, 26]), ([27, 25], [27]), ([28], [28]), ([28], [28]), ([29, 30, 28], [28, 29, 30]), ([31, 28], [28, 31]), ([32, 28], [28, 32]), ([28], [28]), ([34, 28], [28, 34]), ([28], [28]), ([35, 36, 28], [28, 35, 36]), ([37, 28], [28, 37]), ([38, 28], [28, 38]), ([28], [28]), ([40, 28], [28, 40]), ([28], [28]), ([41, 42, 28], [28, 41, 42]), ([43, 28], [28, 43]), ([44, 28], [28, 44]), ([33, 39, 45, 28, 28], [28, 33, 39, 45]), ([46, 28], [28, 46]), ([28, 47], [28, 47])])
def talikref04_Truth.B4 : List Nat := [0, 0, 2, 6, 15, 31, 63, 63, 255, 511, 1023, 63, 2111, 63, 14399, 30783, 63551, 129087, 63, 262207, 63, 1835071, 3932223, 8126527, 16515135, 33554431, 67108863, 134217727, 268435455, 536870911, 536870911, 2147483647, 4294967295, 8589934591, 536870911, 17716740095, 536870911, 120795955199, 258234908671, 533112815615, 536870911, 1100048498687, 536870911, 7697118265343, 16493211287551, 34085397331967, 70368744177663, 140737488355327, 281474976710655]
theorem talikref04_Truth.tab4 : rtab .any (opsOf Try.f21 4) = talikref04_Truth.T4 := by kernel_rfl
theorem talikref04_Truth.bits4 : waitsOk talikref04_Truth.T4.2 talikref04_Truth.B4 = true := by kernel_rfl
def talikref04_Truth.f (l0_0 : List (S39)) (l0_1 : List (S37)) (l0_2 : List (List Int)) (a1 : Int) (l2 : List (S44)) : Option (Bool) := if 0 ≤ a1 ∧ a1 < l0_0.length ∧ l2.length ≤ l0_1.length then some (truthB (qak l0_0 a1) l2 l0_1) else none
set_option maxHeartbeats 4000000 in
set_option maxRecDepth 100000 in
theorem talikref04_Truth.calls (A0_0 : Option Addr) (c0_0 : Nat) (l0_0 : List (S39)) (A0_1 : Option Addr) (c0_1 : Nat) (l0_1 : List (S37)) (A0_2 : Option Addr) (c0_2 : Nat) (l0_2 : List (List Int)) (a1 : Int) (A2 : Option Addr) (c2 : Nat) (l2 : List (S44)) (r : Bool) (w : World) (hr0_0 : Kd.C k39 w A0_0 l0_0.length l0_0) (hc0_0 : l0_0.length ≤ c0_0) (hr0_1 : Kd.C k37 w A0_1 l0_1.length l0_1) (hc0_1 : l0_1.length ≤ c0_1) (hr0_2 : Kd.C (Kd.slice 3 (Kd.int .i64)) w A0_2 l0_2.length l0_2) (hc0_2 : l0_2.length ≤ c0_2) (hr2 : Kd.C k44 w A2 l2.length l2) (hc2 : l2.length ≤ c2) (h : talikref04_Truth.f l0_0 l0_1 l0_2 a1 l2 = some r) :
  Calls Try.prog 21 #[.agg #[.slice A0_0 l0_0.length c0_0, .slice A0_1 l0_1.length c0_1, .slice A0_2 l0_2.length c0_2], .int .i64 a1, .slice A2 l2.length c2] w fun e w' => e = .returned (.bool r) ∧ Below w.heap.size w w' := by
 unfold talikref04_Truth.f at h
 split at h
 case isFalse => cases h
 rename_i hc
 have h' := Option.some.inj h
 clear h
 obtain ⟨i0, i1, i2⟩ := hc
 have HF0 : qab (truthB (qak l0_0 a1) (l2.drop 0) (l0_1.drop 0) = r) := ⟨by simpa using h'⟩
 clear h'
 have hu26 := Try.underlying26
 have hu39 := Try.underlying39
 have hu44 := Try.underlying44
 have hu37 := Try.underlying37
 have HB := qab.mk (Below.refl w.heap.size w)
 have HR0 := qab.mk hr0_0
 have HR1 := qab.mk hr0_1
 have HR2 := qab.mk hr2
 have hm2 := Kd.C_max hr2
 clear hr0_0 hr0_1 hr0_2 hr2
 obtain ⟨ad, e, hl0, hl1, hl2, hl3, hl4, hl5, hl6, hl7, hl8, hl9, hl10, hl11⟩ := at_T39 HR0.out a1 i0 i1
 cases e
 clear hl0 hl1 hl4 hl5 hl6 hl7 hl8 hl9 hl10 hl11
 obtain ⟨n, rfl⟩ := Int.eq_ofNat_of_zero_le i0
 simp only [Int.toNat_natCast] at hl2 hl3
 generalize qak l0_0 n = L at HF0 hl2 hl3
 have HL2 := qab.mk hl2
 have HL3 := qab.mk hl3
 clear hl2 hl3
 go_enter Try.func21, Try.ntmps21
 go_wp2_with ((with_reducible refine qar (N := 3) rfl ?_); refine qap ?hg (N := 3) ?hd (cs := #[.slice (some ad) l0_0.length c0_0, .slice A0_1 l0_1.length c0_1, .slice A0_2 l0_2.length c0_2]) (t := 26) ?hr ?_; (case hd => rfl); (case hg => rfl); (case hr => first | (go_simp; done) | (go_simp; rfl)); intro gb hg_gb w2 hbox hb; have BKgb := qab.mk hbox; have n_HB := qab.mk (qag HB.out hb); have GEgb : w.heap.size ≤ gb := (by rw [hg_gb]; exact HB.out.size); clear HB; have HB := n_HB; clear n_HB; have hfgb := qac BKgb.out; have hcgb_0 : w2.cell? ⟨gb, 0, none⟩ = some (.slice (some ad) l0_0.length c0_0) := (qaa BKgb.out 0).trans rfl; have hcgb_1 : w2.cell? ⟨gb, 1, none⟩ = some (.slice A0_1 l0_1.length c0_1) := (qaa BKgb.out 1).trans rfl; have hcgb_2 : w2.cell? ⟨gb, 2, none⟩ = some (.slice A0_2 l0_2.length c0_2) := (qaa BKgb.out 2).trans rfl; clear hbox hb hg_gb)
 clear hcgb_0 hcgb_1 hcgb_2 hfgb
 have HT : qab (BI w gb #[.slice (some ad) l0_0.length c0_0, .slice A0_1 l0_1.length c0_1, .slice A0_2 l0_2.length c0_2] w2) := ⟨⟨BKgb.out, HB.out⟩⟩
 clear BKgb HB GEgb
 go_loopw [7] (fun s7 wr => ∃ (k : Nat), k ≤ l2.length ∧ s7 = .int .i64 k ∧ qab (truthB L (l2.drop k) (l0_1.drop k) = r) ∧ qab (BI w gb #[.slice (some ad) l0_0.length c0_0, .slice A0_1 l0_1.length c0_1, .slice A0_2 l0_2.length c0_2] wr)) (fun s _ => l2.length - (intOf s).toNat)
 case atStart => exact ⟨0, by omega, rfl, HF0, HT⟩
 case round =>
  clear HT HF0
  obtain ⟨k, hk, rfl, HF, HT⟩ := hrel
  by_cases hlt : k < l2.length
  ·
   have hki : (k : Int) < l2.length := by omega
   have hk1 : (k : Int) < l0_1.length := by omega
   have hk0 : (0 : Int) ≤ k := by omega
   have hge : decide ((l0_1.length : Int) ≤ (k : Int)) = false := decide_eq_false (by omega)
   have hgen : decide (l0_1.length ≤ k) = false := decide_eq_false (by omega)
   obtain ⟨ad2, e, ht0, ht1, _⟩ := at_T44 HR2.out k (by omega) hki
   cases e
   obtain ⟨ad1, e, hq0, hq1⟩ := at_T37 HR1.out k (by omega) hk1
   cases e
   simp only [Int.toNat_natCast] at ht0 ht1 hq0 hq1
   have HD : qab _ := ⟨truth_step L l2 l0_1 k hlt (by omega)⟩
   obtain ⟨t0, ht0e⟩ : ∃ t, t = (rd_T44 l2 k).f0 := ⟨_, rfl⟩
   obtain ⟨t1, ht1e⟩ : ∃ t, t = (rd_T44 l2 k).f1 := ⟨_, rfl⟩
   rw [← ht0e] at ht0 HD
   rw [← ht1e] at ht1 HD
   clear ht0e ht1e
   generalize rd_T37 l0_1 k = F at HD hq0 hq1
   have hl2 := HL2.out
   have hl3 := HL3.out
   have htup : ∀ W, BI w gb #[.slice (some ad) l0_0.length c0_0, .slice (some ad1) l0_1.length c0_1, .slice A0_2 l0_2.length c0_2] W → (W.cell? ⟨gb, 0, none⟩ = some (.slice (some ad) l0_0.length c0_0) ∧ W.cell? ⟨gb, 1, none⟩ = some (.slice (some ad1) l0_1.length c0_1) ∧ W.cell? (ad2.add (k * 3)) = some (.int .i64 t0) ∧ W.cell? ⟨(ad2.add (k * 3)).block, (ad2.add (k * 3)).off + 1, none⟩ = some (.int .i64 t1) ∧ W.cell? ⟨(ad.add (n * 12)).block, (ad.add (n * 12)).off + 2, none⟩ = some (.int .i64 L.f1.f0) ∧ W.cell? ⟨(ad.add (n * 12)).block, (ad.add (n * 12)).off + 3, none⟩ = some (.int .i64 L.f1.f1) ∧ W.cell? (ad1.add (k * 2)) = some (.int .i64 F.f0) ∧ W.cell? ⟨(ad1.add (k * 2)).block, (ad1.add (k * 2)).off + 1, none⟩ = some (.int .i64 F.f1) ∧ qab (BI w gb #[.slice (some ad) l0_0.length c0_0, .slice (some ad1) l0_1.length c0_1, .slice A0_2 l0_2.length c0_2] W)) := fun W h =>
    ⟨qaa h.b 0, qaa h.b 1, (h.hb.cell (World.block_lt_of_cell? w _ ht0)).trans ht0, (h.hb.cell (World.block_lt_of_cell? w _ ht1)).trans ht1, (h.hb.cell (World.block_lt_of_cell? w _ hl2)).trans hl2, (h.hb.cell (World.block_lt_of_cell? w _ hl3)).trans hl3, (h.hb.cell (World.block_lt_of_cell? w _ hq0)).trans hq0, (h.hb.cell (World.block_lt_of_cell? w _ hq1)).trans hq1, ⟨h⟩⟩
   have HTUP := qab.mk htup
   have HP1 := qab.mk (htup _ (HT.out.below (below_drew (Below.refl wr.heap.size wr))))
   clear HT htup ht0 ht1 hl2 hl3 hq0 hq1
   cases hA : inB t0 L.f1.f0 L.f1.f1 with
   | false =>
    have HA : qab (∀ W, Calls Try.prog 60 #[.int .i64 t0, .int .i64 L.f1.f0, .int .i64 L.f1.f1] W fun e w' => e = .returned (.bool false) ∧ Below W.heap.size W w') := ⟨fun W => by have h := rin_calls t0 L.f1.f0 L.f1.f1 W; rw [hA] at h; exact h⟩
    have he := HF.out
    rw [HD.out, hA, Bool.false_and] at he
    subst he
    clear HD HF hA
    go_upto_region 4 with fail
    refine start_ (n := 49) (S := fun w' => (w'.cell? ⟨gb, 0, none⟩ = some (.slice (some ad) l0_0.length c0_0) ∧ w'.cell? ⟨gb, 1, none⟩ = some (.slice (some ad1) l0_1.length c0_1) ∧ w'.cell? (ad2.add (k * 3)) = some (.int .i64 t0) ∧ w'.cell? ⟨(ad2.add (k * 3)).block, (ad2.add (k * 3)).off + 1, none⟩ = some (.int .i64 t1) ∧ w'.cell? ⟨(ad.add (n * 12)).block, (ad.add (n * 12)).off + 2, none⟩ = some (.int .i64 L.f1.f0) ∧ w'.cell? ⟨(ad.add (n * 12)).block, (ad.add (n * 12)).off + 3, none⟩ = some (.int .i64 L.f1.f1) ∧ w'.cell? (ad1.add (k * 2)) = some (.int .i64 F.f0) ∧ w'.cell? ⟨(ad1.add (k * 2)).block, (ad1.add (k * 2)).off + 1, none⟩ = some (.int .i64 F.f1) ∧ qab (BI w gb #[.slice (some ad) l0_0.length c0_0, .slice (some ad1) l0_1.length c0_1, .slice A0_2 l0_2.length c0_2] w'))) (ds := []) (msk 49 0) (by kernel_rfl) rfl (by kernel_rfl) HP1.out (fun hHeld => ?_); refine with_tabW talikref04_Truth.tab4 talikref04_Truth.bits4 (fun HT_ HW_ => ?_)
    refine pure_ (i := 0) (N := some 14) (v := ?_) (a' := ?_) (msk 49 1) rfl rfl (qaq HT_.out (by kernel_rfl)) (fun _ _ _ h => h) (Or.inl ⟨by rfl, ?_⟩) ?_ ?_; rotate_left; (focus (intro w'; go_simp; with_reducible rfl)); rotate_left; (focus (simp only [Act.put, List.setIfInBounds_toArray, List.set_cons_zero, List.set_cons_succ, i64_w, i32_w]; rfl))
    refine pure_ (i := 1) (N := some 15) (v := ?_) (a' := ?_) (msk 49 2) rfl rfl (qaq HT_.out (by kernel_rfl)) (fun _ _ _ h => h) (Or.inl ⟨by rfl, ?_⟩) ?_ ?_; rotate_left; (focus (intro w'; go_simp; with_reducible rfl)); rotate_left; (focus (simp only [Act.put, List.setIfInBounds_toArray, List.set_cons_zero, List.set_cons_succ, i64_w, i32_w]; rfl))
    refine take_ (i := 2) (N := some 16) (v := ?_) (a' := ?_) (msk 49 3) rfl rfl (take_ofW HT_.out HW_.out (by kernel_rfl)) (fun _ _ _ h => h) (Or.inl ⟨by rfl, ?_⟩) hHeld ?_ ?_; rotate_left; (focus (rintro w' ⟨s0, s1, s2, s3, s4, s5, s6, s7, s8⟩; go_simp; with_reducible rfl)); rotate_left; (focus (simp only [Act.put, List.setIfInBounds_toArray, List.set_cons_zero, List.set_cons_succ, i64_w, i32_w]; rfl))
    refine pure_ (i := 3) (N := some 17) (v := ?_) (a' := ?_) (msk 49 4) rfl rfl (qaq HT_.out (by kernel_rfl)) (fun _ _ _ h => h) (Or.inl ⟨by rfl, ?_⟩) ?_ ?_; rotate_left; (focus (intro w'; go_simp; with_reducible rfl)); rotate_left; (focus (simp only [Act.put, List.setIfInBounds_toArray, List.set_cons_zero, List.set_cons_succ, i64_w, i32_w]; rfl))
    refine pure_ (i := 4) (N := some 18) (v := ?_) (a' := ?_) (msk 49 5) rfl rfl (qaq HT_.out (by kernel_rfl)) (fun _ _ _ h => h) (Or.inl ⟨by rfl, ?_⟩) ?_ ?_; rotate_left; (focus (intro w'; go_simp; with_reducible rfl)); rotate_left; (focus (simp only [Act.put, List.setIfInBounds_toArray, List.set_cons_zero, List.set_cons_succ, i64_w, i32_w]; rfl))
    refine pure_ (i := 5) (N := some 19) (v := ?_) (a' := ?_) (msk 49 6) rfl rfl (qaq HT_.out (by kernel_rfl)) (fun _ _ _ h => h) (Or.inl ⟨by rfl, ?_⟩) ?_ ?_; rotate_left; (focus (intro w'; go_simp; with_reducible rfl)); rotate_left; (focus (simp only [Act.put, List.setIfInBounds_toArray, List.set_cons_zero, List.set_cons_succ, i64_w, i32_w]; rfl))
    refine pure_ (i := 6) (N := some 20) (v := ?_) (a' := ?_) (msk 49 7) rfl rfl (qaq HT_.out (by kernel_rfl)) (fun _ _ _ h => h) (Or.inl ⟨by rfl, ?_⟩) ?_ ?_; rotate_left; (focus (intro w'; go_simp; with_reducible rfl)); rotate_left; (focus (simp only [Act.put, List.setIfInBounds_toArray, List.set_cons_zero, List.set_cons_succ, i64_w, i32_w]; rfl))
    refine pure_ (i := 7) (N := some 21) (v := ?_) (a' := ?_) (msk 49 8) rfl rfl (qaq HT_.out (by kernel_rfl)) (fun _ _ _ h => h) (Or.inl ⟨by rfl, ?_⟩) ?_ ?_; rotate_left; (focus (intro w'; go_simp; with_reducible rfl)); rotate_left; (focus (simp only [Act.put, List.setIfInBounds_toArray, List.set_cons_zero, List.set_cons_succ, i64_w, i32_w]; rfl))
    refine pure_ (i := 8) (N := some 22) (v := ?_) (a' := ?_) (msk 49 9) rfl rfl (qaq HT_.out (by kernel_rfl)) (fun _ _ _ h => h) (Or.inl ⟨by rfl, ?_⟩) ?_ ?_; rotate_left; (focus (intro w'; go_simp; with_reducible rfl)); rotate_left; (focus (simp only [Act.put, List.setIfInBounds_toArray, List.set_cons_zero, List.set_cons_succ, i64_w, i32_w]; rfl))
    refine pure_ (i := 9) (N := some 23) (v := ?_) (a' := ?_) (msk 49 10) rfl rfl (qaq HT_.out (by kernel_rfl)) (fun _ _ _ h => h) (Or.inl ⟨by rfl, ?_⟩) ?_ ?_; rotate_left; (focus (intro w'; go_simp; with_reducible rfl)); rotate_left; (focus (simp only [Act.put, List.setIfInBounds_toArray, List.set_cons_zero, List.set_cons_succ, i64_w, i32_w]; rfl))
    refine take_ (i := 10) (N := some 24) (v := ?_) (a' := ?_) (msk 49 11) rfl rfl (take_ofW HT_.out HW_.out (by kernel_rfl)) (fun _ _ _ h => h) (Or.inl ⟨by rfl, ?_⟩) hHeld ?_ ?_; rotate_left; (focus (rintro w' ⟨s0, s1, s2, s3, s4, s5, s6, s7, s8⟩; go_simp; with_reducible rfl)); rotate_left; (focus (simp only [Act.put, List.setIfInBounds_toArray, List.set_cons_zero, List.set_cons_succ, i64_w, i32_w]; rfl))
    refine pure_ (i := 11) (N := some 25) (v := ?_) (a' := ?_) (msk 49 12) rfl rfl (qaq HT_.out (by kernel_rfl)) (fun _ _ _ h => h) (Or.inl ⟨by rfl, ?_⟩) ?_ ?_; rotate_left; (focus (intro w'; go_simp; with_reducible rfl)); rotate_left; (focus (simp only [Act.put, List.setIfInBounds_toArray, List.set_cons_zero, List.set_cons_succ, i64_w, i32_w]; rfl))
    refine take_ (i := 12) (N := some 26) (v := ?_) (a' := ?_) (msk 49 13) rfl rfl (take_ofW HT_.out HW_.out (by kernel_rfl)) (fun _ _ _ h => h) (Or.inl ⟨by rfl, ?_⟩) hHeld ?_ ?_; rotate_left; (focus (rintro w' ⟨s0, s1, s2, s3, s4, s5, s6, s7, s8⟩; go_simp; with_reducible rfl)); rotate_left; (focus (simp only [Act.put, List.setIfInBounds_toArray, List.set_cons_zero, List.set_cons_succ, i64_w, i32_w]; rfl))
    refine pure_ (i := 13) (N := some 27) (v := ?_) (a' := ?_) (msk 49 14) rfl rfl (qaq HT_.out (by kernel_rfl)) (fun _ _ _ h => h) (Or.inl ⟨by rfl, ?_⟩) ?_ ?_; rotate_left; (focus (intro w'; go_simp; with_reducible rfl)); rotate_left; (focus (simp only [Act.put, List.setIfInBounds_toArray, List.set_cons_zero, List.set_cons_succ, i64_w, i32_w]; rfl))
    refine pure_ (i := 14) (N := some 28) (v := ?_) (a' := ?_) (msk 49 15) rfl rfl (qaq HT_.out (by kernel_rfl)) (fun _ _ _ h => h) (Or.inl ⟨by rfl, ?_⟩) ?_ ?_; rotate_left; (focus (intro w'; go_simp; with_reducible rfl)); rotate_left; (focus (simp only [Act.put, List.setIfInBounds_toArray, List.set_cons_zero, List.set_cons_succ, i64_w, i32_w]; rfl))
    refine pure_ (i := 15) (N := some 29) (v := ?_) (a' := ?_) (msk 49 16) rfl rfl (qaq HT_.out (by kernel_rfl)) (fun _ _ _ h => h) (Or.inl ⟨by rfl, ?_⟩) ?_ ?_; rotate_left; (focus (intro w'; go_simp; with_reducible rfl)); rotate_left; (focus (simp only [Act.put, List.setIfInBounds_toArray, List.set_cons_zero, List.set_cons_succ, i64_w, i32_w]; rfl))
    refine pure_ (i := 16) (N := some 30) (v := ?_) (a' := ?_) (msk 49 17) rfl rfl (qaq HT_.out (by kernel_rfl)) (fun _ _ _ h => h) (Or.inl ⟨by rfl, ?_⟩) ?_ ?_; rotate_left; (focus (intro w'; go_simp; with_reducible rfl)); rotate_left; (focus (simp only [Act.put, List.setIfInBounds_toArray, List.set_cons_zero, List.set_cons_succ, i64_w, i32_w]; rfl))
    refine take_ (i := 17) (N := some 31) (v := ?_) (a' := ?_) (msk 49 18) rfl rfl (take_ofW HT_.out HW_.out (by kernel_rfl)) (fun _ _ _ h => h) (Or.inl ⟨by rfl, ?_⟩) hHeld ?_ ?_; rotate_left; (focus (rintro w' ⟨s0, s1, s2, s3, s4, s5, s6, s7, s8⟩; go_simp; with_reducible rfl)); rotate_left; (focus (simp only [Act.put, List.setIfInBounds_toArray, List.set_cons_zero, List.set_cons_succ, i64_w, i32_w]; rfl))
    refine pure_ (i := 18) (N := some 32) (v := ?_) (a' := ?_) (msk 49 19) rfl rfl (qaq HT_.out (by kernel_rfl)) (fun _ _ _ h => h) (Or.inl ⟨by rfl, ?_⟩) ?_ ?_; rotate_left; (focus (intro w'; go_simp; with_reducible rfl)); rotate_left; (focus (simp only [Act.put, List.setIfInBounds_toArray, List.set_cons_zero, List.set_cons_succ, i64_w, i32_w]; rfl))
    refine take_ (i := 19) (N := some 33) (v := ?_) (a' := ?_) (msk 49 20) rfl rfl (take_ofW HT_.out HW_.out (by kernel_rfl)) (fun _ _ _ h => h) (Or.inl ⟨by rfl, ?_⟩) hHeld ?_ ?_; rotate_left; (focus (rintro w' ⟨s0, s1, s2, s3, s4, s5, s6, s7, s8⟩; go_simp; with_reducible rfl)); rotate_left; (focus (simp only [Act.put, List.setIfInBounds_toArray, List.set_cons_zero, List.set_cons_succ, i64_w, i32_w]; rfl))
    refine pure_ (i := 20) (N := some 34) (v := ?_) (a' := ?_) (msk 49 21) rfl rfl (qaq HT_.out (by kernel_rfl)) (fun _ _ _ h => h) (Or.inl ⟨by rfl, ?_⟩) ?_ ?_; rotate_left; (focus (intro w'; go_simp; with_reducible rfl)); rotate_left; (focus (simp only [Act.put, List.setIfInBounds_toArray, List.set_cons_zero, List.set_cons_succ, i64_w, i32_w]; rfl))
    refine pure_ (i := 21) (N := some 35) (v := ?_) (a' := ?_) (msk 49 22) rfl rfl (qaq HT_.out (by kernel_rfl)) (fun _ _ _ h => h) (Or.inl ⟨by rfl, ?_⟩) ?_ ?_; rotate_left; (focus (intro w'; go_simp; with_reducible rfl)); rotate_left; (focus (simp only [Act.put, List.setIfInBounds_toArray, List.set_cons_zero, List.set_cons_succ, i64_w, i32_w]; rfl))
    refine pure_ (i := 22) (N := some 36) (v := ?_) (a' := ?_) (msk 49 23) rfl rfl (qaq HT_.out (by kernel_rfl)) (fun _ _ _ h => h) (Or.inl ⟨by rfl, ?_⟩) ?_ ?_; rotate_left; (focus (intro w'; go_simp; with_reducible rfl)); rotate_left; (focus (simp only [Act.put, List.setIfInBounds_toArray, List.set_cons_zero, List.set_cons_succ, i64_w, i32_w]; rfl))
    refine pure_ (i := 23) (N := some 37) (v := ?_) (a' := ?_) (msk 49 24) rfl rfl (qaq HT_.out (by kernel_rfl)) (fun _ _ _ h => h) (Or.inl ⟨by rfl, ?_⟩) ?_ ?_; rotate_left; (focus (intro w'; go_simp; with_reducible rfl)); rotate_left; (focus (simp only [Act.put, List.setIfInBounds_toArray, List.set_cons_zero, List.set_cons_succ, i64_w, i32_w]; rfl))
    refine take_ (i := 24) (N := some 38) (v := ?_) (a' := ?_) (msk 49 25) rfl rfl (take_ofW HT_.out HW_.out (by kernel_rfl)) (fun _ _ _ h => h) (Or.inl ⟨by rfl, ?_⟩) hHeld ?_ ?_; rotate_left; (focus (rintro w' ⟨s0, s1, s2, s3, s4, s5, s6, s7, s8⟩; go_simp; with_reducible rfl)); rotate_left; (focus (simp only [Act.put, List.setIfInBounds_toArray, List.set_cons_zero, List.set_cons_succ, i64_w, i32_w]; rfl))
    refine one_ (i := 25) (N := some 39) (msk 49 26) rfl rfl (one_of HT_.out (by kernel_rfl)) (by decide) (fun K hK => ?_)
    refine goes_ Try.func60 (by kernel_rfl) rfl #[.int .i64 t0, .int .i64 L.f1.f0, .int .i64 L.f1.f1] (by rfl) rfl rfl (by (try simp only [List.map_toArray, List.map_cons, List.map_nil]); first | done | rfl | (simp only [List.length_drop, List.length_take]; rfl)) ?_
    refine (HA.out _).mono ?_; rintro e w5 ⟨rfl, hb⟩; have HP2 := qab.mk (HTUP.out w5 (BI.below hHeld.2.2.2.2.2.2.2.2.out hb)); clear hb; refine ⟨_, rfl, ?_⟩; refine hK.out _ _ HP2.out (fun hHeld => ?_); clear hK K; refine norm_ (a' := ?_) ?_ ?_; rotate_left; (focus (show Act.put _ (some 39) _ = _; simp only [Act.put, List.setIfInBounds_toArray, List.set_cons_zero, List.set_cons_succ, i64_w, i32_w]; rfl))
    refine pure_ (i := 26) (N := some 40) (v := ?_) (a' := ?_) (msk 49 27) rfl rfl (qaq HT_.out (by kernel_rfl)) (fun _ _ _ h => h) (Or.inl ⟨by rfl, ?_⟩) ?_ ?_; rotate_left; (focus (intro w'; go_simp; with_reducible rfl)); rotate_left; (focus (simp only [Act.put, List.setIfInBounds_toArray, List.set_cons_zero, List.set_cons_succ, i64_w, i32_w]; rfl))
    refine pure_ (i := 27) (N := some 41) (v := ?_) (a' := ?_) (msk 49 28) rfl rfl (qaq HT_.out (by kernel_rfl)) (fun _ _ _ h => h) (Or.inl ⟨by rfl, ?_⟩) ?_ ?_; rotate_left; (focus (intro w'; go_simp; with_reducible rfl)); rotate_left; (focus (simp only [Act.put, List.setIfInBounds_toArray, List.set_cons_zero, List.set_cons_succ, i64_w, i32_w]; rfl))
    refine pure_ (i := 28) (N := some 42) (v := ?_) (a' := ?_) (msk 49 29) rfl rfl (qaq HT_.out (by kernel_rfl)) (fun _ _ _ h => h) (Or.inl ⟨by rfl, ?_⟩) ?_ ?_; rotate_left; (focus (intro w'; go_simp; with_reducible rfl)); rotate_left; (focus (simp only [Act.put, List.setIfInBounds_toArray, List.set_cons_zero, List.set_cons_succ, i64_w, i32_w]; rfl))
    refine pure_ (i := 29) (N := some 43) (v := undef) (a' := ?_) (msk 49 30) rfl rfl (qaq HT_.out (by kernel_rfl)) (fun _ _ _ h => h) (Or.inr ⟨by rfl, rfl⟩) ?_ ?_; rotate_left; (focus (simp only [Act.put, List.setIfInBounds_toArray, List.set_cons_zero, List.set_cons_succ, i64_w, i32_w]; rfl))
    refine pure_ (i := 30) (N := some 44) (v := undef) (a' := ?_) (msk 49 31) rfl rfl (qaq HT_.out (by kernel_rfl)) (fun _ _ _ h => h) (Or.inr ⟨by rfl, rfl⟩) ?_ ?_; rotate_left; (focus (simp only [Act.put, List.setIfInBounds_toArray, List.set_cons_zero, List.set_cons_succ, i64_w, i32_w]; rfl))
    refine pure_ (i := 31) (N := some 45) (v := undef) (a' := ?_) (msk 49 32) rfl rfl (qaq HT_.out (by kernel_rfl)) (fun _ _ _ h => h) (Or.inr ⟨by rfl, rfl⟩) ?_ ?_; rotate_left; (focus (simp only [Act.put, List.setIfInBounds_toArray, List.set_cons_zero, List.set_cons_succ, i64_w, i32_w]; rfl))
    refine pure_ (i := 32) (N := some 46) (v := undef) (a' := ?_) (msk 49 33) rfl rfl (qaq HT_.out (by kernel_rfl)) (fun _ _ _ h => h) (Or.inr ⟨by rfl, rfl⟩) ?_ ?_; rotate_left; (focus (simp only [Act.put, List.setIfInBounds_toArray, List.set_cons_zero, List.set_cons_succ, i64_w, i32_w]; rfl))
    refine pure_ (i := 33) (N := some 47) (v := undef) (a' := ?_) (msk 49 34) rfl rfl (qaq HT_.out (by kernel_rfl)) (fun _ _ _ h => h) (Or.inr ⟨by rfl, rfl⟩) ?_ ?_; rotate_left; (focus (simp only [Act.put, List.setIfInBounds_toArray, List.set_cons_zero, List.set_cons_succ, i64_w, i32_w]; rfl))
    refine pure_ (i := 34) (N := some 48) (v := undef) (a' := ?_) (msk 49 35) rfl rfl (qaq HT_.out (by kernel_rfl)) (fun _ _ _ h => h) (Or.inr ⟨by rfl, rfl⟩) ?_ ?_; rotate_left; (focus (simp only [Act.put, List.setIfInBounds_toArray, List.set_cons_zero, List.set_cons_succ, i64_w, i32_w]; rfl))
    refine pure_ (i := 35) (N := some 49) (v := undef) (a' := ?_) (msk 49 36) rfl rfl (qaq HT_.out (by kernel_rfl)) (fun _ _ _ h => h) (Or.inr ⟨by rfl, rfl⟩) ?_ ?_; rotate_left; (focus (simp only [Act.put, List.setIfInBounds_toArray, List.set_cons_zero, List.set_cons_succ, i64_w, i32_w]; rfl))
    refine pure_ (i := 36) (N := some 50) (v := undef) (a' := ?_) (msk 49 37) rfl rfl (qaq HT_.out (by kernel_rfl)) (fun _ _ _ h => h) (Or.inr ⟨by rfl, rfl⟩) ?_ ?_; rotate_left; (focus (simp only [Act.put, List.setIfInBounds_toArray, List.set_cons_zero, List.set_cons_succ, i64_w, i32_w]; rfl))
    refine pure_ (i := 37) (N := some 51) (v := undef) (a' := ?_) (msk 49 38) rfl rfl (qaq HT_.out (by kernel_rfl)) (fun _ _ _ h => h) (Or.inr ⟨by rfl, rfl⟩) ?_ ?_; rotate_left; (focus (simp only [Act.put, List.setIfInBounds_toArray, List.set_cons_zero, List.set_cons_succ, i64_w, i32_w]; rfl))
    refine pure_ (i := 38) (N := some 52) (v := undef) (a' := ?_) (msk 49 39) rfl rfl (qaq HT_.out (by kernel_rfl)) (fun _ _ _ h => h) (Or.inr ⟨by rfl, rfl⟩) ?_ ?_; rotate_left; (focus (simp only [Act.put, List.setIfInBounds_toArray, List.set_cons_zero, List.set_cons_succ, i64_w, i32_w]; rfl))
    refine pure_ (i := 39) (N := some 53) (v := undef) (a' := ?_) (msk 49 40) rfl rfl (qaq HT_.out (by kernel_rfl)) (fun _ _ _ h => h) (Or.inr ⟨by rfl, rfl⟩) ?_ ?_; rotate_left; (focus (simp only [Act.put, List.setIfInBounds_toArray, List.set_cons_zero, List.set_cons_succ, i64_w, i32_w]; rfl))
    refine pure_ (i := 40) (N := some 54) (v := undef) (a' := ?_) (msk 49 41) rfl rfl (qaq HT_.out (by kernel_rfl)) (fun _ _ _ h => h) (Or.inr ⟨by rfl, rfl⟩) ?_ ?_; rotate_left; (focus (simp only [Act.put, List.setIfInBounds_toArray, List.set_cons_zero, List.set_cons_succ, i64_w, i32_w]; rfl))
    refine pure_ (i := 41) (N := some 55) (v := undef) (a' := ?_) (msk 49 42) rfl rfl (qaq HT_.out (by kernel_rfl)) (fun _ _ _ h => h) (Or.inr ⟨by rfl, rfl⟩) ?_ ?_; rotate_left; (focus (simp only [Act.put, List.setIfInBounds_toArray, List.set_cons_zero, List.set_cons_succ, i64_w, i32_w]; rfl))
    refine pure_ (i := 42) (N := some 56) (v := undef) (a' := ?_) (msk 49 43) rfl rfl (qaq HT_.out (by kernel_rfl)) (fun _ _ _ h => h) (Or.inr ⟨by rfl, rfl⟩) ?_ ?_; rotate_left; (focus (simp only [Act.put, List.setIfInBounds_toArray, List.set_cons_zero, List.set_cons_succ, i64_w, i32_w]; rfl))
    refine pure_ (i := 43) (N := some 57) (v := undef) (a' := ?_) (msk 49 44) rfl rfl (qaq HT_.out (by kernel_rfl)) (fun _ _ _ h => h) (Or.inr ⟨by rfl, rfl⟩) ?_ ?_; rotate_left; (focus (simp only [Act.put, List.setIfInBounds_toArray, List.set_cons_zero, List.set_cons_succ, i64_w, i32_w]; rfl))
    refine pure_ (i := 44) (N := some 58) (v := undef) (a' := ?_) (msk 49 45) rfl rfl (qaq HT_.out (by kernel_rfl)) (fun _ _ _ h => h) (Or.inr ⟨by rfl, rfl⟩) ?_ ?_; rotate_left; (focus (simp only [Act.put, List.setIfInBounds_toArray, List.set_cons_zero, List.set_cons_succ, i64_w, i32_w]; rfl))
    refine pure_ (i := 45) (N := some 59) (v := undef) (a' := ?_) (msk 49 46) rfl rfl (qaq HT_.out (by kernel_rfl)) (fun _ _ _ h => h) (Or.inr ⟨by rfl, rfl⟩) ?_ ?_; rotate_left; (focus (simp only [Act.put, List.setIfInBounds_toArray, List.set_cons_zero, List.set_cons_succ, i64_w, i32_w]; rfl))
    refine pure_ (i := 46) (N := some 60) (v := undef) (a' := ?_) (msk 49 47) rfl rfl (qaq HT_.out (by kernel_rfl)) (fun _ _ _ h => h) (Or.inr ⟨by rfl, rfl⟩) ?_ ?_; rotate_left; (focus (simp only [Act.put, List.setIfInBounds_toArray, List.set_cons_zero, List.set_cons_succ, i64_w, i32_w]; rfl))
    refine pure_ (i := 47) (N := some 61) (v := undef) (a' := ?_) (msk 49 48) rfl rfl (qaq HT_.out (by kernel_rfl)) (fun _ _ _ h => h) (Or.inr ⟨by rfl, rfl⟩) ?_ ?_; rotate_left; (focus (simp only [Act.put, List.setIfInBounds_toArray, List.set_cons_zero, List.set_cons_succ, i64_w, i32_w]; rfl))
    refine pure_ (i := 48) (N := some 62) (v := ?_) (a' := ?_) (msk 49 49) rfl rfl (qaq HT_.out (by kernel_rfl)) (fun _ _ _ h => h) (Or.inl ⟨by rfl, ?_⟩) ?_ ?_; rotate_left; (focus (intro w'; go_simp; with_reducible rfl)); rotate_left; (focus (simp only [Act.put, List.setIfInBounds_toArray, List.set_cons_zero, List.set_cons_succ, i64_w, i32_w]; rfl))
    refine done_ (done_of HT_.out (by kernel_rfl)) ?_
    go_wp2_with fail
    try go_ret
    exact ⟨rfl, HP2.out.2.2.2.2.2.2.2.2.out.hb⟩
   | true =>
    have HA : qab (∀ W, Calls Try.prog 60 #[.int .i64 t0, .int .i64 L.f1.f0, .int .i64 L.f1.f1] W fun e w' => e = .returned (.bool true) ∧ Below W.heap.size W w') := ⟨fun W => by have h := rin_calls t0 L.f1.f0 L.f1.f1 W; rw [hA] at h; exact h⟩
    have he := HF.out
    rw [HD.out, hA, Bool.true_and] at he
    clear HD HF hA
    cases hA2 : inB t1 F.f0 F.f1 with
    | false =>
     have HA2 : qab (∀ W, Calls Try.prog 60 #[.int .i64 t1, .int .i64 F.f0, .int .i64 F.f1] W fun e w' => e = .returned (.bool false) ∧ Below W.heap.size W w') := ⟨fun W => by have h := rin_calls t1 F.f0 F.f1 W; rw [hA2] at h; exact h⟩
     rw [hA2, Bool.false_and] at he
     subst he
     clear hA2
     go_upto_region 4 with fail
     refine start_ (n := 49) (S := fun w' => (w'.cell? ⟨gb, 0, none⟩ = some (.slice (some ad) l0_0.length c0_0) ∧ w'.cell? ⟨gb, 1, none⟩ = some (.slice (some ad1) l0_1.length c0_1) ∧ w'.cell? (ad2.add (k * 3)) = some (.int .i64 t0) ∧ w'.cell? ⟨(ad2.add (k * 3)).block, (ad2.add (k * 3)).off + 1, none⟩ = some (.int .i64 t1) ∧ w'.cell? ⟨(ad.add (n * 12)).block, (ad.add (n * 12)).off + 2, none⟩ = some (.int .i64 L.f1.f0) ∧ w'.cell? ⟨(ad.add (n * 12)).block, (ad.add (n * 12)).off + 3, none⟩ = some (.int .i64 L.f1.f1) ∧ w'.cell? (ad1.add (k * 2)) = some (.int .i64 F.f0) ∧ w'.cell? ⟨(ad1.add (k * 2)).block, (ad1.add (k * 2)).off + 1, none⟩ = some (.int .i64 F.f1) ∧ qab (BI w gb #[.slice (some ad) l0_0.length c0_0, .slice (some ad1) l0_1.length c0_1, .slice A0_2 l0_2.length c0_2] w'))) (ds := []) (msk 49 0) (by kernel_rfl) rfl (by kernel_rfl) HP1.out (fun hHeld => ?_); refine with_tabW talikref04_Truth.tab4 talikref04_Truth.bits4 (fun HT_ HW_ => ?_)
     refine pure_ (i := 0) (N := some 14) (v := ?_) (a' := ?_) (msk 49 1) rfl rfl (qaq HT_.out (by kernel_rfl)) (fun _ _ _ h => h) (Or.inl ⟨by rfl, ?_⟩) ?_ ?_; rotate_left; (focus (intro w'; go_simp; with_reducible rfl)); rotate_left; (focus (simp only [Act.put, List.setIfInBounds_toArray, List.set_cons_zero, List.set_cons_succ, i64_w, i32_w]; rfl))
     refine pure_ (i := 1) (N := some 15) (v := ?_) (a' := ?_) (msk 49 2) rfl rfl (qaq HT_.out (by kernel_rfl)) (fun _ _ _ h => h) (Or.inl ⟨by rfl, ?_⟩) ?_ ?_; rotate_left; (focus (intro w'; go_simp; with_reducible rfl)); rotate_left; (focus (simp only [Act.put, List.setIfInBounds_toArray, List.set_cons_zero, List.set_cons_succ, i64_w, i32_w]; rfl))
     refine take_ (i := 2) (N := some 16) (v := ?_) (a' := ?_) (msk 49 3) rfl rfl (take_ofW HT_.out HW_.out (by kernel_rfl)) (fun _ _ _ h => h) (Or.inl ⟨by rfl, ?_⟩) hHeld ?_ ?_; rotate_left; (focus (rintro w' ⟨s0, s1, s2, s3, s4, s5, s6, s7, s8⟩; go_simp; with_reducible rfl)); rotate_left; (focus (simp only [Act.put, List.setIfInBounds_toArray, List.set_cons_zero, List.set_cons_succ, i64_w, i32_w]; rfl))
     refine pure_ (i := 3) (N := some 17) (v := ?_) (a' := ?_) (msk 49 4) rfl rfl (qaq HT_.out (by kernel_rfl)) (fun _ _ _ h => h) (Or.inl ⟨by rfl, ?_⟩) ?_ ?_; rotate_left; (focus (intro w'; go_simp; with_reducible rfl)); rotate_left; (focus (simp only [Act.put, List.setIfInBounds_toArray, List.set_cons_zero, List.set_cons_succ, i64_w, i32_w]; rfl))
     refine pure_ (i := 4) (N := some 18) (v := ?_) (a' := ?_) (msk 49 5) rfl rfl (qaq HT_.out (by kernel_rfl)) (fun _ _ _ h => h) (Or.inl ⟨by rfl, ?_⟩) ?_ ?_; rotate_left; (focus (intro w'; go_simp; with_reducible rfl)); rotate_left; (focus (simp only [Act.put, List.setIfInBounds_toArray, List.set_cons_zero, List.set_cons_succ, i64_w, i32_w]; rfl))
     refine pure_ (i := 5) (N := some 19) (v := ?_) (a' := ?_) (msk 49 6) rfl rfl (qaq HT_.out (by kernel_rfl)) (fun _ _ _ h => h) (Or.inl ⟨by rfl, ?_⟩) ?_ ?_; rotate_left; (focus (intro w'; go_simp; with_reducible rfl)); rotate_left; (focus (simp only [Act.put, List.setIfInBounds_toArray, List.set_cons_zero, List.set_cons_succ, i64_w, i32_w]; rfl))
     refine pure_ (i := 6) (N := some 20) (v := ?_) (a' := ?_) (msk 49 7) rfl rfl (qaq HT_.out (by kernel_rfl)) (fun _ _ _ h => h) (Or.inl ⟨by rfl, ?_⟩) ?_ ?_; rotate_left; (focus (intro w'; go_simp; with_reducible rfl)); rotate_left; (focus (simp only [Act.put, List.setIfInBounds_toArray, List.set_cons_zero, List.set_cons_succ, i64_w, i32_w]; rfl))
     refine pure_ (i := 7) (N := some 21) (v := ?_) (a' := ?_) (msk 49 8) rfl rfl (qaq HT_.out (by kernel_rfl)) (fun _ _ _ h => h) (Or.inl ⟨by rfl, ?_⟩) ?_ ?_; rotate_left; (focus (intro w'; go_simp; with_reducible rfl)); rotate_left; (focus (simp only [Act.put, List.setIfInBounds_toArray, List.set_cons_zero, List.set_cons_succ, i64_w, i32_w]; rfl))
     refine pure_ (i := 8) (N := some 22) (v := ?_) (a' := ?_) (msk 49 9) rfl rfl (qaq HT_.out (by kernel_rfl)) (fun _ _ _ h => h) (Or.inl ⟨by rfl, ?_⟩) ?_ ?_; rotate_left; (focus (intro w'; go_simp; with_reducible rfl)); rotate_left; (focus (simp only [Act.put, List.setIfInBounds_toArray, List.set_cons_zero, List.set_cons_succ, i64_w, i32_w]; rfl))
     refine pure_ (i := 9) (N := some 23) (v := ?_) (a' := ?_) (msk 49 10) rfl rfl (qaq HT_.out (by kernel_rfl)) (fun _ _ _ h => h) (Or.inl ⟨by rfl, ?_⟩) ?_ ?_; rotate_left; (focus (intro w'; go_simp; with_reducible rfl)); rotate_left; (focus (simp only [Act.put, List.setIfInBounds_toArray, List.set_cons_zero, List.set_cons_succ, i64_w, i32_w]; rfl))
     refine take_ (i := 10) (N := some 24) (v := ?_) (a' := ?_) (msk 49 11) rfl rfl (take_ofW HT_.out HW_.out (by kernel_rfl)) (fun _ _ _ h => h) (Or.inl ⟨by rfl, ?_⟩) hHeld ?_ ?_; rotate_left; (focus (rintro w' ⟨s0, s1, s2, s3, s4, s5, s6, s7, s8⟩; go_simp; with_reducible rfl)); rotate_left; (focus (simp only [Act.put, List.setIfInBounds_toArray, List.set_cons_zero, List.set_cons_succ, i64_w, i32_w]; rfl))
     refine pure_ (i := 11) (N := some 25) (v := ?_) (a' := ?_) (msk 49 12) rfl rfl (qaq HT_.out (by kernel_rfl)) (fun _ _ _ h => h) (Or.inl ⟨by rfl, ?_⟩) ?_ ?_; rotate_left; (focus (intro w'; go_simp; with_reducible rfl)); rotate_left; (focus (simp only [Act.put, List.setIfInBounds_toArray, List.set_cons_zero, List.set_cons_succ, i64_w, i32_w]; rfl))
     refine take_ (i := 12) (N := some 26) (v := ?_) (a' := ?_) (msk 49 13) rfl rfl (take_ofW HT_.out HW_.out (by kernel_rfl)) (fun _ _ _ h => h) (Or.inl ⟨by rfl, ?_⟩) hHeld ?_ ?_; rotate_left; (focus (rintro w' ⟨s0, s1, s2, s3, s4, s5, s6, s7, s8⟩; go_simp; with_reducible rfl)); rotate_left; (focus (simp only [Act.put, List.setIfInBounds_toArray, List.set_cons_zero, List.set_cons_succ, i64_w, i32_w]; rfl))
     refine pure_ (i := 13) (N := some 27) (v := ?_) (a' := ?_) (msk 49 14) rfl rfl (qaq HT_.out (by kernel_rfl)) (fun _ _ _ h => h) (Or.inl ⟨by rfl, ?_⟩) ?_ ?_; rotate_left; (focus (intro w'; go_simp; with_reducible rfl)); rotate_left; (focus (simp only [Act.put, List.setIfInBounds_toArray, List.set_cons_zero, List.set_cons_succ, i64_w, i32_w]; rfl))
     refine pure_ (i := 14) (N := some 28) (v := ?_) (a' := ?_) (msk 49 15) rfl rfl (qaq HT_.out (by kernel_rfl)) (fun _ _ _ h => h) (Or.inl ⟨by rfl, ?_⟩) ?_ ?_; rotate_left; (focus (intro w'; go_simp; with_reducible rfl)); rotate_left; (focus (simp only [Act.put, List.setIfInBounds_toArray, List.set_cons_zero, List.set_cons_succ, i64_w, i32_w]; rfl))
     refine pure_ (i := 15) (N := some 29) (v := ?_) (a' := ?_) (msk 49 16) rfl rfl (qaq HT_.out (by kernel_rfl)) (fun _ _ _ h => h) (Or.inl ⟨by rfl, ?_⟩) ?_ ?_; rotate_left; (focus (intro w'; go_simp; with_reducible rfl)); rotate_left; (focus (simp only [Act.put, List.setIfInBounds_toArray, List.set_cons_zero, List.set_cons_succ, i64_w, i32_w]; rfl))
     refine pure_ (i := 16) (N := some 30) (v := ?_) (a' := ?_) (msk 49 17) rfl rfl (qaq HT_.out (by kernel_rfl)) (fun _ _ _ h => h) (Or.inl ⟨by rfl, ?_⟩) ?_ ?_; rotate_left; (focus (intro w'; go_simp; with_reducible rfl)); rotate_left; (focus (simp only [Act.put, List.setIfInBounds_toArray, List.set_cons_zero, List.set_cons_succ, i64_w, i32_w]; rfl))
     refine take_ (i := 17) (N := some 31) (v := ?_) (a' := ?_) (msk 49 18) rfl rfl (take_ofW HT_.out HW_.out (by kernel_rfl)) (fun _ _ _ h => h) (Or.inl ⟨by rfl, ?_⟩) hHeld ?_ ?_; rotate_left; (focus (rintro w' ⟨s0, s1, s2, s3, s4, s5, s6, s7, s8⟩; go_simp; with_reducible rfl)); rotate_left; (focus (simp only [Act.put, List.setIfInBounds_toArray, List.set_cons_zero, List.set_cons_succ, i64_w, i32_w]; rfl))
     refine pure_ (i := 18) (N := some 32) (v := ?_) (a' := ?_) (msk 49 19) rfl rfl (qaq HT_.out (by kernel_rfl)) (fun _ _ _ h => h) (Or.inl ⟨by rfl, ?_⟩) ?_ ?_; rotate_left; (focus (intro w'; go_simp; with_reducible rfl)); rotate_left; (focus (simp only [Act.put, List.setIfInBounds_toArray, List.set_cons_zero, List.set_cons_succ, i64_w, i32_w]; rfl))
     refine take_ (i := 19) (N := some 33) (v := ?_) (a' := ?_) (msk 49 20) rfl rfl (take_ofW HT_.out HW_.out (by kernel_rfl)) (fun _ _ _ h => h) (Or.inl ⟨by rfl, ?_⟩) hHeld ?_ ?_; rotate_left; (focus (rintro w' ⟨s0, s1, s2, s3, s4, s5, s6, s7, s8⟩; go_simp; with_reducible rfl)); rotate_left; (focus (simp only [Act.put, List.setIfInBounds_toArray, List.set_cons_zero, List.set_cons_succ, i64_w, i32_w]; rfl))
     refine pure_ (i := 20) (N := some 34) (v := ?_) (a' := ?_) (msk 49 21) rfl rfl (qaq HT_.out (by kernel_rfl)) (fun _ _ _ h => h) (Or.inl ⟨by rfl, ?_⟩) ?_ ?_; rotate_left; (focus (intro w'; go_simp; with_reducible rfl)); rotate_left; (focus (simp only [Act.put, List.setIfInBounds_toArray, List.set_cons_zero, List.set_cons_succ, i64_w, i32_w]; rfl))
     refine pure_ (i := 21) (N := some 35) (v := ?_) (a' := ?_) (msk 49 22) rfl rfl (qaq HT_.out (by kernel_rfl)) (fun _ _ _ h => h) (Or.inl ⟨by rfl, ?_⟩) ?_ ?_; rotate_left; (focus (intro w'; go_simp; with_reducible rfl)); rotate_left; (focus (simp only [Act.put, List.setIfInBounds_toArray, List.set_cons_zero, List.set_cons_succ, i64_w, i32_w]; rfl))
     refine pure_ (i := 22) (N := some 36) (v := ?_) (a' := ?_) (msk 49 23) rfl rfl (qaq HT_.out (by kernel_rfl)) (fun _ _ _ h => h) (Or.inl ⟨by rfl, ?_⟩) ?_ ?_; rotate_left; (focus (intro w'; go_simp; with_reducible rfl)); rotate_left; (focus (simp only [Act.put, List.setIfInBounds_toArray, List.set_cons_zero, List.set_cons_succ, i64_w, i32_w]; rfl))
     refine pure_ (i := 23) (N := some 37) (v := ?_) (a' := ?_) (msk 49 24) rfl rfl (qaq HT_.out (by kernel_rfl)) (fun _ _ _ h => h) (Or.inl ⟨by rfl, ?_⟩) ?_ ?_; rotate_left; (focus (intro w'; go_simp; with_reducible rfl)); rotate_left; (focus (simp only [Act.put, List.setIfInBounds_toArray, List.set_cons_zero, List.set_cons_succ, i64_w, i32_w]; rfl))
     refine take_ (i := 24) (N := some 38) (v := ?_) (a' := ?_) (msk 49 25) rfl rfl (take_ofW HT_.out HW_.out (by kernel_rfl)) (fun _ _ _ h => h) (Or.inl ⟨by rfl, ?_⟩) hHeld ?_ ?_; rotate_left; (focus (rintro w' ⟨s0, s1, s2, s3, s4, s5, s6, s7, s8⟩; go_simp; with_reducible rfl)); rotate_left; (focus (simp only [Act.put, List.setIfInBounds_toArray, List.set_cons_zero, List.set_cons_succ, i64_w, i32_w]; rfl))
     refine one_ (i := 25) (N := some 39) (msk 49 26) rfl rfl (one_of HT_.out (by kernel_rfl)) (by decide) (fun K hK => ?_)
     refine goes_ Try.func60 (by kernel_rfl) rfl #[.int .i64 t0, .int .i64 L.f1.f0, .int .i64 L.f1.f1] (by rfl) rfl rfl (by (try simp only [List.map_toArray, List.map_cons, List.map_nil]); first | done | rfl | (simp only [List.length_drop, List.length_take]; rfl)) ?_
     refine (HA.out _).mono ?_; rintro e w5 ⟨rfl, hb⟩; have HP2 := qab.mk (HTUP.out w5 (BI.below hHeld.2.2.2.2.2.2.2.2.out hb)); clear hb; refine ⟨_, rfl, ?_⟩; refine hK.out _ _ HP2.out (fun hHeld => ?_); clear hK K; refine norm_ (a' := ?_) ?_ ?_; rotate_left; (focus (show Act.put _ (some 39) _ = _; simp only [Act.put, List.setIfInBounds_toArray, List.set_cons_zero, List.set_cons_succ, i64_w, i32_w]; rfl))
     refine pure_ (i := 26) (N := some 40) (v := ?_) (a' := ?_) (msk 49 27) rfl rfl (qaq HT_.out (by kernel_rfl)) (fun _ _ _ h => h) (Or.inl ⟨by rfl, ?_⟩) ?_ ?_; rotate_left; (focus (intro w'; go_simp; with_reducible rfl)); rotate_left; (focus (simp only [Act.put, List.setIfInBounds_toArray, List.set_cons_zero, List.set_cons_succ, i64_w, i32_w]; rfl))
     refine pure_ (i := 27) (N := some 41) (v := ?_) (a' := ?_) (msk 49 28) rfl rfl (qaq HT_.out (by kernel_rfl)) (fun _ _ _ h => h) (Or.inl ⟨by rfl, ?_⟩) ?_ ?_; rotate_left; (focus (intro w'; go_simp; with_reducible rfl)); rotate_left; (focus (simp only [Act.put, List.setIfInBounds_toArray, List.set_cons_zero, List.set_cons_succ, i64_w, i32_w]; rfl))
     refine pure_ (i := 28) (N := some 42) (v := ?_) (a' := ?_) (msk 49 29) rfl rfl (qaq HT_.out (by kernel_rfl)) (fun _ _ _ h => h) (Or.inl ⟨by rfl, ?_⟩) ?_ ?_; rotate_left; (focus (intro w'; go_simp; with_reducible rfl)); rotate_left; (focus (simp only [Act.put, List.setIfInBounds_toArray, List.set_cons_zero, List.set_cons_succ, i64_w, i32_w]; rfl))
     refine pure_ (i := 29) (N := some 43) (v := ?_) (a' := ?_) (msk 49 30) rfl rfl (qaq HT_.out (by kernel_rfl)) (fun _ _ _ h => h) (Or.inl ⟨by rfl, ?_⟩) ?_ ?_; rotate_left; (focus (intro w'; go_simp; with_reducible rfl)); rotate_left; (focus (simp only [Act.put, List.setIfInBounds_toArray, List.set_cons_zero, List.set_cons_succ, i64_w, i32_w]; rfl))
     refine pure_ (i := 30) (N := some 44) (v := ?_) (a' := ?_) (msk 49 31) rfl rfl (qaq HT_.out (by kernel_rfl)) (fun _ _ _ h => h) (Or.inl ⟨by rfl, ?_⟩) ?_ ?_; rotate_left; (focus (intro w'; go_simp; with_reducible rfl)); rotate_left; (focus (simp only [Act.put, List.setIfInBounds_toArray, List.set_cons_zero, List.set_cons_succ, i64_w, i32_w]; rfl))
     refine pure_ (i := 31) (N := some 45) (v := ?_) (a' := ?_) (msk 49 32) rfl rfl (qaq HT_.out (by kernel_rfl)) (fun _ _ _ h => h) (Or.inl ⟨by rfl, ?_⟩) ?_ ?_; rotate_left; (focus (intro w'; go_simp; with_reducible rfl)); rotate_left; (focus (simp only [Act.put, List.setIfInBounds_toArray, List.set_cons_zero, List.set_cons_succ, i64_w, i32_w]; rfl))
     refine pure_ (i := 32) (N := some 46) (v := ?_) (a' := ?_) (msk 49 33) rfl rfl (qaq HT_.out (by kernel_rfl)) (fun _ _ _ h => h) (Or.inl ⟨by rfl, ?_⟩) ?_ ?_; rotate_left; (focus (intro w'; go_simp; with_reducible rfl)); rotate_left; (focus (simp only [Act.put, List.setIfInBounds_toArray, List.set_cons_zero, List.set_cons_succ, i64_w, i32_w]; rfl))
     refine take_ (i := 33) (N := some 47) (v := ?_) (a' := ?_) (msk 49 34) rfl rfl (take_ofW HT_.out HW_.out (by kernel_rfl)) (fun _ _ _ h => h) (Or.inl ⟨by rfl, ?_⟩) hHeld ?_ ?_; rotate_left; (focus (rintro w' ⟨s0, s1, s2, s3, s4, s5, s6, s7, s8⟩; go_simp; with_reducible rfl)); rotate_left; (focus (simp only [Act.put, List.setIfInBounds_toArray, List.set_cons_zero, List.set_cons_succ, i64_w, i32_w]; rfl))
     refine pure_ (i := 34) (N := some 48) (v := ?_) (a' := ?_) (msk 49 35) rfl rfl (qaq HT_.out (by kernel_rfl)) (fun _ _ _ h => h) (Or.inl ⟨by rfl, ?_⟩) ?_ ?_; rotate_left; (focus (intro w'; go_simp; with_reducible rfl)); rotate_left; (focus (simp only [Act.put, List.setIfInBounds_toArray, List.set_cons_zero, List.set_cons_succ, i64_w, i32_w]; rfl))
     refine take_ (i := 35) (N := some 49) (v := ?_) (a' := ?_) (msk 49 36) rfl rfl (take_ofW HT_.out HW_.out (by kernel_rfl)) (fun _ _ _ h => h) (Or.inl ⟨by rfl, ?_⟩) hHeld ?_ ?_; rotate_left; (focus (rintro w' ⟨s0, s1, s2, s3, s4, s5, s6, s7, s8⟩; go_simp; with_reducible rfl)); rotate_left; (focus (simp only [Act.put, List.setIfInBounds_toArray, List.set_cons_zero, List.set_cons_succ, i64_w, i32_w]; rfl))
     refine pure_ (i := 36) (N := some 50) (v := ?_) (a' := ?_) (msk 49 37) rfl rfl (qaq HT_.out (by kernel_rfl)) (fun _ _ _ h => h) (Or.inl ⟨by rfl, ?_⟩) ?_ ?_; rotate_left; (focus (intro w'; go_simp; with_reducible rfl)); rotate_left; (focus (simp only [Act.put, List.setIfInBounds_toArray, List.set_cons_zero, List.set_cons_succ, i64_w, i32_w]; rfl))
     refine pure_ (i := 37) (N := some 51) (v := ?_) (a' := ?_) (msk 49 38) rfl rfl (qaq HT_.out (by kernel_rfl)) (fun _ _ _ h => h) (Or.inl ⟨by rfl, ?_⟩) ?_ ?_; rotate_left; (focus (intro w'; go_simp; with_reducible rfl)); rotate_left; (focus (simp only [Act.put, List.setIfInBounds_toArray, List.set_cons_zero, List.set_cons_succ, i64_w, i32_w]; rfl))
     refine pure_ (i := 38) (N := some 52) (v := ?_) (a' := ?_) (msk 49 39) rfl rfl (qaq HT_.out (by kernel_rfl)) (fun _ _ _ h => h) (Or.inl ⟨by rfl, ?_⟩) ?_ ?_; rotate_left; (focus (intro w'; go_simp; with_reducible rfl)); rotate_left; (focus (simp only [Act.put, List.setIfInBounds_toArray, List.set_cons_zero, List.set_cons_succ, i64_w, i32_w]; rfl))
     refine take_ (i := 39) (N := some 53) (v := ?_) (a' := ?_) (msk 49 40) rfl rfl (take_ofW HT_.out HW_.out (by kernel_rfl)) (fun _ _ _ h => h) (Or.inl ⟨by rfl, ?_⟩) hHeld ?_ ?_; rotate_left; (focus (rintro w' ⟨s0, s1, s2, s3, s4, s5, s6, s7, s8⟩; go_simp; with_reducible rfl)); rotate_left; (focus (simp only [Act.put, List.setIfInBounds_toArray, List.set_cons_zero, List.set_cons_succ, i64_w, i32_w]; rfl))
     refine pure_ (i := 40) (N := some 54) (v := ?_) (a' := ?_) (msk 49 41) rfl rfl (qaq HT_.out (by kernel_rfl)) (fun _ _ _ h => h) (Or.inl ⟨by rfl, ?_⟩) ?_ ?_; rotate_left; (focus (intro w'; go_simp; with_reducible rfl)); rotate_left; (focus (simp only [Act.put, List.setIfInBounds_toArray, List.set_cons_zero, List.set_cons_succ, i64_w, i32_w]; rfl))
     refine take_ (i := 41) (N := some 55) (v := ?_) (a' := ?_) (msk 49 42) rfl rfl (take_ofW HT_.out HW_.out (by kernel_rfl)) (fun _ _ _ h => h) (Or.inl ⟨by rfl, ?_⟩) hHeld ?_ ?_; rotate_left; (focus (rintro w' ⟨s0, s1, s2, s3, s4, s5, s6, s7, s8⟩; go_simp; with_reducible rfl)); rotate_left; (focus (simp only [Act.put, List.setIfInBounds_toArray, List.set_cons_zero, List.set_cons_succ, i64_w, i32_w]; rfl))
     refine pure_ (i := 42) (N := some 56) (v := ?_) (a' := ?_) (msk 49 43) rfl rfl (qaq HT_.out (by kernel_rfl)) (fun _ _ _ h => h) (Or.inl ⟨by rfl, ?_⟩) ?_ ?_; rotate_left; (focus (intro w'; go_simp; with_reducible rfl)); rotate_left; (focus (simp only [Act.put, List.setIfInBounds_toArray, List.set_cons_zero, List.set_cons_succ, i64_w, i32_w]; rfl))
     refine pure_ (i := 43) (N := some 57) (v := ?_) (a' := ?_) (msk 49 44) rfl rfl (qaq HT_.out (by kernel_rfl)) (fun _ _ _ h => h) (Or.inl ⟨by rfl, ?_⟩) ?_ ?_; rotate_left; (focus (intro w'; go_simp; with_reducible rfl)); rotate_left; (focus (simp only [Act.put, List.setIfInBounds_toArray, List.set_cons_zero, List.set_cons_succ, i64_w, i32_w]; rfl))
     refine pure_ (i := 44) (N := some 58) (v := ?_) (a' := ?_) (msk 49 45) rfl rfl (qaq HT_.out (by kernel_rfl)) (fun _ _ _ h => h) (Or.inl ⟨by rfl, ?_⟩) ?_ ?_; rotate_left; (focus (intro w'; go_simp; with_reducible rfl)); rotate_left; (focus (simp only [Act.put, List.setIfInBounds_toArray, List.set_cons_zero, List.set_cons_succ, i64_w, i32_w]; rfl))
     refine take_ (i := 45) (N := some 59) (v := ?_) (a' := ?_) (msk 49 46) rfl rfl (take_ofW HT_.out HW_.out (by kernel_rfl)) (fun _ _ _ h => h) (Or.inl ⟨by rfl, ?_⟩) hHeld ?_ ?_; rotate_left; (focus (rintro w' ⟨s0, s1, s2, s3, s4, s5, s6, s7, s8⟩; go_simp; with_reducible rfl)); rotate_left; (focus (simp only [Act.put, List.setIfInBounds_toArray, List.set_cons_zero, List.set_cons_succ, i64_w, i32_w]; rfl))
     refine one_ (i := 46) (N := some 60) (msk 49 47) rfl rfl (one_of HT_.out (by kernel_rfl)) (by decide) (fun K hK => ?_)
     refine goes_ Try.func60 (by kernel_rfl) rfl #[.int .i64 t1, .int .i64 F.f0, .int .i64 F.f1] (by rfl) rfl rfl (by (try simp only [List.map_toArray, List.map_cons, List.map_nil]); first | done | rfl | (simp only [List.length_drop, List.length_take]; rfl)) ?_
     refine (HA2.out _).mono ?_; rintro e w6 ⟨rfl, hb⟩; have HP3 := qab.mk (HTUP.out w6 (BI.below hHeld.2.2.2.2.2.2.2.2.out hb)); clear hb; refine ⟨_, rfl, ?_⟩; refine hK.out _ _ HP3.out (fun hHeld => ?_); clear hK K; refine norm_ (a' := ?_) ?_ ?_; rotate_left; (focus (show Act.put _ (some 60) _ = _; simp only [Act.put, List.setIfInBounds_toArray, List.set_cons_zero, List.set_cons_succ, i64_w, i32_w]; rfl))
     refine pure_ (i := 47) (N := some 61) (v := ?_) (a' := ?_) (msk 49 48) rfl rfl (qaq HT_.out (by kernel_rfl)) (fun _ _ _ h => h) (Or.inl ⟨by rfl, ?_⟩) ?_ ?_; rotate_left; (focus (intro w'; go_simp; with_reducible rfl)); rotate_left; (focus (simp only [Act.put, List.setIfInBounds_toArray, List.set_cons_zero, List.set_cons_succ, i64_w, i32_w]; rfl))
     refine pure_ (i := 48) (N := some 62) (v := ?_) (a' := ?_) (msk 49 49) rfl rfl (qaq HT_.out (by kernel_rfl)) (fun _ _ _ h => h) (Or.inl ⟨by rfl, ?_⟩) ?_ ?_; rotate_left; (focus (intro w'; go_simp; with_reducible rfl)); rotate_left; (focus (simp only [Act.put, List.setIfInBounds_toArray, List.set_cons_zero, List.set_cons_succ, i64_w, i32_w]; rfl))
     refine done_ (done_of HT_.out (by kernel_rfl)) ?_
     go_wp2_with fail
     try go_ret
     exact ⟨rfl, HP3.out.2.2.2.2.2.2.2.2.out.hb⟩
    | true =>
     have HA2 : qab (∀ W, Calls Try.prog 60 #[.int .i64 t1, .int .i64 F.f0, .int .i64 F.f1] W fun e w' => e = .returned (.bool true) ∧ Below W.heap.size W w') := ⟨fun W => by have h := rin_calls t1 F.f0 F.f1 W; rw [hA2] at h; exact h⟩
     rw [hA2, Bool.true_and] at he
     have HE := qab.mk he
     clear hA2 he
     go_upto_region 4 with fail
     refine start_ (n := 49) (S := fun w' => (w'.cell? ⟨gb, 0, none⟩ = some (.slice (some ad) l0_0.length c0_0) ∧ w'.cell? ⟨gb, 1, none⟩ = some (.slice (some ad1) l0_1.length c0_1) ∧ w'.cell? (ad2.add (k * 3)) = some (.int .i64 t0) ∧ w'.cell? ⟨(ad2.add (k * 3)).block, (ad2.add (k * 3)).off + 1, none⟩ = some (.int .i64 t1) ∧ w'.cell? ⟨(ad.add (n * 12)).block, (ad.add (n * 12)).off + 2, none⟩ = some (.int .i64 L.f1.f0) ∧ w'.cell? ⟨(ad.add (n * 12)).block, (ad.add (n * 12)).off + 3, none⟩ = some (.int .i64 L.f1.f1) ∧ w'.cell? (ad1.add (k * 2)) = some (.int .i64 F.f0) ∧ w'.cell? ⟨(ad1.add (k * 2)).block, (ad1.add (k * 2)).off + 1, none⟩ = some (.int .i64 F.f1) ∧ qab (BI w gb #[.slice (some ad) l0_0.length c0_0, .slice (some ad1) l0_1.length c0_1, .slice A0_2 l0_2.length c0_2] w'))) (ds := []) (msk 49 0) (by kernel_rfl) rfl (by kernel_rfl) HP1.out (fun hHeld => ?_); refine with_tabW talikref04_Truth.tab4 talikref04_Truth.bits4 (fun HT_ HW_ => ?_)
     refine pure_ (i := 0) (N := some 14) (v := ?_) (a' := ?_) (msk 49 1) rfl rfl (qaq HT_.out (by kernel_rfl)) (fun _ _ _ h => h) (Or.inl ⟨by rfl, ?_⟩) ?_ ?_; rotate_left; (focus (intro w'; go_simp; with_reducible rfl)); rotate_left; (focus (simp only [Act.put, List.setIfInBounds_toArray, List.set_cons_zero, List.set_cons_succ, i64_w, i32_w]; rfl))
     refine pure_ (i := 1) (N := some 15) (v := ?_) (a' := ?_) (msk 49 2) rfl rfl (qaq HT_.out (by kernel_rfl)) (fun _ _ _ h => h) (Or.inl ⟨by rfl, ?_⟩) ?_ ?_; rotate_left; (focus (intro w'; go_simp; with_reducible rfl)); rotate_left; (focus (simp only [Act.put, List.setIfInBounds_toArray, List.set_cons_zero, List.set_cons_succ, i64_w, i32_w]; rfl))
     refine take_ (i := 2) (N := some 16) (v := ?_) (a' := ?_) (msk 49 3) rfl rfl (take_ofW HT_.out HW_.out (by kernel_rfl)) (fun _ _ _ h => h) (Or.inl ⟨by rfl, ?_⟩) hHeld ?_ ?_; rotate_left; (focus (rintro w' ⟨s0, s1, s2, s3, s4, s5, s6, s7, s8⟩; go_simp; with_reducible rfl)); rotate_left; (focus (simp only [Act.put, List.setIfInBounds_toArray, List.set_cons_zero, List.set_cons_succ, i64_w, i32_w]; rfl))
     refine pure_ (i := 3) (N := some 17) (v := ?_) (a' := ?_) (msk 49 4) rfl rfl (qaq HT_.out (by kernel_rfl)) (fun _ _ _ h => h) (Or.inl ⟨by rfl, ?_⟩) ?_ ?_; rotate_left; (focus (intro w'; go_simp; with_reducible rfl)); rotate_left; (focus (simp only [Act.put, List.setIfInBounds_toArray, List.set_cons_zero, List.set_cons_succ, i64_w, i32_w]; rfl))
     refine pure_ (i := 4) (N := some 18) (v := ?_) (a' := ?_) (msk 49 5) rfl rfl (qaq HT_.out (by kernel_rfl)) (fun _ _ _ h => h) (Or.inl ⟨by rfl, ?_⟩) ?_ ?_; rotate_left; (focus (intro w'; go_simp; with_reducible rfl)); rotate_left; (focus (simp only [Act.put, List.setIfInBounds_toArray, List.set_cons_zero, List.set_cons_succ, i64_w, i32_w]; rfl))
     refine pure_ (i := 5) (N := some 19) (v := ?_) (a' := ?_) (msk 49 6) rfl rfl (qaq HT_.out (by kernel_rfl)) (fun _ _ _ h => h) (Or.inl ⟨by rfl, ?_⟩) ?_ ?_; rotate_left; (focus (intro w'; go_simp; with_reducible rfl)); rotate_left; (focus (simp only [Act.put, List.setIfInBounds_toArray, List.set_cons_zero, List.set_cons_succ, i64_w, i32_w]; rfl))
     refine pure_ (i := 6) (N := some 20) (v := ?_) (a' := ?_) (msk 49 7) rfl rfl (qaq HT_.out (by kernel_rfl)) (fun _ _ _ h => h) (Or.inl ⟨by rfl, ?_⟩) ?_ ?_; rotate_left; (focus (intro w'; go_simp; with_reducible rfl)); rotate_left; (focus (simp only [Act.put, List.setIfInBounds_toArray, List.set_cons_zero, List.set_cons_succ, i64_w, i32_w]; rfl))
     refine pure_ (i := 7) (N := some 21) (v := ?_) (a' := ?_) (msk 49 8) rfl rfl (qaq HT_.out (by kernel_rfl)) (fun _ _ _ h => h) (Or.inl ⟨by rfl, ?_⟩) ?_ ?_; rotate_left; (focus (intro w'; go_simp; with_reducible rfl)); rotate_left; (focus (simp only [Act.put, List.setIfInBounds_toArray, List.set_cons_zero, List.set_cons_succ, i64_w, i32_w]; rfl))
     refine pure_ (i := 8) (N := some 22) (v := ?_) (a' := ?_) (msk 49 9) rfl rfl (qaq HT_.out (by kernel_rfl)) (fun _ _ _ h => h) (Or.inl ⟨by rfl, ?_⟩) ?_ ?_; rotate_left; (focus (intro w'; go_simp; with_reducible rfl)); rotate_left; (focus (simp only [Act.put, List.setIfInBounds_toArray, List.set_cons_zero, List.set_cons_succ, i64_w, i32_w]; rfl))
     refine pure_ (i := 9) (N := some 23) (v := ?_) (a' := ?_) (msk 49 10) rfl rfl (qaq HT_.out (by kernel_rfl)) (fun _ _ _ h => h) (Or.inl ⟨by rfl, ?_⟩) ?_ ?_; rotate_left; (focus (intro w'; go_simp; with_reducible rfl)); rotate_left; (focus (simp only [Act.put, List.setIfInBounds_toArray, List.set_cons_zero, List.set_cons_succ, i64_w, i32_w]; rfl))
     refine take_ (i := 10) (N := some 24) (v := ?_) (a' := ?_) (msk 49 11) rfl rfl (take_ofW HT_.out HW_.out (by kernel_rfl)) (fun _ _ _ h => h) (Or.inl ⟨by rfl, ?_⟩) hHeld ?_ ?_; rotate_left; (focus (rintro w' ⟨s0, s1, s2, s3, s4, s5, s6, s7, s8⟩; go_simp; with_reducible rfl)); rotate_left; (focus (simp only [Act.put, List.setIfInBounds_toArray, List.set_cons_zero, List.set_cons_succ, i64_w, i32_w]; rfl))
     refine pure_ (i := 11) (N := some 25) (v := ?_) (a' := ?_) (msk 49 12) rfl rfl (qaq HT_.out (by kernel_rfl)) (fun _ _ _ h => h) (Or.inl ⟨by rfl, ?_⟩) ?_ ?_; rotate_left; (focus (intro w'; go_simp; with_reducible rfl)); rotate_left; (focus (simp only [Act.put, List.setIfInBounds_toArray, List.set_cons_zero, List.set_cons_succ, i64_w, i32_w]; rfl))
     refine take_ (i := 12) (N := some 26) (v := ?_) (a' := ?_) (msk 49 13) rfl rfl (take_ofW HT_.out HW_.out (by kernel_rfl)) (fun _ _ _ h => h) (Or.inl ⟨by rfl, ?_⟩) hHeld ?_ ?_; rotate_left; (focus (rintro w' ⟨s0, s1, s2, s3, s4, s5, s6, s7, s8⟩; go_simp; with_reducible rfl)); rotate_left; (focus (simp only [Act.put, List.setIfInBounds_toArray, List.set_cons_zero, List.set_cons_succ, i64_w, i32_w]; rfl))
     refine pure_ (i := 13) (N := some 27) (v := ?_) (a' := ?_) (msk 49 14) rfl rfl (qaq HT_.out (by kernel_rfl)) (fun _ _ _ h => h) (Or.inl ⟨by rfl, ?_⟩) ?_ ?_; rotate_left; (focus (intro w'; go_simp; with_reducible rfl)); rotate_left; (focus (simp only [Act.put, List.setIfInBounds_toArray, List.set_cons_zero, List.set_cons_succ, i64_w, i32_w]; rfl))
     refine pure_ (i := 14) (N := some 28) (v := ?_) (a' := ?_) (msk 49 15) rfl rfl (qaq HT_.out (by kernel_rfl)) (fun _ _ _ h => h) (Or.inl ⟨by rfl, ?_⟩) ?_ ?_; rotate_left; (focus (intro w'; go_simp; with_reducible rfl)); rotate_left; (focus (simp only [Act.put, List.setIfInBounds_toArray, List.set_cons_zero, List.set_cons_succ, i64_w, i32_w]; rfl))
     refine pure_ (i := 15) (N := some 29) (v := ?_) (a' := ?_) (msk 49 16) rfl rfl (qaq HT_.out (by kernel_rfl)) (fun _ _ _ h => h) (Or.inl ⟨by rfl, ?_⟩) ?_ ?_; rotate_left; (focus (intro w'; go_simp; with_reducible rfl)); rotate_left; (focus (simp only [Act.put, List.setIfInBounds_toArray, List.set_cons_zero, List.set_cons_succ, i64_w, i32_w]; rfl))
     refine pure_ (i := 16) (N := some 30) (v := ?_) (a' := ?_) (msk 49 17) rfl rfl (qaq HT_.out (by kernel_rfl)) (fun _ _ _ h => h) (Or.inl ⟨by rfl, ?_⟩) ?_ ?_; rotate_left; (focus (intro w'; go_simp; with_reducible rfl)); rotate_left; (focus (simp only [Act.put, List.setIfInBounds_toArray, List.set_cons_zero, List.set_cons_succ, i64_w, i32_w]; rfl))
     refine take_ (i := 17) (N := some 31) (v := ?_) (a' := ?_) (msk 49 18) rfl rfl (take_ofW HT_.out HW_.out (by kernel_rfl)) (fun _ _ _ h => h) (Or.inl ⟨by rfl, ?_⟩) hHeld ?_ ?_; rotate_left; (focus (rintro w' ⟨s0, s1, s2, s3, s4, s5, s6, s7, s8⟩; go_simp; with_reducible rfl)); rotate_left; (focus (simp only [Act.put, List.setIfInBounds_toArray, List.set_cons_zero, List.set_cons_succ, i64_w, i32_w]; rfl))
     refine pure_ (i := 18) (N := some 32) (v := ?_) (a' := ?_) (msk 49 19) rfl rfl (qaq HT_.out (by kernel_rfl)) (fun _ _ _ h => h) (Or.inl ⟨by rfl, ?_⟩) ?_ ?_; rotate_left; (focus (intro w'; go_simp; with_reducible rfl)); rotate_left; (focus (simp only [Act.put, List.setIfInBounds_toArray, List.set_cons_zero, List.set_cons_succ, i64_w, i32_w]; rfl))
     refine take_ (i := 19) (N := some 33) (v := ?_) (a' := ?_) (msk 49 20) rfl rfl (take_ofW HT_.out HW_.out (by kernel_rfl)) (fun _ _ _ h => h) (Or.inl ⟨by rfl, ?_⟩) hHeld ?_ ?_; rotate_left; (focus (rintro w' ⟨s0, s1, s2, s3, s4, s5, s6, s7, s8⟩; go_simp; with_reducible rfl)); rotate_left; (focus (simp only [Act.put, List.setIfInBounds_toArray, List.set_cons_zero, List.set_cons_succ, i64_w, i32_w]; rfl))
     refine pure_ (i := 20) (N := some 34) (v := ?_) (a' := ?_) (msk 49 21) rfl rfl (qaq HT_.out (by kernel_rfl)) (fun _ _ _ h => h) (Or.inl ⟨by rfl, ?_⟩) ?_ ?_; rotate_left; (focus (intro w'; go_simp; with_reducible rfl)); rotate_left; (focus (simp only [Act.put, List.setIfInBounds_toArray, List.set_cons_zero, List.set_cons_succ, i64_w, i32_w]; rfl))
     refine pure_ (i := 21) (N := some 35) (v := ?_) (a' := ?_) (msk 49 22) rfl rfl (qaq HT_.out (by kernel_rfl)) (fun _ _ _ h => h) (Or.inl ⟨by rfl, ?_⟩) ?_ ?_; rotate_left; (focus (intro w'; go_simp; with_reducible rfl)); rotate_left; (focus (simp only [Act.put, List.setIfInBounds_toArray, List.set_cons_zero, List.set_cons_succ, i64_w, i32_w]; rfl))
     refine pure_ (i := 22) (N := some 36) (v := ?_) (a' := ?_) (msk 49 23) rfl rfl (qaq HT_.out (by kernel_rfl)) (fun _ _ _ h => h) (Or.inl ⟨by rfl, ?_⟩) ?_ ?_; rotate_left; (focus (intro w'; go_simp; with_reducible rfl)); rotate_left; (focus (simp only [Act.put, List.setIfInBounds_toArray, List.set_cons_zero, List.set_cons_succ, i64_w, i32_w]; rfl))
     refine pure_ (i := 23) (N := some 37) (v := ?_) (a' := ?_) (msk 49 24) rfl rfl (qaq HT_.out (by kernel_rfl)) (fun _ _ _ h => h) (Or.inl ⟨by rfl, ?_⟩) ?_ ?_; rotate_left; (focus (intro w'; go_simp; with_reducible rfl)); rotate_left; (focus (simp only [Act.put, List.setIfInBounds_toArray, List.set_cons_zero, List.set_cons_succ, i64_w, i32_w]; rfl))
     refine take_ (i := 24) (N := some 38) (v := ?_) (a' := ?_) (msk 49 25) rfl rfl (take_ofW HT_.out HW_.out (by kernel_rfl)) (fun _ _ _ h => h) (Or.inl ⟨by rfl, ?_⟩) hHeld ?_ ?_; rotate_left; (focus (rintro w' ⟨s0, s1, s2, s3, s4, s5, s6, s7, s8⟩; go_simp; with_reducible rfl)); rotate_left; (focus (simp only [Act.put, List.setIfInBounds_toArray, List.set_cons_zero, List.set_cons_succ, i64_w, i32_w]; rfl))
     refine one_ (i := 25) (N := some 39) (msk 49 26) rfl rfl (one_of HT_.out (by kernel_rfl)) (by decide) (fun K hK => ?_)
     refine goes_ Try.func60 (by kernel_rfl) rfl #[.int .i64 t0, .int .i64 L.f1.f0, .int .i64 L.f1.f1] (by rfl) rfl rfl (by (try simp only [List.map_toArray, List.map_cons, List.map_nil]); first | done | rfl | (simp only [List.length_drop, List.length_take]; rfl)) ?_
     refine (HA.out _).mono ?_; rintro e w5 ⟨rfl, hb⟩; have HP2 := qab.mk (HTUP.out w5 (BI.below hHeld.2.2.2.2.2.2.2.2.out hb)); clear hb; refine ⟨_, rfl, ?_⟩; refine hK.out _ _ HP2.out (fun hHeld => ?_); clear hK K; refine norm_ (a' := ?_) ?_ ?_; rotate_left; (focus (show Act.put _ (some 39) _ = _; simp only [Act.put, List.setIfInBounds_toArray, List.set_cons_zero, List.set_cons_succ, i64_w, i32_w]; rfl))
     refine pure_ (i := 26) (N := some 40) (v := ?_) (a' := ?_) (msk 49 27) rfl rfl (qaq HT_.out (by kernel_rfl)) (fun _ _ _ h => h) (Or.inl ⟨by rfl, ?_⟩) ?_ ?_; rotate_left; (focus (intro w'; go_simp; with_reducible rfl)); rotate_left; (focus (simp only [Act.put, List.setIfInBounds_toArray, List.set_cons_zero, List.set_cons_succ, i64_w, i32_w]; rfl))
     refine pure_ (i := 27) (N := some 41) (v := ?_) (a' := ?_) (msk 49 28) rfl rfl (qaq HT_.out (by kernel_rfl)) (fun _ _ _ h => h) (Or.inl ⟨by rfl, ?_⟩) ?_ ?_; rotate_left; (focus (intro w'; go_simp; with_reducible rfl)); rotate_left; (focus (simp only [Act.put, List.setIfInBounds_toArray, List.set_cons_zero, List.set_cons_succ, i64_w, i32_w]; rfl))
     refine pure_ (i := 28) (N := some 42) (v := ?_) (a' := ?_) (msk 49 29) rfl rfl (qaq HT_.out (by kernel_rfl)) (fun _ _ _ h => h) (Or.inl ⟨by rfl, ?_⟩) ?_ ?_; rotate_left; (focus (intro w'; go_simp; with_reducible rfl)); rotate_left; (focus (simp only [Act.put, List.setIfInBounds_toArray, List.set_cons_zero, List.set_cons_succ, i64_w, i32_w]; rfl))
     refine pure_ (i := 29) (N := some 43) (v := ?_) (a' := ?_) (msk 49 30) rfl rfl (qaq HT_.out (by kernel_rfl)) (fun _ _ _ h => h) (Or.inl ⟨by rfl, ?_⟩) ?_ ?_; rotate_left; (focus (intro w'; go_simp; with_reducible rfl)); rotate_left; (focus (simp only [Act.put, List.setIfInBounds_toArray, List.set_cons_zero, List.set_cons_succ, i64_w, i32_w]; rfl))
     refine pure_ (i := 30) (N := some 44) (v := ?_) (a' := ?_) (msk 49 31) rfl rfl (qaq HT_.out (by kernel_rfl)) (fun _ _ _ h => h) (Or.inl ⟨by rfl, ?_⟩) ?_ ?_; rotate_left; (focus (intro w'; go_simp; with_reducible rfl)); rotate_left; (focus (simp only [Act.put, List.setIfInBounds_toArray, List.set_cons_zero, List.set_cons_succ, i64_w, i32_w]; rfl))
     refine pure_ (i := 31) (N := some 45) (v := ?_) (a' := ?_) (msk 49 32) rfl rfl (qaq HT_.out (by kernel_rfl)) (fun _ _ _ h => h) (Or.inl ⟨by rfl, ?_⟩) ?_ ?_; rotate_left; (focus (intro w'; go_simp; with_reducible rfl)); rotate_left; (focus (simp only [Act.put, List.setIfInBounds_toArray, List.set_cons_zero, List.set_cons_succ, i64_w, i32_w]; rfl))
     refine pure_ (i := 32) (N := some 46) (v := ?_) (a' := ?_) (msk 49 33) rfl rfl (qaq HT_.out (by kernel_rfl)) (fun _ _ _ h => h) (Or.inl ⟨by rfl, ?_⟩) ?_ ?_; rotate_left; (focus (intro w'; go_simp; with_reducible rfl)); rotate_left; (focus (simp only [Act.put, List.setIfInBounds_toArray, List.set_cons_zero, List.set_cons_succ, i64_w, i32_w]; rfl))
     refine take_ (i := 33) (N := some 47) (v := ?_) (a' := ?_) (msk 49 34) rfl rfl (take_ofW HT_.out HW_.out (by kernel_rfl)) (fun _ _ _ h => h) (Or.inl ⟨by rfl, ?_⟩) hHeld ?_ ?_; rotate_left; (focus (rintro w' ⟨s0, s1, s2, s3, s4, s5, s6, s7, s8⟩; go_simp; with_reducible rfl)); rotate_left; (focus (simp only [Act.put, List.setIfInBounds_toArray, List.set_cons_zero, List.set_cons_succ, i64_w, i32_w]; rfl))
     refine pure_ (i := 34) (N := some 48) (v := ?_) (a' := ?_) (msk 49 35) rfl rfl (qaq HT_.out (by kernel_rfl)) (fun _ _ _ h => h) (Or.inl ⟨by rfl, ?_⟩) ?_ ?_; rotate_left; (focus (intro w'; go_simp; with_reducible rfl)); rotate_left; (focus (simp only [Act.put, List.setIfInBounds_toArray, List.set_cons_zero, List.set_cons_succ, i64_w, i32_w]; rfl))
     refine take_ (i := 35) (N := some 49) (v := ?_) (a' := ?_) (msk 49 36) rfl rfl (take_ofW HT_.out HW_.out (by kernel_rfl)) (fun _ _ _ h => h) (Or.inl ⟨by rfl, ?_⟩) hHeld ?_ ?_; rotate_left; (focus (rintro w' ⟨s0, s1, s2, s3, s4, s5, s6, s7, s8⟩; go_simp; with_reducible rfl)); rotate_left; (focus (simp only [Act.put, List.setIfInBounds_toArray, List.set_cons_zero, List.set_cons_succ, i64_w, i32_w]; rfl))
     refine pure_ (i := 36) (N := some 50) (v := ?_) (a' := ?_) (msk 49 37) rfl rfl (qaq HT_.out (by kernel_rfl)) (fun _ _ _ h => h) (Or.inl ⟨by rfl, ?_⟩) ?_ ?_; rotate_left; (focus (intro w'; go_simp; with_reducible rfl)); rotate_left; (focus (simp only [Act.put, List.setIfInBounds_toArray, List.set_cons_zero, List.set_cons_succ, i64_w, i32_w]; rfl))
     refine pure_ (i := 37) (N := some 51) (v := ?_) (a' := ?_) (msk 49 38) rfl rfl (qaq HT_.out (by kernel_rfl)) (fun _ _ _ h => h) (Or.inl ⟨by rfl, ?_⟩) ?_ ?_; rotate_left; (focus (intro w'; go_simp; with_reducible rfl)); rotate_left; (focus (simp only [Act.put, List.setIfInBounds_toArray, List.set_cons_zero, List.set_cons_succ, i64_w, i32_w]; rfl))
     refine pure_ (i := 38) (N := some 52) (v := ?_) (a' := ?_) (msk 49 39) rfl rfl (qaq HT_.out (by kernel_rfl)) (fun _ _ _ h => h) (Or.inl ⟨by rfl, ?_⟩) ?_ ?_; rotate_left; (focus (intro w'; go_simp; with_reducible rfl)); rotate_left; (focus (simp only [Act.put, List.setIfInBounds_toArray, List.set_cons_zero, List.set_cons_succ, i64_w, i32_w]; rfl))
     refine take_ (i := 39) (N := some 53) (v := ?_) (a' := ?_) (msk 49 40) rfl rfl (take_ofW HT_.out HW_.out (by kernel_rfl)) (fun _ _ _ h => h) (Or.inl ⟨by rfl, ?_⟩) hHeld ?_ ?_; rotate_left; (focus (rintro w' ⟨s0, s1, s2, s3, s4, s5, s6, s7, s8⟩; go_simp; with_reducible rfl)); rotate_left; (focus (simp only [Act.put, List.setIfInBounds_toArray, List.set_cons_zero, List.set_cons_succ, i64_w, i32_w]; rfl))
     refine pure_ (i := 40) (N := some 54) (v := ?_) (a' := ?_) (msk 49 41) rfl rfl (qaq HT_.out (by kernel_rfl)) (fun _ _ _ h => h) (Or.inl ⟨by rfl, ?_⟩) ?_ ?_; rotate_left; (focus (intro w'; go_simp; with_reducible rfl)); rotate_left; (focus (simp only [Act.put, List.setIfInBounds_toArray, List.set_cons_zero, List.set_cons_succ, i64_w, i32_w]; rfl))
     refine take_ (i := 41) (N := some 55) (v := ?_) (a' := ?_) (msk 49 42) rfl rfl (take_ofW HT_.out HW_.out (by kernel_rfl)) (fun _ _ _ h => h) (Or.inl ⟨by rfl, ?_⟩) hHeld ?_ ?_; rotate_left; (focus (rintro w' ⟨s0, s1, s2, s3, s4, s5, s6, s7, s8⟩; go_simp; with_reducible rfl)); rotate_left; (focus (simp only [Act.put, List.setIfInBounds_toArray, List.set_cons_zero, List.set_cons_succ, i64_w, i32_w]; rfl))
     refine pure_ (i := 42) (N := some 56) (v := ?_) (a' := ?_) (msk 49 43) rfl rfl (qaq HT_.out (by kernel_rfl)) (fun _ _ _ h => h) (Or.inl ⟨by rfl, ?_⟩) ?_ ?_; rotate_left; (focus (intro w'; go_simp; with_reducible rfl)); rotate_left; (focus (simp only [Act.put, List.setIfInBounds_toArray, List.set_cons_zero, List.set_cons_succ, i64_w, i32_w]; rfl))
     refine pure_ (i := 43) (N := some 57) (v := ?_) (a' := ?_) (msk 49 44) rfl rfl (qaq HT_.out (by kernel_rfl)) (fun _ _ _ h => h) (Or.inl ⟨by rfl, ?_⟩) ?_ ?_; rotate_left; (focus (intro w'; go_simp; with_reducible rfl)); rotate_left; (focus (simp only [Act.put, List.setIfInBounds_toArray, List.set_cons_zero, List.set_cons_succ, i64_w, i32_w]; rfl))
     refine pure_ (i := 44) (N := some 58) (v := ?_) (a' := ?_) (msk 49 45) rfl rfl (qaq HT_.out (by kernel_rfl)) (fun _ _ _ h => h) (Or.inl ⟨by rfl, ?_⟩) ?_ ?_; rotate_left; (focus (intro w'; go_simp; with_reducible rfl)); rotate_left; (focus (simp only [Act.put, List.setIfInBounds_toArray, List.set_cons_zero, List.set_cons_succ, i64_w, i32_w]; rfl))
     refine take_ (i := 45) (N := some 59) (v := ?_) (a' := ?_) (msk 49 46) rfl rfl (take_ofW HT_.out HW_.out (by kernel_rfl)) (fun _ _ _ h => h) (Or.inl ⟨by rfl, ?_⟩) hHeld ?_ ?_; rotate_left; (focus (rintro w' ⟨s0, s1, s2, s3, s4, s5, s6, s7, s8⟩; go_simp; with_reducible rfl)); rotate_left; (focus (simp only [Act.put, List.setIfInBounds_toArray, List.set_cons_zero, List.set_cons_succ, i64_w, i32_w]; rfl))
     refine one_ (i := 46) (N := some 60) (msk 49 47) rfl rfl (one_of HT_.out (by kernel_rfl)) (by decide) (fun K hK => ?_)
     refine goes_ Try.func60 (by kernel_rfl) rfl #[.int .i64 t1, .int .i64 F.f0, .int .i64 F.f1] (by rfl) rfl rfl (by (try simp only [List.map_toArray, List.map_cons, List.map_nil]); first | done | rfl | (simp only [List.length_drop, List.length_take]; rfl)) ?_
     refine (HA2.out _).mono ?_; rintro e w6 ⟨rfl, hb⟩; have HP3 := qab.mk (HTUP.out w6 (BI.below hHeld.2.2.2.2.2.2.2.2.out hb)); clear hb; refine ⟨_, rfl, ?_⟩; refine hK.out _ _ HP3.out (fun hHeld => ?_); clear hK K; refine norm_ (a' := ?_) ?_ ?_; rotate_left; (focus (show Act.put _ (some 60) _ = _; simp only [Act.put, List.setIfInBounds_toArray, List.set_cons_zero, List.set_cons_succ, i64_w, i32_w]; rfl))
     refine pure_ (i := 47) (N := some 61) (v := ?_) (a' := ?_) (msk 49 48) rfl rfl (qaq HT_.out (by kernel_rfl)) (fun _ _ _ h => h) (Or.inl ⟨by rfl, ?_⟩) ?_ ?_; rotate_left; (focus (intro w'; go_simp; with_reducible rfl)); rotate_left; (focus (simp only [Act.put, List.setIfInBounds_toArray, List.set_cons_zero, List.set_cons_succ, i64_w, i32_w]; rfl))
     refine pure_ (i := 48) (N := some 62) (v := ?_) (a' := ?_) (msk 49 49) rfl rfl (qaq HT_.out (by kernel_rfl)) (fun _ _ _ h => h) (Or.inl ⟨by rfl, ?_⟩) ?_ ?_; rotate_left; (focus (intro w'; go_simp; with_reducible rfl)); rotate_left; (focus (simp only [Act.put, List.setIfInBounds_toArray, List.set_cons_zero, List.set_cons_succ, i64_w, i32_w]; rfl))
     refine done_ (done_of HT_.out (by kernel_rfl)) ?_
     have hw1 : IntKind.i64.wrap ((k : Int) + 1) = (k : Int) + 1 := by rw [i64_w]; unfold wrap64; omega
     go_wp2_with fail
     go_roundw
     case rel => exact ⟨k + 1, by omega, by go_num, HE, HP3.out.2.2.2.2.2.2.2.2⟩
     case measure => simp [intOf]; omega
  ·
   have he := HF.out
   rw [List.drop_eq_nil_of_le (by omega)] at he
   simp only [truthB] at he
   subst he
   go_wp2_with fail
   try rw [Exit.noGoto_ret]
   go_ret
   exact ⟨rfl, HT.out.hb⟩
end Go.Proofs.Ytipphcjgdebecaa.PA
namespace Go.Proofs.Ytipphcjgdebecaa.PA
open Go.RowKit Go.Proofs.YtipphcjgdebecaaW.PrintWords Go.Proofs.YtipphcjgdebecaaW.PrintLast Go.Proofs.YtipphcjgdebecaaW.PrintMore
attribute [local go_sem] max2_int min2_int max_two min_two max_three min_three max_four min_four
def talikref04_Loss.f (a0_0 : Int) (a0_1 : Int) (a0_2 : Int) (a0_3 : Int) (a0_4 : Int) (a0_5 : Int) (a0_6 : Int) (a0_7 : Int) (a0_8 : Int) (a0_9 : Int) (a0_10 : Int) (a0_11 : Int) (a1 : Int) (a2_0 : Int) (a2_1 : Int) (a2_2 : Bool) : Option (Int) := if a2_2 = true then (some (mn (wrap64 (a1 + a0_9)) (wrap64 (Int.tdiv (wrap64 (a2_0 * (wrap64 (a1 + a2_1)))) 1000)))) else (some (mn a1 (wrap64 (Int.tdiv (wrap64 (a2_0 * (wrap64 (a1 + a2_1)))) 1000))))
set_option maxHeartbeats 8000000 in
set_option maxRecDepth 100000 in
theorem talikref04_Loss.calls (a0_0 : Int) (a0_1 : Int) (a0_2 : Int) (a0_3 : Int) (a0_4 : Int) (a0_5 : Int) (a0_6 : Int) (a0_7 : Int) (a0_8 : Int) (a0_9 : Int) (a0_10 : Int) (a0_11 : Int) (a1 : Int) (a2_0 : Int) (a2_1 : Int) (a2_2 : Bool) (r : Int) (w : World) (h : talikref04_Loss.f a0_0 a0_1 a0_2 a0_3 a0_4 a0_5 a0_6 a0_7 a0_8 a0_9 a0_10 a0_11 a1 a2_0 a2_1 a2_2 = some r) :
  Calls Try.prog 61 #[.agg #[.int .i64 a0_0, .int .i64 a0_1, .int .i64 a0_2, .int .i64 a0_3, .int .i64 a0_4, .int .i64 a0_5, .int .i64 a0_6, .int .i64 a0_7, .int .i64 a0_8, .int .i64 a0_9, .int .i64 a0_10, .int .i64 a0_11], .int .i64 a1, .agg #[.int .i64 a2_0, .int .i64 a2_1, .bool a2_2]] w fun e w' => e = .returned (.int .i64 r) ∧ Below w.heap.size w w' := by
 have hu39 := Try.underlying39
 have hu44 := Try.underlying44
 have HB := qab.mk (Below.refl w.heap.size w)
 have H : (if a2_2 = true then (some (mn (wrap64 (a1 + a0_9)) (wrap64 (Int.tdiv (wrap64 (a2_0 * (wrap64 (a1 + a2_1)))) 1000)))) else (some (mn a1 (wrap64 (Int.tdiv (wrap64 (a2_0 * (wrap64 (a1 + a2_1)))) 1000))))) = some r := h
 clear h
 by_cases c4 : a2_2 = true
 ·
  subst c4
  have H1 : (some (mn (wrap64 (a1 + a0_9)) (wrap64 (Int.tdiv (wrap64 (a2_0 * (wrap64 (a1 + a2_1)))) 1000)))) = some r := by rw [if_pos rfl] at H; exact H
  clear H
  have H := H1
  clear H1
  obtain ⟨ji5, hji5⟩ : ∃ j_ : Int, (mn (wrap64 (a1 + a0_9)) (wrap64 (Int.tdiv (wrap64 (a2_0 * (wrap64 (a1 + a2_1)))) 1000))) = j_ := ⟨_, rfl⟩
  replace H : (some ji5) = some r := by first | (rw [hji5] at H; exact H) | (simp only [hji5] at H ⊢; exact H)
  have hji5_ : (if (wrap64 (Int.tdiv (wrap64 (a2_0 * (wrap64 (a1 + a2_1)))) 1000)) < (wrap64 (a1 + a0_9)) then (wrap64 (Int.tdiv (wrap64 (a2_0 * (wrap64 (a1 + a2_1)))) 1000)) else (wrap64 (a1 + a0_9))) = ji5 := hji5
  obtain rfl := Option.some.inj H
  go_enter Try.func61, Try.ntmps61
  go_wp2_with (first | ((with_reducible refine qar (N := 3) rfl ?_); refine qap ?hg (N := 3) ?hd (cs := #[.int .i64 a0_0, .int .i64 a0_1, .int .i64 a0_2, .int .i64 a0_3, .int .i64 a0_4, .int .i64 a0_5, .int .i64 a0_6, .int .i64 a0_7, .int .i64 a0_8, .int .i64 a0_9, .int .i64 a0_10, .int .i64 a0_11]) (t := 39) ?hr ?_; (case hd => rfl); (case hg => rfl); (case hr => first | (go_simp; done) | (go_simp; rfl)); intro gb183 hg w6 hbox hb; have n0_ := qab.mk (qag (by repeat (first | (with_reducible first | exact HB.out | apply qae | apply qad | apply qaf) | exact HB.out)) hb); have n1_ := qab.mk (hbox); have n2_ := qab.mk ((by rw [hg]; exact (qan (by repeat (first | (with_reducible first | exact HB.out | apply qae | apply qad | apply qaf) | exact HB.out))) : w.heap.size ≤ gb183)); have n3_ := qab.mk ((by rw [hg]; exact (qan (by repeat (first | (with_reducible first | exact HB.out | apply qae | apply qad | apply qaf) | exact HB.out))) : w.heap.size ≤ gb183)); clear HB; have HB := n0_; have BK183 := n1_; have GW183 := n2_; have GE183 := n3_; clear n0_ n1_ n2_ n3_; clear hb hbox hg) | ((with_reducible refine qar (N := 5) rfl ?_); refine qap ?hg (N := 5) ?hd (cs := #[.int .i64 a2_0, .int .i64 a2_1, .bool true]) (t := 44) ?hr ?_; (case hd => rfl); (case hg => rfl); (case hr => first | (go_simp; done) | (go_simp; rfl)); intro gb184 hg w7 hbox hb; have n0_ := qab.mk (qah (g := gb183) (o := .cells #[.int .i64 a0_0, .int .i64 a0_1, .int .i64 a0_2, .int .i64 a0_3, .int .i64 a0_4, .int .i64 a0_5, .int .i64 a0_6, .int .i64 a0_7, .int .i64 a0_8, .int .i64 a0_9, .int .i64 a0_10, .int .i64 a0_11] 39 (0, 0)) (by (with_reducible repeat (first | refine qal ?_ _ | refine qao ?_ | refine qaj ?_ _)); exact BK183.out) hb); have n1_ := qab.mk (qag (by repeat (first | (with_reducible first | exact HB.out | apply qae | apply qad | apply qaf | refine qai ?_ GE183.out) | exact HB.out)) hb); have n2_ := qab.mk (hbox); have n3_ := qab.mk ((by rw [hg]; exact (qan (by repeat (first | (with_reducible first | exact HB.out | apply qae | apply qad | apply qaf | refine qai ?_ GE183.out) | exact HB.out))) : w.heap.size ≤ gb184)); have n4_ := qab.mk ((by rw [hg]; exact (qan (by repeat (first | (with_reducible first | exact HB.out | apply qae | apply qad | apply qaf | refine qai ?_ GE183.out) | exact HB.out))) : w.heap.size ≤ gb184)); have n5_ := qab.mk ((by rw [hg]; exact Nat.ne_of_lt (blk_lt (g := gb183) (o := .cells #[.int .i64 a0_0, .int .i64 a0_1, .int .i64 a0_2, .int .i64 a0_3, .int .i64 a0_4, .int .i64 a0_5, .int .i64 a0_6, .int .i64 a0_7, .int .i64 a0_8, .int .i64 a0_9, .int .i64 a0_10, .int .i64 a0_11] 39 (0, 0)) (by (with_reducible repeat (first | refine qal ?_ _ | refine qao ?_ | refine qaj ?_ _)); exact BK183.out)) : gb183 ≠ gb184)); have n6_ := qab.mk ((by rw [hg]; exact Nat.ne_of_gt (blk_lt (g := gb183) (o := .cells #[.int .i64 a0_0, .int .i64 a0_1, .int .i64 a0_2, .int .i64 a0_3, .int .i64 a0_4, .int .i64 a0_5, .int .i64 a0_6, .int .i64 a0_7, .int .i64 a0_8, .int .i64 a0_9, .int .i64 a0_10, .int .i64 a0_11] 39 (0, 0)) (by (with_reducible repeat (first | refine qal ?_ _ | refine qao ?_ | refine qaj ?_ _)); exact BK183.out)) : gb184 ≠ gb183)); clear BK183; clear HB; have BK183 := n0_; have HB := n1_; have BK184 := n2_; have GW184 := n3_; have GE184 := n4_; have NB183_184 := n5_; have NB184_183 := n6_; clear n0_ n1_ n2_ n3_ n4_ n5_ n6_; clear hb hbox hg; have hnb8 := NB184_183.out; have hnc8 := NB183_184.out; have hcz9_0 : w7.cell? ⟨gb184, 0, none⟩ = some (.int .i64 a2_0) := (qaa BK184.out 0).trans rfl; have hcz9_1 : w7.cell? ⟨gb184, 1, none⟩ = some (.int .i64 a2_1) := (qaa BK184.out 1).trans rfl; have hcz9_2 : w7.cell? ⟨gb184, 2, none⟩ = some (.bool true) := (qaa BK184.out 2).trans rfl; have hfz9_0 := qac BK184.out 0; have hfz9_1 := qac BK184.out 1; have hfz9_2 := qac BK184.out 2; have hcz10_0 : w7.cell? ⟨gb183, 0, none⟩ = some (.int .i64 a0_0) := (qaa BK183.out 0).trans rfl; have hcz10_1 : w7.cell? ⟨gb183, 1, none⟩ = some (.int .i64 a0_1) := (qaa BK183.out 1).trans rfl; have hcz10_2 : w7.cell? ⟨gb183, 2, none⟩ = some (.int .i64 a0_2) := (qaa BK183.out 2).trans rfl; have hcz10_3 : w7.cell? ⟨gb183, 3, none⟩ = some (.int .i64 a0_3) := (qaa BK183.out 3).trans rfl; have hcz10_4 : w7.cell? ⟨gb183, 4, none⟩ = some (.int .i64 a0_4) := (qaa BK183.out 4).trans rfl; have hcz10_5 : w7.cell? ⟨gb183, 5, none⟩ = some (.int .i64 a0_5) := (qaa BK183.out 5).trans rfl; have hcz10_6 : w7.cell? ⟨gb183, 6, none⟩ = some (.int .i64 a0_6) := (qaa BK183.out 6).trans rfl; have hcz10_7 : w7.cell? ⟨gb183, 7, none⟩ = some (.int .i64 a0_7) := (qaa BK183.out 7).trans rfl; have hcz10_8 : w7.cell? ⟨gb183, 8, none⟩ = some (.int .i64 a0_8) := (qaa BK183.out 8).trans rfl; have hcz10_9 : w7.cell? ⟨gb183, 9, none⟩ = some (.int .i64 a0_9) := (qaa BK183.out 9).trans rfl; have hcz10_10 : w7.cell? ⟨gb183, 10, none⟩ = some (.int .i64 a0_10) := (qaa BK183.out 10).trans rfl; have hcz10_11 : w7.cell? ⟨gb183, 11, none⟩ = some (.int .i64 a0_11) := (qaa BK183.out 11).trans rfl; have hfz10_0 := qac BK183.out 0; have hfz10_1 := qac BK183.out 1; have hfz10_2 := qac BK183.out 2; have hfz10_3 := qac BK183.out 3; have hfz10_4 := qac BK183.out 4; have hfz10_5 := qac BK183.out 5; have hfz10_6 := qac BK183.out 6; have hfz10_7 := qac BK183.out 7; have hfz10_8 := qac BK183.out 8; have hfz10_9 := qac BK183.out 9; have hfz10_10 := qac BK183.out 10; have hfz10_11 := qac BK183.out 11))
  go_ret
  exact ⟨by first | rfl | (simp [qas, qat] <;> rfl) | (simp only [← hji5]; first | rfl | (simp [qas, qat] <;> rfl)) | (simp [*, qas, qat] <;> rfl), by repeat (first | (with_reducible first | exact HB.out | apply qae | apply qad | apply qaf | refine qai ?_ GE183.out | refine qai ?_ GE184.out) | exact HB.out)⟩
 ·
  replace c4 := Bool.eq_false_iff.mpr c4
  subst c4
  have H1 : (some (mn a1 (wrap64 (Int.tdiv (wrap64 (a2_0 * (wrap64 (a1 + a2_1)))) 1000)))) = some r := by rw [if_neg (show ¬ (false = true) by decide)] at H; exact H
  clear H
  have H := H1
  clear H1
  obtain ⟨ji11, hji11⟩ : ∃ j_ : Int, (mn a1 (wrap64 (Int.tdiv (wrap64 (a2_0 * (wrap64 (a1 + a2_1)))) 1000))) = j_ := ⟨_, rfl⟩
  replace H : (some ji11) = some r := by first | (rw [hji11] at H; exact H) | (simp only [hji11] at H ⊢; exact H)
  have hji11_ : (if (wrap64 (Int.tdiv (wrap64 (a2_0 * (wrap64 (a1 + a2_1)))) 1000)) < a1 then (wrap64 (Int.tdiv (wrap64 (a2_0 * (wrap64 (a1 + a2_1)))) 1000)) else a1) = ji11 := hji11
  obtain rfl := Option.some.inj H
  go_enter Try.func61, Try.ntmps61
  go_wp2_with (first | ((with_reducible refine qar (N := 3) rfl ?_); refine qap ?hg (N := 3) ?hd (cs := #[.int .i64 a0_0, .int .i64 a0_1, .int .i64 a0_2, .int .i64 a0_3, .int .i64 a0_4, .int .i64 a0_5, .int .i64 a0_6, .int .i64 a0_7, .int .i64 a0_8, .int .i64 a0_9, .int .i64 a0_10, .int .i64 a0_11]) (t := 39) ?hr ?_; (case hd => rfl); (case hg => rfl); (case hr => first | (go_simp; done) | (go_simp; rfl)); intro gb183 hg w12 hbox hb; have n0_ := qab.mk (qag (by repeat (first | (with_reducible first | exact HB.out | apply qae | apply qad | apply qaf) | exact HB.out)) hb); have n1_ := qab.mk (hbox); have n2_ := qab.mk ((by rw [hg]; exact (qan (by repeat (first | (with_reducible first | exact HB.out | apply qae | apply qad | apply qaf) | exact HB.out))) : w.heap.size ≤ gb183)); have n3_ := qab.mk ((by rw [hg]; exact (qan (by repeat (first | (with_reducible first | exact HB.out | apply qae | apply qad | apply qaf) | exact HB.out))) : w.heap.size ≤ gb183)); clear HB; have HB := n0_; have BK183 := n1_; have GW183 := n2_; have GE183 := n3_; clear n0_ n1_ n2_ n3_; clear hb hbox hg) | ((with_reducible refine qar (N := 5) rfl ?_); refine qap ?hg (N := 5) ?hd (cs := #[.int .i64 a2_0, .int .i64 a2_1, .bool false]) (t := 44) ?hr ?_; (case hd => rfl); (case hg => rfl); (case hr => first | (go_simp; done) | (go_simp; rfl)); intro gb184 hg w13 hbox hb; have n0_ := qab.mk (qah (g := gb183) (o := .cells #[.int .i64 a0_0, .int .i64 a0_1, .int .i64 a0_2, .int .i64 a0_3, .int .i64 a0_4, .int .i64 a0_5, .int .i64 a0_6, .int .i64 a0_7, .int .i64 a0_8, .int .i64 a0_9, .int .i64 a0_10, .int .i64 a0_11] 39 (0, 0)) (by (with_reducible repeat (first | refine qal ?_ _ | refine qao ?_ | refine qaj ?_ _)); exact BK183.out) hb); have n1_ := qab.mk (qag (by repeat (first | (with_reducible first | exact HB.out | apply qae | apply qad | apply qaf | refine qai ?_ GE183.out) | exact HB.out)) hb); have n2_ := qab.mk (hbox); have n3_ := qab.mk ((by rw [hg]; exact (qan (by repeat (first | (with_reducible first | exact HB.out | apply qae | apply qad | apply qaf | refine qai ?_ GE183.out) | exact HB.out))) : w.heap.size ≤ gb184)); have n4_ := qab.mk ((by rw [hg]; exact (qan (by repeat (first | (with_reducible first | exact HB.out | apply qae | apply qad | apply qaf | refine qai ?_ GE183.out) | exact HB.out))) : w.heap.size ≤ gb184)); have n5_ := qab.mk ((by rw [hg]; exact Nat.ne_of_lt (blk_lt (g := gb183) (o := .cells #[.int .i64 a0_0, .int .i64 a0_1, .int .i64 a0_2, .int .i64 a0_3, .int .i64 a0_4, .int .i64 a0_5, .int .i64 a0_6, .int .i64 a0_7, .int .i64 a0_8, .int .i64 a0_9, .int .i64 a0_10, .int .i64 a0_11] 39 (0, 0)) (by (with_reducible repeat (first | refine qal ?_ _ | refine qao ?_ | refine qaj ?_ _)); exact BK183.out)) : gb183 ≠ gb184)); have n6_ := qab.mk ((by rw [hg]; exact Nat.ne_of_gt (blk_lt (g := gb183) (o := .cells #[.int .i64 a0_0, .int .i64 a0_1, .int .i64 a0_2, .int .i64 a0_3, .int .i64 a0_4, .int .i64 a0_5, .int .i64 a0_6, .int .i64 a0_7, .int .i64 a0_8, .int .i64 a0_9, .int .i64 a0_10, .int .i64 a0_11] 39 (0, 0)) (by (with_reducible repeat (first | refine qal ?_ _ | refine qao ?_ | refine qaj ?_ _)); exact BK183.out)) : gb184 ≠ gb183)); clear BK183; clear HB; have BK183 := n0_; have HB := n1_; have BK184 := n2_; have GW184 := n3_; have GE184 := n4_; have NB183_184 := n5_; have NB184_183 := n6_; clear n0_ n1_ n2_ n3_ n4_ n5_ n6_; clear hb hbox hg; have hnb14 := NB184_183.out; have hnc14 := NB183_184.out; have hcz15_0 : w13.cell? ⟨gb184, 0, none⟩ = some (.int .i64 a2_0) := (qaa BK184.out 0).trans rfl; have hcz15_1 : w13.cell? ⟨gb184, 1, none⟩ = some (.int .i64 a2_1) := (qaa BK184.out 1).trans rfl; have hcz15_2 : w13.cell? ⟨gb184, 2, none⟩ = some (.bool false) := (qaa BK184.out 2).trans rfl; have hfz15_0 := qac BK184.out 0; have hfz15_1 := qac BK184.out 1; have hfz15_2 := qac BK184.out 2))
  go_ret
  exact ⟨by first | rfl | (simp [qas, qat] <;> rfl) | (simp only [← hji11]; first | rfl | (simp [qas, qat] <;> rfl)) | (simp [*, qas, qat] <;> rfl), by repeat (first | (with_reducible first | exact HB.out | apply qae | apply qad | apply qaf | refine qai ?_ GE183.out | refine qai ?_ GE184.out) | exact HB.out)⟩
end Go.Proofs.Ytipphcjgdebecaa.PA
