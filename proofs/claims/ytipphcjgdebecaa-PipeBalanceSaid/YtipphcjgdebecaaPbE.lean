/- Parts of a proof about the pipe seat's laws: what the functions of the program answer. No condition of its own. -/
import Derived.Test.YtipphcjgdebecaaSC
import Derived.Test.YtipphcjgdebecaaSD
import Derived.Test.YtipphcjgdebecaaSG
import Derived.Test.YtipphcjgdebecaaSO
import Derived.Test.YtipphcjgdebecaaPbC
import Derived.Test.YtipphcjgdebecaaPbD
import Derived.Test.YtipphcjgdebecaaPbA
set_option linter.all false
namespace Go.Proofs.Ytipphcjgdebecaa.PA
open Go.RowKit Go.Proofs.YtipphcjgdebecaaW.PrintWords Go.Proofs.YtipphcjgdebecaaW.PrintLast Go.Proofs.YtipphcjgdebecaaW.PrintMore
attribute [local go_sem] max2_int min2_int max_two min_two max_three min_three max_four min_four
mutual
def taliklaw04_PipeBalance.j0 : Nat → Int → Int → List (S44) → Int → Bool → List (S39) → List (S37) → List (List Int) → Option (Bool)
 | 0, _, _, _, _, _, _, _, _ => none
 | k + 1, x1, x2, x3, x4, x79, x186000, x186001, x186002 => if x79 = true then ((taliklaw04_known.f).bind fun t192 => (some t192)) else (if 0 ≤ x1 then (if x1 < (x186000.length : Int) then ((pipe_Play.f x186000 x186001 x186002 x1 x2 x3).bind fun bt195 => (if 0 ≤ x4 then (if x4 ≤ (x3.length : Int) then ((pipe_Play.f x186000 x186001 x186002 x1 x2 (x3.take (x4 : Int).toNat)).bind fun bt205 => (taliklaw04_PipeBalance.l0 k x2 x3 x4 bt195.2.2.2.2 bt205.2.2.2.2 0 0 0 ((qah x186000 x1).f0.f0) ((qah x186000 x1).f0.f1) ((qah x186000 x1).f1.f0) ((qah x186000 x1).f1.f1) ((qah x186000 x1).f2.f0) ((qah x186000 x1).f2.f1) ((qah x186000 x1).f3) ((qah x186000 x1).f4) ((qah x186000 x1).f5) ((qah x186000 x1).f6) ((qah x186000 x1).f7.f0) ((qah x186000 x1).f7.f1) bt195.1 bt195.2.1 bt195.2.2.1 bt195.2.2.2.1 bt205.1 bt205.2.1 bt205.2.2.1 bt205.2.2.2.1)) else (none)) else (none))) else (none)) else (none))
def taliklaw04_PipeBalance.l0 : Nat → Int → List (S44) → Int → Int → Int → Int → Int → Int → Int → Int → Int → Int → Int → Int → Int → Int → Int → Int → Int → Int → Int → Int → Int → Int → Int → Int → Int → Int → Option (Bool)
 | 0, _, _, _, _, _, _, _, _, _, _, _, _, _, _, _, _, _, _, _, _, _, _, _, _, _, _, _, _ => none
 | k + 1, x2, x3, x4, x13, x15, x16, x17, x18, x195000, x195001, x195002, x195003, x195004, x195005, x195006, x195007, x195008, x195009, x195010, x195011, x201000, x201001, x201002, x201003, x211000, x211001, x211002, x211003 => if x18 < (x3.length : Int) then (if 0 ≤ x18 then (if (rd_T44 x3 x18).f2 = true then (if x18 < x4 then (taliklaw04_PipeBalance.l0 k x2 x3 x4 x13 x15 (wrap64 (x16 + 1)) (wrap64 (x17 + 1)) (wrap64 (x18 + 1)) x195000 x195001 x195002 x195003 x195004 x195005 x195006 x195007 x195008 x195009 x195010 x195011 x201000 x201001 x201002 x201003 x211000 x211001 x211002 x211003) else (taliklaw04_PipeBalance.l0 k x2 x3 x4 x13 x15 (wrap64 (x16 + 1)) x17 (wrap64 (x18 + 1)) x195000 x195001 x195002 x195003 x195004 x195005 x195006 x195007 x195008 x195009 x195010 x195011 x201000 x201001 x201002 x201003 x211000 x211001 x211002 x211003)) else (taliklaw04_PipeBalance.l0 k x2 x3 x4 x13 x15 x16 x17 (wrap64 (x18 + 1)) x195000 x195001 x195002 x195003 x195004 x195005 x195006 x195007 x195008 x195009 x195010 x195011 x201000 x201001 x201002 x201003 x211000 x211001 x211002 x211003)) else (none)) else (if x13 = 0 then (if x15 = 0 then ((taliklaw04_sane.f x195000 x195001 x195002 x195003 x195004 x195005 x195006 x195007 x195008 x195009 x195010 x195011 x201000 x201001 x201002 x201003 x16 x2).bind fun t212 => (if t212 = true then ((taliklaw04_sane.f x195000 x195001 x195002 x195003 x195004 x195005 x195006 x195007 x195008 x195009 x195010 x195011 x211000 x211001 x211002 x211003 x17 x2).bind fun t213 => (if t213 = true then (if x201002 ≥ x211002 then (if x201003 ≥ x211003 then ((taliklaw04_known.f).bind fun t214 => (some t214)) else (some false)) else (some false)) else (some false))) else (some false))) else (some false)) else (some false))
end
def taliklaw04_PipeBalance.f (k : Nat) (l0_0 : List (S39)) (l0_1 : List (S37)) (l0_2 : List (List Int)) (a1 : Int) (a2 : Int) (l3 : List (S44)) (a4 : Int) : Option (Bool) := (taliklaw04_short.f k l0_0 l0_1 l0_2).bind fun t186 => (if t186 = true then (if (l3.length : Int) > (l0_1.length : Int) then (taliklaw04_PipeBalance.j0 k a1 a2 l3 a4 true l0_0 l0_1 l0_2) else ((talikref04_Net.f k l0_0 l0_1 l0_2).bind fun t187 => (if t187 = true then ((talikref04_IsLoop.f l0_0 l0_1 l0_2 a1).bind fun t188 => (if t188 = true then (if 0 ≤ a1 then (if a1 < (l0_0.length : Int) then (if a2 < ((qah l0_0 a1).f0.f0) then (taliklaw04_PipeBalance.j0 k a1 a2 l3 a4 true l0_0 l0_1 l0_2) else (if a2 > ((qah l0_0 a1).f0.f1) then (taliklaw04_PipeBalance.j0 k a1 a2 l3 a4 true l0_0 l0_1 l0_2) else ((talikref04_Truth.f l0_0 l0_1 l0_2 a1 l3).bind fun t191 => (if t191 = true then (if a4 < 0 then (taliklaw04_PipeBalance.j0 k a1 a2 l3 a4 true l0_0 l0_1 l0_2) else (taliklaw04_PipeBalance.j0 k a1 a2 l3 a4 (decide (a4 > (l3.length : Int))) l0_0 l0_1 l0_2)) else (taliklaw04_PipeBalance.j0 k a1 a2 l3 a4 true l0_0 l0_1 l0_2))))) else (none)) else (none)) else (taliklaw04_PipeBalance.j0 k a1 a2 l3 a4 true l0_0 l0_1 l0_2))) else (taliklaw04_PipeBalance.j0 k a1 a2 l3 a4 true l0_0 l0_1 l0_2)))) else (taliklaw04_PipeBalance.j0 k a1 a2 l3 a4 true l0_0 l0_1 l0_2))
def taliklaw04_PipeBalance.T5 : Bool × List (List Nat × List Nat) := (true, [([], []), ([], []), ([], []), ([], []), ([], []), ([3, 4], [3, 4]), ([0, 1, 2, 5], [0, 1, 2, 5]), ([6], [6]), ([7], [7]), ([7], [7]), ([], []), ([10, 8, 6, 0, 1, 2, 3, 4, 5, 6, 7, 8, 10], [8, 10]), ([9, 11, 0, 1, 2, 3, 4, 5, 6, 7, 8, 9, 10, 11], [9])])
def taliklaw04_PipeBalance.B5 : List Nat := [0, 0, 0, 0, 0, 24, 63, 127, 255, 255, 0, 1535, 4095]
theorem taliklaw04_PipeBalance.tab5 : rtab .any (opsOf Try.f4 5) = taliklaw04_PipeBalance.T5 := by kernel_rfl
theorem taliklaw04_PipeBalance.bits5 : waitsOk taliklaw04_PipeBalance.T5.2 taliklaw04_PipeBalance.B5 = true := by kernel_rfl
set_option maxHeartbeats 8000000 in
set_option maxRecDepth 100000 in
theorem taliklaw04_PipeBalance.calls (k : Nat) (A0_0 : Option Addr) (c0_0 : Nat) (l0_0 : List (S39)) (A0_1 : Option Addr) (c0_1 : Nat) (l0_1 : List (S37)) (A0_2 : Option Addr) (c0_2 : Nat) (l0_2 : List (List Int)) (a1 : Int) (a2 : Int) (A3 : Option Addr) (c3 : Nat) (l3 : List (S44)) (a4 : Int) (r : Bool) (w : World) (hr0_0 : Kd.C k39 w A0_0 l0_0.length l0_0) (hc0_0 : l0_0.length ≤ c0_0) (hr0_1 : Kd.C k37 w A0_1 l0_1.length l0_1) (hc0_1 : l0_1.length ≤ c0_1) (hr0_2 : Kd.C (Kd.slice 3 (Kd.int .i64)) w A0_2 l0_2.length l0_2) (hc0_2 : l0_2.length ≤ c0_2) (hr3 : Kd.C k44 w A3 l3.length l3) (hc3 : l3.length ≤ c3) (h : taliklaw04_PipeBalance.f k l0_0 l0_1 l0_2 a1 a2 l3 a4 = some r) :
  Calls Try.prog 4 #[.agg #[.slice A0_0 l0_0.length c0_0, .slice A0_1 l0_1.length c0_1, .slice A0_2 l0_2.length c0_2], .int .i64 a1, .int .i64 a2, .slice A3 l3.length c3, .int .i64 a4] w fun e w' => e = .returned (.bool r) ∧ Below w.heap.size w w' := by
 have hu26 := Try.underlying26
 have hu39 := Try.underlying39
 have hu31 := Try.underlying31
 have HR0_0 := qac.mk hr0_0
 have HC0_0 := qac.mk hc0_0
 clear hr0_0 hc0_0
 have HR0_1 := qac.mk hr0_1
 have HC0_1 := qac.mk hc0_1
 clear hr0_1 hc0_1
 have HR0_2 := qac.mk hr0_2
 have HC0_2 := qac.mk hc0_2
 clear hr0_2 hc0_2
 have HR3 := qac.mk hr3
 have HC3 := qac.mk hc3
 clear hr3 hc3
 have HB := qac.mk (Below.refl w.heap.size w)
 have H : ((taliklaw04_short.f k l0_0 l0_1 l0_2).bind fun t186 => (if t186 = true then (if (l3.length : Int) > (l0_1.length : Int) then (taliklaw04_PipeBalance.j0 k a1 a2 l3 a4 true l0_0 l0_1 l0_2) else ((talikref04_Net.f k l0_0 l0_1 l0_2).bind fun t187 => (if t187 = true then ((talikref04_IsLoop.f l0_0 l0_1 l0_2 a1).bind fun t188 => (if t188 = true then (if 0 ≤ a1 then (if a1 < (l0_0.length : Int) then (if a2 < ((qah l0_0 a1).f0.f0) then (taliklaw04_PipeBalance.j0 k a1 a2 l3 a4 true l0_0 l0_1 l0_2) else (if a2 > ((qah l0_0 a1).f0.f1) then (taliklaw04_PipeBalance.j0 k a1 a2 l3 a4 true l0_0 l0_1 l0_2) else ((talikref04_Truth.f l0_0 l0_1 l0_2 a1 l3).bind fun t191 => (if t191 = true then (if a4 < 0 then (taliklaw04_PipeBalance.j0 k a1 a2 l3 a4 true l0_0 l0_1 l0_2) else (taliklaw04_PipeBalance.j0 k a1 a2 l3 a4 (decide (a4 > (l3.length : Int))) l0_0 l0_1 l0_2)) else (taliklaw04_PipeBalance.j0 k a1 a2 l3 a4 true l0_0 l0_1 l0_2))))) else (none)) else (none)) else (taliklaw04_PipeBalance.j0 k a1 a2 l3 a4 true l0_0 l0_1 l0_2))) else (taliklaw04_PipeBalance.j0 k a1 a2 l3 a4 true l0_0 l0_1 l0_2)))) else (taliklaw04_PipeBalance.j0 k a1 a2 l3 a4 true l0_0 l0_1 l0_2))) = some r := h
 clear h
 have HC6 := qac.mk H
 clear H
 go_enter Try.func4, Try.ntmps4
 go_upto_region 1 with (first | ((with_reducible refine qax (N := 5) rfl ?_); (try (refine gate_guard (by rfl) ?_; dsimp only)); refine qaw ?hg (N := 5) ?hd (cs := #[.slice A0_0 l0_0.length c0_0, .slice A0_1 l0_1.length c0_1, .slice A0_2 l0_2.length c0_2]) (t := 26) ?hr ?_; (case hd => rfl); (case hg => rfl); (case hr => first | (go_simp; done) | (go_simp; rfl)); intro gb185 hg w7 hbox hb; have n0_ := qac.mk (qai (by repeat (first | (with_reducible first | exact HB.out | apply qae | apply qad | apply qaf) | exact HB.out)) hb); have n1_ := qac.mk (hbox); have n2_ := qac.mk ((by rw [hg]; exact (qar (by repeat (first | (with_reducible first | exact HB.out | apply qae | apply qad | apply qaf) | exact HB.out))) : w.heap.size ≤ gb185)); have n3_ := qac.mk ((by rw [hg]; exact (qar (by repeat (first | (with_reducible first | exact HB.out | apply qae | apply qad | apply qaf) | exact HB.out))) : w.heap.size ≤ gb185)); clear HB; have HB := n0_; have BK185 := n1_; have GW185 := n2_; have GE185 := n3_; clear n0_ n1_ n2_ n3_; clear hb hbox hg))
 (try simp only [Act.put, List.setIfInBounds_toArray, List.set_cons_zero, List.set_cons_succ])
 go_cut [79] (fun v79 wc => ∃ (kq : Nat) (x79_5 : Bool), v79 = .bool x79_5 ∧ qac (taliklaw04_PipeBalance.j0 kq a1 a2 l3 a4 x79_5 l0_0 l0_1 l0_2 = some r) ∧ qac (kq ≤ k) ∧ qac (wc.heap[gb185]? = some (.cells #[(.slice A0_0 l0_0.length c0_0), (.slice A0_1 l0_1.length c0_1), (.slice A0_2 l0_2.length c0_2)] 26 (0, 0))) ∧ qac (Below w.heap.size w wc))
 case first =>
  have H := HC6.out
  clear HC6
  replace H := Option.bind_eq_some_iff.mp H
  obtain ⟨t186, A80, H⟩ := H
  replace H : (if t186 = true then (if (l3.length : Int) > (l0_1.length : Int) then (taliklaw04_PipeBalance.j0 k a1 a2 l3 a4 true l0_0 l0_1 l0_2) else ((talikref04_Net.f k l0_0 l0_1 l0_2).bind fun t187 => (if t187 = true then ((talikref04_IsLoop.f l0_0 l0_1 l0_2 a1).bind fun t188 => (if t188 = true then (if 0 ≤ a1 then (if a1 < (l0_0.length : Int) then (if a2 < ((qah l0_0 a1).f0.f0) then (taliklaw04_PipeBalance.j0 k a1 a2 l3 a4 true l0_0 l0_1 l0_2) else (if a2 > ((qah l0_0 a1).f0.f1) then (taliklaw04_PipeBalance.j0 k a1 a2 l3 a4 true l0_0 l0_1 l0_2) else ((talikref04_Truth.f l0_0 l0_1 l0_2 a1 l3).bind fun t191 => (if t191 = true then (if a4 < 0 then (taliklaw04_PipeBalance.j0 k a1 a2 l3 a4 true l0_0 l0_1 l0_2) else (taliklaw04_PipeBalance.j0 k a1 a2 l3 a4 (decide (a4 > (l3.length : Int))) l0_0 l0_1 l0_2)) else (taliklaw04_PipeBalance.j0 k a1 a2 l3 a4 true l0_0 l0_1 l0_2))))) else (none)) else (none)) else (taliklaw04_PipeBalance.j0 k a1 a2 l3 a4 true l0_0 l0_1 l0_2))) else (taliklaw04_PipeBalance.j0 k a1 a2 l3 a4 true l0_0 l0_1 l0_2)))) else (taliklaw04_PipeBalance.j0 k a1 a2 l3 a4 true l0_0 l0_1 l0_2)) = some r := H
  have A8 := qac.mk A80
  clear A80
  by_cases c9 : t186 = true
  ·
   subst c9
   have H1 : (if (l3.length : Int) > (l0_1.length : Int) then (taliklaw04_PipeBalance.j0 k a1 a2 l3 a4 true l0_0 l0_1 l0_2) else ((talikref04_Net.f k l0_0 l0_1 l0_2).bind fun t187 => (if t187 = true then ((talikref04_IsLoop.f l0_0 l0_1 l0_2 a1).bind fun t188 => (if t188 = true then (if 0 ≤ a1 then (if a1 < (l0_0.length : Int) then (if a2 < ((qah l0_0 a1).f0.f0) then (taliklaw04_PipeBalance.j0 k a1 a2 l3 a4 true l0_0 l0_1 l0_2) else (if a2 > ((qah l0_0 a1).f0.f1) then (taliklaw04_PipeBalance.j0 k a1 a2 l3 a4 true l0_0 l0_1 l0_2) else ((talikref04_Truth.f l0_0 l0_1 l0_2 a1 l3).bind fun t191 => (if t191 = true then (if a4 < 0 then (taliklaw04_PipeBalance.j0 k a1 a2 l3 a4 true l0_0 l0_1 l0_2) else (taliklaw04_PipeBalance.j0 k a1 a2 l3 a4 (decide (a4 > (l3.length : Int))) l0_0 l0_1 l0_2)) else (taliklaw04_PipeBalance.j0 k a1 a2 l3 a4 true l0_0 l0_1 l0_2))))) else (none)) else (none)) else (taliklaw04_PipeBalance.j0 k a1 a2 l3 a4 true l0_0 l0_1 l0_2))) else (taliklaw04_PipeBalance.j0 k a1 a2 l3 a4 true l0_0 l0_1 l0_2)))) = some r := by rw [if_pos rfl] at H; exact H
   clear H
   have H := H1
   clear H1
   by_cases c10 : (l3.length : Int) > (l0_1.length : Int)
   ·
    rw [if_pos c10] at H
    have c10b0 : decide ((l0_1.length : Int) < (l3.length : Int)) = true := decide_eq_true c10
    have c10b1 : decide (l0_1.length < l3.length) = true := decide_eq_true (Int.ofNat_lt.mp c10)
    clear c10
    (first | rw [c10b0] | (simp only [i64_w, i32_w]; rw [c10b0]) | skip)
    have H' := qac.mk H
    clear H
    have hcz11_0 : w7.cell? ⟨gb185, 0, none⟩ = some (.slice A0_0 l0_0.length c0_0) := (qaa BK185.out 0).trans rfl
    have hcz11_1 : w7.cell? ⟨gb185, 1, none⟩ = some (.slice A0_1 l0_1.length c0_1) := (qaa BK185.out 1).trans rfl
    have hcz11_2 : w7.cell? ⟨gb185, 2, none⟩ = some (.slice A0_2 l0_2.length c0_2) := (qaa BK185.out 2).trans rfl
    have hfz11_0 := qab BK185.out 0
    have hfz11_1 := qab BK185.out 1
    have hfz11_2 := qab BK185.out 2
    go_wp2_with (first | ((with_reducible refine qau (f := 16) rfl ?_); refine goesL_ (some 20) rfl rfl Try.func16 (by kernel_rfl) rfl #[.agg #[.slice A0_0 l0_0.length c0_0, .slice A0_1 l0_1.length c0_1, .slice A0_2 l0_2.length c0_2]] rfl (by (try simp only [List.map_toArray, List.map_cons, List.map_nil]); first | done | rfl | (simp only [List.length_drop, List.length_take]; rfl)) ?_; (with_reducible refine (taliklaw04_short.calls k _ _ l0_0 _ _ l0_1 _ _ l0_2 true _ ?side1 ?side2 ?side3 ?side4 ?side5 ?side6 A8.out).mono ?_); (case side1 => repeat (first | exact (Kd.qal HR0_0.out HB.out) | (with_reducible refine Kd.qan ?_ _) | (with_reducible refine Kd.qao ?_ _) | (with_reducible refine Kd.qaq ?_))); (case side2 => exact HC0_0.out); (case side3 => repeat (first | exact (Kd.qal HR0_1.out HB.out) | (with_reducible refine Kd.qan ?_ _) | (with_reducible refine Kd.qao ?_ _) | (with_reducible refine Kd.qaq ?_))); (case side4 => exact HC0_1.out); (case side5 => repeat (first | exact (Kd.qal HR0_2.out HB.out) | (with_reducible refine Kd.qan ?_ _) | (with_reducible refine Kd.qao ?_ _) | (with_reducible refine Kd.qaq ?_))); (case side6 => exact HC0_2.out); rintro e w12 ⟨rfl, hb⟩; refine ⟨_, rfl, ?_⟩; have n0_ := qac.mk (qam (g := gb185) (o := .cells #[.slice A0_0 l0_0.length c0_0, .slice A0_1 l0_1.length c0_1, .slice A0_2 l0_2.length c0_2] 26 (0, 0)) (by (with_reducible repeat (first | refine qak ?_ _ | refine qap ?_ | refine qaj ?_ _)); exact BK185.out) hb); have n1_ := qac.mk (qai (by repeat (first | (with_reducible first | exact HB.out | apply qae | apply qad | apply qaf | refine qag ?_ GE185.out) | exact HB.out)) hb); clear BK185; clear HB; have BK185 := n0_; have HB := n1_; clear n0_ n1_; (try clear hb); (try clear hb2); (try clear hk); (try clear hi); have hcz13_0 : w12.cell? ⟨gb185, 0, none⟩ = some (.slice A0_0 l0_0.length c0_0) := (qaa BK185.out 0).trans rfl; have hcz13_1 : w12.cell? ⟨gb185, 1, none⟩ = some (.slice A0_1 l0_1.length c0_1) := (qaa BK185.out 1).trans rfl; have hcz13_2 : w12.cell? ⟨gb185, 2, none⟩ = some (.slice A0_2 l0_2.length c0_2) := (qaa BK185.out 2).trans rfl; have hfz13_0 := qab BK185.out 0; have hfz13_1 := qab BK185.out 1; have hfz13_2 := qab BK185.out 2))
    go_meet
    case rel => exact ⟨_, (true), (by first | rfl | (simp; done) | (simp [*]; done)), H', ⟨by first | omega | exact Nat.le_refl _⟩, ⟨by (with_reducible repeat (first | refine qak ?_ _ | refine qap ?_ | refine qaj ?_ _)); exact BK185.out⟩, ⟨by repeat (first | (with_reducible first | exact HB.out | apply qae | apply qad | apply qaf | refine qag ?_ GE185.out) | exact HB.out)⟩⟩
   ·
    rw [if_neg c10] at H
    have c10b0 : decide ((l0_1.length : Int) < (l3.length : Int)) = false := decide_eq_false c10
    have c10b1 : decide (l0_1.length < l3.length) = false := decide_eq_false (fun h => c10 (Int.ofNat_lt.mpr h))
    clear c10
    (first | rw [c10b0] | (simp only [i64_w, i32_w]; rw [c10b0]) | skip)
    replace H := Option.bind_eq_some_iff.mp H
    obtain ⟨t187, A140, H⟩ := H
    replace H : (if t187 = true then ((talikref04_IsLoop.f l0_0 l0_1 l0_2 a1).bind fun t188 => (if t188 = true then (if 0 ≤ a1 then (if a1 < (l0_0.length : Int) then (if a2 < ((qah l0_0 a1).f0.f0) then (taliklaw04_PipeBalance.j0 k a1 a2 l3 a4 true l0_0 l0_1 l0_2) else (if a2 > ((qah l0_0 a1).f0.f1) then (taliklaw04_PipeBalance.j0 k a1 a2 l3 a4 true l0_0 l0_1 l0_2) else ((talikref04_Truth.f l0_0 l0_1 l0_2 a1 l3).bind fun t191 => (if t191 = true then (if a4 < 0 then (taliklaw04_PipeBalance.j0 k a1 a2 l3 a4 true l0_0 l0_1 l0_2) else (taliklaw04_PipeBalance.j0 k a1 a2 l3 a4 (decide (a4 > (l3.length : Int))) l0_0 l0_1 l0_2)) else (taliklaw04_PipeBalance.j0 k a1 a2 l3 a4 true l0_0 l0_1 l0_2))))) else (none)) else (none)) else (taliklaw04_PipeBalance.j0 k a1 a2 l3 a4 true l0_0 l0_1 l0_2))) else (taliklaw04_PipeBalance.j0 k a1 a2 l3 a4 true l0_0 l0_1 l0_2)) = some r := H
    have A14 := qac.mk A140
    clear A140
    by_cases c15 : t187 = true
    ·
     subst c15
     have H1 : ((talikref04_IsLoop.f l0_0 l0_1 l0_2 a1).bind fun t188 => (if t188 = true then (if 0 ≤ a1 then (if a1 < (l0_0.length : Int) then (if a2 < ((qah l0_0 a1).f0.f0) then (taliklaw04_PipeBalance.j0 k a1 a2 l3 a4 true l0_0 l0_1 l0_2) else (if a2 > ((qah l0_0 a1).f0.f1) then (taliklaw04_PipeBalance.j0 k a1 a2 l3 a4 true l0_0 l0_1 l0_2) else ((talikref04_Truth.f l0_0 l0_1 l0_2 a1 l3).bind fun t191 => (if t191 = true then (if a4 < 0 then (taliklaw04_PipeBalance.j0 k a1 a2 l3 a4 true l0_0 l0_1 l0_2) else (taliklaw04_PipeBalance.j0 k a1 a2 l3 a4 (decide (a4 > (l3.length : Int))) l0_0 l0_1 l0_2)) else (taliklaw04_PipeBalance.j0 k a1 a2 l3 a4 true l0_0 l0_1 l0_2))))) else (none)) else (none)) else (taliklaw04_PipeBalance.j0 k a1 a2 l3 a4 true l0_0 l0_1 l0_2))) = some r := by rw [if_pos rfl] at H; exact H
     clear H
     have H := H1
     clear H1
     replace H := Option.bind_eq_some_iff.mp H
     obtain ⟨t188, A160, H⟩ := H
     replace H : (if t188 = true then (if 0 ≤ a1 then (if a1 < (l0_0.length : Int) then (if a2 < ((qah l0_0 a1).f0.f0) then (taliklaw04_PipeBalance.j0 k a1 a2 l3 a4 true l0_0 l0_1 l0_2) else (if a2 > ((qah l0_0 a1).f0.f1) then (taliklaw04_PipeBalance.j0 k a1 a2 l3 a4 true l0_0 l0_1 l0_2) else ((talikref04_Truth.f l0_0 l0_1 l0_2 a1 l3).bind fun t191 => (if t191 = true then (if a4 < 0 then (taliklaw04_PipeBalance.j0 k a1 a2 l3 a4 true l0_0 l0_1 l0_2) else (taliklaw04_PipeBalance.j0 k a1 a2 l3 a4 (decide (a4 > (l3.length : Int))) l0_0 l0_1 l0_2)) else (taliklaw04_PipeBalance.j0 k a1 a2 l3 a4 true l0_0 l0_1 l0_2))))) else (none)) else (none)) else (taliklaw04_PipeBalance.j0 k a1 a2 l3 a4 true l0_0 l0_1 l0_2)) = some r := H
     have A16 := qac.mk A160
     clear A160
     by_cases c17 : t188 = true
     ·
      subst c17
      have H1 : (if 0 ≤ a1 then (if a1 < (l0_0.length : Int) then (if a2 < ((qah l0_0 a1).f0.f0) then (taliklaw04_PipeBalance.j0 k a1 a2 l3 a4 true l0_0 l0_1 l0_2) else (if a2 > ((qah l0_0 a1).f0.f1) then (taliklaw04_PipeBalance.j0 k a1 a2 l3 a4 true l0_0 l0_1 l0_2) else ((talikref04_Truth.f l0_0 l0_1 l0_2 a1 l3).bind fun t191 => (if t191 = true then (if a4 < 0 then (taliklaw04_PipeBalance.j0 k a1 a2 l3 a4 true l0_0 l0_1 l0_2) else (taliklaw04_PipeBalance.j0 k a1 a2 l3 a4 (decide (a4 > (l3.length : Int))) l0_0 l0_1 l0_2)) else (taliklaw04_PipeBalance.j0 k a1 a2 l3 a4 true l0_0 l0_1 l0_2))))) else (none)) else (none)) = some r := by rw [if_pos rfl] at H; exact H
      clear H
      have H := H1
      clear H1
      by_cases c18 : 0 ≤ a1
      ·
       rw [if_pos c18] at H
       have c18b0 : decide (0 ≤ a1) = true := decide_eq_true c18
       clear c18
       by_cases c19 : a1 < (l0_0.length : Int)
       ·
        rw [if_pos c19] at H
        have c19b0 : decide (a1 < (l0_0.length : Int)) = true := decide_eq_true c19
        clear c19
        by_cases c20 : a2 < ((qah l0_0 a1).f0.f0)
        ·
         rw [if_pos c20] at H
         have c20b0 : decide (a2 < ((qah l0_0 a1).f0.f0)) = true := decide_eq_true c20
         clear c20
         have H' := qac.mk H
         clear H
         have hcz21_0 : w7.cell? ⟨gb185, 0, none⟩ = some (.slice A0_0 l0_0.length c0_0) := (qaa BK185.out 0).trans rfl
         have hcz21_1 : w7.cell? ⟨gb185, 1, none⟩ = some (.slice A0_1 l0_1.length c0_1) := (qaa BK185.out 1).trans rfl
         have hcz21_2 : w7.cell? ⟨gb185, 2, none⟩ = some (.slice A0_2 l0_2.length c0_2) := (qaa BK185.out 2).trans rfl
         have hfz21_0 := qab BK185.out 0
         have hfz21_1 := qab BK185.out 1
         have hfz21_2 := qab BK185.out 2
         go_wp2_with (first | ((with_reducible refine qau (f := 16) rfl ?_); refine goesL_ (some 20) rfl rfl Try.func16 (by kernel_rfl) rfl #[.agg #[.slice A0_0 l0_0.length c0_0, .slice A0_1 l0_1.length c0_1, .slice A0_2 l0_2.length c0_2]] rfl (by (try simp only [List.map_toArray, List.map_cons, List.map_nil]); first | done | rfl | (simp only [List.length_drop, List.length_take]; rfl)) ?_; (with_reducible refine (taliklaw04_short.calls k _ _ l0_0 _ _ l0_1 _ _ l0_2 true _ ?side1 ?side2 ?side3 ?side4 ?side5 ?side6 A8.out).mono ?_); (case side1 => repeat (first | exact (Kd.qal HR0_0.out HB.out) | (with_reducible refine Kd.qan ?_ _) | (with_reducible refine Kd.qao ?_ _) | (with_reducible refine Kd.qaq ?_))); (case side2 => exact HC0_0.out); (case side3 => repeat (first | exact (Kd.qal HR0_1.out HB.out) | (with_reducible refine Kd.qan ?_ _) | (with_reducible refine Kd.qao ?_ _) | (with_reducible refine Kd.qaq ?_))); (case side4 => exact HC0_1.out); (case side5 => repeat (first | exact (Kd.qal HR0_2.out HB.out) | (with_reducible refine Kd.qan ?_ _) | (with_reducible refine Kd.qao ?_ _) | (with_reducible refine Kd.qaq ?_))); (case side6 => exact HC0_2.out); rintro e w22 ⟨rfl, hb⟩; refine ⟨_, rfl, ?_⟩; have n0_ := qac.mk (qam (g := gb185) (o := .cells #[.slice A0_0 l0_0.length c0_0, .slice A0_1 l0_1.length c0_1, .slice A0_2 l0_2.length c0_2] 26 (0, 0)) (by (with_reducible repeat (first | refine qak ?_ _ | refine qap ?_ | refine qaj ?_ _)); exact BK185.out) hb); have n1_ := qac.mk (qai (by repeat (first | (with_reducible first | exact HB.out | apply qae | apply qad | apply qaf | refine qag ?_ GE185.out) | exact HB.out)) hb); clear BK185; clear HB; have BK185 := n0_; have HB := n1_; clear n0_ n1_; (try clear hb); (try clear hb2); (try clear hk); (try clear hi); have hcz23_0 : w22.cell? ⟨gb185, 0, none⟩ = some (.slice A0_0 l0_0.length c0_0) := (qaa BK185.out 0).trans rfl; have hcz23_1 : w22.cell? ⟨gb185, 1, none⟩ = some (.slice A0_1 l0_1.length c0_1) := (qaa BK185.out 1).trans rfl; have hcz23_2 : w22.cell? ⟨gb185, 2, none⟩ = some (.slice A0_2 l0_2.length c0_2) := (qaa BK185.out 2).trans rfl; have hfz23_0 := qab BK185.out 0; have hfz23_1 := qab BK185.out 1; have hfz23_2 := qab BK185.out 2) | (go_at_call 19; (with_reducible refine (talikref04_Net.calls k _ _ l0_0 _ _ l0_1 _ _ l0_2 true _ ?side1 ?side2 ?side3 ?side4 ?side5 ?side6 A14.out).mono ?_); (case side1 => repeat (first | exact (Kd.qal HR0_0.out HB.out) | (with_reducible refine Kd.qan ?_ _) | (with_reducible refine Kd.qao ?_ _) | (with_reducible refine Kd.qaq ?_))); (case side2 => exact HC0_0.out); (case side3 => repeat (first | exact (Kd.qal HR0_1.out HB.out) | (with_reducible refine Kd.qan ?_ _) | (with_reducible refine Kd.qao ?_ _) | (with_reducible refine Kd.qaq ?_))); (case side4 => exact HC0_1.out); (case side5 => repeat (first | exact (Kd.qal HR0_2.out HB.out) | (with_reducible refine Kd.qan ?_ _) | (with_reducible refine Kd.qao ?_ _) | (with_reducible refine Kd.qaq ?_))); (case side6 => exact HC0_2.out); rintro e w24 ⟨rfl, hb⟩; have n0_ := qac.mk (qam (g := gb185) (o := .cells #[.slice A0_0 l0_0.length c0_0, .slice A0_1 l0_1.length c0_1, .slice A0_2 l0_2.length c0_2] 26 (0, 0)) (by (with_reducible repeat (first | refine qak ?_ _ | refine qap ?_ | refine qaj ?_ _)); exact BK185.out) hb); have n1_ := qac.mk (qai (by repeat (first | (with_reducible first | exact HB.out | apply qae | apply qad | apply qaf | refine qag ?_ GE185.out) | exact HB.out)) hb); clear BK185; clear HB; have BK185 := n0_; have HB := n1_; clear n0_ n1_; (try clear hb); (try clear hb2); (try clear hk); (try clear hi); have hcz25_0 : w24.cell? ⟨gb185, 0, none⟩ = some (.slice A0_0 l0_0.length c0_0) := (qaa BK185.out 0).trans rfl; have hcz25_1 : w24.cell? ⟨gb185, 1, none⟩ = some (.slice A0_1 l0_1.length c0_1) := (qaa BK185.out 1).trans rfl; have hcz25_2 : w24.cell? ⟨gb185, 2, none⟩ = some (.slice A0_2 l0_2.length c0_2) := (qaa BK185.out 2).trans rfl; have hfz25_0 := qab BK185.out 0; have hfz25_1 := qab BK185.out 1; have hfz25_2 := qab BK185.out 2) | (go_at_call 20; (with_reducible refine (talikref04_IsLoop.calls _ _ l0_0 _ _ l0_1 _ _ l0_2 a1 true _ ?side1 ?side2 ?side3 ?side4 ?side5 ?side6 A16.out).mono ?_); (case side1 => repeat (first | exact (Kd.qal HR0_0.out HB.out) | (with_reducible refine Kd.qan ?_ _) | (with_reducible refine Kd.qao ?_ _) | (with_reducible refine Kd.qaq ?_))); (case side2 => exact HC0_0.out); (case side3 => repeat (first | exact (Kd.qal HR0_1.out HB.out) | (with_reducible refine Kd.qan ?_ _) | (with_reducible refine Kd.qao ?_ _) | (with_reducible refine Kd.qaq ?_))); (case side4 => exact HC0_1.out); (case side5 => repeat (first | exact (Kd.qal HR0_2.out HB.out) | (with_reducible refine Kd.qan ?_ _) | (with_reducible refine Kd.qao ?_ _) | (with_reducible refine Kd.qaq ?_))); (case side6 => exact HC0_2.out); rintro e w26 ⟨rfl, hb⟩; have n0_ := qac.mk (qam (g := gb185) (o := .cells #[.slice A0_0 l0_0.length c0_0, .slice A0_1 l0_1.length c0_1, .slice A0_2 l0_2.length c0_2] 26 (0, 0)) (by (with_reducible repeat (first | refine qak ?_ _ | refine qap ?_ | refine qaj ?_ _)); exact BK185.out) hb); have n1_ := qac.mk (qai (by repeat (first | (with_reducible first | exact HB.out | apply qae | apply qad | apply qaf | refine qag ?_ GE185.out) | exact HB.out)) hb); clear BK185; clear HB; have BK185 := n0_; have HB := n1_; clear n0_ n1_; (try clear hb); (try clear hb2); (try clear hk); (try clear hi); have hcz27_0 : w26.cell? ⟨gb185, 0, none⟩ = some (.slice A0_0 l0_0.length c0_0) := (qaa BK185.out 0).trans rfl; have hcz27_1 : w26.cell? ⟨gb185, 1, none⟩ = some (.slice A0_1 l0_1.length c0_1) := (qaa BK185.out 1).trans rfl; have hcz27_2 : w26.cell? ⟨gb185, 2, none⟩ = some (.slice A0_2 l0_2.length c0_2) := (qaa BK185.out 2).trans rfl; have hfz27_0 := qab BK185.out 0; have hfz27_1 := qab BK185.out 1; have hfz27_2 := qab BK185.out 2; have p189 : 0 ≤ (a1 : Int) := of_decide_eq_true (by first | (with_reducible assumption) | assumption); have q189 : a1 < (l0_0.length : Int) := of_decide_eq_true (by first | (with_reducible assumption) | assumption); obtain ⟨ad189, e189, hx189_0, hx189_1, hx189_2, hx189_3, hx189_4, hx189_5, hx189_6, hx189_7, hx189_8, hx189_9, hx189_10, hx189_11⟩ := at_T39 HR0_0.out a1 p189 q189; cases e189; replace hx189_0 := (HB.out.cell (World.block_lt_of_cell? w _ hx189_0)).trans hx189_0; replace hx189_1 := (HB.out.cell (World.block_lt_of_cell? w _ hx189_1)).trans hx189_1; replace hx189_2 := (HB.out.cell (World.block_lt_of_cell? w _ hx189_2)).trans hx189_2; replace hx189_3 := (HB.out.cell (World.block_lt_of_cell? w _ hx189_3)).trans hx189_3; replace hx189_4 := (HB.out.cell (World.block_lt_of_cell? w _ hx189_4)).trans hx189_4; replace hx189_5 := (HB.out.cell (World.block_lt_of_cell? w _ hx189_5)).trans hx189_5; replace hx189_6 := (HB.out.cell (World.block_lt_of_cell? w _ hx189_6)).trans hx189_6; replace hx189_7 := (HB.out.cell (World.block_lt_of_cell? w _ hx189_7)).trans hx189_7; replace hx189_8 := (HB.out.cell (World.block_lt_of_cell? w _ hx189_8)).trans hx189_8; replace hx189_9 := (HB.out.cell (World.block_lt_of_cell? w _ hx189_9)).trans hx189_9; replace hx189_10 := (HB.out.cell (World.block_lt_of_cell? w _ hx189_10)).trans hx189_10; replace hx189_11 := (HB.out.cell (World.block_lt_of_cell? w _ hx189_11)).trans hx189_11; replace p189 := eq_true p189; replace q189 := eq_true q189))
         go_meet
         case rel => exact ⟨_, (true), (by first | rfl | (simp; done) | (simp [*]; done)), H', ⟨by first | omega | exact Nat.le_refl _⟩, ⟨by (with_reducible repeat (first | refine qak ?_ _ | refine qap ?_ | refine qaj ?_ _)); exact BK185.out⟩, ⟨by repeat (first | (with_reducible first | exact HB.out | apply qae | apply qad | apply qaf | refine qag ?_ GE185.out) | exact HB.out)⟩⟩
        ·
         rw [if_neg c20] at H
         have c20b0 : decide (a2 < ((qah l0_0 a1).f0.f0)) = false := decide_eq_false c20
         clear c20
         by_cases c28 : a2 > ((qah l0_0 a1).f0.f1)
         ·
          rw [if_pos c28] at H
          have c28b0 : decide (((qah l0_0 a1).f0.f1) < a2) = true := decide_eq_true c28
          clear c28
          have H' := qac.mk H
          clear H
          have hcz29_0 : w7.cell? ⟨gb185, 0, none⟩ = some (.slice A0_0 l0_0.length c0_0) := (qaa BK185.out 0).trans rfl
          have hcz29_1 : w7.cell? ⟨gb185, 1, none⟩ = some (.slice A0_1 l0_1.length c0_1) := (qaa BK185.out 1).trans rfl
          have hcz29_2 : w7.cell? ⟨gb185, 2, none⟩ = some (.slice A0_2 l0_2.length c0_2) := (qaa BK185.out 2).trans rfl
          have hfz29_0 := qab BK185.out 0
          have hfz29_1 := qab BK185.out 1
          have hfz29_2 := qab BK185.out 2
          go_wp2_with (first | ((with_reducible refine qau (f := 16) rfl ?_); refine goesL_ (some 20) rfl rfl Try.func16 (by kernel_rfl) rfl #[.agg #[.slice A0_0 l0_0.length c0_0, .slice A0_1 l0_1.length c0_1, .slice A0_2 l0_2.length c0_2]] rfl (by (try simp only [List.map_toArray, List.map_cons, List.map_nil]); first | done | rfl | (simp only [List.length_drop, List.length_take]; rfl)) ?_; (with_reducible refine (taliklaw04_short.calls k _ _ l0_0 _ _ l0_1 _ _ l0_2 true _ ?side1 ?side2 ?side3 ?side4 ?side5 ?side6 A8.out).mono ?_); (case side1 => repeat (first | exact (Kd.qal HR0_0.out HB.out) | (with_reducible refine Kd.qan ?_ _) | (with_reducible refine Kd.qao ?_ _) | (with_reducible refine Kd.qaq ?_))); (case side2 => exact HC0_0.out); (case side3 => repeat (first | exact (Kd.qal HR0_1.out HB.out) | (with_reducible refine Kd.qan ?_ _) | (with_reducible refine Kd.qao ?_ _) | (with_reducible refine Kd.qaq ?_))); (case side4 => exact HC0_1.out); (case side5 => repeat (first | exact (Kd.qal HR0_2.out HB.out) | (with_reducible refine Kd.qan ?_ _) | (with_reducible refine Kd.qao ?_ _) | (with_reducible refine Kd.qaq ?_))); (case side6 => exact HC0_2.out); rintro e w30 ⟨rfl, hb⟩; refine ⟨_, rfl, ?_⟩; have n0_ := qac.mk (qam (g := gb185) (o := .cells #[.slice A0_0 l0_0.length c0_0, .slice A0_1 l0_1.length c0_1, .slice A0_2 l0_2.length c0_2] 26 (0, 0)) (by (with_reducible repeat (first | refine qak ?_ _ | refine qap ?_ | refine qaj ?_ _)); exact BK185.out) hb); have n1_ := qac.mk (qai (by repeat (first | (with_reducible first | exact HB.out | apply qae | apply qad | apply qaf | refine qag ?_ GE185.out) | exact HB.out)) hb); clear BK185; clear HB; have BK185 := n0_; have HB := n1_; clear n0_ n1_; (try clear hb); (try clear hb2); (try clear hk); (try clear hi); have hcz31_0 : w30.cell? ⟨gb185, 0, none⟩ = some (.slice A0_0 l0_0.length c0_0) := (qaa BK185.out 0).trans rfl; have hcz31_1 : w30.cell? ⟨gb185, 1, none⟩ = some (.slice A0_1 l0_1.length c0_1) := (qaa BK185.out 1).trans rfl; have hcz31_2 : w30.cell? ⟨gb185, 2, none⟩ = some (.slice A0_2 l0_2.length c0_2) := (qaa BK185.out 2).trans rfl; have hfz31_0 := qab BK185.out 0; have hfz31_1 := qab BK185.out 1; have hfz31_2 := qab BK185.out 2) | (go_at_call 19; (with_reducible refine (talikref04_Net.calls k _ _ l0_0 _ _ l0_1 _ _ l0_2 true _ ?side1 ?side2 ?side3 ?side4 ?side5 ?side6 A14.out).mono ?_); (case side1 => repeat (first | exact (Kd.qal HR0_0.out HB.out) | (with_reducible refine Kd.qan ?_ _) | (with_reducible refine Kd.qao ?_ _) | (with_reducible refine Kd.qaq ?_))); (case side2 => exact HC0_0.out); (case side3 => repeat (first | exact (Kd.qal HR0_1.out HB.out) | (with_reducible refine Kd.qan ?_ _) | (with_reducible refine Kd.qao ?_ _) | (with_reducible refine Kd.qaq ?_))); (case side4 => exact HC0_1.out); (case side5 => repeat (first | exact (Kd.qal HR0_2.out HB.out) | (with_reducible refine Kd.qan ?_ _) | (with_reducible refine Kd.qao ?_ _) | (with_reducible refine Kd.qaq ?_))); (case side6 => exact HC0_2.out); rintro e w32 ⟨rfl, hb⟩; have n0_ := qac.mk (qam (g := gb185) (o := .cells #[.slice A0_0 l0_0.length c0_0, .slice A0_1 l0_1.length c0_1, .slice A0_2 l0_2.length c0_2] 26 (0, 0)) (by (with_reducible repeat (first | refine qak ?_ _ | refine qap ?_ | refine qaj ?_ _)); exact BK185.out) hb); have n1_ := qac.mk (qai (by repeat (first | (with_reducible first | exact HB.out | apply qae | apply qad | apply qaf | refine qag ?_ GE185.out) | exact HB.out)) hb); clear BK185; clear HB; have BK185 := n0_; have HB := n1_; clear n0_ n1_; (try clear hb); (try clear hb2); (try clear hk); (try clear hi); have hcz33_0 : w32.cell? ⟨gb185, 0, none⟩ = some (.slice A0_0 l0_0.length c0_0) := (qaa BK185.out 0).trans rfl; have hcz33_1 : w32.cell? ⟨gb185, 1, none⟩ = some (.slice A0_1 l0_1.length c0_1) := (qaa BK185.out 1).trans rfl; have hcz33_2 : w32.cell? ⟨gb185, 2, none⟩ = some (.slice A0_2 l0_2.length c0_2) := (qaa BK185.out 2).trans rfl; have hfz33_0 := qab BK185.out 0; have hfz33_1 := qab BK185.out 1; have hfz33_2 := qab BK185.out 2) | (go_at_call 20; (with_reducible refine (talikref04_IsLoop.calls _ _ l0_0 _ _ l0_1 _ _ l0_2 a1 true _ ?side1 ?side2 ?side3 ?side4 ?side5 ?side6 A16.out).mono ?_); (case side1 => repeat (first | exact (Kd.qal HR0_0.out HB.out) | (with_reducible refine Kd.qan ?_ _) | (with_reducible refine Kd.qao ?_ _) | (with_reducible refine Kd.qaq ?_))); (case side2 => exact HC0_0.out); (case side3 => repeat (first | exact (Kd.qal HR0_1.out HB.out) | (with_reducible refine Kd.qan ?_ _) | (with_reducible refine Kd.qao ?_ _) | (with_reducible refine Kd.qaq ?_))); (case side4 => exact HC0_1.out); (case side5 => repeat (first | exact (Kd.qal HR0_2.out HB.out) | (with_reducible refine Kd.qan ?_ _) | (with_reducible refine Kd.qao ?_ _) | (with_reducible refine Kd.qaq ?_))); (case side6 => exact HC0_2.out); rintro e w34 ⟨rfl, hb⟩; have n0_ := qac.mk (qam (g := gb185) (o := .cells #[.slice A0_0 l0_0.length c0_0, .slice A0_1 l0_1.length c0_1, .slice A0_2 l0_2.length c0_2] 26 (0, 0)) (by (with_reducible repeat (first | refine qak ?_ _ | refine qap ?_ | refine qaj ?_ _)); exact BK185.out) hb); have n1_ := qac.mk (qai (by repeat (first | (with_reducible first | exact HB.out | apply qae | apply qad | apply qaf | refine qag ?_ GE185.out) | exact HB.out)) hb); clear BK185; clear HB; have BK185 := n0_; have HB := n1_; clear n0_ n1_; (try clear hb); (try clear hb2); (try clear hk); (try clear hi); have hcz35_0 : w34.cell? ⟨gb185, 0, none⟩ = some (.slice A0_0 l0_0.length c0_0) := (qaa BK185.out 0).trans rfl; have hcz35_1 : w34.cell? ⟨gb185, 1, none⟩ = some (.slice A0_1 l0_1.length c0_1) := (qaa BK185.out 1).trans rfl; have hcz35_2 : w34.cell? ⟨gb185, 2, none⟩ = some (.slice A0_2 l0_2.length c0_2) := (qaa BK185.out 2).trans rfl; have hfz35_0 := qab BK185.out 0; have hfz35_1 := qab BK185.out 1; have hfz35_2 := qab BK185.out 2; have p189 : 0 ≤ (a1 : Int) := of_decide_eq_true (by first | (with_reducible assumption) | assumption); have q189 : a1 < (l0_0.length : Int) := of_decide_eq_true (by first | (with_reducible assumption) | assumption); obtain ⟨ad189, e189, hx189_0, hx189_1, hx189_2, hx189_3, hx189_4, hx189_5, hx189_6, hx189_7, hx189_8, hx189_9, hx189_10, hx189_11⟩ := at_T39 HR0_0.out a1 p189 q189; cases e189; replace hx189_0 := (HB.out.cell (World.block_lt_of_cell? w _ hx189_0)).trans hx189_0; replace hx189_1 := (HB.out.cell (World.block_lt_of_cell? w _ hx189_1)).trans hx189_1; replace hx189_2 := (HB.out.cell (World.block_lt_of_cell? w _ hx189_2)).trans hx189_2; replace hx189_3 := (HB.out.cell (World.block_lt_of_cell? w _ hx189_3)).trans hx189_3; replace hx189_4 := (HB.out.cell (World.block_lt_of_cell? w _ hx189_4)).trans hx189_4; replace hx189_5 := (HB.out.cell (World.block_lt_of_cell? w _ hx189_5)).trans hx189_5; replace hx189_6 := (HB.out.cell (World.block_lt_of_cell? w _ hx189_6)).trans hx189_6; replace hx189_7 := (HB.out.cell (World.block_lt_of_cell? w _ hx189_7)).trans hx189_7; replace hx189_8 := (HB.out.cell (World.block_lt_of_cell? w _ hx189_8)).trans hx189_8; replace hx189_9 := (HB.out.cell (World.block_lt_of_cell? w _ hx189_9)).trans hx189_9; replace hx189_10 := (HB.out.cell (World.block_lt_of_cell? w _ hx189_10)).trans hx189_10; replace hx189_11 := (HB.out.cell (World.block_lt_of_cell? w _ hx189_11)).trans hx189_11; replace p189 := eq_true p189; replace q189 := eq_true q189; have p190 : 0 ≤ (a1 : Int) := of_decide_eq_true (by first | (with_reducible assumption) | assumption); have q190 : a1 < (l0_0.length : Int) := of_decide_eq_true (by first | (with_reducible assumption) | assumption); obtain ⟨ad190, e190, hx190_0, hx190_1, hx190_2, hx190_3, hx190_4, hx190_5, hx190_6, hx190_7, hx190_8, hx190_9, hx190_10, hx190_11⟩ := at_T39 HR0_0.out a1 p190 q190; obtain rfl : ad189 = ad190 := (by injection e190); replace hx190_0 := (HB.out.cell (World.block_lt_of_cell? w _ hx190_0)).trans hx190_0; replace hx190_1 := (HB.out.cell (World.block_lt_of_cell? w _ hx190_1)).trans hx190_1; replace hx190_2 := (HB.out.cell (World.block_lt_of_cell? w _ hx190_2)).trans hx190_2; replace hx190_3 := (HB.out.cell (World.block_lt_of_cell? w _ hx190_3)).trans hx190_3; replace hx190_4 := (HB.out.cell (World.block_lt_of_cell? w _ hx190_4)).trans hx190_4; replace hx190_5 := (HB.out.cell (World.block_lt_of_cell? w _ hx190_5)).trans hx190_5; replace hx190_6 := (HB.out.cell (World.block_lt_of_cell? w _ hx190_6)).trans hx190_6; replace hx190_7 := (HB.out.cell (World.block_lt_of_cell? w _ hx190_7)).trans hx190_7; replace hx190_8 := (HB.out.cell (World.block_lt_of_cell? w _ hx190_8)).trans hx190_8; replace hx190_9 := (HB.out.cell (World.block_lt_of_cell? w _ hx190_9)).trans hx190_9; replace hx190_10 := (HB.out.cell (World.block_lt_of_cell? w _ hx190_10)).trans hx190_10; replace hx190_11 := (HB.out.cell (World.block_lt_of_cell? w _ hx190_11)).trans hx190_11; replace p190 := eq_true p190; replace q190 := eq_true q190))
          go_meet
          case rel => exact ⟨_, (true), (by first | rfl | (simp; done) | (simp [*]; done)), H', ⟨by first | omega | exact Nat.le_refl _⟩, ⟨by (with_reducible repeat (first | refine qak ?_ _ | refine qap ?_ | refine qaj ?_ _)); exact BK185.out⟩, ⟨by repeat (first | (with_reducible first | exact HB.out | apply qae | apply qad | apply qaf | refine qag ?_ GE185.out) | exact HB.out)⟩⟩
         ·
          rw [if_neg c28] at H
          have c28b0 : decide (((qah l0_0 a1).f0.f1) < a2) = false := decide_eq_false c28
          clear c28
          replace H := Option.bind_eq_some_iff.mp H
          obtain ⟨t191, A360, H⟩ := H
          replace H : (if t191 = true then (if a4 < 0 then (taliklaw04_PipeBalance.j0 k a1 a2 l3 a4 true l0_0 l0_1 l0_2) else (taliklaw04_PipeBalance.j0 k a1 a2 l3 a4 (decide (a4 > (l3.length : Int))) l0_0 l0_1 l0_2)) else (taliklaw04_PipeBalance.j0 k a1 a2 l3 a4 true l0_0 l0_1 l0_2)) = some r := H
          have A36 := qac.mk A360
          clear A360
          by_cases c37 : t191 = true
          ·
           subst c37
           have H1 : (if a4 < 0 then (taliklaw04_PipeBalance.j0 k a1 a2 l3 a4 true l0_0 l0_1 l0_2) else (taliklaw04_PipeBalance.j0 k a1 a2 l3 a4 (decide (a4 > (l3.length : Int))) l0_0 l0_1 l0_2)) = some r := by rw [if_pos rfl] at H; exact H
           clear H
           have H := H1
           clear H1
           by_cases c38 : a4 < 0
           ·
            rw [if_pos c38] at H
            have c38b0 : decide (a4 < 0) = true := decide_eq_true c38
            clear c38
            have H' := qac.mk H
            clear H
            have hcz39_0 : w7.cell? ⟨gb185, 0, none⟩ = some (.slice A0_0 l0_0.length c0_0) := (qaa BK185.out 0).trans rfl
            have hcz39_1 : w7.cell? ⟨gb185, 1, none⟩ = some (.slice A0_1 l0_1.length c0_1) := (qaa BK185.out 1).trans rfl
            have hcz39_2 : w7.cell? ⟨gb185, 2, none⟩ = some (.slice A0_2 l0_2.length c0_2) := (qaa BK185.out 2).trans rfl
            have hfz39_0 := qab BK185.out 0
            have hfz39_1 := qab BK185.out 1
            have hfz39_2 := qab BK185.out 2
            go_wp2_with (first | ((with_reducible refine qau (f := 16) rfl ?_); refine goesL_ (some 20) rfl rfl Try.func16 (by kernel_rfl) rfl #[.agg #[.slice A0_0 l0_0.length c0_0, .slice A0_1 l0_1.length c0_1, .slice A0_2 l0_2.length c0_2]] rfl (by (try simp only [List.map_toArray, List.map_cons, List.map_nil]); first | done | rfl | (simp only [List.length_drop, List.length_take]; rfl)) ?_; (with_reducible refine (taliklaw04_short.calls k _ _ l0_0 _ _ l0_1 _ _ l0_2 true _ ?side1 ?side2 ?side3 ?side4 ?side5 ?side6 A8.out).mono ?_); (case side1 => repeat (first | exact (Kd.qal HR0_0.out HB.out) | (with_reducible refine Kd.qan ?_ _) | (with_reducible refine Kd.qao ?_ _) | (with_reducible refine Kd.qaq ?_))); (case side2 => exact HC0_0.out); (case side3 => repeat (first | exact (Kd.qal HR0_1.out HB.out) | (with_reducible refine Kd.qan ?_ _) | (with_reducible refine Kd.qao ?_ _) | (with_reducible refine Kd.qaq ?_))); (case side4 => exact HC0_1.out); (case side5 => repeat (first | exact (Kd.qal HR0_2.out HB.out) | (with_reducible refine Kd.qan ?_ _) | (with_reducible refine Kd.qao ?_ _) | (with_reducible refine Kd.qaq ?_))); (case side6 => exact HC0_2.out); rintro e w40 ⟨rfl, hb⟩; refine ⟨_, rfl, ?_⟩; have n0_ := qac.mk (qam (g := gb185) (o := .cells #[.slice A0_0 l0_0.length c0_0, .slice A0_1 l0_1.length c0_1, .slice A0_2 l0_2.length c0_2] 26 (0, 0)) (by (with_reducible repeat (first | refine qak ?_ _ | refine qap ?_ | refine qaj ?_ _)); exact BK185.out) hb); have n1_ := qac.mk (qai (by repeat (first | (with_reducible first | exact HB.out | apply qae | apply qad | apply qaf | refine qag ?_ GE185.out) | exact HB.out)) hb); clear BK185; clear HB; have BK185 := n0_; have HB := n1_; clear n0_ n1_; (try clear hb); (try clear hb2); (try clear hk); (try clear hi); have hcz41_0 : w40.cell? ⟨gb185, 0, none⟩ = some (.slice A0_0 l0_0.length c0_0) := (qaa BK185.out 0).trans rfl; have hcz41_1 : w40.cell? ⟨gb185, 1, none⟩ = some (.slice A0_1 l0_1.length c0_1) := (qaa BK185.out 1).trans rfl; have hcz41_2 : w40.cell? ⟨gb185, 2, none⟩ = some (.slice A0_2 l0_2.length c0_2) := (qaa BK185.out 2).trans rfl; have hfz41_0 := qab BK185.out 0; have hfz41_1 := qab BK185.out 1; have hfz41_2 := qab BK185.out 2) | (go_at_call 19; (with_reducible refine (talikref04_Net.calls k _ _ l0_0 _ _ l0_1 _ _ l0_2 true _ ?side1 ?side2 ?side3 ?side4 ?side5 ?side6 A14.out).mono ?_); (case side1 => repeat (first | exact (Kd.qal HR0_0.out HB.out) | (with_reducible refine Kd.qan ?_ _) | (with_reducible refine Kd.qao ?_ _) | (with_reducible refine Kd.qaq ?_))); (case side2 => exact HC0_0.out); (case side3 => repeat (first | exact (Kd.qal HR0_1.out HB.out) | (with_reducible refine Kd.qan ?_ _) | (with_reducible refine Kd.qao ?_ _) | (with_reducible refine Kd.qaq ?_))); (case side4 => exact HC0_1.out); (case side5 => repeat (first | exact (Kd.qal HR0_2.out HB.out) | (with_reducible refine Kd.qan ?_ _) | (with_reducible refine Kd.qao ?_ _) | (with_reducible refine Kd.qaq ?_))); (case side6 => exact HC0_2.out); rintro e w42 ⟨rfl, hb⟩; have n0_ := qac.mk (qam (g := gb185) (o := .cells #[.slice A0_0 l0_0.length c0_0, .slice A0_1 l0_1.length c0_1, .slice A0_2 l0_2.length c0_2] 26 (0, 0)) (by (with_reducible repeat (first | refine qak ?_ _ | refine qap ?_ | refine qaj ?_ _)); exact BK185.out) hb); have n1_ := qac.mk (qai (by repeat (first | (with_reducible first | exact HB.out | apply qae | apply qad | apply qaf | refine qag ?_ GE185.out) | exact HB.out)) hb); clear BK185; clear HB; have BK185 := n0_; have HB := n1_; clear n0_ n1_; (try clear hb); (try clear hb2); (try clear hk); (try clear hi); have hcz43_0 : w42.cell? ⟨gb185, 0, none⟩ = some (.slice A0_0 l0_0.length c0_0) := (qaa BK185.out 0).trans rfl; have hcz43_1 : w42.cell? ⟨gb185, 1, none⟩ = some (.slice A0_1 l0_1.length c0_1) := (qaa BK185.out 1).trans rfl; have hcz43_2 : w42.cell? ⟨gb185, 2, none⟩ = some (.slice A0_2 l0_2.length c0_2) := (qaa BK185.out 2).trans rfl; have hfz43_0 := qab BK185.out 0; have hfz43_1 := qab BK185.out 1; have hfz43_2 := qab BK185.out 2) | (go_at_call 20; (with_reducible refine (talikref04_IsLoop.calls _ _ l0_0 _ _ l0_1 _ _ l0_2 a1 true _ ?side1 ?side2 ?side3 ?side4 ?side5 ?side6 A16.out).mono ?_); (case side1 => repeat (first | exact (Kd.qal HR0_0.out HB.out) | (with_reducible refine Kd.qan ?_ _) | (with_reducible refine Kd.qao ?_ _) | (with_reducible refine Kd.qaq ?_))); (case side2 => exact HC0_0.out); (case side3 => repeat (first | exact (Kd.qal HR0_1.out HB.out) | (with_reducible refine Kd.qan ?_ _) | (with_reducible refine Kd.qao ?_ _) | (with_reducible refine Kd.qaq ?_))); (case side4 => exact HC0_1.out); (case side5 => repeat (first | exact (Kd.qal HR0_2.out HB.out) | (with_reducible refine Kd.qan ?_ _) | (with_reducible refine Kd.qao ?_ _) | (with_reducible refine Kd.qaq ?_))); (case side6 => exact HC0_2.out); rintro e w44 ⟨rfl, hb⟩; have n0_ := qac.mk (qam (g := gb185) (o := .cells #[.slice A0_0 l0_0.length c0_0, .slice A0_1 l0_1.length c0_1, .slice A0_2 l0_2.length c0_2] 26 (0, 0)) (by (with_reducible repeat (first | refine qak ?_ _ | refine qap ?_ | refine qaj ?_ _)); exact BK185.out) hb); have n1_ := qac.mk (qai (by repeat (first | (with_reducible first | exact HB.out | apply qae | apply qad | apply qaf | refine qag ?_ GE185.out) | exact HB.out)) hb); clear BK185; clear HB; have BK185 := n0_; have HB := n1_; clear n0_ n1_; (try clear hb); (try clear hb2); (try clear hk); (try clear hi); have hcz45_0 : w44.cell? ⟨gb185, 0, none⟩ = some (.slice A0_0 l0_0.length c0_0) := (qaa BK185.out 0).trans rfl; have hcz45_1 : w44.cell? ⟨gb185, 1, none⟩ = some (.slice A0_1 l0_1.length c0_1) := (qaa BK185.out 1).trans rfl; have hcz45_2 : w44.cell? ⟨gb185, 2, none⟩ = some (.slice A0_2 l0_2.length c0_2) := (qaa BK185.out 2).trans rfl; have hfz45_0 := qab BK185.out 0; have hfz45_1 := qab BK185.out 1; have hfz45_2 := qab BK185.out 2; have p189 : 0 ≤ (a1 : Int) := of_decide_eq_true (by first | (with_reducible assumption) | assumption); have q189 : a1 < (l0_0.length : Int) := of_decide_eq_true (by first | (with_reducible assumption) | assumption); obtain ⟨ad189, e189, hx189_0, hx189_1, hx189_2, hx189_3, hx189_4, hx189_5, hx189_6, hx189_7, hx189_8, hx189_9, hx189_10, hx189_11⟩ := at_T39 HR0_0.out a1 p189 q189; cases e189; replace hx189_0 := (HB.out.cell (World.block_lt_of_cell? w _ hx189_0)).trans hx189_0; replace hx189_1 := (HB.out.cell (World.block_lt_of_cell? w _ hx189_1)).trans hx189_1; replace hx189_2 := (HB.out.cell (World.block_lt_of_cell? w _ hx189_2)).trans hx189_2; replace hx189_3 := (HB.out.cell (World.block_lt_of_cell? w _ hx189_3)).trans hx189_3; replace hx189_4 := (HB.out.cell (World.block_lt_of_cell? w _ hx189_4)).trans hx189_4; replace hx189_5 := (HB.out.cell (World.block_lt_of_cell? w _ hx189_5)).trans hx189_5; replace hx189_6 := (HB.out.cell (World.block_lt_of_cell? w _ hx189_6)).trans hx189_6; replace hx189_7 := (HB.out.cell (World.block_lt_of_cell? w _ hx189_7)).trans hx189_7; replace hx189_8 := (HB.out.cell (World.block_lt_of_cell? w _ hx189_8)).trans hx189_8; replace hx189_9 := (HB.out.cell (World.block_lt_of_cell? w _ hx189_9)).trans hx189_9; replace hx189_10 := (HB.out.cell (World.block_lt_of_cell? w _ hx189_10)).trans hx189_10; replace hx189_11 := (HB.out.cell (World.block_lt_of_cell? w _ hx189_11)).trans hx189_11; replace p189 := eq_true p189; replace q189 := eq_true q189; have p190 : 0 ≤ (a1 : Int) := of_decide_eq_true (by first | (with_reducible assumption) | assumption); have q190 : a1 < (l0_0.length : Int) := of_decide_eq_true (by first | (with_reducible assumption) | assumption); obtain ⟨ad190, e190, hx190_0, hx190_1, hx190_2, hx190_3, hx190_4, hx190_5, hx190_6, hx190_7, hx190_8, hx190_9, hx190_10, hx190_11⟩ := at_T39 HR0_0.out a1 p190 q190; obtain rfl : ad189 = ad190 := (by injection e190); replace hx190_0 := (HB.out.cell (World.block_lt_of_cell? w _ hx190_0)).trans hx190_0; replace hx190_1 := (HB.out.cell (World.block_lt_of_cell? w _ hx190_1)).trans hx190_1; replace hx190_2 := (HB.out.cell (World.block_lt_of_cell? w _ hx190_2)).trans hx190_2; replace hx190_3 := (HB.out.cell (World.block_lt_of_cell? w _ hx190_3)).trans hx190_3; replace hx190_4 := (HB.out.cell (World.block_lt_of_cell? w _ hx190_4)).trans hx190_4; replace hx190_5 := (HB.out.cell (World.block_lt_of_cell? w _ hx190_5)).trans hx190_5; replace hx190_6 := (HB.out.cell (World.block_lt_of_cell? w _ hx190_6)).trans hx190_6; replace hx190_7 := (HB.out.cell (World.block_lt_of_cell? w _ hx190_7)).trans hx190_7; replace hx190_8 := (HB.out.cell (World.block_lt_of_cell? w _ hx190_8)).trans hx190_8; replace hx190_9 := (HB.out.cell (World.block_lt_of_cell? w _ hx190_9)).trans hx190_9; replace hx190_10 := (HB.out.cell (World.block_lt_of_cell? w _ hx190_10)).trans hx190_10; replace hx190_11 := (HB.out.cell (World.block_lt_of_cell? w _ hx190_11)).trans hx190_11; replace p190 := eq_true p190; replace q190 := eq_true q190) | (go_at_call 21; (with_reducible refine (talikref04_Truth.calls _ _ l0_0 _ _ l0_1 _ _ l0_2 a1 _ _ l3 true _ ?side1 ?side2 ?side3 ?side4 ?side5 ?side6 ?side7 ?side8 A36.out).mono ?_); (case side1 => repeat (first | exact (Kd.qal HR0_0.out HB.out) | (with_reducible refine Kd.qan ?_ _) | (with_reducible refine Kd.qao ?_ _) | (with_reducible refine Kd.qaq ?_))); (case side2 => exact HC0_0.out); (case side3 => repeat (first | exact (Kd.qal HR0_1.out HB.out) | (with_reducible refine Kd.qan ?_ _) | (with_reducible refine Kd.qao ?_ _) | (with_reducible refine Kd.qaq ?_))); (case side4 => exact HC0_1.out); (case side5 => repeat (first | exact (Kd.qal HR0_2.out HB.out) | (with_reducible refine Kd.qan ?_ _) | (with_reducible refine Kd.qao ?_ _) | (with_reducible refine Kd.qaq ?_))); (case side6 => exact HC0_2.out); (case side7 => repeat (first | exact (Kd.qal HR3.out HB.out) | (with_reducible refine Kd.qan ?_ _) | (with_reducible refine Kd.qao ?_ _) | (with_reducible refine Kd.qaq ?_))); (case side8 => exact HC3.out); rintro e w46 ⟨rfl, hb⟩; have n0_ := qac.mk (qam (g := gb185) (o := .cells #[.slice (some ad189) l0_0.length c0_0, .slice A0_1 l0_1.length c0_1, .slice A0_2 l0_2.length c0_2] 26 (0, 0)) (by (with_reducible repeat (first | refine qak ?_ _ | refine qap ?_ | refine qaj ?_ _)); exact BK185.out) hb); have n1_ := qac.mk (qai (by repeat (first | (with_reducible first | exact HB.out | apply qae | apply qad | apply qaf | refine qag ?_ GE185.out) | exact HB.out)) hb); clear BK185; clear HB; have BK185 := n0_; have HB := n1_; clear n0_ n1_; (try clear hb); (try clear hb2); (try clear hk); (try clear hi)))
            go_meet
            case rel => exact ⟨_, (true), (by first | rfl | (simp; done) | (simp [*]; done)), H', ⟨by first | omega | exact Nat.le_refl _⟩, ⟨by (with_reducible repeat (first | refine qak ?_ _ | refine qap ?_ | refine qaj ?_ _)); exact BK185.out⟩, ⟨by repeat (first | (with_reducible first | exact HB.out | apply qae | apply qad | apply qaf | refine qag ?_ GE185.out) | exact HB.out)⟩⟩
           ·
            rw [if_neg c38] at H
            have c38b0 : decide (a4 < 0) = false := decide_eq_false c38
            clear c38
            have H' := qac.mk H
            clear H
            have hcz47_0 : w7.cell? ⟨gb185, 0, none⟩ = some (.slice A0_0 l0_0.length c0_0) := (qaa BK185.out 0).trans rfl
            have hcz47_1 : w7.cell? ⟨gb185, 1, none⟩ = some (.slice A0_1 l0_1.length c0_1) := (qaa BK185.out 1).trans rfl
            have hcz47_2 : w7.cell? ⟨gb185, 2, none⟩ = some (.slice A0_2 l0_2.length c0_2) := (qaa BK185.out 2).trans rfl
            have hfz47_0 := qab BK185.out 0
            have hfz47_1 := qab BK185.out 1
            have hfz47_2 := qab BK185.out 2
            go_wp2_with (first | ((with_reducible refine qau (f := 16) rfl ?_); refine goesL_ (some 20) rfl rfl Try.func16 (by kernel_rfl) rfl #[.agg #[.slice A0_0 l0_0.length c0_0, .slice A0_1 l0_1.length c0_1, .slice A0_2 l0_2.length c0_2]] rfl (by (try simp only [List.map_toArray, List.map_cons, List.map_nil]); first | done | rfl | (simp only [List.length_drop, List.length_take]; rfl)) ?_; (with_reducible refine (taliklaw04_short.calls k _ _ l0_0 _ _ l0_1 _ _ l0_2 true _ ?side1 ?side2 ?side3 ?side4 ?side5 ?side6 A8.out).mono ?_); (case side1 => repeat (first | exact (Kd.qal HR0_0.out HB.out) | (with_reducible refine Kd.qan ?_ _) | (with_reducible refine Kd.qao ?_ _) | (with_reducible refine Kd.qaq ?_))); (case side2 => exact HC0_0.out); (case side3 => repeat (first | exact (Kd.qal HR0_1.out HB.out) | (with_reducible refine Kd.qan ?_ _) | (with_reducible refine Kd.qao ?_ _) | (with_reducible refine Kd.qaq ?_))); (case side4 => exact HC0_1.out); (case side5 => repeat (first | exact (Kd.qal HR0_2.out HB.out) | (with_reducible refine Kd.qan ?_ _) | (with_reducible refine Kd.qao ?_ _) | (with_reducible refine Kd.qaq ?_))); (case side6 => exact HC0_2.out); rintro e w48 ⟨rfl, hb⟩; refine ⟨_, rfl, ?_⟩; have n0_ := qac.mk (qam (g := gb185) (o := .cells #[.slice A0_0 l0_0.length c0_0, .slice A0_1 l0_1.length c0_1, .slice A0_2 l0_2.length c0_2] 26 (0, 0)) (by (with_reducible repeat (first | refine qak ?_ _ | refine qap ?_ | refine qaj ?_ _)); exact BK185.out) hb); have n1_ := qac.mk (qai (by repeat (first | (with_reducible first | exact HB.out | apply qae | apply qad | apply qaf | refine qag ?_ GE185.out) | exact HB.out)) hb); clear BK185; clear HB; have BK185 := n0_; have HB := n1_; clear n0_ n1_; (try clear hb); (try clear hb2); (try clear hk); (try clear hi); have hcz49_0 : w48.cell? ⟨gb185, 0, none⟩ = some (.slice A0_0 l0_0.length c0_0) := (qaa BK185.out 0).trans rfl; have hcz49_1 : w48.cell? ⟨gb185, 1, none⟩ = some (.slice A0_1 l0_1.length c0_1) := (qaa BK185.out 1).trans rfl; have hcz49_2 : w48.cell? ⟨gb185, 2, none⟩ = some (.slice A0_2 l0_2.length c0_2) := (qaa BK185.out 2).trans rfl; have hfz49_0 := qab BK185.out 0; have hfz49_1 := qab BK185.out 1; have hfz49_2 := qab BK185.out 2) | (go_at_call 19; (with_reducible refine (talikref04_Net.calls k _ _ l0_0 _ _ l0_1 _ _ l0_2 true _ ?side1 ?side2 ?side3 ?side4 ?side5 ?side6 A14.out).mono ?_); (case side1 => repeat (first | exact (Kd.qal HR0_0.out HB.out) | (with_reducible refine Kd.qan ?_ _) | (with_reducible refine Kd.qao ?_ _) | (with_reducible refine Kd.qaq ?_))); (case side2 => exact HC0_0.out); (case side3 => repeat (first | exact (Kd.qal HR0_1.out HB.out) | (with_reducible refine Kd.qan ?_ _) | (with_reducible refine Kd.qao ?_ _) | (with_reducible refine Kd.qaq ?_))); (case side4 => exact HC0_1.out); (case side5 => repeat (first | exact (Kd.qal HR0_2.out HB.out) | (with_reducible refine Kd.qan ?_ _) | (with_reducible refine Kd.qao ?_ _) | (with_reducible refine Kd.qaq ?_))); (case side6 => exact HC0_2.out); rintro e w50 ⟨rfl, hb⟩; have n0_ := qac.mk (qam (g := gb185) (o := .cells #[.slice A0_0 l0_0.length c0_0, .slice A0_1 l0_1.length c0_1, .slice A0_2 l0_2.length c0_2] 26 (0, 0)) (by (with_reducible repeat (first | refine qak ?_ _ | refine qap ?_ | refine qaj ?_ _)); exact BK185.out) hb); have n1_ := qac.mk (qai (by repeat (first | (with_reducible first | exact HB.out | apply qae | apply qad | apply qaf | refine qag ?_ GE185.out) | exact HB.out)) hb); clear BK185; clear HB; have BK185 := n0_; have HB := n1_; clear n0_ n1_; (try clear hb); (try clear hb2); (try clear hk); (try clear hi); have hcz51_0 : w50.cell? ⟨gb185, 0, none⟩ = some (.slice A0_0 l0_0.length c0_0) := (qaa BK185.out 0).trans rfl; have hcz51_1 : w50.cell? ⟨gb185, 1, none⟩ = some (.slice A0_1 l0_1.length c0_1) := (qaa BK185.out 1).trans rfl; have hcz51_2 : w50.cell? ⟨gb185, 2, none⟩ = some (.slice A0_2 l0_2.length c0_2) := (qaa BK185.out 2).trans rfl; have hfz51_0 := qab BK185.out 0; have hfz51_1 := qab BK185.out 1; have hfz51_2 := qab BK185.out 2) | (go_at_call 20; (with_reducible refine (talikref04_IsLoop.calls _ _ l0_0 _ _ l0_1 _ _ l0_2 a1 true _ ?side1 ?side2 ?side3 ?side4 ?side5 ?side6 A16.out).mono ?_); (case side1 => repeat (first | exact (Kd.qal HR0_0.out HB.out) | (with_reducible refine Kd.qan ?_ _) | (with_reducible refine Kd.qao ?_ _) | (with_reducible refine Kd.qaq ?_))); (case side2 => exact HC0_0.out); (case side3 => repeat (first | exact (Kd.qal HR0_1.out HB.out) | (with_reducible refine Kd.qan ?_ _) | (with_reducible refine Kd.qao ?_ _) | (with_reducible refine Kd.qaq ?_))); (case side4 => exact HC0_1.out); (case side5 => repeat (first | exact (Kd.qal HR0_2.out HB.out) | (with_reducible refine Kd.qan ?_ _) | (with_reducible refine Kd.qao ?_ _) | (with_reducible refine Kd.qaq ?_))); (case side6 => exact HC0_2.out); rintro e w52 ⟨rfl, hb⟩; have n0_ := qac.mk (qam (g := gb185) (o := .cells #[.slice A0_0 l0_0.length c0_0, .slice A0_1 l0_1.length c0_1, .slice A0_2 l0_2.length c0_2] 26 (0, 0)) (by (with_reducible repeat (first | refine qak ?_ _ | refine qap ?_ | refine qaj ?_ _)); exact BK185.out) hb); have n1_ := qac.mk (qai (by repeat (first | (with_reducible first | exact HB.out | apply qae | apply qad | apply qaf | refine qag ?_ GE185.out) | exact HB.out)) hb); clear BK185; clear HB; have BK185 := n0_; have HB := n1_; clear n0_ n1_; (try clear hb); (try clear hb2); (try clear hk); (try clear hi); have hcz53_0 : w52.cell? ⟨gb185, 0, none⟩ = some (.slice A0_0 l0_0.length c0_0) := (qaa BK185.out 0).trans rfl; have hcz53_1 : w52.cell? ⟨gb185, 1, none⟩ = some (.slice A0_1 l0_1.length c0_1) := (qaa BK185.out 1).trans rfl; have hcz53_2 : w52.cell? ⟨gb185, 2, none⟩ = some (.slice A0_2 l0_2.length c0_2) := (qaa BK185.out 2).trans rfl; have hfz53_0 := qab BK185.out 0; have hfz53_1 := qab BK185.out 1; have hfz53_2 := qab BK185.out 2; have p189 : 0 ≤ (a1 : Int) := of_decide_eq_true (by first | (with_reducible assumption) | assumption); have q189 : a1 < (l0_0.length : Int) := of_decide_eq_true (by first | (with_reducible assumption) | assumption); obtain ⟨ad189, e189, hx189_0, hx189_1, hx189_2, hx189_3, hx189_4, hx189_5, hx189_6, hx189_7, hx189_8, hx189_9, hx189_10, hx189_11⟩ := at_T39 HR0_0.out a1 p189 q189; cases e189; replace hx189_0 := (HB.out.cell (World.block_lt_of_cell? w _ hx189_0)).trans hx189_0; replace hx189_1 := (HB.out.cell (World.block_lt_of_cell? w _ hx189_1)).trans hx189_1; replace hx189_2 := (HB.out.cell (World.block_lt_of_cell? w _ hx189_2)).trans hx189_2; replace hx189_3 := (HB.out.cell (World.block_lt_of_cell? w _ hx189_3)).trans hx189_3; replace hx189_4 := (HB.out.cell (World.block_lt_of_cell? w _ hx189_4)).trans hx189_4; replace hx189_5 := (HB.out.cell (World.block_lt_of_cell? w _ hx189_5)).trans hx189_5; replace hx189_6 := (HB.out.cell (World.block_lt_of_cell? w _ hx189_6)).trans hx189_6; replace hx189_7 := (HB.out.cell (World.block_lt_of_cell? w _ hx189_7)).trans hx189_7; replace hx189_8 := (HB.out.cell (World.block_lt_of_cell? w _ hx189_8)).trans hx189_8; replace hx189_9 := (HB.out.cell (World.block_lt_of_cell? w _ hx189_9)).trans hx189_9; replace hx189_10 := (HB.out.cell (World.block_lt_of_cell? w _ hx189_10)).trans hx189_10; replace hx189_11 := (HB.out.cell (World.block_lt_of_cell? w _ hx189_11)).trans hx189_11; replace p189 := eq_true p189; replace q189 := eq_true q189; have p190 : 0 ≤ (a1 : Int) := of_decide_eq_true (by first | (with_reducible assumption) | assumption); have q190 : a1 < (l0_0.length : Int) := of_decide_eq_true (by first | (with_reducible assumption) | assumption); obtain ⟨ad190, e190, hx190_0, hx190_1, hx190_2, hx190_3, hx190_4, hx190_5, hx190_6, hx190_7, hx190_8, hx190_9, hx190_10, hx190_11⟩ := at_T39 HR0_0.out a1 p190 q190; obtain rfl : ad189 = ad190 := (by injection e190); replace hx190_0 := (HB.out.cell (World.block_lt_of_cell? w _ hx190_0)).trans hx190_0; replace hx190_1 := (HB.out.cell (World.block_lt_of_cell? w _ hx190_1)).trans hx190_1; replace hx190_2 := (HB.out.cell (World.block_lt_of_cell? w _ hx190_2)).trans hx190_2; replace hx190_3 := (HB.out.cell (World.block_lt_of_cell? w _ hx190_3)).trans hx190_3; replace hx190_4 := (HB.out.cell (World.block_lt_of_cell? w _ hx190_4)).trans hx190_4; replace hx190_5 := (HB.out.cell (World.block_lt_of_cell? w _ hx190_5)).trans hx190_5; replace hx190_6 := (HB.out.cell (World.block_lt_of_cell? w _ hx190_6)).trans hx190_6; replace hx190_7 := (HB.out.cell (World.block_lt_of_cell? w _ hx190_7)).trans hx190_7; replace hx190_8 := (HB.out.cell (World.block_lt_of_cell? w _ hx190_8)).trans hx190_8; replace hx190_9 := (HB.out.cell (World.block_lt_of_cell? w _ hx190_9)).trans hx190_9; replace hx190_10 := (HB.out.cell (World.block_lt_of_cell? w _ hx190_10)).trans hx190_10; replace hx190_11 := (HB.out.cell (World.block_lt_of_cell? w _ hx190_11)).trans hx190_11; replace p190 := eq_true p190; replace q190 := eq_true q190) | (go_at_call 21; (with_reducible refine (talikref04_Truth.calls _ _ l0_0 _ _ l0_1 _ _ l0_2 a1 _ _ l3 true _ ?side1 ?side2 ?side3 ?side4 ?side5 ?side6 ?side7 ?side8 A36.out).mono ?_); (case side1 => repeat (first | exact (Kd.qal HR0_0.out HB.out) | (with_reducible refine Kd.qan ?_ _) | (with_reducible refine Kd.qao ?_ _) | (with_reducible refine Kd.qaq ?_))); (case side2 => exact HC0_0.out); (case side3 => repeat (first | exact (Kd.qal HR0_1.out HB.out) | (with_reducible refine Kd.qan ?_ _) | (with_reducible refine Kd.qao ?_ _) | (with_reducible refine Kd.qaq ?_))); (case side4 => exact HC0_1.out); (case side5 => repeat (first | exact (Kd.qal HR0_2.out HB.out) | (with_reducible refine Kd.qan ?_ _) | (with_reducible refine Kd.qao ?_ _) | (with_reducible refine Kd.qaq ?_))); (case side6 => exact HC0_2.out); (case side7 => repeat (first | exact (Kd.qal HR3.out HB.out) | (with_reducible refine Kd.qan ?_ _) | (with_reducible refine Kd.qao ?_ _) | (with_reducible refine Kd.qaq ?_))); (case side8 => exact HC3.out); rintro e w54 ⟨rfl, hb⟩; have n0_ := qac.mk (qam (g := gb185) (o := .cells #[.slice (some ad189) l0_0.length c0_0, .slice A0_1 l0_1.length c0_1, .slice A0_2 l0_2.length c0_2] 26 (0, 0)) (by (with_reducible repeat (first | refine qak ?_ _ | refine qap ?_ | refine qaj ?_ _)); exact BK185.out) hb); have n1_ := qac.mk (qai (by repeat (first | (with_reducible first | exact HB.out | apply qae | apply qad | apply qaf | refine qag ?_ GE185.out) | exact HB.out)) hb); clear BK185; clear HB; have BK185 := n0_; have HB := n1_; clear n0_ n1_; (try clear hb); (try clear hb2); (try clear hk); (try clear hi)))
            go_meet
            case rel => exact ⟨_, (decide (a4 > (l3.length : Int))), (by first | rfl | (simp; done) | (simp [*]; done)), H', ⟨by first | omega | exact Nat.le_refl _⟩, ⟨by (with_reducible repeat (first | refine qak ?_ _ | refine qap ?_ | refine qaj ?_ _)); exact BK185.out⟩, ⟨by repeat (first | (with_reducible first | exact HB.out | apply qae | apply qad | apply qaf | refine qag ?_ GE185.out) | exact HB.out)⟩⟩
          ·
           replace c37 := Bool.eq_false_iff.mpr c37
           subst c37
           have H1 : (taliklaw04_PipeBalance.j0 k a1 a2 l3 a4 true l0_0 l0_1 l0_2) = some r := by rw [if_neg (show ¬ (false = true) by decide)] at H; exact H
           clear H
           have H := H1
           clear H1
           have H' := qac.mk H
           clear H
           have hcz55_0 : w7.cell? ⟨gb185, 0, none⟩ = some (.slice A0_0 l0_0.length c0_0) := (qaa BK185.out 0).trans rfl
           have hcz55_1 : w7.cell? ⟨gb185, 1, none⟩ = some (.slice A0_1 l0_1.length c0_1) := (qaa BK185.out 1).trans rfl
           have hcz55_2 : w7.cell? ⟨gb185, 2, none⟩ = some (.slice A0_2 l0_2.length c0_2) := (qaa BK185.out 2).trans rfl
           have hfz55_0 := qab BK185.out 0
           have hfz55_1 := qab BK185.out 1
           have hfz55_2 := qab BK185.out 2
           go_wp2_with (first | ((with_reducible refine qau (f := 16) rfl ?_); refine goesL_ (some 20) rfl rfl Try.func16 (by kernel_rfl) rfl #[.agg #[.slice A0_0 l0_0.length c0_0, .slice A0_1 l0_1.length c0_1, .slice A0_2 l0_2.length c0_2]] rfl (by (try simp only [List.map_toArray, List.map_cons, List.map_nil]); first | done | rfl | (simp only [List.length_drop, List.length_take]; rfl)) ?_; (with_reducible refine (taliklaw04_short.calls k _ _ l0_0 _ _ l0_1 _ _ l0_2 true _ ?side1 ?side2 ?side3 ?side4 ?side5 ?side6 A8.out).mono ?_); (case side1 => repeat (first | exact (Kd.qal HR0_0.out HB.out) | (with_reducible refine Kd.qan ?_ _) | (with_reducible refine Kd.qao ?_ _) | (with_reducible refine Kd.qaq ?_))); (case side2 => exact HC0_0.out); (case side3 => repeat (first | exact (Kd.qal HR0_1.out HB.out) | (with_reducible refine Kd.qan ?_ _) | (with_reducible refine Kd.qao ?_ _) | (with_reducible refine Kd.qaq ?_))); (case side4 => exact HC0_1.out); (case side5 => repeat (first | exact (Kd.qal HR0_2.out HB.out) | (with_reducible refine Kd.qan ?_ _) | (with_reducible refine Kd.qao ?_ _) | (with_reducible refine Kd.qaq ?_))); (case side6 => exact HC0_2.out); rintro e w56 ⟨rfl, hb⟩; refine ⟨_, rfl, ?_⟩; have n0_ := qac.mk (qam (g := gb185) (o := .cells #[.slice A0_0 l0_0.length c0_0, .slice A0_1 l0_1.length c0_1, .slice A0_2 l0_2.length c0_2] 26 (0, 0)) (by (with_reducible repeat (first | refine qak ?_ _ | refine qap ?_ | refine qaj ?_ _)); exact BK185.out) hb); have n1_ := qac.mk (qai (by repeat (first | (with_reducible first | exact HB.out | apply qae | apply qad | apply qaf | refine qag ?_ GE185.out) | exact HB.out)) hb); clear BK185; clear HB; have BK185 := n0_; have HB := n1_; clear n0_ n1_; (try clear hb); (try clear hb2); (try clear hk); (try clear hi); have hcz57_0 : w56.cell? ⟨gb185, 0, none⟩ = some (.slice A0_0 l0_0.length c0_0) := (qaa BK185.out 0).trans rfl; have hcz57_1 : w56.cell? ⟨gb185, 1, none⟩ = some (.slice A0_1 l0_1.length c0_1) := (qaa BK185.out 1).trans rfl; have hcz57_2 : w56.cell? ⟨gb185, 2, none⟩ = some (.slice A0_2 l0_2.length c0_2) := (qaa BK185.out 2).trans rfl; have hfz57_0 := qab BK185.out 0; have hfz57_1 := qab BK185.out 1; have hfz57_2 := qab BK185.out 2) | (go_at_call 19; (with_reducible refine (talikref04_Net.calls k _ _ l0_0 _ _ l0_1 _ _ l0_2 true _ ?side1 ?side2 ?side3 ?side4 ?side5 ?side6 A14.out).mono ?_); (case side1 => repeat (first | exact (Kd.qal HR0_0.out HB.out) | (with_reducible refine Kd.qan ?_ _) | (with_reducible refine Kd.qao ?_ _) | (with_reducible refine Kd.qaq ?_))); (case side2 => exact HC0_0.out); (case side3 => repeat (first | exact (Kd.qal HR0_1.out HB.out) | (with_reducible refine Kd.qan ?_ _) | (with_reducible refine Kd.qao ?_ _) | (with_reducible refine Kd.qaq ?_))); (case side4 => exact HC0_1.out); (case side5 => repeat (first | exact (Kd.qal HR0_2.out HB.out) | (with_reducible refine Kd.qan ?_ _) | (with_reducible refine Kd.qao ?_ _) | (with_reducible refine Kd.qaq ?_))); (case side6 => exact HC0_2.out); rintro e w58 ⟨rfl, hb⟩; have n0_ := qac.mk (qam (g := gb185) (o := .cells #[.slice A0_0 l0_0.length c0_0, .slice A0_1 l0_1.length c0_1, .slice A0_2 l0_2.length c0_2] 26 (0, 0)) (by (with_reducible repeat (first | refine qak ?_ _ | refine qap ?_ | refine qaj ?_ _)); exact BK185.out) hb); have n1_ := qac.mk (qai (by repeat (first | (with_reducible first | exact HB.out | apply qae | apply qad | apply qaf | refine qag ?_ GE185.out) | exact HB.out)) hb); clear BK185; clear HB; have BK185 := n0_; have HB := n1_; clear n0_ n1_; (try clear hb); (try clear hb2); (try clear hk); (try clear hi); have hcz59_0 : w58.cell? ⟨gb185, 0, none⟩ = some (.slice A0_0 l0_0.length c0_0) := (qaa BK185.out 0).trans rfl; have hcz59_1 : w58.cell? ⟨gb185, 1, none⟩ = some (.slice A0_1 l0_1.length c0_1) := (qaa BK185.out 1).trans rfl; have hcz59_2 : w58.cell? ⟨gb185, 2, none⟩ = some (.slice A0_2 l0_2.length c0_2) := (qaa BK185.out 2).trans rfl; have hfz59_0 := qab BK185.out 0; have hfz59_1 := qab BK185.out 1; have hfz59_2 := qab BK185.out 2) | (go_at_call 20; (with_reducible refine (talikref04_IsLoop.calls _ _ l0_0 _ _ l0_1 _ _ l0_2 a1 true _ ?side1 ?side2 ?side3 ?side4 ?side5 ?side6 A16.out).mono ?_); (case side1 => repeat (first | exact (Kd.qal HR0_0.out HB.out) | (with_reducible refine Kd.qan ?_ _) | (with_reducible refine Kd.qao ?_ _) | (with_reducible refine Kd.qaq ?_))); (case side2 => exact HC0_0.out); (case side3 => repeat (first | exact (Kd.qal HR0_1.out HB.out) | (with_reducible refine Kd.qan ?_ _) | (with_reducible refine Kd.qao ?_ _) | (with_reducible refine Kd.qaq ?_))); (case side4 => exact HC0_1.out); (case side5 => repeat (first | exact (Kd.qal HR0_2.out HB.out) | (with_reducible refine Kd.qan ?_ _) | (with_reducible refine Kd.qao ?_ _) | (with_reducible refine Kd.qaq ?_))); (case side6 => exact HC0_2.out); rintro e w60 ⟨rfl, hb⟩; have n0_ := qac.mk (qam (g := gb185) (o := .cells #[.slice A0_0 l0_0.length c0_0, .slice A0_1 l0_1.length c0_1, .slice A0_2 l0_2.length c0_2] 26 (0, 0)) (by (with_reducible repeat (first | refine qak ?_ _ | refine qap ?_ | refine qaj ?_ _)); exact BK185.out) hb); have n1_ := qac.mk (qai (by repeat (first | (with_reducible first | exact HB.out | apply qae | apply qad | apply qaf | refine qag ?_ GE185.out) | exact HB.out)) hb); clear BK185; clear HB; have BK185 := n0_; have HB := n1_; clear n0_ n1_; (try clear hb); (try clear hb2); (try clear hk); (try clear hi); have hcz61_0 : w60.cell? ⟨gb185, 0, none⟩ = some (.slice A0_0 l0_0.length c0_0) := (qaa BK185.out 0).trans rfl; have hcz61_1 : w60.cell? ⟨gb185, 1, none⟩ = some (.slice A0_1 l0_1.length c0_1) := (qaa BK185.out 1).trans rfl; have hcz61_2 : w60.cell? ⟨gb185, 2, none⟩ = some (.slice A0_2 l0_2.length c0_2) := (qaa BK185.out 2).trans rfl; have hfz61_0 := qab BK185.out 0; have hfz61_1 := qab BK185.out 1; have hfz61_2 := qab BK185.out 2; have p189 : 0 ≤ (a1 : Int) := of_decide_eq_true (by first | (with_reducible assumption) | assumption); have q189 : a1 < (l0_0.length : Int) := of_decide_eq_true (by first | (with_reducible assumption) | assumption); obtain ⟨ad189, e189, hx189_0, hx189_1, hx189_2, hx189_3, hx189_4, hx189_5, hx189_6, hx189_7, hx189_8, hx189_9, hx189_10, hx189_11⟩ := at_T39 HR0_0.out a1 p189 q189; cases e189; replace hx189_0 := (HB.out.cell (World.block_lt_of_cell? w _ hx189_0)).trans hx189_0; replace hx189_1 := (HB.out.cell (World.block_lt_of_cell? w _ hx189_1)).trans hx189_1; replace hx189_2 := (HB.out.cell (World.block_lt_of_cell? w _ hx189_2)).trans hx189_2; replace hx189_3 := (HB.out.cell (World.block_lt_of_cell? w _ hx189_3)).trans hx189_3; replace hx189_4 := (HB.out.cell (World.block_lt_of_cell? w _ hx189_4)).trans hx189_4; replace hx189_5 := (HB.out.cell (World.block_lt_of_cell? w _ hx189_5)).trans hx189_5; replace hx189_6 := (HB.out.cell (World.block_lt_of_cell? w _ hx189_6)).trans hx189_6; replace hx189_7 := (HB.out.cell (World.block_lt_of_cell? w _ hx189_7)).trans hx189_7; replace hx189_8 := (HB.out.cell (World.block_lt_of_cell? w _ hx189_8)).trans hx189_8; replace hx189_9 := (HB.out.cell (World.block_lt_of_cell? w _ hx189_9)).trans hx189_9; replace hx189_10 := (HB.out.cell (World.block_lt_of_cell? w _ hx189_10)).trans hx189_10; replace hx189_11 := (HB.out.cell (World.block_lt_of_cell? w _ hx189_11)).trans hx189_11; replace p189 := eq_true p189; replace q189 := eq_true q189; have p190 : 0 ≤ (a1 : Int) := of_decide_eq_true (by first | (with_reducible assumption) | assumption); have q190 : a1 < (l0_0.length : Int) := of_decide_eq_true (by first | (with_reducible assumption) | assumption); obtain ⟨ad190, e190, hx190_0, hx190_1, hx190_2, hx190_3, hx190_4, hx190_5, hx190_6, hx190_7, hx190_8, hx190_9, hx190_10, hx190_11⟩ := at_T39 HR0_0.out a1 p190 q190; obtain rfl : ad189 = ad190 := (by injection e190); replace hx190_0 := (HB.out.cell (World.block_lt_of_cell? w _ hx190_0)).trans hx190_0; replace hx190_1 := (HB.out.cell (World.block_lt_of_cell? w _ hx190_1)).trans hx190_1; replace hx190_2 := (HB.out.cell (World.block_lt_of_cell? w _ hx190_2)).trans hx190_2; replace hx190_3 := (HB.out.cell (World.block_lt_of_cell? w _ hx190_3)).trans hx190_3; replace hx190_4 := (HB.out.cell (World.block_lt_of_cell? w _ hx190_4)).trans hx190_4; replace hx190_5 := (HB.out.cell (World.block_lt_of_cell? w _ hx190_5)).trans hx190_5; replace hx190_6 := (HB.out.cell (World.block_lt_of_cell? w _ hx190_6)).trans hx190_6; replace hx190_7 := (HB.out.cell (World.block_lt_of_cell? w _ hx190_7)).trans hx190_7; replace hx190_8 := (HB.out.cell (World.block_lt_of_cell? w _ hx190_8)).trans hx190_8; replace hx190_9 := (HB.out.cell (World.block_lt_of_cell? w _ hx190_9)).trans hx190_9; replace hx190_10 := (HB.out.cell (World.block_lt_of_cell? w _ hx190_10)).trans hx190_10; replace hx190_11 := (HB.out.cell (World.block_lt_of_cell? w _ hx190_11)).trans hx190_11; replace p190 := eq_true p190; replace q190 := eq_true q190) | (go_at_call 21; (with_reducible refine (talikref04_Truth.calls _ _ l0_0 _ _ l0_1 _ _ l0_2 a1 _ _ l3 false _ ?side1 ?side2 ?side3 ?side4 ?side5 ?side6 ?side7 ?side8 A36.out).mono ?_); (case side1 => repeat (first | exact (Kd.qal HR0_0.out HB.out) | (with_reducible refine Kd.qan ?_ _) | (with_reducible refine Kd.qao ?_ _) | (with_reducible refine Kd.qaq ?_))); (case side2 => exact HC0_0.out); (case side3 => repeat (first | exact (Kd.qal HR0_1.out HB.out) | (with_reducible refine Kd.qan ?_ _) | (with_reducible refine Kd.qao ?_ _) | (with_reducible refine Kd.qaq ?_))); (case side4 => exact HC0_1.out); (case side5 => repeat (first | exact (Kd.qal HR0_2.out HB.out) | (with_reducible refine Kd.qan ?_ _) | (with_reducible refine Kd.qao ?_ _) | (with_reducible refine Kd.qaq ?_))); (case side6 => exact HC0_2.out); (case side7 => repeat (first | exact (Kd.qal HR3.out HB.out) | (with_reducible refine Kd.qan ?_ _) | (with_reducible refine Kd.qao ?_ _) | (with_reducible refine Kd.qaq ?_))); (case side8 => exact HC3.out); rintro e w62 ⟨rfl, hb⟩; have n0_ := qac.mk (qam (g := gb185) (o := .cells #[.slice (some ad189) l0_0.length c0_0, .slice A0_1 l0_1.length c0_1, .slice A0_2 l0_2.length c0_2] 26 (0, 0)) (by (with_reducible repeat (first | refine qak ?_ _ | refine qap ?_ | refine qaj ?_ _)); exact BK185.out) hb); have n1_ := qac.mk (qai (by repeat (first | (with_reducible first | exact HB.out | apply qae | apply qad | apply qaf | refine qag ?_ GE185.out) | exact HB.out)) hb); clear BK185; clear HB; have BK185 := n0_; have HB := n1_; clear n0_ n1_; (try clear hb); (try clear hb2); (try clear hk); (try clear hi)))
           go_meet
           case rel => exact ⟨_, (true), (by first | rfl | (simp; done) | (simp [*]; done)), H', ⟨by first | omega | exact Nat.le_refl _⟩, ⟨by (with_reducible repeat (first | refine qak ?_ _ | refine qap ?_ | refine qaj ?_ _)); exact BK185.out⟩, ⟨by repeat (first | (with_reducible first | exact HB.out | apply qae | apply qad | apply qaf | refine qag ?_ GE185.out) | exact HB.out)⟩⟩
       ·
        rw [if_neg c19] at H
        exact absurd H (by simp)
      ·
       rw [if_neg c18] at H
       exact absurd H (by simp)
     ·
      replace c17 := Bool.eq_false_iff.mpr c17
      subst c17
      have H1 : (taliklaw04_PipeBalance.j0 k a1 a2 l3 a4 true l0_0 l0_1 l0_2) = some r := by rw [if_neg (show ¬ (false = true) by decide)] at H; exact H
      clear H
      have H := H1
      clear H1
      have H' := qac.mk H
      clear H
      have hcz63_0 : w7.cell? ⟨gb185, 0, none⟩ = some (.slice A0_0 l0_0.length c0_0) := (qaa BK185.out 0).trans rfl
      have hcz63_1 : w7.cell? ⟨gb185, 1, none⟩ = some (.slice A0_1 l0_1.length c0_1) := (qaa BK185.out 1).trans rfl
      have hcz63_2 : w7.cell? ⟨gb185, 2, none⟩ = some (.slice A0_2 l0_2.length c0_2) := (qaa BK185.out 2).trans rfl
      have hfz63_0 := qab BK185.out 0
      have hfz63_1 := qab BK185.out 1
      have hfz63_2 := qab BK185.out 2
      go_wp2_with (first | ((with_reducible refine qau (f := 16) rfl ?_); refine goesL_ (some 20) rfl rfl Try.func16 (by kernel_rfl) rfl #[.agg #[.slice A0_0 l0_0.length c0_0, .slice A0_1 l0_1.length c0_1, .slice A0_2 l0_2.length c0_2]] rfl (by (try simp only [List.map_toArray, List.map_cons, List.map_nil]); first | done | rfl | (simp only [List.length_drop, List.length_take]; rfl)) ?_; (with_reducible refine (taliklaw04_short.calls k _ _ l0_0 _ _ l0_1 _ _ l0_2 true _ ?side1 ?side2 ?side3 ?side4 ?side5 ?side6 A8.out).mono ?_); (case side1 => repeat (first | exact (Kd.qal HR0_0.out HB.out) | (with_reducible refine Kd.qan ?_ _) | (with_reducible refine Kd.qao ?_ _) | (with_reducible refine Kd.qaq ?_))); (case side2 => exact HC0_0.out); (case side3 => repeat (first | exact (Kd.qal HR0_1.out HB.out) | (with_reducible refine Kd.qan ?_ _) | (with_reducible refine Kd.qao ?_ _) | (with_reducible refine Kd.qaq ?_))); (case side4 => exact HC0_1.out); (case side5 => repeat (first | exact (Kd.qal HR0_2.out HB.out) | (with_reducible refine Kd.qan ?_ _) | (with_reducible refine Kd.qao ?_ _) | (with_reducible refine Kd.qaq ?_))); (case side6 => exact HC0_2.out); rintro e w64 ⟨rfl, hb⟩; refine ⟨_, rfl, ?_⟩; have n0_ := qac.mk (qam (g := gb185) (o := .cells #[.slice A0_0 l0_0.length c0_0, .slice A0_1 l0_1.length c0_1, .slice A0_2 l0_2.length c0_2] 26 (0, 0)) (by (with_reducible repeat (first | refine qak ?_ _ | refine qap ?_ | refine qaj ?_ _)); exact BK185.out) hb); have n1_ := qac.mk (qai (by repeat (first | (with_reducible first | exact HB.out | apply qae | apply qad | apply qaf | refine qag ?_ GE185.out) | exact HB.out)) hb); clear BK185; clear HB; have BK185 := n0_; have HB := n1_; clear n0_ n1_; (try clear hb); (try clear hb2); (try clear hk); (try clear hi); have hcz65_0 : w64.cell? ⟨gb185, 0, none⟩ = some (.slice A0_0 l0_0.length c0_0) := (qaa BK185.out 0).trans rfl; have hcz65_1 : w64.cell? ⟨gb185, 1, none⟩ = some (.slice A0_1 l0_1.length c0_1) := (qaa BK185.out 1).trans rfl; have hcz65_2 : w64.cell? ⟨gb185, 2, none⟩ = some (.slice A0_2 l0_2.length c0_2) := (qaa BK185.out 2).trans rfl; have hfz65_0 := qab BK185.out 0; have hfz65_1 := qab BK185.out 1; have hfz65_2 := qab BK185.out 2) | (go_at_call 19; (with_reducible refine (talikref04_Net.calls k _ _ l0_0 _ _ l0_1 _ _ l0_2 true _ ?side1 ?side2 ?side3 ?side4 ?side5 ?side6 A14.out).mono ?_); (case side1 => repeat (first | exact (Kd.qal HR0_0.out HB.out) | (with_reducible refine Kd.qan ?_ _) | (with_reducible refine Kd.qao ?_ _) | (with_reducible refine Kd.qaq ?_))); (case side2 => exact HC0_0.out); (case side3 => repeat (first | exact (Kd.qal HR0_1.out HB.out) | (with_reducible refine Kd.qan ?_ _) | (with_reducible refine Kd.qao ?_ _) | (with_reducible refine Kd.qaq ?_))); (case side4 => exact HC0_1.out); (case side5 => repeat (first | exact (Kd.qal HR0_2.out HB.out) | (with_reducible refine Kd.qan ?_ _) | (with_reducible refine Kd.qao ?_ _) | (with_reducible refine Kd.qaq ?_))); (case side6 => exact HC0_2.out); rintro e w66 ⟨rfl, hb⟩; have n0_ := qac.mk (qam (g := gb185) (o := .cells #[.slice A0_0 l0_0.length c0_0, .slice A0_1 l0_1.length c0_1, .slice A0_2 l0_2.length c0_2] 26 (0, 0)) (by (with_reducible repeat (first | refine qak ?_ _ | refine qap ?_ | refine qaj ?_ _)); exact BK185.out) hb); have n1_ := qac.mk (qai (by repeat (first | (with_reducible first | exact HB.out | apply qae | apply qad | apply qaf | refine qag ?_ GE185.out) | exact HB.out)) hb); clear BK185; clear HB; have BK185 := n0_; have HB := n1_; clear n0_ n1_; (try clear hb); (try clear hb2); (try clear hk); (try clear hi); have hcz67_0 : w66.cell? ⟨gb185, 0, none⟩ = some (.slice A0_0 l0_0.length c0_0) := (qaa BK185.out 0).trans rfl; have hcz67_1 : w66.cell? ⟨gb185, 1, none⟩ = some (.slice A0_1 l0_1.length c0_1) := (qaa BK185.out 1).trans rfl; have hcz67_2 : w66.cell? ⟨gb185, 2, none⟩ = some (.slice A0_2 l0_2.length c0_2) := (qaa BK185.out 2).trans rfl; have hfz67_0 := qab BK185.out 0; have hfz67_1 := qab BK185.out 1; have hfz67_2 := qab BK185.out 2) | (go_at_call 20; (with_reducible refine (talikref04_IsLoop.calls _ _ l0_0 _ _ l0_1 _ _ l0_2 a1 false _ ?side1 ?side2 ?side3 ?side4 ?side5 ?side6 A16.out).mono ?_); (case side1 => repeat (first | exact (Kd.qal HR0_0.out HB.out) | (with_reducible refine Kd.qan ?_ _) | (with_reducible refine Kd.qao ?_ _) | (with_reducible refine Kd.qaq ?_))); (case side2 => exact HC0_0.out); (case side3 => repeat (first | exact (Kd.qal HR0_1.out HB.out) | (with_reducible refine Kd.qan ?_ _) | (with_reducible refine Kd.qao ?_ _) | (with_reducible refine Kd.qaq ?_))); (case side4 => exact HC0_1.out); (case side5 => repeat (first | exact (Kd.qal HR0_2.out HB.out) | (with_reducible refine Kd.qan ?_ _) | (with_reducible refine Kd.qao ?_ _) | (with_reducible refine Kd.qaq ?_))); (case side6 => exact HC0_2.out); rintro e w68 ⟨rfl, hb⟩; have n0_ := qac.mk (qam (g := gb185) (o := .cells #[.slice A0_0 l0_0.length c0_0, .slice A0_1 l0_1.length c0_1, .slice A0_2 l0_2.length c0_2] 26 (0, 0)) (by (with_reducible repeat (first | refine qak ?_ _ | refine qap ?_ | refine qaj ?_ _)); exact BK185.out) hb); have n1_ := qac.mk (qai (by repeat (first | (with_reducible first | exact HB.out | apply qae | apply qad | apply qaf | refine qag ?_ GE185.out) | exact HB.out)) hb); clear BK185; clear HB; have BK185 := n0_; have HB := n1_; clear n0_ n1_; (try clear hb); (try clear hb2); (try clear hk); (try clear hi)))
      go_meet
      case rel => exact ⟨_, (true), (by first | rfl | (simp; done) | (simp [*]; done)), H', ⟨by first | omega | exact Nat.le_refl _⟩, ⟨by (with_reducible repeat (first | refine qak ?_ _ | refine qap ?_ | refine qaj ?_ _)); exact BK185.out⟩, ⟨by repeat (first | (with_reducible first | exact HB.out | apply qae | apply qad | apply qaf | refine qag ?_ GE185.out) | exact HB.out)⟩⟩
    ·
     replace c15 := Bool.eq_false_iff.mpr c15
     subst c15
     have H1 : (taliklaw04_PipeBalance.j0 k a1 a2 l3 a4 true l0_0 l0_1 l0_2) = some r := by rw [if_neg (show ¬ (false = true) by decide)] at H; exact H
     clear H
     have H := H1
     clear H1
     have H' := qac.mk H
     clear H
     have hcz69_0 : w7.cell? ⟨gb185, 0, none⟩ = some (.slice A0_0 l0_0.length c0_0) := (qaa BK185.out 0).trans rfl
     have hcz69_1 : w7.cell? ⟨gb185, 1, none⟩ = some (.slice A0_1 l0_1.length c0_1) := (qaa BK185.out 1).trans rfl
     have hcz69_2 : w7.cell? ⟨gb185, 2, none⟩ = some (.slice A0_2 l0_2.length c0_2) := (qaa BK185.out 2).trans rfl
     have hfz69_0 := qab BK185.out 0
     have hfz69_1 := qab BK185.out 1
     have hfz69_2 := qab BK185.out 2
     go_wp2_with (first | ((with_reducible refine qau (f := 16) rfl ?_); refine goesL_ (some 20) rfl rfl Try.func16 (by kernel_rfl) rfl #[.agg #[.slice A0_0 l0_0.length c0_0, .slice A0_1 l0_1.length c0_1, .slice A0_2 l0_2.length c0_2]] rfl (by (try simp only [List.map_toArray, List.map_cons, List.map_nil]); first | done | rfl | (simp only [List.length_drop, List.length_take]; rfl)) ?_; (with_reducible refine (taliklaw04_short.calls k _ _ l0_0 _ _ l0_1 _ _ l0_2 true _ ?side1 ?side2 ?side3 ?side4 ?side5 ?side6 A8.out).mono ?_); (case side1 => repeat (first | exact (Kd.qal HR0_0.out HB.out) | (with_reducible refine Kd.qan ?_ _) | (with_reducible refine Kd.qao ?_ _) | (with_reducible refine Kd.qaq ?_))); (case side2 => exact HC0_0.out); (case side3 => repeat (first | exact (Kd.qal HR0_1.out HB.out) | (with_reducible refine Kd.qan ?_ _) | (with_reducible refine Kd.qao ?_ _) | (with_reducible refine Kd.qaq ?_))); (case side4 => exact HC0_1.out); (case side5 => repeat (first | exact (Kd.qal HR0_2.out HB.out) | (with_reducible refine Kd.qan ?_ _) | (with_reducible refine Kd.qao ?_ _) | (with_reducible refine Kd.qaq ?_))); (case side6 => exact HC0_2.out); rintro e w70 ⟨rfl, hb⟩; refine ⟨_, rfl, ?_⟩; have n0_ := qac.mk (qam (g := gb185) (o := .cells #[.slice A0_0 l0_0.length c0_0, .slice A0_1 l0_1.length c0_1, .slice A0_2 l0_2.length c0_2] 26 (0, 0)) (by (with_reducible repeat (first | refine qak ?_ _ | refine qap ?_ | refine qaj ?_ _)); exact BK185.out) hb); have n1_ := qac.mk (qai (by repeat (first | (with_reducible first | exact HB.out | apply qae | apply qad | apply qaf | refine qag ?_ GE185.out) | exact HB.out)) hb); clear BK185; clear HB; have BK185 := n0_; have HB := n1_; clear n0_ n1_; (try clear hb); (try clear hb2); (try clear hk); (try clear hi); have hcz71_0 : w70.cell? ⟨gb185, 0, none⟩ = some (.slice A0_0 l0_0.length c0_0) := (qaa BK185.out 0).trans rfl; have hcz71_1 : w70.cell? ⟨gb185, 1, none⟩ = some (.slice A0_1 l0_1.length c0_1) := (qaa BK185.out 1).trans rfl; have hcz71_2 : w70.cell? ⟨gb185, 2, none⟩ = some (.slice A0_2 l0_2.length c0_2) := (qaa BK185.out 2).trans rfl; have hfz71_0 := qab BK185.out 0; have hfz71_1 := qab BK185.out 1; have hfz71_2 := qab BK185.out 2) | (go_at_call 19; (with_reducible refine (talikref04_Net.calls k _ _ l0_0 _ _ l0_1 _ _ l0_2 false _ ?side1 ?side2 ?side3 ?side4 ?side5 ?side6 A14.out).mono ?_); (case side1 => repeat (first | exact (Kd.qal HR0_0.out HB.out) | (with_reducible refine Kd.qan ?_ _) | (with_reducible refine Kd.qao ?_ _) | (with_reducible refine Kd.qaq ?_))); (case side2 => exact HC0_0.out); (case side3 => repeat (first | exact (Kd.qal HR0_1.out HB.out) | (with_reducible refine Kd.qan ?_ _) | (with_reducible refine Kd.qao ?_ _) | (with_reducible refine Kd.qaq ?_))); (case side4 => exact HC0_1.out); (case side5 => repeat (first | exact (Kd.qal HR0_2.out HB.out) | (with_reducible refine Kd.qan ?_ _) | (with_reducible refine Kd.qao ?_ _) | (with_reducible refine Kd.qaq ?_))); (case side6 => exact HC0_2.out); rintro e w72 ⟨rfl, hb⟩; have n0_ := qac.mk (qam (g := gb185) (o := .cells #[.slice A0_0 l0_0.length c0_0, .slice A0_1 l0_1.length c0_1, .slice A0_2 l0_2.length c0_2] 26 (0, 0)) (by (with_reducible repeat (first | refine qak ?_ _ | refine qap ?_ | refine qaj ?_ _)); exact BK185.out) hb); have n1_ := qac.mk (qai (by repeat (first | (with_reducible first | exact HB.out | apply qae | apply qad | apply qaf | refine qag ?_ GE185.out) | exact HB.out)) hb); clear BK185; clear HB; have BK185 := n0_; have HB := n1_; clear n0_ n1_; (try clear hb); (try clear hb2); (try clear hk); (try clear hi)))
     go_meet
     case rel => exact ⟨_, (true), (by first | rfl | (simp; done) | (simp [*]; done)), H', ⟨by first | omega | exact Nat.le_refl _⟩, ⟨by (with_reducible repeat (first | refine qak ?_ _ | refine qap ?_ | refine qaj ?_ _)); exact BK185.out⟩, ⟨by repeat (first | (with_reducible first | exact HB.out | apply qae | apply qad | apply qaf | refine qag ?_ GE185.out) | exact HB.out)⟩⟩
  ·
   replace c9 := Bool.eq_false_iff.mpr c9
   subst c9
   have H1 : (taliklaw04_PipeBalance.j0 k a1 a2 l3 a4 true l0_0 l0_1 l0_2) = some r := by rw [if_neg (show ¬ (false = true) by decide)] at H; exact H
   clear H
   have H := H1
   clear H1
   have H' := qac.mk H
   clear H
   have hcz73_0 : w7.cell? ⟨gb185, 0, none⟩ = some (.slice A0_0 l0_0.length c0_0) := (qaa BK185.out 0).trans rfl
   have hcz73_1 : w7.cell? ⟨gb185, 1, none⟩ = some (.slice A0_1 l0_1.length c0_1) := (qaa BK185.out 1).trans rfl
   have hcz73_2 : w7.cell? ⟨gb185, 2, none⟩ = some (.slice A0_2 l0_2.length c0_2) := (qaa BK185.out 2).trans rfl
   have hfz73_0 := qab BK185.out 0
   have hfz73_1 := qab BK185.out 1
   have hfz73_2 := qab BK185.out 2
   go_wp2_with (first | ((with_reducible refine qau (f := 16) rfl ?_); refine goesL_ (some 20) rfl rfl Try.func16 (by kernel_rfl) rfl #[.agg #[.slice A0_0 l0_0.length c0_0, .slice A0_1 l0_1.length c0_1, .slice A0_2 l0_2.length c0_2]] rfl (by (try simp only [List.map_toArray, List.map_cons, List.map_nil]); first | done | rfl | (simp only [List.length_drop, List.length_take]; rfl)) ?_; (with_reducible refine (taliklaw04_short.calls k _ _ l0_0 _ _ l0_1 _ _ l0_2 false _ ?side1 ?side2 ?side3 ?side4 ?side5 ?side6 A8.out).mono ?_); (case side1 => repeat (first | exact (Kd.qal HR0_0.out HB.out) | (with_reducible refine Kd.qan ?_ _) | (with_reducible refine Kd.qao ?_ _) | (with_reducible refine Kd.qaq ?_))); (case side2 => exact HC0_0.out); (case side3 => repeat (first | exact (Kd.qal HR0_1.out HB.out) | (with_reducible refine Kd.qan ?_ _) | (with_reducible refine Kd.qao ?_ _) | (with_reducible refine Kd.qaq ?_))); (case side4 => exact HC0_1.out); (case side5 => repeat (first | exact (Kd.qal HR0_2.out HB.out) | (with_reducible refine Kd.qan ?_ _) | (with_reducible refine Kd.qao ?_ _) | (with_reducible refine Kd.qaq ?_))); (case side6 => exact HC0_2.out); rintro e w74 ⟨rfl, hb⟩; refine ⟨_, rfl, ?_⟩; have n0_ := qac.mk (qam (g := gb185) (o := .cells #[.slice A0_0 l0_0.length c0_0, .slice A0_1 l0_1.length c0_1, .slice A0_2 l0_2.length c0_2] 26 (0, 0)) (by (with_reducible repeat (first | refine qak ?_ _ | refine qap ?_ | refine qaj ?_ _)); exact BK185.out) hb); have n1_ := qac.mk (qai (by repeat (first | (with_reducible first | exact HB.out | apply qae | apply qad | apply qaf | refine qag ?_ GE185.out) | exact HB.out)) hb); clear BK185; clear HB; have BK185 := n0_; have HB := n1_; clear n0_ n1_; (try clear hb); (try clear hb2); (try clear hk); (try clear hi)))
   go_meet
   case rel => exact ⟨_, (true), (by first | rfl | (simp; done) | (simp [*]; done)), H', ⟨by first | omega | exact Nat.le_refl _⟩, ⟨by (with_reducible repeat (first | refine qak ?_ _ | refine qap ?_ | refine qaj ?_ _)); exact BK185.out⟩, ⟨by repeat (first | (with_reducible first | exact HB.out | apply qae | apply qad | apply qaf | refine qag ?_ GE185.out) | exact HB.out)⟩⟩
 case rest =>
  clear HC6
  try clear c1
  try clear p1
  try clear q1
  try clear hx1
  try clear c2
  try clear p2
  try clear c3
  try clear c4
  try clear c9
  try clear c10
  try clear c10b0
  try clear c10b1
  try clear c15
  try clear c16
  try clear c17
  try clear c18
  try clear c18b0
  try clear p18
  try clear q18
  try clear hx18
  try clear c19
  try clear c19b0
  try clear p19
  try clear q19
  try clear hx19
  try clear c20
  try clear c20b0
  try clear c28
  try clear c28b0
  try clear c37
  try clear c38
  try clear c38b0
  try clear hcz11_0
  try clear hcz11_1
  try clear hcz11_2
  try clear hcz13_0
  try clear hcz13_1
  try clear hcz13_2
  try clear hcz21_0
  try clear hcz21_1
  try clear hcz21_2
  try clear hcz23_0
  try clear hcz23_1
  try clear hcz23_2
  try clear hcz25_0
  try clear hcz25_1
  try clear hcz25_2
  try clear hcz27_0
  try clear hcz27_1
  try clear hcz27_2
  try clear hcz29_0
  try clear hcz29_1
  try clear hcz29_2
  try clear hcz31_0
  try clear hcz31_1
  try clear hcz31_2
  try clear hcz33_0
  try clear hcz33_1
  try clear hcz33_2
  try clear hcz35_0
  try clear hcz35_1
  try clear hcz35_2
  try clear hcz39_0
  try clear hcz39_1
  try clear hcz39_2
  try clear hcz41_0
  try clear hcz41_1
  try clear hcz41_2
  try clear hcz43_0
  try clear hcz43_1
  try clear hcz43_2
  try clear hcz45_0
  try clear hcz45_1
  try clear hcz45_2
  try clear hcz47_0
  try clear hcz47_1
  try clear hcz47_2
  try clear hcz49_0
  try clear hcz49_1
  try clear hcz49_2
  try clear hcz51_0
  try clear hcz51_1
  try clear hcz51_2
  try clear hcz53_0
  try clear hcz53_1
  try clear hcz53_2
  try clear hcz55_0
  try clear hcz55_1
  try clear hcz55_2
  try clear hcz57_0
  try clear hcz57_1
  try clear hcz57_2
  try clear hcz59_0
  try clear hcz59_1
  try clear hcz59_2
  try clear hcz61_0
  try clear hcz61_1
  try clear hcz61_2
  try clear hcz63_0
  try clear hcz63_1
  try clear hcz63_2
  try clear hcz65_0
  try clear hcz65_1
  try clear hcz65_2
  try clear hcz67_0
  try clear hcz67_1
  try clear hcz67_2
  try clear hcz69_0
  try clear hcz69_1
  try clear hcz69_2
  try clear hcz71_0
  try clear hcz71_1
  try clear hcz71_2
  try clear hcz73_0
  try clear hcz73_1
  try clear hcz73_2
  try clear hfz11_0
  try clear hfz11_1
  try clear hfz11_2
  try clear hfz13_0
  try clear hfz13_1
  try clear hfz13_2
  try clear hfz21_0
  try clear hfz21_1
  try clear hfz21_2
  try clear hfz23_0
  try clear hfz23_1
  try clear hfz23_2
  try clear hfz25_0
  try clear hfz25_1
  try clear hfz25_2
  try clear hfz27_0
  try clear hfz27_1
  try clear hfz27_2
  try clear hfz29_0
  try clear hfz29_1
  try clear hfz29_2
  try clear hfz31_0
  try clear hfz31_1
  try clear hfz31_2
  try clear hfz33_0
  try clear hfz33_1
  try clear hfz33_2
  try clear hfz35_0
  try clear hfz35_1
  try clear hfz35_2
  try clear hfz39_0
  try clear hfz39_1
  try clear hfz39_2
  try clear hfz41_0
  try clear hfz41_1
  try clear hfz41_2
  try clear hfz43_0
  try clear hfz43_1
  try clear hfz43_2
  try clear hfz45_0
  try clear hfz45_1
  try clear hfz45_2
  try clear hfz47_0
  try clear hfz47_1
  try clear hfz47_2
  try clear hfz49_0
  try clear hfz49_1
  try clear hfz49_2
  try clear hfz51_0
  try clear hfz51_1
  try clear hfz51_2
  try clear hfz53_0
  try clear hfz53_1
  try clear hfz53_2
  try clear hfz55_0
  try clear hfz55_1
  try clear hfz55_2
  try clear hfz57_0
  try clear hfz57_1
  try clear hfz57_2
  try clear hfz59_0
  try clear hfz59_1
  try clear hfz59_2
  try clear hfz61_0
  try clear hfz61_1
  try clear hfz61_2
  try clear hfz63_0
  try clear hfz63_1
  try clear hfz63_2
  try clear hfz65_0
  try clear hfz65_1
  try clear hfz65_2
  try clear hfz67_0
  try clear hfz67_1
  try clear hfz67_2
  try clear hfz69_0
  try clear hfz69_1
  try clear hfz69_2
  try clear hfz71_0
  try clear hfz71_1
  try clear hfz71_2
  try clear hfz73_0
  try clear hfz73_1
  try clear hfz73_2
  try clear hx189_0
  try clear hx189_1
  try clear hx189_10
  try clear hx189_11
  try clear hx189_2
  try clear hx189_3
  try clear hx189_4
  try clear hx189_5
  try clear hx189_6
  try clear hx189_7
  try clear hx189_8
  try clear hx189_9
  try clear hx190_0
  try clear hx190_1
  try clear hx190_10
  try clear hx190_11
  try clear hx190_2
  try clear hx190_3
  try clear hx190_4
  try clear hx190_5
  try clear hx190_6
  try clear hx190_7
  try clear hx190_8
  try clear hx190_9
  try clear p189
  try clear p190
  try clear q189
  try clear q190
  obtain ⟨kq, x79_5, rfl, HA, HJ5, BK185, HB⟩ := hcut
  cases kq with
  | zero => exact absurd HA.out (by simp [taliklaw04_PipeBalance.j0])
  | succ kj5 =>
   have H := HA.out
   clear HA
   simp only [taliklaw04_PipeBalance.j0] at H
   by_cases c75 : x79_5 = true
   ·
    subst c75
    have H1 : ((taliklaw04_known.f).bind fun t192 => (some t192)) = some r := by rw [if_pos rfl] at H; exact H
    clear H
    have H := H1
    clear H1
    replace H := Option.bind_eq_some_iff.mp H
    obtain ⟨t192, A760, H⟩ := H
    replace H : (some t192) = some r := H
    have A76 := qac.mk A760
    clear A760
    obtain rfl := Option.some.inj H
    go_wp2_with (first | ((with_reducible refine qau (f := 17) rfl ?_); refine goesL_ (some 80) rfl rfl Try.func17 (by kernel_rfl) rfl #[] rfl (by (try simp only [List.map_toArray, List.map_cons, List.map_nil]); first | done | rfl | (simp only [List.length_drop, List.length_take]; rfl)) ?_; (with_reducible refine (taliklaw04_known.calls  t192 _ A76.out).mono ?_); rintro e w77 ⟨rfl, hb⟩; refine ⟨_, rfl, ?_⟩; have n0_ := qac.mk (qam (g := gb185) (o := .cells #[.slice A0_0 l0_0.length c0_0, .slice A0_1 l0_1.length c0_1, .slice A0_2 l0_2.length c0_2] 26 (0, 0)) (by (with_reducible repeat (first | refine qak ?_ _ | refine qap ?_ | refine qaj ?_ _)); exact BK185.out) hb); have n1_ := qac.mk (qai (by repeat (first | (with_reducible first | exact HB.out | apply qae | apply qad | apply qaf | refine qag ?_ GE185.out) | exact HB.out)) hb); clear BK185; clear HB; have BK185 := n0_; have HB := n1_; clear n0_ n1_; (try clear hb); (try clear hb2); (try clear hk); (try clear hi)))
    go_ret
    exact ⟨by first | rfl | (simp [qas, qat] <;> rfl) | (simp [*, qas, qat] <;> rfl), by repeat (first | (with_reducible first | exact HB.out | apply qae | apply qad | apply qaf | refine qag ?_ GE185.out) | exact HB.out)⟩
   ·
    replace c75 := Bool.eq_false_iff.mpr c75
    subst c75
    have H1 : (if 0 ≤ a1 then (if a1 < (l0_0.length : Int) then ((pipe_Play.f l0_0 l0_1 l0_2 a1 a2 l3).bind fun bt195 => (if 0 ≤ a4 then (if a4 ≤ (l3.length : Int) then ((pipe_Play.f l0_0 l0_1 l0_2 a1 a2 (l3.take (a4 : Int).toNat)).bind fun bt205 => (taliklaw04_PipeBalance.l0 kj5 a2 l3 a4 bt195.2.2.2.2 bt205.2.2.2.2 0 0 0 ((qah l0_0 a1).f0.f0) ((qah l0_0 a1).f0.f1) ((qah l0_0 a1).f1.f0) ((qah l0_0 a1).f1.f1) ((qah l0_0 a1).f2.f0) ((qah l0_0 a1).f2.f1) ((qah l0_0 a1).f3) ((qah l0_0 a1).f4) ((qah l0_0 a1).f5) ((qah l0_0 a1).f6) ((qah l0_0 a1).f7.f0) ((qah l0_0 a1).f7.f1) bt195.1 bt195.2.1 bt195.2.2.1 bt195.2.2.2.1 bt205.1 bt205.2.1 bt205.2.2.1 bt205.2.2.2.1)) else (none)) else (none))) else (none)) else (none)) = some r := by rw [if_neg (show ¬ (false = true) by decide)] at H; exact H
    clear H
    have H := H1
    clear H1
    by_cases c78 : 0 ≤ a1
    ·
     rw [if_pos c78] at H
     have c78b0 : decide (0 ≤ a1) = true := decide_eq_true c78
     clear c78
     by_cases c79 : a1 < (l0_0.length : Int)
     ·
      rw [if_pos c79] at H
      have c79b0 : decide (a1 < (l0_0.length : Int)) = true := decide_eq_true c79
      clear c79
      replace H := Option.bind_eq_some_iff.mp H
      obtain ⟨⟨t195, t196, t197, t198, t199⟩, A800, H⟩ := H
      replace H : (if 0 ≤ a4 then (if a4 ≤ (l3.length : Int) then ((pipe_Play.f l0_0 l0_1 l0_2 a1 a2 (l3.take (a4 : Int).toNat)).bind fun bt205 => (taliklaw04_PipeBalance.l0 kj5 a2 l3 a4 t199 bt205.2.2.2.2 0 0 0 ((qah l0_0 a1).f0.f0) ((qah l0_0 a1).f0.f1) ((qah l0_0 a1).f1.f0) ((qah l0_0 a1).f1.f1) ((qah l0_0 a1).f2.f0) ((qah l0_0 a1).f2.f1) ((qah l0_0 a1).f3) ((qah l0_0 a1).f4) ((qah l0_0 a1).f5) ((qah l0_0 a1).f6) ((qah l0_0 a1).f7.f0) ((qah l0_0 a1).f7.f1) t195 t196 t197 t198 bt205.1 bt205.2.1 bt205.2.2.1 bt205.2.2.2.1)) else (none)) else (none)) = some r := H
      have A80 := qac.mk A800
      clear A800
      by_cases c81 : 0 ≤ a4
      ·
       rw [if_pos c81] at H
       have c81b0 := eq_true c81
       have c81b1 : decide (0 ≤ a4) = true := decide_eq_true c81
       clear c81
       by_cases c82 : a4 ≤ (l3.length : Int)
       ·
        rw [if_pos c82] at H
        have c82b0 := eq_true c82
        have c82b1 : decide (a4 ≤ (l3.length : Int)) = true := decide_eq_true c82
        clear c82
        obtain ⟨y201, hy201⟩ : ∃ y_ : List (S44), y_ = (l3.take (a4 : Int).toNat) := ⟨_, rfl⟩
        replace H : ((pipe_Play.f l0_0 l0_1 l0_2 a1 a2 y201).bind fun bt205 => (taliklaw04_PipeBalance.l0 kj5 a2 l3 a4 t199 bt205.2.2.2.2 0 0 0 ((qah l0_0 a1).f0.f0) ((qah l0_0 a1).f0.f1) ((qah l0_0 a1).f1.f0) ((qah l0_0 a1).f1.f1) ((qah l0_0 a1).f2.f0) ((qah l0_0 a1).f2.f1) ((qah l0_0 a1).f3) ((qah l0_0 a1).f4) ((qah l0_0 a1).f5) ((qah l0_0 a1).f6) ((qah l0_0 a1).f7.f0) ((qah l0_0 a1).f7.f1) t195 t196 t197 t198 bt205.1 bt205.2.1 bt205.2.2.1 bt205.2.2.2.1)) = some r := by first | (rw [hy201]; with_reducible exact H) | (have H2_ := (Option.bind_some _ _).symm.trans H; rw [hy201]; with_reducible exact H2_) | (have H2_ := (Option.bind_some _ _).symm.trans H; with_reducible exact H2_) | with_reducible exact H | (rw [hy201]; exact H) | exact H
        have Ny201 := qac.mk hy201
        clear hy201
        replace H := Option.bind_eq_some_iff.mp H
        obtain ⟨⟨t205, t206, t207, t208, t209⟩, A830, H⟩ := H
        replace H : (taliklaw04_PipeBalance.l0 kj5 a2 l3 a4 t199 t209 0 0 0 ((qah l0_0 a1).f0.f0) ((qah l0_0 a1).f0.f1) ((qah l0_0 a1).f1.f0) ((qah l0_0 a1).f1.f1) ((qah l0_0 a1).f2.f0) ((qah l0_0 a1).f2.f1) ((qah l0_0 a1).f3) ((qah l0_0 a1).f4) ((qah l0_0 a1).f5) ((qah l0_0 a1).f6) ((qah l0_0 a1).f7.f0) ((qah l0_0 a1).f7.f1) t195 t196 t197 t198 t205 t206 t207 t208) = some r := H
        have A83 := qac.mk A830
        clear A830
        have H' := qac.mk H
        clear H
        have hcz84_0 : wc.cell? ⟨gb185, 0, none⟩ = some (.slice A0_0 l0_0.length c0_0) := (qaa BK185.out 0).trans rfl
        have hcz84_1 : wc.cell? ⟨gb185, 1, none⟩ = some (.slice A0_1 l0_1.length c0_1) := (qaa BK185.out 1).trans rfl
        have hcz84_2 : wc.cell? ⟨gb185, 2, none⟩ = some (.slice A0_2 l0_2.length c0_2) := (qaa BK185.out 2).trans rfl
        have hfz84_0 := qab BK185.out 0
        have hfz84_1 := qab BK185.out 1
        have hfz84_2 := qab BK185.out 2
        have p193 : 0 ≤ (a1 : Int) := of_decide_eq_true (by first | (with_reducible assumption) | assumption)
        have q193 : a1 < (l0_0.length : Int) := of_decide_eq_true (by first | (with_reducible assumption) | assumption)
        obtain ⟨ad193, e193, hx193_0, hx193_1, hx193_2, hx193_3, hx193_4, hx193_5, hx193_6, hx193_7, hx193_8, hx193_9, hx193_10, hx193_11⟩ := at_T39 HR0_0.out a1 p193 q193
        cases e193
        replace hx193_0 := (HB.out.cell (World.block_lt_of_cell? w _ hx193_0)).trans hx193_0
        replace hx193_1 := (HB.out.cell (World.block_lt_of_cell? w _ hx193_1)).trans hx193_1
        replace hx193_2 := (HB.out.cell (World.block_lt_of_cell? w _ hx193_2)).trans hx193_2
        replace hx193_3 := (HB.out.cell (World.block_lt_of_cell? w _ hx193_3)).trans hx193_3
        replace hx193_4 := (HB.out.cell (World.block_lt_of_cell? w _ hx193_4)).trans hx193_4
        replace hx193_5 := (HB.out.cell (World.block_lt_of_cell? w _ hx193_5)).trans hx193_5
        replace hx193_6 := (HB.out.cell (World.block_lt_of_cell? w _ hx193_6)).trans hx193_6
        replace hx193_7 := (HB.out.cell (World.block_lt_of_cell? w _ hx193_7)).trans hx193_7
        replace hx193_8 := (HB.out.cell (World.block_lt_of_cell? w _ hx193_8)).trans hx193_8
        replace hx193_9 := (HB.out.cell (World.block_lt_of_cell? w _ hx193_9)).trans hx193_9
        replace hx193_10 := (HB.out.cell (World.block_lt_of_cell? w _ hx193_10)).trans hx193_10
        replace hx193_11 := (HB.out.cell (World.block_lt_of_cell? w _ hx193_11)).trans hx193_11
        replace p193 := eq_true p193
        replace q193 := eq_true q193
        try go_wp2_with (first | ((with_reducible refine qax (N := 11) rfl ?_); (try (refine gate_guard (by rfl) ?_; dsimp only)); refine qaw ?hg (N := 11) ?hd (cs := #[.int .i64 0, .int .i64 0, .int .i64 0, .int .i64 0, .int .i64 0, .int .i64 0, .int .i64 0, .int .i64 0, .int .i64 0, .int .i64 0, .int .i64 0, .int .i64 0]) (t := 39) ?hr ?_; (case hd => rfl); (case hg => rfl); (case hr => first | (go_simp; done) | (go_simp; rfl)); intro gb194 hg w85 hbox hb; have n0_ := qac.mk (qam (g := gb185) (o := .cells #[.slice (some ad193) l0_0.length c0_0, .slice A0_1 l0_1.length c0_1, .slice A0_2 l0_2.length c0_2] 26 (0, 0)) (by (with_reducible repeat (first | refine qak ?_ _ | refine qap ?_ | refine qaj ?_ _)); exact BK185.out) hb); have n1_ := qac.mk (qai (by repeat (first | (with_reducible first | exact HB.out | apply qae | apply qad | apply qaf | refine qag ?_ GE185.out) | exact HB.out)) hb); have n2_ := qac.mk (hbox); have n3_ := qac.mk ((by rw [hg]; exact (qar (by repeat (first | (with_reducible first | exact HB.out | apply qae | apply qad | apply qaf | refine qag ?_ GE185.out) | exact HB.out))) : w.heap.size ≤ gb194)); have n4_ := qac.mk ((by rw [hg]; exact (qar (by repeat (first | (with_reducible first | exact HB.out | apply qae | apply qad | apply qaf | refine qag ?_ GE185.out) | exact HB.out))) : w.heap.size ≤ gb194)); have n5_ := qac.mk ((by rw [hg]; exact Nat.ne_of_lt (blk_lt (g := gb185) (o := .cells #[.slice (some ad193) l0_0.length c0_0, .slice A0_1 l0_1.length c0_1, .slice A0_2 l0_2.length c0_2] 26 (0, 0)) (by (with_reducible repeat (first | refine qak ?_ _ | refine qap ?_ | refine qaj ?_ _)); exact BK185.out)) : gb185 ≠ gb194)); have n6_ := qac.mk ((by rw [hg]; exact Nat.ne_of_gt (blk_lt (g := gb185) (o := .cells #[.slice (some ad193) l0_0.length c0_0, .slice A0_1 l0_1.length c0_1, .slice A0_2 l0_2.length c0_2] 26 (0, 0)) (by (with_reducible repeat (first | refine qak ?_ _ | refine qap ?_ | refine qaj ?_ _)); exact BK185.out)) : gb194 ≠ gb185)); clear BK185; clear HB; have BK185 := n0_; have HB := n1_; have BK194 := n2_; have GW194 := n3_; have GE194 := n4_; have NB185_194 := n5_; have NB194_185 := n6_; clear n0_ n1_ n2_ n3_ n4_ n5_ n6_; clear hb hbox hg; have hnb86 := NB194_185.out; have hnc86 := NB185_194.out; have hcz87_0 : w85.cell? ⟨gb194, 0, none⟩ = some (.int .i64 0) := (qaa BK194.out 0).trans rfl; have hcz87_1 : w85.cell? ⟨gb194, 1, none⟩ = some (.int .i64 0) := (qaa BK194.out 1).trans rfl; have hcz87_2 : w85.cell? ⟨gb194, 2, none⟩ = some (.int .i64 0) := (qaa BK194.out 2).trans rfl; have hcz87_3 : w85.cell? ⟨gb194, 3, none⟩ = some (.int .i64 0) := (qaa BK194.out 3).trans rfl; have hcz87_4 : w85.cell? ⟨gb194, 4, none⟩ = some (.int .i64 0) := (qaa BK194.out 4).trans rfl; have hcz87_5 : w85.cell? ⟨gb194, 5, none⟩ = some (.int .i64 0) := (qaa BK194.out 5).trans rfl; have hcz87_6 : w85.cell? ⟨gb194, 6, none⟩ = some (.int .i64 0) := (qaa BK194.out 6).trans rfl; have hcz87_7 : w85.cell? ⟨gb194, 7, none⟩ = some (.int .i64 0) := (qaa BK194.out 7).trans rfl; have hcz87_8 : w85.cell? ⟨gb194, 8, none⟩ = some (.int .i64 0) := (qaa BK194.out 8).trans rfl; have hcz87_9 : w85.cell? ⟨gb194, 9, none⟩ = some (.int .i64 0) := (qaa BK194.out 9).trans rfl; have hcz87_10 : w85.cell? ⟨gb194, 10, none⟩ = some (.int .i64 0) := (qaa BK194.out 10).trans rfl; have hcz87_11 : w85.cell? ⟨gb194, 11, none⟩ = some (.int .i64 0) := (qaa BK194.out 11).trans rfl; have hfz87_0 := qab BK194.out 0; have hfz87_1 := qab BK194.out 1; have hfz87_2 := qab BK194.out 2; have hfz87_3 := qab BK194.out 3; have hfz87_4 := qab BK194.out 4; have hfz87_5 := qab BK194.out 5; have hfz87_6 := qab BK194.out 6; have hfz87_7 := qab BK194.out 7; have hfz87_8 := qab BK194.out 8; have hfz87_9 := qab BK194.out 9; have hfz87_10 := qab BK194.out 10; have hfz87_11 := qab BK194.out 11; have hcz88_0 : w85.cell? ⟨gb185, 0, none⟩ = some (.slice (some ad193) l0_0.length c0_0) := (qaa BK185.out 0).trans rfl; have hcz88_1 : w85.cell? ⟨gb185, 1, none⟩ = some (.slice A0_1 l0_1.length c0_1) := (qaa BK185.out 1).trans rfl; have hcz88_2 : w85.cell? ⟨gb185, 2, none⟩ = some (.slice A0_2 l0_2.length c0_2) := (qaa BK185.out 2).trans rfl; have hfz88_0 := qab BK185.out 0; have hfz88_1 := qab BK185.out 1; have hfz88_2 := qab BK185.out 2) | ((with_reducible refine qau (f := 18) rfl ?_); refine goesL_ (some 91) rfl rfl Try.func18 (by kernel_rfl) rfl #[.agg #[.slice (some ad193) l0_0.length c0_0, .slice A0_1 l0_1.length c0_1, .slice A0_2 l0_2.length c0_2], .int .i64 a1, .int .i64 a2, .slice A3 l3.length c3] rfl (by (try simp only [List.map_toArray, List.map_cons, List.map_nil]); first | done | rfl | (simp only [List.length_drop, List.length_take]; rfl)) ?_; (with_reducible refine (pipe_Play.calls _ _ l0_0 _ _ l0_1 _ _ l0_2 a1 a2 _ _ l3 t195 t196 t197 t198 t199 _ ?side1 ?side2 ?side3 ?side4 ?side5 ?side6 ?side7 ?side8 A80.out).mono ?_); (case side1 => exact Kd.qal HR0_0.out (by repeat (first | (with_reducible first | exact HB.out | apply qae | apply qad | apply qaf | refine qag ?_ GE185.out | refine qag ?_ GE194.out) | exact HB.out))); (case side2 => exact HC0_0.out); (case side3 => exact Kd.qal HR0_1.out (by repeat (first | (with_reducible first | exact HB.out | apply qae | apply qad | apply qaf | refine qag ?_ GE185.out | refine qag ?_ GE194.out) | exact HB.out))); (case side4 => exact HC0_1.out); (case side5 => exact Kd.qal HR0_2.out (by repeat (first | (with_reducible first | exact HB.out | apply qae | apply qad | apply qaf | refine qag ?_ GE185.out | refine qag ?_ GE194.out) | exact HB.out))); (case side6 => exact HC0_2.out); (case side7 => exact Kd.qal HR3.out (by repeat (first | (with_reducible first | exact HB.out | apply qae | apply qad | apply qaf | refine qag ?_ GE185.out | refine qag ?_ GE194.out) | exact HB.out))); (case side8 => exact HC3.out); rintro e w89 ⟨rfl, hb⟩; refine ⟨_, rfl, ?_⟩; have n0_ := qac.mk (qam (g := gb185) (o := .cells #[.slice (some ad193) l0_0.length c0_0, .slice A0_1 l0_1.length c0_1, .slice A0_2 l0_2.length c0_2] 26 (0, 0)) (by (with_reducible repeat (first | refine qak ?_ _ | refine qap ?_ | refine qaj ?_ _)); refine qbc ?_ NB185_194.out _; (with_reducible repeat (first | refine qak ?_ _ | refine qap ?_ | refine qaj ?_ _)); refine qbc ?_ NB185_194.out _; (with_reducible repeat (first | refine qak ?_ _ | refine qap ?_ | refine qaj ?_ _)); refine qbc ?_ NB185_194.out _; (with_reducible repeat (first | refine qak ?_ _ | refine qap ?_ | refine qaj ?_ _)); refine qbc ?_ NB185_194.out _; (with_reducible repeat (first | refine qak ?_ _ | refine qap ?_ | refine qaj ?_ _)); refine qbc ?_ NB185_194.out _; (with_reducible repeat (first | refine qak ?_ _ | refine qap ?_ | refine qaj ?_ _)); refine qbc ?_ NB185_194.out _; (with_reducible repeat (first | refine qak ?_ _ | refine qap ?_ | refine qaj ?_ _)); refine qbc ?_ NB185_194.out _; (with_reducible repeat (first | refine qak ?_ _ | refine qap ?_ | refine qaj ?_ _)); refine qbc ?_ NB185_194.out _; (with_reducible repeat (first | refine qak ?_ _ | refine qap ?_ | refine qaj ?_ _)); refine qbc ?_ NB185_194.out _; (with_reducible repeat (first | refine qak ?_ _ | refine qap ?_ | refine qaj ?_ _)); refine qbc ?_ NB185_194.out _; (with_reducible repeat (first | refine qak ?_ _ | refine qap ?_ | refine qaj ?_ _)); refine qbc ?_ NB185_194.out _; (with_reducible repeat (first | refine qak ?_ _ | refine qap ?_ | refine qaj ?_ _)); refine qbc ?_ NB185_194.out _; (with_reducible repeat (first | refine qak ?_ _ | refine qap ?_ | refine qaj ?_ _)); exact BK185.out) hb); have n1_ := qac.mk (qam (g := gb194) (o := .cells #[.int .i64 ((qah l0_0 a1).f0.f0), .int .i64 ((qah l0_0 a1).f0.f1), .int .i64 ((qah l0_0 a1).f1.f0), .int .i64 ((qah l0_0 a1).f1.f1), .int .i64 ((qah l0_0 a1).f2.f0), .int .i64 ((qah l0_0 a1).f2.f1), .int .i64 ((qah l0_0 a1).f3), .int .i64 ((qah l0_0 a1).f4), .int .i64 ((qah l0_0 a1).f5), .int .i64 ((qah l0_0 a1).f6), .int .i64 ((qah l0_0 a1).f7.f0), .int .i64 ((qah l0_0 a1).f7.f1)] 39 (0, 0)) (by (with_reducible repeat (first | refine qak ?_ _ | refine qap ?_ | refine qaj ?_ _)); refine blk_put (cs := #[.int .i64 ((qah l0_0 a1).f0.f0), .int .i64 ((qah l0_0 a1).f0.f1), .int .i64 ((qah l0_0 a1).f1.f0), .int .i64 ((qah l0_0 a1).f1.f1), .int .i64 ((qah l0_0 a1).f2.f0), .int .i64 ((qah l0_0 a1).f2.f1), .int .i64 ((qah l0_0 a1).f3), .int .i64 ((qah l0_0 a1).f4), .int .i64 ((qah l0_0 a1).f5), .int .i64 ((qah l0_0 a1).f6), .int .i64 ((qah l0_0 a1).f7.f0), .int .i64 0]) ?_ 11 _ rfl; (with_reducible repeat (first | refine qak ?_ _ | refine qap ?_ | refine qaj ?_ _)); refine blk_put (cs := #[.int .i64 ((qah l0_0 a1).f0.f0), .int .i64 ((qah l0_0 a1).f0.f1), .int .i64 ((qah l0_0 a1).f1.f0), .int .i64 ((qah l0_0 a1).f1.f1), .int .i64 ((qah l0_0 a1).f2.f0), .int .i64 ((qah l0_0 a1).f2.f1), .int .i64 ((qah l0_0 a1).f3), .int .i64 ((qah l0_0 a1).f4), .int .i64 ((qah l0_0 a1).f5), .int .i64 ((qah l0_0 a1).f6), .int .i64 0, .int .i64 0]) ?_ 10 _ rfl; (with_reducible repeat (first | refine qak ?_ _ | refine qap ?_ | refine qaj ?_ _)); refine blk_put (cs := #[.int .i64 ((qah l0_0 a1).f0.f0), .int .i64 ((qah l0_0 a1).f0.f1), .int .i64 ((qah l0_0 a1).f1.f0), .int .i64 ((qah l0_0 a1).f1.f1), .int .i64 ((qah l0_0 a1).f2.f0), .int .i64 ((qah l0_0 a1).f2.f1), .int .i64 ((qah l0_0 a1).f3), .int .i64 ((qah l0_0 a1).f4), .int .i64 ((qah l0_0 a1).f5), .int .i64 0, .int .i64 0, .int .i64 0]) ?_ 9 _ rfl; (with_reducible repeat (first | refine qak ?_ _ | refine qap ?_ | refine qaj ?_ _)); refine blk_put (cs := #[.int .i64 ((qah l0_0 a1).f0.f0), .int .i64 ((qah l0_0 a1).f0.f1), .int .i64 ((qah l0_0 a1).f1.f0), .int .i64 ((qah l0_0 a1).f1.f1), .int .i64 ((qah l0_0 a1).f2.f0), .int .i64 ((qah l0_0 a1).f2.f1), .int .i64 ((qah l0_0 a1).f3), .int .i64 ((qah l0_0 a1).f4), .int .i64 0, .int .i64 0, .int .i64 0, .int .i64 0]) ?_ 8 _ rfl; (with_reducible repeat (first | refine qak ?_ _ | refine qap ?_ | refine qaj ?_ _)); refine blk_put (cs := #[.int .i64 ((qah l0_0 a1).f0.f0), .int .i64 ((qah l0_0 a1).f0.f1), .int .i64 ((qah l0_0 a1).f1.f0), .int .i64 ((qah l0_0 a1).f1.f1), .int .i64 ((qah l0_0 a1).f2.f0), .int .i64 ((qah l0_0 a1).f2.f1), .int .i64 ((qah l0_0 a1).f3), .int .i64 0, .int .i64 0, .int .i64 0, .int .i64 0, .int .i64 0]) ?_ 7 _ rfl; (with_reducible repeat (first | refine qak ?_ _ | refine qap ?_ | refine qaj ?_ _)); refine blk_put (cs := #[.int .i64 ((qah l0_0 a1).f0.f0), .int .i64 ((qah l0_0 a1).f0.f1), .int .i64 ((qah l0_0 a1).f1.f0), .int .i64 ((qah l0_0 a1).f1.f1), .int .i64 ((qah l0_0 a1).f2.f0), .int .i64 ((qah l0_0 a1).f2.f1), .int .i64 0, .int .i64 0, .int .i64 0, .int .i64 0, .int .i64 0, .int .i64 0]) ?_ 6 _ rfl; (with_reducible repeat (first | refine qak ?_ _ | refine qap ?_ | refine qaj ?_ _)); refine blk_put (cs := #[.int .i64 ((qah l0_0 a1).f0.f0), .int .i64 ((qah l0_0 a1).f0.f1), .int .i64 ((qah l0_0 a1).f1.f0), .int .i64 ((qah l0_0 a1).f1.f1), .int .i64 ((qah l0_0 a1).f2.f0), .int .i64 0, .int .i64 0, .int .i64 0, .int .i64 0, .int .i64 0, .int .i64 0, .int .i64 0]) ?_ 5 _ rfl; (with_reducible repeat (first | refine qak ?_ _ | refine qap ?_ | refine qaj ?_ _)); refine blk_put (cs := #[.int .i64 ((qah l0_0 a1).f0.f0), .int .i64 ((qah l0_0 a1).f0.f1), .int .i64 ((qah l0_0 a1).f1.f0), .int .i64 ((qah l0_0 a1).f1.f1), .int .i64 0, .int .i64 0, .int .i64 0, .int .i64 0, .int .i64 0, .int .i64 0, .int .i64 0, .int .i64 0]) ?_ 4 _ rfl; (with_reducible repeat (first | refine qak ?_ _ | refine qap ?_ | refine qaj ?_ _)); refine blk_put (cs := #[.int .i64 ((qah l0_0 a1).f0.f0), .int .i64 ((qah l0_0 a1).f0.f1), .int .i64 ((qah l0_0 a1).f1.f0), .int .i64 0, .int .i64 0, .int .i64 0, .int .i64 0, .int .i64 0, .int .i64 0, .int .i64 0, .int .i64 0, .int .i64 0]) ?_ 3 _ rfl; (with_reducible repeat (first | refine qak ?_ _ | refine qap ?_ | refine qaj ?_ _)); refine blk_put (cs := #[.int .i64 ((qah l0_0 a1).f0.f0), .int .i64 ((qah l0_0 a1).f0.f1), .int .i64 0, .int .i64 0, .int .i64 0, .int .i64 0, .int .i64 0, .int .i64 0, .int .i64 0, .int .i64 0, .int .i64 0, .int .i64 0]) ?_ 2 _ rfl; (with_reducible repeat (first | refine qak ?_ _ | refine qap ?_ | refine qaj ?_ _)); refine blk_put (cs := #[.int .i64 ((qah l0_0 a1).f0.f0), .int .i64 0, .int .i64 0, .int .i64 0, .int .i64 0, .int .i64 0, .int .i64 0, .int .i64 0, .int .i64 0, .int .i64 0, .int .i64 0, .int .i64 0]) ?_ 1 _ rfl; (with_reducible repeat (first | refine qak ?_ _ | refine qap ?_ | refine qaj ?_ _)); refine blk_put (cs := #[.int .i64 0, .int .i64 0, .int .i64 0, .int .i64 0, .int .i64 0, .int .i64 0, .int .i64 0, .int .i64 0, .int .i64 0, .int .i64 0, .int .i64 0, .int .i64 0]) ?_ 0 _ rfl; (with_reducible repeat (first | refine qak ?_ _ | refine qap ?_ | refine qaj ?_ _)); exact BK194.out) hb); have n2_ := qac.mk (qai (by repeat (first | (with_reducible first | exact HB.out | apply qae | apply qad | apply qaf | refine qag ?_ GE185.out | refine qag ?_ GE194.out) | exact HB.out)) hb); clear BK185; clear BK194; clear HB; have BK185 := n0_; have BK194 := n1_; have HB := n2_; clear n0_ n1_ n2_; (try clear hb); (try clear hb2); (try clear hk); (try clear hi)) | ((with_reducible refine qax (N := 12) rfl ?_); (try (refine gate_guard (by rfl) ?_; dsimp only)); refine qaw ?hg (N := 12) ?hd (cs := #[.int .i64 0, .int .i64 0, .int .i64 0, .int .i64 0]) (t := 31) ?hr ?_; (case hd => rfl); (case hg => rfl); (case hr => first | (go_simp; done) | (go_simp; rfl)); intro gb200 hg w90 hbox hb; have n0_ := qac.mk (qam (g := gb185) (o := .cells #[.slice (some ad193) l0_0.length c0_0, .slice A0_1 l0_1.length c0_1, .slice A0_2 l0_2.length c0_2] 26 (0, 0)) (by (with_reducible repeat (first | refine qak ?_ _ | refine qap ?_ | refine qaj ?_ _)); exact BK185.out) hb); have n1_ := qac.mk (qam (g := gb194) (o := .cells #[.int .i64 ((qah l0_0 a1).f0.f0), .int .i64 ((qah l0_0 a1).f0.f1), .int .i64 ((qah l0_0 a1).f1.f0), .int .i64 ((qah l0_0 a1).f1.f1), .int .i64 ((qah l0_0 a1).f2.f0), .int .i64 ((qah l0_0 a1).f2.f1), .int .i64 ((qah l0_0 a1).f3), .int .i64 ((qah l0_0 a1).f4), .int .i64 ((qah l0_0 a1).f5), .int .i64 ((qah l0_0 a1).f6), .int .i64 ((qah l0_0 a1).f7.f0), .int .i64 ((qah l0_0 a1).f7.f1)] 39 (0, 0)) (by (with_reducible repeat (first | refine qak ?_ _ | refine qap ?_ | refine qaj ?_ _)); exact BK194.out) hb); have n2_ := qac.mk (qai (by repeat (first | (with_reducible first | exact HB.out | apply qae | apply qad | apply qaf | refine qag ?_ GE185.out | refine qag ?_ GE194.out) | exact HB.out)) hb); have n3_ := qac.mk (hbox); have n4_ := qac.mk ((by rw [hg]; exact (qar (by repeat (first | (with_reducible first | exact HB.out | apply qae | apply qad | apply qaf | refine qag ?_ GE185.out | refine qag ?_ GE194.out) | exact HB.out))) : w.heap.size ≤ gb200)); have n5_ := qac.mk ((by rw [hg]; exact (qar (by repeat (first | (with_reducible first | exact HB.out | apply qae | apply qad | apply qaf | refine qag ?_ GE185.out | refine qag ?_ GE194.out) | exact HB.out))) : w.heap.size ≤ gb200)); have n6_ := qac.mk ((by rw [hg]; exact Nat.ne_of_lt (blk_lt (g := gb185) (o := .cells #[.slice (some ad193) l0_0.length c0_0, .slice A0_1 l0_1.length c0_1, .slice A0_2 l0_2.length c0_2] 26 (0, 0)) (by (with_reducible repeat (first | refine qak ?_ _ | refine qap ?_ | refine qaj ?_ _)); exact BK185.out)) : gb185 ≠ gb200)); have n7_ := qac.mk ((by rw [hg]; exact Nat.ne_of_gt (blk_lt (g := gb185) (o := .cells #[.slice (some ad193) l0_0.length c0_0, .slice A0_1 l0_1.length c0_1, .slice A0_2 l0_2.length c0_2] 26 (0, 0)) (by (with_reducible repeat (first | refine qak ?_ _ | refine qap ?_ | refine qaj ?_ _)); exact BK185.out)) : gb200 ≠ gb185)); have n8_ := qac.mk ((by rw [hg]; exact Nat.ne_of_lt (blk_lt (g := gb194) (o := .cells #[.int .i64 ((qah l0_0 a1).f0.f0), .int .i64 ((qah l0_0 a1).f0.f1), .int .i64 ((qah l0_0 a1).f1.f0), .int .i64 ((qah l0_0 a1).f1.f1), .int .i64 ((qah l0_0 a1).f2.f0), .int .i64 ((qah l0_0 a1).f2.f1), .int .i64 ((qah l0_0 a1).f3), .int .i64 ((qah l0_0 a1).f4), .int .i64 ((qah l0_0 a1).f5), .int .i64 ((qah l0_0 a1).f6), .int .i64 ((qah l0_0 a1).f7.f0), .int .i64 ((qah l0_0 a1).f7.f1)] 39 (0, 0)) (by (with_reducible repeat (first | refine qak ?_ _ | refine qap ?_ | refine qaj ?_ _)); exact BK194.out)) : gb194 ≠ gb200)); have n9_ := qac.mk ((by rw [hg]; exact Nat.ne_of_gt (blk_lt (g := gb194) (o := .cells #[.int .i64 ((qah l0_0 a1).f0.f0), .int .i64 ((qah l0_0 a1).f0.f1), .int .i64 ((qah l0_0 a1).f1.f0), .int .i64 ((qah l0_0 a1).f1.f1), .int .i64 ((qah l0_0 a1).f2.f0), .int .i64 ((qah l0_0 a1).f2.f1), .int .i64 ((qah l0_0 a1).f3), .int .i64 ((qah l0_0 a1).f4), .int .i64 ((qah l0_0 a1).f5), .int .i64 ((qah l0_0 a1).f6), .int .i64 ((qah l0_0 a1).f7.f0), .int .i64 ((qah l0_0 a1).f7.f1)] 39 (0, 0)) (by (with_reducible repeat (first | refine qak ?_ _ | refine qap ?_ | refine qaj ?_ _)); exact BK194.out)) : gb200 ≠ gb194)); clear BK185; clear BK194; clear HB; have BK185 := n0_; have BK194 := n1_; have HB := n2_; have BK200 := n3_; have GW200 := n4_; have GE200 := n5_; have NB185_200 := n6_; have NB200_185 := n7_; have NB194_200 := n8_; have NB200_194 := n9_; clear n0_ n1_ n2_ n3_ n4_ n5_ n6_ n7_ n8_ n9_; clear hb hbox hg; have hnb91 := NB200_185.out; have hnc91 := NB185_200.out; have hnb92 := NB200_194.out; have hnc92 := NB194_200.out; have hcz93_0 : w90.cell? ⟨gb200, 0, none⟩ = some (.int .i64 0) := (qaa BK200.out 0).trans rfl; have hcz93_1 : w90.cell? ⟨gb200, 1, none⟩ = some (.int .i64 0) := (qaa BK200.out 1).trans rfl; have hcz93_2 : w90.cell? ⟨gb200, 2, none⟩ = some (.int .i64 0) := (qaa BK200.out 2).trans rfl; have hcz93_3 : w90.cell? ⟨gb200, 3, none⟩ = some (.int .i64 0) := (qaa BK200.out 3).trans rfl; have hfz93_0 := qab BK200.out 0; have hfz93_1 := qab BK200.out 1; have hfz93_2 := qab BK200.out 2; have hfz93_3 := qab BK200.out 3))
        have n0_ : qac (((((w90.setCell ⟨gb200, 0, none⟩ (.int .i64 t195)).setCell ⟨gb200, 1, none⟩ (.int .i64 t196)).setCell ⟨gb200, 2, none⟩ (.int .i64 t197)).setCell ⟨gb200, 3, none⟩ (.int .i64 t198)).heap[gb185]? = some (.cells #[.slice (some ad193) l0_0.length c0_0, .slice A0_1 l0_1.length c0_1, .slice A0_2 l0_2.length c0_2] 26 (0, 0))) := ⟨by (with_reducible repeat (first | refine qak ?_ _ | refine qap ?_ | refine qaj ?_ _)); refine qbc ?_ NB185_200.out _; (with_reducible repeat (first | refine qak ?_ _ | refine qap ?_ | refine qaj ?_ _)); refine qbc ?_ NB185_200.out _; (with_reducible repeat (first | refine qak ?_ _ | refine qap ?_ | refine qaj ?_ _)); refine qbc ?_ NB185_200.out _; (with_reducible repeat (first | refine qak ?_ _ | refine qap ?_ | refine qaj ?_ _)); refine qbc ?_ NB185_200.out _; (with_reducible repeat (first | refine qak ?_ _ | refine qap ?_ | refine qaj ?_ _)); exact BK185.out⟩
        have n1_ : qac (((((w90.setCell ⟨gb200, 0, none⟩ (.int .i64 t195)).setCell ⟨gb200, 1, none⟩ (.int .i64 t196)).setCell ⟨gb200, 2, none⟩ (.int .i64 t197)).setCell ⟨gb200, 3, none⟩ (.int .i64 t198)).heap[gb194]? = some (.cells #[.int .i64 ((qah l0_0 a1).f0.f0), .int .i64 ((qah l0_0 a1).f0.f1), .int .i64 ((qah l0_0 a1).f1.f0), .int .i64 ((qah l0_0 a1).f1.f1), .int .i64 ((qah l0_0 a1).f2.f0), .int .i64 ((qah l0_0 a1).f2.f1), .int .i64 ((qah l0_0 a1).f3), .int .i64 ((qah l0_0 a1).f4), .int .i64 ((qah l0_0 a1).f5), .int .i64 ((qah l0_0 a1).f6), .int .i64 ((qah l0_0 a1).f7.f0), .int .i64 ((qah l0_0 a1).f7.f1)] 39 (0, 0))) := ⟨by (with_reducible repeat (first | refine qak ?_ _ | refine qap ?_ | refine qaj ?_ _)); refine qbc ?_ NB194_200.out _; (with_reducible repeat (first | refine qak ?_ _ | refine qap ?_ | refine qaj ?_ _)); refine qbc ?_ NB194_200.out _; (with_reducible repeat (first | refine qak ?_ _ | refine qap ?_ | refine qaj ?_ _)); refine qbc ?_ NB194_200.out _; (with_reducible repeat (first | refine qak ?_ _ | refine qap ?_ | refine qaj ?_ _)); refine qbc ?_ NB194_200.out _; (with_reducible repeat (first | refine qak ?_ _ | refine qap ?_ | refine qaj ?_ _)); exact BK194.out⟩
        have n2_ : qac (((((w90.setCell ⟨gb200, 0, none⟩ (.int .i64 t195)).setCell ⟨gb200, 1, none⟩ (.int .i64 t196)).setCell ⟨gb200, 2, none⟩ (.int .i64 t197)).setCell ⟨gb200, 3, none⟩ (.int .i64 t198)).heap[gb200]? = some (.cells #[.int .i64 t195, .int .i64 t196, .int .i64 t197, .int .i64 t198] 31 (0, 0))) := ⟨by (with_reducible repeat (first | refine qak ?_ _ | refine qap ?_ | refine qaj ?_ _)); refine blk_put (cs := #[.int .i64 t195, .int .i64 t196, .int .i64 t197, .int .i64 0]) ?_ 3 _ rfl; (with_reducible repeat (first | refine qak ?_ _ | refine qap ?_ | refine qaj ?_ _)); refine blk_put (cs := #[.int .i64 t195, .int .i64 t196, .int .i64 0, .int .i64 0]) ?_ 2 _ rfl; (with_reducible repeat (first | refine qak ?_ _ | refine qap ?_ | refine qaj ?_ _)); refine blk_put (cs := #[.int .i64 t195, .int .i64 0, .int .i64 0, .int .i64 0]) ?_ 1 _ rfl; (with_reducible repeat (first | refine qak ?_ _ | refine qap ?_ | refine qaj ?_ _)); refine blk_put (cs := #[.int .i64 0, .int .i64 0, .int .i64 0, .int .i64 0]) ?_ 0 _ rfl; (with_reducible repeat (first | refine qak ?_ _ | refine qap ?_ | refine qaj ?_ _)); exact BK200.out⟩
        have n3_ : qac (Below w.heap.size w ((((w90.setCell ⟨gb200, 0, none⟩ (.int .i64 t195)).setCell ⟨gb200, 1, none⟩ (.int .i64 t196)).setCell ⟨gb200, 2, none⟩ (.int .i64 t197)).setCell ⟨gb200, 3, none⟩ (.int .i64 t198))) := ⟨by repeat (first | (with_reducible first | exact HB.out | apply qae | apply qad | apply qaf | refine qag ?_ GE185.out | refine qag ?_ GE194.out | refine qag ?_ GE200.out) | exact HB.out)⟩
        (try clear BK185)
        (try clear BK194)
        (try clear BK200)
        (try clear HB)
        generalize ((((w90.setCell ⟨gb200, 0, none⟩ (.int .i64 t195)).setCell ⟨gb200, 1, none⟩ (.int .i64 t196)).setCell ⟨gb200, 2, none⟩ (.int .i64 t197)).setCell ⟨gb200, 3, none⟩ (.int .i64 t198)) = w94 at n0_ n1_ n2_ n3_ ⊢
        have BK185 := n0_
        have BK194 := n1_
        have BK200 := n2_
        have HB := n3_
        clear n0_ n1_ n2_ n3_
        have n0_ := qac.mk (qap BK185.out)
        have n1_ := qac.mk (qap BK194.out)
        have n2_ := qac.mk (qap BK200.out)
        have n3_ := qac.mk (qaf HB.out)
        clear BK185
        clear BK194
        clear BK200
        clear HB
        have BK185 := n0_
        have BK194 := n1_
        have BK200 := n2_
        have HB := n3_
        clear n0_ n1_ n2_ n3_
        have q96 : (a4 : Int) ≤ ((l3.length : Int) : Int) := of_decide_eq_true (by first | (with_reducible assumption) | assumption)
        obtain ⟨i096, hi096, _, hsz96, _⟩ := info_parts info44
        have hroom96 : l3.length ≤ c3 := HC3.out
        have hC96 : Kd.C k44 _ A3 l3.length l3 := HR3.out
        have hcut96 := cut_to (P := Try.prog) 27 44 .i64 Try.underlying27 hi096 A3 l3.length c3 a4 (of_decide_eq_true (by first | (with_reducible assumption) | assumption)) q96 hroom96
        have hr96 := Kd.C_take (m := (a4 : Int).toNat) hC96 (by omega)
        have hy96 : y201.length = (a4 : Int).toNat := (by rw [Ny201.out, List.length_take]; omega)
        rw [← Ny201.out] at hr96
        rw [← hy96] at hcut96
        have HR204 := qac.mk hr96
        have HC204 := qac.mk (show y201.length ≤ c3 from by omega)
        clear hr96 hC96 hroom96 hi096 hsz96
        have KY96 := qac.mk hy96
        clear hy96
        replace q96 := eq_true q96
        refine start_ (n := 13) (S := fun w' => w'.cell? ⟨gb185, 0, none⟩ = some (.slice (some ad193) l0_0.length c0_0) ∧ w'.cell? ⟨gb185, 1, none⟩ = some (.slice A0_1 l0_1.length c0_1) ∧ w'.cell? ⟨gb185, 2, none⟩ = some (.slice A0_2 l0_2.length c0_2)) (ds := []) (msk 13 0) (by kernel_rfl) rfl rfl ⟨(qaa BK185.out 0).trans rfl, (qaa BK185.out 1).trans rfl, (qaa BK185.out 2).trans rfl⟩ (fun hHeld => ?_); refine with_tabW taliklaw04_PipeBalance.tab5 taliklaw04_PipeBalance.bits5 (fun HT_ HW_ => ?_)
        generalize w94.drew = w95 at BK185 BK194 BK200 HB HR204 hHeld ⊢
        refine pure_ (i := 1) (N := some 96) (v := ?_) (a' := ?_) #[false, true, false, false, false, false, false, false, false, false, false, false, false] rfl rfl (qav HT_.out (by kernel_rfl)) (fun _ _ _ h => h) (Or.inl ⟨by rfl, ?_⟩) ?_ ?_
        rotate_left
        ·
         intro w'
         go_simp
         with_reducible rfl
        rotate_left
        ·
         simp only [Act.put, List.setIfInBounds_toArray, List.set_cons_zero, List.set_cons_succ, i64_w, i32_w]
         rfl
        refine pure_ (i := 2) (N := some 97) (v := ?_) (a' := ?_) #[false, true, true, false, false, false, false, false, false, false, false, false, false] rfl rfl (qav HT_.out (by kernel_rfl)) (fun _ _ _ h => h) (Or.inl ⟨by rfl, ?_⟩) ?_ ?_
        rotate_left
        ·
         intro w'
         go_simp
         with_reducible rfl
        rotate_left
        ·
         simp only [Act.put, List.setIfInBounds_toArray, List.set_cons_zero, List.set_cons_succ, i64_w, i32_w]
         rfl
        refine pure_ (i := 3) (N := some 98) (v := ?_) (a' := ?_) #[false, true, true, true, false, false, false, false, false, false, false, false, false] rfl rfl (qav HT_.out (by kernel_rfl)) (fun _ _ _ h => h) (Or.inl ⟨by rfl, ?_⟩) ?_ ?_
        rotate_left
        ·
         intro w'
         go_simp
         with_reducible rfl
        rotate_left
        ·
         simp only [Act.put, List.setIfInBounds_toArray, List.set_cons_zero, List.set_cons_succ, i64_w, i32_w]
         rfl
        refine pure_ (i := 4) (N := some 99) (v := ?_) (a' := ?_) #[false, true, true, true, true, false, false, false, false, false, false, false, false] rfl rfl (qav HT_.out (by kernel_rfl)) (fun _ _ _ h => h) (Or.inl ⟨by rfl, ?_⟩) ?_ ?_
        rotate_left
        ·
         intro w'
         go_simp
         with_reducible rfl
        rotate_left
        ·
         simp only [Act.put, List.setIfInBounds_toArray, List.set_cons_zero, List.set_cons_succ, i64_w, i32_w]
         rfl
        refine pure_ (i := 5) (N := some 100) (v := ?_) (a' := ?_) #[false, true, true, true, true, true, false, false, false, false, false, false, false] rfl rfl (qav HT_.out (by kernel_rfl)) (fun _ _ _ h => h) (Or.inl ⟨by rfl, ?_⟩) ?_ ?_
        rotate_left
        ·
         intro w'
         go_simp
         with_reducible rfl
        rotate_left
        ·
         simp only [Act.put, List.setIfInBounds_toArray, List.set_cons_zero, List.set_cons_succ, i64_w, i32_w]
         rfl
        refine take_ (i := 0) (N := some 95) (v := ?_) (a' := ?_) (msk 13 6) rfl rfl (take_ofW HT_.out HW_.out (by kernel_rfl)) (fun _ _ _ h => h) (Or.inl ⟨by rfl, ?_⟩) hHeld ?_ ?_
        rotate_left
        ·
         rintro w' ⟨s0, s1, s2⟩
         go_simp
         with_reducible rfl
        rotate_left
        ·
         simp only [Act.put, List.setIfInBounds_toArray, List.set_cons_zero, List.set_cons_succ, i64_w, i32_w]
         rfl
        refine join_ (σ := Nat) 2 (msk 13 11) (fun s_ => [(101, .tuple #[.agg #[.int .i64 t205, .int .i64 t206, .int .i64 t207, .int .i64 t208], .int .i64 t209]), (14, .pointer (some ⟨s_, 0, none⟩)), (94, .tuple #[.agg #[.int .i64 t205, .int .i64 t206, .int .i64 t207, .int .i64 t208], .int .i64 t209]), (102, .agg #[.int .i64 t205, .int .i64 t206, .int .i64 t207, .int .i64 t208]), (103, .int .i64 t209)]) (fun s_ w' => (w'.cell? ⟨gb185, 0, none⟩ = some (.slice (some ad193) l0_0.length c0_0) ∧ w'.cell? ⟨gb185, 1, none⟩ = some (.slice A0_1 l0_1.length c0_1) ∧ w'.cell? ⟨gb185, 2, none⟩ = some (.slice A0_2 l0_2.length c0_2)) ∧ (w'.heap[gb185]? = some (.cells #[.slice (some ad193) l0_0.length c0_0, .slice A0_1 l0_1.length c0_1, .slice A0_2 l0_2.length c0_2] 26 (0, 0))) ∧ (w'.heap[gb194]? = some (.cells #[.int .i64 ((qah l0_0 a1).f0.f0), .int .i64 ((qah l0_0 a1).f0.f1), .int .i64 ((qah l0_0 a1).f1.f0), .int .i64 ((qah l0_0 a1).f1.f1), .int .i64 ((qah l0_0 a1).f2.f0), .int .i64 ((qah l0_0 a1).f2.f1), .int .i64 ((qah l0_0 a1).f3), .int .i64 ((qah l0_0 a1).f4), .int .i64 ((qah l0_0 a1).f5), .int .i64 ((qah l0_0 a1).f6), .int .i64 ((qah l0_0 a1).f7.f0), .int .i64 ((qah l0_0 a1).f7.f1)] 39 (0, 0))) ∧ (w'.heap[gb200]? = some (.cells #[.int .i64 t195, .int .i64 t196, .int .i64 t197, .int .i64 t198] 31 (0, 0))) ∧ (w'.heap[s_]? = some (.cells #[.int .i64 0, .int .i64 0, .int .i64 0, .int .i64 0] 31 (0, 0))) ∧ (w.heap.size ≤ s_) ∧ (w.heap.size ≤ s_) ∧ (gb185 ≠ s_) ∧ (s_ ≠ gb185) ∧ (gb194 ≠ s_) ∧ (s_ ≠ gb194) ∧ (gb200 ≠ s_) ∧ (s_ ≠ gb200) ∧ (Below w.heap.size w w')) ?_ ?_
        rotate_left
        ·
         intro hCont
         refine two_ (i := 6) (j := 10) (Ni := some 101) (Nj := some 14) (msk 13 7) #[true, true, true, true, true, true, false, false, false, false, true, false, false] rfl rfl rfl rfl (two_of HT_.out (by kernel_rfl)) (by decide) (by decide) (fun K hK => ?_) (fun K hK => ?_)
         ·
          skip
          refine goes_ Try.func18 (by kernel_rfl) rfl #[.agg #[.slice (some ad193) l0_0.length c0_0, .slice A0_1 l0_1.length c0_1, .slice A0_2 l0_2.length c0_2], .int .i64 a1, .int .i64 a2, .slice A3 y201.length c3] (by rfl) rfl rfl (by (try simp only [List.map_toArray, List.map_cons, List.map_nil]); first | done | rfl | (simp only [List.length_drop, List.length_take]; rfl)) ?_
          with_reducible refine (pipe_Play.calls _ _ l0_0 _ _ l0_1 _ _ l0_2 a1 a2 _ _ y201 t205 t206 t207 t208 t209 _ ?side1 ?side2 ?side3 ?side4 ?side5 ?side6 ?side7 ?side8 A83.out).mono ?_
          (case side1 => repeat (first | exact (Kd.qal HR0_0.out HB.out) | (with_reducible refine Kd.qan ?_ _) | (with_reducible refine Kd.qao ?_ _) | (with_reducible refine Kd.qaq ?_)))
          (case side2 => exact HC0_0.out)
          (case side3 => repeat (first | exact (Kd.qal HR0_1.out HB.out) | (with_reducible refine Kd.qan ?_ _) | (with_reducible refine Kd.qao ?_ _) | (with_reducible refine Kd.qaq ?_)))
          (case side4 => exact HC0_1.out)
          (case side5 => repeat (first | exact (Kd.qal HR0_2.out HB.out) | (with_reducible refine Kd.qan ?_ _) | (with_reducible refine Kd.qao ?_ _) | (with_reducible refine Kd.qaq ?_)))
          (case side6 => exact HC0_2.out)
          (case side7 => repeat (first | exact (Kd.qal HR204.out HB.out) | (with_reducible refine Kd.qan ?_ _) | (with_reducible refine Kd.qao ?_ _) | (with_reducible refine Kd.qaq ?_)))
          (case side8 => exact HC204.out)
          rintro e w97 ⟨rfl, hb⟩
          refine ⟨_, rfl, ?_⟩
          have n0_ := qac.mk (qam (g := gb185) (o := .cells #[.slice (some ad193) l0_0.length c0_0, .slice A0_1 l0_1.length c0_1, .slice A0_2 l0_2.length c0_2] 26 (0, 0)) (by (with_reducible repeat (first | refine qak ?_ _ | refine qap ?_ | refine qaj ?_ _)); exact BK185.out) hb)
          have n1_ := qac.mk (qam (g := gb194) (o := .cells #[.int .i64 ((qah l0_0 a1).f0.f0), .int .i64 ((qah l0_0 a1).f0.f1), .int .i64 ((qah l0_0 a1).f1.f0), .int .i64 ((qah l0_0 a1).f1.f1), .int .i64 ((qah l0_0 a1).f2.f0), .int .i64 ((qah l0_0 a1).f2.f1), .int .i64 ((qah l0_0 a1).f3), .int .i64 ((qah l0_0 a1).f4), .int .i64 ((qah l0_0 a1).f5), .int .i64 ((qah l0_0 a1).f6), .int .i64 ((qah l0_0 a1).f7.f0), .int .i64 ((qah l0_0 a1).f7.f1)] 39 (0, 0)) (by (with_reducible repeat (first | refine qak ?_ _ | refine qap ?_ | refine qaj ?_ _)); exact BK194.out) hb)
          have n2_ := qac.mk (qam (g := gb200) (o := .cells #[.int .i64 t195, .int .i64 t196, .int .i64 t197, .int .i64 t198] 31 (0, 0)) (by (with_reducible repeat (first | refine qak ?_ _ | refine qap ?_ | refine qaj ?_ _)); exact BK200.out) hb)
          have n3_ := qac.mk (qai (by repeat (first | (with_reducible first | exact HB.out | apply qae | apply qad | apply qaf | refine qag ?_ GE185.out | refine qag ?_ GE194.out | refine qag ?_ GE200.out) | exact HB.out)) hb)
          clear BK185
          clear BK194
          clear BK200
          clear HB
          have BK185 := n0_
          have BK194 := n1_
          have BK200 := n2_
          have HB := n3_
          clear n0_ n1_ n2_ n3_
          (try clear hb)
          (try clear hb2)
          (try clear hk)
          (try clear hi)
          refine hK.out _ _ ⟨(qaa BK185.out 0).trans rfl, (qaa BK185.out 1).trans rfl, (qaa BK185.out 2).trans rfl⟩ (fun hHeld => ?_)
          clear hK K
          refine norm_ (a' := ?_) ?_ ?_
          rotate_left
          ·
           show Act.put _ (some 101) _ = _
           simp only [Act.put, List.setIfInBounds_toArray, List.set_cons_zero, List.set_cons_succ, i64_w, i32_w]
           rfl
          refine pure_ (i := 7) (N := some 94) (v := ?_) (a' := ?_) (msk 13 8) rfl rfl (qav HT_.out (by kernel_rfl)) (fun _ _ _ h => h) (Or.inl ⟨by rfl, ?_⟩) ?_ ?_
          rotate_left
          ·
           intro w'
           go_simp
           with_reducible rfl
          rotate_left
          ·
           simp only [Act.put, List.setIfInBounds_toArray, List.set_cons_zero, List.set_cons_succ, i64_w, i32_w]
           rfl
          refine pure_ (i := 8) (N := some 102) (v := ?_) (a' := ?_) (msk 13 9) rfl rfl (qav HT_.out (by kernel_rfl)) (fun _ _ _ h => h) (Or.inl ⟨by rfl, ?_⟩) ?_ ?_
          rotate_left
          ·
           intro w'
           go_simp
           with_reducible rfl
          rotate_left
          ·
           simp only [Act.put, List.setIfInBounds_toArray, List.set_cons_zero, List.set_cons_succ, i64_w, i32_w]
           rfl
          refine pure_ (i := 9) (N := some 103) (v := ?_) (a' := ?_) (msk 13 10) rfl rfl (qav HT_.out (by kernel_rfl)) (fun _ _ _ h => h) (Or.inl ⟨by rfl, ?_⟩) ?_ ?_
          rotate_left
          ·
           intro w'
           go_simp
           with_reducible rfl
          rotate_left
          ·
           simp only [Act.put, List.setIfInBounds_toArray, List.set_cons_zero, List.set_cons_succ, i64_w, i32_w]
           rfl
          refine one_ (i := 10) (N := some 14) (msk 13 11) rfl rfl (one_of HT_.out (by kernel_rfl)) (by decide) (fun K hK => ?_)
          refine box_step ?hg (N := 14) ?hd (cs := #[.int .i64 0, .int .i64 0, .int .i64 0, .int .i64 0]) (t := 31) ?hr ?_; (case hd => rfl); (case hg => rfl); (case hr => first | (go_simp; done) | (go_simp; rfl))
          intro gb210 hg w98 hbox hb
          have n0_ := qac.mk (qam (g := gb185) (o := .cells #[.slice (some ad193) l0_0.length c0_0, .slice A0_1 l0_1.length c0_1, .slice A0_2 l0_2.length c0_2] 26 (0, 0)) (by (with_reducible repeat (first | refine qak ?_ _ | refine qap ?_ | refine qaj ?_ _)); exact BK185.out) hb)
          have n1_ := qac.mk (qam (g := gb194) (o := .cells #[.int .i64 ((qah l0_0 a1).f0.f0), .int .i64 ((qah l0_0 a1).f0.f1), .int .i64 ((qah l0_0 a1).f1.f0), .int .i64 ((qah l0_0 a1).f1.f1), .int .i64 ((qah l0_0 a1).f2.f0), .int .i64 ((qah l0_0 a1).f2.f1), .int .i64 ((qah l0_0 a1).f3), .int .i64 ((qah l0_0 a1).f4), .int .i64 ((qah l0_0 a1).f5), .int .i64 ((qah l0_0 a1).f6), .int .i64 ((qah l0_0 a1).f7.f0), .int .i64 ((qah l0_0 a1).f7.f1)] 39 (0, 0)) (by (with_reducible repeat (first | refine qak ?_ _ | refine qap ?_ | refine qaj ?_ _)); exact BK194.out) hb)
          have n2_ := qac.mk (qam (g := gb200) (o := .cells #[.int .i64 t195, .int .i64 t196, .int .i64 t197, .int .i64 t198] 31 (0, 0)) (by (with_reducible repeat (first | refine qak ?_ _ | refine qap ?_ | refine qaj ?_ _)); exact BK200.out) hb)
          have n3_ := qac.mk (qai (by repeat (first | (with_reducible first | exact HB.out | apply qae | apply qad | apply qaf | refine qag ?_ GE185.out | refine qag ?_ GE194.out | refine qag ?_ GE200.out) | exact HB.out)) hb)
          have n4_ := qac.mk (hbox)
          have n5_ := qac.mk ((by rw [hg]; exact (qar (by repeat (first | (with_reducible first | exact HB.out | apply qae | apply qad | apply qaf | refine qag ?_ GE185.out | refine qag ?_ GE194.out | refine qag ?_ GE200.out) | exact HB.out))) : w.heap.size ≤ gb210))
          have n6_ := qac.mk ((by rw [hg]; exact (qar (by repeat (first | (with_reducible first | exact HB.out | apply qae | apply qad | apply qaf | refine qag ?_ GE185.out | refine qag ?_ GE194.out | refine qag ?_ GE200.out) | exact HB.out))) : w.heap.size ≤ gb210))
          have n7_ := qac.mk ((by rw [hg]; exact Nat.ne_of_lt (blk_lt (g := gb185) (o := .cells #[.slice (some ad193) l0_0.length c0_0, .slice A0_1 l0_1.length c0_1, .slice A0_2 l0_2.length c0_2] 26 (0, 0)) (by (with_reducible repeat (first | refine qak ?_ _ | refine qap ?_ | refine qaj ?_ _)); exact BK185.out)) : gb185 ≠ gb210))
          have n8_ := qac.mk ((by rw [hg]; exact Nat.ne_of_gt (blk_lt (g := gb185) (o := .cells #[.slice (some ad193) l0_0.length c0_0, .slice A0_1 l0_1.length c0_1, .slice A0_2 l0_2.length c0_2] 26 (0, 0)) (by (with_reducible repeat (first | refine qak ?_ _ | refine qap ?_ | refine qaj ?_ _)); exact BK185.out)) : gb210 ≠ gb185))
          have n9_ := qac.mk ((by rw [hg]; exact Nat.ne_of_lt (blk_lt (g := gb194) (o := .cells #[.int .i64 ((qah l0_0 a1).f0.f0), .int .i64 ((qah l0_0 a1).f0.f1), .int .i64 ((qah l0_0 a1).f1.f0), .int .i64 ((qah l0_0 a1).f1.f1), .int .i64 ((qah l0_0 a1).f2.f0), .int .i64 ((qah l0_0 a1).f2.f1), .int .i64 ((qah l0_0 a1).f3), .int .i64 ((qah l0_0 a1).f4), .int .i64 ((qah l0_0 a1).f5), .int .i64 ((qah l0_0 a1).f6), .int .i64 ((qah l0_0 a1).f7.f0), .int .i64 ((qah l0_0 a1).f7.f1)] 39 (0, 0)) (by (with_reducible repeat (first | refine qak ?_ _ | refine qap ?_ | refine qaj ?_ _)); exact BK194.out)) : gb194 ≠ gb210))
          have n10_ := qac.mk ((by rw [hg]; exact Nat.ne_of_gt (blk_lt (g := gb194) (o := .cells #[.int .i64 ((qah l0_0 a1).f0.f0), .int .i64 ((qah l0_0 a1).f0.f1), .int .i64 ((qah l0_0 a1).f1.f0), .int .i64 ((qah l0_0 a1).f1.f1), .int .i64 ((qah l0_0 a1).f2.f0), .int .i64 ((qah l0_0 a1).f2.f1), .int .i64 ((qah l0_0 a1).f3), .int .i64 ((qah l0_0 a1).f4), .int .i64 ((qah l0_0 a1).f5), .int .i64 ((qah l0_0 a1).f6), .int .i64 ((qah l0_0 a1).f7.f0), .int .i64 ((qah l0_0 a1).f7.f1)] 39 (0, 0)) (by (with_reducible repeat (first | refine qak ?_ _ | refine qap ?_ | refine qaj ?_ _)); exact BK194.out)) : gb210 ≠ gb194))
          have n11_ := qac.mk ((by rw [hg]; exact Nat.ne_of_lt (blk_lt (g := gb200) (o := .cells #[.int .i64 t195, .int .i64 t196, .int .i64 t197, .int .i64 t198] 31 (0, 0)) (by (with_reducible repeat (first | refine qak ?_ _ | refine qap ?_ | refine qaj ?_ _)); exact BK200.out)) : gb200 ≠ gb210))
          have n12_ := qac.mk ((by rw [hg]; exact Nat.ne_of_gt (blk_lt (g := gb200) (o := .cells #[.int .i64 t195, .int .i64 t196, .int .i64 t197, .int .i64 t198] 31 (0, 0)) (by (with_reducible repeat (first | refine qak ?_ _ | refine qap ?_ | refine qaj ?_ _)); exact BK200.out)) : gb210 ≠ gb200))
          clear BK185
          clear BK194
          clear BK200
          clear HB
          have BK185 := n0_
          have BK194 := n1_
          have BK200 := n2_
          have HB := n3_
          have BK210 := n4_
          have GW210 := n5_
          have GE210 := n6_
          have NB185_210 := n7_
          have NB210_185 := n8_
          have NB194_210 := n9_
          have NB210_194 := n10_
          have NB200_210 := n11_
          have NB210_200 := n12_
          clear n0_ n1_ n2_ n3_ n4_ n5_ n6_ n7_ n8_ n9_ n10_ n11_ n12_
          clear hb hbox hg
          refine hK.out _ _ ⟨(qaa BK185.out 0).trans rfl, (qaa BK185.out 1).trans rfl, (qaa BK185.out 2).trans rfl⟩ (fun hHeld => ?_)
          clear hK K
          refine norm_ (a' := ?_) ?_ ?_
          rotate_left
          ·
           show Act.put _ (some 14) _ = _
           simp only [Act.put, List.setIfInBounds_toArray, List.set_cons_zero, List.set_cons_succ, i64_w, i32_w]
           rfl
          exact norm_ (by simp only [putAll, Act.put, List.setIfInBounds_toArray, List.set_cons_zero, List.set_cons_succ]) (hCont (gb210) _ ⟨hHeld, (by (with_reducible repeat (first | refine qak ?_ _ | refine qap ?_ | refine qaj ?_ _)); exact BK185.out), (by (with_reducible repeat (first | refine qak ?_ _ | refine qap ?_ | refine qaj ?_ _)); exact BK194.out), (by (with_reducible repeat (first | refine qak ?_ _ | refine qap ?_ | refine qaj ?_ _)); exact BK200.out), (by (with_reducible repeat (first | refine qak ?_ _ | refine qap ?_ | refine qaj ?_ _)); exact BK210.out), GW210.out, GE210.out, NB185_210.out, NB210_185.out, NB194_210.out, NB210_194.out, NB200_210.out, NB210_200.out, (by repeat (first | (with_reducible first | exact HB.out | apply qae | apply qad | apply qaf | refine qag ?_ GE185.out | refine qag ?_ GE194.out | refine qag ?_ GE200.out | refine qag ?_ GE210.out) | exact HB.out))⟩)
         ·
          skip
          refine box_step ?hg (N := 14) ?hd (cs := #[.int .i64 0, .int .i64 0, .int .i64 0, .int .i64 0]) (t := 31) ?hr ?_; (case hd => rfl); (case hg => rfl); (case hr => first | (go_simp; done) | (go_simp; rfl))
          intro gb210 hg w97 hbox hb
          have n0_ := qac.mk (qam (g := gb185) (o := .cells #[.slice (some ad193) l0_0.length c0_0, .slice A0_1 l0_1.length c0_1, .slice A0_2 l0_2.length c0_2] 26 (0, 0)) (by (with_reducible repeat (first | refine qak ?_ _ | refine qap ?_ | refine qaj ?_ _)); exact BK185.out) hb)
          have n1_ := qac.mk (qam (g := gb194) (o := .cells #[.int .i64 ((qah l0_0 a1).f0.f0), .int .i64 ((qah l0_0 a1).f0.f1), .int .i64 ((qah l0_0 a1).f1.f0), .int .i64 ((qah l0_0 a1).f1.f1), .int .i64 ((qah l0_0 a1).f2.f0), .int .i64 ((qah l0_0 a1).f2.f1), .int .i64 ((qah l0_0 a1).f3), .int .i64 ((qah l0_0 a1).f4), .int .i64 ((qah l0_0 a1).f5), .int .i64 ((qah l0_0 a1).f6), .int .i64 ((qah l0_0 a1).f7.f0), .int .i64 ((qah l0_0 a1).f7.f1)] 39 (0, 0)) (by (with_reducible repeat (first | refine qak ?_ _ | refine qap ?_ | refine qaj ?_ _)); exact BK194.out) hb)
          have n2_ := qac.mk (qam (g := gb200) (o := .cells #[.int .i64 t195, .int .i64 t196, .int .i64 t197, .int .i64 t198] 31 (0, 0)) (by (with_reducible repeat (first | refine qak ?_ _ | refine qap ?_ | refine qaj ?_ _)); exact BK200.out) hb)
          have n3_ := qac.mk (qai (by repeat (first | (with_reducible first | exact HB.out | apply qae | apply qad | apply qaf | refine qag ?_ GE185.out | refine qag ?_ GE194.out | refine qag ?_ GE200.out) | exact HB.out)) hb)
          have n4_ := qac.mk (hbox)
          have n5_ := qac.mk ((by rw [hg]; exact (qar (by repeat (first | (with_reducible first | exact HB.out | apply qae | apply qad | apply qaf | refine qag ?_ GE185.out | refine qag ?_ GE194.out | refine qag ?_ GE200.out) | exact HB.out))) : w.heap.size ≤ gb210))
          have n6_ := qac.mk ((by rw [hg]; exact (qar (by repeat (first | (with_reducible first | exact HB.out | apply qae | apply qad | apply qaf | refine qag ?_ GE185.out | refine qag ?_ GE194.out | refine qag ?_ GE200.out) | exact HB.out))) : w.heap.size ≤ gb210))
          have n7_ := qac.mk ((by rw [hg]; exact Nat.ne_of_lt (blk_lt (g := gb185) (o := .cells #[.slice (some ad193) l0_0.length c0_0, .slice A0_1 l0_1.length c0_1, .slice A0_2 l0_2.length c0_2] 26 (0, 0)) (by (with_reducible repeat (first | refine qak ?_ _ | refine qap ?_ | refine qaj ?_ _)); exact BK185.out)) : gb185 ≠ gb210))
          have n8_ := qac.mk ((by rw [hg]; exact Nat.ne_of_gt (blk_lt (g := gb185) (o := .cells #[.slice (some ad193) l0_0.length c0_0, .slice A0_1 l0_1.length c0_1, .slice A0_2 l0_2.length c0_2] 26 (0, 0)) (by (with_reducible repeat (first | refine qak ?_ _ | refine qap ?_ | refine qaj ?_ _)); exact BK185.out)) : gb210 ≠ gb185))
          have n9_ := qac.mk ((by rw [hg]; exact Nat.ne_of_lt (blk_lt (g := gb194) (o := .cells #[.int .i64 ((qah l0_0 a1).f0.f0), .int .i64 ((qah l0_0 a1).f0.f1), .int .i64 ((qah l0_0 a1).f1.f0), .int .i64 ((qah l0_0 a1).f1.f1), .int .i64 ((qah l0_0 a1).f2.f0), .int .i64 ((qah l0_0 a1).f2.f1), .int .i64 ((qah l0_0 a1).f3), .int .i64 ((qah l0_0 a1).f4), .int .i64 ((qah l0_0 a1).f5), .int .i64 ((qah l0_0 a1).f6), .int .i64 ((qah l0_0 a1).f7.f0), .int .i64 ((qah l0_0 a1).f7.f1)] 39 (0, 0)) (by (with_reducible repeat (first | refine qak ?_ _ | refine qap ?_ | refine qaj ?_ _)); exact BK194.out)) : gb194 ≠ gb210))
          have n10_ := qac.mk ((by rw [hg]; exact Nat.ne_of_gt (blk_lt (g := gb194) (o := .cells #[.int .i64 ((qah l0_0 a1).f0.f0), .int .i64 ((qah l0_0 a1).f0.f1), .int .i64 ((qah l0_0 a1).f1.f0), .int .i64 ((qah l0_0 a1).f1.f1), .int .i64 ((qah l0_0 a1).f2.f0), .int .i64 ((qah l0_0 a1).f2.f1), .int .i64 ((qah l0_0 a1).f3), .int .i64 ((qah l0_0 a1).f4), .int .i64 ((qah l0_0 a1).f5), .int .i64 ((qah l0_0 a1).f6), .int .i64 ((qah l0_0 a1).f7.f0), .int .i64 ((qah l0_0 a1).f7.f1)] 39 (0, 0)) (by (with_reducible repeat (first | refine qak ?_ _ | refine qap ?_ | refine qaj ?_ _)); exact BK194.out)) : gb210 ≠ gb194))
          have n11_ := qac.mk ((by rw [hg]; exact Nat.ne_of_lt (blk_lt (g := gb200) (o := .cells #[.int .i64 t195, .int .i64 t196, .int .i64 t197, .int .i64 t198] 31 (0, 0)) (by (with_reducible repeat (first | refine qak ?_ _ | refine qap ?_ | refine qaj ?_ _)); exact BK200.out)) : gb200 ≠ gb210))
          have n12_ := qac.mk ((by rw [hg]; exact Nat.ne_of_gt (blk_lt (g := gb200) (o := .cells #[.int .i64 t195, .int .i64 t196, .int .i64 t197, .int .i64 t198] 31 (0, 0)) (by (with_reducible repeat (first | refine qak ?_ _ | refine qap ?_ | refine qaj ?_ _)); exact BK200.out)) : gb210 ≠ gb200))
          clear BK185
          clear BK194
          clear BK200
          clear HB
          have BK185 := n0_
          have BK194 := n1_
          have BK200 := n2_
          have HB := n3_
          have BK210 := n4_
          have GW210 := n5_
          have GE210 := n6_
          have NB185_210 := n7_
          have NB210_185 := n8_
          have NB194_210 := n9_
          have NB210_194 := n10_
          have NB200_210 := n11_
          have NB210_200 := n12_
          clear n0_ n1_ n2_ n3_ n4_ n5_ n6_ n7_ n8_ n9_ n10_ n11_ n12_
          clear hb hbox hg
          refine hK.out _ _ ⟨(qaa BK185.out 0).trans rfl, (qaa BK185.out 1).trans rfl, (qaa BK185.out 2).trans rfl⟩ (fun hHeld => ?_)
          clear hK K
          refine norm_ (a' := ?_) ?_ ?_
          rotate_left
          ·
           show Act.put _ (some 14) _ = _
           simp only [Act.put, List.setIfInBounds_toArray, List.set_cons_zero, List.set_cons_succ, i64_w, i32_w]
           rfl
          refine one_ (i := 6) (N := some 101) #[true, true, true, true, true, true, true, false, false, false, true, false, false] rfl rfl (one_of HT_.out (by kernel_rfl)) (by decide) (fun K hK => ?_)
          refine goes_ Try.func18 (by kernel_rfl) rfl #[.agg #[.slice (some ad193) l0_0.length c0_0, .slice A0_1 l0_1.length c0_1, .slice A0_2 l0_2.length c0_2], .int .i64 a1, .int .i64 a2, .slice A3 y201.length c3] (by rfl) rfl rfl (by (try simp only [List.map_toArray, List.map_cons, List.map_nil]); first | done | rfl | (simp only [List.length_drop, List.length_take]; rfl)) ?_
          with_reducible refine (pipe_Play.calls _ _ l0_0 _ _ l0_1 _ _ l0_2 a1 a2 _ _ y201 t205 t206 t207 t208 t209 _ ?side1 ?side2 ?side3 ?side4 ?side5 ?side6 ?side7 ?side8 A83.out).mono ?_
          (case side1 => repeat (first | exact (Kd.qal HR0_0.out HB.out) | (with_reducible refine Kd.qan ?_ _) | (with_reducible refine Kd.qao ?_ _) | (with_reducible refine Kd.qaq ?_)))
          (case side2 => exact HC0_0.out)
          (case side3 => repeat (first | exact (Kd.qal HR0_1.out HB.out) | (with_reducible refine Kd.qan ?_ _) | (with_reducible refine Kd.qao ?_ _) | (with_reducible refine Kd.qaq ?_)))
          (case side4 => exact HC0_1.out)
          (case side5 => repeat (first | exact (Kd.qal HR0_2.out HB.out) | (with_reducible refine Kd.qan ?_ _) | (with_reducible refine Kd.qao ?_ _) | (with_reducible refine Kd.qaq ?_)))
          (case side6 => exact HC0_2.out)
          (case side7 => repeat (first | exact (Kd.qal HR204.out HB.out) | (with_reducible refine Kd.qan ?_ _) | (with_reducible refine Kd.qao ?_ _) | (with_reducible refine Kd.qaq ?_)))
          (case side8 => exact HC204.out)
          rintro e w98 ⟨rfl, hb⟩
          refine ⟨_, rfl, ?_⟩
          have n0_ := qac.mk (qam (g := gb185) (o := .cells #[.slice (some ad193) l0_0.length c0_0, .slice A0_1 l0_1.length c0_1, .slice A0_2 l0_2.length c0_2] 26 (0, 0)) (by (with_reducible repeat (first | refine qak ?_ _ | refine qap ?_ | refine qaj ?_ _)); exact BK185.out) hb)
          have n1_ := qac.mk (qam (g := gb194) (o := .cells #[.int .i64 ((qah l0_0 a1).f0.f0), .int .i64 ((qah l0_0 a1).f0.f1), .int .i64 ((qah l0_0 a1).f1.f0), .int .i64 ((qah l0_0 a1).f1.f1), .int .i64 ((qah l0_0 a1).f2.f0), .int .i64 ((qah l0_0 a1).f2.f1), .int .i64 ((qah l0_0 a1).f3), .int .i64 ((qah l0_0 a1).f4), .int .i64 ((qah l0_0 a1).f5), .int .i64 ((qah l0_0 a1).f6), .int .i64 ((qah l0_0 a1).f7.f0), .int .i64 ((qah l0_0 a1).f7.f1)] 39 (0, 0)) (by (with_reducible repeat (first | refine qak ?_ _ | refine qap ?_ | refine qaj ?_ _)); exact BK194.out) hb)
          have n2_ := qac.mk (qam (g := gb200) (o := .cells #[.int .i64 t195, .int .i64 t196, .int .i64 t197, .int .i64 t198] 31 (0, 0)) (by (with_reducible repeat (first | refine qak ?_ _ | refine qap ?_ | refine qaj ?_ _)); exact BK200.out) hb)
          have n3_ := qac.mk (qam (g := gb210) (o := .cells #[.int .i64 0, .int .i64 0, .int .i64 0, .int .i64 0] 31 (0, 0)) (by (with_reducible repeat (first | refine qak ?_ _ | refine qap ?_ | refine qaj ?_ _)); exact BK210.out) hb)
          have n4_ := qac.mk (qai (by repeat (first | (with_reducible first | exact HB.out | apply qae | apply qad | apply qaf | refine qag ?_ GE185.out | refine qag ?_ GE194.out | refine qag ?_ GE200.out | refine qag ?_ GE210.out) | exact HB.out)) hb)
          clear BK185
          clear BK194
          clear BK200
          clear BK210
          clear HB
          have BK185 := n0_
          have BK194 := n1_
          have BK200 := n2_
          have BK210 := n3_
          have HB := n4_
          clear n0_ n1_ n2_ n3_ n4_
          (try clear hb)
          (try clear hb2)
          (try clear hk)
          (try clear hi)
          refine hK.out _ _ ⟨(qaa BK185.out 0).trans rfl, (qaa BK185.out 1).trans rfl, (qaa BK185.out 2).trans rfl⟩ (fun hHeld => ?_)
          clear hK K
          refine norm_ (a' := ?_) ?_ ?_
          rotate_left
          ·
           show Act.put _ (some 101) _ = _
           simp only [Act.put, List.setIfInBounds_toArray, List.set_cons_zero, List.set_cons_succ, i64_w, i32_w]
           rfl
          refine pure_ (i := 7) (N := some 94) (v := ?_) (a' := ?_) #[true, true, true, true, true, true, true, true, false, false, true, false, false] rfl rfl (qav HT_.out (by kernel_rfl)) (fun _ _ _ h => h) (Or.inl ⟨by rfl, ?_⟩) ?_ ?_
          rotate_left
          ·
           intro w'
           go_simp
           with_reducible rfl
          rotate_left
          ·
           simp only [Act.put, List.setIfInBounds_toArray, List.set_cons_zero, List.set_cons_succ, i64_w, i32_w]
           rfl
          refine pure_ (i := 8) (N := some 102) (v := ?_) (a' := ?_) #[true, true, true, true, true, true, true, true, true, false, true, false, false] rfl rfl (qav HT_.out (by kernel_rfl)) (fun _ _ _ h => h) (Or.inl ⟨by rfl, ?_⟩) ?_ ?_
          rotate_left
          ·
           intro w'
           go_simp
           with_reducible rfl
          rotate_left
          ·
           simp only [Act.put, List.setIfInBounds_toArray, List.set_cons_zero, List.set_cons_succ, i64_w, i32_w]
           rfl
          refine pure_ (i := 9) (N := some 103) (v := ?_) (a' := ?_) (msk 13 11) rfl rfl (qav HT_.out (by kernel_rfl)) (fun _ _ _ h => h) (Or.inl ⟨by rfl, ?_⟩) ?_ ?_
          rotate_left
          ·
           intro w'
           go_simp
           with_reducible rfl
          rotate_left
          ·
           simp only [Act.put, List.setIfInBounds_toArray, List.set_cons_zero, List.set_cons_succ, i64_w, i32_w]
           rfl
          exact norm_ (by simp only [putAll, Act.put, List.setIfInBounds_toArray, List.set_cons_zero, List.set_cons_succ]) (hCont (gb210) _ ⟨hHeld, (by (with_reducible repeat (first | refine qak ?_ _ | refine qap ?_ | refine qaj ?_ _)); exact BK185.out), (by (with_reducible repeat (first | refine qak ?_ _ | refine qap ?_ | refine qaj ?_ _)); exact BK194.out), (by (with_reducible repeat (first | refine qak ?_ _ | refine qap ?_ | refine qaj ?_ _)); exact BK200.out), (by (with_reducible repeat (first | refine qak ?_ _ | refine qap ?_ | refine qaj ?_ _)); exact BK210.out), GW210.out, GE210.out, NB185_210.out, NB210_185.out, NB194_210.out, NB210_194.out, NB200_210.out, NB210_200.out, (by repeat (first | (with_reducible first | exact HB.out | apply qae | apply qad | apply qaf | refine qag ?_ GE185.out | refine qag ?_ GE194.out | refine qag ?_ GE200.out | refine qag ?_ GE210.out) | exact HB.out))⟩)
        rintro gb210 w99 ⟨hS_, h0_, h1_, h2_, h3_, h4_, h5_, h6_, h7_, h8_, h9_, h10_, h11_, h12_⟩
        have n0_ : qac (w99.heap[gb185]? = some (.cells #[.slice (some ad193) l0_0.length c0_0, .slice A0_1 l0_1.length c0_1, .slice A0_2 l0_2.length c0_2] 26 (0, 0))) := ⟨h0_⟩
        have n1_ : qac (w99.heap[gb194]? = some (.cells #[.int .i64 ((qah l0_0 a1).f0.f0), .int .i64 ((qah l0_0 a1).f0.f1), .int .i64 ((qah l0_0 a1).f1.f0), .int .i64 ((qah l0_0 a1).f1.f1), .int .i64 ((qah l0_0 a1).f2.f0), .int .i64 ((qah l0_0 a1).f2.f1), .int .i64 ((qah l0_0 a1).f3), .int .i64 ((qah l0_0 a1).f4), .int .i64 ((qah l0_0 a1).f5), .int .i64 ((qah l0_0 a1).f6), .int .i64 ((qah l0_0 a1).f7.f0), .int .i64 ((qah l0_0 a1).f7.f1)] 39 (0, 0))) := ⟨h1_⟩
        have n2_ : qac (w99.heap[gb200]? = some (.cells #[.int .i64 t195, .int .i64 t196, .int .i64 t197, .int .i64 t198] 31 (0, 0))) := ⟨h2_⟩
        have n3_ : qac (w99.heap[gb210]? = some (.cells #[.int .i64 0, .int .i64 0, .int .i64 0, .int .i64 0] 31 (0, 0))) := ⟨h3_⟩
        have n4_ : qac (w.heap.size ≤ gb210) := ⟨h4_⟩
        have n5_ : qac (w.heap.size ≤ gb210) := ⟨h5_⟩
        have n6_ : qac (gb185 ≠ gb210) := ⟨h6_⟩
        have n7_ : qac (gb210 ≠ gb185) := ⟨h7_⟩
        have n8_ : qac (gb194 ≠ gb210) := ⟨h8_⟩
        have n9_ : qac (gb210 ≠ gb194) := ⟨h9_⟩
        have n10_ : qac (gb200 ≠ gb210) := ⟨h10_⟩
        have n11_ : qac (gb210 ≠ gb200) := ⟨h11_⟩
        have n12_ : qac (Below w.heap.size w w99) := ⟨h12_⟩
        clear BK185
        clear BK194
        clear BK200
        clear HB
        clear h0_ h1_ h2_ h3_ h4_ h5_ h6_ h7_ h8_ h9_ h10_ h11_ h12_
        have BK185 := n0_
        have BK194 := n1_
        have BK200 := n2_
        have BK210 := n3_
        have GW210 := n4_
        have GE210 := n5_
        have NB185_210 := n6_
        have NB210_185 := n7_
        have NB194_210 := n8_
        have NB210_194 := n9_
        have NB200_210 := n10_
        have NB210_200 := n11_
        have HB := n12_
        clear n0_ n1_ n2_ n3_ n4_ n5_ n6_ n7_ n8_ n9_ n10_ n11_ n12_
        have hHeld : w99.cell? ⟨gb185, 0, none⟩ = some (.slice (some ad193) l0_0.length c0_0) ∧ w99.cell? ⟨gb185, 1, none⟩ = some (.slice A0_1 l0_1.length c0_1) ∧ w99.cell? ⟨gb185, 2, none⟩ = some (.slice A0_2 l0_2.length c0_2) := hS_
        refine norm_ (a' := ?_) ?_ ?_
        rotate_left
        ·
         simp only [putAll, Act.put, List.setIfInBounds_toArray, List.set_cons_zero, List.set_cons_succ]
         rfl
        refine one_ (i := 11) (N := none) (msk 13 12) rfl rfl (one_of HT_.out (by kernel_rfl)) (by decide) (fun K hK => ?_)
        have hs100 : w99.cell? ⟨gb210, 0, none⟩ = some (.int .i64 0) := (qaa BK210.out 0).trans rfl
        have hfs100 := qab BK210.out 0
        have hns100_0 := NB185_210.out
        have hns100_1 := NB194_210.out
        have hns100_2 := NB200_210.out
        have hms100_0 := NB210_185.out
        have hms100_1 := NB210_194.out
        have hms100_2 := NB210_200.out
        have hs101 : w99.cell? ⟨gb210, 1, none⟩ = some (.int .i64 0) := (qaa BK210.out 1).trans rfl
        have hfs101 := qab BK210.out 1
        have hns101_0 := NB185_210.out
        have hns101_1 := NB194_210.out
        have hns101_2 := NB200_210.out
        have hms101_0 := NB210_185.out
        have hms101_1 := NB210_194.out
        have hms101_2 := NB210_200.out
        have hs102 : w99.cell? ⟨gb210, 2, none⟩ = some (.int .i64 0) := (qaa BK210.out 2).trans rfl
        have hfs102 := qab BK210.out 2
        have hns102_0 := NB185_210.out
        have hns102_1 := NB194_210.out
        have hns102_2 := NB200_210.out
        have hms102_0 := NB210_185.out
        have hms102_1 := NB210_194.out
        have hms102_2 := NB210_200.out
        have hs103 : w99.cell? ⟨gb210, 3, none⟩ = some (.int .i64 0) := (qaa BK210.out 3).trans rfl
        have hfs103 := qab BK210.out 3
        have hns103_0 := NB185_210.out
        have hns103_1 := NB194_210.out
        have hns103_2 := NB200_210.out
        have hms103_0 := NB210_185.out
        have hms103_1 := NB210_194.out
        have hms103_2 := NB210_200.out
        refine skip_ (w1 := ?_) (by rfl) rfl ?_ ?_
        rotate_left
        ·
         go_simp
         rfl
        refine hK.out _ _ ⟨((cell_far (p := ⟨gb210, _, none⟩) NB185_210.out _).trans (((cell_far (p := ⟨gb210, _, none⟩) NB185_210.out _).trans (((cell_far (p := ⟨gb210, _, none⟩) NB185_210.out _).trans (((cell_far (p := ⟨gb210, _, none⟩) NB185_210.out _).trans (hHeld.1)))))))), ((cell_far (p := ⟨gb210, _, none⟩) NB185_210.out _).trans (((cell_far (p := ⟨gb210, _, none⟩) NB185_210.out _).trans (((cell_far (p := ⟨gb210, _, none⟩) NB185_210.out _).trans (((cell_far (p := ⟨gb210, _, none⟩) NB185_210.out _).trans (hHeld.2.1)))))))), ((cell_far (p := ⟨gb210, _, none⟩) NB185_210.out _).trans (((cell_far (p := ⟨gb210, _, none⟩) NB185_210.out _).trans (((cell_far (p := ⟨gb210, _, none⟩) NB185_210.out _).trans (((cell_far (p := ⟨gb210, _, none⟩) NB185_210.out _).trans (hHeld.2.2))))))))⟩ (fun hHeld => ?_)
        clear hK K
        refine pure_ (i := 12) (N := some 15) (v := ?_) (a' := ?_) (msk 13 13) rfl rfl (qav HT_.out (by kernel_rfl)) (fun _ _ _ h => h) (Or.inl ⟨by rfl, ?_⟩) ?_ ?_
        rotate_left
        ·
         intro w'
         go_simp
         with_reducible rfl
        rotate_left
        ·
         simp only [Act.put, List.setIfInBounds_toArray, List.set_cons_zero, List.set_cons_succ, i64_w, i32_w]
         rfl
        refine done_ (done_of HT_.out (by kernel_rfl)) ?_
        try go_wp2
        go_loopg [16, 17, 18] kj5 (fun kq v16 v17 v18 w' => ∃ (x16_2 : Int) (x17_2 : Int) (x18_2 : Int), v16 = .int .i64 x16_2 ∧ v17 = .int .i64 x17_2 ∧ v18 = .int .i64 x18_2 ∧ qac (taliklaw04_PipeBalance.l0 kq a2 l3 a4 t199 t209 x16_2 x17_2 x18_2 ((qah l0_0 a1).f0.f0) ((qah l0_0 a1).f0.f1) ((qah l0_0 a1).f1.f0) ((qah l0_0 a1).f1.f1) ((qah l0_0 a1).f2.f0) ((qah l0_0 a1).f2.f1) ((qah l0_0 a1).f3) ((qah l0_0 a1).f4) ((qah l0_0 a1).f5) ((qah l0_0 a1).f6) ((qah l0_0 a1).f7.f0) ((qah l0_0 a1).f7.f1) t195 t196 t197 t198 t205 t206 t207 t208 = some r) ∧ qac (kq ≤ kj5) ∧ qac (w'.heap[gb185]? = some (.cells #[(.slice (some ad193) l0_0.length c0_0), (.slice A0_1 l0_1.length c0_1), (.slice A0_2 l0_2.length c0_2)] 26 (0, 0))) ∧ qac (w'.heap[gb194]? = some (.cells #[.int .i64 ((qah l0_0 a1).f0.f0), .int .i64 ((qah l0_0 a1).f0.f1), .int .i64 ((qah l0_0 a1).f1.f0), .int .i64 ((qah l0_0 a1).f1.f1), .int .i64 ((qah l0_0 a1).f2.f0), .int .i64 ((qah l0_0 a1).f2.f1), .int .i64 ((qah l0_0 a1).f3), .int .i64 ((qah l0_0 a1).f4), .int .i64 ((qah l0_0 a1).f5), .int .i64 ((qah l0_0 a1).f6), .int .i64 ((qah l0_0 a1).f7.f0), .int .i64 ((qah l0_0 a1).f7.f1)] 39 (0, 0))) ∧ qac (w'.heap[gb200]? = some (.cells #[.int .i64 t195, .int .i64 t196, .int .i64 t197, .int .i64 t198] 31 (0, 0))) ∧ qac (w'.heap[gb210]? = some (.cells #[.int .i64 t205, .int .i64 t206, .int .i64 t207, .int .i64 t208] 31 (0, 0))) ∧ qac (Below w.heap.size w w'))
        case atStart => exact ⟨(0), (0), (0), (by first | rfl | (simp; done) | (simp [*]; done)), (by first | rfl | (simp; done) | (simp [*]; done)), (by first | rfl | (simp; done) | (simp [*]; done)), H', ⟨Nat.le_refl _⟩, ⟨by (with_reducible repeat (first | refine qak ?_ _ | refine qap ?_ | refine qaj ?_ _)); refine qbc ?_ NB185_210.out _; (with_reducible repeat (first | refine qak ?_ _ | refine qap ?_ | refine qaj ?_ _)); refine qbc ?_ NB185_210.out _; (with_reducible repeat (first | refine qak ?_ _ | refine qap ?_ | refine qaj ?_ _)); refine qbc ?_ NB185_210.out _; (with_reducible repeat (first | refine qak ?_ _ | refine qap ?_ | refine qaj ?_ _)); refine qbc ?_ NB185_210.out _; (with_reducible repeat (first | refine qak ?_ _ | refine qap ?_ | refine qaj ?_ _)); exact BK185.out⟩, ⟨by (with_reducible repeat (first | refine qak ?_ _ | refine qap ?_ | refine qaj ?_ _)); refine qbc ?_ NB194_210.out _; (with_reducible repeat (first | refine qak ?_ _ | refine qap ?_ | refine qaj ?_ _)); refine qbc ?_ NB194_210.out _; (with_reducible repeat (first | refine qak ?_ _ | refine qap ?_ | refine qaj ?_ _)); refine qbc ?_ NB194_210.out _; (with_reducible repeat (first | refine qak ?_ _ | refine qap ?_ | refine qaj ?_ _)); refine qbc ?_ NB194_210.out _; (with_reducible repeat (first | refine qak ?_ _ | refine qap ?_ | refine qaj ?_ _)); exact BK194.out⟩, ⟨by (with_reducible repeat (first | refine qak ?_ _ | refine qap ?_ | refine qaj ?_ _)); refine qbc ?_ NB200_210.out _; (with_reducible repeat (first | refine qak ?_ _ | refine qap ?_ | refine qaj ?_ _)); refine qbc ?_ NB200_210.out _; (with_reducible repeat (first | refine qak ?_ _ | refine qap ?_ | refine qaj ?_ _)); refine qbc ?_ NB200_210.out _; (with_reducible repeat (first | refine qak ?_ _ | refine qap ?_ | refine qaj ?_ _)); refine qbc ?_ NB200_210.out _; (with_reducible repeat (first | refine qak ?_ _ | refine qap ?_ | refine qaj ?_ _)); exact BK200.out⟩, ⟨by (with_reducible repeat (first | refine qak ?_ _ | refine qap ?_ | refine qaj ?_ _)); refine blk_put (cs := #[.int .i64 t205, .int .i64 t206, .int .i64 t207, .int .i64 0]) ?_ 3 _ rfl; (with_reducible repeat (first | refine qak ?_ _ | refine qap ?_ | refine qaj ?_ _)); refine blk_put (cs := #[.int .i64 t205, .int .i64 t206, .int .i64 0, .int .i64 0]) ?_ 2 _ rfl; (with_reducible repeat (first | refine qak ?_ _ | refine qap ?_ | refine qaj ?_ _)); refine blk_put (cs := #[.int .i64 t205, .int .i64 0, .int .i64 0, .int .i64 0]) ?_ 1 _ rfl; (with_reducible repeat (first | refine qak ?_ _ | refine qap ?_ | refine qaj ?_ _)); refine blk_put (cs := #[.int .i64 0, .int .i64 0, .int .i64 0, .int .i64 0]) ?_ 0 _ rfl; (with_reducible repeat (first | refine qak ?_ _ | refine qap ?_ | refine qaj ?_ _)); exact BK210.out⟩, ⟨by repeat (first | (with_reducible first | exact HB.out | apply qae | apply qad | apply qaf | refine qag ?_ GE185.out | refine qag ?_ GE194.out | refine qag ?_ GE200.out | refine qag ?_ GE210.out) | exact HB.out)⟩⟩
        case round =>
         clear H'
         try clear c1
         try clear p1
         try clear q1
         try clear hx1
         try clear p2
         try clear c3
         try clear c7
         try clear c8
         try clear c9
         try clear q9
         try clear c17
         try clear c18
         try clear p18
         try clear q18
         try clear hx18
         try clear p19
         try clear q19
         try clear hx19
         try clear c75
         try clear c78
         try clear c78b0
         try clear c79
         try clear c79b0
         try clear c81
         try clear c81b0
         try clear c81b1
         try clear c82
         try clear c82b0
         try clear c82b1
         try clear c86
         try clear c91
         try clear c92
         try clear q96
         try clear hcz73_0
         try clear hcz73_1
         try clear hcz73_2
         try clear hcz84_0
         try clear hcz84_1
         try clear hcz84_2
         try clear hcz87_0
         try clear hcz87_1
         try clear hcz87_10
         try clear hcz87_11
         try clear hcz87_2
         try clear hcz87_3
         try clear hcz87_4
         try clear hcz87_5
         try clear hcz87_6
         try clear hcz87_7
         try clear hcz87_8
         try clear hcz87_9
         try clear hcz88_0
         try clear hcz88_1
         try clear hcz88_2
         try clear hcz93_0
         try clear hcz93_1
         try clear hcz93_2
         try clear hcz93_3
         try clear hfz11_0
         try clear hfz11_1
         try clear hfz11_2
         try clear hfz13_0
         try clear hfz13_1
         try clear hfz13_2
         try clear hfz21_0
         try clear hfz21_1
         try clear hfz21_2
         try clear hfz23_0
         try clear hfz23_1
         try clear hfz23_2
         try clear hfz25_0
         try clear hfz25_1
         try clear hfz25_2
         try clear hfz27_0
         try clear hfz27_1
         try clear hfz27_2
         try clear hfz29_0
         try clear hfz29_1
         try clear hfz29_2
         try clear hfz31_0
         try clear hfz31_1
         try clear hfz31_2
         try clear hfz33_0
         try clear hfz33_1
         try clear hfz33_2
         try clear hfz35_0
         try clear hfz35_1
         try clear hfz35_2
         try clear hfz39_0
         try clear hfz39_1
         try clear hfz39_2
         try clear hfz41_0
         try clear hfz41_1
         try clear hfz41_2
         try clear hfz43_0
         try clear hfz43_1
         try clear hfz43_2
         try clear hfz45_0
         try clear hfz45_1
         try clear hfz45_2
         try clear hfz47_0
         try clear hfz47_1
         try clear hfz47_2
         try clear hfz49_0
         try clear hfz49_1
         try clear hfz49_2
         try clear hfz51_0
         try clear hfz51_1
         try clear hfz51_2
         try clear hfz53_0
         try clear hfz53_1
         try clear hfz53_2
         try clear hfz55_0
         try clear hfz55_1
         try clear hfz55_2
         try clear hfz57_0
         try clear hfz57_1
         try clear hfz57_2
         try clear hfz59_0
         try clear hfz59_1
         try clear hfz59_2
         try clear hfz61_0
         try clear hfz61_1
         try clear hfz61_2
         try clear hfz63_0
         try clear hfz63_1
         try clear hfz63_2
         try clear hfz65_0
         try clear hfz65_1
         try clear hfz65_2
         try clear hfz67_0
         try clear hfz67_1
         try clear hfz67_2
         try clear hfz69_0
         try clear hfz69_1
         try clear hfz69_2
         try clear hfz71_0
         try clear hfz71_1
         try clear hfz71_2
         try clear hfz73_0
         try clear hfz73_1
         try clear hfz73_2
         try clear hfz84_0
         try clear hfz84_1
         try clear hfz84_2
         try clear hfz87_0
         try clear hfz87_1
         try clear hfz87_10
         try clear hfz87_11
         try clear hfz87_2
         try clear hfz87_3
         try clear hfz87_4
         try clear hfz87_5
         try clear hfz87_6
         try clear hfz87_7
         try clear hfz87_8
         try clear hfz87_9
         try clear hfz88_0
         try clear hfz88_1
         try clear hfz88_2
         try clear hfz93_0
         try clear hfz93_1
         try clear hfz93_2
         try clear hfz93_3
         try clear hx189_0
         try clear hx189_1
         try clear hx189_10
         try clear hx189_11
         try clear hx189_2
         try clear hx189_3
         try clear hx189_4
         try clear hx189_5
         try clear hx189_6
         try clear hx189_7
         try clear hx189_8
         try clear hx189_9
         try clear hx190_0
         try clear hx190_1
         try clear hx190_10
         try clear hx190_11
         try clear hx190_2
         try clear hx190_3
         try clear hx190_4
         try clear hx190_5
         try clear hx190_6
         try clear hx190_7
         try clear hx190_8
         try clear hx190_9
         try clear hx193_0
         try clear hx193_1
         try clear hx193_10
         try clear hx193_11
         try clear hx193_2
         try clear hx193_3
         try clear hx193_4
         try clear hx193_5
         try clear hx193_6
         try clear hx193_7
         try clear hx193_8
         try clear hx193_9
         try clear p189
         try clear p190
         try clear p193
         try clear q189
         try clear q190
         try clear q193
         try clear q96
         obtain ⟨x16_2, x17_2, x18_2, rfl, rfl, rfl, HA, HK2, BK185, BK194, BK200, BK210, HB⟩ := hrel
         cases gk with
         | zero => exact absurd HA.out (by simp [taliklaw04_PipeBalance.l0])
         | succ k2 =>
          have H := HA.out
          clear HA
          simp only [taliklaw04_PipeBalance.l0] at H
          by_cases c104 : x18_2 < (l3.length : Int)
          ·
           rw [if_pos c104] at H
           have c104b0 : decide (x18_2 < (l3.length : Int)) = true := decide_eq_true c104
           clear c104
           by_cases c105 : 0 ≤ x18_2
           ·
            rw [if_pos c105] at H
            have c105b0 : decide (0 ≤ x18_2) = true := decide_eq_true c105
            clear c105
            obtain ⟨bq106, hbq106⟩ : ∃ b_ : Bool, b_ = ((rd_T44 l3 x18_2).f2) := ⟨_, rfl⟩
            replace H : (if bq106 = true then (if x18_2 < a4 then (taliklaw04_PipeBalance.l0 k2 a2 l3 a4 t199 t209 (wrap64 (x16_2 + 1)) (wrap64 (x17_2 + 1)) (wrap64 (x18_2 + 1)) ((qah l0_0 a1).f0.f0) ((qah l0_0 a1).f0.f1) ((qah l0_0 a1).f1.f0) ((qah l0_0 a1).f1.f1) ((qah l0_0 a1).f2.f0) ((qah l0_0 a1).f2.f1) ((qah l0_0 a1).f3) ((qah l0_0 a1).f4) ((qah l0_0 a1).f5) ((qah l0_0 a1).f6) ((qah l0_0 a1).f7.f0) ((qah l0_0 a1).f7.f1) t195 t196 t197 t198 t205 t206 t207 t208) else (taliklaw04_PipeBalance.l0 k2 a2 l3 a4 t199 t209 (wrap64 (x16_2 + 1)) x17_2 (wrap64 (x18_2 + 1)) ((qah l0_0 a1).f0.f0) ((qah l0_0 a1).f0.f1) ((qah l0_0 a1).f1.f0) ((qah l0_0 a1).f1.f1) ((qah l0_0 a1).f2.f0) ((qah l0_0 a1).f2.f1) ((qah l0_0 a1).f3) ((qah l0_0 a1).f4) ((qah l0_0 a1).f5) ((qah l0_0 a1).f6) ((qah l0_0 a1).f7.f0) ((qah l0_0 a1).f7.f1) t195 t196 t197 t198 t205 t206 t207 t208)) else (taliklaw04_PipeBalance.l0 k2 a2 l3 a4 t199 t209 x16_2 x17_2 (wrap64 (x18_2 + 1)) ((qah l0_0 a1).f0.f0) ((qah l0_0 a1).f0.f1) ((qah l0_0 a1).f1.f0) ((qah l0_0 a1).f1.f1) ((qah l0_0 a1).f2.f0) ((qah l0_0 a1).f2.f1) ((qah l0_0 a1).f3) ((qah l0_0 a1).f4) ((qah l0_0 a1).f5) ((qah l0_0 a1).f6) ((qah l0_0 a1).f7.f0) ((qah l0_0 a1).f7.f1) t195 t196 t197 t198 t205 t206 t207 t208)) = some r := by rw [← hbq106] at H; exact H
            have Nbq106 := qac.mk hbq106
            clear hbq106
            by_cases c107 : bq106 = true
            ·
             subst c107
             have H1 : (if x18_2 < a4 then (taliklaw04_PipeBalance.l0 k2 a2 l3 a4 t199 t209 (wrap64 (x16_2 + 1)) (wrap64 (x17_2 + 1)) (wrap64 (x18_2 + 1)) ((qah l0_0 a1).f0.f0) ((qah l0_0 a1).f0.f1) ((qah l0_0 a1).f1.f0) ((qah l0_0 a1).f1.f1) ((qah l0_0 a1).f2.f0) ((qah l0_0 a1).f2.f1) ((qah l0_0 a1).f3) ((qah l0_0 a1).f4) ((qah l0_0 a1).f5) ((qah l0_0 a1).f6) ((qah l0_0 a1).f7.f0) ((qah l0_0 a1).f7.f1) t195 t196 t197 t198 t205 t206 t207 t208) else (taliklaw04_PipeBalance.l0 k2 a2 l3 a4 t199 t209 (wrap64 (x16_2 + 1)) x17_2 (wrap64 (x18_2 + 1)) ((qah l0_0 a1).f0.f0) ((qah l0_0 a1).f0.f1) ((qah l0_0 a1).f1.f0) ((qah l0_0 a1).f1.f1) ((qah l0_0 a1).f2.f0) ((qah l0_0 a1).f2.f1) ((qah l0_0 a1).f3) ((qah l0_0 a1).f4) ((qah l0_0 a1).f5) ((qah l0_0 a1).f6) ((qah l0_0 a1).f7.f0) ((qah l0_0 a1).f7.f1) t195 t196 t197 t198 t205 t206 t207 t208)) = some r := by rw [if_pos rfl] at H; exact H
             clear H
             have H := H1
             clear H1
             by_cases c108 : x18_2 < a4
             ·
              rw [if_pos c108] at H
              have c108b0 : decide (x18_2 < a4) = true := decide_eq_true c108
              clear c108
              have H' := qac.mk H
              clear H
              have p211 : 0 ≤ (x18_2 : Int) := of_decide_eq_true (by first | (with_reducible assumption) | assumption)
              have q211 : x18_2 < (l3.length : Int) := of_decide_eq_true (by first | (with_reducible assumption) | assumption)
              obtain ⟨ad211, e211, hx211_0, hx211_1, hx211_2⟩ := at_T44 HR3.out x18_2 p211 q211
              (try rw [← Nbq106.out] at hx211_2)
              cases e211
              replace hx211_0 := (HB.out.cell (World.block_lt_of_cell? w _ hx211_0)).trans hx211_0
              replace hx211_1 := (HB.out.cell (World.block_lt_of_cell? w _ hx211_1)).trans hx211_1
              replace hx211_2 := (HB.out.cell (World.block_lt_of_cell? w _ hx211_2)).trans hx211_2
              replace p211 := eq_true p211
              replace q211 := eq_true q211
              go_wp2
              go_roundg k2
              case measure => have := HJ5.out; have := HK2.out; omega
              case rel => exact ⟨(wrap64 (x16_2 + 1)), (wrap64 (x17_2 + 1)), (wrap64 (x18_2 + 1)), (by first | rfl | (simp; done) | (simp [*]; done)), (by first | rfl | (simp; done) | (simp [*]; done)), (by first | rfl | (simp; done) | (simp [*]; done)), H', ⟨by have := HJ5.out; have := HK2.out; omega⟩, ⟨by (with_reducible repeat (first | refine qak ?_ _ | refine qap ?_ | refine qaj ?_ _)); exact BK185.out⟩, ⟨by (with_reducible repeat (first | refine qak ?_ _ | refine qap ?_ | refine qaj ?_ _)); exact BK194.out⟩, ⟨by (with_reducible repeat (first | refine qak ?_ _ | refine qap ?_ | refine qaj ?_ _)); exact BK200.out⟩, ⟨by (with_reducible repeat (first | refine qak ?_ _ | refine qap ?_ | refine qaj ?_ _)); exact BK210.out⟩, ⟨by repeat (first | (with_reducible first | exact HB.out | apply qae | apply qad | apply qaf | refine qag ?_ GE185.out | refine qag ?_ GE194.out | refine qag ?_ GE200.out | refine qag ?_ GE210.out) | exact HB.out)⟩⟩
             ·
              rw [if_neg c108] at H
              have c108b0 : decide (x18_2 < a4) = false := decide_eq_false c108
              clear c108
              have H' := qac.mk H
              clear H
              have p211 : 0 ≤ (x18_2 : Int) := of_decide_eq_true (by first | (with_reducible assumption) | assumption)
              have q211 : x18_2 < (l3.length : Int) := of_decide_eq_true (by first | (with_reducible assumption) | assumption)
              obtain ⟨ad211, e211, hx211_0, hx211_1, hx211_2⟩ := at_T44 HR3.out x18_2 p211 q211
              (try rw [← Nbq106.out] at hx211_2)
              cases e211
              replace hx211_0 := (HB.out.cell (World.block_lt_of_cell? w _ hx211_0)).trans hx211_0
              replace hx211_1 := (HB.out.cell (World.block_lt_of_cell? w _ hx211_1)).trans hx211_1
              replace hx211_2 := (HB.out.cell (World.block_lt_of_cell? w _ hx211_2)).trans hx211_2
              replace p211 := eq_true p211
              replace q211 := eq_true q211
              go_wp2
              go_roundg k2
              case measure => have := HJ5.out; have := HK2.out; omega
              case rel => exact ⟨(wrap64 (x16_2 + 1)), (x17_2), (wrap64 (x18_2 + 1)), (by first | rfl | (simp; done) | (simp [*]; done)), (by first | rfl | (simp; done) | (simp [*]; done)), (by first | rfl | (simp; done) | (simp [*]; done)), H', ⟨by have := HJ5.out; have := HK2.out; omega⟩, ⟨by (with_reducible repeat (first | refine qak ?_ _ | refine qap ?_ | refine qaj ?_ _)); exact BK185.out⟩, ⟨by (with_reducible repeat (first | refine qak ?_ _ | refine qap ?_ | refine qaj ?_ _)); exact BK194.out⟩, ⟨by (with_reducible repeat (first | refine qak ?_ _ | refine qap ?_ | refine qaj ?_ _)); exact BK200.out⟩, ⟨by (with_reducible repeat (first | refine qak ?_ _ | refine qap ?_ | refine qaj ?_ _)); exact BK210.out⟩, ⟨by repeat (first | (with_reducible first | exact HB.out | apply qae | apply qad | apply qaf | refine qag ?_ GE185.out | refine qag ?_ GE194.out | refine qag ?_ GE200.out | refine qag ?_ GE210.out) | exact HB.out)⟩⟩
            ·
             replace c107 := Bool.eq_false_iff.mpr c107
             subst c107
             have H1 : (taliklaw04_PipeBalance.l0 k2 a2 l3 a4 t199 t209 x16_2 x17_2 (wrap64 (x18_2 + 1)) ((qah l0_0 a1).f0.f0) ((qah l0_0 a1).f0.f1) ((qah l0_0 a1).f1.f0) ((qah l0_0 a1).f1.f1) ((qah l0_0 a1).f2.f0) ((qah l0_0 a1).f2.f1) ((qah l0_0 a1).f3) ((qah l0_0 a1).f4) ((qah l0_0 a1).f5) ((qah l0_0 a1).f6) ((qah l0_0 a1).f7.f0) ((qah l0_0 a1).f7.f1) t195 t196 t197 t198 t205 t206 t207 t208) = some r := by rw [if_neg (show ¬ (false = true) by decide)] at H; exact H
             clear H
             have H := H1
             clear H1
             have H' := qac.mk H
             clear H
             have p211 : 0 ≤ (x18_2 : Int) := of_decide_eq_true (by first | (with_reducible assumption) | assumption)
             have q211 : x18_2 < (l3.length : Int) := of_decide_eq_true (by first | (with_reducible assumption) | assumption)
             obtain ⟨ad211, e211, hx211_0, hx211_1, hx211_2⟩ := at_T44 HR3.out x18_2 p211 q211
             (try rw [← Nbq106.out] at hx211_2)
             cases e211
             replace hx211_0 := (HB.out.cell (World.block_lt_of_cell? w _ hx211_0)).trans hx211_0
             replace hx211_1 := (HB.out.cell (World.block_lt_of_cell? w _ hx211_1)).trans hx211_1
             replace hx211_2 := (HB.out.cell (World.block_lt_of_cell? w _ hx211_2)).trans hx211_2
             replace p211 := eq_true p211
             replace q211 := eq_true q211
             go_wp2
             go_roundg k2
             case measure => have := HJ5.out; have := HK2.out; omega
             case rel => exact ⟨(x16_2), (x17_2), (wrap64 (x18_2 + 1)), (by first | rfl | (simp; done) | (simp [*]; done)), (by first | rfl | (simp; done) | (simp [*]; done)), (by first | rfl | (simp; done) | (simp [*]; done)), H', ⟨by have := HJ5.out; have := HK2.out; omega⟩, ⟨by (with_reducible repeat (first | refine qak ?_ _ | refine qap ?_ | refine qaj ?_ _)); exact BK185.out⟩, ⟨by (with_reducible repeat (first | refine qak ?_ _ | refine qap ?_ | refine qaj ?_ _)); exact BK194.out⟩, ⟨by (with_reducible repeat (first | refine qak ?_ _ | refine qap ?_ | refine qaj ?_ _)); exact BK200.out⟩, ⟨by (with_reducible repeat (first | refine qak ?_ _ | refine qap ?_ | refine qaj ?_ _)); exact BK210.out⟩, ⟨by repeat (first | (with_reducible first | exact HB.out | apply qae | apply qad | apply qaf | refine qag ?_ GE185.out | refine qag ?_ GE194.out | refine qag ?_ GE200.out | refine qag ?_ GE210.out) | exact HB.out)⟩⟩
           ·
            rw [if_neg c105] at H
            exact absurd H (by simp)
          ·
           rw [if_neg c104] at H
           have c104b0 : decide (x18_2 < (l3.length : Int)) = false := decide_eq_false c104
           clear c104
           by_cases c109 : t199 = 0
           ·
            rw [if_pos c109] at H
            have c109b0 : (t199 == 0) = true := beq_iff_eq.mpr c109
            have c109b1 : (t199 != 0) = false := bne_eq_false_iff_eq.mpr c109
            clear c109
            by_cases c110 : t209 = 0
            ·
             rw [if_pos c110] at H
             have c110b0 : (t209 == 0) = true := beq_iff_eq.mpr c110
             have c110b1 : (t209 != 0) = false := bne_eq_false_iff_eq.mpr c110
             clear c110
             replace H := Option.bind_eq_some_iff.mp H
             obtain ⟨t212, A1110, H⟩ := H
             replace H : (if t212 = true then ((taliklaw04_sane.f ((qah l0_0 a1).f0.f0) ((qah l0_0 a1).f0.f1) ((qah l0_0 a1).f1.f0) ((qah l0_0 a1).f1.f1) ((qah l0_0 a1).f2.f0) ((qah l0_0 a1).f2.f1) ((qah l0_0 a1).f3) ((qah l0_0 a1).f4) ((qah l0_0 a1).f5) ((qah l0_0 a1).f6) ((qah l0_0 a1).f7.f0) ((qah l0_0 a1).f7.f1) t205 t206 t207 t208 x17_2 a2).bind fun t213 => (if t213 = true then (if t197 ≥ t207 then (if t198 ≥ t208 then ((taliklaw04_known.f).bind fun t214 => (some t214)) else (some false)) else (some false)) else (some false))) else (some false)) = some r := H
             have A111 := qac.mk A1110
             clear A1110
             by_cases c112 : t212 = true
             ·
              subst c112
              have H1 : ((taliklaw04_sane.f ((qah l0_0 a1).f0.f0) ((qah l0_0 a1).f0.f1) ((qah l0_0 a1).f1.f0) ((qah l0_0 a1).f1.f1) ((qah l0_0 a1).f2.f0) ((qah l0_0 a1).f2.f1) ((qah l0_0 a1).f3) ((qah l0_0 a1).f4) ((qah l0_0 a1).f5) ((qah l0_0 a1).f6) ((qah l0_0 a1).f7.f0) ((qah l0_0 a1).f7.f1) t205 t206 t207 t208 x17_2 a2).bind fun t213 => (if t213 = true then (if t197 ≥ t207 then (if t198 ≥ t208 then ((taliklaw04_known.f).bind fun t214 => (some t214)) else (some false)) else (some false)) else (some false))) = some r := by rw [if_pos rfl] at H; exact H
              clear H
              have H := H1
              clear H1
              replace H := Option.bind_eq_some_iff.mp H
              obtain ⟨t213, A1130, H⟩ := H
              replace H : (if t213 = true then (if t197 ≥ t207 then (if t198 ≥ t208 then ((taliklaw04_known.f).bind fun t214 => (some t214)) else (some false)) else (some false)) else (some false)) = some r := H
              have A113 := qac.mk A1130
              clear A1130
              by_cases c114 : t213 = true
              ·
               subst c114
               have H1 : (if t197 ≥ t207 then (if t198 ≥ t208 then ((taliklaw04_known.f).bind fun t214 => (some t214)) else (some false)) else (some false)) = some r := by rw [if_pos rfl] at H; exact H
               clear H
               have H := H1
               clear H1
               by_cases c115 : t197 ≥ t207
               ·
                rw [if_pos c115] at H
                have c115b0 : decide (t207 ≤ t197) = true := decide_eq_true c115
                clear c115
                by_cases c116 : t198 ≥ t208
                ·
                 rw [if_pos c116] at H
                 have c116b0 : decide (t208 ≤ t198) = true := decide_eq_true c116
                 clear c116
                 replace H := Option.bind_eq_some_iff.mp H
                 obtain ⟨t214, A1170, H⟩ := H
                 replace H : (some t214) = some r := H
                 have A117 := qac.mk A1170
                 clear A1170
                 obtain rfl := Option.some.inj H
                 have hnb118 := NB194_185.out
                 have hnc118 := NB185_194.out
                 have hnb119 := NB194_200.out
                 have hnc119 := NB200_194.out
                 have hnb120 := NB194_210.out
                 have hnc120 := NB210_194.out
                 have hcz121_0 : wr.cell? ⟨gb194, 0, none⟩ = some (.int .i64 ((qah l0_0 a1).f0.f0)) := (qaa BK194.out 0).trans rfl
                 have hcz121_1 : wr.cell? ⟨gb194, 1, none⟩ = some (.int .i64 ((qah l0_0 a1).f0.f1)) := (qaa BK194.out 1).trans rfl
                 have hcz121_2 : wr.cell? ⟨gb194, 2, none⟩ = some (.int .i64 ((qah l0_0 a1).f1.f0)) := (qaa BK194.out 2).trans rfl
                 have hcz121_3 : wr.cell? ⟨gb194, 3, none⟩ = some (.int .i64 ((qah l0_0 a1).f1.f1)) := (qaa BK194.out 3).trans rfl
                 have hcz121_4 : wr.cell? ⟨gb194, 4, none⟩ = some (.int .i64 ((qah l0_0 a1).f2.f0)) := (qaa BK194.out 4).trans rfl
                 have hcz121_5 : wr.cell? ⟨gb194, 5, none⟩ = some (.int .i64 ((qah l0_0 a1).f2.f1)) := (qaa BK194.out 5).trans rfl
                 have hcz121_6 : wr.cell? ⟨gb194, 6, none⟩ = some (.int .i64 ((qah l0_0 a1).f3)) := (qaa BK194.out 6).trans rfl
                 have hcz121_7 : wr.cell? ⟨gb194, 7, none⟩ = some (.int .i64 ((qah l0_0 a1).f4)) := (qaa BK194.out 7).trans rfl
                 have hcz121_8 : wr.cell? ⟨gb194, 8, none⟩ = some (.int .i64 ((qah l0_0 a1).f5)) := (qaa BK194.out 8).trans rfl
                 have hcz121_9 : wr.cell? ⟨gb194, 9, none⟩ = some (.int .i64 ((qah l0_0 a1).f6)) := (qaa BK194.out 9).trans rfl
                 have hcz121_10 : wr.cell? ⟨gb194, 10, none⟩ = some (.int .i64 ((qah l0_0 a1).f7.f0)) := (qaa BK194.out 10).trans rfl
                 have hcz121_11 : wr.cell? ⟨gb194, 11, none⟩ = some (.int .i64 ((qah l0_0 a1).f7.f1)) := (qaa BK194.out 11).trans rfl
                 have hfz121_0 := qab BK194.out 0
                 have hfz121_1 := qab BK194.out 1
                 have hfz121_2 := qab BK194.out 2
                 have hfz121_3 := qab BK194.out 3
                 have hfz121_4 := qab BK194.out 4
                 have hfz121_5 := qab BK194.out 5
                 have hfz121_6 := qab BK194.out 6
                 have hfz121_7 := qab BK194.out 7
                 have hfz121_8 := qab BK194.out 8
                 have hfz121_9 := qab BK194.out 9
                 have hfz121_10 := qab BK194.out 10
                 have hfz121_11 := qab BK194.out 11
                 have hnb122 := NB200_185.out
                 have hnc122 := NB185_200.out
                 have hnb123 := NB200_210.out
                 have hnc123 := NB210_200.out
                 have hcz124_0 : wr.cell? ⟨gb200, 0, none⟩ = some (.int .i64 t195) := (qaa BK200.out 0).trans rfl
                 have hcz124_1 : wr.cell? ⟨gb200, 1, none⟩ = some (.int .i64 t196) := (qaa BK200.out 1).trans rfl
                 have hcz124_2 : wr.cell? ⟨gb200, 2, none⟩ = some (.int .i64 t197) := (qaa BK200.out 2).trans rfl
                 have hcz124_3 : wr.cell? ⟨gb200, 3, none⟩ = some (.int .i64 t198) := (qaa BK200.out 3).trans rfl
                 have hfz124_0 := qab BK200.out 0
                 have hfz124_1 := qab BK200.out 1
                 have hfz124_2 := qab BK200.out 2
                 have hfz124_3 := qab BK200.out 3
                 go_wp2_with (first | (go_at_call 23; (with_reducible refine (taliklaw04_sane.calls ((qah l0_0 a1).f0.f0) ((qah l0_0 a1).f0.f1) ((qah l0_0 a1).f1.f0) ((qah l0_0 a1).f1.f1) ((qah l0_0 a1).f2.f0) ((qah l0_0 a1).f2.f1) ((qah l0_0 a1).f3) ((qah l0_0 a1).f4) ((qah l0_0 a1).f5) ((qah l0_0 a1).f6) ((qah l0_0 a1).f7.f0) ((qah l0_0 a1).f7.f1) t195 t196 t197 t198 x16_2 a2 true _ A111.out).mono ?_); rintro e w125 ⟨rfl, hb⟩; have n0_ := qac.mk (qam (g := gb185) (o := .cells #[.slice (some ad193) l0_0.length c0_0, .slice A0_1 l0_1.length c0_1, .slice A0_2 l0_2.length c0_2] 26 (0, 0)) (by (with_reducible repeat (first | refine qak ?_ _ | refine qap ?_ | refine qaj ?_ _)); exact BK185.out) hb); have n1_ := qac.mk (qam (g := gb194) (o := .cells #[.int .i64 ((qah l0_0 a1).f0.f0), .int .i64 ((qah l0_0 a1).f0.f1), .int .i64 ((qah l0_0 a1).f1.f0), .int .i64 ((qah l0_0 a1).f1.f1), .int .i64 ((qah l0_0 a1).f2.f0), .int .i64 ((qah l0_0 a1).f2.f1), .int .i64 ((qah l0_0 a1).f3), .int .i64 ((qah l0_0 a1).f4), .int .i64 ((qah l0_0 a1).f5), .int .i64 ((qah l0_0 a1).f6), .int .i64 ((qah l0_0 a1).f7.f0), .int .i64 ((qah l0_0 a1).f7.f1)] 39 (0, 0)) (by (with_reducible repeat (first | refine qak ?_ _ | refine qap ?_ | refine qaj ?_ _)); exact BK194.out) hb); have n2_ := qac.mk (qam (g := gb200) (o := .cells #[.int .i64 t195, .int .i64 t196, .int .i64 t197, .int .i64 t198] 31 (0, 0)) (by (with_reducible repeat (first | refine qak ?_ _ | refine qap ?_ | refine qaj ?_ _)); exact BK200.out) hb); have n3_ := qac.mk (qam (g := gb210) (o := .cells #[.int .i64 t205, .int .i64 t206, .int .i64 t207, .int .i64 t208] 31 (0, 0)) (by (with_reducible repeat (first | refine qak ?_ _ | refine qap ?_ | refine qaj ?_ _)); exact BK210.out) hb); have n4_ := qac.mk (qai (by repeat (first | (with_reducible first | exact HB.out | apply qae | apply qad | apply qaf | refine qag ?_ GE185.out | refine qag ?_ GE194.out | refine qag ?_ GE200.out | refine qag ?_ GE210.out) | exact HB.out)) hb); clear BK185; clear BK194; clear BK200; clear BK210; clear HB; have BK185 := n0_; have BK194 := n1_; have BK200 := n2_; have BK210 := n3_; have HB := n4_; clear n0_ n1_ n2_ n3_ n4_; (try clear hb); (try clear hb2); (try clear hk); (try clear hi); have hcz126_0 : w125.cell? ⟨gb194, 0, none⟩ = some (.int .i64 ((qah l0_0 a1).f0.f0)) := (qaa BK194.out 0).trans rfl; have hcz126_1 : w125.cell? ⟨gb194, 1, none⟩ = some (.int .i64 ((qah l0_0 a1).f0.f1)) := (qaa BK194.out 1).trans rfl; have hcz126_2 : w125.cell? ⟨gb194, 2, none⟩ = some (.int .i64 ((qah l0_0 a1).f1.f0)) := (qaa BK194.out 2).trans rfl; have hcz126_3 : w125.cell? ⟨gb194, 3, none⟩ = some (.int .i64 ((qah l0_0 a1).f1.f1)) := (qaa BK194.out 3).trans rfl; have hcz126_4 : w125.cell? ⟨gb194, 4, none⟩ = some (.int .i64 ((qah l0_0 a1).f2.f0)) := (qaa BK194.out 4).trans rfl; have hcz126_5 : w125.cell? ⟨gb194, 5, none⟩ = some (.int .i64 ((qah l0_0 a1).f2.f1)) := (qaa BK194.out 5).trans rfl; have hcz126_6 : w125.cell? ⟨gb194, 6, none⟩ = some (.int .i64 ((qah l0_0 a1).f3)) := (qaa BK194.out 6).trans rfl; have hcz126_7 : w125.cell? ⟨gb194, 7, none⟩ = some (.int .i64 ((qah l0_0 a1).f4)) := (qaa BK194.out 7).trans rfl; have hcz126_8 : w125.cell? ⟨gb194, 8, none⟩ = some (.int .i64 ((qah l0_0 a1).f5)) := (qaa BK194.out 8).trans rfl; have hcz126_9 : w125.cell? ⟨gb194, 9, none⟩ = some (.int .i64 ((qah l0_0 a1).f6)) := (qaa BK194.out 9).trans rfl; have hcz126_10 : w125.cell? ⟨gb194, 10, none⟩ = some (.int .i64 ((qah l0_0 a1).f7.f0)) := (qaa BK194.out 10).trans rfl; have hcz126_11 : w125.cell? ⟨gb194, 11, none⟩ = some (.int .i64 ((qah l0_0 a1).f7.f1)) := (qaa BK194.out 11).trans rfl; have hfz126_0 := qab BK194.out 0; have hfz126_1 := qab BK194.out 1; have hfz126_2 := qab BK194.out 2; have hfz126_3 := qab BK194.out 3; have hfz126_4 := qab BK194.out 4; have hfz126_5 := qab BK194.out 5; have hfz126_6 := qab BK194.out 6; have hfz126_7 := qab BK194.out 7; have hfz126_8 := qab BK194.out 8; have hfz126_9 := qab BK194.out 9; have hfz126_10 := qab BK194.out 10; have hfz126_11 := qab BK194.out 11; have hnb127 := NB210_185.out; have hnc127 := NB185_210.out; have hcz128_0 : w125.cell? ⟨gb210, 0, none⟩ = some (.int .i64 t205) := (qaa BK210.out 0).trans rfl; have hcz128_1 : w125.cell? ⟨gb210, 1, none⟩ = some (.int .i64 t206) := (qaa BK210.out 1).trans rfl; have hcz128_2 : w125.cell? ⟨gb210, 2, none⟩ = some (.int .i64 t207) := (qaa BK210.out 2).trans rfl; have hcz128_3 : w125.cell? ⟨gb210, 3, none⟩ = some (.int .i64 t208) := (qaa BK210.out 3).trans rfl; have hfz128_0 := qab BK210.out 0; have hfz128_1 := qab BK210.out 1; have hfz128_2 := qab BK210.out 2; have hfz128_3 := qab BK210.out 3) | (go_at_call 23; (with_reducible refine (taliklaw04_sane.calls ((qah l0_0 a1).f0.f0) ((qah l0_0 a1).f0.f1) ((qah l0_0 a1).f1.f0) ((qah l0_0 a1).f1.f1) ((qah l0_0 a1).f2.f0) ((qah l0_0 a1).f2.f1) ((qah l0_0 a1).f3) ((qah l0_0 a1).f4) ((qah l0_0 a1).f5) ((qah l0_0 a1).f6) ((qah l0_0 a1).f7.f0) ((qah l0_0 a1).f7.f1) t205 t206 t207 t208 x17_2 a2 true _ A113.out).mono ?_); rintro e w129 ⟨rfl, hb⟩; have n0_ := qac.mk (qam (g := gb185) (o := .cells #[.slice (some ad193) l0_0.length c0_0, .slice A0_1 l0_1.length c0_1, .slice A0_2 l0_2.length c0_2] 26 (0, 0)) (by (with_reducible repeat (first | refine qak ?_ _ | refine qap ?_ | refine qaj ?_ _)); exact BK185.out) hb); have n1_ := qac.mk (qam (g := gb194) (o := .cells #[.int .i64 ((qah l0_0 a1).f0.f0), .int .i64 ((qah l0_0 a1).f0.f1), .int .i64 ((qah l0_0 a1).f1.f0), .int .i64 ((qah l0_0 a1).f1.f1), .int .i64 ((qah l0_0 a1).f2.f0), .int .i64 ((qah l0_0 a1).f2.f1), .int .i64 ((qah l0_0 a1).f3), .int .i64 ((qah l0_0 a1).f4), .int .i64 ((qah l0_0 a1).f5), .int .i64 ((qah l0_0 a1).f6), .int .i64 ((qah l0_0 a1).f7.f0), .int .i64 ((qah l0_0 a1).f7.f1)] 39 (0, 0)) (by (with_reducible repeat (first | refine qak ?_ _ | refine qap ?_ | refine qaj ?_ _)); exact BK194.out) hb); have n2_ := qac.mk (qam (g := gb200) (o := .cells #[.int .i64 t195, .int .i64 t196, .int .i64 t197, .int .i64 t198] 31 (0, 0)) (by (with_reducible repeat (first | refine qak ?_ _ | refine qap ?_ | refine qaj ?_ _)); exact BK200.out) hb); have n3_ := qac.mk (qam (g := gb210) (o := .cells #[.int .i64 t205, .int .i64 t206, .int .i64 t207, .int .i64 t208] 31 (0, 0)) (by (with_reducible repeat (first | refine qak ?_ _ | refine qap ?_ | refine qaj ?_ _)); exact BK210.out) hb); have n4_ := qac.mk (qai (by repeat (first | (with_reducible first | exact HB.out | apply qae | apply qad | apply qaf | refine qag ?_ GE185.out | refine qag ?_ GE194.out | refine qag ?_ GE200.out | refine qag ?_ GE210.out) | exact HB.out)) hb); clear BK185; clear BK194; clear BK200; clear BK210; clear HB; have BK185 := n0_; have BK194 := n1_; have BK200 := n2_; have BK210 := n3_; have HB := n4_; clear n0_ n1_ n2_ n3_ n4_; (try clear hb); (try clear hb2); (try clear hk); (try clear hi); have hcz130_0 : w129.cell? ⟨gb200, 0, none⟩ = some (.int .i64 t195) := (qaa BK200.out 0).trans rfl; have hcz130_1 : w129.cell? ⟨gb200, 1, none⟩ = some (.int .i64 t196) := (qaa BK200.out 1).trans rfl; have hcz130_2 : w129.cell? ⟨gb200, 2, none⟩ = some (.int .i64 t197) := (qaa BK200.out 2).trans rfl; have hcz130_3 : w129.cell? ⟨gb200, 3, none⟩ = some (.int .i64 t198) := (qaa BK200.out 3).trans rfl; have hfz130_0 := qab BK200.out 0; have hfz130_1 := qab BK200.out 1; have hfz130_2 := qab BK200.out 2; have hfz130_3 := qab BK200.out 3; have hcz131_0 : w129.cell? ⟨gb210, 0, none⟩ = some (.int .i64 t205) := (qaa BK210.out 0).trans rfl; have hcz131_1 : w129.cell? ⟨gb210, 1, none⟩ = some (.int .i64 t206) := (qaa BK210.out 1).trans rfl; have hcz131_2 : w129.cell? ⟨gb210, 2, none⟩ = some (.int .i64 t207) := (qaa BK210.out 2).trans rfl; have hcz131_3 : w129.cell? ⟨gb210, 3, none⟩ = some (.int .i64 t208) := (qaa BK210.out 3).trans rfl; have hfz131_0 := qab BK210.out 0; have hfz131_1 := qab BK210.out 1; have hfz131_2 := qab BK210.out 2; have hfz131_3 := qab BK210.out 3) | (go_at_call 17; (with_reducible refine (taliklaw04_known.calls  t214 _ A117.out).mono ?_); rintro e w132 ⟨rfl, hb⟩; have n0_ := qac.mk (qam (g := gb185) (o := .cells #[.slice (some ad193) l0_0.length c0_0, .slice A0_1 l0_1.length c0_1, .slice A0_2 l0_2.length c0_2] 26 (0, 0)) (by (with_reducible repeat (first | refine qak ?_ _ | refine qap ?_ | refine qaj ?_ _)); exact BK185.out) hb); have n1_ := qac.mk (qam (g := gb194) (o := .cells #[.int .i64 ((qah l0_0 a1).f0.f0), .int .i64 ((qah l0_0 a1).f0.f1), .int .i64 ((qah l0_0 a1).f1.f0), .int .i64 ((qah l0_0 a1).f1.f1), .int .i64 ((qah l0_0 a1).f2.f0), .int .i64 ((qah l0_0 a1).f2.f1), .int .i64 ((qah l0_0 a1).f3), .int .i64 ((qah l0_0 a1).f4), .int .i64 ((qah l0_0 a1).f5), .int .i64 ((qah l0_0 a1).f6), .int .i64 ((qah l0_0 a1).f7.f0), .int .i64 ((qah l0_0 a1).f7.f1)] 39 (0, 0)) (by (with_reducible repeat (first | refine qak ?_ _ | refine qap ?_ | refine qaj ?_ _)); exact BK194.out) hb); have n2_ := qac.mk (qam (g := gb200) (o := .cells #[.int .i64 t195, .int .i64 t196, .int .i64 t197, .int .i64 t198] 31 (0, 0)) (by (with_reducible repeat (first | refine qak ?_ _ | refine qap ?_ | refine qaj ?_ _)); exact BK200.out) hb); have n3_ := qac.mk (qam (g := gb210) (o := .cells #[.int .i64 t205, .int .i64 t206, .int .i64 t207, .int .i64 t208] 31 (0, 0)) (by (with_reducible repeat (first | refine qak ?_ _ | refine qap ?_ | refine qaj ?_ _)); exact BK210.out) hb); have n4_ := qac.mk (qai (by repeat (first | (with_reducible first | exact HB.out | apply qae | apply qad | apply qaf | refine qag ?_ GE185.out | refine qag ?_ GE194.out | refine qag ?_ GE200.out | refine qag ?_ GE210.out) | exact HB.out)) hb); clear BK185; clear BK194; clear BK200; clear BK210; clear HB; have BK185 := n0_; have BK194 := n1_; have BK200 := n2_; have BK210 := n3_; have HB := n4_; clear n0_ n1_ n2_ n3_ n4_; (try clear hb); (try clear hb2); (try clear hk); (try clear hi)))
                 go_ret
                 exact ⟨by first | rfl | (simp [qas, qat] <;> rfl) | (simp [*, qas, qat] <;> rfl), by repeat (first | (with_reducible first | exact HB.out | apply qae | apply qad | apply qaf | refine qag ?_ GE185.out | refine qag ?_ GE194.out | refine qag ?_ GE200.out | refine qag ?_ GE210.out) | exact HB.out)⟩
                ·
                 rw [if_neg c116] at H
                 have c116b0 : decide (t208 ≤ t198) = false := decide_eq_false c116
                 clear c116
                 obtain rfl := Option.some.inj H
                 have hnb133 := NB194_185.out
                 have hnc133 := NB185_194.out
                 have hnb134 := NB194_200.out
                 have hnc134 := NB200_194.out
                 have hnb135 := NB194_210.out
                 have hnc135 := NB210_194.out
                 have hcz136_0 : wr.cell? ⟨gb194, 0, none⟩ = some (.int .i64 ((qah l0_0 a1).f0.f0)) := (qaa BK194.out 0).trans rfl
                 have hcz136_1 : wr.cell? ⟨gb194, 1, none⟩ = some (.int .i64 ((qah l0_0 a1).f0.f1)) := (qaa BK194.out 1).trans rfl
                 have hcz136_2 : wr.cell? ⟨gb194, 2, none⟩ = some (.int .i64 ((qah l0_0 a1).f1.f0)) := (qaa BK194.out 2).trans rfl
                 have hcz136_3 : wr.cell? ⟨gb194, 3, none⟩ = some (.int .i64 ((qah l0_0 a1).f1.f1)) := (qaa BK194.out 3).trans rfl
                 have hcz136_4 : wr.cell? ⟨gb194, 4, none⟩ = some (.int .i64 ((qah l0_0 a1).f2.f0)) := (qaa BK194.out 4).trans rfl
                 have hcz136_5 : wr.cell? ⟨gb194, 5, none⟩ = some (.int .i64 ((qah l0_0 a1).f2.f1)) := (qaa BK194.out 5).trans rfl
                 have hcz136_6 : wr.cell? ⟨gb194, 6, none⟩ = some (.int .i64 ((qah l0_0 a1).f3)) := (qaa BK194.out 6).trans rfl
                 have hcz136_7 : wr.cell? ⟨gb194, 7, none⟩ = some (.int .i64 ((qah l0_0 a1).f4)) := (qaa BK194.out 7).trans rfl
                 have hcz136_8 : wr.cell? ⟨gb194, 8, none⟩ = some (.int .i64 ((qah l0_0 a1).f5)) := (qaa BK194.out 8).trans rfl
                 have hcz136_9 : wr.cell? ⟨gb194, 9, none⟩ = some (.int .i64 ((qah l0_0 a1).f6)) := (qaa BK194.out 9).trans rfl
                 have hcz136_10 : wr.cell? ⟨gb194, 10, none⟩ = some (.int .i64 ((qah l0_0 a1).f7.f0)) := (qaa BK194.out 10).trans rfl
                 have hcz136_11 : wr.cell? ⟨gb194, 11, none⟩ = some (.int .i64 ((qah l0_0 a1).f7.f1)) := (qaa BK194.out 11).trans rfl
                 have hfz136_0 := qab BK194.out 0
                 have hfz136_1 := qab BK194.out 1
                 have hfz136_2 := qab BK194.out 2
                 have hfz136_3 := qab BK194.out 3
                 have hfz136_4 := qab BK194.out 4
                 have hfz136_5 := qab BK194.out 5
                 have hfz136_6 := qab BK194.out 6
                 have hfz136_7 := qab BK194.out 7
                 have hfz136_8 := qab BK194.out 8
                 have hfz136_9 := qab BK194.out 9
                 have hfz136_10 := qab BK194.out 10
                 have hfz136_11 := qab BK194.out 11
                 have hnb137 := NB200_185.out
                 have hnc137 := NB185_200.out
                 have hnb138 := NB200_210.out
                 have hnc138 := NB210_200.out
                 have hcz139_0 : wr.cell? ⟨gb200, 0, none⟩ = some (.int .i64 t195) := (qaa BK200.out 0).trans rfl
                 have hcz139_1 : wr.cell? ⟨gb200, 1, none⟩ = some (.int .i64 t196) := (qaa BK200.out 1).trans rfl
                 have hcz139_2 : wr.cell? ⟨gb200, 2, none⟩ = some (.int .i64 t197) := (qaa BK200.out 2).trans rfl
                 have hcz139_3 : wr.cell? ⟨gb200, 3, none⟩ = some (.int .i64 t198) := (qaa BK200.out 3).trans rfl
                 have hfz139_0 := qab BK200.out 0
                 have hfz139_1 := qab BK200.out 1
                 have hfz139_2 := qab BK200.out 2
                 have hfz139_3 := qab BK200.out 3
                 go_wp2_with (first | (go_at_call 23; (with_reducible refine (taliklaw04_sane.calls ((qah l0_0 a1).f0.f0) ((qah l0_0 a1).f0.f1) ((qah l0_0 a1).f1.f0) ((qah l0_0 a1).f1.f1) ((qah l0_0 a1).f2.f0) ((qah l0_0 a1).f2.f1) ((qah l0_0 a1).f3) ((qah l0_0 a1).f4) ((qah l0_0 a1).f5) ((qah l0_0 a1).f6) ((qah l0_0 a1).f7.f0) ((qah l0_0 a1).f7.f1) t195 t196 t197 t198 x16_2 a2 true _ A111.out).mono ?_); rintro e w140 ⟨rfl, hb⟩; have n0_ := qac.mk (qam (g := gb185) (o := .cells #[.slice (some ad193) l0_0.length c0_0, .slice A0_1 l0_1.length c0_1, .slice A0_2 l0_2.length c0_2] 26 (0, 0)) (by (with_reducible repeat (first | refine qak ?_ _ | refine qap ?_ | refine qaj ?_ _)); exact BK185.out) hb); have n1_ := qac.mk (qam (g := gb194) (o := .cells #[.int .i64 ((qah l0_0 a1).f0.f0), .int .i64 ((qah l0_0 a1).f0.f1), .int .i64 ((qah l0_0 a1).f1.f0), .int .i64 ((qah l0_0 a1).f1.f1), .int .i64 ((qah l0_0 a1).f2.f0), .int .i64 ((qah l0_0 a1).f2.f1), .int .i64 ((qah l0_0 a1).f3), .int .i64 ((qah l0_0 a1).f4), .int .i64 ((qah l0_0 a1).f5), .int .i64 ((qah l0_0 a1).f6), .int .i64 ((qah l0_0 a1).f7.f0), .int .i64 ((qah l0_0 a1).f7.f1)] 39 (0, 0)) (by (with_reducible repeat (first | refine qak ?_ _ | refine qap ?_ | refine qaj ?_ _)); exact BK194.out) hb); have n2_ := qac.mk (qam (g := gb200) (o := .cells #[.int .i64 t195, .int .i64 t196, .int .i64 t197, .int .i64 t198] 31 (0, 0)) (by (with_reducible repeat (first | refine qak ?_ _ | refine qap ?_ | refine qaj ?_ _)); exact BK200.out) hb); have n3_ := qac.mk (qam (g := gb210) (o := .cells #[.int .i64 t205, .int .i64 t206, .int .i64 t207, .int .i64 t208] 31 (0, 0)) (by (with_reducible repeat (first | refine qak ?_ _ | refine qap ?_ | refine qaj ?_ _)); exact BK210.out) hb); have n4_ := qac.mk (qai (by repeat (first | (with_reducible first | exact HB.out | apply qae | apply qad | apply qaf | refine qag ?_ GE185.out | refine qag ?_ GE194.out | refine qag ?_ GE200.out | refine qag ?_ GE210.out) | exact HB.out)) hb); clear BK185; clear BK194; clear BK200; clear BK210; clear HB; have BK185 := n0_; have BK194 := n1_; have BK200 := n2_; have BK210 := n3_; have HB := n4_; clear n0_ n1_ n2_ n3_ n4_; (try clear hb); (try clear hb2); (try clear hk); (try clear hi); have hcz141_0 : w140.cell? ⟨gb194, 0, none⟩ = some (.int .i64 ((qah l0_0 a1).f0.f0)) := (qaa BK194.out 0).trans rfl; have hcz141_1 : w140.cell? ⟨gb194, 1, none⟩ = some (.int .i64 ((qah l0_0 a1).f0.f1)) := (qaa BK194.out 1).trans rfl; have hcz141_2 : w140.cell? ⟨gb194, 2, none⟩ = some (.int .i64 ((qah l0_0 a1).f1.f0)) := (qaa BK194.out 2).trans rfl; have hcz141_3 : w140.cell? ⟨gb194, 3, none⟩ = some (.int .i64 ((qah l0_0 a1).f1.f1)) := (qaa BK194.out 3).trans rfl; have hcz141_4 : w140.cell? ⟨gb194, 4, none⟩ = some (.int .i64 ((qah l0_0 a1).f2.f0)) := (qaa BK194.out 4).trans rfl; have hcz141_5 : w140.cell? ⟨gb194, 5, none⟩ = some (.int .i64 ((qah l0_0 a1).f2.f1)) := (qaa BK194.out 5).trans rfl; have hcz141_6 : w140.cell? ⟨gb194, 6, none⟩ = some (.int .i64 ((qah l0_0 a1).f3)) := (qaa BK194.out 6).trans rfl; have hcz141_7 : w140.cell? ⟨gb194, 7, none⟩ = some (.int .i64 ((qah l0_0 a1).f4)) := (qaa BK194.out 7).trans rfl; have hcz141_8 : w140.cell? ⟨gb194, 8, none⟩ = some (.int .i64 ((qah l0_0 a1).f5)) := (qaa BK194.out 8).trans rfl; have hcz141_9 : w140.cell? ⟨gb194, 9, none⟩ = some (.int .i64 ((qah l0_0 a1).f6)) := (qaa BK194.out 9).trans rfl; have hcz141_10 : w140.cell? ⟨gb194, 10, none⟩ = some (.int .i64 ((qah l0_0 a1).f7.f0)) := (qaa BK194.out 10).trans rfl; have hcz141_11 : w140.cell? ⟨gb194, 11, none⟩ = some (.int .i64 ((qah l0_0 a1).f7.f1)) := (qaa BK194.out 11).trans rfl; have hfz141_0 := qab BK194.out 0; have hfz141_1 := qab BK194.out 1; have hfz141_2 := qab BK194.out 2; have hfz141_3 := qab BK194.out 3; have hfz141_4 := qab BK194.out 4; have hfz141_5 := qab BK194.out 5; have hfz141_6 := qab BK194.out 6; have hfz141_7 := qab BK194.out 7; have hfz141_8 := qab BK194.out 8; have hfz141_9 := qab BK194.out 9; have hfz141_10 := qab BK194.out 10; have hfz141_11 := qab BK194.out 11; have hnb142 := NB210_185.out; have hnc142 := NB185_210.out; have hcz143_0 : w140.cell? ⟨gb210, 0, none⟩ = some (.int .i64 t205) := (qaa BK210.out 0).trans rfl; have hcz143_1 : w140.cell? ⟨gb210, 1, none⟩ = some (.int .i64 t206) := (qaa BK210.out 1).trans rfl; have hcz143_2 : w140.cell? ⟨gb210, 2, none⟩ = some (.int .i64 t207) := (qaa BK210.out 2).trans rfl; have hcz143_3 : w140.cell? ⟨gb210, 3, none⟩ = some (.int .i64 t208) := (qaa BK210.out 3).trans rfl; have hfz143_0 := qab BK210.out 0; have hfz143_1 := qab BK210.out 1; have hfz143_2 := qab BK210.out 2; have hfz143_3 := qab BK210.out 3) | (go_at_call 23; (with_reducible refine (taliklaw04_sane.calls ((qah l0_0 a1).f0.f0) ((qah l0_0 a1).f0.f1) ((qah l0_0 a1).f1.f0) ((qah l0_0 a1).f1.f1) ((qah l0_0 a1).f2.f0) ((qah l0_0 a1).f2.f1) ((qah l0_0 a1).f3) ((qah l0_0 a1).f4) ((qah l0_0 a1).f5) ((qah l0_0 a1).f6) ((qah l0_0 a1).f7.f0) ((qah l0_0 a1).f7.f1) t205 t206 t207 t208 x17_2 a2 true _ A113.out).mono ?_); rintro e w144 ⟨rfl, hb⟩; have n0_ := qac.mk (qam (g := gb185) (o := .cells #[.slice (some ad193) l0_0.length c0_0, .slice A0_1 l0_1.length c0_1, .slice A0_2 l0_2.length c0_2] 26 (0, 0)) (by (with_reducible repeat (first | refine qak ?_ _ | refine qap ?_ | refine qaj ?_ _)); exact BK185.out) hb); have n1_ := qac.mk (qam (g := gb194) (o := .cells #[.int .i64 ((qah l0_0 a1).f0.f0), .int .i64 ((qah l0_0 a1).f0.f1), .int .i64 ((qah l0_0 a1).f1.f0), .int .i64 ((qah l0_0 a1).f1.f1), .int .i64 ((qah l0_0 a1).f2.f0), .int .i64 ((qah l0_0 a1).f2.f1), .int .i64 ((qah l0_0 a1).f3), .int .i64 ((qah l0_0 a1).f4), .int .i64 ((qah l0_0 a1).f5), .int .i64 ((qah l0_0 a1).f6), .int .i64 ((qah l0_0 a1).f7.f0), .int .i64 ((qah l0_0 a1).f7.f1)] 39 (0, 0)) (by (with_reducible repeat (first | refine qak ?_ _ | refine qap ?_ | refine qaj ?_ _)); exact BK194.out) hb); have n2_ := qac.mk (qam (g := gb200) (o := .cells #[.int .i64 t195, .int .i64 t196, .int .i64 t197, .int .i64 t198] 31 (0, 0)) (by (with_reducible repeat (first | refine qak ?_ _ | refine qap ?_ | refine qaj ?_ _)); exact BK200.out) hb); have n3_ := qac.mk (qam (g := gb210) (o := .cells #[.int .i64 t205, .int .i64 t206, .int .i64 t207, .int .i64 t208] 31 (0, 0)) (by (with_reducible repeat (first | refine qak ?_ _ | refine qap ?_ | refine qaj ?_ _)); exact BK210.out) hb); have n4_ := qac.mk (qai (by repeat (first | (with_reducible first | exact HB.out | apply qae | apply qad | apply qaf | refine qag ?_ GE185.out | refine qag ?_ GE194.out | refine qag ?_ GE200.out | refine qag ?_ GE210.out) | exact HB.out)) hb); clear BK185; clear BK194; clear BK200; clear BK210; clear HB; have BK185 := n0_; have BK194 := n1_; have BK200 := n2_; have BK210 := n3_; have HB := n4_; clear n0_ n1_ n2_ n3_ n4_; (try clear hb); (try clear hb2); (try clear hk); (try clear hi); have hcz145_0 : w144.cell? ⟨gb200, 0, none⟩ = some (.int .i64 t195) := (qaa BK200.out 0).trans rfl; have hcz145_1 : w144.cell? ⟨gb200, 1, none⟩ = some (.int .i64 t196) := (qaa BK200.out 1).trans rfl; have hcz145_2 : w144.cell? ⟨gb200, 2, none⟩ = some (.int .i64 t197) := (qaa BK200.out 2).trans rfl; have hcz145_3 : w144.cell? ⟨gb200, 3, none⟩ = some (.int .i64 t198) := (qaa BK200.out 3).trans rfl; have hfz145_0 := qab BK200.out 0; have hfz145_1 := qab BK200.out 1; have hfz145_2 := qab BK200.out 2; have hfz145_3 := qab BK200.out 3; have hcz146_0 : w144.cell? ⟨gb210, 0, none⟩ = some (.int .i64 t205) := (qaa BK210.out 0).trans rfl; have hcz146_1 : w144.cell? ⟨gb210, 1, none⟩ = some (.int .i64 t206) := (qaa BK210.out 1).trans rfl; have hcz146_2 : w144.cell? ⟨gb210, 2, none⟩ = some (.int .i64 t207) := (qaa BK210.out 2).trans rfl; have hcz146_3 : w144.cell? ⟨gb210, 3, none⟩ = some (.int .i64 t208) := (qaa BK210.out 3).trans rfl; have hfz146_0 := qab BK210.out 0; have hfz146_1 := qab BK210.out 1; have hfz146_2 := qab BK210.out 2; have hfz146_3 := qab BK210.out 3))
                 go_ret
                 exact ⟨by first | rfl | (simp [qas, qat] <;> rfl) | (simp [*, qas, qat] <;> rfl), by repeat (first | (with_reducible first | exact HB.out | apply qae | apply qad | apply qaf | refine qag ?_ GE185.out | refine qag ?_ GE194.out | refine qag ?_ GE200.out | refine qag ?_ GE210.out) | exact HB.out)⟩
               ·
                rw [if_neg c115] at H
                have c115b0 : decide (t207 ≤ t197) = false := decide_eq_false c115
                clear c115
                obtain rfl := Option.some.inj H
                have hnb147 := NB194_185.out
                have hnc147 := NB185_194.out
                have hnb148 := NB194_200.out
                have hnc148 := NB200_194.out
                have hnb149 := NB194_210.out
                have hnc149 := NB210_194.out
                have hcz150_0 : wr.cell? ⟨gb194, 0, none⟩ = some (.int .i64 ((qah l0_0 a1).f0.f0)) := (qaa BK194.out 0).trans rfl
                have hcz150_1 : wr.cell? ⟨gb194, 1, none⟩ = some (.int .i64 ((qah l0_0 a1).f0.f1)) := (qaa BK194.out 1).trans rfl
                have hcz150_2 : wr.cell? ⟨gb194, 2, none⟩ = some (.int .i64 ((qah l0_0 a1).f1.f0)) := (qaa BK194.out 2).trans rfl
                have hcz150_3 : wr.cell? ⟨gb194, 3, none⟩ = some (.int .i64 ((qah l0_0 a1).f1.f1)) := (qaa BK194.out 3).trans rfl
                have hcz150_4 : wr.cell? ⟨gb194, 4, none⟩ = some (.int .i64 ((qah l0_0 a1).f2.f0)) := (qaa BK194.out 4).trans rfl
                have hcz150_5 : wr.cell? ⟨gb194, 5, none⟩ = some (.int .i64 ((qah l0_0 a1).f2.f1)) := (qaa BK194.out 5).trans rfl
                have hcz150_6 : wr.cell? ⟨gb194, 6, none⟩ = some (.int .i64 ((qah l0_0 a1).f3)) := (qaa BK194.out 6).trans rfl
                have hcz150_7 : wr.cell? ⟨gb194, 7, none⟩ = some (.int .i64 ((qah l0_0 a1).f4)) := (qaa BK194.out 7).trans rfl
                have hcz150_8 : wr.cell? ⟨gb194, 8, none⟩ = some (.int .i64 ((qah l0_0 a1).f5)) := (qaa BK194.out 8).trans rfl
                have hcz150_9 : wr.cell? ⟨gb194, 9, none⟩ = some (.int .i64 ((qah l0_0 a1).f6)) := (qaa BK194.out 9).trans rfl
                have hcz150_10 : wr.cell? ⟨gb194, 10, none⟩ = some (.int .i64 ((qah l0_0 a1).f7.f0)) := (qaa BK194.out 10).trans rfl
                have hcz150_11 : wr.cell? ⟨gb194, 11, none⟩ = some (.int .i64 ((qah l0_0 a1).f7.f1)) := (qaa BK194.out 11).trans rfl
                have hfz150_0 := qab BK194.out 0
                have hfz150_1 := qab BK194.out 1
                have hfz150_2 := qab BK194.out 2
                have hfz150_3 := qab BK194.out 3
                have hfz150_4 := qab BK194.out 4
                have hfz150_5 := qab BK194.out 5
                have hfz150_6 := qab BK194.out 6
                have hfz150_7 := qab BK194.out 7
                have hfz150_8 := qab BK194.out 8
                have hfz150_9 := qab BK194.out 9
                have hfz150_10 := qab BK194.out 10
                have hfz150_11 := qab BK194.out 11
                have hnb151 := NB200_185.out
                have hnc151 := NB185_200.out
                have hnb152 := NB200_210.out
                have hnc152 := NB210_200.out
                have hcz153_0 : wr.cell? ⟨gb200, 0, none⟩ = some (.int .i64 t195) := (qaa BK200.out 0).trans rfl
                have hcz153_1 : wr.cell? ⟨gb200, 1, none⟩ = some (.int .i64 t196) := (qaa BK200.out 1).trans rfl
                have hcz153_2 : wr.cell? ⟨gb200, 2, none⟩ = some (.int .i64 t197) := (qaa BK200.out 2).trans rfl
                have hcz153_3 : wr.cell? ⟨gb200, 3, none⟩ = some (.int .i64 t198) := (qaa BK200.out 3).trans rfl
                have hfz153_0 := qab BK200.out 0
                have hfz153_1 := qab BK200.out 1
                have hfz153_2 := qab BK200.out 2
                have hfz153_3 := qab BK200.out 3
                go_wp2_with (first | (go_at_call 23; (with_reducible refine (taliklaw04_sane.calls ((qah l0_0 a1).f0.f0) ((qah l0_0 a1).f0.f1) ((qah l0_0 a1).f1.f0) ((qah l0_0 a1).f1.f1) ((qah l0_0 a1).f2.f0) ((qah l0_0 a1).f2.f1) ((qah l0_0 a1).f3) ((qah l0_0 a1).f4) ((qah l0_0 a1).f5) ((qah l0_0 a1).f6) ((qah l0_0 a1).f7.f0) ((qah l0_0 a1).f7.f1) t195 t196 t197 t198 x16_2 a2 true _ A111.out).mono ?_); rintro e w154 ⟨rfl, hb⟩; have n0_ := qac.mk (qam (g := gb185) (o := .cells #[.slice (some ad193) l0_0.length c0_0, .slice A0_1 l0_1.length c0_1, .slice A0_2 l0_2.length c0_2] 26 (0, 0)) (by (with_reducible repeat (first | refine qak ?_ _ | refine qap ?_ | refine qaj ?_ _)); exact BK185.out) hb); have n1_ := qac.mk (qam (g := gb194) (o := .cells #[.int .i64 ((qah l0_0 a1).f0.f0), .int .i64 ((qah l0_0 a1).f0.f1), .int .i64 ((qah l0_0 a1).f1.f0), .int .i64 ((qah l0_0 a1).f1.f1), .int .i64 ((qah l0_0 a1).f2.f0), .int .i64 ((qah l0_0 a1).f2.f1), .int .i64 ((qah l0_0 a1).f3), .int .i64 ((qah l0_0 a1).f4), .int .i64 ((qah l0_0 a1).f5), .int .i64 ((qah l0_0 a1).f6), .int .i64 ((qah l0_0 a1).f7.f0), .int .i64 ((qah l0_0 a1).f7.f1)] 39 (0, 0)) (by (with_reducible repeat (first | refine qak ?_ _ | refine qap ?_ | refine qaj ?_ _)); exact BK194.out) hb); have n2_ := qac.mk (qam (g := gb200) (o := .cells #[.int .i64 t195, .int .i64 t196, .int .i64 t197, .int .i64 t198] 31 (0, 0)) (by (with_reducible repeat (first | refine qak ?_ _ | refine qap ?_ | refine qaj ?_ _)); exact BK200.out) hb); have n3_ := qac.mk (qam (g := gb210) (o := .cells #[.int .i64 t205, .int .i64 t206, .int .i64 t207, .int .i64 t208] 31 (0, 0)) (by (with_reducible repeat (first | refine qak ?_ _ | refine qap ?_ | refine qaj ?_ _)); exact BK210.out) hb); have n4_ := qac.mk (qai (by repeat (first | (with_reducible first | exact HB.out | apply qae | apply qad | apply qaf | refine qag ?_ GE185.out | refine qag ?_ GE194.out | refine qag ?_ GE200.out | refine qag ?_ GE210.out) | exact HB.out)) hb); clear BK185; clear BK194; clear BK200; clear BK210; clear HB; have BK185 := n0_; have BK194 := n1_; have BK200 := n2_; have BK210 := n3_; have HB := n4_; clear n0_ n1_ n2_ n3_ n4_; (try clear hb); (try clear hb2); (try clear hk); (try clear hi); have hcz155_0 : w154.cell? ⟨gb194, 0, none⟩ = some (.int .i64 ((qah l0_0 a1).f0.f0)) := (qaa BK194.out 0).trans rfl; have hcz155_1 : w154.cell? ⟨gb194, 1, none⟩ = some (.int .i64 ((qah l0_0 a1).f0.f1)) := (qaa BK194.out 1).trans rfl; have hcz155_2 : w154.cell? ⟨gb194, 2, none⟩ = some (.int .i64 ((qah l0_0 a1).f1.f0)) := (qaa BK194.out 2).trans rfl; have hcz155_3 : w154.cell? ⟨gb194, 3, none⟩ = some (.int .i64 ((qah l0_0 a1).f1.f1)) := (qaa BK194.out 3).trans rfl; have hcz155_4 : w154.cell? ⟨gb194, 4, none⟩ = some (.int .i64 ((qah l0_0 a1).f2.f0)) := (qaa BK194.out 4).trans rfl; have hcz155_5 : w154.cell? ⟨gb194, 5, none⟩ = some (.int .i64 ((qah l0_0 a1).f2.f1)) := (qaa BK194.out 5).trans rfl; have hcz155_6 : w154.cell? ⟨gb194, 6, none⟩ = some (.int .i64 ((qah l0_0 a1).f3)) := (qaa BK194.out 6).trans rfl; have hcz155_7 : w154.cell? ⟨gb194, 7, none⟩ = some (.int .i64 ((qah l0_0 a1).f4)) := (qaa BK194.out 7).trans rfl; have hcz155_8 : w154.cell? ⟨gb194, 8, none⟩ = some (.int .i64 ((qah l0_0 a1).f5)) := (qaa BK194.out 8).trans rfl; have hcz155_9 : w154.cell? ⟨gb194, 9, none⟩ = some (.int .i64 ((qah l0_0 a1).f6)) := (qaa BK194.out 9).trans rfl; have hcz155_10 : w154.cell? ⟨gb194, 10, none⟩ = some (.int .i64 ((qah l0_0 a1).f7.f0)) := (qaa BK194.out 10).trans rfl; have hcz155_11 : w154.cell? ⟨gb194, 11, none⟩ = some (.int .i64 ((qah l0_0 a1).f7.f1)) := (qaa BK194.out 11).trans rfl; have hfz155_0 := qab BK194.out 0; have hfz155_1 := qab BK194.out 1; have hfz155_2 := qab BK194.out 2; have hfz155_3 := qab BK194.out 3; have hfz155_4 := qab BK194.out 4; have hfz155_5 := qab BK194.out 5; have hfz155_6 := qab BK194.out 6; have hfz155_7 := qab BK194.out 7; have hfz155_8 := qab BK194.out 8; have hfz155_9 := qab BK194.out 9; have hfz155_10 := qab BK194.out 10; have hfz155_11 := qab BK194.out 11; have hnb156 := NB210_185.out; have hnc156 := NB185_210.out; have hcz157_0 : w154.cell? ⟨gb210, 0, none⟩ = some (.int .i64 t205) := (qaa BK210.out 0).trans rfl; have hcz157_1 : w154.cell? ⟨gb210, 1, none⟩ = some (.int .i64 t206) := (qaa BK210.out 1).trans rfl; have hcz157_2 : w154.cell? ⟨gb210, 2, none⟩ = some (.int .i64 t207) := (qaa BK210.out 2).trans rfl; have hcz157_3 : w154.cell? ⟨gb210, 3, none⟩ = some (.int .i64 t208) := (qaa BK210.out 3).trans rfl; have hfz157_0 := qab BK210.out 0; have hfz157_1 := qab BK210.out 1; have hfz157_2 := qab BK210.out 2; have hfz157_3 := qab BK210.out 3) | (go_at_call 23; (with_reducible refine (taliklaw04_sane.calls ((qah l0_0 a1).f0.f0) ((qah l0_0 a1).f0.f1) ((qah l0_0 a1).f1.f0) ((qah l0_0 a1).f1.f1) ((qah l0_0 a1).f2.f0) ((qah l0_0 a1).f2.f1) ((qah l0_0 a1).f3) ((qah l0_0 a1).f4) ((qah l0_0 a1).f5) ((qah l0_0 a1).f6) ((qah l0_0 a1).f7.f0) ((qah l0_0 a1).f7.f1) t205 t206 t207 t208 x17_2 a2 true _ A113.out).mono ?_); rintro e w158 ⟨rfl, hb⟩; have n0_ := qac.mk (qam (g := gb185) (o := .cells #[.slice (some ad193) l0_0.length c0_0, .slice A0_1 l0_1.length c0_1, .slice A0_2 l0_2.length c0_2] 26 (0, 0)) (by (with_reducible repeat (first | refine qak ?_ _ | refine qap ?_ | refine qaj ?_ _)); exact BK185.out) hb); have n1_ := qac.mk (qam (g := gb194) (o := .cells #[.int .i64 ((qah l0_0 a1).f0.f0), .int .i64 ((qah l0_0 a1).f0.f1), .int .i64 ((qah l0_0 a1).f1.f0), .int .i64 ((qah l0_0 a1).f1.f1), .int .i64 ((qah l0_0 a1).f2.f0), .int .i64 ((qah l0_0 a1).f2.f1), .int .i64 ((qah l0_0 a1).f3), .int .i64 ((qah l0_0 a1).f4), .int .i64 ((qah l0_0 a1).f5), .int .i64 ((qah l0_0 a1).f6), .int .i64 ((qah l0_0 a1).f7.f0), .int .i64 ((qah l0_0 a1).f7.f1)] 39 (0, 0)) (by (with_reducible repeat (first | refine qak ?_ _ | refine qap ?_ | refine qaj ?_ _)); exact BK194.out) hb); have n2_ := qac.mk (qam (g := gb200) (o := .cells #[.int .i64 t195, .int .i64 t196, .int .i64 t197, .int .i64 t198] 31 (0, 0)) (by (with_reducible repeat (first | refine qak ?_ _ | refine qap ?_ | refine qaj ?_ _)); exact BK200.out) hb); have n3_ := qac.mk (qam (g := gb210) (o := .cells #[.int .i64 t205, .int .i64 t206, .int .i64 t207, .int .i64 t208] 31 (0, 0)) (by (with_reducible repeat (first | refine qak ?_ _ | refine qap ?_ | refine qaj ?_ _)); exact BK210.out) hb); have n4_ := qac.mk (qai (by repeat (first | (with_reducible first | exact HB.out | apply qae | apply qad | apply qaf | refine qag ?_ GE185.out | refine qag ?_ GE194.out | refine qag ?_ GE200.out | refine qag ?_ GE210.out) | exact HB.out)) hb); clear BK185; clear BK194; clear BK200; clear BK210; clear HB; have BK185 := n0_; have BK194 := n1_; have BK200 := n2_; have BK210 := n3_; have HB := n4_; clear n0_ n1_ n2_ n3_ n4_; (try clear hb); (try clear hb2); (try clear hk); (try clear hi); have hcz159_0 : w158.cell? ⟨gb200, 0, none⟩ = some (.int .i64 t195) := (qaa BK200.out 0).trans rfl; have hcz159_1 : w158.cell? ⟨gb200, 1, none⟩ = some (.int .i64 t196) := (qaa BK200.out 1).trans rfl; have hcz159_2 : w158.cell? ⟨gb200, 2, none⟩ = some (.int .i64 t197) := (qaa BK200.out 2).trans rfl; have hcz159_3 : w158.cell? ⟨gb200, 3, none⟩ = some (.int .i64 t198) := (qaa BK200.out 3).trans rfl; have hfz159_0 := qab BK200.out 0; have hfz159_1 := qab BK200.out 1; have hfz159_2 := qab BK200.out 2; have hfz159_3 := qab BK200.out 3; have hcz160_0 : w158.cell? ⟨gb210, 0, none⟩ = some (.int .i64 t205) := (qaa BK210.out 0).trans rfl; have hcz160_1 : w158.cell? ⟨gb210, 1, none⟩ = some (.int .i64 t206) := (qaa BK210.out 1).trans rfl; have hcz160_2 : w158.cell? ⟨gb210, 2, none⟩ = some (.int .i64 t207) := (qaa BK210.out 2).trans rfl; have hcz160_3 : w158.cell? ⟨gb210, 3, none⟩ = some (.int .i64 t208) := (qaa BK210.out 3).trans rfl; have hfz160_0 := qab BK210.out 0; have hfz160_1 := qab BK210.out 1; have hfz160_2 := qab BK210.out 2; have hfz160_3 := qab BK210.out 3))
                go_ret
                exact ⟨by first | rfl | (simp [qas, qat] <;> rfl) | (simp [*, qas, qat] <;> rfl), by repeat (first | (with_reducible first | exact HB.out | apply qae | apply qad | apply qaf | refine qag ?_ GE185.out | refine qag ?_ GE194.out | refine qag ?_ GE200.out | refine qag ?_ GE210.out) | exact HB.out)⟩
              ·
               replace c114 := Bool.eq_false_iff.mpr c114
               subst c114
               have H1 : (some false) = some r := by rw [if_neg (show ¬ (false = true) by decide)] at H; exact H
               clear H
               have H := H1
               clear H1
               obtain rfl := Option.some.inj H
               have hnb161 := NB194_185.out
               have hnc161 := NB185_194.out
               have hnb162 := NB194_200.out
               have hnc162 := NB200_194.out
               have hnb163 := NB194_210.out
               have hnc163 := NB210_194.out
               have hcz164_0 : wr.cell? ⟨gb194, 0, none⟩ = some (.int .i64 ((qah l0_0 a1).f0.f0)) := (qaa BK194.out 0).trans rfl
               have hcz164_1 : wr.cell? ⟨gb194, 1, none⟩ = some (.int .i64 ((qah l0_0 a1).f0.f1)) := (qaa BK194.out 1).trans rfl
               have hcz164_2 : wr.cell? ⟨gb194, 2, none⟩ = some (.int .i64 ((qah l0_0 a1).f1.f0)) := (qaa BK194.out 2).trans rfl
               have hcz164_3 : wr.cell? ⟨gb194, 3, none⟩ = some (.int .i64 ((qah l0_0 a1).f1.f1)) := (qaa BK194.out 3).trans rfl
               have hcz164_4 : wr.cell? ⟨gb194, 4, none⟩ = some (.int .i64 ((qah l0_0 a1).f2.f0)) := (qaa BK194.out 4).trans rfl
               have hcz164_5 : wr.cell? ⟨gb194, 5, none⟩ = some (.int .i64 ((qah l0_0 a1).f2.f1)) := (qaa BK194.out 5).trans rfl
               have hcz164_6 : wr.cell? ⟨gb194, 6, none⟩ = some (.int .i64 ((qah l0_0 a1).f3)) := (qaa BK194.out 6).trans rfl
               have hcz164_7 : wr.cell? ⟨gb194, 7, none⟩ = some (.int .i64 ((qah l0_0 a1).f4)) := (qaa BK194.out 7).trans rfl
               have hcz164_8 : wr.cell? ⟨gb194, 8, none⟩ = some (.int .i64 ((qah l0_0 a1).f5)) := (qaa BK194.out 8).trans rfl
               have hcz164_9 : wr.cell? ⟨gb194, 9, none⟩ = some (.int .i64 ((qah l0_0 a1).f6)) := (qaa BK194.out 9).trans rfl
               have hcz164_10 : wr.cell? ⟨gb194, 10, none⟩ = some (.int .i64 ((qah l0_0 a1).f7.f0)) := (qaa BK194.out 10).trans rfl
               have hcz164_11 : wr.cell? ⟨gb194, 11, none⟩ = some (.int .i64 ((qah l0_0 a1).f7.f1)) := (qaa BK194.out 11).trans rfl
               have hfz164_0 := qab BK194.out 0
               have hfz164_1 := qab BK194.out 1
               have hfz164_2 := qab BK194.out 2
               have hfz164_3 := qab BK194.out 3
               have hfz164_4 := qab BK194.out 4
               have hfz164_5 := qab BK194.out 5
               have hfz164_6 := qab BK194.out 6
               have hfz164_7 := qab BK194.out 7
               have hfz164_8 := qab BK194.out 8
               have hfz164_9 := qab BK194.out 9
               have hfz164_10 := qab BK194.out 10
               have hfz164_11 := qab BK194.out 11
               have hnb165 := NB200_185.out
               have hnc165 := NB185_200.out
               have hnb166 := NB200_210.out
               have hnc166 := NB210_200.out
               have hcz167_0 : wr.cell? ⟨gb200, 0, none⟩ = some (.int .i64 t195) := (qaa BK200.out 0).trans rfl
               have hcz167_1 : wr.cell? ⟨gb200, 1, none⟩ = some (.int .i64 t196) := (qaa BK200.out 1).trans rfl
               have hcz167_2 : wr.cell? ⟨gb200, 2, none⟩ = some (.int .i64 t197) := (qaa BK200.out 2).trans rfl
               have hcz167_3 : wr.cell? ⟨gb200, 3, none⟩ = some (.int .i64 t198) := (qaa BK200.out 3).trans rfl
               have hfz167_0 := qab BK200.out 0
               have hfz167_1 := qab BK200.out 1
               have hfz167_2 := qab BK200.out 2
               have hfz167_3 := qab BK200.out 3
               go_wp2_with (first | (go_at_call 23; (with_reducible refine (taliklaw04_sane.calls ((qah l0_0 a1).f0.f0) ((qah l0_0 a1).f0.f1) ((qah l0_0 a1).f1.f0) ((qah l0_0 a1).f1.f1) ((qah l0_0 a1).f2.f0) ((qah l0_0 a1).f2.f1) ((qah l0_0 a1).f3) ((qah l0_0 a1).f4) ((qah l0_0 a1).f5) ((qah l0_0 a1).f6) ((qah l0_0 a1).f7.f0) ((qah l0_0 a1).f7.f1) t195 t196 t197 t198 x16_2 a2 true _ A111.out).mono ?_); rintro e w168 ⟨rfl, hb⟩; have n0_ := qac.mk (qam (g := gb185) (o := .cells #[.slice (some ad193) l0_0.length c0_0, .slice A0_1 l0_1.length c0_1, .slice A0_2 l0_2.length c0_2] 26 (0, 0)) (by (with_reducible repeat (first | refine qak ?_ _ | refine qap ?_ | refine qaj ?_ _)); exact BK185.out) hb); have n1_ := qac.mk (qam (g := gb194) (o := .cells #[.int .i64 ((qah l0_0 a1).f0.f0), .int .i64 ((qah l0_0 a1).f0.f1), .int .i64 ((qah l0_0 a1).f1.f0), .int .i64 ((qah l0_0 a1).f1.f1), .int .i64 ((qah l0_0 a1).f2.f0), .int .i64 ((qah l0_0 a1).f2.f1), .int .i64 ((qah l0_0 a1).f3), .int .i64 ((qah l0_0 a1).f4), .int .i64 ((qah l0_0 a1).f5), .int .i64 ((qah l0_0 a1).f6), .int .i64 ((qah l0_0 a1).f7.f0), .int .i64 ((qah l0_0 a1).f7.f1)] 39 (0, 0)) (by (with_reducible repeat (first | refine qak ?_ _ | refine qap ?_ | refine qaj ?_ _)); exact BK194.out) hb); have n2_ := qac.mk (qam (g := gb200) (o := .cells #[.int .i64 t195, .int .i64 t196, .int .i64 t197, .int .i64 t198] 31 (0, 0)) (by (with_reducible repeat (first | refine qak ?_ _ | refine qap ?_ | refine qaj ?_ _)); exact BK200.out) hb); have n3_ := qac.mk (qam (g := gb210) (o := .cells #[.int .i64 t205, .int .i64 t206, .int .i64 t207, .int .i64 t208] 31 (0, 0)) (by (with_reducible repeat (first | refine qak ?_ _ | refine qap ?_ | refine qaj ?_ _)); exact BK210.out) hb); have n4_ := qac.mk (qai (by repeat (first | (with_reducible first | exact HB.out | apply qae | apply qad | apply qaf | refine qag ?_ GE185.out | refine qag ?_ GE194.out | refine qag ?_ GE200.out | refine qag ?_ GE210.out) | exact HB.out)) hb); clear BK185; clear BK194; clear BK200; clear BK210; clear HB; have BK185 := n0_; have BK194 := n1_; have BK200 := n2_; have BK210 := n3_; have HB := n4_; clear n0_ n1_ n2_ n3_ n4_; (try clear hb); (try clear hb2); (try clear hk); (try clear hi); have hcz169_0 : w168.cell? ⟨gb194, 0, none⟩ = some (.int .i64 ((qah l0_0 a1).f0.f0)) := (qaa BK194.out 0).trans rfl; have hcz169_1 : w168.cell? ⟨gb194, 1, none⟩ = some (.int .i64 ((qah l0_0 a1).f0.f1)) := (qaa BK194.out 1).trans rfl; have hcz169_2 : w168.cell? ⟨gb194, 2, none⟩ = some (.int .i64 ((qah l0_0 a1).f1.f0)) := (qaa BK194.out 2).trans rfl; have hcz169_3 : w168.cell? ⟨gb194, 3, none⟩ = some (.int .i64 ((qah l0_0 a1).f1.f1)) := (qaa BK194.out 3).trans rfl; have hcz169_4 : w168.cell? ⟨gb194, 4, none⟩ = some (.int .i64 ((qah l0_0 a1).f2.f0)) := (qaa BK194.out 4).trans rfl; have hcz169_5 : w168.cell? ⟨gb194, 5, none⟩ = some (.int .i64 ((qah l0_0 a1).f2.f1)) := (qaa BK194.out 5).trans rfl; have hcz169_6 : w168.cell? ⟨gb194, 6, none⟩ = some (.int .i64 ((qah l0_0 a1).f3)) := (qaa BK194.out 6).trans rfl; have hcz169_7 : w168.cell? ⟨gb194, 7, none⟩ = some (.int .i64 ((qah l0_0 a1).f4)) := (qaa BK194.out 7).trans rfl; have hcz169_8 : w168.cell? ⟨gb194, 8, none⟩ = some (.int .i64 ((qah l0_0 a1).f5)) := (qaa BK194.out 8).trans rfl; have hcz169_9 : w168.cell? ⟨gb194, 9, none⟩ = some (.int .i64 ((qah l0_0 a1).f6)) := (qaa BK194.out 9).trans rfl; have hcz169_10 : w168.cell? ⟨gb194, 10, none⟩ = some (.int .i64 ((qah l0_0 a1).f7.f0)) := (qaa BK194.out 10).trans rfl; have hcz169_11 : w168.cell? ⟨gb194, 11, none⟩ = some (.int .i64 ((qah l0_0 a1).f7.f1)) := (qaa BK194.out 11).trans rfl; have hfz169_0 := qab BK194.out 0; have hfz169_1 := qab BK194.out 1; have hfz169_2 := qab BK194.out 2; have hfz169_3 := qab BK194.out 3; have hfz169_4 := qab BK194.out 4; have hfz169_5 := qab BK194.out 5; have hfz169_6 := qab BK194.out 6; have hfz169_7 := qab BK194.out 7; have hfz169_8 := qab BK194.out 8; have hfz169_9 := qab BK194.out 9; have hfz169_10 := qab BK194.out 10; have hfz169_11 := qab BK194.out 11; have hnb170 := NB210_185.out; have hnc170 := NB185_210.out; have hcz171_0 : w168.cell? ⟨gb210, 0, none⟩ = some (.int .i64 t205) := (qaa BK210.out 0).trans rfl; have hcz171_1 : w168.cell? ⟨gb210, 1, none⟩ = some (.int .i64 t206) := (qaa BK210.out 1).trans rfl; have hcz171_2 : w168.cell? ⟨gb210, 2, none⟩ = some (.int .i64 t207) := (qaa BK210.out 2).trans rfl; have hcz171_3 : w168.cell? ⟨gb210, 3, none⟩ = some (.int .i64 t208) := (qaa BK210.out 3).trans rfl; have hfz171_0 := qab BK210.out 0; have hfz171_1 := qab BK210.out 1; have hfz171_2 := qab BK210.out 2; have hfz171_3 := qab BK210.out 3) | (go_at_call 23; (with_reducible refine (taliklaw04_sane.calls ((qah l0_0 a1).f0.f0) ((qah l0_0 a1).f0.f1) ((qah l0_0 a1).f1.f0) ((qah l0_0 a1).f1.f1) ((qah l0_0 a1).f2.f0) ((qah l0_0 a1).f2.f1) ((qah l0_0 a1).f3) ((qah l0_0 a1).f4) ((qah l0_0 a1).f5) ((qah l0_0 a1).f6) ((qah l0_0 a1).f7.f0) ((qah l0_0 a1).f7.f1) t205 t206 t207 t208 x17_2 a2 false _ A113.out).mono ?_); rintro e w172 ⟨rfl, hb⟩; have n0_ := qac.mk (qam (g := gb185) (o := .cells #[.slice (some ad193) l0_0.length c0_0, .slice A0_1 l0_1.length c0_1, .slice A0_2 l0_2.length c0_2] 26 (0, 0)) (by (with_reducible repeat (first | refine qak ?_ _ | refine qap ?_ | refine qaj ?_ _)); exact BK185.out) hb); have n1_ := qac.mk (qam (g := gb194) (o := .cells #[.int .i64 ((qah l0_0 a1).f0.f0), .int .i64 ((qah l0_0 a1).f0.f1), .int .i64 ((qah l0_0 a1).f1.f0), .int .i64 ((qah l0_0 a1).f1.f1), .int .i64 ((qah l0_0 a1).f2.f0), .int .i64 ((qah l0_0 a1).f2.f1), .int .i64 ((qah l0_0 a1).f3), .int .i64 ((qah l0_0 a1).f4), .int .i64 ((qah l0_0 a1).f5), .int .i64 ((qah l0_0 a1).f6), .int .i64 ((qah l0_0 a1).f7.f0), .int .i64 ((qah l0_0 a1).f7.f1)] 39 (0, 0)) (by (with_reducible repeat (first | refine qak ?_ _ | refine qap ?_ | refine qaj ?_ _)); exact BK194.out) hb); have n2_ := qac.mk (qam (g := gb200) (o := .cells #[.int .i64 t195, .int .i64 t196, .int .i64 t197, .int .i64 t198] 31 (0, 0)) (by (with_reducible repeat (first | refine qak ?_ _ | refine qap ?_ | refine qaj ?_ _)); exact BK200.out) hb); have n3_ := qac.mk (qam (g := gb210) (o := .cells #[.int .i64 t205, .int .i64 t206, .int .i64 t207, .int .i64 t208] 31 (0, 0)) (by (with_reducible repeat (first | refine qak ?_ _ | refine qap ?_ | refine qaj ?_ _)); exact BK210.out) hb); have n4_ := qac.mk (qai (by repeat (first | (with_reducible first | exact HB.out | apply qae | apply qad | apply qaf | refine qag ?_ GE185.out | refine qag ?_ GE194.out | refine qag ?_ GE200.out | refine qag ?_ GE210.out) | exact HB.out)) hb); clear BK185; clear BK194; clear BK200; clear BK210; clear HB; have BK185 := n0_; have BK194 := n1_; have BK200 := n2_; have BK210 := n3_; have HB := n4_; clear n0_ n1_ n2_ n3_ n4_; (try clear hb); (try clear hb2); (try clear hk); (try clear hi)))
               go_ret
               exact ⟨by first | rfl | (simp [qas, qat] <;> rfl) | (simp [*, qas, qat] <;> rfl), by repeat (first | (with_reducible first | exact HB.out | apply qae | apply qad | apply qaf | refine qag ?_ GE185.out | refine qag ?_ GE194.out | refine qag ?_ GE200.out | refine qag ?_ GE210.out) | exact HB.out)⟩
             ·
              replace c112 := Bool.eq_false_iff.mpr c112
              subst c112
              have H1 : (some false) = some r := by rw [if_neg (show ¬ (false = true) by decide)] at H; exact H
              clear H
              have H := H1
              clear H1
              obtain rfl := Option.some.inj H
              have hnb173 := NB194_185.out
              have hnc173 := NB185_194.out
              have hnb174 := NB194_200.out
              have hnc174 := NB200_194.out
              have hnb175 := NB194_210.out
              have hnc175 := NB210_194.out
              have hcz176_0 : wr.cell? ⟨gb194, 0, none⟩ = some (.int .i64 ((qah l0_0 a1).f0.f0)) := (qaa BK194.out 0).trans rfl
              have hcz176_1 : wr.cell? ⟨gb194, 1, none⟩ = some (.int .i64 ((qah l0_0 a1).f0.f1)) := (qaa BK194.out 1).trans rfl
              have hcz176_2 : wr.cell? ⟨gb194, 2, none⟩ = some (.int .i64 ((qah l0_0 a1).f1.f0)) := (qaa BK194.out 2).trans rfl
              have hcz176_3 : wr.cell? ⟨gb194, 3, none⟩ = some (.int .i64 ((qah l0_0 a1).f1.f1)) := (qaa BK194.out 3).trans rfl
              have hcz176_4 : wr.cell? ⟨gb194, 4, none⟩ = some (.int .i64 ((qah l0_0 a1).f2.f0)) := (qaa BK194.out 4).trans rfl
              have hcz176_5 : wr.cell? ⟨gb194, 5, none⟩ = some (.int .i64 ((qah l0_0 a1).f2.f1)) := (qaa BK194.out 5).trans rfl
              have hcz176_6 : wr.cell? ⟨gb194, 6, none⟩ = some (.int .i64 ((qah l0_0 a1).f3)) := (qaa BK194.out 6).trans rfl
              have hcz176_7 : wr.cell? ⟨gb194, 7, none⟩ = some (.int .i64 ((qah l0_0 a1).f4)) := (qaa BK194.out 7).trans rfl
              have hcz176_8 : wr.cell? ⟨gb194, 8, none⟩ = some (.int .i64 ((qah l0_0 a1).f5)) := (qaa BK194.out 8).trans rfl
              have hcz176_9 : wr.cell? ⟨gb194, 9, none⟩ = some (.int .i64 ((qah l0_0 a1).f6)) := (qaa BK194.out 9).trans rfl
              have hcz176_10 : wr.cell? ⟨gb194, 10, none⟩ = some (.int .i64 ((qah l0_0 a1).f7.f0)) := (qaa BK194.out 10).trans rfl
              have hcz176_11 : wr.cell? ⟨gb194, 11, none⟩ = some (.int .i64 ((qah l0_0 a1).f7.f1)) := (qaa BK194.out 11).trans rfl
              have hfz176_0 := qab BK194.out 0
              have hfz176_1 := qab BK194.out 1
              have hfz176_2 := qab BK194.out 2
              have hfz176_3 := qab BK194.out 3
              have hfz176_4 := qab BK194.out 4
              have hfz176_5 := qab BK194.out 5
              have hfz176_6 := qab BK194.out 6
              have hfz176_7 := qab BK194.out 7
              have hfz176_8 := qab BK194.out 8
              have hfz176_9 := qab BK194.out 9
              have hfz176_10 := qab BK194.out 10
              have hfz176_11 := qab BK194.out 11
              have hnb177 := NB200_185.out
              have hnc177 := NB185_200.out
              have hnb178 := NB200_210.out
              have hnc178 := NB210_200.out
              have hcz179_0 : wr.cell? ⟨gb200, 0, none⟩ = some (.int .i64 t195) := (qaa BK200.out 0).trans rfl
              have hcz179_1 : wr.cell? ⟨gb200, 1, none⟩ = some (.int .i64 t196) := (qaa BK200.out 1).trans rfl
              have hcz179_2 : wr.cell? ⟨gb200, 2, none⟩ = some (.int .i64 t197) := (qaa BK200.out 2).trans rfl
              have hcz179_3 : wr.cell? ⟨gb200, 3, none⟩ = some (.int .i64 t198) := (qaa BK200.out 3).trans rfl
              have hfz179_0 := qab BK200.out 0
              have hfz179_1 := qab BK200.out 1
              have hfz179_2 := qab BK200.out 2
              have hfz179_3 := qab BK200.out 3
              go_wp2_with (first | (go_at_call 23; (with_reducible refine (taliklaw04_sane.calls ((qah l0_0 a1).f0.f0) ((qah l0_0 a1).f0.f1) ((qah l0_0 a1).f1.f0) ((qah l0_0 a1).f1.f1) ((qah l0_0 a1).f2.f0) ((qah l0_0 a1).f2.f1) ((qah l0_0 a1).f3) ((qah l0_0 a1).f4) ((qah l0_0 a1).f5) ((qah l0_0 a1).f6) ((qah l0_0 a1).f7.f0) ((qah l0_0 a1).f7.f1) t195 t196 t197 t198 x16_2 a2 false _ A111.out).mono ?_); rintro e w180 ⟨rfl, hb⟩; have n0_ := qac.mk (qam (g := gb185) (o := .cells #[.slice (some ad193) l0_0.length c0_0, .slice A0_1 l0_1.length c0_1, .slice A0_2 l0_2.length c0_2] 26 (0, 0)) (by (with_reducible repeat (first | refine qak ?_ _ | refine qap ?_ | refine qaj ?_ _)); exact BK185.out) hb); have n1_ := qac.mk (qam (g := gb194) (o := .cells #[.int .i64 ((qah l0_0 a1).f0.f0), .int .i64 ((qah l0_0 a1).f0.f1), .int .i64 ((qah l0_0 a1).f1.f0), .int .i64 ((qah l0_0 a1).f1.f1), .int .i64 ((qah l0_0 a1).f2.f0), .int .i64 ((qah l0_0 a1).f2.f1), .int .i64 ((qah l0_0 a1).f3), .int .i64 ((qah l0_0 a1).f4), .int .i64 ((qah l0_0 a1).f5), .int .i64 ((qah l0_0 a1).f6), .int .i64 ((qah l0_0 a1).f7.f0), .int .i64 ((qah l0_0 a1).f7.f1)] 39 (0, 0)) (by (with_reducible repeat (first | refine qak ?_ _ | refine qap ?_ | refine qaj ?_ _)); exact BK194.out) hb); have n2_ := qac.mk (qam (g := gb200) (o := .cells #[.int .i64 t195, .int .i64 t196, .int .i64 t197, .int .i64 t198] 31 (0, 0)) (by (with_reducible repeat (first | refine qak ?_ _ | refine qap ?_ | refine qaj ?_ _)); exact BK200.out) hb); have n3_ := qac.mk (qam (g := gb210) (o := .cells #[.int .i64 t205, .int .i64 t206, .int .i64 t207, .int .i64 t208] 31 (0, 0)) (by (with_reducible repeat (first | refine qak ?_ _ | refine qap ?_ | refine qaj ?_ _)); exact BK210.out) hb); have n4_ := qac.mk (qai (by repeat (first | (with_reducible first | exact HB.out | apply qae | apply qad | apply qaf | refine qag ?_ GE185.out | refine qag ?_ GE194.out | refine qag ?_ GE200.out | refine qag ?_ GE210.out) | exact HB.out)) hb); clear BK185; clear BK194; clear BK200; clear BK210; clear HB; have BK185 := n0_; have BK194 := n1_; have BK200 := n2_; have BK210 := n3_; have HB := n4_; clear n0_ n1_ n2_ n3_ n4_; (try clear hb); (try clear hb2); (try clear hk); (try clear hi)))
              go_ret
              exact ⟨by first | rfl | (simp [qas, qat] <;> rfl) | (simp [*, qas, qat] <;> rfl), by repeat (first | (with_reducible first | exact HB.out | apply qae | apply qad | apply qaf | refine qag ?_ GE185.out | refine qag ?_ GE194.out | refine qag ?_ GE200.out | refine qag ?_ GE210.out) | exact HB.out)⟩
            ·
             rw [if_neg c110] at H
             have c110b0 : (t209 == 0) = false := beq_eq_false_iff_ne.mpr c110
             have c110b1 : (t209 != 0) = true := bne_iff_ne.mpr c110
             obtain rfl := Option.some.inj H
             go_wp2
             go_ret
             exact ⟨by first | rfl | (simp [qas, qat] <;> rfl) | (simp [*, qas, qat] <;> rfl), by repeat (first | (with_reducible first | exact HB.out | apply qae | apply qad | apply qaf | refine qag ?_ GE185.out | refine qag ?_ GE194.out | refine qag ?_ GE200.out | refine qag ?_ GE210.out) | exact HB.out)⟩
           ·
            rw [if_neg c109] at H
            have c109b0 : (t199 == 0) = false := beq_eq_false_iff_ne.mpr c109
            have c109b1 : (t199 != 0) = true := bne_iff_ne.mpr c109
            obtain rfl := Option.some.inj H
            go_wp2
            go_ret
            exact ⟨by first | rfl | (simp [qas, qat] <;> rfl) | (simp [*, qas, qat] <;> rfl), by repeat (first | (with_reducible first | exact HB.out | apply qae | apply qad | apply qaf | refine qag ?_ GE185.out | refine qag ?_ GE194.out | refine qag ?_ GE200.out | refine qag ?_ GE210.out) | exact HB.out)⟩
       ·
        rw [if_neg c82] at H
        exact absurd H (by simp)
      ·
       rw [if_neg c81] at H
       exact absurd H (by simp)
     ·
      rw [if_neg c79] at H
      exact absurd H (by simp)
    ·
     rw [if_neg c78] at H
     exact absurd H (by simp)
end Go.Proofs.Ytipphcjgdebecaa.PA
