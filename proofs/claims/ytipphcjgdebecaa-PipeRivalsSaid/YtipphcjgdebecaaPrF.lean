/- Parts of a proof about the pipe seat's laws: what the functions of the program answer. No condition of its own. -/
import Derived.Test.YtipphcjgdebecaaSC
import Derived.Test.YtipphcjgdebecaaSO
import Derived.RangeFuncNested
import Derived.RangeFuncBound
import Derived.RangeFuncCalls
import Derived.RangeFuncLeaves
import Derived.RangeFuncBox
import Derived.Shelf.Abstract
import Derived.Shelf.RegionOpen
import Derived.OwnWalkIn
import Derived.TacticsInMore
import Derived.LoopNIn
import Derived.LoopIn
import Derived.Recover
import Derived.Defers
import Derived.WalkLawsBesides
import Derived.WalkSmall
import Derived.Test.YtipphcjgdebecaaPrC
import Derived.Test.YtipphcjgdebecaaSE
import Derived.Test.YtipphcjgdebecaaSH
import Derived.Test.YtipphcjgdebecaaSK
import Derived.Test.YtipphcjgdebecaaSL
import Derived.Test.YtipphcjgdebecaaSM
import Derived.Test.YtipphcjgdebecaaSN
import Derived.Test.YtipphcjgdebecaaPrD
import Derived.Test.YtipphcjgdebecaaPrE
import Derived.Test.YtipphcjgdebecaaSF
set_option linter.all false
namespace Go.Proofs.Ytipphcjgdebecaa.PA
open Go.RowKit Go.Proofs.YtipphcjgdebecaaW.PrintWords Go.Proofs.YtipphcjgdebecaaW.PrintLast Go.Proofs.YtipphcjgdebecaaW.PrintMore
attribute [local go_sem] max2_int min2_int max_two min_two max_three min_three max_four min_four
mutual
def taliklaw04_dues.l0 : Nat → List Int → Int → List (S39) → List (S37) → List (List Int) → Option (List Int × Bool)
 | 0, _, _, _, _, _ => none
 | k + 1, x4, x5, x321000, x321001, x321002 => if x5 < (x321000.length : Int) then ((pipe_Freezes.f x321000 x321001 x321002 x5).bind fun bt321 => (if bt321.2.2 = 0 then (if bt321.1 < (-1) then (taliklaw04_dues.j1 k x4 x5 bt321.1 true x321000 x321001 x321002) else (if bt321.1 = 0 then (taliklaw04_dues.j1 k x4 x5 bt321.1 true x321000 x321001 x321002) else (taliklaw04_dues.j1 k x4 x5 bt321.1 (decide (bt321.1 > (x321001.length : Int))) x321000 x321001 x321002))) else (taliklaw04_dues.j1 k x4 x5 bt321.1 true x321000 x321001 x321002))) else (some (x4, true))
def taliklaw04_dues.j1 : Nat → List Int → Int → Int → Bool → List (S39) → List (S37) → List (List Int) → Option (List Int × Bool)
 | 0, _, _, _, _, _, _, _ => none
 | k + 1, x4, x5, x6, x39, x321000, x321001, x321002 => if x39 = true then (some (([] : List Int), false)) else (if x6 < 0 then (if x4.length < 17592186044416 then (taliklaw04_dues.l0 k (x4 ++ [(x321001.length : Int)]) (wrap64 (x5 + 1)) x321000 x321001 x321002) else (none)) else (if x4.length < 17592186044416 then (taliklaw04_dues.l0 k (x4 ++ [wrap64 (x6 - 1)]) (wrap64 (x5 + 1)) x321000 x321001 x321002) else (none)))
end
def taliklaw04_dues.f (k : Nat) (l0_0 : List (S39)) (l0_1 : List (S37)) (l0_2 : List (List Int)) : Option (List Int × Bool) := taliklaw04_dues.l0 k ([] : List Int) 0 l0_0 l0_1 l0_2
set_option maxHeartbeats 8000000 in
set_option maxRecDepth 100000 in
theorem taliklaw04_dues.calls (k : Nat) (A0_0 : Option Addr) (c0_0 : Nat) (l0_0 : List (S39)) (A0_1 : Option Addr) (c0_1 : Nat) (l0_1 : List (S37)) (A0_2 : Option Addr) (c0_2 : Nat) (l0_2 : List (List Int)) (r1 : List Int) (r2 : Bool) (w : World) (hr0_0 : Kd.C k39 w A0_0 l0_0.length l0_0) (hc0_0 : l0_0.length ≤ c0_0) (hr0_1 : Kd.C k37 w A0_1 l0_1.length l0_1) (hc0_1 : l0_1.length ≤ c0_1) (hr0_2 : Kd.C (Kd.slice 3 (Kd.int .i64)) w A0_2 l0_2.length l0_2) (hc0_2 : l0_2.length ≤ c0_2) (h : taliklaw04_dues.f k l0_0 l0_1 l0_2 = some (r1, r2)) :
  Calls Try.prog 30 #[.agg #[.slice A0_0 l0_0.length c0_0, .slice A0_1 l0_1.length c0_1, .slice A0_2 l0_2.length c0_2]] w fun e w' => ∃ v0_ : Value, e = .returned (.tuple #[v0_, .bool r2]) ∧ Kd.R (Kd.int .i64) 3 w' w.heap.size (fun _ => True) v0_ r1 ∧ Below w.heap.size w w' := by
 have hu26 := Try.underlying26
 have HR0_0 := qac.mk hr0_0
 have HC0_0 := qac.mk hc0_0
 clear hr0_0 hc0_0
 have HR0_1 := qac.mk hr0_1
 have HC0_1 := qac.mk hc0_1
 clear hr0_1 hc0_1
 have HR0_2 := qac.mk hr0_2
 have HC0_2 := qac.mk hc0_2
 clear hr0_2 hc0_2
 have HB := qac.mk (Below.refl w.heap.size w)
 have H : (taliklaw04_dues.l0 k ([] : List Int) 0 l0_0 l0_1 l0_2) = some (r1, r2) := h
 clear h
 have H' := qac.mk H
 clear H
 go_enter Try.func30, Try.ntmps30
 go_wp2_with (first | ((with_reducible refine qax (N := 1) rfl ?_); (try (refine gate_guard (by rfl) ?_; dsimp only)); refine qaw ?hg (N := 1) ?hd (cs := #[.slice A0_0 l0_0.length c0_0, .slice A0_1 l0_1.length c0_1, .slice A0_2 l0_2.length c0_2]) (t := 26) ?hr ?_; (case hd => rfl); (case hg => rfl); (case hr => first | (go_simp; done) | (go_simp; rfl)); intro gb320 hg w2 hbox hb; have n0_ := qac.mk (qai (by repeat (first | (with_reducible first | exact HB.out | apply qae | apply qad | apply qaf) | exact HB.out)) hb); have n1_ := qac.mk (hbox); have n2_ := qac.mk ((by rw [hg]; exact (qar (by repeat (first | (with_reducible first | exact HB.out | apply qae | apply qad | apply qaf) | exact HB.out))) : w.heap.size ≤ gb320)); have n3_ := qac.mk ((by rw [hg]; exact (qar (by repeat (first | (with_reducible first | exact HB.out | apply qae | apply qad | apply qaf) | exact HB.out))) : w.heap.size ≤ gb320)); clear HB; have HB := n0_; have BK320 := n1_; have GW320 := n2_; have GE320 := n3_; clear n0_ n1_ n2_ n3_; clear hb hbox hg))
 go_loopg [4, 5] k (fun kq v4 v5 w' => ∃ (x4_1 : List Int) (x5_1 : Int), v5 = .int .i64 x5_1 ∧ qac (taliklaw04_dues.l0 kq x4_1 x5_1 l0_0 l0_1 l0_2 = some (r1, r2)) ∧ qac (kq ≤ k) ∧ qac (Kd.R (Kd.int .i64) 3 w' w.heap.size (fun _ => True) v4 x4_1) ∧ qac (w'.heap[gb320]? = some (.cells #[(.slice A0_0 l0_0.length c0_0), (.slice A0_1 l0_1.length c0_1), (.slice A0_2 l0_2.length c0_2)] 26 (0, 0))) ∧ qac (Below w.heap.size w w'))
 case atStart => exact ⟨(([] : List Int)), (0), (by first | rfl | (simp; done) | (simp [*]; done)), H', ⟨Nat.le_refl _⟩, ⟨by first | exact Kd.R_nil _ _ _ _ _ | exact Kd.N_nil _ _ _ _ _ | exact Kd.V_nil _ _ _ _ _ | exact Kd.Q_nil _ _ _ _ _ | exact Kd.S_nil _ _ _ _ _⟩, ⟨by (with_reducible repeat (first | refine qak ?_ _ | refine qap ?_ | refine qaj ?_ _)); exact BK320.out⟩, ⟨by repeat (first | (with_reducible first | exact HB.out | apply qae | apply qad | apply qaf | refine qag ?_ GE320.out) | exact HB.out)⟩⟩
 case round =>
  clear H'
  try clear p2
  obtain ⟨x4_1, x5_1, rfl, HA, HK1, HO_4, BK320, HB⟩ := hrel
  cases gk with
  | zero => exact absurd HA.out (by simp [taliklaw04_dues.l0])
  | succ k1 =>
   have H := HA.out
   clear HA
   simp only [taliklaw04_dues.l0] at H
   by_cases c3 : x5_1 < (l0_0.length : Int)
   ·
    rw [if_pos c3] at H
    have c3b0 : decide (x5_1 < (l0_0.length : Int)) = true := decide_eq_true c3
    clear c3
    replace H := Option.bind_eq_some_iff.mp H
    obtain ⟨⟨t321, t322, t323⟩, A40, H⟩ := H
    replace H : (if t323 = 0 then (if t321 < (-1) then (taliklaw04_dues.j1 k1 x4_1 x5_1 t321 true l0_0 l0_1 l0_2) else (if t321 = 0 then (taliklaw04_dues.j1 k1 x4_1 x5_1 t321 true l0_0 l0_1 l0_2) else (taliklaw04_dues.j1 k1 x4_1 x5_1 t321 (decide (t321 > (l0_1.length : Int))) l0_0 l0_1 l0_2))) else (taliklaw04_dues.j1 k1 x4_1 x5_1 t321 true l0_0 l0_1 l0_2)) = some (r1, r2) := H
    have A4 := qac.mk A40
    clear A40
    have HC5 := qac.mk H
    clear H
    have hcz6_0 : wr.cell? ⟨gb320, 0, none⟩ = some (.slice A0_0 l0_0.length c0_0) := (qaa BK320.out 0).trans rfl
    have hcz6_1 : wr.cell? ⟨gb320, 1, none⟩ = some (.slice A0_1 l0_1.length c0_1) := (qaa BK320.out 1).trans rfl
    have hcz6_2 : wr.cell? ⟨gb320, 2, none⟩ = some (.slice A0_2 l0_2.length c0_2) := (qaa BK320.out 2).trans rfl
    have hfz6_0 := qab BK320.out 0
    have hfz6_1 := qab BK320.out 1
    have hfz6_2 := qab BK320.out 2
    go_upto_region 6 with (first | ((with_reducible refine qau (f := 43) rfl ?_); refine goesL_ (some 19) rfl rfl Try.func43 (by kernel_rfl) rfl #[.agg #[.slice A0_0 l0_0.length c0_0, .slice A0_1 l0_1.length c0_1, .slice A0_2 l0_2.length c0_2], .int .i64 x5_1] rfl (by (try simp only [List.map_toArray, List.map_cons, List.map_nil]); first | done | rfl | (simp only [List.length_drop, List.length_take]; rfl)) ?_; (with_reducible refine (pipe_Freezes.calls _ _ l0_0 _ _ l0_1 _ _ l0_2 x5_1 t321 t322 t323 _ ?side1 ?side2 ?side3 ?side4 ?side5 ?side6 A4.out).mono ?_); (case side1 => repeat (first | exact (Kd.qal HR0_0.out HB.out) | (with_reducible refine Kd.qan ?_ _) | (with_reducible refine Kd.qao ?_ _) | (with_reducible refine Kd.qaq ?_))); (case side2 => exact HC0_0.out); (case side3 => repeat (first | exact (Kd.qal HR0_1.out HB.out) | (with_reducible refine Kd.qan ?_ _) | (with_reducible refine Kd.qao ?_ _) | (with_reducible refine Kd.qaq ?_))); (case side4 => exact HC0_1.out); (case side5 => repeat (first | exact (Kd.qal HR0_2.out HB.out) | (with_reducible refine Kd.qan ?_ _) | (with_reducible refine Kd.qao ?_ _) | (with_reducible refine Kd.qaq ?_))); (case side6 => exact HC0_2.out); rintro e w7 ⟨rfl, hb⟩; refine ⟨_, rfl, ?_⟩; have n0_ := qac.mk (Kd.R_below (by (with_reducible repeat (first | apply Kd.qaz | apply Kd.qba | apply Kd.R_drew)); exact HO_4.out) hb); have n1_ := qac.mk (qam (g := gb320) (o := .cells #[.slice A0_0 l0_0.length c0_0, .slice A0_1 l0_1.length c0_1, .slice A0_2 l0_2.length c0_2] 26 (0, 0)) (by (with_reducible repeat (first | refine qak ?_ _ | refine qap ?_ | refine qaj ?_ _)); exact BK320.out) hb); have n2_ := qac.mk (qai (by repeat (first | (with_reducible first | exact HB.out | apply qae | apply qad | apply qaf | refine qag ?_ GE320.out) | exact HB.out)) hb); clear HO_4; clear BK320; clear HB; have HO_4 := n0_; have BK320 := n1_; have HB := n2_; clear n0_ n1_ n2_; (try clear hb); (try clear hb2); (try clear hk); (try clear hi)))
    (try simp only [Act.put, List.setIfInBounds_toArray, List.set_cons_zero, List.set_cons_succ])
    go_cut [39] (fun v39 wc => ∃ (kq : Nat) (x39_4 : Bool), v39 = .bool x39_4 ∧ qac (taliklaw04_dues.j1 kq x4_1 x5_1 t321 x39_4 l0_0 l0_1 l0_2 = some (r1, r2)) ∧ qac (kq ≤ k1) ∧ qac (Kd.R (Kd.int .i64) 3 wc w.heap.size (fun _ => True) u4 x4_1) ∧ qac (wc.heap[gb320]? = some (.cells #[(.slice A0_0 l0_0.length c0_0), (.slice A0_1 l0_1.length c0_1), (.slice A0_2 l0_2.length c0_2)] 26 (0, 0))) ∧ qac (Below w.heap.size w wc))
    case first =>
     have H := HC5.out
     clear HC5
     by_cases c8 : t323 = 0
     ·
      rw [if_pos c8] at H
      have c8b0 : (t323 == 0) = true := beq_iff_eq.mpr c8
      have c8b1 : (t323 != 0) = false := bne_eq_false_iff_eq.mpr c8
      clear c8
      (first | rw [c8b0] | (simp only [i64_w, i32_w]; rw [c8b0]) | skip)
      by_cases c9 : t321 < (-1)
      ·
       rw [if_pos c9] at H
       have c9b0 : decide (t321 < (-1)) = true := decide_eq_true c9
       clear c9
       have H' := qac.mk H
       clear H
       go_wp2
       go_meet
       case rel => exact ⟨_, (true), (by first | rfl | (simp; done) | (simp [*]; done)), H', ⟨by have := HK1.out; first | omega | exact Nat.le_refl _⟩, ⟨by (with_reducible repeat (first | apply Kd.qaz | apply Kd.qba | apply Kd.R_drew)); exact HO_4.out⟩, ⟨by (with_reducible repeat (first | refine qak ?_ _ | refine qap ?_ | refine qaj ?_ _)); exact BK320.out⟩, ⟨by repeat (first | (with_reducible first | exact HB.out | apply qae | apply qad | apply qaf | refine qag ?_ GE320.out) | exact HB.out)⟩⟩
      ·
       rw [if_neg c9] at H
       have c9b0 : decide (t321 < (-1)) = false := decide_eq_false c9
       clear c9
       by_cases c10 : t321 = 0
       ·
        rw [if_pos c10] at H
        have c10b0 : (t321 == 0) = true := beq_iff_eq.mpr c10
        have c10b1 : (t321 != 0) = false := bne_eq_false_iff_eq.mpr c10
        clear c10
        have H' := qac.mk H
        clear H
        go_wp2
        go_meet
        case rel => exact ⟨_, (true), (by first | rfl | (simp; done) | (simp [*]; done)), H', ⟨by have := HK1.out; first | omega | exact Nat.le_refl _⟩, ⟨by (with_reducible repeat (first | apply Kd.qaz | apply Kd.qba | apply Kd.R_drew)); exact HO_4.out⟩, ⟨by (with_reducible repeat (first | refine qak ?_ _ | refine qap ?_ | refine qaj ?_ _)); exact BK320.out⟩, ⟨by repeat (first | (with_reducible first | exact HB.out | apply qae | apply qad | apply qaf | refine qag ?_ GE320.out) | exact HB.out)⟩⟩
       ·
        rw [if_neg c10] at H
        have c10b0 : (t321 == 0) = false := beq_eq_false_iff_ne.mpr c10
        have c10b1 : (t321 != 0) = true := bne_iff_ne.mpr c10
        have H' := qac.mk H
        clear H
        have hcz11_0 : w7.cell? ⟨gb320, 0, none⟩ = some (.slice A0_0 l0_0.length c0_0) := (qaa BK320.out 0).trans rfl
        have hcz11_1 : w7.cell? ⟨gb320, 1, none⟩ = some (.slice A0_1 l0_1.length c0_1) := (qaa BK320.out 1).trans rfl
        have hcz11_2 : w7.cell? ⟨gb320, 2, none⟩ = some (.slice A0_2 l0_2.length c0_2) := (qaa BK320.out 2).trans rfl
        have hfz11_0 := qab BK320.out 0
        have hfz11_1 := qab BK320.out 1
        have hfz11_2 := qab BK320.out 2
        go_wp2
        go_meet
        case rel => exact ⟨_, (decide (t321 > (l0_1.length : Int))), (by first | rfl | (simp; done) | (simp [*]; done)), H', ⟨by have := HK1.out; first | omega | exact Nat.le_refl _⟩, ⟨by (with_reducible repeat (first | apply Kd.qaz | apply Kd.qba | apply Kd.R_drew)); exact HO_4.out⟩, ⟨by (with_reducible repeat (first | refine qak ?_ _ | refine qap ?_ | refine qaj ?_ _)); exact BK320.out⟩, ⟨by repeat (first | (with_reducible first | exact HB.out | apply qae | apply qad | apply qaf | refine qag ?_ GE320.out) | exact HB.out)⟩⟩
     ·
      rw [if_neg c8] at H
      have c8b0 : (t323 == 0) = false := beq_eq_false_iff_ne.mpr c8
      have c8b1 : (t323 != 0) = true := bne_iff_ne.mpr c8
      (first | rw [c8b0] | (simp only [i64_w, i32_w]; rw [c8b0]) | skip)
      have H' := qac.mk H
      clear H
      go_wp2
      go_meet
      case rel => exact ⟨_, (true), (by first | rfl | (simp; done) | (simp [*]; done)), H', ⟨by have := HK1.out; first | omega | exact Nat.le_refl _⟩, ⟨by (with_reducible repeat (first | apply Kd.qaz | apply Kd.qba | apply Kd.R_drew)); exact HO_4.out⟩, ⟨by (with_reducible repeat (first | refine qak ?_ _ | refine qap ?_ | refine qaj ?_ _)); exact BK320.out⟩, ⟨by repeat (first | (with_reducible first | exact HB.out | apply qae | apply qad | apply qaf | refine qag ?_ GE320.out) | exact HB.out)⟩⟩
    case rest =>
     clear HC5
     try clear c1
     try clear p2
     try clear c3
     try clear c3b0
     try clear c4
     try clear c8
     try clear c8b0
     try clear c8b1
     try clear c9
     try clear c9b0
     try clear c10
     try clear c10b0
     try clear c10b1
     try clear hcz11_0
     try clear hcz11_1
     try clear hcz11_2
     try clear hcz6_0
     try clear hcz6_1
     try clear hcz6_2
     try clear hfz11_0
     try clear hfz11_1
     try clear hfz11_2
     try clear hfz6_0
     try clear hfz6_1
     try clear hfz6_2
     try clear p2
     obtain ⟨kq, x39_4, rfl, HA, HJ4, HO_4, BK320, HB⟩ := hcut
     cases kq with
     | zero => exact absurd HA.out (by simp [taliklaw04_dues.j1])
     | succ kj4 =>
      have H := HA.out
      clear HA
      simp only [taliklaw04_dues.j1] at H
      by_cases c12 : x39_4 = true
      ·
       subst c12
       have H1 : (some (([] : List Int), false)) = some (r1, r2) := by rw [if_pos rfl] at H; exact H
       clear H
       have H := H1
       clear H1
       simp only [Option.some.injEq, Prod.mk.injEq] at H
       obtain ⟨rfl, rfl⟩ := H
       go_wp2
       go_ret2
       exact ⟨_, by first | rfl | (simp [qas, qat] <;> rfl) | (simp [*, qas, qat] <;> rfl), by first | exact Kd.R_nil _ _ _ _ _ | exact Kd.N_nil _ _ _ _ _ | exact Kd.V_nil _ _ _ _ _ | exact Kd.Q_nil _ _ _ _ _ | exact Kd.S_nil _ _ _ _ _, by repeat (first | (with_reducible first | exact HB.out | apply qae | apply qad | apply qaf | refine qag ?_ GE320.out) | exact HB.out)⟩
      ·
       replace c12 := Bool.eq_false_iff.mpr c12
       subst c12
       have H1 : (if t321 < 0 then (if x4_1.length < 17592186044416 then (taliklaw04_dues.l0 kj4 (x4_1 ++ [(l0_1.length : Int)]) (wrap64 (x5_1 + 1)) l0_0 l0_1 l0_2) else (none)) else (if x4_1.length < 17592186044416 then (taliklaw04_dues.l0 kj4 (x4_1 ++ [wrap64 (t321 - 1)]) (wrap64 (x5_1 + 1)) l0_0 l0_1 l0_2) else (none))) = some (r1, r2) := by rw [if_neg (show ¬ (false = true) by decide)] at H; exact H
       clear H
       have H := H1
       clear H1
       by_cases c13 : t321 < 0
       ·
        rw [if_pos c13] at H
        have c13b0 : decide (t321 < 0) = true := decide_eq_true c13
        clear c13
        by_cases c14 : x4_1.length < 17592186044416
        ·
         rw [if_pos c14] at H
         have LMc14 := qac.mk c14
         clear c14
         obtain ⟨y324, hy324⟩ : ∃ y_ : List Int, y_ = (x4_1 ++ [(l0_1.length : Int)]) := ⟨_, rfl⟩
         replace H : (taliklaw04_dues.l0 kj4 y324 (wrap64 (x5_1 + 1)) l0_0 l0_1 l0_2) = some (r1, r2) := by first | (rw [hy324]; with_reducible exact H) | (have H2_ := (Option.bind_some _ _).symm.trans H; rw [hy324]; with_reducible exact H2_) | (have H2_ := (Option.bind_some _ _).symm.trans H; with_reducible exact H2_) | with_reducible exact H | (rw [hy324]; exact H) | exact H
         have Ny324 := qac.mk hy324
         clear hy324
         have H' := qac.mk H
         clear H
         have hcz15_0 : wc.cell? ⟨gb320, 0, none⟩ = some (.slice A0_0 l0_0.length c0_0) := (qaa BK320.out 0).trans rfl
         have hcz15_1 : wc.cell? ⟨gb320, 1, none⟩ = some (.slice A0_1 l0_1.length c0_1) := (qaa BK320.out 1).trans rfl
         have hcz15_2 : wc.cell? ⟨gb320, 2, none⟩ = some (.slice A0_2 l0_2.length c0_2) := (qaa BK320.out 2).trans rfl
         have hfz15_0 := qab BK320.out 0
         have hfz15_1 := qab BK320.out 1
         have hfz15_2 := qab BK320.out 2
         go_wp2_with (first | ((with_reducible refine gate_builtin (b := .append) (xs := #[.tmp 42, .tmp 46]) rfl ?_); (try (refine gate_guard (by rfl) ?_; dsimp only)); at_builtin; refine Kd.R_append (Kd.int .i64) (w0 := w) w.heap.size rfl (.tmp 42) (.tmp 46) 47 3 (.int .i64 0) 8 rfl Try.underlying47 info3 rfl (by decide) (by omega) u4 x4_1 (l0_1.length : Int) [.int .i64 (l0_1.length : Int)] (fun _ => True) (fun _ => False) rfl rfl ?aP (fun _ hk => hk.elim) ?aF ?aO ?aB ?aS ?aL ?_; (case aP => exact rfl); (case aB => exact (by repeat (first | (with_reducible first | exact HB.out | apply qae | apply qad | apply qaf | refine qag ?_ GE320.out) | exact HB.out))); (case aF => exact (fun _ _ => trivial)); (case aO => exact (by (with_reducible repeat (first | apply Kd.qaz | apply Kd.qba | apply Kd.R_drew)); exact HO_4.out)); (case aS => exact (qar (by repeat (first | (with_reducible first | exact HB.out | apply qae | apply qad | apply qaf | refine qag ?_ GE320.out) | exact HB.out)))); (case aL => have := LMc14.out; omega); intro v325 w16 ho hb hg hat; rw [← Ny324.out] at ho; have n0_ := qac.mk (blk_grown (g := gb320) (o := .cells #[.slice A0_0 l0_0.length c0_0, .slice A0_1 l0_1.length c0_1, .slice A0_2 l0_2.length c0_2] 26 (0, 0)) (by (with_reducible repeat (first | refine qak ?_ _ | refine qap ?_ | refine qaj ?_ _)); exact BK320.out) hg (Kd.R_ne HO_4.out BK320.out (by decide))); have n1_ := qac.mk (hb); have n2_ := qac.mk (ho); clear BK320; clear HB; clear HO_4; have BK320 := n0_; have HB := n1_; have HO326 := n2_; clear n0_ n1_ n2_; clear ho hb hg hat))
         go_roundg kj4
         case measure => have := HK1.out; have := HJ4.out; omega
         case rel => exact ⟨(y324), (wrap64 (x5_1 + 1)), (by first | rfl | (simp; done) | (simp [*]; done)), H', ⟨by have := HK1.out; have := HJ4.out; omega⟩, ⟨by (with_reducible repeat (first | apply Kd.qaz | apply Kd.qba | apply Kd.R_drew)); exact HO326.out⟩, ⟨by (with_reducible repeat (first | refine qak ?_ _ | refine qap ?_ | refine qaj ?_ _)); exact BK320.out⟩, ⟨by repeat (first | (with_reducible first | exact HB.out | apply qae | apply qad | apply qaf | refine qag ?_ GE320.out) | exact HB.out)⟩⟩
        ·
         rw [if_neg c14] at H
         exact absurd H (by simp)
       ·
        rw [if_neg c13] at H
        have c13b0 : decide (t321 < 0) = false := decide_eq_false c13
        clear c13
        by_cases c17 : x4_1.length < 17592186044416
        ·
         rw [if_pos c17] at H
         have LMc17 := qac.mk c17
         clear c17
         obtain ⟨y327, hy327⟩ : ∃ y_ : List Int, y_ = (x4_1 ++ [wrap64 (t321 - 1)]) := ⟨_, rfl⟩
         replace H : (taliklaw04_dues.l0 kj4 y327 (wrap64 (x5_1 + 1)) l0_0 l0_1 l0_2) = some (r1, r2) := by first | (rw [hy327]; with_reducible exact H) | (have H2_ := (Option.bind_some _ _).symm.trans H; rw [hy327]; with_reducible exact H2_) | (have H2_ := (Option.bind_some _ _).symm.trans H; with_reducible exact H2_) | with_reducible exact H | (rw [hy327]; exact H) | exact H
         have Ny327 := qac.mk hy327
         clear hy327
         have H' := qac.mk H
         clear H
         go_wp2_with (first | ((with_reducible refine gate_builtin (b := .append) (xs := #[.tmp 48, .tmp 51]) rfl ?_); (try (refine gate_guard (by rfl) ?_; dsimp only)); at_builtin; refine Kd.R_append (Kd.int .i64) (w0 := w) w.heap.size rfl (.tmp 48) (.tmp 51) 47 3 (.int .i64 0) 8 rfl Try.underlying47 info3 rfl (by decide) (by omega) u4 x4_1 (wrap64 (t321 - 1)) [.int .i64 (wrap64 (t321 - 1))] (fun _ => True) (fun _ => False) rfl rfl ?aP (fun _ hk => hk.elim) ?aF ?aO ?aB ?aS ?aL ?_; (case aP => exact rfl); (case aB => exact (by repeat (first | (with_reducible first | exact HB.out | apply qae | apply qad | apply qaf | refine qag ?_ GE320.out) | exact HB.out))); (case aF => exact (fun _ _ => trivial)); (case aO => exact (by (with_reducible repeat (first | apply Kd.qaz | apply Kd.qba | apply Kd.R_drew)); exact HO_4.out)); (case aS => exact (qar (by repeat (first | (with_reducible first | exact HB.out | apply qae | apply qad | apply qaf | refine qag ?_ GE320.out) | exact HB.out)))); (case aL => have := LMc17.out; omega); intro v328 w18 ho hb hg hat; rw [← Ny327.out] at ho; have n0_ := qac.mk (blk_grown (g := gb320) (o := .cells #[.slice A0_0 l0_0.length c0_0, .slice A0_1 l0_1.length c0_1, .slice A0_2 l0_2.length c0_2] 26 (0, 0)) (by (with_reducible repeat (first | refine qak ?_ _ | refine qap ?_ | refine qaj ?_ _)); exact BK320.out) hg (Kd.R_ne HO_4.out BK320.out (by decide))); have n1_ := qac.mk (hb); have n2_ := qac.mk (ho); clear BK320; clear HB; clear HO_4; have BK320 := n0_; have HB := n1_; have HO329 := n2_; clear n0_ n1_ n2_; clear ho hb hg hat))
         go_roundg kj4
         case measure => have := HK1.out; have := HJ4.out; omega
         case rel => exact ⟨(y327), (wrap64 (x5_1 + 1)), (by first | rfl | (simp; done) | (simp [*]; done)), H', ⟨by have := HK1.out; have := HJ4.out; omega⟩, ⟨by (with_reducible repeat (first | apply Kd.qaz | apply Kd.qba | apply Kd.R_drew)); exact HO329.out⟩, ⟨by (with_reducible repeat (first | refine qak ?_ _ | refine qap ?_ | refine qaj ?_ _)); exact BK320.out⟩, ⟨by repeat (first | (with_reducible first | exact HB.out | apply qae | apply qad | apply qaf | refine qag ?_ GE320.out) | exact HB.out)⟩⟩
        ·
         rw [if_neg c17] at H
         exact absurd H (by simp)
   ·
    rw [if_neg c3] at H
    have c3b0 : decide (x5_1 < (l0_0.length : Int)) = false := decide_eq_false c3
    clear c3
    simp only [Option.some.injEq, Prod.mk.injEq] at H
    obtain ⟨rfl, rfl⟩ := H
    have hcz19_0 : wr.cell? ⟨gb320, 0, none⟩ = some (.slice A0_0 l0_0.length c0_0) := (qaa BK320.out 0).trans rfl
    have hcz19_1 : wr.cell? ⟨gb320, 1, none⟩ = some (.slice A0_1 l0_1.length c0_1) := (qaa BK320.out 1).trans rfl
    have hcz19_2 : wr.cell? ⟨gb320, 2, none⟩ = some (.slice A0_2 l0_2.length c0_2) := (qaa BK320.out 2).trans rfl
    have hfz19_0 := qab BK320.out 0
    have hfz19_1 := qab BK320.out 1
    have hfz19_2 := qab BK320.out 2
    go_wp2
    go_ret2
    exact ⟨_, by first | rfl | (simp [qas, qat] <;> rfl) | (simp [*, qas, qat] <;> rfl), by (with_reducible repeat (first | apply Kd.qaz | apply Kd.qba | apply Kd.R_drew)); exact HO_4.out, by repeat (first | (with_reducible first | exact HB.out | apply qae | apply qad | apply qaf | refine qag ?_ GE320.out) | exact HB.out)⟩
end Go.Proofs.Ytipphcjgdebecaa.PA
namespace Go.Proofs.Ytipphcjgdebecaa.PA
open Go.RowKit Go.Proofs.YtipphcjgdebecaaW.PrintWords Go.Proofs.YtipphcjgdebecaaW.PrintLast Go.Proofs.YtipphcjgdebecaaW.PrintMore
attribute [local go_sem] max2_int min2_int max_two min_two max_three min_three max_four min_four
mutual
def talikref04_Before.l0 : Nat → List Int → List Int → Int → Option (Bool)
 | 0, _, _, _ => none
 | k + 1, x0, x1, x5 => if x5 < (x0.length : Int) then (talikref04_Before.j1 k x0 x1 x5 (decide (x5 < (x1.length : Int)))) else (talikref04_Before.j1 k x0 x1 x5 false)
def talikref04_Before.j1 : Nat → List Int → List Int → Int → Bool → Option (Bool)
 | 0, _, _, _, _ => none
 | k + 1, x0, x1, x5, x15 => if x15 = true then (if 0 ≤ x5 then (if x5 < (x0.length : Int) then (if x5 < (x1.length : Int) then (if (rd x0 x5) = (rd x1 x5) then (talikref04_Before.l0 k x0 x1 (wrap64 (x5 + 1))) else (some (decide ((rd x0 x5) < (rd x1 x5))))) else (none)) else (none)) else (none)) else (some false)
end
def talikref04_Before.f (k : Nat) (l0 : List Int) (l1 : List Int) : Option (Bool) := talikref04_Before.l0 k l0 l1 0
set_option maxHeartbeats 8000000 in
set_option maxRecDepth 100000 in
theorem talikref04_Before.calls (k : Nat) (A0 : Option Addr) (c0 : Nat) (l0 : List Int) (A1 : Option Addr) (c1 : Nat) (l1 : List Int) (r : Bool) (w : World) (hr0 : Kd.C (Kd.int .i64) w A0 l0.length l0) (hc0 : l0.length ≤ c0) (hr1 : Kd.C (Kd.int .i64) w A1 l1.length l1) (hc1 : l1.length ≤ c1) (h : talikref04_Before.f k l0 l1 = some r) :
  Calls Try.prog 32 #[.slice A0 l0.length c0, .slice A1 l1.length c1] w fun e w' => e = .returned (.bool r) ∧ Drawn0 w w' := by
 have HR0 := qac.mk hr0
 have HC0 := qac.mk hc0
 clear hr0 hc0
 have HR1 := qac.mk hr1
 have HC1 := qac.mk hc1
 clear hr1 hc1
 have H : (talikref04_Before.l0 k l0 l1 0) = some r := h
 clear h
 have H' := qac.mk H
 clear H
 go_enter Try.func32, Try.ntmps32
 go_wp2
 repeat (go_quiet (fail); try go_wp2)
 go_loopg [5] k (fun kq v5 w' => ∃ (x5_1 : Int), v5 = .int .i64 x5_1 ∧ qac (talikref04_Before.l0 kq l0 l1 x5_1 = some r) ∧ qac (kq ≤ k) ∧ Drawn0 w w')
 case atStart => exact ⟨(0), (by first | rfl | (simp; done) | (simp [*]; done)), H', ⟨Nat.le_refl _⟩, by repeat (first | exact Drawn0.refl _ | apply Drawn0.step)⟩
 case round =>
  clear H'
  try clear c1
  try clear p2
  obtain ⟨x5_1, rfl, HA, HK1, ⟨m1, rfl⟩⟩ := hrel
  cases gk with
  | zero => exact absurd HA.out (by simp [talikref04_Before.l0])
  | succ k1 =>
   have H := HA.out
   clear HA
   simp only [talikref04_Before.l0] at H
   have HC3 := qac.mk H
   clear H
   go_upto_region 2 with (fail)
   repeat (go_quiet (fail); go_upto_region 2 with (fail))
   go_cut [15] (fun v15 wc => ∃ (kq : Nat) (x15_2 : Bool), v15 = .bool x15_2 ∧ qac (talikref04_Before.j1 kq l0 l1 x5_1 x15_2 = some r) ∧ qac (kq ≤ k1) ∧ Drawn0 w wc)
   case first =>
    have H := HC3.out
    clear HC3
    by_cases c4 : x5_1 < (l0.length : Int)
    ·
     rw [if_pos c4] at H
     have c4b0 : decide (x5_1 < (l0.length : Int)) = true := decide_eq_true c4
     clear c4
     (first | rw [c4b0] | (simp only [i64_w, i32_w]; rw [c4b0]) | skip)
     have H' := qac.mk H
     clear H
     go_wp2
     repeat (go_quiet (fail); try go_wp2)
     go_meet
     case rel => exact ⟨_, (decide (x5_1 < (l1.length : Int))), (by first | rfl | (simp; done) | (simp [*]; done)), H', ⟨by have := HK1.out; first | omega | exact Nat.le_refl _⟩, by repeat (first | exact Drawn0.refl _ | apply Drawn0.step)⟩
    ·
     rw [if_neg c4] at H
     have c4b0 : decide (x5_1 < (l0.length : Int)) = false := decide_eq_false c4
     clear c4
     (first | rw [c4b0] | (simp only [i64_w, i32_w]; rw [c4b0]) | skip)
     have H' := qac.mk H
     clear H
     go_wp2
     repeat (go_quiet (fail); try go_wp2)
     go_meet
     case rel => exact ⟨_, (false), (by first | rfl | (simp; done) | (simp [*]; done)), H', ⟨by have := HK1.out; first | omega | exact Nat.le_refl _⟩, by repeat (first | exact Drawn0.refl _ | apply Drawn0.step)⟩
   case rest =>
    clear HC3
    try clear c1
    try clear p2
    try clear c3
    try clear c4
    try clear c4b0
    try clear p2
    obtain ⟨kq, x15_2, rfl, HA, HJ2, ⟨mc2, rfl⟩⟩ := hcut
    cases kq with
    | zero => exact absurd HA.out (by simp [talikref04_Before.j1])
    | succ kj2 =>
     have H := HA.out
     clear HA
     simp only [talikref04_Before.j1] at H
     by_cases c5 : x15_2 = true
     ·
      subst c5
      have H1 : (if 0 ≤ x5_1 then (if x5_1 < (l0.length : Int) then (if x5_1 < (l1.length : Int) then (if (rd l0 x5_1) = (rd l1 x5_1) then (talikref04_Before.l0 kj2 l0 l1 (wrap64 (x5_1 + 1))) else (some (decide ((rd l0 x5_1) < (rd l1 x5_1))))) else (none)) else (none)) else (none)) = some r := by rw [if_pos rfl] at H; exact H
      clear H
      have H := H1
      clear H1
      by_cases c6 : 0 ≤ x5_1
      ·
       rw [if_pos c6] at H
       have c6b0 : decide (0 ≤ x5_1) = true := decide_eq_true c6
       clear c6
       by_cases c7 : x5_1 < (l0.length : Int)
       ·
        rw [if_pos c7] at H
        have c7b0 : decide (x5_1 < (l0.length : Int)) = true := decide_eq_true c7
        clear c7
        by_cases c8 : x5_1 < (l1.length : Int)
        ·
         rw [if_pos c8] at H
         have c8b0 : decide (x5_1 < (l1.length : Int)) = true := decide_eq_true c8
         clear c8
         by_cases c9 : (rd l0 x5_1) = (rd l1 x5_1)
         ·
          rw [if_pos c9] at H
          have c9b0 : ((rd l0 x5_1) == (rd l1 x5_1)) = true := beq_iff_eq.mpr c9
          have c9b1 : ((rd l0 x5_1) != (rd l1 x5_1)) = false := bne_eq_false_iff_eq.mpr c9
          clear c9
          have H' := qac.mk H
          clear H
          have p330 : 0 ≤ (x5_1 : Int) := of_decide_eq_true (by first | (with_reducible assumption) | assumption)
          have q330 : x5_1 < (l0.length : Int) := of_decide_eq_true (by first | (with_reducible assumption) | assumption)
          obtain ⟨ad330, e330, hx330_0⟩ := Kd.at_int HR0.out x5_1 p330 q330
          cases e330
          replace p330 := eq_true p330
          replace q330 := eq_true q330
          have p331 : 0 ≤ (x5_1 : Int) := of_decide_eq_true (by first | (with_reducible assumption) | assumption)
          have q331 : x5_1 < (l1.length : Int) := of_decide_eq_true (by first | (with_reducible assumption) | assumption)
          obtain ⟨ad331, e331, hx331_0⟩ := Kd.at_int HR1.out x5_1 p331 q331
          cases e331
          replace p331 := eq_true p331
          replace q331 := eq_true q331
          go_wp2
          repeat (go_quiet (fail); try go_wp2)
          go_roundg kj2
          case measure => have := HK1.out; have := HJ2.out; omega
          case rel => exact ⟨(wrap64 (x5_1 + 1)), (by first | rfl | (simp; done) | (simp [*]; done)), H', ⟨by have := HK1.out; have := HJ2.out; omega⟩, by repeat (first | exact Drawn0.refl _ | apply Drawn0.step)⟩
         ·
          rw [if_neg c9] at H
          have c9b0 : ((rd l0 x5_1) == (rd l1 x5_1)) = false := beq_eq_false_iff_ne.mpr c9
          have c9b1 : ((rd l0 x5_1) != (rd l1 x5_1)) = true := bne_iff_ne.mpr c9
          obtain rfl := Option.some.inj H
          have p330 : 0 ≤ (x5_1 : Int) := of_decide_eq_true (by first | (with_reducible assumption) | assumption)
          have q330 : x5_1 < (l0.length : Int) := of_decide_eq_true (by first | (with_reducible assumption) | assumption)
          obtain ⟨ad330, e330, hx330_0⟩ := Kd.at_int HR0.out x5_1 p330 q330
          cases e330
          replace p330 := eq_true p330
          replace q330 := eq_true q330
          have p331 : 0 ≤ (x5_1 : Int) := of_decide_eq_true (by first | (with_reducible assumption) | assumption)
          have q331 : x5_1 < (l1.length : Int) := of_decide_eq_true (by first | (with_reducible assumption) | assumption)
          obtain ⟨ad331, e331, hx331_0⟩ := Kd.at_int HR1.out x5_1 p331 q331
          cases e331
          replace p331 := eq_true p331
          replace q331 := eq_true q331
          have p332 : 0 ≤ (x5_1 : Int) := of_decide_eq_true (by first | (with_reducible assumption) | assumption)
          have q332 : x5_1 < (l0.length : Int) := of_decide_eq_true (by first | (with_reducible assumption) | assumption)
          obtain ⟨ad332, e332, hx332_0⟩ := Kd.at_int HR0.out x5_1 p332 q332
          obtain rfl : ad330 = ad332 := (by injection e332)
          replace p332 := eq_true p332
          replace q332 := eq_true q332
          have p333 : 0 ≤ (x5_1 : Int) := of_decide_eq_true (by first | (with_reducible assumption) | assumption)
          have q333 : x5_1 < (l1.length : Int) := of_decide_eq_true (by first | (with_reducible assumption) | assumption)
          obtain ⟨ad333, e333, hx333_0⟩ := Kd.at_int HR1.out x5_1 p333 q333
          obtain rfl : ad331 = ad333 := (by injection e333)
          replace p333 := eq_true p333
          replace q333 := eq_true q333
          go_wp2
          repeat (go_quiet (fail); try go_wp2)
          go_ret
          exact ⟨by first | rfl | (simp; done) | (simp [*]; done), by repeat (first | exact Drawn0.refl _ | apply Drawn0.step)⟩
        ·
         rw [if_neg c8] at H
         exact absurd H (by simp)
       ·
        rw [if_neg c7] at H
        exact absurd H (by simp)
      ·
       rw [if_neg c6] at H
       exact absurd H (by simp)
     ·
      replace c5 := Bool.eq_false_iff.mpr c5
      subst c5
      have H1 : (some false) = some r := by rw [if_neg (show ¬ (false = true) by decide)] at H; exact H
      clear H
      have H := H1
      clear H1
      obtain rfl := Option.some.inj H
      go_wp2
      repeat (go_quiet (fail); try go_wp2)
      go_ret
      exact ⟨by first | rfl | (simp; done) | (simp [*]; done), by repeat (first | exact Drawn0.refl _ | apply Drawn0.step)⟩
end Go.Proofs.Ytipphcjgdebecaa.PA
namespace Go.Proofs.Ytipphcjgdebecaa.PA
open Go.RowKit Go.Shelf Go.Proofs.YtipphcjgdebecaaW.PrintWords Go.Proofs.YtipphcjgdebecaaW.PrintLast Go.Proofs.YtipphcjgdebecaaW.PrintMore
attribute [local go_sem] max2_int min2_int max_two min_two max_three min_three max_four min_four
theorem sets_go (l0 : List S39) (l1 : List S37) (l2 : List (List Int)) (h5 : l0.length ≤ 8) : ∀ (m i k : Nat), i + m = l0.length → m + 1 ≤ k → talikref04_Sets.l0 k (((2 ^ i : Nat) : Int)) (i : Int) l0 l1 l2 = some (((2 ^ l0.length : Nat) : Int)) := by
 intro m
 induction m with
 | zero =>
  intro i k hi hk
  obtain ⟨k, rfl⟩ : ∃ k', k = k' + 1 := ⟨k - 1, by omega⟩
  obtain rfl : i = l0.length := by omega
  unfold talikref04_Sets.l0
  rw [if_neg (by omega)]
 | succ m ih =>
  intro i k hi hk
  obtain ⟨k, rfl⟩ : ∃ k', k = k' + 1 := ⟨k - 1, by omega⟩
  have hp : 2 ^ i ≤ 2 ^ 8 := Nat.pow_le_pow_right (n := 2) (by decide) (by omega)
  have e : wrap64 (2 * ((2 ^ i : Nat) : Int)) = ((2 ^ (i + 1) : Nat) : Int) := by
   rw [Nat.pow_succ]
   generalize 2 ^ i = p at hp ⊢
   unfold wrap64
   omega
  unfold talikref04_Sets.l0
  rw [if_pos (by omega), e, wsucc i (by omega), ih (i + 1) k (by omega) (by omega)]
theorem sets_eq (l0 : List S39) (l1 : List S37) (l2 : List (List Int)) (h5 : l0.length ≤ 8) (k : Nat) (hk : 10 ≤ k) : talikref04_Sets.f k l0 l1 l2 = some (((2 ^ l0.length : Nat) : Int)) := sets_go l0 l1 l2 h5 l0.length 0 k (by omega) (by omega)
def inFault (l0 : List S39) (f : Int) : Bool := inB f 0 (((2 ^ l0.length : Nat) : Int) - 1)
theorem rfault_eq (l0 : List S39) (l1 : List S37) (l2 : List (List Int)) (h5 : l0.length ≤ 8) (f : Int) (k : Nat) (hk : 10 ≤ k) : talikref04_Fault.f k l0 l1 l2 f = some (inFault l0 f) := by
 have hp : 2 ^ l0.length ≤ 2 ^ 8 := Nat.pow_le_pow_right (n := 2) (by decide) (by omega)
 have h0 : 0 < 2 ^ l0.length := Nat.pow_pos (by decide)
 unfold talikref04_Fault.f
 rw [sets_eq l0 l1 l2 h5 k hk]
 simp only [Option.bind_some]
 rw [rin_eq]
 unfold inFault
 generalize 2 ^ l0.length = p at hp h0 ⊢
 rw [wrap_id (by omega) (by omega)]
 rfl
theorem fault_same (l0 : List S39) (h5 : l0.length ≤ 5) (f : Int) : faultB l0 f = inFault l0 f := by
 have hp : 2 ^ l0.length ≤ 2 ^ 5 := Nat.pow_le_pow_right (n := 2) (by decide) h5
 have h0 : 0 < 2 ^ l0.length := Nat.pow_pos (by decide)
 unfold faultB inFault
 rw [shl_powN _ h5]
 generalize 2 ^ l0.length = p at hp h0 ⊢
 rw [wrap_id (by omega) (by omega)]
theorem rplace_eq (l0 : List S39) (l1 : List S37) (l2 : List (List Int)) (a : Int) : talikref04_Place.f l0 l1 l2 a = some (inB a 0 l0.length) := by
 unfold talikref04_Place.f
 rw [rin_eq]
 rfl
def halfV : Nat → Int → Int
 | 0, x => x
 | n + 1, x => halfV n (Int.tdiv x 2)
theorem has_go : ∀ (n k : Nat) (x j i : Int), i + n = j → 0 ≤ i → j ≤ 100 → 0 ≤ x → x ≤ 1000 → n + 1 ≤ k → talikref04_Has.l0 k x j i = some (Int.tmod (halfV n x) 2 == 1) := by
 intro n
 induction n with
 | zero =>
  intro k x j i hi h0 hj x0 x1 hk
  obtain ⟨k, rfl⟩ : ∃ k', k = k' + 1 := ⟨k - 1, by omega⟩
  unfold talikref04_Has.l0
  rw [if_neg (by omega)]
  rfl
 | succ n ih =>
  intro k x j i hi h0 hj x0 x1 hk
  obtain ⟨k, rfl⟩ : ∃ k', k = k' + 1 := ⟨k - 1, by omega⟩
  have e : Int.tdiv x 2 = x / 2 := Int.tdiv_eq_ediv_of_nonneg x0
  unfold talikref04_Has.l0
  rw [if_pos (by omega), e, wrap_id (x := x / 2) (by omega) (by omega), wrap_id (x := i + 1) (by omega) (by omega), ih k (x / 2) j (i + 1) (by omega) (by omega) hj (by omega) (by omega) (by omega)]
  simp only [halfV, e]
theorem half_table : (List.range 32).all (fun f => (List.range 5).all fun i => (Int.tmod (halfV i (f : Int)) 2 == 1) == bitB (f : Int) i) = true := by kernel_rfl
theorem has_eq (f : Int) (f0 : 0 ≤ f) (f1 : f < 32) (i : Nat) (hi : i < 5) (k : Nat) (hk : 10 ≤ k) : talikref04_Has.f k f (i : Int) = some (bitB f i) := by
 obtain ⟨n, rfl⟩ := Int.eq_ofNat_of_zero_le f0
 have h := has_go i k (n : Int) (i : Int) 0 (by omega) (by omega) (by omega) (by omega) (by omega) (by omega)
 have ht := List.all_eq_true.1 (List.all_eq_true.1 half_table n (by simp; omega)) i (by simp; omega)
 unfold talikref04_Has.f
 rw [h, eq_of_beq ht]
theorem bit_mem (f : Int) (i : Nat) (hi : i < 5) : bitB f i = true ↔ (i : Int) ∈ qay f 5 := by
 rw [mem_loopsOf]
 constructor
 ·
  intro h
  exact ⟨i, rfl, hi, h⟩
 ·
  rintro ⟨k, e, _, h⟩
  obtain rfl : i = k := by omega
  exact h
theorem loops_in {f : Int} {n : Nat} (h5 : n ≤ 5) (f0 : 0 ≤ f) (f1 : f < ((2 ^ n : Nat) : Int)) : ∀ i ∈ qay f 5, 0 ≤ i ∧ i < n := by
 obtain ⟨x, rfl⟩ := Int.eq_ofNat_of_zero_le f0
 intro i hi
 obtain ⟨k, rfl, _, _⟩ := (mem_loopsOf _ 5 i).1 hi
 exact ⟨by omega, loops_low h5 (by omega) _ hi⟩
theorem perm_of : ∀ (o L : List Int), o.Nodup → (∀ x ∈ o, x ∈ L) → o.length = L.length → o.Perm L
 | [], L, _, _, hl => by
  have : L = [] := List.length_eq_zero_iff.1 (by simpa using hl.symm)
  rw [this]
 | x :: t, L, hn, hs, hl => by
  obtain ⟨h1, h2⟩ := List.nodup_cons.1 hn
  have hx := hs x (by simp)
  refine List.cons_perm_iff_perm_erase.2 ⟨hx, perm_of t (L.erase x) h2 (fun y hy => ?_) ?_⟩
  ·
   exact (List.mem_erase_of_ne (fun e => h1 (by rw [← e]; exact hy))).2 (hs y (by simp [hy]))
  ·
   rw [List.length_erase_of_mem hx]
   simp only [List.length_cons] at hl
   omega
theorem loops_table : (List.range 6).all (fun n => (List.range (2 ^ n)).all fun f => decide (qay (f : Int) 5 = qay (f : Int) n)) = true := by kernel_rfl
def rB (n : Nat) (f : Int) (last : Bool) : List Int → List Int → Bool
 | _, [] => last
 | pre, x :: t => (inB x 0 ((n : Int) - 1) && bitB f x) && (pre.all (fun y => y != x) && rB n f last (pre ++ [x]) t)
section
variable (l0 : List S39) (l1 : List S37) (l2 : List (List Int)) (f : Int) (o : List Int)
theorem ord2_go (c : Int) (i : Nat) (hi : i < o.length) (ho : o.length ≤ 100) (b : Bool) (K : Nat) (hb : ∀ k, K ≤ k → talikref04_IsOrder.l1 k f o c ((i + 1 : Nat) : Int) l0 l1 l2 = some b) :
  ∀ (m j k : Nat), j + m = i → m + 1 + K ≤ k → talikref04_IsOrder.l2 k f o c (i : Int) (j : Int) l0 l1 l2 = some (((o.take i).drop j).all (fun y => y != o[i]) && b) := by
 intro m
 induction m with
 | zero =>
  intro j k hj hk
  obtain ⟨k, rfl⟩ : ∃ k', k = k' + 1 := ⟨k - 1, by omega⟩
  unfold talikref04_IsOrder.l2
  rw [if_neg (by omega), wsucc i (by omega), hb k (by omega), List.drop_eq_nil_of_le (by simp; omega)]
  simp
 | succ m ih =>
  intro j k hj hk
  obtain ⟨k, rfl⟩ : ∃ k', k = k' + 1 := ⟨k - 1, by omega⟩
  have hjl : j < o.length := by omega
  have hjt : j < (o.take i).length := by simp; omega
  have e1 : rd o (j : Int) = o[j] := by simp [rd, hjl]
  have e2 : rd o (i : Int) = o[i] := by simp [rd, hi]
  unfold talikref04_IsOrder.l2
  rw [if_pos (by omega), if_pos (by omega), if_pos (by omega), if_pos (by omega), if_pos (by omega), e1, e2, List.drop_eq_getElem_cons hjt, show (o.take i)[j] = o[j] from by simp, List.all_cons]
  by_cases he : o[j] = o[i]
  ·
   rw [if_pos he]
   simp [he]
  ·
   have hn : (o[j] != o[i]) = true := by simp [he]
   rw [if_neg he, wsucc j (by omega), ih (j + 1) k (by omega) (by omega), hn]
   simp
theorem ord1_go (f0 : 0 ≤ f) (f1 : f < 32) (hn1 : 1 ≤ l0.length) (hn : l0.length ≤ 5) (ho : o.length ≤ 8) (c : Int) :
  ∀ (m i k : Nat), i + m = o.length → 12 * m + 14 ≤ k → talikref04_IsOrder.l1 k f o c (i : Int) l0 l1 l2 = some (rB l0.length f ((o.length : Int) == c) (o.take i) (o.drop i)) := by
 intro m
 induction m with
 | zero =>
  intro i k hi hk
  obtain ⟨k, rfl⟩ : ∃ k', k = k' + 1 := ⟨k - 1, by omega⟩
  unfold talikref04_IsOrder.l1
  rw [if_neg (by omega), List.drop_eq_nil_of_le (by omega)]
  rfl
 | succ m ih =>
  intro i k hi hk
  obtain ⟨k, rfl⟩ : ∃ k', k = k' + 2 := ⟨k - 2, by omega⟩
  have hil : i < o.length := by omega
  have e : rd o (i : Int) = o[i] := by simp [rd, hil]
  unfold talikref04_IsOrder.l1
  rw [if_pos (by omega), if_pos (by omega), e, isloop_eq, wrap_id (by omega) (by omega), List.drop_eq_getElem_cons hil]
  simp only [Option.bind_some, rB]
  cases hin : inB o[i] 0 ((l0.length : Int) - 1) with
  | false =>
   rw [if_neg (by simp), talikref04_IsOrder.j2, if_pos rfl]
   simp
  | true =>
   have hin' := hin
   unfold inB at hin'
   simp only [Bool.and_eq_true, decide_eq_true_eq] at hin'
   obtain ⟨x, hx⟩ := Int.eq_ofNat_of_zero_le hin'.1
   have hxl : x < 5 := by omega
   rw [if_pos rfl, hx, has_eq f f0 f1 x hxl (k + 1) (by omega)]
   simp only [Option.bind_some]
   cases hb : bitB f (x : Int) with
   | false =>
    rw [talikref04_IsOrder.j2, if_pos (by rfl)]
    simp
   | true =>
    rw [talikref04_IsOrder.j2, if_neg (by decide)]
    have h2 := ord2_go l0 l1 l2 f o c i hil (by omega) _ (12 * m + 14) (fun k hk => ih (i + 1) k (by omega) hk) i 0 k (by omega) (by omega)
    rw [show (0 : Int) = ((0 : Nat) : Int) from rfl, h2, hx, List.drop_zero, List.take_succ_eq_append_getElem hil, hx]
    simp
theorem ord0_go (f0 : 0 ≤ f) (f1 : f < 32) (hn1 : 1 ≤ l0.length) (hn : l0.length ≤ 5) (ho : o.length ≤ 8) :
  ∀ (m i k : Nat), i + m = l0.length → m + 12 * o.length + 16 ≤ k → talikref04_IsOrder.l0 k f o ((qay f i).length : Int) (i : Int) l0 l1 l2 = some (rB l0.length f ((o.length : Int) == ((qay f l0.length).length : Int)) [] o) := by
 intro m
 induction m with
 | zero =>
  intro i k hi hk
  obtain ⟨k, rfl⟩ : ∃ k', k = k' + 1 := ⟨k - 1, by omega⟩
  obtain rfl : i = l0.length := by omega
  unfold talikref04_IsOrder.l0
  have h := ord1_go l0 l1 l2 f o f0 f1 hn1 hn ho ((qay f l0.length).length : Int) o.length 0 k (by omega) (by omega)
  rw [if_neg (by omega), show (0 : Int) = ((0 : Nat) : Int) from rfl, h]
  simp
 | succ m ih =>
  intro i k hi hk
  obtain ⟨k, rfl⟩ : ∃ k', k = k' + 1 := ⟨k - 1, by omega⟩
  have hcl : ∀ n, (qay f n).length ≤ n := by
   intro n
   induction n with
   | zero => simp [qay]
   | succ n ih =>
    unfold qay
    split
    ·
     simp only [List.length_append, List.length_singleton]
     omega
    ·
     omega
  have hc := hcl i
  unfold talikref04_IsOrder.l0
  rw [if_pos (by omega), has_eq f f0 f1 i (by omega) k (by omega)]
  simp only [Option.bind_some]
  cases hb : bitB f (i : Int) with
  | false =>
   have e := loopsOf_no f i hb
   have h := ih (i + 1) k (by omega) (by omega)
   rw [e] at h
   rw [if_neg (by simp), wsucc i (by omega), h]
  | true =>
   have e := loopsOf_yes f i hb
   have h := ih (i + 1) k (by omega) (by omega)
   rw [e] at h
   rw [if_pos rfl, wsucc i (by omega), wsucc _ (by omega)]
   simpa using h
theorem rB_iff (n : Nat) (last : Bool) : ∀ (t pre : List Int), rB n f last pre t = true ↔ (∀ x ∈ t, inB x 0 ((n : Int) - 1) = true ∧ bitB f x = true) ∧ t.Nodup ∧ (∀ x ∈ t, x ∉ pre) ∧ last = true
 | [], pre => by simp [rB]
 | x :: t, pre => by
  simp only [rB, Bool.and_eq_true, rB_iff n last t (pre ++ [x]), List.all_eq_true, bne_iff_ne, ne_eq, List.nodup_cons, List.mem_cons, forall_eq_or_imp]
  constructor
  ·
   rintro ⟨h1, h2, h3, h4, h5, h6⟩
   refine ⟨⟨h1, h3⟩, ⟨fun hx => ?_, h4⟩, ⟨fun hx => h2 x hx rfl, fun y hy hp => h5 y hy (by simp [hp])⟩, h6⟩
   exact h5 x hx (by simp)
  ·
   rintro ⟨⟨h1, h3⟩, ⟨h4, h5⟩, ⟨h6, h7⟩, h8⟩
   refine ⟨h1, fun y hy he => h6 (he ▸ hy), h3, h5, fun y hy hp => ?_, h8⟩
   rcases List.mem_append.1 hp with hp | hp
   ·
    exact h7 y hy hp
   ·
    have : y = x := by simpa using hp
    exact h4 (this ▸ hy)
theorem isOrder_eq (hn1 : 1 ≤ l0.length) (hn : l0.length ≤ 5) (f0 : 0 ≤ f) (f1 : f < ((2 ^ l0.length : Nat) : Int)) (ho : o.length ≤ 8) (k : Nat) (hk : 130 ≤ k) :
  ∃ b, talikref04_IsOrder.f k l0 l1 l2 f o = some b ∧ (b = true ↔ o.Perm (qay f 5)) := by
 have hp : 2 ^ l0.length ≤ 2 ^ 5 := Nat.pow_le_pow_right (n := 2) (by decide) hn
 have h := ord0_go l0 l1 l2 f o f0 (by omega) hn1 hn ho l0.length 0 k (by omega) (by omega)
 refine ⟨_, h, ?_⟩
 obtain ⟨x, rfl⟩ := Int.eq_ofNat_of_zero_le f0
 have ht := List.all_eq_true.1 (List.all_eq_true.1 loops_table l0.length (by simp; omega)) x (by simp; omega)
 have ht' := of_decide_eq_true ht
 rw [rB_iff, ← ht']
 constructor
 ·
  rintro ⟨h1, h2, _, h4⟩
  refine perm_of o _ h2 (fun y hy => ?_) ?_
  ·
   obtain ⟨a, b⟩ := h1 y hy
   unfold inB at a
   simp only [Bool.and_eq_true, decide_eq_true_eq] at a
   obtain ⟨z, rfl⟩ := Int.eq_ofNat_of_zero_le a.1
   exact (bit_mem _ z (by omega)).1 b
  ·
   have := eq_of_beq h4
   omega
 ·
  intro hp'
  refine ⟨fun y hy => ?_, (List.Perm.nodup_iff hp').2 (nodup_loopsOf _ 5), fun y _ hm => by simp at hm, ?_⟩
  ·
   have hm := (List.Perm.mem_iff hp').1 hy
   obtain ⟨a, b⟩ := loops_in hn f0 f1 y hm
   obtain ⟨z, rfl⟩ := Int.eq_ofNat_of_zero_le a
   refine ⟨?_, (bit_mem _ z (by omega)).2 hm⟩
   unfold inB
   simp
   omega
  ·
   have := hp'.length_eq
   rw [this]
   simp
end
theorem bok_ways {l0 : List S39} {l1 : List S37} {l2 : List (List Int)} (h : NetOk l0 l1 l2) (p i : Int) (p0 : 0 ≤ p) (p1 : p ≤ l0.length) (i0 : 0 ≤ i) (i1 : i < l0.length) : 0 ≤ rd (rd_L1 l2 p) (i + 1) ∧ rd (rd_L1 l2 p) (i + 1) ≤ 72 ∧ (rd_L1 l2 p).length = l0.length + 1 := by
 obtain ⟨n, rfl⟩ := Int.eq_ofNat_of_zero_le p0
 have hm := h.m
 have hn : n < l2.length := by omega
 obtain ⟨h1, _, h3⟩ := h.ways n hn
 rw [rd_L1_at l2 n hn]
 have hj : (i + 1).toNat < l2[n].length := by omega
 have e : rd l2[n] (i + 1) = l2[n][(i + 1).toNat] := by simp [rd, hj]
 rw [e]
 have := h3 _ (List.getElem_mem hj)
 exact ⟨this.1, this.2, h1⟩
theorem frz_bd : ∀ (l : List S37) (h can : Int), (frz l h can).1 = can ∨ (h + 1 ≤ (frz l h can).1 ∧ (frz l h can).1 ≤ h + l.length)
 | [], h, can => .inl rfl
 | s :: t, h, can => by
  simp only [frz, List.length_cons]
  split
  ·
   dsimp only
   split
   ·
    right
    omega
   ·
    exact .inl rfl
  ·
   rcases frz_bd t (h + 1) (if s.f0 = 0 ∧ can < 0 then h + 1 else can) with he | ⟨h1, h2⟩
   ·
    rw [he]
    split
    ·
     right
     omega
    ·
     exact .inl rfl
   ·
    right
    omega
def canV (l0 : List S39) (l1 : List S37) (i : Int) : Int := (frz (warmthV l0 l1 0 i) 0 (-1)).1
theorem can_bd (l0 : List S39) (l1 : List S37) (i : Int) : canV l0 l1 i = -1 ∨ (1 ≤ canV l0 l1 i ∧ canV l0 l1 i ≤ l1.length) := by
 have h := frz_bd (warmthV l0 l1 0 i) 0 (-1)
 have e : (warmthV l0 l1 0 i).length = l1.length := by simp [warmthV]
 rw [e] at h
 unfold canV
 omega
def dueI (l0 : List S39) (l1 : List S37) (i : Int) : Int := if canV l0 l1 i < 0 then l1.length else canV l0 l1 i - 1
theorem due_eq (l0 : List S39) (l1 : List S37) (l2 : List (List Int)) (i : Int) (h0 : 0 ≤ i) (h1 : i < l0.length) (hn : l1.length ≤ 1000) : (pipe_net_due.f l0 l1 l2 0 i).getD 0 = dueI l0 l1 i := by
 unfold pipe_net_due.f pipe_net_freezes.f
 rw [if_pos ⟨h0, h1, by decide, hn⟩]
 have hb := can_bd l0 l1 i
 simp only [Option.bind_some]
 show Option.getD (if canV l0 l1 i ≥ 0 then some (wrap64 (canV l0 l1 i - 1)) else some (l1.length : Int)) 0 = _
 unfold dueI
 by_cases hc : canV l0 l1 i < 0
 ·
  rw [if_neg (by omega), if_pos hc]
  rfl
 ·
  rw [if_pos (by omega), if_neg hc, wrap_id (by omega) (by omega)]
  rfl
def duesI (l0 : List S39) (l1 : List S37) : List Int := (List.range l0.length).map fun i : Nat => dueI l0 l1 (i : Int)
theorem dues_same (l0 : List S39) (l1 : List S37) (l2 : List (List Int)) (hn : l1.length ≤ 1000) : duesV l0 l1 l2 0 l0.length = duesI l0 l1 := by
 unfold duesV duesI
 refine List.map_congr_left fun i hi => ?_
 exact due_eq l0 l1 l2 i (by omega) (by have := List.mem_range.1 hi; omega) hn
theorem rd_duesI (l0 : List S39) (l1 : List S37) (i : Int) (h0 : 0 ≤ i) (h1 : i < l0.length) : rd (duesI l0 l1) i = dueI l0 l1 i := by
 obtain ⟨n, rfl⟩ := Int.eq_ofNat_of_zero_le h0
 have hn : n < l0.length := by omega
 simp [rd, duesI, hn]
theorem bok {l0 : List S39} {l1 : List S37} {l2 : List (List Int)} (h : NetOk l0 l1 l2) : BOk l0 l1 l2 (duesI l0 l1) := by
 refine ⟨fun p i p0 p1 i0 i1 => ?_, fun i i0 i1 => ?_, fun i i0 i1 => ?_, ⟨h.h0, h.h1⟩⟩
 ·
  have := bok_ways h p i p0 p1 i0 i1
  exact ⟨this.1, this.2.1⟩
 ·
  have hL := h.loops _ (rdT39_mem i0 i1)
  have a := hL.x0
  have b := hL.x1
  have c := hL.x2
  omega
 ·
  rw [rd_duesI l0 l1 i i0 i1]
  have hb := can_bd l0 l1 i
  have h0 := h.h0
  unfold dueI
  split <;> omega
theorem slack_go {l0 : List S39} {l1 : List S37} {l2 : List (List Int)} {D : List Int} (hN : NetOk l0 l1 l2) (hB : BOk l0 l1 l2 D) (hD : D.length = l0.length) (o : List Int) (ho : o.length ≤ 8) (hr : ∀ x ∈ o, 0 ≤ x ∧ x < l0.length) :
  ∀ (m i k : Nat) (at_ hour out : Int), i + m = o.length → 1 ≤ i → 0 ≤ at_ → at_ ≤ l0.length → 0 ≤ hour → hour ≤ 200 * i → out ≤ 100 → m + 1 ≤ k →
   talikref04_Slack.l0 k D o out at_ hour (i : Int) l0 l1 l2 = some (min out (sl l0 l2 D l1.length at_ hour (o.drop i)) ) ∨ (l1.length : Int) < out := by
 intro m
 induction m with
 | zero =>
  intro i k at_ hour out hi h1 a0 a1 b0 b1 c1 hk
  obtain ⟨k, rfl⟩ : ∃ k', k = k' + 1 := ⟨k - 1, by omega⟩
  by_cases hc : (l1.length : Int) < out
  ·
   exact .inr hc
  ·
   left
   unfold talikref04_Slack.l0
   rw [if_neg (by omega), List.drop_eq_nil_of_le (by omega)]
   simp only [sl]
   congr 1
   omega
 | succ m ih =>
  intro i k at_ hour out hi h1 a0 a1 b0 b1 c1 hk
  obtain ⟨k, rfl⟩ : ∃ k', k = k' + 1 := ⟨k - 1, by omega⟩
  by_cases hc : (l1.length : Int) < out
  ·
   exact .inr hc
  ·
   left
   have hil : i < o.length := by omega
   have hlen := hB.len
   obtain ⟨x, hx⟩ : ∃ x, x = o[i] := ⟨_, rfl⟩
   have e : rd o (i : Int) = x := by rw [hx]; simp [rd, hil]
   obtain ⟨x0, x1⟩ := hr x (by rw [hx]; exact List.getElem_mem hil)
   obtain ⟨w0, w1, w2⟩ := bok_ways hN at_ x a0 a1 x0 x1
   obtain ⟨f0, f1⟩ := hB.fix x x0 x1
   obtain ⟨d0, d1⟩ := hB.due x x0 x1
   have hm := hN.m
   have hn1 := hN.n1
   unfold talikref04_Slack.l0
   rw [e, wrap_id (x := x + 1) (by omega) (by omega), List.drop_eq_getElem_cons hil, ← hx]
   simp only [sl]
   generalize rd (rd_L1 l2 at_) (x + 1) = wy at *
   generalize (qah l0 x).f7.f1 = fx at *
   rw [wrap_id (x := hour + wy) (by omega) (by omega), wrap_id (x := hour + wy + fx) (by omega) (by omega), wrap_id (x := rd D x - (hour + wy + fx)) (by omega) (by omega), wsucc i (by omega),
    if_pos (by omega), if_pos (by omega), if_pos (by omega), if_pos (by omega), if_pos (by omega), if_pos (by omega), if_pos (by omega), if_pos (by omega), if_pos (by omega), if_neg (by omega)]
   by_cases hlt : rd D x - (hour + wy + fx) < out
   ·
    rw [if_pos hlt]
    rcases ih (i + 1) k (x + 1) (hour + wy + fx) (rd D x - (hour + wy + fx)) (by omega) (by omega) (by omega) (by omega) (by omega) (by omega) (by omega) (by omega) with h | h
    ·
     rw [h]
     congr 1
     omega
    ·
     omega
   ·
    rw [if_neg hlt]
    rcases ih (i + 1) k (x + 1) (hour + wy + fx) out (by omega) (by omega) (by omega) (by omega) (by omega) (by omega) (by omega) (by omega) with h | h
    ·
     rw [h]
     congr 1
     omega
    ·
     omega
theorem slack_eq {l0 : List S39} {l1 : List S37} {l2 : List (List Int)} {D : List Int} (hN : NetOk l0 l1 l2) (hB : BOk l0 l1 l2 D) (hD : D.length = l0.length) (o : List Int) (ho : o.length ≤ 8) (hr : ∀ x ∈ o, 0 ≤ x ∧ x < l0.length) (a : Int) (a0 : 0 ≤ a) (a1 : a ≤ l0.length) (k : Nat) (hk : 12 ≤ k) :
  talikref04_Slack.f k l0 l1 l2 D a o = some (sl l0 l2 D l1.length a 0 o) := by
 obtain ⟨k, rfl⟩ : ∃ k', k = k' + 1 := ⟨k - 1, by omega⟩
 unfold talikref04_Slack.f
 cases o with
 | nil =>
  unfold talikref04_Slack.l0
  rw [if_neg (by simp)]
  rfl
 | cons x t =>
  obtain ⟨x0, x1⟩ := hr x (by simp)
  have hlen := hB.len
  have hm := hN.m
  have hn1 := hN.n1
  obtain ⟨w0, w1, w2⟩ := bok_ways hN a x a0 a1 x0 x1
  obtain ⟨f0, f1⟩ := hB.fix x x0 x1
  obtain ⟨d0, d1⟩ := hB.due x x0 x1
  have e : rd (x :: t) 0 = x := by simp [rd]
  simp only [List.length_cons] at ho
  have hgo := slack_go hN hB hD (x :: t) ho hr t.length 1 k (x + 1) (0 + rd (rd_L1 l2 a) (x + 1) + (qah l0 x).f7.f1) (rd D x - (0 + rd (rd_L1 l2 a) (x + 1) + (qah l0 x).f7.f1)) (by simp; omega) (by omega) (by omega) (by omega) (by omega) (by omega) (by omega) (by omega)
  unfold talikref04_Slack.l0
  rw [e, wrap_id (x := x + 1) (by omega) (by omega)]
  simp only [sl]
  generalize rd (rd_L1 l2 a) (x + 1) = wy at *
  generalize (qah l0 x).f7.f1 = fx at *
  rw [wrap_id (x := 0 + wy) (by omega) (by omega), wrap_id (x := 0 + wy + fx) (by omega) (by omega), wrap_id (x := rd D x - (0 + wy + fx)) (by omega) (by omega),
   if_pos (by simp only [List.length_cons]; omega), if_pos (by omega), if_pos (by omega), if_pos (by omega), if_pos (by omega), if_pos (by omega), if_pos (by omega), if_pos (by omega), if_pos (by omega)]
  first | rw [if_pos rfl] | rw [if_pos trivial]
  have e1 : wrap64 (0 + 1) = ((1 : Nat) : Int) := by unfold wrap64; omega
  rw [e1]
  rcases hgo with h | h
  ·
   rw [h]
   rfl
  ·
   omega
def beforeB : List Int → List Int → Bool
 | [], _ => false
 | _ :: _, [] => false
 | i :: t, j :: u => if i = j then beforeB t u else decide (i < j)
theorem before_go (a b : List Int) (ha : a.length ≤ 100) : ∀ (m i k : Nat), i + m = a.length → 2 * m + 2 ≤ k → talikref04_Before.l0 k a b (i : Int) = some (beforeB (a.drop i) (b.drop i)) := by
 intro m
 induction m with
 | zero =>
  intro i k hi hk
  obtain ⟨k, rfl⟩ : ∃ k', k = k' + 2 := ⟨k - 2, by omega⟩
  rw [talikref04_Before.l0, if_neg (by omega), talikref04_Before.j1, if_neg (by decide), List.drop_eq_nil_of_le (by omega)]
  rfl
 | succ m ih =>
  intro i k hi hk
  obtain ⟨k, rfl⟩ : ∃ k', k = k' + 2 := ⟨k - 2, by omega⟩
  have hil : i < a.length := by omega
  have e1 : rd a (i : Int) = a[i] := by simp [rd, hil]
  rw [talikref04_Before.l0, if_pos (by omega), List.drop_eq_getElem_cons hil]
  by_cases hib : i < b.length
  ·
   have hd : decide ((i : Int) < (b.length : Int)) = true := decide_eq_true (by omega)
   have e2 : rd b (i : Int) = b[i] := by simp [rd, hib]
   rw [hd, talikref04_Before.j1, if_pos rfl, if_pos (by omega), if_pos (by omega), if_pos (by omega), e1, e2, List.drop_eq_getElem_cons hib]
   simp only [beforeB]
   by_cases he : a[i] = b[i]
   ·
    rw [if_pos he, if_pos he, wsucc i (by omega), ih (i + 1) k (by omega) (by omega)]
   ·
    rw [if_neg he, if_neg he]
  ·
   have hd : decide ((i : Int) < (b.length : Int)) = false := decide_eq_false (by omega)
   rw [hd, talikref04_Before.j1, if_neg (by decide), show b.drop i = [] from List.drop_eq_nil_of_le (by omega)]
   rfl
theorem before_eq (a b : List Int) (ha : a.length ≤ 8) (k : Nat) (hk : 20 ≤ k) : talikref04_Before.f k a b = some (beforeB a b) := by
 have h := before_go a b (by omega) a.length 0 k (by omega) (by omega)
 simpa [talikref04_Before.f] using h
theorem lex_before : ∀ a b : List Int, lexLe a b → beforeB b a = false
 | [], b, _ => by cases b <;> rfl
 | _ :: _, [], h => h.elim
 | i :: t, j :: u, h => by
  simp only [beforeB]
  rcases h with h | ⟨rfl, h⟩
  ·
   rw [if_neg (by omega)]
   exact decide_eq_false (by omega)
  ·
   rw [if_pos rfl]
   exact lex_before t u h
theorem freezes_eq {l0 : List S39} {l1 : List S37} {l2 : List (List Int)} (hv : validB l0 l1 l2 = true) (i : Int) (h0 : 0 ≤ i) (h1 : i < l0.length) : ∃ must, pipe_Freezes.f l0 l1 l2 i = some (canV l0 l1 i, must, 0) := by
 have hN := net_ok hv
 have hn1 := hN.n1
 have hh := hN.h1
 unfold pipe_Freezes.f
 rw [show pipe_valid.f l0 l1 l2 = some (validB l0 l1 l2) from rfl, hv]
 simp only [Option.bind_some, if_true]
 rw [pipe_in_eq, (isloop_iff hN i).2 ⟨h0, h1⟩]
 simp only [Option.bind_some, if_true]
 unfold pipe_net_freezes.f
 rw [if_pos ⟨h0, h1, by decide, by omega⟩]
 exact ⟨_, rfl⟩
theorem dues_go {l0 : List S39} {l1 : List S37} {l2 : List (List Int)} (hv : validB l0 l1 l2 = true) : ∀ (m i k : Nat), i + m = l0.length → 2 * m + 1 ≤ k →
  taliklaw04_dues.l0 k ((duesI l0 l1).take i) (i : Int) l0 l1 l2 = some (duesI l0 l1, true) := by
 have hN := net_ok hv
 have hn1 := hN.n1
 have hlen : (duesI l0 l1).length = l0.length := by simp [duesI]
 intro m
 induction m with
 | zero =>
  intro i k hi hk
  obtain ⟨k, rfl⟩ : ∃ k', k = k' + 1 := ⟨k - 1, by omega⟩
  rw [taliklaw04_dues.l0, if_neg (by omega), List.take_of_length_le (by omega)]
 | succ m ih =>
  intro i k hi hk
  obtain ⟨k, rfl⟩ : ∃ k', k = k' + 2 := ⟨k - 2, by omega⟩
  have hil : i < (duesI l0 l1).length := by omega
  obtain ⟨must, hf⟩ := freezes_eq hv (i : Int) (by omega) (by omega)
  have hb := can_bd l0 l1 (i : Int)
  have hd : (duesI l0 l1)[i] = dueI l0 l1 (i : Int) := by simp [duesI]
  have htk : (duesI l0 l1).take i ++ [dueI l0 l1 (i : Int)] = (duesI l0 l1).take (i + 1) := by
   rw [List.take_succ_eq_append_getElem hil, hd]
  have hh := hN.h1
  rw [taliklaw04_dues.l0, if_pos (by omega), hf]
  simp only [Option.bind_some, if_true]
  rw [if_neg (by omega), if_neg (by omega), decide_eq_false (show ¬ canV l0 l1 i > (l1.length : Int) by omega), taliklaw04_dues.j1, if_neg (by decide)]
  have hlt : ((duesI l0 l1).take i).length < 17592186044416 := by simp; omega
  unfold dueI at htk
  by_cases hc : canV l0 l1 i < 0
  ·
   rw [if_pos hc] at htk
   rw [if_pos hc, if_pos hlt, htk, wsucc i (by omega), ih (i + 1) k (by omega) (by omega)]
  ·
   rw [if_neg hc] at htk
   rw [if_neg hc, if_pos hlt, wrap_id (x := canV l0 l1 i - 1) (by omega) (by omega), htk, wsucc i (by omega), ih (i + 1) k (by omega) (by omega)]
theorem rdues_eq {l0 : List S39} {l1 : List S37} {l2 : List (List Int)} (hv : validB l0 l1 l2 = true) (k : Nat) (hk : 20 ≤ k) : taliklaw04_dues.f k l0 l1 l2 = some (duesI l0 l1, true) := by
 have hN := net_ok hv
 have hn1 := hN.n1
 have h := dues_go hv l0.length 0 k (by omega) (by omega)
 simpa [taliklaw04_dues.f] using h
def orderV (l0 : List S39) (l1 : List S37) (l2 : List (List Int)) (a f : Int) : Way := bestV l0 l1 l2 (duesI l0 l1) ⟨a, 0, f⟩
theorem net_order_eq {l0 : List S39} {l1 : List S37} {l2 : List (List Int)} (hv : validB l0 l1 l2 = true) (a f : Int) (a0 : 0 ≤ a) (a1 : a ≤ l0.length) (f0 : 0 ≤ f) (f1 : f < ((2 ^ l0.length : Nat) : Int)) : pipe_net_order.f l0 l1 l2 0 a f = some (orderV l0 l1 l2 a f) := by
 have hN := net_ok hv
 have hh := hN.h1
 unfold pipe_net_order.f
 have e : ((2 ^ l0.length : Nat) : Int) = (2 : Int) ^ l0.length := by simp
 rw [if_pos ⟨hv, by decide, a0, a1, f0, by rw [← e]; exact f1⟩, dues_same l0 l1 l2 (by omega)]
 rfl
theorem order_eq {l0 : List S39} {l1 : List S37} {l2 : List (List Int)} (hv : validB l0 l1 l2 = true) (a f : Int) (a0 : 0 ≤ a) (a1 : a ≤ l0.length) (hf : inFault l0 f = true) (k : Nat) (hk : 1 ≤ k) :
  pipe_Order.f k l0 l1 l2 a f = some (if (orderV l0 l1 l2 a f).2.2 = true then ((orderV l0 l1 l2 a f).1, (orderV l0 l1 l2 a f).2.1, 0) else ([], 0, 5)) := by
 obtain ⟨k, rfl⟩ : ∃ k', k = k' + 1 := ⟨k - 1, by omega⟩
 have hN := net_ok hv
 have hf' := hf
 unfold inFault inB at hf'
 simp only [Bool.and_eq_true, decide_eq_true_eq] at hf'
 unfold pipe_Order.f
 rw [show pipe_valid.f l0 l1 l2 = some (validB l0 l1 l2) from rfl, hv]
 simp only [Option.bind_some, if_true]
 have hp : inB a 0 l0.length = true := by
  unfold inB
  simp
  omega
 rw [place_some, hp]
 simp only [Option.bind_some, if_true]
 rw [fault_some, fault_same l0 hN.n1, hf]
 simp only [Option.bind_some]
 rw [pipe_Order.j0, if_neg (by decide), net_order_eq hv a f a0 a1 hf'.1 (by omega)]
 simp only [Option.bind_some]
 split <;> rfl
theorem sok {l0 : List S39} {l1 : List S37} {l2 : List (List Int)} (hN : NetOk l0 l1 l2) {a f : Int} (a0 : 0 ≤ a) (a1 : a ≤ l0.length) (hf : inFault l0 f = true) : SOk l0 ⟨a, 0, f⟩ := by
 have hf' := hf
 unfold inFault inB at hf'
 simp only [Bool.and_eq_true, decide_eq_true_eq] at hf'
 have hn1 := hN.n1
 have hp : 2 ^ l0.length ≤ 2 ^ 5 := Nat.pow_le_pow_right (n := 2) (by decide) hn1
 have h3 : f < ((2 ^ l0.length : Nat) : Int) := by omega
 exact ⟨⟨hf'.1, by show f < 32; omega⟩, a0, a1, Int.le_refl _, by show (0 : Int) ≤ 72; omega, loops_in hn1 hf'.1 h3⟩
end Go.Proofs.Ytipphcjgdebecaa.PA
