/- Parts of a proof about the pipe seat's laws: what the functions of the program answer. No condition of its own. -/
import Derived.Test.YtipphcjgdebecaaSC
import Derived.Test.YtipphcjgdebecaaPoB
import Derived.Test.YtipphcjgdebecaaPoC
import Derived.RangeFuncNested
import Derived.RangeFuncBound
import Derived.RangeFuncCalls
import Derived.RangeFuncLeaves
import Derived.RangeFuncBox
import Derived.Shelf.Abstract
import Derived.Shelf.RegionOpen
import Derived.OwnWalkIn
import Derived.TacticsInMore
import Derived.LoopNIn
import Derived.LoopIn
import Derived.Recover
import Derived.Defers
import Derived.WalkLawsBesides
import Derived.WalkSmall
import Derived.Test.YtipphcjgdebecaaSF
import Derived.Test.YtipphcjgdebecaaSH
import Derived.Test.YtipphcjgdebecaaSK
import Derived.Test.YtipphcjgdebecaaSM
import Derived.Test.YtipphcjgdebecaaSN
set_option linter.all false
namespace Go.Proofs.Ytipphcjgdebecaa.PA
open Go.RowKit Go.Proofs.YtipphcjgdebecaaW.PrintWords Go.Proofs.YtipphcjgdebecaaW.PrintLast Go.Proofs.YtipphcjgdebecaaW.PrintMore
attribute [local go_sem] max2_int min2_int max_two min_two max_three min_three max_four min_four
def talikref04_Faults.l0 : Nat → List Int → Int → List (S39) → List (S37) → List (List Int) → Option (Bool)
 | 0, _, _, _, _, _ => none
 | k + 1, x1, x5, x411000, x411001, x411002 => if x5 < (x1.length : Int) then (if 0 ≤ x5 then ((talikref04_Fault.f k x411000 x411001 x411002 (rd x1 x5)).bind fun t412 => (if t412 = true then (talikref04_Faults.l0 k x1 (wrap64 (x5 + 1)) x411000 x411001 x411002) else (some false))) else (none)) else (some true)
def talikref04_Faults.f (k : Nat) (l0_0 : List (S39)) (l0_1 : List (S37)) (l0_2 : List (List Int)) (l1 : List Int) : Option (Bool) := talikref04_Faults.l0 k l1 0 l0_0 l0_1 l0_2
set_option maxHeartbeats 8000000 in
set_option maxRecDepth 100000 in
theorem talikref04_Faults.calls (k : Nat) (A0_0 : Option Addr) (c0_0 : Nat) (l0_0 : List (S39)) (A0_1 : Option Addr) (c0_1 : Nat) (l0_1 : List (S37)) (A0_2 : Option Addr) (c0_2 : Nat) (l0_2 : List (List Int)) (A1 : Option Addr) (c1 : Nat) (l1 : List Int) (r : Bool) (w : World) (hr0_0 : Kd.C k39 w A0_0 l0_0.length l0_0) (hc0_0 : l0_0.length ≤ c0_0) (hr0_1 : Kd.C k37 w A0_1 l0_1.length l0_1) (hc0_1 : l0_1.length ≤ c0_1) (hr0_2 : Kd.C (Kd.slice 3 (Kd.int .i64)) w A0_2 l0_2.length l0_2) (hc0_2 : l0_2.length ≤ c0_2) (hr1 : Kd.C (Kd.int .i64) w A1 l1.length l1) (hc1 : l1.length ≤ c1) (h : talikref04_Faults.f k l0_0 l0_1 l0_2 l1 = some r) :
  Calls Try.prog 69 #[.agg #[.slice A0_0 l0_0.length c0_0, .slice A0_1 l0_1.length c0_1, .slice A0_2 l0_2.length c0_2], .slice A1 l1.length c1] w fun e w' => e = .returned (.bool r) ∧ Below w.heap.size w w' := by
 have hu26 := Try.underlying26
 have HR0_0 := qac.mk hr0_0
 have HC0_0 := qac.mk hc0_0
 clear hr0_0 hc0_0
 have HR0_1 := qac.mk hr0_1
 have HC0_1 := qac.mk hc0_1
 clear hr0_1 hc0_1
 have HR0_2 := qac.mk hr0_2
 have HC0_2 := qac.mk hc0_2
 clear hr0_2 hc0_2
 have HR1 := qac.mk hr1
 have HC1 := qac.mk hc1
 clear hr1 hc1
 have HB := qac.mk (Below.refl w.heap.size w)
 have H : (talikref04_Faults.l0 k l1 0 l0_0 l0_1 l0_2) = some r := h
 clear h
 have H' := qac.mk H
 clear H
 go_enter Try.func69, Try.ntmps69
 go_wp2_with (first | ((with_reducible refine qax (N := 2) rfl ?_); refine qaw ?hg (N := 2) ?hd (cs := #[.slice A0_0 l0_0.length c0_0, .slice A0_1 l0_1.length c0_1, .slice A0_2 l0_2.length c0_2]) (t := 26) ?hr ?_; (case hd => rfl); (case hg => rfl); (case hr => first | (go_simp; done) | (go_simp; rfl)); intro gb410 hg w3 hbox hb; have n0_ := qac.mk (qai (by repeat (first | (with_reducible first | exact HB.out | apply qae | apply qad | apply qaf) | exact HB.out)) hb); have n1_ := qac.mk (hbox); have n2_ := qac.mk ((by rw [hg]; exact (qar (by repeat (first | (with_reducible first | exact HB.out | apply qae | apply qad | apply qaf) | exact HB.out))) : w.heap.size ≤ gb410)); have n3_ := qac.mk ((by rw [hg]; exact (qar (by repeat (first | (with_reducible first | exact HB.out | apply qae | apply qad | apply qaf) | exact HB.out))) : w.heap.size ≤ gb410)); clear HB; have HB := n0_; have BK410 := n1_; have GW410 := n2_; have GE410 := n3_; clear n0_ n1_ n2_ n3_; clear hb hbox hg))
 go_loopg [5] k (fun kq v5 w' => ∃ (x5_1 : Int), v5 = .int .i64 x5_1 ∧ qac (talikref04_Faults.l0 kq l1 x5_1 l0_0 l0_1 l0_2 = some r) ∧ qac (kq ≤ k) ∧ qac (w'.heap[gb410]? = some (.cells #[(.slice A0_0 l0_0.length c0_0), (.slice A0_1 l0_1.length c0_1), (.slice A0_2 l0_2.length c0_2)] 26 (0, 0))) ∧ qac (Below w.heap.size w w'))
 case atStart => exact ⟨(0), (by first | rfl | (simp; done) | (simp [*]; done)), H', ⟨Nat.le_refl _⟩, ⟨by (with_reducible repeat (first | refine qak ?_ _ | refine qap ?_ | refine qaj ?_ _)); exact BK410.out⟩, ⟨by repeat (first | (with_reducible first | exact HB.out | apply qae | apply qad | apply qaf | refine qag ?_ GE410.out) | exact HB.out)⟩⟩
 case round =>
  clear H'
  try clear c1
  try clear p2
  obtain ⟨x5_1, rfl, HA, HK1, BK410, HB⟩ := hrel
  cases gk with
  | zero => exact absurd HA.out (by simp [talikref04_Faults.l0])
  | succ k1 =>
   have H := HA.out
   clear HA
   simp only [talikref04_Faults.l0] at H
   by_cases c4 : x5_1 < (l1.length : Int)
   ·
    rw [if_pos c4] at H
    have c4b0 : decide (x5_1 < (l1.length : Int)) = true := decide_eq_true c4
    clear c4
    by_cases c5 : 0 ≤ x5_1
    ·
     rw [if_pos c5] at H
     have c5b0 : decide (0 ≤ x5_1) = true := decide_eq_true c5
     clear c5
     replace H := Option.bind_eq_some_iff.mp H
     obtain ⟨t412, A60, H⟩ := H
     replace H : (if t412 = true then (talikref04_Faults.l0 k1 l1 (wrap64 (x5_1 + 1)) l0_0 l0_1 l0_2) else (some false)) = some r := H
     have A6 := qac.mk A60
     clear A60
     by_cases c7 : t412 = true
     ·
      subst c7
      have H1 : (talikref04_Faults.l0 k1 l1 (wrap64 (x5_1 + 1)) l0_0 l0_1 l0_2) = some r := by rw [if_pos rfl] at H; exact H
      clear H
      have H := H1
      clear H1
      have H' := qac.mk H
      clear H
      try go_wp2
      have n0_ := qac.mk (qap BK410.out)
      have n1_ := qac.mk (qaf HB.out)
      clear BK410
      clear HB
      have BK410 := n0_
      have HB := n1_
      clear n0_ n1_
      have p411 : 0 ≤ (x5_1 : Int) := of_decide_eq_true (by first | (with_reducible assumption) | assumption)
      have q411 : x5_1 < (l1.length : Int) := of_decide_eq_true (by first | (with_reducible assumption) | assumption)
      obtain ⟨ad411, e411, hx411_0⟩ := Kd.at_int HR1.out x5_1 p411 q411
      have hw411_0 := hx411_0
      cases e411
      replace hx411_0 := (HB.out.cell (World.block_lt_of_cell? w _ hx411_0)).trans hx411_0
      replace p411 := eq_true p411
      replace q411 := eq_true q411
      refine start_ (n := 7) (S := fun w' => w'.cell? ⟨gb410, 0, none⟩ = some (.slice A0_0 l0_0.length c0_0) ∧ w'.cell? ⟨gb410, 1, none⟩ = some (.slice A0_1 l0_1.length c0_1) ∧ w'.cell? ⟨gb410, 2, none⟩ = some (.slice A0_2 l0_2.length c0_2) ∧ w'.cell? (ad411.add (x5_1).toNat) = some (.int .i64 (rd l1 x5_1))) (ds := []) (msk 7 0) (by kernel_rfl) rfl rfl ⟨(qaa BK410.out 0).trans rfl, (qaa BK410.out 1).trans rfl, (qaa BK410.out 2).trans rfl, ((HB.out.cell (World.block_lt_of_cell? w _ hw411_0)).trans hw411_0)⟩ (fun hHeld => ?_)
      generalize wr.drew = w8 at BK410 HB hx411_0 hHeld ⊢
      refine pure_ (i := 1) (N := some 13) (v := ?_) (a' := ?_) #[false, true, false, false, false, false, false] rfl rfl (by kernel_rfl) (fun _ _ _ h => h) (Or.inl ⟨by rfl, ?_⟩) ?_ ?_
      rotate_left
      ·
       intro w'
       go_simp
       with_reducible rfl
      rotate_left
      ·
       simp only [Act.put, List.setIfInBounds_toArray, List.set_cons_zero, List.set_cons_succ, i64_w, i32_w]
       rfl
      refine pure_ (i := 2) (N := some 14) (v := ?_) (a' := ?_) #[false, true, true, false, false, false, false] rfl rfl (by kernel_rfl) (fun _ _ _ h => h) (Or.inl ⟨by rfl, ?_⟩) ?_ ?_
      rotate_left
      ·
       intro w'
       go_simp
       with_reducible rfl
      rotate_left
      ·
       simp only [Act.put, List.setIfInBounds_toArray, List.set_cons_zero, List.set_cons_succ, i64_w, i32_w]
       rfl
      refine pure_ (i := 3) (N := some 15) (v := ?_) (a' := ?_) #[false, true, true, true, false, false, false] rfl rfl (by kernel_rfl) (fun _ _ _ h => h) (Or.inl ⟨by rfl, ?_⟩) ?_ ?_
      rotate_left
      ·
       intro w'
       go_simp
       with_reducible rfl
      rotate_left
      ·
       simp only [Act.put, List.setIfInBounds_toArray, List.set_cons_zero, List.set_cons_succ, i64_w, i32_w]
       rfl
      refine take_ (i := 0) (N := some 12) (v := ?_) (a' := ?_) (msk 7 4) rfl rfl (by kernel_rfl) (fun _ _ _ h => h) (Or.inl ⟨by rfl, ?_⟩) hHeld ?_ ?_
      rotate_left
      ·
       rintro w' ⟨s0, s1, s2, s3⟩
       go_simp
       with_reducible rfl
      rotate_left
      ·
       simp only [Act.put, List.setIfInBounds_toArray, List.set_cons_zero, List.set_cons_succ, i64_w, i32_w]
       rfl
      refine take_ (i := 4) (N := some 16) (v := ?_) (a' := ?_) (msk 7 5) rfl rfl (by kernel_rfl) (fun _ _ _ h => h) (Or.inl ⟨by rfl, ?_⟩) hHeld ?_ ?_
      rotate_left
      ·
       rintro w' ⟨s0, s1, s2, s3⟩
       go_simp
       with_reducible rfl
      rotate_left
      ·
       simp only [Act.put, List.setIfInBounds_toArray, List.set_cons_zero, List.set_cons_succ, i64_w, i32_w]
       rfl
      refine one_ (i := 5) (N := some 17) (msk 7 6) rfl rfl (by kernel_rfl) (by decide) (fun K hK => ?_)
      refine goes_ Try.func26 (by kernel_rfl) rfl #[.agg #[.slice A0_0 l0_0.length c0_0, .slice A0_1 l0_1.length c0_1, .slice A0_2 l0_2.length c0_2], .int .i64 (rd l1 x5_1)] (by rfl) rfl rfl (by (try simp only [List.map_toArray, List.map_cons, List.map_nil]); first | done | rfl | (simp only [List.length_drop, List.length_take]; rfl)) ?_
      with_reducible refine (talikref04_Fault.calls k1 _ _ l0_0 _ _ l0_1 _ _ l0_2 (rd l1 x5_1) true _ ?side1 ?side2 ?side3 ?side4 ?side5 ?side6 A6.out).mono ?_
      (case side1 => repeat (first | exact (Kd.qal HR0_0.out HB.out) | (with_reducible refine Kd.qan ?_ _) | (with_reducible refine Kd.qao ?_ _) | (with_reducible refine Kd.qaq ?_)))
      (case side2 => exact HC0_0.out)
      (case side3 => repeat (first | exact (Kd.qal HR0_1.out HB.out) | (with_reducible refine Kd.qan ?_ _) | (with_reducible refine Kd.qao ?_ _) | (with_reducible refine Kd.qaq ?_)))
      (case side4 => exact HC0_1.out)
      (case side5 => repeat (first | exact (Kd.qal HR0_2.out HB.out) | (with_reducible refine Kd.qan ?_ _) | (with_reducible refine Kd.qao ?_ _) | (with_reducible refine Kd.qaq ?_)))
      (case side6 => exact HC0_2.out)
      rintro e w9 ⟨rfl, hb⟩
      refine ⟨_, rfl, ?_⟩
      have n0_ := qac.mk (qam (g := gb410) (o := .cells #[.slice A0_0 l0_0.length c0_0, .slice A0_1 l0_1.length c0_1, .slice A0_2 l0_2.length c0_2] 26 (0, 0)) (by (with_reducible repeat (first | refine qak ?_ _ | refine qap ?_ | refine qaj ?_ _)); exact BK410.out) hb)
      have n1_ := qac.mk (qai (by repeat (first | (with_reducible first | exact HB.out | apply qae | apply qad | apply qaf | refine qag ?_ GE410.out) | exact HB.out)) hb)
      clear BK410
      clear HB
      have BK410 := n0_
      have HB := n1_
      clear n0_ n1_
      (try clear hb)
      (try clear hb2)
      (try clear hk)
      (try clear hi)
      refine hK.out _ _ ⟨(qaa BK410.out 0).trans rfl, (qaa BK410.out 1).trans rfl, (qaa BK410.out 2).trans rfl, ((HB.out.cell (World.block_lt_of_cell? w _ hw411_0)).trans hw411_0)⟩ (fun hHeld => ?_)
      clear hK K
      refine norm_ (a' := ?_) ?_ ?_
      rotate_left
      ·
       show Act.put _ (some 17) _ = _
       simp only [Act.put, List.setIfInBounds_toArray, List.set_cons_zero, List.set_cons_succ, i64_w, i32_w]
       rfl
      refine pure_ (i := 6) (N := some 18) (v := ?_) (a' := ?_) (msk 7 7) rfl rfl (by kernel_rfl) (fun _ _ _ h => h) (Or.inl ⟨by rfl, ?_⟩) ?_ ?_
      rotate_left
      ·
       intro w'
       go_simp
       with_reducible rfl
      rotate_left
      ·
       simp only [Act.put, List.setIfInBounds_toArray, List.set_cons_zero, List.set_cons_succ, i64_w, i32_w]
       rfl
      refine done_ (by kernel_rfl) ?_
      try go_wp2
      go_roundg k1
      case measure => have := HK1.out; omega
      case rel => exact ⟨(wrap64 (x5_1 + 1)), (by first | rfl | (simp; done) | (simp [*]; done)), H', ⟨by have := HK1.out; omega⟩, ⟨by (with_reducible repeat (first | refine qak ?_ _ | refine qap ?_ | refine qaj ?_ _)); exact BK410.out⟩, ⟨by repeat (first | (with_reducible first | exact HB.out | apply qae | apply qad | apply qaf | refine qag ?_ GE410.out) | exact HB.out)⟩⟩
     ·
      replace c7 := Bool.eq_false_iff.mpr c7
      subst c7
      have H1 : (some false) = some r := by rw [if_neg (show ¬ (false = true) by decide)] at H; exact H
      clear H
      have H := H1
      clear H1
      obtain rfl := Option.some.inj H
      try go_wp2
      have n0_ := qac.mk (qap BK410.out)
      have n1_ := qac.mk (qaf HB.out)
      clear BK410
      clear HB
      have BK410 := n0_
      have HB := n1_
      clear n0_ n1_
      have p411 : 0 ≤ (x5_1 : Int) := of_decide_eq_true (by first | (with_reducible assumption) | assumption)
      have q411 : x5_1 < (l1.length : Int) := of_decide_eq_true (by first | (with_reducible assumption) | assumption)
      obtain ⟨ad411, e411, hx411_0⟩ := Kd.at_int HR1.out x5_1 p411 q411
      have hw411_0 := hx411_0
      cases e411
      replace hx411_0 := (HB.out.cell (World.block_lt_of_cell? w _ hx411_0)).trans hx411_0
      replace p411 := eq_true p411
      replace q411 := eq_true q411
      refine start_ (n := 7) (S := fun w' => w'.cell? ⟨gb410, 0, none⟩ = some (.slice A0_0 l0_0.length c0_0) ∧ w'.cell? ⟨gb410, 1, none⟩ = some (.slice A0_1 l0_1.length c0_1) ∧ w'.cell? ⟨gb410, 2, none⟩ = some (.slice A0_2 l0_2.length c0_2) ∧ w'.cell? (ad411.add (x5_1).toNat) = some (.int .i64 (rd l1 x5_1))) (ds := []) (msk 7 0) (by kernel_rfl) rfl rfl ⟨(qaa BK410.out 0).trans rfl, (qaa BK410.out 1).trans rfl, (qaa BK410.out 2).trans rfl, ((HB.out.cell (World.block_lt_of_cell? w _ hw411_0)).trans hw411_0)⟩ (fun hHeld => ?_)
      generalize wr.drew = w10 at BK410 HB hx411_0 hHeld ⊢
      refine pure_ (i := 1) (N := some 13) (v := ?_) (a' := ?_) #[false, true, false, false, false, false, false] rfl rfl (by kernel_rfl) (fun _ _ _ h => h) (Or.inl ⟨by rfl, ?_⟩) ?_ ?_
      rotate_left
      ·
       intro w'
       go_simp
       with_reducible rfl
      rotate_left
      ·
       simp only [Act.put, List.setIfInBounds_toArray, List.set_cons_zero, List.set_cons_succ, i64_w, i32_w]
       rfl
      refine pure_ (i := 2) (N := some 14) (v := ?_) (a' := ?_) #[false, true, true, false, false, false, false] rfl rfl (by kernel_rfl) (fun _ _ _ h => h) (Or.inl ⟨by rfl, ?_⟩) ?_ ?_
      rotate_left
      ·
       intro w'
       go_simp
       with_reducible rfl
      rotate_left
      ·
       simp only [Act.put, List.setIfInBounds_toArray, List.set_cons_zero, List.set_cons_succ, i64_w, i32_w]
       rfl
      refine pure_ (i := 3) (N := some 15) (v := ?_) (a' := ?_) #[false, true, true, true, false, false, false] rfl rfl (by kernel_rfl) (fun _ _ _ h => h) (Or.inl ⟨by rfl, ?_⟩) ?_ ?_
      rotate_left
      ·
       intro w'
       go_simp
       with_reducible rfl
      rotate_left
      ·
       simp only [Act.put, List.setIfInBounds_toArray, List.set_cons_zero, List.set_cons_succ, i64_w, i32_w]
       rfl
      refine take_ (i := 0) (N := some 12) (v := ?_) (a' := ?_) (msk 7 4) rfl rfl (by kernel_rfl) (fun _ _ _ h => h) (Or.inl ⟨by rfl, ?_⟩) hHeld ?_ ?_
      rotate_left
      ·
       rintro w' ⟨s0, s1, s2, s3⟩
       go_simp
       with_reducible rfl
      rotate_left
      ·
       simp only [Act.put, List.setIfInBounds_toArray, List.set_cons_zero, List.set_cons_succ, i64_w, i32_w]
       rfl
      refine take_ (i := 4) (N := some 16) (v := ?_) (a' := ?_) (msk 7 5) rfl rfl (by kernel_rfl) (fun _ _ _ h => h) (Or.inl ⟨by rfl, ?_⟩) hHeld ?_ ?_
      rotate_left
      ·
       rintro w' ⟨s0, s1, s2, s3⟩
       go_simp
       with_reducible rfl
      rotate_left
      ·
       simp only [Act.put, List.setIfInBounds_toArray, List.set_cons_zero, List.set_cons_succ, i64_w, i32_w]
       rfl
      refine one_ (i := 5) (N := some 17) (msk 7 6) rfl rfl (by kernel_rfl) (by decide) (fun K hK => ?_)
      refine goes_ Try.func26 (by kernel_rfl) rfl #[.agg #[.slice A0_0 l0_0.length c0_0, .slice A0_1 l0_1.length c0_1, .slice A0_2 l0_2.length c0_2], .int .i64 (rd l1 x5_1)] (by rfl) rfl rfl (by (try simp only [List.map_toArray, List.map_cons, List.map_nil]); first | done | rfl | (simp only [List.length_drop, List.length_take]; rfl)) ?_
      with_reducible refine (talikref04_Fault.calls k1 _ _ l0_0 _ _ l0_1 _ _ l0_2 (rd l1 x5_1) false _ ?side1 ?side2 ?side3 ?side4 ?side5 ?side6 A6.out).mono ?_
      (case side1 => repeat (first | exact (Kd.qal HR0_0.out HB.out) | (with_reducible refine Kd.qan ?_ _) | (with_reducible refine Kd.qao ?_ _) | (with_reducible refine Kd.qaq ?_)))
      (case side2 => exact HC0_0.out)
      (case side3 => repeat (first | exact (Kd.qal HR0_1.out HB.out) | (with_reducible refine Kd.qan ?_ _) | (with_reducible refine Kd.qao ?_ _) | (with_reducible refine Kd.qaq ?_)))
      (case side4 => exact HC0_1.out)
      (case side5 => repeat (first | exact (Kd.qal HR0_2.out HB.out) | (with_reducible refine Kd.qan ?_ _) | (with_reducible refine Kd.qao ?_ _) | (with_reducible refine Kd.qaq ?_)))
      (case side6 => exact HC0_2.out)
      rintro e w11 ⟨rfl, hb⟩
      refine ⟨_, rfl, ?_⟩
      have n0_ := qac.mk (qam (g := gb410) (o := .cells #[.slice A0_0 l0_0.length c0_0, .slice A0_1 l0_1.length c0_1, .slice A0_2 l0_2.length c0_2] 26 (0, 0)) (by (with_reducible repeat (first | refine qak ?_ _ | refine qap ?_ | refine qaj ?_ _)); exact BK410.out) hb)
      have n1_ := qac.mk (qai (by repeat (first | (with_reducible first | exact HB.out | apply qae | apply qad | apply qaf | refine qag ?_ GE410.out) | exact HB.out)) hb)
      clear BK410
      clear HB
      have BK410 := n0_
      have HB := n1_
      clear n0_ n1_
      (try clear hb)
      (try clear hb2)
      (try clear hk)
      (try clear hi)
      refine hK.out _ _ ⟨(qaa BK410.out 0).trans rfl, (qaa BK410.out 1).trans rfl, (qaa BK410.out 2).trans rfl, ((HB.out.cell (World.block_lt_of_cell? w _ hw411_0)).trans hw411_0)⟩ (fun hHeld => ?_)
      clear hK K
      refine norm_ (a' := ?_) ?_ ?_
      rotate_left
      ·
       show Act.put _ (some 17) _ = _
       simp only [Act.put, List.setIfInBounds_toArray, List.set_cons_zero, List.set_cons_succ, i64_w, i32_w]
       rfl
      refine pure_ (i := 6) (N := some 18) (v := ?_) (a' := ?_) (msk 7 7) rfl rfl (by kernel_rfl) (fun _ _ _ h => h) (Or.inl ⟨by rfl, ?_⟩) ?_ ?_
      rotate_left
      ·
       intro w'
       go_simp
       with_reducible rfl
      rotate_left
      ·
       simp only [Act.put, List.setIfInBounds_toArray, List.set_cons_zero, List.set_cons_succ, i64_w, i32_w]
       rfl
      refine done_ (by kernel_rfl) ?_
      try go_wp2
      go_ret
      exact ⟨by first | rfl | (simp [qas, qat] <;> rfl) | (simp [*, qas, qat] <;> rfl), by repeat (first | (with_reducible first | exact HB.out | apply qae | apply qad | apply qaf | refine qag ?_ GE410.out) | exact HB.out)⟩
    ·
     rw [if_neg c5] at H
     exact absurd H (by simp)
   ·
    rw [if_neg c4] at H
    have c4b0 : decide (x5_1 < (l1.length : Int)) = false := decide_eq_false c4
    clear c4
    obtain rfl := Option.some.inj H
    go_wp2
    go_ret
    exact ⟨by first | rfl | (simp [qas, qat] <;> rfl) | (simp [*, qas, qat] <;> rfl), by repeat (first | (with_reducible first | exact HB.out | apply qae | apply qad | apply qaf | refine qag ?_ GE410.out) | exact HB.out)⟩
def taliklaw04_faulted.f (k : Nat) (l0_0 : List (S39)) (l0_1 : List (S37)) (l0_2 : List (List Int)) (a1 : Int) (l2 : List Int) : Option (Int) := if (l2.length : Int) > 12 then (some 3) else ((talikref04_Net.f k l0_0 l0_1 l0_2).bind fun t414 => (if t414 = true then ((talikref04_Place.f l0_0 l0_1 l0_2 a1).bind fun t415 => (if t415 = true then ((talikref04_Faults.f k l0_0 l0_1 l0_2 l2).bind fun t416 => (if t416 = true then (some 0) else (some 2))) else (some 2))) else (some 2)))
set_option maxHeartbeats 8000000 in
set_option maxRecDepth 100000 in
theorem taliklaw04_faulted.calls (k : Nat) (A0_0 : Option Addr) (c0_0 : Nat) (l0_0 : List (S39)) (A0_1 : Option Addr) (c0_1 : Nat) (l0_1 : List (S37)) (A0_2 : Option Addr) (c0_2 : Nat) (l0_2 : List (List Int)) (a1 : Int) (A2 : Option Addr) (c2 : Nat) (l2 : List Int) (r : Int) (w : World) (hr0_0 : Kd.C k39 w A0_0 l0_0.length l0_0) (hc0_0 : l0_0.length ≤ c0_0) (hr0_1 : Kd.C k37 w A0_1 l0_1.length l0_1) (hc0_1 : l0_1.length ≤ c0_1) (hr0_2 : Kd.C (Kd.slice 3 (Kd.int .i64)) w A0_2 l0_2.length l0_2) (hc0_2 : l0_2.length ≤ c0_2) (hr2 : Kd.C (Kd.int .i64) w A2 l2.length l2) (hc2 : l2.length ≤ c2) (h : taliklaw04_faulted.f k l0_0 l0_1 l0_2 a1 l2 = some r) :
  Calls Try.prog 36 #[.agg #[.slice A0_0 l0_0.length c0_0, .slice A0_1 l0_1.length c0_1, .slice A0_2 l0_2.length c0_2], .int .i64 a1, .slice A2 l2.length c2] w fun e w' => e = .returned (.int .i64 r) ∧ Below w.heap.size w w' := by
 have hu26 := Try.underlying26
 have HR0_0 := qac.mk hr0_0
 have HC0_0 := qac.mk hc0_0
 clear hr0_0 hc0_0
 have HR0_1 := qac.mk hr0_1
 have HC0_1 := qac.mk hc0_1
 clear hr0_1 hc0_1
 have HR0_2 := qac.mk hr0_2
 have HC0_2 := qac.mk hc0_2
 clear hr0_2 hc0_2
 have HR2 := qac.mk hr2
 have HC2 := qac.mk hc2
 clear hr2 hc2
 have HB := qac.mk (Below.refl w.heap.size w)
 have H : (if (l2.length : Int) > 12 then (some 3) else ((talikref04_Net.f k l0_0 l0_1 l0_2).bind fun t414 => (if t414 = true then ((talikref04_Place.f l0_0 l0_1 l0_2 a1).bind fun t415 => (if t415 = true then ((talikref04_Faults.f k l0_0 l0_1 l0_2 l2).bind fun t416 => (if t416 = true then (some 0) else (some 2))) else (some 2))) else (some 2)))) = some r := h
 clear h
 by_cases c4 : (l2.length : Int) > 12
 ·
  rw [if_pos c4] at H
  have c4b0 : decide (12 < (l2.length : Int)) = true := decide_eq_true c4
  have c4b1 : decide (12 < l2.length) = true := decide_eq_true (by omega)
  clear c4
  obtain rfl := Option.some.inj H
  go_enter Try.func36, Try.ntmps36
  go_wp2_with (first | ((with_reducible refine qax (N := 3) rfl ?_); refine qaw ?hg (N := 3) ?hd (cs := #[.slice A0_0 l0_0.length c0_0, .slice A0_1 l0_1.length c0_1, .slice A0_2 l0_2.length c0_2]) (t := 26) ?hr ?_; (case hd => rfl); (case hg => rfl); (case hr => first | (go_simp; done) | (go_simp; rfl)); intro gb413 hg w5 hbox hb; have n0_ := qac.mk (qai (by repeat (first | (with_reducible first | exact HB.out | apply qae | apply qad | apply qaf) | exact HB.out)) hb); have n1_ := qac.mk (hbox); have n2_ := qac.mk ((by rw [hg]; exact (qar (by repeat (first | (with_reducible first | exact HB.out | apply qae | apply qad | apply qaf) | exact HB.out))) : w.heap.size ≤ gb413)); have n3_ := qac.mk ((by rw [hg]; exact (qar (by repeat (first | (with_reducible first | exact HB.out | apply qae | apply qad | apply qaf) | exact HB.out))) : w.heap.size ≤ gb413)); clear HB; have HB := n0_; have BK413 := n1_; have GW413 := n2_; have GE413 := n3_; clear n0_ n1_ n2_ n3_; clear hb hbox hg))
  go_ret
  exact ⟨by first | rfl | (simp [qas, qat] <;> rfl) | (simp [*, qas, qat] <;> rfl), by repeat (first | (with_reducible first | exact HB.out | apply qae | apply qad | apply qaf | refine qag ?_ GE413.out) | exact HB.out)⟩
 ·
  rw [if_neg c4] at H
  have c4b0 : decide (12 < (l2.length : Int)) = false := decide_eq_false c4
  have c4b1 : decide (12 < l2.length) = false := decide_eq_false (by omega)
  clear c4
  replace H := Option.bind_eq_some_iff.mp H
  obtain ⟨t414, A60, H⟩ := H
  replace H : (if t414 = true then ((talikref04_Place.f l0_0 l0_1 l0_2 a1).bind fun t415 => (if t415 = true then ((talikref04_Faults.f k l0_0 l0_1 l0_2 l2).bind fun t416 => (if t416 = true then (some 0) else (some 2))) else (some 2))) else (some 2)) = some r := H
  have A6 := qac.mk A60
  clear A60
  by_cases c7 : t414 = true
  ·
   subst c7
   have H1 : ((talikref04_Place.f l0_0 l0_1 l0_2 a1).bind fun t415 => (if t415 = true then ((talikref04_Faults.f k l0_0 l0_1 l0_2 l2).bind fun t416 => (if t416 = true then (some 0) else (some 2))) else (some 2))) = some r := by rw [if_pos rfl] at H; exact H
   clear H
   have H := H1
   clear H1
   replace H := Option.bind_eq_some_iff.mp H
   obtain ⟨t415, A80, H⟩ := H
   replace H : (if t415 = true then ((talikref04_Faults.f k l0_0 l0_1 l0_2 l2).bind fun t416 => (if t416 = true then (some 0) else (some 2))) else (some 2)) = some r := H
   have A8 := qac.mk A80
   clear A80
   by_cases c9 : t415 = true
   ·
    subst c9
    have H1 : ((talikref04_Faults.f k l0_0 l0_1 l0_2 l2).bind fun t416 => (if t416 = true then (some 0) else (some 2))) = some r := by rw [if_pos rfl] at H; exact H
    clear H
    have H := H1
    clear H1
    replace H := Option.bind_eq_some_iff.mp H
    obtain ⟨t416, A100, H⟩ := H
    replace H : (if t416 = true then (some 0) else (some 2)) = some r := H
    have A10 := qac.mk A100
    clear A100
    by_cases c11 : t416 = true
    ·
     subst c11
     have H1 : (some 0) = some r := by rw [if_pos rfl] at H; exact H
     clear H
     have H := H1
     clear H1
     obtain rfl := Option.some.inj H
     go_enter Try.func36, Try.ntmps36
     go_wp2_with (first | ((with_reducible refine qax (N := 3) rfl ?_); refine qaw ?hg (N := 3) ?hd (cs := #[.slice A0_0 l0_0.length c0_0, .slice A0_1 l0_1.length c0_1, .slice A0_2 l0_2.length c0_2]) (t := 26) ?hr ?_; (case hd => rfl); (case hg => rfl); (case hr => first | (go_simp; done) | (go_simp; rfl)); intro gb413 hg w12 hbox hb; have n0_ := qac.mk (qai (by repeat (first | (with_reducible first | exact HB.out | apply qae | apply qad | apply qaf) | exact HB.out)) hb); have n1_ := qac.mk (hbox); have n2_ := qac.mk ((by rw [hg]; exact (qar (by repeat (first | (with_reducible first | exact HB.out | apply qae | apply qad | apply qaf) | exact HB.out))) : w.heap.size ≤ gb413)); have n3_ := qac.mk ((by rw [hg]; exact (qar (by repeat (first | (with_reducible first | exact HB.out | apply qae | apply qad | apply qaf) | exact HB.out))) : w.heap.size ≤ gb413)); clear HB; have HB := n0_; have BK413 := n1_; have GW413 := n2_; have GE413 := n3_; clear n0_ n1_ n2_ n3_; clear hb hbox hg; have hcz13_0 : w12.cell? ⟨gb413, 0, none⟩ = some (.slice A0_0 l0_0.length c0_0) := (qaa BK413.out 0).trans rfl; have hcz13_1 : w12.cell? ⟨gb413, 1, none⟩ = some (.slice A0_1 l0_1.length c0_1) := (qaa BK413.out 1).trans rfl; have hcz13_2 : w12.cell? ⟨gb413, 2, none⟩ = some (.slice A0_2 l0_2.length c0_2) := (qaa BK413.out 2).trans rfl; have hfz13_0 := qab BK413.out 0; have hfz13_1 := qab BK413.out 1; have hfz13_2 := qab BK413.out 2) | ((with_reducible refine qau (f := 19) rfl ?_); refine goesL_ (some 11) rfl rfl Try.func19 (by kernel_rfl) rfl #[.agg #[.slice A0_0 l0_0.length c0_0, .slice A0_1 l0_1.length c0_1, .slice A0_2 l0_2.length c0_2]] rfl (by (try simp only [List.map_toArray, List.map_cons, List.map_nil]); first | done | rfl | (simp only [List.length_drop, List.length_take]; rfl)) ?_; (with_reducible refine (talikref04_Net.calls k _ _ l0_0 _ _ l0_1 _ _ l0_2 true _ ?side1 ?side2 ?side3 ?side4 ?side5 ?side6 A6.out).mono ?_); (case side1 => repeat (first | exact (Kd.qal HR0_0.out HB.out) | (with_reducible refine Kd.qan ?_ _) | (with_reducible refine Kd.qao ?_ _) | (with_reducible refine Kd.qaq ?_))); (case side2 => exact HC0_0.out); (case side3 => repeat (first | exact (Kd.qal HR0_1.out HB.out) | (with_reducible refine Kd.qan ?_ _) | (with_reducible refine Kd.qao ?_ _) | (with_reducible refine Kd.qaq ?_))); (case side4 => exact HC0_1.out); (case side5 => repeat (first | exact (Kd.qal HR0_2.out HB.out) | (with_reducible refine Kd.qan ?_ _) | (with_reducible refine Kd.qao ?_ _) | (with_reducible refine Kd.qaq ?_))); (case side6 => exact HC0_2.out); rintro e w14 ⟨rfl, hb⟩; refine ⟨_, rfl, ?_⟩; have n0_ := qac.mk (qam (g := gb413) (o := .cells #[.slice A0_0 l0_0.length c0_0, .slice A0_1 l0_1.length c0_1, .slice A0_2 l0_2.length c0_2] 26 (0, 0)) (by (with_reducible repeat (first | refine qak ?_ _ | refine qap ?_ | refine qaj ?_ _)); exact BK413.out) hb); have n1_ := qac.mk (qai (by repeat (first | (with_reducible first | exact HB.out | apply qae | apply qad | apply qaf | refine qag ?_ GE413.out) | exact HB.out)) hb); clear BK413; clear HB; have BK413 := n0_; have HB := n1_; clear n0_ n1_; (try clear hb); (try clear hb2); (try clear hk); (try clear hi); have hcz15_0 : w14.cell? ⟨gb413, 0, none⟩ = some (.slice A0_0 l0_0.length c0_0) := (qaa BK413.out 0).trans rfl; have hcz15_1 : w14.cell? ⟨gb413, 1, none⟩ = some (.slice A0_1 l0_1.length c0_1) := (qaa BK413.out 1).trans rfl; have hcz15_2 : w14.cell? ⟨gb413, 2, none⟩ = some (.slice A0_2 l0_2.length c0_2) := (qaa BK413.out 2).trans rfl; have hfz15_0 := qab BK413.out 0; have hfz15_1 := qab BK413.out 1; have hfz15_2 := qab BK413.out 2) | (go_at_call 25; (with_reducible refine (talikref04_Place.calls _ _ l0_0 _ _ l0_1 _ _ l0_2 a1 true _ ?side1 ?side2 ?side3 ?side4 ?side5 ?side6 A8.out).mono ?_); (case side1 => repeat (first | exact (Kd.qal HR0_0.out HB.out) | (with_reducible refine Kd.qan ?_ _) | (with_reducible refine Kd.qao ?_ _) | (with_reducible refine Kd.qaq ?_))); (case side2 => exact HC0_0.out); (case side3 => repeat (first | exact (Kd.qal HR0_1.out HB.out) | (with_reducible refine Kd.qan ?_ _) | (with_reducible refine Kd.qao ?_ _) | (with_reducible refine Kd.qaq ?_))); (case side4 => exact HC0_1.out); (case side5 => repeat (first | exact (Kd.qal HR0_2.out HB.out) | (with_reducible refine Kd.qan ?_ _) | (with_reducible refine Kd.qao ?_ _) | (with_reducible refine Kd.qaq ?_))); (case side6 => exact HC0_2.out); rintro e w16 ⟨rfl, hb⟩; have n0_ := qac.mk (qam (g := gb413) (o := .cells #[.slice A0_0 l0_0.length c0_0, .slice A0_1 l0_1.length c0_1, .slice A0_2 l0_2.length c0_2] 26 (0, 0)) (by (with_reducible repeat (first | refine qak ?_ _ | refine qap ?_ | refine qaj ?_ _)); exact BK413.out) hb); have n1_ := qac.mk (qai (by repeat (first | (with_reducible first | exact HB.out | apply qae | apply qad | apply qaf | refine qag ?_ GE413.out) | exact HB.out)) hb); clear BK413; clear HB; have BK413 := n0_; have HB := n1_; clear n0_ n1_; (try clear hb); (try clear hb2); (try clear hk); (try clear hi); have hcz17_0 : w16.cell? ⟨gb413, 0, none⟩ = some (.slice A0_0 l0_0.length c0_0) := (qaa BK413.out 0).trans rfl; have hcz17_1 : w16.cell? ⟨gb413, 1, none⟩ = some (.slice A0_1 l0_1.length c0_1) := (qaa BK413.out 1).trans rfl; have hcz17_2 : w16.cell? ⟨gb413, 2, none⟩ = some (.slice A0_2 l0_2.length c0_2) := (qaa BK413.out 2).trans rfl; have hfz17_0 := qab BK413.out 0; have hfz17_1 := qab BK413.out 1; have hfz17_2 := qab BK413.out 2) | (go_at_call 69; (with_reducible refine (talikref04_Faults.calls k _ _ l0_0 _ _ l0_1 _ _ l0_2 _ _ l2 true _ ?side1 ?side2 ?side3 ?side4 ?side5 ?side6 ?side7 ?side8 A10.out).mono ?_); (case side1 => repeat (first | exact (Kd.qal HR0_0.out HB.out) | (with_reducible refine Kd.qan ?_ _) | (with_reducible refine Kd.qao ?_ _) | (with_reducible refine Kd.qaq ?_))); (case side2 => exact HC0_0.out); (case side3 => repeat (first | exact (Kd.qal HR0_1.out HB.out) | (with_reducible refine Kd.qan ?_ _) | (with_reducible refine Kd.qao ?_ _) | (with_reducible refine Kd.qaq ?_))); (case side4 => exact HC0_1.out); (case side5 => repeat (first | exact (Kd.qal HR0_2.out HB.out) | (with_reducible refine Kd.qan ?_ _) | (with_reducible refine Kd.qao ?_ _) | (with_reducible refine Kd.qaq ?_))); (case side6 => exact HC0_2.out); (case side7 => repeat (first | exact (Kd.qal HR2.out HB.out) | (with_reducible refine Kd.qan ?_ _) | (with_reducible refine Kd.qao ?_ _) | (with_reducible refine Kd.qaq ?_))); (case side8 => exact HC2.out); rintro e w18 ⟨rfl, hb⟩; have n0_ := qac.mk (qam (g := gb413) (o := .cells #[.slice A0_0 l0_0.length c0_0, .slice A0_1 l0_1.length c0_1, .slice A0_2 l0_2.length c0_2] 26 (0, 0)) (by (with_reducible repeat (first | refine qak ?_ _ | refine qap ?_ | refine qaj ?_ _)); exact BK413.out) hb); have n1_ := qac.mk (qai (by repeat (first | (with_reducible first | exact HB.out | apply qae | apply qad | apply qaf | refine qag ?_ GE413.out) | exact HB.out)) hb); clear BK413; clear HB; have BK413 := n0_; have HB := n1_; clear n0_ n1_; (try clear hb); (try clear hb2); (try clear hk); (try clear hi)))
     go_ret
     exact ⟨by first | rfl | (simp [qas, qat] <;> rfl) | (simp [*, qas, qat] <;> rfl), by repeat (first | (with_reducible first | exact HB.out | apply qae | apply qad | apply qaf | refine qag ?_ GE413.out) | exact HB.out)⟩
    ·
     replace c11 := Bool.eq_false_iff.mpr c11
     subst c11
     have H1 : (some 2) = some r := by rw [if_neg (show ¬ (false = true) by decide)] at H; exact H
     clear H
     have H := H1
     clear H1
     obtain rfl := Option.some.inj H
     go_enter Try.func36, Try.ntmps36
     go_wp2_with (first | ((with_reducible refine qax (N := 3) rfl ?_); refine qaw ?hg (N := 3) ?hd (cs := #[.slice A0_0 l0_0.length c0_0, .slice A0_1 l0_1.length c0_1, .slice A0_2 l0_2.length c0_2]) (t := 26) ?hr ?_; (case hd => rfl); (case hg => rfl); (case hr => first | (go_simp; done) | (go_simp; rfl)); intro gb413 hg w19 hbox hb; have n0_ := qac.mk (qai (by repeat (first | (with_reducible first | exact HB.out | apply qae | apply qad | apply qaf) | exact HB.out)) hb); have n1_ := qac.mk (hbox); have n2_ := qac.mk ((by rw [hg]; exact (qar (by repeat (first | (with_reducible first | exact HB.out | apply qae | apply qad | apply qaf) | exact HB.out))) : w.heap.size ≤ gb413)); have n3_ := qac.mk ((by rw [hg]; exact (qar (by repeat (first | (with_reducible first | exact HB.out | apply qae | apply qad | apply qaf) | exact HB.out))) : w.heap.size ≤ gb413)); clear HB; have HB := n0_; have BK413 := n1_; have GW413 := n2_; have GE413 := n3_; clear n0_ n1_ n2_ n3_; clear hb hbox hg; have hcz20_0 : w19.cell? ⟨gb413, 0, none⟩ = some (.slice A0_0 l0_0.length c0_0) := (qaa BK413.out 0).trans rfl; have hcz20_1 : w19.cell? ⟨gb413, 1, none⟩ = some (.slice A0_1 l0_1.length c0_1) := (qaa BK413.out 1).trans rfl; have hcz20_2 : w19.cell? ⟨gb413, 2, none⟩ = some (.slice A0_2 l0_2.length c0_2) := (qaa BK413.out 2).trans rfl; have hfz20_0 := qab BK413.out 0; have hfz20_1 := qab BK413.out 1; have hfz20_2 := qab BK413.out 2) | ((with_reducible refine qau (f := 19) rfl ?_); refine goesL_ (some 11) rfl rfl Try.func19 (by kernel_rfl) rfl #[.agg #[.slice A0_0 l0_0.length c0_0, .slice A0_1 l0_1.length c0_1, .slice A0_2 l0_2.length c0_2]] rfl (by (try simp only [List.map_toArray, List.map_cons, List.map_nil]); first | done | rfl | (simp only [List.length_drop, List.length_take]; rfl)) ?_; (with_reducible refine (talikref04_Net.calls k _ _ l0_0 _ _ l0_1 _ _ l0_2 true _ ?side1 ?side2 ?side3 ?side4 ?side5 ?side6 A6.out).mono ?_); (case side1 => repeat (first | exact (Kd.qal HR0_0.out HB.out) | (with_reducible refine Kd.qan ?_ _) | (with_reducible refine Kd.qao ?_ _) | (with_reducible refine Kd.qaq ?_))); (case side2 => exact HC0_0.out); (case side3 => repeat (first | exact (Kd.qal HR0_1.out HB.out) | (with_reducible refine Kd.qan ?_ _) | (with_reducible refine Kd.qao ?_ _) | (with_reducible refine Kd.qaq ?_))); (case side4 => exact HC0_1.out); (case side5 => repeat (first | exact (Kd.qal HR0_2.out HB.out) | (with_reducible refine Kd.qan ?_ _) | (with_reducible refine Kd.qao ?_ _) | (with_reducible refine Kd.qaq ?_))); (case side6 => exact HC0_2.out); rintro e w21 ⟨rfl, hb⟩; refine ⟨_, rfl, ?_⟩; have n0_ := qac.mk (qam (g := gb413) (o := .cells #[.slice A0_0 l0_0.length c0_0, .slice A0_1 l0_1.length c0_1, .slice A0_2 l0_2.length c0_2] 26 (0, 0)) (by (with_reducible repeat (first | refine qak ?_ _ | refine qap ?_ | refine qaj ?_ _)); exact BK413.out) hb); have n1_ := qac.mk (qai (by repeat (first | (with_reducible first | exact HB.out | apply qae | apply qad | apply qaf | refine qag ?_ GE413.out) | exact HB.out)) hb); clear BK413; clear HB; have BK413 := n0_; have HB := n1_; clear n0_ n1_; (try clear hb); (try clear hb2); (try clear hk); (try clear hi); have hcz22_0 : w21.cell? ⟨gb413, 0, none⟩ = some (.slice A0_0 l0_0.length c0_0) := (qaa BK413.out 0).trans rfl; have hcz22_1 : w21.cell? ⟨gb413, 1, none⟩ = some (.slice A0_1 l0_1.length c0_1) := (qaa BK413.out 1).trans rfl; have hcz22_2 : w21.cell? ⟨gb413, 2, none⟩ = some (.slice A0_2 l0_2.length c0_2) := (qaa BK413.out 2).trans rfl; have hfz22_0 := qab BK413.out 0; have hfz22_1 := qab BK413.out 1; have hfz22_2 := qab BK413.out 2) | (go_at_call 25; (with_reducible refine (talikref04_Place.calls _ _ l0_0 _ _ l0_1 _ _ l0_2 a1 true _ ?side1 ?side2 ?side3 ?side4 ?side5 ?side6 A8.out).mono ?_); (case side1 => repeat (first | exact (Kd.qal HR0_0.out HB.out) | (with_reducible refine Kd.qan ?_ _) | (with_reducible refine Kd.qao ?_ _) | (with_reducible refine Kd.qaq ?_))); (case side2 => exact HC0_0.out); (case side3 => repeat (first | exact (Kd.qal HR0_1.out HB.out) | (with_reducible refine Kd.qan ?_ _) | (with_reducible refine Kd.qao ?_ _) | (with_reducible refine Kd.qaq ?_))); (case side4 => exact HC0_1.out); (case side5 => repeat (first | exact (Kd.qal HR0_2.out HB.out) | (with_reducible refine Kd.qan ?_ _) | (with_reducible refine Kd.qao ?_ _) | (with_reducible refine Kd.qaq ?_))); (case side6 => exact HC0_2.out); rintro e w23 ⟨rfl, hb⟩; have n0_ := qac.mk (qam (g := gb413) (o := .cells #[.slice A0_0 l0_0.length c0_0, .slice A0_1 l0_1.length c0_1, .slice A0_2 l0_2.length c0_2] 26 (0, 0)) (by (with_reducible repeat (first | refine qak ?_ _ | refine qap ?_ | refine qaj ?_ _)); exact BK413.out) hb); have n1_ := qac.mk (qai (by repeat (first | (with_reducible first | exact HB.out | apply qae | apply qad | apply qaf | refine qag ?_ GE413.out) | exact HB.out)) hb); clear BK413; clear HB; have BK413 := n0_; have HB := n1_; clear n0_ n1_; (try clear hb); (try clear hb2); (try clear hk); (try clear hi); have hcz24_0 : w23.cell? ⟨gb413, 0, none⟩ = some (.slice A0_0 l0_0.length c0_0) := (qaa BK413.out 0).trans rfl; have hcz24_1 : w23.cell? ⟨gb413, 1, none⟩ = some (.slice A0_1 l0_1.length c0_1) := (qaa BK413.out 1).trans rfl; have hcz24_2 : w23.cell? ⟨gb413, 2, none⟩ = some (.slice A0_2 l0_2.length c0_2) := (qaa BK413.out 2).trans rfl; have hfz24_0 := qab BK413.out 0; have hfz24_1 := qab BK413.out 1; have hfz24_2 := qab BK413.out 2) | (go_at_call 69; (with_reducible refine (talikref04_Faults.calls k _ _ l0_0 _ _ l0_1 _ _ l0_2 _ _ l2 false _ ?side1 ?side2 ?side3 ?side4 ?side5 ?side6 ?side7 ?side8 A10.out).mono ?_); (case side1 => repeat (first | exact (Kd.qal HR0_0.out HB.out) | (with_reducible refine Kd.qan ?_ _) | (with_reducible refine Kd.qao ?_ _) | (with_reducible refine Kd.qaq ?_))); (case side2 => exact HC0_0.out); (case side3 => repeat (first | exact (Kd.qal HR0_1.out HB.out) | (with_reducible refine Kd.qan ?_ _) | (with_reducible refine Kd.qao ?_ _) | (with_reducible refine Kd.qaq ?_))); (case side4 => exact HC0_1.out); (case side5 => repeat (first | exact (Kd.qal HR0_2.out HB.out) | (with_reducible refine Kd.qan ?_ _) | (with_reducible refine Kd.qao ?_ _) | (with_reducible refine Kd.qaq ?_))); (case side6 => exact HC0_2.out); (case side7 => repeat (first | exact (Kd.qal HR2.out HB.out) | (with_reducible refine Kd.qan ?_ _) | (with_reducible refine Kd.qao ?_ _) | (with_reducible refine Kd.qaq ?_))); (case side8 => exact HC2.out); rintro e w25 ⟨rfl, hb⟩; have n0_ := qac.mk (qam (g := gb413) (o := .cells #[.slice A0_0 l0_0.length c0_0, .slice A0_1 l0_1.length c0_1, .slice A0_2 l0_2.length c0_2] 26 (0, 0)) (by (with_reducible repeat (first | refine qak ?_ _ | refine qap ?_ | refine qaj ?_ _)); exact BK413.out) hb); have n1_ := qac.mk (qai (by repeat (first | (with_reducible first | exact HB.out | apply qae | apply qad | apply qaf | refine qag ?_ GE413.out) | exact HB.out)) hb); clear BK413; clear HB; have BK413 := n0_; have HB := n1_; clear n0_ n1_; (try clear hb); (try clear hb2); (try clear hk); (try clear hi)))
     go_ret
     exact ⟨by first | rfl | (simp [qas, qat] <;> rfl) | (simp [*, qas, qat] <;> rfl), by repeat (first | (with_reducible first | exact HB.out | apply qae | apply qad | apply qaf | refine qag ?_ GE413.out) | exact HB.out)⟩
   ·
    replace c9 := Bool.eq_false_iff.mpr c9
    subst c9
    have H1 : (some 2) = some r := by rw [if_neg (show ¬ (false = true) by decide)] at H; exact H
    clear H
    have H := H1
    clear H1
    obtain rfl := Option.some.inj H
    go_enter Try.func36, Try.ntmps36
    go_wp2_with (first | ((with_reducible refine qax (N := 3) rfl ?_); refine qaw ?hg (N := 3) ?hd (cs := #[.slice A0_0 l0_0.length c0_0, .slice A0_1 l0_1.length c0_1, .slice A0_2 l0_2.length c0_2]) (t := 26) ?hr ?_; (case hd => rfl); (case hg => rfl); (case hr => first | (go_simp; done) | (go_simp; rfl)); intro gb413 hg w26 hbox hb; have n0_ := qac.mk (qai (by repeat (first | (with_reducible first | exact HB.out | apply qae | apply qad | apply qaf) | exact HB.out)) hb); have n1_ := qac.mk (hbox); have n2_ := qac.mk ((by rw [hg]; exact (qar (by repeat (first | (with_reducible first | exact HB.out | apply qae | apply qad | apply qaf) | exact HB.out))) : w.heap.size ≤ gb413)); have n3_ := qac.mk ((by rw [hg]; exact (qar (by repeat (first | (with_reducible first | exact HB.out | apply qae | apply qad | apply qaf) | exact HB.out))) : w.heap.size ≤ gb413)); clear HB; have HB := n0_; have BK413 := n1_; have GW413 := n2_; have GE413 := n3_; clear n0_ n1_ n2_ n3_; clear hb hbox hg; have hcz27_0 : w26.cell? ⟨gb413, 0, none⟩ = some (.slice A0_0 l0_0.length c0_0) := (qaa BK413.out 0).trans rfl; have hcz27_1 : w26.cell? ⟨gb413, 1, none⟩ = some (.slice A0_1 l0_1.length c0_1) := (qaa BK413.out 1).trans rfl; have hcz27_2 : w26.cell? ⟨gb413, 2, none⟩ = some (.slice A0_2 l0_2.length c0_2) := (qaa BK413.out 2).trans rfl; have hfz27_0 := qab BK413.out 0; have hfz27_1 := qab BK413.out 1; have hfz27_2 := qab BK413.out 2) | ((with_reducible refine qau (f := 19) rfl ?_); refine goesL_ (some 11) rfl rfl Try.func19 (by kernel_rfl) rfl #[.agg #[.slice A0_0 l0_0.length c0_0, .slice A0_1 l0_1.length c0_1, .slice A0_2 l0_2.length c0_2]] rfl (by (try simp only [List.map_toArray, List.map_cons, List.map_nil]); first | done | rfl | (simp only [List.length_drop, List.length_take]; rfl)) ?_; (with_reducible refine (talikref04_Net.calls k _ _ l0_0 _ _ l0_1 _ _ l0_2 true _ ?side1 ?side2 ?side3 ?side4 ?side5 ?side6 A6.out).mono ?_); (case side1 => repeat (first | exact (Kd.qal HR0_0.out HB.out) | (with_reducible refine Kd.qan ?_ _) | (with_reducible refine Kd.qao ?_ _) | (with_reducible refine Kd.qaq ?_))); (case side2 => exact HC0_0.out); (case side3 => repeat (first | exact (Kd.qal HR0_1.out HB.out) | (with_reducible refine Kd.qan ?_ _) | (with_reducible refine Kd.qao ?_ _) | (with_reducible refine Kd.qaq ?_))); (case side4 => exact HC0_1.out); (case side5 => repeat (first | exact (Kd.qal HR0_2.out HB.out) | (with_reducible refine Kd.qan ?_ _) | (with_reducible refine Kd.qao ?_ _) | (with_reducible refine Kd.qaq ?_))); (case side6 => exact HC0_2.out); rintro e w28 ⟨rfl, hb⟩; refine ⟨_, rfl, ?_⟩; have n0_ := qac.mk (qam (g := gb413) (o := .cells #[.slice A0_0 l0_0.length c0_0, .slice A0_1 l0_1.length c0_1, .slice A0_2 l0_2.length c0_2] 26 (0, 0)) (by (with_reducible repeat (first | refine qak ?_ _ | refine qap ?_ | refine qaj ?_ _)); exact BK413.out) hb); have n1_ := qac.mk (qai (by repeat (first | (with_reducible first | exact HB.out | apply qae | apply qad | apply qaf | refine qag ?_ GE413.out) | exact HB.out)) hb); clear BK413; clear HB; have BK413 := n0_; have HB := n1_; clear n0_ n1_; (try clear hb); (try clear hb2); (try clear hk); (try clear hi); have hcz29_0 : w28.cell? ⟨gb413, 0, none⟩ = some (.slice A0_0 l0_0.length c0_0) := (qaa BK413.out 0).trans rfl; have hcz29_1 : w28.cell? ⟨gb413, 1, none⟩ = some (.slice A0_1 l0_1.length c0_1) := (qaa BK413.out 1).trans rfl; have hcz29_2 : w28.cell? ⟨gb413, 2, none⟩ = some (.slice A0_2 l0_2.length c0_2) := (qaa BK413.out 2).trans rfl; have hfz29_0 := qab BK413.out 0; have hfz29_1 := qab BK413.out 1; have hfz29_2 := qab BK413.out 2) | (go_at_call 25; (with_reducible refine (talikref04_Place.calls _ _ l0_0 _ _ l0_1 _ _ l0_2 a1 false _ ?side1 ?side2 ?side3 ?side4 ?side5 ?side6 A8.out).mono ?_); (case side1 => repeat (first | exact (Kd.qal HR0_0.out HB.out) | (with_reducible refine Kd.qan ?_ _) | (with_reducible refine Kd.qao ?_ _) | (with_reducible refine Kd.qaq ?_))); (case side2 => exact HC0_0.out); (case side3 => repeat (first | exact (Kd.qal HR0_1.out HB.out) | (with_reducible refine Kd.qan ?_ _) | (with_reducible refine Kd.qao ?_ _) | (with_reducible refine Kd.qaq ?_))); (case side4 => exact HC0_1.out); (case side5 => repeat (first | exact (Kd.qal HR0_2.out HB.out) | (with_reducible refine Kd.qan ?_ _) | (with_reducible refine Kd.qao ?_ _) | (with_reducible refine Kd.qaq ?_))); (case side6 => exact HC0_2.out); rintro e w30 ⟨rfl, hb⟩; have n0_ := qac.mk (qam (g := gb413) (o := .cells #[.slice A0_0 l0_0.length c0_0, .slice A0_1 l0_1.length c0_1, .slice A0_2 l0_2.length c0_2] 26 (0, 0)) (by (with_reducible repeat (first | refine qak ?_ _ | refine qap ?_ | refine qaj ?_ _)); exact BK413.out) hb); have n1_ := qac.mk (qai (by repeat (first | (with_reducible first | exact HB.out | apply qae | apply qad | apply qaf | refine qag ?_ GE413.out) | exact HB.out)) hb); clear BK413; clear HB; have BK413 := n0_; have HB := n1_; clear n0_ n1_; (try clear hb); (try clear hb2); (try clear hk); (try clear hi)))
    go_ret
    exact ⟨by first | rfl | (simp [qas, qat] <;> rfl) | (simp [*, qas, qat] <;> rfl), by repeat (first | (with_reducible first | exact HB.out | apply qae | apply qad | apply qaf | refine qag ?_ GE413.out) | exact HB.out)⟩
  ·
   replace c7 := Bool.eq_false_iff.mpr c7
   subst c7
   have H1 : (some 2) = some r := by rw [if_neg (show ¬ (false = true) by decide)] at H; exact H
   clear H
   have H := H1
   clear H1
   obtain rfl := Option.some.inj H
   go_enter Try.func36, Try.ntmps36
   go_wp2_with (first | ((with_reducible refine qax (N := 3) rfl ?_); refine qaw ?hg (N := 3) ?hd (cs := #[.slice A0_0 l0_0.length c0_0, .slice A0_1 l0_1.length c0_1, .slice A0_2 l0_2.length c0_2]) (t := 26) ?hr ?_; (case hd => rfl); (case hg => rfl); (case hr => first | (go_simp; done) | (go_simp; rfl)); intro gb413 hg w31 hbox hb; have n0_ := qac.mk (qai (by repeat (first | (with_reducible first | exact HB.out | apply qae | apply qad | apply qaf) | exact HB.out)) hb); have n1_ := qac.mk (hbox); have n2_ := qac.mk ((by rw [hg]; exact (qar (by repeat (first | (with_reducible first | exact HB.out | apply qae | apply qad | apply qaf) | exact HB.out))) : w.heap.size ≤ gb413)); have n3_ := qac.mk ((by rw [hg]; exact (qar (by repeat (first | (with_reducible first | exact HB.out | apply qae | apply qad | apply qaf) | exact HB.out))) : w.heap.size ≤ gb413)); clear HB; have HB := n0_; have BK413 := n1_; have GW413 := n2_; have GE413 := n3_; clear n0_ n1_ n2_ n3_; clear hb hbox hg; have hcz32_0 : w31.cell? ⟨gb413, 0, none⟩ = some (.slice A0_0 l0_0.length c0_0) := (qaa BK413.out 0).trans rfl; have hcz32_1 : w31.cell? ⟨gb413, 1, none⟩ = some (.slice A0_1 l0_1.length c0_1) := (qaa BK413.out 1).trans rfl; have hcz32_2 : w31.cell? ⟨gb413, 2, none⟩ = some (.slice A0_2 l0_2.length c0_2) := (qaa BK413.out 2).trans rfl; have hfz32_0 := qab BK413.out 0; have hfz32_1 := qab BK413.out 1; have hfz32_2 := qab BK413.out 2) | ((with_reducible refine qau (f := 19) rfl ?_); refine goesL_ (some 11) rfl rfl Try.func19 (by kernel_rfl) rfl #[.agg #[.slice A0_0 l0_0.length c0_0, .slice A0_1 l0_1.length c0_1, .slice A0_2 l0_2.length c0_2]] rfl (by (try simp only [List.map_toArray, List.map_cons, List.map_nil]); first | done | rfl | (simp only [List.length_drop, List.length_take]; rfl)) ?_; (with_reducible refine (talikref04_Net.calls k _ _ l0_0 _ _ l0_1 _ _ l0_2 false _ ?side1 ?side2 ?side3 ?side4 ?side5 ?side6 A6.out).mono ?_); (case side1 => repeat (first | exact (Kd.qal HR0_0.out HB.out) | (with_reducible refine Kd.qan ?_ _) | (with_reducible refine Kd.qao ?_ _) | (with_reducible refine Kd.qaq ?_))); (case side2 => exact HC0_0.out); (case side3 => repeat (first | exact (Kd.qal HR0_1.out HB.out) | (with_reducible refine Kd.qan ?_ _) | (with_reducible refine Kd.qao ?_ _) | (with_reducible refine Kd.qaq ?_))); (case side4 => exact HC0_1.out); (case side5 => repeat (first | exact (Kd.qal HR0_2.out HB.out) | (with_reducible refine Kd.qan ?_ _) | (with_reducible refine Kd.qao ?_ _) | (with_reducible refine Kd.qaq ?_))); (case side6 => exact HC0_2.out); rintro e w33 ⟨rfl, hb⟩; refine ⟨_, rfl, ?_⟩; have n0_ := qac.mk (qam (g := gb413) (o := .cells #[.slice A0_0 l0_0.length c0_0, .slice A0_1 l0_1.length c0_1, .slice A0_2 l0_2.length c0_2] 26 (0, 0)) (by (with_reducible repeat (first | refine qak ?_ _ | refine qap ?_ | refine qaj ?_ _)); exact BK413.out) hb); have n1_ := qac.mk (qai (by repeat (first | (with_reducible first | exact HB.out | apply qae | apply qad | apply qaf | refine qag ?_ GE413.out) | exact HB.out)) hb); clear BK413; clear HB; have BK413 := n0_; have HB := n1_; clear n0_ n1_; (try clear hb); (try clear hb2); (try clear hk); (try clear hi)))
   go_ret
   exact ⟨by first | rfl | (simp [qas, qat] <;> rfl) | (simp [*, qas, qat] <;> rfl), by repeat (first | (with_reducible first | exact HB.out | apply qae | apply qad | apply qaf | refine qag ?_ GE413.out) | exact HB.out)⟩
end Go.Proofs.Ytipphcjgdebecaa.PA
namespace Go.Proofs.Ytipphcjgdebecaa.PA
open Go.RowKit Go.Shelf Go.Proofs.YtipphcjgdebecaaW.PrintWords Go.Proofs.YtipphcjgdebecaaW.PrintLast Go.Proofs.YtipphcjgdebecaaW.PrintMore
attribute [local go_sem] max2_int min2_int max_two min_two max_three min_three max_four min_four
def leastL (O : Int → Way) : Int → List Int → Option Int
 | s, [] => some s
 | s, f :: t => if (O f).2.2 = true then leastL O (mn s (O f).2.1) t else none
def weakP (O : Int → Way) : Int → Int → List Int → Int × Int
 | _, s, [] => (-1, s)
 | j, s, f :: t => if (O f).2.2 = true then weakP O (j + 1) (mn s (O f).2.1) t else (j, 0)
theorem weakP_none (O : Int → Way) : ∀ (t : List Int) (j s : Int), 0 ≤ j → leastL O s t = none → 0 ≤ (weakP O j s t).1
 | [], j, s, hj, h => by simp [leastL] at h
 | f :: t, j, s, hj, h => by
  unfold leastL at h
  unfold weakP
  split
  ·
   rename_i hr
   rw [if_pos hr] at h
   exact weakP_none O t (j + 1) _ (by omega) h
  ·
   exact hj
theorem weakP_some (O : Int → Way) : ∀ (t : List Int) (j s m : Int), leastL O s t = some m → weakP O j s t = (-1, m)
 | [], j, s, m, h => by
  simp only [leastL, Option.some.injEq] at h
  simp [weakP, h]
 | f :: t, j, s, m, h => by
  unfold leastL at h
  unfold weakP
  split at h
  ·
   rename_i hr
   rw [if_pos hr]
   exact weakP_some O t (j + 1) _ m h
  ·
   cases h
theorem rd_at (l : List Int) (i : Nat) (h : i < l.length) : rd l (i : Int) = l[i] := by simp [rd, h]
theorem weak_go {l0 : List S39} {l1 : List S37} {l2 : List (List Int)} {wp a : Int} {O : Int → Way} (fs : List Int) (hf : fs.length ≤ 1000) (hO : ∀ f ∈ fs, pipe_net_order.f l0 l1 l2 wp a f = some (O f)) :
  ∀ (m j k : Nat) (s : Int), j + m = fs.length → m + 1 ≤ k → pipe_net_weak.l0 k a s fs (fs.length : Int) (j : Int) l0 l1 l2 wp = some (weakP O j s (fs.drop j)) := by
 intro m
 induction m with
 | zero =>
  intro j k s hj hk
  obtain ⟨k, rfl⟩ : ∃ k', k = k' + 1 := ⟨k - 1, by omega⟩
  unfold pipe_net_weak.l0
  rw [if_neg (by omega), List.drop_eq_nil_of_le (by omega)]
  rfl
 | succ m ih =>
  intro j k s hj hk
  obtain ⟨k, rfl⟩ : ∃ k', k = k' + 1 := ⟨k - 1, by omega⟩
  have hlt : j < fs.length := by omega
  unfold pipe_net_weak.l0
  rw [if_pos (by omega), if_pos (by omega), if_pos (by omega), rd_at fs j hlt, hO _ (List.getElem_mem hlt), List.drop_eq_getElem_cons hlt]
  simp only [Option.bind_some, weakP]
  split
  ·
   rw [wsucc j (by omega), ih (j + 1) k _ (by omega) (by omega)]
   rfl
  ·
   rfl
theorem weak_eq {l0 : List S39} {l1 : List S37} {l2 : List (List Int)} {wp a : Int} {O : Int → Way} (fs : List Int) (k : Nat) (hk : fs.length + 1 ≤ k) (hf : fs.length ≤ 1000) (hO : ∀ f ∈ fs, pipe_net_order.f l0 l1 l2 wp a f = some (O f)) :
  pipe_net_weak.f k l0 l1 l2 wp a fs = some (weakP O 0 l1.length fs) := by
 have h := weak_go fs hf hO fs.length 0 k (l1.length : Int) (by omega) (by omega)
 unfold pipe_net_weak.f
 simpa using h
theorem faults_go (l0 : List S39) (l1 : List S37) (l2 : List (List Int)) (h5 : l0.length ≤ 8) (fs : List Int) (hf : fs.length ≤ 1000) :
  ∀ (m j k : Nat), j + m = fs.length → m + 12 ≤ k → talikref04_Faults.l0 k fs (j : Int) l0 l1 l2 = some ((fs.drop j).all (inFault l0)) := by
 intro m
 induction m with
 | zero =>
  intro j k hj hk
  obtain ⟨k, rfl⟩ : ∃ k', k = k' + 1 := ⟨k - 1, by omega⟩
  unfold talikref04_Faults.l0
  rw [if_neg (by omega), List.drop_eq_nil_of_le (by omega)]
  rfl
 | succ m ih =>
  intro j k hj hk
  obtain ⟨k, rfl⟩ : ∃ k', k = k' + 1 := ⟨k - 1, by omega⟩
  have hlt : j < fs.length := by omega
  unfold talikref04_Faults.l0
  rw [if_pos (by omega), if_pos (by omega), rd_at fs j hlt, rfault_eq l0 l1 l2 h5 _ k (by omega), List.drop_eq_getElem_cons hlt, wsucc j (by omega), ih (j + 1) k (by omega) (by omega)]
  simp only [Option.bind_some, List.all_cons]
  cases inFault l0 fs[j] <;> simp
theorem faults_eq (l0 : List S39) (l1 : List S37) (l2 : List (List Int)) (h5 : l0.length ≤ 8) (fs : List Int) (hf : fs.length ≤ 1000) (k : Nat) (hk : fs.length + 12 ≤ k) : talikref04_Faults.f k l0 l1 l2 fs = some (fs.all (inFault l0)) := by
 have h := faults_go l0 l1 l2 h5 fs hf fs.length 0 k (by omega) (by omega)
 simpa [talikref04_Faults.f] using h
def faultedV (l0 : List S39) (l1 : List S37) (l2 : List (List Int)) (a : Int) (fs : List Int) : Int :=
 if (fs.length : Int) > 12 then 3 else if (validB l0 l1 l2 && (inB a 0 l0.length && fs.all (inFault l0))) = true then 0 else 2
theorem faulted_eq (l0 : List S39) (l1 : List S37) (l2 : List (List Int)) (hs : Short l0 l1 l2) (a : Int) (fs : List Int) (k : Nat) (hk : 300 ≤ k) : taliklaw04_faulted.f k l0 l1 l2 a fs = some (faultedV l0 l1 l2 a fs) := by
 unfold taliklaw04_faulted.f faultedV
 by_cases hl : (fs.length : Int) > 12
 ·
  rw [if_pos hl, if_pos hl]
 ·
  rw [if_neg hl, if_neg hl, net_eq l0 l1 l2 hs k (by omega)]
  simp only [Option.bind_some]
  cases hv : validB l0 l1 l2 with
  | false => simp
  | true =>
   have hn := (net_ok hv).n1
   rw [if_pos rfl, rplace_eq]
   simp only [Option.bind_some]
   cases hp : inB a 0 l0.length with
   | false => simp
   | true =>
    rw [if_pos rfl, faults_eq l0 l1 l2 (by omega) fs (by omega) k (by omega)]
    simp only [Option.bind_some]
    cases fs.all (inFault l0) <;> simp
theorem given_same (l0 : List S39) (l1 : List S37) (l2 : List (List Int)) (a : Int) (fs : List Int) : givenV l0 l1 l2 a fs = faultedV l0 l1 l2 a fs := by
 unfold givenV faultedV
 by_cases hl : (fs.length : Int) > 12
 ·
  rw [if_pos (by omega), if_pos hl]
 ·
  rw [if_neg (by omega), if_neg hl]
  cases hv : validB l0 l1 l2 with
  | false => simp
  | true =>
   have hn := (net_ok hv).n1
   have e : (fs.any fun f => !faultB l0 f) = !(fs.all (inFault l0)) := by
    rw [List.not_all_eq_any_not]
    congr 1
    funext f
    rw [fault_same l0 hn f]
   rw [e]
   cases inB a 0 l0.length <;> cases fs.all (inFault l0) <;> rfl
structure FaultsOk (l0 : List S39) (l1 : List S37) (l2 : List (List Int)) (a : Int) (fs : List Int) : Prop where
 len : fs.length ≤ 12
 v : validB l0 l1 l2 = true
 a0 : 0 ≤ a
 a1 : a ≤ l0.length
 all : ∀ f ∈ fs, inFault l0 f = true
theorem faults_ok {l0 : List S39} {l1 : List S37} {l2 : List (List Int)} {a : Int} {fs : List Int} (h : faultedV l0 l1 l2 a fs = 0) : FaultsOk l0 l1 l2 a fs := by
 unfold faultedV at h
 split at h
 ·
  cases h
 ·
  rename_i hl
  split at h
  ·
   rename_i hc
   simp only [Bool.and_eq_true, List.all_eq_true] at hc
   obtain ⟨hv, hp, hf⟩ := hc
   unfold inB at hp
   simp only [Bool.and_eq_true, decide_eq_true_eq] at hp
   exact ⟨by omega, hv, hp.1, hp.2, hf⟩
  ·
   cases h
theorem of_ok {l0 : List S39} {l1 : List S37} {l2 : List (List Int)} {a : Int} {fs : List Int} (h : FaultsOk l0 l1 l2 a fs) : faultedV l0 l1 l2 a fs = 0 := by
 unfold faultedV
 have hl := h.len
 have ha0 := h.a0
 have ha1 := h.a1
 rw [if_neg (by omega), if_pos]
 simp only [Bool.and_eq_true, List.all_eq_true]
 exact ⟨h.v, by unfold inB; simp; omega, h.all⟩
theorem fault_rng {l0 : List S39} {f : Int} (h : inFault l0 f = true) : 0 ≤ f ∧ f < ((2 ^ l0.length : Nat) : Int) := by
 unfold inFault inB at h
 simp only [Bool.and_eq_true, decide_eq_true_eq] at h
 exact ⟨h.1, by omega⟩
theorem weak0_eq {l0 : List S39} {l1 : List S37} {l2 : List (List Int)} {a : Int} {fs : List Int} (h : FaultsOk l0 l1 l2 a fs) (k : Nat) (hk : 13 ≤ k) : pipe_net_weak.f k l0 l1 l2 0 a fs = some (weakP (orderV l0 l1 l2 a) 0 l1.length fs) := by
 have hl := h.len
 exact weak_eq fs k (by omega) (by omega) (fun f hf => net_order_eq h.v a f h.a0 h.a1 (fault_rng (h.all f hf)).1 (fault_rng (h.all f hf)).2)
theorem weakV_eq {l0 : List S39} {l1 : List S37} {l2 : List (List Int)} {a : Int} {fs : List Int} (h : FaultsOk l0 l1 l2 a fs) : weakV l0 l1 l2 0 a fs = weakP (orderV l0 l1 l2 a) 0 l1.length fs := by
 unfold weakV
 rw [weak0_eq h 14 (by omega)]
 rfl
theorem slack_pos {l0 : List S39} {l1 : List S37} {l2 : List (List Int)} {a f : Int} (hv : validB l0 l1 l2 = true) (a0 : 0 ≤ a) (a1 : a ≤ l0.length) (hf : inFault l0 f = true) (hr : (orderV l0 l1 l2 a f).2.2 = true) : 0 ≤ (orderV l0 l1 l2 a f).2.1 :=
 ((best_ok (bok (net_ok hv)) _ ⟨a, 0, f⟩ (sok (net_ok hv) a0 a1 hf) (Nat.le_refl _)).1 hr).1
theorem leastL_pos {O : Int → Way} : ∀ (t : List Int) (s m : Int), (∀ f ∈ t, (O f).2.2 = true → 0 ≤ (O f).2.1) → 0 ≤ s → leastL O s t = some m → 0 ≤ m
 | [], s, m, _, hs, h => by
  simp only [leastL, Option.some.injEq] at h
  omega
 | f :: t, s, m, hp, hs, h => by
  unfold leastL at h
  split at h
  ·
   rename_i hr
   refine leastL_pos t _ m (fun g hg => hp g (by simp [hg])) ?_ h
   have := hp f (by simp) hr
   unfold mn
   split <;> omega
  ·
   cases h
theorem post_eq {l0 : List S39} {l1 : List S37} {l2 : List (List Int)} {fs : List Int} (hok : FaultsOk l0 l1 l2 0 fs) :
  ((∀ p : Int, 0 ≤ p → p ≤ l0.length → leastL (orderV l0 l1 l2 p) l1.length fs = none) ∧ postV l0 l1 l2 fs = (0, 0, 5)) ∨
  (∃ p s : Int, 0 ≤ p ∧ p ≤ l0.length ∧ leastL (orderV l0 l1 l2 p) l1.length fs = some s ∧ postV l0 l1 l2 fs = (p, s, 0) ∧
   ∀ q m : Int, 0 ≤ q → q ≤ l0.length → leastL (orderV l0 l1 l2 q) l1.length fs = some m → m ≤ s ∧ (m = s → p ≤ q)) := by
 have hg0 : givenV l0 l1 l2 0 fs = 0 := by rw [given_same, of_ok hok]
 have hat : ∀ p : Int, 0 ≤ p → p ≤ l0.length → FaultsOk l0 l1 l2 p fs := fun p h0 h1 => ⟨hok.len, hok.v, h0, h1, hok.all⟩
 have hmem : ∀ p : Int, p ∈ numsOf (l0.length + 1) ↔ 0 ≤ p ∧ p ≤ l0.length := fun p => by
  unfold numsOf
  simp only [List.mem_map, List.mem_range]
  constructor
  ·
   rintro ⟨k, hk, rfl⟩
   omega
  ·
   rintro ⟨h0, h1⟩
   exact ⟨p.toNat, by omega, by omega⟩
 have hof : ∀ p : Int, 0 ≤ p → p ≤ l0.length → (∀ m, leastL (orderV l0 l1 l2 p) l1.length fs = some m → ofPost l0 l1 l2 fs p = (m, true)) ∧ (leastL (orderV l0 l1 l2 p) l1.length fs = none → (ofPost l0 l1 l2 fs p).2 = false) := fun p h0 h1 => by
  unfold ofPost
  rw [weakV_eq (hat p h0 h1)]
  refine ⟨fun m hm => ?_, fun hn => ?_⟩
  ·
   rw [weakP_some _ _ _ _ _ hm]
   rfl
  ·
   have := weakP_none _ _ 0 _ (Int.le_refl _) hn
   simpa using this
 have hsorted : (numsOf (l0.length + 1)).Pairwise (· < ·) := by
  unfold numsOf
  rw [List.pairwise_map]
  exact List.Pairwise.imp (fun h => by omega) List.pairwise_lt_range
 have hg := g1_ok (ofPost l0 l1 l2 fs) _ hsorted
 unfold postV
 rw [if_neg (by rw [hg0]; simp)]
 cases hr : (g1 (ofPost l0 l1 l2 fs) (numsOf (l0.length + 1))).2.2 with
 | false =>
  left
  refine ⟨fun p h0 h1 => ?_, by rw [if_neg (by simp)]⟩
  have h := hg.no hr p ((hmem p).2 ⟨h0, h1⟩)
  cases hl : leastL (orderV l0 l1 l2 p) l1.length fs with
  | none => rfl
  | some m =>
   rw [(hof p h0 h1).1 m hl] at h
   cases h
 | true =>
  right
  obtain ⟨m1, m2⟩ := hg.mem hr
  obtain ⟨p0, p1⟩ := (hmem _).1 m1
  cases hl : leastL (orderV l0 l1 l2 (g1 (ofPost l0 l1 l2 fs) (numsOf (l0.length + 1))).1) l1.length fs with
  | none =>
   have := (hof _ p0 p1).2 hl
   rw [m2] at this
   cases this
  | some s =>
   have hs := (hof _ p0 p1).1 s hl
   rw [m2] at hs
   injection hs with hs _
   refine ⟨_, (g1 (ofPost l0 l1 l2 fs) (numsOf (l0.length + 1))).2.1, p0, p1, by rw [hs]; exact hl, by rw [if_pos rfl], fun q m q0 q1 hq => ?_⟩
   have hq' := (hof q q0 q1).1 m hq
   have hqm := (hmem q).2 ⟨q0, q1⟩
   refine ⟨?_, fun he => ?_⟩
   ·
    have := hg.max hr q hqm (by rw [hq'])
    rw [hq'] at this
    exact this
   ·
    exact hg.first hr q hqm (by rw [hq', he])
end Go.Proofs.Ytipphcjgdebecaa.PA
