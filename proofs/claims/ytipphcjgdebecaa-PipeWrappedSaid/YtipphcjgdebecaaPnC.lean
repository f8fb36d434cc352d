/- What functions of the program answer. No condition. -/
import Derived.Test.YtipphcjgdebecaaSC
import Derived.Test.YtipphcjgdebecaaSF
import Derived.Test.YtipphcjgdebecaaPnA
import Derived.Test.YtipphcjgdebecaaPnB
import Derived.Test.YtipphcjgdebecaaSD
import Derived.Test.YtipphcjgdebecaaSJ
import Derived.Test.YtipphcjgdebecaaSM
import Derived.RangeFuncNested
import Derived.RangeFuncBound
import Derived.RangeFuncCalls
import Derived.RangeFuncLeaves
import Derived.RangeFuncBox
import Derived.Shelf.Abstract
import Derived.Shelf.RegionOpen
import Derived.OwnWalkIn
import Derived.TacticsInMore
import Derived.LoopNIn
import Derived.LoopIn
import Derived.Recover
import Derived.Defers
import Derived.WalkLawsBesides
import Derived.WalkSmall
import Derived.Test.YtipphcjgdebecaaSE
import Derived.Test.YtipphcjgdebecaaSK
import Derived.Test.YtipphcjgdebecaaSL
import Derived.Test.YtipphcjgdebecaaSH
set_option linter.all false
set_option maxRecDepth 100000
set_option maxHeartbeats 8000000
namespace Go.Proofs.Ytipphcjgdebecaa.PA
open Go.RowKit Go.Proofs.YtipphcjgdebecaaW.PrintWords Go.Proofs.YtipphcjgdebecaaW.PrintLast Go.Proofs.YtipphcjgdebecaaW.PrintMore
attribute [local go_sem] qaw qay max_two min_two qas qat qax qaz
structure RefO (w : World) (gb : Nat) (nb : Array Value) (vl : Value) (ll : List (List Int)) (vd : Value) (dd : List Int) (W : World) : Prop where
 b : W.heap[gb]? = some (.cells nb 26 (0, 0))
 hb : Below w.heap.size w W
 l : (Kd.slice 3 (Kd.int .i64)).R 47 W w.heap.size (fun _ => True) vl ll
 d : Kd.R (Kd.int .i64) 3 W w.heap.size (fun _ => True) vd dd
theorem RefO.below {w W W' : World} {gb : Nat} {nb : Array Value} {vl vd : Value} {ll : List (List Int)} {dd : List Int} (h : RefO w gb nb vl ll vd dd W) (hb : Below W.heap.size W W') : RefO w gb nb vl ll vd dd W' := ⟨qag h.b hb, qad h.hb hb, Kd.R_below h.l hb, Kd.R_below h.d hb⟩
structure RefB (w : World) (gb : Nat) (nb : Array Value) (W : World) : Prop where
 b : W.heap[gb]? = some (.cells nb 26 (0, 0))
 hb : Below w.heap.size w W
theorem RefB.below {w W W' : World} {gb : Nat} {nb : Array Value} (h : RefB w gb nb W) (hb : Below W.heap.size W W') : RefB w gb nb W' := ⟨qag h.b hb, qad h.hb hb⟩
end Go.Proofs.Ytipphcjgdebecaa.PA
namespace Go.Proofs.Ytipphcjgdebecaa.PA
open Go.RowKit Go.Shelf Go.Proofs.YtipphcjgdebecaaW.PrintWords Go.Proofs.YtipphcjgdebecaaW.PrintLast Go.Proofs.YtipphcjgdebecaaW.PrintMore
attribute [local go_sem] qaw qay max_two min_two qas qat qax qaz
theorem loops_same {n : Nat} {f : Int} (hn : n ≤ 5) (f0 : 0 ≤ f) (f1 : f < ((2 ^ n : Nat) : Int)) : qar f n = qar f 5 := by
 obtain ⟨x, rfl⟩ := Int.eq_ofNat_of_zero_le f0
 have h := loops_table
 rw [List.all_eq_true] at h
 have h2 := h n (by simp; omega)
 rw [List.all_eq_true] at h2
 have h3 := h2 x (by rw [List.mem_range]; omega)
 simp only [decide_eq_true_eq] at h3
 exact h3.symm
end Go.Proofs.Ytipphcjgdebecaa.PA
namespace Go.Proofs.Ytipphcjgdebecaa.PA
open Go.RowKit Go.Proofs.YtipphcjgdebecaaW.PrintWords Go.Proofs.YtipphcjgdebecaaW.PrintLast Go.Proofs.YtipphcjgdebecaaW.PrintMore
attribute [local go_sem] qaw qay max_two min_two qas qat qax qaz
end Go.Proofs.Ytipphcjgdebecaa.PA
namespace Go.Proofs.Ytipphcjgdebecaa.PA
open Go.RowKit Go.Shelf Go.Proofs.YtipphcjgdebecaaW.PrintWords Go.Proofs.YtipphcjgdebecaaW.PrintLast Go.Proofs.YtipphcjgdebecaaW.PrintMore
attribute [local go_sem] qaw qay max_two min_two qas qat qax qaz
theorem pweak_eq (l0 : List S39) (l1 : List S37) (l2 : List (List Int)) (a : Int) (fs : List Int) (k : Nat) (hk : 20 ≤ k) :
  pipe_Weak.f k l0 l1 l2 a fs = some (if faultedV l0 l1 l2 a fs = 0 then ((weakP (orderV l0 l1 l2 a) 0 l1.length fs).1, 0) else (0, faultedV l0 l1 l2 a fs)) := by
 unfold pipe_Weak.f
 rw [show pipe_given.f l0 l1 l2 a fs = some (givenV l0 l1 l2 a fs) from rfl, given_same]
 simp only [Option.bind_some]
 split
 ·
  rename_i hz
  rw [weak0_eq (faults_ok hz) k (by omega)]
  rfl
 ·
  rfl
end Go.Proofs.Ytipphcjgdebecaa.PA
namespace Go.Proofs.Ytipphcjgdebecaa.PA
open Go.RowKit Go.Proofs.YtipphcjgdebecaaW.PrintWords Go.Proofs.YtipphcjgdebecaaW.PrintLast Go.Proofs.YtipphcjgdebecaaW.PrintMore
attribute [local go_sem] qaw qay max_two min_two qas qat qax qaz
def talikref04_Cost.l0 : Nat → Int → Int → Int → List (S39) → List (S37) → List (List Int) → Option (Int)
 | 0, _, _, _, _, _, _ => none
 | k + 1, x1, x5, x6, x374000, x374001, x374002 => if x6 < (x374000.length : Int) then ((talikref04_Has.f k x1 x6).bind fun t374 => (if t374 = true then (if 0 ≤ x6 then (talikref04_Cost.l0 k x1 (wrap64 (x5 + ((qal x374000 x6).f3))) (wrap64 (x6 + 1)) x374000 x374001 x374002) else (none)) else (talikref04_Cost.l0 k x1 x5 (wrap64 (x6 + 1)) x374000 x374001 x374002))) else (some x5)
def talikref04_Cost.f (k : Nat) (l0_0 : List (S39)) (l0_1 : List (S37)) (l0_2 : List (List Int)) (a1 : Int) : Option (Int) := talikref04_Cost.l0 k a1 0 0 l0_0 l0_1 l0_2
theorem talikref04_Cost.calls (k : Nat) (A0_0 : Option Addr) (c0_0 : Nat) (l0_0 : List (S39)) (A0_1 : Option Addr) (c0_1 : Nat) (l0_1 : List (S37)) (A0_2 : Option Addr) (c0_2 : Nat) (l0_2 : List (List Int)) (a1 : Int) (r : Int) (w : World) (hr0_0 : Kd.C k39 w A0_0 l0_0.length l0_0) (hc0_0 : l0_0.length ≤ c0_0) (hr0_1 : Kd.C k37 w A0_1 l0_1.length l0_1) (hc0_1 : l0_1.length ≤ c0_1) (hr0_2 : Kd.C (Kd.slice 3 (Kd.int .i64)) w A0_2 l0_2.length l0_2) (hc0_2 : l0_2.length ≤ c0_2) (h : talikref04_Cost.f k l0_0 l0_1 l0_2 a1 = some r) :
  Calls Try.prog 41 #[.agg #[.slice A0_0 l0_0.length c0_0, .slice A0_1 l0_1.length c0_1, .slice A0_2 l0_2.length c0_2], .int .i64 a1] w fun e w' => e = .returned (.int .i64 r) ∧ Below w.heap.size w w' := by
 have hu26 := Try.underlying26
 have HR0_0 := qab.mk hr0_0
 have HC0_0 := qab.mk hc0_0
 clear hr0_0 hc0_0
 have HR0_1 := qab.mk hr0_1
 have HC0_1 := qab.mk hc0_1
 clear hr0_1 hc0_1
 have HR0_2 := qab.mk hr0_2
 have HC0_2 := qab.mk hc0_2
 clear hr0_2 hc0_2
 have HB := qab.mk (Below.refl w.heap.size w)
 have H : (talikref04_Cost.l0 k a1 0 0 l0_0 l0_1 l0_2) = some r := h
 clear h
 have H' := qab.mk H
 clear H
 go_enter Try.func41, Try.ntmps41
 go_wp2_with (first | ((with_reducible refine qan (N := 2) rfl ?_); refine qam ?hg (N := 2) ?hd (cs := #[.slice A0_0 l0_0.length c0_0, .slice A0_1 l0_1.length c0_1, .slice A0_2 l0_2.length c0_2]) (t := 26) ?hr ?_; (case hd => rfl); (case hg => rfl); (case hr => first | (go_simp; done) | (go_simp; rfl)); intro gb373 hg w3 hbox hb; have n0_ := qab.mk (qad (by repeat (first | (with_reducible first | exact HB.out | apply qaf | apply qae | apply qah) | exact HB.out)) hb); have n1_ := qab.mk (hbox); have n2_ := qab.mk ((by rw [hg]; exact (qap (by repeat (first | (with_reducible first | exact HB.out | apply qaf | apply qae | apply qah) | exact HB.out))) : w.heap.size ≤ gb373)); have n3_ := qab.mk ((by rw [hg]; exact (qap (by repeat (first | (with_reducible first | exact HB.out | apply qaf | apply qae | apply qah) | exact HB.out))) : w.heap.size ≤ gb373)); clear HB; have HB := n0_; have BK373 := n1_; have GW373 := n2_; have GE373 := n3_; clear n0_ n1_ n2_ n3_; clear hb hbox hg))
 go_loopg [5, 6] k (fun kq v5 v6 w' => ∃ (x5_1 : Int) (x6_1 : Int), v5 = .int .i64 x5_1 ∧ v6 = .int .i64 x6_1 ∧ qab (talikref04_Cost.l0 kq a1 x5_1 x6_1 l0_0 l0_1 l0_2 = some r) ∧ qab (kq ≤ k) ∧ qab (w'.heap[gb373]? = some (.cells #[(.slice A0_0 l0_0.length c0_0), (.slice A0_1 l0_1.length c0_1), (.slice A0_2 l0_2.length c0_2)] 26 (0, 0))) ∧ qab (Below w.heap.size w w'))
 case atStart => exact ⟨(0), (0), (by first | rfl | (simp; done) | (simp [*]; done)), (by first | rfl | (simp; done) | (simp [*]; done)), H', ⟨Nat.le_refl _⟩, ⟨by (with_reducible repeat (first | refine qao ?_ _ | refine qaq ?_ | refine qak ?_ _)); exact BK373.out⟩, ⟨by repeat (first | (with_reducible first | exact HB.out | apply qaf | apply qae | apply qah | refine qai ?_ GE373.out) | exact HB.out)⟩⟩
 case round =>
  clear H'
  try clear p2
  obtain ⟨x5_1, x6_1, rfl, rfl, HA, HK1, BK373, HB⟩ := hrel
  cases gk with
  | zero => exact absurd HA.out (by simp [talikref04_Cost.l0])
  | succ k1 =>
   have H := HA.out
   clear HA
   simp only [talikref04_Cost.l0] at H
   by_cases c4 : x6_1 < (l0_0.length : Int)
   ·
    rw [if_pos c4] at H
    have c4b0 : decide (x6_1 < (l0_0.length : Int)) = true := decide_eq_true c4
    clear c4
    replace H := Option.bind_eq_some_iff.mp H
    obtain ⟨t374, A50, H⟩ := H
    replace H : (if t374 = true then (if 0 ≤ x6_1 then (talikref04_Cost.l0 k1 a1 (wrap64 (x5_1 + ((qal l0_0 x6_1).f3))) (wrap64 (x6_1 + 1)) l0_0 l0_1 l0_2) else (none)) else (talikref04_Cost.l0 k1 a1 x5_1 (wrap64 (x6_1 + 1)) l0_0 l0_1 l0_2)) = some r := H
    have A5 := qab.mk A50
    clear A50
    by_cases c6 : t374 = true
    ·
     subst c6
     have H1 : (if 0 ≤ x6_1 then (talikref04_Cost.l0 k1 a1 (wrap64 (x5_1 + ((qal l0_0 x6_1).f3))) (wrap64 (x6_1 + 1)) l0_0 l0_1 l0_2) else (none)) = some r := by rw [if_pos rfl] at H; exact H
     clear H
     have H := H1
     clear H1
     by_cases c7 : 0 ≤ x6_1
     ·
      rw [if_pos c7] at H
      have c7b0 : decide (0 ≤ x6_1) = true := decide_eq_true c7
      clear c7
      have H' := qab.mk H
      clear H
      have hcz8_0 : wr.cell? ⟨gb373, 0, none⟩ = some (.slice A0_0 l0_0.length c0_0) := (qaa BK373.out 0).trans rfl
      have hcz8_1 : wr.cell? ⟨gb373, 1, none⟩ = some (.slice A0_1 l0_1.length c0_1) := (qaa BK373.out 1).trans rfl
      have hcz8_2 : wr.cell? ⟨gb373, 2, none⟩ = some (.slice A0_2 l0_2.length c0_2) := (qaa BK373.out 2).trans rfl
      have hfz8_0 := qac BK373.out 0
      have hfz8_1 := qac BK373.out 1
      have hfz8_2 := qac BK373.out 2
      go_wp2_with (first | ((with_reducible refine gate_callee (f := 68) rfl ?_); refine goesL_ (some 16) rfl rfl Try.func68 (by kernel_rfl) rfl #[.int .i64 a1, .int .i64 x6_1] rfl (by (try simp only [List.map_toArray, List.map_cons, List.map_nil]); first | done | rfl | (simp only [List.length_drop, List.length_take]; rfl)) ?_; (with_reducible refine (talikref04_Has.calls k1 a1 x6_1 true _ A5.out).mono ?_); rintro e w' ⟨rfl, ⟨nd, rfl⟩⟩; refine ⟨_, rfl, ?_⟩; have p375 : 0 ≤ (x6_1 : Int) := of_decide_eq_true (by first | (with_reducible assumption) | assumption); have q375 : x6_1 < (l0_0.length : Int) := of_decide_eq_true (by first | (with_reducible assumption) | assumption); obtain ⟨ad375, e375, hx375_0, hx375_1, hx375_2, hx375_3, hx375_4, hx375_5, hx375_6, hx375_7, hx375_8, hx375_9, hx375_10, hx375_11⟩ := at_T39 HR0_0.out x6_1 p375 q375; cases e375; replace hx375_0 := (HB.out.cell (World.block_lt_of_cell? w _ hx375_0)).trans hx375_0; replace hx375_1 := (HB.out.cell (World.block_lt_of_cell? w _ hx375_1)).trans hx375_1; replace hx375_2 := (HB.out.cell (World.block_lt_of_cell? w _ hx375_2)).trans hx375_2; replace hx375_3 := (HB.out.cell (World.block_lt_of_cell? w _ hx375_3)).trans hx375_3; replace hx375_4 := (HB.out.cell (World.block_lt_of_cell? w _ hx375_4)).trans hx375_4; replace hx375_5 := (HB.out.cell (World.block_lt_of_cell? w _ hx375_5)).trans hx375_5; replace hx375_6 := (HB.out.cell (World.block_lt_of_cell? w _ hx375_6)).trans hx375_6; replace hx375_7 := (HB.out.cell (World.block_lt_of_cell? w _ hx375_7)).trans hx375_7; replace hx375_8 := (HB.out.cell (World.block_lt_of_cell? w _ hx375_8)).trans hx375_8; replace hx375_9 := (HB.out.cell (World.block_lt_of_cell? w _ hx375_9)).trans hx375_9; replace hx375_10 := (HB.out.cell (World.block_lt_of_cell? w _ hx375_10)).trans hx375_10; replace hx375_11 := (HB.out.cell (World.block_lt_of_cell? w _ hx375_11)).trans hx375_11; replace p375 := eq_true p375; replace q375 := eq_true q375))
      go_roundg k1
      case measure => have := HK1.out; omega
      case rel => exact ⟨(wrap64 (x5_1 + ((qal l0_0 x6_1).f3))), (wrap64 (x6_1 + 1)), (by first | rfl | (simp; done) | (simp [*]; done)), (by first | rfl | (simp; done) | (simp [*]; done)), H', ⟨by have := HK1.out; omega⟩, ⟨by (with_reducible repeat (first | refine qao ?_ _ | refine qaq ?_ | refine qak ?_ _)); exact BK373.out⟩, ⟨by repeat (first | (with_reducible first | exact HB.out | apply qaf | apply qae | apply qah | refine qai ?_ GE373.out) | exact HB.out)⟩⟩
     ·
      rw [if_neg c7] at H
      exact absurd H (by simp)
    ·
     replace c6 := Bool.eq_false_iff.mpr c6
     subst c6
     have H1 : (talikref04_Cost.l0 k1 a1 x5_1 (wrap64 (x6_1 + 1)) l0_0 l0_1 l0_2) = some r := by rw [if_neg (show ¬ (false = true) by decide)] at H; exact H
     clear H
     have H := H1
     clear H1
     have H' := qab.mk H
     clear H
     have hcz9_0 : wr.cell? ⟨gb373, 0, none⟩ = some (.slice A0_0 l0_0.length c0_0) := (qaa BK373.out 0).trans rfl
     have hcz9_1 : wr.cell? ⟨gb373, 1, none⟩ = some (.slice A0_1 l0_1.length c0_1) := (qaa BK373.out 1).trans rfl
     have hcz9_2 : wr.cell? ⟨gb373, 2, none⟩ = some (.slice A0_2 l0_2.length c0_2) := (qaa BK373.out 2).trans rfl
     have hfz9_0 := qac BK373.out 0
     have hfz9_1 := qac BK373.out 1
     have hfz9_2 := qac BK373.out 2
     go_wp2_with (first | ((with_reducible refine gate_callee (f := 68) rfl ?_); refine goesL_ (some 16) rfl rfl Try.func68 (by kernel_rfl) rfl #[.int .i64 a1, .int .i64 x6_1] rfl (by (try simp only [List.map_toArray, List.map_cons, List.map_nil]); first | done | rfl | (simp only [List.length_drop, List.length_take]; rfl)) ?_; (with_reducible refine (talikref04_Has.calls k1 a1 x6_1 false _ A5.out).mono ?_); rintro e w' ⟨rfl, ⟨nd, rfl⟩⟩; refine ⟨_, rfl, ?_⟩))
     go_roundg k1
     case measure => have := HK1.out; omega
     case rel => exact ⟨(x5_1), (wrap64 (x6_1 + 1)), (by first | rfl | (simp; done) | (simp [*]; done)), (by first | rfl | (simp; done) | (simp [*]; done)), H', ⟨by have := HK1.out; omega⟩, ⟨by (with_reducible repeat (first | refine qao ?_ _ | refine qaq ?_ | refine qak ?_ _)); exact BK373.out⟩, ⟨by repeat (first | (with_reducible first | exact HB.out | apply qaf | apply qae | apply qah | refine qai ?_ GE373.out) | exact HB.out)⟩⟩
   ·
    rw [if_neg c4] at H
    have c4b0 : decide (x6_1 < (l0_0.length : Int)) = false := decide_eq_false c4
    clear c4
    obtain rfl := Option.some.inj H
    have hcz10_0 : wr.cell? ⟨gb373, 0, none⟩ = some (.slice A0_0 l0_0.length c0_0) := (qaa BK373.out 0).trans rfl
    have hcz10_1 : wr.cell? ⟨gb373, 1, none⟩ = some (.slice A0_1 l0_1.length c0_1) := (qaa BK373.out 1).trans rfl
    have hcz10_2 : wr.cell? ⟨gb373, 2, none⟩ = some (.slice A0_2 l0_2.length c0_2) := (qaa BK373.out 2).trans rfl
    have hfz10_0 := qac BK373.out 0
    have hfz10_1 := qac BK373.out 1
    have hfz10_2 := qac BK373.out 2
    go_wp2
    go_ret
    exact ⟨by first | rfl | (simp [qau, qav] <;> rfl) | (simp [*, qau, qav] <;> rfl), by repeat (first | (with_reducible first | exact HB.out | apply qaf | apply qae | apply qah | refine qai ?_ GE373.out) | exact HB.out)⟩
def wrapOne (set : Int) (i : Nat) (L : S39) : S39 := if bitB set i = true then ⟨L.f0, L.f2, L.f2, L.f3, L.f4, L.f5, L.f6, L.f7⟩ else L
def wrapTo (l0 : List S39) (set : Int) (k : Nat) : List S39 := l0.mapIdx fun i L => if i < k then wrapOne set i L else L
def wrappedL (l0 : List S39) (set : Int) : List S39 := l0.mapIdx fun i L => wrapOne set i L
theorem wrapTo_length (l0 : List S39) (set : Int) (k : Nat) : (wrapTo l0 set k).length = l0.length := by simp [wrapTo]
theorem wrappedL_length (l0 : List S39) (set : Int) : (wrappedL l0 set).length = l0.length := by simp [wrappedL]
theorem wrapTo_zero (l0 : List S39) (set : Int) : wrapTo l0 set 0 = l0 := by
 refine List.ext_getElem (by simp [wrapTo]) fun i h1 h2 => ?_
 simp [wrapTo]
theorem wrapTo_all (l0 : List S39) (set : Int) : wrapTo l0 set l0.length = wrappedL l0 set := by
 refine List.ext_getElem (by simp [wrapTo, wrappedL]) fun i h1 h2 => ?_
 have h : i < l0.length := by simpa [wrapTo] using h1
 simp [wrapTo, wrappedL, h]
theorem wrapTo_at (l0 : List S39) (set : Int) (k : Nat) (hk : k < l0.length) : qal (wrapTo l0 set k) (k : Int) = l0[k] := by
 have : k < (wrapTo l0 set k).length := by rw [wrapTo_length]; exact hk
 simp [qal, this]
 simp [wrapTo]
theorem wrapTo_succ (l0 : List S39) (set : Int) (k : Nat) (hk : k < l0.length) : wrapTo l0 set (k + 1) = (wrapTo l0 set k).set k (wrapOne set k l0[k]) := by
 refine List.ext_getElem (by simp [wrapTo]) fun i h1 h2 => ?_
 rw [List.getElem_set]
 by_cases he : k = i
 ·
  subst he
  simp [wrapTo]
 ·
  rw [if_neg he]
  simp only [wrapTo, List.getElem_mapIdx]
  by_cases hi : i < k
  ·
   rw [if_pos hi, if_pos (by omega)]
  ·
   rw [if_neg hi, if_neg (by omega)]
theorem wrapTo_no (l0 : List S39) (set : Int) (k : Nat) (hk : k < l0.length) (hb : bitB set (k : Int) = false) : wrapTo l0 set (k + 1) = wrapTo l0 set k := by
 refine List.ext_getElem (by simp [wrapTo]) fun i h1 h2 => ?_
 simp only [wrapTo, List.getElem_mapIdx]
 by_cases he : i = k
 ·
  subst he
  simp [wrapOne, hb]
 ·
  by_cases hi : i < k
  ·
   rw [if_pos hi, if_pos (by omega)]
  ·
   rw [if_neg hi, if_neg (by omega)]
theorem wrapTo_yes (l0 : List S39) (set : Int) (k : Nat) (hk : k < l0.length) (hb : bitB set (k : Int) = true) :
  wrapTo l0 set (k + 1) = (wrapTo l0 set k).set (Int.toNat (k : Int)) ⟨(qal (wrapTo l0 set k) k).f0, (qal (wrapTo l0 set k) k).f2, (qal (wrapTo l0 set k) k).f2, (qal (wrapTo l0 set k) k).f3, (qal (wrapTo l0 set k) k).f4, (qal (wrapTo l0 set k) k).f5, (qal (wrapTo l0 set k) k).f6, (qal (wrapTo l0 set k) k).f7⟩ := by
 rw [wrapTo_at l0 set k hk, wrapTo_succ l0 set k hk, Int.toNat_natCast]
 simp [wrapOne, hb]
def cells39 (L : S39) : List Value := [.int .i64 L.f0.f0, .int .i64 L.f0.f1, .int .i64 L.f1.f0, .int .i64 L.f1.f1, .int .i64 L.f2.f0, .int .i64 L.f2.f1, .int .i64 L.f3, .int .i64 L.f4, .int .i64 L.f5, .int .i64 L.f6, .int .i64 L.f7.f0, .int .i64 L.f7.f1]
theorem row39_at {W : World} {base gr n c : Nat} {ok : Nat → Prop} {xs : List S39} (h : k39.R 39 W base ok (.slice (some ⟨gr, 0, none⟩) n c) xs) (k : Nat) (hk : k < n) : ∀ j u, (cells39 (qal xs k))[j]? = some u → W.cell? ⟨gr, k * 12 + j, none⟩ = some u := by
 obtain ⟨ad, c', e, _, hK, hc⟩ := Kd.C_get (Kd.R_reads' h).2.2 z39 (k : Int) (by omega) (by have := (Kd.R_reads' h).1; omega)
 cases e
 obtain rfl := k39_open hK
 intro j u hj
 have h1 := hc j u hj
 have e2 : (⟨gr, 0, none⟩ : Addr).add ((k : Int).toNat * 12 + j) = ⟨gr, k * 12 + j, none⟩ := by simp [Addr.add]; try omega
 exact e2 ▸ h1
structure WI (w : World) (gb g4 g5 : Nat) (u0 u1 u2 : Value) (vr : Value) (xs : List S39) (W : World) : Prop where
 b : W.heap[gb]? = some (.cells #[u0, u1, u2] 26 (0, 0))
 r : W.heap[g4]? = some (.cells #[.slice none 0 0, .slice none 0 0, .slice none 0 0] 26 (0, 0))
 o : W.heap[g5]? = some (.cells #[vr, u1, u2] 26 (0, 0))
 x : Kd.R k39 39 W w.heap.size (fun _ => True) vr xs
 hb : Below w.heap.size w W
theorem WI.below {w W W' : World} {gb g4 g5 : Nat} {u0 u1 u2 vr : Value} {xs : List S39} (h : WI w gb g4 g5 u0 u1 u2 vr xs W) (hb : Below W.heap.size W W') : WI w gb g4 g5 u0 u1 u2 vr xs W' := ⟨qag h.b hb, qag h.r hb, qag h.o hb, Kd.R_below h.x hb, qad h.hb hb⟩
theorem talikref04_Wrapped.calls (A0_0 : Option Addr) (c0_0 : Nat) (l0_0 : List S39) (A0_1 : Option Addr) (n1 c0_1 : Nat) (A0_2 : Option Addr) (n2 c0_2 : Nat) (set : Int) (w : World) (hr0_0 : Kd.C k39 w A0_0 l0_0.length l0_0) (hc0_0 : l0_0.length ≤ c0_0) (h5 : l0_0.length ≤ 5) (s0 : 0 ≤ set) (s1 : set < 32) :
  Calls Try.prog 42 #[.agg #[.slice A0_0 l0_0.length c0_0, .slice A0_1 n1 c0_1, .slice A0_2 n2 c0_2], .int .i64 set] w fun e w' => ∃ A c, e = .returned (.agg #[.slice A l0_0.length c, .slice A0_1 n1 c0_1, .slice A0_2 n2 c0_2]) ∧ l0_0.length ≤ c ∧ Kd.C k39 w' A l0_0.length (wrappedL l0_0 set) ∧ Below w.heap.size w w' := by
 have hu26 := Try.underlying26
 have hu39 := Try.underlying39
 have hu37 := Try.underlying37
 have HB := qab.mk (Below.refl w.heap.size w)
 have HR0 := qab.mk hr0_0
 have HC0 := qab.mk hc0_0
 clear hr0_0 hc0_0
 have hhas : ∀ (i : Nat) (W : World), i < 5 → Calls Try.prog 68 #[.int .i64 set, .int .i64 i] W fun e w' => e = .returned (.bool (bitB set i)) ∧ Below W.heap.size W w' := fun i W hi => (talikref04_Has.calls 10 set i _ W (has_eq set s0 s1 i hi 10 (by omega))).mono fun e w' ⟨h1, h2⟩ => ⟨h1, h2.below⟩
 have HHAS := qab.mk hhas
 clear hhas
 go_enter Try.func42, Try.ntmps42
 go_upto_region 2 with (first | ((with_reducible refine qan (N := 2) rfl ?_); refine qam ?hg (N := 2) ?hd (cs := #[.slice A0_0 l0_0.length c0_0, .slice A0_1 n1 c0_1, .slice A0_2 n2 c0_2]) (t := 26) ?hr ?_; (case hd => rfl); (case hg => rfl); (case hr => first | (go_simp; done) | (go_simp; rfl)); intro gb hg_gb w2 hbox hb; have BKgb := qab.mk hbox; have n_HB := qab.mk (qad HB.out hb); have GEgb : w.heap.size ≤ gb := (by rw [hg_gb]; exact HB.out.size); clear HB; have HB := n_HB; clear n_HB; obtain ⟨hfgb, hcgb_0, hcgb_1, hcgb_2⟩ := qz3 BKgb.out; clear hbox hb hg_gb) | ((with_reducible refine qan (N := 4) rfl ?_); refine qam ?hg (N := 4) ?hd (cs := #[.slice none 0 0, .slice none 0 0, .slice none 0 0]) (t := 26) ?hr ?_; (case hd => rfl); (case hg => rfl); (case hr => first | (go_simp; done) | (go_simp; rfl)); intro g4 hg_g4 w3 hbox hb; have BKg4 := qab.mk hbox; replace BKgb := qab.mk (qag BKgb.out hb); have n_HB := qab.mk (qad HB.out hb); have GEg4 : w.heap.size ≤ g4 := (by rw [hg_g4]; exact HB.out.size); clear HB; have HB := n_HB; clear n_HB; obtain ⟨hfg4, hcg4_0, hcg4_1, hcg4_2⟩ := qz3 BKg4.out; clear hbox hb hg_g4; obtain ⟨hfgb, hcgb_0, hcgb_1, hcgb_2⟩ := qz3 BKgb.out) | ((with_reducible refine qan (N := 5) rfl ?_); refine qam ?hg (N := 5) ?hd (cs := #[.slice none 0 0, .slice none 0 0, .slice none 0 0]) (t := 26) ?hr ?_; (case hd => rfl); (case hg => rfl); (case hr => first | (go_simp; done) | (go_simp; rfl)); intro g5 hg_g5 w4 hbox hb; have BKg5 := qab.mk hbox; have ne_gb_g5 : gb ≠ g5 := (by rw [hg_g5]; exact Nat.ne_of_lt (blk_lt BKgb.out)); have ne_g4_g5 : g4 ≠ g5 := (by rw [hg_g5]; exact Nat.ne_of_lt (blk_lt BKg4.out)); replace BKgb := qab.mk (qag BKgb.out hb); replace BKg4 := qab.mk (qag BKg4.out hb); have n_HB := qab.mk (qad HB.out hb); have GEg5 : w.heap.size ≤ g5 := (by rw [hg_g5]; exact HB.out.size); clear HB; have HB := n_HB; clear n_HB; obtain ⟨hfg5, hcg5_0, hcg5_1, hcg5_2⟩ := qz3 BKg5.out; clear hbox hb hg_g5; obtain ⟨hfgb, hcgb_0, hcgb_1, hcgb_2⟩ := qz3 BKgb.out))
 have he_ : setAll w4 g5 [.slice A0_0 l0_0.length c0_0, .slice A0_1 n1 c0_1, .slice A0_2 n2 c0_2] 0 = (((w4.setCell ⟨g5, 0, none⟩ (.slice A0_0 l0_0.length c0_0)).setCell ⟨g5, 1, none⟩ (.slice A0_1 n1 c0_1)).setCell ⟨g5, 2, none⟩ (.slice A0_2 n2 c0_2)) := rfl; have hbl := setAll_below GEg5 [.slice A0_0 l0_0.length c0_0, .slice A0_1 n1 c0_1, .slice A0_2 n2 c0_2] 0 _ HB.out; have hbx : (setAll w4 g5 [.slice A0_0 l0_0.length c0_0, .slice A0_1 n1 c0_1, .slice A0_2 n2 c0_2] 0).heap[g5]? = some (.cells #[.slice A0_0 l0_0.length c0_0, .slice A0_1 n1 c0_1, .slice A0_2 n2 c0_2] 26 (0, 0)) := setAll_new [.slice A0_0 l0_0.length c0_0, .slice A0_1 n1 c0_1, .slice A0_2 n2 c0_2] [.slice none 0 0, .slice none 0 0, .slice none 0 0] BKg5.out rfl; have hx_BKgb := setAll_far ne_gb_g5 [.slice A0_0 l0_0.length c0_0, .slice A0_1 n1 c0_1, .slice A0_2 n2 c0_2] 0 _ BKgb.out; have hx_BKg4 := setAll_far ne_g4_g5 [.slice A0_0 l0_0.length c0_0, .slice A0_1 n1 c0_1, .slice A0_2 n2 c0_2] 0 _ BKg4.out; rw [he_] at hbl hbx hx_BKgb hx_BKg4; clear he_; generalize (((w4.setCell ⟨g5, 0, none⟩ (.slice A0_0 l0_0.length c0_0)).setCell ⟨g5, 1, none⟩ (.slice A0_1 n1 c0_1)).setCell ⟨g5, 2, none⟩ (.slice A0_2 n2 c0_2)) = w5 at hbl hbx hx_BKgb hx_BKg4 ⊢; clear HB BKg5; have HB := qab.mk hbl; have BKg5 := qab.mk hbx; clear hbl hbx; clear BKgb; have BKgb := qab.mk hx_BKgb; clear hx_BKgb; clear BKg4; have BKg4 := qab.mk hx_BKg4; clear hx_BKg4
 clear hfg5 hcg5_0 hcg5_1 hcg5_2 hfgb hcgb_0 hcgb_1 hcgb_2 hfg4 hcg4_0 hcg4_1 hcg4_2
 obtain ⟨hfgb, hcgb_0, hcgb_1, hcgb_2⟩ := qz3 BKgb.out
 obtain ⟨hfg5, hcg5_0, hcg5_1, hcg5_2⟩ := qz3 BKg5.out
 go_upto_region 3 with (first | ((with_reducible refine gate_builtin (b := .append) (xs := #[.const (.slice none 0 0), .tmp 9]) rfl ?_); at_builtin; refine Kd.R_append_rows k39 (w0 := w) w.heap.size rfl (.const (.slice none 0 0)) (.tmp 9) 22 39 (.agg #[.int .i64 0, .int .i64 0, .int .i64 0, .int .i64 0, .int .i64 0, .int .i64 0, .int .i64 0, .int .i64 0, .int .i64 0, .int .i64 0, .int .i64 0, .int .i64 0]) 96 rfl Try.underlying22 info39 rfl (by decide) (by omega) (.slice none 0 0) ([] : List S39) l0_0 _ _ _ (fun _ => True) (fun _ => False) rfl rfl ?aO ?aR (fun _ _ h => h) (fun _ h => h.elim) ?aF ?aB ?aS ?aL ?_; (case aR => exact Kd.qaj HR0.out HB.out); (case aB => exact HB.out); (case aF => exact fun _ _ => trivial); (case aO => exact Kd.R_nil _ _ _ _ _); (case aS => exact HB.out.size); (case aL => simp; omega); intro v10 w10 ho hB hg hat; have n_b := qab.mk (blk_grown BKgb.out hg (by simp [Value.ownBlock])); have n_4 := qab.mk (blk_grown BKg4.out hg (by simp [Value.ownBlock])); have n_5 := qab.mk (blk_grown BKg5.out hg (by simp [Value.ownBlock])); clear BKgb BKg4 BKg5 HB; have BKgb := n_b; have BKg4 := n_4; have BKg5 := n_5; have HB := qab.mk hB; rw [List.nil_append] at ho; obtain ⟨vA, vc, rfl⟩ := Kd.R_slice ho; have HO := qab.mk ho; clear n_b n_4 n_5 ho hB hg hat; obtain ⟨hfg5, hcg5_0, hcg5_1, hcg5_2⟩ := qz3 BKg5.out))
 have hbk5 := qba BKg5.out 0 (.slice vA l0_0.length vc)
 have hbkb := blk_far (p := ⟨g5, 0, none⟩) BKgb.out ne_gb_g5 (.slice vA l0_0.length vc)
 have hbk4 := blk_far (p := ⟨g5, 0, none⟩) BKg4.out ne_g4_g5 (.slice vA l0_0.length vc)
 have hbb := qai (j := 0) (v := .slice vA l0_0.length vc) HB.out GEg5
 have hx := Kd.R_set HO.out BKg5.out (by decide) 0 (.slice vA l0_0.length vc)
 have HI : qab (WI w gb g4 g5 (.slice A0_0 l0_0.length c0_0) (.slice A0_1 n1 c0_1) (.slice A0_2 n2 c0_2) (.slice vA l0_0.length vc) (wrapTo l0_0 set 0) (w10.setCell ⟨g5, 0, none⟩ (.slice vA l0_0.length vc))) := ⟨⟨hbkb, hbk4, hbk5, by rw [wrapTo_zero]; exact hx, hbb⟩⟩
 clear hbk5 hbkb hbk4 hbb hx hfg5 hcg5_0 hcg5_1 hcg5_2 hfgb hcgb_0 hcgb_1 hcgb_2 BKgb BKg4 BKg5 HB HO
 generalize w10.setCell ⟨g5, 0, none⟩ (.slice vA l0_0.length vc) = wL at HI ⊢
 go_wp2
 go_loopw [6] (fun s6 wr => ∃ k : Nat, k ≤ l0_0.length ∧ s6 = .int .i64 k ∧ qab (WI w gb g4 g5 (.slice A0_0 l0_0.length c0_0) (.slice A0_1 n1 c0_1) (.slice A0_2 n2 c0_2) (.slice vA l0_0.length vc) (wrapTo l0_0 set k) wr)) (fun s6 _ => l0_0.length - (intOf s6).toNat)
 case atStart => exact ⟨0, by omega, rfl, HI⟩
 case round =>
  clear HI wL
  obtain ⟨k, hk1, rfl, HI⟩ := hrel
  have g5_0 : wr.cell? ⟨g5, 0, none⟩ = some (.slice vA l0_0.length vc) := (qaa HI.out.o 0).trans rfl
  by_cases hlt : k < l0_0.length
  ·
   have hk5 : k < 5 := by omega
   cases hbit : bitB set (k : Int) with
   | false =>
    have HN := qab.mk (wrapTo_no l0_0 set k hlt hbit)
    have HC : qab (∀ W, Calls Try.prog 68 #[.int .i64 set, .int .i64 k] W fun e w' => e = .returned (.bool false) ∧ Below W.heap.size W w') := ⟨fun W => by have h := HHAS.out k W hk5; rw [hbit] at h; exact h⟩
    clear hbit
    go_wp2_with (go_at_call 68; with_reducible refine (HC.out _).mono ?_; rintro e w4 ⟨rfl, hb⟩; replace HI := qab.mk (HI.out.below hb); clear hb g5_0; have g5_0 : w4.cell? ⟨g5, 0, none⟩ = some (.slice vA l0_0.length vc) := (qaa HI.out.o 0).trans rfl)
    go_roundw
    case rel => exact ⟨k + 1, by omega, by go_num, by rw [HN.out]; exact HI⟩
    case measure => simp [intOf]; omega
   | true =>
    have HY := qab.mk (wrapTo_yes l0_0 set k hlt hbit)
    have HC : qab (∀ W, Calls Try.prog 68 #[.int .i64 set, .int .i64 k] W fun e w' => e = .returned (.bool true) ∧ Below W.heap.size W w') := ⟨fun W => by have h := HHAS.out k W hk5; rw [hbit] at h; exact h⟩
    clear hbit
    go_upto_region 7 with (go_at_call 68; with_reducible refine (HC.out _).mono ?_; rintro e w4 ⟨rfl, hb⟩; replace HI := qab.mk (HI.out.below hb); clear hb g5_0)
    obtain ⟨gr, c', e, hgr, hgl, cs', hbr⟩ := Kd.R_form HI.out.x (by rw [wrapTo_length]; omega)
    rw [wrapTo_length] at e
    injection e with e1 _ e3
    subst e1
    subst e3
    obtain ⟨L, hL⟩ : ∃ L, L = qal (wrapTo l0_0 set k) (k : Int) := ⟨_, rfl⟩
    have hrow := row39_at HI.out.x k (by omega)
    rw [← hL] at hrow
    rw [← hL] at HY
    have hS : (w4.cell? ⟨g5, 0, none⟩ = some (.slice (some ⟨gr, 0, none⟩) l0_0.length vc) ∧ w4.cell? ⟨gr, k * 12 + 4, none⟩ = some (.int .i64 L.f2.f0) ∧ w4.cell? ⟨gr, k * 12 + 5, none⟩ = some (.int .i64 L.f2.f1)) := ⟨(qaa HI.out.o 0).trans rfl, hrow 4 _ rfl, hrow 5 _ rfl⟩
    have hne := blk_ne HI.out.b hbr (by decide)
    have hne4 := blk_ne HI.out.r hbr (by decide)
    have hne5 := blk_ne HI.out.o hbr (by decide)
    have HS := qab.mk hS
    have HROW := qab.mk hrow
    have HBR := qab.mk hbr
    clear hS hrow hbr hL
    refine start_ (n := 12) (S := (fun w' => (w'.cell? ⟨g5, 0, none⟩ = some (.slice (some ⟨gr, 0, none⟩) l0_0.length vc) ∧ w'.cell? ⟨gr, k * 12 + 4, none⟩ = some (.int .i64 L.f2.f0) ∧ w'.cell? ⟨gr, k * 12 + 5, none⟩ = some (.int .i64 L.f2.f1)))) (ds := [11]) (msk 12 0) (by kernel_rfl) rfl rfl (HS.out) (fun hHeld => ?_)
    have n_HI := qab.mk (HI.out.below (qbb (Below.refl w4.heap.size w4))); have hbd : w4.drew.heap[gr]? = some (.cells cs' 39 (0, 0)) := HBR.out; have n_R : ∀ j u, (cells39 L)[j]? = some u → w4.drew.cell? ⟨gr, k * 12 + j, none⟩ = some u := HROW.out; have n_ROW := qab.mk n_R; clear HI HROW HBR n_R; have HI := n_HI; have HROW := n_ROW; clear n_HI n_ROW; generalize w4.drew = wd at HI HROW hbd hHeld ⊢; have fr := qac hbd; have HBR := qab.mk hbd; clear hbd; have d2 : wd.cell? ⟨gr, k * 12 + 2, none⟩ = some (.int .i64 L.f1.f0) := HROW.out 2 _ rfl; have d3 : wd.cell? ⟨gr, k * 12 + 3, none⟩ = some (.int .i64 L.f1.f1) := HROW.out 3 _ rfl
    refine pure_ (i := 0) (N := some 22) (v := ?_) (a' := ?_) (msk 12 1) rfl rfl (by kernel_rfl) (fun _ _ _ h => h) (Or.inl ⟨by rfl, ?_⟩) ?_ ?_; rotate_left; (focus (intro w'; go_simp; with_reducible rfl)); rotate_left; (focus (simp only [Act.put, qzA, qzB, qzC, i64_w, i32_w]; rfl))
    refine take_ (i := 1) (N := some 23) (v := ?_) (a' := ?_) (msk 12 2) rfl rfl (by kernel_rfl) (fun _ _ _ h => h) (Or.inl ⟨by rfl, ?_⟩) hHeld ?_ ?_; rotate_left; (focus (rintro w' ⟨s0, s1, s2⟩; go_simp; with_reducible rfl)); rotate_left; (focus (simp only [Act.put, qzA, qzB, qzC, i64_w, i32_w]; rfl))
    refine pure_ (i := 2) (N := some 24) (v := ?_) (a' := ?_) (msk 12 3) rfl rfl (by kernel_rfl) (fun _ _ _ h => h) (Or.inl ⟨by rfl, ?_⟩) ?_ ?_; rotate_left; (focus (intro w'; go_simp; with_reducible rfl)); rotate_left; (focus (simp only [Act.put, qzA, qzB, qzC, i64_w, i32_w]; rfl))
    refine pure_ (i := 3) (N := some 25) (v := ?_) (a' := ?_) (msk 12 4) rfl rfl (by kernel_rfl) (fun _ _ _ h => h) (Or.inl ⟨by rfl, ?_⟩) ?_ ?_; rotate_left; (focus (intro w'; go_simp; with_reducible rfl)); rotate_left; (focus (simp only [Act.put, qzA, qzB, qzC, i64_w, i32_w]; rfl))
    refine take_ (i := 4) (N := some 26) (v := ?_) (a' := ?_) (msk 12 5) rfl rfl (by kernel_rfl) (fun _ _ _ h => h) (Or.inl ⟨by rfl, ?_⟩) hHeld ?_ ?_; rotate_left; (focus (rintro w' ⟨s0, s1, s2⟩; go_simp; with_reducible rfl)); rotate_left; (focus (simp only [Act.put, qzA, qzB, qzC, i64_w, i32_w]; rfl))
    refine pure_ (i := 5) (N := some 27) (v := ?_) (a' := ?_) (msk 12 6) rfl rfl (by kernel_rfl) (fun _ _ _ h => h) (Or.inl ⟨by rfl, ?_⟩) ?_ ?_; rotate_left; (focus (intro w'; go_simp; with_reducible rfl)); rotate_left; (focus (simp only [Act.put, qzA, qzB, qzC, i64_w, i32_w]; rfl))
    refine pure_ (i := 6) (N := some 28) (v := ?_) (a' := ?_) (msk 12 7) rfl rfl (by kernel_rfl) (fun _ _ _ h => h) (Or.inl ⟨by rfl, ?_⟩) ?_ ?_; rotate_left; (focus (intro w'; go_simp; with_reducible rfl)); rotate_left; (focus (simp only [Act.put, qzA, qzB, qzC, i64_w, i32_w]; rfl))
    refine pure_ (i := 7) (N := some 29) (v := ?_) (a' := ?_) (msk 12 8) rfl rfl (by kernel_rfl) (fun _ _ _ h => h) (Or.inl ⟨by rfl, ?_⟩) ?_ ?_; rotate_left; (focus (intro w'; go_simp; with_reducible rfl)); rotate_left; (focus (simp only [Act.put, qzA, qzB, qzC, i64_w, i32_w]; rfl))
    refine take_ (i := 8) (N := some 30) (v := ?_) (a' := ?_) (msk 12 9) rfl rfl (by kernel_rfl) (fun _ _ _ h => h) (Or.inl ⟨by rfl, ?_⟩) hHeld ?_ ?_; rotate_left; (focus (rintro w' ⟨s0, s1, s2⟩; go_simp; with_reducible rfl)); rotate_left; (focus (simp only [Act.put, qzA, qzB, qzC, i64_w, i32_w]; rfl))
    refine pure_ (i := 9) (N := some 31) (v := ?_) (a' := ?_) (msk 12 10) rfl rfl (by kernel_rfl) (fun _ _ _ h => h) (Or.inl ⟨by rfl, ?_⟩) ?_ ?_; rotate_left; (focus (intro w'; go_simp; with_reducible rfl)); rotate_left; (focus (simp only [Act.put, qzA, qzB, qzC, i64_w, i32_w]; rfl))
    refine pure_ (i := 10) (N := some 32) (v := ?_) (a' := ?_) (msk 12 11) rfl rfl (by kernel_rfl) (fun _ _ _ h => h) (Or.inl ⟨by rfl, ?_⟩) ?_ ?_; rotate_left; (focus (intro w'; go_simp; with_reducible rfl)); rotate_left; (focus (simp only [Act.put, qzA, qzB, qzC, i64_w, i32_w]; rfl))
    refine last_ (i := 11) (N := none) (msk 12 12) rfl rfl (by kernel_rfl) (by decide) (fun K hK => ?_); refine skip_ (w1 := ?_) (by rfl) rfl ?_ ?_; rotate_left; (focus (go_simp; rfl)); refine hK.out _ _ ?_; clear hK K hHeld
    have hsg := Kd.R_seg HI.out.x (k : Int) (by omega) (by omega) (c := cells39 L) (seg := [.int .i64 L.f2.f0, .int .i64 L.f2.f1]) (j := 2) rfl HROW.out (show 2 + 2 ≤ 12 by decide) (x' := (⟨L.f0, L.f2, L.f2, L.f3, L.f4, L.f5, L.f6, L.f7⟩ : S39)) (okp := fun _ => False) (k39_mkM _ _ _ (⟨L.f0, L.f2, L.f2, L.f3, L.f4, L.f5, L.f6, L.f7⟩ : S39)) (fun _ h => h.elim)
    have h1 : k39.R 39 ((wd.setCell ⟨gr, k * 12 + 2, none⟩ (.int .i64 L.f2.f0)).setCell ⟨gr, k * 12 + 2 + 1, none⟩ (.int .i64 L.f2.f1)) w.heap.size (fun _ => True) (.slice (some ⟨gr, 0, none⟩) l0_0.length vc) ((wrapTo l0_0 set k).set (Int.toNat (k : Int)) (⟨L.f0, L.f2, L.f2, L.f3, L.f4, L.f5, L.f6, L.f7⟩ : S39)) := hsg.1
    have h2 := blk_far (p := ⟨gr, k * 12 + 2 + 1, none⟩) (blk_far (p := ⟨gr, k * 12 + 2, none⟩) HI.out.b hne (.int .i64 L.f2.f0)) hne (.int .i64 L.f2.f1)
    have h3 := blk_far (p := ⟨gr, k * 12 + 2 + 1, none⟩) (blk_far (p := ⟨gr, k * 12 + 2, none⟩) HI.out.r hne4 (.int .i64 L.f2.f0)) hne4 (.int .i64 L.f2.f1)
    have h4 := blk_far (p := ⟨gr, k * 12 + 2 + 1, none⟩) (blk_far (p := ⟨gr, k * 12 + 2, none⟩) HI.out.o hne5 (.int .i64 L.f2.f0)) hne5 (.int .i64 L.f2.f1)
    have h5 := qai (j := k * 12 + 2 + 1) (v := .int .i64 L.f2.f1) (qai (j := k * 12 + 2) (v := .int .i64 L.f2.f0) HI.out.hb hgr) hgr
    have HI2 := qab.mk (WI.mk h2 h3 h4 h1 h5); clear HI hsg h1 h2 h3 h4 h5 HROW HBR d2 d3 fr HS hne hne4 hne5
    generalize ((wd.setCell ⟨gr, k * 12 + 2, none⟩ (.int .i64 L.f2.f0)).setCell ⟨gr, k * 12 + 2 + 1, none⟩ (.int .i64 L.f2.f1)) = we at HI2 ⊢; have HI := HI2; clear HI2
    refine done_ (by kernel_rfl) ?_
    go_wp2
    go_roundw
    case rel => exact ⟨k + 1, by omega, by go_num, by rw [HY.out]; exact HI⟩
    case measure => simp [intOf]; omega
  ·
   obtain rfl : k = l0_0.length := by omega
   have g5_1 : wr.cell? ⟨g5, 1, none⟩ = some (.slice A0_1 n1 c0_1) := (qaa HI.out.o 1).trans rfl
   have g5_2 : wr.cell? ⟨g5, 2, none⟩ = some (.slice A0_2 n2 c0_2) := (qaa HI.out.o 2).trans rfl
   have g4_0 : wr.cell? ⟨g4, 0, none⟩ = some (.slice none 0 0) := (qaa HI.out.r 0).trans rfl; have g4_1 : wr.cell? ⟨g4, 1, none⟩ = some (.slice none 0 0) := (qaa HI.out.r 1).trans rfl; have g4_2 : wr.cell? ⟨g4, 2, none⟩ = some (.slice none 0 0) := (qaa HI.out.r 2).trans rfl
   have f4 := qac HI.out.r
   go_wp2
   refine bodyPost_ret (results_cell_row rfl _ _ g4 26 #[.slice vA l0_0.length vc, .slice A0_1 n1 c0_1, .slice A0_2 n2 c0_2] (0, 0) _ rfl (qba (qba (qba HI.out.r 0 _) 1 _) 2 _) Try.underlying26 rfl (by kernel_rfl)) rfl ?_
   have hC := Kd.R_reads' (Kd.R_set (Kd.R_set (Kd.R_set HI.out.x HI.out.r (by decide) 0 (.slice vA l0_0.length vc)) (qba HI.out.r 0 _) (by decide) 1 (.slice A0_1 n1 c0_1)) (qba (qba HI.out.r 0 _) 1 _) (by decide) 2 (.slice A0_2 n2 c0_2))
   rw [wrapTo_all, wrappedL_length] at hC
   exact ⟨vA, vc, rfl, by have := hC.2.1; omega, hC.2.2, qai (qai (qai HI.out.hb GEg4) GEg4) GEg4⟩
end Go.Proofs.Ytipphcjgdebecaa.PA
namespace Go.Proofs.Ytipphcjgdebecaa.PA
open Go.RowKit Go.Shelf Go.Proofs.YtipphcjgdebecaaW.PrintWords Go.Proofs.YtipphcjgdebecaaW.PrintLast Go.Proofs.YtipphcjgdebecaaW.PrintMore
attribute [local go_sem] qaw qay max_two min_two qas qat qax qaz
theorem rdT39_wrapped (l0 : List S39) (set : Int) (n : Nat) (hn : n < l0.length) : qal (wrappedL l0 set) (n : Int) = wrapOne set n (qal l0 (n : Int)) := by
 simp [qal, wrappedL, hn]
theorem f7_wrapped (l0 : List S39) (set i : Int) : (qal (wrappedL l0 set) i).f7 = (qal l0 i).f7 := by
 by_cases h : i.toNat < l0.length
 ·
  simp only [qal, wrappedL, List.getElem?_mapIdx, List.getElem?_eq_getElem h, Option.map_some, Option.getD_some, List.getD_eq_getElem?_getD]
  unfold wrapOne
  split <;> rfl
 ·
  simp [qal, wrappedL, h]
theorem wrapOne_loop {L : S39} (set : Int) (i : Nat) (h : loopB L = true) : loopB (wrapOne set i L) = true := by
 unfold wrapOne
 split
 ·
  have hL := loop_ok h
  have a1 := hL.w0
  have a2 := hL.w1
  have a3 := hL.w2
  have a4 := hL.p0
  have a5 := hL.p1
  have a6 := hL.p2
  have a7 := hL.c0
  have a8 := hL.c1
  have a9 := hL.m0
  have b1 := hL.m1
  have b2 := hL.g0
  have b3 := hL.g1
  have b4 := hL.e0
  have b5 := hL.e1
  have b6 := hL.x0
  have b7 := hL.x1
  have b8 := hL.x2
  unfold loopB spanB inB
  simp only [Bool.and_eq_true, decide_eq_true_eq]
  exact ⟨⟨a1, a2, a3⟩, ⟨a4, a5, a6⟩, ⟨a4, a5, a6⟩, Int.le_refl _, Int.le_refl _, ⟨a7, a8⟩, ⟨a9, b1⟩, ⟨b2, b3⟩, ⟨b4, b5⟩, b6, b7, b8⟩
 ·
  exact h
theorem valid_wrapped {l0 : List S39} {l1 : List S37} {l2 : List (List Int)} (set : Int) (h : validB l0 l1 l2 = true) : validB (wrappedL l0 set) l1 l2 = true := by
 unfold validB at h ⊢
 rw [wrappedL_length]
 simp only [Bool.and_eq_true] at h ⊢
 obtain ⟨h1, h2, h3, h4, h5, h6⟩ := h
 refine ⟨h1, h2, h3, h4, ?_, h6⟩
 rw [List.all_eq_true] at h5 ⊢
 intro L hL
 unfold wrappedL at hL
 obtain ⟨i, hi, rfl⟩ := List.mem_iff_getElem.1 hL
 rw [List.getElem_mapIdx]
 exact wrapOne_loop set i (h5 _ (List.getElem_mem _))
theorem inFault_wrapped (l0 : List S39) (set f : Int) : inFault (wrappedL l0 set) f = inFault l0 f := by
 unfold inFault
 rw [wrappedL_length]
section
variable (l0 : List S39) (l1 : List S37) (l2 : List (List Int)) (D : List Int) (set : Int)
theorem rep_wrapped : repV (wrappedL l0 set) l2 D = repV l0 l2 D := by
 funext s i
 unfold repV nextV hourV
 rw [f7_wrapped]
theorem of_wrapped : ofV (wrappedL l0 set) l2 D = ofV l0 l2 D := by
 funext f s i
 unfold ofV
 rw [rep_wrapped]
theorem good_wrapped : goodV (wrappedL l0 set) l2 D = goodV l0 l2 D := by
 funext f slack s i
 unfold goodV
 rw [rep_wrapped]
theorem same_wrapped (f : Sp → Way) (slack : Int) : ∀ k, sameV (wrappedL l0 set) l2 D f slack k = sameV l0 l2 D f slack k
 | 0 => rfl
 | k + 1 => by
  funext s out
  simp only [sameV, good_wrapped, rep_wrapped, same_wrapped f slack k]
theorem step_wrapped (f : Sp → Way) : stepV (wrappedL l0 set) l1 l2 D f = stepV l0 l1 l2 D f := by
 funext s
 unfold stepV
 rw [of_wrapped, same_wrapped, rep_wrapped]
theorem search_wrapped : ∀ k, searchV (wrappedL l0 set) l1 l2 D k = searchV l0 l1 l2 D k
 | 0 => rfl
 | k + 1 => by
  funext s
  simp only [searchV]
  rw [search_wrapped k, step_wrapped]
theorem best_wrapped (s : Sp) : bestV (wrappedL l0 set) l1 l2 D s = bestV l0 l1 l2 D s := by
 unfold bestV
 rw [search_wrapped]
theorem warmth_wrapped (n : Nat) (hn : n < l0.length) : warmthV l0 l1 set (n : Int) = warmthV (wrappedL l0 set) l1 0 (n : Int) := by
 have e : ∀ b, leakOf (wrapOne set n (qal l0 (n : Int))) (bitB 0 b) = leakOf (qal l0 (n : Int)) (bitB set (n : Int)) := fun b => by
  rw [bitB_zero]
  unfold wrapOne leakOf
  cases bitB set (n : Int) <;> rfl
 have e0 : (wrapOne set n (qal l0 (n : Int))).f0 = (qal l0 (n : Int)).f0 := by
  unfold wrapOne
  split <;> rfl
 unfold warmthV leastV greatestV
 rw [rdT39_wrapped l0 set n hn]
 simp only [e, e0]
theorem due_wrapped (hn : l1.length ≤ 1000) (hs : 0 ≤ set) (i : Nat) (hi : i < l0.length) : (pipe_net_due.f l0 l1 l2 set (i : Int)).getD 0 = dueI (wrappedL l0 set) l1 (i : Int) := by
 rw [← due_eq (wrappedL l0 set) l1 l2 (i : Int) (by omega) (by rw [wrappedL_length]; omega) hn]
 unfold pipe_net_due.f pipe_net_freezes.f
 rw [if_pos ⟨by omega, by omega, hs, hn⟩, if_pos ⟨by omega, by rw [wrappedL_length]; omega, by decide, hn⟩, warmth_wrapped l0 l1 set i hi]
theorem dues_wrapped (hn : l1.length ≤ 1000) (hs : 0 ≤ set) : duesV l0 l1 l2 set l0.length = duesI (wrappedL l0 set) l1 := by
 unfold duesV duesI
 rw [wrappedL_length]
 refine List.map_congr_left fun i hi => ?_
 exact due_wrapped l0 l1 l2 set hn hs i (List.mem_range.1 hi)
end
theorem order_wrapped {l0 : List S39} {l1 : List S37} {l2 : List (List Int)} (hv : validB l0 l1 l2 = true) (set a f : Int) (hs : 0 ≤ set) (a0 : 0 ≤ a) (a1 : a ≤ l0.length) (f0 : 0 ≤ f) (f1 : f < ((2 ^ l0.length : Nat) : Int)) :
  pipe_net_order.f l0 l1 l2 set a f = some (orderV (wrappedL l0 set) l1 l2 a f) := by
 have hN := net_ok hv
 have hh := hN.h1
 have e : ((2 ^ l0.length : Nat) : Int) = (2 : Int) ^ l0.length := by simp
 unfold pipe_net_order.f orderV
 rw [if_pos ⟨hv, hs, a0, a1, f0, by rw [← e]; exact f1⟩, dues_wrapped l0 l1 l2 set (by omega) hs, best_wrapped]
theorem weak_wrapped {l0 : List S39} {l1 : List S37} {l2 : List (List Int)} {a : Int} {fs : List Int} (h : FaultsOk l0 l1 l2 a fs) (set : Int) (hs : 0 ≤ set) : weakV l0 l1 l2 set a fs = weakP (orderV (wrappedL l0 set) l1 l2 a) 0 l1.length fs := by
 have hl := h.len
 unfold weakV
 rw [weak_eq (O := orderV (wrappedL l0 set) l1 l2 a) fs 14 (by omega) (by omega) (fun f hf => order_wrapped h.v set a f hs h.a0 h.a1 (fault_rng (h.all f hf)).1 (fault_rng (h.all f hf)).2)]
 rfl
theorem faultsOk_wrapped {l0 : List S39} {l1 : List S37} {l2 : List (List Int)} {a : Int} {fs : List Int} (h : FaultsOk l0 l1 l2 a fs) (set : Int) : FaultsOk (wrappedL l0 set) l1 l2 a fs :=
 ⟨h.len, valid_wrapped set h.v, h.a0, by rw [wrappedL_length]; exact h.a1, fun f hf => by rw [inFault_wrapped]; exact h.all f hf⟩
theorem cost_bd (l0 : List S39) (hl : ∀ L ∈ l0, LoopOk L) : ∀ (s : List Int) (a : Int), (∀ i ∈ s, 0 ≤ i ∧ i < l0.length) → 0 ≤ a → a + 1000000 * s.length ≤ 1000000000 → a ≤ s.foldl (costS l0) a ∧ s.foldl (costS l0) a ≤ a + 1000000 * s.length
 | [], a, _, h0, _ => by simp
 | i :: t, a, h, h0, h1 => by
  have hL := hl _ (rdT39_mem (h i (by simp)).1 (h i (by simp)).2)
  have c0 := hL.c0
  have c1 := hL.c1
  simp only [List.length_cons] at h1
  have e : costS l0 a i = a + (qal l0 i).f3 := by
   unfold costS
   exact wrap_id (by omega) (by omega)
  have ih := cost_bd l0 hl t (costS l0 a i) (fun j hj => h j (by simp [hj])) (by omega) (by omega)
  simp only [List.foldl_cons, List.length_cons]
  omega
theorem rcost_go {l0 : List S39} {l1 : List S37} {l2 : List (List Int)} (hn : l0.length ≤ 5) (x : Int) (x0 : 0 ≤ x) (x1 : x < 32) : ∀ (m i k : Nat), i + m = l0.length → m + 12 ≤ k → talikref04_Cost.l0 k x (costV l0 (qar x i)) (i : Int) l0 l1 l2 = some (costV l0 (qar x l0.length)) := by
 intro m
 induction m with
 | zero =>
  intro i k hi hk
  obtain ⟨k, rfl⟩ : ∃ k', k = k' + 1 := ⟨k - 1, by omega⟩
  obtain rfl : i = l0.length := by omega
  unfold talikref04_Cost.l0
  rw [if_neg (by omega)]
 | succ m ih =>
  intro i k hi hk
  obtain ⟨k, rfl⟩ : ∃ k', k = k' + 1 := ⟨k - 1, by omega⟩
  have h := ih (i + 1) k (by omega) (by omega)
  unfold talikref04_Cost.l0
  rw [if_pos (by omega), has_eq x x0 x1 i (by omega) k (by omega), wsucc i (by omega)]
  simp only [Option.bind_some]
  cases hb : bitB x (i : Int) with
  | false =>
   rw [loopsOf_no x i hb] at h
   rw [if_neg (by simp), h]
  | true =>
   rw [loopsOf_yes x i hb, costV_snoc] at h
   rw [if_pos rfl, if_pos (by omega), h]
theorem rcost_eq {l0 : List S39} {l1 : List S37} {l2 : List (List Int)} (hn : l0.length ≤ 5) (x : Int) (x0 : 0 ≤ x) (x1 : x < ((2 ^ l0.length : Nat) : Int)) (k : Nat) (hk : 20 ≤ k) : talikref04_Cost.f k l0 l1 l2 x = some (costV l0 (qar x 5)) := by
 have hp : 2 ^ l0.length ≤ 2 ^ 5 := Nat.pow_le_pow_right (n := 2) (by decide) hn
 have h := rcost_go (l0 := l0) (l1 := l1) (l2 := l2) hn x x0 (by omega) l0.length 0 k (by omega) (by omega)
 rw [loops_same hn x0 x1] at h
 exact h
def weakN (l0 : List S39) (l1 : List S37) (l2 : List (List Int)) (a : Int) (fs : List Int) (s : Int) : Int := (weakP (orderV (wrappedL l0 s) l1 l2 a) 0 l1.length fs).1
def costN (l0 : List S39) (s : Int) : Int := costV l0 (qar s 5)
def SomeNet (w : World) (l0 : List S39) (A1 : Value) (A2 : Value) (set : Int) (W : World) (e : Ending) (w' : World) : Prop := ∃ A c, e = .returned (.agg #[.slice A l0.length c, A1, A2]) ∧ l0.length ≤ c ∧ Kd.C k39 w' A l0.length (wrappedL l0 set) ∧ Below W.heap.size W w'
theorem rcost_calls (A0_0 : Option Addr) (c0_0 : Nat) (l0_0 : List S39) (A0_1 : Option Addr) (c0_1 : Nat) (l0_1 : List S37) (A0_2 : Option Addr) (c0_2 : Nat) (l0_2 : List (List Int)) (x : Int) (W : World) (hr0_0 : Kd.C k39 W A0_0 l0_0.length l0_0) (hc0_0 : l0_0.length ≤ c0_0) (hr0_1 : Kd.C k37 W A0_1 l0_1.length l0_1) (hc0_1 : l0_1.length ≤ c0_1) (hr0_2 : Kd.C (Kd.slice 3 (Kd.int .i64)) W A0_2 l0_2.length l0_2) (hc0_2 : l0_2.length ≤ c0_2) (hn : l0_0.length ≤ 5) (x0 : 0 ≤ x) (x1 : x < ((2 ^ l0_0.length : Nat) : Int)) :
  Calls Try.prog 41 #[.agg #[.slice A0_0 l0_0.length c0_0, .slice A0_1 l0_1.length c0_1, .slice A0_2 l0_2.length c0_2], .int .i64 x] W fun e w' => e = .returned (.int .i64 (costN l0_0 x)) ∧ Below W.heap.size W w' :=
 (talikref04_Cost.calls 20 _ _ l0_0 _ _ l0_1 _ _ l0_2 x _ W hr0_0 hc0_0 hr0_1 hc0_1 hr0_2 hc0_2 (rcost_eq hn x x0 x1 20 (by omega))).mono fun e w' ⟨h1, h2⟩ => ⟨h1, h2⟩
section
variable {l0 : List S39} {l1 : List S37} {l2 : List (List Int)} {a : Int} {fs : List Int}
theorem costN_bd (h : FaultsOk l0 l1 l2 a fs) (x : Int) (x0 : 0 ≤ x) (x1 : x < ((2 ^ l0.length : Nat) : Int)) : 0 ≤ costN l0 x ∧ costN l0 x ≤ 5000000 := by
 have hN := net_ok h.v
 have hl := cnt_le x
 unfold cntB at hl
 have := cost_bd l0 hN.loops (qar x 5) 0 (fun i hi => loops_in hN.n1 x0 x1 i hi) (Int.le_refl _) (by omega)
 unfold costN costV
 omega
theorem ofWrap_eq (h : FaultsOk l0 l1 l2 a fs) (x : Int) (x0 : 0 ≤ x) (x1 : x < ((2 ^ l0.length : Nat) : Int)) : ofWrap l0 l1 l2 a fs x = (-(costN l0 x), decide (weakN l0 l1 l2 a fs x < 0)) := by
 have hb := costN_bd h x x0 x1
 unfold ofWrap
 rw [weak_wrapped h x x0]
 unfold costN at hb ⊢
 rw [wrap_id (by omega) (by omega)]
 rfl
theorem wrap_best (h : FaultsOk l0 l1 l2 a fs) :
  ((∀ s : Int, 0 ≤ s → s < ((2 ^ l0.length : Nat) : Int) → ¬ weakN l0 l1 l2 a fs s < 0) ∧ wrapV l0 l1 l2 a fs = (0, 0, 5)) ∨
  (∃ w : Int, 0 ≤ w ∧ w < ((2 ^ l0.length : Nat) : Int) ∧ weakN l0 l1 l2 a fs w < 0 ∧ wrapV l0 l1 l2 a fs = (w, costN l0 w, 0) ∧
   ∀ s : Int, 0 ≤ s → s < ((2 ^ l0.length : Nat) : Int) → weakN l0 l1 l2 a fs s < 0 → costN l0 w ≤ costN l0 s ∧ (costN l0 w = costN l0 s → w ≤ s)) := by
 have hg0 : givenV l0 l1 l2 a fs = 0 := by rw [given_same, of_ok h]
 have hmem : ∀ p : Int, p ∈ numsOf (2 ^ l0.length) ↔ 0 ≤ p ∧ p < ((2 ^ l0.length : Nat) : Int) := fun p => by
  unfold numsOf
  simp only [List.mem_map, List.mem_range]
  constructor
  ·
   rintro ⟨k, hk, rfl⟩
   omega
  ·
   rintro ⟨h0, h1⟩
   exact ⟨p.toNat, by omega, by omega⟩
 have hsorted : (numsOf (2 ^ l0.length)).Pairwise (· < ·) := by
  unfold numsOf
  rw [List.pairwise_map]
  exact List.Pairwise.imp (fun h => by omega) List.pairwise_lt_range
 have hg := g1_ok (ofWrap l0 l1 l2 a fs) _ hsorted
 unfold wrapV
 rw [if_neg (by rw [hg0]; simp)]
 generalize hG : g1 (ofWrap l0 l1 l2 a fs) (numsOf (2 ^ l0.length)) = G at hg ⊢
 obtain ⟨g0, g1_, g2⟩ := G
 cases g2 with
 | false =>
  left
  refine ⟨fun s s0 s1 hw => ?_, by rw [if_neg (by simp)]⟩
  have h1 := hg.no rfl s ((hmem s).2 ⟨s0, s1⟩)
  rw [ofWrap_eq h s s0 s1] at h1
  simp only [decide_eq_false_iff_not] at h1
  exact h1 hw
 | true =>
  right
  obtain ⟨m1, m2⟩ := hg.mem rfl
  obtain ⟨p0, p1⟩ := (hmem _).1 m1
  have e := ofWrap_eq h _ p0 p1
  rw [m2] at e
  injection e with e1 e2
  have hb := costN_bd h _ p0 p1
  dsimp only at p0 p1 e1 e2 hb
  refine ⟨g0, p0, p1, of_decide_eq_true e2.symm, ?_, fun s s0 s1 hw => ?_⟩
  ·
   rw [if_pos rfl]
   have : wrap64 (-g1_) = costN l0 g0 := by rw [e1, wrap_id (by omega) (by omega)]; omega
   exact congrArg (fun c => (g0, c, (0 : Int))) this
  ·
   have e3 := ofWrap_eq h s s0 s1
   rw [decide_eq_true hw] at e3
   have hq := (hmem s).2 ⟨s0, s1⟩
   have h1 := hg.max rfl s hq (by rw [e3])
   have h2 := hg.first rfl s hq
   rw [e3] at h1 h2
   dsimp only at h1 h2
   exact ⟨by omega, fun he => h2 (by rw [e1, he])⟩
end
theorem weakP_neg (O : Int → Way) : ∀ (t : List Int) (j s : Int), 0 ≤ j → (weakP O j s t).1 < 0 → (weakP O j s t).1 = -1
 | [], _, _, _, _ => rfl
 | f :: t, j, s, hj, h => by
  unfold weakP at h ⊢
  split at h
  ·
   rename_i hc
   rw [if_pos hc]
   exact weakP_neg O t (j + 1) _ (by omega) h
  ·
   dsimp only at h
   omega
theorem taliklaw04_PipeWrapped.calls (A0_0 : Option Addr) (c0_0 : Nat) (l0_0 : List S39) (A0_1 : Option Addr) (c0_1 : Nat) (l0_1 : List S37) (A0_2 : Option Addr) (c0_2 : Nat) (l0_2 : List (List Int)) (a1 : Int) (A2 : Option Addr) (c2 : Nat) (l2 : List Int) (a3 : Int) (r : Bool) (w : World) (hr0_0 : Kd.C k39 w A0_0 l0_0.length l0_0) (hc0_0 : l0_0.length ≤ c0_0) (hr0_1 : Kd.C k37 w A0_1 l0_1.length l0_1) (hc0_1 : l0_1.length ≤ c0_1) (hr0_2 : Kd.C (Kd.slice 3 (Kd.int .i64)) w A0_2 l0_2.length l0_2) (hc0_2 : l0_2.length ≤ c0_2) (hr2 : Kd.C (Kd.int .i64) w A2 l2.length l2) (hc2 : l2.length ≤ c2) (h : (some true : Option Bool) = some r) : Calls Try.prog 12 #[.agg #[.slice A0_0 l0_0.length c0_0, .slice A0_1 l0_1.length c0_1, .slice A0_2 l0_2.length c0_2], .int .i64 a1, .slice A2 l2.length c2, .int .i64 a3] w fun e w' => e = .returned (.bool r) ∧ Below w.heap.size w w' := by
 obtain rfl := Option.some.inj h; clear h; have hu26 := Try.underlying26; have HB := qab.mk (Below.refl w.heap.size w); have HR0 := qab.mk hr0_0; have HR1 := qab.mk hr0_1; have HR2 := qab.mk hr0_2; clear hr0_0 hr0_1 hr0_2
 have HRL := qab.mk hr2
 clear hr2
 have HSHORT : qab (∀ W, Below w.heap.size w W → Calls Try.prog 16 #[.agg #[.slice A0_0 l0_0.length c0_0, .slice A0_1 l0_1.length c0_1, .slice A0_2 l0_2.length c0_2]] W fun e w' => e = .returned (.bool (shortB l0_0 l0_1 l0_2)) ∧ Below W.heap.size W w') := ⟨fun W hW => (taliklaw04_short.calls 30 _ _ l0_0 _ _ l0_1 _ _ l0_2 _ W (Kd.qaj HR0.out hW) hc0_0 (Kd.qaj HR1.out hW) hc0_1 (Kd.qaj HR2.out hW) hc0_2 (short_eq l0_0 l0_1 l0_2 30 (by omega))).mono fun e w' ⟨h1, h2⟩ => ⟨h1, h2⟩⟩
 have HKNOWN : qab (∀ W, Below w.heap.size w W → Calls Try.prog 17 #[] W fun e w' => e = .returned (.bool true) ∧ Below W.heap.size W w') := ⟨fun W hW => taliklaw04_known.calls true W rfl⟩
 cases hs : shortB l0_0 l0_1 l0_2 with
 | false =>
  rw [hs] at HSHORT
  go_enter Try.func12, Try.ntmps12
  go_wp2_with (first | (with_reducible refine qan (N := 4) rfl ?_); refine qam ?hg (N := 4) ?hd (cs := #[.slice A0_0 l0_0.length c0_0, .slice A0_1 l0_1.length c0_1, .slice A0_2 l0_2.length c0_2]) (t := 26) ?hr ?_; (case hd => rfl); (case hg => rfl); (case hr => first | (go_simp; done) | (go_simp; rfl)); intro gb hg_gb w2 hbox hb; have BKgb := qab.mk hbox; have n_HB := qab.mk (qad HB.out hb); have GEgb : w.heap.size ≤ gb := (by rw [hg_gb]; exact HB.out.size); clear HB; have HB := n_HB; clear n_HB; obtain ⟨hfgb, hcgb_0, hcgb_1, hcgb_2⟩ := qz3 BKgb.out; clear hbox hb hg_gb | (go_at_call 16; with_reducible refine (HSHORT.out _ HB.out).mono ?_; rintro e wn ⟨rfl, hb⟩; replace BKgb := qab.mk (qag BKgb.out hb); replace HB := qab.mk (qad HB.out hb); clear hb; obtain ⟨hfgb, hcgb_0, hcgb_1, hcgb_2⟩ := qz3 BKgb.out) | (go_at_call 17; with_reducible refine (HKNOWN.out _ HB.out).mono ?_; rintro e wn ⟨rfl, hb⟩; replace BKgb := qab.mk (qag BKgb.out hb); replace HB := qab.mk (qad HB.out hb); clear hb; obtain ⟨hfgb, hcgb_0, hcgb_1, hcgb_2⟩ := qz3 BKgb.out))
  go_ret
  exact ⟨rfl, HB.out⟩
 | true =>
  have hsh := short_of hs
  rw [hs] at HSHORT
  clear hs
  by_cases h4 : (4 : Int) < l0_0.length
  ·
   have d1 : decide ((4 : Int) < l0_0.length) = true := decide_eq_true h4
   clear h4
   go_enter Try.func12, Try.ntmps12
   go_wp2_with (first | (with_reducible refine qan (N := 4) rfl ?_); refine qam ?hg (N := 4) ?hd (cs := #[.slice A0_0 l0_0.length c0_0, .slice A0_1 l0_1.length c0_1, .slice A0_2 l0_2.length c0_2]) (t := 26) ?hr ?_; (case hd => rfl); (case hg => rfl); (case hr => first | (go_simp; done) | (go_simp; rfl)); intro gb hg_gb w2 hbox hb; have BKgb := qab.mk hbox; have n_HB := qab.mk (qad HB.out hb); have GEgb : w.heap.size ≤ gb := (by rw [hg_gb]; exact HB.out.size); clear HB; have HB := n_HB; clear n_HB; obtain ⟨hfgb, hcgb_0, hcgb_1, hcgb_2⟩ := qz3 BKgb.out; clear hbox hb hg_gb | (go_at_call 16; with_reducible refine (HSHORT.out _ HB.out).mono ?_; rintro e wn ⟨rfl, hb⟩; replace BKgb := qab.mk (qag BKgb.out hb); replace HB := qab.mk (qad HB.out hb); clear hb; obtain ⟨hfgb, hcgb_0, hcgb_1, hcgb_2⟩ := qz3 BKgb.out) | (go_at_call 17; with_reducible refine (HKNOWN.out _ HB.out).mono ?_; rintro e wn ⟨rfl, hb⟩; replace BKgb := qab.mk (qag BKgb.out hb); replace HB := qab.mk (qad HB.out hb); clear hb; obtain ⟨hfgb, hcgb_0, hcgb_1, hcgb_2⟩ := qz3 BKgb.out))
   go_ret
   exact ⟨rfl, HB.out⟩
  ·
   have d1 : decide ((4 : Int) < l0_0.length) = false := decide_eq_false h4
   obtain ⟨z, hz⟩ : ∃ z, z = faultedV l0_0 l0_1 l0_2 a1 l2 := ⟨_, rfl⟩
   have HF : qab (∀ W, Below w.heap.size w W → Calls Try.prog 36 #[.agg #[.slice A0_0 l0_0.length c0_0, .slice A0_1 l0_1.length c0_1, .slice A0_2 l0_2.length c0_2], .int .i64 a1, .slice A2 l2.length c2] W fun e w' => e = .returned (.int .i64 z) ∧ Below W.heap.size W w') := ⟨fun W hW => taliklaw04_faulted.calls 300 _ _ l0_0 _ _ l0_1 _ _ l0_2 a1 _ _ l2 _ W (Kd.qaj HR0.out hW) hc0_0 (Kd.qaj HR1.out hW) hc0_1 (Kd.qaj HR2.out hW) hc0_2 (Kd.qaj HRL.out hW) hc2 (by rw [hz]; exact faulted_eq l0_0 l0_1 l0_2 hsh a1 l2 300 (by omega))⟩
   by_cases hz0 : z = 0
   case neg =>
    have e1 : (z != 0) = true := by simp [hz0]
    clear hz hz0 h4
    go_enter Try.func12, Try.ntmps12
    go_wp2_with (first | (with_reducible refine qan (N := 4) rfl ?_); refine qam ?hg (N := 4) ?hd (cs := #[.slice A0_0 l0_0.length c0_0, .slice A0_1 l0_1.length c0_1, .slice A0_2 l0_2.length c0_2]) (t := 26) ?hr ?_; (case hd => rfl); (case hg => rfl); (case hr => first | (go_simp; done) | (go_simp; rfl)); intro gb hg_gb w2 hbox hb; have BKgb := qab.mk hbox; have n_HB := qab.mk (qad HB.out hb); have GEgb : w.heap.size ≤ gb := (by rw [hg_gb]; exact HB.out.size); clear HB; have HB := n_HB; clear n_HB; obtain ⟨hfgb, hcgb_0, hcgb_1, hcgb_2⟩ := qz3 BKgb.out; clear hbox hb hg_gb | (go_at_call 16; with_reducible refine (HSHORT.out _ HB.out).mono ?_; rintro e wn ⟨rfl, hb⟩; replace BKgb := qab.mk (qag BKgb.out hb); replace HB := qab.mk (qad HB.out hb); clear hb; obtain ⟨hfgb, hcgb_0, hcgb_1, hcgb_2⟩ := qz3 BKgb.out) | (go_at_call 36; with_reducible refine (HF.out _ HB.out).mono ?_; rintro e wn ⟨rfl, hb⟩; replace BKgb := qab.mk (qag BKgb.out hb); replace HB := qab.mk (qad HB.out hb); clear hb; obtain ⟨hfgb, hcgb_0, hcgb_1, hcgb_2⟩ := qz3 BKgb.out) | (go_at_call 17; with_reducible refine (HKNOWN.out _ HB.out).mono ?_; rintro e wn ⟨rfl, hb⟩; replace BKgb := qab.mk (qag BKgb.out hb); replace HB := qab.mk (qad HB.out hb); clear hb; obtain ⟨hfgb, hcgb_0, hcgb_1, hcgb_2⟩ := qz3 BKgb.out))
    go_ret
    exact ⟨rfl, HB.out⟩
   case pos =>
    have hok := faults_ok (hz.symm.trans hz0)
    subst hz0
    clear hz
    have hp4 : 2 ^ l0_0.length ≤ 2 ^ 4 := Nat.pow_le_pow_right (n := 2) (by decide) (by omega)
    have hn4 : l0_0.length ≤ 4 := by omega
    have HFA : qab (∀ x W, Below w.heap.size w W → Calls Try.prog 26 #[.agg #[.slice A0_0 l0_0.length c0_0, .slice A0_1 l0_1.length c0_1, .slice A0_2 l0_2.length c0_2], .int .i64 x] W fun e w' => e = .returned (.bool (inFault l0_0 x)) ∧ Below W.heap.size W w') := ⟨fun x W hW => (talikref04_Fault.calls 10 _ _ l0_0 _ _ l0_1 _ _ l0_2 x _ W (Kd.qaj HR0.out hW) hc0_0 (Kd.qaj HR1.out hW) hc0_1 (Kd.qaj HR2.out hW) hc0_2 (rfault_eq l0_0 l0_1 l0_2 (by omega) x 10 (by omega))).mono fun e w' ⟨h1, h2⟩ => ⟨h1, h2⟩⟩
    have HFO := qab.mk (HFA.out a3)
    cases hfo : inFault l0_0 a3 with
    | false =>
     rw [hfo] at HFO
     clear hfo HFA hok hp4 hn4 h4
     go_enter Try.func12, Try.ntmps12
     go_wp2_with (first | (with_reducible refine qan (N := 4) rfl ?_); refine qam ?hg (N := 4) ?hd (cs := #[.slice A0_0 l0_0.length c0_0, .slice A0_1 l0_1.length c0_1, .slice A0_2 l0_2.length c0_2]) (t := 26) ?hr ?_; (case hd => rfl); (case hg => rfl); (case hr => first | (go_simp; done) | (go_simp; rfl)); intro gb hg_gb w2 hbox hb; have BKgb := qab.mk hbox; have n_HB := qab.mk (qad HB.out hb); have GEgb : w.heap.size ≤ gb := (by rw [hg_gb]; exact HB.out.size); clear HB; have HB := n_HB; clear n_HB; obtain ⟨hfgb, hcgb_0, hcgb_1, hcgb_2⟩ := qz3 BKgb.out; clear hbox hb hg_gb | (go_at_call 16; with_reducible refine (HSHORT.out _ HB.out).mono ?_; rintro e wn ⟨rfl, hb⟩; replace BKgb := qab.mk (qag BKgb.out hb); replace HB := qab.mk (qad HB.out hb); clear hb; obtain ⟨hfgb, hcgb_0, hcgb_1, hcgb_2⟩ := qz3 BKgb.out) | (go_at_call 36; with_reducible refine (HF.out _ HB.out).mono ?_; rintro e wn ⟨rfl, hb⟩; replace BKgb := qab.mk (qag BKgb.out hb); replace HB := qab.mk (qad HB.out hb); clear hb; obtain ⟨hfgb, hcgb_0, hcgb_1, hcgb_2⟩ := qz3 BKgb.out) | (go_at_call 26; with_reducible refine (HFO.out _ HB.out).mono ?_; rintro e wn ⟨rfl, hb⟩; replace BKgb := qab.mk (qag BKgb.out hb); replace HB := qab.mk (qad HB.out hb); clear hb; obtain ⟨hfgb, hcgb_0, hcgb_1, hcgb_2⟩ := qz3 BKgb.out) | (go_at_call 17; with_reducible refine (HKNOWN.out _ HB.out).mono ?_; rintro e wn ⟨rfl, hb⟩; replace BKgb := qab.mk (qag BKgb.out hb); replace HB := qab.mk (qad HB.out hb); clear hb; obtain ⟨hfgb, hcgb_0, hcgb_1, hcgb_2⟩ := qz3 BKgb.out))
     go_ret
     exact ⟨rfl, HB.out⟩
    | true =>
     rw [hfo] at HFO
     obtain ⟨o0, o1⟩ := fault_rng hfo
     have HP : qab (∀ W, Below w.heap.size w W → Calls Try.prog 39 #[.agg #[.slice A0_0 l0_0.length c0_0, .slice A0_1 l0_1.length c0_1, .slice A0_2 l0_2.length c0_2], .int .i64 a1, .slice A2 l2.length c2] W fun e w' => e = .returned (.tuple #[.int .i64 (wrapV l0_0 l0_1 l0_2 a1 l2).1, .int .i64 (wrapV l0_0 l0_1 l0_2 a1 l2).2.1, .int .i64 (wrapV l0_0 l0_1 l0_2 a1 l2).2.2]) ∧ Below W.heap.size W w') := ⟨fun W hW => pipe_Wrap.calls _ _ l0_0 _ _ l0_1 _ _ l0_2 a1 _ _ l2 _ _ _ W (Kd.qaj HR0.out hW) hc0_0 (Kd.qaj HR1.out hW) hc0_1 (Kd.qaj HR2.out hW) hc0_2 (Kd.qaj HRL.out hW) hc2 rfl⟩
     have HWR : qab (∀ x : Int, 0 ≤ x → x < ((2 ^ l0_0.length : Nat) : Int) → ∀ W, Below w.heap.size w W → Calls Try.prog 42 #[.agg #[.slice A0_0 l0_0.length c0_0, .slice A0_1 l0_1.length c0_1, .slice A0_2 l0_2.length c0_2], .int .i64 x] W (SomeNet w l0_0 (.slice A0_1 l0_1.length c0_1) (.slice A0_2 l0_2.length c0_2) x W)) := ⟨fun x x0 x1 W hW => (talikref04_Wrapped.calls _ _ l0_0 _ _ _ _ _ _ x W (Kd.qaj HR0.out hW) hc0_0 (by omega) x0 (by omega)).mono fun e w' h => h⟩
     have HWK : qab (∀ (x : Int) (A : Option Addr) (c : Nat), l0_0.length ≤ c → ∀ W, Below w.heap.size w W → Kd.C k39 W A l0_0.length (wrappedL l0_0 x) → Calls Try.prog 44 #[.agg #[.slice A l0_0.length c, .slice A0_1 l0_1.length c0_1, .slice A0_2 l0_2.length c0_2], .int .i64 a1, .slice A2 l2.length c2] W fun e w' => e = .returned (.tuple #[.int .i64 (weakN l0_0 l0_1 l0_2 a1 l2 x), .int .i64 0]) ∧ Below W.heap.size W w') := ⟨fun x A c hc W hW hC => by
      have h := pipe_Weak.calls 20 A c (wrappedL l0_0 x) _ _ l0_1 _ _ l0_2 a1 _ _ l2 (weakN l0_0 l0_1 l0_2 a1 l2 x) 0 W (by rw [wrappedL_length]; exact hC) (by rw [wrappedL_length]; exact hc) (Kd.qaj HR1.out hW) hc0_1 (Kd.qaj HR2.out hW) hc0_2 (Kd.qaj HRL.out hW) hc2 (by rw [pweak_eq _ _ _ _ _ 20 (by omega), of_ok (faultsOk_wrapped hok x), if_pos rfl]; rfl)
      rw [wrappedL_length] at h
      exact h.mono fun e w' ⟨h1, h2⟩ => ⟨h1, h2⟩⟩
     have HCO : qab (∀ x : Int, 0 ≤ x → x < ((2 ^ l0_0.length : Nat) : Int) → ∀ W, Below w.heap.size w W → Calls Try.prog 41 #[.agg #[.slice A0_0 l0_0.length c0_0, .slice A0_1 l0_1.length c0_1, .slice A0_2 l0_2.length c0_2], .int .i64 x] W fun e w' => e = .returned (.int .i64 (costN l0_0 x)) ∧ Below W.heap.size W w') := ⟨fun x x0 x1 W hW => rcost_calls _ _ l0_0 _ _ l0_1 _ _ l0_2 x W (Kd.qaj HR0.out hW) hc0_0 (Kd.qaj HR1.out hW) hc0_1 (Kd.qaj HR2.out hW) hc0_2 (by omega) x0 x1⟩
     have HWRO := qab.mk (HWR.out a3 o0 o1)
     have HWKO := qab.mk (HWK.out a3)
     obtain ⟨k, hk⟩ : ∃ k, k = weakN l0_0 l0_1 l0_2 a1 l2 a3 := ⟨_, rfl⟩
     rw [← hk] at HWKO
     rcases wrap_best hok with ⟨hno, hp⟩ | ⟨x, x0, x1, hx, hp, hb⟩
     ·
      have hk0 := hno a3 o0 o1
      rw [← hk] at hk0
      have e1 : decide (0 ≤ k) = true := decide_eq_true (by omega)
      rw [hp] at HP
      clear hp hno hk hk0 hfo HFA HCO HWK HWR o0 o1 hok hp4 hn4 h4
      go_enter Try.func12, Try.ntmps12
      go_wp2_with (first | (with_reducible refine qan (N := 4) rfl ?_); refine qam ?hg (N := 4) ?hd (cs := #[.slice A0_0 l0_0.length c0_0, .slice A0_1 l0_1.length c0_1, .slice A0_2 l0_2.length c0_2]) (t := 26) ?hr ?_; (case hd => rfl); (case hg => rfl); (case hr => first | (go_simp; done) | (go_simp; rfl)); intro gb hg_gb w2 hbox hb; have BKgb := qab.mk hbox; have n_HB := qab.mk (qad HB.out hb); have GEgb : w.heap.size ≤ gb := (by rw [hg_gb]; exact HB.out.size); clear HB; have HB := n_HB; clear n_HB; obtain ⟨hfgb, hcgb_0, hcgb_1, hcgb_2⟩ := qz3 BKgb.out; clear hbox hb hg_gb | (go_at_call 16; with_reducible refine (HSHORT.out _ HB.out).mono ?_; rintro e wn ⟨rfl, hb⟩; replace BKgb := qab.mk (qag BKgb.out hb); replace HB := qab.mk (qad HB.out hb); clear hb; obtain ⟨hfgb, hcgb_0, hcgb_1, hcgb_2⟩ := qz3 BKgb.out) | (go_at_call 36; with_reducible refine (HF.out _ HB.out).mono ?_; rintro e wn ⟨rfl, hb⟩; replace BKgb := qab.mk (qag BKgb.out hb); replace HB := qab.mk (qad HB.out hb); clear hb; obtain ⟨hfgb, hcgb_0, hcgb_1, hcgb_2⟩ := qz3 BKgb.out) | (go_at_call 26; with_reducible refine (HFO.out _ HB.out).mono ?_; rintro e wn ⟨rfl, hb⟩; replace BKgb := qab.mk (qag BKgb.out hb); replace HB := qab.mk (qad HB.out hb); clear hb; obtain ⟨hfgb, hcgb_0, hcgb_1, hcgb_2⟩ := qz3 BKgb.out) | (go_at_call 39; with_reducible refine (HP.out _ HB.out).mono ?_; rintro e wn ⟨rfl, hb⟩; replace BKgb := qab.mk (qag BKgb.out hb); replace HB := qab.mk (qad HB.out hb); clear hb; obtain ⟨hfgb, hcgb_0, hcgb_1, hcgb_2⟩ := qz3 BKgb.out) | (go_at_call 42; (with_reducible refine (HWRO.out _ HB.out).mono ?_); rintro e wn ⟨A, c, rfl, hAc, hAC, hb⟩; have HAC := qab.mk hAC; clear hAC; replace BKgb := qab.mk (qag BKgb.out hb); replace HB := qab.mk (qad HB.out hb); clear hb; obtain ⟨hfgb, hcgb_0, hcgb_1, hcgb_2⟩ := qz3 BKgb.out) | (go_at_call 44; (with_reducible refine (HWKO.out A c hAc _ HB.out HAC.out).mono ?_); rintro e wn ⟨rfl, hb⟩; replace BKgb := qab.mk (qag BKgb.out hb); replace HB := qab.mk (qad HB.out hb); clear hb; obtain ⟨hfgb, hcgb_0, hcgb_1, hcgb_2⟩ := qz3 BKgb.out) | (go_at_call 17; with_reducible refine (HKNOWN.out _ HB.out).mono ?_; rintro e wn ⟨rfl, hb⟩; replace BKgb := qab.mk (qag BKgb.out hb); replace HB := qab.mk (qad HB.out hb); clear hb; obtain ⟨hfgb, hcgb_0, hcgb_1, hcgb_2⟩ := qz3 BKgb.out))
      go_ret
      exact ⟨rfl, HB.out⟩
     ·
      have HCX := qab.mk (HCO.out x x0 x1)
      have HCA := qab.mk (HCO.out a3 o0 o1)
      have HWRX := qab.mk (HWR.out x x0 x1)
      have HWKX := qab.mk (HWK.out x)
      have HFX := qab.mk (HFA.out x)
      rw [show inFault l0_0 x = true from (by unfold inFault inB; rw [Bool.and_eq_true]; exact ⟨decide_eq_true x0, decide_eq_true (by omega)⟩)] at HFX
      rw [show weakN l0_0 l0_1 l0_2 a1 l2 x = -1 from weakP_neg _ _ _ _ (Int.le_refl _) hx] at HWKX
      rw [hp] at HP
      have hba := hb a3 o0 o1
      rw [← hk] at hba
      obtain ⟨cx, hcx⟩ : ∃ c, c = costN l0_0 x := ⟨_, rfl⟩
      obtain ⟨ca, hca⟩ : ∃ c, c = costN l0_0 a3 := ⟨_, rfl⟩
      rw [← hcx] at HP HCX hba
      rw [← hca] at HCA hba
      clear hp hb hk hfo HFA HCO HWK HWR o0 o1 hok hp4 hn4 h4 hcx hca x0 x1 hx
      by_cases hk0 : 0 ≤ k
      ·
       have e1 : decide (0 ≤ k) = true := decide_eq_true hk0
       clear hba hk0
       go_enter Try.func12, Try.ntmps12
       go_wp2_with (first | (with_reducible refine qan (N := 4) rfl ?_); refine qam ?hg (N := 4) ?hd (cs := #[.slice A0_0 l0_0.length c0_0, .slice A0_1 l0_1.length c0_1, .slice A0_2 l0_2.length c0_2]) (t := 26) ?hr ?_; (case hd => rfl); (case hg => rfl); (case hr => first | (go_simp; done) | (go_simp; rfl)); intro gb hg_gb w2 hbox hb; have BKgb := qab.mk hbox; have n_HB := qab.mk (qad HB.out hb); have GEgb : w.heap.size ≤ gb := (by rw [hg_gb]; exact HB.out.size); clear HB; have HB := n_HB; clear n_HB; obtain ⟨hfgb, hcgb_0, hcgb_1, hcgb_2⟩ := qz3 BKgb.out; clear hbox hb hg_gb | (go_at_call 16; with_reducible refine (HSHORT.out _ HB.out).mono ?_; rintro e wn ⟨rfl, hb⟩; replace BKgb := qab.mk (qag BKgb.out hb); replace HB := qab.mk (qad HB.out hb); clear hb; obtain ⟨hfgb, hcgb_0, hcgb_1, hcgb_2⟩ := qz3 BKgb.out) | (go_at_call 36; with_reducible refine (HF.out _ HB.out).mono ?_; rintro e wn ⟨rfl, hb⟩; replace BKgb := qab.mk (qag BKgb.out hb); replace HB := qab.mk (qad HB.out hb); clear hb; obtain ⟨hfgb, hcgb_0, hcgb_1, hcgb_2⟩ := qz3 BKgb.out) | (go_at_call 26; with_reducible refine (HFO.out _ HB.out).mono ?_; rintro e wn ⟨rfl, hb⟩; replace BKgb := qab.mk (qag BKgb.out hb); replace HB := qab.mk (qad HB.out hb); clear hb; obtain ⟨hfgb, hcgb_0, hcgb_1, hcgb_2⟩ := qz3 BKgb.out) | (go_at_call 26; with_reducible refine (HFX.out _ HB.out).mono ?_; rintro e wn ⟨rfl, hb⟩; replace BKgb := qab.mk (qag BKgb.out hb); replace HB := qab.mk (qad HB.out hb); clear hb; obtain ⟨hfgb, hcgb_0, hcgb_1, hcgb_2⟩ := qz3 BKgb.out) | (go_at_call 39; with_reducible refine (HP.out _ HB.out).mono ?_; rintro e wn ⟨rfl, hb⟩; replace BKgb := qab.mk (qag BKgb.out hb); replace HB := qab.mk (qad HB.out hb); clear hb; obtain ⟨hfgb, hcgb_0, hcgb_1, hcgb_2⟩ := qz3 BKgb.out) | (go_at_call 42; (with_reducible refine (HWRO.out _ HB.out).mono ?_); rintro e wn ⟨A, c, rfl, hAc, hAC, hb⟩; have HAC := qab.mk hAC; clear hAC; replace BKgb := qab.mk (qag BKgb.out hb); replace HB := qab.mk (qad HB.out hb); clear hb; obtain ⟨hfgb, hcgb_0, hcgb_1, hcgb_2⟩ := qz3 BKgb.out) | (go_at_call 42; (with_reducible refine (HWRX.out _ HB.out).mono ?_); rintro e wn ⟨A, c, rfl, hAc, hAC, hb⟩; have HAC := qab.mk hAC; clear hAC; replace BKgb := qab.mk (qag BKgb.out hb); replace HB := qab.mk (qad HB.out hb); clear hb; obtain ⟨hfgb, hcgb_0, hcgb_1, hcgb_2⟩ := qz3 BKgb.out) | (go_at_call 44; (with_reducible refine (HWKO.out A c hAc _ HB.out HAC.out).mono ?_); rintro e wn ⟨rfl, hb⟩; replace BKgb := qab.mk (qag BKgb.out hb); replace HB := qab.mk (qad HB.out hb); clear hb; obtain ⟨hfgb, hcgb_0, hcgb_1, hcgb_2⟩ := qz3 BKgb.out) | (go_at_call 44; (with_reducible refine (HWKX.out A c hAc _ HB.out HAC.out).mono ?_); rintro e wn ⟨rfl, hb⟩; replace BKgb := qab.mk (qag BKgb.out hb); replace HB := qab.mk (qad HB.out hb); clear hb; obtain ⟨hfgb, hcgb_0, hcgb_1, hcgb_2⟩ := qz3 BKgb.out) | (go_at_call 41; with_reducible refine (HCX.out _ HB.out).mono ?_; rintro e wn ⟨rfl, hb⟩; replace BKgb := qab.mk (qag BKgb.out hb); replace HB := qab.mk (qad HB.out hb); clear hb; obtain ⟨hfgb, hcgb_0, hcgb_1, hcgb_2⟩ := qz3 BKgb.out) | (go_at_call 41; with_reducible refine (HCA.out _ HB.out).mono ?_; rintro e wn ⟨rfl, hb⟩; replace BKgb := qab.mk (qag BKgb.out hb); replace HB := qab.mk (qad HB.out hb); clear hb; obtain ⟨hfgb, hcgb_0, hcgb_1, hcgb_2⟩ := qz3 BKgb.out) | (go_at_call 17; with_reducible refine (HKNOWN.out _ HB.out).mono ?_; rintro e wn ⟨rfl, hb⟩; replace BKgb := qab.mk (qag BKgb.out hb); replace HB := qab.mk (qad HB.out hb); clear hb; obtain ⟨hfgb, hcgb_0, hcgb_1, hcgb_2⟩ := qz3 BKgb.out))
       go_ret
       exact ⟨rfl, HB.out⟩
      ·
       have e1 : decide (0 ≤ k) = false := decide_eq_false hk0
       obtain ⟨b1, b2⟩ := hba (by omega)
       by_cases hlt : cx < ca
       ·
        have e2 : decide (cx < ca) = true := decide_eq_true hlt
        clear b1 b2 hlt hk0
        go_enter Try.func12, Try.ntmps12
        go_wp2_with (first | (with_reducible refine qan (N := 4) rfl ?_); refine qam ?hg (N := 4) ?hd (cs := #[.slice A0_0 l0_0.length c0_0, .slice A0_1 l0_1.length c0_1, .slice A0_2 l0_2.length c0_2]) (t := 26) ?hr ?_; (case hd => rfl); (case hg => rfl); (case hr => first | (go_simp; done) | (go_simp; rfl)); intro gb hg_gb w2 hbox hb; have BKgb := qab.mk hbox; have n_HB := qab.mk (qad HB.out hb); have GEgb : w.heap.size ≤ gb := (by rw [hg_gb]; exact HB.out.size); clear HB; have HB := n_HB; clear n_HB; obtain ⟨hfgb, hcgb_0, hcgb_1, hcgb_2⟩ := qz3 BKgb.out; clear hbox hb hg_gb | (go_at_call 16; with_reducible refine (HSHORT.out _ HB.out).mono ?_; rintro e wn ⟨rfl, hb⟩; replace BKgb := qab.mk (qag BKgb.out hb); replace HB := qab.mk (qad HB.out hb); clear hb; obtain ⟨hfgb, hcgb_0, hcgb_1, hcgb_2⟩ := qz3 BKgb.out) | (go_at_call 36; with_reducible refine (HF.out _ HB.out).mono ?_; rintro e wn ⟨rfl, hb⟩; replace BKgb := qab.mk (qag BKgb.out hb); replace HB := qab.mk (qad HB.out hb); clear hb; obtain ⟨hfgb, hcgb_0, hcgb_1, hcgb_2⟩ := qz3 BKgb.out) | (go_at_call 26; with_reducible refine (HFO.out _ HB.out).mono ?_; rintro e wn ⟨rfl, hb⟩; replace BKgb := qab.mk (qag BKgb.out hb); replace HB := qab.mk (qad HB.out hb); clear hb; obtain ⟨hfgb, hcgb_0, hcgb_1, hcgb_2⟩ := qz3 BKgb.out) | (go_at_call 26; with_reducible refine (HFX.out _ HB.out).mono ?_; rintro e wn ⟨rfl, hb⟩; replace BKgb := qab.mk (qag BKgb.out hb); replace HB := qab.mk (qad HB.out hb); clear hb; obtain ⟨hfgb, hcgb_0, hcgb_1, hcgb_2⟩ := qz3 BKgb.out) | (go_at_call 39; with_reducible refine (HP.out _ HB.out).mono ?_; rintro e wn ⟨rfl, hb⟩; replace BKgb := qab.mk (qag BKgb.out hb); replace HB := qab.mk (qad HB.out hb); clear hb; obtain ⟨hfgb, hcgb_0, hcgb_1, hcgb_2⟩ := qz3 BKgb.out) | (go_at_call 42; (with_reducible refine (HWRO.out _ HB.out).mono ?_); rintro e wn ⟨A, c, rfl, hAc, hAC, hb⟩; have HAC := qab.mk hAC; clear hAC; replace BKgb := qab.mk (qag BKgb.out hb); replace HB := qab.mk (qad HB.out hb); clear hb; obtain ⟨hfgb, hcgb_0, hcgb_1, hcgb_2⟩ := qz3 BKgb.out) | (go_at_call 42; (with_reducible refine (HWRX.out _ HB.out).mono ?_); rintro e wn ⟨A, c, rfl, hAc, hAC, hb⟩; have HAC := qab.mk hAC; clear hAC; replace BKgb := qab.mk (qag BKgb.out hb); replace HB := qab.mk (qad HB.out hb); clear hb; obtain ⟨hfgb, hcgb_0, hcgb_1, hcgb_2⟩ := qz3 BKgb.out) | (go_at_call 44; (with_reducible refine (HWKO.out A c hAc _ HB.out HAC.out).mono ?_); rintro e wn ⟨rfl, hb⟩; replace BKgb := qab.mk (qag BKgb.out hb); replace HB := qab.mk (qad HB.out hb); clear hb; obtain ⟨hfgb, hcgb_0, hcgb_1, hcgb_2⟩ := qz3 BKgb.out) | (go_at_call 44; (with_reducible refine (HWKX.out A c hAc _ HB.out HAC.out).mono ?_); rintro e wn ⟨rfl, hb⟩; replace BKgb := qab.mk (qag BKgb.out hb); replace HB := qab.mk (qad HB.out hb); clear hb; obtain ⟨hfgb, hcgb_0, hcgb_1, hcgb_2⟩ := qz3 BKgb.out) | (go_at_call 41; with_reducible refine (HCX.out _ HB.out).mono ?_; rintro e wn ⟨rfl, hb⟩; replace BKgb := qab.mk (qag BKgb.out hb); replace HB := qab.mk (qad HB.out hb); clear hb; obtain ⟨hfgb, hcgb_0, hcgb_1, hcgb_2⟩ := qz3 BKgb.out) | (go_at_call 41; with_reducible refine (HCA.out _ HB.out).mono ?_; rintro e wn ⟨rfl, hb⟩; replace BKgb := qab.mk (qag BKgb.out hb); replace HB := qab.mk (qad HB.out hb); clear hb; obtain ⟨hfgb, hcgb_0, hcgb_1, hcgb_2⟩ := qz3 BKgb.out) | (go_at_call 17; with_reducible refine (HKNOWN.out _ HB.out).mono ?_; rintro e wn ⟨rfl, hb⟩; replace BKgb := qab.mk (qag BKgb.out hb); replace HB := qab.mk (qad HB.out hb); clear hb; obtain ⟨hfgb, hcgb_0, hcgb_1, hcgb_2⟩ := qz3 BKgb.out))
        go_ret
        exact ⟨rfl, HB.out⟩
       ·
        obtain rfl : cx = ca := by omega
        have e2 : decide (cx < cx) = false := decide_eq_false hlt
        have e3 : decide (x ≤ a3) = true := decide_eq_true (b2 rfl)
        clear b1 b2 hlt hk0
        go_enter Try.func12, Try.ntmps12
        go_wp2_with (first | (with_reducible refine qan (N := 4) rfl ?_); refine qam ?hg (N := 4) ?hd (cs := #[.slice A0_0 l0_0.length c0_0, .slice A0_1 l0_1.length c0_1, .slice A0_2 l0_2.length c0_2]) (t := 26) ?hr ?_; (case hd => rfl); (case hg => rfl); (case hr => first | (go_simp; done) | (go_simp; rfl)); intro gb hg_gb w2 hbox hb; have BKgb := qab.mk hbox; have n_HB := qab.mk (qad HB.out hb); have GEgb : w.heap.size ≤ gb := (by rw [hg_gb]; exact HB.out.size); clear HB; have HB := n_HB; clear n_HB; obtain ⟨hfgb, hcgb_0, hcgb_1, hcgb_2⟩ := qz3 BKgb.out; clear hbox hb hg_gb | (go_at_call 16; with_reducible refine (HSHORT.out _ HB.out).mono ?_; rintro e wn ⟨rfl, hb⟩; replace BKgb := qab.mk (qag BKgb.out hb); replace HB := qab.mk (qad HB.out hb); clear hb; obtain ⟨hfgb, hcgb_0, hcgb_1, hcgb_2⟩ := qz3 BKgb.out) | (go_at_call 36; with_reducible refine (HF.out _ HB.out).mono ?_; rintro e wn ⟨rfl, hb⟩; replace BKgb := qab.mk (qag BKgb.out hb); replace HB := qab.mk (qad HB.out hb); clear hb; obtain ⟨hfgb, hcgb_0, hcgb_1, hcgb_2⟩ := qz3 BKgb.out) | (go_at_call 26; with_reducible refine (HFO.out _ HB.out).mono ?_; rintro e wn ⟨rfl, hb⟩; replace BKgb := qab.mk (qag BKgb.out hb); replace HB := qab.mk (qad HB.out hb); clear hb; obtain ⟨hfgb, hcgb_0, hcgb_1, hcgb_2⟩ := qz3 BKgb.out) | (go_at_call 26; with_reducible refine (HFX.out _ HB.out).mono ?_; rintro e wn ⟨rfl, hb⟩; replace BKgb := qab.mk (qag BKgb.out hb); replace HB := qab.mk (qad HB.out hb); clear hb; obtain ⟨hfgb, hcgb_0, hcgb_1, hcgb_2⟩ := qz3 BKgb.out) | (go_at_call 39; with_reducible refine (HP.out _ HB.out).mono ?_; rintro e wn ⟨rfl, hb⟩; replace BKgb := qab.mk (qag BKgb.out hb); replace HB := qab.mk (qad HB.out hb); clear hb; obtain ⟨hfgb, hcgb_0, hcgb_1, hcgb_2⟩ := qz3 BKgb.out) | (go_at_call 42; (with_reducible refine (HWRO.out _ HB.out).mono ?_); rintro e wn ⟨A, c, rfl, hAc, hAC, hb⟩; have HAC := qab.mk hAC; clear hAC; replace BKgb := qab.mk (qag BKgb.out hb); replace HB := qab.mk (qad HB.out hb); clear hb; obtain ⟨hfgb, hcgb_0, hcgb_1, hcgb_2⟩ := qz3 BKgb.out) | (go_at_call 42; (with_reducible refine (HWRX.out _ HB.out).mono ?_); rintro e wn ⟨A, c, rfl, hAc, hAC, hb⟩; have HAC := qab.mk hAC; clear hAC; replace BKgb := qab.mk (qag BKgb.out hb); replace HB := qab.mk (qad HB.out hb); clear hb; obtain ⟨hfgb, hcgb_0, hcgb_1, hcgb_2⟩ := qz3 BKgb.out) | (go_at_call 44; (with_reducible refine (HWKO.out A c hAc _ HB.out HAC.out).mono ?_); rintro e wn ⟨rfl, hb⟩; replace BKgb := qab.mk (qag BKgb.out hb); replace HB := qab.mk (qad HB.out hb); clear hb; obtain ⟨hfgb, hcgb_0, hcgb_1, hcgb_2⟩ := qz3 BKgb.out) | (go_at_call 44; (with_reducible refine (HWKX.out A c hAc _ HB.out HAC.out).mono ?_); rintro e wn ⟨rfl, hb⟩; replace BKgb := qab.mk (qag BKgb.out hb); replace HB := qab.mk (qad HB.out hb); clear hb; obtain ⟨hfgb, hcgb_0, hcgb_1, hcgb_2⟩ := qz3 BKgb.out) | (go_at_call 41; with_reducible refine (HCX.out _ HB.out).mono ?_; rintro e wn ⟨rfl, hb⟩; replace BKgb := qab.mk (qag BKgb.out hb); replace HB := qab.mk (qad HB.out hb); clear hb; obtain ⟨hfgb, hcgb_0, hcgb_1, hcgb_2⟩ := qz3 BKgb.out) | (go_at_call 41; with_reducible refine (HCA.out _ HB.out).mono ?_; rintro e wn ⟨rfl, hb⟩; replace BKgb := qab.mk (qag BKgb.out hb); replace HB := qab.mk (qad HB.out hb); clear hb; obtain ⟨hfgb, hcgb_0, hcgb_1, hcgb_2⟩ := qz3 BKgb.out) | (go_at_call 17; with_reducible refine (HKNOWN.out _ HB.out).mono ?_; rintro e wn ⟨rfl, hb⟩; replace BKgb := qab.mk (qag BKgb.out hb); replace HB := qab.mk (qad HB.out hb); clear hb; obtain ⟨hfgb, hcgb_0, hcgb_1, hcgb_2⟩ := qz3 BKgb.out))
        go_ret
        exact ⟨rfl, HB.out⟩
end Go.Proofs.Ytipphcjgdebecaa.PA
