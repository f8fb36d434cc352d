/- What functions of the program answer. No condition. -/
import Derived.Test.YtafkanmioinbiaaSC
import Derived.RangeFuncNested
import Derived.RangeFuncBound
import Derived.RangeFuncCalls
import Derived.RangeFuncLeaves
import Derived.RangeFuncBox
import Derived.Shelf.Abstract
import Derived.Shelf.RegionOpen
import Derived.OwnWalkIn
import Derived.TacticsInMore
import Derived.LoopNIn
import Derived.LoopIn
import Derived.Recover
import Derived.Defers
import Derived.WalkLawsBesides
import Derived.WalkSmall
import Derived.Test.YtafkanmioinbiaaFtB
import Derived.Test.YtafkanmioinbiaaSD
import Derived.Test.YtafkanmioinbiaaSE
import Derived.Test.YtafkanmioinbiaaSG
import Derived.Test.YtafkanmioinbiaaSH
import Derived.Test.YtafkanmioinbiaaSQ
import Derived.Test.YtafkanmioinbiaaFtA
import Derived.Test.YtafkanmioinbiaaSF
import Derived.Deep.Slices
import Derived.Lib.SmallJoins
import Derived.ChangeOld
import Derived.ProofKit
set_option linter.all false
set_option maxRecDepth 100000
set_option maxHeartbeats 8000000
namespace Go.Proofs.Ytafkanmioinbiaa.SA
open Go.RowKit Go.Proofs.YtafkanmioinbiaaW.PrintWords Go.Proofs.YtafkanmioinbiaaW.PrintLast Go.Proofs.YtafkanmioinbiaaW.PrintMore
attribute [local go_sem] max2_int min2_int max_two min_two qbe qbf max_four min_four
def talikref07_End.l0 : Nat → Bool → List Int → Int → Int → List (S44) → List Int → List Int → List (S41) → List (S95) → Option (List Int)
 | 0, _, _, _, _, _, _, _, _, _ => none
 | k + 1, x1, x5, x6, x215000, x215001, x215002, x215003, x215004, x215005 => if x6 < (x215004.length : Int) then (if 0 ≤ x6 then (if x1 = true then (if x5.length < 17592186044416 then (talikref07_End.l0 k x1 (x5 ++ [(qbg x215004 x6).f1]) (wrap64 (x6 + 1)) x215000 x215001 x215002 x215003 x215004 x215005) else (none)) else (if x5.length < 17592186044416 then (talikref07_End.l0 k x1 (x5 ++ [(qbg x215004 x6).f0]) (wrap64 (x6 + 1)) x215000 x215001 x215002 x215003 x215004 x215005) else (none))) else (none)) else (some x5)
def talikref07_End.f (k : Nat) (a0_0 : Int) (l0_1 : List (S44)) (l0_2 : List Int) (l0_3 : List Int) (l0_4 : List (S41)) (l0_5 : List (S95)) (a1 : Bool) : Option (List Int) := talikref07_End.l0 k a1 ([] : List Int) 0 a0_0 l0_1 l0_2 l0_3 l0_4 l0_5
theorem talikref07_End.calls (k : Nat) (a0_0 : Int) (A0_1 : Option Addr) (c0_1 : Nat) (l0_1 : List (S44)) (A0_2 : Option Addr) (c0_2 : Nat) (l0_2 : List Int) (A0_3 : Option Addr) (c0_3 : Nat) (l0_3 : List Int) (A0_4 : Option Addr) (c0_4 : Nat) (l0_4 : List (S41)) (A0_5 : Option Addr) (c0_5 : Nat) (l0_5 : List (S95)) (a1 : Bool) (r : List Int) (w : World) (hr0_1 : Kd.C k44 w A0_1 l0_1.length l0_1) (hc0_1 : l0_1.length ≤ c0_1) (hr0_2 : Kd.C (Kd.int .i64) w A0_2 l0_2.length l0_2) (hc0_2 : l0_2.length ≤ c0_2) (hr0_3 : Kd.C (Kd.int .i64) w A0_3 l0_3.length l0_3) (hc0_3 : l0_3.length ≤ c0_3) (hr0_4 : Kd.C k41 w A0_4 l0_4.length l0_4) (hc0_4 : l0_4.length ≤ c0_4) (hr0_5 : Kd.C k95 w A0_5 l0_5.length l0_5) (hc0_5 : l0_5.length ≤ c0_5) (h : talikref07_End.f k a0_0 l0_1 l0_2 l0_3 l0_4 l0_5 a1 = some r) :
  Calls Try.prog 24 #[.agg #[.int .i64 a0_0, .slice A0_1 l0_1.length c0_1, .slice A0_2 l0_2.length c0_2, .slice A0_3 l0_3.length c0_3, .slice A0_4 l0_4.length c0_4, .slice A0_5 l0_5.length c0_5], .bool a1] w fun e w' => ∃ v0_ : Value, e = .returned (v0_) ∧ Kd.R (Kd.int .i64) 3 w' w.heap.size (fun _ => True) v0_ r ∧ Below w.heap.size w w' := by
 have hu27 := Try.underlying27
 have HR0_1 := qab.mk hr0_1
 have HC0_1 := qab.mk hc0_1
 clear hr0_1 hc0_1
 have HR0_2 := qab.mk hr0_2
 have HC0_2 := qab.mk hc0_2
 clear hr0_2 hc0_2
 have HR0_3 := qab.mk hr0_3
 have HC0_3 := qab.mk hc0_3
 clear hr0_3 hc0_3
 have HR0_4 := qab.mk hr0_4
 have HC0_4 := qab.mk hc0_4
 clear hr0_4 hc0_4
 have HR0_5 := qab.mk hr0_5
 have HC0_5 := qab.mk hc0_5
 clear hr0_5 hc0_5
 have HB := qab.mk (Below.refl w.heap.size w)
 have H : (talikref07_End.l0 k a1 ([] : List Int) 0 a0_0 l0_1 l0_2 l0_3 l0_4 l0_5) = some r := h
 clear h
 have H' := qab.mk H
 clear H
 go_enter Try.func24, Try.ntmps24
 go_wp2_with (first | ((with_reducible refine qaq (N := 2) rfl ?_); refine ze 2 #[.int .i64 a0_0, .slice A0_1 l0_1.length c0_1, .slice A0_2 l0_2.length c0_2, .slice A0_3 l0_3.length c0_3, .slice A0_4 l0_4.length c0_4, .slice A0_5 l0_5.length c0_5] 27 ?_; intro gb214 hg w3 hbox hb; have n0_ := qab.mk (qae (zb HB.out) hb); have n1_ := qab.mk (hbox); have n2_ := qab.mk ((by rw [hg]; exact (qay (zb HB.out)) : w.heap.size ≤ gb214)); have n3_ := qab.mk ((by rw [hg]; exact (qay (zb HB.out)) : w.heap.size ≤ gb214)); clear HB; have HB := n0_; have BK214 := n1_; have GW214 := n2_; have GE214 := n3_; clear n0_ n1_ n2_ n3_; clear hb hbox hg))
 go_loopg [5, 6] k (fun kq v5 v6 w' => ∃ (x5_1 : List Int) (x6_1 : Int), v6 = .int .i64 x6_1 ∧ qab (talikref07_End.l0 kq a1 x5_1 x6_1 a0_0 l0_1 l0_2 l0_3 l0_4 l0_5 = some r) ∧ qab (kq ≤ k) ∧ qab (Kd.R (Kd.int .i64) 3 w' w.heap.size (fun _ => True) v5 x5_1) ∧ qab (w'.heap[gb214]? = some (.cells #[.int .i64 a0_0, (.slice A0_1 l0_1.length c0_1), (.slice A0_2 l0_2.length c0_2), (.slice A0_3 l0_3.length c0_3), (.slice A0_4 l0_4.length c0_4), (.slice A0_5 l0_5.length c0_5)] 27 (0, 0))) ∧ qab (Below w.heap.size w w'))
 case atStart => exact ⟨(([] : List Int)), (0), (by first | rfl | (simp; done) | (simp [*]; done)), H', ⟨Nat.le_refl _⟩, ⟨by first | exact Kd.R_nil _ _ _ _ _ | exact Kd.N_nil _ _ _ _ _ | exact Kd.V_nil _ _ _ _ _ | exact Kd.Q_nil _ _ _ _ _ | exact Kd.S_nil _ _ _ _ _⟩, ⟨zj BK214.out⟩, ⟨by repeat (first | (with_reducible first | exact HB.out | apply qag | apply qaf | apply qah | refine qaj ?_ GE214.out) | exact HB.out)⟩⟩
 case round =>
  clear H'
  try clear c2
  try clear p2
  obtain ⟨x5_1, x6_1, rfl, HA, HK1, HO_5, BK214, HB⟩ := hrel
  cases gk with
  | zero => exact absurd HA.out (by simp [talikref07_End.l0])
  | succ k1 =>
   have H := HA.out
   clear HA
   simp only [talikref07_End.l0] at H
   by_cases c4 : x6_1 < (l0_4.length : Int)
   ·
    rw [if_pos c4] at H
    have c4b0 : decide (x6_1 < (l0_4.length : Int)) = true := decide_eq_true c4
    clear c4
    by_cases c5 : 0 ≤ x6_1
    ·
     rw [if_pos c5] at H
     have c5b0 : decide (0 ≤ x6_1) = true := decide_eq_true c5
     clear c5
     by_cases c6 : a1 = true
     ·
      subst c6
      rw [if_pos rfl] at H
      by_cases c7 : x5_1.length < 17592186044416
      ·
       rw [if_pos c7] at H
       have LMc7 := qab.mk c7
       clear c7
       obtain ⟨y217, hy217⟩ : ∃ y_ : List Int, y_ = (x5_1 ++ [(qbg l0_4 x6_1).f1]) := ⟨_, rfl⟩
       replace H : (talikref07_End.l0 k1 true y217 (wrap64 (x6_1 + 1)) a0_0 l0_1 l0_2 l0_3 l0_4 l0_5) = some r := by first | (rw [hy217]; with_reducible exact H) | (have H2_ := (Option.bind_some _ _).symm.trans H; rw [hy217]; with_reducible exact H2_) | (have H2_ := (Option.bind_some _ _).symm.trans H; with_reducible exact H2_) | with_reducible exact H | (rw [hy217]; exact H) | exact H
       have Ny217 := qab.mk hy217
       clear hy217
       have H' := qab.mk H
       clear H
       obtain ⟨hfz_, hcz8_0, hcz8_1, hcz8_2, hcz8_3, hcz8_4, hcz8_5⟩ := qz6 BK214.out
       have p215 : 0 ≤ (x6_1 : Int) := of_decide_eq_true (by first | (with_reducible assumption) | assumption)
       have q215 : x6_1 < (l0_4.length : Int) := of_decide_eq_true (by first | (with_reducible assumption) | assumption)
       obtain ⟨ad215, e215, hx215_0, hx215_1⟩ := at_T41 HR0_4.out x6_1 p215 q215
       cases e215
       replace hx215_0 := (HB.out.cell (World.block_lt_of_cell? w _ hx215_0)).trans hx215_0
       replace hx215_1 := (HB.out.cell (World.block_lt_of_cell? w _ hx215_1)).trans hx215_1
       replace p215 := eq_true p215
       replace q215 := eq_true q215
       have p216 : 0 ≤ (x6_1 : Int) := of_decide_eq_true (by first | (with_reducible assumption) | assumption)
       have q216 : x6_1 < (l0_4.length : Int) := of_decide_eq_true (by first | (with_reducible assumption) | assumption)
       obtain ⟨ad216, e216, hx216_0, hx216_1⟩ := at_T41 HR0_4.out x6_1 p216 q216
       obtain rfl : ad215 = ad216 := (by injection e216)
       replace hx216_0 := (HB.out.cell (World.block_lt_of_cell? w _ hx216_0)).trans hx216_0
       replace hx216_1 := (HB.out.cell (World.block_lt_of_cell? w _ hx216_1)).trans hx216_1
       replace p216 := eq_true p216
       replace q216 := eq_true q216
       go_wp2_with (first | ((with_reducible refine gate_builtin (b := .append) (xs := #[.tmp 28, .tmp 30]) rfl ?_); at_builtin; refine Kd.R_append (Kd.int .i64) (w0 := w) w.heap.size rfl (.tmp 28) (.tmp 30) 23 3 (.int .i64 0) 8 rfl Try.underlying23 info3 rfl (by decide) (by omega) u5 x5_1 ((qbg l0_4 x6_1).f1) [.int .i64 ((qbg l0_4 x6_1).f1)] (fun _ => True) (fun _ => False) rfl rfl ?aP (fun _ hk => hk.elim) ?aF ?aO ?aB ?aS ?aL ?_; (case aP => exact rfl); (case aB => exact (by repeat (first | (with_reducible first | exact HB.out | apply qag | apply qaf | apply qah | refine qaj ?_ GE214.out) | exact HB.out))); (case aF => exact (fun _ _ => trivial)); (case aO => exact (by (with_reducible repeat (first | apply Kd.qas | apply Kd.qat | apply Kd.qaw)); exact HO_5.out)); (case aS => exact (qay (by repeat (first | (with_reducible first | exact HB.out | apply qag | apply qaf | apply qah | refine qaj ?_ GE214.out) | exact HB.out)))); (case aL => have := LMc7.out; omega); intro v218 w9 ho hb hg hat; rw [← Ny217.out] at ho; have n0_ := qab.mk (blk_grown (g := gb214) (o := .cells #[.int .i64 a0_0, .slice A0_1 l0_1.length c0_1, .slice A0_2 l0_2.length c0_2, .slice A0_3 l0_3.length c0_3, .slice (some ad215) l0_4.length c0_4, .slice A0_5 l0_5.length c0_5] 27 (0, 0)) (by (with_reducible repeat (first | refine qar ?_ _ | refine qav ?_ | refine qao ?_ _)); exact BK214.out) hg (Kd.R_ne HO_5.out BK214.out (by decide))); have n1_ := qab.mk (hb); have n2_ := qab.mk (ho); clear BK214; clear HB; clear HO_5; have BK214 := n0_; have HB := n1_; have HO219 := n2_; clear n0_ n1_ n2_; clear ho hb hg hat))
       go_roundg k1
       case measure => have := HK1.out; omega
       case rel => exact ⟨(y217), (wrap64 (x6_1 + 1)), (by first | rfl | (simp; done) | (simp [*]; done)), H', ⟨by have := HK1.out; omega⟩, ⟨zy HO219.out⟩, ⟨zj BK214.out⟩, ⟨by repeat (first | (with_reducible first | exact HB.out | apply qag | apply qaf | apply qah | refine qaj ?_ GE214.out) | exact HB.out)⟩⟩
      ·
       rw [if_neg c7] at H
       exact absurd H (by simp)
     ·
      replace c6 := Bool.eq_false_iff.mpr c6
      subst c6
      rw [if_neg (show ¬ (false = true) by decide)] at H
      by_cases c10 : x5_1.length < 17592186044416
      ·
       rw [if_pos c10] at H
       have LMc10 := qab.mk c10
       clear c10
       obtain ⟨y220, hy220⟩ : ∃ y_ : List Int, y_ = (x5_1 ++ [(qbg l0_4 x6_1).f0]) := ⟨_, rfl⟩
       replace H : (talikref07_End.l0 k1 false y220 (wrap64 (x6_1 + 1)) a0_0 l0_1 l0_2 l0_3 l0_4 l0_5) = some r := by first | (rw [hy220]; with_reducible exact H) | (have H2_ := (Option.bind_some _ _).symm.trans H; rw [hy220]; with_reducible exact H2_) | (have H2_ := (Option.bind_some _ _).symm.trans H; with_reducible exact H2_) | with_reducible exact H | (rw [hy220]; exact H) | exact H
       have Ny220 := qab.mk hy220
       clear hy220
       have H' := qab.mk H
       clear H
       obtain ⟨hfz_, hcz11_0, hcz11_1, hcz11_2, hcz11_3, hcz11_4, hcz11_5⟩ := qz6 BK214.out
       have p215 : 0 ≤ (x6_1 : Int) := of_decide_eq_true (by first | (with_reducible assumption) | assumption)
       have q215 : x6_1 < (l0_4.length : Int) := of_decide_eq_true (by first | (with_reducible assumption) | assumption)
       obtain ⟨ad215, e215, hx215_0, hx215_1⟩ := at_T41 HR0_4.out x6_1 p215 q215
       cases e215
       replace hx215_0 := (HB.out.cell (World.block_lt_of_cell? w _ hx215_0)).trans hx215_0
       replace hx215_1 := (HB.out.cell (World.block_lt_of_cell? w _ hx215_1)).trans hx215_1
       replace p215 := eq_true p215
       replace q215 := eq_true q215
       go_wp2_with (first | ((with_reducible refine gate_builtin (b := .append) (xs := #[.tmp 28, .tmp 30]) rfl ?_); at_builtin; refine Kd.R_append (Kd.int .i64) (w0 := w) w.heap.size rfl (.tmp 28) (.tmp 30) 23 3 (.int .i64 0) 8 rfl Try.underlying23 info3 rfl (by decide) (by omega) u5 x5_1 ((qbg l0_4 x6_1).f0) [.int .i64 ((qbg l0_4 x6_1).f0)] (fun _ => True) (fun _ => False) rfl rfl ?aP (fun _ hk => hk.elim) ?aF ?aO ?aB ?aS ?aL ?_; (case aP => exact rfl); (case aB => exact (by repeat (first | (with_reducible first | exact HB.out | apply qag | apply qaf | apply qah | refine qaj ?_ GE214.out) | exact HB.out))); (case aF => exact (fun _ _ => trivial)); (case aO => exact (by (with_reducible repeat (first | apply Kd.qas | apply Kd.qat | apply Kd.qaw)); exact HO_5.out)); (case aS => exact (qay (by repeat (first | (with_reducible first | exact HB.out | apply qag | apply qaf | apply qah | refine qaj ?_ GE214.out) | exact HB.out)))); (case aL => have := LMc10.out; omega); intro v221 w12 ho hb hg hat; rw [← Ny220.out] at ho; have n0_ := qab.mk (blk_grown (g := gb214) (o := .cells #[.int .i64 a0_0, .slice A0_1 l0_1.length c0_1, .slice A0_2 l0_2.length c0_2, .slice A0_3 l0_3.length c0_3, .slice (some ad215) l0_4.length c0_4, .slice A0_5 l0_5.length c0_5] 27 (0, 0)) (by (with_reducible repeat (first | refine qar ?_ _ | refine qav ?_ | refine qao ?_ _)); exact BK214.out) hg (Kd.R_ne HO_5.out BK214.out (by decide))); have n1_ := qab.mk (hb); have n2_ := qab.mk (ho); clear BK214; clear HB; clear HO_5; have BK214 := n0_; have HB := n1_; have HO222 := n2_; clear n0_ n1_ n2_; clear ho hb hg hat))
       go_roundg k1
       case measure => have := HK1.out; omega
       case rel => exact ⟨(y220), (wrap64 (x6_1 + 1)), (by first | rfl | (simp; done) | (simp [*]; done)), H', ⟨by have := HK1.out; omega⟩, ⟨zy HO222.out⟩, ⟨zj BK214.out⟩, ⟨by repeat (first | (with_reducible first | exact HB.out | apply qag | apply qaf | apply qah | refine qaj ?_ GE214.out) | exact HB.out)⟩⟩
      ·
       rw [if_neg c10] at H
       exact absurd H (by simp)
    ·
     rw [if_neg c5] at H
     exact absurd H (by simp)
   ·
    rw [if_neg c4] at H
    have c4b0 : decide (x6_1 < (l0_4.length : Int)) = false := decide_eq_false c4
    clear c4
    obtain rfl := Option.some.inj H
    obtain ⟨hfz_, hcz13_0, hcz13_1, hcz13_2, hcz13_3, hcz13_4, hcz13_5⟩ := qz6 BK214.out
    go_wp2
    go_ret
    exact ⟨_, by first | rfl | (simp [qaz, qba] <;> rfl) | (simp [*, qaz, qba] <;> rfl), by (with_reducible repeat (first | apply Kd.qas | apply Kd.qat | apply Kd.qaw)); exact HO_5.out, by repeat (first | (with_reducible first | exact HB.out | apply qag | apply qaf | apply qah | refine qaj ?_ GE214.out) | exact HB.out)⟩
end Go.Proofs.Ytafkanmioinbiaa.SA
namespace Go.Proofs.Ytafkanmioinbiaa.SA
open Go.RowKit Go.Shelf Go.Proofs.YtafkanmioinbiaaW.PrintWords Go.Proofs.YtafkanmioinbiaaW.PrintLast Go.Proofs.YtafkanmioinbiaaW.PrintMore
attribute [local go_sem] max2_int min2_int max_two min_two qbe qbf max_four min_four
def shortB (l1 : List S44) (l2 l3 : List Int) (l4 : List S41) (l5 : List S95) : Bool := decide (l1.length ≤ 16) && (decide (l2.length ≤ 15) && (decide (l3.length ≤ 15) && (decide (l4.length ≤ 15) && decide (l5.length ≤ 10))))
structure Sh (l1 : List S44) (l2 l3 : List Int) (l4 : List S41) (l5 : List S95) : Prop where
 n1 : l1.length ≤ 16
 n2 : l2.length ≤ 15
 n3 : l3.length ≤ 15
 n4 : l4.length ≤ 15
 n5 : l5.length ≤ 10
theorem short_of {l1 : List S44} {l2 l3 : List Int} {l4 : List S41} {l5 : List S95} (h : shortB l1 l2 l3 l4 l5 = true) : Sh l1 l2 l3 l4 l5 := by
 unfold shortB at h
 simp only [Bool.and_eq_true, decide_eq_true_eq] at h
 obtain ⟨a, b, c, d, e⟩ := h
 exact ⟨a, b, c, d, e⟩
theorem known_some : taliklaw07_known.f = some true := rfl
section
variable (p : Int) (l1 : List S44) (l2 l3 : List Int) (l4 : List S41) (l5 : List S95)
theorem short_eq : taliklaw07_short.f p l1 l2 l3 l4 l5 = some (shortB l1 l2 l3 l4 l5) := by
 unfold taliklaw07_short.f shortB
 by_cases h1 : l1.length ≤ 16
 ·
  rw [if_pos (by omega), decide_eq_true h1]
  by_cases h2 : l2.length ≤ 15
  ·
   rw [if_pos (by omega), decide_eq_true h2]
   by_cases h3 : l3.length ≤ 15
   ·
    rw [if_pos (by omega), decide_eq_true h3]
    by_cases h4 : l4.length ≤ 15
    ·
     rw [if_pos (by omega), decide_eq_true h4, show decide ((l5.length : Int) ≤ 10) = decide (l5.length ≤ 10) from decide_eq_decide.2 (by omega)]
     rfl
    ·
     rw [if_neg (by omega), decide_eq_false h4]
     rfl
   ·
    rw [if_neg (by omega), decide_eq_false h3]
    rfl
  ·
   rw [if_neg (by omega), decide_eq_false h2]
   rfl
 ·
  rw [if_neg (by omega), decide_eq_false h1]
  rfl
theorem wsucc (i : Nat) (h : i < 1000000) : wrap64 ((i : Int) + 1) = ((i + 1 : Nat) : Int) := by unfold wrap64; omega
theorem valid_cost (hv : validB p l1 l2 l3 l4 l5 = true) (i : Nat) (hi : i < l1.length) : -1 ≤ (qax l1 i).f3 ∧ (qax l1 i).f3 ≤ 1000000 := by
 unfold validB at hv
 have h1 := (Bool.and_eq_true_iff.1 hv).1
 rw [List.all_eq_true] at h1
 have h2 := h1 _ (List.getElem_mem hi)
 unfold edgeB inB at h2
 simp only [Bool.and_eq_true, decide_eq_true_eq] at h2
 have e : qax l1 (i : Int) = l1[i] := by simp [qax, hi]
 rw [e]
 omega
theorem dam_given (hv : validB p l1 l2 l3 l4 l5 = true) (l : List Int) : damB l1 l = givenB p l1 l2 l3 l4 l5 l := by
 have n1 := (valid_facts hv).n1
 unfold givenB
 rw [hv, Bool.true_and]
 have hw : wrap64 ((l1.length : Int) - 1) = (l1.length : Int) - 1 := by unfold wrap64; omega
 have hrd : ∀ k : Nat, ∀ hk : k < l.length, l.getD k 0 = l[k] := fun k hk => by simp [hk]
 cases hd : damB l1 l with
 | true =>
  unfold damB at hd
  rw [List.all_eq_true] at hd
  have hd' : ∀ k, k < l.length → damAt l1 l k = true := fun k hk => hd k (List.mem_range.2 hk)
  have h1 : incB l (l1.length : Int) = true := by
   unfold incB
   refine range_all_true (fun k hk => ?_)
   have := hd' k hk
   unfold damAt at this
   simp only [Bool.and_eq_true] at this
   unfold incAt
   rw [hw, this.1, this.2.1]
   rfl
  have h2 : (l.all fun n => !decide ((qax l1 n).f3 = -1)) = true := by
   rw [List.all_eq_true]
   intro x hx
   obtain ⟨k, hk, rfl⟩ := List.mem_iff_getElem.1 hx
   have := hd' k hk
   unfold damAt at this
   rw [hrd k hk] at this
   simp only [Bool.and_eq_true, decide_eq_true_eq] at this
   have h3 := this.2.2
   simp
   omega
  rw [h1, h2]
  rfl
 | false =>
  unfold damB at hd
  rw [List.all_eq_false] at hd
  obtain ⟨k, hk, hk2⟩ := hd
  have hk := List.mem_range.1 hk
  symm
  rw [Bool.and_eq_false_iff]
  by_cases c : incAt l (l1.length : Int) k = true
  ·
   right
   rw [List.all_eq_false]
   refine ⟨l[k], List.getElem_mem hk, ?_⟩
   unfold incAt at c
   rw [hw] at c
   simp only [Bool.and_eq_true] at c
   unfold damAt at hk2
   rw [c.1, c.2, Bool.true_and, Bool.true_and, hrd k hk] at hk2
   have hi := c.1
   rw [hrd k hk] at hi
   unfold inB at hi
   simp only [Bool.and_eq_true, decide_eq_true_eq] at hi
   obtain ⟨m, hm⟩ := Int.eq_ofNat_of_zero_le hi.1
   have hc := valid_cost p l1 l2 l3 l4 l5 hv m (by omega)
   rw [hm] at hk2 ⊢
   simp only [decide_eq_true_eq, Bool.not_eq_true', decide_eq_false_iff_not, Classical.not_not] at hk2 ⊢
   omega
  ·
   left
   exact range_all_false k hk (by simpa using c)
theorem asked_eq (l : List Int) : taliklaw07_asked.f p l1 l2 l3 l4 l5 l = some (givenB p l1 l2 l3 l4 l5 l) := by
 unfold taliklaw07_asked.f
 rw [show talikref07_Map.f p l1 l2 l3 l4 l5 = some (validB p l1 l2 l3 l4 l5) from rfl, Option.bind_some]
 cases hv : validB p l1 l2 l3 l4 l5 with
 | true =>
  rw [if_pos rfl, show talikref07_Dam.f p l1 l2 l3 l4 l5 l = some (damB l1 l) from rfl, Option.bind_some, dam_given p l1 l2 l3 l4 l5 hv]
 | false =>
  rw [if_neg (by simp)]
  unfold givenB
  rw [hv]
  rfl
theorem thaws_go (ths : List Int) (h15 : ths.length ≤ 15) : ∀ (m i k : Nat), i + m = ths.length → 2 * m + 2 ≤ k → i ≤ l4.length → (∀ j : Nat, j < i → inB (rd ths j) (qbg l4 j).f0 (qbg l4 j).f1 = true) → talikref07_Thaws.l0 k ths (i : Int) p l1 l2 l3 l4 l5 = some (playOk l4 ths) := by
 intro m
 induction m with
 | zero =>
  intro i k hi hk hil hp
  obtain ⟨k, rfl⟩ : ∃ m, k = m + 2 := ⟨k - 2, by omega⟩
  rw [talikref07_Thaws.l0]
  rw [if_neg (by omega), talikref07_Thaws.j1]
  rw [if_neg (by decide)]
  by_cases e : ths.length = l4.length
  ·
   rw [playOk_ok e (fun j hj => hp j (by omega))]
   simp [e]
  ·
   unfold playOk
   rw [decide_eq_false e]
   simp
   omega
 | succ m ih =>
  intro i k hi hk hil hp
  obtain ⟨k, rfl⟩ : ∃ m, k = m + 2 := ⟨k - 2, by omega⟩
  rw [talikref07_Thaws.l0]
  rw [if_pos (by omega), talikref07_Thaws.j1]
  by_cases h4 : i < l4.length
  ·
   rw [if_pos (decide_eq_true (by omega)), if_pos (by omega), if_pos (by omega), if_pos (by omega), ref_in_eq, Option.bind_some]
   cases hc : inB (rd ths (i : Int)) (qbg l4 (i : Int)).f0 (qbg l4 (i : Int)).f1 with
   | true =>
    rw [if_pos rfl, wsucc i (by omega)]
    refine ih (i + 1) k (by omega) (by omega) (by omega) (fun j hj => ?_)
    rcases Nat.lt_or_ge j i with h | h
    ·
     exact hp j h
    ·
     obtain rfl : j = i := by omega
     exact hc
   | false =>
    rw [if_neg (by decide), playOk_bad i (by omega) hc]
  ·
   rw [if_neg (by simp; omega)]
   unfold playOk
   rw [decide_eq_false (show ¬ ths.length = l4.length by omega)]
   simp
   omega
theorem thaws_eq (ths : List Int) (h15 : ths.length ≤ 15) (k : Nat) (hk : 40 ≤ k) : talikref07_Thaws.f k p l1 l2 l3 l4 l5 ths = some (playOk l4 ths) :=
 thaws_go p l1 l2 l3 l4 l5 ths h15 ths.length 0 k (by omega) (by omega) (by omega) (fun j hj => by omega)
theorem end_go (hi : Bool) (h15 : l4.length ≤ 15) : ∀ (m i k : Nat), i + m = l4.length → m + 1 ≤ k → talikref07_End.l0 k hi ((l4.take i).map (fun s => if hi = true then s.f1 else s.f0)) (i : Int) p l1 l2 l3 l4 l5 = some (l4.map (fun s => if hi = true then s.f1 else s.f0)) := by
 intro m
 induction m with
 | zero =>
  intro i k hi2 hk
  obtain ⟨k, rfl⟩ : ∃ m, k = m + 1 := ⟨k - 1, by omega⟩
  rw [talikref07_End.l0]
  rw [if_neg (by omega), List.take_of_length_le (by omega)]
 | succ m ih =>
  intro i k hi2 hk
  obtain ⟨k, rfl⟩ : ∃ m, k = m + 1 := ⟨k - 1, by omega⟩
  have hil : i < l4.length := by omega
  have hs := ih (i + 1) k (by omega) (by omega)
  have et : (l4.take (i + 1)).map (fun s => if hi = true then s.f1 else s.f0) = (l4.take i).map (fun s => if hi = true then s.f1 else s.f0) ++ [if hi = true then (qbg l4 (i : Int)).f1 else (qbg l4 (i : Int)).f0] := by
   rw [List.take_succ, List.getElem?_eq_getElem hil, List.map_append]
   simp [qbg, hil]
  rw [talikref07_End.l0]
  rw [if_pos (by omega), if_pos (by omega), wsucc i (by omega)]
  cases hi with
  | true =>
   rw [if_pos rfl, if_pos (by simp; omega)]
   rw [et] at hs
   exact hs
  | false =>
   rw [if_neg (by decide), if_pos (by simp; omega)]
   rw [et] at hs
   exact hs
theorem end_hi (h15 : l4.length ≤ 15) (k : Nat) (hk : 20 ≤ k) : talikref07_End.f k p l1 l2 l3 l4 l5 true = some (l4.map (·.f1)) := end_go p l1 l2 l3 l4 l5 true h15 l4.length 0 k (by omega) (by omega)
theorem end_lo (h15 : l4.length ≤ 15) (k : Nat) (hk : 20 ≤ k) : talikref07_End.f k p l1 l2 l3 l4 l5 false = some (l4.map (·.f0)) := end_go p l1 l2 l3 l4 l5 false h15 l4.length 0 k (by omega) (by omega)
end
theorem Fl.congr {l1 : List S44} {ws : List Int} {dk dk' : Nat → Bool} {ths : List Int} (h : ∀ i, i < l1.length → dk i = dk' i) {y : Nat} {x : Int} (hf : Fl l1 ws dk ths y x) : Fl l1 ws dk' ths y x := by
 induction hf with
 | waste hm => exact .waste hm
 | later _ ih => exact .later ih
 | edge ho _ ih => exact .edge ⟨ho.1, by rw [← h _ ho.1]; exact ho.2.1, ho.2.2⟩ ih
theorem IsF.congr {l1 : List S44} {ws : List Int} {dk dk' : Nat → Bool} {ths : List Int} {N P b k : Nat} {o : List Int} (h : ∀ i, i < l1.length → dk i = dk' i) (hf : IsF l1 ws dk ths N P b k o) : IsF l1 ws dk' ths N P b k o :=
 ⟨hf.len, hf.rng, fun p h0 h1 y hy => (hf.iff p h0 h1 y hy).trans ⟨fun g => g.congr h, fun g => g.congr (fun i hi => (h i hi).symm)⟩⟩
section
variable {p : Int} {l1 : List S44} {l2 l3 : List Int} {l4 : List S41} {l5 : List S95} {l : List Int}
theorem valid_InP (hv : validB p l1 l2 l3 l4 l5 = true) : InP l1 p.toNat := fun i hi => by
 have h := (valid_facts hv).e i hi
 have := (valid_facts hv).pp
 omega
theorem valid_ws (hv : validB p l1 l2 l3 l4 l5 = true) : ∀ x ∈ l2, 0 ≤ x ∧ x < p.toNat := fun x hx => by
 have h := (valid_facts hv).w2 x hx
 omega
theorem given_inc (hg : givenB p l1 l2 l3 l4 l5 l = true) : incB l (l1.length : Int) = true := by
 unfold givenB at hg
 simp only [Bool.and_eq_true] at hg
 exact hg.2.1
theorem given_dyke (hg : givenB p l1 l2 l3 l4 l5 l = true) (i : Nat) (hi : i < l1.length) : dykeV (maskV l : Int) (i : Int) = l.contains (i : Int) := by
 have n1 := (valid_facts (given_valid hg)).n1
 have hm := inc_mem (given_inc hg) (.inr (by omega)) (by omega)
 have hlt : maskV l < 2 ^ 12 := mask_lt l 12 (fun x hx => ⟨(hm x hx).1, by have := (hm x hx).2; omega⟩)
 rw [dyke_bit _ (by omega) i (by omega), mask_bit l (fun x hx => (hm x hx).1)]
 cases h : l.contains (i : Int) with
 | true =>
  rw [List.any_eq_true]
  exact ⟨i, by simpa using h, by simp⟩
 | false =>
  rw [List.any_eq_false]
  intro x hx hxi
  have : x = (i : Int) := by simpa using hxi
  subst this
  simp [hx] at h
theorem foul_isF (hg : givenB p l1 l2 l3 l4 l5 l = true) (ths : List Int) : IsF l1 l2 (fun i => l.contains (i : Int)) ths ths.length p.toNat ths.length ths.length (foulV p.toNat l1 l2 (maskV l) ths) :=
 (foulV_isF (valid_InP (given_valid hg)) _ (valid_ws (given_valid hg))).congr (given_dyke hg)
end
def Opens {α : Type} (d : Kd α) (t : TypeId) : Prop := ∀ (H : Type) (enc : TypeId × Value → H) (w : World) (base fuel : Nat) (cs : List Value) (x : DataW H × List MemPlace), DataW.trod enc Try.prog w base (fun _ => true) true fuel t cs = some x → ∃ v, d.K w v cs
theorem opens_int : Opens (Kd.int .i64) 3 := by
 intro H enc w base fuel cs x h
 obtain ⟨n, rfl, _, _⟩ := DataW.trod_int Try.underlying3 h
 exact ⟨n, rfl⟩
theorem cell_of_cells {w : World} {base n : Nat} {a : Addr} {cs : List Value} (h : w.cells? base a n = some cs) : cs.length = n ∧ ∀ i u, cs[i]? = some u → w.cell? (a.add i) = some u := by
 unfold World.cells? at h
 split at h
 ·
  refine ⟨by simpa using mapM_some_length h, fun i u hu => ?_⟩
  have hi : i < n := by
   have h1 := mapM_some_length h
   have h2 := (List.getElem?_eq_some_iff.1 hu).1
   simp at h1
   omega
  have h3 := mapM_some_get h i i (by simp [hi])
  rw [h3]
  exact hu
 ·
  cases h
theorem opens_slice {α : Type} {d : Kd α} {t e : TypeId} (z : α) (ht : Try.prog.underlying t = some (.slice e)) (hz : Try.prog.cellsOf e = d.sz) (hd : Opens d e) : Opens (Kd.slice e d) t := by
 intro H enc w base fuel cs x h
 rcases Deep.open_slice ht h with ⟨rfl, _⟩ | ⟨a, len, cap, m, n, D, Pl, rfl, hb, hl, hm, hmm, _, hel⟩
 ·
  exact ⟨[], none, 0, rfl, Nat.le_refl _, rfl, by simp, fun h => absurd h (by simp)⟩
 ·
  simp only [if_true] at hmm
  subst hmm
  haveI : Inhabited (α × List Value) := ⟨(z, [])⟩
  obtain ⟨F, hF⟩ : ∃ F : Nat → α × List Value, ∀ i, i < len → w.cells? base (a.add (i * Try.prog.cellsOf e)) (Try.prog.cellsOf e) = some (F i).2 ∧ d.K w (F i).1 (F i).2 := by
   have hx : ∀ i, i < len → ∃ q : α × List Value, w.cells? base (a.add (i * Try.prog.cellsOf e)) (Try.prog.cellsOf e) = some q.2 ∧ d.K w q.1 q.2 := fun i hi => by
    obtain ⟨cs', h1, h2⟩ := hel i (by omega)
    obtain ⟨v, hv⟩ := hd H enc w base n cs' _ h2
    exact ⟨(v, cs'), h1, hv⟩
   exact Deep.choose_lt hx
  have hlen : ((List.range len).map fun i => (F i).1).length = len := by simp
  refine ⟨(List.range len).map fun i => (F i).1, some a, m, by rw [hlen], by rw [hlen]; exact hl, rfl, ?_, fun _ => ⟨a, rfl, fun j p hj => ?_⟩⟩
  ·
   rw [hlen]
   have : maxLen ≤ 9223372036854775807 := by decide
   omega
  ·
   obtain ⟨hj1, hj2⟩ := List.getElem?_eq_some_iff.1 hj
   have hjl : j < len := by simpa using hj1
   have hp : p = (F j).1 := by simpa using hj2.symm
   subst hp
   obtain ⟨h1, h2⟩ := hF j hjl
   refine ⟨(F j).2, d.K_len h2, h2, fun i u hu => ?_⟩
   have h3 := (cell_of_cells h1).2 i u hu
   rw [Deep.add_add, hz] at h3
   exact h3
theorem K_pair {α β : Type} {a : Kd α} {b : Kd β} {w : World} {cs : List Value} {o : Nat} {x : α} {y : β} (h1 : a.K w x ((cs.drop o).take a.sz)) (h2 : b.K w y (cs.drop (o + a.sz))) : (Kd.pair a b).K w (x, y) (cs.drop o) :=
 ⟨_, _, by have h := (List.take_append_drop a.sz (cs.drop o)).symm; rwa [List.drop_drop] at h, h1, h2⟩
theorem K_last {α : Type} {a : Kd α} {w : World} {cs : List Value} {o : Nat} {x : α} (h1 : a.K w x ((cs.drop o).take a.sz)) (hl : cs.length = o + a.sz) : a.K w x (cs.drop o) := by
 rwa [List.take_of_length_le (by simp; omega)] at h1
theorem field_of {α : Type} {d : Kd α} {t : TypeId} (hd : Opens d t) (hz : Try.prog.cellsOf t = d.sz) {H : Type} {enc : TypeId × Value → H} {w : World} {base n o : Nat} {cs : List Value} {xs : List (DataW H × List MemPlace)} {i : Nat} (hi : i < xs.length)
  (h : DataW.trod enc Try.prog w base (fun _ => true) true n t ((cs.drop o).take (Try.prog.cellsOf t)) = xs[i]?) : ∃ v, d.K w v ((cs.drop o).take d.sz) := by
 rw [hz, List.getElem?_eq_getElem hi] at h
 exact hd H enc w base n _ _ h
theorem opens_41 : Opens k41 41 := by
 intro H enc w base fuel cs x h
 obtain ⟨xs, n, rfl, rfl, hl, hxl, hf⟩ := DataW.trod_struct Try.underlying41 h
 have hl' : cs.length = 2 := hl.trans (by kernel_rfl)
 have hx : xs.length = 2 := hxl
 obtain ⟨v0, e0⟩ := field_of opens_int (by kernel_rfl) (i := 0) (by omega) (hf 0 _ rfl)
 obtain ⟨v1, e1⟩ := field_of opens_int (by kernel_rfl) (i := 1) (by omega) (hf 1 _ rfl)
 exact ⟨⟨v0, v1⟩, K_pair (o := 0) e0 (K_last (o := 0 + 1) e1 hl')⟩
theorem opens_44 : Opens k44 44 := by
 intro H enc w base fuel cs x h
 obtain ⟨xs, n, rfl, rfl, hl, hxl, hf⟩ := DataW.trod_struct Try.underlying44 h
 have hl' : cs.length = 4 := hl.trans (by kernel_rfl)
 have hx : xs.length = 4 := hxl
 obtain ⟨v0, e0⟩ := field_of opens_int (by kernel_rfl) (i := 0) (by omega) (hf 0 _ rfl)
 obtain ⟨v1, e1⟩ := field_of opens_int (by kernel_rfl) (i := 1) (by omega) (hf 1 _ rfl)
 obtain ⟨v2, e2⟩ := field_of opens_int (by kernel_rfl) (i := 2) (by omega) (hf 2 _ rfl)
 obtain ⟨v3, e3⟩ := field_of opens_int (by kernel_rfl) (i := 3) (by omega) (hf 3 _ rfl)
 exact ⟨⟨v0, v1, v2, v3⟩, K_pair (o := 0) e0 (K_pair (o := 0 + 1) e1 (K_pair (o := 0 + 1 + 1) e2 (K_last (o := 0 + 1 + 1 + 1) e3 hl')))⟩
theorem opens_95 : Opens k95 95 := by
 intro H enc w base fuel cs x h
 obtain ⟨xs, n, rfl, rfl, hl, hxl, hf⟩ := DataW.trod_struct Try.underlying95 h
 have hl' : cs.length = 6 := hl.trans (by kernel_rfl)
 have hx : xs.length = 4 := hxl
 obtain ⟨v0, e0⟩ := field_of opens_int (by kernel_rfl) (i := 0) (by omega) (hf 0 _ rfl)
 obtain ⟨v1, e1⟩ := field_of opens_int (by kernel_rfl) (i := 1) (by omega) (hf 1 _ rfl)
 obtain ⟨v2, e2⟩ := field_of opens_41 (by kernel_rfl) (i := 2) (by omega) (hf 2 _ rfl)
 obtain ⟨v3, e3⟩ := field_of opens_41 (by kernel_rfl) (i := 3) (by omega) (hf 3 _ rfl)
 exact ⟨⟨v0, v1, v2, v3⟩, K_pair (o := 0) e0 (K_pair (o := 0 + 1) e1 (K_pair (o := 0 + 1 + 1) e2 (K_last (o := 0 + 1 + 1 + 2) e3 hl')))⟩
theorem opens_22 : Opens (Kd.slice 44 k44) 22 := opens_slice z44 Try.underlying22 (by kernel_rfl) opens_44
theorem opens_24 : Opens (Kd.slice 41 k41) 24 := opens_slice z41 Try.underlying24 (by kernel_rfl) opens_41
theorem opens_25 : Opens (Kd.slice 95 k95) 25 := opens_slice z95 Try.underlying25 (by kernel_rfl) opens_95
theorem opens_23 : Opens (Kd.slice 3 (Kd.int .i64)) 23 := opens_slice 0 Try.underlying23 (by kernel_rfl) opens_int
def kMap : Kd (Int × List S44 × List Int × List Int × List S41 × List S95) := Kd.pair (Kd.int .i64) (Kd.pair (Kd.slice 44 k44) (Kd.pair (Kd.slice 3 (Kd.int .i64)) (Kd.pair (Kd.slice 3 (Kd.int .i64)) (Kd.pair (Kd.slice 41 k41) (Kd.slice 95 k95)))))
theorem opens_27 : Opens kMap 27 := by
 intro H enc w base fuel cs x h
 obtain ⟨xs, n, rfl, rfl, hl, hxl, hf⟩ := DataW.trod_struct Try.underlying27 h
 have hl' : cs.length = 6 := hl.trans (by kernel_rfl)
 have hx : xs.length = 6 := hxl
 obtain ⟨v0, e0⟩ := field_of opens_int (by kernel_rfl) (i := 0) (by omega) (hf 0 _ rfl)
 obtain ⟨v1, e1⟩ := field_of opens_22 (by kernel_rfl) (i := 1) (by omega) (hf 1 _ rfl)
 obtain ⟨v2, e2⟩ := field_of opens_23 (by kernel_rfl) (i := 2) (by omega) (hf 2 _ rfl)
 obtain ⟨v3, e3⟩ := field_of opens_23 (by kernel_rfl) (i := 3) (by omega) (hf 3 _ rfl)
 obtain ⟨v4, e4⟩ := field_of opens_24 (by kernel_rfl) (i := 4) (by omega) (hf 4 _ rfl)
 obtain ⟨v5, e5⟩ := field_of opens_25 (by kernel_rfl) (i := 5) (by omega) (hf 5 _ rfl)
 exact ⟨(v0, v1, v2, v3, v4, v5), K_pair (o := 0) e0 (K_pair (o := 0 + 1) e1 (K_pair (o := 0 + 1 + 1) e2 (K_pair (o := 0 + 1 + 1 + 1) e3 (K_pair (o := 0 + 1 + 1 + 1 + 1) e4 (K_last (o := 0 + 1 + 1 + 1 + 1 + 1) e5 hl')))))⟩
theorem open_map {H : Type} {enc : TypeId × Value → H} {w : World} {b0 : Nat} {v : Value} {d : DataW H} {p : List MemPlace} (hv : Value.okWide Try.prog w .any b0 27 v) (h : DataW.Trod enc Try.prog w 0 (fun _ => true) true 27 v d p) :
  ∃ (m : Int) (A1 : Option Addr) (c1 : Nat) (l1 : List S44) (A2 : Option Addr) (c2 : Nat) (l2 : List Int) (A3 : Option Addr) (c3 : Nat) (l3 : List Int) (A4 : Option Addr) (c4 : Nat) (l4 : List S41) (A5 : Option Addr) (c5 : Nat) (l5 : List S95), v = .agg #[.int .i64 m, .slice A1 l1.length c1, .slice A2 l2.length c2, .slice A3 l3.length c3, .slice A4 l4.length c4, .slice A5 l5.length c5] ∧
   Kd.C k44 w A1 l1.length l1 ∧ l1.length ≤ c1 ∧ Kd.C (Kd.int .i64) w A2 l2.length l2 ∧ l2.length ≤ c2 ∧ Kd.C (Kd.int .i64) w A3 l3.length l3 ∧ l3.length ≤ c3 ∧ Kd.C k41 w A4 l4.length l4 ∧ l4.length ≤ c4 ∧ Kd.C k95 w A5 l5.length l5 ∧ l5.length ≤ c5 := by
 obtain ⟨cs, rfl, hsz⟩ := WideShapes.okWide_struct Try.underlying27 hv
 obtain ⟨n, hn⟩ := h
 obtain ⟨⟨m, l1, l2, l3, l4, l5⟩, c0, r0, e0, rfl, a1, r1, rfl, ⟨A1, c1, rfl, f1, g1⟩, a2, r2, rfl, ⟨A2, c2, rfl, f2, g2⟩, a3, r3, rfl, ⟨A3, c3, rfl, f3, g3⟩, a4, r4, rfl, ⟨A4, c4, rfl, f4, g4⟩, ⟨A5, c5, rfl, f5, g5⟩⟩ := opens_27 H enc w 0 n _ _ hn
 refine ⟨m, A1, c1, l1, A2, c2, l2, A3, c3, l3, A4, c4, l4, A5, c5, l5, ?_, g1, f1, g2, f2, g3, f3, g4, f4, g5, f5⟩
 have e : cs.toList = [.int .i64 m, .slice A1 l1.length c1, .slice A2 l2.length c2, .slice A3 l3.length c3, .slice A4 l4.length c4, .slice A5 l5.length c5] := by simpa [Value.cells] using e0
 rw [show cs = #[.int .i64 m, .slice A1 l1.length c1, .slice A2 l2.length c2, .slice A3 l3.length c3, .slice A4 l4.length c4, .slice A5 l5.length c5] from Array.toList_inj.1 e]
theorem open_nums {H : Type} {enc : TypeId × Value → H} {w : World} {b0 : Nat} {v : Value} {d : DataW H} {p : List MemPlace} (hv : Value.okWide Try.prog w .any b0 23 v) (h : DataW.Trod enc Try.prog w 0 (fun _ => true) true 23 v d p) :
  ∃ (A : Option Addr) (c : Nat) (l : List Int), v = .slice A l.length c ∧ Kd.C (Kd.int .i64) w A l.length l ∧ l.length ≤ c := by
 obtain ⟨a, len, cap, rfl⟩ := WideShapes.okWide_slice Try.underlying23 hv
 obtain ⟨n, hn⟩ := h
 obtain ⟨l, A, c, e, f, g⟩ := opens_23 H enc w 0 n _ _ hn
 simp [Value.cells] at e
 obtain ⟨rfl, rfl, rfl⟩ := e
 exact ⟨_, _, l, rfl, g, f⟩
theorem Fl.mono {l1 l1' : List S44} {ws ws' : List Int} {dk dk' : Nat → Bool} {ths ths' : List Int} {N : Nat} (hw : ∀ p ∈ ws, p ∈ ws') (he : ∀ y i, y < N → opE l1 dk ths y i → opE l1' dk' ths' y i) (hr : ∀ i : Nat, i < l1.length → qax l1' i = qax l1 i)
  {y : Nat} {x : Int} (hf : Fl l1 ws dk ths y x) : y < N → Fl l1' ws' dk' ths' y x := by
 induction hf with
 | waste hm => exact fun _ => .waste (hw _ hm)
 | later _ ih => exact fun h => .later (ih (by omega))
 | @edge y i ho _ ih =>
  intro h
  have h1 := Fl.edge (he y i h ho) (by rw [hr i ho.1]; exact ih h)
  rwa [hr i ho.1] at h1
theorem IsF.le {l1 l1' : List S44} {ws ws' : List Int} {dk dk' : Nat → Bool} {ths ths' : List Int} {N P : Nat} {o o' : List Int} (h : IsF l1 ws dk ths N P N N o) (h' : IsF l1' ws' dk' ths' N P N N o') (hm : ∀ y x, y < N → Fl l1 ws dk ths y x → Fl l1' ws' dk' ths' y x) (x : Int) (h0 : 0 ≤ x) (h1 : x < P) : rd o' x ≤ rd o x := by
 obtain ⟨r1, r2⟩ := h.rng x h0 h1
 have r2' := (h'.rng x h0 h1).2
 rcases r2 with r2 | r2
 ·
  have hy : (rd o x).toNat < N := by omega
  have := (h'.iff x h0 h1 _ hy).2 (hm _ _ hy ((h.iff x h0 h1 _ hy).1 (by omega)))
  omega
 ·
  omega
theorem foul_le {p p' : Int} {l1 l1' : List S44} {l2 l3 l3' : List Int} {l4 l4' : List S41} {l5 l5' : List S95} {l l' : List Int} (hg : givenB p l1 l2 l3 l4 l5 l = true) (hg' : givenB p l1' l2 l3' l4' l5' l' = true) (ths ths' : List Int) (hN : ths'.length = ths.length)
  (ht : ∀ y : Nat, y < ths.length → rd ths y ≤ rd ths' y) (hl : ∀ i : Nat, i < l1.length → i < l1'.length ∧ qax l1' i = qax l1 i) (hd : ∀ i : Nat, i < l1.length → l.contains (i : Int) = false → l'.contains (i : Int) = false) (x : Int) (h0 : 0 ≤ x) (h1 : x < p.toNat) :
  rd (foulV p.toNat l1' l2 (maskV l') ths') x ≤ rd (foulV p.toNat l1 l2 (maskV l) ths) x := by
 have h := foul_isF hg ths
 have h' := foul_isF hg' ths'
 rw [hN] at h'
 refine h.le h' (fun y x hy hf => hf.mono (N := ths.length) (fun _ h => h) (fun y i hy ho => ?_) (fun i hi => (hl i hi).2) hy) x h0 h1
 exact ⟨(hl i ho.1).1, hd i ho.1 ho.2.1, by rw [(hl i ho.1).2]; exact Int.le_trans ho.2.2 (ht y hy)⟩
theorem rd_map1 (l4 : List S41) (y : Nat) (hy : y < l4.length) : rd (l4.map (·.f1)) (y : Int) = (qbg l4 y).f1 := by simp [rd, qbg, hy]
theorem rd_map0 (l4 : List S41) (y : Nat) (hy : y < l4.length) : rd (l4.map (·.f0)) (y : Int) = (qbg l4 y).f0 := by simp [rd, qbg, hy]
theorem rd_spans (A B : List Int) (P : Nat) (x : Int) (h0 : 0 ≤ x) (h1 : x < P) : qbg ((List.range P).map (spanAt A B)) x = ⟨rd A x, rd B x⟩ := by
 have hl : x.toNat < P := by omega
 simp [qbg, hl, spanAt, show ((x.toNat : Nat) : Int) = x from by omega]
theorem playOk_at {l4 : List S41} {ths : List Int} (h : playOk l4 ths = true) : ths.length = l4.length ∧ ∀ y : Nat, y < l4.length → (qbg l4 y).f0 ≤ rd ths y ∧ rd ths y ≤ (qbg l4 y).f1 := by
 unfold playOk at h
 simp only [Bool.and_eq_true, decide_eq_true_eq] at h
 refine ⟨h.1, fun y hy => ?_⟩
 have h2 := h.2
 rw [List.all_eq_true] at h2
 have h3 := h2 y (List.mem_range.2 (by omega))
 unfold inB at h3
 simpa using h3
theorem playOk_hi {p : Int} {l1 : List S44} {l2 l3 : List Int} {l4 : List S41} {l5 : List S95} (hv : validB p l1 l2 l3 l4 l5 = true) : playOk l4 (l4.map (·.f1)) = true := by
 refine playOk_ok (by simp) (fun k hk => ?_)
 have hk : k < l4.length := by simpa using hk
 have := (valid_facts hv).s k hk
 rw [rd_map1 l4 k hk]
 unfold inB
 simp
 omega
theorem playOk_lo {p : Int} {l1 : List S44} {l2 l3 : List Int} {l4 : List S41} {l5 : List S95} (hv : validB p l1 l2 l3 l4 l5 = true) : playOk l4 (l4.map (·.f0)) = true := by
 refine playOk_ok (by simp) (fun k hk => ?_)
 have hk : k < l4.length := by simpa using hk
 have := (valid_facts hv).s k hk
 rw [rd_map0 l4 k hk]
 unfold inB
 simp
 omega
end Go.Proofs.Ytafkanmioinbiaa.SA
