/- Parts of a proof about the pipe seat's laws: what the functions of the program answer. No condition of its own. -/
import Derived.Test.YtipphcjgdebecaaSC
import Derived.Test.YtipphcjgdebecaaSF
import Derived.Test.YtipphcjgdebecaaPwA
import Derived.Test.YtipphcjgdebecaaPwB
import Derived.RangeFuncNested
import Derived.RangeFuncBound
import Derived.RangeFuncCalls
import Derived.RangeFuncLeaves
import Derived.RangeFuncBox
import Derived.Shelf.Abstract
import Derived.Shelf.RegionOpen
import Derived.OwnWalkIn
import Derived.TacticsInMore
import Derived.LoopNIn
import Derived.LoopIn
import Derived.Recover
import Derived.Defers
import Derived.WalkLawsBesides
import Derived.WalkSmall
import Derived.Test.YtipphcjgdebecaaSE
import Derived.Test.YtipphcjgdebecaaSH
import Derived.Test.YtipphcjgdebecaaSG
import Derived.Deep.Slices
import Derived.Lib.SmallJoins
import Derived.ChangeOld
import Derived.ProofKit
set_option linter.all false
namespace Go.Proofs.Ytipphcjgdebecaa.PA
open Go.RowKit Go.Proofs.YtipphcjgdebecaaW.PrintWords Go.Proofs.YtipphcjgdebecaaW.PrintLast Go.Proofs.YtipphcjgdebecaaW.PrintMore
attribute [local go_sem] qbd qbf max_two min_two qay qaz qbe qbg
structure WMI (w : World) (gb g6 g7 : Nat) (nb : Array Value) (L : S39) (W : World) : Prop where
 b : W.heap[gb]? = some (.cells nb 26 (0, 0))
 r : W.heap[g6]? = some (.cells #[.int .i64 0, .int .i64 0] 37 (0, 0))
 l : W.heap[g7]? = some (.cells #[.int .i64 L.f0.f0, .int .i64 L.f0.f1, .int .i64 L.f1.f0, .int .i64 L.f1.f1, .int .i64 L.f2.f0, .int .i64 L.f2.f1, .int .i64 L.f3, .int .i64 L.f4, .int .i64 L.f5, .int .i64 L.f6, .int .i64 L.f7.f0, .int .i64 L.f7.f1] 39 (0, 0))
 hb : Below w.heap.size w W
 ge : w.heap.size ≤ g6
theorem WMI.below {w W W' : World} {gb g6 g7 : Nat} {nb : Array Value} {L : S39} (h : WMI w gb g6 g7 nb L W) (hb : Below W.heap.size W W') : WMI w gb g6 g7 nb L W' := ⟨qaj h.b hb, qaj h.r hb, qaj h.l hb, qag h.hb hb, h.ge⟩
theorem play_tup (L : S39) (w : Int) (t : List S44) : talikref04_Play.f L.f0.f0 L.f0.f1 L.f1.f0 L.f1.f1 L.f2.f0 L.f2.f1 L.f3 L.f4 L.f5 L.f6 L.f7.f0 L.f7.f1 w t = some ((playR L w t).1, (playR L w t).2.1, (playR L w t).2.2.1, (playR L w t).2.2.2) := rfl
def talikref04_Warm.f (l0_0 : List (S39)) (l0_1 : List (S37)) (l0_2 : List (List Int)) (a1 : Int) (a2 : Int) : Option (Int × Int) := (talikref04_End.f l0_0 l0_1 l0_2 a1 a2 true).bind fun t => (talikref04_End.f l0_0 l0_1 l0_2 a1 a2 false).bind fun u => if 0 ≤ a1 ∧ a1 < l0_0.length then some ((playR (qaw l0_0 a1) (qaw l0_0 a1).f0.f0 t).1, (playR (qaw l0_0 a1) (qaw l0_0 a1).f0.f1 u).1) else none
set_option maxHeartbeats 4000000 in
set_option maxRecDepth 100000 in
theorem talikref04_Warm.calls (A0_0 : Option Addr) (c0_0 : Nat) (l0_0 : List (S39)) (A0_1 : Option Addr) (c0_1 : Nat) (l0_1 : List (S37)) (A0_2 : Option Addr) (c0_2 : Nat) (l0_2 : List (List Int)) (a1 : Int) (a2 : Int) (r1 : Int) (r2 : Int) (w : World) (hr0_0 : Kd.C k39 w A0_0 l0_0.length l0_0) (hc0_0 : l0_0.length ≤ c0_0) (hr0_1 : Kd.C k37 w A0_1 l0_1.length l0_1) (hc0_1 : l0_1.length ≤ c0_1) (hr0_2 : Kd.C (Kd.slice 3 (Kd.int .i64)) w A0_2 l0_2.length l0_2) (hc0_2 : l0_2.length ≤ c0_2) (h : talikref04_Warm.f l0_0 l0_1 l0_2 a1 a2 = some (r1, r2)) :
  Calls Try.prog 80 #[.agg #[.slice A0_0 l0_0.length c0_0, .slice A0_1 l0_1.length c0_1, .slice A0_2 l0_2.length c0_2], .int .i64 a1, .int .i64 a2] w fun e w' => e = .returned (.agg #[.int .i64 r1, .int .i64 r2]) ∧ Below w.heap.size w w' := by
 unfold talikref04_Warm.f at h
 obtain ⟨xt, het, h⟩ := Option.bind_eq_some_iff.1 h
 obtain ⟨xu, heu, h⟩ := Option.bind_eq_some_iff.1 h
 split at h
 case isFalse => cases h
 rename_i hc
 obtain ⟨q0, q1⟩ := hc
 have h' := Option.some.inj h
 clear h
 injection h' with h1 h2
 have H1 := qab.mk h1
 have H2 := qab.mk h2
 clear h1 h2
 obtain ⟨n, rfl⟩ := Int.eq_ofNat_of_zero_le q0
 have hu26 := Try.underlying26
 have hu31 := Try.underlying31
 have hu39 := Try.underlying39
 have hu37 := Try.underlying37
 have HB := qab.mk (Below.refl w.heap.size w)
 have HR0 := qab.mk hr0_0
 have HR1 := qab.mk hr0_1
 have HR2 := qab.mk hr0_2
 clear hr0_0 hr0_1 hr0_2
 obtain ⟨ad, e, hl0, hl1, hl2, hl3, hl4, hl5, hl6, hl7, hl8, hl9, hl10, hl11⟩ := at_T39 HR0.out n q0 q1
 cases e
 simp only [Int.toNat_natCast] at hl0 hl1 hl2 hl3 hl4 hl5 hl6 hl7 hl8 hl9 hl10 hl11
 have HEND : qab (∀ (b : Bool) (x : List S44), talikref04_End.f l0_0 l0_1 l0_2 n a2 b = some x → ∀ W, Below w.heap.size w W → _) := ⟨fun b x hx W hW => talikref04_End.calls _ _ l0_0 _ _ l0_1 _ _ l0_2 n a2 b x W (Kd.qai HR0.out hW) hc0_0 (Kd.qai HR1.out hW) hc0_1 (Kd.qai HR2.out hW) hc0_2 hx⟩
 obtain ⟨L, hL⟩ : ∃ L, L = qaw l0_0 (n : Int) := ⟨_, rfl⟩
 rw [← hL] at hl0 hl1 hl2 hl3 hl4 hl5 hl6 hl7 hl8 hl9 hl10 hl11 H1 H2
 clear hL
 have hfld31 := field31_0
 go_enter Try.func80, Try.ntmps80
 go_upto_region 2 with (first | ((with_reducible refine qav (N := 3) rfl ?_); refine qau ?hg (N := 3) ?hd (cs := #[.slice (some ad) l0_0.length c0_0, .slice A0_1 l0_1.length c0_1, .slice A0_2 l0_2.length c0_2]) (t := 26) ?hr ?_; (case hd => rfl); (case hg => rfl); (case hr => first | (go_simp; done) | (go_simp; rfl)); intro gb hg_gb w2 hbox hb; have BKgb := qab.mk hbox; have n_HB := qab.mk (qag HB.out hb); have GEgb : w.heap.size ≤ gb := (by rw [hg_gb]; exact HB.out.size); clear HB; have HB := n_HB; clear n_HB; have hfgb := qad BKgb.out; have hcgb_0 : w2.cell? ⟨gb, 0, none⟩ = some (.slice (some ad) l0_0.length c0_0) := (qaa BKgb.out 0).trans rfl; have hcgb_1 : w2.cell? ⟨gb, 1, none⟩ = some (.slice A0_1 l0_1.length c0_1) := (qaa BKgb.out 1).trans rfl; have hcgb_2 : w2.cell? ⟨gb, 2, none⟩ = some (.slice A0_2 l0_2.length c0_2) := (qaa BKgb.out 2).trans rfl; clear hbox hb hg_gb) | ((with_reducible refine qav (N := 6) rfl ?_); refine qau ?hg (N := 6) ?hd (cs := #[.int .i64 0, .int .i64 0]) (t := 37) ?hr ?_; (case hd => rfl); (case hg => rfl); (case hr => first | (go_simp; done) | (go_simp; rfl)); intro g6 hg_g6 w3 hbox hb; have BKg6 := qab.mk hbox; have n_BKgb := qab.mk (qaj BKgb.out hb); clear BKgb; have BKgb := n_BKgb; clear n_BKgb; have n_HB := qab.mk (qag HB.out hb); have GEg6 : w.heap.size ≤ g6 := (by rw [hg_g6]; exact HB.out.size); clear HB; have HB := n_HB; clear n_HB; have hfg6 := qad BKg6.out; have hcg6_0 : w3.cell? ⟨g6, 0, none⟩ = some (.int .i64 0) := (qaa BKg6.out 0).trans rfl; have hcg6_1 : w3.cell? ⟨g6, 1, none⟩ = some (.int .i64 0) := (qaa BKg6.out 1).trans rfl; clear hbox hb hg_g6; have hfgb := qad BKgb.out; have hcgb_0 : w3.cell? ⟨gb, 0, none⟩ = some (.slice (some ad) l0_0.length c0_0) := (qaa BKgb.out 0).trans rfl; have hcgb_1 : w3.cell? ⟨gb, 1, none⟩ = some (.slice A0_1 l0_1.length c0_1) := (qaa BKgb.out 1).trans rfl; have hcgb_2 : w3.cell? ⟨gb, 2, none⟩ = some (.slice A0_2 l0_2.length c0_2) := (qaa BKgb.out 2).trans rfl; replace hl0 := (HB.out.cell (World.block_lt_of_cell? w _ hl0)).trans hl0; replace hl1 := (HB.out.cell (World.block_lt_of_cell? w _ hl1)).trans hl1; replace hl2 := (HB.out.cell (World.block_lt_of_cell? w _ hl2)).trans hl2; replace hl3 := (HB.out.cell (World.block_lt_of_cell? w _ hl3)).trans hl3; replace hl4 := (HB.out.cell (World.block_lt_of_cell? w _ hl4)).trans hl4; replace hl5 := (HB.out.cell (World.block_lt_of_cell? w _ hl5)).trans hl5; replace hl6 := (HB.out.cell (World.block_lt_of_cell? w _ hl6)).trans hl6; replace hl7 := (HB.out.cell (World.block_lt_of_cell? w _ hl7)).trans hl7; replace hl8 := (HB.out.cell (World.block_lt_of_cell? w _ hl8)).trans hl8; replace hl9 := (HB.out.cell (World.block_lt_of_cell? w _ hl9)).trans hl9; replace hl10 := (HB.out.cell (World.block_lt_of_cell? w _ hl10)).trans hl10; replace hl11 := (HB.out.cell (World.block_lt_of_cell? w _ hl11)).trans hl11) | ((with_reducible refine qav (N := 7) rfl ?_); refine qau ?hg (N := 7) ?hd (cs := #[.int .i64 0, .int .i64 0, .int .i64 0, .int .i64 0, .int .i64 0, .int .i64 0, .int .i64 0, .int .i64 0, .int .i64 0, .int .i64 0, .int .i64 0, .int .i64 0]) (t := 39) ?hr ?_; (case hd => rfl); (case hg => rfl); (case hr => first | (go_simp; done) | (go_simp; rfl)); intro g7 hg_g7 w4 hbox hb; have BKg7 := qab.mk hbox; have ne_gb_g7 : gb ≠ g7 := (by rw [hg_g7]; exact Nat.ne_of_lt (blk_lt BKgb.out)); have ne_g6_g7 : g6 ≠ g7 := (by rw [hg_g7]; exact Nat.ne_of_lt (blk_lt BKg6.out)); have n_BKgb := qab.mk (qaj BKgb.out hb); clear BKgb; have BKgb := n_BKgb; clear n_BKgb; have n_BKg6 := qab.mk (qaj BKg6.out hb); clear BKg6; have BKg6 := n_BKg6; clear n_BKg6; have n_HB := qab.mk (qag HB.out hb); have GEg7 : w.heap.size ≤ g7 := (by rw [hg_g7]; exact HB.out.size); clear HB; have HB := n_HB; clear n_HB; have hfg7 := qad BKg7.out; have hcg7_0 : w4.cell? ⟨g7, 0, none⟩ = some (.int .i64 0) := (qaa BKg7.out 0).trans rfl; have hcg7_1 : w4.cell? ⟨g7, 1, none⟩ = some (.int .i64 0) := (qaa BKg7.out 1).trans rfl; have hcg7_2 : w4.cell? ⟨g7, 2, none⟩ = some (.int .i64 0) := (qaa BKg7.out 2).trans rfl; have hcg7_3 : w4.cell? ⟨g7, 3, none⟩ = some (.int .i64 0) := (qaa BKg7.out 3).trans rfl; have hcg7_4 : w4.cell? ⟨g7, 4, none⟩ = some (.int .i64 0) := (qaa BKg7.out 4).trans rfl; have hcg7_5 : w4.cell? ⟨g7, 5, none⟩ = some (.int .i64 0) := (qaa BKg7.out 5).trans rfl; have hcg7_6 : w4.cell? ⟨g7, 6, none⟩ = some (.int .i64 0) := (qaa BKg7.out 6).trans rfl; have hcg7_7 : w4.cell? ⟨g7, 7, none⟩ = some (.int .i64 0) := (qaa BKg7.out 7).trans rfl; have hcg7_8 : w4.cell? ⟨g7, 8, none⟩ = some (.int .i64 0) := (qaa BKg7.out 8).trans rfl; have hcg7_9 : w4.cell? ⟨g7, 9, none⟩ = some (.int .i64 0) := (qaa BKg7.out 9).trans rfl; have hcg7_10 : w4.cell? ⟨g7, 10, none⟩ = some (.int .i64 0) := (qaa BKg7.out 10).trans rfl; have hcg7_11 : w4.cell? ⟨g7, 11, none⟩ = some (.int .i64 0) := (qaa BKg7.out 11).trans rfl; clear hbox hb hg_g7))
 clear hl0 hl1 hl2 hl3 hl4 hl5 hl6 hl7 hl8 hl9 hl10 hl11 hfgb hcgb_0 hcgb_1 hcgb_2 hfg6 hcg6_0 hcg6_1
 have he_ : setAll w4 g7 [.int .i64 L.f0.f0, .int .i64 L.f0.f1, .int .i64 L.f1.f0, .int .i64 L.f1.f1, .int .i64 L.f2.f0, .int .i64 L.f2.f1, .int .i64 L.f3, .int .i64 L.f4, .int .i64 L.f5, .int .i64 L.f6, .int .i64 L.f7.f0, .int .i64 L.f7.f1] 0 = ((((((((((((w4.setCell ⟨g7, 0, none⟩ (.int .i64 L.f0.f0)).setCell ⟨g7, 1, none⟩ (.int .i64 L.f0.f1)).setCell ⟨g7, 2, none⟩ (.int .i64 L.f1.f0)).setCell ⟨g7, 3, none⟩ (.int .i64 L.f1.f1)).setCell ⟨g7, 4, none⟩ (.int .i64 L.f2.f0)).setCell ⟨g7, 5, none⟩ (.int .i64 L.f2.f1)).setCell ⟨g7, 6, none⟩ (.int .i64 L.f3)).setCell ⟨g7, 7, none⟩ (.int .i64 L.f4)).setCell ⟨g7, 8, none⟩ (.int .i64 L.f5)).setCell ⟨g7, 9, none⟩ (.int .i64 L.f6)).setCell ⟨g7, 10, none⟩ (.int .i64 L.f7.f0)).setCell ⟨g7, 11, none⟩ (.int .i64 L.f7.f1)) := rfl; have hbl := setAll_below GEg7 [.int .i64 L.f0.f0, .int .i64 L.f0.f1, .int .i64 L.f1.f0, .int .i64 L.f1.f1, .int .i64 L.f2.f0, .int .i64 L.f2.f1, .int .i64 L.f3, .int .i64 L.f4, .int .i64 L.f5, .int .i64 L.f6, .int .i64 L.f7.f0, .int .i64 L.f7.f1] 0 _ HB.out; have hbx : (setAll w4 g7 [.int .i64 L.f0.f0, .int .i64 L.f0.f1, .int .i64 L.f1.f0, .int .i64 L.f1.f1, .int .i64 L.f2.f0, .int .i64 L.f2.f1, .int .i64 L.f3, .int .i64 L.f4, .int .i64 L.f5, .int .i64 L.f6, .int .i64 L.f7.f0, .int .i64 L.f7.f1] 0).heap[g7]? = some (.cells #[.int .i64 L.f0.f0, .int .i64 L.f0.f1, .int .i64 L.f1.f0, .int .i64 L.f1.f1, .int .i64 L.f2.f0, .int .i64 L.f2.f1, .int .i64 L.f3, .int .i64 L.f4, .int .i64 L.f5, .int .i64 L.f6, .int .i64 L.f7.f0, .int .i64 L.f7.f1] 39 (0, 0)) := setAll_new [.int .i64 L.f0.f0, .int .i64 L.f0.f1, .int .i64 L.f1.f0, .int .i64 L.f1.f1, .int .i64 L.f2.f0, .int .i64 L.f2.f1, .int .i64 L.f3, .int .i64 L.f4, .int .i64 L.f5, .int .i64 L.f6, .int .i64 L.f7.f0, .int .i64 L.f7.f1] [.int .i64 0, .int .i64 0, .int .i64 0, .int .i64 0, .int .i64 0, .int .i64 0, .int .i64 0, .int .i64 0, .int .i64 0, .int .i64 0, .int .i64 0, .int .i64 0] BKg7.out rfl; have hx_BKgb := setAll_far ne_gb_g7 [.int .i64 L.f0.f0, .int .i64 L.f0.f1, .int .i64 L.f1.f0, .int .i64 L.f1.f1, .int .i64 L.f2.f0, .int .i64 L.f2.f1, .int .i64 L.f3, .int .i64 L.f4, .int .i64 L.f5, .int .i64 L.f6, .int .i64 L.f7.f0, .int .i64 L.f7.f1] 0 _ BKgb.out; have hx_BKg6 := setAll_far ne_g6_g7 [.int .i64 L.f0.f0, .int .i64 L.f0.f1, .int .i64 L.f1.f0, .int .i64 L.f1.f1, .int .i64 L.f2.f0, .int .i64 L.f2.f1, .int .i64 L.f3, .int .i64 L.f4, .int .i64 L.f5, .int .i64 L.f6, .int .i64 L.f7.f0, .int .i64 L.f7.f1] 0 _ BKg6.out; rw [he_] at hbl hbx hx_BKgb hx_BKg6; clear he_; generalize ((((((((((((w4.setCell ⟨g7, 0, none⟩ (.int .i64 L.f0.f0)).setCell ⟨g7, 1, none⟩ (.int .i64 L.f0.f1)).setCell ⟨g7, 2, none⟩ (.int .i64 L.f1.f0)).setCell ⟨g7, 3, none⟩ (.int .i64 L.f1.f1)).setCell ⟨g7, 4, none⟩ (.int .i64 L.f2.f0)).setCell ⟨g7, 5, none⟩ (.int .i64 L.f2.f1)).setCell ⟨g7, 6, none⟩ (.int .i64 L.f3)).setCell ⟨g7, 7, none⟩ (.int .i64 L.f4)).setCell ⟨g7, 8, none⟩ (.int .i64 L.f5)).setCell ⟨g7, 9, none⟩ (.int .i64 L.f6)).setCell ⟨g7, 10, none⟩ (.int .i64 L.f7.f0)).setCell ⟨g7, 11, none⟩ (.int .i64 L.f7.f1)) = w5 at hbl hbx hx_BKgb hx_BKg6 ⊢; clear HB BKg7; have HB := qab.mk hbl; have BKg7 := qab.mk hbx; clear hbl hbx; clear BKgb; have BKgb := qab.mk hx_BKgb; clear hx_BKgb; clear BKg6; have BKg6 := qab.mk hx_BKg6; clear hx_BKg6
 clear hfg7 hcg7_0 hcg7_1 hcg7_2 hcg7_3 hcg7_4 hcg7_5 hcg7_6 hcg7_7 hcg7_8 hcg7_9 hcg7_10 hcg7_11
 have HI : qab (WMI w gb g6 g7 #[.slice (some ad) l0_0.length c0_0, .slice A0_1 l0_1.length c0_1, .slice A0_2 l0_2.length c0_2] L w5) := ⟨⟨BKgb.out, BKg6.out, BKg7.out, HB.out, GEg6⟩⟩
 clear BKgb BKg6 BKg7 HB
 have HT : qab (∀ W, WMI w gb g6 g7 #[.slice (some ad) l0_0.length c0_0, .slice A0_1 l0_1.length c0_1, .slice A0_2 l0_2.length c0_2] L W → (W.cell? ⟨gb, 0, none⟩ = some (.slice (some ad) l0_0.length c0_0) ∧ W.cell? ⟨gb, 1, none⟩ = some (.slice A0_1 l0_1.length c0_1) ∧ W.cell? ⟨gb, 2, none⟩ = some (.slice A0_2 l0_2.length c0_2) ∧ W.cell? ⟨g7, 0, none⟩ = some (.int .i64 L.f0.f0) ∧ W.cell? ⟨g7, 1, none⟩ = some (.int .i64 L.f0.f1) ∧ W.cell? ⟨g7, 2, none⟩ = some (.int .i64 L.f1.f0) ∧ W.cell? ⟨g7, 3, none⟩ = some (.int .i64 L.f1.f1) ∧ W.cell? ⟨g7, 4, none⟩ = some (.int .i64 L.f2.f0) ∧ W.cell? ⟨g7, 5, none⟩ = some (.int .i64 L.f2.f1) ∧ W.cell? ⟨g7, 6, none⟩ = some (.int .i64 L.f3) ∧ W.cell? ⟨g7, 7, none⟩ = some (.int .i64 L.f4) ∧ W.cell? ⟨g7, 8, none⟩ = some (.int .i64 L.f5) ∧ W.cell? ⟨g7, 9, none⟩ = some (.int .i64 L.f6) ∧ W.cell? ⟨g7, 10, none⟩ = some (.int .i64 L.f7.f0) ∧ W.cell? ⟨g7, 11, none⟩ = some (.int .i64 L.f7.f1) ∧ qab (WMI w gb g6 g7 #[.slice (some ad) l0_0.length c0_0, .slice A0_1 l0_1.length c0_1, .slice A0_2 l0_2.length c0_2] L W))) := ⟨fun W h => ⟨qaa h.b 0, qaa h.b 1, qaa h.b 2, qaa h.l 0, qaa h.l 1, qaa h.l 2, qaa h.l 3, qaa h.l 4, qaa h.l 5, qaa h.l 6, qaa h.l 7, qaa h.l 8, qaa h.l 9, qaa h.l 10, qaa h.l 11, ⟨h⟩⟩⟩
 obtain ⟨wS, hwS⟩ : ∃ x, x = w5 := ⟨_, rfl⟩
 rw [← hwS] at HI ⊢
 clear hwS
 refine start_ (n := 22) (S := (fun w' => (w'.cell? ⟨gb, 0, none⟩ = some (.slice (some ad) l0_0.length c0_0) ∧ w'.cell? ⟨gb, 1, none⟩ = some (.slice A0_1 l0_1.length c0_1) ∧ w'.cell? ⟨gb, 2, none⟩ = some (.slice A0_2 l0_2.length c0_2) ∧ w'.cell? ⟨g7, 0, none⟩ = some (.int .i64 L.f0.f0) ∧ w'.cell? ⟨g7, 1, none⟩ = some (.int .i64 L.f0.f1) ∧ w'.cell? ⟨g7, 2, none⟩ = some (.int .i64 L.f1.f0) ∧ w'.cell? ⟨g7, 3, none⟩ = some (.int .i64 L.f1.f1) ∧ w'.cell? ⟨g7, 4, none⟩ = some (.int .i64 L.f2.f0) ∧ w'.cell? ⟨g7, 5, none⟩ = some (.int .i64 L.f2.f1) ∧ w'.cell? ⟨g7, 6, none⟩ = some (.int .i64 L.f3) ∧ w'.cell? ⟨g7, 7, none⟩ = some (.int .i64 L.f4) ∧ w'.cell? ⟨g7, 8, none⟩ = some (.int .i64 L.f5) ∧ w'.cell? ⟨g7, 9, none⟩ = some (.int .i64 L.f6) ∧ w'.cell? ⟨g7, 10, none⟩ = some (.int .i64 L.f7.f0) ∧ w'.cell? ⟨g7, 11, none⟩ = some (.int .i64 L.f7.f1) ∧ qab (WMI w gb g6 g7 #[.slice (some ad) l0_0.length c0_0, .slice A0_1 l0_1.length c0_1, .slice A0_2 l0_2.length c0_2] L w')))) (ds := [21]) (msk 22 0) (by kernel_rfl) rfl rfl (HT.out _ (WMI.below HI.out (below_drew (Below.refl _ _)))) (fun hHeld => ?_)
 have n_HI := qab.mk (WMI.below HI.out (below_drew (Below.refl wS.heap.size wS))); clear HI; have HI := n_HI; clear n_HI; generalize wS.drew = wT at HI hHeld ⊢
 refine take_ (i := 0) (N := some 13) (v := ?_) (a' := ?_) (msk 22 1) rfl rfl (by kernel_rfl) (fun _ _ _ h => h) (Or.inl ⟨by rfl, ?_⟩) hHeld ?_ ?_; rotate_left; (focus (rintro w' ⟨s0, s1, s2, s3, s4, s5, s6, s7, s8, s9, s10, s11, s12, s13, s14, s15⟩; go_simp; with_reducible rfl)); rotate_left; (focus (simp only [Act.put, List.setIfInBounds_toArray, List.set_cons_zero, List.set_cons_succ, i64_w, i32_w]; rfl))
 refine pure_ (i := 1) (N := some 14) (v := ?_) (a' := ?_) (msk 22 2) rfl rfl (by kernel_rfl) (fun _ _ _ h => h) (Or.inl ⟨by rfl, ?_⟩) ?_ ?_; rotate_left; (focus (intro w'; go_simp; with_reducible rfl)); rotate_left; (focus (simp only [Act.put, List.setIfInBounds_toArray, List.set_cons_zero, List.set_cons_succ, i64_w, i32_w]; rfl))
 refine pure_ (i := 2) (N := some 15) (v := ?_) (a' := ?_) (msk 22 3) rfl rfl (by kernel_rfl) (fun _ _ _ h => h) (Or.inl ⟨by rfl, ?_⟩) ?_ ?_; rotate_left; (focus (intro w'; go_simp; with_reducible rfl)); rotate_left; (focus (simp only [Act.put, List.setIfInBounds_toArray, List.set_cons_zero, List.set_cons_succ, i64_w, i32_w]; rfl))
 refine take_ (i := 3) (N := some 16) (v := ?_) (a' := ?_) (msk 22 4) rfl rfl (by kernel_rfl) (fun _ _ _ h => h) (Or.inl ⟨by rfl, ?_⟩) hHeld ?_ ?_; rotate_left; (focus (rintro w' ⟨s0, s1, s2, s3, s4, s5, s6, s7, s8, s9, s10, s11, s12, s13, s14, s15⟩; go_simp; with_reducible rfl)); rotate_left; (focus (simp only [Act.put, List.setIfInBounds_toArray, List.set_cons_zero, List.set_cons_succ, i64_w, i32_w]; rfl))
 refine take_ (i := 4) (N := some 17) (v := ?_) (a' := ?_) (msk 22 5) rfl rfl (by kernel_rfl) (fun _ _ _ h => h) (Or.inl ⟨by rfl, ?_⟩) hHeld ?_ ?_; rotate_left; (focus (rintro w' ⟨s0, s1, s2, s3, s4, s5, s6, s7, s8, s9, s10, s11, s12, s13, s14, s15⟩; go_simp; with_reducible rfl)); rotate_left; (focus (simp only [Act.put, List.setIfInBounds_toArray, List.set_cons_zero, List.set_cons_succ, i64_w, i32_w]; rfl))
 refine pure_ (i := 5) (N := some 18) (v := ?_) (a' := ?_) (msk 22 6) rfl rfl (by kernel_rfl) (fun _ _ _ h => h) (Or.inl ⟨by rfl, ?_⟩) ?_ ?_; rotate_left; (focus (intro w'; go_simp; with_reducible rfl)); rotate_left; (focus (simp only [Act.put, List.setIfInBounds_toArray, List.set_cons_zero, List.set_cons_succ, i64_w, i32_w]; rfl))
 refine pure_ (i := 6) (N := some 19) (v := ?_) (a' := ?_) (msk 22 7) rfl rfl (by kernel_rfl) (fun _ _ _ h => h) (Or.inl ⟨by rfl, ?_⟩) ?_ ?_; rotate_left; (focus (intro w'; go_simp; with_reducible rfl)); rotate_left; (focus (simp only [Act.put, List.setIfInBounds_toArray, List.set_cons_zero, List.set_cons_succ, i64_w, i32_w]; rfl))
 refine take_ (i := 10) (N := some 23) (v := ?_) (a' := ?_) #[true, true, true, true, true, true, true, false, false, false, true, false, false, false, false, false, false, false, false, false, false, false] rfl rfl (by kernel_rfl) (fun _ _ _ h => h) (Or.inl ⟨by rfl, ?_⟩) hHeld ?_ ?_; rotate_left; (focus (rintro w' ⟨s0, s1, s2, s3, s4, s5, s6, s7, s8, s9, s10, s11, s12, s13, s14, s15⟩; go_simp; with_reducible rfl)); rotate_left; (focus (simp only [Act.put, List.setIfInBounds_toArray, List.set_cons_zero, List.set_cons_succ, i64_w, i32_w]; rfl))
 refine pure_ (i := 11) (N := some 24) (v := ?_) (a' := ?_) #[true, true, true, true, true, true, true, false, false, false, true, true, false, false, false, false, false, false, false, false, false, false] rfl rfl (by kernel_rfl) (fun _ _ _ h => h) (Or.inl ⟨by rfl, ?_⟩) ?_ ?_; rotate_left; (focus (intro w'; go_simp; with_reducible rfl)); rotate_left; (focus (simp only [Act.put, List.setIfInBounds_toArray, List.set_cons_zero, List.set_cons_succ, i64_w, i32_w]; rfl))
 refine pure_ (i := 12) (N := some 25) (v := ?_) (a' := ?_) #[true, true, true, true, true, true, true, false, false, false, true, true, true, false, false, false, false, false, false, false, false, false] rfl rfl (by kernel_rfl) (fun _ _ _ h => h) (Or.inl ⟨by rfl, ?_⟩) ?_ ?_; rotate_left; (focus (intro w'; go_simp; with_reducible rfl)); rotate_left; (focus (simp only [Act.put, List.setIfInBounds_toArray, List.set_cons_zero, List.set_cons_succ, i64_w, i32_w]; rfl))
 refine take_ (i := 13) (N := some 26) (v := ?_) (a' := ?_) #[true, true, true, true, true, true, true, false, false, false, true, true, true, true, false, false, false, false, false, false, false, false] rfl rfl (by kernel_rfl) (fun _ _ _ h => h) (Or.inl ⟨by rfl, ?_⟩) hHeld ?_ ?_; rotate_left; (focus (rintro w' ⟨s0, s1, s2, s3, s4, s5, s6, s7, s8, s9, s10, s11, s12, s13, s14, s15⟩; go_simp; with_reducible rfl)); rotate_left; (focus (simp only [Act.put, List.setIfInBounds_toArray, List.set_cons_zero, List.set_cons_succ, i64_w, i32_w]; rfl))
 refine take_ (i := 14) (N := some 27) (v := ?_) (a' := ?_) #[true, true, true, true, true, true, true, false, false, false, true, true, true, true, true, false, false, false, false, false, false, false] rfl rfl (by kernel_rfl) (fun _ _ _ h => h) (Or.inl ⟨by rfl, ?_⟩) hHeld ?_ ?_; rotate_left; (focus (rintro w' ⟨s0, s1, s2, s3, s4, s5, s6, s7, s8, s9, s10, s11, s12, s13, s14, s15⟩; go_simp; with_reducible rfl)); rotate_left; (focus (simp only [Act.put, List.setIfInBounds_toArray, List.set_cons_zero, List.set_cons_succ, i64_w, i32_w]; rfl))
 refine pure_ (i := 15) (N := some 28) (v := ?_) (a' := ?_) #[true, true, true, true, true, true, true, false, false, false, true, true, true, true, true, true, false, false, false, false, false, false] rfl rfl (by kernel_rfl) (fun _ _ _ h => h) (Or.inl ⟨by rfl, ?_⟩) ?_ ?_; rotate_left; (focus (intro w'; go_simp; with_reducible rfl)); rotate_left; (focus (simp only [Act.put, List.setIfInBounds_toArray, List.set_cons_zero, List.set_cons_succ, i64_w, i32_w]; rfl))
 refine pure_ (i := 16) (N := some 29) (v := ?_) (a' := ?_) #[true, true, true, true, true, true, true, false, false, false, true, true, true, true, true, true, true, false, false, false, false, false] rfl rfl (by kernel_rfl) (fun _ _ _ h => h) (Or.inl ⟨by rfl, ?_⟩) ?_ ?_; rotate_left; (focus (intro w'; go_simp; with_reducible rfl)); rotate_left; (focus (simp only [Act.put, List.setIfInBounds_toArray, List.set_cons_zero, List.set_cons_succ, i64_w, i32_w]; rfl))
 refine one_ (i := 7) (N := some 20) #[true, true, true, true, true, true, true, true, false, false, true, true, true, true, true, true, true, false, false, false, false, false] rfl rfl (by kernel_rfl) (by decide) (fun K hK => ?_)
 refine goes_ Try.func48 (by kernel_rfl) rfl #[.agg #[.slice (some ad) l0_0.length c0_0, .slice A0_1 l0_1.length c0_1, .slice A0_2 l0_2.length c0_2], .int .i64 n, .int .i64 a2, .bool true] (by rfl) rfl rfl (by (try simp only [List.map_toArray, List.map_cons, List.map_nil]); first | done | rfl | (simp only [List.length_drop, List.length_take]; rfl)) ?_
 refine (HEND.out _ _ het _ (WMI.hb hHeld.2.2.2.2.2.2.2.2.2.2.2.2.2.2.2.out)).mono ?_; rintro e w5 ⟨vt, rfl, ho, hb⟩; have HP_t := qab.mk (HT.out w5 (WMI.below hHeld.2.2.2.2.2.2.2.2.2.2.2.2.2.2.2.out hb)); obtain ⟨At, ct, rfl⟩ := Kd.R_slice ho; have HR_t := qab.mk ho; clear ho hb; refine ⟨_, rfl, ?_⟩; refine hK.out _ _ HP_t.out (fun hHeld => ?_); clear hK K; refine norm_ (a' := ?_) ?_ ?_; rotate_left; (focus (show Act.put _ (some 20) _ = _; simp only [Act.put, List.setIfInBounds_toArray, List.set_cons_zero, List.set_cons_succ, i64_w, i32_w]; rfl))
 refine one_ (i := 8) (N := some 21) #[true, true, true, true, true, true, true, true, true, false, true, true, true, true, true, true, true, false, false, false, false, false] rfl rfl (by kernel_rfl) (by decide) (fun K hK => ?_)
 refine goes_ Try.func22 (by kernel_rfl) rfl #[.agg #[.int .i64 L.f0.f0, .int .i64 L.f0.f1, .int .i64 L.f1.f0, .int .i64 L.f1.f1, .int .i64 L.f2.f0, .int .i64 L.f2.f1, .int .i64 L.f3, .int .i64 L.f4, .int .i64 L.f5, .int .i64 L.f6, .int .i64 L.f7.f0, .int .i64 L.f7.f1], .int .i64 L.f0.f0, .slice At xt.length ct] (by rfl) rfl rfl (by (try simp only [List.map_toArray, List.map_cons, List.map_nil]); first | done | rfl | (simp only [List.length_drop, List.length_take]; rfl)) ?_
 refine (talikref04_Play.calls _ _ _ _ _ _ _ _ _ _ _ _ L.f0.f0 At ct xt _ _ _ _ _ (Kd.R_reads' HR_t.out).2.2 (Kd.R_reads' HR_t.out).2.1 (play_tup L L.f0.f0 xt)).mono ?_; rintro e w6 ⟨rfl, hb⟩; have HQ_t := qab.mk (HT.out w6 (WMI.below hHeld.2.2.2.2.2.2.2.2.2.2.2.2.2.2.2.out hb)); clear hb; refine ⟨_, rfl, ?_⟩; refine hK.out _ _ HQ_t.out (fun hHeld => ?_); clear hK K; refine norm_ (a' := ?_) ?_ ?_; rotate_left; (focus (show Act.put _ (some 21) _ = _; simp only [Act.put, List.setIfInBounds_toArray, List.set_cons_zero, List.set_cons_succ, i64_w, i32_w]; rfl))
 refine pure_ (i := 9) (N := some 22) (v := ?_) (a' := ?_) (msk 22 17) rfl rfl (by kernel_rfl) (fun _ _ _ h => h) (Or.inl ⟨by rfl, ?_⟩) ?_ ?_; rotate_left; (focus (intro w'; go_simp; with_reducible rfl)); rotate_left; (focus (simp only [Act.put, List.setIfInBounds_toArray, List.set_cons_zero, List.set_cons_succ, i64_w, i32_w]; rfl))
 refine one_ (i := 17) (N := some 30) (msk 22 18) rfl rfl (by kernel_rfl) (by decide) (fun K hK => ?_)
 refine goes_ Try.func48 (by kernel_rfl) rfl #[.agg #[.slice (some ad) l0_0.length c0_0, .slice A0_1 l0_1.length c0_1, .slice A0_2 l0_2.length c0_2], .int .i64 n, .int .i64 a2, .bool false] (by rfl) rfl rfl (by (try simp only [List.map_toArray, List.map_cons, List.map_nil]); first | done | rfl | (simp only [List.length_drop, List.length_take]; rfl)) ?_
 refine (HEND.out _ _ heu _ (WMI.hb hHeld.2.2.2.2.2.2.2.2.2.2.2.2.2.2.2.out)).mono ?_; rintro e w7 ⟨vu, rfl, ho, hb⟩; have HP_u := qab.mk (HT.out w7 (WMI.below hHeld.2.2.2.2.2.2.2.2.2.2.2.2.2.2.2.out hb)); obtain ⟨Au, cu, rfl⟩ := Kd.R_slice ho; have HR_u := qab.mk ho; clear ho hb; refine ⟨_, rfl, ?_⟩; refine hK.out _ _ HP_u.out (fun hHeld => ?_); clear hK K; refine norm_ (a' := ?_) ?_ ?_; rotate_left; (focus (show Act.put _ (some 30) _ = _; simp only [Act.put, List.setIfInBounds_toArray, List.set_cons_zero, List.set_cons_succ, i64_w, i32_w]; rfl))
 refine one_ (i := 18) (N := some 31) (msk 22 19) rfl rfl (by kernel_rfl) (by decide) (fun K hK => ?_)
 refine goes_ Try.func22 (by kernel_rfl) rfl #[.agg #[.int .i64 L.f0.f0, .int .i64 L.f0.f1, .int .i64 L.f1.f0, .int .i64 L.f1.f1, .int .i64 L.f2.f0, .int .i64 L.f2.f1, .int .i64 L.f3, .int .i64 L.f4, .int .i64 L.f5, .int .i64 L.f6, .int .i64 L.f7.f0, .int .i64 L.f7.f1], .int .i64 L.f0.f1, .slice Au xu.length cu] (by rfl) rfl rfl (by (try simp only [List.map_toArray, List.map_cons, List.map_nil]); first | done | rfl | (simp only [List.length_drop, List.length_take]; rfl)) ?_
 refine (talikref04_Play.calls _ _ _ _ _ _ _ _ _ _ _ _ L.f0.f1 Au cu xu _ _ _ _ _ (Kd.R_reads' HR_u.out).2.2 (Kd.R_reads' HR_u.out).2.1 (play_tup L L.f0.f1 xu)).mono ?_; rintro e w8 ⟨rfl, hb⟩; have HQ_u := qab.mk (HT.out w8 (WMI.below hHeld.2.2.2.2.2.2.2.2.2.2.2.2.2.2.2.out hb)); clear hb; have HZ := qab.mk HQ_u.out.2.2.2.2.2.2.2.2.2.2.2.2.2.2.2.out; have f6 := qad HZ.out.r; have r0 : w8.cell? ⟨g6, 0, none⟩ = some (.int .i64 0) := (qaa HZ.out.r 0).trans rfl; have r1' : w8.cell? ⟨g6, 1, none⟩ = some (.int .i64 0) := (qaa HZ.out.r 1).trans rfl; refine ⟨_, rfl, ?_⟩; refine hK.out _ _ HQ_u.out (fun hHeld => ?_); clear hK K; refine norm_ (a' := ?_) ?_ ?_; rotate_left; (focus (show Act.put _ (some 31) _ = _; simp only [Act.put, List.setIfInBounds_toArray, List.set_cons_zero, List.set_cons_succ, i64_w, i32_w]; rfl))
 refine pure_ (i := 19) (N := some 32) (v := ?_) (a' := ?_) (msk 22 20) rfl rfl (by kernel_rfl) (fun _ _ _ h => h) (Or.inl ⟨by rfl, ?_⟩) ?_ ?_; rotate_left; (focus (intro w'; go_simp; with_reducible rfl)); rotate_left; (focus (simp only [Act.put, List.setIfInBounds_toArray, List.set_cons_zero, List.set_cons_succ, i64_w, i32_w]; rfl))
 refine pure_ (i := 20) (N := some 33) (v := ?_) (a' := ?_) (msk 22 21) rfl rfl (by kernel_rfl) (fun _ _ _ h => h) (Or.inl ⟨by rfl, ?_⟩) ?_ ?_; rotate_left; (focus (intro w'; go_simp; with_reducible rfl)); rotate_left; (focus (simp only [Act.put, List.setIfInBounds_toArray, List.set_cons_zero, List.set_cons_succ, i64_w, i32_w]; rfl))
 refine last_ (i := 21) (N := none) (msk 22 22) rfl rfl (by kernel_rfl) (by decide) (fun K hK => ?_); refine skip_ (w1 := ?_) (by rfl) rfl ?_ ?_; rotate_left; (focus (go_simp; rfl)); refine hK.out _ _ ?_; clear hK K hHeld
 skip
 refine done_ (by kernel_rfl) ?_
 try go_wp2_with fail
 try rw [Exit.noGoto_ret]
 refine bodyPost_ret (results_cell_row rfl _ _ g6 37 #[.int .i64 (playR L L.f0.f0 xt).1, .int .i64 (playR L L.f0.f1 xu).1] (0, 0) _ rfl (qbc (qbc HZ.out.r 0 _) 1 _) Try.underlying37 rfl (by kernel_rfl)) rfl ?_
 exact ⟨by rw [H1.out, H2.out], qah (qah HZ.out.hb HZ.out.ge) HZ.out.ge⟩
end Go.Proofs.Ytipphcjgdebecaa.PA
namespace Go.Proofs.Ytipphcjgdebecaa.PA
open Go.RowKit Go.Proofs.YtipphcjgdebecaaW.PrintWords Go.Proofs.YtipphcjgdebecaaW.PrintLast Go.Proofs.YtipphcjgdebecaaW.PrintMore
attribute [local go_sem] qbd qbf max_two min_two qay qaz qbe qbg
mutual
def talikref04_Freezes.l0 : Nat → Int → Int → Int → Int → List (S39) → List (S37) → List (List Int) → Option (Int × Int)
 | 0, _, _, _, _, _, _, _ => none
 | k + 1, x1, x6, x7, x8, x221000, x221001, x221002 => if x8 ≤ (x221001.length : Int) then ((talikref04_Warm.f x221000 x221001 x221002 x1 x8).bind fun bt221 => (if x6 < 0 then (talikref04_Freezes.j1 k x1 x6 x7 x8 (bt221.1 == 0) x221000 x221001 x221002 bt221.1 bt221.2) else (talikref04_Freezes.j1 k x1 x6 x7 x8 false x221000 x221001 x221002 bt221.1 bt221.2))) else (some (x6, x7))
def talikref04_Freezes.j1 : Nat → Int → Int → Int → Int → Bool → List (S39) → List (S37) → List (List Int) → Int → Int → Option (Int × Int)
 | 0, _, _, _, _, _, _, _, _, _, _ => none
 | k + 1, x1, x6, x7, x8, x27, x221000, x221001, x221002, x224000, x224001 => if x27 = true then (if x7 < 0 then (if x224001 = 0 then (talikref04_Freezes.l0 k x1 x8 x8 (wrap64 (x8 + 1)) x221000 x221001 x221002) else (talikref04_Freezes.l0 k x1 x8 x7 (wrap64 (x8 + 1)) x221000 x221001 x221002)) else (talikref04_Freezes.l0 k x1 x8 x7 (wrap64 (x8 + 1)) x221000 x221001 x221002)) else (if x7 < 0 then (if x224001 = 0 then (talikref04_Freezes.l0 k x1 x6 x8 (wrap64 (x8 + 1)) x221000 x221001 x221002) else (talikref04_Freezes.l0 k x1 x6 x7 (wrap64 (x8 + 1)) x221000 x221001 x221002)) else (talikref04_Freezes.l0 k x1 x6 x7 (wrap64 (x8 + 1)) x221000 x221001 x221002))
end
def talikref04_Freezes.f (k : Nat) (l0_0 : List (S39)) (l0_1 : List (S37)) (l0_2 : List (List Int)) (a1 : Int) : Option (Int × Int) := talikref04_Freezes.l0 k a1 (-1) (-1) 1 l0_0 l0_1 l0_2
set_option maxHeartbeats 8000000 in
set_option maxRecDepth 100000 in
theorem talikref04_Freezes.calls (k : Nat) (A0_0 : Option Addr) (c0_0 : Nat) (l0_0 : List (S39)) (A0_1 : Option Addr) (c0_1 : Nat) (l0_1 : List (S37)) (A0_2 : Option Addr) (c0_2 : Nat) (l0_2 : List (List Int)) (a1 : Int) (r1 : Int) (r2 : Int) (w : World) (hr0_0 : Kd.C k39 w A0_0 l0_0.length l0_0) (hc0_0 : l0_0.length ≤ c0_0) (hr0_1 : Kd.C k37 w A0_1 l0_1.length l0_1) (hc0_1 : l0_1.length ≤ c0_1) (hr0_2 : Kd.C (Kd.slice 3 (Kd.int .i64)) w A0_2 l0_2.length l0_2) (hc0_2 : l0_2.length ≤ c0_2) (h : talikref04_Freezes.f k l0_0 l0_1 l0_2 a1 = some (r1, r2)) :
  Calls Try.prog 52 #[.agg #[.slice A0_0 l0_0.length c0_0, .slice A0_1 l0_1.length c0_1, .slice A0_2 l0_2.length c0_2], .int .i64 a1] w fun e w' => e = .returned (.tuple #[.int .i64 r1, .int .i64 r2]) ∧ Below w.heap.size w w' := by
 have hu26 := Try.underlying26
 have hu37 := Try.underlying37
 have HR0_0 := qab.mk hr0_0
 have HC0_0 := qab.mk hc0_0
 clear hr0_0 hc0_0
 have HR0_1 := qab.mk hr0_1
 have HC0_1 := qab.mk hc0_1
 clear hr0_1 hc0_1
 have HR0_2 := qab.mk hr0_2
 have HC0_2 := qab.mk hc0_2
 clear hr0_2 hc0_2
 have HB := qab.mk (Below.refl w.heap.size w)
 have H : (talikref04_Freezes.l0 k a1 (-1) (-1) 1 l0_0 l0_1 l0_2) = some (r1, r2) := h
 clear h
 have H' := qab.mk H
 clear H
 go_enter Try.func52, Try.ntmps52
 go_wp2_with (first | ((with_reducible refine qav (N := 2) rfl ?_); refine qau ?hg (N := 2) ?hd (cs := #[.slice A0_0 l0_0.length c0_0, .slice A0_1 l0_1.length c0_1, .slice A0_2 l0_2.length c0_2]) (t := 26) ?hr ?_; (case hd => rfl); (case hg => rfl); (case hr => first | (go_simp; done) | (go_simp; rfl)); intro gb220 hg w3 hbox hb; have n0_ := qab.mk (qag (by repeat (first | (with_reducible first | exact HB.out | apply qae | apply qac | apply qaf) | exact HB.out)) hb); have n1_ := qab.mk (hbox); have n2_ := qab.mk ((by rw [hg]; exact (qaq (by repeat (first | (with_reducible first | exact HB.out | apply qae | apply qac | apply qaf) | exact HB.out))) : w.heap.size ≤ gb220)); have n3_ := qab.mk ((by rw [hg]; exact (qaq (by repeat (first | (with_reducible first | exact HB.out | apply qae | apply qac | apply qaf) | exact HB.out))) : w.heap.size ≤ gb220)); clear HB; have HB := n0_; have BK220 := n1_; have GW220 := n2_; have GE220 := n3_; clear n0_ n1_ n2_ n3_; clear hb hbox hg))
 go_loopg [6, 7, 8] k (fun kq v6 v7 v8 w' => ∃ (x6_1 : Int) (x7_1 : Int) (x8_1 : Int), v6 = .int .i64 x6_1 ∧ v7 = .int .i64 x7_1 ∧ v8 = .int .i64 x8_1 ∧ qab (talikref04_Freezes.l0 kq a1 x6_1 x7_1 x8_1 l0_0 l0_1 l0_2 = some (r1, r2)) ∧ qab (kq ≤ k) ∧ qab (w'.heap[gb220]? = some (.cells #[(.slice A0_0 l0_0.length c0_0), (.slice A0_1 l0_1.length c0_1), (.slice A0_2 l0_2.length c0_2)] 26 (0, 0))) ∧ qab (Below w.heap.size w w'))
 case atStart => exact ⟨((-1)), ((-1)), (1), (by first | rfl | (simp; done) | (simp [*]; done)), (by first | rfl | (simp; done) | (simp [*]; done)), (by first | rfl | (simp; done) | (simp [*]; done)), H', ⟨Nat.le_refl _⟩, ⟨by (with_reducible repeat (first | refine qan ?_ _ | refine qao ?_ | refine qak ?_ _)); exact BK220.out⟩, ⟨by repeat (first | (with_reducible first | exact HB.out | apply qae | apply qac | apply qaf | refine qah ?_ GE220.out) | exact HB.out)⟩⟩
 case round =>
  clear H'
  try clear p2
  obtain ⟨x6_1, x7_1, x8_1, rfl, rfl, rfl, HA, HK1, BK220, HB⟩ := hrel
  cases gk with
  | zero => exact absurd HA.out (by simp [talikref04_Freezes.l0])
  | succ k1 =>
   have H := HA.out
   clear HA
   simp only [talikref04_Freezes.l0] at H
   by_cases c4 : x8_1 ≤ (l0_1.length : Int)
   ·
    rw [if_pos c4] at H
    have c4b0 : decide (x8_1 ≤ (l0_1.length : Int)) = true := decide_eq_true c4
    clear c4
    replace H := Option.bind_eq_some_iff.mp H
    obtain ⟨⟨t221, t222⟩, A50, H⟩ := H
    replace H : (if x6_1 < 0 then (talikref04_Freezes.j1 k1 a1 x6_1 x7_1 x8_1 (t221 == 0) l0_0 l0_1 l0_2 t221 t222) else (talikref04_Freezes.j1 k1 a1 x6_1 x7_1 x8_1 false l0_0 l0_1 l0_2 t221 t222)) = some (r1, r2) := H
    have A5 := qab.mk A50
    clear A50
    have HC6 := qab.mk H
    clear H
    have hcz7_0 : wr.cell? ⟨gb220, 0, none⟩ = some (.slice A0_0 l0_0.length c0_0) := (qaa BK220.out 0).trans rfl
    have hcz7_1 : wr.cell? ⟨gb220, 1, none⟩ = some (.slice A0_1 l0_1.length c0_1) := (qaa BK220.out 1).trans rfl
    have hcz7_2 : wr.cell? ⟨gb220, 2, none⟩ = some (.slice A0_2 l0_2.length c0_2) := (qaa BK220.out 2).trans rfl
    have hfz7_0 := qad BK220.out 0
    have hfz7_1 := qad BK220.out 1
    have hfz7_2 := qad BK220.out 2
    go_upto_region 6 with (first | ((with_reducible refine qat (f := 80) rfl ?_); refine qbb (some 20) rfl rfl Try.func80 (by kernel_rfl) rfl #[.agg #[.slice A0_0 l0_0.length c0_0, .slice A0_1 l0_1.length c0_1, .slice A0_2 l0_2.length c0_2], .int .i64 a1, .int .i64 x8_1] rfl (by (try simp only [List.map_toArray, List.map_cons, List.map_nil]); first | done | rfl | (simp only [List.length_drop, List.length_take]; rfl)) ?_; (with_reducible refine (talikref04_Warm.calls _ _ l0_0 _ _ l0_1 _ _ l0_2 a1 x8_1 t221 t222 _ ?side1 ?side2 ?side3 ?side4 ?side5 ?side6 A5.out).mono ?_); (case side1 => repeat (first | exact (Kd.qai HR0_0.out HB.out) | (with_reducible refine Kd.qal ?_ _) | (with_reducible refine Kd.qam ?_ _) | (with_reducible refine Kd.qap ?_))); (case side2 => exact HC0_0.out); (case side3 => repeat (first | exact (Kd.qai HR0_1.out HB.out) | (with_reducible refine Kd.qal ?_ _) | (with_reducible refine Kd.qam ?_ _) | (with_reducible refine Kd.qap ?_))); (case side4 => exact HC0_1.out); (case side5 => repeat (first | exact (Kd.qai HR0_2.out HB.out) | (with_reducible refine Kd.qal ?_ _) | (with_reducible refine Kd.qam ?_ _) | (with_reducible refine Kd.qap ?_))); (case side6 => exact HC0_2.out); rintro e w8 ⟨rfl, hb⟩; refine ⟨_, rfl, ?_⟩; have n0_ := qab.mk (qaj (g := gb220) (o := .cells #[.slice A0_0 l0_0.length c0_0, .slice A0_1 l0_1.length c0_1, .slice A0_2 l0_2.length c0_2] 26 (0, 0)) (by (with_reducible repeat (first | refine qan ?_ _ | refine qao ?_ | refine qak ?_ _)); exact BK220.out) hb); have n1_ := qab.mk (qag (by repeat (first | (with_reducible first | exact HB.out | apply qae | apply qac | apply qaf | refine qah ?_ GE220.out) | exact HB.out)) hb); clear BK220; clear HB; have BK220 := n0_; have HB := n1_; clear n0_ n1_; (try clear hb); (try clear hb2); (try clear hk); (try clear hi)) | ((with_reducible refine qav (N := 9) rfl ?_); refine qau ?hg (N := 9) ?hd (cs := #[.int .i64 0, .int .i64 0]) (t := 37) ?hr ?_; (case hd => rfl); (case hg => rfl); (case hr => first | (go_simp; done) | (go_simp; rfl)); intro gb223 hg w9 hbox hb; have n0_ := qab.mk (qaj (g := gb220) (o := .cells #[.slice A0_0 l0_0.length c0_0, .slice A0_1 l0_1.length c0_1, .slice A0_2 l0_2.length c0_2] 26 (0, 0)) (by (with_reducible repeat (first | refine qan ?_ _ | refine qao ?_ | refine qak ?_ _)); exact BK220.out) hb); have n1_ := qab.mk (qag (by repeat (first | (with_reducible first | exact HB.out | apply qae | apply qac | apply qaf | refine qah ?_ GE220.out) | exact HB.out)) hb); have n2_ := qab.mk (hbox); have n3_ := qab.mk ((by rw [hg]; exact (qaq (by repeat (first | (with_reducible first | exact HB.out | apply qae | apply qac | apply qaf | refine qah ?_ GE220.out) | exact HB.out))) : w.heap.size ≤ gb223)); have n4_ := qab.mk ((by rw [hg]; exact (qaq (by repeat (first | (with_reducible first | exact HB.out | apply qae | apply qac | apply qaf | refine qah ?_ GE220.out) | exact HB.out))) : w.heap.size ≤ gb223)); have n5_ := qab.mk ((by rw [hg]; exact Nat.ne_of_lt (blk_lt (g := gb220) (o := .cells #[.slice A0_0 l0_0.length c0_0, .slice A0_1 l0_1.length c0_1, .slice A0_2 l0_2.length c0_2] 26 (0, 0)) (by (with_reducible repeat (first | refine qan ?_ _ | refine qao ?_ | refine qak ?_ _)); exact BK220.out)) : gb220 ≠ gb223)); have n6_ := qab.mk ((by rw [hg]; exact Nat.ne_of_gt (blk_lt (g := gb220) (o := .cells #[.slice A0_0 l0_0.length c0_0, .slice A0_1 l0_1.length c0_1, .slice A0_2 l0_2.length c0_2] 26 (0, 0)) (by (with_reducible repeat (first | refine qan ?_ _ | refine qao ?_ | refine qak ?_ _)); exact BK220.out)) : gb223 ≠ gb220)); clear BK220; clear HB; have BK220 := n0_; have HB := n1_; have BK223 := n2_; have GW223 := n3_; have GE223 := n4_; have NB220_223 := n5_; have NB223_220 := n6_; clear n0_ n1_ n2_ n3_ n4_ n5_ n6_; clear hb hbox hg; have hnb10 := NB223_220.out; have hnc10 := NB220_223.out; have hcz11_0 : w9.cell? ⟨gb223, 0, none⟩ = some (.int .i64 0) := (qaa BK223.out 0).trans rfl; have hcz11_1 : w9.cell? ⟨gb223, 1, none⟩ = some (.int .i64 0) := (qaa BK223.out 1).trans rfl; have hfz11_0 := qad BK223.out 0; have hfz11_1 := qad BK223.out 1))
    (try simp only [Act.put, List.setIfInBounds_toArray, List.set_cons_zero, List.set_cons_succ])
    go_cut [27] (fun v27 wc => ∃ (kq : Nat) (x27_5 : Bool), v27 = .bool x27_5 ∧ qab (talikref04_Freezes.j1 kq a1 x6_1 x7_1 x8_1 x27_5 l0_0 l0_1 l0_2 t221 t222 = some (r1, r2)) ∧ qab (kq ≤ k1) ∧ qab (wc.heap[gb220]? = some (.cells #[(.slice A0_0 l0_0.length c0_0), (.slice A0_1 l0_1.length c0_1), (.slice A0_2 l0_2.length c0_2)] 26 (0, 0))) ∧ qab (wc.heap[gb223]? = some (.cells #[.int .i64 t221, .int .i64 t222] 37 (0, 0))) ∧ qab (Below w.heap.size w wc))
    case first =>
     have H := HC6.out
     clear HC6
     by_cases c12 : x6_1 < 0
     ·
      rw [if_pos c12] at H
      have c12b0 : decide (x6_1 < 0) = true := decide_eq_true c12
      clear c12
      (first | rw [c12b0] | (simp only [i64_w, i32_w]; rw [c12b0]) | skip)
      have H' := qab.mk H
      clear H
      have hnb13 := NB223_220.out
      have hnc13 := NB220_223.out
      have hcz14_0 : w9.cell? ⟨gb223, 0, none⟩ = some (.int .i64 0) := (qaa BK223.out 0).trans rfl
      have hcz14_1 : w9.cell? ⟨gb223, 1, none⟩ = some (.int .i64 0) := (qaa BK223.out 1).trans rfl
      have hfz14_0 := qad BK223.out 0
      have hfz14_1 := qad BK223.out 1
      go_wp2
      go_meet
      case rel => exact ⟨_, ((t221 == 0)), (by first | rfl | (simp; done) | (simp [*]; done)), H', ⟨by have := HK1.out; first | omega | exact Nat.le_refl _⟩, ⟨by (with_reducible repeat (first | refine qan ?_ _ | refine qao ?_ | refine qak ?_ _)); refine blk_far ?_ NB220_223.out _; (with_reducible repeat (first | refine qan ?_ _ | refine qao ?_ | refine qak ?_ _)); refine blk_far ?_ NB220_223.out _; (with_reducible repeat (first | refine qan ?_ _ | refine qao ?_ | refine qak ?_ _)); exact BK220.out⟩, ⟨by (with_reducible repeat (first | refine qan ?_ _ | refine qao ?_ | refine qak ?_ _)); refine blk_put (cs := #[.int .i64 t221, .int .i64 0]) ?_ 1 _ rfl; (with_reducible repeat (first | refine qan ?_ _ | refine qao ?_ | refine qak ?_ _)); refine blk_put (cs := #[.int .i64 0, .int .i64 0]) ?_ 0 _ rfl; (with_reducible repeat (first | refine qan ?_ _ | refine qao ?_ | refine qak ?_ _)); exact BK223.out⟩, ⟨by repeat (first | (with_reducible first | exact HB.out | apply qae | apply qac | apply qaf | refine qah ?_ GE220.out | refine qah ?_ GE223.out) | exact HB.out)⟩⟩
     ·
      rw [if_neg c12] at H
      have c12b0 : decide (x6_1 < 0) = false := decide_eq_false c12
      clear c12
      (first | rw [c12b0] | (simp only [i64_w, i32_w]; rw [c12b0]) | skip)
      have H' := qab.mk H
      clear H
      go_wp2
      go_meet
      case rel => exact ⟨_, (false), (by first | rfl | (simp; done) | (simp [*]; done)), H', ⟨by have := HK1.out; first | omega | exact Nat.le_refl _⟩, ⟨by (with_reducible repeat (first | refine qan ?_ _ | refine qao ?_ | refine qak ?_ _)); refine blk_far ?_ NB220_223.out _; (with_reducible repeat (first | refine qan ?_ _ | refine qao ?_ | refine qak ?_ _)); refine blk_far ?_ NB220_223.out _; (with_reducible repeat (first | refine qan ?_ _ | refine qao ?_ | refine qak ?_ _)); exact BK220.out⟩, ⟨by (with_reducible repeat (first | refine qan ?_ _ | refine qao ?_ | refine qak ?_ _)); refine blk_put (cs := #[.int .i64 t221, .int .i64 0]) ?_ 1 _ rfl; (with_reducible repeat (first | refine qan ?_ _ | refine qao ?_ | refine qak ?_ _)); refine blk_put (cs := #[.int .i64 0, .int .i64 0]) ?_ 0 _ rfl; (with_reducible repeat (first | refine qan ?_ _ | refine qao ?_ | refine qak ?_ _)); exact BK223.out⟩, ⟨by repeat (first | (with_reducible first | exact HB.out | apply qae | apply qac | apply qaf | refine qah ?_ GE220.out | refine qah ?_ GE223.out) | exact HB.out)⟩⟩
    case rest =>
     clear HC6
     try clear c1
     try clear p2
     try clear c4
     try clear c4b0
     try clear c5
     try clear c8
     try clear c10
     try clear c12
     try clear c12b0
     try clear c13
     try clear hcz11_0
     try clear hcz11_1
     try clear hcz14_0
     try clear hcz14_1
     try clear hcz7_0
     try clear hcz7_1
     try clear hcz7_2
     try clear hfz11_0
     try clear hfz11_1
     try clear hfz14_0
     try clear hfz14_1
     try clear hfz7_0
     try clear hfz7_1
     try clear hfz7_2
     try clear p2
     obtain ⟨kq, x27_5, rfl, HA, HJ5, BK220, BK223, HB⟩ := hcut
     cases kq with
     | zero => exact absurd HA.out (by simp [talikref04_Freezes.j1])
     | succ kj5 =>
      have H := HA.out
      clear HA
      simp only [talikref04_Freezes.j1] at H
      by_cases c15 : x27_5 = true
      ·
       subst c15
       have H1 : (if x7_1 < 0 then (if t222 = 0 then (talikref04_Freezes.l0 kj5 a1 x8_1 x8_1 (wrap64 (x8_1 + 1)) l0_0 l0_1 l0_2) else (talikref04_Freezes.l0 kj5 a1 x8_1 x7_1 (wrap64 (x8_1 + 1)) l0_0 l0_1 l0_2)) else (talikref04_Freezes.l0 kj5 a1 x8_1 x7_1 (wrap64 (x8_1 + 1)) l0_0 l0_1 l0_2)) = some (r1, r2) := by rw [if_pos rfl] at H; exact H
       clear H
       have H := H1
       clear H1
       by_cases c16 : x7_1 < 0
       ·
        rw [if_pos c16] at H
        have c16b0 : decide (x7_1 < 0) = true := decide_eq_true c16
        clear c16
        by_cases c17 : t222 = 0
        ·
         rw [if_pos c17] at H
         have c17b0 : (t222 == 0) = true := beq_iff_eq.mpr c17
         have c17b1 : (t222 != 0) = false := bne_eq_false_iff_eq.mpr c17
         clear c17
         have H' := qab.mk H
         clear H
         have hnb18 := NB223_220.out
         have hnc18 := NB220_223.out
         have hcz19_0 : wc.cell? ⟨gb223, 0, none⟩ = some (.int .i64 t221) := (qaa BK223.out 0).trans rfl
         have hcz19_1 : wc.cell? ⟨gb223, 1, none⟩ = some (.int .i64 t222) := (qaa BK223.out 1).trans rfl
         have hfz19_0 := qad BK223.out 0
         have hfz19_1 := qad BK223.out 1
         go_wp2
         go_roundg kj5
         case measure => have := HK1.out; have := HJ5.out; omega
         case rel => exact ⟨(x8_1), (x8_1), (wrap64 (x8_1 + 1)), (by first | rfl | (simp; done) | (simp [*]; done)), (by first | rfl | (simp; done) | (simp [*]; done)), (by first | rfl | (simp; done) | (simp [*]; done)), H', ⟨by have := HK1.out; have := HJ5.out; omega⟩, ⟨by (with_reducible repeat (first | refine qan ?_ _ | refine qao ?_ | refine qak ?_ _)); exact BK220.out⟩, ⟨by repeat (first | (with_reducible first | exact HB.out | apply qae | apply qac | apply qaf | refine qah ?_ GE220.out | refine qah ?_ GE223.out) | exact HB.out)⟩⟩
        ·
         rw [if_neg c17] at H
         have c17b0 : (t222 == 0) = false := beq_eq_false_iff_ne.mpr c17
         have c17b1 : (t222 != 0) = true := bne_iff_ne.mpr c17
         have H' := qab.mk H
         clear H
         have hnb20 := NB223_220.out
         have hnc20 := NB220_223.out
         have hcz21_0 : wc.cell? ⟨gb223, 0, none⟩ = some (.int .i64 t221) := (qaa BK223.out 0).trans rfl
         have hcz21_1 : wc.cell? ⟨gb223, 1, none⟩ = some (.int .i64 t222) := (qaa BK223.out 1).trans rfl
         have hfz21_0 := qad BK223.out 0
         have hfz21_1 := qad BK223.out 1
         go_wp2
         go_roundg kj5
         case measure => have := HK1.out; have := HJ5.out; omega
         case rel => exact ⟨(x8_1), (x7_1), (wrap64 (x8_1 + 1)), (by first | rfl | (simp; done) | (simp [*]; done)), (by first | rfl | (simp; done) | (simp [*]; done)), (by first | rfl | (simp; done) | (simp [*]; done)), H', ⟨by have := HK1.out; have := HJ5.out; omega⟩, ⟨by (with_reducible repeat (first | refine qan ?_ _ | refine qao ?_ | refine qak ?_ _)); exact BK220.out⟩, ⟨by repeat (first | (with_reducible first | exact HB.out | apply qae | apply qac | apply qaf | refine qah ?_ GE220.out | refine qah ?_ GE223.out) | exact HB.out)⟩⟩
       ·
        rw [if_neg c16] at H
        have c16b0 : decide (x7_1 < 0) = false := decide_eq_false c16
        clear c16
        have H' := qab.mk H
        clear H
        go_wp2
        go_roundg kj5
        case measure => have := HK1.out; have := HJ5.out; omega
        case rel => exact ⟨(x8_1), (x7_1), (wrap64 (x8_1 + 1)), (by first | rfl | (simp; done) | (simp [*]; done)), (by first | rfl | (simp; done) | (simp [*]; done)), (by first | rfl | (simp; done) | (simp [*]; done)), H', ⟨by have := HK1.out; have := HJ5.out; omega⟩, ⟨by (with_reducible repeat (first | refine qan ?_ _ | refine qao ?_ | refine qak ?_ _)); exact BK220.out⟩, ⟨by repeat (first | (with_reducible first | exact HB.out | apply qae | apply qac | apply qaf | refine qah ?_ GE220.out | refine qah ?_ GE223.out) | exact HB.out)⟩⟩
      ·
       replace c15 := Bool.eq_false_iff.mpr c15
       subst c15
       have H1 : (if x7_1 < 0 then (if t222 = 0 then (talikref04_Freezes.l0 kj5 a1 x6_1 x8_1 (wrap64 (x8_1 + 1)) l0_0 l0_1 l0_2) else (talikref04_Freezes.l0 kj5 a1 x6_1 x7_1 (wrap64 (x8_1 + 1)) l0_0 l0_1 l0_2)) else (talikref04_Freezes.l0 kj5 a1 x6_1 x7_1 (wrap64 (x8_1 + 1)) l0_0 l0_1 l0_2)) = some (r1, r2) := by rw [if_neg (show ¬ (false = true) by decide)] at H; exact H
       clear H
       have H := H1
       clear H1
       by_cases c22 : x7_1 < 0
       ·
        rw [if_pos c22] at H
        have c22b0 : decide (x7_1 < 0) = true := decide_eq_true c22
        clear c22
        by_cases c23 : t222 = 0
        ·
         rw [if_pos c23] at H
         have c23b0 : (t222 == 0) = true := beq_iff_eq.mpr c23
         have c23b1 : (t222 != 0) = false := bne_eq_false_iff_eq.mpr c23
         clear c23
         have H' := qab.mk H
         clear H
         have hnb24 := NB223_220.out
         have hnc24 := NB220_223.out
         have hcz25_0 : wc.cell? ⟨gb223, 0, none⟩ = some (.int .i64 t221) := (qaa BK223.out 0).trans rfl
         have hcz25_1 : wc.cell? ⟨gb223, 1, none⟩ = some (.int .i64 t222) := (qaa BK223.out 1).trans rfl
         have hfz25_0 := qad BK223.out 0
         have hfz25_1 := qad BK223.out 1
         go_wp2
         go_roundg kj5
         case measure => have := HK1.out; have := HJ5.out; omega
         case rel => exact ⟨(x6_1), (x8_1), (wrap64 (x8_1 + 1)), (by first | rfl | (simp; done) | (simp [*]; done)), (by first | rfl | (simp; done) | (simp [*]; done)), (by first | rfl | (simp; done) | (simp [*]; done)), H', ⟨by have := HK1.out; have := HJ5.out; omega⟩, ⟨by (with_reducible repeat (first | refine qan ?_ _ | refine qao ?_ | refine qak ?_ _)); exact BK220.out⟩, ⟨by repeat (first | (with_reducible first | exact HB.out | apply qae | apply qac | apply qaf | refine qah ?_ GE220.out | refine qah ?_ GE223.out) | exact HB.out)⟩⟩
        ·
         rw [if_neg c23] at H
         have c23b0 : (t222 == 0) = false := beq_eq_false_iff_ne.mpr c23
         have c23b1 : (t222 != 0) = true := bne_iff_ne.mpr c23
         have H' := qab.mk H
         clear H
         have hnb26 := NB223_220.out
         have hnc26 := NB220_223.out
         have hcz27_0 : wc.cell? ⟨gb223, 0, none⟩ = some (.int .i64 t221) := (qaa BK223.out 0).trans rfl
         have hcz27_1 : wc.cell? ⟨gb223, 1, none⟩ = some (.int .i64 t222) := (qaa BK223.out 1).trans rfl
         have hfz27_0 := qad BK223.out 0
         have hfz27_1 := qad BK223.out 1
         go_wp2
         go_roundg kj5
         case measure => have := HK1.out; have := HJ5.out; omega
         case rel => exact ⟨(x6_1), (x7_1), (wrap64 (x8_1 + 1)), (by first | rfl | (simp; done) | (simp [*]; done)), (by first | rfl | (simp; done) | (simp [*]; done)), (by first | rfl | (simp; done) | (simp [*]; done)), H', ⟨by have := HK1.out; have := HJ5.out; omega⟩, ⟨by (with_reducible repeat (first | refine qan ?_ _ | refine qao ?_ | refine qak ?_ _)); exact BK220.out⟩, ⟨by repeat (first | (with_reducible first | exact HB.out | apply qae | apply qac | apply qaf | refine qah ?_ GE220.out | refine qah ?_ GE223.out) | exact HB.out)⟩⟩
       ·
        rw [if_neg c22] at H
        have c22b0 : decide (x7_1 < 0) = false := decide_eq_false c22
        clear c22
        have H' := qab.mk H
        clear H
        go_wp2
        go_roundg kj5
        case measure => have := HK1.out; have := HJ5.out; omega
        case rel => exact ⟨(x6_1), (x7_1), (wrap64 (x8_1 + 1)), (by first | rfl | (simp; done) | (simp [*]; done)), (by first | rfl | (simp; done) | (simp [*]; done)), (by first | rfl | (simp; done) | (simp [*]; done)), H', ⟨by have := HK1.out; have := HJ5.out; omega⟩, ⟨by (with_reducible repeat (first | refine qan ?_ _ | refine qao ?_ | refine qak ?_ _)); exact BK220.out⟩, ⟨by repeat (first | (with_reducible first | exact HB.out | apply qae | apply qac | apply qaf | refine qah ?_ GE220.out | refine qah ?_ GE223.out) | exact HB.out)⟩⟩
   ·
    rw [if_neg c4] at H
    have c4b0 : decide (x8_1 ≤ (l0_1.length : Int)) = false := decide_eq_false c4
    clear c4
    simp only [Option.some.injEq, Prod.mk.injEq] at H
    obtain ⟨rfl, rfl⟩ := H
    have hcz28_0 : wr.cell? ⟨gb220, 0, none⟩ = some (.slice A0_0 l0_0.length c0_0) := (qaa BK220.out 0).trans rfl
    have hcz28_1 : wr.cell? ⟨gb220, 1, none⟩ = some (.slice A0_1 l0_1.length c0_1) := (qaa BK220.out 1).trans rfl
    have hcz28_2 : wr.cell? ⟨gb220, 2, none⟩ = some (.slice A0_2 l0_2.length c0_2) := (qaa BK220.out 2).trans rfl
    have hfz28_0 := qad BK220.out 0
    have hfz28_1 := qad BK220.out 1
    have hfz28_2 := qad BK220.out 2
    go_wp2
    go_ret2
    exact ⟨by first | rfl | (simp [qar, qas] <;> rfl) | (simp [*, qar, qas] <;> rfl), by repeat (first | (with_reducible first | exact HB.out | apply qae | apply qac | apply qaf | refine qah ?_ GE220.out) | exact HB.out)⟩
end Go.Proofs.Ytipphcjgdebecaa.PA
namespace Go.Proofs.Ytipphcjgdebecaa.PA
open Go.RowKit Go.Shelf Go.Proofs.YtipphcjgdebecaaW.PrintWords Go.Proofs.YtipphcjgdebecaaW.PrintLast Go.Proofs.YtipphcjgdebecaaW.PrintMore
attribute [local go_sem] qbd qbf max_two min_two qay qaz qbe qbg
def cold (k c w : Int) : Int := w - min w (k * (w + c) / 1000)
theorem cold_bd {k c w : Int} (k0 : 0 ≤ k) (c0 : 0 ≤ c) (w0 : 0 ≤ w) : 0 ≤ cold k c w ∧ cold k c w ≤ w := by
 have h : 0 ≤ k * (w + c) := Int.mul_nonneg k0 (by omega)
 unfold cold
 omega
theorem cold_mono {k k' c c' w w' : Int} (k1 : k' ≤ 1000) (hk : k ≤ k') (k0 : 0 ≤ k) (hc : c ≤ c') (c0 : 0 ≤ c) (w0 : 0 ≤ w') (hw : w' ≤ w) : cold k' c' w' ≤ cold k c w := by
 have h1 : k * (w' + c) ≤ k' * (w' + c') := Int.mul_le_mul hk (by omega) (by omega) (by omega)
 have h2 : k * (w + c) = k * (w' + c) + k * (w - w') := by rw [← Int.mul_add]; congr 1; omega
 have h3 : k * (w - w') ≤ 1000 * (w - w') := Int.mul_le_mul_of_nonneg_right (by omega) (by omega)
 have h4 : 0 ≤ k * (w' + c) := Int.mul_nonneg k0 (by omega)
 have h5 : 0 ≤ k * (w - w') := Int.mul_nonneg k0 (by omega)
 unfold cold
 omega
theorem loss_tdiv {k c w : Int} (k0 : 0 ≤ k) (k1 : k ≤ 1000) (c0 : 0 ≤ c) (c1 : c ≤ 1000) (w0 : 0 ≤ w) (w1 : w ≤ 1000) : wrap64 (Int.tdiv (wrap64 (k * wrap64 (w + c))) 1000) = k * (w + c) / 1000 ∧ 0 ≤ k * (w + c) / 1000 ∧ k * (w + c) / 1000 ≤ 2000 := by
 obtain ⟨p0, p1⟩ := mul_small k0 k1 (b := w + c) (B := 2000) (by omega) (by omega)
 rw [wrap_id (x := w + c) (by omega) (by omega), wrap_id (x := k * (w + c)) (by omega) (by omega), Int.tdiv_eq_ediv_of_nonneg p0, wrap_id (by omega) (by omega)]
 exact ⟨rfl, by omega, by omega⟩
theorem cold_prog {k c w : Int} (k0 : 0 ≤ k) (k1 : k ≤ 1000) (c0 : 0 ≤ c) (c1 : c ≤ 1000) (w0 : 0 ≤ w) (w1 : w ≤ 1000) : wrap64 (w - lossV k c w) = cold k c w := by
 obtain ⟨e, d0, d1⟩ := loss_tdiv k0 k1 c0 c1 w0 w1
 have hl : lossV k c w = min (k * (w + c) / 1000) w := by
  show mn (wrap64 (Int.tdiv (wrap64 (k * (wrap64 (w + c)))) 1000)) (wrap64 (w + 0)) = _
  rw [e, mn_min, wrap_id (x := w + 0) (by omega) (by omega), Int.add_zero]
 rw [hl]
 unfold cold
 rw [wrap_id (by omega) (by omega)]
 omega
theorem cold_ref {L : S39} {T : S44} {x : Heat4} (hf : T.f2 = false) (k0 : 0 ≤ T.f0) (k1 : T.f0 ≤ 1000) (c0 : 0 ≤ T.f1) (c1 : T.f1 ≤ 1000) (w0 : 0 ≤ x.1) (w1 : x.1 ≤ 1000) : (stepR L T x).1 = cold T.f0 T.f1 x.1 := by
 obtain ⟨e, d0, d1⟩ := loss_tdiv k0 k1 c0 c1 w0 w1
 have hz : feedV L T = 0 := by unfold feedV; rw [hf]; rfl
 have hl : lossR L x.1 T = min x.1 (T.f0 * (x.1 + T.f1) / 1000) := by
  unfold lossR
  rw [e, hf, if_neg (by decide), mn_min]
 show wrap64 (wrap64 (x.1 + feedV L T) - lossR L x.1 T) = _
 rw [hz, hl, wrap_id (x := x.1 + 0) (by omega) (by omega), wrap_id (by omega) (by omega)]
 unfold cold
 omega
def Unfed (T : S44) : Prop := T.f2 = false ∧ 0 ≤ T.f0 ∧ T.f0 ≤ 1000 ∧ 0 ≤ T.f1 ∧ T.f1 ≤ 1000
def coldL (w : Int) (l : List S44) : Int := l.foldl (fun x T => cold T.f0 T.f1 x) w
theorem coldL_bd : ∀ (l : List S44) (w : Int), (∀ T ∈ l, Unfed T) → 0 ≤ w → 0 ≤ coldL w l ∧ coldL w l ≤ w
 | [], w, _, h0 => ⟨h0, Int.le_refl _⟩
 | T :: t, w, h, h0 => by
  have hT := h T (by simp)
  have h1 := cold_bd hT.2.1 hT.2.2.2.1 h0
  have h2 := coldL_bd t (cold T.f0 T.f1 w) (fun x hx => h x (by simp [hx])) h1.1
  show 0 ≤ coldL (cold T.f0 T.f1 w) t ∧ coldL (cold T.f0 T.f1 w) t ≤ w
  omega
theorem play_cold (L : S39) : ∀ (l : List S44) (x : Heat4), (∀ T ∈ l, Unfed T) → 0 ≤ x.1 → x.1 ≤ 1000 → (l.foldl (fun x T => stepR L T x) x).1 = coldL x.1 l
 | [], x, _, _, _ => rfl
 | T :: t, x, h, h0, h1 => by
  have hT := h T (by simp)
  have e := cold_ref (L := L) (x := x) hT.1 hT.2.1 hT.2.2.1 hT.2.2.2.1 hT.2.2.2.2 h0 h1
  have hb := cold_bd hT.2.1 hT.2.2.2.1 h0
  rw [List.foldl_cons, play_cold L t _ (fun y hy => h y (by simp [hy])) (by rw [e]; omega) (by rw [e]; omega), e]
  rfl
theorem rdT37_at (l1 : List S37) (h : Nat) (hh : h < l1.length) : rd_T37 l1 (h : Int) = l1[h] := by simp [rd_T37, hh]
theorem frost_at {l0 : List S39} {l1 : List S37} {l2 : List (List Int)} (hN : NetOk l0 l1 l2) (h : Nat) (hh : h < l1.length) : 0 ≤ (rd_T37 l1 (h : Int)).f0 ∧ (rd_T37 l1 (h : Int)).f0 ≤ (rd_T37 l1 (h : Int)).f1 ∧ (rd_T37 l1 (h : Int)).f1 ≤ 1000 := by
 rw [rdT37_at l1 h hh]
 exact hN.frost _ (List.getElem_mem hh)
theorem endL_unfed {l0 : List S39} {l1 : List S37} {l2 : List (List Int)} (hN : NetOk l0 l1 l2) {L : S39} (hL : LoopOk L) (n : Nat) (hn : n ≤ l1.length) (most : Bool) : ∀ T ∈ endL L l1 n most, Unfed T := by
 intro T hT
 unfold endL at hT
 simp only [List.mem_map, List.mem_range] at hT
 obtain ⟨h, hh, rfl⟩ := hT
 have hf := frost_at hN h (by omega)
 have k0 := hL.k0
 have k1 := hL.k1
 have k2 := hL.k2
 unfold Unfed
 cases most <;> simp <;> omega
theorem end_eq {l0 : List S39} {l1 : List S37} {l2 : List (List Int)} (i : Int) (i0 : 0 ≤ i) (i1 : i < l0.length) (n : Nat) (hn : n ≤ l1.length) (h1 : l1.length ≤ 1000) (most : Bool) : talikref04_End.f l0 l1 l2 i (n : Int) most = some (endL (qaw l0 i) l1 n most) := by
 unfold talikref04_End.f
 rw [if_pos ⟨i0, i1, by omega, by omega, h1⟩, Int.toNat_natCast]
def lowW (L : S39) (l1 : List S37) (n : Nat) : Int := coldL L.f0.f0 (endL L l1 n true)
def highW (L : S39) (l1 : List S37) (n : Nat) : Int := coldL L.f0.f1 (endL L l1 n false)
theorem low_bd {l0 : List S39} {l1 : List S37} {l2 : List (List Int)} (hN : NetOk l0 l1 l2) {L : S39} (hL : LoopOk L) (n : Nat) (hn : n ≤ l1.length) : 0 ≤ lowW L l1 n ∧ lowW L l1 n ≤ 1000 := by
 have h := coldL_bd _ L.f0.f0 (endL_unfed hN hL n hn true) (by have := hL.w0; omega)
 have := hL.w1
 have := hL.w2
 unfold lowW
 omega
theorem high_bd {l0 : List S39} {l1 : List S37} {l2 : List (List Int)} (hN : NetOk l0 l1 l2) {L : S39} (hL : LoopOk L) (n : Nat) (hn : n ≤ l1.length) : 0 ≤ highW L l1 n ∧ highW L l1 n ≤ 1000 := by
 have h := coldL_bd _ L.f0.f1 (endL_unfed hN hL n hn false) (by have := hL.w0; have := hL.w1; omega)
 have := hL.w2
 unfold highW
 omega
theorem warm_eq {l0 : List S39} {l1 : List S37} {l2 : List (List Int)} (hN : NetOk l0 l1 l2) (i : Int) (i0 : 0 ≤ i) (i1 : i < l0.length) (n : Nat) (hn : n ≤ l1.length) : talikref04_Warm.f l0 l1 l2 i (n : Int) = some (lowW (qaw l0 i) l1 n, highW (qaw l0 i) l1 n) := by
 have hh := hN.h1
 have hL := hN.loops _ (rdT39_mem i0 i1)
 have w0 := hL.w0
 have w1 := hL.w1
 have w2 := hL.w2
 unfold talikref04_Warm.f
 rw [end_eq i i0 i1 n hn (by omega) true, end_eq i i0 i1 n hn (by omega) false]
 simp only [Option.bind_some]
 rw [if_pos ⟨i0, i1⟩]
 unfold playR
 rw [play_cold _ _ _ (endL_unfed hN hL n hn true) (by dsimp only; omega) (by dsimp only; omega), play_cold _ _ _ (endL_unfed hN hL n hn false) (by dsimp only; omega) (by dsimp only; omega)]
 rfl
theorem coldL_append (w : Int) (l : List S44) (T : S44) : coldL w (l ++ [T]) = cold T.f0 T.f1 (coldL w l) := by simp [coldL]
theorem low_succ (L : S39) (l1 : List S37) (n : Nat) : lowW L l1 (n + 1) = cold L.f1.f1 (rd_T37 l1 n).f1 (lowW L l1 n) := by
 unfold lowW
 rw [endL_succ, coldL_append]
 rfl
theorem high_succ (L : S39) (l1 : List S37) (n : Nat) : highW L l1 (n + 1) = cold L.f1.f0 (rd_T37 l1 n).f0 (highW L l1 n) := by
 unfold highW
 rw [endL_succ, coldL_append]
 rfl
theorem bitB_zero (i : Int) : bitB 0 i = false := by
 unfold bitB
 rw [Int.zero_ediv]
 rfl
theorem warmth_at {l0 : List S39} {l1 : List S37} {l2 : List (List Int)} (hN : NetOk l0 l1 l2) (i : Int) (i0 : 0 ≤ i) (i1 : i < l0.length) :
  ∀ n : Nat, n ≤ l1.length → wAt (fun h x => leastV l0 l1 0 i h x) (qaw l0 i).f0.f0 n = lowW (qaw l0 i) l1 n ∧ wAt (fun h x => greatestV l0 l1 0 i h x) (qaw l0 i).f0.f1 n = highW (qaw l0 i) l1 n := by
 have hL := hN.loops _ (rdT39_mem i0 i1)
 have k0 := hL.k0
 have k1 := hL.k1
 have k2 := hL.k2
 intro n
 induction n with
 | zero => intro _; exact ⟨rfl, rfl⟩
 | succ n ih =>
  intro hn
  obtain ⟨h1, h2⟩ := ih (by omega)
  have hf := frost_at hN n (by omega)
  have hl := low_bd hN hL n (by omega)
  have hh := high_bd hN hL n (by omega)
  rw [low_succ, high_succ]
  refine ⟨?_, ?_⟩
  ·
   show leastV l0 l1 0 i n (wAt (fun h x => leastV l0 l1 0 i h x) (qaw l0 i).f0.f0 n) = _
   rw [h1]
   unfold leastV
   rw [bitB_zero]
   exact cold_prog (by show 0 ≤ (qaw l0 i).f1.f1; omega) k2 (by omega) hf.2.2 hl.1 hl.2
  ·
   show greatestV l0 l1 0 i n (wAt (fun h x => greatestV l0 l1 0 i h x) (qaw l0 i).f0.f1 n) = _
   rw [h2]
   unfold greatestV
   rw [bitB_zero]
   exact cold_prog k0 (by show (qaw l0 i).f1.f0 ≤ 1000; omega) hf.1 (by omega) hh.1 hh.2
def rowW (L : S39) (l1 : List S37) (n : Nat) : List S37 := (List.range n).map fun h => ⟨lowW L l1 (h + 1), highW L l1 (h + 1)⟩
theorem rowW_length (L : S39) (l1 : List S37) (n : Nat) : (rowW L l1 n).length = n := by simp [rowW]
theorem rowW_succ (L : S39) (l1 : List S37) (n : Nat) : rowW L l1 (n + 1) = rowW L l1 n ++ [⟨lowW L l1 (n + 1), highW L l1 (n + 1)⟩] := by simp [rowW, List.range_succ]
theorem warmthV_eq {l0 : List S39} {l1 : List S37} {l2 : List (List Int)} (hN : NetOk l0 l1 l2) (i : Int) (i0 : 0 ≤ i) (i1 : i < l0.length) : warmthV l0 l1 0 i = rowW (qaw l0 i) l1 l1.length := by
 unfold warmthV rowW
 refine List.map_congr_left fun h hh => ?_
 have h1 := warmth_at hN i i0 i1 (h + 1) (by have := List.mem_range.1 hh; omega)
 rw [h1.1, h1.2]
theorem low_high {l0 : List S39} {l1 : List S37} {l2 : List (List Int)} (hN : NetOk l0 l1 l2) {L : S39} (hL : LoopOk L) : ∀ n : Nat, n ≤ l1.length → lowW L l1 n ≤ highW L l1 n := by
 intro n
 induction n with
 | zero => intro _; exact hL.w1
 | succ n ih =>
  intro hn
  have hf := frost_at hN n (by omega)
  have hl := low_bd hN hL n (by omega)
  rw [low_succ, high_succ]
  exact cold_mono hL.k2 hL.k1 hL.k0 hf.2.1 hf.1 hl.1 (ih (by omega))
def frz2 : List S37 → Int → Int → Int → Int × Int
 | [], _, may, must => (may, must)
 | s :: t, h, may, must => frz2 t (h + 1) (if may < 0 ∧ s.f0 = 0 then h + 1 else may) (if must < 0 ∧ s.f1 = 0 then h + 1 else must)
theorem frz2_stay : ∀ (t : List S37) (h may must : Int), 0 ≤ may → 0 ≤ must → frz2 t h may must = (may, must)
 | [], _, _, _, _, _ => rfl
 | s :: t, h, may, must, h0, h1 => by
  unfold frz2
  rw [if_neg (by omega), if_neg (by omega)]
  exact frz2_stay t _ _ _ h0 h1
theorem frz_frz2 : ∀ (t : List S37) (h may : Int), 0 ≤ h → (∀ s ∈ t, 0 ≤ s.f0 ∧ s.f0 ≤ s.f1) → frz2 t h may (-1) = frz t h may
 | [], _, _, _, _ => rfl
 | s :: t, h, may, h0, hs => by
  have h1 := hs s (by simp)
  unfold frz2 frz
  by_cases hz : s.f1 = 0
  ·
   rw [if_pos hz, if_pos (show (-1 : Int) < 0 ∧ s.f1 = 0 from ⟨by decide, hz⟩)]
   have e : (if may < 0 ∧ s.f0 = 0 then h + 1 else may) = (if s.f0 = 0 ∧ may < 0 then h + 1 else may) := by
    by_cases hm : may < 0 <;> by_cases h2 : s.f0 = 0 <;> simp [hm, h2]
   rw [e, frz2_stay _ _ _ _ (by split <;> omega) (by omega)]
  ·
   have e2 : (if (-1 : Int) < 0 ∧ s.f1 = 0 then h + 1 else -1) = -1 := if_neg (fun h => hz h.2)
   rw [if_neg hz, e2, frz_frz2 t (h + 1) _ (by omega) (fun x hx => hs x (by simp [hx]))]
   congr 1
   by_cases hm : may < 0 <;> by_cases h2 : s.f0 = 0 <;> simp [hm, h2]
theorem rfreezes_go {l0 : List S39} {l1 : List S37} {l2 : List (List Int)} (hN : NetOk l0 l1 l2) (i : Int) (i0 : 0 ≤ i) (i1 : i < l0.length) :
  ∀ (m j k : Nat) (may must : Int), j + m = l1.length → 2 * m + 80 ≤ k → talikref04_Freezes.l0 k i may must ((j + 1 : Nat) : Int) l0 l1 l2 = some (frz2 ((rowW (qaw l0 i) l1 l1.length).drop j) j may must) := by
 have hh := hN.h1
 intro m
 induction m with
 | zero =>
  intro j k may must hj hk
  obtain ⟨k, rfl⟩ : ∃ k', k = k' + 1 := ⟨k - 1, by omega⟩
  unfold talikref04_Freezes.l0
  rw [if_neg (by omega), List.drop_eq_nil_of_le (by rw [rowW_length]; omega)]
  rfl
 | succ m ih =>
  intro j k may must hj hk
  obtain ⟨k, rfl⟩ : ∃ k', k = k' + 2 := ⟨k - 2, by omega⟩
  have hlt : j < (rowW (qaw l0 i) l1 l1.length).length := by rw [rowW_length]; omega
  have hat : (rowW (qaw l0 i) l1 l1.length)[j] = ⟨lowW (qaw l0 i) l1 (j + 1), highW (qaw l0 i) l1 (j + 1)⟩ := by simp [rowW]
  have hr := fun a b => ih (j + 1) k a b (by omega) (by omega)
  have hw : wrap64 (((j + 1 : Nat) : Int) + 1) = ((j + 1 + 1 : Nat) : Int) := wsucc (j + 1) (by omega)
  unfold talikref04_Freezes.l0
  rw [if_pos (by omega), warm_eq hN i i0 i1 (j + 1) (by omega), List.drop_eq_getElem_cons hlt, hat]
  simp only [Option.bind_some, frz2]
  have e : ((j : Int) + 1) = ((j + 1 : Nat) : Int) := by omega
  rw [e]
  generalize lowW (qaw l0 i) l1 (j + 1) = a
  generalize highW (qaw l0 i) l1 (j + 1) = b
  by_cases h1 : may < 0 <;> by_cases h2 : a = 0 <;> by_cases h3 : must < 0 <;> by_cases h4 : b = 0 <;> simp only [h1, h2, h3, h4, talikref04_Freezes.j1, hw, hr, if_true, if_false, and_true, and_false, and_self, true_and, false_and, beq_self_eq_true, beq_iff_eq, decide_false, decide_true, Bool.false_eq_true]
theorem rowW_ok {l0 : List S39} {l1 : List S37} {l2 : List (List Int)} (hN : NetOk l0 l1 l2) {L : S39} (hL : LoopOk L) : ∀ s ∈ rowW L l1 l1.length, 0 ≤ s.f0 ∧ s.f0 ≤ s.f1 := by
 intro s hs
 unfold rowW at hs
 simp only [List.mem_map, List.mem_range] at hs
 obtain ⟨h, hh, rfl⟩ := hs
 exact ⟨(low_bd hN hL (h + 1) (by omega)).1, low_high hN hL (h + 1) (by omega)⟩
theorem rfreezes_eq {l0 : List S39} {l1 : List S37} {l2 : List (List Int)} (hN : NetOk l0 l1 l2) (i : Int) (i0 : 0 ≤ i) (i1 : i < l0.length) (k : Nat) (hk : 230 ≤ k) : talikref04_Freezes.f k l0 l1 l2 i = some (frz (warmthV l0 l1 0 i) 0 (-1)) := by
 have hh := hN.h1
 have h := rfreezes_go hN i i0 i1 l1.length 0 k (-1) (-1) (by omega) (by omega)
 have hL := hN.loops _ (rdT39_mem i0 i1)
 rw [List.drop_zero] at h
 have h2 := frz_frz2 (rowW (qaw l0 i) l1 l1.length) 0 (-1) (Int.le_refl _) (rowW_ok hN hL)
 rw [warmthV_eq hN i i0 i1]
 exact h.trans (congrArg some h2)
end Go.Proofs.Ytipphcjgdebecaa.PA
namespace Go.Proofs.Ytipphcjgdebecaa.PA
open Go.RowKit Go.Shelf Go.Proofs.YtipphcjgdebecaaW.PrintWords Go.Proofs.YtipphcjgdebecaaW.PrintLast Go.Proofs.YtipphcjgdebecaaW.PrintMore
attribute [local go_sem] qbd qbf max_two min_two qay qaz qbe qbg
def Opens {α : Type} (d : Kd α) (t : TypeId) : Prop := ∀ (H : Type) (enc : TypeId × Value → H) (w : World) (base fuel : Nat) (cs : List Value) (x : DataW H × List MemPlace), DataW.trod enc Try.prog w base (fun _ => true) true fuel t cs = some x → ∃ v, d.K w v cs
theorem opens_int : Opens (Kd.int .i64) 3 := by
 intro H enc w base fuel cs x h
 obtain ⟨n, rfl, _, _⟩ := DataW.trod_int Try.underlying3 h
 exact ⟨n, rfl⟩
theorem cell_of_cells {w : World} {base n : Nat} {a : Addr} {cs : List Value} (h : w.cells? base a n = some cs) : cs.length = n ∧ ∀ i u, cs[i]? = some u → w.cell? (a.add i) = some u := by
 unfold World.cells? at h
 split at h
 ·
  refine ⟨by simpa using mapM_some_length h, fun i u hu => ?_⟩
  have hi : i < n := by
   have h1 := mapM_some_length h
   have h2 := (List.getElem?_eq_some_iff.1 hu).1
   simp at h1
   omega
  have h3 := mapM_some_get h i i (by simp [hi])
  rw [h3]
  exact hu
 ·
  cases h
theorem opens_slice {α : Type} {d : Kd α} {t e : TypeId} (z : α) (ht : Try.prog.underlying t = some (.slice e)) (hz : Try.prog.cellsOf e = d.sz) (hd : Opens d e) : Opens (Kd.slice e d) t := by
 intro H enc w base fuel cs x h
 rcases Deep.open_slice ht h with ⟨rfl, _⟩ | ⟨a, len, cap, m, n, D, Pl, rfl, hb, hl, hm, hmm, _, hel⟩
 ·
  exact ⟨[], none, 0, rfl, Nat.le_refl _, rfl, by simp, fun h => absurd h (by simp)⟩
 ·
  simp only [if_true] at hmm
  subst hmm
  haveI : Inhabited (α × List Value) := ⟨(z, [])⟩
  obtain ⟨F, hF⟩ : ∃ F : Nat → α × List Value, ∀ i, i < len → w.cells? base (a.add (i * Try.prog.cellsOf e)) (Try.prog.cellsOf e) = some (F i).2 ∧ d.K w (F i).1 (F i).2 := by
   have hx : ∀ i, i < len → ∃ q : α × List Value, w.cells? base (a.add (i * Try.prog.cellsOf e)) (Try.prog.cellsOf e) = some q.2 ∧ d.K w q.1 q.2 := fun i hi => by
    obtain ⟨cs', h1, h2⟩ := hel i (by omega)
    obtain ⟨v, hv⟩ := hd H enc w base n cs' _ h2
    exact ⟨(v, cs'), h1, hv⟩
   exact Deep.choose_lt hx
  have hlen : ((List.range len).map fun i => (F i).1).length = len := by simp
  refine ⟨(List.range len).map fun i => (F i).1, some a, m, by rw [hlen], by rw [hlen]; exact hl, rfl, ?_, fun _ => ⟨a, rfl, fun j p hj => ?_⟩⟩
  ·
   rw [hlen]
   have : maxLen ≤ 9223372036854775807 := by decide
   omega
  ·
   obtain ⟨hj1, hj2⟩ := List.getElem?_eq_some_iff.1 hj
   have hjl : j < len := by simpa using hj1
   have hp : p = (F j).1 := by simpa using hj2.symm
   subst hp
   obtain ⟨h1, h2⟩ := hF j hjl
   refine ⟨(F j).2, d.K_len h2, h2, fun i u hu => ?_⟩
   have h3 := (cell_of_cells h1).2 i u hu
   rw [Deep.add_add, hz] at h3
   exact h3
theorem K_pair {α β : Type} {a : Kd α} {b : Kd β} {w : World} {cs : List Value} {o : Nat} {x : α} {y : β} (h1 : a.K w x ((cs.drop o).take a.sz)) (h2 : b.K w y (cs.drop (o + a.sz))) : (Kd.pair a b).K w (x, y) (cs.drop o) :=
 ⟨_, _, by have h := (List.take_append_drop a.sz (cs.drop o)).symm; rwa [List.drop_drop] at h, h1, h2⟩
theorem K_last {α : Type} {a : Kd α} {w : World} {cs : List Value} {o : Nat} {x : α} (h1 : a.K w x ((cs.drop o).take a.sz)) (hl : cs.length = o + a.sz) : a.K w x (cs.drop o) := by
 rwa [List.take_of_length_le (by simp; omega)] at h1
theorem field_of {α : Type} {d : Kd α} {t : TypeId} (hd : Opens d t) (hz : Try.prog.cellsOf t = d.sz) {H : Type} {enc : TypeId × Value → H} {w : World} {base n o : Nat} {cs : List Value} {xs : List (DataW H × List MemPlace)} {i : Nat} (hi : i < xs.length)
  (h : DataW.trod enc Try.prog w base (fun _ => true) true n t ((cs.drop o).take (Try.prog.cellsOf t)) = xs[i]?) : ∃ v, d.K w v ((cs.drop o).take d.sz) := by
 rw [hz, List.getElem?_eq_getElem hi] at h
 exact hd H enc w base n _ _ h
theorem opens_37 : Opens k37 37 := by
 intro H enc w base fuel cs x h
 obtain ⟨xs, n, rfl, rfl, hl, hxl, hf⟩ := DataW.trod_struct Try.underlying37 h
 have hl' : cs.length = 2 := hl.trans (by kernel_rfl)
 have hx : xs.length = 2 := hxl
 obtain ⟨v0, e0⟩ := field_of opens_int (by kernel_rfl) (i := 0) (by omega) (hf 0 _ rfl)
 obtain ⟨v1, e1⟩ := field_of opens_int (by kernel_rfl) (i := 1) (by omega) (hf 1 _ rfl)
 exact ⟨⟨v0, v1⟩, K_pair (o := 0) e0 (K_last (o := 0 + 1) e1 hl')⟩
theorem opens_39 : Opens k39 39 := by
 intro H enc w base fuel cs x h
 obtain ⟨xs, n, rfl, rfl, hl, hxl, hf⟩ := DataW.trod_struct Try.underlying39 h
 have hl' : cs.length = 12 := hl.trans (by kernel_rfl)
 have hx : xs.length = 8 := hxl
 obtain ⟨v0, e0⟩ := field_of opens_37 (by kernel_rfl) (i := 0) (by omega) (hf 0 _ rfl)
 obtain ⟨v1, e1⟩ := field_of opens_37 (by kernel_rfl) (i := 1) (by omega) (hf 1 _ rfl)
 obtain ⟨v2, e2⟩ := field_of opens_37 (by kernel_rfl) (i := 2) (by omega) (hf 2 _ rfl)
 obtain ⟨v3, e3⟩ := field_of opens_int (by kernel_rfl) (i := 3) (by omega) (hf 3 _ rfl)
 obtain ⟨v4, e4⟩ := field_of opens_int (by kernel_rfl) (i := 4) (by omega) (hf 4 _ rfl)
 obtain ⟨v5, e5⟩ := field_of opens_int (by kernel_rfl) (i := 5) (by omega) (hf 5 _ rfl)
 obtain ⟨v6, e6⟩ := field_of opens_int (by kernel_rfl) (i := 6) (by omega) (hf 6 _ rfl)
 obtain ⟨v7, e7⟩ := field_of opens_37 (by kernel_rfl) (i := 7) (by omega) (hf 7 _ rfl)
 exact ⟨⟨v0, v1, v2, v3, v4, v5, v6, v7⟩, K_pair (o := 0) e0 (K_pair (o := 0 + 2) e1 (K_pair (o := 0 + 2 + 2) e2 (K_pair (o := 0 + 2 + 2 + 2) e3 (K_pair (o := 0 + 2 + 2 + 2 + 1) e4 (K_pair (o := 0 + 2 + 2 + 2 + 1 + 1) e5 (K_pair (o := 0 + 2 + 2 + 2 + 1 + 1 + 1) e6 (K_last (o := 0 + 2 + 2 + 2 + 1 + 1 + 1 + 1) e7 hl')))))))⟩
theorem opens_22 : Opens (Kd.slice 39 k39) 22 := opens_slice z39 Try.underlying22 (by kernel_rfl) opens_39
theorem opens_23 : Opens (Kd.slice 37 k37) 23 := opens_slice z37 Try.underlying23 (by kernel_rfl) opens_37
theorem opens_47 : Opens (Kd.slice 3 (Kd.int .i64)) 47 := opens_slice 0 Try.underlying47 (by kernel_rfl) opens_int
theorem opens_24 : Opens (Kd.slice 47 (Kd.slice 3 (Kd.int .i64))) 24 := opens_slice [] Try.underlying24 (by kernel_rfl) opens_47
set_option maxRecDepth 100000 in
theorem open_net {H : Type} {enc : TypeId × Value → H} {w : World} {b0 : Nat} {v : Value} {d : DataW H} {p : List MemPlace} (hv : Value.okWide Try.prog w .any b0 26 v) (h : DataW.Trod enc Try.prog w 0 (fun _ => true) true 26 v d p) :
  ∃ (A0 : Option Addr) (c0 : Nat) (l0 : List S39) (A1 : Option Addr) (c1 : Nat) (l1 : List S37) (A2 : Option Addr) (c2 : Nat) (l2 : List (List Int)), v = .agg #[.slice A0 l0.length c0, .slice A1 l1.length c1, .slice A2 l2.length c2] ∧
   Kd.C k39 w A0 l0.length l0 ∧ l0.length ≤ c0 ∧ Kd.C k37 w A1 l1.length l1 ∧ l1.length ≤ c1 ∧ Kd.C (Kd.slice 3 (Kd.int .i64)) w A2 l2.length l2 ∧ l2.length ≤ c2 := by
 obtain ⟨v0, v1, v2, y0, y1, y2, n, rfl, _, _, h0, h1, h2⟩ := Joins.open_agg3 Try.underlying26 (by kernel_rfl) (by kernel_rfl) hv h
 obtain ⟨l0, A0, c0, e0, f0, g0⟩ := opens_22 H enc w 0 n _ _ h0
 obtain ⟨l1, A1, c1, e1, f1, g1⟩ := opens_23 H enc w 0 n _ _ h1
 obtain ⟨l2, A2, c2, e2, f2, g2⟩ := opens_24 H enc w 0 n _ _ h2
 injection e0 with e0 _
 injection e1 with e1 _
 injection e2 with e2 _
 subst e0 e1 e2
 exact ⟨A0, c0, l0, A1, c1, l1, A2, c2, l2, rfl, g0, f0, g1, f1, g2, f2⟩
end Go.Proofs.Ytipphcjgdebecaa.PA
