/- What functions of the program answer. No condition. -/
import Derived.RangeFuncNested
import Derived.RangeFuncBound
import Derived.RangeFuncCalls
import Derived.RangeFuncLeaves
import Derived.RangeFuncBox
import Derived.Shelf.Abstract
import Derived.Shelf.RegionOpen
import Derived.OwnWalkIn
import Derived.TacticsInMore
import Derived.LoopNIn
import Derived.LoopIn
import Derived.Recover
import Derived.Defers
import Derived.WalkLawsBesides
import Derived.WalkSmall
import Derived.Test.YtipphcjgdebecaaPsB
import Derived.Test.YtipphcjgdebecaaSC
import Derived.Test.YtipphcjgdebecaaSM
import Derived.Test.YtipphcjgdebecaaPsA
import Derived.Test.YtipphcjgdebecaaSD
import Derived.Test.YtipphcjgdebecaaSF
import Derived.Test.YtipphcjgdebecaaSG
set_option linter.all false
set_option maxRecDepth 100000
set_option maxHeartbeats 8000000
namespace Go.Proofs.Ytipphcjgdebecaa.PA
open Go.RowKit Go.Shelf Go.Proofs.YtipphcjgdebecaaW.PrintWords Go.Proofs.YtipphcjgdebecaaW.PrintLast Go.Proofs.YtipphcjgdebecaaW.PrintMore
attribute [local go_sem] qaw qay max_two min_two qas qat qax qaz
structure SHI (wm : World) (gb : Nat) (nb : Array Value) (xs : List (Nat × Array Value)) (W : World) : Prop where
 b : W.heap[gb]? = some (.cells nb 26 (0, 0))
 hb : Below wm.heap.size wm W
 x : ∀ p ∈ xs, W.heap[p.1]? = some (.cells p.2 31 (0, 0))
theorem SHI.below {wm W W' : World} {gb : Nat} {nb : Array Value} {xs : List (Nat × Array Value)} (h : SHI wm gb nb xs W) (hb : Below W.heap.size W W') : SHI wm gb nb xs W' := ⟨qag h.b hb, qad h.hb hb, fun p hp => qag (h.x p hp) hb⟩
theorem SHI.ne {wm W : World} {gb g : Nat} {nb : Array Value} {xs : List (Nat × Array Value)} (h : SHI wm gb nb xs W) (hg : g = W.heap.size) : ∀ p ∈ xs, p.1 ≠ g := fun p hp e => by
 have := blk_lt (h.x p hp)
 omega
theorem SHI.put {wm W : World} {gb g : Nat} {nb : Array Value} {xs : List (Nat × Array Value)} (h : SHI wm gb nb xs W) (ba : W.heap[g]? = some (.cells #[.int .i64 0, .int .i64 0, .int .i64 0, .int .i64 0] 31 (0, 0))) (ga : wm.heap.size ≤ g) (na : ∀ p ∈ xs, p.1 ≠ g) (v0 v1 v2 v3 : Value) :
  SHI wm gb nb ((g, #[v0, v1, v2, v3]) :: xs) ((((W.setCell ⟨g, 0, none⟩ v0).setCell ⟨g, 1, none⟩ v1).setCell ⟨g, 2, none⟩ v2).setCell ⟨g, 3, none⟩ v3) := by
 have hne := blk_ne h.b ba (by decide)
 refine ⟨blk_far (p := ⟨g, 3, none⟩) (blk_far (p := ⟨g, 2, none⟩) (blk_far (p := ⟨g, 1, none⟩) (blk_far (p := ⟨g, 0, none⟩) h.b hne _) hne _) hne _) hne _, qai (qai (qai (qai h.hb ga) ga) ga) ga, fun p hp => ?_⟩
 rcases List.mem_cons.1 hp with rfl | hp
 ·
  exact qba (qba (qba (qba ba 0 v0) 1 v1) 2 v2) 3 v3
 ·
  have hn := na p hp
  exact blk_far (p := ⟨g, 3, none⟩) (blk_far (p := ⟨g, 2, none⟩) (blk_far (p := ⟨g, 1, none⟩) (blk_far (p := ⟨g, 0, none⟩) (h.x p hp) hn _) hn _) hn _) hn _
theorem taliklaw04_PipeSharp.calls (A0_0 : Option Addr) (c0_0 : Nat) (l0_0 : List S39) (A0_1 : Option Addr) (c0_1 : Nat) (l0_1 : List S37) (A0_2 : Option Addr) (c0_2 : Nat) (l0_2 : List (List Int)) (a1 a2 : Int) (r : Bool) (w : World) (hr0_0 : Kd.C k39 w A0_0 l0_0.length l0_0) (hc0_0 : l0_0.length ≤ c0_0) (hr0_1 : Kd.C k37 w A0_1 l0_1.length l0_1) (hc0_1 : l0_1.length ≤ c0_1) (hr0_2 : Kd.C (Kd.slice 3 (Kd.int .i64)) w A0_2 l0_2.length l0_2) (hc0_2 : l0_2.length ≤ c0_2) (h : (some true : Option Bool) = some r) : Calls Try.prog 14 #[.agg #[.slice A0_0 l0_0.length c0_0, .slice A0_1 l0_1.length c0_1, .slice A0_2 l0_2.length c0_2], .int .i64 a1, .int .i64 a2] w fun e w' => e = .returned (.bool r) ∧ Below w.heap.size w w' := by
 obtain rfl := Option.some.inj h; clear h; have hu26 := Try.underlying26; have HB := qab.mk (Below.refl w.heap.size w); have HR0 := qab.mk hr0_0; have HR1 := qab.mk hr0_1; have HR2 := qab.mk hr0_2; clear hr0_0 hr0_1 hr0_2
 have HSHORT : qab (∀ W, Below w.heap.size w W → Calls Try.prog 16 #[.agg #[.slice A0_0 l0_0.length c0_0, .slice A0_1 l0_1.length c0_1, .slice A0_2 l0_2.length c0_2]] W fun e w' => e = .returned (.bool (shortB l0_0 l0_1 l0_2)) ∧ Below W.heap.size W w') := ⟨fun W hW => (taliklaw04_short.calls 30 _ _ l0_0 _ _ l0_1 _ _ l0_2 _ W (Kd.qaj HR0.out hW) hc0_0 (Kd.qaj HR1.out hW) hc0_1 (Kd.qaj HR2.out hW) hc0_2 (short_eq l0_0 l0_1 l0_2 30 (by omega))).mono fun e w' ⟨h1, h2⟩ => ⟨h1, h2⟩⟩
 have HKNOWN : qab (∀ W, Below w.heap.size w W → Calls Try.prog 17 #[] W fun e w' => e = .returned (.bool true) ∧ Below W.heap.size W w') := ⟨fun W hW => taliklaw04_known.calls true W rfl⟩
 cases hs : shortB l0_0 l0_1 l0_2 with
 | false =>
  rw [hs] at HSHORT
  go_enter Try.func14, Try.ntmps14
  go_wp2_with (first | (with_reducible refine qan (N := 3) rfl ?_); refine qam ?hg (N := 3) ?hd (cs := #[.slice A0_0 l0_0.length c0_0, .slice A0_1 l0_1.length c0_1, .slice A0_2 l0_2.length c0_2]) (t := 26) ?hr ?_; (case hd => rfl); (case hg => rfl); (case hr => first | (go_simp; done) | (go_simp; rfl)); intro gb hg_gb w2 hbox hb; have BKgb := qab.mk hbox; have n_HB := qab.mk (qad HB.out hb); have GEgb : w.heap.size ≤ gb := (by rw [hg_gb]; exact HB.out.size); clear HB; have HB := n_HB; clear n_HB; obtain ⟨hfgb, hcgb_0, hcgb_1, hcgb_2⟩ := qz3 BKgb.out; clear hbox hb hg_gb | (go_at_call 16; with_reducible refine (HSHORT.out _ HB.out).mono ?_; rintro e wn ⟨rfl, hb⟩; replace BKgb := qab.mk (qag BKgb.out hb); replace HB := qab.mk (qad HB.out hb); clear hb; obtain ⟨hfgb, hcgb_0, hcgb_1, hcgb_2⟩ := qz3 BKgb.out) | (go_at_call 17; with_reducible refine (HKNOWN.out _ HB.out).mono ?_; rintro e wn ⟨rfl, hb⟩; replace BKgb := qab.mk (qag BKgb.out hb); replace HB := qab.mk (qad HB.out hb); clear hb; obtain ⟨hfgb, hcgb_0, hcgb_1, hcgb_2⟩ := qz3 BKgb.out))
  go_ret
  exact ⟨rfl, HB.out⟩
 | true =>
  have hsh := short_of hs
  rw [hs] at HSHORT
  clear hs
  have HNET : qab (∀ W, Below w.heap.size w W → Calls Try.prog 19 #[.agg #[.slice A0_0 l0_0.length c0_0, .slice A0_1 l0_1.length c0_1, .slice A0_2 l0_2.length c0_2]] W fun e w' => e = .returned (.bool (validB l0_0 l0_1 l0_2)) ∧ Below W.heap.size W w') := ⟨fun W hW => (talikref04_Net.calls _ _ l0_0 _ _ l0_1 _ _ l0_2 _ W (Kd.qaj HR0.out hW) hc0_0 (Kd.qaj HR1.out hW) hc0_1 (Kd.qaj HR2.out hW) hc0_2 (net_eq l0_0 l0_1 l0_2 hsh 300 (by omega))).mono fun e w' ⟨h1, h2⟩ => ⟨h1, h2⟩⟩
  cases hv : validB l0_0 l0_1 l0_2 with
  | false =>
   rw [hv] at HNET
   clear hv
   go_enter Try.func14, Try.ntmps14
   go_wp2_with (first | (with_reducible refine qan (N := 3) rfl ?_); refine qam ?hg (N := 3) ?hd (cs := #[.slice A0_0 l0_0.length c0_0, .slice A0_1 l0_1.length c0_1, .slice A0_2 l0_2.length c0_2]) (t := 26) ?hr ?_; (case hd => rfl); (case hg => rfl); (case hr => first | (go_simp; done) | (go_simp; rfl)); intro gb hg_gb w2 hbox hb; have BKgb := qab.mk hbox; have n_HB := qab.mk (qad HB.out hb); have GEgb : w.heap.size ≤ gb := (by rw [hg_gb]; exact HB.out.size); clear HB; have HB := n_HB; clear n_HB; obtain ⟨hfgb, hcgb_0, hcgb_1, hcgb_2⟩ := qz3 BKgb.out; clear hbox hb hg_gb | (go_at_call 16; with_reducible refine (HSHORT.out _ HB.out).mono ?_; rintro e wn ⟨rfl, hb⟩; replace BKgb := qab.mk (qag BKgb.out hb); replace HB := qab.mk (qad HB.out hb); clear hb; obtain ⟨hfgb, hcgb_0, hcgb_1, hcgb_2⟩ := qz3 BKgb.out) | (go_at_call 19; with_reducible refine (HNET.out _ HB.out).mono ?_; rintro e wn ⟨rfl, hb⟩; replace BKgb := qab.mk (qag BKgb.out hb); replace HB := qab.mk (qad HB.out hb); clear hb; obtain ⟨hfgb, hcgb_0, hcgb_1, hcgb_2⟩ := qz3 BKgb.out) | (go_at_call 17; with_reducible refine (HKNOWN.out _ HB.out).mono ?_; rintro e wn ⟨rfl, hb⟩; replace BKgb := qab.mk (qag BKgb.out hb); replace HB := qab.mk (qad HB.out hb); clear hb; obtain ⟨hfgb, hcgb_0, hcgb_1, hcgb_2⟩ := qz3 BKgb.out))
   go_ret
   exact ⟨rfl, HB.out⟩
  | true =>
   rw [hv] at HNET
   have HLO : qab (∀ W, Below w.heap.size w W → Calls Try.prog 20 #[.agg #[.slice A0_0 l0_0.length c0_0, .slice A0_1 l0_1.length c0_1, .slice A0_2 l0_2.length c0_2], .int .i64 a1] W fun e w' => e = .returned (.bool (inB a1 0 (wrap64 ((l0_0.length : Int) - 1)))) ∧ Below W.heap.size W w') := ⟨fun W hW => (talikref04_IsLoop.calls _ _ l0_0 _ _ l0_1 _ _ l0_2 a1 _ W (Kd.qaj HR0.out hW) hc0_0 (Kd.qaj HR1.out hW) hc0_1 (Kd.qaj HR2.out hW) hc0_2 (isloop_eq l0_0 l0_1 l0_2 a1)).mono fun e w' ⟨h1, h2⟩ => ⟨h1, h2⟩⟩
   cases hi : inB a1 0 (wrap64 ((l0_0.length : Int) - 1)) with
   | false =>
    rw [hi] at HLO
    clear hi hv
    go_enter Try.func14, Try.ntmps14
    go_wp2_with (first | (with_reducible refine qan (N := 3) rfl ?_); refine qam ?hg (N := 3) ?hd (cs := #[.slice A0_0 l0_0.length c0_0, .slice A0_1 l0_1.length c0_1, .slice A0_2 l0_2.length c0_2]) (t := 26) ?hr ?_; (case hd => rfl); (case hg => rfl); (case hr => first | (go_simp; done) | (go_simp; rfl)); intro gb hg_gb w2 hbox hb; have BKgb := qab.mk hbox; have n_HB := qab.mk (qad HB.out hb); have GEgb : w.heap.size ≤ gb := (by rw [hg_gb]; exact HB.out.size); clear HB; have HB := n_HB; clear n_HB; obtain ⟨hfgb, hcgb_0, hcgb_1, hcgb_2⟩ := qz3 BKgb.out; clear hbox hb hg_gb | (go_at_call 16; with_reducible refine (HSHORT.out _ HB.out).mono ?_; rintro e wn ⟨rfl, hb⟩; replace BKgb := qab.mk (qag BKgb.out hb); replace HB := qab.mk (qad HB.out hb); clear hb; obtain ⟨hfgb, hcgb_0, hcgb_1, hcgb_2⟩ := qz3 BKgb.out) | (go_at_call 19; with_reducible refine (HNET.out _ HB.out).mono ?_; rintro e wn ⟨rfl, hb⟩; replace BKgb := qab.mk (qag BKgb.out hb); replace HB := qab.mk (qad HB.out hb); clear hb; obtain ⟨hfgb, hcgb_0, hcgb_1, hcgb_2⟩ := qz3 BKgb.out) | (go_at_call 20; with_reducible refine (HLO.out _ HB.out).mono ?_; rintro e wn ⟨rfl, hb⟩; replace BKgb := qab.mk (qag BKgb.out hb); replace HB := qab.mk (qad HB.out hb); clear hb; obtain ⟨hfgb, hcgb_0, hcgb_1, hcgb_2⟩ := qz3 BKgb.out) | (go_at_call 17; with_reducible refine (HKNOWN.out _ HB.out).mono ?_; rintro e wn ⟨rfl, hb⟩; replace BKgb := qab.mk (qag BKgb.out hb); replace HB := qab.mk (qad HB.out hb); clear hb; obtain ⟨hfgb, hcgb_0, hcgb_1, hcgb_2⟩ := qz3 BKgb.out))
    go_ret
    exact ⟨rfl, HB.out⟩
   | true =>
    rw [hi] at HLO
    by_cases c1 : a2 < 1
    ·
     have d1 : decide (a2 < 1) = true := decide_eq_true c1
     clear hi hv
     go_enter Try.func14, Try.ntmps14
     go_wp2_with (first | (with_reducible refine qan (N := 3) rfl ?_); refine qam ?hg (N := 3) ?hd (cs := #[.slice A0_0 l0_0.length c0_0, .slice A0_1 l0_1.length c0_1, .slice A0_2 l0_2.length c0_2]) (t := 26) ?hr ?_; (case hd => rfl); (case hg => rfl); (case hr => first | (go_simp; done) | (go_simp; rfl)); intro gb hg_gb w2 hbox hb; have BKgb := qab.mk hbox; have n_HB := qab.mk (qad HB.out hb); have GEgb : w.heap.size ≤ gb := (by rw [hg_gb]; exact HB.out.size); clear HB; have HB := n_HB; clear n_HB; obtain ⟨hfgb, hcgb_0, hcgb_1, hcgb_2⟩ := qz3 BKgb.out; clear hbox hb hg_gb | (go_at_call 16; with_reducible refine (HSHORT.out _ HB.out).mono ?_; rintro e wn ⟨rfl, hb⟩; replace BKgb := qab.mk (qag BKgb.out hb); replace HB := qab.mk (qad HB.out hb); clear hb; obtain ⟨hfgb, hcgb_0, hcgb_1, hcgb_2⟩ := qz3 BKgb.out) | (go_at_call 19; with_reducible refine (HNET.out _ HB.out).mono ?_; rintro e wn ⟨rfl, hb⟩; replace BKgb := qab.mk (qag BKgb.out hb); replace HB := qab.mk (qad HB.out hb); clear hb; obtain ⟨hfgb, hcgb_0, hcgb_1, hcgb_2⟩ := qz3 BKgb.out) | (go_at_call 20; with_reducible refine (HLO.out _ HB.out).mono ?_; rintro e wn ⟨rfl, hb⟩; replace BKgb := qab.mk (qag BKgb.out hb); replace HB := qab.mk (qad HB.out hb); clear hb; obtain ⟨hfgb, hcgb_0, hcgb_1, hcgb_2⟩ := qz3 BKgb.out) | (go_at_call 17; with_reducible refine (HKNOWN.out _ HB.out).mono ?_; rintro e wn ⟨rfl, hb⟩; replace BKgb := qab.mk (qag BKgb.out hb); replace HB := qab.mk (qad HB.out hb); clear hb; obtain ⟨hfgb, hcgb_0, hcgb_1, hcgb_2⟩ := qz3 BKgb.out))
     go_ret
     exact ⟨rfl, HB.out⟩
    ·
     have d1 : decide (a2 < 1) = false := decide_eq_false c1
     by_cases c2 : (l0_1.length : Int) < a2
     ·
      have d2 : decide ((l0_1.length : Int) < a2) = true := decide_eq_true c2
      clear hi hv
      go_enter Try.func14, Try.ntmps14
      go_wp2_with (first | (with_reducible refine qan (N := 3) rfl ?_); refine qam ?hg (N := 3) ?hd (cs := #[.slice A0_0 l0_0.length c0_0, .slice A0_1 l0_1.length c0_1, .slice A0_2 l0_2.length c0_2]) (t := 26) ?hr ?_; (case hd => rfl); (case hg => rfl); (case hr => first | (go_simp; done) | (go_simp; rfl)); intro gb hg_gb w2 hbox hb; have BKgb := qab.mk hbox; have n_HB := qab.mk (qad HB.out hb); have GEgb : w.heap.size ≤ gb := (by rw [hg_gb]; exact HB.out.size); clear HB; have HB := n_HB; clear n_HB; obtain ⟨hfgb, hcgb_0, hcgb_1, hcgb_2⟩ := qz3 BKgb.out; clear hbox hb hg_gb | (go_at_call 16; with_reducible refine (HSHORT.out _ HB.out).mono ?_; rintro e wn ⟨rfl, hb⟩; replace BKgb := qab.mk (qag BKgb.out hb); replace HB := qab.mk (qad HB.out hb); clear hb; obtain ⟨hfgb, hcgb_0, hcgb_1, hcgb_2⟩ := qz3 BKgb.out) | (go_at_call 19; with_reducible refine (HNET.out _ HB.out).mono ?_; rintro e wn ⟨rfl, hb⟩; replace BKgb := qab.mk (qag BKgb.out hb); replace HB := qab.mk (qad HB.out hb); clear hb; obtain ⟨hfgb, hcgb_0, hcgb_1, hcgb_2⟩ := qz3 BKgb.out) | (go_at_call 20; with_reducible refine (HLO.out _ HB.out).mono ?_; rintro e wn ⟨rfl, hb⟩; replace BKgb := qab.mk (qag BKgb.out hb); replace HB := qab.mk (qad HB.out hb); clear hb; obtain ⟨hfgb, hcgb_0, hcgb_1, hcgb_2⟩ := qz3 BKgb.out) | (go_at_call 17; with_reducible refine (HKNOWN.out _ HB.out).mono ?_; rintro e wn ⟨rfl, hb⟩; replace BKgb := qab.mk (qag BKgb.out hb); replace HB := qab.mk (qad HB.out hb); clear hb; obtain ⟨hfgb, hcgb_0, hcgb_1, hcgb_2⟩ := qz3 BKgb.out))
      go_ret
      exact ⟨rfl, HB.out⟩
     ·
      have d2 : decide ((l0_1.length : Int) < a2) = false := decide_eq_false c2
      have hN := net_ok hv
      have hn0 := hN.n0
      have hn1 := hN.n1
      have hh := hN.h1
      obtain ⟨i0, i1⟩ := (isloop_iff hN a1).1 hi
      have hL := hN.loops _ (rdT39_mem i0 i1)
      obtain ⟨n, rfl⟩ := Int.eq_ofNat_of_zero_le i0
      obtain ⟨N, rfl⟩ := Int.eq_ofNat_of_zero_le (show 0 ≤ a2 by omega)
      obtain ⟨M, rfl⟩ : ∃ M, N = M + 1 := ⟨N - 1, by omega⟩
      have hNl : M + 1 ≤ l0_1.length := by omega
      obtain ⟨y0, z0, u0, hp0⟩ := play_unfed hv n i0 i1 (qal l0_0 n).f0.f0 (Int.le_refl _) hL.w1 (endL (qal l0_0 n) l0_1 (M + 1) true) (by rw [endL_length]; exact hNl) (endL_truth hN hL (M + 1) hNl true) (endL_unfed hN hL (M + 1) hNl true)
      obtain ⟨y1, z1, u1, hp1⟩ := play_unfed hv n i0 i1 (qal l0_0 n).f0.f1 hL.w1 (Int.le_refl _) (endL (qal l0_0 n) l0_1 (M + 1) false) (by rw [endL_length]; exact hNl) (endL_truth hN hL (M + 1) hNl false) (endL_unfed hN hL (M + 1) hNl false)
      obtain ⟨x0, hx0⟩ : ∃ x, x = lowW (qal l0_0 n) l0_1 (M + 1) := ⟨_, rfl⟩
      obtain ⟨x1, hx1⟩ : ∃ x, x = highW (qal l0_0 n) l0_1 (M + 1) := ⟨_, rfl⟩
      rw [show coldL (qal l0_0 n).f0.f0 (endL (qal l0_0 n) l0_1 (M + 1) true) = x0 from hx0.symm] at hp0
      rw [show coldL (qal l0_0 n).f0.f1 (endL (qal l0_0 n) l0_1 (M + 1) false) = x1 from hx1.symm] at hp1
      have HENDG : qab (∀ (b : Bool) W, Below w.heap.size w W → Calls Try.prog 48 #[.agg #[.slice A0_0 l0_0.length c0_0, .slice A0_1 l0_1.length c0_1, .slice A0_2 l0_2.length c0_2], .int .i64 n, .int .i64 ((M + 1 : Nat) : Int), .bool b] W fun e w' => ∃ v, e = .returned v ∧ Kd.R k44 44 w' W.heap.size (fun _ => True) v (endL (qal l0_0 n) l0_1 (M + 1) b) ∧ Below W.heap.size W w') := ⟨fun b W hW => talikref04_End.calls _ _ l0_0 _ _ l0_1 _ _ l0_2 n _ b _ W (Kd.qaj HR0.out hW) hc0_0 (Kd.qaj HR1.out hW) hc0_1 (Kd.qaj HR2.out hW) hc0_2 (end_eq n i0 i1 (M + 1) hNl (by omega) b)⟩
      have HPLG : qab (∀ (x : Int) (t : List S44) (r1 r2 r3 r4 r5 : Int), playV l0_0 l0_1 l0_2 n x t = (r1, r2, r3, r4, r5) → ∀ tA tc W, Below w.heap.size w W → (∃ base ok, Kd.R k44 44 W base ok (.slice tA t.length tc) t) → Calls Try.prog 18 #[.agg #[.slice A0_0 l0_0.length c0_0, .slice A0_1 l0_1.length c0_1, .slice A0_2 l0_2.length c0_2], .int .i64 n, .int .i64 x, .slice tA t.length tc] W fun e w' => e = .returned (.tuple #[.agg #[.int .i64 r1, .int .i64 r2, .int .i64 r3, .int .i64 r4], .int .i64 r5]) ∧ Below W.heap.size W w') := ⟨fun x t r1 r2 r3 r4 r5 h tA tc W hW ⟨base, ok, hr⟩ => pipe_Play.calls _ _ l0_0 _ _ l0_1 _ _ l0_2 n x tA tc t _ _ _ _ _ W (Kd.qaj HR0.out hW) hc0_0 (Kd.qaj HR1.out hW) hc0_1 (Kd.qaj HR2.out hW) hc0_2 (Kd.R_reads' hr).2.2 (Kd.R_reads' hr).2.1 (by unfold pipe_Play.f; rw [h])⟩
      have HWARM : qab (∀ W, Below w.heap.size w W → Calls Try.prog 47 #[.agg #[.slice A0_0 l0_0.length c0_0, .slice A0_1 l0_1.length c0_1, .slice A0_2 l0_2.length c0_2]] W fun e w' => ∃ v, e = .returned (.tuple #[v, .int .i64 0]) ∧ Kd.S (Kd.slice 37 k37) 23 w' W.heap.size (fun _ => True) v (rowsW l0_0 l0_1 l0_0.length) ∧ Below W.heap.size W w') := ⟨fun W hW => pipe_Warmth.calls 10 _ _ l0_0 _ _ l0_1 _ _ l0_2 _ _ W (Kd.qaj HR0.out hW) hc0_0 (Kd.qaj HR1.out hW) hc0_1 (Kd.qaj HR2.out hW) hc0_2 (pwarmth_eq hv 10 (by omega))⟩
      have hrd : rd_L6 (rowsW l0_0 l0_1 l0_0.length) (n : Int) = rowW (qal l0_0 n) l0_1 l0_1.length := by
       rw [rd_L6_at _ n (by rw [rowsW_length]; omega)]
       simp [rowsW]
      have hrow0 : (rd_T37 (rowW (qal l0_0 n) l0_1 l0_1.length) (M : Int)).f0 = x0 ∧ (rd_T37 (rowW (qal l0_0 n) l0_1 l0_1.length) (M : Int)).f1 = x1 := by
       rw [rdT37_at _ M (by rw [rowW_length]; omega), rowW_at, hx0, hx1]
       exact ⟨rfl, rfl⟩
      obtain ⟨ad, e, hl0, hl1, hl2, hl3, hl4, hl5, hl6, hl7, hl8, hl9, hl10, hl11⟩ := at_T39 HR0.out n i0 i1
      cases e
      simp only [Int.toNat_natCast] at hl0 hl1
      clear hl2 hl3 hl4 hl5 hl6 hl7 hl8 hl9 hl10 hl11 hx0 hx1 hi hL hN hsh
      obtain ⟨f0, hf0⟩ : ∃ x, x = (qal l0_0 n).f0.f0 := ⟨_, rfl⟩
      obtain ⟨f1, hf1⟩ : ∃ x, x = (qal l0_0 n).f0.f1 := ⟨_, rfl⟩
      rw [← hf0] at hl0 hp0
      rw [← hf1] at hl1 hp1
      have HL := qab.mk (And.intro hl0 hl1)
      have HP0 := qab.mk (HPLG.out _ _ _ _ _ _ _ hp0)
      have HP1 := qab.mk (HPLG.out _ _ _ _ _ _ _ hp1)
      have HE0 := qab.mk (HENDG.out true)
      have HE1 := qab.mk (HENDG.out false)
      have HRD := qab.mk (And.intro hrd hrow0)
      clear hl0 hl1 hp0 hp1 HPLG HENDG hf0 hf1 hv hrd hrow0
      obtain ⟨e0, he0⟩ : ∃ x, x = endL (qal l0_0 n) l0_1 (M + 1) true := ⟨_, rfl⟩
      obtain ⟨e1, he1⟩ : ∃ x, x = endL (qal l0_0 n) l0_1 (M + 1) false := ⟨_, rfl⟩
      rw [← he0] at HP0 HE0
      rw [← he1] at HP1 HE1
      clear he0 he1
      have hn0' : (0 : Int) ≤ n := i0
      have hnl : (n : Int) < l0_0.length := i1
      have hw1 : IntKind.i64.wrap (((M + 1 : Nat) : Int) - 1) = (M : Int) := by rw [i64_w]; unfold wrap64; omega
      go_enter Try.func14, Try.ntmps14
      go_upto_region 4 with (first | ((with_reducible refine qan (N := 3) rfl ?_); refine qam ?hg (N := 3) ?hd (cs := #[.slice (some ad) l0_0.length c0_0, .slice A0_1 l0_1.length c0_1, .slice A0_2 l0_2.length c0_2]) (t := 26) ?hr ?_; (case hd => rfl); (case hg => rfl); (case hr => first | (go_simp; done) | (go_simp; rfl)); intro gb hg_gb w2 hbox hb; have BKgb := qab.mk hbox; have n_HB := qab.mk (qad HB.out hb); have GEgb : w.heap.size ≤ gb := (by rw [hg_gb]; exact HB.out.size); clear HB; have HB := n_HB; clear n_HB; obtain ⟨hfgb, hcgb_0, hcgb_1, hcgb_2⟩ := qz3 BKgb.out; clear hbox hb hg_gb) | (go_at_call 16; with_reducible refine (HSHORT.out _ HB.out).mono ?_; rintro e wn ⟨rfl, hb⟩; replace BKgb := qab.mk (qag BKgb.out hb); replace HB := qab.mk (qad HB.out hb); clear hb; obtain ⟨hfgb, hcgb_0, hcgb_1, hcgb_2⟩ := qz3 BKgb.out) | (go_at_call 19; with_reducible refine (HNET.out _ HB.out).mono ?_; rintro e wn ⟨rfl, hb⟩; replace BKgb := qab.mk (qag BKgb.out hb); replace HB := qab.mk (qad HB.out hb); clear hb; obtain ⟨hfgb, hcgb_0, hcgb_1, hcgb_2⟩ := qz3 BKgb.out) | (go_at_call 20; with_reducible refine (HLO.out _ HB.out).mono ?_; rintro e wn ⟨rfl, hb⟩; replace BKgb := qab.mk (qag BKgb.out hb); replace HB := qab.mk (qad HB.out hb); clear hb; obtain ⟨hfgb, hcgb_0, hcgb_1, hcgb_2⟩ := qz3 BKgb.out) | (go_at_call 47; with_reducible refine (HWARM.out _ HB.out).mono ?_; rintro e wm ⟨v9, rfl, ho, hb⟩; obtain ⟨mA, mc, rfl⟩ := Kd.R_slice (Kd.S_R ho); have HM := qab.mk (Kd.R_reads' (Kd.S_R ho)).2.2; clear ho; replace BKgb := qab.mk (qag BKgb.out hb); replace HB := qab.mk (qad HB.out hb); clear hb; obtain ⟨hfgb, hcgb_0, hcgb_1, hcgb_2⟩ := qz3 BKgb.out))
      clear hfgb hcgb_0 hcgb_1 hcgb_2
      have HI : qab (SHI wm gb #[.slice (some ad) l0_0.length c0_0, .slice A0_1 l0_1.length c0_1, .slice A0_2 l0_2.length c0_2] [] wm) := ⟨⟨BKgb.out, Below.refl _ _, by simp⟩⟩
      have HWM := HB
      have HW2 : qab (∀ W, Below wm.heap.size wm W → Below w.heap.size w W) := ⟨fun W h => below_then HWM.out HWM.out.size h⟩
      clear BKgb HB
      have HT : qab (∀ {xs : List (Nat × Array Value)} (W : World), SHI wm gb #[.slice (some ad) l0_0.length c0_0, .slice A0_1 l0_1.length c0_1, .slice A0_2 l0_2.length c0_2] xs W → (W.cell? ⟨gb, 0, none⟩ = some (.slice (some ad) l0_0.length c0_0) ∧ W.cell? ⟨gb, 1, none⟩ = some (.slice A0_1 l0_1.length c0_1) ∧ W.cell? ⟨gb, 2, none⟩ = some (.slice A0_2 l0_2.length c0_2) ∧ W.cell? (ad.add (n * 12)) = some (.int .i64 f0) ∧ W.cell? ⟨(ad.add (n * 12)).block, (ad.add (n * 12)).off + 1, none⟩ = some (.int .i64 f1) ∧ qab (SHI wm gb #[.slice (some ad) l0_0.length c0_0, .slice A0_1 l0_1.length c0_1, .slice A0_2 l0_2.length c0_2] xs W))) := ⟨fun {xs} W h => ⟨qaa h.b 0, qaa h.b 1, qaa h.b 2, ((HW2.out W h.hb).cell (World.block_lt_of_cell? w _ HL.out.1)).trans HL.out.1, ((HW2.out W h.hb).cell (World.block_lt_of_cell? w _ HL.out.2)).trans HL.out.2, ⟨h⟩⟩⟩
      have HEND0 : qab (∀ W, Below wm.heap.size wm W → _) := ⟨fun W h => HE0.out W (HW2.out W h)⟩
      have HEND1 : qab (∀ W, Below wm.heap.size wm W → _) := ⟨fun W h => HE1.out W (HW2.out W h)⟩
      have HPLAY0 : qab (∀ tA tc W, Below wm.heap.size wm W → _) := ⟨fun tA tc W h => HP0.out tA tc W (HW2.out W h)⟩
      have HPLAY1 : qab (∀ tA tc W, Below wm.heap.size wm W → _) := ⟨fun tA tc W h => HP1.out tA tc W (HW2.out W h)⟩
      have HKN : qab (∀ W, Below wm.heap.size wm W → _) := ⟨fun W h => HKNOWN.out W (HW2.out W h)⟩
      clear HE0 HE1 HP0 HP1 HSHORT HNET HLO HWARM HKNOWN
      refine start_ (n := 20) (S := (fun w' => (w'.cell? ⟨gb, 0, none⟩ = some (.slice (some ad) l0_0.length c0_0) ∧ w'.cell? ⟨gb, 1, none⟩ = some (.slice A0_1 l0_1.length c0_1) ∧ w'.cell? ⟨gb, 2, none⟩ = some (.slice A0_2 l0_2.length c0_2) ∧ w'.cell? (ad.add (n * 12)) = some (.int .i64 f0) ∧ w'.cell? ⟨(ad.add (n * 12)).block, (ad.add (n * 12)).off + 1, none⟩ = some (.int .i64 f1) ∧ qab (SHI wm gb #[.slice (some ad) l0_0.length c0_0, .slice A0_1 l0_1.length c0_1, .slice A0_2 l0_2.length c0_2] ([] : List (Nat × Array Value)) w')))) (ds := [18]) (msk 20 0) (by kernel_rfl) rfl rfl (HT.out _ (SHI.below HI.out (qbb (Below.refl _ _)))) (fun hHeld => ?_)
      have n_S := qab.mk hHeld; generalize wm.drew = wk at hHeld n_S ⊢; clear n_S
      refine take_ (i := 0) (N := some 45) (v := ?_) (a' := ?_) (msk 20 1) rfl rfl (by kernel_rfl) (fun _ _ _ h => h) (Or.inl ⟨by rfl, ?_⟩) hHeld ?_ ?_; rotate_left; (focus (rintro w' ⟨s0, s1, s2, s3, s4, s5⟩; go_simp; with_reducible rfl)); rotate_left; (focus (simp only [Act.put, qzA, qzB, qzC, i64_w, i32_w]; rfl))
      refine pure_ (i := 1) (N := some 46) (v := ?_) (a' := ?_) (msk 20 2) rfl rfl (by kernel_rfl) (fun _ _ _ h => h) (Or.inl ⟨by rfl, ?_⟩) ?_ ?_; rotate_left; (focus (intro w'; go_simp; with_reducible rfl)); rotate_left; (focus (simp only [Act.put, qzA, qzB, qzC, i64_w, i32_w]; rfl))
      refine pure_ (i := 2) (N := some 47) (v := ?_) (a' := ?_) (msk 20 3) rfl rfl (by kernel_rfl) (fun _ _ _ h => h) (Or.inl ⟨by rfl, ?_⟩) ?_ ?_; rotate_left; (focus (intro w'; go_simp; with_reducible rfl)); rotate_left; (focus (simp only [Act.put, qzA, qzB, qzC, i64_w, i32_w]; rfl))
      refine take_ (i := 3) (N := some 48) (v := ?_) (a' := ?_) (msk 20 4) rfl rfl (by kernel_rfl) (fun _ _ _ h => h) (Or.inl ⟨by rfl, ?_⟩) hHeld ?_ ?_; rotate_left; (focus (rintro w' ⟨s0, s1, s2, s3, s4, s5⟩; go_simp; with_reducible rfl)); rotate_left; (focus (simp only [Act.put, qzA, qzB, qzC, i64_w, i32_w]; rfl))
      refine pure_ (i := 4) (N := some 49) (v := ?_) (a' := ?_) (msk 20 5) rfl rfl (by kernel_rfl) (fun _ _ _ h => h) (Or.inl ⟨by rfl, ?_⟩) ?_ ?_; rotate_left; (focus (intro w'; go_simp; with_reducible rfl)); rotate_left; (focus (simp only [Act.put, qzA, qzB, qzC, i64_w, i32_w]; rfl))
      refine pure_ (i := 5) (N := some 50) (v := ?_) (a' := ?_) (msk 20 6) rfl rfl (by kernel_rfl) (fun _ _ _ h => h) (Or.inl ⟨by rfl, ?_⟩) ?_ ?_; rotate_left; (focus (intro w'; go_simp; with_reducible rfl)); rotate_left; (focus (simp only [Act.put, qzA, qzB, qzC, i64_w, i32_w]; rfl))
      refine pure_ (i := 6) (N := some 51) (v := ?_) (a' := ?_) (msk 20 7) rfl rfl (by kernel_rfl) (fun _ _ _ h => h) (Or.inl ⟨by rfl, ?_⟩) ?_ ?_; rotate_left; (focus (intro w'; go_simp; with_reducible rfl)); rotate_left; (focus (simp only [Act.put, qzA, qzB, qzC, i64_w, i32_w]; rfl))
      refine pure_ (i := 7) (N := some 52) (v := ?_) (a' := ?_) (msk 20 8) rfl rfl (by kernel_rfl) (fun _ _ _ h => h) (Or.inl ⟨by rfl, ?_⟩) ?_ ?_; rotate_left; (focus (intro w'; go_simp; with_reducible rfl)); rotate_left; (focus (simp only [Act.put, qzA, qzB, qzC, i64_w, i32_w]; rfl))
      refine take_ (i := 8) (N := some 53) (v := ?_) (a' := ?_) (msk 20 9) rfl rfl (by kernel_rfl) (fun _ _ _ h => h) (Or.inl ⟨by rfl, ?_⟩) hHeld ?_ ?_; rotate_left; (focus (rintro w' ⟨s0, s1, s2, s3, s4, s5⟩; go_simp; with_reducible rfl)); rotate_left; (focus (simp only [Act.put, qzA, qzB, qzC, i64_w, i32_w]; rfl))
      refine take_ (i := 9) (N := some 54) (v := ?_) (a' := ?_) (msk 20 10) rfl rfl (by kernel_rfl) (fun _ _ _ h => h) (Or.inl ⟨by rfl, ?_⟩) hHeld ?_ ?_; rotate_left; (focus (rintro w' ⟨s0, s1, s2, s3, s4, s5⟩; go_simp; with_reducible rfl)); rotate_left; (focus (simp only [Act.put, qzA, qzB, qzC, i64_w, i32_w]; rfl))
      refine pure_ (i := 10) (N := some 55) (v := ?_) (a' := ?_) (msk 20 11) rfl rfl (by kernel_rfl) (fun _ _ _ h => h) (Or.inl ⟨by rfl, ?_⟩) ?_ ?_; rotate_left; (focus (intro w'; go_simp; with_reducible rfl)); rotate_left; (focus (simp only [Act.put, qzA, qzB, qzC, i64_w, i32_w]; rfl))
      refine pure_ (i := 11) (N := some 56) (v := ?_) (a' := ?_) (msk 20 12) rfl rfl (by kernel_rfl) (fun _ _ _ h => h) (Or.inl ⟨by rfl, ?_⟩) ?_ ?_; rotate_left; (focus (intro w'; go_simp; with_reducible rfl)); rotate_left; (focus (simp only [Act.put, qzA, qzB, qzC, i64_w, i32_w]; rfl))
      refine join_ (σ := Option Addr × Nat × Nat) 2 (msk 20 18) (fun s_ => [(57, .slice s_.1 e0.length s_.2.1), (58, .tuple #[.agg #[.int .i64 x0, .int .i64 y0, .int .i64 z0, .int .i64 u0], .int .i64 0]), (44, .tuple #[.agg #[.int .i64 x0, .int .i64 y0, .int .i64 z0, .int .i64 u0], .int .i64 0]), (59, .agg #[.int .i64 x0, .int .i64 y0, .int .i64 z0, .int .i64 u0]), (60, .int .i64 0), (9, .pointer (some ⟨s_.2.2, 0, none⟩))]) (fun s_ w' => (w'.cell? ⟨gb, 0, none⟩ = some (.slice (some ad) l0_0.length c0_0) ∧ w'.cell? ⟨gb, 1, none⟩ = some (.slice A0_1 l0_1.length c0_1) ∧ w'.cell? ⟨gb, 2, none⟩ = some (.slice A0_2 l0_2.length c0_2) ∧ w'.cell? (ad.add (n * 12)) = some (.int .i64 f0) ∧ w'.cell? ⟨(ad.add (n * 12)).block, (ad.add (n * 12)).off + 1, none⟩ = some (.int .i64 f1) ∧ qab (SHI wm gb #[.slice (some ad) l0_0.length c0_0, .slice A0_1 l0_1.length c0_1, .slice A0_2 l0_2.length c0_2] ([] : List (Nat × Array Value)) w')) ∧ w'.heap[s_.2.2]? = some (.cells #[.int .i64 0, .int .i64 0, .int .i64 0, .int .i64 0] 31 (0, 0)) ∧ wm.heap.size ≤ s_.2.2 ∧ (∀ p ∈ ([] : List (Nat × Array Value)), p.1 ≠ s_.2.2)) ?_ ?_
      rotate_left
      ·
       intro hCont
       refine two_ (i := 12) (j := 17) (Ni := some 57) (Nj := some 9) (msk 20 13) #[true, true, true, true, true, true, true, true, true, true, true, true, false, false, false, false, false, true, false, false] rfl rfl rfl rfl (by kernel_rfl) (by decide) (by decide) (fun K hK => ?_) (fun K hK => ?_)
       ·
        refine goes_ Try.func48 (by kernel_rfl) rfl #[.agg #[.slice (some ad) l0_0.length c0_0, .slice A0_1 l0_1.length c0_1, .slice A0_2 l0_2.length c0_2], .int .i64 n, .int .i64 ((M + 1 : Nat) : Int), .bool true] (by rfl) rfl rfl (by (try simp only [List.map_toArray, List.map_cons, List.map_nil]); first | done | rfl | (simp only [List.length_drop, List.length_take]; rfl)) ?_
        refine (HEND0.out _ hHeld.2.2.2.2.2.out.hb).mono ?_; rintro e w5 ⟨v5, rfl, ho, hb⟩; obtain ⟨tA, tc, rfl⟩ := Kd.R_slice ho; have HP5 := qab.mk (HT.out w5 (SHI.below hHeld.2.2.2.2.2.out hb)); have HRT := qab.mk ho; clear ho hb; refine ⟨_, rfl, ?_⟩; refine hK.out _ _ HP5.out (fun hHeld => ?_); clear hK K; refine norm_ (a' := ?_) ?_ ?_; rotate_left; (focus (show Act.put _ (some 57) _ = _; simp only [Act.put, qzA, qzB, qzC, i64_w, i32_w]; rfl))
        refine two_ (i := 13) (j := 17) (Ni := some 58) (Nj := some 9) (msk 20 14) #[true, true, true, true, true, true, true, true, true, true, true, true, true, false, false, false, false, true, false, false] rfl rfl rfl rfl (by kernel_rfl) (by decide) (by decide) (fun K hK => ?_) (fun K hK => ?_)
        ·
         refine goes_ Try.func18 (by kernel_rfl) rfl #[.agg #[.slice (some ad) l0_0.length c0_0, .slice A0_1 l0_1.length c0_1, .slice A0_2 l0_2.length c0_2], .int .i64 n, .int .i64 f0, .slice tA e0.length tc] (by rfl) rfl rfl (by (try simp only [List.map_toArray, List.map_cons, List.map_nil]); first | done | rfl | (simp only [List.length_drop, List.length_take]; rfl)) ?_
         refine (HPLAY0.out tA tc _ hHeld.2.2.2.2.2.out.hb (by first | exact ⟨_, _, HRT.out⟩ | exact ⟨_, _, HRT2.out⟩)).mono ?_; rintro e w6 ⟨rfl, hb⟩; have HP6 := qab.mk (HT.out w6 (SHI.below hHeld.2.2.2.2.2.out hb)); clear hb; refine ⟨_, rfl, ?_⟩; refine hK.out _ _ HP6.out (fun hHeld => ?_); clear hK K; refine norm_ (a' := ?_) ?_ ?_; rotate_left; (focus (show Act.put _ (some 58) _ = _; simp only [Act.put, qzA, qzB, qzC, i64_w, i32_w]; rfl))
         refine pure_ (i := 14) (N := some 44) (v := ?_) (a' := ?_) (msk 20 15) rfl rfl (by kernel_rfl) (fun _ _ _ h => h) (Or.inl ⟨by rfl, ?_⟩) ?_ ?_; rotate_left; (focus (intro w'; go_simp; with_reducible rfl)); rotate_left; (focus (simp only [Act.put, qzA, qzB, qzC, i64_w, i32_w]; rfl))
         refine pure_ (i := 15) (N := some 59) (v := ?_) (a' := ?_) (msk 20 16) rfl rfl (by kernel_rfl) (fun _ _ _ h => h) (Or.inl ⟨by rfl, ?_⟩) ?_ ?_; rotate_left; (focus (intro w'; go_simp; with_reducible rfl)); rotate_left; (focus (simp only [Act.put, qzA, qzB, qzC, i64_w, i32_w]; rfl))
         refine pure_ (i := 16) (N := some 60) (v := ?_) (a' := ?_) (msk 20 17) rfl rfl (by kernel_rfl) (fun _ _ _ h => h) (Or.inl ⟨by rfl, ?_⟩) ?_ ?_; rotate_left; (focus (intro w'; go_simp; with_reducible rfl)); rotate_left; (focus (simp only [Act.put, qzA, qzB, qzC, i64_w, i32_w]; rfl))
         refine one_ (i := 17) (N := some 9) (msk 20 18) rfl rfl (by kernel_rfl) (by decide) (fun K hK => ?_)
         refine box_step ?hg (N := 9) ?hd (cs := #[.int .i64 0, .int .i64 0, .int .i64 0, .int .i64 0]) (t := 31) ?hr ?_; (case hd => rfl); (case hg => rfl); (case hr => first | (go_simp; done) | (go_simp; rfl)); intro ga hg_ wb BA hb; (try (have HRT2 := qab.mk (Kd.R_below HRT.out hb))); have GA : wm.heap.size ≤ ga := (by rw [hg_]; exact hHeld.2.2.2.2.2.out.hb.size); have NA := (hHeld.2.2.2.2.2.out.ne hg_); clear hg_; refine hK.out _ _ (HT.out wb (SHI.below hHeld.2.2.2.2.2.out hb)) (fun hHeld => ?_); clear hK K hb; refine norm_ (a' := ?_) ?_ ?_; rotate_left; (focus (show Act.put _ (some 9) _ = _; simp only [Act.put, qzA, qzB, qzC, i64_w, i32_w]; rfl))
         exact norm_ (by simp only [putAll, Act.put, qzA, qzB, qzC]) (hCont (tA, tc, ga) _ ⟨hHeld, BA, GA, NA⟩)
        ·
         refine box_step ?hg (N := 9) ?hd (cs := #[.int .i64 0, .int .i64 0, .int .i64 0, .int .i64 0]) (t := 31) ?hr ?_; (case hd => rfl); (case hg => rfl); (case hr => first | (go_simp; done) | (go_simp; rfl)); intro ga hg_ wb BA hb; (try (have HRT2 := qab.mk (Kd.R_below HRT.out hb))); have GA : wm.heap.size ≤ ga := (by rw [hg_]; exact hHeld.2.2.2.2.2.out.hb.size); have NA := (hHeld.2.2.2.2.2.out.ne hg_); clear hg_; refine hK.out _ _ (HT.out wb (SHI.below hHeld.2.2.2.2.2.out hb)) (fun hHeld => ?_); clear hK K hb; refine norm_ (a' := ?_) ?_ ?_; rotate_left; (focus (show Act.put _ (some 9) _ = _; simp only [Act.put, qzA, qzB, qzC, i64_w, i32_w]; rfl))
         refine one_ (i := 13) (N := some 58) #[true, true, true, true, true, true, true, true, true, true, true, true, true, true, false, false, false, true, false, false] rfl rfl (by kernel_rfl) (by decide) (fun K hK => ?_)
         refine goes_ Try.func18 (by kernel_rfl) rfl #[.agg #[.slice (some ad) l0_0.length c0_0, .slice A0_1 l0_1.length c0_1, .slice A0_2 l0_2.length c0_2], .int .i64 n, .int .i64 f0, .slice tA e0.length tc] (by rfl) rfl rfl (by (try simp only [List.map_toArray, List.map_cons, List.map_nil]); first | done | rfl | (simp only [List.length_drop, List.length_take]; rfl)) ?_
         refine (HPLAY0.out tA tc _ hHeld.2.2.2.2.2.out.hb (by first | exact ⟨_, _, HRT.out⟩ | exact ⟨_, _, HRT2.out⟩)).mono ?_; rintro e w6 ⟨rfl, hb⟩; replace BA := qag BA hb; have HP6 := qab.mk (HT.out w6 (SHI.below hHeld.2.2.2.2.2.out hb)); clear hb; refine ⟨_, rfl, ?_⟩; refine hK.out _ _ HP6.out (fun hHeld => ?_); clear hK K; refine norm_ (a' := ?_) ?_ ?_; rotate_left; (focus (show Act.put _ (some 58) _ = _; simp only [Act.put, qzA, qzB, qzC, i64_w, i32_w]; rfl))
         refine pure_ (i := 14) (N := some 44) (v := ?_) (a' := ?_) #[true, true, true, true, true, true, true, true, true, true, true, true, true, true, true, false, false, true, false, false] rfl rfl (by kernel_rfl) (fun _ _ _ h => h) (Or.inl ⟨by rfl, ?_⟩) ?_ ?_; rotate_left; (focus (intro w'; go_simp; with_reducible rfl)); rotate_left; (focus (simp only [Act.put, qzA, qzB, qzC, i64_w, i32_w]; rfl))
         refine pure_ (i := 15) (N := some 59) (v := ?_) (a' := ?_) #[true, true, true, true, true, true, true, true, true, true, true, true, true, true, true, true, false, true, false, false] rfl rfl (by kernel_rfl) (fun _ _ _ h => h) (Or.inl ⟨by rfl, ?_⟩) ?_ ?_; rotate_left; (focus (intro w'; go_simp; with_reducible rfl)); rotate_left; (focus (simp only [Act.put, qzA, qzB, qzC, i64_w, i32_w]; rfl))
         refine pure_ (i := 16) (N := some 60) (v := ?_) (a' := ?_) (msk 20 18) rfl rfl (by kernel_rfl) (fun _ _ _ h => h) (Or.inl ⟨by rfl, ?_⟩) ?_ ?_; rotate_left; (focus (intro w'; go_simp; with_reducible rfl)); rotate_left; (focus (simp only [Act.put, qzA, qzB, qzC, i64_w, i32_w]; rfl))
         exact norm_ (by simp only [putAll, Act.put, qzA, qzB, qzC]) (hCont (tA, tc, ga) _ ⟨hHeld, BA, GA, NA⟩)
       ·
        refine box_step ?hg (N := 9) ?hd (cs := #[.int .i64 0, .int .i64 0, .int .i64 0, .int .i64 0]) (t := 31) ?hr ?_; (case hd => rfl); (case hg => rfl); (case hr => first | (go_simp; done) | (go_simp; rfl)); intro ga hg_ wb BA hb; (try (have HRT2 := qab.mk (Kd.R_below HRT.out hb))); have GA : wm.heap.size ≤ ga := (by rw [hg_]; exact hHeld.2.2.2.2.2.out.hb.size); have NA := (hHeld.2.2.2.2.2.out.ne hg_); clear hg_; refine hK.out _ _ (HT.out wb (SHI.below hHeld.2.2.2.2.2.out hb)) (fun hHeld => ?_); clear hK K hb; refine norm_ (a' := ?_) ?_ ?_; rotate_left; (focus (show Act.put _ (some 9) _ = _; simp only [Act.put, qzA, qzB, qzC, i64_w, i32_w]; rfl))
        refine one_ (i := 12) (N := some 57) #[true, true, true, true, true, true, true, true, true, true, true, true, true, false, false, false, false, true, false, false] rfl rfl (by kernel_rfl) (by decide) (fun K hK => ?_)
        refine goes_ Try.func48 (by kernel_rfl) rfl #[.agg #[.slice (some ad) l0_0.length c0_0, .slice A0_1 l0_1.length c0_1, .slice A0_2 l0_2.length c0_2], .int .i64 n, .int .i64 ((M + 1 : Nat) : Int), .bool true] (by rfl) rfl rfl (by (try simp only [List.map_toArray, List.map_cons, List.map_nil]); first | done | rfl | (simp only [List.length_drop, List.length_take]; rfl)) ?_
        refine (HEND0.out _ hHeld.2.2.2.2.2.out.hb).mono ?_; rintro e w5 ⟨v5, rfl, ho, hb⟩; replace BA := qag BA hb; obtain ⟨tA, tc, rfl⟩ := Kd.R_slice ho; have HP5 := qab.mk (HT.out w5 (SHI.below hHeld.2.2.2.2.2.out hb)); have HRT := qab.mk ho; clear ho hb; refine ⟨_, rfl, ?_⟩; refine hK.out _ _ HP5.out (fun hHeld => ?_); clear hK K; refine norm_ (a' := ?_) ?_ ?_; rotate_left; (focus (show Act.put _ (some 57) _ = _; simp only [Act.put, qzA, qzB, qzC, i64_w, i32_w]; rfl))
        refine one_ (i := 13) (N := some 58) #[true, true, true, true, true, true, true, true, true, true, true, true, true, true, false, false, false, true, false, false] rfl rfl (by kernel_rfl) (by decide) (fun K hK => ?_)
        refine goes_ Try.func18 (by kernel_rfl) rfl #[.agg #[.slice (some ad) l0_0.length c0_0, .slice A0_1 l0_1.length c0_1, .slice A0_2 l0_2.length c0_2], .int .i64 n, .int .i64 f0, .slice tA e0.length tc] (by rfl) rfl rfl (by (try simp only [List.map_toArray, List.map_cons, List.map_nil]); first | done | rfl | (simp only [List.length_drop, List.length_take]; rfl)) ?_
        refine (HPLAY0.out tA tc _ hHeld.2.2.2.2.2.out.hb (by first | exact ⟨_, _, HRT.out⟩ | exact ⟨_, _, HRT2.out⟩)).mono ?_; rintro e w6 ⟨rfl, hb⟩; replace BA := qag BA hb; have HP6 := qab.mk (HT.out w6 (SHI.below hHeld.2.2.2.2.2.out hb)); clear hb; refine ⟨_, rfl, ?_⟩; refine hK.out _ _ HP6.out (fun hHeld => ?_); clear hK K; refine norm_ (a' := ?_) ?_ ?_; rotate_left; (focus (show Act.put _ (some 58) _ = _; simp only [Act.put, qzA, qzB, qzC, i64_w, i32_w]; rfl))
        refine pure_ (i := 14) (N := some 44) (v := ?_) (a' := ?_) #[true, true, true, true, true, true, true, true, true, true, true, true, true, true, true, false, false, true, false, false] rfl rfl (by kernel_rfl) (fun _ _ _ h => h) (Or.inl ⟨by rfl, ?_⟩) ?_ ?_; rotate_left; (focus (intro w'; go_simp; with_reducible rfl)); rotate_left; (focus (simp only [Act.put, qzA, qzB, qzC, i64_w, i32_w]; rfl))
        refine pure_ (i := 15) (N := some 59) (v := ?_) (a' := ?_) #[true, true, true, true, true, true, true, true, true, true, true, true, true, true, true, true, false, true, false, false] rfl rfl (by kernel_rfl) (fun _ _ _ h => h) (Or.inl ⟨by rfl, ?_⟩) ?_ ?_; rotate_left; (focus (intro w'; go_simp; with_reducible rfl)); rotate_left; (focus (simp only [Act.put, qzA, qzB, qzC, i64_w, i32_w]; rfl))
        refine pure_ (i := 16) (N := some 60) (v := ?_) (a' := ?_) (msk 20 18) rfl rfl (by kernel_rfl) (fun _ _ _ h => h) (Or.inl ⟨by rfl, ?_⟩) ?_ ?_; rotate_left; (focus (intro w'; go_simp; with_reducible rfl)); rotate_left; (focus (simp only [Act.put, qzA, qzB, qzC, i64_w, i32_w]; rfl))
        exact norm_ (by simp only [putAll, Act.put, qzA, qzB, qzC]) (hCont (tA, tc, ga) _ ⟨hHeld, BA, GA, NA⟩)
      rintro ⟨zA, zc, g9⟩ wj ⟨hS_, BA_, GA_, NA_⟩
      have hHeld := hS_
      have fA_ := qac BA_; have cA_0 : wj.cell? ⟨g9, 0, none⟩ = some (.int .i64 0) := qaa BA_ 0; have cA_1 : wj.cell? ⟨g9, 1, none⟩ = some (.int .i64 0) := qaa BA_ 1; have cA_2 : wj.cell? ⟨g9, 2, none⟩ = some (.int .i64 0) := qaa BA_ 2; have cA_3 : wj.cell? ⟨g9, 3, none⟩ = some (.int .i64 0) := qaa BA_ 3
      simp only [putAll, Act.put, qzA, qzB, qzC]
      refine last_ (i := 18) (N := none) (msk 20 19) rfl rfl (by kernel_rfl) (by decide) (fun K hK => ?_); refine skip_ (w1 := ?_) (by rfl) rfl ?_ ?_; rotate_left; (focus (go_simp; rfl)); refine hK.out _ _ ?_; clear hK K hHeld
      have HQ := qab.mk (SHI.put hS_.2.2.2.2.2.out BA_ GA_ NA_ (.int .i64 x0) (.int .i64 y0) (.int .i64 z0) (.int .i64 u0)); clear hS_ BA_ GA_ NA_ fA_ cA_0 cA_1 cA_2 cA_3
      generalize (((wj.setCell ⟨g9, 0, none⟩ (.int .i64 x0)).setCell ⟨g9, 1, none⟩ (.int .i64 y0)).setCell ⟨g9, 2, none⟩ (.int .i64 z0)).setCell ⟨g9, 3, none⟩ (.int .i64 u0) = wn at HQ ⊢
      refine pure_ (i := 19) (N := some 10) (v := ?_) (a' := ?_) (msk 20 20) rfl rfl (by kernel_rfl) (fun _ _ _ h => h) (Or.inl ⟨by rfl, ?_⟩) ?_ ?_; rotate_left; (focus (intro w'; go_simp; with_reducible rfl)); rotate_left; (focus (simp only [Act.put, qzA, qzB, qzC, i64_w, i32_w]; rfl))
      refine done_ (by kernel_rfl) ?_
      clear HI
      have HI := HQ
      clear HQ
      go_upto_region 5 with fail
      refine start_ (n := 20) (S := (fun w' => (w'.cell? ⟨gb, 0, none⟩ = some (.slice (some ad) l0_0.length c0_0) ∧ w'.cell? ⟨gb, 1, none⟩ = some (.slice A0_1 l0_1.length c0_1) ∧ w'.cell? ⟨gb, 2, none⟩ = some (.slice A0_2 l0_2.length c0_2) ∧ w'.cell? (ad.add (n * 12)) = some (.int .i64 f0) ∧ w'.cell? ⟨(ad.add (n * 12)).block, (ad.add (n * 12)).off + 1, none⟩ = some (.int .i64 f1) ∧ qab (SHI wm gb #[.slice (some ad) l0_0.length c0_0, .slice A0_1 l0_1.length c0_1, .slice A0_2 l0_2.length c0_2] ([(g9, #[.int .i64 x0, .int .i64 y0, .int .i64 z0, .int .i64 u0])] : List (Nat × Array Value)) w')))) (ds := [18]) (msk 20 0) (by kernel_rfl) rfl rfl (HT.out _ (SHI.below HI.out (qbb (Below.refl _ _)))) (fun hHeld => ?_)
      have n_S := qab.mk hHeld; generalize wn.drew = wk at hHeld n_S ⊢; clear n_S
      refine take_ (i := 0) (N := some 62) (v := ?_) (a' := ?_) (msk 20 1) rfl rfl (by kernel_rfl) (fun _ _ _ h => h) (Or.inl ⟨by rfl, ?_⟩) hHeld ?_ ?_; rotate_left; (focus (rintro w' ⟨s0, s1, s2, s3, s4, s5⟩; go_simp; with_reducible rfl)); rotate_left; (focus (simp only [Act.put, qzA, qzB, qzC, i64_w, i32_w]; rfl))
      refine pure_ (i := 1) (N := some 63) (v := ?_) (a' := ?_) (msk 20 2) rfl rfl (by kernel_rfl) (fun _ _ _ h => h) (Or.inl ⟨by rfl, ?_⟩) ?_ ?_; rotate_left; (focus (intro w'; go_simp; with_reducible rfl)); rotate_left; (focus (simp only [Act.put, qzA, qzB, qzC, i64_w, i32_w]; rfl))
      refine pure_ (i := 2) (N := some 64) (v := ?_) (a' := ?_) (msk 20 3) rfl rfl (by kernel_rfl) (fun _ _ _ h => h) (Or.inl ⟨by rfl, ?_⟩) ?_ ?_; rotate_left; (focus (intro w'; go_simp; with_reducible rfl)); rotate_left; (focus (simp only [Act.put, qzA, qzB, qzC, i64_w, i32_w]; rfl))
      refine take_ (i := 3) (N := some 65) (v := ?_) (a' := ?_) (msk 20 4) rfl rfl (by kernel_rfl) (fun _ _ _ h => h) (Or.inl ⟨by rfl, ?_⟩) hHeld ?_ ?_; rotate_left; (focus (rintro w' ⟨s0, s1, s2, s3, s4, s5⟩; go_simp; with_reducible rfl)); rotate_left; (focus (simp only [Act.put, qzA, qzB, qzC, i64_w, i32_w]; rfl))
      refine pure_ (i := 4) (N := some 66) (v := ?_) (a' := ?_) (msk 20 5) rfl rfl (by kernel_rfl) (fun _ _ _ h => h) (Or.inl ⟨by rfl, ?_⟩) ?_ ?_; rotate_left; (focus (intro w'; go_simp; with_reducible rfl)); rotate_left; (focus (simp only [Act.put, qzA, qzB, qzC, i64_w, i32_w]; rfl))
      refine pure_ (i := 5) (N := some 67) (v := ?_) (a' := ?_) (msk 20 6) rfl rfl (by kernel_rfl) (fun _ _ _ h => h) (Or.inl ⟨by rfl, ?_⟩) ?_ ?_; rotate_left; (focus (intro w'; go_simp; with_reducible rfl)); rotate_left; (focus (simp only [Act.put, qzA, qzB, qzC, i64_w, i32_w]; rfl))
      refine pure_ (i := 6) (N := some 68) (v := ?_) (a' := ?_) (msk 20 7) rfl rfl (by kernel_rfl) (fun _ _ _ h => h) (Or.inl ⟨by rfl, ?_⟩) ?_ ?_; rotate_left; (focus (intro w'; go_simp; with_reducible rfl)); rotate_left; (focus (simp only [Act.put, qzA, qzB, qzC, i64_w, i32_w]; rfl))
      refine pure_ (i := 7) (N := some 69) (v := ?_) (a' := ?_) (msk 20 8) rfl rfl (by kernel_rfl) (fun _ _ _ h => h) (Or.inl ⟨by rfl, ?_⟩) ?_ ?_; rotate_left; (focus (intro w'; go_simp; with_reducible rfl)); rotate_left; (focus (simp only [Act.put, qzA, qzB, qzC, i64_w, i32_w]; rfl))
      refine take_ (i := 8) (N := some 70) (v := ?_) (a' := ?_) (msk 20 9) rfl rfl (by kernel_rfl) (fun _ _ _ h => h) (Or.inl ⟨by rfl, ?_⟩) hHeld ?_ ?_; rotate_left; (focus (rintro w' ⟨s0, s1, s2, s3, s4, s5⟩; go_simp; with_reducible rfl)); rotate_left; (focus (simp only [Act.put, qzA, qzB, qzC, i64_w, i32_w]; rfl))
      refine take_ (i := 9) (N := some 71) (v := ?_) (a' := ?_) (msk 20 10) rfl rfl (by kernel_rfl) (fun _ _ _ h => h) (Or.inl ⟨by rfl, ?_⟩) hHeld ?_ ?_; rotate_left; (focus (rintro w' ⟨s0, s1, s2, s3, s4, s5⟩; go_simp; with_reducible rfl)); rotate_left; (focus (simp only [Act.put, qzA, qzB, qzC, i64_w, i32_w]; rfl))
      refine pure_ (i := 10) (N := some 72) (v := ?_) (a' := ?_) (msk 20 11) rfl rfl (by kernel_rfl) (fun _ _ _ h => h) (Or.inl ⟨by rfl, ?_⟩) ?_ ?_; rotate_left; (focus (intro w'; go_simp; with_reducible rfl)); rotate_left; (focus (simp only [Act.put, qzA, qzB, qzC, i64_w, i32_w]; rfl))
      refine pure_ (i := 11) (N := some 73) (v := ?_) (a' := ?_) (msk 20 12) rfl rfl (by kernel_rfl) (fun _ _ _ h => h) (Or.inl ⟨by rfl, ?_⟩) ?_ ?_; rotate_left; (focus (intro w'; go_simp; with_reducible rfl)); rotate_left; (focus (simp only [Act.put, qzA, qzB, qzC, i64_w, i32_w]; rfl))
      refine join_ (σ := Option Addr × Nat × Nat) 2 (msk 20 18) (fun s_ => [(74, .slice s_.1 e1.length s_.2.1), (75, .tuple #[.agg #[.int .i64 x1, .int .i64 y1, .int .i64 z1, .int .i64 u1], .int .i64 0]), (61, .tuple #[.agg #[.int .i64 x1, .int .i64 y1, .int .i64 z1, .int .i64 u1], .int .i64 0]), (76, .agg #[.int .i64 x1, .int .i64 y1, .int .i64 z1, .int .i64 u1]), (77, .int .i64 0), (11, .pointer (some ⟨s_.2.2, 0, none⟩))]) (fun s_ w' => (w'.cell? ⟨gb, 0, none⟩ = some (.slice (some ad) l0_0.length c0_0) ∧ w'.cell? ⟨gb, 1, none⟩ = some (.slice A0_1 l0_1.length c0_1) ∧ w'.cell? ⟨gb, 2, none⟩ = some (.slice A0_2 l0_2.length c0_2) ∧ w'.cell? (ad.add (n * 12)) = some (.int .i64 f0) ∧ w'.cell? ⟨(ad.add (n * 12)).block, (ad.add (n * 12)).off + 1, none⟩ = some (.int .i64 f1) ∧ qab (SHI wm gb #[.slice (some ad) l0_0.length c0_0, .slice A0_1 l0_1.length c0_1, .slice A0_2 l0_2.length c0_2] ([(g9, #[.int .i64 x0, .int .i64 y0, .int .i64 z0, .int .i64 u0])] : List (Nat × Array Value)) w')) ∧ w'.heap[s_.2.2]? = some (.cells #[.int .i64 0, .int .i64 0, .int .i64 0, .int .i64 0] 31 (0, 0)) ∧ wm.heap.size ≤ s_.2.2 ∧ (∀ p ∈ ([(g9, #[.int .i64 x0, .int .i64 y0, .int .i64 z0, .int .i64 u0])] : List (Nat × Array Value)), p.1 ≠ s_.2.2)) ?_ ?_
      rotate_left
      ·
       intro hCont
       refine two_ (i := 12) (j := 17) (Ni := some 74) (Nj := some 11) (msk 20 13) #[true, true, true, true, true, true, true, true, true, true, true, true, false, false, false, false, false, true, false, false] rfl rfl rfl rfl (by kernel_rfl) (by decide) (by decide) (fun K hK => ?_) (fun K hK => ?_)
       ·
        refine goes_ Try.func48 (by kernel_rfl) rfl #[.agg #[.slice (some ad) l0_0.length c0_0, .slice A0_1 l0_1.length c0_1, .slice A0_2 l0_2.length c0_2], .int .i64 n, .int .i64 ((M + 1 : Nat) : Int), .bool false] (by rfl) rfl rfl (by (try simp only [List.map_toArray, List.map_cons, List.map_nil]); first | done | rfl | (simp only [List.length_drop, List.length_take]; rfl)) ?_
        refine (HEND1.out _ hHeld.2.2.2.2.2.out.hb).mono ?_; rintro e w5 ⟨v5, rfl, ho, hb⟩; obtain ⟨tA, tc, rfl⟩ := Kd.R_slice ho; have HP5 := qab.mk (HT.out w5 (SHI.below hHeld.2.2.2.2.2.out hb)); have HRT := qab.mk ho; clear ho hb; refine ⟨_, rfl, ?_⟩; refine hK.out _ _ HP5.out (fun hHeld => ?_); clear hK K; refine norm_ (a' := ?_) ?_ ?_; rotate_left; (focus (show Act.put _ (some 74) _ = _; simp only [Act.put, qzA, qzB, qzC, i64_w, i32_w]; rfl))
        refine two_ (i := 13) (j := 17) (Ni := some 75) (Nj := some 11) (msk 20 14) #[true, true, true, true, true, true, true, true, true, true, true, true, true, false, false, false, false, true, false, false] rfl rfl rfl rfl (by kernel_rfl) (by decide) (by decide) (fun K hK => ?_) (fun K hK => ?_)
        ·
         refine goes_ Try.func18 (by kernel_rfl) rfl #[.agg #[.slice (some ad) l0_0.length c0_0, .slice A0_1 l0_1.length c0_1, .slice A0_2 l0_2.length c0_2], .int .i64 n, .int .i64 f1, .slice tA e1.length tc] (by rfl) rfl rfl (by (try simp only [List.map_toArray, List.map_cons, List.map_nil]); first | done | rfl | (simp only [List.length_drop, List.length_take]; rfl)) ?_
         refine (HPLAY1.out tA tc _ hHeld.2.2.2.2.2.out.hb (by first | exact ⟨_, _, HRT.out⟩ | exact ⟨_, _, HRT2.out⟩)).mono ?_; rintro e w6 ⟨rfl, hb⟩; have HP6 := qab.mk (HT.out w6 (SHI.below hHeld.2.2.2.2.2.out hb)); clear hb; refine ⟨_, rfl, ?_⟩; refine hK.out _ _ HP6.out (fun hHeld => ?_); clear hK K; refine norm_ (a' := ?_) ?_ ?_; rotate_left; (focus (show Act.put _ (some 75) _ = _; simp only [Act.put, qzA, qzB, qzC, i64_w, i32_w]; rfl))
         refine pure_ (i := 14) (N := some 61) (v := ?_) (a' := ?_) (msk 20 15) rfl rfl (by kernel_rfl) (fun _ _ _ h => h) (Or.inl ⟨by rfl, ?_⟩) ?_ ?_; rotate_left; (focus (intro w'; go_simp; with_reducible rfl)); rotate_left; (focus (simp only [Act.put, qzA, qzB, qzC, i64_w, i32_w]; rfl))
         refine pure_ (i := 15) (N := some 76) (v := ?_) (a' := ?_) (msk 20 16) rfl rfl (by kernel_rfl) (fun _ _ _ h => h) (Or.inl ⟨by rfl, ?_⟩) ?_ ?_; rotate_left; (focus (intro w'; go_simp; with_reducible rfl)); rotate_left; (focus (simp only [Act.put, qzA, qzB, qzC, i64_w, i32_w]; rfl))
         refine pure_ (i := 16) (N := some 77) (v := ?_) (a' := ?_) (msk 20 17) rfl rfl (by kernel_rfl) (fun _ _ _ h => h) (Or.inl ⟨by rfl, ?_⟩) ?_ ?_; rotate_left; (focus (intro w'; go_simp; with_reducible rfl)); rotate_left; (focus (simp only [Act.put, qzA, qzB, qzC, i64_w, i32_w]; rfl))
         refine one_ (i := 17) (N := some 11) (msk 20 18) rfl rfl (by kernel_rfl) (by decide) (fun K hK => ?_)
         refine box_step ?hg (N := 11) ?hd (cs := #[.int .i64 0, .int .i64 0, .int .i64 0, .int .i64 0]) (t := 31) ?hr ?_; (case hd => rfl); (case hg => rfl); (case hr => first | (go_simp; done) | (go_simp; rfl)); intro ga hg_ wb BA hb; (try (have HRT2 := qab.mk (Kd.R_below HRT.out hb))); have GA : wm.heap.size ≤ ga := (by rw [hg_]; exact hHeld.2.2.2.2.2.out.hb.size); have NA := (hHeld.2.2.2.2.2.out.ne hg_); clear hg_; refine hK.out _ _ (HT.out wb (SHI.below hHeld.2.2.2.2.2.out hb)) (fun hHeld => ?_); clear hK K hb; refine norm_ (a' := ?_) ?_ ?_; rotate_left; (focus (show Act.put _ (some 11) _ = _; simp only [Act.put, qzA, qzB, qzC, i64_w, i32_w]; rfl))
         exact norm_ (by simp only [putAll, Act.put, qzA, qzB, qzC]) (hCont (tA, tc, ga) _ ⟨hHeld, BA, GA, NA⟩)
        ·
         refine box_step ?hg (N := 11) ?hd (cs := #[.int .i64 0, .int .i64 0, .int .i64 0, .int .i64 0]) (t := 31) ?hr ?_; (case hd => rfl); (case hg => rfl); (case hr => first | (go_simp; done) | (go_simp; rfl)); intro ga hg_ wb BA hb; (try (have HRT2 := qab.mk (Kd.R_below HRT.out hb))); have GA : wm.heap.size ≤ ga := (by rw [hg_]; exact hHeld.2.2.2.2.2.out.hb.size); have NA := (hHeld.2.2.2.2.2.out.ne hg_); clear hg_; refine hK.out _ _ (HT.out wb (SHI.below hHeld.2.2.2.2.2.out hb)) (fun hHeld => ?_); clear hK K hb; refine norm_ (a' := ?_) ?_ ?_; rotate_left; (focus (show Act.put _ (some 11) _ = _; simp only [Act.put, qzA, qzB, qzC, i64_w, i32_w]; rfl))
         refine one_ (i := 13) (N := some 75) #[true, true, true, true, true, true, true, true, true, true, true, true, true, true, false, false, false, true, false, false] rfl rfl (by kernel_rfl) (by decide) (fun K hK => ?_)
         refine goes_ Try.func18 (by kernel_rfl) rfl #[.agg #[.slice (some ad) l0_0.length c0_0, .slice A0_1 l0_1.length c0_1, .slice A0_2 l0_2.length c0_2], .int .i64 n, .int .i64 f1, .slice tA e1.length tc] (by rfl) rfl rfl (by (try simp only [List.map_toArray, List.map_cons, List.map_nil]); first | done | rfl | (simp only [List.length_drop, List.length_take]; rfl)) ?_
         refine (HPLAY1.out tA tc _ hHeld.2.2.2.2.2.out.hb (by first | exact ⟨_, _, HRT.out⟩ | exact ⟨_, _, HRT2.out⟩)).mono ?_; rintro e w6 ⟨rfl, hb⟩; replace BA := qag BA hb; have HP6 := qab.mk (HT.out w6 (SHI.below hHeld.2.2.2.2.2.out hb)); clear hb; refine ⟨_, rfl, ?_⟩; refine hK.out _ _ HP6.out (fun hHeld => ?_); clear hK K; refine norm_ (a' := ?_) ?_ ?_; rotate_left; (focus (show Act.put _ (some 75) _ = _; simp only [Act.put, qzA, qzB, qzC, i64_w, i32_w]; rfl))
         refine pure_ (i := 14) (N := some 61) (v := ?_) (a' := ?_) #[true, true, true, true, true, true, true, true, true, true, true, true, true, true, true, false, false, true, false, false] rfl rfl (by kernel_rfl) (fun _ _ _ h => h) (Or.inl ⟨by rfl, ?_⟩) ?_ ?_; rotate_left; (focus (intro w'; go_simp; with_reducible rfl)); rotate_left; (focus (simp only [Act.put, qzA, qzB, qzC, i64_w, i32_w]; rfl))
         refine pure_ (i := 15) (N := some 76) (v := ?_) (a' := ?_) #[true, true, true, true, true, true, true, true, true, true, true, true, true, true, true, true, false, true, false, false] rfl rfl (by kernel_rfl) (fun _ _ _ h => h) (Or.inl ⟨by rfl, ?_⟩) ?_ ?_; rotate_left; (focus (intro w'; go_simp; with_reducible rfl)); rotate_left; (focus (simp only [Act.put, qzA, qzB, qzC, i64_w, i32_w]; rfl))
         refine pure_ (i := 16) (N := some 77) (v := ?_) (a' := ?_) (msk 20 18) rfl rfl (by kernel_rfl) (fun _ _ _ h => h) (Or.inl ⟨by rfl, ?_⟩) ?_ ?_; rotate_left; (focus (intro w'; go_simp; with_reducible rfl)); rotate_left; (focus (simp only [Act.put, qzA, qzB, qzC, i64_w, i32_w]; rfl))
         exact norm_ (by simp only [putAll, Act.put, qzA, qzB, qzC]) (hCont (tA, tc, ga) _ ⟨hHeld, BA, GA, NA⟩)
       ·
        refine box_step ?hg (N := 11) ?hd (cs := #[.int .i64 0, .int .i64 0, .int .i64 0, .int .i64 0]) (t := 31) ?hr ?_; (case hd => rfl); (case hg => rfl); (case hr => first | (go_simp; done) | (go_simp; rfl)); intro ga hg_ wb BA hb; (try (have HRT2 := qab.mk (Kd.R_below HRT.out hb))); have GA : wm.heap.size ≤ ga := (by rw [hg_]; exact hHeld.2.2.2.2.2.out.hb.size); have NA := (hHeld.2.2.2.2.2.out.ne hg_); clear hg_; refine hK.out _ _ (HT.out wb (SHI.below hHeld.2.2.2.2.2.out hb)) (fun hHeld => ?_); clear hK K hb; refine norm_ (a' := ?_) ?_ ?_; rotate_left; (focus (show Act.put _ (some 11) _ = _; simp only [Act.put, qzA, qzB, qzC, i64_w, i32_w]; rfl))
        refine one_ (i := 12) (N := some 74) #[true, true, true, true, true, true, true, true, true, true, true, true, true, false, false, false, false, true, false, false] rfl rfl (by kernel_rfl) (by decide) (fun K hK => ?_)
        refine goes_ Try.func48 (by kernel_rfl) rfl #[.agg #[.slice (some ad) l0_0.length c0_0, .slice A0_1 l0_1.length c0_1, .slice A0_2 l0_2.length c0_2], .int .i64 n, .int .i64 ((M + 1 : Nat) : Int), .bool false] (by rfl) rfl rfl (by (try simp only [List.map_toArray, List.map_cons, List.map_nil]); first | done | rfl | (simp only [List.length_drop, List.length_take]; rfl)) ?_
        refine (HEND1.out _ hHeld.2.2.2.2.2.out.hb).mono ?_; rintro e w5 ⟨v5, rfl, ho, hb⟩; replace BA := qag BA hb; obtain ⟨tA, tc, rfl⟩ := Kd.R_slice ho; have HP5 := qab.mk (HT.out w5 (SHI.below hHeld.2.2.2.2.2.out hb)); have HRT := qab.mk ho; clear ho hb; refine ⟨_, rfl, ?_⟩; refine hK.out _ _ HP5.out (fun hHeld => ?_); clear hK K; refine norm_ (a' := ?_) ?_ ?_; rotate_left; (focus (show Act.put _ (some 74) _ = _; simp only [Act.put, qzA, qzB, qzC, i64_w, i32_w]; rfl))
        refine one_ (i := 13) (N := some 75) #[true, true, true, true, true, true, true, true, true, true, true, true, true, true, false, false, false, true, false, false] rfl rfl (by kernel_rfl) (by decide) (fun K hK => ?_)
        refine goes_ Try.func18 (by kernel_rfl) rfl #[.agg #[.slice (some ad) l0_0.length c0_0, .slice A0_1 l0_1.length c0_1, .slice A0_2 l0_2.length c0_2], .int .i64 n, .int .i64 f1, .slice tA e1.length tc] (by rfl) rfl rfl (by (try simp only [List.map_toArray, List.map_cons, List.map_nil]); first | done | rfl | (simp only [List.length_drop, List.length_take]; rfl)) ?_
        refine (HPLAY1.out tA tc _ hHeld.2.2.2.2.2.out.hb (by first | exact ⟨_, _, HRT.out⟩ | exact ⟨_, _, HRT2.out⟩)).mono ?_; rintro e w6 ⟨rfl, hb⟩; replace BA := qag BA hb; have HP6 := qab.mk (HT.out w6 (SHI.below hHeld.2.2.2.2.2.out hb)); clear hb; refine ⟨_, rfl, ?_⟩; refine hK.out _ _ HP6.out (fun hHeld => ?_); clear hK K; refine norm_ (a' := ?_) ?_ ?_; rotate_left; (focus (show Act.put _ (some 75) _ = _; simp only [Act.put, qzA, qzB, qzC, i64_w, i32_w]; rfl))
        refine pure_ (i := 14) (N := some 61) (v := ?_) (a' := ?_) #[true, true, true, true, true, true, true, true, true, true, true, true, true, true, true, false, false, true, false, false] rfl rfl (by kernel_rfl) (fun _ _ _ h => h) (Or.inl ⟨by rfl, ?_⟩) ?_ ?_; rotate_left; (focus (intro w'; go_simp; with_reducible rfl)); rotate_left; (focus (simp only [Act.put, qzA, qzB, qzC, i64_w, i32_w]; rfl))
        refine pure_ (i := 15) (N := some 76) (v := ?_) (a' := ?_) #[true, true, true, true, true, true, true, true, true, true, true, true, true, true, true, true, false, true, false, false] rfl rfl (by kernel_rfl) (fun _ _ _ h => h) (Or.inl ⟨by rfl, ?_⟩) ?_ ?_; rotate_left; (focus (intro w'; go_simp; with_reducible rfl)); rotate_left; (focus (simp only [Act.put, qzA, qzB, qzC, i64_w, i32_w]; rfl))
        refine pure_ (i := 16) (N := some 77) (v := ?_) (a' := ?_) (msk 20 18) rfl rfl (by kernel_rfl) (fun _ _ _ h => h) (Or.inl ⟨by rfl, ?_⟩) ?_ ?_; rotate_left; (focus (intro w'; go_simp; with_reducible rfl)); rotate_left; (focus (simp only [Act.put, qzA, qzB, qzC, i64_w, i32_w]; rfl))
        exact norm_ (by simp only [putAll, Act.put, qzA, qzB, qzC]) (hCont (tA, tc, ga) _ ⟨hHeld, BA, GA, NA⟩)
      rintro ⟨zA, zc, g11⟩ wj ⟨hS_, BA_, GA_, NA_⟩
      have hHeld := hS_
      have fA_ := qac BA_; have cA_0 : wj.cell? ⟨g11, 0, none⟩ = some (.int .i64 0) := qaa BA_ 0; have cA_1 : wj.cell? ⟨g11, 1, none⟩ = some (.int .i64 0) := qaa BA_ 1; have cA_2 : wj.cell? ⟨g11, 2, none⟩ = some (.int .i64 0) := qaa BA_ 2; have cA_3 : wj.cell? ⟨g11, 3, none⟩ = some (.int .i64 0) := qaa BA_ 3
      simp only [putAll, Act.put, qzA, qzB, qzC]
      refine last_ (i := 18) (N := none) (msk 20 19) rfl rfl (by kernel_rfl) (by decide) (fun K hK => ?_); refine skip_ (w1 := ?_) (by rfl) rfl ?_ ?_; rotate_left; (focus (go_simp; rfl)); refine hK.out _ _ ?_; clear hK K hHeld
      have HQ := qab.mk (SHI.put hS_.2.2.2.2.2.out BA_ GA_ NA_ (.int .i64 x1) (.int .i64 y1) (.int .i64 z1) (.int .i64 u1)); clear hS_ BA_ GA_ NA_ fA_ cA_0 cA_1 cA_2 cA_3
      generalize (((wj.setCell ⟨g11, 0, none⟩ (.int .i64 x1)).setCell ⟨g11, 1, none⟩ (.int .i64 y1)).setCell ⟨g11, 2, none⟩ (.int .i64 z1)).setCell ⟨g11, 3, none⟩ (.int .i64 u1) = wn at HQ ⊢
      refine pure_ (i := 19) (N := some 12) (v := ?_) (a' := ?_) (msk 20 20) rfl rfl (by kernel_rfl) (fun _ _ _ h => h) (Or.inl ⟨by rfl, ?_⟩) ?_ ?_; rotate_left; (focus (intro w'; go_simp; with_reducible rfl)); rotate_left; (focus (simp only [Act.put, qzA, qzB, qzC, i64_w, i32_w]; rfl))
      refine done_ (by kernel_rfl) ?_
      clear HI HEND0 HEND1 HPLAY0 HPLAY1
      have HI := HQ
      clear HQ
      have hHM := HM.out
      obtain ⟨mm, A0', rc, rfl, hm1, hm2, hm3⟩ := at_L6 hHM (n : Int) i0 (by rw [rowsW_length]; exact i1)
      rw [HRD.out.1] at hm1 hm2 hm3
      obtain ⟨rr, rfl, hr1, hr2⟩ := at_T37 hm3 (M : Int) (by omega) (by rw [rowW_length]; omega)
      rw [HRD.out.2.1] at hr1
      rw [HRD.out.2.2] at hr2
      rw [rowW_length] at hm1 hm2
      simp only [Int.toNat_natCast] at hm1 hr1 hr2
      have HMC := qab.mk (And.intro hm1 (And.intro hr1 hr2))
      clear hHM hm1 hm3 hr1 hr2 HM HRD
      have hM0 : (0 : Int) ≤ (M : Int) := by omega
      have hMl : (M : Int) < (l0_1.length : Int) := by omega
      have hrl : (rowsW l0_0 l0_1 l0_0.length).length = l0_0.length := rowsW_length _ _ _
      have HT6 : qab (∀ W, SHI wm gb #[.slice (some ad) l0_0.length c0_0, .slice A0_1 l0_1.length c0_1, .slice A0_2 l0_2.length c0_2] ([(g11, #[.int .i64 x1, .int .i64 y1, .int .i64 z1, .int .i64 u1]), (g9, #[.int .i64 x0, .int .i64 y0, .int .i64 z0, .int .i64 u0])] : List (Nat × Array Value)) W → (W.cell? ⟨gb, 0, none⟩ = some (.slice (some ad) l0_0.length c0_0) ∧ W.cell? ⟨gb, 1, none⟩ = some (.slice A0_1 l0_1.length c0_1) ∧ W.cell? (mm.add n) = some (.slice (some rr) l0_1.length rc) ∧ qab (SHI wm gb #[.slice (some ad) l0_0.length c0_0, .slice A0_1 l0_1.length c0_1, .slice A0_2 l0_2.length c0_2] ([(g11, #[.int .i64 x1, .int .i64 y1, .int .i64 z1, .int .i64 u1]), (g9, #[.int .i64 x0, .int .i64 y0, .int .i64 z0, .int .i64 u0])] : List (Nat × Array Value)) W))) := ⟨fun W h => ⟨qaa h.b 0, qaa h.b 1, (h.hb.cell (World.block_lt_of_cell? wm _ HMC.out.1)).trans HMC.out.1, ⟨h⟩⟩⟩
      go_upto_region 6 with fail
      rw [hrl]
      clear hrl
      refine start_ (n := 29) (S := (fun w' => (w'.cell? ⟨gb, 0, none⟩ = some (.slice (some ad) l0_0.length c0_0) ∧ w'.cell? ⟨gb, 1, none⟩ = some (.slice A0_1 l0_1.length c0_1) ∧ w'.cell? (mm.add n) = some (.slice (some rr) l0_1.length rc) ∧ qab (SHI wm gb #[.slice (some ad) l0_0.length c0_0, .slice A0_1 l0_1.length c0_1, .slice A0_2 l0_2.length c0_2] ([(g11, #[.int .i64 x1, .int .i64 y1, .int .i64 z1, .int .i64 u1]), (g9, #[.int .i64 x0, .int .i64 y0, .int .i64 z0, .int .i64 u0])] : List (Nat × Array Value)) w')))) (ds := []) (msk 29 0) (by kernel_rfl) rfl rfl (HT6.out _ (SHI.below HI.out (qbb (Below.refl _ _)))) (fun hHeld => ?_)
      refine pure_ (i := 0) (N := some 78) (v := ?_) (a' := ?_) (msk 29 1) rfl rfl (by kernel_rfl) (fun _ _ _ h => h) (Or.inl ⟨by rfl, ?_⟩) ?_ ?_; rotate_left; (focus (intro w'; go_simp; with_reducible rfl)); rotate_left; (focus (simp only [Act.put, qzA, qzB, qzC, i64_w, i32_w]; rfl))
      refine pure_ (i := 1) (N := some 79) (v := ?_) (a' := ?_) (msk 29 2) rfl rfl (by kernel_rfl) (fun _ _ _ h => h) (Or.inl ⟨by rfl, ?_⟩) ?_ ?_; rotate_left; (focus (intro w'; go_simp; with_reducible rfl)); rotate_left; (focus (simp only [Act.put, qzA, qzB, qzC, i64_w, i32_w]; rfl))
      refine pure_ (i := 2) (N := some 80) (v := ?_) (a' := ?_) (msk 29 3) rfl rfl (by kernel_rfl) (fun _ _ _ h => h) (Or.inl ⟨by rfl, ?_⟩) ?_ ?_; rotate_left; (focus (intro w'; go_simp; with_reducible rfl)); rotate_left; (focus (simp only [Act.put, qzA, qzB, qzC, i64_w, i32_w]; rfl))
      refine pure_ (i := 3) (N := some 81) (v := ?_) (a' := ?_) (msk 29 4) rfl rfl (by kernel_rfl) (fun _ _ _ h => h) (Or.inl ⟨by rfl, ?_⟩) ?_ ?_; rotate_left; (focus (intro w'; go_simp; with_reducible rfl)); rotate_left; (focus (simp only [Act.put, qzA, qzB, qzC, i64_w, i32_w]; rfl))
      refine pure_ (i := 4) (N := some 82) (v := ?_) (a' := ?_) (msk 29 5) rfl rfl (by kernel_rfl) (fun _ _ _ h => h) (Or.inl ⟨by rfl, ?_⟩) ?_ ?_; rotate_left; (focus (intro w'; go_simp; with_reducible rfl)); rotate_left; (focus (simp only [Act.put, qzA, qzB, qzC, i64_w, i32_w]; rfl))
      refine pure_ (i := 5) (N := some 83) (v := ?_) (a' := ?_) (msk 29 6) rfl rfl (by kernel_rfl) (fun _ _ _ h => h) (Or.inl ⟨by rfl, ?_⟩) ?_ ?_; rotate_left; (focus (intro w'; go_simp; with_reducible rfl)); rotate_left; (focus (simp only [Act.put, qzA, qzB, qzC, i64_w, i32_w]; rfl))
      refine pure_ (i := 6) (N := some 84) (v := ?_) (a' := ?_) (msk 29 7) rfl rfl (by kernel_rfl) (fun _ _ _ h => h) (Or.inl ⟨by rfl, ?_⟩) ?_ ?_; rotate_left; (focus (intro w'; go_simp; with_reducible rfl)); rotate_left; (focus (simp only [Act.put, qzA, qzB, qzC, i64_w, i32_w]; rfl))
      refine pure_ (i := 7) (N := some 85) (v := ?_) (a' := ?_) (msk 29 8) rfl rfl (by kernel_rfl) (fun _ _ _ h => h) (Or.inl ⟨by rfl, ?_⟩) ?_ ?_; rotate_left; (focus (intro w'; go_simp; with_reducible rfl)); rotate_left; (focus (simp only [Act.put, qzA, qzB, qzC, i64_w, i32_w]; rfl))
      refine pure_ (i := 8) (N := some 86) (v := ?_) (a' := ?_) (msk 29 9) rfl rfl (by kernel_rfl) (fun _ _ _ h => h) (Or.inl ⟨by rfl, ?_⟩) ?_ ?_; rotate_left; (focus (intro w'; go_simp; with_reducible rfl)); rotate_left; (focus (simp only [Act.put, qzA, qzB, qzC, i64_w, i32_w]; rfl))
      refine pure_ (i := 9) (N := some 87) (v := ?_) (a' := ?_) (msk 29 10) rfl rfl (by kernel_rfl) (fun _ _ _ h => h) (Or.inl ⟨by rfl, ?_⟩) ?_ ?_; rotate_left; (focus (intro w'; go_simp; with_reducible rfl)); rotate_left; (focus (simp only [Act.put, qzA, qzB, qzC, i64_w, i32_w]; rfl))
      refine pure_ (i := 10) (N := some 88) (v := ?_) (a' := ?_) (msk 29 11) rfl rfl (by kernel_rfl) (fun _ _ _ h => h) (Or.inl ⟨by rfl, ?_⟩) ?_ ?_; rotate_left; (focus (intro w'; go_simp; with_reducible rfl)); rotate_left; (focus (simp only [Act.put, qzA, qzB, qzC, i64_w, i32_w]; rfl))
      refine pure_ (i := 11) (N := some 89) (v := ?_) (a' := ?_) (msk 29 12) rfl rfl (by kernel_rfl) (fun _ _ _ h => h) (Or.inl ⟨by rfl, ?_⟩) ?_ ?_; rotate_left; (focus (intro w'; go_simp; with_reducible rfl)); rotate_left; (focus (simp only [Act.put, qzA, qzB, qzC, i64_w, i32_w]; rfl))
      refine pure_ (i := 12) (N := some 90) (v := ?_) (a' := ?_) (msk 29 13) rfl rfl (by kernel_rfl) (fun _ _ _ h => h) (Or.inl ⟨by rfl, ?_⟩) ?_ ?_; rotate_left; (focus (intro w'; go_simp; with_reducible rfl)); rotate_left; (focus (simp only [Act.put, qzA, qzB, qzC, i64_w, i32_w]; rfl))
      refine pure_ (i := 13) (N := some 91) (v := ?_) (a' := ?_) (msk 29 14) rfl rfl (by kernel_rfl) (fun _ _ _ h => h) (Or.inl ⟨by rfl, ?_⟩) ?_ ?_; rotate_left; (focus (intro w'; go_simp; with_reducible rfl)); rotate_left; (focus (simp only [Act.put, qzA, qzB, qzC, i64_w, i32_w]; rfl))
      refine take_ (i := 14) (N := some 92) (v := ?_) (a' := ?_) (msk 29 15) rfl rfl (by kernel_rfl) (fun _ _ _ h => h) (Or.inl ⟨by rfl, ?_⟩) hHeld ?_ ?_; rotate_left; (focus (rintro w' ⟨s0, s1, s2, s3⟩; go_simp; with_reducible rfl)); rotate_left; (focus (simp only [Act.put, qzA, qzB, qzC, i64_w, i32_w]; rfl))
      refine pure_ (i := 15) (N := some 93) (v := ?_) (a' := ?_) (msk 29 16) rfl rfl (by kernel_rfl) (fun _ _ _ h => h) (Or.inl ⟨by rfl, ?_⟩) ?_ ?_; rotate_left; (focus (intro w'; go_simp; with_reducible rfl)); rotate_left; (focus (simp only [Act.put, qzA, qzB, qzC, i64_w, i32_w]; rfl))
      refine pure_ (i := 16) (N := some 94) (v := ?_) (a' := ?_) (msk 29 17) rfl rfl (by kernel_rfl) (fun _ _ _ h => h) (Or.inl ⟨by rfl, ?_⟩) ?_ ?_; rotate_left; (focus (intro w'; go_simp; with_reducible rfl)); rotate_left; (focus (simp only [Act.put, qzA, qzB, qzC, i64_w, i32_w]; rfl))
      refine pure_ (i := 17) (N := some 95) (v := ?_) (a' := ?_) (msk 29 18) rfl rfl (by kernel_rfl) (fun _ _ _ h => h) (Or.inl ⟨by rfl, ?_⟩) ?_ ?_; rotate_left; (focus (intro w'; go_simp; with_reducible rfl)); rotate_left; (focus (simp only [Act.put, qzA, qzB, qzC, i64_w, i32_w]; rfl))
      refine pure_ (i := 18) (N := some 96) (v := ?_) (a' := ?_) (msk 29 19) rfl rfl (by kernel_rfl) (fun _ _ _ h => h) (Or.inl ⟨by rfl, ?_⟩) ?_ ?_; rotate_left; (focus (intro w'; go_simp; with_reducible rfl)); rotate_left; (focus (simp only [Act.put, qzA, qzB, qzC, i64_w, i32_w]; rfl))
      refine pure_ (i := 19) (N := some 97) (v := ?_) (a' := ?_) (msk 29 20) rfl rfl (by kernel_rfl) (fun _ _ _ h => h) (Or.inl ⟨by rfl, ?_⟩) ?_ ?_; rotate_left; (focus (intro w'; go_simp; with_reducible rfl)); rotate_left; (focus (simp only [Act.put, qzA, qzB, qzC, i64_w, i32_w]; rfl))
      refine pure_ (i := 20) (N := some 98) (v := ?_) (a' := ?_) (msk 29 21) rfl rfl (by kernel_rfl) (fun _ _ _ h => h) (Or.inl ⟨by rfl, ?_⟩) ?_ ?_; rotate_left; (focus (intro w'; go_simp; with_reducible rfl)); rotate_left; (focus (simp only [Act.put, qzA, qzB, qzC, i64_w, i32_w]; rfl))
      refine pure_ (i := 21) (N := some 99) (v := ?_) (a' := ?_) (msk 29 22) rfl rfl (by kernel_rfl) (fun _ _ _ h => h) (Or.inl ⟨by rfl, ?_⟩) ?_ ?_; rotate_left; (focus (intro w'; go_simp; with_reducible rfl)); rotate_left; (focus (simp only [Act.put, qzA, qzB, qzC, i64_w, i32_w]; rfl))
      refine take_ (i := 22) (N := some 100) (v := ?_) (a' := ?_) (msk 29 23) rfl rfl (by kernel_rfl) (fun _ _ _ h => h) (Or.inl ⟨by rfl, ?_⟩) hHeld ?_ ?_; rotate_left; (focus (rintro w' ⟨s0, s1, s2, s3⟩; go_simp; with_reducible rfl)); rotate_left; (focus (simp only [Act.put, qzA, qzB, qzC, i64_w, i32_w]; rfl))
      refine pure_ (i := 23) (N := some 101) (v := ?_) (a' := ?_) (msk 29 24) rfl rfl (by kernel_rfl) (fun _ _ _ h => h) (Or.inl ⟨by rfl, ?_⟩) ?_ ?_; rotate_left; (focus (intro w'; go_simp; with_reducible rfl)); rotate_left; (focus (simp only [Act.put, qzA, qzB, qzC, i64_w, i32_w]; rfl))
      refine pure_ (i := 24) (N := some 102) (v := ?_) (a' := ?_) (msk 29 25) rfl rfl (by kernel_rfl) (fun _ _ _ h => h) (Or.inl ⟨by rfl, ?_⟩) ?_ ?_; rotate_left; (focus (intro w'; go_simp; with_reducible rfl)); rotate_left; (focus (simp only [Act.put, qzA, qzB, qzC, i64_w, i32_w]; rfl))
      refine take_ (i := 25) (N := some 103) (v := ?_) (a' := ?_) (msk 29 26) rfl rfl (by kernel_rfl) (fun _ _ _ h => h) (Or.inl ⟨by rfl, ?_⟩) hHeld ?_ ?_; rotate_left; (focus (rintro w' ⟨s0, s1, s2, s3⟩; go_simp; with_reducible rfl)); rotate_left; (focus (simp only [Act.put, qzA, qzB, qzC, i64_w, i32_w]; rfl))
      refine pure_ (i := 26) (N := some 104) (v := ?_) (a' := ?_) (msk 29 27) rfl rfl (by kernel_rfl) (fun _ _ _ h => h) (Or.inl ⟨by rfl, ?_⟩) ?_ ?_; rotate_left; (focus (intro w'; go_simp; with_reducible rfl)); rotate_left; (focus (simp only [Act.put, qzA, qzB, qzC, i64_w, i32_w]; rfl))
      refine pure_ (i := 27) (N := some 105) (v := ?_) (a' := ?_) (msk 29 28) rfl rfl (by kernel_rfl) (fun _ _ _ h => h) (Or.inl ⟨by rfl, ?_⟩) ?_ ?_; rotate_left; (focus (intro w'; go_simp; with_reducible rfl)); rotate_left; (focus (simp only [Act.put, qzA, qzB, qzC, i64_w, i32_w]; rfl))
      refine pure_ (i := 28) (N := some 106) (v := ?_) (a' := ?_) (msk 29 29) rfl rfl (by kernel_rfl) (fun _ _ _ h => h) (Or.inl ⟨by rfl, ?_⟩) ?_ ?_; rotate_left; (focus (intro w'; go_simp; with_reducible rfl)); rotate_left; (focus (simp only [Act.put, qzA, qzB, qzC, i64_w, i32_w]; rfl))
      refine done_ (by kernel_rfl) ?_
      clear HT6
      have hcm := HMC.out
      have HT8 : qab (∀ W, Below wn.heap.size wn W → (W.cell? (mm.add n) = some (.slice (some rr) l0_1.length rc) ∧ W.cell? (rr.add (M * 2)) = some (.int .i64 x0) ∧ W.cell? ⟨(rr.add (M * 2)).block, (rr.add (M * 2)).off + 1, none⟩ = some (.int .i64 x1) ∧ W.cell? ⟨g9, 0, none⟩ = some (.int .i64 x0) ∧ W.cell? ⟨g11, 0, none⟩ = some (.int .i64 x1) ∧ qab (Below wn.heap.size wn W))) := ⟨fun W hb => by
       have hB := HI.out.hb
       have l := fun p v (h : wm.cell? p = some v) => (hb.cell (World.block_lt_of_cell? wn _ ((hB.cell (World.block_lt_of_cell? wm _ h)).trans h))).trans ((hB.cell (World.block_lt_of_cell? wm _ h)).trans h)
       have b9 := qaa (qag (HI.out.x _ (List.mem_cons_of_mem _ (List.mem_cons_self ..))) hb) 0
       have b11 := qaa (qag (HI.out.x _ (List.mem_cons_self ..)) hb) 0
       exact ⟨l _ _ hcm.1, l _ _ hcm.2.1, l _ _ hcm.2.2, b9, b11, ⟨hb⟩⟩⟩
      have HKN2 : qab (∀ W, Below wn.heap.size wn W → _) := ⟨fun W hb => HKN.out W (qad HI.out.hb hb)⟩
      have HWF : qab (∀ W, Below wn.heap.size wn W → Below w.heap.size w W) := ⟨fun W hb => HW2.out W (qad HI.out.hb hb)⟩
      clear hcm HKN HMC
      have HKN := HKN2
      clear HKN2
      have hu37 := Try.underlying37
      have hwM : wrap64 (M : Int) = (M : Int) := wrap_id (by omega) (by omega)
      go_upto_region 8 with fail
      refine start_ (n := 18) (S := (fun w' => (w'.cell? (mm.add n) = some (.slice (some rr) l0_1.length rc) ∧ w'.cell? (rr.add (M * 2)) = some (.int .i64 x0) ∧ w'.cell? ⟨(rr.add (M * 2)).block, (rr.add (M * 2)).off + 1, none⟩ = some (.int .i64 x1) ∧ w'.cell? ⟨g9, 0, none⟩ = some (.int .i64 x0) ∧ w'.cell? ⟨g11, 0, none⟩ = some (.int .i64 x1) ∧ qab (Below wn.heap.size wn w')))) (ds := []) (msk 18 0) (by kernel_rfl) rfl rfl (HT8.out _ (qbb (qbb (Below.refl _ _)))) (fun hHeld => ?_)
      refine pure_ (i := 0) (N := some 107) (v := ?_) (a' := ?_) (msk 18 1) rfl rfl (by kernel_rfl) (fun _ _ _ h => h) (Or.inl ⟨by rfl, ?_⟩) ?_ ?_; rotate_left; (focus (intro w'; go_simp; with_reducible rfl)); rotate_left; (focus (simp only [Act.put, qzA, qzB, qzC, i64_w, i32_w]; rfl))
      refine pure_ (i := 1) (N := some 108) (v := ?_) (a' := ?_) (msk 18 2) rfl rfl (by kernel_rfl) (fun _ _ _ h => h) (Or.inl ⟨by rfl, ?_⟩) ?_ ?_; rotate_left; (focus (intro w'; go_simp; with_reducible rfl)); rotate_left; (focus (simp only [Act.put, qzA, qzB, qzC, i64_w, i32_w]; rfl))
      refine pure_ (i := 2) (N := some 109) (v := ?_) (a' := ?_) (msk 18 3) rfl rfl (by kernel_rfl) (fun _ _ _ h => h) (Or.inl ⟨by rfl, ?_⟩) ?_ ?_; rotate_left; (focus (intro w'; go_simp; with_reducible rfl)); rotate_left; (focus (simp only [Act.put, qzA, qzB, qzC, i64_w, i32_w]; rfl))
      refine take_ (i := 3) (N := some 110) (v := ?_) (a' := ?_) (msk 18 4) rfl rfl (by kernel_rfl) (fun _ _ _ h => h) (Or.inl ⟨by rfl, ?_⟩) hHeld ?_ ?_; rotate_left; (focus (rintro w' ⟨s0, s1, s2, s3, s4, s5⟩; go_simp; with_reducible rfl)); rotate_left; (focus (simp only [Act.put, qzA, qzB, qzC, i64_w, i32_w]; rfl))
      refine pure_ (i := 4) (N := some 111) (v := ?_) (a' := ?_) (msk 18 5) rfl rfl (by kernel_rfl) (fun _ _ _ h => h) (Or.inl ⟨by rfl, ?_⟩) ?_ ?_; rotate_left; (focus (intro w'; go_simp; with_reducible rfl)); rotate_left; (focus (simp only [Act.put, qzA, qzB, qzC, i64_w, i32_w]; rfl))
      refine pure_ (i := 5) (N := some 112) (v := ?_) (a' := ?_) (msk 18 6) rfl rfl (by kernel_rfl) (fun _ _ _ h => h) (Or.inl ⟨by rfl, ?_⟩) ?_ ?_; rotate_left; (focus (intro w'; go_simp; with_reducible rfl)); rotate_left; (focus (simp only [Act.put, qzA, qzB, qzC, i64_w, i32_w]; rfl))
      refine pure_ (i := 6) (N := some 113) (v := ?_) (a' := ?_) (msk 18 7) rfl rfl (by kernel_rfl) (fun _ _ _ h => h) (Or.inl ⟨by rfl, ?_⟩) ?_ ?_; rotate_left; (focus (intro w'; go_simp; with_reducible rfl)); rotate_left; (focus (simp only [Act.put, qzA, qzB, qzC, i64_w, i32_w]; rfl))
      refine take_ (i := 7) (N := some 114) (v := ?_) (a' := ?_) (msk 18 8) rfl rfl (by kernel_rfl) (fun _ _ _ h => h) (Or.inl ⟨by rfl, ?_⟩) hHeld ?_ ?_; rotate_left; (focus (rintro w' ⟨s0, s1, s2, s3, s4, s5⟩; go_simp; with_reducible rfl)); rotate_left; (focus (simp only [Act.put, qzA, qzB, qzC, i64_w, i32_w]; rfl))
      refine pure_ (i := 8) (N := some 115) (v := ?_) (a' := ?_) (msk 18 9) rfl rfl (by kernel_rfl) (fun _ _ _ h => h) (Or.inl ⟨by rfl, ?_⟩) ?_ ?_; rotate_left; (focus (intro w'; go_simp; with_reducible rfl)); rotate_left; (focus (simp only [Act.put, qzA, qzB, qzC, i64_w, i32_w]; rfl))
      refine take_ (i := 9) (N := some 116) (v := ?_) (a' := ?_) (msk 18 10) rfl rfl (by kernel_rfl) (fun _ _ _ h => h) (Or.inl ⟨by rfl, ?_⟩) hHeld ?_ ?_; rotate_left; (focus (rintro w' ⟨s0, s1, s2, s3, s4, s5⟩; go_simp; with_reducible rfl)); rotate_left; (focus (simp only [Act.put, qzA, qzB, qzC, i64_w, i32_w]; rfl))
      refine pure_ (i := 10) (N := some 117) (v := ?_) (a' := ?_) (msk 18 11) rfl rfl (by kernel_rfl) (fun _ _ _ h => h) (Or.inl ⟨by rfl, ?_⟩) ?_ ?_; rotate_left; (focus (intro w'; go_simp; with_reducible rfl)); rotate_left; (focus (simp only [Act.put, qzA, qzB, qzC, i64_w, i32_w]; rfl))
      refine take_ (i := 11) (N := some 118) (v := ?_) (a' := ?_) (msk 18 12) rfl rfl (by kernel_rfl) (fun _ _ _ h => h) (Or.inl ⟨by rfl, ?_⟩) hHeld ?_ ?_; rotate_left; (focus (rintro w' ⟨s0, s1, s2, s3, s4, s5⟩; go_simp; with_reducible rfl)); rotate_left; (focus (simp only [Act.put, qzA, qzB, qzC, i64_w, i32_w]; rfl))
      refine pure_ (i := 12) (N := some 119) (v := ?_) (a' := ?_) (msk 18 13) rfl rfl (by kernel_rfl) (fun _ _ _ h => h) (Or.inl ⟨by rfl, ?_⟩) ?_ ?_; rotate_left; (focus (intro w'; go_simp; with_reducible rfl)); rotate_left; (focus (simp only [Act.put, qzA, qzB, qzC, i64_w, i32_w]; rfl))
      refine pure_ (i := 13) (N := some 120) (v := ?_) (a' := ?_) (msk 18 14) rfl rfl (by kernel_rfl) (fun _ _ _ h => h) (Or.inl ⟨by rfl, ?_⟩) ?_ ?_; rotate_left; (focus (intro w'; go_simp; with_reducible rfl)); rotate_left; (focus (simp only [Act.put, qzA, qzB, qzC, i64_w, i32_w]; rfl))
      refine pure_ (i := 14) (N := some 121) (v := ?_) (a' := ?_) (msk 18 15) rfl rfl (by kernel_rfl) (fun _ _ _ h => h) (Or.inl ⟨by rfl, ?_⟩) ?_ ?_; rotate_left; (focus (intro w'; go_simp; with_reducible rfl)); rotate_left; (focus (simp only [Act.put, qzA, qzB, qzC, i64_w, i32_w]; rfl))
      refine one_ (i := 15) (N := some 122) (msk 18 16) rfl rfl (by kernel_rfl) (by decide) (fun K hK => ?_)
      refine goes_ Try.func17 (by kernel_rfl) rfl #[] (by rfl) rfl rfl (by (try simp only [List.map_toArray, List.map_cons, List.map_nil]); first | done | rfl | (simp only [List.length_drop, List.length_take]; rfl)) ?_
      refine (HKN.out _ hHeld.2.2.2.2.2.out).mono ?_; rintro e w9 ⟨rfl, hb⟩; have HP9 := qab.mk (HT8.out w9 (qad hHeld.2.2.2.2.2.out hb)); clear hb; refine ⟨_, rfl, ?_⟩; refine hK.out _ _ HP9.out (fun hHeld => ?_); clear hK K; refine norm_ (a' := ?_) ?_ ?_; rotate_left; (focus (show Act.put _ (some 122) _ = _; simp only [Act.put, qzA, qzB, qzC, i64_w, i32_w]; rfl))
      refine pure_ (i := 16) (N := some 123) (v := ?_) (a' := ?_) (msk 18 17) rfl rfl (by kernel_rfl) (fun _ _ _ h => h) (Or.inl ⟨by rfl, ?_⟩) ?_ ?_; rotate_left; (focus (intro w'; go_simp; with_reducible rfl)); rotate_left; (focus (simp only [Act.put, qzA, qzB, qzC, i64_w, i32_w]; rfl))
      refine pure_ (i := 17) (N := some 6) (v := ?_) (a' := ?_) (msk 18 18) rfl rfl (by kernel_rfl) (fun _ _ _ h => h) (Or.inl ⟨by rfl, ?_⟩) ?_ ?_; rotate_left; (focus (intro w'; go_simp; with_reducible rfl)); rotate_left; (focus (simp only [Act.put, qzA, qzB, qzC, i64_w, i32_w]; rfl))
      refine done_ (by kernel_rfl) ?_
      go_wp2_with fail
      go_ret
      exact ⟨rfl, HWF.out _ HP9.out.2.2.2.2.2.out⟩
end Go.Proofs.Ytipphcjgdebecaa.PA
