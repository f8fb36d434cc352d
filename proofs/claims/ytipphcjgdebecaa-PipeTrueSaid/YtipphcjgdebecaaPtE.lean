/- What functions of the program answer. No condition. -/
import Derived.RangeFuncNested
import Derived.RangeFuncBound
import Derived.RangeFuncCalls
import Derived.RangeFuncLeaves
import Derived.RangeFuncBox
import Derived.Shelf.Abstract
import Derived.Shelf.RegionOpen
import Derived.OwnWalkIn
import Derived.TacticsInMore
import Derived.LoopNIn
import Derived.LoopIn
import Derived.Recover
import Derived.Defers
import Derived.WalkLawsBesides
import Derived.WalkSmall
import Derived.Test.YtipphcjgdebecaaPtC
import Derived.Test.YtipphcjgdebecaaPtD
import Derived.Test.YtipphcjgdebecaaSC
import Derived.Test.YtipphcjgdebecaaSE
import Derived.Test.YtipphcjgdebecaaSH
import Derived.Test.YtipphcjgdebecaaSL
import Derived.Test.YtipphcjgdebecaaSM
import Derived.Test.YtipphcjgdebecaaPtA
import Derived.Test.YtipphcjgdebecaaPtB
import Derived.Test.YtipphcjgdebecaaSD
import Derived.Test.YtipphcjgdebecaaSF
import Derived.Test.YtipphcjgdebecaaSG
set_option linter.all false
set_option maxRecDepth 100000
set_option maxHeartbeats 8000000
namespace Go.Proofs.Ytipphcjgdebecaa.PA
open Go.RowKit Go.Shelf Go.Proofs.YtipphcjgdebecaaW.PrintWords Go.Proofs.YtipphcjgdebecaaW.PrintLast Go.Proofs.YtipphcjgdebecaaW.PrintMore
attribute [local go_sem] qaw qay max_two min_two qas qat qax qaz
theorem taliklaw04_PipeTrue.calls (A0_0 : Option Addr) (c0_0 : Nat) (l0_0 : List S39) (A0_1 : Option Addr) (c0_1 : Nat) (l0_1 : List S37) (A0_2 : Option Addr) (c0_2 : Nat) (l0_2 : List (List Int)) (a1 a2 : Int) (A3 : Option Addr) (c3 : Nat) (l3 : List Int) (r : Bool) (w : World) (hr0_0 : Kd.C k39 w A0_0 l0_0.length l0_0) (hc0_0 : l0_0.length ≤ c0_0) (hr0_1 : Kd.C k37 w A0_1 l0_1.length l0_1) (hc0_1 : l0_1.length ≤ c0_1) (hr0_2 : Kd.C (Kd.slice 3 (Kd.int .i64)) w A0_2 l0_2.length l0_2) (hc0_2 : l0_2.length ≤ c0_2) (hr3 : Kd.C (Kd.int .i64) w A3 l3.length l3) (hc3 : l3.length ≤ c3) (h : (some true : Option Bool) = some r) : Calls Try.prog 13 #[.agg #[.slice A0_0 l0_0.length c0_0, .slice A0_1 l0_1.length c0_1, .slice A0_2 l0_2.length c0_2], .int .i64 a1, .int .i64 a2, .slice A3 l3.length c3] w fun e w' => e = .returned (.bool r) ∧ Below w.heap.size w w' := by
 obtain rfl := Option.some.inj h; clear h; have hu26 := Try.underlying26; have HB := qab.mk (Below.refl w.heap.size w); have HR0 := qab.mk hr0_0; have HR1 := qab.mk hr0_1; have HR2 := qab.mk hr0_2; clear hr0_0 hr0_1 hr0_2
 have HRL := qab.mk hr3
 have hm3 := Kd.C_max hr3
 clear hr3
 have HSHORT : qab (∀ W, Below w.heap.size w W → Calls Try.prog 16 #[.agg #[.slice A0_0 l0_0.length c0_0, .slice A0_1 l0_1.length c0_1, .slice A0_2 l0_2.length c0_2]] W fun e w' => e = .returned (.bool (shortB l0_0 l0_1 l0_2)) ∧ Below W.heap.size W w') := ⟨fun W hW => (taliklaw04_short.calls 30 _ _ l0_0 _ _ l0_1 _ _ l0_2 _ W (Kd.qaj HR0.out hW) hc0_0 (Kd.qaj HR1.out hW) hc0_1 (Kd.qaj HR2.out hW) hc0_2 (short_eq l0_0 l0_1 l0_2 30 (by omega))).mono fun e w' ⟨h1, h2⟩ => ⟨h1, h2⟩⟩
 have HKNOWN : qab (∀ W, Below w.heap.size w W → Calls Try.prog 17 #[] W fun e w' => e = .returned (.bool true) ∧ Below W.heap.size W w') := ⟨fun W hW => taliklaw04_known.calls true W rfl⟩
 cases hs : shortB l0_0 l0_1 l0_2 with
 | false =>
  rw [hs] at HSHORT
  go_enter Try.func13, Try.ntmps13
  go_wp2_with (first | (with_reducible refine qan (N := 4) rfl ?_); refine qam ?hg (N := 4) ?hd (cs := #[.slice A0_0 l0_0.length c0_0, .slice A0_1 l0_1.length c0_1, .slice A0_2 l0_2.length c0_2]) (t := 26) ?hr ?_; (case hd => rfl); (case hg => rfl); (case hr => first | (go_simp; done) | (go_simp; rfl)); intro gb hg_gb w2 hbox hb; have BKgb := qab.mk hbox; have n_HB := qab.mk (qad HB.out hb); have GEgb : w.heap.size ≤ gb := (by rw [hg_gb]; exact HB.out.size); clear HB; have HB := n_HB; clear n_HB; obtain ⟨hfgb, hcgb_0, hcgb_1, hcgb_2⟩ := qz3 BKgb.out; clear hbox hb hg_gb | (go_at_call 16; with_reducible refine (HSHORT.out _ HB.out).mono ?_; rintro e wn ⟨rfl, hb⟩; replace BKgb := qab.mk (qag BKgb.out hb); replace HB := qab.mk (qad HB.out hb); clear hb; obtain ⟨hfgb, hcgb_0, hcgb_1, hcgb_2⟩ := qz3 BKgb.out) | (go_at_call 17; with_reducible refine (HKNOWN.out _ HB.out).mono ?_; rintro e wn ⟨rfl, hb⟩; replace BKgb := qab.mk (qag BKgb.out hb); replace HB := qab.mk (qad HB.out hb); clear hb; obtain ⟨hfgb, hcgb_0, hcgb_1, hcgb_2⟩ := qz3 BKgb.out))
  go_ret
  exact ⟨rfl, HB.out⟩
 | true =>
  have hsh := short_of hs
  rw [hs] at HSHORT
  clear hs
  have HNET : qab (∀ W, Below w.heap.size w W → Calls Try.prog 19 #[.agg #[.slice A0_0 l0_0.length c0_0, .slice A0_1 l0_1.length c0_1, .slice A0_2 l0_2.length c0_2]] W fun e w' => e = .returned (.bool (validB l0_0 l0_1 l0_2)) ∧ Below W.heap.size W w') := ⟨fun W hW => (talikref04_Net.calls _ _ l0_0 _ _ l0_1 _ _ l0_2 _ W (Kd.qaj HR0.out hW) hc0_0 (Kd.qaj HR1.out hW) hc0_1 (Kd.qaj HR2.out hW) hc0_2 (net_eq l0_0 l0_1 l0_2 hsh 300 (by omega))).mono fun e w' ⟨h1, h2⟩ => ⟨h1, h2⟩⟩
  cases hv : validB l0_0 l0_1 l0_2 with
  | false =>
   rw [hv] at HNET
   clear hv
   go_enter Try.func13, Try.ntmps13
   go_wp2_with (first | (with_reducible refine qan (N := 4) rfl ?_); refine qam ?hg (N := 4) ?hd (cs := #[.slice A0_0 l0_0.length c0_0, .slice A0_1 l0_1.length c0_1, .slice A0_2 l0_2.length c0_2]) (t := 26) ?hr ?_; (case hd => rfl); (case hg => rfl); (case hr => first | (go_simp; done) | (go_simp; rfl)); intro gb hg_gb w2 hbox hb; have BKgb := qab.mk hbox; have n_HB := qab.mk (qad HB.out hb); have GEgb : w.heap.size ≤ gb := (by rw [hg_gb]; exact HB.out.size); clear HB; have HB := n_HB; clear n_HB; obtain ⟨hfgb, hcgb_0, hcgb_1, hcgb_2⟩ := qz3 BKgb.out; clear hbox hb hg_gb | (go_at_call 16; with_reducible refine (HSHORT.out _ HB.out).mono ?_; rintro e wn ⟨rfl, hb⟩; replace BKgb := qab.mk (qag BKgb.out hb); replace HB := qab.mk (qad HB.out hb); clear hb; obtain ⟨hfgb, hcgb_0, hcgb_1, hcgb_2⟩ := qz3 BKgb.out) | (go_at_call 19; with_reducible refine (HNET.out _ HB.out).mono ?_; rintro e wn ⟨rfl, hb⟩; replace BKgb := qab.mk (qag BKgb.out hb); replace HB := qab.mk (qad HB.out hb); clear hb; obtain ⟨hfgb, hcgb_0, hcgb_1, hcgb_2⟩ := qz3 BKgb.out) | (go_at_call 17; with_reducible refine (HKNOWN.out _ HB.out).mono ?_; rintro e wn ⟨rfl, hb⟩; replace BKgb := qab.mk (qag BKgb.out hb); replace HB := qab.mk (qad HB.out hb); clear hb; obtain ⟨hfgb, hcgb_0, hcgb_1, hcgb_2⟩ := qz3 BKgb.out))
   go_ret
   exact ⟨rfl, HB.out⟩
  | true =>
   rw [hv] at HNET
   have HLO : qab (∀ W, Below w.heap.size w W → Calls Try.prog 20 #[.agg #[.slice A0_0 l0_0.length c0_0, .slice A0_1 l0_1.length c0_1, .slice A0_2 l0_2.length c0_2], .int .i64 a1] W fun e w' => e = .returned (.bool (inB a1 0 (wrap64 ((l0_0.length : Int) - 1)))) ∧ Below W.heap.size W w') := ⟨fun W hW => (talikref04_IsLoop.calls _ _ l0_0 _ _ l0_1 _ _ l0_2 a1 _ W (Kd.qaj HR0.out hW) hc0_0 (Kd.qaj HR1.out hW) hc0_1 (Kd.qaj HR2.out hW) hc0_2 (isloop_eq l0_0 l0_1 l0_2 a1)).mono fun e w' ⟨h1, h2⟩ => ⟨h1, h2⟩⟩
   cases hi : inB a1 0 (wrap64 ((l0_0.length : Int) - 1)) with
   | false =>
    rw [hi] at HLO
    clear hi hv
    go_enter Try.func13, Try.ntmps13
    go_wp2_with (first | (with_reducible refine qan (N := 4) rfl ?_); refine qam ?hg (N := 4) ?hd (cs := #[.slice A0_0 l0_0.length c0_0, .slice A0_1 l0_1.length c0_1, .slice A0_2 l0_2.length c0_2]) (t := 26) ?hr ?_; (case hd => rfl); (case hg => rfl); (case hr => first | (go_simp; done) | (go_simp; rfl)); intro gb hg_gb w2 hbox hb; have BKgb := qab.mk hbox; have n_HB := qab.mk (qad HB.out hb); have GEgb : w.heap.size ≤ gb := (by rw [hg_gb]; exact HB.out.size); clear HB; have HB := n_HB; clear n_HB; obtain ⟨hfgb, hcgb_0, hcgb_1, hcgb_2⟩ := qz3 BKgb.out; clear hbox hb hg_gb | (go_at_call 16; with_reducible refine (HSHORT.out _ HB.out).mono ?_; rintro e wn ⟨rfl, hb⟩; replace BKgb := qab.mk (qag BKgb.out hb); replace HB := qab.mk (qad HB.out hb); clear hb; obtain ⟨hfgb, hcgb_0, hcgb_1, hcgb_2⟩ := qz3 BKgb.out) | (go_at_call 19; with_reducible refine (HNET.out _ HB.out).mono ?_; rintro e wn ⟨rfl, hb⟩; replace BKgb := qab.mk (qag BKgb.out hb); replace HB := qab.mk (qad HB.out hb); clear hb; obtain ⟨hfgb, hcgb_0, hcgb_1, hcgb_2⟩ := qz3 BKgb.out) | (go_at_call 20; with_reducible refine (HLO.out _ HB.out).mono ?_; rintro e wn ⟨rfl, hb⟩; replace BKgb := qab.mk (qag BKgb.out hb); replace HB := qab.mk (qad HB.out hb); clear hb; obtain ⟨hfgb, hcgb_0, hcgb_1, hcgb_2⟩ := qz3 BKgb.out) | (go_at_call 17; with_reducible refine (HKNOWN.out _ HB.out).mono ?_; rintro e wn ⟨rfl, hb⟩; replace BKgb := qab.mk (qag BKgb.out hb); replace HB := qab.mk (qad HB.out hb); clear hb; obtain ⟨hfgb, hcgb_0, hcgb_1, hcgb_2⟩ := qz3 BKgb.out))
    go_ret
    exact ⟨rfl, HB.out⟩
   | true =>
    rw [hi] at HLO
    by_cases c1 : a2 < 1
    ·
     have d1 : decide (a2 < 1) = true := decide_eq_true c1
     clear hi hv
     go_enter Try.func13, Try.ntmps13
     go_wp2_with (first | (with_reducible refine qan (N := 4) rfl ?_); refine qam ?hg (N := 4) ?hd (cs := #[.slice A0_0 l0_0.length c0_0, .slice A0_1 l0_1.length c0_1, .slice A0_2 l0_2.length c0_2]) (t := 26) ?hr ?_; (case hd => rfl); (case hg => rfl); (case hr => first | (go_simp; done) | (go_simp; rfl)); intro gb hg_gb w2 hbox hb; have BKgb := qab.mk hbox; have n_HB := qab.mk (qad HB.out hb); have GEgb : w.heap.size ≤ gb := (by rw [hg_gb]; exact HB.out.size); clear HB; have HB := n_HB; clear n_HB; obtain ⟨hfgb, hcgb_0, hcgb_1, hcgb_2⟩ := qz3 BKgb.out; clear hbox hb hg_gb | (go_at_call 16; with_reducible refine (HSHORT.out _ HB.out).mono ?_; rintro e wn ⟨rfl, hb⟩; replace BKgb := qab.mk (qag BKgb.out hb); replace HB := qab.mk (qad HB.out hb); clear hb; obtain ⟨hfgb, hcgb_0, hcgb_1, hcgb_2⟩ := qz3 BKgb.out) | (go_at_call 19; with_reducible refine (HNET.out _ HB.out).mono ?_; rintro e wn ⟨rfl, hb⟩; replace BKgb := qab.mk (qag BKgb.out hb); replace HB := qab.mk (qad HB.out hb); clear hb; obtain ⟨hfgb, hcgb_0, hcgb_1, hcgb_2⟩ := qz3 BKgb.out) | (go_at_call 20; with_reducible refine (HLO.out _ HB.out).mono ?_; rintro e wn ⟨rfl, hb⟩; replace BKgb := qab.mk (qag BKgb.out hb); replace HB := qab.mk (qad HB.out hb); clear hb; obtain ⟨hfgb, hcgb_0, hcgb_1, hcgb_2⟩ := qz3 BKgb.out) | (go_at_call 17; with_reducible refine (HKNOWN.out _ HB.out).mono ?_; rintro e wn ⟨rfl, hb⟩; replace BKgb := qab.mk (qag BKgb.out hb); replace HB := qab.mk (qad HB.out hb); clear hb; obtain ⟨hfgb, hcgb_0, hcgb_1, hcgb_2⟩ := qz3 BKgb.out))
     go_ret
     exact ⟨rfl, HB.out⟩
    ·
     have d1 : decide (a2 < 1) = false := decide_eq_false c1
     by_cases c2 : (l0_1.length : Int) < a2
     ·
      have d2 : decide ((l0_1.length : Int) < a2) = true := decide_eq_true c2
      clear hi hv
      go_enter Try.func13, Try.ntmps13
      go_wp2_with (first | (with_reducible refine qan (N := 4) rfl ?_); refine qam ?hg (N := 4) ?hd (cs := #[.slice A0_0 l0_0.length c0_0, .slice A0_1 l0_1.length c0_1, .slice A0_2 l0_2.length c0_2]) (t := 26) ?hr ?_; (case hd => rfl); (case hg => rfl); (case hr => first | (go_simp; done) | (go_simp; rfl)); intro gb hg_gb w2 hbox hb; have BKgb := qab.mk hbox; have n_HB := qab.mk (qad HB.out hb); have GEgb : w.heap.size ≤ gb := (by rw [hg_gb]; exact HB.out.size); clear HB; have HB := n_HB; clear n_HB; obtain ⟨hfgb, hcgb_0, hcgb_1, hcgb_2⟩ := qz3 BKgb.out; clear hbox hb hg_gb | (go_at_call 16; with_reducible refine (HSHORT.out _ HB.out).mono ?_; rintro e wn ⟨rfl, hb⟩; replace BKgb := qab.mk (qag BKgb.out hb); replace HB := qab.mk (qad HB.out hb); clear hb; obtain ⟨hfgb, hcgb_0, hcgb_1, hcgb_2⟩ := qz3 BKgb.out) | (go_at_call 19; with_reducible refine (HNET.out _ HB.out).mono ?_; rintro e wn ⟨rfl, hb⟩; replace BKgb := qab.mk (qag BKgb.out hb); replace HB := qab.mk (qad HB.out hb); clear hb; obtain ⟨hfgb, hcgb_0, hcgb_1, hcgb_2⟩ := qz3 BKgb.out) | (go_at_call 20; with_reducible refine (HLO.out _ HB.out).mono ?_; rintro e wn ⟨rfl, hb⟩; replace BKgb := qab.mk (qag BKgb.out hb); replace HB := qab.mk (qad HB.out hb); clear hb; obtain ⟨hfgb, hcgb_0, hcgb_1, hcgb_2⟩ := qz3 BKgb.out) | (go_at_call 17; with_reducible refine (HKNOWN.out _ HB.out).mono ?_; rintro e wn ⟨rfl, hb⟩; replace BKgb := qab.mk (qag BKgb.out hb); replace HB := qab.mk (qad HB.out hb); clear hb; obtain ⟨hfgb, hcgb_0, hcgb_1, hcgb_2⟩ := qz3 BKgb.out))
      go_ret
      exact ⟨rfl, HB.out⟩
     ·
      have d2 : decide ((l0_1.length : Int) < a2) = false := decide_eq_false c2
      obtain ⟨pb, hpb, hpt⟩ := percents_some l3 (by omega)
      have HPC : qab (∀ W, Below w.heap.size w W → Calls Try.prog 33 #[.slice A3 l3.length c3] W fun e w' => e = .returned (.bool pb) ∧ Below W.heap.size W w') := ⟨fun W hW => (taliklaw04_percents.calls _ _ _ l3 _ W (Kd.qaj HRL.out hW) hc3 hpb).mono fun e w' ⟨h1, h2⟩ => ⟨h1, h2.below⟩⟩
      cases pb with
      | false =>
       clear hi hv hpt hpb
       go_enter Try.func13, Try.ntmps13
       go_wp2_with (first | (with_reducible refine qan (N := 4) rfl ?_); refine qam ?hg (N := 4) ?hd (cs := #[.slice A0_0 l0_0.length c0_0, .slice A0_1 l0_1.length c0_1, .slice A0_2 l0_2.length c0_2]) (t := 26) ?hr ?_; (case hd => rfl); (case hg => rfl); (case hr => first | (go_simp; done) | (go_simp; rfl)); intro gb hg_gb w2 hbox hb; have BKgb := qab.mk hbox; have n_HB := qab.mk (qad HB.out hb); have GEgb : w.heap.size ≤ gb := (by rw [hg_gb]; exact HB.out.size); clear HB; have HB := n_HB; clear n_HB; obtain ⟨hfgb, hcgb_0, hcgb_1, hcgb_2⟩ := qz3 BKgb.out; clear hbox hb hg_gb | (go_at_call 16; with_reducible refine (HSHORT.out _ HB.out).mono ?_; rintro e wn ⟨rfl, hb⟩; replace BKgb := qab.mk (qag BKgb.out hb); replace HB := qab.mk (qad HB.out hb); clear hb; obtain ⟨hfgb, hcgb_0, hcgb_1, hcgb_2⟩ := qz3 BKgb.out) | (go_at_call 19; with_reducible refine (HNET.out _ HB.out).mono ?_; rintro e wn ⟨rfl, hb⟩; replace BKgb := qab.mk (qag BKgb.out hb); replace HB := qab.mk (qad HB.out hb); clear hb; obtain ⟨hfgb, hcgb_0, hcgb_1, hcgb_2⟩ := qz3 BKgb.out) | (go_at_call 20; with_reducible refine (HLO.out _ HB.out).mono ?_; rintro e wn ⟨rfl, hb⟩; replace BKgb := qab.mk (qag BKgb.out hb); replace HB := qab.mk (qad HB.out hb); clear hb; obtain ⟨hfgb, hcgb_0, hcgb_1, hcgb_2⟩ := qz3 BKgb.out) | (go_at_call 33; with_reducible refine (HPC.out _ HB.out).mono ?_; rintro e wn ⟨rfl, hb⟩; replace BKgb := qab.mk (qag BKgb.out hb); replace HB := qab.mk (qad HB.out hb); clear hb; obtain ⟨hfgb, hcgb_0, hcgb_1, hcgb_2⟩ := qz3 BKgb.out) | (go_at_call 17; with_reducible refine (HKNOWN.out _ HB.out).mono ?_; rintro e wn ⟨rfl, hb⟩; replace BKgb := qab.mk (qag BKgb.out hb); replace HB := qab.mk (qad HB.out hb); clear hb; obtain ⟨hfgb, hcgb_0, hcgb_1, hcgb_2⟩ := qz3 BKgb.out))
       go_ret
       exact ⟨rfl, HB.out⟩
      | true =>
       have hwh := hpt rfl
       clear hpb hpt
       have hN := net_ok hv
       have hn0 := hN.n0
       have hn1 := hN.n1
       have hh := hN.h1
       obtain ⟨i0, i1⟩ := (isloop_iff hN a1).1 hi
       have hL := hN.loops _ (rdT39_mem i0 i1)
       obtain ⟨n, rfl⟩ := Int.eq_ofNat_of_zero_le i0
       obtain ⟨N, rfl⟩ := Int.eq_ofNat_of_zero_le (show 0 ≤ a2 by omega)
       obtain ⟨M, rfl⟩ : ∃ M, N = M + 1 := ⟨N - 1, by omega⟩
       have hNl : M + 1 ≤ l0_1.length := by omega
       obtain ⟨p0, hp0⟩ : ∃ p, p = rd l3 0 := ⟨_, rfl⟩
       have hp01 : 0 ≤ p0 ∧ p0 ≤ 100 := by
        have h := whL_bd hwh 0
        unfold whL at h
        rw [Nat.zero_mod] at h
        rw [hp0]
        exact h
       have hpw := part_bd hL.w1 hp01.1 hp01.2
       have hpe := part_eq (show 0 ≤ (qal l0_0 n).f0.f0 by have := hL.w0; omega) hL.w1 hL.w2 hp01.1 hp01.2
       obtain ⟨pw, hpwe⟩ : ∃ x, x = partV (qal l0_0 n).f0.f0 (qal l0_0 n).f0.f1 p0 := ⟨_, rfl⟩
       rw [← hpwe] at hpw hpe
       obtain ⟨y0, z0, u0, hpl⟩ := play_unfed hv n i0 i1 pw hpw.1 hpw.2 (truthL (qal l0_0 n) l0_1 l3 (M + 1)) (by rw [truthL_length]; exact hNl) (truthL_truth hN hL hwh (M + 1) hNl) (truthL_unfed hN hL hwh (M + 1) hNl)
       have hbet := truth_between hN hL hwh pw hpw.1 hpw.2 (M + 1) hNl
       obtain ⟨x0, hx0⟩ : ∃ x, x = coldL pw (truthL (qal l0_0 n) l0_1 l3 (M + 1)) := ⟨_, rfl⟩
       obtain ⟨lo, hlo⟩ : ∃ x, x = lowW (qal l0_0 n) l0_1 (M + 1) := ⟨_, rfl⟩
       obtain ⟨hg, hhg⟩ : ∃ x, x = highW (qal l0_0 n) l0_1 (M + 1) := ⟨_, rfl⟩
       have hlb := low_bd hN hL (M + 1) hNl
       have hca : x0 = 0 → 1 ≤ canV l0_0 l0_1 n ∧ canV l0_0 l0_1 n ≤ ((M + 1 : Nat) : Int) := fun hz => can_le hv n i0 i1 (M + 1) (by omega) hNl (by rw [← hlo, ← hx0, hz] at hbet; rw [← hlo] at hlb ⊢; omega)
       obtain ⟨ca, hcae⟩ : ∃ x, x = canV l0_0 l0_1 n := ⟨_, rfl⟩
       obtain ⟨mu, hmue⟩ : ∃ x, x = (frz (warmthV l0_0 l0_1 0 n) 0 (-1)).2 := ⟨_, rfl⟩
       have hmu : 0 ≤ mu → mu ≤ ((M + 1 : Nat) : Int) → x0 = 0 := fun h0 h1 => by
        have := must_high hv n i0 i1 (M + 1) hNl (by rw [← hmue]; exact h0) (by rw [← hmue]; exact h1)
        rw [this, ← hlo, ← hx0] at hbet
        rw [← hlo] at hlb
        omega
       have hfrz : pipe_Freezes.f l0_0 l0_1 l0_2 n = some (ca, mu, 0) := by
        unfold pipe_Freezes.f
        rw [hv, hi, if_pos (by decide)]
        unfold pipe_net_freezes.f
        rw [if_pos ⟨i0, i1, by decide, by omega⟩, hcae, hmue]
        rfl
       rw [← hcae] at hca
       rw [← hx0, ← hlo, ← hhg] at hbet
       rw [← hlo] at hlb
       rw [show coldL pw (truthL (qal l0_0 n) l0_1 l3 (M + 1)) = x0 from hx0.symm] at hpl
       obtain ⟨e0, he0⟩ : ∃ x, x = truthL (qal l0_0 n) l0_1 l3 (M + 1) := ⟨_, rfl⟩
       have HTR : qab (∀ W, Below w.heap.size w W → Calls Try.prog 35 #[.agg #[.slice A0_0 l0_0.length c0_0, .slice A0_1 l0_1.length c0_1, .slice A0_2 l0_2.length c0_2], .int .i64 n, .int .i64 ((M + 1 : Nat) : Int), .slice A3 l3.length c3] W fun e w' => ∃ v, e = .returned v ∧ Kd.R k44 44 w' W.heap.size (fun _ => True) v e0 ∧ Below W.heap.size W w') := ⟨fun W hW => taliklaw04_truth.calls 100 _ _ l0_0 _ _ l0_1 _ _ l0_2 n _ _ _ l3 _ W (Kd.qaj HR0.out hW) hc0_0 (Kd.qaj HR1.out hW) hc0_1 (Kd.qaj HR2.out hW) hc0_2 (Kd.qaj HRL.out hW) hc3 (by rw [he0]; exact truth_eq hN hwh n i0 i1 (M + 1) hNl 100 (by omega))⟩
       have HPL : qab (∀ tA tc W, Below w.heap.size w W → (∃ base ok, Kd.R k44 44 W base ok (.slice tA e0.length tc) e0) → Calls Try.prog 18 #[.agg #[.slice A0_0 l0_0.length c0_0, .slice A0_1 l0_1.length c0_1, .slice A0_2 l0_2.length c0_2], .int .i64 n, .int .i64 pw, .slice tA e0.length tc] W fun e w' => e = .returned (.tuple #[.agg #[.int .i64 x0, .int .i64 y0, .int .i64 z0, .int .i64 u0], .int .i64 0]) ∧ Below W.heap.size W w') := ⟨fun tA tc W hW ⟨base, ok, hr⟩ => pipe_Play.calls _ _ l0_0 _ _ l0_1 _ _ l0_2 n pw tA tc e0 _ _ _ _ _ W (Kd.qaj HR0.out hW) hc0_0 (Kd.qaj HR1.out hW) hc0_1 (Kd.qaj HR2.out hW) hc0_2 (Kd.R_reads' hr).2.2 (Kd.R_reads' hr).2.1 (by unfold pipe_Play.f; rw [he0, hpl])⟩
       have HFZ : qab (∀ W, Below w.heap.size w W → Calls Try.prog 43 #[.agg #[.slice A0_0 l0_0.length c0_0, .slice A0_1 l0_1.length c0_1, .slice A0_2 l0_2.length c0_2], .int .i64 n] W fun e w' => e = .returned (.tuple #[.int .i64 ca, .int .i64 mu, .int .i64 0]) ∧ Below W.heap.size W w') := ⟨fun W hW => pipe_Freezes.calls _ _ l0_0 _ _ l0_1 _ _ l0_2 n _ _ _ W (Kd.qaj HR0.out hW) hc0_0 (Kd.qaj HR1.out hW) hc0_1 (Kd.qaj HR2.out hW) hc0_2 hfrz⟩
       have HWARM : qab (∀ W, Below w.heap.size w W → Calls Try.prog 47 #[.agg #[.slice A0_0 l0_0.length c0_0, .slice A0_1 l0_1.length c0_1, .slice A0_2 l0_2.length c0_2]] W fun e w' => ∃ v, e = .returned (.tuple #[v, .int .i64 0]) ∧ Kd.S (Kd.slice 37 k37) 23 w' W.heap.size (fun _ => True) v (rowsW l0_0 l0_1 l0_0.length) ∧ Below W.heap.size W w') := ⟨fun W hW => pipe_Warmth.calls 10 _ _ l0_0 _ _ l0_1 _ _ l0_2 _ _ W (Kd.qaj HR0.out hW) hc0_0 (Kd.qaj HR1.out hW) hc0_1 (Kd.qaj HR2.out hW) hc0_2 (pwarmth_eq hv 10 (by omega))⟩
       have hrd : rd_L6 (rowsW l0_0 l0_1 l0_0.length) (n : Int) = rowW (qal l0_0 n) l0_1 l0_1.length := by
        rw [rd_L6_at _ n (by rw [rowsW_length]; omega)]
        simp [rowsW]
       have hrow0 : (rd_T37 (rowW (qal l0_0 n) l0_1 l0_1.length) (M : Int)).f0 = lo ∧ (rd_T37 (rowW (qal l0_0 n) l0_1 l0_1.length) (M : Int)).f1 = hg := by
        rw [rdT37_at _ M (by rw [rowW_length]; omega), rowW_at, hlo, hhg]
        exact ⟨rfl, rfl⟩
       obtain ⟨ad, e, hl0, hl1, hl2, hl3, hl4, hl5, hl6, hl7, hl8, hl9, hl10, hl11⟩ := at_T39 HR0.out n i0 i1
       cases e
       obtain ⟨aw, e, hw0⟩ := Kd.at_int HRL.out 0 (Int.le_refl _) (by have := hwh.len.1; omega)
       cases e
       rw [← hp0] at hw0
       simp only [Int.toNat_natCast] at hl0 hl1
       clear hl2 hl3 hl4 hl5 hl6 hl7 hl8 hl9 hl10 hl11 hx0 hlo hhg hi hL hN hsh hp0 hpl hfrz
       obtain ⟨f0, hf0⟩ : ∃ x, x = (qal l0_0 n).f0.f0 := ⟨_, rfl⟩
       obtain ⟨f1, hf1⟩ : ∃ x, x = (qal l0_0 n).f0.f1 := ⟨_, rfl⟩
       rw [← hf0] at hl0 hpe
       rw [← hf1] at hl1 hpe
       have HPA : qab (∀ W, Calls Try.prog 34 #[.agg #[.int .i64 f0, .int .i64 f1], .int .i64 p0] W fun e w' => e = .returned (.int .i64 pw) ∧ Below W.heap.size W w') := ⟨fun W => taliklaw04_part.calls f0 f1 p0 pw W hpe⟩
       have hw0' : w.cell? aw = some (.int .i64 p0) := by simpa [Addr.add] using hw0
       have HL := qab.mk (And.intro hl0 (And.intro hl1 hw0'))
       have HRD := qab.mk (And.intro hrd hrow0)
       have HFIN := qab.mk (And.intro hbet (And.intro hlb (And.intro hca hmu)))
       have hl3p : (0 : Int) < l3.length := by have := hwh.len.1; omega
       have hl3n : 0 < l3.length := hwh.len.1
       clear hl0 hl1 hw0 hw0' hf0 hf1 hv hrd hrow0 he0 hpe hpw hpwe hwh hbet hlb hca hmu hcae hmue hp01
       have hn0' : (0 : Int) ≤ n := i0
       have hnl : (n : Int) < l0_0.length := i1
       go_enter Try.func13, Try.ntmps13
       go_upto_region 5 with (first | ((with_reducible refine qan (N := 4) rfl ?_); refine qam ?hg (N := 4) ?hd (cs := #[.slice (some ad) l0_0.length c0_0, .slice A0_1 l0_1.length c0_1, .slice A0_2 l0_2.length c0_2]) (t := 26) ?hr ?_; (case hd => rfl); (case hg => rfl); (case hr => first | (go_simp; done) | (go_simp; rfl)); intro gb hg_gb w2 hbox hb; have BKgb := qab.mk hbox; have n_HB := qab.mk (qad HB.out hb); have GEgb : w.heap.size ≤ gb := (by rw [hg_gb]; exact HB.out.size); clear HB; have HB := n_HB; clear n_HB; obtain ⟨hfgb, hcgb_0, hcgb_1, hcgb_2⟩ := qz3 BKgb.out; clear hbox hb hg_gb) | (go_at_call 16; with_reducible refine (HSHORT.out _ HB.out).mono ?_; rintro e wn ⟨rfl, hb⟩; replace BKgb := qab.mk (qag BKgb.out hb); replace HB := qab.mk (qad HB.out hb); clear hb; obtain ⟨hfgb, hcgb_0, hcgb_1, hcgb_2⟩ := qz3 BKgb.out) | (go_at_call 19; with_reducible refine (HNET.out _ HB.out).mono ?_; rintro e wn ⟨rfl, hb⟩; replace BKgb := qab.mk (qag BKgb.out hb); replace HB := qab.mk (qad HB.out hb); clear hb; obtain ⟨hfgb, hcgb_0, hcgb_1, hcgb_2⟩ := qz3 BKgb.out) | (go_at_call 20; with_reducible refine (HLO.out _ HB.out).mono ?_; rintro e wn ⟨rfl, hb⟩; replace BKgb := qab.mk (qag BKgb.out hb); replace HB := qab.mk (qad HB.out hb); clear hb; obtain ⟨hfgb, hcgb_0, hcgb_1, hcgb_2⟩ := qz3 BKgb.out) | (go_at_call 33; with_reducible refine (HPC.out _ HB.out).mono ?_; rintro e wn ⟨rfl, hb⟩; replace BKgb := qab.mk (qag BKgb.out hb); replace HB := qab.mk (qad HB.out hb); clear hb; obtain ⟨hfgb, hcgb_0, hcgb_1, hcgb_2⟩ := qz3 BKgb.out) | (go_at_call 47; with_reducible refine (HWARM.out _ HB.out).mono ?_; rintro e wy ⟨v9, rfl, ho, hb⟩; obtain ⟨mA, mc, rfl⟩ := Kd.R_slice (Kd.S_R ho); have HM := qab.mk (Kd.R_reads' (Kd.S_R ho)).2.2; clear ho; replace BKgb := qab.mk (qag BKgb.out hb); replace HB := qab.mk (qad HB.out hb); clear hb; obtain ⟨hfgb, hcgb_0, hcgb_1, hcgb_2⟩ := qz3 BKgb.out) | (go_at_call 43; with_reducible refine (HFZ.out _ HB.out).mono ?_; rintro e wm ⟨rfl, hb⟩; replace HM := qab.mk (Kd.qaj HM.out hb); replace BKgb := qab.mk (qag BKgb.out hb); replace HB := qab.mk (qad HB.out hb); clear hb; obtain ⟨hfgb, hcgb_0, hcgb_1, hcgb_2⟩ := qz3 BKgb.out))
       clear hfgb hcgb_0 hcgb_1 hcgb_2
       have HI : qab (SHI wm gb #[.slice (some ad) l0_0.length c0_0, .slice A0_1 l0_1.length c0_1, .slice A0_2 l0_2.length c0_2] [] wm) := ⟨⟨BKgb.out, Below.refl _ _, by simp⟩⟩
       have HWM := HB
       have HW2 : qab (∀ W, Below wm.heap.size wm W → Below w.heap.size w W) := ⟨fun W h => below_then HWM.out HWM.out.size h⟩
       clear BKgb HB
       have HT : qab (∀ W, SHI wm gb #[.slice (some ad) l0_0.length c0_0, .slice A0_1 l0_1.length c0_1, .slice A0_2 l0_2.length c0_2] ([] : List (Nat × Array Value)) W → (W.cell? ⟨gb, 0, none⟩ = some (.slice (some ad) l0_0.length c0_0) ∧ W.cell? ⟨gb, 1, none⟩ = some (.slice A0_1 l0_1.length c0_1) ∧ W.cell? ⟨gb, 2, none⟩ = some (.slice A0_2 l0_2.length c0_2) ∧ W.cell? (ad.add (n * 12)) = some (.int .i64 f0) ∧ W.cell? ⟨(ad.add (n * 12)).block, (ad.add (n * 12)).off + 1, none⟩ = some (.int .i64 f1) ∧ W.cell? aw = some (.int .i64 p0) ∧ qab (SHI wm gb #[.slice (some ad) l0_0.length c0_0, .slice A0_1 l0_1.length c0_1, .slice A0_2 l0_2.length c0_2] ([] : List (Nat × Array Value)) W))) := ⟨fun W h => ⟨qaa h.b 0, qaa h.b 1, qaa h.b 2, ((HW2.out W h.hb).cell (World.block_lt_of_cell? w _ HL.out.1)).trans HL.out.1, ((HW2.out W h.hb).cell (World.block_lt_of_cell? w _ HL.out.2.1)).trans HL.out.2.1, ((HW2.out W h.hb).cell (World.block_lt_of_cell? w _ HL.out.2.2)).trans HL.out.2.2, ⟨h⟩⟩⟩
       have HTRU : qab (∀ W, Below wm.heap.size wm W → _) := ⟨fun W h => HTR.out W (HW2.out W h)⟩
       have HPLY : qab (∀ tA tc W, Below wm.heap.size wm W → _) := ⟨fun tA tc W h => HPL.out tA tc W (HW2.out W h)⟩
       clear HSHORT HNET HLO HWARM HPC HFZ HTR HPL
       refine start_ (n := 24) (S := (fun w' => (w'.cell? ⟨gb, 0, none⟩ = some (.slice (some ad) l0_0.length c0_0) ∧ w'.cell? ⟨gb, 1, none⟩ = some (.slice A0_1 l0_1.length c0_1) ∧ w'.cell? ⟨gb, 2, none⟩ = some (.slice A0_2 l0_2.length c0_2) ∧ w'.cell? (ad.add (n * 12)) = some (.int .i64 f0) ∧ w'.cell? ⟨(ad.add (n * 12)).block, (ad.add (n * 12)).off + 1, none⟩ = some (.int .i64 f1) ∧ w'.cell? aw = some (.int .i64 p0) ∧ qab (SHI wm gb #[.slice (some ad) l0_0.length c0_0, .slice A0_1 l0_1.length c0_1, .slice A0_2 l0_2.length c0_2] ([] : List (Nat × Array Value)) w')))) (ds := [22]) (msk 24 0) (by kernel_rfl) rfl rfl (HT.out _ (SHI.below HI.out (qbb (Below.refl _ _)))) (fun hHeld => ?_)
       have n_S := qab.mk hHeld; generalize wm.drew = wk at hHeld n_S ⊢; clear n_S
       refine take_ (i := 0) (N := some 61) (v := ?_) (a' := ?_) (msk 24 1) rfl rfl (by kernel_rfl) (fun _ _ _ h => h) (Or.inl ⟨by rfl, ?_⟩) hHeld ?_ ?_; rotate_left; (focus (rintro w' ⟨s0, s1, s2, s3, s4, s5, s6⟩; go_simp; with_reducible rfl)); rotate_left; (focus (simp only [Act.put, qzA, qzB, qzC, i64_w, i32_w]; rfl))
       refine pure_ (i := 1) (N := some 62) (v := ?_) (a' := ?_) (msk 24 2) rfl rfl (by kernel_rfl) (fun _ _ _ h => h) (Or.inl ⟨by rfl, ?_⟩) ?_ ?_; rotate_left; (focus (intro w'; go_simp; with_reducible rfl)); rotate_left; (focus (simp only [Act.put, qzA, qzB, qzC, i64_w, i32_w]; rfl))
       refine pure_ (i := 2) (N := some 63) (v := ?_) (a' := ?_) (msk 24 3) rfl rfl (by kernel_rfl) (fun _ _ _ h => h) (Or.inl ⟨by rfl, ?_⟩) ?_ ?_; rotate_left; (focus (intro w'; go_simp; with_reducible rfl)); rotate_left; (focus (simp only [Act.put, qzA, qzB, qzC, i64_w, i32_w]; rfl))
       refine take_ (i := 3) (N := some 64) (v := ?_) (a' := ?_) (msk 24 4) rfl rfl (by kernel_rfl) (fun _ _ _ h => h) (Or.inl ⟨by rfl, ?_⟩) hHeld ?_ ?_; rotate_left; (focus (rintro w' ⟨s0, s1, s2, s3, s4, s5, s6⟩; go_simp; with_reducible rfl)); rotate_left; (focus (simp only [Act.put, qzA, qzB, qzC, i64_w, i32_w]; rfl))
       refine pure_ (i := 4) (N := some 65) (v := ?_) (a' := ?_) (msk 24 5) rfl rfl (by kernel_rfl) (fun _ _ _ h => h) (Or.inl ⟨by rfl, ?_⟩) ?_ ?_; rotate_left; (focus (intro w'; go_simp; with_reducible rfl)); rotate_left; (focus (simp only [Act.put, qzA, qzB, qzC, i64_w, i32_w]; rfl))
       refine pure_ (i := 5) (N := some 66) (v := ?_) (a' := ?_) (msk 24 6) rfl rfl (by kernel_rfl) (fun _ _ _ h => h) (Or.inl ⟨by rfl, ?_⟩) ?_ ?_; rotate_left; (focus (intro w'; go_simp; with_reducible rfl)); rotate_left; (focus (simp only [Act.put, qzA, qzB, qzC, i64_w, i32_w]; rfl))
       refine pure_ (i := 6) (N := some 67) (v := ?_) (a' := ?_) (msk 24 7) rfl rfl (by kernel_rfl) (fun _ _ _ h => h) (Or.inl ⟨by rfl, ?_⟩) ?_ ?_; rotate_left; (focus (intro w'; go_simp; with_reducible rfl)); rotate_left; (focus (simp only [Act.put, qzA, qzB, qzC, i64_w, i32_w]; rfl))
       refine take_ (i := 7) (N := some 68) (v := ?_) (a' := ?_) (msk 24 8) rfl rfl (by kernel_rfl) (fun _ _ _ h => h) (Or.inl ⟨by rfl, ?_⟩) hHeld ?_ ?_; rotate_left; (focus (rintro w' ⟨s0, s1, s2, s3, s4, s5, s6⟩; go_simp; with_reducible rfl)); rotate_left; (focus (simp only [Act.put, qzA, qzB, qzC, i64_w, i32_w]; rfl))
       refine pure_ (i := 8) (N := some 69) (v := ?_) (a' := ?_) (msk 24 9) rfl rfl (by kernel_rfl) (fun _ _ _ h => h) (Or.inl ⟨by rfl, ?_⟩) ?_ ?_; rotate_left; (focus (intro w'; go_simp; with_reducible rfl)); rotate_left; (focus (simp only [Act.put, qzA, qzB, qzC, i64_w, i32_w]; rfl))
       refine pure_ (i := 9) (N := some 70) (v := ?_) (a' := ?_) (msk 24 10) rfl rfl (by kernel_rfl) (fun _ _ _ h => h) (Or.inl ⟨by rfl, ?_⟩) ?_ ?_; rotate_left; (focus (intro w'; go_simp; with_reducible rfl)); rotate_left; (focus (simp only [Act.put, qzA, qzB, qzC, i64_w, i32_w]; rfl))
       refine take_ (i := 10) (N := some 71) (v := ?_) (a' := ?_) (msk 24 11) rfl rfl (by kernel_rfl) (fun _ _ _ h => h) (Or.inl ⟨by rfl, ?_⟩) hHeld ?_ ?_; rotate_left; (focus (rintro w' ⟨s0, s1, s2, s3, s4, s5, s6⟩; go_simp; with_reducible rfl)); rotate_left; (focus (simp only [Act.put, qzA, qzB, qzC, i64_w, i32_w]; rfl))
       refine take_ (i := 12) (N := some 73) (v := ?_) (a' := ?_) #[true, true, true, true, true, true, true, true, true, true, true, false, true, false, false, false, false, false, false, false, false, false, false, false] rfl rfl (by kernel_rfl) (fun _ _ _ h => h) (Or.inl ⟨by rfl, ?_⟩) hHeld ?_ ?_; rotate_left; (focus (rintro w' ⟨s0, s1, s2, s3, s4, s5, s6⟩; go_simp; with_reducible rfl)); rotate_left; (focus (simp only [Act.put, qzA, qzB, qzC, i64_w, i32_w]; rfl))
       refine pure_ (i := 13) (N := some 74) (v := ?_) (a' := ?_) #[true, true, true, true, true, true, true, true, true, true, true, false, true, true, false, false, false, false, false, false, false, false, false, false] rfl rfl (by kernel_rfl) (fun _ _ _ h => h) (Or.inl ⟨by rfl, ?_⟩) ?_ ?_; rotate_left; (focus (intro w'; go_simp; with_reducible rfl)); rotate_left; (focus (simp only [Act.put, qzA, qzB, qzC, i64_w, i32_w]; rfl))
       refine pure_ (i := 14) (N := some 75) (v := ?_) (a' := ?_) #[true, true, true, true, true, true, true, true, true, true, true, false, true, true, true, false, false, false, false, false, false, false, false, false] rfl rfl (by kernel_rfl) (fun _ _ _ h => h) (Or.inl ⟨by rfl, ?_⟩) ?_ ?_; rotate_left; (focus (intro w'; go_simp; with_reducible rfl)); rotate_left; (focus (simp only [Act.put, qzA, qzB, qzC, i64_w, i32_w]; rfl))
       refine pure_ (i := 15) (N := some 76) (v := ?_) (a' := ?_) #[true, true, true, true, true, true, true, true, true, true, true, false, true, true, true, true, false, false, false, false, false, false, false, false] rfl rfl (by kernel_rfl) (fun _ _ _ h => h) (Or.inl ⟨by rfl, ?_⟩) ?_ ?_; rotate_left; (focus (intro w'; go_simp; with_reducible rfl)); rotate_left; (focus (simp only [Act.put, qzA, qzB, qzC, i64_w, i32_w]; rfl))
       refine join_ (σ := Option Addr × Nat × Nat) 2 (msk 24 22) (fun s_ => [(72, .int .i64 pw), (77, .slice s_.1 e0.length s_.2.1), (78, .tuple #[.agg #[.int .i64 x0, .int .i64 y0, .int .i64 z0, .int .i64 u0], .int .i64 0]), (60, .tuple #[.agg #[.int .i64 x0, .int .i64 y0, .int .i64 z0, .int .i64 u0], .int .i64 0]), (79, .agg #[.int .i64 x0, .int .i64 y0, .int .i64 z0, .int .i64 u0]), (80, .int .i64 0), (14, .pointer (some ⟨s_.2.2, 0, none⟩))]) (fun s_ w' => (w'.cell? ⟨gb, 0, none⟩ = some (.slice (some ad) l0_0.length c0_0) ∧ w'.cell? ⟨gb, 1, none⟩ = some (.slice A0_1 l0_1.length c0_1) ∧ w'.cell? ⟨gb, 2, none⟩ = some (.slice A0_2 l0_2.length c0_2) ∧ w'.cell? (ad.add (n * 12)) = some (.int .i64 f0) ∧ w'.cell? ⟨(ad.add (n * 12)).block, (ad.add (n * 12)).off + 1, none⟩ = some (.int .i64 f1) ∧ w'.cell? aw = some (.int .i64 p0) ∧ qab (SHI wm gb #[.slice (some ad) l0_0.length c0_0, .slice A0_1 l0_1.length c0_1, .slice A0_2 l0_2.length c0_2] ([] : List (Nat × Array Value)) w')) ∧ w'.heap[s_.2.2]? = some (.cells #[.int .i64 0, .int .i64 0, .int .i64 0, .int .i64 0] 31 (0, 0)) ∧ wm.heap.size ≤ s_.2.2 ∧ (∀ p ∈ ([] : List (Nat × Array Value)), p.1 ≠ s_.2.2)) ?_ ?_
       rotate_left
       ·
        intro hCont
        refine two_ (i := 11) (j := 21) (Ni := some 72) (Nj := some 14) (msk 24 16) #[true, true, true, true, true, true, true, true, true, true, true, false, true, true, true, true, false, false, false, false, false, true, false, false] rfl rfl rfl rfl (by kernel_rfl) (by decide) (by decide) (fun K hK => ?_) (fun K hK => ?_)
        ·
         refine goes_ Try.func34 (by kernel_rfl) rfl #[.agg #[.int .i64 f0, .int .i64 f1], .int .i64 p0] (by rfl) rfl rfl (by (try simp only [List.map_toArray, List.map_cons, List.map_nil]); first | done | rfl | (simp only [List.length_drop, List.length_take]; rfl)) ?_
         refine (HPA.out _).mono ?_; rintro e w4 ⟨rfl, hb⟩; have HP4 := qab.mk (HT.out w4 (SHI.below hHeld.2.2.2.2.2.2.out hb)); clear hb; refine ⟨_, rfl, ?_⟩; refine hK.out _ _ HP4.out (fun hHeld => ?_); clear hK K; refine norm_ (a' := ?_) ?_ ?_; rotate_left; (focus (show Act.put _ (some 72) _ = _; simp only [Act.put, qzA, qzB, qzC, i64_w, i32_w]; rfl))
         refine two_ (i := 16) (j := 21) (Ni := some 77) (Nj := some 14) (msk 24 17) #[true, true, true, true, true, true, true, true, true, true, true, true, true, true, true, true, false, false, false, false, false, true, false, false] rfl rfl rfl rfl (by kernel_rfl) (by decide) (by decide) (fun K hK => ?_) (fun K hK => ?_)
         ·
          refine goes_ Try.func35 (by kernel_rfl) rfl #[.agg #[.slice (some ad) l0_0.length c0_0, .slice A0_1 l0_1.length c0_1, .slice A0_2 l0_2.length c0_2], .int .i64 n, .int .i64 ((M + 1 : Nat) : Int), .slice (some aw) l3.length c3] (by rfl) rfl rfl (by (try simp only [List.map_toArray, List.map_cons, List.map_nil]); first | done | rfl | (simp only [List.length_drop, List.length_take]; rfl)) ?_
          refine (HTRU.out _ hHeld.2.2.2.2.2.2.out.hb).mono ?_; rintro e w5 ⟨v5, rfl, ho, hb⟩; obtain ⟨tA, tc, rfl⟩ := Kd.R_slice ho; have HP5 := qab.mk (HT.out w5 (SHI.below hHeld.2.2.2.2.2.2.out hb)); have HRT := qab.mk ho; clear ho hb; refine ⟨_, rfl, ?_⟩; refine hK.out _ _ HP5.out (fun hHeld => ?_); clear hK K; refine norm_ (a' := ?_) ?_ ?_; rotate_left; (focus (show Act.put _ (some 77) _ = _; simp only [Act.put, qzA, qzB, qzC, i64_w, i32_w]; rfl))
          refine two_ (i := 17) (j := 21) (Ni := some 78) (Nj := some 14) (msk 24 18) #[true, true, true, true, true, true, true, true, true, true, true, true, true, true, true, true, true, false, false, false, false, true, false, false] rfl rfl rfl rfl (by kernel_rfl) (by decide) (by decide) (fun K hK => ?_) (fun K hK => ?_)
          ·
           refine goes_ Try.func18 (by kernel_rfl) rfl #[.agg #[.slice (some ad) l0_0.length c0_0, .slice A0_1 l0_1.length c0_1, .slice A0_2 l0_2.length c0_2], .int .i64 n, .int .i64 pw, .slice tA e0.length tc] (by rfl) rfl rfl (by (try simp only [List.map_toArray, List.map_cons, List.map_nil]); first | done | rfl | (simp only [List.length_drop, List.length_take]; rfl)) ?_
           refine (HPLY.out tA tc _ hHeld.2.2.2.2.2.2.out.hb (by first | exact ⟨_, _, HRT.out⟩ | exact ⟨_, _, HRT2.out⟩)).mono ?_; rintro e w6 ⟨rfl, hb⟩; have HP6 := qab.mk (HT.out w6 (SHI.below hHeld.2.2.2.2.2.2.out hb)); clear hb; refine ⟨_, rfl, ?_⟩; refine hK.out _ _ HP6.out (fun hHeld => ?_); clear hK K; refine norm_ (a' := ?_) ?_ ?_; rotate_left; (focus (show Act.put _ (some 78) _ = _; simp only [Act.put, qzA, qzB, qzC, i64_w, i32_w]; rfl))
           refine pure_ (i := 18) (N := some 60) (v := ?_) (a' := ?_) (msk 24 19) rfl rfl (by kernel_rfl) (fun _ _ _ h => h) (Or.inl ⟨by rfl, ?_⟩) ?_ ?_; rotate_left; (focus (intro w'; go_simp; with_reducible rfl)); rotate_left; (focus (simp only [Act.put, qzA, qzB, qzC, i64_w, i32_w]; rfl))
           refine pure_ (i := 19) (N := some 79) (v := ?_) (a' := ?_) (msk 24 20) rfl rfl (by kernel_rfl) (fun _ _ _ h => h) (Or.inl ⟨by rfl, ?_⟩) ?_ ?_; rotate_left; (focus (intro w'; go_simp; with_reducible rfl)); rotate_left; (focus (simp only [Act.put, qzA, qzB, qzC, i64_w, i32_w]; rfl))
           refine pure_ (i := 20) (N := some 80) (v := ?_) (a' := ?_) (msk 24 21) rfl rfl (by kernel_rfl) (fun _ _ _ h => h) (Or.inl ⟨by rfl, ?_⟩) ?_ ?_; rotate_left; (focus (intro w'; go_simp; with_reducible rfl)); rotate_left; (focus (simp only [Act.put, qzA, qzB, qzC, i64_w, i32_w]; rfl))
           refine one_ (i := 21) (N := some 14) (msk 24 22) rfl rfl (by kernel_rfl) (by decide) (fun K hK => ?_)
           refine box_step ?hg (N := 14) ?hd (cs := #[.int .i64 0, .int .i64 0, .int .i64 0, .int .i64 0]) (t := 31) ?hr ?_; (case hd => rfl); (case hg => rfl); (case hr => first | (go_simp; done) | (go_simp; rfl)); intro ga hg_ wb BA hb; (try (have HRT2 := qab.mk (Kd.R_below HRT.out hb))); have GA : wm.heap.size ≤ ga := (by rw [hg_]; exact hHeld.2.2.2.2.2.2.out.hb.size); have NA := (hHeld.2.2.2.2.2.2.out.ne hg_); clear hg_; refine hK.out _ _ (HT.out wb (SHI.below hHeld.2.2.2.2.2.2.out hb)) (fun hHeld => ?_); clear hK K hb; refine norm_ (a' := ?_) ?_ ?_; rotate_left; (focus (show Act.put _ (some 14) _ = _; simp only [Act.put, qzA, qzB, qzC, i64_w, i32_w]; rfl))
           exact norm_ (by simp only [putAll, Act.put, qzA, qzB, qzC]) (hCont (tA, tc, ga) _ ⟨hHeld, BA, GA, NA⟩)
          ·
           refine box_step ?hg (N := 14) ?hd (cs := #[.int .i64 0, .int .i64 0, .int .i64 0, .int .i64 0]) (t := 31) ?hr ?_; (case hd => rfl); (case hg => rfl); (case hr => first | (go_simp; done) | (go_simp; rfl)); intro ga hg_ wb BA hb; (try (have HRT2 := qab.mk (Kd.R_below HRT.out hb))); have GA : wm.heap.size ≤ ga := (by rw [hg_]; exact hHeld.2.2.2.2.2.2.out.hb.size); have NA := (hHeld.2.2.2.2.2.2.out.ne hg_); clear hg_; refine hK.out _ _ (HT.out wb (SHI.below hHeld.2.2.2.2.2.2.out hb)) (fun hHeld => ?_); clear hK K hb; refine norm_ (a' := ?_) ?_ ?_; rotate_left; (focus (show Act.put _ (some 14) _ = _; simp only [Act.put, qzA, qzB, qzC, i64_w, i32_w]; rfl))
           refine one_ (i := 17) (N := some 78) #[true, true, true, true, true, true, true, true, true, true, true, true, true, true, true, true, true, true, false, false, false, true, false, false] rfl rfl (by kernel_rfl) (by decide) (fun K hK => ?_)
           refine goes_ Try.func18 (by kernel_rfl) rfl #[.agg #[.slice (some ad) l0_0.length c0_0, .slice A0_1 l0_1.length c0_1, .slice A0_2 l0_2.length c0_2], .int .i64 n, .int .i64 pw, .slice tA e0.length tc] (by rfl) rfl rfl (by (try simp only [List.map_toArray, List.map_cons, List.map_nil]); first | done | rfl | (simp only [List.length_drop, List.length_take]; rfl)) ?_
           refine (HPLY.out tA tc _ hHeld.2.2.2.2.2.2.out.hb (by first | exact ⟨_, _, HRT.out⟩ | exact ⟨_, _, HRT2.out⟩)).mono ?_; rintro e w6 ⟨rfl, hb⟩; replace BA := qag BA hb; have HP6 := qab.mk (HT.out w6 (SHI.below hHeld.2.2.2.2.2.2.out hb)); clear hb; refine ⟨_, rfl, ?_⟩; refine hK.out _ _ HP6.out (fun hHeld => ?_); clear hK K; refine norm_ (a' := ?_) ?_ ?_; rotate_left; (focus (show Act.put _ (some 78) _ = _; simp only [Act.put, qzA, qzB, qzC, i64_w, i32_w]; rfl))
           refine pure_ (i := 18) (N := some 60) (v := ?_) (a' := ?_) #[true, true, true, true, true, true, true, true, true, true, true, true, true, true, true, true, true, true, true, false, false, true, false, false] rfl rfl (by kernel_rfl) (fun _ _ _ h => h) (Or.inl ⟨by rfl, ?_⟩) ?_ ?_; rotate_left; (focus (intro w'; go_simp; with_reducible rfl)); rotate_left; (focus (simp only [Act.put, qzA, qzB, qzC, i64_w, i32_w]; rfl))
           refine pure_ (i := 19) (N := some 79) (v := ?_) (a' := ?_) #[true, true, true, true, true, true, true, true, true, true, true, true, true, true, true, true, true, true, true, true, false, true, false, false] rfl rfl (by kernel_rfl) (fun _ _ _ h => h) (Or.inl ⟨by rfl, ?_⟩) ?_ ?_; rotate_left; (focus (intro w'; go_simp; with_reducible rfl)); rotate_left; (focus (simp only [Act.put, qzA, qzB, qzC, i64_w, i32_w]; rfl))
           refine pure_ (i := 20) (N := some 80) (v := ?_) (a' := ?_) (msk 24 22) rfl rfl (by kernel_rfl) (fun _ _ _ h => h) (Or.inl ⟨by rfl, ?_⟩) ?_ ?_; rotate_left; (focus (intro w'; go_simp; with_reducible rfl)); rotate_left; (focus (simp only [Act.put, qzA, qzB, qzC, i64_w, i32_w]; rfl))
           exact norm_ (by simp only [putAll, Act.put, qzA, qzB, qzC]) (hCont (tA, tc, ga) _ ⟨hHeld, BA, GA, NA⟩)
         ·
          refine box_step ?hg (N := 14) ?hd (cs := #[.int .i64 0, .int .i64 0, .int .i64 0, .int .i64 0]) (t := 31) ?hr ?_; (case hd => rfl); (case hg => rfl); (case hr => first | (go_simp; done) | (go_simp; rfl)); intro ga hg_ wb BA hb; (try (have HRT2 := qab.mk (Kd.R_below HRT.out hb))); have GA : wm.heap.size ≤ ga := (by rw [hg_]; exact hHeld.2.2.2.2.2.2.out.hb.size); have NA := (hHeld.2.2.2.2.2.2.out.ne hg_); clear hg_; refine hK.out _ _ (HT.out wb (SHI.below hHeld.2.2.2.2.2.2.out hb)) (fun hHeld => ?_); clear hK K hb; refine norm_ (a' := ?_) ?_ ?_; rotate_left; (focus (show Act.put _ (some 14) _ = _; simp only [Act.put, qzA, qzB, qzC, i64_w, i32_w]; rfl))
          refine one_ (i := 16) (N := some 77) #[true, true, true, true, true, true, true, true, true, true, true, true, true, true, true, true, true, false, false, false, false, true, false, false] rfl rfl (by kernel_rfl) (by decide) (fun K hK => ?_)
          refine goes_ Try.func35 (by kernel_rfl) rfl #[.agg #[.slice (some ad) l0_0.length c0_0, .slice A0_1 l0_1.length c0_1, .slice A0_2 l0_2.length c0_2], .int .i64 n, .int .i64 ((M + 1 : Nat) : Int), .slice (some aw) l3.length c3] (by rfl) rfl rfl (by (try simp only [List.map_toArray, List.map_cons, List.map_nil]); first | done | rfl | (simp only [List.length_drop, List.length_take]; rfl)) ?_
          refine (HTRU.out _ hHeld.2.2.2.2.2.2.out.hb).mono ?_; rintro e w5 ⟨v5, rfl, ho, hb⟩; replace BA := qag BA hb; obtain ⟨tA, tc, rfl⟩ := Kd.R_slice ho; have HP5 := qab.mk (HT.out w5 (SHI.below hHeld.2.2.2.2.2.2.out hb)); have HRT := qab.mk ho; clear ho hb; refine ⟨_, rfl, ?_⟩; refine hK.out _ _ HP5.out (fun hHeld => ?_); clear hK K; refine norm_ (a' := ?_) ?_ ?_; rotate_left; (focus (show Act.put _ (some 77) _ = _; simp only [Act.put, qzA, qzB, qzC, i64_w, i32_w]; rfl))
          refine one_ (i := 17) (N := some 78) #[true, true, true, true, true, true, true, true, true, true, true, true, true, true, true, true, true, true, false, false, false, true, false, false] rfl rfl (by kernel_rfl) (by decide) (fun K hK => ?_)
          refine goes_ Try.func18 (by kernel_rfl) rfl #[.agg #[.slice (some ad) l0_0.length c0_0, .slice A0_1 l0_1.length c0_1, .slice A0_2 l0_2.length c0_2], .int .i64 n, .int .i64 pw, .slice tA e0.length tc] (by rfl) rfl rfl (by (try simp only [List.map_toArray, List.map_cons, List.map_nil]); first | done | rfl | (simp only [List.length_drop, List.length_take]; rfl)) ?_
          refine (HPLY.out tA tc _ hHeld.2.2.2.2.2.2.out.hb (by first | exact ⟨_, _, HRT.out⟩ | exact ⟨_, _, HRT2.out⟩)).mono ?_; rintro e w6 ⟨rfl, hb⟩; replace BA := qag BA hb; have HP6 := qab.mk (HT.out w6 (SHI.below hHeld.2.2.2.2.2.2.out hb)); clear hb; refine ⟨_, rfl, ?_⟩; refine hK.out _ _ HP6.out (fun hHeld => ?_); clear hK K; refine norm_ (a' := ?_) ?_ ?_; rotate_left; (focus (show Act.put _ (some 78) _ = _; simp only [Act.put, qzA, qzB, qzC, i64_w, i32_w]; rfl))
          refine pure_ (i := 18) (N := some 60) (v := ?_) (a' := ?_) #[true, true, true, true, true, true, true, true, true, true, true, true, true, true, true, true, true, true, true, false, false, true, false, false] rfl rfl (by kernel_rfl) (fun _ _ _ h => h) (Or.inl ⟨by rfl, ?_⟩) ?_ ?_; rotate_left; (focus (intro w'; go_simp; with_reducible rfl)); rotate_left; (focus (simp only [Act.put, qzA, qzB, qzC, i64_w, i32_w]; rfl))
          refine pure_ (i := 19) (N := some 79) (v := ?_) (a' := ?_) #[true, true, true, true, true, true, true, true, true, true, true, true, true, true, true, true, true, true, true, true, false, true, false, false] rfl rfl (by kernel_rfl) (fun _ _ _ h => h) (Or.inl ⟨by rfl, ?_⟩) ?_ ?_; rotate_left; (focus (intro w'; go_simp; with_reducible rfl)); rotate_left; (focus (simp only [Act.put, qzA, qzB, qzC, i64_w, i32_w]; rfl))
          refine pure_ (i := 20) (N := some 80) (v := ?_) (a' := ?_) (msk 24 22) rfl rfl (by kernel_rfl) (fun _ _ _ h => h) (Or.inl ⟨by rfl, ?_⟩) ?_ ?_; rotate_left; (focus (intro w'; go_simp; with_reducible rfl)); rotate_left; (focus (simp only [Act.put, qzA, qzB, qzC, i64_w, i32_w]; rfl))
          exact norm_ (by simp only [putAll, Act.put, qzA, qzB, qzC]) (hCont (tA, tc, ga) _ ⟨hHeld, BA, GA, NA⟩)
        ·
         refine box_step ?hg (N := 14) ?hd (cs := #[.int .i64 0, .int .i64 0, .int .i64 0, .int .i64 0]) (t := 31) ?hr ?_; (case hd => rfl); (case hg => rfl); (case hr => first | (go_simp; done) | (go_simp; rfl)); intro ga hg_ wb BA hb; (try (have HRT2 := qab.mk (Kd.R_below HRT.out hb))); have GA : wm.heap.size ≤ ga := (by rw [hg_]; exact hHeld.2.2.2.2.2.2.out.hb.size); have NA := (hHeld.2.2.2.2.2.2.out.ne hg_); clear hg_; refine hK.out _ _ (HT.out wb (SHI.below hHeld.2.2.2.2.2.2.out hb)) (fun hHeld => ?_); clear hK K hb; refine norm_ (a' := ?_) ?_ ?_; rotate_left; (focus (show Act.put _ (some 14) _ = _; simp only [Act.put, qzA, qzB, qzC, i64_w, i32_w]; rfl))
         refine one_ (i := 11) (N := some 72) #[true, true, true, true, true, true, true, true, true, true, true, true, true, true, true, true, false, false, false, false, false, true, false, false] rfl rfl (by kernel_rfl) (by decide) (fun K hK => ?_)
         refine goes_ Try.func34 (by kernel_rfl) rfl #[.agg #[.int .i64 f0, .int .i64 f1], .int .i64 p0] (by rfl) rfl rfl (by (try simp only [List.map_toArray, List.map_cons, List.map_nil]); first | done | rfl | (simp only [List.length_drop, List.length_take]; rfl)) ?_
         refine (HPA.out _).mono ?_; rintro e w4 ⟨rfl, hb⟩; replace BA := qag BA hb; have HP4 := qab.mk (HT.out w4 (SHI.below hHeld.2.2.2.2.2.2.out hb)); clear hb; refine ⟨_, rfl, ?_⟩; refine hK.out _ _ HP4.out (fun hHeld => ?_); clear hK K; refine norm_ (a' := ?_) ?_ ?_; rotate_left; (focus (show Act.put _ (some 72) _ = _; simp only [Act.put, qzA, qzB, qzC, i64_w, i32_w]; rfl))
         refine one_ (i := 16) (N := some 77) #[true, true, true, true, true, true, true, true, true, true, true, true, true, true, true, true, true, false, false, false, false, true, false, false] rfl rfl (by kernel_rfl) (by decide) (fun K hK => ?_)
         refine goes_ Try.func35 (by kernel_rfl) rfl #[.agg #[.slice (some ad) l0_0.length c0_0, .slice A0_1 l0_1.length c0_1, .slice A0_2 l0_2.length c0_2], .int .i64 n, .int .i64 ((M + 1 : Nat) : Int), .slice (some aw) l3.length c3] (by rfl) rfl rfl (by (try simp only [List.map_toArray, List.map_cons, List.map_nil]); first | done | rfl | (simp only [List.length_drop, List.length_take]; rfl)) ?_
         refine (HTRU.out _ hHeld.2.2.2.2.2.2.out.hb).mono ?_; rintro e w5 ⟨v5, rfl, ho, hb⟩; replace BA := qag BA hb; obtain ⟨tA, tc, rfl⟩ := Kd.R_slice ho; have HP5 := qab.mk (HT.out w5 (SHI.below hHeld.2.2.2.2.2.2.out hb)); have HRT := qab.mk ho; clear ho hb; refine ⟨_, rfl, ?_⟩; refine hK.out _ _ HP5.out (fun hHeld => ?_); clear hK K; refine norm_ (a' := ?_) ?_ ?_; rotate_left; (focus (show Act.put _ (some 77) _ = _; simp only [Act.put, qzA, qzB, qzC, i64_w, i32_w]; rfl))
         refine one_ (i := 17) (N := some 78) #[true, true, true, true, true, true, true, true, true, true, true, true, true, true, true, true, true, true, false, false, false, true, false, false] rfl rfl (by kernel_rfl) (by decide) (fun K hK => ?_)
         refine goes_ Try.func18 (by kernel_rfl) rfl #[.agg #[.slice (some ad) l0_0.length c0_0, .slice A0_1 l0_1.length c0_1, .slice A0_2 l0_2.length c0_2], .int .i64 n, .int .i64 pw, .slice tA e0.length tc] (by rfl) rfl rfl (by (try simp only [List.map_toArray, List.map_cons, List.map_nil]); first | done | rfl | (simp only [List.length_drop, List.length_take]; rfl)) ?_
         refine (HPLY.out tA tc _ hHeld.2.2.2.2.2.2.out.hb (by first | exact ⟨_, _, HRT.out⟩ | exact ⟨_, _, HRT2.out⟩)).mono ?_; rintro e w6 ⟨rfl, hb⟩; replace BA := qag BA hb; have HP6 := qab.mk (HT.out w6 (SHI.below hHeld.2.2.2.2.2.2.out hb)); clear hb; refine ⟨_, rfl, ?_⟩; refine hK.out _ _ HP6.out (fun hHeld => ?_); clear hK K; refine norm_ (a' := ?_) ?_ ?_; rotate_left; (focus (show Act.put _ (some 78) _ = _; simp only [Act.put, qzA, qzB, qzC, i64_w, i32_w]; rfl))
         refine pure_ (i := 18) (N := some 60) (v := ?_) (a' := ?_) #[true, true, true, true, true, true, true, true, true, true, true, true, true, true, true, true, true, true, true, false, false, true, false, false] rfl rfl (by kernel_rfl) (fun _ _ _ h => h) (Or.inl ⟨by rfl, ?_⟩) ?_ ?_; rotate_left; (focus (intro w'; go_simp; with_reducible rfl)); rotate_left; (focus (simp only [Act.put, qzA, qzB, qzC, i64_w, i32_w]; rfl))
         refine pure_ (i := 19) (N := some 79) (v := ?_) (a' := ?_) #[true, true, true, true, true, true, true, true, true, true, true, true, true, true, true, true, true, true, true, true, false, true, false, false] rfl rfl (by kernel_rfl) (fun _ _ _ h => h) (Or.inl ⟨by rfl, ?_⟩) ?_ ?_; rotate_left; (focus (intro w'; go_simp; with_reducible rfl)); rotate_left; (focus (simp only [Act.put, qzA, qzB, qzC, i64_w, i32_w]; rfl))
         refine pure_ (i := 20) (N := some 80) (v := ?_) (a' := ?_) (msk 24 22) rfl rfl (by kernel_rfl) (fun _ _ _ h => h) (Or.inl ⟨by rfl, ?_⟩) ?_ ?_; rotate_left; (focus (intro w'; go_simp; with_reducible rfl)); rotate_left; (focus (simp only [Act.put, qzA, qzB, qzC, i64_w, i32_w]; rfl))
         exact norm_ (by simp only [putAll, Act.put, qzA, qzB, qzC]) (hCont (tA, tc, ga) _ ⟨hHeld, BA, GA, NA⟩)
       rintro ⟨zA, zc, g14⟩ wj ⟨hS_, BA_, GA_, NA_⟩
       have hHeld := hS_
       have fA_ := qac BA_; have cA_0 : wj.cell? ⟨g14, 0, none⟩ = some (.int .i64 0) := qaa BA_ 0; have cA_1 : wj.cell? ⟨g14, 1, none⟩ = some (.int .i64 0) := qaa BA_ 1; have cA_2 : wj.cell? ⟨g14, 2, none⟩ = some (.int .i64 0) := qaa BA_ 2; have cA_3 : wj.cell? ⟨g14, 3, none⟩ = some (.int .i64 0) := qaa BA_ 3
       simp only [putAll, Act.put, qzA, qzB, qzC]
       refine last_ (i := 22) (N := none) (msk 24 23) rfl rfl (by kernel_rfl) (by decide) (fun K hK => ?_); refine skip_ (w1 := ?_) (by rfl) rfl ?_ ?_; rotate_left; (focus (go_simp; rfl)); refine hK.out _ _ ?_; clear hK K hHeld
       have HQ := qab.mk (SHI.put hS_.2.2.2.2.2.2.out BA_ GA_ NA_ (.int .i64 x0) (.int .i64 y0) (.int .i64 z0) (.int .i64 u0)); clear hS_ BA_ GA_ NA_ fA_ cA_0 cA_1 cA_2 cA_3
       generalize (((wj.setCell ⟨g14, 0, none⟩ (.int .i64 x0)).setCell ⟨g14, 1, none⟩ (.int .i64 y0)).setCell ⟨g14, 2, none⟩ (.int .i64 z0)).setCell ⟨g14, 3, none⟩ (.int .i64 u0) = wn at HQ ⊢
       refine pure_ (i := 23) (N := some 15) (v := ?_) (a' := ?_) (msk 24 24) rfl rfl (by kernel_rfl) (fun _ _ _ h => h) (Or.inl ⟨by rfl, ?_⟩) ?_ ?_; rotate_left; (focus (intro w'; go_simp; with_reducible rfl)); rotate_left; (focus (simp only [Act.put, qzA, qzB, qzC, i64_w, i32_w]; rfl))
       refine done_ (by kernel_rfl) ?_
       clear HI HTRU HPLY
       have HI := HQ
       clear HQ
       have hHM := HM.out
       obtain ⟨mm, A0', rc, rfl, hm1, hm2, hm3⟩ := at_L6 hHM (n : Int) i0 (by rw [rowsW_length]; exact i1)
       rw [HRD.out.1] at hm1 hm2 hm3
       obtain ⟨rr, rfl, hr1, hr2⟩ := at_T37 hm3 (M : Int) (by omega) (by rw [rowW_length]; omega)
       rw [HRD.out.2.1] at hr1
       rw [HRD.out.2.2] at hr2
       rw [rowW_length] at hm1 hm2
       simp only [Int.toNat_natCast] at hm1 hr1 hr2
       have HMC := qab.mk (And.intro hm1 (And.intro hr1 hr2))
       clear hHM hm1 hm3 hr1 hr2 HM HRD
       have hM0 : (0 : Int) ≤ (M : Int) := by omega
       have hMl : (M : Int) < (l0_1.length : Int) := by omega
       have hrl : (rowsW l0_0 l0_1 l0_0.length).length = l0_0.length := rowsW_length _ _ _
       have HT6 : qab (∀ W, SHI wm gb #[.slice (some ad) l0_0.length c0_0, .slice A0_1 l0_1.length c0_1, .slice A0_2 l0_2.length c0_2] ([(g14, #[.int .i64 x0, .int .i64 y0, .int .i64 z0, .int .i64 u0])] : List (Nat × Array Value)) W → (W.cell? ⟨gb, 0, none⟩ = some (.slice (some ad) l0_0.length c0_0) ∧ W.cell? ⟨gb, 1, none⟩ = some (.slice A0_1 l0_1.length c0_1) ∧ W.cell? (mm.add n) = some (.slice (some rr) l0_1.length rc) ∧ qab (SHI wm gb #[.slice (some ad) l0_0.length c0_0, .slice A0_1 l0_1.length c0_1, .slice A0_2 l0_2.length c0_2] ([(g14, #[.int .i64 x0, .int .i64 y0, .int .i64 z0, .int .i64 u0])] : List (Nat × Array Value)) W))) := ⟨fun W h => ⟨qaa h.b 0, qaa h.b 1, (h.hb.cell (World.block_lt_of_cell? wm _ HMC.out.1)).trans HMC.out.1, ⟨h⟩⟩⟩
       go_upto_region 6 with fail
       rw [hrl]
       clear hrl
       refine start_ (n := 29) (S := (fun w' => (w'.cell? ⟨gb, 0, none⟩ = some (.slice (some ad) l0_0.length c0_0) ∧ w'.cell? ⟨gb, 1, none⟩ = some (.slice A0_1 l0_1.length c0_1) ∧ w'.cell? (mm.add n) = some (.slice (some rr) l0_1.length rc) ∧ qab (SHI wm gb #[.slice (some ad) l0_0.length c0_0, .slice A0_1 l0_1.length c0_1, .slice A0_2 l0_2.length c0_2] ([(g14, #[.int .i64 x0, .int .i64 y0, .int .i64 z0, .int .i64 u0])] : List (Nat × Array Value)) w')))) (ds := []) (msk 29 0) (by kernel_rfl) rfl rfl (HT6.out _ (SHI.below HI.out (qbb (Below.refl _ _)))) (fun hHeld => ?_)
       refine pure_ (i := 0) (N := some 81) (v := ?_) (a' := ?_) (msk 29 1) rfl rfl (by kernel_rfl) (fun _ _ _ h => h) (Or.inl ⟨by rfl, ?_⟩) ?_ ?_; rotate_left; (focus (intro w'; go_simp; with_reducible rfl)); rotate_left; (focus (simp only [Act.put, qzA, qzB, qzC, i64_w, i32_w]; rfl))
       refine pure_ (i := 1) (N := some 82) (v := ?_) (a' := ?_) (msk 29 2) rfl rfl (by kernel_rfl) (fun _ _ _ h => h) (Or.inl ⟨by rfl, ?_⟩) ?_ ?_; rotate_left; (focus (intro w'; go_simp; with_reducible rfl)); rotate_left; (focus (simp only [Act.put, qzA, qzB, qzC, i64_w, i32_w]; rfl))
       refine pure_ (i := 2) (N := some 83) (v := ?_) (a' := ?_) (msk 29 3) rfl rfl (by kernel_rfl) (fun _ _ _ h => h) (Or.inl ⟨by rfl, ?_⟩) ?_ ?_; rotate_left; (focus (intro w'; go_simp; with_reducible rfl)); rotate_left; (focus (simp only [Act.put, qzA, qzB, qzC, i64_w, i32_w]; rfl))
       refine pure_ (i := 3) (N := some 84) (v := ?_) (a' := ?_) (msk 29 4) rfl rfl (by kernel_rfl) (fun _ _ _ h => h) (Or.inl ⟨by rfl, ?_⟩) ?_ ?_; rotate_left; (focus (intro w'; go_simp; with_reducible rfl)); rotate_left; (focus (simp only [Act.put, qzA, qzB, qzC, i64_w, i32_w]; rfl))
       refine pure_ (i := 4) (N := some 85) (v := ?_) (a' := ?_) (msk 29 5) rfl rfl (by kernel_rfl) (fun _ _ _ h => h) (Or.inl ⟨by rfl, ?_⟩) ?_ ?_; rotate_left; (focus (intro w'; go_simp; with_reducible rfl)); rotate_left; (focus (simp only [Act.put, qzA, qzB, qzC, i64_w, i32_w]; rfl))
       refine pure_ (i := 5) (N := some 86) (v := ?_) (a' := ?_) (msk 29 6) rfl rfl (by kernel_rfl) (fun _ _ _ h => h) (Or.inl ⟨by rfl, ?_⟩) ?_ ?_; rotate_left; (focus (intro w'; go_simp; with_reducible rfl)); rotate_left; (focus (simp only [Act.put, qzA, qzB, qzC, i64_w, i32_w]; rfl))
       refine pure_ (i := 6) (N := some 87) (v := ?_) (a' := ?_) (msk 29 7) rfl rfl (by kernel_rfl) (fun _ _ _ h => h) (Or.inl ⟨by rfl, ?_⟩) ?_ ?_; rotate_left; (focus (intro w'; go_simp; with_reducible rfl)); rotate_left; (focus (simp only [Act.put, qzA, qzB, qzC, i64_w, i32_w]; rfl))
       refine pure_ (i := 7) (N := some 88) (v := ?_) (a' := ?_) (msk 29 8) rfl rfl (by kernel_rfl) (fun _ _ _ h => h) (Or.inl ⟨by rfl, ?_⟩) ?_ ?_; rotate_left; (focus (intro w'; go_simp; with_reducible rfl)); rotate_left; (focus (simp only [Act.put, qzA, qzB, qzC, i64_w, i32_w]; rfl))
       refine pure_ (i := 8) (N := some 89) (v := ?_) (a' := ?_) (msk 29 9) rfl rfl (by kernel_rfl) (fun _ _ _ h => h) (Or.inl ⟨by rfl, ?_⟩) ?_ ?_; rotate_left; (focus (intro w'; go_simp; with_reducible rfl)); rotate_left; (focus (simp only [Act.put, qzA, qzB, qzC, i64_w, i32_w]; rfl))
       refine pure_ (i := 9) (N := some 90) (v := ?_) (a' := ?_) (msk 29 10) rfl rfl (by kernel_rfl) (fun _ _ _ h => h) (Or.inl ⟨by rfl, ?_⟩) ?_ ?_; rotate_left; (focus (intro w'; go_simp; with_reducible rfl)); rotate_left; (focus (simp only [Act.put, qzA, qzB, qzC, i64_w, i32_w]; rfl))
       refine pure_ (i := 10) (N := some 91) (v := ?_) (a' := ?_) (msk 29 11) rfl rfl (by kernel_rfl) (fun _ _ _ h => h) (Or.inl ⟨by rfl, ?_⟩) ?_ ?_; rotate_left; (focus (intro w'; go_simp; with_reducible rfl)); rotate_left; (focus (simp only [Act.put, qzA, qzB, qzC, i64_w, i32_w]; rfl))
       refine pure_ (i := 11) (N := some 92) (v := ?_) (a' := ?_) (msk 29 12) rfl rfl (by kernel_rfl) (fun _ _ _ h => h) (Or.inl ⟨by rfl, ?_⟩) ?_ ?_; rotate_left; (focus (intro w'; go_simp; with_reducible rfl)); rotate_left; (focus (simp only [Act.put, qzA, qzB, qzC, i64_w, i32_w]; rfl))
       refine pure_ (i := 12) (N := some 93) (v := ?_) (a' := ?_) (msk 29 13) rfl rfl (by kernel_rfl) (fun _ _ _ h => h) (Or.inl ⟨by rfl, ?_⟩) ?_ ?_; rotate_left; (focus (intro w'; go_simp; with_reducible rfl)); rotate_left; (focus (simp only [Act.put, qzA, qzB, qzC, i64_w, i32_w]; rfl))
       refine pure_ (i := 13) (N := some 94) (v := ?_) (a' := ?_) (msk 29 14) rfl rfl (by kernel_rfl) (fun _ _ _ h => h) (Or.inl ⟨by rfl, ?_⟩) ?_ ?_; rotate_left; (focus (intro w'; go_simp; with_reducible rfl)); rotate_left; (focus (simp only [Act.put, qzA, qzB, qzC, i64_w, i32_w]; rfl))
       refine take_ (i := 14) (N := some 95) (v := ?_) (a' := ?_) (msk 29 15) rfl rfl (by kernel_rfl) (fun _ _ _ h => h) (Or.inl ⟨by rfl, ?_⟩) hHeld ?_ ?_; rotate_left; (focus (rintro w' ⟨s0, s1, s2, s3⟩; go_simp; with_reducible rfl)); rotate_left; (focus (simp only [Act.put, qzA, qzB, qzC, i64_w, i32_w]; rfl))
       refine pure_ (i := 15) (N := some 96) (v := ?_) (a' := ?_) (msk 29 16) rfl rfl (by kernel_rfl) (fun _ _ _ h => h) (Or.inl ⟨by rfl, ?_⟩) ?_ ?_; rotate_left; (focus (intro w'; go_simp; with_reducible rfl)); rotate_left; (focus (simp only [Act.put, qzA, qzB, qzC, i64_w, i32_w]; rfl))
       refine pure_ (i := 16) (N := some 97) (v := ?_) (a' := ?_) (msk 29 17) rfl rfl (by kernel_rfl) (fun _ _ _ h => h) (Or.inl ⟨by rfl, ?_⟩) ?_ ?_; rotate_left; (focus (intro w'; go_simp; with_reducible rfl)); rotate_left; (focus (simp only [Act.put, qzA, qzB, qzC, i64_w, i32_w]; rfl))
       refine pure_ (i := 17) (N := some 98) (v := ?_) (a' := ?_) (msk 29 18) rfl rfl (by kernel_rfl) (fun _ _ _ h => h) (Or.inl ⟨by rfl, ?_⟩) ?_ ?_; rotate_left; (focus (intro w'; go_simp; with_reducible rfl)); rotate_left; (focus (simp only [Act.put, qzA, qzB, qzC, i64_w, i32_w]; rfl))
       refine pure_ (i := 18) (N := some 99) (v := ?_) (a' := ?_) (msk 29 19) rfl rfl (by kernel_rfl) (fun _ _ _ h => h) (Or.inl ⟨by rfl, ?_⟩) ?_ ?_; rotate_left; (focus (intro w'; go_simp; with_reducible rfl)); rotate_left; (focus (simp only [Act.put, qzA, qzB, qzC, i64_w, i32_w]; rfl))
       refine pure_ (i := 19) (N := some 100) (v := ?_) (a' := ?_) (msk 29 20) rfl rfl (by kernel_rfl) (fun _ _ _ h => h) (Or.inl ⟨by rfl, ?_⟩) ?_ ?_; rotate_left; (focus (intro w'; go_simp; with_reducible rfl)); rotate_left; (focus (simp only [Act.put, qzA, qzB, qzC, i64_w, i32_w]; rfl))
       refine pure_ (i := 20) (N := some 101) (v := ?_) (a' := ?_) (msk 29 21) rfl rfl (by kernel_rfl) (fun _ _ _ h => h) (Or.inl ⟨by rfl, ?_⟩) ?_ ?_; rotate_left; (focus (intro w'; go_simp; with_reducible rfl)); rotate_left; (focus (simp only [Act.put, qzA, qzB, qzC, i64_w, i32_w]; rfl))
       refine pure_ (i := 21) (N := some 102) (v := ?_) (a' := ?_) (msk 29 22) rfl rfl (by kernel_rfl) (fun _ _ _ h => h) (Or.inl ⟨by rfl, ?_⟩) ?_ ?_; rotate_left; (focus (intro w'; go_simp; with_reducible rfl)); rotate_left; (focus (simp only [Act.put, qzA, qzB, qzC, i64_w, i32_w]; rfl))
       refine take_ (i := 22) (N := some 103) (v := ?_) (a' := ?_) (msk 29 23) rfl rfl (by kernel_rfl) (fun _ _ _ h => h) (Or.inl ⟨by rfl, ?_⟩) hHeld ?_ ?_; rotate_left; (focus (rintro w' ⟨s0, s1, s2, s3⟩; go_simp; with_reducible rfl)); rotate_left; (focus (simp only [Act.put, qzA, qzB, qzC, i64_w, i32_w]; rfl))
       refine pure_ (i := 23) (N := some 104) (v := ?_) (a' := ?_) (msk 29 24) rfl rfl (by kernel_rfl) (fun _ _ _ h => h) (Or.inl ⟨by rfl, ?_⟩) ?_ ?_; rotate_left; (focus (intro w'; go_simp; with_reducible rfl)); rotate_left; (focus (simp only [Act.put, qzA, qzB, qzC, i64_w, i32_w]; rfl))
       refine pure_ (i := 24) (N := some 105) (v := ?_) (a' := ?_) (msk 29 25) rfl rfl (by kernel_rfl) (fun _ _ _ h => h) (Or.inl ⟨by rfl, ?_⟩) ?_ ?_; rotate_left; (focus (intro w'; go_simp; with_reducible rfl)); rotate_left; (focus (simp only [Act.put, qzA, qzB, qzC, i64_w, i32_w]; rfl))
       refine take_ (i := 25) (N := some 106) (v := ?_) (a' := ?_) (msk 29 26) rfl rfl (by kernel_rfl) (fun _ _ _ h => h) (Or.inl ⟨by rfl, ?_⟩) hHeld ?_ ?_; rotate_left; (focus (rintro w' ⟨s0, s1, s2, s3⟩; go_simp; with_reducible rfl)); rotate_left; (focus (simp only [Act.put, qzA, qzB, qzC, i64_w, i32_w]; rfl))
       refine pure_ (i := 26) (N := some 107) (v := ?_) (a' := ?_) (msk 29 27) rfl rfl (by kernel_rfl) (fun _ _ _ h => h) (Or.inl ⟨by rfl, ?_⟩) ?_ ?_; rotate_left; (focus (intro w'; go_simp; with_reducible rfl)); rotate_left; (focus (simp only [Act.put, qzA, qzB, qzC, i64_w, i32_w]; rfl))
       refine pure_ (i := 27) (N := some 108) (v := ?_) (a' := ?_) (msk 29 28) rfl rfl (by kernel_rfl) (fun _ _ _ h => h) (Or.inl ⟨by rfl, ?_⟩) ?_ ?_; rotate_left; (focus (intro w'; go_simp; with_reducible rfl)); rotate_left; (focus (simp only [Act.put, qzA, qzB, qzC, i64_w, i32_w]; rfl))
       refine pure_ (i := 28) (N := some 109) (v := ?_) (a' := ?_) (msk 29 29) rfl rfl (by kernel_rfl) (fun _ _ _ h => h) (Or.inl ⟨by rfl, ?_⟩) ?_ ?_; rotate_left; (focus (intro w'; go_simp; with_reducible rfl)); rotate_left; (focus (simp only [Act.put, qzA, qzB, qzC, i64_w, i32_w]; rfl))
       refine done_ (by kernel_rfl) ?_
       clear HT6
       have hcm := HMC.out
       have hm1 := (HI.out.hb.cell (World.block_lt_of_cell? wm _ hcm.1)).trans hcm.1
       have hr1 := (HI.out.hb.cell (World.block_lt_of_cell? wm _ hcm.2.1)).trans hcm.2.1
       have hr2 := (HI.out.hb.cell (World.block_lt_of_cell? wm _ hcm.2.2)).trans hcm.2.2
       have BKg14 : qab (wn.drew.heap[g14]? = some (.cells #[.int .i64 x0, .int .i64 y0, .int .i64 z0, .int .i64 u0] 31 (0, 0))) := ⟨HI.out.x _ (List.mem_cons_self ..)⟩
       have HB : qab (Below w.heap.size w wn.drew) := ⟨HW2.out _ (qbb HI.out.hb)⟩
       obtain ⟨wd, hwd⟩ : ∃ x, x = wn.drew := ⟨_, rfl⟩
       have hm1' : wd.cell? (mm.add n) = some (.slice (some rr) l0_1.length rc) := by rw [hwd]; exact hm1
       have hr1' : wd.cell? (rr.add (M * 2)) = some (.int .i64 lo) := by rw [hwd]; exact hr1
       have hr2' : wd.cell? ⟨(rr.add (M * 2)).block, (rr.add (M * 2)).off + 1, none⟩ = some (.int .i64 hg) := by rw [hwd]; exact hr2
       rw [← hwd] at BKg14 HB ⊢
       clear hwd hm1 hr1 hr2 hcm HMC HI HT HWM HW2
       have hu37 := Try.underlying37
       have hwM : wrap64 (M : Int) = (M : Int) := wrap_id (by omega) (by omega)
       go_upto_region 8 with fail
       go_upto_region 9 with fail
       have hbk := blk_new wd (.cells #[.int .i64 lo, .int .i64 hg] 37); have hb : Below wd.heap.size wd (wd.alloc (.cells #[.int .i64 lo, .int .i64 hg] 37)) := (Below.refl _ _).alloc (Nat.le_refl _) _; generalize hw_ : (wd.alloc (.cells #[.int .i64 lo, .int .i64 hg] 37)) = w9 at hbk hb ⊢; clear hw_; replace BKg14 := qab.mk (qag BKg14.out hb); have GEg16 : w.heap.size ≤ wd.heap.size := HB.out.size; replace HB := qab.mk (qad HB.out hb); clear hb; generalize hg_ : wd.heap.size = g16 at hbk GEg16 ⊢; clear hg_; have BKg16 := qab.mk hbk; clear hbk; obtain ⟨hfg16, hcg16_0, hcg16_1⟩ := qz2 BKg16.out; obtain ⟨hfg14, hcg14_0, hcg14_1, hcg14_2, hcg14_3⟩ := qz4 BKg14.out
       clear hm1' hr1' hr2' hfg14 hfg16 hcg14_1 hcg14_2 hcg14_3 hwM
       obtain ⟨⟨hb1, hb2⟩, ⟨hb3, hb4⟩, hca, hmu⟩ := HFIN.out
       have d1 : decide (lo ≤ x0) = true := decide_eq_true hb1
       have d2 : decide (x0 ≤ hg) = true := decide_eq_true hb2
       have hx0 : x0 = 0 ∨ 0 < x0 := by omega
       have hms : mu < 0 ∨ (¬ mu < 0 ∧ (M : Int) + 1 < mu) ∨ (¬ mu < 0 ∧ ¬ (M : Int) + 1 < mu ∧ x0 = 0) := by
        by_cases h1 : mu < 0
        ·
         exact .inl h1
        ·
         by_cases h2 : (M : Int) + 1 < mu
         ·
          exact .inr (.inl ⟨h1, h2⟩)
         ·
          exact .inr (.inr ⟨h1, h2, hmu (by omega) (by omega)⟩)
       clear hb1 hb2 hb3 hb4 hmu HFIN
       rcases hx0 with rfl | hx
       ·
        obtain ⟨hc1, hc2⟩ := hca rfl
        have d3 : decide (1 ≤ ca) = true := decide_eq_true hc1
        have d4 : decide (ca ≤ (M : Int) + 1) = true := decide_eq_true (by omega)
        clear hca hc1 hc2
        rcases hms with h1 | ⟨h1, h2⟩ | ⟨h1, h2, _⟩
        ·
         have d5 : decide (mu < 0) = true := decide_eq_true h1
         clear h1
         go_wp2_with (first | (go_at_call 17; with_reducible refine (HKNOWN.out _ HB.out).mono ?_; rintro e wq ⟨rfl, hb⟩; replace HB := qab.mk (qad HB.out hb); clear hb))
         go_ret
         exact ⟨rfl, HB.out⟩
        ·
         have d5 : decide (mu < 0) = false := decide_eq_false h1
         have d6 : decide ((M : Int) + 1 < mu) = true := decide_eq_true h2
         clear h1 h2
         go_wp2_with (first | (go_at_call 17; with_reducible refine (HKNOWN.out _ HB.out).mono ?_; rintro e wq ⟨rfl, hb⟩; replace HB := qab.mk (qad HB.out hb); clear hb))
         go_ret
         exact ⟨rfl, HB.out⟩
        ·
         have d5 : decide (mu < 0) = false := decide_eq_false h1
         have d6 : decide ((M : Int) + 1 < mu) = false := decide_eq_false h2
         clear h1 h2
         go_wp2_with (first | (go_at_call 17; with_reducible refine (HKNOWN.out _ HB.out).mono ?_; rintro e wq ⟨rfl, hb⟩; replace HB := qab.mk (qad HB.out hb); clear hb))
         go_ret
         exact ⟨rfl, HB.out⟩
       ·
        have d3 : decide (0 < x0) = true := decide_eq_true hx
        clear hca
        rcases hms with h1 | ⟨h1, h2⟩ | ⟨_, _, h3⟩
        ·
         have d5 : decide (mu < 0) = true := decide_eq_true h1
         clear h1 hx
         go_wp2_with (first | (go_at_call 17; with_reducible refine (HKNOWN.out _ HB.out).mono ?_; rintro e wq ⟨rfl, hb⟩; replace HB := qab.mk (qad HB.out hb); clear hb))
         go_ret
         exact ⟨rfl, HB.out⟩
        ·
         have d5 : decide (mu < 0) = false := decide_eq_false h1
         have d6 : decide ((M : Int) + 1 < mu) = true := decide_eq_true h2
         clear h1 h2 hx
         go_wp2_with (first | (go_at_call 17; with_reducible refine (HKNOWN.out _ HB.out).mono ?_; rintro e wq ⟨rfl, hb⟩; replace HB := qab.mk (qad HB.out hb); clear hb))
         go_ret
         exact ⟨rfl, HB.out⟩
        ·
         omega
end Go.Proofs.Ytipphcjgdebecaa.PA
