/- What functions of the program answer. No condition. -/
import Derived.RangeFuncNested
import Derived.RangeFuncBound
import Derived.RangeFuncCalls
import Derived.RangeFuncLeaves
import Derived.RangeFuncBox
import Derived.Shelf.Abstract
import Derived.Shelf.RegionOpen
import Derived.OwnWalkIn
import Derived.TacticsInMore
import Derived.LoopNIn
import Derived.LoopIn
import Derived.Recover
import Derived.Defers
import Derived.WalkLawsBesides
import Derived.WalkSmall
import Derived.Test.YtipphcjgdebecaaPmD
import Derived.Test.YtipphcjgdebecaaSC
import Derived.Test.YtipphcjgdebecaaSM
import Derived.Test.YtipphcjgdebecaaPmA
import Derived.Test.YtipphcjgdebecaaPmB
import Derived.Test.YtipphcjgdebecaaSD
import Derived.Test.YtipphcjgdebecaaSF
import Derived.Deep.Slices
import Derived.Lib.SmallJoins
import Derived.ChangeOld
import Derived.ProofKit
set_option linter.all false
set_option maxRecDepth 100000
set_option maxHeartbeats 8000000
namespace Go.Proofs.Ytipphcjgdebecaa.PA
open Go.RowKit Go.Shelf Go.Proofs.YtipphcjgdebecaaW.PrintWords Go.Proofs.YtipphcjgdebecaaW.PrintLast Go.Proofs.YtipphcjgdebecaaW.PrintMore
attribute [local go_sem] qas qau max_two min_two qao qap qat qav
theorem taliklaw04_PipeMore.calls (A0_0 : Option Addr) (c0_0 : Nat) (l0_0 : List S39) (A0_1 : Option Addr) (c0_1 : Nat) (l0_1 : List S37) (A0_2 : Option Addr) (c0_2 : Nat) (l0_2 : List (List Int)) (a1 a2 a3 a4 a5 : Int) (r : Bool) (w : World) (hr0_0 : Kd.C k39 w A0_0 l0_0.length l0_0) (hc0_0 : l0_0.length ≤ c0_0) (hr0_1 : Kd.C k37 w A0_1 l0_1.length l0_1) (hc0_1 : l0_1.length ≤ c0_1) (hr0_2 : Kd.C (Kd.slice 3 (Kd.int .i64)) w A0_2 l0_2.length l0_2) (hc0_2 : l0_2.length ≤ c0_2) (h : (some true : Option Bool) = some r) : Calls Try.prog 10 #[.agg #[.slice A0_0 l0_0.length c0_0, .slice A0_1 l0_1.length c0_1, .slice A0_2 l0_2.length c0_2], .int .i64 a1, .int .i64 a2, .int .i64 a3, .int .i64 a4, .int .i64 a5] w fun e w' => e = .returned (.bool r) ∧ Below w.heap.size w w' := by
 obtain rfl := Option.some.inj h; clear h; have hu26 := Try.underlying26; have HB := qab.mk (Below.refl w.heap.size w); have HR0 := qab.mk hr0_0; have HR1 := qab.mk hr0_1; have HR2 := qab.mk hr0_2; clear hr0_0 hr0_1 hr0_2
 have HSHORT : qab (∀ W, Below w.heap.size w W → Calls Try.prog 16 #[.agg #[.slice A0_0 l0_0.length c0_0, .slice A0_1 l0_1.length c0_1, .slice A0_2 l0_2.length c0_2]] W fun e w' => e = .returned (.bool (shortB l0_0 l0_1 l0_2)) ∧ Below W.heap.size W w') := ⟨fun W hW => (taliklaw04_short.calls 30 _ _ l0_0 _ _ l0_1 _ _ l0_2 _ W (Kd.qak HR0.out hW) hc0_0 (Kd.qak HR1.out hW) hc0_1 (Kd.qak HR2.out hW) hc0_2 (short_eq l0_0 l0_1 l0_2 30 (by omega))).mono fun e w' ⟨h1, h2⟩ => ⟨h1, h2⟩⟩
 have HKNOWN : qab (∀ W, Below w.heap.size w W → Calls Try.prog 17 #[] W fun e w' => e = .returned (.bool true) ∧ Below W.heap.size W w') := ⟨fun W hW => taliklaw04_known.calls true W rfl⟩
 cases hs : shortB l0_0 l0_1 l0_2 with
 | false =>
  rw [hs] at HSHORT
  go_enter Try.func10, Try.ntmps10
  go_wp2_with (first | (with_reducible refine qam (N := 6) rfl ?_); refine qal ?hg (N := 6) ?hd (cs := #[.slice A0_0 l0_0.length c0_0, .slice A0_1 l0_1.length c0_1, .slice A0_2 l0_2.length c0_2]) (t := 26) ?hr ?_; (case hd => rfl); (case hg => rfl); (case hr => first | (go_simp; done) | (go_simp; rfl)); intro gb hg_gb w2 hbox hb; have BKgb := qab.mk hbox; have n_HB := qab.mk (qad HB.out hb); have GEgb : w.heap.size ≤ gb := (by rw [hg_gb]; exact HB.out.size); clear HB; have HB := n_HB; clear n_HB; obtain ⟨hfgb, hcgb_0, hcgb_1, hcgb_2⟩ := qz3 BKgb.out; clear hbox hb hg_gb | (go_at_call 16; with_reducible refine (HSHORT.out _ HB.out).mono ?_; rintro e wn ⟨rfl, hb⟩; replace BKgb := qab.mk (qae BKgb.out hb); replace HB := qab.mk (qad HB.out hb); clear hb; obtain ⟨hfgb, hcgb_0, hcgb_1, hcgb_2⟩ := qz3 BKgb.out) | (go_at_call 17; with_reducible refine (HKNOWN.out _ HB.out).mono ?_; rintro e wn ⟨rfl, hb⟩; replace BKgb := qab.mk (qae BKgb.out hb); replace HB := qab.mk (qad HB.out hb); clear hb; obtain ⟨hfgb, hcgb_0, hcgb_1, hcgb_2⟩ := qz3 BKgb.out))
  go_ret
  exact ⟨rfl, HB.out⟩
 | true =>
  have hsh := short_of hs
  rw [hs] at HSHORT
  clear hs
  have HNET : qab (∀ W, Below w.heap.size w W → Calls Try.prog 19 #[.agg #[.slice A0_0 l0_0.length c0_0, .slice A0_1 l0_1.length c0_1, .slice A0_2 l0_2.length c0_2]] W fun e w' => e = .returned (.bool (validB l0_0 l0_1 l0_2)) ∧ Below W.heap.size W w') := ⟨fun W hW => (talikref04_Net.calls _ _ l0_0 _ _ l0_1 _ _ l0_2 _ W (Kd.qak HR0.out hW) hc0_0 (Kd.qak HR1.out hW) hc0_1 (Kd.qak HR2.out hW) hc0_2 (net_eq l0_0 l0_1 l0_2 hsh 300 (by omega))).mono fun e w' ⟨h1, h2⟩ => ⟨h1, h2⟩⟩
  cases hv : validB l0_0 l0_1 l0_2 with
  | false =>
   rw [hv] at HNET
   clear hv
   go_enter Try.func10, Try.ntmps10
   go_wp2_with (first | (with_reducible refine qam (N := 6) rfl ?_); refine qal ?hg (N := 6) ?hd (cs := #[.slice A0_0 l0_0.length c0_0, .slice A0_1 l0_1.length c0_1, .slice A0_2 l0_2.length c0_2]) (t := 26) ?hr ?_; (case hd => rfl); (case hg => rfl); (case hr => first | (go_simp; done) | (go_simp; rfl)); intro gb hg_gb w2 hbox hb; have BKgb := qab.mk hbox; have n_HB := qab.mk (qad HB.out hb); have GEgb : w.heap.size ≤ gb := (by rw [hg_gb]; exact HB.out.size); clear HB; have HB := n_HB; clear n_HB; obtain ⟨hfgb, hcgb_0, hcgb_1, hcgb_2⟩ := qz3 BKgb.out; clear hbox hb hg_gb | (go_at_call 16; with_reducible refine (HSHORT.out _ HB.out).mono ?_; rintro e wn ⟨rfl, hb⟩; replace BKgb := qab.mk (qae BKgb.out hb); replace HB := qab.mk (qad HB.out hb); clear hb; obtain ⟨hfgb, hcgb_0, hcgb_1, hcgb_2⟩ := qz3 BKgb.out) | (go_at_call 19; with_reducible refine (HNET.out _ HB.out).mono ?_; rintro e wn ⟨rfl, hb⟩; replace BKgb := qab.mk (qae BKgb.out hb); replace HB := qab.mk (qad HB.out hb); clear hb; obtain ⟨hfgb, hcgb_0, hcgb_1, hcgb_2⟩ := qz3 BKgb.out) | (go_at_call 17; with_reducible refine (HKNOWN.out _ HB.out).mono ?_; rintro e wn ⟨rfl, hb⟩; replace BKgb := qab.mk (qae BKgb.out hb); replace HB := qab.mk (qad HB.out hb); clear hb; obtain ⟨hfgb, hcgb_0, hcgb_1, hcgb_2⟩ := qz3 BKgb.out))
   go_ret
   exact ⟨rfl, HB.out⟩
  | true =>
   rw [hv] at HNET
   have hN := net_ok hv
   have hn0 := hN.n0
   have hn1 := hN.n1
   by_cases h4 : (4 : Int) < l0_0.length
   ·
    have d1 : decide ((4 : Int) < l0_0.length) = true := decide_eq_true h4
    clear hv hN h4
    go_enter Try.func10, Try.ntmps10
    go_wp2_with (first | (with_reducible refine qam (N := 6) rfl ?_); refine qal ?hg (N := 6) ?hd (cs := #[.slice A0_0 l0_0.length c0_0, .slice A0_1 l0_1.length c0_1, .slice A0_2 l0_2.length c0_2]) (t := 26) ?hr ?_; (case hd => rfl); (case hg => rfl); (case hr => first | (go_simp; done) | (go_simp; rfl)); intro gb hg_gb w2 hbox hb; have BKgb := qab.mk hbox; have n_HB := qab.mk (qad HB.out hb); have GEgb : w.heap.size ≤ gb := (by rw [hg_gb]; exact HB.out.size); clear HB; have HB := n_HB; clear n_HB; obtain ⟨hfgb, hcgb_0, hcgb_1, hcgb_2⟩ := qz3 BKgb.out; clear hbox hb hg_gb | (go_at_call 16; with_reducible refine (HSHORT.out _ HB.out).mono ?_; rintro e wn ⟨rfl, hb⟩; replace BKgb := qab.mk (qae BKgb.out hb); replace HB := qab.mk (qad HB.out hb); clear hb; obtain ⟨hfgb, hcgb_0, hcgb_1, hcgb_2⟩ := qz3 BKgb.out) | (go_at_call 19; with_reducible refine (HNET.out _ HB.out).mono ?_; rintro e wn ⟨rfl, hb⟩; replace BKgb := qab.mk (qae BKgb.out hb); replace HB := qab.mk (qad HB.out hb); clear hb; obtain ⟨hfgb, hcgb_0, hcgb_1, hcgb_2⟩ := qz3 BKgb.out) | (go_at_call 17; with_reducible refine (HKNOWN.out _ HB.out).mono ?_; rintro e wn ⟨rfl, hb⟩; replace BKgb := qab.mk (qae BKgb.out hb); replace HB := qab.mk (qad HB.out hb); clear hb; obtain ⟨hfgb, hcgb_0, hcgb_1, hcgb_2⟩ := qz3 BKgb.out))
    go_ret
    exact ⟨rfl, HB.out⟩
   ·
    have d1 : decide ((4 : Int) < l0_0.length) = false := decide_eq_false h4
    have HPLA : qab (∀ W, Below w.heap.size w W → Calls Try.prog 25 #[.agg #[.slice A0_0 l0_0.length c0_0, .slice A0_1 l0_1.length c0_1, .slice A0_2 l0_2.length c0_2], .int .i64 a1] W fun e w' => e = .returned (.bool (inB a1 0 l0_0.length)) ∧ Below W.heap.size W w') := ⟨fun W hW => (talikref04_Place.calls _ _ l0_0 _ _ l0_1 _ _ l0_2 a1 _ W (Kd.qak HR0.out hW) hc0_0 (Kd.qak HR1.out hW) hc0_1 (Kd.qak HR2.out hW) hc0_2 (rplace_eq l0_0 l0_1 l0_2 a1)).mono fun e w' ⟨h1, h2⟩ => ⟨h1, h2⟩⟩
    have HFAX : qab (∀ x W, Below w.heap.size w W → Calls Try.prog 26 #[.agg #[.slice A0_0 l0_0.length c0_0, .slice A0_1 l0_1.length c0_1, .slice A0_2 l0_2.length c0_2], .int .i64 x] W fun e w' => e = .returned (.bool (inFault l0_0 x)) ∧ Below W.heap.size W w') := ⟨fun x W hW => (talikref04_Fault.calls 10 _ _ l0_0 _ _ l0_1 _ _ l0_2 x _ W (Kd.qak HR0.out hW) hc0_0 (Kd.qak HR1.out hW) hc0_1 (Kd.qak HR2.out hW) hc0_2 (rfault_eq l0_0 l0_1 l0_2 (by omega) x 10 (by omega))).mono fun e w' ⟨h1, h2⟩ => ⟨h1, h2⟩⟩
    have HFA := qab.mk (HFAX.out a2)
    have HFS := qab.mk (HFAX.out a5)
    have HLO : qab (∀ W, Below w.heap.size w W → Calls Try.prog 20 #[.agg #[.slice A0_0 l0_0.length c0_0, .slice A0_1 l0_1.length c0_1, .slice A0_2 l0_2.length c0_2], .int .i64 a3] W fun e w' => e = .returned (.bool (inB a3 0 (wrap64 ((l0_0.length : Int) - 1)))) ∧ Below W.heap.size W w') := ⟨fun W hW => (talikref04_IsLoop.calls _ _ l0_0 _ _ l0_1 _ _ l0_2 a3 _ W (Kd.qak HR0.out hW) hc0_0 (Kd.qak HR1.out hW) hc0_1 (Kd.qak HR2.out hW) hc0_2 (isloop_eq l0_0 l0_1 l0_2 a3)).mono fun e w' ⟨h1, h2⟩ => ⟨h1, h2⟩⟩
    clear HFAX
    cases hp : inB a1 0 l0_0.length with
    | false =>
     rw [hp] at HPLA
     clear hv hN h4 HFA HFS HLO
     go_enter Try.func10, Try.ntmps10
     go_wp2_with (first | (with_reducible refine qam (N := 6) rfl ?_); refine qal ?hg (N := 6) ?hd (cs := #[.slice A0_0 l0_0.length c0_0, .slice A0_1 l0_1.length c0_1, .slice A0_2 l0_2.length c0_2]) (t := 26) ?hr ?_; (case hd => rfl); (case hg => rfl); (case hr => first | (go_simp; done) | (go_simp; rfl)); intro gb hg_gb w2 hbox hb; have BKgb := qab.mk hbox; have n_HB := qab.mk (qad HB.out hb); have GEgb : w.heap.size ≤ gb := (by rw [hg_gb]; exact HB.out.size); clear HB; have HB := n_HB; clear n_HB; obtain ⟨hfgb, hcgb_0, hcgb_1, hcgb_2⟩ := qz3 BKgb.out; clear hbox hb hg_gb | (go_at_call 16; with_reducible refine (HSHORT.out _ HB.out).mono ?_; rintro e wn ⟨rfl, hb⟩; replace BKgb := qab.mk (qae BKgb.out hb); replace HB := qab.mk (qad HB.out hb); clear hb; obtain ⟨hfgb, hcgb_0, hcgb_1, hcgb_2⟩ := qz3 BKgb.out) | (go_at_call 19; with_reducible refine (HNET.out _ HB.out).mono ?_; rintro e wn ⟨rfl, hb⟩; replace BKgb := qab.mk (qae BKgb.out hb); replace HB := qab.mk (qad HB.out hb); clear hb; obtain ⟨hfgb, hcgb_0, hcgb_1, hcgb_2⟩ := qz3 BKgb.out) | (go_at_call 25; with_reducible refine (HPLA.out _ HB.out).mono ?_; rintro e wn ⟨rfl, hb⟩; replace BKgb := qab.mk (qae BKgb.out hb); replace HB := qab.mk (qad HB.out hb); clear hb; obtain ⟨hfgb, hcgb_0, hcgb_1, hcgb_2⟩ := qz3 BKgb.out) | (go_at_call 17; with_reducible refine (HKNOWN.out _ HB.out).mono ?_; rintro e wn ⟨rfl, hb⟩; replace BKgb := qab.mk (qae BKgb.out hb); replace HB := qab.mk (qad HB.out hb); clear hb; obtain ⟨hfgb, hcgb_0, hcgb_1, hcgb_2⟩ := qz3 BKgb.out))
     go_ret
     exact ⟨rfl, HB.out⟩
    | true =>
     rw [hp] at HPLA
     cases hf : inFault l0_0 a2 with
     | false =>
      rw [hf] at HFA
      clear hv hN h4 HFS HLO hp
      go_enter Try.func10, Try.ntmps10
      go_wp2_with (first | (with_reducible refine qam (N := 6) rfl ?_); refine qal ?hg (N := 6) ?hd (cs := #[.slice A0_0 l0_0.length c0_0, .slice A0_1 l0_1.length c0_1, .slice A0_2 l0_2.length c0_2]) (t := 26) ?hr ?_; (case hd => rfl); (case hg => rfl); (case hr => first | (go_simp; done) | (go_simp; rfl)); intro gb hg_gb w2 hbox hb; have BKgb := qab.mk hbox; have n_HB := qab.mk (qad HB.out hb); have GEgb : w.heap.size ≤ gb := (by rw [hg_gb]; exact HB.out.size); clear HB; have HB := n_HB; clear n_HB; obtain ⟨hfgb, hcgb_0, hcgb_1, hcgb_2⟩ := qz3 BKgb.out; clear hbox hb hg_gb | (go_at_call 16; with_reducible refine (HSHORT.out _ HB.out).mono ?_; rintro e wn ⟨rfl, hb⟩; replace BKgb := qab.mk (qae BKgb.out hb); replace HB := qab.mk (qad HB.out hb); clear hb; obtain ⟨hfgb, hcgb_0, hcgb_1, hcgb_2⟩ := qz3 BKgb.out) | (go_at_call 19; with_reducible refine (HNET.out _ HB.out).mono ?_; rintro e wn ⟨rfl, hb⟩; replace BKgb := qab.mk (qae BKgb.out hb); replace HB := qab.mk (qad HB.out hb); clear hb; obtain ⟨hfgb, hcgb_0, hcgb_1, hcgb_2⟩ := qz3 BKgb.out) | (go_at_call 25; with_reducible refine (HPLA.out _ HB.out).mono ?_; rintro e wn ⟨rfl, hb⟩; replace BKgb := qab.mk (qae BKgb.out hb); replace HB := qab.mk (qad HB.out hb); clear hb; obtain ⟨hfgb, hcgb_0, hcgb_1, hcgb_2⟩ := qz3 BKgb.out) | (go_at_call 26; with_reducible refine (HFA.out _ HB.out).mono ?_; rintro e wn ⟨rfl, hb⟩; replace BKgb := qab.mk (qae BKgb.out hb); replace HB := qab.mk (qad HB.out hb); clear hb; obtain ⟨hfgb, hcgb_0, hcgb_1, hcgb_2⟩ := qz3 BKgb.out) | (go_at_call 17; with_reducible refine (HKNOWN.out _ HB.out).mono ?_; rintro e wn ⟨rfl, hb⟩; replace BKgb := qab.mk (qae BKgb.out hb); replace HB := qab.mk (qad HB.out hb); clear hb; obtain ⟨hfgb, hcgb_0, hcgb_1, hcgb_2⟩ := qz3 BKgb.out))
      go_ret
      exact ⟨rfl, HB.out⟩
     | true =>
      rw [hf] at HFA
      cases hi : inB a3 0 (wrap64 ((l0_0.length : Int) - 1)) with
      | false =>
       rw [hi] at HLO
       clear hv hN h4 HFS hp hf
       go_enter Try.func10, Try.ntmps10
       go_wp2_with (first | (with_reducible refine qam (N := 6) rfl ?_); refine qal ?hg (N := 6) ?hd (cs := #[.slice A0_0 l0_0.length c0_0, .slice A0_1 l0_1.length c0_1, .slice A0_2 l0_2.length c0_2]) (t := 26) ?hr ?_; (case hd => rfl); (case hg => rfl); (case hr => first | (go_simp; done) | (go_simp; rfl)); intro gb hg_gb w2 hbox hb; have BKgb := qab.mk hbox; have n_HB := qab.mk (qad HB.out hb); have GEgb : w.heap.size ≤ gb := (by rw [hg_gb]; exact HB.out.size); clear HB; have HB := n_HB; clear n_HB; obtain ⟨hfgb, hcgb_0, hcgb_1, hcgb_2⟩ := qz3 BKgb.out; clear hbox hb hg_gb | (go_at_call 16; with_reducible refine (HSHORT.out _ HB.out).mono ?_; rintro e wn ⟨rfl, hb⟩; replace BKgb := qab.mk (qae BKgb.out hb); replace HB := qab.mk (qad HB.out hb); clear hb; obtain ⟨hfgb, hcgb_0, hcgb_1, hcgb_2⟩ := qz3 BKgb.out) | (go_at_call 19; with_reducible refine (HNET.out _ HB.out).mono ?_; rintro e wn ⟨rfl, hb⟩; replace BKgb := qab.mk (qae BKgb.out hb); replace HB := qab.mk (qad HB.out hb); clear hb; obtain ⟨hfgb, hcgb_0, hcgb_1, hcgb_2⟩ := qz3 BKgb.out) | (go_at_call 25; with_reducible refine (HPLA.out _ HB.out).mono ?_; rintro e wn ⟨rfl, hb⟩; replace BKgb := qab.mk (qae BKgb.out hb); replace HB := qab.mk (qad HB.out hb); clear hb; obtain ⟨hfgb, hcgb_0, hcgb_1, hcgb_2⟩ := qz3 BKgb.out) | (go_at_call 26; with_reducible refine (HFA.out _ HB.out).mono ?_; rintro e wn ⟨rfl, hb⟩; replace BKgb := qab.mk (qae BKgb.out hb); replace HB := qab.mk (qad HB.out hb); clear hb; obtain ⟨hfgb, hcgb_0, hcgb_1, hcgb_2⟩ := qz3 BKgb.out) | (go_at_call 20; with_reducible refine (HLO.out _ HB.out).mono ?_; rintro e wn ⟨rfl, hb⟩; replace BKgb := qab.mk (qae BKgb.out hb); replace HB := qab.mk (qad HB.out hb); clear hb; obtain ⟨hfgb, hcgb_0, hcgb_1, hcgb_2⟩ := qz3 BKgb.out) | (go_at_call 17; with_reducible refine (HKNOWN.out _ HB.out).mono ?_; rintro e wn ⟨rfl, hb⟩; replace BKgb := qab.mk (qae BKgb.out hb); replace HB := qab.mk (qad HB.out hb); clear hb; obtain ⟨hfgb, hcgb_0, hcgb_1, hcgb_2⟩ := qz3 BKgb.out))
       go_ret
       exact ⟨rfl, HB.out⟩
      | true =>
       rw [hi] at HLO
       by_cases c1 : a4 < 0
       ·
        have d2 : decide (a4 < 0) = true := decide_eq_true c1
        clear hv hN h4 HFS hp hf hi c1
        go_enter Try.func10, Try.ntmps10
        go_wp2_with (first | (with_reducible refine qam (N := 6) rfl ?_); refine qal ?hg (N := 6) ?hd (cs := #[.slice A0_0 l0_0.length c0_0, .slice A0_1 l0_1.length c0_1, .slice A0_2 l0_2.length c0_2]) (t := 26) ?hr ?_; (case hd => rfl); (case hg => rfl); (case hr => first | (go_simp; done) | (go_simp; rfl)); intro gb hg_gb w2 hbox hb; have BKgb := qab.mk hbox; have n_HB := qab.mk (qad HB.out hb); have GEgb : w.heap.size ≤ gb := (by rw [hg_gb]; exact HB.out.size); clear HB; have HB := n_HB; clear n_HB; obtain ⟨hfgb, hcgb_0, hcgb_1, hcgb_2⟩ := qz3 BKgb.out; clear hbox hb hg_gb | (go_at_call 16; with_reducible refine (HSHORT.out _ HB.out).mono ?_; rintro e wn ⟨rfl, hb⟩; replace BKgb := qab.mk (qae BKgb.out hb); replace HB := qab.mk (qad HB.out hb); clear hb; obtain ⟨hfgb, hcgb_0, hcgb_1, hcgb_2⟩ := qz3 BKgb.out) | (go_at_call 19; with_reducible refine (HNET.out _ HB.out).mono ?_; rintro e wn ⟨rfl, hb⟩; replace BKgb := qab.mk (qae BKgb.out hb); replace HB := qab.mk (qad HB.out hb); clear hb; obtain ⟨hfgb, hcgb_0, hcgb_1, hcgb_2⟩ := qz3 BKgb.out) | (go_at_call 25; with_reducible refine (HPLA.out _ HB.out).mono ?_; rintro e wn ⟨rfl, hb⟩; replace BKgb := qab.mk (qae BKgb.out hb); replace HB := qab.mk (qad HB.out hb); clear hb; obtain ⟨hfgb, hcgb_0, hcgb_1, hcgb_2⟩ := qz3 BKgb.out) | (go_at_call 26; with_reducible refine (HFA.out _ HB.out).mono ?_; rintro e wn ⟨rfl, hb⟩; replace BKgb := qab.mk (qae BKgb.out hb); replace HB := qab.mk (qad HB.out hb); clear hb; obtain ⟨hfgb, hcgb_0, hcgb_1, hcgb_2⟩ := qz3 BKgb.out) | (go_at_call 20; with_reducible refine (HLO.out _ HB.out).mono ?_; rintro e wn ⟨rfl, hb⟩; replace BKgb := qab.mk (qae BKgb.out hb); replace HB := qab.mk (qad HB.out hb); clear hb; obtain ⟨hfgb, hcgb_0, hcgb_1, hcgb_2⟩ := qz3 BKgb.out) | (go_at_call 17; with_reducible refine (HKNOWN.out _ HB.out).mono ?_; rintro e wn ⟨rfl, hb⟩; replace BKgb := qab.mk (qae BKgb.out hb); replace HB := qab.mk (qad HB.out hb); clear hb; obtain ⟨hfgb, hcgb_0, hcgb_1, hcgb_2⟩ := qz3 BKgb.out))
        go_ret
        exact ⟨rfl, HB.out⟩
       ·
        have d2 : decide (a4 < 0) = false := decide_eq_false c1
        by_cases c2 : (72 : Int) < a4
        ·
         have d3 : decide ((72 : Int) < a4) = true := decide_eq_true c2
         clear hv hN h4 HFS hp hf hi c1 c2
         go_enter Try.func10, Try.ntmps10
         go_wp2_with (first | (with_reducible refine qam (N := 6) rfl ?_); refine qal ?hg (N := 6) ?hd (cs := #[.slice A0_0 l0_0.length c0_0, .slice A0_1 l0_1.length c0_1, .slice A0_2 l0_2.length c0_2]) (t := 26) ?hr ?_; (case hd => rfl); (case hg => rfl); (case hr => first | (go_simp; done) | (go_simp; rfl)); intro gb hg_gb w2 hbox hb; have BKgb := qab.mk hbox; have n_HB := qab.mk (qad HB.out hb); have GEgb : w.heap.size ≤ gb := (by rw [hg_gb]; exact HB.out.size); clear HB; have HB := n_HB; clear n_HB; obtain ⟨hfgb, hcgb_0, hcgb_1, hcgb_2⟩ := qz3 BKgb.out; clear hbox hb hg_gb | (go_at_call 16; with_reducible refine (HSHORT.out _ HB.out).mono ?_; rintro e wn ⟨rfl, hb⟩; replace BKgb := qab.mk (qae BKgb.out hb); replace HB := qab.mk (qad HB.out hb); clear hb; obtain ⟨hfgb, hcgb_0, hcgb_1, hcgb_2⟩ := qz3 BKgb.out) | (go_at_call 19; with_reducible refine (HNET.out _ HB.out).mono ?_; rintro e wn ⟨rfl, hb⟩; replace BKgb := qab.mk (qae BKgb.out hb); replace HB := qab.mk (qad HB.out hb); clear hb; obtain ⟨hfgb, hcgb_0, hcgb_1, hcgb_2⟩ := qz3 BKgb.out) | (go_at_call 25; with_reducible refine (HPLA.out _ HB.out).mono ?_; rintro e wn ⟨rfl, hb⟩; replace BKgb := qab.mk (qae BKgb.out hb); replace HB := qab.mk (qad HB.out hb); clear hb; obtain ⟨hfgb, hcgb_0, hcgb_1, hcgb_2⟩ := qz3 BKgb.out) | (go_at_call 26; with_reducible refine (HFA.out _ HB.out).mono ?_; rintro e wn ⟨rfl, hb⟩; replace BKgb := qab.mk (qae BKgb.out hb); replace HB := qab.mk (qad HB.out hb); clear hb; obtain ⟨hfgb, hcgb_0, hcgb_1, hcgb_2⟩ := qz3 BKgb.out) | (go_at_call 20; with_reducible refine (HLO.out _ HB.out).mono ?_; rintro e wn ⟨rfl, hb⟩; replace BKgb := qab.mk (qae BKgb.out hb); replace HB := qab.mk (qad HB.out hb); clear hb; obtain ⟨hfgb, hcgb_0, hcgb_1, hcgb_2⟩ := qz3 BKgb.out) | (go_at_call 17; with_reducible refine (HKNOWN.out _ HB.out).mono ?_; rintro e wn ⟨rfl, hb⟩; replace BKgb := qab.mk (qae BKgb.out hb); replace HB := qab.mk (qad HB.out hb); clear hb; obtain ⟨hfgb, hcgb_0, hcgb_1, hcgb_2⟩ := qz3 BKgb.out))
         go_ret
         exact ⟨rfl, HB.out⟩
        ·
         have d3 : decide ((72 : Int) < a4) = false := decide_eq_false c2
         cases hfs : inFault l0_0 a5 with
         | false =>
          rw [hfs] at HFS
          clear hv hN h4 hp hf hi c1 c2 hfs
          go_enter Try.func10, Try.ntmps10
          go_wp2_with (first | (with_reducible refine qam (N := 6) rfl ?_); refine qal ?hg (N := 6) ?hd (cs := #[.slice A0_0 l0_0.length c0_0, .slice A0_1 l0_1.length c0_1, .slice A0_2 l0_2.length c0_2]) (t := 26) ?hr ?_; (case hd => rfl); (case hg => rfl); (case hr => first | (go_simp; done) | (go_simp; rfl)); intro gb hg_gb w2 hbox hb; have BKgb := qab.mk hbox; have n_HB := qab.mk (qad HB.out hb); have GEgb : w.heap.size ≤ gb := (by rw [hg_gb]; exact HB.out.size); clear HB; have HB := n_HB; clear n_HB; obtain ⟨hfgb, hcgb_0, hcgb_1, hcgb_2⟩ := qz3 BKgb.out; clear hbox hb hg_gb | (go_at_call 16; with_reducible refine (HSHORT.out _ HB.out).mono ?_; rintro e wn ⟨rfl, hb⟩; replace BKgb := qab.mk (qae BKgb.out hb); replace HB := qab.mk (qad HB.out hb); clear hb; obtain ⟨hfgb, hcgb_0, hcgb_1, hcgb_2⟩ := qz3 BKgb.out) | (go_at_call 19; with_reducible refine (HNET.out _ HB.out).mono ?_; rintro e wn ⟨rfl, hb⟩; replace BKgb := qab.mk (qae BKgb.out hb); replace HB := qab.mk (qad HB.out hb); clear hb; obtain ⟨hfgb, hcgb_0, hcgb_1, hcgb_2⟩ := qz3 BKgb.out) | (go_at_call 25; with_reducible refine (HPLA.out _ HB.out).mono ?_; rintro e wn ⟨rfl, hb⟩; replace BKgb := qab.mk (qae BKgb.out hb); replace HB := qab.mk (qad HB.out hb); clear hb; obtain ⟨hfgb, hcgb_0, hcgb_1, hcgb_2⟩ := qz3 BKgb.out) | (go_at_call 26; with_reducible refine (HFA.out _ HB.out).mono ?_; rintro e wn ⟨rfl, hb⟩; replace BKgb := qab.mk (qae BKgb.out hb); replace HB := qab.mk (qad HB.out hb); clear hb; obtain ⟨hfgb, hcgb_0, hcgb_1, hcgb_2⟩ := qz3 BKgb.out) | (go_at_call 20; with_reducible refine (HLO.out _ HB.out).mono ?_; rintro e wn ⟨rfl, hb⟩; replace BKgb := qab.mk (qae BKgb.out hb); replace HB := qab.mk (qad HB.out hb); clear hb; obtain ⟨hfgb, hcgb_0, hcgb_1, hcgb_2⟩ := qz3 BKgb.out) | (go_at_call 26; with_reducible refine (HFS.out _ HB.out).mono ?_; rintro e wn ⟨rfl, hb⟩; replace BKgb := qab.mk (qae BKgb.out hb); replace HB := qab.mk (qad HB.out hb); clear hb; obtain ⟨hfgb, hcgb_0, hcgb_1, hcgb_2⟩ := qz3 BKgb.out) | (go_at_call 17; with_reducible refine (HKNOWN.out _ HB.out).mono ?_; rintro e wn ⟨rfl, hb⟩; replace BKgb := qab.mk (qae BKgb.out hb); replace HB := qab.mk (qad HB.out hb); clear hb; obtain ⟨hfgb, hcgb_0, hcgb_1, hcgb_2⟩ := qz3 BKgb.out))
          go_ret
          exact ⟨rfl, HB.out⟩
         | true =>
          unfold inB at hp
          simp only [Bool.and_eq_true, decide_eq_true_eq] at hp
          have hi' := (isloop_iff hN a3).1 hi
          exact more_go _ _ l0_0 _ _ l0_1 _ _ l0_2 a1 a2 a3 a4 a5 w HR0.out hc0_0 HR1.out hc0_1 HR2.out hc0_2 hsh hv (by omega) hp hf hi' (by omega) (by omega) hfs
def Opens {α : Type} (d : Kd α) (t : TypeId) : Prop := ∀ (H : Type) (enc : TypeId × Value → H) (w : World) (base fuel : Nat) (cs : List Value) (x : DataW H × List MemPlace), DataW.trod enc Try.prog w base (fun _ => true) true fuel t cs = some x → ∃ v, d.K w v cs
theorem opens_int : Opens (Kd.int .i64) 3 := by
 intro H enc w base fuel cs x h
 obtain ⟨n, rfl, _, _⟩ := DataW.trod_int Try.underlying3 h
 exact ⟨n, rfl⟩
theorem cell_of_cells {w : World} {base n : Nat} {a : Addr} {cs : List Value} (h : w.cells? base a n = some cs) : cs.length = n ∧ ∀ i u, cs[i]? = some u → w.cell? (a.add i) = some u := by
 unfold World.cells? at h
 split at h
 ·
  refine ⟨by simpa using mapM_some_length h, fun i u hu => ?_⟩
  have hi : i < n := by
   have h1 := mapM_some_length h
   have h2 := (List.getElem?_eq_some_iff.1 hu).1
   simp at h1
   omega
  have h3 := mapM_some_get h i i (by simp [hi])
  rw [h3]
  exact hu
 ·
  cases h
theorem opens_slice {α : Type} {d : Kd α} {t e : TypeId} (z : α) (ht : Try.prog.underlying t = some (.slice e)) (hz : Try.prog.cellsOf e = d.sz) (hd : Opens d e) : Opens (Kd.slice e d) t := by
 intro H enc w base fuel cs x h
 rcases Deep.open_slice ht h with ⟨rfl, _⟩ | ⟨a, len, cap, m, n, D, Pl, rfl, hb, hl, hm, hmm, _, hel⟩
 ·
  exact ⟨[], none, 0, rfl, Nat.le_refl _, rfl, by simp, fun h => absurd h (by simp)⟩
 ·
  simp only [if_true] at hmm
  subst hmm
  haveI : Inhabited (α × List Value) := ⟨(z, [])⟩
  obtain ⟨F, hF⟩ : ∃ F : Nat → α × List Value, ∀ i, i < len → w.cells? base (a.add (i * Try.prog.cellsOf e)) (Try.prog.cellsOf e) = some (F i).2 ∧ d.K w (F i).1 (F i).2 := by
   have hx : ∀ i, i < len → ∃ q : α × List Value, w.cells? base (a.add (i * Try.prog.cellsOf e)) (Try.prog.cellsOf e) = some q.2 ∧ d.K w q.1 q.2 := fun i hi => by
    obtain ⟨cs', h1, h2⟩ := hel i (by omega)
    obtain ⟨v, hv⟩ := hd H enc w base n cs' _ h2
    exact ⟨(v, cs'), h1, hv⟩
   exact Deep.choose_lt hx
  have hlen : ((List.range len).map fun i => (F i).1).length = len := by simp
  refine ⟨(List.range len).map fun i => (F i).1, some a, m, by rw [hlen], by rw [hlen]; exact hl, rfl, ?_, fun _ => ⟨a, rfl, fun j p hj => ?_⟩⟩
  ·
   rw [hlen]
   have : maxLen ≤ 9223372036854775807 := by decide
   omega
  ·
   obtain ⟨hj1, hj2⟩ := List.getElem?_eq_some_iff.1 hj
   have hjl : j < len := by simpa using hj1
   have hp : p = (F j).1 := by simpa using hj2.symm
   subst hp
   obtain ⟨h1, h2⟩ := hF j hjl
   refine ⟨(F j).2, d.K_len h2, h2, fun i u hu => ?_⟩
   have h3 := (cell_of_cells h1).2 i u hu
   rw [Deep.add_add, hz] at h3
   exact h3
theorem K_pair {α β : Type} {a : Kd α} {b : Kd β} {w : World} {cs : List Value} {o : Nat} {x : α} {y : β} (h1 : a.K w x ((cs.drop o).take a.sz)) (h2 : b.K w y (cs.drop (o + a.sz))) : (Kd.pair a b).K w (x, y) (cs.drop o) :=
 ⟨_, _, by have h := (List.take_append_drop a.sz (cs.drop o)).symm; rwa [List.drop_drop] at h, h1, h2⟩
theorem K_last {α : Type} {a : Kd α} {w : World} {cs : List Value} {o : Nat} {x : α} (h1 : a.K w x ((cs.drop o).take a.sz)) (hl : cs.length = o + a.sz) : a.K w x (cs.drop o) := by
 rwa [List.take_of_length_le (by simp; omega)] at h1
theorem field_of {α : Type} {d : Kd α} {t : TypeId} (hd : Opens d t) (hz : Try.prog.cellsOf t = d.sz) {H : Type} {enc : TypeId × Value → H} {w : World} {base n o : Nat} {cs : List Value} {xs : List (DataW H × List MemPlace)} {i : Nat} (hi : i < xs.length)
  (h : DataW.trod enc Try.prog w base (fun _ => true) true n t ((cs.drop o).take (Try.prog.cellsOf t)) = xs[i]?) : ∃ v, d.K w v ((cs.drop o).take d.sz) := by
 rw [hz, List.getElem?_eq_getElem hi] at h
 exact hd H enc w base n _ _ h
theorem opens_37 : Opens k37 37 := by
 intro H enc w base fuel cs x h
 obtain ⟨xs, n, rfl, rfl, hl, hxl, hf⟩ := DataW.trod_struct Try.underlying37 h
 have hl' : cs.length = 2 := hl.trans (by kernel_rfl)
 have hx : xs.length = 2 := hxl
 obtain ⟨v0, e0⟩ := field_of opens_int (by kernel_rfl) (i := 0) (by omega) (hf 0 _ rfl)
 obtain ⟨v1, e1⟩ := field_of opens_int (by kernel_rfl) (i := 1) (by omega) (hf 1 _ rfl)
 exact ⟨⟨v0, v1⟩, K_pair (o := 0) e0 (K_last (o := 0 + 1) e1 hl')⟩
theorem opens_39 : Opens k39 39 := by
 intro H enc w base fuel cs x h
 obtain ⟨xs, n, rfl, rfl, hl, hxl, hf⟩ := DataW.trod_struct Try.underlying39 h
 have hl' : cs.length = 12 := hl.trans (by kernel_rfl)
 have hx : xs.length = 8 := hxl
 obtain ⟨v0, e0⟩ := field_of opens_37 (by kernel_rfl) (i := 0) (by omega) (hf 0 _ rfl)
 obtain ⟨v1, e1⟩ := field_of opens_37 (by kernel_rfl) (i := 1) (by omega) (hf 1 _ rfl)
 obtain ⟨v2, e2⟩ := field_of opens_37 (by kernel_rfl) (i := 2) (by omega) (hf 2 _ rfl)
 obtain ⟨v3, e3⟩ := field_of opens_int (by kernel_rfl) (i := 3) (by omega) (hf 3 _ rfl)
 obtain ⟨v4, e4⟩ := field_of opens_int (by kernel_rfl) (i := 4) (by omega) (hf 4 _ rfl)
 obtain ⟨v5, e5⟩ := field_of opens_int (by kernel_rfl) (i := 5) (by omega) (hf 5 _ rfl)
 obtain ⟨v6, e6⟩ := field_of opens_int (by kernel_rfl) (i := 6) (by omega) (hf 6 _ rfl)
 obtain ⟨v7, e7⟩ := field_of opens_37 (by kernel_rfl) (i := 7) (by omega) (hf 7 _ rfl)
 exact ⟨⟨v0, v1, v2, v3, v4, v5, v6, v7⟩, K_pair (o := 0) e0 (K_pair (o := 0 + 2) e1 (K_pair (o := 0 + 2 + 2) e2 (K_pair (o := 0 + 2 + 2 + 2) e3 (K_pair (o := 0 + 2 + 2 + 2 + 1) e4 (K_pair (o := 0 + 2 + 2 + 2 + 1 + 1) e5 (K_pair (o := 0 + 2 + 2 + 2 + 1 + 1 + 1) e6 (K_last (o := 0 + 2 + 2 + 2 + 1 + 1 + 1 + 1) e7 hl')))))))⟩
theorem opens_22 : Opens (Kd.slice 39 k39) 22 := opens_slice z39 Try.underlying22 (by kernel_rfl) opens_39
theorem opens_23 : Opens (Kd.slice 37 k37) 23 := opens_slice z37 Try.underlying23 (by kernel_rfl) opens_37
theorem opens_47 : Opens (Kd.slice 3 (Kd.int .i64)) 47 := opens_slice 0 Try.underlying47 (by kernel_rfl) opens_int
theorem opens_24 : Opens (Kd.slice 47 (Kd.slice 3 (Kd.int .i64))) 24 := opens_slice [] Try.underlying24 (by kernel_rfl) opens_47
theorem open_net {H : Type} {enc : TypeId × Value → H} {w : World} {b0 : Nat} {v : Value} {d : DataW H} {p : List MemPlace} (hv : Value.okWide Try.prog w .any b0 26 v) (h : DataW.Trod enc Try.prog w 0 (fun _ => true) true 26 v d p) :
  ∃ (A0 : Option Addr) (c0 : Nat) (l0 : List S39) (A1 : Option Addr) (c1 : Nat) (l1 : List S37) (A2 : Option Addr) (c2 : Nat) (l2 : List (List Int)), v = .agg #[.slice A0 l0.length c0, .slice A1 l1.length c1, .slice A2 l2.length c2] ∧
   Kd.C k39 w A0 l0.length l0 ∧ l0.length ≤ c0 ∧ Kd.C k37 w A1 l1.length l1 ∧ l1.length ≤ c1 ∧ Kd.C (Kd.slice 3 (Kd.int .i64)) w A2 l2.length l2 ∧ l2.length ≤ c2 := by
 obtain ⟨v0, v1, v2, y0, y1, y2, n, rfl, _, _, h0, h1, h2⟩ := Joins.open_agg3 Try.underlying26 (by kernel_rfl) (by kernel_rfl) hv h
 obtain ⟨l0, A0, c0, e0, f0, g0⟩ := opens_22 H enc w 0 n _ _ h0
 obtain ⟨l1, A1, c1, e1, f1, g1⟩ := opens_23 H enc w 0 n _ _ h1
 obtain ⟨l2, A2, c2, e2, f2, g2⟩ := opens_24 H enc w 0 n _ _ h2
 injection e0 with e0 _
 injection e1 with e1 _
 injection e2 with e2 _
 subst e0 e1 e2
 exact ⟨A0, c0, l0, A1, c1, l1, A2, c2, l2, rfl, g0, f0, g1, f1, g2, f2⟩
end Go.Proofs.Ytipphcjgdebecaa.PA
