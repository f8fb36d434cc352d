/- What functions of the program answer. No condition. -/
import Derived.RangeFuncNested
import Derived.RangeFuncBound
import Derived.RangeFuncCalls
import Derived.RangeFuncLeaves
import Derived.RangeFuncBox
import Derived.Shelf.Abstract
import Derived.Shelf.RegionOpen
import Derived.OwnWalkIn
import Derived.TacticsInMore
import Derived.LoopNIn
import Derived.LoopIn
import Derived.Recover
import Derived.Defers
import Derived.WalkLawsBesides
import Derived.WalkSmall
import Derived.Test.YtipphcjgdebecaaPlI
import Derived.Test.YtipphcjgdebecaaSC
import Derived.Test.YtipphcjgdebecaaSL
import Derived.Test.YtipphcjgdebecaaSM
import Derived.Test.YtipphcjgdebecaaPlA
import Derived.Test.YtipphcjgdebecaaPlC
import Derived.Test.YtipphcjgdebecaaSD
import Derived.Test.YtipphcjgdebecaaSF
set_option linter.all false
set_option maxRecDepth 100000
set_option maxHeartbeats 8000000
namespace Go.Proofs.Ytipphcjgdebecaa.PA
open Go.RowKit Go.Shelf Go.Proofs.YtipphcjgdebecaaW.PrintWords Go.Proofs.YtipphcjgdebecaaW.PrintLast Go.Proofs.YtipphcjgdebecaaW.PrintMore
attribute [local go_sem] qaw qay max_two min_two qas qat qax qaz
theorem taliklaw04_PipeWraps.calls (A0_0 : Option Addr) (c0_0 : Nat) (l0_0 : List S39) (A0_1 : Option Addr) (c0_1 : Nat) (l0_1 : List S37) (A0_2 : Option Addr) (c0_2 : Nat) (l0_2 : List (List Int)) (a1 : Int) (A2 : Option Addr) (c2 : Nat) (l2 : List Int) (r : Bool) (w : World) (hr0_0 : Kd.C k39 w A0_0 l0_0.length l0_0) (hc0_0 : l0_0.length ≤ c0_0) (hr0_1 : Kd.C k37 w A0_1 l0_1.length l0_1) (hc0_1 : l0_1.length ≤ c0_1) (hr0_2 : Kd.C (Kd.slice 3 (Kd.int .i64)) w A0_2 l0_2.length l0_2) (hc0_2 : l0_2.length ≤ c0_2) (hr2 : Kd.C (Kd.int .i64) w A2 l2.length l2) (hc2 : l2.length ≤ c2) (h : (some true : Option Bool) = some r) : Calls Try.prog 9 #[.agg #[.slice A0_0 l0_0.length c0_0, .slice A0_1 l0_1.length c0_1, .slice A0_2 l0_2.length c0_2], .int .i64 a1, .slice A2 l2.length c2] w fun e w' => e = .returned (.bool r) ∧ Below w.heap.size w w' := by
 obtain rfl := Option.some.inj h; clear h; have hu26 := Try.underlying26; have HB := qab.mk (Below.refl w.heap.size w); have HR0 := qab.mk hr0_0; have HR1 := qab.mk hr0_1; have HR2 := qab.mk hr0_2; clear hr0_0 hr0_1 hr0_2
 have HRL := qab.mk hr2
 clear hr2
 have HSHORT : qab (∀ W, Below w.heap.size w W → Calls Try.prog 16 #[.agg #[.slice A0_0 l0_0.length c0_0, .slice A0_1 l0_1.length c0_1, .slice A0_2 l0_2.length c0_2]] W fun e w' => e = .returned (.bool (shortB l0_0 l0_1 l0_2)) ∧ Below W.heap.size W w') := ⟨fun W hW => (taliklaw04_short.calls 30 _ _ l0_0 _ _ l0_1 _ _ l0_2 _ W (Kd.qaj HR0.out hW) hc0_0 (Kd.qaj HR1.out hW) hc0_1 (Kd.qaj HR2.out hW) hc0_2 (short_eq l0_0 l0_1 l0_2 30 (by omega))).mono fun e w' ⟨h1, h2⟩ => ⟨h1, h2⟩⟩
 have HKNOWN : qab (∀ W, Below w.heap.size w W → Calls Try.prog 17 #[] W fun e w' => e = .returned (.bool true) ∧ Below W.heap.size W w') := ⟨fun W hW => taliklaw04_known.calls true W rfl⟩
 cases hs : shortB l0_0 l0_1 l0_2 with
 | false =>
  rw [hs] at HSHORT
  go_enter Try.func9, Try.ntmps9
  go_wp2_with (first | (with_reducible refine qan (N := 3) rfl ?_); refine qam ?hg (N := 3) ?hd (cs := #[.slice A0_0 l0_0.length c0_0, .slice A0_1 l0_1.length c0_1, .slice A0_2 l0_2.length c0_2]) (t := 26) ?hr ?_; (case hd => rfl); (case hg => rfl); (case hr => first | (go_simp; done) | (go_simp; rfl)); intro gb hg_gb w2 hbox hb; have BKgb := qab.mk hbox; have n_HB := qab.mk (qad HB.out hb); have GEgb : w.heap.size ≤ gb := (by rw [hg_gb]; exact HB.out.size); clear HB; have HB := n_HB; clear n_HB; obtain ⟨hfgb, hcgb_0, hcgb_1, hcgb_2⟩ := qz3 BKgb.out; clear hbox hb hg_gb | (go_at_call 16; with_reducible refine (HSHORT.out _ HB.out).mono ?_; rintro e wn ⟨rfl, hb⟩; replace BKgb := qab.mk (qag BKgb.out hb); replace HB := qab.mk (qad HB.out hb); clear hb; obtain ⟨hfgb, hcgb_0, hcgb_1, hcgb_2⟩ := qz3 BKgb.out) | (go_at_call 17; with_reducible refine (HKNOWN.out _ HB.out).mono ?_; rintro e wn ⟨rfl, hb⟩; replace BKgb := qab.mk (qag BKgb.out hb); replace HB := qab.mk (qad HB.out hb); clear hb; obtain ⟨hfgb, hcgb_0, hcgb_1, hcgb_2⟩ := qz3 BKgb.out))
  go_ret
  exact ⟨rfl, HB.out⟩
 | true =>
  have hsh := short_of hs
  rw [hs] at HSHORT
  clear hs
  have HNET : qab (∀ W, Below w.heap.size w W → Calls Try.prog 19 #[.agg #[.slice A0_0 l0_0.length c0_0, .slice A0_1 l0_1.length c0_1, .slice A0_2 l0_2.length c0_2]] W fun e w' => e = .returned (.bool (validB l0_0 l0_1 l0_2)) ∧ Below W.heap.size W w') := ⟨fun W hW => (talikref04_Net.calls _ _ l0_0 _ _ l0_1 _ _ l0_2 _ W (Kd.qaj HR0.out hW) hc0_0 (Kd.qaj HR1.out hW) hc0_1 (Kd.qaj HR2.out hW) hc0_2 (net_eq l0_0 l0_1 l0_2 hsh 300 (by omega))).mono fun e w' ⟨h1, h2⟩ => ⟨h1, h2⟩⟩
  have hbad : ∀ b, b = validB l0_0 l0_1 l0_2 → b = true → (3 : Int) < l0_0.length → Calls Try.prog 9 #[.agg #[.slice A0_0 l0_0.length c0_0, .slice A0_1 l0_1.length c0_1, .slice A0_2 l0_2.length c0_2], .int .i64 a1, .slice A2 l2.length c2] w fun e w' => e = .returned (.bool true) ∧ Below w.heap.size w w' := by
   intro b hb ht h3
   rw [← hb, ht] at HNET
   have d1 : decide ((3 : Int) < l0_0.length) = true := decide_eq_true h3
   clear hb ht h3
   go_enter Try.func9, Try.ntmps9
   go_wp2_with (first | (with_reducible refine qan (N := 3) rfl ?_); refine qam ?hg (N := 3) ?hd (cs := #[.slice A0_0 l0_0.length c0_0, .slice A0_1 l0_1.length c0_1, .slice A0_2 l0_2.length c0_2]) (t := 26) ?hr ?_; (case hd => rfl); (case hg => rfl); (case hr => first | (go_simp; done) | (go_simp; rfl)); intro gb hg_gb w2 hbox hb; have BKgb := qab.mk hbox; have n_HB := qab.mk (qad HB.out hb); have GEgb : w.heap.size ≤ gb := (by rw [hg_gb]; exact HB.out.size); clear HB; have HB := n_HB; clear n_HB; obtain ⟨hfgb, hcgb_0, hcgb_1, hcgb_2⟩ := qz3 BKgb.out; clear hbox hb hg_gb | (go_at_call 16; with_reducible refine (HSHORT.out _ HB.out).mono ?_; rintro e wn ⟨rfl, hb⟩; replace BKgb := qab.mk (qag BKgb.out hb); replace HB := qab.mk (qad HB.out hb); clear hb; obtain ⟨hfgb, hcgb_0, hcgb_1, hcgb_2⟩ := qz3 BKgb.out) | (go_at_call 19; with_reducible refine (HNET.out _ HB.out).mono ?_; rintro e wn ⟨rfl, hb⟩; replace BKgb := qab.mk (qag BKgb.out hb); replace HB := qab.mk (qad HB.out hb); clear hb; obtain ⟨hfgb, hcgb_0, hcgb_1, hcgb_2⟩ := qz3 BKgb.out) | (go_at_call 17; with_reducible refine (HKNOWN.out _ HB.out).mono ?_; rintro e wn ⟨rfl, hb⟩; replace BKgb := qab.mk (qag BKgb.out hb); replace HB := qab.mk (qad HB.out hb); clear hb; obtain ⟨hfgb, hcgb_0, hcgb_1, hcgb_2⟩ := qz3 BKgb.out))
   go_ret
   exact ⟨rfl, HB.out⟩
  by_cases h3 : validB l0_0 l0_1 l0_2 = true → l0_0.length ≤ 3
  case neg =>
   have h4 : validB l0_0 l0_1 l0_2 = true ∧ ¬ l0_0.length ≤ 3 := Classical.not_imp.1 h3
   exact hbad _ rfl h4.1 (by omega)
  case pos =>
   clear hbad
   obtain ⟨bv, hbv⟩ : ∃ b, b = validB l0_0 l0_1 l0_2 := ⟨_, rfl⟩
   rw [← hbv] at HNET h3
   have d3 : bv = true → decide ((3 : Int) < l0_0.length) = false := fun h => decide_eq_false (by have := h3 h; omega)
   by_cases hl : (17 : Int) < l2.length
   ·
    have d1 : decide ((17 : Int) < l2.length) = true := decide_eq_true hl
    clear hbv h3 hl
    cases bv with
    | false =>
     clear d3
     go_enter Try.func9, Try.ntmps9
     go_wp2_with (first | (with_reducible refine qan (N := 3) rfl ?_); refine qam ?hg (N := 3) ?hd (cs := #[.slice A0_0 l0_0.length c0_0, .slice A0_1 l0_1.length c0_1, .slice A0_2 l0_2.length c0_2]) (t := 26) ?hr ?_; (case hd => rfl); (case hg => rfl); (case hr => first | (go_simp; done) | (go_simp; rfl)); intro gb hg_gb w2 hbox hb; have BKgb := qab.mk hbox; have n_HB := qab.mk (qad HB.out hb); have GEgb : w.heap.size ≤ gb := (by rw [hg_gb]; exact HB.out.size); clear HB; have HB := n_HB; clear n_HB; obtain ⟨hfgb, hcgb_0, hcgb_1, hcgb_2⟩ := qz3 BKgb.out; clear hbox hb hg_gb | (go_at_call 16; with_reducible refine (HSHORT.out _ HB.out).mono ?_; rintro e wn ⟨rfl, hb⟩; replace BKgb := qab.mk (qag BKgb.out hb); replace HB := qab.mk (qad HB.out hb); clear hb; obtain ⟨hfgb, hcgb_0, hcgb_1, hcgb_2⟩ := qz3 BKgb.out) | (go_at_call 19; with_reducible refine (HNET.out _ HB.out).mono ?_; rintro e wn ⟨rfl, hb⟩; replace BKgb := qab.mk (qag BKgb.out hb); replace HB := qab.mk (qad HB.out hb); clear hb; obtain ⟨hfgb, hcgb_0, hcgb_1, hcgb_2⟩ := qz3 BKgb.out) | (go_at_call 17; with_reducible refine (HKNOWN.out _ HB.out).mono ?_; rintro e wn ⟨rfl, hb⟩; replace BKgb := qab.mk (qag BKgb.out hb); replace HB := qab.mk (qad HB.out hb); clear hb; obtain ⟨hfgb, hcgb_0, hcgb_1, hcgb_2⟩ := qz3 BKgb.out))
     go_ret
     exact ⟨rfl, HB.out⟩
    | true =>
     have d3 := d3 rfl
     go_enter Try.func9, Try.ntmps9
     go_wp2_with (first | (with_reducible refine qan (N := 3) rfl ?_); refine qam ?hg (N := 3) ?hd (cs := #[.slice A0_0 l0_0.length c0_0, .slice A0_1 l0_1.length c0_1, .slice A0_2 l0_2.length c0_2]) (t := 26) ?hr ?_; (case hd => rfl); (case hg => rfl); (case hr => first | (go_simp; done) | (go_simp; rfl)); intro gb hg_gb w2 hbox hb; have BKgb := qab.mk hbox; have n_HB := qab.mk (qad HB.out hb); have GEgb : w.heap.size ≤ gb := (by rw [hg_gb]; exact HB.out.size); clear HB; have HB := n_HB; clear n_HB; obtain ⟨hfgb, hcgb_0, hcgb_1, hcgb_2⟩ := qz3 BKgb.out; clear hbox hb hg_gb | (go_at_call 16; with_reducible refine (HSHORT.out _ HB.out).mono ?_; rintro e wn ⟨rfl, hb⟩; replace BKgb := qab.mk (qag BKgb.out hb); replace HB := qab.mk (qad HB.out hb); clear hb; obtain ⟨hfgb, hcgb_0, hcgb_1, hcgb_2⟩ := qz3 BKgb.out) | (go_at_call 19; with_reducible refine (HNET.out _ HB.out).mono ?_; rintro e wn ⟨rfl, hb⟩; replace BKgb := qab.mk (qag BKgb.out hb); replace HB := qab.mk (qad HB.out hb); clear hb; obtain ⟨hfgb, hcgb_0, hcgb_1, hcgb_2⟩ := qz3 BKgb.out) | (go_at_call 17; with_reducible refine (HKNOWN.out _ HB.out).mono ?_; rintro e wn ⟨rfl, hb⟩; replace BKgb := qab.mk (qag BKgb.out hb); replace HB := qab.mk (qad HB.out hb); clear hb; obtain ⟨hfgb, hcgb_0, hcgb_1, hcgb_2⟩ := qz3 BKgb.out))
     go_ret
     exact ⟨rfl, HB.out⟩
   ·
    have d1 : decide ((17 : Int) < l2.length) = false := decide_eq_false hl
    obtain ⟨z, hz⟩ : ∃ z, z = faultedV l0_0 l0_1 l0_2 a1 l2 := ⟨_, rfl⟩
    have HP : qab (∀ W, Below w.heap.size w W → Calls Try.prog 39 #[.agg #[.slice A0_0 l0_0.length c0_0, .slice A0_1 l0_1.length c0_1, .slice A0_2 l0_2.length c0_2], .int .i64 a1, .slice A2 l2.length c2] W fun e w' => e = .returned (.tuple #[.int .i64 (wrapV l0_0 l0_1 l0_2 a1 l2).1, .int .i64 (wrapV l0_0 l0_1 l0_2 a1 l2).2.1, .int .i64 (wrapV l0_0 l0_1 l0_2 a1 l2).2.2]) ∧ Below W.heap.size W w') := ⟨fun W hW => pipe_Wrap.calls _ _ l0_0 _ _ l0_1 _ _ l0_2 a1 _ _ l2 _ _ _ W (Kd.qaj HR0.out hW) hc0_0 (Kd.qaj HR1.out hW) hc0_1 (Kd.qaj HR2.out hW) hc0_2 (Kd.qaj HRL.out hW) hc2 rfl⟩
    have HF : qab (∀ W, Below w.heap.size w W → Calls Try.prog 36 #[.agg #[.slice A0_0 l0_0.length c0_0, .slice A0_1 l0_1.length c0_1, .slice A0_2 l0_2.length c0_2], .int .i64 a1, .slice A2 l2.length c2] W fun e w' => e = .returned (.int .i64 z) ∧ Below W.heap.size W w') := ⟨fun W hW => taliklaw04_faulted.calls 300 _ _ l0_0 _ _ l0_1 _ _ l0_2 a1 _ _ l2 _ W (Kd.qaj HR0.out hW) hc0_0 (Kd.qaj HR1.out hW) hc0_1 (Kd.qaj HR2.out hW) hc0_2 (Kd.qaj HRL.out hW) hc2 (by rw [hz]; exact faulted_eq l0_0 l0_1 l0_2 hsh a1 l2 300 (by omega))⟩
    have HRP : (z ≠ 0 ∧ wrapV l0_0 l0_1 l0_2 a1 l2 = (0, 0, z)) ∨ (z = 0 ∧ ∃ x : Int, x < 0 ∧ qab (∀ W, Below w.heap.size w W → Calls Try.prog 40 #[.agg #[.slice A0_0 l0_0.length c0_0, .slice A0_1 l0_1.length c0_1, .slice A0_2 l0_2.length c0_2], .int .i64 a1, .slice A2 l2.length c2] W fun e w' => e = .returned (.int .i64 x) ∧ Below W.heap.size W w') ∧ wrapV l0_0 l0_1 l0_2 a1 l2 = (0, 0, 5)) ∨
      (z = 0 ∧ ∃ x c : Int, 0 ≤ x ∧ qab (∀ W, Below w.heap.size w W → Calls Try.prog 40 #[.agg #[.slice A0_0 l0_0.length c0_0, .slice A0_1 l0_1.length c0_1, .slice A0_2 l0_2.length c0_2], .int .i64 a1, .slice A2 l2.length c2] W fun e w' => e = .returned (.int .i64 x) ∧ Below W.heap.size W w') ∧ qab (∀ W, Below w.heap.size w W → Calls Try.prog 41 #[.agg #[.slice A0_0 l0_0.length c0_0, .slice A0_1 l0_1.length c0_1, .slice A0_2 l0_2.length c0_2], .int .i64 x] W fun e w' => e = .returned (.int .i64 c) ∧ Below W.heap.size W w') ∧ wrapV l0_0 l0_1 l0_2 a1 l2 = (x, c, 0)) := by
     by_cases hz0 : z = 0
     ·
      right
      have hok := faults_ok (hz.symm.trans hz0)
      have hn3 := h3 (hbv.trans hok.v)
      have H40 : qab (∀ W, Below w.heap.size w W → Calls Try.prog 40 #[.agg #[.slice A0_0 l0_0.length c0_0, .slice A0_1 l0_1.length c0_1, .slice A0_2 l0_2.length c0_2], .int .i64 a1, .slice A2 l2.length c2] W fun e w' => e = .returned (.int .i64 (wtoR l0_0 l0_1 l0_2 a1 l2 (2 ^ l0_0.length))) ∧ Below W.heap.size W w') := ⟨fun W hW => rwrap_calls _ _ l0_0 _ _ l0_1 _ _ l0_2 a1 _ _ l2 W (Kd.qaj HR0.out hW) hc0_0 (Kd.qaj HR1.out hW) hc0_1 (Kd.qaj HR2.out hW) hc0_2 (Kd.qaj HRL.out hW) hc2 hok (by omega)⟩
      rcases wraps_eq hok with ⟨h1, h2⟩ | ⟨h1, h2, h3⟩
      ·
       exact .inl ⟨hz0, _, h1, H40, h2⟩
      ·
       exact .inr ⟨hz0, _, _, h1, H40, ⟨fun W hW => rcost_calls _ _ l0_0 _ _ l0_1 _ _ l0_2 _ W (Kd.qaj HR0.out hW) hc0_0 (Kd.qaj HR1.out hW) hc0_1 (Kd.qaj HR2.out hW) hc0_2 (by omega) h1 h2⟩, h3⟩
     ·
      left
      refine ⟨hz0, ?_⟩
      unfold wrapV
      rw [given_same, ← hz, if_pos hz0]
    generalize wrapV l0_0 l0_1 l0_2 a1 l2 = pv at HP HRP
    have HD3 := qab.mk d3
    clear hbv hz h3 HRL hsh hl d3
    rcases HRP with ⟨hz, rfl⟩ | ⟨rfl, x, hx, HRW, rfl⟩ | ⟨rfl, x, c, hx, HRW, HCO, rfl⟩
    ·
     have e1 : (z != 0) = true := by simp [hz]
     have e2 : (z == 0) = false := by simp [hz]
     clear hz
     cases bv
     all_goals
      have d3 := HD3.out
      first
      | (have d3 := d3 rfl)
      | skip
      go_enter Try.func9, Try.ntmps9
      go_wp2_with (first | (with_reducible refine qan (N := 3) rfl ?_); refine qam ?hg (N := 3) ?hd (cs := #[.slice A0_0 l0_0.length c0_0, .slice A0_1 l0_1.length c0_1, .slice A0_2 l0_2.length c0_2]) (t := 26) ?hr ?_; (case hd => rfl); (case hg => rfl); (case hr => first | (go_simp; done) | (go_simp; rfl)); intro gb hg_gb w2 hbox hb; have BKgb := qab.mk hbox; have n_HB := qab.mk (qad HB.out hb); have GEgb : w.heap.size ≤ gb := (by rw [hg_gb]; exact HB.out.size); clear HB; have HB := n_HB; clear n_HB; obtain ⟨hfgb, hcgb_0, hcgb_1, hcgb_2⟩ := qz3 BKgb.out; clear hbox hb hg_gb | (go_at_call 16; with_reducible refine (HSHORT.out _ HB.out).mono ?_; rintro e wn ⟨rfl, hb⟩; replace BKgb := qab.mk (qag BKgb.out hb); replace HB := qab.mk (qad HB.out hb); clear hb; obtain ⟨hfgb, hcgb_0, hcgb_1, hcgb_2⟩ := qz3 BKgb.out) | (go_at_call 19; with_reducible refine (HNET.out _ HB.out).mono ?_; rintro e wn ⟨rfl, hb⟩; replace BKgb := qab.mk (qag BKgb.out hb); replace HB := qab.mk (qad HB.out hb); clear hb; obtain ⟨hfgb, hcgb_0, hcgb_1, hcgb_2⟩ := qz3 BKgb.out) | (go_at_call 39; with_reducible refine (HP.out _ HB.out).mono ?_; rintro e wn ⟨rfl, hb⟩; replace BKgb := qab.mk (qag BKgb.out hb); replace HB := qab.mk (qad HB.out hb); clear hb; obtain ⟨hfgb, hcgb_0, hcgb_1, hcgb_2⟩ := qz3 BKgb.out) | (go_at_call 36; with_reducible refine (HF.out _ HB.out).mono ?_; rintro e wn ⟨rfl, hb⟩; replace BKgb := qab.mk (qag BKgb.out hb); replace HB := qab.mk (qad HB.out hb); clear hb; obtain ⟨hfgb, hcgb_0, hcgb_1, hcgb_2⟩ := qz3 BKgb.out) | (go_at_call 17; with_reducible refine (HKNOWN.out _ HB.out).mono ?_; rintro e wn ⟨rfl, hb⟩; replace BKgb := qab.mk (qag BKgb.out hb); replace HB := qab.mk (qad HB.out hb); clear hb; obtain ⟨hfgb, hcgb_0, hcgb_1, hcgb_2⟩ := qz3 BKgb.out))
      go_ret
      exact ⟨rfl, HB.out⟩
    ·
     have e1 : decide (x < 0) = true := decide_eq_true hx
     clear hx
     cases bv
     all_goals
      have d3 := HD3.out
      first
      | (have d3 := d3 rfl)
      | skip
      go_enter Try.func9, Try.ntmps9
      go_wp2_with (first | (with_reducible refine qan (N := 3) rfl ?_); refine qam ?hg (N := 3) ?hd (cs := #[.slice A0_0 l0_0.length c0_0, .slice A0_1 l0_1.length c0_1, .slice A0_2 l0_2.length c0_2]) (t := 26) ?hr ?_; (case hd => rfl); (case hg => rfl); (case hr => first | (go_simp; done) | (go_simp; rfl)); intro gb hg_gb w2 hbox hb; have BKgb := qab.mk hbox; have n_HB := qab.mk (qad HB.out hb); have GEgb : w.heap.size ≤ gb := (by rw [hg_gb]; exact HB.out.size); clear HB; have HB := n_HB; clear n_HB; obtain ⟨hfgb, hcgb_0, hcgb_1, hcgb_2⟩ := qz3 BKgb.out; clear hbox hb hg_gb | (go_at_call 16; with_reducible refine (HSHORT.out _ HB.out).mono ?_; rintro e wn ⟨rfl, hb⟩; replace BKgb := qab.mk (qag BKgb.out hb); replace HB := qab.mk (qad HB.out hb); clear hb; obtain ⟨hfgb, hcgb_0, hcgb_1, hcgb_2⟩ := qz3 BKgb.out) | (go_at_call 19; with_reducible refine (HNET.out _ HB.out).mono ?_; rintro e wn ⟨rfl, hb⟩; replace BKgb := qab.mk (qag BKgb.out hb); replace HB := qab.mk (qad HB.out hb); clear hb; obtain ⟨hfgb, hcgb_0, hcgb_1, hcgb_2⟩ := qz3 BKgb.out) | (go_at_call 39; with_reducible refine (HP.out _ HB.out).mono ?_; rintro e wn ⟨rfl, hb⟩; replace BKgb := qab.mk (qag BKgb.out hb); replace HB := qab.mk (qad HB.out hb); clear hb; obtain ⟨hfgb, hcgb_0, hcgb_1, hcgb_2⟩ := qz3 BKgb.out) | (go_at_call 36; with_reducible refine (HF.out _ HB.out).mono ?_; rintro e wn ⟨rfl, hb⟩; replace BKgb := qab.mk (qag BKgb.out hb); replace HB := qab.mk (qad HB.out hb); clear hb; obtain ⟨hfgb, hcgb_0, hcgb_1, hcgb_2⟩ := qz3 BKgb.out) | (go_at_call 40; with_reducible refine (HRW.out _ HB.out).mono ?_; rintro e wn ⟨rfl, hb⟩; replace BKgb := qab.mk (qag BKgb.out hb); replace HB := qab.mk (qad HB.out hb); clear hb; obtain ⟨hfgb, hcgb_0, hcgb_1, hcgb_2⟩ := qz3 BKgb.out) | (go_at_call 17; with_reducible refine (HKNOWN.out _ HB.out).mono ?_; rintro e wn ⟨rfl, hb⟩; replace BKgb := qab.mk (qag BKgb.out hb); replace HB := qab.mk (qad HB.out hb); clear hb; obtain ⟨hfgb, hcgb_0, hcgb_1, hcgb_2⟩ := qz3 BKgb.out))
      go_ret
      exact ⟨rfl, HB.out⟩
    ·
     have e1 : decide (x < 0) = false := decide_eq_false (by omega)
     clear hx
     cases bv
     all_goals
      have d3 := HD3.out
      first
      | (have d3 := d3 rfl)
      | skip
      go_enter Try.func9, Try.ntmps9
      go_wp2_with (first | (with_reducible refine qan (N := 3) rfl ?_); refine qam ?hg (N := 3) ?hd (cs := #[.slice A0_0 l0_0.length c0_0, .slice A0_1 l0_1.length c0_1, .slice A0_2 l0_2.length c0_2]) (t := 26) ?hr ?_; (case hd => rfl); (case hg => rfl); (case hr => first | (go_simp; done) | (go_simp; rfl)); intro gb hg_gb w2 hbox hb; have BKgb := qab.mk hbox; have n_HB := qab.mk (qad HB.out hb); have GEgb : w.heap.size ≤ gb := (by rw [hg_gb]; exact HB.out.size); clear HB; have HB := n_HB; clear n_HB; obtain ⟨hfgb, hcgb_0, hcgb_1, hcgb_2⟩ := qz3 BKgb.out; clear hbox hb hg_gb | (go_at_call 16; with_reducible refine (HSHORT.out _ HB.out).mono ?_; rintro e wn ⟨rfl, hb⟩; replace BKgb := qab.mk (qag BKgb.out hb); replace HB := qab.mk (qad HB.out hb); clear hb; obtain ⟨hfgb, hcgb_0, hcgb_1, hcgb_2⟩ := qz3 BKgb.out) | (go_at_call 19; with_reducible refine (HNET.out _ HB.out).mono ?_; rintro e wn ⟨rfl, hb⟩; replace BKgb := qab.mk (qag BKgb.out hb); replace HB := qab.mk (qad HB.out hb); clear hb; obtain ⟨hfgb, hcgb_0, hcgb_1, hcgb_2⟩ := qz3 BKgb.out) | (go_at_call 39; with_reducible refine (HP.out _ HB.out).mono ?_; rintro e wn ⟨rfl, hb⟩; replace BKgb := qab.mk (qag BKgb.out hb); replace HB := qab.mk (qad HB.out hb); clear hb; obtain ⟨hfgb, hcgb_0, hcgb_1, hcgb_2⟩ := qz3 BKgb.out) | (go_at_call 36; with_reducible refine (HF.out _ HB.out).mono ?_; rintro e wn ⟨rfl, hb⟩; replace BKgb := qab.mk (qag BKgb.out hb); replace HB := qab.mk (qad HB.out hb); clear hb; obtain ⟨hfgb, hcgb_0, hcgb_1, hcgb_2⟩ := qz3 BKgb.out) | (go_at_call 40; with_reducible refine (HRW.out _ HB.out).mono ?_; rintro e wn ⟨rfl, hb⟩; replace BKgb := qab.mk (qag BKgb.out hb); replace HB := qab.mk (qad HB.out hb); clear hb; obtain ⟨hfgb, hcgb_0, hcgb_1, hcgb_2⟩ := qz3 BKgb.out) | (go_at_call 41; with_reducible refine (HCO.out _ HB.out).mono ?_; rintro e wn ⟨rfl, hb⟩; replace BKgb := qab.mk (qag BKgb.out hb); replace HB := qab.mk (qad HB.out hb); clear hb; obtain ⟨hfgb, hcgb_0, hcgb_1, hcgb_2⟩ := qz3 BKgb.out) | (go_at_call 17; with_reducible refine (HKNOWN.out _ HB.out).mono ?_; rintro e wn ⟨rfl, hb⟩; replace BKgb := qab.mk (qag BKgb.out hb); replace HB := qab.mk (qad HB.out hb); clear hb; obtain ⟨hfgb, hcgb_0, hcgb_1, hcgb_2⟩ := qz3 BKgb.out))
      go_ret
      exact ⟨rfl, HB.out⟩
end Go.Proofs.Ytipphcjgdebecaa.PA
