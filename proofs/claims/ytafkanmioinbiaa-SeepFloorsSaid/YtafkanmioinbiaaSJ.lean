/- What functions of the program answer. No condition. -/
import Derived.Test.YtafkanmioinbiaaSC
import Derived.Test.YtafkanmioinbiaaSD
import Derived.Test.YtafkanmioinbiaaSH
import Derived.Test.YtafkanmioinbiaaSI
import Derived.Test.YtafkanmioinbiaaSE
import Derived.Test.YtafkanmioinbiaaSF
import Derived.Test.YtafkanmioinbiaaSG
set_option linter.all false
set_option maxRecDepth 100000
set_option maxHeartbeats 8000000
namespace Go.Proofs.Ytafkanmioinbiaa.SA
open Go.RowKit Go.Proofs.YtafkanmioinbiaaW.PrintWords Go.Proofs.YtafkanmioinbiaaW.PrintLast Go.Proofs.YtafkanmioinbiaaW.PrintMore
attribute [local go_sem] qax qaz max_two min_two qao qap qay qba
attribute [local go_sem] Oper.semAt_some
def seep_Route.f (a0_0 : Int) (l0_1 : List (S44)) (l0_2 : List Int) (l0_3 : List Int) (l0_4 : List (S41)) (l0_5 : List (S95)) (l1 : List Int) (a2 : Int) : Option (List Int × Int) := some (routeF a0_0 l0_1 l0_2 l0_3 l0_4 l0_5 l1 a2)
theorem seep_Route.calls (a0_0 : Int) (A0_1 : Option Addr) (c0_1 : Nat) (l0_1 : List (S44)) (A0_2 : Option Addr) (c0_2 : Nat) (l0_2 : List Int) (A0_3 : Option Addr) (c0_3 : Nat) (l0_3 : List Int) (A0_4 : Option Addr) (c0_4 : Nat) (l0_4 : List (S41)) (A0_5 : Option Addr) (c0_5 : Nat) (l0_5 : List (S95)) (A1 : Option Addr) (c1 : Nat) (l1 : List Int) (a2 : Int) (r1 : List Int) (r2 : Int) (w : World) (hr0_1 : Kd.C k44 w A0_1 l0_1.length l0_1) (hc0_1 : l0_1.length ≤ c0_1) (hr0_2 : Kd.C (Kd.int .i64) w A0_2 l0_2.length l0_2) (hc0_2 : l0_2.length ≤ c0_2) (hr0_3 : Kd.C (Kd.int .i64) w A0_3 l0_3.length l0_3) (hc0_3 : l0_3.length ≤ c0_3) (hr0_4 : Kd.C k41 w A0_4 l0_4.length l0_4) (hc0_4 : l0_4.length ≤ c0_4) (hr0_5 : Kd.C k95 w A0_5 l0_5.length l0_5) (hc0_5 : l0_5.length ≤ c0_5) (hr1 : Kd.C (Kd.int .i64) w A1 l1.length l1) (hc1 : l1.length ≤ c1) (h : seep_Route.f a0_0 l0_1 l0_2 l0_3 l0_4 l0_5 l1 a2 = some (r1, r2)) :
  Calls Try.prog 28 #[.agg #[.int .i64 a0_0, .slice A0_1 l0_1.length c0_1, .slice A0_2 l0_2.length c0_2, .slice A0_3 l0_3.length c0_3, .slice A0_4 l0_4.length c0_4, .slice A0_5 l0_5.length c0_5], .slice A1 l1.length c1, .int .i64 a2] w fun e w' => ∃ v0_ : Value, e = .returned (.tuple #[v0_, .int .i64 r2]) ∧ Kd.R (Kd.int .i64) 3 w' w.heap.size (fun _ => True) v0_ r1 ∧ Below w.heap.size w w' := by
 have hp : routeF a0_0 l0_1 l0_2 l0_3 l0_4 l0_5 l1 a2 = (r1, r2) := Option.some.inj h
 clear h
 have hu27 := Try.underlying27
 have hu44 := Try.underlying44
 have hu123 := Try.underlying123
 have HB := qab.mk (Below.refl w.heap.size w)
 cases hg : givenB a0_0 l0_1 l0_2 l0_3 l0_4 l0_5 l1 with
 | false =>
  obtain ⟨rfl, rfl⟩ : r1 = [] ∧ r2 = 2 := by
   unfold routeF at hp
   rw [hg] at hp
   injection hp with h1 h2
   exact ⟨h1.symm, h2.symm⟩
  have HGIV : qab (∀ W, Below w.heap.size w W → Calls Try.prog 54 #[.agg #[.int .i64 a0_0, .slice A0_1 l0_1.length c0_1, .slice A0_2 l0_2.length c0_2, .slice A0_3 l0_3.length c0_3, .slice A0_4 l0_4.length c0_4, .slice A0_5 l0_5.length c0_5], .slice A1 l1.length c1] W fun e w' => e = .returned (.tuple #[.pointer none, .bool false]) ∧ Below W.heap.size W w') := ⟨fun W hW => given_false a0_0 A0_1 c0_1 l0_1 A0_2 c0_2 l0_2 A0_3 c0_3 l0_3 A0_4 c0_4 l0_4 A0_5 c0_5 l0_5 A1 c1 l1 W (Kd.qai hr0_1 hW) hc0_1 (Kd.qai hr0_2 hW) hc0_2 (Kd.qai hr0_3 hW) hc0_3 (Kd.qai hr0_4 hW) hc0_4 (Kd.qai hr0_5 hW) hc0_5 (Kd.qai hr1 hW) hc1 hg⟩
  clear hp hg hr0_1 hr0_2 hr0_3 hr0_4 hr0_5 hr1
  go_enter Try.func28, Try.ntmps28
  go_upto_region 1 with (first | ((with_reducible refine qam (N := 3) rfl ?_); refine ze 3 #[.int .i64 a0_0, .slice A0_1 l0_1.length c0_1, .slice A0_2 l0_2.length c0_2, .slice A0_3 l0_3.length c0_3, .slice A0_4 l0_4.length c0_4, .slice A0_5 l0_5.length c0_5] 27 ?_; intro gb hg_gb w2 hbox hb; have BKgb := qab.mk hbox; have n_HB := qab.mk (qae HB.out hb); have GEgb : w.heap.size ≤ gb := (by rw [hg_gb]; exact HB.out.size); clear HB; have HB := n_HB; clear n_HB; obtain ⟨hfgb, hcgb_0, hcgb_1, hcgb_2, hcgb_3, hcgb_4, hcgb_5⟩ := qz6 BKgb.out; clear hbox hb hg_gb) | ((with_reducible refine qam (N := 5) rfl ?_); refine ze 5 #[.int .i64 a2] 3 ?_; intro gp hg_gp w3 hbox hb; have BKgp := qab.mk hbox; replace BKgb := qab.mk (qad BKgb.out hb); have n_HB := qab.mk (qae HB.out hb); have GEgp : w.heap.size ≤ gp := (by rw [hg_gp]; exact HB.out.size); clear HB; have HB := n_HB; clear n_HB; obtain ⟨hfgp, hcgp_0⟩ := qz1 BKgp.out; clear hbox hb hg_gp; obtain ⟨hfgb, hcgb_0, hcgb_1, hcgb_2, hcgb_3, hcgb_4, hcgb_5⟩ := qz6 BKgb.out))
  go_step3
  go_wp2_with (first | (go_at_call 54; (with_reducible refine (HGIV.out _ HB.out).mono ?_); rintro e wn ⟨rfl, hb⟩; replace BKgb := qab.mk (qad BKgb.out hb); replace HB := qab.mk (qae HB.out hb); clear hb; obtain ⟨hfgb, hcgb_0, hcgb_1, hcgb_2, hcgb_3, hcgb_4, hcgb_5⟩ := qz6 BKgb.out) | ((with_reducible refine qam (N := 8) rfl ?_); refine ze 8 #[.pointer none] 84 ?_; intro g8 hg_g8 w5 hbox hb; have BKg8 := qab.mk hbox; have n_HB := qab.mk (qae HB.out hb); have GEg8 : w.heap.size ≤ g8 := (by rw [hg_g8]; exact HB.out.size); clear HB; have HB := n_HB; clear n_HB; obtain ⟨hfg8, hcg8_0⟩ := qz1 BKg8.out; clear hbox hb hg_g8))
  try rw [Exit.noGoto_ret]
  go_ret2
  exact ⟨_, rfl, Kd.R_nil _ _ _ _ _, by first | exact HB.out | exact qaj HB.out GEg8⟩
 | true =>
  have HV := qab.mk (valid_facts (given_valid hg))
  have hpp := HV.out.pp
  have HIN : qab (∀ W, Calls Try.prog 55 #[.int .i64 a2, .int .i64 0, .int .i64 (a0_0 - 1)] W fun e w' => e = .returned (.bool (inB a2 0 (a0_0 - 1))) ∧ Below W.heap.size W w') := ⟨fun W => in_calls _ _ _ W⟩
  have HGIV : qab (∀ W, Below w.heap.size w W → Calls Try.prog 54 #[.agg #[.int .i64 a0_0, .slice A0_1 l0_1.length c0_1, .slice A0_2 l0_2.length c0_2, .slice A0_3 l0_3.length c0_3, .slice A0_4 l0_4.length c0_4, .slice A0_5 l0_5.length c0_5], .slice A1 l1.length c1] W fun e w' => ∃ g, e = .returned (.tuple #[.pointer (some ⟨g, 0, none⟩), .bool true]) ∧ W.heap.size ≤ g ∧ w'.heap[g]? = some (.cells #[.int .i64 a0_0, .slice A0_1 l0_1.length c0_1, .slice A0_2 l0_2.length c0_2, .slice A0_3 l0_3.length c0_3, .slice A0_4 l0_4.length c0_4, .slice A0_5 l0_5.length c0_5, .int .i64 (maskV l1 : Int)] 123 (0, 0)) ∧ Below W.heap.size W w') := ⟨fun W hW => given_true a0_0 A0_1 c0_1 l0_1 A0_2 c0_2 l0_2 A0_3 c0_3 l0_3 A0_4 c0_4 l0_4 A0_5 c0_5 l0_5 A1 c1 l1 W (Kd.qai hr0_1 hW) hc0_1 (Kd.qai hr0_2 hW) hc0_2 (Kd.qai hr0_3 hW) hc0_3 (Kd.qai hr0_4 hW) hc0_4 (Kd.qai hr0_5 hW) hc0_5 (Kd.qai hr1 hW) hc1 hg⟩
  cases hin : inB a2 0 (a0_0 - 1) with
  | false =>
   obtain ⟨rfl, rfl⟩ : r1 = [] ∧ r2 = 2 := by
    unfold routeF at hp
    rw [hin, Bool.and_false] at hp
    injection hp with h1 h2
    exact ⟨h1.symm, h2.symm⟩
   rw [hin] at HIN
   clear hp hg hin hr0_1 hr0_2 hr0_3 hr0_4 hr0_5 hr1
   go_enter Try.func28, Try.ntmps28
   go_upto_region 1 with (first | ((with_reducible refine qam (N := 3) rfl ?_); refine ze 3 #[.int .i64 a0_0, .slice A0_1 l0_1.length c0_1, .slice A0_2 l0_2.length c0_2, .slice A0_3 l0_3.length c0_3, .slice A0_4 l0_4.length c0_4, .slice A0_5 l0_5.length c0_5] 27 ?_; intro gb hg_gb w2 hbox hb; have BKgb := qab.mk hbox; have n_HB := qab.mk (qae HB.out hb); have GEgb : w.heap.size ≤ gb := (by rw [hg_gb]; exact HB.out.size); clear HB; have HB := n_HB; clear n_HB; obtain ⟨hfgb, hcgb_0, hcgb_1, hcgb_2, hcgb_3, hcgb_4, hcgb_5⟩ := qz6 BKgb.out; clear hbox hb hg_gb) | ((with_reducible refine qam (N := 5) rfl ?_); refine ze 5 #[.int .i64 a2] 3 ?_; intro gp hg_gp w3 hbox hb; have BKgp := qab.mk hbox; replace BKgb := qab.mk (qad BKgb.out hb); have n_HB := qab.mk (qae HB.out hb); have GEgp : w.heap.size ≤ gp := (by rw [hg_gp]; exact HB.out.size); clear HB; have HB := n_HB; clear n_HB; obtain ⟨hfgp, hcgp_0⟩ := qz1 BKgp.out; clear hbox hb hg_gp; obtain ⟨hfgb, hcgb_0, hcgb_1, hcgb_2, hcgb_3, hcgb_4, hcgb_5⟩ := qz6 BKgb.out))
   go_step3
   go_upto_region 2 with (first | (go_at_call 54; (with_reducible refine (HGIV.out _ HB.out).mono ?_); rintro e wn ⟨gd, rfl, GEgd, hbk, hb⟩; have BKgd := qab.mk hbk; clear hbk; replace BKgb := qab.mk (qad BKgb.out hb); replace BKgp := qab.mk (qad BKgp.out hb); replace HB := qab.mk (qae HB.out hb); clear hb) | ((with_reducible refine qam (N := 8) rfl ?_); refine ze 8 #[.pointer none] 84 ?_; intro g8 hg_g8 w5 hbox hb; have BKg8 := qab.mk hbox; have ne_gb_g8 : gb ≠ g8 := (by rw [hg_g8]; exact Nat.ne_of_lt (blk_lt BKgb.out)); have ne_gp_g8 : gp ≠ g8 := (by rw [hg_g8]; exact Nat.ne_of_lt (blk_lt BKgp.out)); have ne_gd_g8 : gd ≠ g8 := (by rw [hg_g8]; exact Nat.ne_of_lt (blk_lt BKgd.out)); replace BKgb := qab.mk (qad BKgb.out hb); replace BKgp := qab.mk (qad BKgp.out hb); replace BKgd := qab.mk (qad BKgd.out hb); have n_HB := qab.mk (qae HB.out hb); have GEg8 : w.heap.size ≤ g8 := (by rw [hg_g8]; exact HB.out.size); clear HB; have HB := n_HB; clear n_HB; obtain ⟨hfg8, hcg8_0⟩ := qz1 BKg8.out; clear hbox hb hg_g8))
   have HQ : qab (RQ w gb gp g8 gd #[.int .i64 a0_0, .slice A0_1 l0_1.length c0_1, .slice A0_2 l0_2.length c0_2, .slice A0_3 l0_3.length c0_3, .slice A0_4 l0_4.length c0_4, .slice A0_5 l0_5.length c0_5] #[.int .i64 a0_0, .slice A0_1 l0_1.length c0_1, .slice A0_2 l0_2.length c0_2, .slice A0_3 l0_3.length c0_3, .slice A0_4 l0_4.length c0_4, .slice A0_5 l0_5.length c0_5, .int .i64 (maskV l1 : Int)] a2 (w5.setCell ⟨g8, 0, none⟩ (.pointer (some ⟨gd, 0, none⟩)))) := ⟨⟨qaj HB.out GEg8, blk_far (p := ⟨g8, 0, none⟩) BKgb.out ne_gb_g8 _, blk_far (p := ⟨g8, 0, none⟩) BKgp.out ne_gp_g8 _, blk_set BKg8.out 0 _, blk_far (p := ⟨g8, 0, none⟩) BKgd.out ne_gd_g8 _⟩⟩; clear hfg8 hcg8_0; generalize w5.setCell ⟨g8, 0, none⟩ (.pointer (some ⟨gd, 0, none⟩)) = w6 at HQ ⊢; have f3 : w6.cell? ⟨gp, 0, none⟩ = some (.int .i64 a2) := (qaa HQ.out.xp 0).trans rfl; have f0 : w6.cell? ⟨gb, 0, none⟩ = some (.int .i64 a0_0) := (qaa HQ.out.xm 0).trans rfl; have f4 : w6.cell? ⟨gb, 4, none⟩ = some (.slice A0_4 l0_4.length c0_4) := (qaa HQ.out.xm 4).trans rfl
   go_wp2_with (go_at_call 55; (with_reducible refine (HIN.out _).mono ?_); rintro e w7 ⟨rfl, hb⟩; replace HQ := qab.mk (HQ.out.below hb); clear hb)
   try rw [Exit.noGoto_ret]
   go_ret2
   exact ⟨_, rfl, Kd.R_nil _ _ _ _ _, HQ.out.hb⟩
  | true =>
   rw [hin] at HIN
   have hin2 : 0 ≤ a2 ∧ a2 < a0_0 := by
    unfold inB at hin
    simp only [Bool.and_eq_true, decide_eq_true_eq] at hin
    omega
   obtain ⟨D, hD⟩ : ∃ D : Nat, D = maskV l1 := ⟨_, rfl⟩
   obtain ⟨T, hT⟩ : ∃ T, T = l0_4.map (·.f1) := ⟨_, rfl⟩
   obtain ⟨F, hF⟩ : ∃ F, F = foulV a0_0.toNat l0_1 l0_2 D T := ⟨_, rfl⟩
   have HTL : qab (T.length = l0_4.length) := ⟨by rw [hT]; simp⟩
   have HFL : qab (F.length = a0_0.toNat) := ⟨by rw [hF]; exact foulV_length _ _ _ _ _⟩
   have hn4 := HV.out.n4
   have HMO : qab (∀ W, Below w.heap.size w W → ∀ gd : Nat, W.heap[gd]? = some (.cells #[.int .i64 a0_0, .slice A0_1 l0_1.length c0_1, .slice A0_2 l0_2.length c0_2, .slice A0_3 l0_3.length c0_3, .slice A0_4 l0_4.length c0_4, .slice A0_5 l0_5.length c0_5, .int .i64 (D : Int)] 123 (0, 0)) → Calls Try.prog 58 #[.pointer (some ⟨gd, 0, none⟩)] W fun e w' => ∃ v, e = .returned v ∧ Kd.R (Kd.int .i64) 3 w' W.heap.size (fun _ => True) v T ∧ Below W.heap.size W w') := ⟨fun W hW gd hd => by rw [hT]; exact most_calls gd _ _ _ _ _ _ _ l0_4 _ W (Kd.qai hr0_4 hW) (by omega) hd⟩
   have HFO : qab (∀ (gd : Nat) W (ad : Addr) (c : Nat), Below w.heap.size w W → W.heap[gd]? = some (.cells #[.int .i64 a0_0, .slice A0_1 l0_1.length c0_1, .slice A0_2 l0_2.length c0_2, .slice A0_3 l0_3.length c0_3, .slice A0_4 l0_4.length c0_4, .slice A0_5 l0_5.length c0_5, .int .i64 (D : Int)] 123 (0, 0)) → Kd.C (Kd.int .i64) W (some ad) T.length T → Calls Try.prog 56 #[.pointer (some ⟨gd, 0, none⟩), .slice (some ad) T.length c] W fun e w' => ∃ v, e = .returned v ∧ Kd.R (Kd.int .i64) 3 w' W.heap.size (fun _ => True) v F ∧ Below W.heap.size W w') := ⟨fun gd W ad c hW hd ht => by rw [hF]; exact foulG a0_0 A0_1 c0_1 l0_1 A0_2 c0_2 l0_2 A0_3 c0_3 l0_3 A0_4 c0_4 l0_4 A0_5 c0_5 l0_5 D gd _ c T W (Kd.qai hr0_1 hW) hc0_1 (Kd.qai hr0_2 hW) hc0_2 (Kd.qai hr0_3 hW) hc0_3 (Kd.qai hr0_4 hW) hc0_4 (Kd.qai hr0_5 hW) hc0_5 ht (by have := HTL.out; omega) HV.out hd⟩
   have hp2 : (if rd F a2 = l0_4.length then (([] : List Int), (5 : Int)) else (routeV D l0_1 l0_2 l0_4 (rd F a2) a2 a0_0.toNat, 0)) = (r1, r2) := by
    rw [← hp, hF, hT, hD]
    unfold routeF
    rw [hg, hin]
    rfl
   have HP := qab.mk hp2
   have HR1 := qab.mk hr0_1
   have HR2 := qab.mk hr0_2
   have HR4 := qab.mk hr0_4
   rw [← hD] at HGIV
   clear hp hp2 hg hin hr0_1 hr0_2 hr0_3 hr0_4 hr0_5 hr1 hD hT hF
   go_enter Try.func28, Try.ntmps28
   go_upto_region 1 with (first | ((with_reducible refine qam (N := 3) rfl ?_); refine ze 3 #[.int .i64 a0_0, .slice A0_1 l0_1.length c0_1, .slice A0_2 l0_2.length c0_2, .slice A0_3 l0_3.length c0_3, .slice A0_4 l0_4.length c0_4, .slice A0_5 l0_5.length c0_5] 27 ?_; intro gb hg_gb w2 hbox hb; have BKgb := qab.mk hbox; have n_HB := qab.mk (qae HB.out hb); have GEgb : w.heap.size ≤ gb := (by rw [hg_gb]; exact HB.out.size); clear HB; have HB := n_HB; clear n_HB; obtain ⟨hfgb, hcgb_0, hcgb_1, hcgb_2, hcgb_3, hcgb_4, hcgb_5⟩ := qz6 BKgb.out; clear hbox hb hg_gb) | ((with_reducible refine qam (N := 5) rfl ?_); refine ze 5 #[.int .i64 a2] 3 ?_; intro gp hg_gp w3 hbox hb; have BKgp := qab.mk hbox; replace BKgb := qab.mk (qad BKgb.out hb); have n_HB := qab.mk (qae HB.out hb); have GEgp : w.heap.size ≤ gp := (by rw [hg_gp]; exact HB.out.size); clear HB; have HB := n_HB; clear n_HB; obtain ⟨hfgp, hcgp_0⟩ := qz1 BKgp.out; clear hbox hb hg_gp; obtain ⟨hfgb, hcgb_0, hcgb_1, hcgb_2, hcgb_3, hcgb_4, hcgb_5⟩ := qz6 BKgb.out))
   go_step3
   go_upto_region 2 with (first | (go_at_call 54; (with_reducible refine (HGIV.out _ HB.out).mono ?_); rintro e wn ⟨gd, rfl, GEgd, hbk, hb⟩; have BKgd := qab.mk hbk; clear hbk; replace BKgb := qab.mk (qad BKgb.out hb); replace BKgp := qab.mk (qad BKgp.out hb); replace HB := qab.mk (qae HB.out hb); clear hb) | ((with_reducible refine qam (N := 8) rfl ?_); refine ze 8 #[.pointer none] 84 ?_; intro g8 hg_g8 w5 hbox hb; have BKg8 := qab.mk hbox; have ne_gb_g8 : gb ≠ g8 := (by rw [hg_g8]; exact Nat.ne_of_lt (blk_lt BKgb.out)); have ne_gp_g8 : gp ≠ g8 := (by rw [hg_g8]; exact Nat.ne_of_lt (blk_lt BKgp.out)); have ne_gd_g8 : gd ≠ g8 := (by rw [hg_g8]; exact Nat.ne_of_lt (blk_lt BKgd.out)); replace BKgb := qab.mk (qad BKgb.out hb); replace BKgp := qab.mk (qad BKgp.out hb); replace BKgd := qab.mk (qad BKgd.out hb); have n_HB := qab.mk (qae HB.out hb); have GEg8 : w.heap.size ≤ g8 := (by rw [hg_g8]; exact HB.out.size); clear HB; have HB := n_HB; clear n_HB; obtain ⟨hfg8, hcg8_0⟩ := qz1 BKg8.out; clear hbox hb hg_g8))
   have HQ : qab (RQ w gb gp g8 gd #[.int .i64 a0_0, .slice A0_1 l0_1.length c0_1, .slice A0_2 l0_2.length c0_2, .slice A0_3 l0_3.length c0_3, .slice A0_4 l0_4.length c0_4, .slice A0_5 l0_5.length c0_5] #[.int .i64 a0_0, .slice A0_1 l0_1.length c0_1, .slice A0_2 l0_2.length c0_2, .slice A0_3 l0_3.length c0_3, .slice A0_4 l0_4.length c0_4, .slice A0_5 l0_5.length c0_5, .int .i64 (D : Int)] a2 (w5.setCell ⟨g8, 0, none⟩ (.pointer (some ⟨gd, 0, none⟩)))) := ⟨⟨qaj HB.out GEg8, blk_far (p := ⟨g8, 0, none⟩) BKgb.out ne_gb_g8 _, blk_far (p := ⟨g8, 0, none⟩) BKgp.out ne_gp_g8 _, blk_set BKg8.out 0 _, blk_far (p := ⟨g8, 0, none⟩) BKgd.out ne_gd_g8 _⟩⟩; clear hfg8 hcg8_0; generalize w5.setCell ⟨g8, 0, none⟩ (.pointer (some ⟨gd, 0, none⟩)) = w6 at HQ ⊢; have f3 : w6.cell? ⟨gp, 0, none⟩ = some (.int .i64 a2) := (qaa HQ.out.xp 0).trans rfl; have f0 : w6.cell? ⟨gb, 0, none⟩ = some (.int .i64 a0_0) := (qaa HQ.out.xm 0).trans rfl; have f4 : w6.cell? ⟨gb, 4, none⟩ = some (.slice A0_4 l0_4.length c0_4) := (qaa HQ.out.xm 4).trans rfl
   go_upto_region 4 with (go_at_call 55; (with_reducible refine (HIN.out _).mono ?_); rintro e w7 ⟨rfl, hb⟩; replace HQ := qab.mk (HQ.out.below hb); clear hb)
   clear f0 f3 f4
   have HT : qab (∀ W, RQ w gb gp g8 gd #[.int .i64 a0_0, .slice A0_1 l0_1.length c0_1, .slice A0_2 l0_2.length c0_2, .slice A0_3 l0_3.length c0_3, .slice A0_4 l0_4.length c0_4, .slice A0_5 l0_5.length c0_5] #[.int .i64 a0_0, .slice A0_1 l0_1.length c0_1, .slice A0_2 l0_2.length c0_2, .slice A0_3 l0_3.length c0_3, .slice A0_4 l0_4.length c0_4, .slice A0_5 l0_5.length c0_5, .int .i64 (D : Int)] a2 W → (W.cell? ⟨g8, 0, none⟩ = some (.pointer (some ⟨gd, 0, none⟩)) ∧ W.cell? ⟨gp, 0, none⟩ = some (.int .i64 a2) ∧ qab (RQ w gb gp g8 gd #[.int .i64 a0_0, .slice A0_1 l0_1.length c0_1, .slice A0_2 l0_2.length c0_2, .slice A0_3 l0_3.length c0_3, .slice A0_4 l0_4.length c0_4, .slice A0_5 l0_5.length c0_5] #[.int .i64 a0_0, .slice A0_1 l0_1.length c0_1, .slice A0_2 l0_2.length c0_2, .slice A0_3 l0_3.length c0_3, .slice A0_4 l0_4.length c0_4, .slice A0_5 l0_5.length c0_5, .int .i64 (D : Int)] a2 W))) := ⟨fun W h => ⟨(qaa h.xb 0).trans rfl, (qaa h.xp 0).trans rfl, ⟨h⟩⟩⟩
   have hFa : a2 < (F.length : Int) := by rw [HFL.out]; omega
   refine start_ (n := 9) (S := (fun w' => (w'.cell? ⟨g8, 0, none⟩ = some (.pointer (some ⟨gd, 0, none⟩)) ∧ w'.cell? ⟨gp, 0, none⟩ = some (.int .i64 a2) ∧ qab (RQ w gb gp g8 gd #[.int .i64 a0_0, .slice A0_1 l0_1.length c0_1, .slice A0_2 l0_2.length c0_2, .slice A0_3 l0_3.length c0_3, .slice A0_4 l0_4.length c0_4, .slice A0_5 l0_5.length c0_5] #[.int .i64 a0_0, .slice A0_1 l0_1.length c0_1, .slice A0_2 l0_2.length c0_2, .slice A0_3 l0_3.length c0_3, .slice A0_4 l0_4.length c0_4, .slice A0_5 l0_5.length c0_5, .int .i64 (D : Int)] a2 w')))) (ds := [8]) (msk 9 0) (by kernel_rfl) rfl rfl (HT.out _ (HQ.out.below (qaq (Below.refl _ _)))) (fun hHeld => ?_)
   refine zt3 0 1 35 hHeld ?_
   refine zt3 1 2 36 hHeld ?_
   refine ztg3 #[true, true, false, false, true, false, false, false, false] 4 39 hHeld ?_
   refine join_ (σ := Addr × Nat × Addr × Nat × Nat) 1 (msk 9 8) (fun s_ => [(37, .slice (some s_.1) T.length s_.2.1), (38, .slice (some s_.2.2.1) F.length s_.2.2.2.1), (40, .pointer (some (s_.2.2.1.add a2.toNat))), (41, .int .i64 (rd F a2)), (10, .pointer (some ⟨s_.2.2.2.2, 0, none⟩))]) (fun s_ w' => (w'.cell? ⟨g8, 0, none⟩ = some (.pointer (some ⟨gd, 0, none⟩)) ∧ w'.cell? ⟨gp, 0, none⟩ = some (.int .i64 a2) ∧ qab (RQ w gb gp g8 gd #[.int .i64 a0_0, .slice A0_1 l0_1.length c0_1, .slice A0_2 l0_2.length c0_2, .slice A0_3 l0_3.length c0_3, .slice A0_4 l0_4.length c0_4, .slice A0_5 l0_5.length c0_5] #[.int .i64 a0_0, .slice A0_1 l0_1.length c0_1, .slice A0_2 l0_2.length c0_2, .slice A0_3 l0_3.length c0_3, .slice A0_4 l0_4.length c0_4, .slice A0_5 l0_5.length c0_5, .int .i64 (D : Int)] a2 w')) ∧ w'.heap[s_.2.2.2.2]? = some (.cells #[.int .i64 0] 3 (0, 0)) ∧ w.heap.size ≤ s_.2.2.2.2 ∧ (gb ≠ s_.2.2.2.2 ∧ gp ≠ s_.2.2.2.2 ∧ g8 ≠ s_.2.2.2.2 ∧ gd ≠ s_.2.2.2.2) ∧ Kd.R (Kd.int .i64) 3 w' w.heap.size (fun _ => True) (.slice (some s_.2.2.1) F.length s_.2.2.2.1) F) ?_ ?_
   rotate_left
   ·
    intro hCont
    refine two_ (i := 2) (j := 7) (Ni := some 37) (Nj := some 10) #[true, true, true, false, true, false, false, false, false] #[true, true, false, false, true, false, false, true, false] rfl rfl rfl rfl (by kernel_rfl) (by decide) (by decide) (fun K hK => ?_) (fun K hK => ?_)
    ·
     refine zg Try.func58 #[.pointer (some ⟨gd, 0, none⟩)] ?_
     refine (HMO.out _ hHeld.2.2.out.hb gd hHeld.2.2.out.xd).mono ?_; rintro e w5 ⟨v1, rfl, hR, hb⟩; obtain ⟨ad, ca, eF⟩ := Kd.R_slice1 hR (by rw [HTL.out]; omega); subst eF; have HTH := qab.mk (Kd.R_reads' hR).2.2; have HP5 := qab.mk (HT.out w5 (hHeld.2.2.out.below hb)); clear hb hR; refine ⟨_, rfl, ?_⟩; refine hK.out _ _ HP5.out (fun hHeld => ?_); clear hK K; refine zn 37 ?_
     refine two_ (i := 3) (j := 7) (Ni := some 38) (Nj := some 10) (msk 9 5) #[true, true, true, false, true, false, false, true, false] rfl rfl rfl rfl (by kernel_rfl) (by decide) (by decide) (fun K hK => ?_) (fun K hK => ?_)
     ·
      refine zg Try.func56 #[.pointer (some ⟨gd, 0, none⟩), .slice (some ad) T.length ca] ?_
      refine (HFO.out gd _ ad ca hHeld.2.2.out.hb hHeld.2.2.out.xd HTH.out).mono ?_; rintro e w6 ⟨v2, rfl, hR, hb⟩; obtain ⟨aF, cF, eF⟩ := Kd.R_slice1 hR (by rw [HFL.out]; omega); subst eF; have HRV := qab.mk (Kd.R_lower hR hHeld.2.2.out.hb.size); have HP6 := qab.mk (HT.out w6 (hHeld.2.2.out.below hb)); clear hb hR; refine ⟨_, rfl, ?_⟩; refine hK.out _ _ HP6.out (fun hHeld => ?_); clear hK K; refine zn 38 ?_
      refine zq 5 6 40 ?_
      refine two_ (i := 6) (j := 7) (Ni := some 41) (Nj := some 10) (msk 9 7) #[true, true, true, true, true, true, false, true, false] rfl rfl rfl rfl (by kernel_rfl) (by decide) (by decide) (fun K hK => ?_) (fun K hK => ?_)
      ·
       obtain ⟨_, e_, qF_⟩ := Kd.at_int (Kd.R_reads' HRV.out).2.2 a2 (by omega) (by omega); cases e_
       refine value_ (w1 := ?_) (v := ?_) (by rfl) rfl ?_ ?_; rotate_left 2; (focus (go_simp; constructor; rfl; rfl)); refine hK.out _ _ hHeld (fun hHeld => ?_); clear hK K; refine zn 41 ?_
       refine one_ (i := 7) (N := some 10) (msk 9 8) rfl rfl (by kernel_rfl) (by decide) (fun K hK => ?_)
       refine box_step ?hg (N := 10) ?hd (cs := #[.int .i64 0]) (t := 3) ?hr ?_; (case hd => rfl); (case hg => rfl); (case hr => first | (go_simp; done) | (go_simp; rfl)); intro ga hg_ wb BA hb; (try (replace HRV := qab.mk (Kd.qal HRV.out hb))); (try (replace HTH := qab.mk (Kd.qai HTH.out hb))); have GA : w.heap.size ≤ ga := (by rw [hg_]; exact hHeld.2.2.out.hb.size); have NA := (hHeld.2.2.out.ne hg_); clear hg_; refine hK.out _ _ (HT.out wb (hHeld.2.2.out.below hb)) (fun hHeld => ?_); clear hK K hb; refine zn 10 ?_
       exact norm_ (by simp only [putAll, Act.put, qzA, qzB, qzC]) (hCont (ad, ca, aF, cF, ga) _ ⟨hHeld, BA, GA, NA, HRV.out⟩)
      ·
       refine box_step ?hg (N := 10) ?hd (cs := #[.int .i64 0]) (t := 3) ?hr ?_; (case hd => rfl); (case hg => rfl); (case hr => first | (go_simp; done) | (go_simp; rfl)); intro ga hg_ wb BA hb; (try (replace HRV := qab.mk (Kd.qal HRV.out hb))); (try (replace HTH := qab.mk (Kd.qai HTH.out hb))); have GA : w.heap.size ≤ ga := (by rw [hg_]; exact hHeld.2.2.out.hb.size); have NA := (hHeld.2.2.out.ne hg_); clear hg_; refine hK.out _ _ (HT.out wb (hHeld.2.2.out.below hb)) (fun hHeld => ?_); clear hK K hb; refine zn 10 ?_
       refine one_ (i := 6) (N := some 41) (msk 9 8) rfl rfl (by kernel_rfl) (by decide) (fun K hK => ?_)
       obtain ⟨_, e_, qF_⟩ := Kd.at_int (Kd.R_reads' HRV.out).2.2 a2 (by omega) (by omega); cases e_
       refine value_ (w1 := ?_) (v := ?_) (by rfl) rfl ?_ ?_; rotate_left 2; (focus (go_simp; constructor; rfl; rfl)); refine hK.out _ _ hHeld (fun hHeld => ?_); clear hK K; refine zn 41 ?_
       exact norm_ (by simp only [putAll, Act.put, qzA, qzB, qzC]) (hCont (ad, ca, aF, cF, ga) _ ⟨hHeld, BA, GA, NA, HRV.out⟩)
     ·
      refine box_step ?hg (N := 10) ?hd (cs := #[.int .i64 0]) (t := 3) ?hr ?_; (case hd => rfl); (case hg => rfl); (case hr => first | (go_simp; done) | (go_simp; rfl)); intro ga hg_ wb BA hb; (try (replace HRV := qab.mk (Kd.qal HRV.out hb))); (try (replace HTH := qab.mk (Kd.qai HTH.out hb))); have GA : w.heap.size ≤ ga := (by rw [hg_]; exact hHeld.2.2.out.hb.size); have NA := (hHeld.2.2.out.ne hg_); clear hg_; refine hK.out _ _ (HT.out wb (hHeld.2.2.out.below hb)) (fun hHeld => ?_); clear hK K hb; refine zn 10 ?_
      refine one_ (i := 3) (N := some 38) #[true, true, true, true, true, false, false, true, false] rfl rfl (by kernel_rfl) (by decide) (fun K hK => ?_)
      refine zg Try.func56 #[.pointer (some ⟨gd, 0, none⟩), .slice (some ad) T.length ca] ?_
      refine (HFO.out gd _ ad ca hHeld.2.2.out.hb hHeld.2.2.out.xd HTH.out).mono ?_; rintro e w6 ⟨v2, rfl, hR, hb⟩; replace BA := qad BA hb; obtain ⟨aF, cF, eF⟩ := Kd.R_slice1 hR (by rw [HFL.out]; omega); subst eF; have HRV := qab.mk (Kd.R_lower hR hHeld.2.2.out.hb.size); have HP6 := qab.mk (HT.out w6 (hHeld.2.2.out.below hb)); clear hb hR; refine ⟨_, rfl, ?_⟩; refine hK.out _ _ HP6.out (fun hHeld => ?_); clear hK K; refine zn 38 ?_
      refine zqg #[true, true, true, true, true, true, false, true, false] 5 40 ?_
      refine one_ (i := 6) (N := some 41) (msk 9 8) rfl rfl (by kernel_rfl) (by decide) (fun K hK => ?_)
      obtain ⟨_, e_, qF_⟩ := Kd.at_int (Kd.R_reads' HRV.out).2.2 a2 (by omega) (by omega); cases e_
      refine value_ (w1 := ?_) (v := ?_) (by rfl) rfl ?_ ?_; rotate_left 2; (focus (go_simp; constructor; rfl; rfl)); refine hK.out _ _ hHeld (fun hHeld => ?_); clear hK K; refine zn 41 ?_
      exact norm_ (by simp only [putAll, Act.put, qzA, qzB, qzC]) (hCont (ad, ca, aF, cF, ga) _ ⟨hHeld, BA, GA, NA, HRV.out⟩)
    ·
     refine box_step ?hg (N := 10) ?hd (cs := #[.int .i64 0]) (t := 3) ?hr ?_; (case hd => rfl); (case hg => rfl); (case hr => first | (go_simp; done) | (go_simp; rfl)); intro ga hg_ wb BA hb; (try (replace HRV := qab.mk (Kd.qal HRV.out hb))); (try (replace HTH := qab.mk (Kd.qai HTH.out hb))); have GA : w.heap.size ≤ ga := (by rw [hg_]; exact hHeld.2.2.out.hb.size); have NA := (hHeld.2.2.out.ne hg_); clear hg_; refine hK.out _ _ (HT.out wb (hHeld.2.2.out.below hb)) (fun hHeld => ?_); clear hK K hb; refine zn 10 ?_
     refine one_ (i := 2) (N := some 37) #[true, true, true, false, true, false, false, true, false] rfl rfl (by kernel_rfl) (by decide) (fun K hK => ?_)
     refine zg Try.func58 #[.pointer (some ⟨gd, 0, none⟩)] ?_
     refine (HMO.out _ hHeld.2.2.out.hb gd hHeld.2.2.out.xd).mono ?_; rintro e w5 ⟨v1, rfl, hR, hb⟩; replace BA := qad BA hb; obtain ⟨ad, ca, eF⟩ := Kd.R_slice1 hR (by rw [HTL.out]; omega); subst eF; have HTH := qab.mk (Kd.R_reads' hR).2.2; have HP5 := qab.mk (HT.out w5 (hHeld.2.2.out.below hb)); clear hb hR; refine ⟨_, rfl, ?_⟩; refine hK.out _ _ HP5.out (fun hHeld => ?_); clear hK K; refine zn 37 ?_
     refine one_ (i := 3) (N := some 38) #[true, true, true, true, true, false, false, true, false] rfl rfl (by kernel_rfl) (by decide) (fun K hK => ?_)
     refine zg Try.func56 #[.pointer (some ⟨gd, 0, none⟩), .slice (some ad) T.length ca] ?_
     refine (HFO.out gd _ ad ca hHeld.2.2.out.hb hHeld.2.2.out.xd HTH.out).mono ?_; rintro e w6 ⟨v2, rfl, hR, hb⟩; replace BA := qad BA hb; obtain ⟨aF, cF, eF⟩ := Kd.R_slice1 hR (by rw [HFL.out]; omega); subst eF; have HRV := qab.mk (Kd.R_lower hR hHeld.2.2.out.hb.size); have HP6 := qab.mk (HT.out w6 (hHeld.2.2.out.below hb)); clear hb hR; refine ⟨_, rfl, ?_⟩; refine hK.out _ _ HP6.out (fun hHeld => ?_); clear hK K; refine zn 38 ?_
     refine zqg #[true, true, true, true, true, true, false, true, false] 5 40 ?_
     refine one_ (i := 6) (N := some 41) (msk 9 8) rfl rfl (by kernel_rfl) (by decide) (fun K hK => ?_)
     obtain ⟨_, e_, qF_⟩ := Kd.at_int (Kd.R_reads' HRV.out).2.2 a2 (by omega) (by omega); cases e_
     refine value_ (w1 := ?_) (v := ?_) (by rfl) rfl ?_ ?_; rotate_left 2; (focus (go_simp; constructor; rfl; rfl)); refine hK.out _ _ hHeld (fun hHeld => ?_); clear hK K; refine zn 41 ?_
     exact norm_ (by simp only [putAll, Act.put, qzA, qzB, qzC]) (hCont (ad, ca, aF, cF, ga) _ ⟨hHeld, BA, GA, NA, HRV.out⟩)
   rintro ⟨ad, ca, aF, cF, g3⟩ wj ⟨hS_, BA_, GA_, NA_, hR_⟩
   have hHeld := hS_
   dsimp only at BA_ GA_ NA_ hR_; obtain ⟨fA_, cA_⟩ := qz1 BA_
   simp only [putAll, Act.put, qzA, qzB, qzC]
   refine last_ (i := 8) (N := none) (msk 9 9) rfl rfl (by kernel_rfl) (by decide) (fun K hK => ?_); refine skip_ (w1 := ?_) (by rfl) rfl ?_ ?_; rotate_left; (focus (go_simp; rfl)); refine hK.out _ _ ?_; clear hK K hHeld
   have HP9 := qab.mk (hS_.2.2.out.put GA_ NA_ (.int .i64 (rd F a2))); have BK9 := qab.mk (blk_set BA_ 0 (.int .i64 (rd F a2))); generalize wj.setCell ⟨g3, 0, none⟩ (.int .i64 (rd F a2)) = w9 at HP9 BK9 ⊢; clear hS_ BA_ GA_ NA_ hR_ fA_ cA_
   refine done_ (by kernel_rfl) ?_
   have HQ := HP9
   clear HP9
   have f3 : w9.cell? ⟨gp, 0, none⟩ = some (.int .i64 a2) := (qaa HQ.out.xp 0).trans rfl; have f0 : w9.cell? ⟨gb, 0, none⟩ = some (.int .i64 a0_0) := (qaa HQ.out.xm 0).trans rfl; have f4 : w9.cell? ⟨gb, 4, none⟩ = some (.slice A0_4 l0_4.length c0_4) := (qaa HQ.out.xm 4).trans rfl
   obtain ⟨last, hlast⟩ : ∃ x, x = rd F a2 := ⟨_, rfl⟩
   rw [← hlast] at BK9 HP
   have f10 : w9.cell? ⟨g3, 0, none⟩ = some (.int .i64 last) := (qaa BK9.out 0).trans rfl
   clear hlast hFa
   by_cases hl : last = l0_4.length
   ·
    obtain ⟨rfl, rfl⟩ : r1 = [] ∧ r2 = 5 := by
     have h1 := HP.out
     rw [if_pos hl] at h1
     injection h1 with h1 h2
     exact ⟨h1.symm, h2.symm⟩
    have hlb : (last == (l0_4.length : Int)) = true := by simp [hl]
    clear hl
    go_wp2
    try rw [Exit.noGoto_ret]
    go_ret2
    exact ⟨_, rfl, Kd.R_nil _ _ _ _ _, HQ.out.hb⟩
   ·
    obtain ⟨rfl, rfl⟩ : r1 = routeV D l0_1 l0_2 l0_4 last a2 a0_0.toNat ∧ r2 = 0 := by
     have h1 := HP.out
     rw [if_neg hl] at h1
     injection h1 with h1 h2
     exact ⟨h1.symm, h2.symm⟩
    have hlb : (last == (l0_4.length : Int)) = false := by simp [hl]
    have hmm := @run_makeMap Try.prog
    have hmf : ∀ (fn : Fn) (first cap : Array Value) (w : World), (Instr.makeFunc fn first cap).run Try.prog w = .ok (.func fn first cap) w := fun _ _ _ _ => rfl
    clear hl
    go_upto_region 10 with fail
    obtain ⟨X, gr, mm, gk, gs, eX, es, ek, em, er, xr, xmm, xk, xs, hbX⟩ := allocs4 w9 (.cells #[.slice none 0 0] 23) (.map #[] 0) (fun m => .cells #[.map (some m)] 96) (.cells #[.nilFunc] 97)
    rw [eX, es, ek, em, er]
    have HQX := qab.mk (HQ.out.below hbX)
    have BL := qab.mk (qad BK9.out hbX)
    have GE9 := HQ.out.hb.size
    have XR := qab.mk xr
    have XM := qab.mk xmm
    have XK := qab.mk xk
    have XS := qab.mk xs
    have GER : w.heap.size ≤ gr := by omega
    have GEM : w.heap.size ≤ mm := by omega
    have GES : w.heap.size ≤ gs := by omega
    have cs0 : X.cell? ⟨gs, 0, none⟩ = some .nilFunc := (qaa xs 0).trans rfl
    have fs0 : X.frozen? ⟨gs, 0, none⟩ = false := qac xs 0
    have hstf := store_func X gs .nilFunc cs0 fs0
    clear eX es ek em er xr xmm xk xs hbX f0 f3 f4 f10 hlb
    go_upto_region 11 with fail
    have nkb := blk_ne XK.out XS.out (by decide)
    have HI : qab (RInv (⟨w, gd, gp, gk, gb, g8, g3, gr, gs, mm, .int .i64 a0_0, .slice A0_2 l0_2.length c0_2, .slice A0_3 l0_3.length c0_3, .slice A0_5 l0_5.length c0_5, A0_1, c0_1, l0_1, A0_4, c0_4, l0_4, (D : Int), a2, last⟩ : RE) (X.setCell ⟨gs, 0, none⟩ (.func (.func 62) #[] #[.pointer (some ⟨gp, 0, none⟩), .pointer (some ⟨gk, 0, none⟩), .pointer (some ⟨gb, 0, none⟩), .pointer (some ⟨g8, 0, none⟩), .pointer (some ⟨g3, 0, none⟩), .pointer (some ⟨gr, 0, none⟩), .pointer (some ⟨gs, 0, none⟩)])) (.slice none 0 0) []) := ⟨⟨qaj HQX.out.hb GES, blk_far (p := ⟨gs, 0, none⟩) HQX.out.xd (blk_ne HQX.out.xd XS.out (by decide)) _, blk_far (p := ⟨gs, 0, none⟩) HQX.out.xp (blk_ne HQX.out.xp XS.out (by decide)) _, blk_far (p := ⟨gs, 0, none⟩) XK.out nkb _, blk_far (p := ⟨gs, 0, none⟩) HQX.out.xm (blk_ne HQX.out.xm XS.out (by decide)) _, blk_far (p := ⟨gs, 0, none⟩) HQX.out.xb (blk_ne HQX.out.xb XS.out (by decide)) _, blk_far (p := ⟨gs, 0, none⟩) BL.out (blk_ne BL.out XS.out (by decide)) _, blk_far (p := ⟨gs, 0, none⟩) XR.out (blk_ne XR.out XS.out (by decide)) _, blk_set XS.out 0 _, Kd.R_nil _ _ _ _ _, ⟨#[], 0, [], (Below.heap_setCell X ⟨gs, 0, none⟩ _ mm (fun e => by have h1 := XM.out; have h2 := XS.out; change mm = gs at e; subst e; rw [h1] at h2; cases h2)).trans XM.out, rfl, by simp, fun i k e h _ => by simp at h, fun k hk => hk.elim⟩⟩⟩
    generalize X.setCell ⟨gs, 0, none⟩ (.func (.func 62) #[] #[.pointer (some ⟨gp, 0, none⟩), .pointer (some ⟨gk, 0, none⟩), .pointer (some ⟨gb, 0, none⟩), .pointer (some ⟨g8, 0, none⟩), .pointer (some ⟨g3, 0, none⟩), .pointer (some ⟨gr, 0, none⟩), .pointer (some ⟨gs, 0, none⟩)]) = wy at HI ⊢
    have HFIT : qab (RE.Fit (⟨w, gd, gp, gk, gb, g8, g3, gr, gs, mm, .int .i64 a0_0, .slice A0_2 l0_2.length c0_2, .slice A0_3 l0_3.length c0_3, .slice A0_5 l0_5.length c0_5, A0_1, c0_1, l0_1, A0_4, c0_4, l0_4, (D : Int), a2, last⟩ : RE)) := ⟨⟨HR1.out, HR4.out, HV.out.n1, HV.out.n4.2, GER, GEM⟩⟩
    clear hstf cs0 fs0 nkb HQX BL XR XM XK XS
    obtain ⟨A1x, hA1x⟩ : ∃ A, A = A0_1 := ⟨_, rfl⟩
    have HAX := qab.mk hA1x
    clear hA1x
    have kp : wy.cell? ⟨gp, 0, none⟩ = some (.int .i64 a2) := (qaa HI.out.xp 0).trans rfl; have km2 : wy.cell? ⟨gb, 2, none⟩ = some (.slice A0_2 l0_2.length c0_2) := (qaa HI.out.xm 2).trans rfl; have k8 : wy.cell? ⟨g8, 0, none⟩ = some (.pointer (some ⟨gd, 0, none⟩)) := (qaa HI.out.xb 0).trans rfl; have kl : wy.cell? ⟨g3, 0, none⟩ = some (.int .i64 last) := (qaa HI.out.xl 0).trans rfl; have ks : wy.cell? ⟨gs, 0, none⟩ = some (.func (.func 62) #[] #[.pointer (some ⟨gp, 0, none⟩), .pointer (some ⟨gk, 0, none⟩), .pointer (some ⟨gb, 0, none⟩), .pointer (some ⟨g8, 0, none⟩), .pointer (some ⟨g3, 0, none⟩), .pointer (some ⟨gr, 0, none⟩), .pointer (some ⟨gs, 0, none⟩)]) := (qaa HI.out.xs 0).trans rfl; have km1 : wy.cell? ⟨gb, 1, none⟩ = some (.slice A1x l0_1.length c0_1) := (qaa HI.out.xm 1).trans (by rw [HAX.out]; rfl)
    have k0 : wy.cell? ⟨gb, 0, none⟩ = some (.int .i64 a0_0) := (qaa HI.out.xm 0).trans rfl
    go_step3
    go_wp2
    clear kp km1 km2 k8 kl ks
    clear k0
    obtain ⟨P, hP⟩ : ∃ P, P = a0_0.toNat := ⟨_, rfl⟩
    have hPa : (P : Int) = a0_0 := by omega
    have HPE := qab.mk hP
    have HRT : qab (routeV (D : Int) l0_1 l0_2 l0_4 last a2 P = (routeTo (D : Int) l0_1 l0_2 l0_4 last a2 P 0).getD []) := ⟨rfl⟩
    clear hP
    go_loopw [52] (fun s52 wr => ∃ many : Nat, many ≤ P + 1 ∧ s52 = .int .i64 many ∧ qab (routeV (D : Int) l0_1 l0_2 l0_4 last a2 P = (routeTo (D : Int) l0_1 l0_2 l0_4 last a2 P many).getD []) ∧ qab (RInv (⟨w, gd, gp, gk, gb, g8, g3, gr, gs, mm, .int .i64 a0_0, .slice A0_2 l0_2.length c0_2, .slice A0_3 l0_3.length c0_3, .slice A0_5 l0_5.length c0_5, A0_1, c0_1, l0_1, A0_4, c0_4, l0_4, (D : Int), a2, last⟩ : RE) wr (.slice none 0 0) [])) (fun s _ => P + 1 - (intOf s).toNat)
    case atStart => exact ⟨0, by omega, rfl, HRT, HI⟩
    case round =>
     clear HRT HI
     obtain ⟨many, hm, rfl, HRT, HI⟩ := hrel
     by_cases hlt : many < P + 1
     ·
      have HST := qab.mk (routeTo_step (D : Int) l0_1 l0_2 l0_4 last a2 P many hlt)
      obtain ⟨pz, hpz⟩ : ∃ b : Bool, b = ((many : Int) == 0) := ⟨_, rfl⟩
      have kp : wr.cell? ⟨gp, 0, none⟩ = some (.int .i64 a2) := (qaa HI.out.xp 0).trans rfl; have km2 : wr.cell? ⟨gb, 2, none⟩ = some (.slice A0_2 l0_2.length c0_2) := (qaa HI.out.xm 2).trans rfl; have k8 : wr.cell? ⟨g8, 0, none⟩ = some (.pointer (some ⟨gd, 0, none⟩)) := (qaa HI.out.xb 0).trans rfl; have kl : wr.cell? ⟨g3, 0, none⟩ = some (.int .i64 last) := (qaa HI.out.xl 0).trans rfl; have ks : wr.cell? ⟨gs, 0, none⟩ = some (.func (.func 62) #[] #[.pointer (some ⟨gp, 0, none⟩), .pointer (some ⟨gk, 0, none⟩), .pointer (some ⟨gb, 0, none⟩), .pointer (some ⟨g8, 0, none⟩), .pointer (some ⟨g3, 0, none⟩), .pointer (some ⟨gr, 0, none⟩), .pointer (some ⟨gs, 0, none⟩)]) := (qaa HI.out.xs 0).trans rfl; have km1 : wr.cell? ⟨gb, 1, none⟩ = some (.slice A1x l0_1.length c0_1) := (qaa HI.out.xm 1).trans (by rw [HAX.out]; rfl)
      have hd1 : decide ((many : Int) < a0_0 + 1) = true := decide_eq_true (by omega)
      cases pz with
      | true =>
       have hm0 : many = 0 := by have := hpz.symm; simp at this; exact this
       have HBY : qab (routeBy (D : Int) l0_1 l0_2 l0_4 last a2 many = if l0_2.contains a2 = true then some [] else none) := ⟨by rw [hm0]; rfl⟩
       obtain ⟨cb, hcb⟩ : ∃ b, b = l0_2.contains a2 := ⟨_, rfl⟩
       have HCON : qab (∀ W, Below w.heap.size w W → Calls Try.prog 64 #[.slice A0_2 l0_2.length c0_2, .int .i64 a2] W fun e w' => e = .returned (.bool cb) ∧ Below W.heap.size W w') := ⟨fun W hW => by rw [hcb]; exact contains_calls _ _ _ _ _ (Kd.qai HR2.out hW) hc0_2⟩
       rw [← hcb] at HBY
       have hz : ((many : Int) == 0) = true := hpz.symm
       clear hcb hpz hm0
       cases cb with
       | true =>
        have HF : qab (routeV (D : Int) l0_1 l0_2 l0_4 last a2 P = []) := ⟨by rw [HRT.out, HST.out, HBY.out]; rfl⟩
        go_wp2_with (go_at_call 64; (with_reducible refine (HCON.out _ HI.out.hb).mono ?_); rintro e wc ⟨rfl, hb⟩; have HIC := qab.mk (HI.out.below hb); clear hb; have kp : wc.cell? ⟨gp, 0, none⟩ = some (.int .i64 a2) := (qaa HIC.out.xp 0).trans rfl; have km2 : wc.cell? ⟨gb, 2, none⟩ = some (.slice A0_2 l0_2.length c0_2) := (qaa HIC.out.xm 2).trans rfl; have k8 : wc.cell? ⟨g8, 0, none⟩ = some (.pointer (some ⟨gd, 0, none⟩)) := (qaa HIC.out.xb 0).trans rfl; have kl : wc.cell? ⟨g3, 0, none⟩ = some (.int .i64 last) := (qaa HIC.out.xl 0).trans rfl; have ks : wc.cell? ⟨gs, 0, none⟩ = some (.func (.func 62) #[] #[.pointer (some ⟨gp, 0, none⟩), .pointer (some ⟨gk, 0, none⟩), .pointer (some ⟨gb, 0, none⟩), .pointer (some ⟨g8, 0, none⟩), .pointer (some ⟨g3, 0, none⟩), .pointer (some ⟨gr, 0, none⟩), .pointer (some ⟨gs, 0, none⟩)]) := (qaa HIC.out.xs 0).trans rfl; have kr : wc.cell? ⟨gr, 0, none⟩ = some (.slice none 0 0) := (qaa HIC.out.xr 0).trans rfl; have krf : wc.frozen? ⟨gr, 0, none⟩ = false := qac HIC.out.xr 0)
        try rw [Exit.noGoto_ret]
        go_ret2
        exact ⟨_, rfl, by rw [← HPE.out, HF.out]; exact Kd.R_nil _ _ _ _ _, HIC.out.hb⟩
       | false =>
        have HF : qab (routeV (D : Int) l0_1 l0_2 l0_4 last a2 P = (routeTo (D : Int) l0_1 l0_2 l0_4 last a2 P (many + 1)).getD []) := ⟨by rw [HRT.out, HST.out, HBY.out]; rfl⟩
        go_wp2_with (go_at_call 64; (with_reducible refine (HCON.out _ HI.out.hb).mono ?_); rintro e wc ⟨rfl, hb⟩; have HIC := qab.mk (HI.out.below hb); clear hb; have kp : wc.cell? ⟨gp, 0, none⟩ = some (.int .i64 a2) := (qaa HIC.out.xp 0).trans rfl; have km2 : wc.cell? ⟨gb, 2, none⟩ = some (.slice A0_2 l0_2.length c0_2) := (qaa HIC.out.xm 2).trans rfl; have k8 : wc.cell? ⟨g8, 0, none⟩ = some (.pointer (some ⟨gd, 0, none⟩)) := (qaa HIC.out.xb 0).trans rfl; have kl : wc.cell? ⟨g3, 0, none⟩ = some (.int .i64 last) := (qaa HIC.out.xl 0).trans rfl; have ks : wc.cell? ⟨gs, 0, none⟩ = some (.func (.func 62) #[] #[.pointer (some ⟨gp, 0, none⟩), .pointer (some ⟨gk, 0, none⟩), .pointer (some ⟨gb, 0, none⟩), .pointer (some ⟨g8, 0, none⟩), .pointer (some ⟨g3, 0, none⟩), .pointer (some ⟨gr, 0, none⟩), .pointer (some ⟨gs, 0, none⟩)]) := (qaa HIC.out.xs 0).trans rfl; have kr : wc.cell? ⟨gr, 0, none⟩ = some (.slice none 0 0) := (qaa HIC.out.xr 0).trans rfl; have krf : wc.frozen? ⟨gr, 0, none⟩ = false := qac HIC.out.xr 0)
        go_roundw
        case rel => exact ⟨many + 1, by omega, by go_num, HF, HIC⟩
        case measure => simp [intOf]; omega
      | false =>
       obtain ⟨k, hk⟩ : ∃ k, many = k + 1 := by
        rcases Nat.eq_zero_or_pos many with h | h
        ·
         subst h; simp at hpz
        ·
         exact ⟨many - 1, by omega⟩
       have hz : ((many : Int) == 0) = false := hpz.symm
       have HBY : qab (routeBy (D : Int) l0_1 l0_2 l0_4 last a2 many = rootTo (D : Int) l0_1 l0_2 l0_4 last a2 k 0) := ⟨by rw [hk]; rfl⟩
       have HMK := qab.mk hk
       have hn1 := HV.out.n1
       clear hpz hk
       go_wp2
       clear kp km1 km2 k8 kl ks
       go_loopw [64] (fun s64 wr => ∃ (i : Nat) (A : Option Addr) (n c : Nat) (r : List Int), i ≤ l0_1.length ∧ s64 = .int .i64 i ∧ qab (routeBy (D : Int) l0_1 l0_2 l0_4 last a2 many = rootTo (D : Int) l0_1 l0_2 l0_4 last a2 k i) ∧ qab (RInv (⟨w, gd, gp, gk, gb, g8, g3, gr, gs, mm, .int .i64 a0_0, .slice A0_2 l0_2.length c0_2, .slice A0_3 l0_3.length c0_3, .slice A0_5 l0_5.length c0_5, A0_1, c0_1, l0_1, A0_4, c0_4, l0_4, (D : Int), a2, last⟩ : RE) wr (.slice A n c) r)) (fun s _ => l0_1.length - (intOf s).toNat)
       case atStart => exact ⟨0, none, 0, 0, [], by omega, rfl, HBY, HI⟩
       case round =>
        clear HBY HI
        obtain ⟨i, A, n, c, r, hi, rfl, HBY, HI⟩ := hrel
        obtain ⟨W0, rfl⟩ : ∃ W0, W0 = wr := ⟨_, rfl⟩
        by_cases hli : i < l0_1.length
        ·
         obtain ⟨ad1, e, q0, q1, q2, q3⟩ := at_T44 (Kd.qai HR1.out HI.out.hb) i (by omega) (by omega)
         rw [← HAX.out] at e
         cases e
         simp only [Int.toNat_natCast] at q0 q1 q2 q3
         have HRS := qab.mk (rootTo_step (D : Int) l0_1 l0_2 l0_4 last a2 k i hli)
         have HPS : qab (rootS (D : Int) l0_1 l0_2 l0_4 last a2 k i = (match goesN (D : Int) l0_1 l0_4 i 0 with | some y => if (y : Int) ≤ last then if l0_2.contains (qav l0_1 (i : Nat)).f0 = true then (pathV (D : Int) l0_1 l0_4 last a2 k (qav l0_1 (i : Nat)).f1 y).map ((i : Int) :: ·) else none else none | none => none)) := ⟨rfl⟩
         generalize (qav l0_1 i).f0 = e0 at q0 HPS
         generalize (qav l0_1 i).f1 = e1 at q1 HPS
         generalize (qav l0_1 i).f2 = e2 at q2
         generalize (qav l0_1 i).f3 = e3 at q3
         have HBW := qab.mk (Below.refl W0.heap.size W0)
         go_upto_region 19 with ((with_reducible refine qam (N := 16) rfl ?_); refine ze 16 #[.int .i64 0, .int .i64 0, .int .i64 0, .int .i64 0] 44 ?_; intro ge hg_ge w3 hbox hb; have BKge := qab.mk hbox; have n_HB := qab.mk (qae HBW.out hb); have GEge : W0.heap.size ≤ ge := (by rw [hg_ge]; exact HBW.out.size); clear HBW; have HBW := n_HB; clear n_HB; obtain ⟨hfge, hcge_0, hcge_1, hcge_2, hcge_3⟩ := qz4 BKge.out; clear hbox hb hg_ge)
         clear q0 q1 q2 q3 hfge hcge_0 hcge_1 hcge_2 hcge_3
         have he_ : setAll w3 ge [.int .i64 e0, .int .i64 e1, .int .i64 e2, .int .i64 e3] 0 = ((((w3.setCell ⟨ge, 0, none⟩ (.int .i64 e0)).setCell ⟨ge, 1, none⟩ (.int .i64 e1)).setCell ⟨ge, 2, none⟩ (.int .i64 e2)).setCell ⟨ge, 3, none⟩ (.int .i64 e3)) := rfl; have hbl := setAll_below GEge [.int .i64 e0, .int .i64 e1, .int .i64 e2, .int .i64 e3] 0 _ HBW.out; have hbx : (setAll w3 ge [.int .i64 e0, .int .i64 e1, .int .i64 e2, .int .i64 e3] 0).heap[ge]? = some (.cells #[.int .i64 e0, .int .i64 e1, .int .i64 e2, .int .i64 e3] 44 (0, 0)) := setAll_new [.int .i64 e0, .int .i64 e1, .int .i64 e2, .int .i64 e3] [.int .i64 0, .int .i64 0, .int .i64 0, .int .i64 0] BKge.out rfl; rw [he_] at hbl hbx ; clear he_; generalize ((((w3.setCell ⟨ge, 0, none⟩ (.int .i64 e0)).setCell ⟨ge, 1, none⟩ (.int .i64 e1)).setCell ⟨ge, 2, none⟩ (.int .i64 e2)).setCell ⟨ge, 3, none⟩ (.int .i64 e3)) = w5 at hbl hbx  ⊢; clear HBW BKge; have HBW := qab.mk hbl; have BKge := qab.mk hbx; clear hbl hbx
         have HI5 := qab.mk (HI.out.below HBW.out)
         have kp : w5.cell? ⟨gp, 0, none⟩ = some (.int .i64 a2) := (qaa HI5.out.xp 0).trans rfl; have km2 : w5.cell? ⟨gb, 2, none⟩ = some (.slice A0_2 l0_2.length c0_2) := (qaa HI5.out.xm 2).trans rfl; have k8 : w5.cell? ⟨g8, 0, none⟩ = some (.pointer (some ⟨gd, 0, none⟩)) := (qaa HI5.out.xb 0).trans rfl; have kl : w5.cell? ⟨g3, 0, none⟩ = some (.int .i64 last) := (qaa HI5.out.xl 0).trans rfl; have ks : w5.cell? ⟨gs, 0, none⟩ = some (.func (.func 62) #[] #[.pointer (some ⟨gp, 0, none⟩), .pointer (some ⟨gk, 0, none⟩), .pointer (some ⟨gb, 0, none⟩), .pointer (some ⟨g8, 0, none⟩), .pointer (some ⟨g3, 0, none⟩), .pointer (some ⟨gr, 0, none⟩), .pointer (some ⟨gs, 0, none⟩)]) := (qaa HI5.out.xs 0).trans rfl
         have HGV : qab (∀ W, RInv (⟨w, gd, gp, gk, gb, g8, g3, gr, gs, mm, .int .i64 a0_0, .slice A0_2 l0_2.length c0_2, .slice A0_3 l0_3.length c0_3, .slice A0_5 l0_5.length c0_5, A0_1, c0_1, l0_1, A0_4, c0_4, l0_4, (D : Int), a2, last⟩ : RE) W (.slice A n c) r → Calls Try.prog 63 #[.pointer (some ⟨gd, 0, none⟩), .int .i64 (i : Int), .int .i64 0] W fun e w' => e = .returned (.tuple #[.int .i64 (goesV (D : Int) l0_1 l0_4 i 0).1, .bool (goesV (D : Int) l0_1 l0_4 i 0).2]) ∧ Below W.heap.size W w') := ⟨fun W h => goes_calls gd _ _ _ _ _ c0_1 l0_1 _ c0_4 l0_4 D i 0 W (Kd.qai HR1.out h.hb) (Kd.qai HR4.out h.hb) (by omega) hli (by omega) (by omega) h.xd⟩
         cases hG : goesN (D : Int) l0_1 l0_4 i 0 with
         | none =>
          have HGO : qab (∀ W, RInv (⟨w, gd, gp, gk, gb, g8, g3, gr, gs, mm, .int .i64 a0_0, .slice A0_2 l0_2.length c0_2, .slice A0_3 l0_3.length c0_3, .slice A0_5 l0_5.length c0_5, A0_1, c0_1, l0_1, A0_4, c0_4, l0_4, (D : Int), a2, last⟩ : RE) W (.slice A n c) r → Calls Try.prog 63 #[.pointer (some ⟨gd, 0, none⟩), .int .i64 (i : Int), .int .i64 0] W fun e w' => e = .returned (.tuple #[.int .i64 0, .bool false]) ∧ Below W.heap.size W w') := ⟨fun W h => by have h1 := HGV.out W h; unfold goesV at h1; rw [hG] at h1; exact h1⟩
          have HN1 : qab (routeBy (D : Int) l0_1 l0_2 l0_4 last a2 many = rootTo (D : Int) l0_1 l0_2 l0_4 last a2 k (i + 1)) := ⟨by rw [HBY.out, HRS.out, HPS.out, hG]; rfl⟩
          clear HPS HRS HGV hG
          go_wp2_with (go_at_call 63; (with_reducible refine (HGO.out _ HI5.out).mono ?_); rintro e w6 ⟨rfl, hb⟩; have HI6 := qab.mk (HI5.out.below hb); have BKge6 := qab.mk (qad BKge.out hb); clear hb; have kp : w6.cell? ⟨gp, 0, none⟩ = some (.int .i64 a2) := (qaa HI6.out.xp 0).trans rfl; have km2 : w6.cell? ⟨gb, 2, none⟩ = some (.slice A0_2 l0_2.length c0_2) := (qaa HI6.out.xm 2).trans rfl; have k8 : w6.cell? ⟨g8, 0, none⟩ = some (.pointer (some ⟨gd, 0, none⟩)) := (qaa HI6.out.xb 0).trans rfl; have kl : w6.cell? ⟨g3, 0, none⟩ = some (.int .i64 last) := (qaa HI6.out.xl 0).trans rfl; have ks : w6.cell? ⟨gs, 0, none⟩ = some (.func (.func 62) #[] #[.pointer (some ⟨gp, 0, none⟩), .pointer (some ⟨gk, 0, none⟩), .pointer (some ⟨gb, 0, none⟩), .pointer (some ⟨g8, 0, none⟩), .pointer (some ⟨g3, 0, none⟩), .pointer (some ⟨gr, 0, none⟩), .pointer (some ⟨gs, 0, none⟩)]) := (qaa HI6.out.xs 0).trans rfl; have ke0 : w6.cell? ⟨ge, 0, none⟩ = some (.int .i64 e0) := (qaa BKge6.out 0).trans rfl)
          go_roundw
          case rel => exact ⟨i + 1, A, n, c, r, by omega, by go_num, HN1, HI6⟩
          case measure => simp [intOf]; omega
         | some y =>
          have HGO : qab (∀ W, RInv (⟨w, gd, gp, gk, gb, g8, g3, gr, gs, mm, .int .i64 a0_0, .slice A0_2 l0_2.length c0_2, .slice A0_3 l0_3.length c0_3, .slice A0_5 l0_5.length c0_5, A0_1, c0_1, l0_1, A0_4, c0_4, l0_4, (D : Int), a2, last⟩ : RE) W (.slice A n c) r → Calls Try.prog 63 #[.pointer (some ⟨gd, 0, none⟩), .int .i64 (i : Int), .int .i64 0] W fun e w' => e = .returned (.tuple #[.int .i64 (y : Int), .bool true]) ∧ Below W.heap.size W w') := ⟨fun W h => by have h1 := HGV.out W h; unfold goesV at h1; rw [hG] at h1; exact h1⟩
          have hlt2 := goesN_lt _ _ _ _ _ _ hG
          have hy2 : y ≤ 10 := by have := HV.out.n4; omega
          have HPS3 : qab (rootS (D : Int) l0_1 l0_2 l0_4 last a2 k i = if (y : Int) ≤ last then if l0_2.contains e0 = true then (pathV (D : Int) l0_1 l0_4 last a2 k e1 y).map ((i : Int) :: ·) else none else none) := ⟨by rw [HPS.out, hG]⟩
          clear HPS HGV hG hlt2
          by_cases hle : (y : Int) ≤ last
          ·
           have hcd : decide ((y : Int) ≤ last) = true := decide_eq_true hle
           obtain ⟨cb, hcb⟩ : ∃ b, b = l0_2.contains e0 := ⟨_, rfl⟩
           have HCON : qab (∀ W, Below w.heap.size w W → Calls Try.prog 64 #[.slice A0_2 l0_2.length c0_2, .int .i64 e0] W fun e w' => e = .returned (.bool cb) ∧ Below W.heap.size W w') := ⟨fun W hW => by rw [hcb]; exact contains_calls _ _ _ _ _ (Kd.qai HR2.out hW) hc0_2⟩
           have HPS4 : qab (rootS (D : Int) l0_1 l0_2 l0_4 last a2 k i = if cb = true then (pathV (D : Int) l0_1 l0_4 last a2 k e1 y).map ((i : Int) :: ·) else none) := ⟨by rw [HPS3.out, if_pos hle, ← hcb]⟩
           clear hcb HPS3 hle
           cases cb with
           | false =>
            have HN1 : qab (routeBy (D : Int) l0_1 l0_2 l0_4 last a2 many = rootTo (D : Int) l0_1 l0_2 l0_4 last a2 k (i + 1)) := ⟨by rw [HBY.out, HRS.out, HPS4.out]; rfl⟩
            clear HPS4 HRS
            go_wp2_with (first | (go_at_call 63; (with_reducible refine (HGO.out _ HI5.out).mono ?_); rintro e w6 ⟨rfl, hb⟩; have HI6 := qab.mk (HI5.out.below hb); have BKge6 := qab.mk (qad BKge.out hb); clear hb; have kp : w6.cell? ⟨gp, 0, none⟩ = some (.int .i64 a2) := (qaa HI6.out.xp 0).trans rfl; have km2 : w6.cell? ⟨gb, 2, none⟩ = some (.slice A0_2 l0_2.length c0_2) := (qaa HI6.out.xm 2).trans rfl; have k8 : w6.cell? ⟨g8, 0, none⟩ = some (.pointer (some ⟨gd, 0, none⟩)) := (qaa HI6.out.xb 0).trans rfl; have kl : w6.cell? ⟨g3, 0, none⟩ = some (.int .i64 last) := (qaa HI6.out.xl 0).trans rfl; have ks : w6.cell? ⟨gs, 0, none⟩ = some (.func (.func 62) #[] #[.pointer (some ⟨gp, 0, none⟩), .pointer (some ⟨gk, 0, none⟩), .pointer (some ⟨gb, 0, none⟩), .pointer (some ⟨g8, 0, none⟩), .pointer (some ⟨g3, 0, none⟩), .pointer (some ⟨gr, 0, none⟩), .pointer (some ⟨gs, 0, none⟩)]) := (qaa HI6.out.xs 0).trans rfl; have ke0 : w6.cell? ⟨ge, 0, none⟩ = some (.int .i64 e0) := (qaa BKge6.out 0).trans rfl) | (go_at_call 64; (with_reducible refine (HCON.out _ HI6.out.hb).mono ?_); rintro e w7 ⟨rfl, hb⟩; have HI7 := qab.mk (HI6.out.below hb); have BKge7 := qab.mk (qad BKge6.out hb); clear hb))
            go_roundw
            case rel => exact ⟨i + 1, A, n, c, r, by omega, by go_num, HN1, HI7⟩
            case measure => simp [intOf]; omega
           | true =>
            have HPS5 : qab (rootS (D : Int) l0_1 l0_2 l0_4 last a2 k i = (pathV (D : Int) l0_1 l0_4 last a2 k e1 y).map ((i : Int) :: ·)) := HPS4
            clear HPS4
            go_upto_region 21 with (first | (go_at_call 63; (with_reducible refine (HGO.out _ HI5.out).mono ?_); rintro e w6 ⟨rfl, hb⟩; have HI6 := qab.mk (HI5.out.below hb); have BKge6 := qab.mk (qad BKge.out hb); clear hb; have kp : w6.cell? ⟨gp, 0, none⟩ = some (.int .i64 a2) := (qaa HI6.out.xp 0).trans rfl; have km2 : w6.cell? ⟨gb, 2, none⟩ = some (.slice A0_2 l0_2.length c0_2) := (qaa HI6.out.xm 2).trans rfl; have k8 : w6.cell? ⟨g8, 0, none⟩ = some (.pointer (some ⟨gd, 0, none⟩)) := (qaa HI6.out.xb 0).trans rfl; have kl : w6.cell? ⟨g3, 0, none⟩ = some (.int .i64 last) := (qaa HI6.out.xl 0).trans rfl; have ks : w6.cell? ⟨gs, 0, none⟩ = some (.func (.func 62) #[] #[.pointer (some ⟨gp, 0, none⟩), .pointer (some ⟨gk, 0, none⟩), .pointer (some ⟨gb, 0, none⟩), .pointer (some ⟨g8, 0, none⟩), .pointer (some ⟨g3, 0, none⟩), .pointer (some ⟨gr, 0, none⟩), .pointer (some ⟨gs, 0, none⟩)]) := (qaa HI6.out.xs 0).trans rfl; have ke0 : w6.cell? ⟨ge, 0, none⟩ = some (.int .i64 e0) := (qaa BKge6.out 0).trans rfl) | (go_at_call 64; (with_reducible refine (HCON.out _ HI6.out.hb).mono ?_); rintro e w7 ⟨rfl, hb⟩; have HI7 := qab.mk (HI6.out.below hb); have BKge7 := qab.mk (qad BKge6.out hb); clear hb))
            clear ke0
            clear kp km2 k8 kl ks
            have kr : (w7.alloc (.cells #[.int .i64 (i : Int)] 3)).cell? ⟨gr, 0, none⟩ = some (.slice A n c) := (qaa (qan HI7.out.xr _) 0).trans rfl
            have krf : (w7.alloc (.cells #[.int .i64 (i : Int)] 3)).frozen? ⟨gr, 0, none⟩ = false := qac (qan HI7.out.xr _) 0
            have HI8 : qab (RInv (⟨w, gd, gp, gk, gb, g8, g3, gr, gs, mm, .int .i64 a0_0, .slice A0_2 l0_2.length c0_2, .slice A0_3 l0_3.length c0_3, .slice A0_5 l0_5.length c0_5, A0_1, c0_1, l0_1, A0_4, c0_4, l0_4, (D : Int), a2, last⟩ : RE) ((w7.alloc (.cells #[.int .i64 (i : Int)] 3)).setCell ⟨gr, 0, none⟩ (.slice (some ⟨w7.heap.size, 0, none⟩) 1 1)) (.slice (some ⟨w7.heap.size, 0, none⟩) 1 1) [(i : Int)]) := ⟨(HI7.out.below (qag (Below.refl _ _) _)).setR GER (R_one w7 _ _ i HI7.out.hb.size ⟨by have := blk_lt HI7.out.xp; exact fun e => by change w7.heap.size = gp at e; change gp < _ at this; omega, by have := blk_lt HI7.out.xl; exact fun e => by change w7.heap.size = g3 at e; change g3 < _ at this; omega⟩)⟩
            have BKge8 : qab (((w7.alloc (.cells #[.int .i64 (i : Int)] 3)).setCell ⟨gr, 0, none⟩ (.slice (some ⟨w7.heap.size, 0, none⟩) 1 1)).heap[ge]? = some (.cells #[.int .i64 e0, .int .i64 e1, .int .i64 e2, .int .i64 e3] 44 (0, 0))) := ⟨blk_far (p := ⟨gr, 0, none⟩) (qan BKge7.out _) (blk_ne BKge7.out HI7.out.xr (by decide)) _⟩
            go_upto_region 22 with fail
            generalize (w7.alloc (.cells #[.int .i64 (i : Int)] 3)).setCell ⟨gr, 0, none⟩ (.slice (some ⟨w7.heap.size, 0, none⟩) 1 1) = w8 at HI8 BKge8 ⊢
            clear kr krf
            have kp : w8.cell? ⟨gp, 0, none⟩ = some (.int .i64 a2) := (qaa HI8.out.xp 0).trans rfl; have km2 : w8.cell? ⟨gb, 2, none⟩ = some (.slice A0_2 l0_2.length c0_2) := (qaa HI8.out.xm 2).trans rfl; have k8 : w8.cell? ⟨g8, 0, none⟩ = some (.pointer (some ⟨gd, 0, none⟩)) := (qaa HI8.out.xb 0).trans rfl; have kl : w8.cell? ⟨g3, 0, none⟩ = some (.int .i64 last) := (qaa HI8.out.xl 0).trans rfl; have ks : w8.cell? ⟨gs, 0, none⟩ = some (.func (.func 62) #[] #[.pointer (some ⟨gp, 0, none⟩), .pointer (some ⟨gk, 0, none⟩), .pointer (some ⟨gb, 0, none⟩), .pointer (some ⟨g8, 0, none⟩), .pointer (some ⟨g3, 0, none⟩), .pointer (some ⟨gr, 0, none⟩), .pointer (some ⟨gs, 0, none⟩)]) := (qaa HI8.out.xs 0).trans rfl
            have ke1 : w8.cell? ⟨ge, 1, none⟩ = some (.int .i64 e1) := (qaa BKge8.out 1).trans rfl
            have hmk1 : (many : Int) - 1 = (k : Int) := by have := HMK.out; omega
            have HKN := qab.mk hmk1
            clear hmk1
            cases hX : pathV (D : Int) l0_1 l0_4 last a2 k e1 y with
            | some l =>
             have HSE : qab (∀ W v, RInv (⟨w, gd, gp, gk, gb, g8, g3, gr, gs, mm, .int .i64 a0_0, .slice A0_2 l0_2.length c0_2, .slice A0_3 l0_3.length c0_3, .slice A0_5 l0_5.length c0_5, A0_1, c0_1, l0_1, A0_4, c0_4, l0_4, (D : Int), a2, last⟩ : RE) W v [(i : Int)] → Calls Try.prog 62 #[.agg #[.int .i64 e1, .int .i64 (y : Int), .int .i64 ((many : Int) - 1)], .pointer (some ⟨gp, 0, none⟩), .pointer (some ⟨gk, 0, none⟩), .pointer (some ⟨gb, 0, none⟩), .pointer (some ⟨g8, 0, none⟩), .pointer (some ⟨g3, 0, none⟩), .pointer (some ⟨gr, 0, none⟩), .pointer (some ⟨gs, 0, none⟩)] W fun e W' => e = .returned (.bool true) ∧ (∃ v', RInv (⟨w, gd, gp, gk, gb, g8, g3, gr, gs, mm, .int .i64 a0_0, .slice A0_2 l0_2.length c0_2, .slice A0_3 l0_3.length c0_3, .slice A0_5 l0_5.length c0_5, A0_1, c0_1, l0_1, A0_4, c0_4, l0_4, (D : Int), a2, last⟩ : RE) W' v' ([(i : Int)] ++ l)) ∧ KC (⟨w, gd, gp, gk, gb, g8, g3, gr, gs, mm, .int .i64 a0_0, .slice A0_2 l0_2.length c0_2, .slice A0_3 l0_3.length c0_3, .slice A0_5 l0_5.length c0_5, A0_1, c0_1, l0_1, A0_4, c0_4, l0_4, (D : Int), a2, last⟩ : RE) W W') := ⟨fun W v h => by have h1 := search_calls _ HFIT.out k (by have := HMK.out; omega) e1 y W v _ h hy2 (by have := HMK.out; simp; omega); unfold RE.path at h1; dsimp only at h1; rw [hX] at h1; rw [HKN.out]; exact h1⟩
             have HF : qab (routeV (D : Int) l0_1 l0_2 l0_4 last a2 P = [(i : Int)] ++ l) := ⟨by rw [HRT.out, HST.out, HBY.out, HRS.out, HPS5.out, hX]; rfl⟩
             clear hX HPS5 HRS
             go_wp2_with (go_at_call 62; (with_reducible refine (HSE.out _ _ HI8.out).mono ?_); rintro e w9 ⟨rfl, ⟨v2, hI⟩, hK⟩; obtain ⟨A2, n2, c2, e⟩ := R_shape hI.row; subst e; have HI9 := qab.mk hI; have kr : w9.cell? ⟨gr, 0, none⟩ = some (.slice A2 n2 c2) := (qaa HI9.out.xr 0).trans rfl; clear hI hK)
             try rw [Exit.noGoto_ret]
             go_ret2
             exact ⟨_, rfl, by rw [← HPE.out, HF.out]; exact Kd.R_mono HI9.out.row (fun _ _ => trivial), HI9.out.hb⟩
            | none =>
             have HSE : qab (∀ W v, RInv (⟨w, gd, gp, gk, gb, g8, g3, gr, gs, mm, .int .i64 a0_0, .slice A0_2 l0_2.length c0_2, .slice A0_3 l0_3.length c0_3, .slice A0_5 l0_5.length c0_5, A0_1, c0_1, l0_1, A0_4, c0_4, l0_4, (D : Int), a2, last⟩ : RE) W v [(i : Int)] → Calls Try.prog 62 #[.agg #[.int .i64 e1, .int .i64 (y : Int), .int .i64 ((many : Int) - 1)], .pointer (some ⟨gp, 0, none⟩), .pointer (some ⟨gk, 0, none⟩), .pointer (some ⟨gb, 0, none⟩), .pointer (some ⟨g8, 0, none⟩), .pointer (some ⟨g3, 0, none⟩), .pointer (some ⟨gr, 0, none⟩), .pointer (some ⟨gs, 0, none⟩)] W fun e W' => e = .returned (.bool false) ∧ (∃ v', RInv (⟨w, gd, gp, gk, gb, g8, g3, gr, gs, mm, .int .i64 a0_0, .slice A0_2 l0_2.length c0_2, .slice A0_3 l0_3.length c0_3, .slice A0_5 l0_5.length c0_5, A0_1, c0_1, l0_1, A0_4, c0_4, l0_4, (D : Int), a2, last⟩ : RE) W' v' ([(i : Int)] ++ [])) ∧ KC (⟨w, gd, gp, gk, gb, g8, g3, gr, gs, mm, .int .i64 a0_0, .slice A0_2 l0_2.length c0_2, .slice A0_3 l0_3.length c0_3, .slice A0_5 l0_5.length c0_5, A0_1, c0_1, l0_1, A0_4, c0_4, l0_4, (D : Int), a2, last⟩ : RE) W W') := ⟨fun W v h => by have h1 := search_calls _ HFIT.out k (by have := HMK.out; omega) e1 y W v _ h hy2 (by have := HMK.out; simp; omega); unfold RE.path at h1; dsimp only at h1; rw [hX] at h1; rw [HKN.out]; exact h1⟩
             have HN1 : qab (routeBy (D : Int) l0_1 l0_2 l0_4 last a2 many = rootTo (D : Int) l0_1 l0_2 l0_4 last a2 k (i + 1)) := ⟨by rw [HBY.out, HRS.out, HPS5.out, hX]; rfl⟩
             clear hX HPS5 HRS
             go_wp2_with (go_at_call 62; (with_reducible refine (HSE.out _ _ HI8.out).mono ?_); rintro e w9 ⟨rfl, ⟨v2, hI⟩, hK⟩; obtain ⟨A2, n2, c2, e⟩ := R_shape hI.row; subst e; have HI9 := qab.mk hI; have kr : w9.cell? ⟨gr, 0, none⟩ = some (.slice A2 n2 c2) := (qaa HI9.out.xr 0).trans rfl; clear hI hK)
             go_roundw
             case rel => exact ⟨i + 1, A2, n2, c2, _, by omega, by go_num, HN1, HI9⟩
             case measure => simp [intOf]; omega
          ·
           have hcd : decide ((y : Int) ≤ last) = false := decide_eq_false hle
           have HN1 : qab (routeBy (D : Int) l0_1 l0_2 l0_4 last a2 many = rootTo (D : Int) l0_1 l0_2 l0_4 last a2 k (i + 1)) := ⟨by rw [HBY.out, HRS.out, HPS3.out, if_neg hle]; rfl⟩
           clear HPS3 hle HRS
           go_wp2_with (go_at_call 63; (with_reducible refine (HGO.out _ HI5.out).mono ?_); rintro e w6 ⟨rfl, hb⟩; have HI6 := qab.mk (HI5.out.below hb); have BKge6 := qab.mk (qad BKge.out hb); clear hb; have kp : w6.cell? ⟨gp, 0, none⟩ = some (.int .i64 a2) := (qaa HI6.out.xp 0).trans rfl; have km2 : w6.cell? ⟨gb, 2, none⟩ = some (.slice A0_2 l0_2.length c0_2) := (qaa HI6.out.xm 2).trans rfl; have k8 : w6.cell? ⟨g8, 0, none⟩ = some (.pointer (some ⟨gd, 0, none⟩)) := (qaa HI6.out.xb 0).trans rfl; have kl : w6.cell? ⟨g3, 0, none⟩ = some (.int .i64 last) := (qaa HI6.out.xl 0).trans rfl; have ks : w6.cell? ⟨gs, 0, none⟩ = some (.func (.func 62) #[] #[.pointer (some ⟨gp, 0, none⟩), .pointer (some ⟨gk, 0, none⟩), .pointer (some ⟨gb, 0, none⟩), .pointer (some ⟨g8, 0, none⟩), .pointer (some ⟨g3, 0, none⟩), .pointer (some ⟨gr, 0, none⟩), .pointer (some ⟨gs, 0, none⟩)]) := (qaa HI6.out.xs 0).trans rfl; have ke0 : w6.cell? ⟨ge, 0, none⟩ = some (.int .i64 e0) := (qaa BKge6.out 0).trans rfl)
           go_roundw
           case rel => exact ⟨i + 1, A, n, c, r, by omega, by go_num, HN1, HI6⟩
           case measure => simp [intOf]; omega
        ·
         have HF : qab (routeV (D : Int) l0_1 l0_2 l0_4 last a2 P = (routeTo (D : Int) l0_1 l0_2 l0_4 last a2 P (many + 1)).getD []) := ⟨by rw [HRT.out, HST.out, HBY.out, rootTo_end (D : Int) l0_1 l0_2 l0_4 last a2 k i (by omega)]; rfl⟩
         have kr : W0.cell? ⟨gr, 0, none⟩ = some (.slice A n c) := (qaa HI.out.xr 0).trans rfl
         have krf : W0.frozen? ⟨gr, 0, none⟩ = false := qac HI.out.xr 0
         have HIZ : qab (RInv (⟨w, gd, gp, gk, gb, g8, g3, gr, gs, mm, .int .i64 a0_0, .slice A0_2 l0_2.length c0_2, .slice A0_3 l0_3.length c0_3, .slice A0_5 l0_5.length c0_5, A0_1, c0_1, l0_1, A0_4, c0_4, l0_4, (D : Int), a2, last⟩ : RE) (W0.setCell ⟨gr, 0, none⟩ (.slice none 0 0)) (.slice none 0 0) []) := ⟨HI.out.setR GER (Kd.R_nil _ _ _ _ _)⟩
         go_wp2
         go_roundw
         case rel => exact ⟨many + 1, by omega, by go_num, HF, HIZ⟩
         case measure => simp [intOf]; omega
     ·
      have HF : qab (routeV (D : Int) l0_1 l0_2 l0_4 last a2 P = []) := ⟨by rw [HRT.out, routeTo_end (D : Int) l0_1 l0_2 l0_4 last a2 P many (by omega)]; rfl⟩
      have kr : wr.cell? ⟨gr, 0, none⟩ = some (.slice none 0 0) := (qaa HI.out.xr 0).trans rfl
      have hd1 : decide ((many : Int) < a0_0 + 1) = false := decide_eq_false (by omega)
      go_wp2
      try rw [Exit.noGoto_ret]
      go_ret2
      exact ⟨_, rfl, by rw [← HPE.out, HF.out]; exact Kd.R_nil _ _ _ _ _, HI.out.hb⟩
def keepsB (p : Int) (l1 : List S44) (l2 l3 : List Int) (l4 : List S41) (d : Int) : Bool := !(l3.any fun x => decide (rd (foulV p.toNat l1 l2 d (l4.map (·.f1))) x < l4.length))
structure KI (w : World) (gt gd : Nat) (W : World) : Prop where
 hb : Below w.heap.size w W
 t : W.heap[gt]? = some (.cells #[.pointer (some ⟨gd, 0, none⟩)] 84 (0, 0))
theorem KI.below {w W W' : World} {gt gd : Nat} (h : KI w gt gd W) (hb : Below W.heap.size W W') : KI w gt gd W' := ⟨qae h.hb hb, qad h.t hb⟩
theorem KI.ne {w W : World} {gt gd g : Nat} (h : KI w gt gd W) (hg : g = W.heap.size) : gt ≠ g := by
 have := blk_lt h.t
 omega
theorem KI.put {w W : World} {gt gd g : Nat} (h : KI w gt gd W) (hg : w.heap.size ≤ g) (hn : gt ≠ g) (v : Value) : KI w gt gd (W.setCell ⟨g, 0, none⟩ v) := ⟨qaj h.hb hg, blk_far (p := ⟨g, 0, none⟩) h.t hn v⟩
theorem keeps1_calls (b1 b2 gd : Nat) (ad : Addr) (c : Nat) (ys : List Int) (x : Int) (A4 : Option Addr) (n4 c4 : Nat) (v0 v1 v2 v3 v5 v6 : Value) (w : World) (hx : 0 ≤ x ∧ x < ys.length) (hr : Kd.C (Kd.int .i64) w (some ad) ys.length ys) (h1 : w.heap[b1]? = some (.cells #[.slice (some ad) ys.length c] 23 (0, 0))) (h2 : w.heap[b2]? = some (.cells #[.pointer (some ⟨gd, 0, none⟩)] 84 (0, 0)))
  (hd : w.heap[gd]? = some (.cells #[v0, v1, v2, v3, .slice A4 n4 c4, v5, v6] 123 (0, 0))) :
  Calls Try.prog 98 #[.int .i64 x, .pointer (some ⟨b1, 0, none⟩), .pointer (some ⟨b2, 0, none⟩)] w fun e w' => e = .returned (.bool (decide (rd ys x < n4))) ∧ Below w.heap.size w w' := by
 have hu123 := Try.underlying123
 have hu27 := Try.underlying27
 have q0 : w.cell? ⟨b1, 0, none⟩ = some (.slice (some ad) ys.length c) := (qaa h1 0).trans rfl
 have q2 : w.cell? ⟨b2, 0, none⟩ = some (.pointer (some ⟨gd, 0, none⟩)) := (qaa h2 0).trans rfl
 have q3 : w.cell? ⟨gd, 4, none⟩ = some (.slice A4 n4 c4) := (qaa hd 4).trans rfl
 obtain ⟨_, e, q1⟩ := Kd.at_int hr x hx.1 hx.2
 cases e
 obtain ⟨hx0, hx1⟩ := hx
 clear hr h1 h2 hd
 go_enter Try.func98, Try.ntmps98
 go_upto_region 1 with fail
 refine start_ (n := 12) (S := (fun w' => (w'.cell? ⟨b1, 0, none⟩ = some (.slice (some ad) ys.length c) ∧ w'.cell? (ad.add x.toNat) = some (.int .i64 (rd ys x)) ∧ w'.cell? ⟨b2, 0, none⟩ = some (.pointer (some ⟨gd, 0, none⟩)) ∧ w'.cell? ⟨gd, 4, none⟩ = some (.slice A4 n4 c4)))) (ds := []) (msk 12 0) (by kernel_rfl) rfl rfl ⟨q0, q1, q2, q3⟩ (fun hHeld => ?_)
 refine zt4 0 1 5 hHeld ?_
 refine zq 1 2 6 ?_
 refine zq 2 3 7 ?_
 refine zt4 3 4 8 hHeld ?_
 refine zt4 4 5 9 hHeld ?_
 refine zq 5 6 10 ?_
 refine zq 6 7 11 ?_
 refine zq 7 8 12 ?_
 refine zt4 8 9 13 hHeld ?_
 refine zq 9 10 14 ?_
 refine zq 10 11 15 ?_
 refine zq 11 12 4 ?_
 refine done_ (by kernel_rfl) ?_
 go_wp2
 go_ret
 exact ⟨rfl, qaq (Below.refl _ _)⟩
theorem keeps_calls (a0_0 : Int) (A0_1 : Option Addr) (c0_1 : Nat) (l0_1 : List S44) (A0_2 : Option Addr) (c0_2 : Nat) (l0_2 : List Int) (A0_3 : Option Addr) (c0_3 : Nat) (l0_3 : List Int) (A0_4 : Option Addr) (c0_4 : Nat) (l0_4 : List S41) (A0_5 : Option Addr) (c0_5 : Nat) (l0_5 : List S95) (d : Int) (gd : Nat) (w : World) (hr0_1 : Kd.C k44 w A0_1 l0_1.length l0_1) (hc0_1 : l0_1.length ≤ c0_1) (hr0_2 : Kd.C (Kd.int .i64) w A0_2 l0_2.length l0_2) (hc0_2 : l0_2.length ≤ c0_2) (hr0_3 : Kd.C (Kd.int .i64) w A0_3 l0_3.length l0_3) (hc0_3 : l0_3.length ≤ c0_3) (hr0_4 : Kd.C k41 w A0_4 l0_4.length l0_4) (hc0_4 : l0_4.length ≤ c0_4) (hr0_5 : Kd.C k95 w A0_5 l0_5.length l0_5) (hc0_5 : l0_5.length ≤ c0_5) (hV : ValidF a0_0 l0_1 l0_2 l0_3 l0_4 l0_5) (hd : w.heap[gd]? = some (.cells #[.int .i64 a0_0, .slice A0_1 l0_1.length c0_1, .slice A0_2 l0_2.length c0_2, .slice A0_3 l0_3.length c0_3, .slice A0_4 l0_4.length c0_4, .slice A0_5 l0_5.length c0_5, .int .i64 d] 123 (0, 0))) :
  Calls Try.prog 70 #[.pointer (some ⟨gd, 0, none⟩)] w fun e w' => e = .returned (.bool (keepsB a0_0 l0_1 l0_2 l0_3 l0_4 d)) ∧ Below w.heap.size w w' := by
 have hu123 := Try.underlying123
 have hu27 := Try.underlying27
 have hmf : ∀ (fn : Fn) (first cap : Array Value) (w : World), (Instr.makeFunc fn first cap).run Try.prog w = .ok (.func fn first cap) w := fun _ _ _ _ => rfl
 have HB := qab.mk (Below.refl w.heap.size w)
 have HV := qab.mk hV
 have hn4 := hV.n4
 have hpp := hV.pp
 have HD := qab.mk hd
 obtain ⟨T, hT⟩ : ∃ T, T = l0_4.map (·.f1) := ⟨_, rfl⟩
 obtain ⟨F, hF⟩ : ∃ F, F = foulV a0_0.toNat l0_1 l0_2 d T := ⟨_, rfl⟩
 have HTL : qab (T.length = l0_4.length) := ⟨by rw [hT]; simp⟩
 have HFL : qab (F.length = a0_0.toNat) := ⟨by rw [hF]; exact foulV_length _ _ _ _ _⟩
 have HFE : qab (F = foulV a0_0.toNat l0_1 l0_2 d (l0_4.map (·.f1))) := ⟨by rw [hF, hT]⟩
 have HMO : qab (∀ W, Below w.heap.size w W → Calls Try.prog 58 #[.pointer (some ⟨gd, 0, none⟩)] W fun e w' => ∃ v, e = .returned v ∧ Kd.R (Kd.int .i64) 3 w' W.heap.size (fun _ => True) v T ∧ Below W.heap.size W w') := ⟨fun W hW => by rw [hT]; exact most_calls gd _ _ _ _ _ _ _ l0_4 _ W (Kd.qai hr0_4 hW) (by omega) (qad hd hW)⟩
 have HFO : qab (∀ W (ad : Addr) (c : Nat), Below w.heap.size w W → Kd.C (Kd.int .i64) W (some ad) T.length T → Calls Try.prog 56 #[.pointer (some ⟨gd, 0, none⟩), .slice (some ad) T.length c] W fun e w' => ∃ v, e = .returned v ∧ Kd.R (Kd.int .i64) 3 w' W.heap.size (fun _ => True) v F ∧ Below W.heap.size W w') := ⟨fun W ad c hW ht => by rw [hF]; exact foulG a0_0 A0_1 c0_1 l0_1 A0_2 c0_2 l0_2 A0_3 c0_3 l0_3 A0_4 c0_4 l0_4 A0_5 c0_5 l0_5 d gd _ c T W (Kd.qai hr0_1 hW) hc0_1 (Kd.qai hr0_2 hW) hc0_2 (Kd.qai hr0_3 hW) hc0_3 (Kd.qai hr0_4 hW) hc0_4 (Kd.qai hr0_5 hW) hc0_5 ht (by have := HTL.out; omega) hV (qad hd hW)⟩
 clear hT hF
 have HR3 := qab.mk hr0_3
 clear hr0_1 hr0_2 hr0_3 hr0_4 hr0_5 hV hd
 go_enter Try.func70, Try.ntmps70
 go_upto_region 1 with ((with_reducible refine qam (N := 1) rfl ?_); refine ze 1 #[.pointer (some ⟨gd, 0, none⟩)] 84 ?_; intro gt hg_gt w2 hbox hb; have BKgt := qab.mk hbox; have n_HB := qab.mk (qae HB.out hb); have GEgt : w.heap.size ≤ gt := (by rw [hg_gt]; exact HB.out.size); clear HB; have HB := n_HB; clear n_HB; obtain ⟨hfgt, hcgt_0⟩ := qz1 BKgt.out; clear hbox hb hg_gt)
 have HK : qab (KI w gt gd w2) := ⟨⟨HB.out, BKgt.out⟩⟩
 have HT : qab (∀ W, KI w gt gd W → (W.cell? ⟨gt, 0, none⟩ = some (.pointer (some ⟨gd, 0, none⟩)) ∧ qab (KI w gt gd W))) := ⟨fun W h => ⟨(qaa h.t 0).trans rfl, ⟨h⟩⟩⟩
 clear hfgt hcgt_0
 refine start_ (n := 6) (S := (fun w' => (w'.cell? ⟨gt, 0, none⟩ = some (.pointer (some ⟨gd, 0, none⟩)) ∧ qab (KI w gt gd w')))) (ds := [5]) (msk 6 0) (by kernel_rfl) rfl rfl (HT.out _ (HK.out.below (qaq (Below.refl _ _)))) (fun hHeld => ?_)
 refine zt2 0 1 4 hHeld ?_
 refine zt2 1 2 5 hHeld ?_
 refine join_ (σ := Addr × Nat × Addr × Nat × Nat) 1 (msk 6 5) (fun s_ => [(6, .slice (some s_.1) T.length s_.2.1), (7, .slice (some s_.2.2.1) F.length s_.2.2.2.1), (3, .pointer (some ⟨s_.2.2.2.2, 0, none⟩))]) (fun s_ w' => (w'.cell? ⟨gt, 0, none⟩ = some (.pointer (some ⟨gd, 0, none⟩)) ∧ qab (KI w gt gd w')) ∧ w'.heap[s_.2.2.2.2]? = some (.cells #[.slice none 0 0] 23 (0, 0)) ∧ w.heap.size ≤ s_.2.2.2.2 ∧ gt ≠ s_.2.2.2.2 ∧ Kd.R (Kd.int .i64) 3 w' w.heap.size (fun _ => True) (.slice (some s_.2.2.1) F.length s_.2.2.2.1) F) ?_ ?_
 rotate_left
 ·
  intro hCont
  refine two_ (i := 2) (j := 4) (Ni := some 6) (Nj := some 3) (msk 6 3) #[true, true, false, false, true, false] rfl rfl rfl rfl (by kernel_rfl) (by decide) (by decide) (fun K hK => ?_) (fun K hK => ?_)
  ·
   refine zg Try.func58 #[.pointer (some ⟨gd, 0, none⟩)] ?_
   refine (HMO.out _ hHeld.2.out.hb).mono ?_; rintro e w5 ⟨v1, rfl, hR, hb⟩; obtain ⟨ad, ca, eF⟩ := Kd.R_slice1 hR (by rw [HTL.out]; omega); subst eF; have HTH := qab.mk (Kd.R_reads' hR).2.2; have HP5 := qab.mk (HT.out w5 (hHeld.2.out.below hb)); clear hb hR; refine ⟨_, rfl, ?_⟩; refine hK.out _ _ HP5.out (fun hHeld => ?_); clear hK K; refine zn 6 ?_
   refine two_ (i := 3) (j := 4) (Ni := some 7) (Nj := some 3) (msk 6 4) #[true, true, true, false, true, false] rfl rfl rfl rfl (by kernel_rfl) (by decide) (by decide) (fun K hK => ?_) (fun K hK => ?_)
   ·
    refine zg Try.func56 #[.pointer (some ⟨gd, 0, none⟩), .slice (some ad) T.length ca] ?_
    refine (HFO.out _ ad ca hHeld.2.out.hb HTH.out).mono ?_; rintro e w6 ⟨v2, rfl, hR, hb⟩; obtain ⟨aF, cF, eF⟩ := Kd.R_slice1 hR (by rw [HFL.out]; omega); subst eF; have HRV := qab.mk (Kd.R_lower hR hHeld.2.out.hb.size); have HP6 := qab.mk (HT.out w6 (hHeld.2.out.below hb)); clear hb hR; refine ⟨_, rfl, ?_⟩; refine hK.out _ _ HP6.out (fun hHeld => ?_); clear hK K; refine zn 7 ?_
    refine one_ (i := 4) (N := some 3) (msk 6 5) rfl rfl (by kernel_rfl) (by decide) (fun K hK => ?_)
    refine box_step ?hg (N := 3) ?hd (cs := #[.slice none 0 0]) (t := 23) ?hr ?_; (case hd => rfl); (case hg => rfl); (case hr => first | (go_simp; done) | (go_simp; rfl)); intro ga hg_ wb BA hb; (try (replace HRV := qab.mk (Kd.qal HRV.out hb))); (try (replace HTH := qab.mk (Kd.qai HTH.out hb))); have GA : w.heap.size ≤ ga := (by rw [hg_]; exact hHeld.2.out.hb.size); have NA := (hHeld.2.out.ne hg_); clear hg_; refine hK.out _ _ (HT.out wb (hHeld.2.out.below hb)) (fun hHeld => ?_); clear hK K hb; refine zn 3 ?_
    exact norm_ (by simp only [putAll, Act.put, qzA, qzB, qzC]) (hCont (ad, ca, aF, cF, ga) _ ⟨hHeld, BA, GA, NA, HRV.out⟩)
   ·
    refine box_step ?hg (N := 3) ?hd (cs := #[.slice none 0 0]) (t := 23) ?hr ?_; (case hd => rfl); (case hg => rfl); (case hr => first | (go_simp; done) | (go_simp; rfl)); intro ga hg_ wb BA hb; (try (replace HRV := qab.mk (Kd.qal HRV.out hb))); (try (replace HTH := qab.mk (Kd.qai HTH.out hb))); have GA : w.heap.size ≤ ga := (by rw [hg_]; exact hHeld.2.out.hb.size); have NA := (hHeld.2.out.ne hg_); clear hg_; refine hK.out _ _ (HT.out wb (hHeld.2.out.below hb)) (fun hHeld => ?_); clear hK K hb; refine zn 3 ?_
    refine one_ (i := 3) (N := some 7) (msk 6 5) rfl rfl (by kernel_rfl) (by decide) (fun K hK => ?_)
    refine zg Try.func56 #[.pointer (some ⟨gd, 0, none⟩), .slice (some ad) T.length ca] ?_
    refine (HFO.out _ ad ca hHeld.2.out.hb HTH.out).mono ?_; rintro e w6 ⟨v2, rfl, hR, hb⟩; replace BA := qad BA hb; obtain ⟨aF, cF, eF⟩ := Kd.R_slice1 hR (by rw [HFL.out]; omega); subst eF; have HRV := qab.mk (Kd.R_lower hR hHeld.2.out.hb.size); have HP6 := qab.mk (HT.out w6 (hHeld.2.out.below hb)); clear hb hR; refine ⟨_, rfl, ?_⟩; refine hK.out _ _ HP6.out (fun hHeld => ?_); clear hK K; refine zn 7 ?_
    exact norm_ (by simp only [putAll, Act.put, qzA, qzB, qzC]) (hCont (ad, ca, aF, cF, ga) _ ⟨hHeld, BA, GA, NA, HRV.out⟩)
  ·
   refine box_step ?hg (N := 3) ?hd (cs := #[.slice none 0 0]) (t := 23) ?hr ?_; (case hd => rfl); (case hg => rfl); (case hr => first | (go_simp; done) | (go_simp; rfl)); intro ga hg_ wb BA hb; (try (replace HRV := qab.mk (Kd.qal HRV.out hb))); (try (replace HTH := qab.mk (Kd.qai HTH.out hb))); have GA : w.heap.size ≤ ga := (by rw [hg_]; exact hHeld.2.out.hb.size); have NA := (hHeld.2.out.ne hg_); clear hg_; refine hK.out _ _ (HT.out wb (hHeld.2.out.below hb)) (fun hHeld => ?_); clear hK K hb; refine zn 3 ?_
   refine one_ (i := 2) (N := some 6) #[true, true, true, false, true, false] rfl rfl (by kernel_rfl) (by decide) (fun K hK => ?_)
   refine zg Try.func58 #[.pointer (some ⟨gd, 0, none⟩)] ?_
   refine (HMO.out _ hHeld.2.out.hb).mono ?_; rintro e w5 ⟨v1, rfl, hR, hb⟩; replace BA := qad BA hb; obtain ⟨ad, ca, eF⟩ := Kd.R_slice1 hR (by rw [HTL.out]; omega); subst eF; have HTH := qab.mk (Kd.R_reads' hR).2.2; have HP5 := qab.mk (HT.out w5 (hHeld.2.out.below hb)); clear hb hR; refine ⟨_, rfl, ?_⟩; refine hK.out _ _ HP5.out (fun hHeld => ?_); clear hK K; refine zn 6 ?_
   refine one_ (i := 3) (N := some 7) (msk 6 5) rfl rfl (by kernel_rfl) (by decide) (fun K hK => ?_)
   refine zg Try.func56 #[.pointer (some ⟨gd, 0, none⟩), .slice (some ad) T.length ca] ?_
   refine (HFO.out _ ad ca hHeld.2.out.hb HTH.out).mono ?_; rintro e w6 ⟨v2, rfl, hR, hb⟩; replace BA := qad BA hb; obtain ⟨aF, cF, eF⟩ := Kd.R_slice1 hR (by rw [HFL.out]; omega); subst eF; have HRV := qab.mk (Kd.R_lower hR hHeld.2.out.hb.size); have HP6 := qab.mk (HT.out w6 (hHeld.2.out.below hb)); clear hb hR; refine ⟨_, rfl, ?_⟩; refine hK.out _ _ HP6.out (fun hHeld => ?_); clear hK K; refine zn 7 ?_
   exact norm_ (by simp only [putAll, Act.put, qzA, qzB, qzC]) (hCont (ad, ca, aF, cF, ga) _ ⟨hHeld, BA, GA, NA, HRV.out⟩)
 rintro ⟨ad, ca, aF, cF, g3⟩ wj ⟨hS_, BA_, GA_, NA_, hR_⟩
 have hHeld := hS_
 have fA_ := qac BA_; have cA_ := qaa BA_ 0
 simp only [putAll, Act.put, qzA, qzB, qzC]
 refine last_ (i := 5) (N := none) (msk 6 6) rfl rfl (by kernel_rfl) (by decide) (fun K hK => ?_); refine skip_ (w1 := ?_) (by rfl) rfl ?_ ?_; rotate_left; (focus (go_simp; rfl)); refine hK.out _ _ ?_; clear hK K hHeld
 have HP9 := qab.mk (HT.out (wj.setCell ⟨g3, 0, none⟩ (.slice (some aF) F.length cF)) (hS_.2.out.put GA_ NA_ _)); have HRV9 := qab.mk (Kd.R_set hR_ BA_ (by decide) 0 (.slice (some aF) F.length cF)); have BK9 := qab.mk (blk_set BA_ 0 (.slice (some aF) F.length cF)); generalize wj.setCell ⟨g3, 0, none⟩ (.slice (some aF) F.length cF) = w9 at HP9 HRV9 BK9 ⊢; clear hS_ BA_ GA_ NA_ hR_ fA_ cA_
 refine done_ (by kernel_rfl) ?_
 have f0 : w9.cell? ⟨gt, 0, none⟩ = some (.pointer (some ⟨gd, 0, none⟩)) := HP9.out.1
 have f3 : w9.cell? ⟨gd, 3, none⟩ = some (.slice A0_3 l0_3.length c0_3) := (qaa (qad HD.out HP9.out.2.out.hb) 3).trans rfl
 have HHAS : qab (Calls Try.prog 74 #[.slice A0_3 l0_3.length c0_3, .func (.func 98) #[] #[.pointer (some ⟨g3, 0, none⟩), .pointer (some ⟨gt, 0, none⟩)]] w9 fun e w' => e = .returned (.bool (l0_3.any fun x => decide (rd F x < l0_4.length))) ∧ Below w9.heap.size w9 w') := ⟨has98 _ _ l0_3 A0_3 c0_3 (fun x => decide (rd F x < l0_4.length)) w9 (Kd.qai HR3.out HP9.out.2.out.hb) (fun i W h0 h1 hW => by
  have hx := HV.out.w3 (rd l0_3 i) (by
   obtain ⟨k, rfl⟩ := Int.eq_ofNat_of_zero_le h0
   have hk : k < l0_3.length := by omega
   simp [rd, hk])
  exact keeps1_calls g3 gt gd aF cF _ (rd l0_3 i) A0_4 l0_4.length c0_4 _ _ _ _ _ _ W ⟨hx.1, by rw [HFL.out]; omega⟩ (Kd.R_reads' (Kd.qal HRV9.out hW)).2.2 (qad BK9.out hW) (qad HP9.out.2.out.t hW) (qad (qad HD.out HP9.out.2.out.hb) hW))⟩
 have HB9 := qab.mk HP9.out.2.out.hb
 clear HP9
 go_wp2_with (go_at_call 74; (with_reducible refine HHAS.out.mono ?_); rintro e wz ⟨rfl, hb⟩; have HBZ := qab.mk (qae HB9.out hb); clear hb)
 go_ret
 exact ⟨by rw [show keepsB a0_0 l0_1 l0_2 l0_3 l0_4 d = !(l0_3.any fun x => decide (rd F x < l0_4.length)) from by rw [HFE.out]; rfl]; rfl, HBZ.out⟩
end Go.Proofs.Ytafkanmioinbiaa.SA
