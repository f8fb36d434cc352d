/- What functions of the program answer. No condition. -/
import Derived.RangeFuncNested
import Derived.RangeFuncBound
import Derived.RangeFuncCalls
import Derived.RangeFuncLeaves
import Derived.RangeFuncBox
import Derived.Shelf.Abstract
import Derived.Shelf.RegionOpen
import Derived.OwnWalkIn
import Derived.TacticsInMore
import Derived.LoopNIn
import Derived.LoopIn
import Derived.Recover
import Derived.Defers
import Derived.WalkLawsBesides
import Derived.WalkSmall
import Derived.Test.YtipphcjgdebecaaPmC
import Derived.Test.YtipphcjgdebecaaSC
import Derived.Test.YtipphcjgdebecaaSM
import Derived.Test.YtipphcjgdebecaaPmA
import Derived.Test.YtipphcjgdebecaaPmB
import Derived.Test.YtipphcjgdebecaaSD
import Derived.Test.YtipphcjgdebecaaSF
set_option linter.all false
set_option maxRecDepth 100000
set_option maxHeartbeats 8000000
namespace Go.Proofs.Ytipphcjgdebecaa.PA
open Go.RowKit Go.Shelf Go.Proofs.YtipphcjgdebecaaW.PrintWords Go.Proofs.YtipphcjgdebecaaW.PrintLast Go.Proofs.YtipphcjgdebecaaW.PrintMore
attribute [local go_sem] qas qau max_two min_two qao qap qat qav
theorem more_go (A0_0 : Option Addr) (c0_0 : Nat) (l0_0 : List S39) (A0_1 : Option Addr) (c0_1 : Nat) (l0_1 : List S37) (A0_2 : Option Addr) (c0_2 : Nat) (l0_2 : List (List Int)) (a1 a2 a3 a4 a5 : Int) (w : World)
  (hr0_0 : Kd.C k39 w A0_0 l0_0.length l0_0) (hc0_0 : l0_0.length ≤ c0_0) (hr0_1 : Kd.C k37 w A0_1 l0_1.length l0_1) (hc0_1 : l0_1.length ≤ c0_1) (hr0_2 : Kd.C (Kd.slice 3 (Kd.int .i64)) w A0_2 l0_2.length l0_2) (hc0_2 : l0_2.length ≤ c0_2)
  (hsh : Short l0_0 l0_1 l0_2) (hv : validB l0_0 l0_1 l0_2 = true) (h4 : l0_0.length ≤ 4) (hp : 0 ≤ a1 ∧ a1 ≤ (l0_0.length : Int)) (hf : inFault l0_0 a2 = true) (hi : 0 ≤ a3 ∧ a3 < (l0_0.length : Int)) (m0 : 0 ≤ a4) (m1 : a4 ≤ 72) (hfs : inFault l0_0 a5 = true) :
  Calls Try.prog 10 #[.agg #[.slice A0_0 l0_0.length c0_0, .slice A0_1 l0_1.length c0_1, .slice A0_2 l0_2.length c0_2], .int .i64 a1, .int .i64 a2, .int .i64 a3, .int .i64 a4, .int .i64 a5] w fun e w' => e = .returned (.bool true) ∧ Below w.heap.size w w' := by
 have hu26 := Try.underlying26
 have hu37 := Try.underlying37
 have hu39 := Try.underlying39
 have HB := qab.mk (Below.refl w.heap.size w)
 have HR0 := qab.mk hr0_0
 have HR1 := qab.mk hr0_1
 have HR2 := qab.mk hr0_2
 clear hr0_0 hr0_1 hr0_2
 have HHV := qab.mk hv
 have hN := net_ok hv
 have hn0 := hN.n0
 have hn1 := hN.n1
 have hh := hN.h1
 have HMW := qab.mk hN.m
 have HSHORT : qab (∀ W, Below w.heap.size w W → Calls Try.prog 16 #[.agg #[.slice A0_0 l0_0.length c0_0, .slice A0_1 l0_1.length c0_1, .slice A0_2 l0_2.length c0_2]] W fun e w' => e = .returned (.bool (shortB l0_0 l0_1 l0_2)) ∧ Below W.heap.size W w') := ⟨fun W hW => (taliklaw04_short.calls 30 _ _ l0_0 _ _ l0_1 _ _ l0_2 _ W (Kd.qak HR0.out hW) hc0_0 (Kd.qak HR1.out hW) hc0_1 (Kd.qak HR2.out hW) hc0_2 (short_eq l0_0 l0_1 l0_2 30 (by omega))).mono fun e w' ⟨h1, h2⟩ => ⟨h1, h2⟩⟩
 have HKNOWN : qab (∀ W, Below w.heap.size w W → Calls Try.prog 17 #[] W fun e w' => e = .returned (.bool true) ∧ Below W.heap.size W w') := ⟨fun W hW => taliklaw04_known.calls true W rfl⟩
 have HNET : qab (∀ W, Below w.heap.size w W → Calls Try.prog 19 #[.agg #[.slice A0_0 l0_0.length c0_0, .slice A0_1 l0_1.length c0_1, .slice A0_2 l0_2.length c0_2]] W fun e w' => e = .returned (.bool (validB l0_0 l0_1 l0_2)) ∧ Below W.heap.size W w') := ⟨fun W hW => (talikref04_Net.calls _ _ l0_0 _ _ l0_1 _ _ l0_2 _ W (Kd.qak HR0.out hW) hc0_0 (Kd.qak HR1.out hW) hc0_1 (Kd.qak HR2.out hW) hc0_2 (net_eq l0_0 l0_1 l0_2 hsh 300 (by omega))).mono fun e w' ⟨h1, h2⟩ => ⟨h1, h2⟩⟩
 rw [of_short hsh] at HSHORT
 rw [hv] at HNET
 have HPLA : qab (∀ W, Below w.heap.size w W → Calls Try.prog 25 #[.agg #[.slice A0_0 l0_0.length c0_0, .slice A0_1 l0_1.length c0_1, .slice A0_2 l0_2.length c0_2], .int .i64 a1] W fun e w' => e = .returned (.bool true) ∧ Below W.heap.size W w') := ⟨fun W hW => (talikref04_Place.calls _ _ l0_0 _ _ l0_1 _ _ l0_2 a1 _ W (Kd.qak HR0.out hW) hc0_0 (Kd.qak HR1.out hW) hc0_1 (Kd.qak HR2.out hW) hc0_2 (by rw [rplace_eq, inB_of hp.1 hp.2])).mono fun e w' ⟨h1, h2⟩ => ⟨h1, h2⟩⟩
 have HFA : qab (∀ W, Below w.heap.size w W → Calls Try.prog 26 #[.agg #[.slice A0_0 l0_0.length c0_0, .slice A0_1 l0_1.length c0_1, .slice A0_2 l0_2.length c0_2], .int .i64 a2] W fun e w' => e = .returned (.bool true) ∧ Below W.heap.size W w') := ⟨fun W hW => (talikref04_Fault.calls 10 _ _ l0_0 _ _ l0_1 _ _ l0_2 a2 _ W (Kd.qak HR0.out hW) hc0_0 (Kd.qak HR1.out hW) hc0_1 (Kd.qak HR2.out hW) hc0_2 (by rw [rfault_eq l0_0 l0_1 l0_2 (by omega) a2 10 (by omega), hf])).mono fun e w' ⟨h1, h2⟩ => ⟨h1, h2⟩⟩
 have HFS : qab (∀ W, Below w.heap.size w W → Calls Try.prog 26 #[.agg #[.slice A0_0 l0_0.length c0_0, .slice A0_1 l0_1.length c0_1, .slice A0_2 l0_2.length c0_2], .int .i64 a5] W fun e w' => e = .returned (.bool true) ∧ Below W.heap.size W w') := ⟨fun W hW => (talikref04_Fault.calls 10 _ _ l0_0 _ _ l0_1 _ _ l0_2 a5 _ W (Kd.qak HR0.out hW) hc0_0 (Kd.qak HR1.out hW) hc0_1 (Kd.qak HR2.out hW) hc0_2 (by rw [rfault_eq l0_0 l0_1 l0_2 (by omega) a5 10 (by omega), hfs])).mono fun e w' ⟨h1, h2⟩ => ⟨h1, h2⟩⟩
 have HLO : qab (∀ W, Below w.heap.size w W → Calls Try.prog 20 #[.agg #[.slice A0_0 l0_0.length c0_0, .slice A0_1 l0_1.length c0_1, .slice A0_2 l0_2.length c0_2], .int .i64 a3] W fun e w' => e = .returned (.bool true) ∧ Below W.heap.size W w') := ⟨fun W hW => (talikref04_IsLoop.calls _ _ l0_0 _ _ l0_1 _ _ l0_2 a3 _ W (Kd.qak HR0.out hW) hc0_0 (Kd.qak HR1.out hW) hc0_1 (Kd.qak HR2.out hW) hc0_2 (by rw [isloop_eq, (isloop_iff hN a3).2 hi])).mono fun e w' ⟨h1, h2⟩ => ⟨h1, h2⟩⟩
 obtain ⟨i, rfl⟩ := Int.eq_ofNat_of_zero_le hi.1
 have hi0 := hi.1
 have hi1 := hi.2
 have d1 : decide ((4 : Int) < l0_0.length) = false := decide_eq_false (by omega)
 have d2 : decide (a4 < 0) = false := decide_eq_false (by omega)
 have d3 : decide ((72 : Int) < a4) = false := decide_eq_false (by omega)
 have HHF := qab.mk (And.intro hp (And.intro hf hfs))
 clear hN hp hf hfs hsh hi hv
 go_enter Try.func10, Try.ntmps10
 go_upto_region 3 with (first | ((with_reducible refine qam (N := 6) rfl ?_); refine qal ?hg (N := 6) ?hd (cs := #[.slice A0_0 l0_0.length c0_0, .slice A0_1 l0_1.length c0_1, .slice A0_2 l0_2.length c0_2]) (t := 26) ?hr ?_; (case hd => rfl); (case hg => rfl); (case hr => first | (go_simp; done) | (go_simp; rfl)); intro gb hg_gb w2 hbox hb; have BKgb := qab.mk hbox; have n_HB := qab.mk (qad HB.out hb); have GEgb : w.heap.size ≤ gb := (by rw [hg_gb]; exact HB.out.size); clear HB; have HB := n_HB; clear n_HB; obtain ⟨hfgb, hcgb_0, hcgb_1, hcgb_2⟩ := qz3 BKgb.out; clear hbox hb hg_gb) | (go_at_call 16; with_reducible refine (HSHORT.out _ HB.out).mono ?_; rintro e wn ⟨rfl, hb⟩; replace BKgb := qab.mk (qae BKgb.out hb); replace HB := qab.mk (qad HB.out hb); clear hb; obtain ⟨hfgb, hcgb_0, hcgb_1, hcgb_2⟩ := qz3 BKgb.out) | (go_at_call 19; with_reducible refine (HNET.out _ HB.out).mono ?_; rintro e wn ⟨rfl, hb⟩; replace BKgb := qab.mk (qae BKgb.out hb); replace HB := qab.mk (qad HB.out hb); clear hb; obtain ⟨hfgb, hcgb_0, hcgb_1, hcgb_2⟩ := qz3 BKgb.out) | (go_at_call 25; with_reducible refine (HPLA.out _ HB.out).mono ?_; rintro e wn ⟨rfl, hb⟩; replace BKgb := qab.mk (qae BKgb.out hb); replace HB := qab.mk (qad HB.out hb); clear hb; obtain ⟨hfgb, hcgb_0, hcgb_1, hcgb_2⟩ := qz3 BKgb.out) | (go_at_call 26; with_reducible refine (HFA.out _ HB.out).mono ?_; rintro e wn ⟨rfl, hb⟩; replace BKgb := qab.mk (qae BKgb.out hb); replace HB := qab.mk (qad HB.out hb); clear hb; obtain ⟨hfgb, hcgb_0, hcgb_1, hcgb_2⟩ := qz3 BKgb.out) | (go_at_call 26; with_reducible refine (HFS.out _ HB.out).mono ?_; rintro e wn ⟨rfl, hb⟩; replace BKgb := qab.mk (qae BKgb.out hb); replace HB := qab.mk (qad HB.out hb); clear hb; obtain ⟨hfgb, hcgb_0, hcgb_1, hcgb_2⟩ := qz3 BKgb.out) | (go_at_call 20; with_reducible refine (HLO.out _ HB.out).mono ?_; rintro e wn ⟨rfl, hb⟩; replace BKgb := qab.mk (qae BKgb.out hb); replace HB := qab.mk (qad HB.out hb); clear hb; obtain ⟨hfgb, hcgb_0, hcgb_1, hcgb_2⟩ := qz3 BKgb.out))
 clear HSHORT HNET HPLA HFA HFS HLO d1 d2 d3
 go_cut [13] from 30 to 77 (fun s13 w' => ∃ g13, s13 = .pointer (some ⟨g13, 0, none⟩) ∧ qab (MOI w gb g13 #[.slice A0_0 l0_0.length c0_0, .slice A0_1 l0_1.length c0_1, .slice A0_2 l0_2.length c0_2] #[.slice A0_0 l0_0.length c0_0, .slice A0_1 l0_1.length c0_1, .slice A0_2 l0_2.length c0_2] w'))
 case first =>
  go_wp2_with (first | ((with_reducible refine qam (N := 13) rfl ?_); refine qal ?hg (N := 13) ?hd (cs := #[.slice none 0 0, .slice none 0 0, .slice none 0 0]) (t := 26) ?hr ?_; (case hd => rfl); (case hg => rfl); (case hr => first | (go_simp; done) | (go_simp; rfl)); intro g13 hg_g13 w4 hbox hb; have BKg13 := qab.mk hbox; have ne_gb_g13 : gb ≠ g13 := (by rw [hg_g13]; exact Nat.ne_of_lt (blk_lt BKgb.out)); replace BKgb := qab.mk (qae BKgb.out hb); have n_HB := qab.mk (qad HB.out hb); have GEg13 : w.heap.size ≤ g13 := (by rw [hg_g13]; exact HB.out.size); clear HB; have HB := n_HB; clear n_HB; obtain ⟨hfg13, hcg13_0, hcg13_1, hcg13_2⟩ := qz3 BKg13.out; clear hbox hb hg_g13; obtain ⟨hfgb, hcgb_0, hcgb_1, hcgb_2⟩ := qz3 BKgb.out))
  have he_ : setAll w4 g13 [.slice A0_0 l0_0.length c0_0, .slice A0_1 l0_1.length c0_1, .slice A0_2 l0_2.length c0_2] 0 = (((w4.setCell ⟨g13, 0, none⟩ (.slice A0_0 l0_0.length c0_0)).setCell ⟨g13, 1, none⟩ (.slice A0_1 l0_1.length c0_1)).setCell ⟨g13, 2, none⟩ (.slice A0_2 l0_2.length c0_2)) := rfl; have hbl := setAll_below GEg13 [.slice A0_0 l0_0.length c0_0, .slice A0_1 l0_1.length c0_1, .slice A0_2 l0_2.length c0_2] 0 _ HB.out; have hbx : (setAll w4 g13 [.slice A0_0 l0_0.length c0_0, .slice A0_1 l0_1.length c0_1, .slice A0_2 l0_2.length c0_2] 0).heap[g13]? = some (.cells #[.slice A0_0 l0_0.length c0_0, .slice A0_1 l0_1.length c0_1, .slice A0_2 l0_2.length c0_2] 26 (0, 0)) := setAll_new [.slice A0_0 l0_0.length c0_0, .slice A0_1 l0_1.length c0_1, .slice A0_2 l0_2.length c0_2] [.slice none 0 0, .slice none 0 0, .slice none 0 0] BKg13.out rfl; have hx_BKgb := setAll_far ne_gb_g13 [.slice A0_0 l0_0.length c0_0, .slice A0_1 l0_1.length c0_1, .slice A0_2 l0_2.length c0_2] 0 _ BKgb.out; rw [he_] at hbl hbx hx_BKgb; clear he_; generalize (((w4.setCell ⟨g13, 0, none⟩ (.slice A0_0 l0_0.length c0_0)).setCell ⟨g13, 1, none⟩ (.slice A0_1 l0_1.length c0_1)).setCell ⟨g13, 2, none⟩ (.slice A0_2 l0_2.length c0_2)) = w5 at hbl hbx hx_BKgb ⊢; clear HB BKg13; have HB := qab.mk hbl; have BKg13 := qab.mk hbx; clear hbl hbx; clear BKgb; have BKgb := qab.mk hx_BKgb; clear hx_BKgb
  go_meet
  case rel => exact ⟨g13, rfl, ⟨⟨BKgb.out, BKg13.out, HB.out, GEg13, ne_gb_g13⟩⟩⟩
 case rest =>
 obtain ⟨g13, rfl, HI⟩ := hcut
 clear hfgb hcgb_0 hcgb_1 hcgb_2 BKgb HB GEgb
 go_upto_region 4 with fail
 go_cut [] from 78 to 81 (fun w' => ∃ vA vc, qab (MOI w gb g13 #[.slice A0_0 l0_0.length c0_0, .slice A0_1 l0_1.length c0_1, .slice A0_2 l0_2.length c0_2] #[.slice vA l0_0.length vc, .slice A0_1 l0_1.length c0_1, (.slice A0_2 l0_2.length c0_2)] w') ∧ qab (k39.R 39 w' w.heap.size (fun _ => True) (.slice vA l0_0.length vc) l0_0))
 case first =>
  have hqb0 : wc.cell? ⟨gb, 0, none⟩ = some (.slice A0_0 l0_0.length c0_0) := (qaa HI.out.b 0).trans rfl; have hqb1 : wc.cell? ⟨gb, 1, none⟩ = some (.slice A0_1 l0_1.length c0_1) := (qaa HI.out.b 1).trans rfl; have hqb2 : wc.cell? ⟨gb, 2, none⟩ = some (.slice A0_2 l0_2.length c0_2) := (qaa HI.out.b 2).trans rfl
  go_wp2_with (((with_reducible refine gate_builtin (b := .append) (xs := #[.const (.slice none 0 0), .tmp 79]) rfl ?_); at_builtin; refine Kd.R_append_rows k39 (w0 := w) w.heap.size rfl (.const (.slice none 0 0)) (.tmp 79) 22 39 (.agg #[.int .i64 0, .int .i64 0, .int .i64 0, .int .i64 0, .int .i64 0, .int .i64 0, .int .i64 0, .int .i64 0, .int .i64 0, .int .i64 0, .int .i64 0, .int .i64 0]) 96 rfl Try.underlying22 info39 rfl (by decide) (by omega) (.slice none 0 0) ([] : List _) (l0_0) _ _ _ (fun _ => True) (fun _ => False) rfl rfl ?aO ?aR (fun _ _ h => h) (fun _ h => h.elim) ?aF ?aB ?aS ?aL ?_; (case aR => exact Kd.qak HR0.out HI.out.hb); (case aB => exact HI.out.hb); (case aF => exact fun _ _ => trivial); (case aO => exact Kd.R_nil _ _ _ _ _); (case aS => exact HI.out.hb.size); (case aL => simp; omega); intro v10 w10 ho hB hg hat; clear hqb0 hqb1 hqb2; replace HI := qab.mk (HI.out.grown hg hB); rw [List.nil_append] at ho; obtain ⟨vA, vc, rfl⟩ := Kd.R_slice ho; have HO := qab.mk ho; clear ho hB hg hat); obtain ⟨hfx, hqx0, hqx1, hqx2⟩ := qz3 HI.out.x)
  go_meet
  case rel => exact ⟨vA, vc, ⟨HI.out.set 0 _⟩, ⟨Kd.R_set HO.out HI.out.x (by decide) 0 _⟩⟩
 case rest =>
 clear HI
 obtain ⟨vA, vc, HI, HO⟩ := hcut
 obtain ⟨gr, c', e, hgr, hgl, cs', hbr⟩ := Kd.R_form HO.out (by omega)
 injection e with e1 _ e3
 subst e1
 subst e3
 have HI5 : qab (MO5 w gb g13 gr #[.slice A0_0 l0_0.length c0_0, .slice A0_1 l0_1.length c0_1, .slice A0_2 l0_2.length c0_2] #[.slice (some ⟨gr, 0, none⟩) l0_0.length vc, .slice A0_1 l0_1.length c0_1, (.slice A0_2 l0_2.length c0_2)] vc l0_0 wc) := ⟨⟨HI.out, HO.out⟩⟩
 obtain ⟨L, hL⟩ : ∃ L, L = qaj l0_0 (i : Int) := ⟨_, rfl⟩
 obtain ⟨fx, hfx⟩ : ∃ x, x = L.f7.f1 := ⟨_, rfl⟩
 have hlL := (net_ok HHV.out).loops _ (rdT39_mem hi0 hi1)
 rw [← hL] at hlL
 have hx0 := hlL.x0
 have hx1 := hlL.x1
 have hx2 := hlL.x2
 rw [← hfx] at hx1 hx2
 have HLE := qab.mk (And.intro hL hfx)
 clear hL hfx hlL
 have HT : qab (∀ W, MO5 w gb g13 gr #[.slice A0_0 l0_0.length c0_0, .slice A0_1 l0_1.length c0_1, .slice A0_2 l0_2.length c0_2] #[.slice (some ⟨gr, 0, none⟩) l0_0.length vc, .slice A0_1 l0_1.length c0_1, (.slice A0_2 l0_2.length c0_2)] vc l0_0 W → (W.cell? ⟨g13, 0, none⟩ = some (.slice (some ⟨gr, 0, none⟩) l0_0.length vc) ∧ W.cell? ⟨gr, i * 12 + 11, none⟩ = some (.int .i64 fx) ∧ qab (MO5 w gb g13 gr #[.slice A0_0 l0_0.length c0_0, .slice A0_1 l0_1.length c0_1, .slice A0_2 l0_2.length c0_2] #[.slice (some ⟨gr, 0, none⟩) l0_0.length vc, .slice A0_1 l0_1.length c0_1, (.slice A0_2 l0_2.length c0_2)] vc l0_0 W))) := ⟨fun W h => ⟨qaa h.m.x 0, by have h1 := row39_at h.r i (by omega) 11 (.int .i64 fx) (by rw [HLE.out.2, HLE.out.1]; rfl); exact h1, ⟨h⟩⟩⟩
 go_upto_region 5 with fail
 go_cut [] from 82 to 97 (fun w' => qab (MO5 w gb g13 gr #[.slice A0_0 l0_0.length c0_0, .slice A0_1 l0_1.length c0_1, .slice A0_2 l0_2.length c0_2] #[.slice (some ⟨gr, 0, none⟩) l0_0.length vc, .slice A0_1 l0_1.length c0_1, (.slice A0_2 l0_2.length c0_2)] vc (longL l0_0 i a4) w'))
 case first =>
  refine start_ (n := 17) (S := (fun w' => (w'.cell? ⟨g13, 0, none⟩ = some (.slice (some ⟨gr, 0, none⟩) l0_0.length vc) ∧ w'.cell? ⟨gr, i * 12 + 11, none⟩ = some (.int .i64 fx) ∧ qab (MO5 w gb g13 gr #[.slice A0_0 l0_0.length c0_0, .slice A0_1 l0_1.length c0_1, .slice A0_2 l0_2.length c0_2] #[.slice (some ⟨gr, 0, none⟩) l0_0.length vc, .slice A0_1 l0_1.length c0_1, (.slice A0_2 l0_2.length c0_2)] vc l0_0 w')))) (ds := [16]) (msk 17 0) (by kernel_rfl) rfl rfl (HT.out _ (HI5.out.drew)) (fun hHeld => ?_)
  have n_I := qab.mk HI5.out.drew; have hbd : wc.drew.heap[gr]? = some (.cells cs' 39 (0, 0)) := hbr; clear HI5 hbr; have HI5 := n_I; clear n_I; generalize wc.drew = wd at HI5 hbd hHeld ⊢; have fr := qac hbd; have d11 : wd.cell? ⟨gr, i * 12 + 10 + 1, none⟩ = some (.int .i64 fx) := hHeld.2.1
  refine pure_ (i := 0) (N := some 82) (v := ?_) (a' := ?_) (msk 17 1) rfl rfl (by kernel_rfl) (fun _ _ _ h => h) (Or.inl ⟨by rfl, ?_⟩) ?_ ?_; rotate_left; (focus (intro w'; go_simp; with_reducible rfl)); rotate_left; (focus (simp only [Act.put, qzA, qzB, qzC, i64_w, i32_w]; rfl))
  refine take_ (i := 1) (N := some 83) (v := ?_) (a' := ?_) (msk 17 2) rfl rfl (by kernel_rfl) (fun _ _ _ h => h) (Or.inl ⟨by rfl, ?_⟩) hHeld ?_ ?_; rotate_left; (focus (rintro w' ⟨s0, s1, s2⟩; go_simp; with_reducible rfl)); rotate_left; (focus (simp only [Act.put, qzA, qzB, qzC, i64_w, i32_w]; rfl))
  refine pure_ (i := 2) (N := some 84) (v := ?_) (a' := ?_) (msk 17 3) rfl rfl (by kernel_rfl) (fun _ _ _ h => h) (Or.inl ⟨by rfl, ?_⟩) ?_ ?_; rotate_left; (focus (intro w'; go_simp; with_reducible rfl)); rotate_left; (focus (simp only [Act.put, qzA, qzB, qzC, i64_w, i32_w]; rfl))
  refine pure_ (i := 3) (N := some 85) (v := ?_) (a' := ?_) (msk 17 4) rfl rfl (by kernel_rfl) (fun _ _ _ h => h) (Or.inl ⟨by rfl, ?_⟩) ?_ ?_; rotate_left; (focus (intro w'; go_simp; with_reducible rfl)); rotate_left; (focus (simp only [Act.put, qzA, qzB, qzC, i64_w, i32_w]; rfl))
  refine take_ (i := 4) (N := some 86) (v := ?_) (a' := ?_) (msk 17 5) rfl rfl (by kernel_rfl) (fun _ _ _ h => h) (Or.inl ⟨by rfl, ?_⟩) hHeld ?_ ?_; rotate_left; (focus (rintro w' ⟨s0, s1, s2⟩; go_simp; with_reducible rfl)); rotate_left; (focus (simp only [Act.put, qzA, qzB, qzC, i64_w, i32_w]; rfl))
  refine pure_ (i := 5) (N := some 87) (v := ?_) (a' := ?_) (msk 17 6) rfl rfl (by kernel_rfl) (fun _ _ _ h => h) (Or.inl ⟨by rfl, ?_⟩) ?_ ?_; rotate_left; (focus (intro w'; go_simp; with_reducible rfl)); rotate_left; (focus (simp only [Act.put, qzA, qzB, qzC, i64_w, i32_w]; rfl))
  refine pure_ (i := 6) (N := some 88) (v := ?_) (a' := ?_) (msk 17 7) rfl rfl (by kernel_rfl) (fun _ _ _ h => h) (Or.inl ⟨by rfl, ?_⟩) ?_ ?_; rotate_left; (focus (intro w'; go_simp; with_reducible rfl)); rotate_left; (focus (simp only [Act.put, qzA, qzB, qzC, i64_w, i32_w]; rfl))
  refine pure_ (i := 7) (N := some 89) (v := ?_) (a' := ?_) (msk 17 8) rfl rfl (by kernel_rfl) (fun _ _ _ h => h) (Or.inl ⟨by rfl, ?_⟩) ?_ ?_; rotate_left; (focus (intro w'; go_simp; with_reducible rfl)); rotate_left; (focus (simp only [Act.put, qzA, qzB, qzC, i64_w, i32_w]; rfl))
  refine pure_ (i := 8) (N := some 90) (v := ?_) (a' := ?_) (msk 17 9) rfl rfl (by kernel_rfl) (fun _ _ _ h => h) (Or.inl ⟨by rfl, ?_⟩) ?_ ?_; rotate_left; (focus (intro w'; go_simp; with_reducible rfl)); rotate_left; (focus (simp only [Act.put, qzA, qzB, qzC, i64_w, i32_w]; rfl))
  refine take_ (i := 9) (N := some 91) (v := ?_) (a' := ?_) (msk 17 10) rfl rfl (by kernel_rfl) (fun _ _ _ h => h) (Or.inl ⟨by rfl, ?_⟩) hHeld ?_ ?_; rotate_left; (focus (rintro w' ⟨s0, s1, s2⟩; go_simp; with_reducible rfl)); rotate_left; (focus (simp only [Act.put, qzA, qzB, qzC, i64_w, i32_w]; rfl))
  refine pure_ (i := 10) (N := some 92) (v := ?_) (a' := ?_) (msk 17 11) rfl rfl (by kernel_rfl) (fun _ _ _ h => h) (Or.inl ⟨by rfl, ?_⟩) ?_ ?_; rotate_left; (focus (intro w'; go_simp; with_reducible rfl)); rotate_left; (focus (simp only [Act.put, qzA, qzB, qzC, i64_w, i32_w]; rfl))
  refine pure_ (i := 11) (N := some 93) (v := ?_) (a' := ?_) (msk 17 12) rfl rfl (by kernel_rfl) (fun _ _ _ h => h) (Or.inl ⟨by rfl, ?_⟩) ?_ ?_; rotate_left; (focus (intro w'; go_simp; with_reducible rfl)); rotate_left; (focus (simp only [Act.put, qzA, qzB, qzC, i64_w, i32_w]; rfl))
  refine pure_ (i := 12) (N := some 94) (v := ?_) (a' := ?_) (msk 17 13) rfl rfl (by kernel_rfl) (fun _ _ _ h => h) (Or.inl ⟨by rfl, ?_⟩) ?_ ?_; rotate_left; (focus (intro w'; go_simp; with_reducible rfl)); rotate_left; (focus (simp only [Act.put, qzA, qzB, qzC, i64_w, i32_w]; rfl))
  refine pure_ (i := 13) (N := some 95) (v := ?_) (a' := ?_) (msk 17 14) rfl rfl (by kernel_rfl) (fun _ _ _ h => h) (Or.inl ⟨by rfl, ?_⟩) ?_ ?_; rotate_left; (focus (intro w'; go_simp; with_reducible rfl)); rotate_left; (focus (simp only [Act.put, qzA, qzB, qzC, i64_w, i32_w]; rfl))
  refine pure_ (i := 14) (N := some 96) (v := ?_) (a' := ?_) (msk 17 15) rfl rfl (by kernel_rfl) (fun _ _ _ h => h) (Or.inl ⟨by rfl, ?_⟩) ?_ ?_; rotate_left; (focus (intro w'; go_simp; with_reducible rfl)); rotate_left; (focus (simp only [Act.put, qzA, qzB, qzC, i64_w, i32_w]; rfl))
  refine pure_ (i := 15) (N := some 97) (v := ?_) (a' := ?_) (msk 17 16) rfl rfl (by kernel_rfl) (fun _ _ _ h => h) (Or.inl ⟨by rfl, ?_⟩) ?_ ?_; rotate_left; (focus (intro w'; go_simp; with_reducible rfl)); rotate_left; (focus (simp only [Act.put, qzA, qzB, qzC, i64_w, i32_w]; rfl))
  refine last_ (i := 16) (N := none) (msk 17 17) rfl rfl (by kernel_rfl) (by decide) (fun K hK => ?_); refine skip_ (w1 := ?_) (by rfl) rfl ?_ ?_; rotate_left; (focus (go_simp; rfl)); refine hK.out _ _ ?_; clear hK K hHeld
  rw [show (if wrap64 (fx + a4) < 72 then wrap64 (fx + a4) else 72) = min 72 (fx + a4) from by rw [wrap_id (by omega) (by omega)]; split <;> omega]
  have hsg := Kd.R_seg HI5.out.r (i : Int) (by omega) (by omega) (c := cells39 L) (seg := [.int .i64 (min 72 (L.f7.f1 + a4))]) (j := 11) rfl (fun j u hj => row39_at HI5.out.r i (by omega) j u (by rw [← HLE.out.1]; exact hj)) (show 11 + 1 ≤ 12 by decide) (x' := longOne a4 L) (okp := fun _ => False) (k39_mkM _ _ _ (longOne a4 L)) (fun _ h => h.elim)
  rw [← HLE.out.2] at hsg
  have h1 : k39.R 39 (wd.setCell ⟨gr, i * 12 + 10 + 1, none⟩ (.int .i64 (min 72 (fx + a4)))) w.heap.size (fun _ => True) (.slice (some ⟨gr, 0, none⟩) (longL l0_0 i a4).length vc) (longL l0_0 i a4) := by rw [longL_length]; unfold longL; rw [← HLE.out.1]; exact hsg.1
  have HI6 : qab (MO5 w gb g13 gr #[.slice A0_0 l0_0.length c0_0, .slice A0_1 l0_1.length c0_1, .slice A0_2 l0_2.length c0_2] #[.slice (some ⟨gr, 0, none⟩) l0_0.length vc, .slice A0_1 l0_1.length c0_1, (.slice A0_2 l0_2.length c0_2)] vc (longL l0_0 i a4) (wd.setCell ⟨gr, i * 12 + 10 + 1, none⟩ (.int .i64 (min 72 (fx + a4))))) := ⟨⟨HI5.out.m.far hgr (blk_ne HI5.out.m.b hbd (by decide)) (blk_ne HI5.out.m.x hbd (by decide)) _ _, h1⟩⟩
  clear hsg h1 d11 fr hbd HI5
  generalize wd.setCell ⟨gr, i * 12 + 10 + 1, none⟩ (.int .i64 (min 72 (fx + a4))) = we at HI6 ⊢
  refine done_ (by kernel_rfl) ?_
  go_wp2_with fail
  go_meet
  case rel => exact HI6
 case rest =>
 clear HI5 HT HLE hx0 hx1 hx2
 have HI := hcut
 clear hcut
 have HL2 : qab (l0_2.length = l0_0.length + 1) := ⟨(net_ok HHV.out).m⟩
 obtain ⟨ps, hpl, hpc, hpr⟩ := sv_rows HR2.out
 have HPC := qab.mk hpc
 have HPR := qab.mk hpr
 have HPL := qab.mk hpl
 clear hpc hpr hpl
 have hsl := HPR.out i (by have := HL2.out; omega)
 obtain ⟨row, hrow⟩ : ∃ r, r = rd_L1 l0_2 (i : Int) := ⟨_, rfl⟩
 rw [← hrow] at hsl
 have hw := (net_ok HHV.out).ways i (by have := HL2.out; omega)
 have hrl : row.length = l0_0.length + 1 := by rw [hrow]; simpa [rd_L1, show i < l0_2.length by have := HL2.out; omega] using hw.1
 have HRB : qab (∀ k : Nat, k < row.length → 0 ≤ rd row k ∧ rd row k ≤ 72) := ⟨fun k hk => by
  refine hw.2.2 _ ?_
  have e1 : row = l0_2[i]'(by have := HL2.out; omega) := by rw [hrow]; simp [rd_L1, show i < l0_2.length by have := HL2.out; omega]
  rw [← e1]
  simp [rd, hk]⟩
 obtain ⟨ad, e, hsc⟩ := hsvat HPC.out i (by have := HL2.out; omega)
 subst e
 have HROW := qab.mk hrow
 have HRLN := qab.mk hrl
 obtain ⟨sa, sn, sc, hsv⟩ : ∃ a n c, rdSV ps (i : Int) = ⟨a, n, c⟩ := ⟨_, _, _, rfl⟩
 rw [hsv] at hsl hsc
 obtain ⟨rfl, hs2, hs3⟩ := hsl
 have HSC := qab.mk hs3
 have HCE := qab.mk hsc
 clear hsv hs2 hs3 hsc hw hrl hrow
 go_upto_region 6 with fail
 go_cut [] from 98 to 101 (fun w' => ∃ go vo, qab (MO7 w gb g13 gr go #[.slice A0_0 l0_0.length c0_0, .slice A0_1 l0_1.length c0_1, .slice (some ad) l0_2.length c0_2] #[.slice (some ⟨gr, 0, none⟩) l0_0.length vc, .slice A0_1 l0_1.length c0_1, .slice (some ⟨go, 0, none⟩) l0_2.length vo] vc l0_2.length vo (longL l0_0 i a4) ps w'))
 case first =>
  have hqb2 : wc.cell? ⟨gb, 2, none⟩ = some (.slice (some ad) l0_2.length c0_2) := (qaa HI.out.m.b 2).trans rfl
  go_wp2_with (((with_reducible refine gate_builtin (b := .append) (xs := #[.const (.slice none 0 0), .tmp 99]) rfl ?_); at_builtin; refine Kd.R_append_rows kSV (w0 := w) w.heap.size rfl (.const (.slice none 0 0)) (.tmp 99) 24 47 (.slice none 0 0) 24 rfl Try.underlying24 info47 rfl (by decide) (by omega) (.slice none 0 0) ([] : List SV) ps _ _ _ (fun _ => True) (fun _ => False) rfl rfl ?aO ?aR (fun _ _ h => h) (fun _ h => h.elim) ?aF ?aB ?aS ?aL ?_; (case aR => exact Kd.qak HPC.out HI.out.m.hb); (case aB => exact HI.out.m.hb); (case aF => exact fun _ _ => trivial); (case aO => exact Kd.R_nil _ _ _ _ _); (case aS => exact HI.out.m.hb.size); (case aL => have := HL2.out; simp; omega); intro v10 w10 ho hB hg hat; clear hqb2; replace HI := qab.mk (HI.out.grown hg hB); rw [List.nil_append] at ho; obtain ⟨vA, vo, e⟩ := Kd.R_slice ho; rw [HPL.out] at e; subst e; have HO := qab.mk ho; clear ho hB hg hat; have hfx := qac HI.out.m.x; have hqx2 : w10.cell? ⟨g13, 2, none⟩ = some (.slice (some ad) l0_2.length c0_2) := (qaa HI.out.m.x 2).trans rfl))
  go_meet
  case rel =>
   obtain ⟨go, vo', e, _⟩ := Kd.R_form HO.out (by have := HL2.out; have := HPL.out; omega)
   rw [HPL.out] at e
   injection e with e1 _ e3
   subst e1
   subst e3
   exact ⟨go, vo, ⟨⟨HI.out.set 2 _, Kd.R_set HO.out HI.out.m.x (by decide) 2 _⟩⟩⟩
 case rest =>
 clear HI
 obtain ⟨go, vo, HI⟩ := hcut
 have HT : qab (∀ W, MO7 w gb g13 gr go #[.slice A0_0 l0_0.length c0_0, .slice A0_1 l0_1.length c0_1, .slice (some ad) l0_2.length c0_2] #[.slice (some ⟨gr, 0, none⟩) l0_0.length vc, .slice A0_1 l0_1.length c0_1, .slice (some ⟨go, 0, none⟩) l0_2.length vo] vc l0_2.length vo (longL l0_0 i a4) ps W → (W.cell? ⟨g13, 2, none⟩ = some (.slice (some ⟨go, 0, none⟩) l0_2.length vo) ∧ W.cell? ⟨gb, 2, none⟩ = some (.slice (some ad) l0_2.length c0_2) ∧ W.cell? (ad.add i) = some (.slice sa row.length sc) ∧ qab (MO7 w gb g13 gr go #[.slice A0_0 l0_0.length c0_0, .slice A0_1 l0_1.length c0_1, .slice (some ad) l0_2.length c0_2] #[.slice (some ⟨gr, 0, none⟩) l0_0.length vc, .slice A0_1 l0_1.length c0_1, .slice (some ⟨go, 0, none⟩) l0_2.length vo] vc l0_2.length vo (longL l0_0 i a4) ps W))) := ⟨fun W h => ⟨qaa h.m.m.x 2, qaa h.m.m.b 2, h.m.m.hb.cell (World.block_lt_of_cell? w _ HCE.out) |>.trans HCE.out, ⟨h⟩⟩⟩
 have k2 : i < l0_2.length := by have := HL2.out; omega
 go_upto_region 7 with fail
 go_cut [] from 102 to 111 (fun w' => ∃ gi vi, qab (MO8 w gb g13 gr go gi #[.slice A0_0 l0_0.length c0_0, .slice A0_1 l0_1.length c0_1, .slice (some ad) l0_2.length c0_2] #[.slice (some ⟨gr, 0, none⟩) l0_0.length vc, .slice A0_1 l0_1.length c0_1, .slice (some ⟨go, 0, none⟩) l0_2.length vo] vc l0_2.length vo row.length vi (longL l0_0 i a4) (ps.set i ⟨some ⟨gi, 0, none⟩, row.length, vi⟩) row w'))
 case first =>
  refine start_ (n := 11) (S := (fun w' => (w'.cell? ⟨g13, 2, none⟩ = some (.slice (some ⟨go, 0, none⟩) l0_2.length vo) ∧ w'.cell? ⟨gb, 2, none⟩ = some (.slice (some ad) l0_2.length c0_2) ∧ w'.cell? (ad.add i) = some (.slice sa row.length sc) ∧ qab (MO7 w gb g13 gr go #[.slice A0_0 l0_0.length c0_0, .slice A0_1 l0_1.length c0_1, .slice (some ad) l0_2.length c0_2] #[.slice (some ⟨gr, 0, none⟩) l0_0.length vc, .slice A0_1 l0_1.length c0_1, .slice (some ⟨go, 0, none⟩) l0_2.length vo] vc l0_2.length vo (longL l0_0 i a4) ps w')))) (ds := [10]) (msk 11 0) (by kernel_rfl) rfl rfl (HT.out _ (HI.out.below (below_drew (Below.refl _ _)))) (fun hHeld => ?_)
  refine pure_ (i := 0) (N := some 102) (v := ?_) (a' := ?_) (msk 11 1) rfl rfl (by kernel_rfl) (fun _ _ _ h => h) (Or.inl ⟨by rfl, ?_⟩) ?_ ?_; rotate_left; (focus (intro w'; go_simp; with_reducible rfl)); rotate_left; (focus (simp only [Act.put, qzA, qzB, qzC, i64_w, i32_w]; rfl))
  refine take_ (i := 1) (N := some 103) (v := ?_) (a' := ?_) (msk 11 2) rfl rfl (by kernel_rfl) (fun _ _ _ h => h) (Or.inl ⟨by rfl, ?_⟩) hHeld ?_ ?_; rotate_left; (focus (rintro w' ⟨s0, s1, s2, s3⟩; go_simp; with_reducible rfl)); rotate_left; (focus (simp only [Act.put, qzA, qzB, qzC, i64_w, i32_w]; rfl))
  refine pure_ (i := 2) (N := some 104) (v := ?_) (a' := ?_) (msk 11 3) rfl rfl (by kernel_rfl) (fun _ _ _ h => h) (Or.inl ⟨by rfl, ?_⟩) ?_ ?_; rotate_left; (focus (intro w'; go_simp; with_reducible rfl)); rotate_left; (focus (simp only [Act.put, qzA, qzB, qzC, i64_w, i32_w]; rfl))
  refine pure_ (i := 3) (N := some 105) (v := ?_) (a' := ?_) (msk 11 4) rfl rfl (by kernel_rfl) (fun _ _ _ h => h) (Or.inl ⟨by rfl, ?_⟩) ?_ ?_; rotate_left; (focus (intro w'; go_simp; with_reducible rfl)); rotate_left; (focus (simp only [Act.put, qzA, qzB, qzC, i64_w, i32_w]; rfl))
  refine take_ (i := 4) (N := some 106) (v := ?_) (a' := ?_) (msk 11 5) rfl rfl (by kernel_rfl) (fun _ _ _ h => h) (Or.inl ⟨by rfl, ?_⟩) hHeld ?_ ?_; rotate_left; (focus (rintro w' ⟨s0, s1, s2, s3⟩; go_simp; with_reducible rfl)); rotate_left; (focus (simp only [Act.put, qzA, qzB, qzC, i64_w, i32_w]; rfl))
  refine pure_ (i := 5) (N := some 107) (v := ?_) (a' := ?_) (msk 11 6) rfl rfl (by kernel_rfl) (fun _ _ _ h => h) (Or.inl ⟨by rfl, ?_⟩) ?_ ?_; rotate_left; (focus (intro w'; go_simp; with_reducible rfl)); rotate_left; (focus (simp only [Act.put, qzA, qzB, qzC, i64_w, i32_w]; rfl))
  refine pure_ (i := 6) (N := some 108) (v := ?_) (a' := ?_) (msk 11 7) rfl rfl (by kernel_rfl) (fun _ _ _ h => h) (Or.inl ⟨by rfl, ?_⟩) ?_ ?_; rotate_left; (focus (intro w'; go_simp; with_reducible rfl)); rotate_left; (focus (simp only [Act.put, qzA, qzB, qzC, i64_w, i32_w]; rfl))
  refine take_ (i := 7) (N := some 109) (v := ?_) (a' := ?_) (msk 11 8) rfl rfl (by kernel_rfl) (fun _ _ _ h => h) (Or.inl ⟨by rfl, ?_⟩) hHeld ?_ ?_; rotate_left; (focus (rintro w' ⟨s0, s1, s2, s3⟩; go_simp; with_reducible rfl)); rotate_left; (focus (simp only [Act.put, qzA, qzB, qzC, i64_w, i32_w]; rfl))
  refine one_ (i := 8) (N := some 110) (msk 11 9) rfl rfl (by kernel_rfl) (by decide) (fun K hK => ?_)
  refine Kd.R_append_rows_step (Kd.int .i64) (w0 := w) w.heap.size (by rfl) (.const (.slice none 0 0)) (.tmp 109) 47 3 (.int .i64 0) 8 rfl Try.underlying47 info3 rfl (by decide) (by omega) (.slice none 0 0) ([] : List Int) row _ _ _ (fun _ => True) (fun _ => False) rfl rfl ?aO ?aR (fun _ _ h => h) (fun _ h => h.elim) ?aF ?aB ?aS ?aL ?_; (case aR => exact Kd.qak HSC.out hHeld.2.2.2.out.m.m.hb); (case aB => exact hHeld.2.2.2.out.m.m.hb); (case aF => exact fun _ _ => trivial); (case aO => exact Kd.R_nil _ _ _ _ _); (case aS => exact hHeld.2.2.2.out.m.m.hb.size); (case aL => have := HRLN.out; simp; omega)
  intro v11 w11 ho hB hg hat; have HI9 := qab.mk (hHeld.2.2.2.out.grown hg hB); rw [List.nil_append] at ho; obtain ⟨gi, vi, e, hgi, hgi2, hbi⟩ := Kd.R_form ho (by have := HRLN.out; omega); subst e; have HQ9 := qab.mk ho; clear ho hB hg hat hgi hgi2 hbi; obtain ⟨_, cso, hbo⟩ := R_blk HI9.out.o (by omega); have fo := qac hbo; have co := svrow_at HI9.out.o i k2; have HBO := qab.mk hbo; clear hbo
  refine hK.out _ _ (HT.out _ HI9.out) (fun hHeld => ?_); clear hK K; refine norm_ (a' := ?_) ?_ ?_; rotate_left; (focus (show Act.put _ (some 110) _ = _; simp only [Act.put, qzA, qzB, qzC, i64_w, i32_w]; rfl))
  refine pure_ (i := 9) (N := some 111) (v := ?_) (a' := ?_) (msk 11 10) rfl rfl (by kernel_rfl) (fun _ _ _ h => h) (Or.inl ⟨by rfl, ?_⟩) ?_ ?_; rotate_left; (focus (intro w'; go_simp; with_reducible rfl)); rotate_left; (focus (simp only [Act.put, qzA, qzB, qzC, i64_w, i32_w]; rfl))
  refine last_ (i := 10) (N := none) (msk 11 11) rfl rfl (by kernel_rfl) (by decide) (fun K hK => ?_); refine skip_ (w1 := ?_) (by rfl) rfl ?_ ?_; rotate_left; (focus (go_simp; rfl)); refine hK.out _ _ ?_; clear hK K hHeld
  have HI8 : qab (MO8 w gb g13 gr go gi #[.slice A0_0 l0_0.length c0_0, .slice A0_1 l0_1.length c0_1, .slice (some ad) l0_2.length c0_2] #[.slice (some ⟨gr, 0, none⟩) l0_0.length vc, .slice A0_1 l0_1.length c0_1, .slice (some ⟨go, 0, none⟩) l0_2.length vo] vc l0_2.length vo row.length vi (longL l0_0 i a4) (ps.set i ⟨some ⟨gi, 0, none⟩, row.length, vi⟩) row (w11.setCell ⟨go, i, none⟩ (.slice (some ⟨gi, 0, none⟩) row.length vi))) := ⟨⟨HI9.out.put (by have := HL2.out; omega) i ⟨some ⟨gi, 0, none⟩, row.length, vi⟩, Kd.R_set HQ9.out HBO.out (by decide) i _⟩⟩
  clear HI9 HQ9 fo co HBO
  generalize w11.setCell ⟨go, i, none⟩ (.slice (some ⟨gi, 0, none⟩) row.length vi) = w12 at HI8 ⊢
  refine done_ (by kernel_rfl) ?_
  go_wp2_with fail
  go_meet
  case rel => exact ⟨gi, vi, HI8⟩
 case rest =>
 clear HI HT HCE
 obtain ⟨gi, vi, HI8⟩ := hcut
 have hrn : 0 < row.length := by have := HRLN.out; omega
 go_upto_region 9 with fail
 go_loopw [14] (fun s14 wr => ∃ k : Nat, k ≤ row.length ∧ s14 = .int .i64 k ∧ qab (MO8 w gb g13 gr go gi #[.slice A0_0 l0_0.length c0_0, .slice A0_1 l0_1.length c0_1, .slice (some ad) l0_2.length c0_2] #[.slice (some ⟨gr, 0, none⟩) l0_0.length vc, .slice A0_1 l0_1.length c0_1, .slice (some ⟨go, 0, none⟩) l0_2.length vo] vc l0_2.length vo row.length vi (longL l0_0 i a4) (ps.set i ⟨some ⟨gi, 0, none⟩, row.length, vi⟩) (longRow i a4 k row) wr)) (fun s14 _ => row.length - (intOf s14).toNat)
 case atStart => exact ⟨0, by omega, rfl, ⟨by rw [longRow_zero]; exact HI8.out⟩⟩
 case round =>
  clear HI8
  obtain ⟨k, hk, rfl, HI⟩ := hrel
  have q2 : wr.cell? ⟨g13, 2, none⟩ = some (.slice (some ⟨go, 0, none⟩) l0_2.length vo) := (qaa HI.out.m.m.m.x 2).trans rfl
  have qi : wr.cell? ⟨go, i, none⟩ = some (.slice (some ⟨gi, 0, none⟩) row.length vi) := by
   have h := svrow_at HI.out.m.o i k2
   rwa [show rdSV (ps.set i ⟨some ⟨gi, 0, none⟩, row.length, vi⟩) (i : Int) = ⟨some ⟨gi, 0, none⟩, row.length, vi⟩ from by simp [rdSV, HPL.out, k2]] at h
  have hkb : (k : Int) ≤ 5 := by have := HRLN.out; omega
  by_cases hlt : k < row.length
  ·
   by_cases he : (k : Int) = i
   ·
    have hke : k = i := by omega
    subst hke
    go_wp2
    go_roundw
    case rel => exact ⟨k + 1, by omega, by go_num, ⟨by rw [longRow_succ_no]; exact HI.out⟩⟩
    case measure => simp [intOf]; omega
   ·
    obtain ⟨x, hx⟩ : ∃ x, x = rd row k := ⟨_, rfl⟩
    have hxb := HRB.out k hlt
    rw [← hx] at hxb
    have hne : ((k : Int) != i) = true := by simpa using he
    have hkl : rd (longRow i a4 k row) (k : Int) = x := by rw [longRow_at _ _ _ _ _ hlt, if_neg (by omega), hx]
    have HX := qab.mk hx
    have HT : qab (∀ W, (MO8 w gb g13 gr go gi #[.slice A0_0 l0_0.length c0_0, .slice A0_1 l0_1.length c0_1, .slice (some ad) l0_2.length c0_2] #[.slice (some ⟨gr, 0, none⟩) l0_0.length vc, .slice A0_1 l0_1.length c0_1, .slice (some ⟨go, 0, none⟩) l0_2.length vo] vc l0_2.length vo row.length vi (longL l0_0 i a4) (ps.set i ⟨some ⟨gi, 0, none⟩, row.length, vi⟩) (longRow i a4 k row) W) → (W.cell? ⟨g13, 2, none⟩ = some (.slice (some ⟨go, 0, none⟩) l0_2.length vo) ∧ W.cell? ⟨go, i, none⟩ = some (.slice (some ⟨gi, 0, none⟩) row.length vi) ∧ W.cell? ⟨gi, k, none⟩ = some (.int .i64 x) ∧ qab (MO8 w gb g13 gr go gi #[.slice A0_0 l0_0.length c0_0, .slice A0_1 l0_1.length c0_1, .slice (some ad) l0_2.length c0_2] #[.slice (some ⟨gr, 0, none⟩) l0_0.length vc, .slice A0_1 l0_1.length c0_1, .slice (some ⟨go, 0, none⟩) l0_2.length vo] vc l0_2.length vo row.length vi (longL l0_0 i a4) (ps.set i ⟨some ⟨gi, 0, none⟩, row.length, vi⟩) (longRow i a4 k row) W))) := ⟨fun W h => ⟨qaa h.m.m.m.x 2, by
     have h2 := svrow_at h.m.o i k2
     rwa [show rdSV (ps.set i ⟨some ⟨gi, 0, none⟩, row.length, vi⟩) (i : Int) = ⟨some ⟨gi, 0, none⟩, row.length, vi⟩ from by simp [rdSV, HPL.out, k2]] at h2, by
     have h3 := introw_at h.q k hlt
     rwa [hkl] at h3, ⟨h⟩⟩⟩
    clear hx hkl
    go_upto_region 12 with fail
    clear q2 qi
    refine start_ (n := 19) (S := (fun w' => (w'.cell? ⟨g13, 2, none⟩ = some (.slice (some ⟨go, 0, none⟩) l0_2.length vo) ∧ w'.cell? ⟨go, i, none⟩ = some (.slice (some ⟨gi, 0, none⟩) row.length vi) ∧ w'.cell? ⟨gi, k, none⟩ = some (.int .i64 x) ∧ qab (MO8 w gb g13 gr go gi #[.slice A0_0 l0_0.length c0_0, .slice A0_1 l0_1.length c0_1, .slice (some ad) l0_2.length c0_2] #[.slice (some ⟨gr, 0, none⟩) l0_0.length vc, .slice A0_1 l0_1.length c0_1, .slice (some ⟨go, 0, none⟩) l0_2.length vo] vc l0_2.length vo row.length vi (longL l0_0 i a4) (ps.set i ⟨some ⟨gi, 0, none⟩, row.length, vi⟩) (longRow i a4 k row) w')))) (ds := [18]) (msk 19 0) (by kernel_rfl) rfl rfl (HT.out _ (HI.out.below (below_drew (Below.refl _ _)))) (fun hHeld => ?_)
    replace HI := qab.mk (HI.out.below (below_drew (Below.refl _ _))); generalize wr.drew = wd at HI hHeld ⊢; obtain ⟨_, csi, hbi⟩ := R_blk HI.out.q (by omega); have fi := qac hbi; have ci := hHeld.2.2.1; clear hbi
    refine pure_ (i := 0) (N := some 125) (v := ?_) (a' := ?_) (msk 19 1) rfl rfl (by kernel_rfl) (fun _ _ _ h => h) (Or.inl ⟨by rfl, ?_⟩) ?_ ?_; rotate_left; (focus (intro w'; go_simp; with_reducible rfl)); rotate_left; (focus (simp only [Act.put, qzA, qzB, qzC, i64_w, i32_w]; rfl))
    refine take_ (i := 1) (N := some 126) (v := ?_) (a' := ?_) (msk 19 2) rfl rfl (by kernel_rfl) (fun _ _ _ h => h) (Or.inl ⟨by rfl, ?_⟩) hHeld ?_ ?_; rotate_left; (focus (rintro w' ⟨s0, s1, s2, s3⟩; go_simp; with_reducible rfl)); rotate_left; (focus (simp only [Act.put, qzA, qzB, qzC, i64_w, i32_w]; rfl))
    refine pure_ (i := 2) (N := some 127) (v := ?_) (a' := ?_) (msk 19 3) rfl rfl (by kernel_rfl) (fun _ _ _ h => h) (Or.inl ⟨by rfl, ?_⟩) ?_ ?_; rotate_left; (focus (intro w'; go_simp; with_reducible rfl)); rotate_left; (focus (simp only [Act.put, qzA, qzB, qzC, i64_w, i32_w]; rfl))
    refine pure_ (i := 3) (N := some 128) (v := ?_) (a' := ?_) (msk 19 4) rfl rfl (by kernel_rfl) (fun _ _ _ h => h) (Or.inl ⟨by rfl, ?_⟩) ?_ ?_; rotate_left; (focus (intro w'; go_simp; with_reducible rfl)); rotate_left; (focus (simp only [Act.put, qzA, qzB, qzC, i64_w, i32_w]; rfl))
    refine take_ (i := 4) (N := some 129) (v := ?_) (a' := ?_) (msk 19 5) rfl rfl (by kernel_rfl) (fun _ _ _ h => h) (Or.inl ⟨by rfl, ?_⟩) hHeld ?_ ?_; rotate_left; (focus (rintro w' ⟨s0, s1, s2, s3⟩; go_simp; with_reducible rfl)); rotate_left; (focus (simp only [Act.put, qzA, qzB, qzC, i64_w, i32_w]; rfl))
    refine pure_ (i := 5) (N := some 130) (v := ?_) (a' := ?_) (msk 19 6) rfl rfl (by kernel_rfl) (fun _ _ _ h => h) (Or.inl ⟨by rfl, ?_⟩) ?_ ?_; rotate_left; (focus (intro w'; go_simp; with_reducible rfl)); rotate_left; (focus (simp only [Act.put, qzA, qzB, qzC, i64_w, i32_w]; rfl))
    refine pure_ (i := 6) (N := some 131) (v := ?_) (a' := ?_) (msk 19 7) rfl rfl (by kernel_rfl) (fun _ _ _ h => h) (Or.inl ⟨by rfl, ?_⟩) ?_ ?_; rotate_left; (focus (intro w'; go_simp; with_reducible rfl)); rotate_left; (focus (simp only [Act.put, qzA, qzB, qzC, i64_w, i32_w]; rfl))
    refine take_ (i := 7) (N := some 132) (v := ?_) (a' := ?_) (msk 19 8) rfl rfl (by kernel_rfl) (fun _ _ _ h => h) (Or.inl ⟨by rfl, ?_⟩) hHeld ?_ ?_; rotate_left; (focus (rintro w' ⟨s0, s1, s2, s3⟩; go_simp; with_reducible rfl)); rotate_left; (focus (simp only [Act.put, qzA, qzB, qzC, i64_w, i32_w]; rfl))
    refine pure_ (i := 8) (N := some 133) (v := ?_) (a' := ?_) (msk 19 9) rfl rfl (by kernel_rfl) (fun _ _ _ h => h) (Or.inl ⟨by rfl, ?_⟩) ?_ ?_; rotate_left; (focus (intro w'; go_simp; with_reducible rfl)); rotate_left; (focus (simp only [Act.put, qzA, qzB, qzC, i64_w, i32_w]; rfl))
    refine pure_ (i := 9) (N := some 134) (v := ?_) (a' := ?_) (msk 19 10) rfl rfl (by kernel_rfl) (fun _ _ _ h => h) (Or.inl ⟨by rfl, ?_⟩) ?_ ?_; rotate_left; (focus (intro w'; go_simp; with_reducible rfl)); rotate_left; (focus (simp only [Act.put, qzA, qzB, qzC, i64_w, i32_w]; rfl))
    refine take_ (i := 10) (N := some 135) (v := ?_) (a' := ?_) (msk 19 11) rfl rfl (by kernel_rfl) (fun _ _ _ h => h) (Or.inl ⟨by rfl, ?_⟩) hHeld ?_ ?_; rotate_left; (focus (rintro w' ⟨s0, s1, s2, s3⟩; go_simp; with_reducible rfl)); rotate_left; (focus (simp only [Act.put, qzA, qzB, qzC, i64_w, i32_w]; rfl))
    refine pure_ (i := 11) (N := some 136) (v := ?_) (a' := ?_) (msk 19 12) rfl rfl (by kernel_rfl) (fun _ _ _ h => h) (Or.inl ⟨by rfl, ?_⟩) ?_ ?_; rotate_left; (focus (intro w'; go_simp; with_reducible rfl)); rotate_left; (focus (simp only [Act.put, qzA, qzB, qzC, i64_w, i32_w]; rfl))
    refine pure_ (i := 12) (N := some 137) (v := ?_) (a' := ?_) (msk 19 13) rfl rfl (by kernel_rfl) (fun _ _ _ h => h) (Or.inl ⟨by rfl, ?_⟩) ?_ ?_; rotate_left; (focus (intro w'; go_simp; with_reducible rfl)); rotate_left; (focus (simp only [Act.put, qzA, qzB, qzC, i64_w, i32_w]; rfl))
    refine take_ (i := 13) (N := some 138) (v := ?_) (a' := ?_) (msk 19 14) rfl rfl (by kernel_rfl) (fun _ _ _ h => h) (Or.inl ⟨by rfl, ?_⟩) hHeld ?_ ?_; rotate_left; (focus (rintro w' ⟨s0, s1, s2, s3⟩; go_simp; with_reducible rfl)); rotate_left; (focus (simp only [Act.put, qzA, qzB, qzC, i64_w, i32_w]; rfl))
    refine pure_ (i := 14) (N := some 139) (v := ?_) (a' := ?_) (msk 19 15) rfl rfl (by kernel_rfl) (fun _ _ _ h => h) (Or.inl ⟨by rfl, ?_⟩) ?_ ?_; rotate_left; (focus (intro w'; go_simp; with_reducible rfl)); rotate_left; (focus (simp only [Act.put, qzA, qzB, qzC, i64_w, i32_w]; rfl))
    refine pure_ (i := 15) (N := some 140) (v := ?_) (a' := ?_) (msk 19 16) rfl rfl (by kernel_rfl) (fun _ _ _ h => h) (Or.inl ⟨by rfl, ?_⟩) ?_ ?_; rotate_left; (focus (intro w'; go_simp; with_reducible rfl)); rotate_left; (focus (simp only [Act.put, qzA, qzB, qzC, i64_w, i32_w]; rfl))
    refine pure_ (i := 16) (N := some 141) (v := ?_) (a' := ?_) (msk 19 17) rfl rfl (by kernel_rfl) (fun _ _ _ h => h) (Or.inl ⟨by rfl, ?_⟩) ?_ ?_; rotate_left; (focus (intro w'; go_simp; with_reducible rfl)); rotate_left; (focus (simp only [Act.put, qzA, qzB, qzC, i64_w, i32_w]; rfl))
    refine pure_ (i := 17) (N := some 142) (v := ?_) (a' := ?_) (msk 19 18) rfl rfl (by kernel_rfl) (fun _ _ _ h => h) (Or.inl ⟨by rfl, ?_⟩) ?_ ?_; rotate_left; (focus (intro w'; go_simp; with_reducible rfl)); rotate_left; (focus (simp only [Act.put, qzA, qzB, qzC, i64_w, i32_w]; rfl))
    refine last_ (i := 18) (N := none) (msk 19 19) rfl rfl (by kernel_rfl) (by decide) (fun K hK => ?_); refine skip_ (w1 := ?_) (by rfl) rfl ?_ ?_; rotate_left; (focus (go_simp; rfl)); refine hK.out _ _ ?_; clear hK K hHeld
    rw [show (if wrap64 (x + a4) < 72 then wrap64 (x + a4) else 72) = min 72 (x + a4) from by rw [wrap_id (by omega) (by omega)]; split <;> omega]
    have HI8 : qab (MO8 w gb g13 gr go gi #[.slice A0_0 l0_0.length c0_0, .slice A0_1 l0_1.length c0_1, .slice (some ad) l0_2.length c0_2] #[.slice (some ⟨gr, 0, none⟩) l0_0.length vc, .slice A0_1 l0_1.length c0_1, .slice (some ⟨go, 0, none⟩) l0_2.length vo] vc l0_2.length vo row.length vi (longL l0_0 i a4) (ps.set i ⟨some ⟨gi, 0, none⟩, row.length, vi⟩) (longRow i a4 (k + 1) row) (wd.setCell ⟨gi, k, none⟩ (.int .i64 (min 72 (x + a4))))) := ⟨by rw [longRow_succ i a4 k row hlt (by omega), ← HX.out]; exact HI.out.put (by omega) k (min 72 (x + a4))⟩
    clear HI fi ci
    generalize wd.setCell ⟨gi, k, none⟩ (.int .i64 (min 72 (x + a4))) = we at HI8 ⊢
    refine done_ (by kernel_rfl) ?_
    go_wp2
    go_roundw
    case rel => exact ⟨k + 1, by omega, by go_num, HI8⟩
    case measure => simp [intOf]; omega
  ·
   obtain rfl : k = row.length := by omega
   go_upto_region 13 with fail
   have HBW := qab.mk HI.out.m.m.m.hb
   have HC0 : qab (Kd.C k39 wr (some ⟨gr, 0, none⟩) l0_0.length (longL l0_0 i a4)) := ⟨by have h := (Kd.R_reads' HI.out.m.m.r).2.2; rwa [longL_length] at h⟩
   have HC2 : qab (Kd.C (Kd.slice 3 (Kd.int .i64)) wr (some ⟨go, 0, none⟩) l0_2.length (longW l0_2 i a4)) := ⟨long_read a4 HROW.out HPL.out HPR.out HBW.out k2 (by have := HL2.out; omega) HI.out.m.o HI.out.q⟩
   have HOL : qab (l0_0.length ≤ vc ∧ l0_2.length ≤ vo) := ⟨by have h := (Kd.R_reads' HI.out.m.m.r).2.1; rwa [longL_length] at h, (Kd.R_reads' HI.out.m.o).2.1⟩
   have BKgb := qab.mk HI.out.m.m.m.b
   have BKg13 := qab.mk HI.out.m.m.m.x
   clear HI q2 qi
   have HB := qab.mk (Below.refl wr.heap.size wr)
   have HVX := qab.mk (long_valid HHV.out i (by omega) a4 m0)
   have hi32 := fault_rng HHF.out.2.2
   have hp32 : 2 ^ l0_0.length ≤ 2 ^ 4 := Nat.pow_le_pow_right (n := 2) (by decide) (by omega)
   have HVW := qab.mk (valid_wrapped a5 HHV.out)
   have RL := qab.mk (ord_rel (long_order HHV.out i (by omega) a4 m0 a1 a2 HHF.out.1.1 HHF.out.1.2 HHF.out.2.1) (wrap_order HHV.out a5 a1 a2 HHF.out.1.1 HHF.out.1.2 HHF.out.2.1))
   have RF := qab.mk (wrap_hours HHV.out a5 (i : Int) (by omega) (by omega))
   have HON : qab (∀ W, Below wr.heap.size wr W → Calls Try.prog 24 #[.agg #[.slice A0_0 l0_0.length c0_0, .slice A0_1 l0_1.length c0_1, .slice (some ad) l0_2.length c0_2], .int .i64 a1, .int .i64 a2] W (OrdL (ordS (orderV l0_0 l0_1 l0_2 a1 a2)) (ordE (orderV l0_0 l0_1 l0_2 a1 a2)) W)) := ⟨fun W hW => order_calls _ _ _ l0_0 _ _ _ l0_1 _ _ _ l0_2 a1 a2 W rfl rfl rfl (Kd.qak HR0.out (qad HBW.out hW)) hc0_0 (Kd.qak HR1.out (qad HBW.out hW)) hc0_1 (Kd.qak HR2.out (qad HBW.out hW)) hc0_2 HHV.out HHF.out.1.1 HHF.out.1.2 HHF.out.2.1⟩
   have HOX : qab (∀ W, Below wr.heap.size wr W → Calls Try.prog 24 #[.agg #[.slice (some ⟨gr, 0, none⟩) l0_0.length vc, .slice A0_1 l0_1.length c0_1, .slice (some ⟨go, 0, none⟩) l0_2.length vo], .int .i64 a1, .int .i64 a2] W (OrdL (ordS (orderV (longL l0_0 i a4) l0_1 (longW l0_2 i a4) a1 a2)) (ordE (orderV (longL l0_0 i a4) l0_1 (longW l0_2 i a4) a1 a2)) W)) := ⟨fun W hW => order_calls _ _ _ (longL l0_0 i a4) _ _ _ l0_1 _ _ _ (longW l0_2 i a4) a1 a2 W (longL_length i a4) rfl (by simp [longW]) (Kd.qak HC0.out hW) HOL.out.1 (Kd.qak HR1.out (qad HBW.out hW)) hc0_1 (Kd.qak HC2.out hW) HOL.out.2 HVX.out HHF.out.1.1 (by rw [longL_length]; exact HHF.out.1.2) (by have h := HHF.out.2.1; unfold inFault at h ⊢; rw [longL_length]; exact h)⟩
   have HWR : qab (∀ W, Below wr.heap.size wr W → Calls Try.prog 42 #[.agg #[.slice A0_0 l0_0.length c0_0, .slice A0_1 l0_1.length c0_1, .slice (some ad) l0_2.length c0_2], .int .i64 a5] W (SomeNet w l0_0 (.slice A0_1 l0_1.length c0_1) (.slice (some ad) l0_2.length c0_2) a5 W)) := ⟨fun W hW => (talikref04_Wrapped.calls _ _ l0_0 _ _ _ _ _ _ a5 W (Kd.qak HR0.out (qad HBW.out hW)) hc0_0 (by omega) hi32.1 (by omega)).mono fun e w' h => h⟩
   have HOW : qab (∀ (A : Option Addr) (c : Nat), l0_0.length ≤ c → ∀ W, Below wr.heap.size wr W → Kd.C k39 W A l0_0.length (wrappedL l0_0 a5) → Calls Try.prog 24 #[.agg #[.slice A l0_0.length c, .slice A0_1 l0_1.length c0_1, .slice (some ad) l0_2.length c0_2], .int .i64 a1, .int .i64 a2] W (OrdL (ordS (orderV (wrappedL l0_0 a5) l0_1 l0_2 a1 a2)) (ordE (orderV (wrappedL l0_0 a5) l0_1 l0_2 a1 a2)) W)) := ⟨fun A c hc W hW hC => order_calls _ _ _ (wrappedL l0_0 a5) _ _ _ l0_1 _ _ _ l0_2 a1 a2 W (wrappedL_length l0_0 a5) rfl rfl hC hc (Kd.qak HR1.out (qad HBW.out hW)) hc0_1 (Kd.qak HR2.out (qad HBW.out hW)) hc0_2 HVW.out HHF.out.1.1 (by rw [wrappedL_length]; exact HHF.out.1.2) (by rw [inFault_wrapped]; exact HHF.out.2.1)⟩
   have HFN : qab (∀ W, Below wr.heap.size wr W → Calls Try.prog 43 #[.agg #[.slice A0_0 l0_0.length c0_0, .slice A0_1 l0_1.length c0_1, .slice (some ad) l0_2.length c0_2], .int .i64 i] W fun e w' => e = .returned (.tuple #[.int .i64 (canV l0_0 l0_1 i), .int .i64 (mustV l0_0 l0_1 i), .int .i64 0]) ∧ Below W.heap.size W w') := ⟨fun W hW => freezes_calls _ _ _ l0_0 _ _ _ l0_1 _ _ _ l0_2 i W rfl rfl rfl (Kd.qak HR0.out (qad HBW.out hW)) hc0_0 (Kd.qak HR1.out (qad HBW.out hW)) hc0_1 (Kd.qak HR2.out (qad HBW.out hW)) hc0_2 HHV.out (by omega) (by omega)⟩
   have HFW : qab (∀ (A : Option Addr) (c : Nat), l0_0.length ≤ c → ∀ W, Below wr.heap.size wr W → Kd.C k39 W A l0_0.length (wrappedL l0_0 a5) → Calls Try.prog 43 #[.agg #[.slice A l0_0.length c, .slice A0_1 l0_1.length c0_1, .slice (some ad) l0_2.length c0_2], .int .i64 i] W fun e w' => e = .returned (.tuple #[.int .i64 (canV (wrappedL l0_0 a5) l0_1 i), .int .i64 (mustV (wrappedL l0_0 a5) l0_1 i), .int .i64 0]) ∧ Below W.heap.size W w') := ⟨fun A c hc W hW hC => freezes_calls _ _ _ (wrappedL l0_0 a5) _ _ _ l0_1 _ _ _ l0_2 i W (wrappedL_length l0_0 a5) rfl rfl hC hc (Kd.qak HR1.out (qad HBW.out hW)) hc0_1 (Kd.qak HR2.out (qad HBW.out hW)) hc0_2 HVW.out (by omega) (by rw [wrappedL_length]; omega)⟩
   have HKN : qab (∀ W, Below wr.heap.size wr W → Calls Try.prog 17 #[] W fun e w' => e = .returned (.bool true) ∧ Below W.heap.size W w') := ⟨fun W hW => HKNOWN.out W (qad HBW.out hW)⟩
   revert HON HOX HOW RL
   generalize ordS (orderV l0_0 l0_1 l0_2 a1 a2) = s0
   generalize ordE (orderV l0_0 l0_1 l0_2 a1 a2) = e0
   generalize ordS (orderV (longL l0_0 i a4) l0_1 (longW l0_2 i a4) a1 a2) = s1
   generalize ordE (orderV (longL l0_0 i a4) l0_1 (longW l0_2 i a4) a1 a2) = e1
   generalize ordS (orderV (wrappedL l0_0 a5) l0_1 l0_2 a1 a2) = s2
   generalize ordE (orderV (wrappedL l0_0 a5) l0_1 l0_2 a1 a2) = e2
   intro RL HON HOX HOW
   revert HFN HFW RF
   generalize canV l0_0 l0_1 (i : Int) = f0
   generalize mustV l0_0 l0_1 (i : Int) = f1
   generalize canV (wrappedL l0_0 a5) l0_1 (i : Int) = f2
   generalize mustV (wrappedL l0_0 a5) l0_1 (i : Int) = f3
   intro RF HFN HFW
   clear HHV HHF HVX HVW HC0 HC2 HOL HKNOWN HRB HPC HPR hi32 hp32 hkb hrn hlt
   obtain ⟨hfgb, hcgb_0, hcgb_1, hcgb_2⟩ := qz3 BKgb.out; obtain ⟨hfg13, hcg13_0, hcg13_1, hcg13_2⟩ := qz3 BKg13.out
   go_upto_region 16 with (first | (go_at_call 24; (with_reducible refine (HON.out _ HB.out).mono ?_); rintro e wn ⟨v_, rfl, hb⟩; replace BKgb := qab.mk (qae BKgb.out hb); replace BKg13 := qab.mk (qae BKg13.out hb); replace HB := qab.mk (qad HB.out hb); clear hb; obtain ⟨hfgb, hcgb_0, hcgb_1, hcgb_2⟩ := qz3 BKgb.out; obtain ⟨hfg13, hcg13_0, hcg13_1, hcg13_2⟩ := qz3 BKg13.out) | (go_at_call 24; (with_reducible refine (HOX.out _ HB.out).mono ?_); rintro e wn ⟨v_, rfl, hb⟩; replace BKgb := qab.mk (qae BKgb.out hb); replace BKg13 := qab.mk (qae BKg13.out hb); replace HB := qab.mk (qad HB.out hb); clear hb; obtain ⟨hfgb, hcgb_0, hcgb_1, hcgb_2⟩ := qz3 BKgb.out; obtain ⟨hfg13, hcg13_0, hcg13_1, hcg13_2⟩ := qz3 BKg13.out) | (go_at_call 42; (with_reducible refine (HWR.out _ HB.out).mono ?_); rintro e wn ⟨A, c, rfl, hAc, hAC, hb⟩; have HAC := qab.mk hAC; clear hAC; replace BKgb := qab.mk (qae BKgb.out hb); replace BKg13 := qab.mk (qae BKg13.out hb); replace HB := qab.mk (qad HB.out hb); clear hb; obtain ⟨hfgb, hcgb_0, hcgb_1, hcgb_2⟩ := qz3 BKgb.out; obtain ⟨hfg13, hcg13_0, hcg13_1, hcg13_2⟩ := qz3 BKg13.out) | (go_at_call 24; (with_reducible refine (HOW.out A c hAc _ HB.out HAC.out).mono ?_); rintro e wn ⟨v_, rfl, hb⟩; replace BKgb := qab.mk (qae BKgb.out hb); replace BKg13 := qab.mk (qae BKg13.out hb); replace HB := qab.mk (qad HB.out hb); clear hb; obtain ⟨hfgb, hcgb_0, hcgb_1, hcgb_2⟩ := qz3 BKgb.out; obtain ⟨hfg13, hcg13_0, hcg13_1, hcg13_2⟩ := qz3 BKg13.out))
   clear hfgb hcgb_0 hcgb_1 hcgb_2 hfg13 hcg13_0 hcg13_1 hcg13_2 HON HOX HOW HAC
   go_cut [216] from 143 to 215 (fun s216 w' => s216 = .bool false ∧ qab (w'.heap[gb]? = some (.cells #[.slice A0_0 l0_0.length c0_0, .slice A0_1 l0_1.length c0_1, .slice (some ad) l0_2.length c0_2] 26 (0, 0))) ∧ qab (w'.heap[g13]? = some (.cells #[.slice (some ⟨gr, 0, none⟩) l0_0.length vc, .slice A0_1 l0_1.length c0_1, .slice (some ⟨go, 0, none⟩) l0_2.length vo] 26 (0, 0))) ∧ qab (Below wr.heap.size wr w'))
   case first =>
    rcases RL.out with ⟨rfl, rfl, rfl, r1, r2⟩ | ⟨rfl, rfl, rfl, r2⟩ | ⟨rfl, rfl, rfl⟩ | ⟨rfl, rfl, rfl⟩
    ·
     have d1 : decide (s0 < s1) = false := decide_eq_false (by omega)
     have d2 : decide (s2 < s0) = false := decide_eq_false (by omega)
     clear r1 r2
     go_wp2
     go_meet
     case rel => exact ⟨rfl, BKgb, BKg13, HB⟩
    ·
     have d2 : decide (s2 < s0) = false := decide_eq_false (by omega)
     clear r2
     go_wp2
     go_meet
     case rel => exact ⟨rfl, BKgb, BKg13, HB⟩
    ·
     go_wp2
     go_meet
     case rel => exact ⟨rfl, BKgb, BKg13, HB⟩
    ·
     go_wp2
     go_meet
     case rel => exact ⟨rfl, BKgb, BKg13, HB⟩
   case rest =>
   clear BKgb BKg13 HB RL
   obtain ⟨rfl, BKgb, BKg13, HB⟩ := hcut
   obtain ⟨hfgb, hcgb_0, hcgb_1, hcgb_2⟩ := qz3 BKgb.out; obtain ⟨hfg13, hcg13_0, hcg13_1, hcg13_2⟩ := qz3 BKg13.out
   obtain ⟨c1, c2⟩ : (f2 < 0 ∨ (0 ≤ f0 ∧ f0 ≤ f2)) ∧ (f3 < 0 ∨ (0 ≤ f1 ∧ f1 ≤ f3)) := ⟨RF.out.1, RF.out.2.1⟩
   go_upto_region 20 with (first | (go_at_call 43; (with_reducible refine (HFN.out _ HB.out).mono ?_); rintro e wn ⟨rfl, hb⟩; replace BKgb := qab.mk (qae BKgb.out hb); replace BKg13 := qab.mk (qae BKg13.out hb); replace HB := qab.mk (qad HB.out hb); clear hb; obtain ⟨hfgb, hcgb_0, hcgb_1, hcgb_2⟩ := qz3 BKgb.out; obtain ⟨hfg13, hcg13_0, hcg13_1, hcg13_2⟩ := qz3 BKg13.out) | (go_at_call 42; (with_reducible refine (HWR.out _ HB.out).mono ?_); rintro e wn ⟨A, c, rfl, hAc, hAC, hb⟩; have HAC := qab.mk hAC; clear hAC; replace BKgb := qab.mk (qae BKgb.out hb); replace BKg13 := qab.mk (qae BKg13.out hb); replace HB := qab.mk (qad HB.out hb); clear hb; obtain ⟨hfgb, hcgb_0, hcgb_1, hcgb_2⟩ := qz3 BKgb.out; obtain ⟨hfg13, hcg13_0, hcg13_1, hcg13_2⟩ := qz3 BKg13.out) | (go_at_call 43; (with_reducible refine (HFW.out A c hAc _ HB.out HAC.out).mono ?_); rintro e wn ⟨rfl, hb⟩; replace BKgb := qab.mk (qae BKgb.out hb); replace BKg13 := qab.mk (qae BKg13.out hb); replace HB := qab.mk (qad HB.out hb); clear hb; obtain ⟨hfgb, hcgb_0, hcgb_1, hcgb_2⟩ := qz3 BKgb.out; obtain ⟨hfg13, hcg13_0, hcg13_1, hcg13_2⟩ := qz3 BKg13.out))
   clear hfgb hcgb_0 hcgb_1 hcgb_2 hfg13 hcg13_0 hcg13_1 hcg13_2 HFN HFW HAC
   rcases c1 with p1 | ⟨p1, p2⟩ <;> rcases c2 with q1 | ⟨q1, q2⟩
   ·
    have d1 : decide (f2 < 0) = true := decide_eq_true p1
    have d2 : decide (f3 < 0) = true := decide_eq_true q1
    clear p1 q1
    go_wp2_with (go_at_call 17; (with_reducible refine (HKN.out _ HB.out).mono ?_); rintro e wn ⟨rfl, hb⟩; have n_HB := qab.mk (qad HB.out hb); clear HB hb; have HB := n_HB)
    go_ret
    exact ⟨rfl, qad HBW.out HB.out⟩
   ·
    have d1 : decide (f2 < 0) = true := decide_eq_true p1
    by_cases q0 : f3 < 0
    ·
     exact absurd q0 (by omega)
    ·
     have d2 : decide (f3 < 0) = false := decide_eq_false q0
     have d3 : decide (0 ≤ f1) = true := decide_eq_true q1
     have d4 : decide (f1 ≤ f3) = true := decide_eq_true q2
     clear p1 q1 q2 q0
     go_wp2_with (go_at_call 17; (with_reducible refine (HKN.out _ HB.out).mono ?_); rintro e wn ⟨rfl, hb⟩; have n_HB := qab.mk (qad HB.out hb); clear HB hb; have HB := n_HB)
     go_ret
     exact ⟨rfl, qad HBW.out HB.out⟩
   ·
    have d1 : decide (f2 < 0) = false := decide_eq_false (by omega)
    have d2 : decide (f3 < 0) = true := decide_eq_true q1
    have d3 : decide (0 ≤ f0) = true := decide_eq_true p1
    have d4 : decide (f0 ≤ f2) = true := decide_eq_true p2
    clear p1 p2 q1
    go_wp2_with (go_at_call 17; (with_reducible refine (HKN.out _ HB.out).mono ?_); rintro e wn ⟨rfl, hb⟩; have n_HB := qab.mk (qad HB.out hb); clear HB hb; have HB := n_HB)
    go_ret
    exact ⟨rfl, qad HBW.out HB.out⟩
   ·
    have d1 : decide (f2 < 0) = false := decide_eq_false (by omega)
    have d2 : decide (f3 < 0) = false := decide_eq_false (by omega)
    have d3 : decide (0 ≤ f0) = true := decide_eq_true p1
    have d4 : decide (f0 ≤ f2) = true := decide_eq_true p2
    have d5 : decide (0 ≤ f1) = true := decide_eq_true q1
    have d6 : decide (f1 ≤ f3) = true := decide_eq_true q2
    clear p1 p2 q1 q2
    go_wp2_with (go_at_call 17; (with_reducible refine (HKN.out _ HB.out).mono ?_); rintro e wn ⟨rfl, hb⟩; have n_HB := qab.mk (qad HB.out hb); clear HB hb; have HB := n_HB)
    go_ret
    exact ⟨rfl, qad HBW.out HB.out⟩
end Go.Proofs.Ytipphcjgdebecaa.PA
