/- What functions of the program answer. No condition. -/
import Derived.Test.YtipphcjgdebecaaSC
import Derived.Test.YtipphcjgdebecaaSD
import Derived.Test.YtipphcjgdebecaaSF
import Derived.Test.YtipphcjgdebecaaSH
import Derived.Test.YtipphcjgdebecaaSJ
import Derived.Test.YtipphcjgdebecaaSE
set_option linter.all false
set_option maxRecDepth 100000
set_option maxHeartbeats 8000000
namespace Go.Proofs.Ytipphcjgdebecaa.PA
open Go.RowKit Go.Proofs.YtipphcjgdebecaaW.PrintWords Go.Proofs.YtipphcjgdebecaaW.PrintLast Go.Proofs.YtipphcjgdebecaaW.PrintMore
attribute [local go_sem] max2_int min2_int max_two min_two qau qav max_four min_four
def givenV (l0 : List S39) (l1 : List S37) (l2 : List (List Int)) (a1 : Int) (fs : List Int) : Int :=
 if 12 < (fs.length : Int) then 3 else if (!validB l0 l1 l2 || (!inB a1 0 l0.length || fs.any fun f => !faultB l0 f)) = true then 2 else 0
theorem given1_calls (A0 : Option Addr) (c0 : Nat) (l0 : List S39) (A1 : Option Addr) (c1 : Nat) (l1 : List S37) (A2 : Option Addr) (c2 : Nat) (l2 : List (List Int)) (f : Int) (gb : Nat) (w : World) (hr0 : Kd.C k39 w A0 l0.length l0) (hc0 : l0.length ≤ c0) (hr1 : Kd.C k37 w A1 l1.length l1) (hc1 : l1.length ≤ c1) (hr2 : Kd.C (Kd.slice 3 (Kd.int .i64)) w A2 l2.length l2) (hc2 : l2.length ≤ c2)
  (hb : w.heap[gb]? = some (.cells #[.slice A0 l0.length c0, .slice A1 l1.length c1, .slice A2 l2.length c2] 26 (0, 0))) :
  Calls Try.prog 95 #[.int .i64 f, .pointer (some ⟨gb, 0, none⟩)] w fun e w' => e = .returned (.bool (!faultB l0 f)) ∧ Below w.heap.size w w' := by
 have hu26 := Try.underlying26
 have H := qab.mk (pipe_fault.calls _ _ l0 _ _ l1 _ _ l2 f (faultB l0 f) w hr0 hc0 hr1 hc1 hr2 hc2 (fault_some l0 l1 l2 f))
 have k0 : w.cell? ⟨gb, 0, none⟩ = some (.slice A0 l0.length c0) := qaa hb 0
 have k1 : w.cell? ⟨gb, 1, none⟩ = some (.slice A1 l1.length c1) := qaa hb 1
 have k2 : w.cell? ⟨gb, 2, none⟩ = some (.slice A2 l2.length c2) := qaa hb 2
 clear hr0 hc0 hr1 hc1 hr2 hc2 hb
 go_enter Try.func95, Try.ntmps95
 go_wp2_with (go_at_call 63; refine H.out.mono ?_; rintro e w2 ⟨rfl, hb⟩; have HB := qab.mk hb; clear hb)
 go_ret
 exact ⟨rfl, HB.out⟩
def pipe_given.f (l0_0 : List (S39)) (l0_1 : List (S37)) (l0_2 : List (List Int)) (a1 : Int) (l2 : List Int) : Option (Int) := some (givenV l0_0 l0_1 l0_2 a1 l2)
theorem pipe_given.calls (A0_0 : Option Addr) (c0_0 : Nat) (l0_0 : List (S39)) (A0_1 : Option Addr) (c0_1 : Nat) (l0_1 : List (S37)) (A0_2 : Option Addr) (c0_2 : Nat) (l0_2 : List (List Int)) (a1 : Int) (A2 : Option Addr) (c2 : Nat) (l2 : List Int) (r : Int) (w : World) (hr0_0 : Kd.C k39 w A0_0 l0_0.length l0_0) (hc0_0 : l0_0.length ≤ c0_0) (hr0_1 : Kd.C k37 w A0_1 l0_1.length l0_1) (hc0_1 : l0_1.length ≤ c0_1) (hr0_2 : Kd.C (Kd.slice 3 (Kd.int .i64)) w A0_2 l0_2.length l0_2) (hc0_2 : l0_2.length ≤ c0_2) (hr2 : Kd.C (Kd.int .i64) w A2 l2.length l2) (hc2 : l2.length ≤ c2) (h : pipe_given.f l0_0 l0_1 l0_2 a1 l2 = some r) :
  Calls Try.prog 70 #[.agg #[.slice A0_0 l0_0.length c0_0, .slice A0_1 l0_1.length c0_1, .slice A0_2 l0_2.length c0_2], .int .i64 a1, .slice A2 l2.length c2] w fun e w' => e = .returned (.int .i64 r) ∧ Below w.heap.size w w' := by
 have h' := Option.some.inj h
 clear h
 have HF := qab.mk h'
 clear h'
 have hu26 := Try.underlying26
 have HB := qab.mk (Below.refl w.heap.size w)
 have HR0 := qab.mk hr0_0
 have HR1 := qab.mk hr0_1
 have HR2 := qab.mk hr0_2
 have HR3 := qab.mk hr2
 clear hr0_0 hr0_1 hr0_2 hr2
 have hmf : ∀ (fn : Fn) (first cap : Array Value) (w : World), (Instr.makeFunc fn first cap).run Try.prog w = .ok (.func fn first cap) w := fun _ _ _ _ => rfl
 by_cases hlen : 12 < (l2.length : Int)
 ·
  have hr : r = 3 := by rw [← HF.out]; unfold givenV; rw [if_pos hlen]
  subst hr
  go_enter Try.func70, Try.ntmps70
  go_wp2_with ((with_reducible refine qaq (N := 3) rfl ?_); refine qam ?hg (N := 3) ?hd (cs := #[.slice A0_0 l0_0.length c0_0, .slice A0_1 l0_1.length c0_1, .slice A0_2 l0_2.length c0_2]) (t := 26) ?hr ?_; (case hd => rfl); (case hg => rfl); (case hr => first | (go_simp; done) | (go_simp; rfl)); intro gb hg_gb w2 hbox hb; have BKgb := qab.mk hbox; have n_HB := qab.mk (qag HB.out hb); have GEgb : w.heap.size ≤ gb := (by rw [hg_gb]; exact HB.out.size); clear HB; have HB := n_HB; clear n_HB; have hfgb := qac BKgb.out; have hcgb_0 : w2.cell? ⟨gb, 0, none⟩ = some (.slice A0_0 l0_0.length c0_0) := (qaa BKgb.out 0).trans rfl; have hcgb_1 : w2.cell? ⟨gb, 1, none⟩ = some (.slice A0_1 l0_1.length c0_1) := (qaa BKgb.out 1).trans rfl; have hcgb_2 : w2.cell? ⟨gb, 2, none⟩ = some (.slice A0_2 l0_2.length c0_2) := (qaa BKgb.out 2).trans rfl; clear hbox hb hg_gb)
  go_ret
  exact ⟨rfl, HB.out⟩
 ·
  have hr : r = if (!validB l0_0 l0_1 l0_2 || (!inB a1 0 l0_0.length || l2.any fun f => !faultB l0_0 f)) = true then 2 else 0 := by rw [← HF.out]; unfold givenV; rw [if_neg hlen]
  have HR := qab.mk hr
  clear hr
  have hval : ∀ W, Below w.heap.size w W → Calls Try.prog 54 #[.agg #[.slice A0_0 l0_0.length c0_0, .slice A0_1 l0_1.length c0_1, .slice A0_2 l0_2.length c0_2]] W fun e w' => e = .returned (.bool (validB l0_0 l0_1 l0_2)) ∧ Below W.heap.size W w' := fun W hW =>
   pipe_valid.calls _ _ _ _ _ _ _ _ _ _ W (Kd.qak HR0.out hW) hc0_0 (Kd.qak HR1.out hW) hc0_1 (Kd.qak HR2.out hW) hc0_2 rfl
  have hpl : ∀ W, Below w.heap.size w W → Calls Try.prog 62 #[.agg #[.slice A0_0 l0_0.length c0_0, .slice A0_1 l0_1.length c0_1, .slice A0_2 l0_2.length c0_2], .int .i64 a1] W fun e w' => e = .returned (.bool (inB a1 0 l0_0.length)) ∧ Below W.heap.size W w' := fun W hW =>
   pipe_place.calls _ _ _ _ _ _ _ _ _ _ _ W (Kd.qak HR0.out hW) hc0_0 (Kd.qak HR1.out hW) hc0_1 (Kd.qak HR2.out hW) hc0_2 (place_some _ _ _ _)
  have HVAL := qab.mk hval
  have HPL := qab.mk hpl
  clear hval hpl
  cases hv : validB l0_0 l0_1 l0_2 with
  | false =>
   rw [hv] at HR
   have hr2 : r = 2 := by rw [HR.out]; rfl
   have HV := qab.mk hv
   clear hv
   subst hr2
   go_enter Try.func70, Try.ntmps70
   go_wp2_with (first | ((with_reducible refine qaq (N := 3) rfl ?_); refine qam ?hg (N := 3) ?hd (cs := #[.slice A0_0 l0_0.length c0_0, .slice A0_1 l0_1.length c0_1, .slice A0_2 l0_2.length c0_2]) (t := 26) ?hr ?_; (case hd => rfl); (case hg => rfl); (case hr => first | (go_simp; done) | (go_simp; rfl)); intro gb hg_gb w2 hbox hb; have BKgb := qab.mk hbox; have n_HB := qab.mk (qag HB.out hb); have GEgb : w.heap.size ≤ gb := (by rw [hg_gb]; exact HB.out.size); clear HB; have HB := n_HB; clear n_HB; have hfgb := qac BKgb.out; have hcgb_0 : w2.cell? ⟨gb, 0, none⟩ = some (.slice A0_0 l0_0.length c0_0) := (qaa BKgb.out 0).trans rfl; have hcgb_1 : w2.cell? ⟨gb, 1, none⟩ = some (.slice A0_1 l0_1.length c0_1) := (qaa BKgb.out 1).trans rfl; have hcgb_2 : w2.cell? ⟨gb, 2, none⟩ = some (.slice A0_2 l0_2.length c0_2) := (qaa BKgb.out 2).trans rfl; clear hbox hb hg_gb) | (go_at_call 54; refine (HVAL.out _ HB.out).mono ?_; rw [HV.out]; rintro e w3 ⟨rfl, hb⟩; have n_HB := qab.mk (qag HB.out hb); clear HB; have HB := n_HB; clear n_HB; clear hb))
   go_ret
   exact ⟨rfl, HB.out⟩
  | true =>
   rw [hv] at HR
   have HV := qab.mk hv
   clear hv
   cases hp : inB a1 0 l0_0.length with
   | false =>
    rw [hp] at HR
    have hr2 : r = 2 := by rw [HR.out]; rfl
    have HP := qab.mk hp
    clear hp
    subst hr2
    go_enter Try.func70, Try.ntmps70
    go_wp2_with (first | ((with_reducible refine qaq (N := 3) rfl ?_); refine qam ?hg (N := 3) ?hd (cs := #[.slice A0_0 l0_0.length c0_0, .slice A0_1 l0_1.length c0_1, .slice A0_2 l0_2.length c0_2]) (t := 26) ?hr ?_; (case hd => rfl); (case hg => rfl); (case hr => first | (go_simp; done) | (go_simp; rfl)); intro gb hg_gb w2 hbox hb; have BKgb := qab.mk hbox; have n_HB := qab.mk (qag HB.out hb); have GEgb : w.heap.size ≤ gb := (by rw [hg_gb]; exact HB.out.size); clear HB; have HB := n_HB; clear n_HB; have hfgb := qac BKgb.out; have hcgb_0 : w2.cell? ⟨gb, 0, none⟩ = some (.slice A0_0 l0_0.length c0_0) := (qaa BKgb.out 0).trans rfl; have hcgb_1 : w2.cell? ⟨gb, 1, none⟩ = some (.slice A0_1 l0_1.length c0_1) := (qaa BKgb.out 1).trans rfl; have hcgb_2 : w2.cell? ⟨gb, 2, none⟩ = some (.slice A0_2 l0_2.length c0_2) := (qaa BKgb.out 2).trans rfl; clear hbox hb hg_gb) | (go_at_call 54; refine (HVAL.out _ HB.out).mono ?_; rw [HV.out]; rintro e w3 ⟨rfl, hb⟩; have n_BKgb := qab.mk (qah BKgb.out hb); clear BKgb; have BKgb := n_BKgb; clear n_BKgb; have n_HB := qab.mk (qag HB.out hb); clear HB; have HB := n_HB; clear n_HB; clear hb; have hfgb := qac BKgb.out; have hcgb_0 : w3.cell? ⟨gb, 0, none⟩ = some (.slice A0_0 l0_0.length c0_0) := (qaa BKgb.out 0).trans rfl; have hcgb_1 : w3.cell? ⟨gb, 1, none⟩ = some (.slice A0_1 l0_1.length c0_1) := (qaa BKgb.out 1).trans rfl; have hcgb_2 : w3.cell? ⟨gb, 2, none⟩ = some (.slice A0_2 l0_2.length c0_2) := (qaa BKgb.out 2).trans rfl) | (go_at_call 62; refine (HPL.out _ HB.out).mono ?_; rw [HP.out]; rintro e w4 ⟨rfl, hb⟩; have n_BKgb := qab.mk (qah BKgb.out hb); clear BKgb; have BKgb := n_BKgb; clear n_BKgb; have n_HB := qab.mk (qag HB.out hb); clear HB; have HB := n_HB; clear n_HB; clear hb; have hfgb := qac BKgb.out; have hcgb_0 : w4.cell? ⟨gb, 0, none⟩ = some (.slice A0_0 l0_0.length c0_0) := (qaa BKgb.out 0).trans rfl; have hcgb_1 : w4.cell? ⟨gb, 1, none⟩ = some (.slice A0_1 l0_1.length c0_1) := (qaa BKgb.out 1).trans rfl; have hcgb_2 : w4.cell? ⟨gb, 2, none⟩ = some (.slice A0_2 l0_2.length c0_2) := (qaa BKgb.out 2).trans rfl))
    go_ret
    exact ⟨rfl, HB.out⟩
   | true =>
    rw [hp] at HR
    have HP := qab.mk hp
    clear hp
    obtain ⟨b, hbb⟩ : ∃ b, b = l2.any fun f => !faultB l0_0 f := ⟨_, rfl⟩
    rw [← hbb] at HR
    have HBB := qab.mk hbb
    clear hbb
    have hany : ∀ gb W, Below w.heap.size w W → W.heap[gb]? = some (.cells #[.slice A0_0 l0_0.length c0_0, .slice A0_1 l0_1.length c0_1, .slice A0_2 l0_2.length c0_2] 26 (0, 0)) → Calls Try.prog 81 #[.slice A2 l2.length c2, .func (.func 95) #[] #[.pointer (some ⟨gb, 0, none⟩)]] W fun e w' => e = .returned (.bool b) ∧ Below W.heap.size W w' := fun gb W hW hg => by
     rw [HBB.out]
     exact has95 _ l2 _ _ (fun f => !faultB l0_0 f) W (Kd.qak HR3.out hW) (fun i W' _ _ hb' => by
      have hW' := qag hW hb'
      exact given1_calls _ _ l0_0 _ _ l0_1 _ _ l0_2 _ gb W' (Kd.qak HR0.out hW') hc0_0 (Kd.qak HR1.out hW') hc0_1 (Kd.qak HR2.out hW') hc0_2 (qah hg hb'))
    have HANY := qab.mk hany
    clear hany
    cases b with
    | true =>
     have hr2 : r = 2 := by rw [HR.out]; rfl
     subst hr2
     go_enter Try.func70, Try.ntmps70
     go_wp2_with (first | ((with_reducible refine qaq (N := 3) rfl ?_); refine qam ?hg (N := 3) ?hd (cs := #[.slice A0_0 l0_0.length c0_0, .slice A0_1 l0_1.length c0_1, .slice A0_2 l0_2.length c0_2]) (t := 26) ?hr ?_; (case hd => rfl); (case hg => rfl); (case hr => first | (go_simp; done) | (go_simp; rfl)); intro gb hg_gb w2 hbox hb; have BKgb := qab.mk hbox; have n_HB := qab.mk (qag HB.out hb); have GEgb : w.heap.size ≤ gb := (by rw [hg_gb]; exact HB.out.size); clear HB; have HB := n_HB; clear n_HB; have hfgb := qac BKgb.out; have hcgb_0 : w2.cell? ⟨gb, 0, none⟩ = some (.slice A0_0 l0_0.length c0_0) := (qaa BKgb.out 0).trans rfl; have hcgb_1 : w2.cell? ⟨gb, 1, none⟩ = some (.slice A0_1 l0_1.length c0_1) := (qaa BKgb.out 1).trans rfl; have hcgb_2 : w2.cell? ⟨gb, 2, none⟩ = some (.slice A0_2 l0_2.length c0_2) := (qaa BKgb.out 2).trans rfl; clear hbox hb hg_gb) | (go_at_call 54; refine (HVAL.out _ HB.out).mono ?_; rw [HV.out]; rintro e w3 ⟨rfl, hb⟩; have n_BKgb := qab.mk (qah BKgb.out hb); clear BKgb; have BKgb := n_BKgb; clear n_BKgb; have n_HB := qab.mk (qag HB.out hb); clear HB; have HB := n_HB; clear n_HB; clear hb; have hfgb := qac BKgb.out; have hcgb_0 : w3.cell? ⟨gb, 0, none⟩ = some (.slice A0_0 l0_0.length c0_0) := (qaa BKgb.out 0).trans rfl; have hcgb_1 : w3.cell? ⟨gb, 1, none⟩ = some (.slice A0_1 l0_1.length c0_1) := (qaa BKgb.out 1).trans rfl; have hcgb_2 : w3.cell? ⟨gb, 2, none⟩ = some (.slice A0_2 l0_2.length c0_2) := (qaa BKgb.out 2).trans rfl) | (go_at_call 62; refine (HPL.out _ HB.out).mono ?_; rw [HP.out]; rintro e w4 ⟨rfl, hb⟩; have n_BKgb := qab.mk (qah BKgb.out hb); clear BKgb; have BKgb := n_BKgb; clear n_BKgb; have n_HB := qab.mk (qag HB.out hb); clear HB; have HB := n_HB; clear n_HB; clear hb; have hfgb := qac BKgb.out; have hcgb_0 : w4.cell? ⟨gb, 0, none⟩ = some (.slice A0_0 l0_0.length c0_0) := (qaa BKgb.out 0).trans rfl; have hcgb_1 : w4.cell? ⟨gb, 1, none⟩ = some (.slice A0_1 l0_1.length c0_1) := (qaa BKgb.out 1).trans rfl; have hcgb_2 : w4.cell? ⟨gb, 2, none⟩ = some (.slice A0_2 l0_2.length c0_2) := (qaa BKgb.out 2).trans rfl) | (go_at_call 81; refine (HANY.out gb _ HB.out BKgb.out).mono ?_; rintro e w5 ⟨rfl, hb⟩; have n_HB := qab.mk (qag HB.out hb); clear HB; have HB := n_HB; clear n_HB; clear hb))
     go_ret
     exact ⟨rfl, HB.out⟩
    | false =>
     have hr2 : r = 0 := by rw [HR.out]; rfl
     subst hr2
     go_enter Try.func70, Try.ntmps70
     go_wp2_with (first | ((with_reducible refine qaq (N := 3) rfl ?_); refine qam ?hg (N := 3) ?hd (cs := #[.slice A0_0 l0_0.length c0_0, .slice A0_1 l0_1.length c0_1, .slice A0_2 l0_2.length c0_2]) (t := 26) ?hr ?_; (case hd => rfl); (case hg => rfl); (case hr => first | (go_simp; done) | (go_simp; rfl)); intro gb hg_gb w2 hbox hb; have BKgb := qab.mk hbox; have n_HB := qab.mk (qag HB.out hb); have GEgb : w.heap.size ≤ gb := (by rw [hg_gb]; exact HB.out.size); clear HB; have HB := n_HB; clear n_HB; have hfgb := qac BKgb.out; have hcgb_0 : w2.cell? ⟨gb, 0, none⟩ = some (.slice A0_0 l0_0.length c0_0) := (qaa BKgb.out 0).trans rfl; have hcgb_1 : w2.cell? ⟨gb, 1, none⟩ = some (.slice A0_1 l0_1.length c0_1) := (qaa BKgb.out 1).trans rfl; have hcgb_2 : w2.cell? ⟨gb, 2, none⟩ = some (.slice A0_2 l0_2.length c0_2) := (qaa BKgb.out 2).trans rfl; clear hbox hb hg_gb) | (go_at_call 54; refine (HVAL.out _ HB.out).mono ?_; rw [HV.out]; rintro e w3 ⟨rfl, hb⟩; have n_BKgb := qab.mk (qah BKgb.out hb); clear BKgb; have BKgb := n_BKgb; clear n_BKgb; have n_HB := qab.mk (qag HB.out hb); clear HB; have HB := n_HB; clear n_HB; clear hb; have hfgb := qac BKgb.out; have hcgb_0 : w3.cell? ⟨gb, 0, none⟩ = some (.slice A0_0 l0_0.length c0_0) := (qaa BKgb.out 0).trans rfl; have hcgb_1 : w3.cell? ⟨gb, 1, none⟩ = some (.slice A0_1 l0_1.length c0_1) := (qaa BKgb.out 1).trans rfl; have hcgb_2 : w3.cell? ⟨gb, 2, none⟩ = some (.slice A0_2 l0_2.length c0_2) := (qaa BKgb.out 2).trans rfl) | (go_at_call 62; refine (HPL.out _ HB.out).mono ?_; rw [HP.out]; rintro e w4 ⟨rfl, hb⟩; have n_BKgb := qab.mk (qah BKgb.out hb); clear BKgb; have BKgb := n_BKgb; clear n_BKgb; have n_HB := qab.mk (qag HB.out hb); clear HB; have HB := n_HB; clear n_HB; clear hb; have hfgb := qac BKgb.out; have hcgb_0 : w4.cell? ⟨gb, 0, none⟩ = some (.slice A0_0 l0_0.length c0_0) := (qaa BKgb.out 0).trans rfl; have hcgb_1 : w4.cell? ⟨gb, 1, none⟩ = some (.slice A0_1 l0_1.length c0_1) := (qaa BKgb.out 1).trans rfl; have hcgb_2 : w4.cell? ⟨gb, 2, none⟩ = some (.slice A0_2 l0_2.length c0_2) := (qaa BKgb.out 2).trans rfl) | (go_at_call 81; refine (HANY.out gb _ HB.out BKgb.out).mono ?_; rintro e w5 ⟨rfl, hb⟩; have n_HB := qab.mk (qag HB.out hb); clear HB; have HB := n_HB; clear n_HB; clear hb))
     go_ret
     exact ⟨rfl, HB.out⟩
end Go.Proofs.Ytipphcjgdebecaa.PA
namespace Go.Proofs.Ytipphcjgdebecaa.PA
open Go.RowKit Go.Proofs.YtipphcjgdebecaaW.PrintWords Go.Proofs.YtipphcjgdebecaaW.PrintLast Go.Proofs.YtipphcjgdebecaaW.PrintMore
attribute [local go_sem] max2_int min2_int max_two min_two qau qav max_four min_four
attribute [local go_sem] Oper.semAt_some
def numsOf (m : Nat) : List Int := (List.range m).map fun i : Nat => (i : Int)
theorem numsOf_succ (m : Nat) : numsOf (m + 1) = numsOf m ++ [(m : Int)] := by simp [numsOf, List.range_succ]
theorem numsOf_pre (k m : Nat) (h : k ≤ m) : numsOf k <+: numsOf m := by
 induction m with
 | zero =>
  obtain rfl : k = 0 := by omega
  exact List.prefix_refl _
 | succ m ih =>
  rcases Nat.lt_or_ge k (m + 1) with hk | hk
  ·
   rw [numsOf_succ]
   exact (ih (by omega)).trans (List.prefix_append _ _)
  ·
   obtain rfl : k = m + 1 := by omega
   exact List.prefix_refl _
theorem numsOf_length (m : Nat) : (numsOf m).length = m := by simp [numsOf]
theorem numbers1_in (F : Fence) (n : Nat) (h6 : F.fn 96) (hro : F.round = none) (hn : 1 ≤ n) (l Bn : Nat) (m : Nat) (hm : m ≤ 1000) (J Jx : List Int → World → Prop)
  (hY : ∀ pre x W, x ∈ numsOf m → J pre W → pre.length < (numsOf m).length → YieldAt F (n - 1) Try.prog l #[.int .i64 x] W fun e W' =>
   (e = .returned (.bool true) ∧ J (pre ++ [x]) W' ∧ KeptAt Bn W W') ∨ (e = .returned (.bool false) ∧ Jx (pre ++ [x]) W'))
  (W : World) (hBn : W.heap[Bn]? = some (.cells #[.int .i64 m] 3 (0, 0))) (h0 : J [] W) :
  CallsIn F n Try.prog 96 #[.func (.yield l) #[] #[], .pointer (some ⟨Bn, 0, none⟩)] W fun e W' => (∃ v, e = .returned v) ∧
   ((∃ ys, ys = numsOf m ∧ J ys W') ∨ (∃ pre, pre <+: numsOf m ∧ Jx pre W')) := by
 refine callsIn_of_wp Try.func96 rfl h6 ?_ hro
 simp only [Try.ntmps96, List.size_toArray, List.length_cons, List.length_nil, Nat.reduceAdd, Nat.reduceSub, Array.replicate_succ, Array.replicate_zero, List.push_toArray, List.append_toArray, List.nil_append, List.cons_append]
 have hc0 : W.cell? ⟨Bn, 0, none⟩ = some (.int .i64 m) := (qaa hBn 0).trans rfl
 gi_wp2
 gi_loopw [5] (fun s wr => ∃ (k : Nat), k ≤ m ∧ s = .int .i64 k ∧ qab (J (numsOf k) wr))
  (fun s _ => m - (intOf s).toNat)
 case atStart =>
  exact ⟨0, by omega, rfl, ⟨h0⟩⟩
 case round =>
  obtain ⟨k, hk, rfl, HJ⟩ := hrel
  by_cases hlt : k < m
  ·
   have hlt1 : (k : Int) < m := by omega
   obtain ⟨fn, tmps, assign, body, hy, hR⟩ := hY (numsOf k) k wr ((numsOf_pre (k + 1) m (by omega)).subset (by rw [numsOf_succ]; simp)) HJ.out (by rw [numsOf_length, numsOf_length]; exact hlt)
   gi_wp2
   try rw [hy]
   refine hR.mono ?_
   rintro e W3 (⟨rfl, hJ3, hk3⟩ | ⟨rfl, hJx3⟩)
   ·
    have HJ3 := qab.mk hJ3
    clear hJ3 hk3
    gi_wp2
    go_roundw
    case rel => exact ⟨k + 1, by omega, by go_num, ⟨by rw [numsOf_succ]; exact HJ3.out⟩⟩
    case measure => simp [intOf]; omega
   ·
    have HJ3 := qab.mk hJx3
    clear hJx3
    gi_wp2
    refine bodyPost_ret (results_none rfl _ _ _) rfl ?_
    exact ⟨⟨_, rfl⟩, .inr ⟨numsOf k ++ [(k : Int)], by rw [← numsOf_succ]; exact numsOf_pre (k + 1) m (by omega), HJ3.out⟩⟩
  ·
   obtain rfl : k = m := by omega
   gi_wp2
   go_end0
   exact ⟨⟨_, rfl⟩, .inl ⟨_, rfl, HJ.out⟩⟩
theorem numbers_stops (n : Nat) (hn : 1 ≤ n) (m : Nat) (hm : m ≤ 1000) (Bn : Nat) (w : World) (hBn : w.heap[Bn]? = some (.cells #[.int .i64 m] 3 (0, 0))) :
  SeqStopsK Fence.wide n Try.prog 96 #[.pointer (some ⟨Bn, 0, none⟩)] (fun x : { x : Int // x ∈ numsOf m } => #[.int .i64 x.1]) (KeptAt Bn) (fun xs => xs.map (·.1) = numsOf m) (fun pre => pre.map (·.1) <+: numsOf m) (numsOf m).length w := by
 intro l J Jx W hW hJ hJx hY h0
 refine (numbers1_in Fence.wide n trivial rfl hn l Bn m hm (fun pre W => ∃ p : List { x : Int // x ∈ numsOf m }, p.map (·.1) = pre ∧ J p W) (fun pre W => ∃ p : List { x : Int // x ∈ numsOf m }, p.map (·.1) = pre ∧ Jx p W) ?_ W ((hW.block Bn (blk_lt hBn)).trans hBn) ⟨[], rfl, h0⟩).mono ?_
 ·
  rintro pre x W1 hx ⟨p, rfl, hp⟩ hlen
  refine YieldAt_mono (hY p ⟨x, hx⟩ W1 hp (by simpa using hlen)) ?_
  rintro e W' (⟨rfl, h1, h2⟩ | ⟨rfl, h1⟩)
  ·
   exact .inl ⟨rfl, ⟨_, by simp, h1⟩, h2⟩
  ·
   exact .inr ⟨rfl, ⟨_, by simp, h1⟩⟩
 ·
  rintro e W' ⟨hv, (⟨ys, rfl, p, hp, h1⟩ | ⟨pre, hpre, p, rfl, h1⟩)⟩
  ·
   exact ⟨hv, .inl ⟨p, hp, h1⟩⟩
  ·
   exact ⟨hv, .inr ⟨p, hpre, h1⟩⟩
theorem numbers_calls (f : Int) (w : World) : Calls Try.prog 72 #[.int .i64 f] w fun e w' => ∃ B, e = .returned (.func (.func 96) #[] #[.pointer (some ⟨B, 0, none⟩)]) ∧ w'.heap[B]? = some (.cells #[.int .i64 f] 3 (0, 0)) ∧ w.heap.size ≤ B ∧ Below w.heap.size w w' := by
 have hmf : ∀ (fn : Fn) (first cap : Array Value) (w : World), (Instr.makeFunc fn first cap).run Try.prog w = .ok (.func fn first cap) w := fun _ _ _ _ => rfl
 have HB := qab.mk (Below.refl w.heap.size w)
 go_enter Try.func72, Try.ntmps72
 go_wp2_with ((with_reducible refine qaq (N := 1) rfl ?_); refine qam ?hg (N := 1) ?hd (cs := #[.int .i64 f]) (t := 3) ?hr ?_; (case hd => rfl); (case hg => rfl); (case hr => first | (go_simp; done) | (go_simp; rfl)); intro gb hg_gb w2 hbox hb; have BKgb := qab.mk hbox; have n_HB := qab.mk (qag HB.out hb); have GEgb : w.heap.size ≤ gb := (by rw [hg_gb]; exact HB.out.size); clear HB; have HB := n_HB; clear n_HB; have hfgb := qac BKgb.out; have hcgb_0 : w2.cell? ⟨gb, 0, none⟩ = some (.int .i64 f) := (qaa BKgb.out 0).trans rfl; clear hbox hb hg_gb)
 go_ret
 exact ⟨gb, rfl, BKgb.out, GEgb, HB.out⟩
theorem greatest73_calls {p : Int → Prop} {gf : Nat} {lb : Array Value} (egf : ∀ args w, (callFunc gf args).run Try.prog w = .ok (.enter gf args) w)
  {S Sp : List { x : Int // p x } → Prop} {N Bn : Nat} {w : World} (hBn : Bn < w.heap.size)
  (hseq : ∀ n, 1 ≤ n → SeqStopsK Fence.wide n Try.prog gf lb (fun x : { x : Int // p x } => #[.int .i64 x.1]) (KeptAt Bn) S Sp N w)
  (L : List Int) (hS : ∀ xs, S xs → xs.map (·.1) = L) {Inv : (Nat → Prop) → World → Prop} (HI : Held w.heap.size Inv) (T : Nat → Prop) (hT : ∀ k, T k → k < w.heap.size ∧ k ≠ Bn)
  (A0 : Nat → Prop) (c0 c1 : Value) (of : Int → Int × Bool)
  (hof : ∀ A W x, p x → (∀ k, A k → k < W.heap.size) → Inv A W → Calls Try.prog 73 #[.int .i64 x, c0, c1] W fun e W' => e = .returned (.tuple #[.int .i64 (of x).1, .bool (of x).2]) ∧ Inv A W' ∧ KB T W W')
  (h0 : Inv A0 w) (hA0 : ∀ k, A0 k → k < w.heap.size) :
  Calls Try.prog 71 #[.func (.func gf) #[] lb, .func (.func 73) #[] #[c0, c1]] w fun e W' => e = .returned (.tuple #[.int .i64 (g1 of L).1, .int .i64 (g1 of L).2.1, .bool (g1 of L).2.2]) ∧ Inv A0 W' ∧ KB T w W' := by
 refine (callsIn_wide (n := 8)).1 ?_
 refine callsIn_of_wp_marks Try.func71 rfl trivial ?_ rfl
 simp only [Try.ntmps71, List.size_toArray, List.length_cons, List.length_nil, Nat.reduceAdd, Nat.reduceSub, Array.replicate_succ, Array.replicate_zero, List.push_toArray, List.append_toArray, List.nil_append, List.cons_append]
 gi_wp2
 obtain ⟨w4, hw4, b3, b7, b8, b9, hsz, hb⟩ := allocs4 w (.cells #[.func (.func 73) #[] #[c0, c1]] 110) (.cells #[.int .i64 0] 3) (.cells #[.int .i64 0] 3) (.cells #[.bool false] 4)
 rw [hw4]
 clear hw4
 obtain ⟨A, hAe⟩ : ∃ A : Nat → Prop, A = (fun k => A0 k ∨ k = w.heap.size + 1 ∨ k = w.heap.size + 1 + 1 ∨ k = w.heap.size + 1 + 1 + 1) := ⟨_, rfl⟩
 have hA : ∀ k, A k → k < w4.heap.size := fun k hk => by
  rw [hAe] at hk
  rcases hk with hk | hk | hk | hk
  ·
   have := hA0 k hk
   omega
  ·
   omega
  ·
   omega
  ·
   omega
 have i0 : Inv A w4 := by
  refine HI.step _ w _ (HI.mono _ _ _ (fun k hk => ?_) (HI.fresh _ _ h0)) (KB.of_below hb _)
  rw [hAe] at hk
  rcases hk with hk | hk | hk | hk
  ·
   exact .inl hk
  ·
   exact .inr (by omega)
  ·
   exact .inr (by omega)
  ·
   exact .inr (by omega)
 refine wpIn_rangeFunc_ownG rfl (by omega) (gf := gf) (lb := lb) rfl trivial egf (hseq _ (by omega)) (fun h k => KeptAt.trans h k) (keptAt_put (by omega)) hb (fun _ => rfl)
  (fun pre W => Inv A W ∧ W.heap[w.heap.size]? = some (.cells #[.func (.func 73) #[] #[c0, c1]] 110 (0, 0)) ∧
   W.heap[w.heap.size + 1]? = some (.cells #[.int .i64 (g1 of (pre.map (·.1))).1] 3 (0, 0)) ∧ W.heap[w.heap.size + 1 + 1]? = some (.cells #[.int .i64 (g1 of (pre.map (·.1))).2.1] 3 (0, 0)) ∧
   W.heap[w.heap.size + 1 + 1 + 1]? = some (.cells #[.bool (g1 of (pre.map (·.1))).2.2] 4 (0, 0)) ∧ KB T w W)
  (fun _ _ _ => False) ?own (fun _ _ _ _ _ hs _ _ => hs) ⟨i0, b3, b7, b8, b9, KB.of_below hb T⟩
  (fun x => { tmps := #[.func (.func gf) #[] lb, .func (.func 73) #[] #[c0, c1], undef, .pointer (some ⟨w.heap.size, 0, none⟩), .int .i64 0, .int .i64 0, .bool false, .pointer (some ⟨w.heap.size + 1, 0, none⟩), .pointer (some ⟨w.heap.size + 1 + 1, 0, none⟩), .pointer (some ⟨w.heap.size + 1 + 1 + 1, 0, none⟩),
   .int .i64 x.1, undef, undef, .func (.func gf) #[] lb, .int .i64 x.1, undef, undef, undef, undef, undef, undef, undef, undef, undef, undef, undef, undef, undef, undef, undef, undef, undef, undef, undef, undef, undef], defers := [] }) ?assign ?body ?done ?stop
 case own =>
  rintro s A B row ⟨h1, h2, h3, h4, h5, h6⟩ hg hr
  refine ⟨HI.own _ _ _ row h1 hg (fun r e => ⟨by have := (hr r e).1; omega, (hr r e).2⟩), blk_own h2 hg hr, blk_own h3 hg hr, blk_own h4 hg hr, blk_own h5 hg hr, ?_⟩
  exact h6.trans (KB.of_grown hg) (fun k e => .inr (by have := (hr k e).1; omega))
 case assign =>
  intro l x W K hK
  gi_wp2
  exact hK
 case body =>
  rintro l pre x W ⟨h1, h2, h3, h4, h5, h6⟩ _
  have hlt : w4.heap.size ≤ W.heap.size ∨ True := .inr trivial
  have hd : 1 ≤ 8 - 1 - 1 := by omega
  obtain ⟨x, hx⟩ := x
  have hcall := hof A W x hx (fun k hk => by
   have e1 := blk_lt h5
   have := hA k hk
   omega) h1
  have hmap : (pre ++ [(⟨x, hx⟩ : { x : Int // p x })]).map (·.1) = pre.map (·.1) ++ [x] := by simp
  have HM := qab.mk hmap
  have hst := g1_snoc of (pre.map (·.1)) x
  unfold g1s at hst
  have HST := qab.mk hst
  clear hst hmap
  generalize hg1 : g1 of (pre.map (·.1)) = g at h3 h4 h5 HST
  obtain ⟨go, gm, gfo⟩ := g
  generalize hn1 : of x = n1 at HST hcall
  obtain ⟨n1, b1⟩ := n1
  dsimp only at h3 h4 h5 HST hcall
  have H1 := qab.mk h1
  have H2 := qab.mk h2
  have H3 := qab.mk h3
  have H4 := qab.mk h4
  have H5 := qab.mk h5
  have H6 := qab.mk h6
  have hc2 : W.cell? ⟨w.heap.size, 0, none⟩ = some (.func (.func 73) #[] #[c0, c1]) := qaa h2 0
  have hWs : w.heap.size ≤ W.heap.size := h6.size
  clear h1 h2 h3 h4 h5 h6 hof hseq hS
  gi_wp2
  refine ⟨trivial, (CallsIn.inRound l (callsIn_wide.2 hcall)).mono ?_⟩
  rintro e W2 ⟨rfl, i1, k1⟩
  clear hcall hc2
  have nT : ∀ j, w.heap.size ≤ j → ¬ T j := fun j hj hk => by have := (hT j hk).1; omega
  have J2 := k1.blk H2.out (nT _ (by omega))
  have J3 := k1.blk H3.out (nT _ (by omega))
  have J4 := k1.blk H4.out (nT _ (by omega))
  have J5 := k1.blk H5.out (nT _ (by omega))
  have KT := qab.mk (H6.out.trans k1 (fun k hk => .inl hk))
  have KW := qab.mk k1
  have I1 := qab.mk i1
  clear i1 k1 H2 H3 H4 H5 H6 H1
  have hc3 : W2.cell? ⟨w.heap.size + 1, 0, none⟩ = some (.int .i64 go) := qaa J3 0
  have hc4 : W2.cell? ⟨w.heap.size + 1 + 1, 0, none⟩ = some (.int .i64 gm) := qaa J4 0
  have hc5 : W2.cell? ⟨w.heap.size + 1 + 1 + 1, 0, none⟩ = some (.bool gfo) := qaa J5 0
  have hf3 : W2.frozen? ⟨w.heap.size + 1, 0, none⟩ = false := qac J3 0
  have hf4 : W2.frozen? ⟨w.heap.size + 1 + 1, 0, none⟩ = false := qac J4 0
  have hf5 : W2.frozen? ⟨w.heap.size + 1 + 1 + 1, 0, none⟩ = false := qac J5 0
  have KEEP : qab (KeepsFrom w4.heap.size W W2 ∧ KeptAt Bn W W2) := ⟨KW.out.from (fun k hk => by have := (hT k hk).1; omega), KW.out.block Bn (by omega) (fun hk => (hT _ hk).2 rfl)⟩
  have B2 := qab.mk J2
  have B3 := qab.mk J3
  have B4 := qab.mk J4
  have B5 := qab.mk J5
  clear J2 J3 J4 J5
  have NO : ∀ a : Act, b1 = false ∨ (gfo = true ∧ ¬ n1 > gm) → ownPostG w4.heap.size (KeptAt Bn) (fun pre W => Inv A W ∧ W.heap[w.heap.size]? = some (.cells #[.func (.func 73) #[] #[c0, c1]] 110 (0, 0)) ∧
   W.heap[w.heap.size + 1]? = some (.cells #[.int .i64 (g1 of (pre.map (·.1))).1] 3 (0, 0)) ∧ W.heap[w.heap.size + 1 + 1]? = some (.cells #[.int .i64 (g1 of (pre.map (·.1))).2.1] 3 (0, 0)) ∧
   W.heap[w.heap.size + 1 + 1 + 1]? = some (.cells #[.bool (g1 of (pre.map (·.1))).2.2] 4 (0, 0)) ∧ KB T w W) (fun _ _ _ => False) (pre ++ [(⟨x, hx⟩ : { x : Int // p x })]) W .normal a W2 := by
   intro a hno
   have hv : g1 of (pre.map (·.1) ++ [x]) = (go, gm, gfo) := by
    rw [HST.out, if_neg]
    rintro ⟨ha, hb⟩
    rcases hno with hno | ⟨hno, hno2⟩
    ·
     rw [hno] at ha; cases ha
    ·
     rcases hb with hb | hb
     ·
      rw [hno] at hb; cases hb
     ·
      exact hno2 hb
   refine ⟨KEEP.out.1, KEEP.out.2, I1.out, B2.out, ?_⟩
   rw [HM.out, hv]
   exact ⟨B3.out, B4.out, B5.out, KT.out⟩
  have HNO := qab.mk NO
  clear NO
  have YES : ∀ a : Act, b1 = true ∧ (gfo = false ∨ n1 > gm) → ownPostG w4.heap.size (KeptAt Bn) (fun pre W => Inv A W ∧ W.heap[w.heap.size]? = some (.cells #[.func (.func 73) #[] #[c0, c1]] 110 (0, 0)) ∧
   W.heap[w.heap.size + 1]? = some (.cells #[.int .i64 (g1 of (pre.map (·.1))).1] 3 (0, 0)) ∧ W.heap[w.heap.size + 1 + 1]? = some (.cells #[.int .i64 (g1 of (pre.map (·.1))).2.1] 3 (0, 0)) ∧
   W.heap[w.heap.size + 1 + 1 + 1]? = some (.cells #[.bool (g1 of (pre.map (·.1))).2.2] 4 (0, 0)) ∧ KB T w W) (fun _ _ _ => False) (pre ++ [(⟨x, hx⟩ : { x : Int // p x })]) W .normal a (((W2.setCell ⟨w.heap.size + 1, 0, none⟩ (.int .i64 x)).setCell ⟨w.heap.size + 1 + 1, 0, none⟩ (.int .i64 n1)).setCell ⟨w.heap.size + 1 + 1 + 1, 0, none⟩ (.bool true)) := by
   intro a hyes
   have hv : g1 of (pre.map (·.1) ++ [x]) = (x, n1, true) := by
    rw [HST.out, if_pos hyes]
   have kA : ∀ S : Nat → Prop, S (w.heap.size + 1) → S (w.heap.size + 1 + 1) → S (w.heap.size + 1 + 1 + 1) → KB S W2 (((W2.setCell ⟨w.heap.size + 1, 0, none⟩ (.int .i64 x)).setCell ⟨w.heap.size + 1 + 1, 0, none⟩ (.int .i64 n1)).setCell ⟨w.heap.size + 1 + 1 + 1, 0, none⟩ (.bool true)) :=
    fun S s1 s2 s3 => (((KB.refl S W2).set (p := ⟨w.heap.size + 1, 0, none⟩) (.inl s1) _).set (p := ⟨w.heap.size + 1 + 1, 0, none⟩) (.inl s2) _).set (p := ⟨w.heap.size + 1 + 1 + 1, 0, none⟩) (.inl s3) _
   have kW := (KW.out.mono (T' := fun k => T k ∨ k = w.heap.size + 1 ∨ k = w.heap.size + 1 + 1 ∨ k = w.heap.size + 1 + 1 + 1) (fun k hk => .inl hk)).trans (kA _ (.inr (.inl rfl)) (.inr (.inr (.inl rfl))) (.inr (.inr (.inr rfl)))) (fun k hk => .inl hk)
   refine ⟨kW.from (fun k hk => ?_), kW.block Bn (by omega) (fun hk => ?_), HI.step _ _ _ I1.out (kA A ?_ ?_ ?_), ?_, ?_⟩
   ·
    rcases hk with hk | hk | hk | hk
    ·
     have := (hT k hk).1
     omega
    ·
     omega
    ·
     omega
    ·
     omega
   ·
    rcases hk with hk | hk | hk | hk
    ·
     exact (hT _ hk).2 rfl
    ·
     omega
    ·
     omega
    ·
     omega
   ·
    rw [hAe]; exact .inr (.inl rfl)
   ·
    rw [hAe]; exact .inr (.inr (.inl rfl))
   ·
    rw [hAe]; exact .inr (.inr (.inr rfl))
   ·
    exact blk_far (blk_far (blk_far B2.out (by dsimp only; omega) _) (by dsimp only; omega) _) (by dsimp only; omega) _
   ·
    rw [HM.out, hv]
    refine ⟨?_, ?_, ?_, ?_⟩
    ·
     exact blk_far (blk_far (qax B3.out 0 _) (by dsimp only; omega) _) (by dsimp only; omega) _
    ·
     exact blk_far (qax (blk_far B4.out (by dsimp only; omega) _) 0 _) (by dsimp only; omega) _
    ·
     exact qax (blk_far (blk_far B5.out (by dsimp only; omega) _) (by dsimp only; omega) _) 0 _
    ·
     exact KT.out.trans (kA (fun k => w.heap.size ≤ k) (by omega) (by omega) (by omega)) (fun k hk => .inr hk)
  have HYES := qab.mk YES
  clear YES
  cases b1 with
  | false =>
   gi_wp2
   exact HNO.out _ (by simp)
  | true =>
   cases gfo with
   | false =>
    gi_wp2
    exact HYES.out _ (by simp)
   | true =>
    by_cases hgt : n1 > gm
    ·
     gi_wp2
     exact HYES.out _ (by simp [hgt])
    ·
     gi_wp2
     exact HNO.out _ (by simp [hgt])
 case done =>
  rintro D xs W hD hSx ⟨h1, h2, h3, h4, h5, h6⟩ hK
  have hl := hS xs hSx
  rw [hl] at h3 h4 h5
  have hc3 : W.cell? ⟨w.heap.size + 1, 0, none⟩ = some (.int .i64 (g1 of L).1) := qaa h3 0
  have hc4 : W.cell? ⟨w.heap.size + 1 + 1, 0, none⟩ = some (.int .i64 (g1 of L).2.1) := qaa h4 0
  have hc5 : W.cell? ⟨w.heap.size + 1 + 1 + 1, 0, none⟩ = some (.bool (g1 of L).2.2) := qaa h5 0
  clear hof hseq hS h2 h3 h4 h5
  generalize hgL : g1 of L = g at hc3 hc4 hc5
  have HG := qab.mk hgL
  clear hgL
  have H1 := qab.mk h1
  have H6 := qab.mk h6
  have HK := qab.mk hK
  clear h1 h6 hK
  gi_wp2
  gi_region
  all_goals gi_wp2
  refine ⟨by simp, .inl ⟨_, _, rfl, run_takeDeferred (show W.drew.heap[D]? = _ from HK.out), ?_⟩⟩
  have hput := grownBy_putObj' W.drew D (.deferred none)
  have hrow : ∀ r, some D = some r → w.heap.size ≤ r ∧ ∃ o : Obj, W.drew.heap[r]? = some o ∧ o.isCells = false := fun r e => by
   injection e with e
   subst e
   exact ⟨by omega, _, HK.out, rfl⟩
  have hid : Inv A W.drew := HI.own A W W.drew none H1.out ⟨rfl, rfl, rfl, Nat.le_refl _, fun _ _ _ => rfl⟩ (fun r e => by cases e)
  have hi2 := HI.own A W.drew _ (some D) hid hput hrow
  refine ⟨_, results_tmp3 rfl _ _ _, by rw [HG.out]; rfl, HI.mono _ _ _ (fun k hk => by rw [hAe]; exact .inl hk) hi2, ?_⟩
  have hk6 : KB T w W.drew := ⟨H6.out.os, H6.out.tape, H6.out.output, H6.out.size, H6.out.block⟩
  exact hk6.trans (KB.of_grown hput) (fun k e => .inr (by injection e with e; omega))
 case stop =>
  rintro D c pre W _ _ h _
  exact h.elim
theorem greatest75_calls {p : Int → Prop} {gf : Nat} {lb : Array Value} (egf : ∀ args w, (callFunc gf args).run Try.prog w = .ok (.enter gf args) w)
  {S Sp : List { x : Int // p x } → Prop} {N Bn : Nat} {w : World} (hBn : Bn < w.heap.size)
  (hseq : ∀ n, 1 ≤ n → SeqStopsK Fence.wide n Try.prog gf lb (fun x : { x : Int // p x } => #[.int .i64 x.1]) (KeptAt Bn) S Sp N w)
  (L : List Int) (hS : ∀ xs, S xs → xs.map (·.1) = L) {Inv : (Nat → Prop) → World → Prop} (HI : Held w.heap.size Inv) (T : Nat → Prop) (hT : ∀ k, T k → k < w.heap.size ∧ k ≠ Bn)
  (A0 : Nat → Prop) (c0 c1 c2 : Value) (of : Int → Int × Bool)
  (hof : ∀ A W x, p x → (∀ k, A k → k < W.heap.size) → Inv A W → Calls Try.prog 75 #[.int .i64 x, c0, c1, c2] W fun e W' => e = .returned (.tuple #[.int .i64 (of x).1, .bool (of x).2]) ∧ Inv A W' ∧ KB T W W')
  (h0 : Inv A0 w) (hA0 : ∀ k, A0 k → k < w.heap.size) :
  Calls Try.prog 71 #[.func (.func gf) #[] lb, .func (.func 75) #[] #[c0, c1, c2]] w fun e W' => e = .returned (.tuple #[.int .i64 (g1 of L).1, .int .i64 (g1 of L).2.1, .bool (g1 of L).2.2]) ∧ Inv A0 W' ∧ KB T w W' := by
 refine (callsIn_wide (n := 8)).1 ?_
 refine callsIn_of_wp_marks Try.func71 rfl trivial ?_ rfl
 simp only [Try.ntmps71, List.size_toArray, List.length_cons, List.length_nil, Nat.reduceAdd, Nat.reduceSub, Array.replicate_succ, Array.replicate_zero, List.push_toArray, List.append_toArray, List.nil_append, List.cons_append]
 gi_wp2
 obtain ⟨w4, hw4, b3, b7, b8, b9, hsz, hb⟩ := allocs4 w (.cells #[.func (.func 75) #[] #[c0, c1, c2]] 110) (.cells #[.int .i64 0] 3) (.cells #[.int .i64 0] 3) (.cells #[.bool false] 4)
 rw [hw4]
 clear hw4
 obtain ⟨A, hAe⟩ : ∃ A : Nat → Prop, A = (fun k => A0 k ∨ k = w.heap.size + 1 ∨ k = w.heap.size + 1 + 1 ∨ k = w.heap.size + 1 + 1 + 1) := ⟨_, rfl⟩
 have hA : ∀ k, A k → k < w4.heap.size := fun k hk => by
  rw [hAe] at hk
  rcases hk with hk | hk | hk | hk
  ·
   have := hA0 k hk
   omega
  ·
   omega
  ·
   omega
  ·
   omega
 have i0 : Inv A w4 := by
  refine HI.step _ w _ (HI.mono _ _ _ (fun k hk => ?_) (HI.fresh _ _ h0)) (KB.of_below hb _)
  rw [hAe] at hk
  rcases hk with hk | hk | hk | hk
  ·
   exact .inl hk
  ·
   exact .inr (by omega)
  ·
   exact .inr (by omega)
  ·
   exact .inr (by omega)
 refine wpIn_rangeFunc_ownG rfl (by omega) (gf := gf) (lb := lb) rfl trivial egf (hseq _ (by omega)) (fun h k => KeptAt.trans h k) (keptAt_put (by omega)) hb (fun _ => rfl)
  (fun pre W => Inv A W ∧ W.heap[w.heap.size]? = some (.cells #[.func (.func 75) #[] #[c0, c1, c2]] 110 (0, 0)) ∧
   W.heap[w.heap.size + 1]? = some (.cells #[.int .i64 (g1 of (pre.map (·.1))).1] 3 (0, 0)) ∧ W.heap[w.heap.size + 1 + 1]? = some (.cells #[.int .i64 (g1 of (pre.map (·.1))).2.1] 3 (0, 0)) ∧
   W.heap[w.heap.size + 1 + 1 + 1]? = some (.cells #[.bool (g1 of (pre.map (·.1))).2.2] 4 (0, 0)) ∧ KB T w W)
  (fun _ _ _ => False) ?own (fun _ _ _ _ _ hs _ _ => hs) ⟨i0, b3, b7, b8, b9, KB.of_below hb T⟩
  (fun x => { tmps := #[.func (.func gf) #[] lb, .func (.func 75) #[] #[c0, c1, c2], undef, .pointer (some ⟨w.heap.size, 0, none⟩), .int .i64 0, .int .i64 0, .bool false, .pointer (some ⟨w.heap.size + 1, 0, none⟩), .pointer (some ⟨w.heap.size + 1 + 1, 0, none⟩), .pointer (some ⟨w.heap.size + 1 + 1 + 1, 0, none⟩),
   .int .i64 x.1, undef, undef, .func (.func gf) #[] lb, .int .i64 x.1, undef, undef, undef, undef, undef, undef, undef, undef, undef, undef, undef, undef, undef, undef, undef, undef, undef, undef, undef, undef, undef], defers := [] }) ?assign ?body ?done ?stop
 case own =>
  rintro s A B row ⟨h1, h2, h3, h4, h5, h6⟩ hg hr
  refine ⟨HI.own _ _ _ row h1 hg (fun r e => ⟨by have := (hr r e).1; omega, (hr r e).2⟩), blk_own h2 hg hr, blk_own h3 hg hr, blk_own h4 hg hr, blk_own h5 hg hr, ?_⟩
  exact h6.trans (KB.of_grown hg) (fun k e => .inr (by have := (hr k e).1; omega))
 case assign =>
  intro l x W K hK
  gi_wp2
  exact hK
 case body =>
  rintro l pre x W ⟨h1, h2, h3, h4, h5, h6⟩ _
  have hlt : w4.heap.size ≤ W.heap.size ∨ True := .inr trivial
  have hd : 1 ≤ 8 - 1 - 1 := by omega
  obtain ⟨x, hx⟩ := x
  have hcall := hof A W x hx (fun k hk => by
   have e1 := blk_lt h5
   have := hA k hk
   omega) h1
  have hmap : (pre ++ [(⟨x, hx⟩ : { x : Int // p x })]).map (·.1) = pre.map (·.1) ++ [x] := by simp
  have HM := qab.mk hmap
  have hst := g1_snoc of (pre.map (·.1)) x
  unfold g1s at hst
  have HST := qab.mk hst
  clear hst hmap
  generalize hg1 : g1 of (pre.map (·.1)) = g at h3 h4 h5 HST
  obtain ⟨go, gm, gfo⟩ := g
  generalize hn1 : of x = n1 at HST hcall
  obtain ⟨n1, b1⟩ := n1
  dsimp only at h3 h4 h5 HST hcall
  have H1 := qab.mk h1
  have H2 := qab.mk h2
  have H3 := qab.mk h3
  have H4 := qab.mk h4
  have H5 := qab.mk h5
  have H6 := qab.mk h6
  have hc2 : W.cell? ⟨w.heap.size, 0, none⟩ = some (.func (.func 75) #[] #[c0, c1, c2]) := qaa h2 0
  have hWs : w.heap.size ≤ W.heap.size := h6.size
  clear h1 h2 h3 h4 h5 h6 hof hseq hS
  gi_wp2
  refine ⟨trivial, (CallsIn.inRound l (callsIn_wide.2 hcall)).mono ?_⟩
  rintro e W2 ⟨rfl, i1, k1⟩
  clear hcall hc2
  have nT : ∀ j, w.heap.size ≤ j → ¬ T j := fun j hj hk => by have := (hT j hk).1; omega
  have J2 := k1.blk H2.out (nT _ (by omega))
  have J3 := k1.blk H3.out (nT _ (by omega))
  have J4 := k1.blk H4.out (nT _ (by omega))
  have J5 := k1.blk H5.out (nT _ (by omega))
  have KT := qab.mk (H6.out.trans k1 (fun k hk => .inl hk))
  have KW := qab.mk k1
  have I1 := qab.mk i1
  clear i1 k1 H2 H3 H4 H5 H6 H1
  have hc3 : W2.cell? ⟨w.heap.size + 1, 0, none⟩ = some (.int .i64 go) := qaa J3 0
  have hc4 : W2.cell? ⟨w.heap.size + 1 + 1, 0, none⟩ = some (.int .i64 gm) := qaa J4 0
  have hc5 : W2.cell? ⟨w.heap.size + 1 + 1 + 1, 0, none⟩ = some (.bool gfo) := qaa J5 0
  have hf3 : W2.frozen? ⟨w.heap.size + 1, 0, none⟩ = false := qac J3 0
  have hf4 : W2.frozen? ⟨w.heap.size + 1 + 1, 0, none⟩ = false := qac J4 0
  have hf5 : W2.frozen? ⟨w.heap.size + 1 + 1 + 1, 0, none⟩ = false := qac J5 0
  have KEEP : qab (KeepsFrom w4.heap.size W W2 ∧ KeptAt Bn W W2) := ⟨KW.out.from (fun k hk => by have := (hT k hk).1; omega), KW.out.block Bn (by omega) (fun hk => (hT _ hk).2 rfl)⟩
  have B2 := qab.mk J2
  have B3 := qab.mk J3
  have B4 := qab.mk J4
  have B5 := qab.mk J5
  clear J2 J3 J4 J5
  have NO : ∀ a : Act, b1 = false ∨ (gfo = true ∧ ¬ n1 > gm) → ownPostG w4.heap.size (KeptAt Bn) (fun pre W => Inv A W ∧ W.heap[w.heap.size]? = some (.cells #[.func (.func 75) #[] #[c0, c1, c2]] 110 (0, 0)) ∧
   W.heap[w.heap.size + 1]? = some (.cells #[.int .i64 (g1 of (pre.map (·.1))).1] 3 (0, 0)) ∧ W.heap[w.heap.size + 1 + 1]? = some (.cells #[.int .i64 (g1 of (pre.map (·.1))).2.1] 3 (0, 0)) ∧
   W.heap[w.heap.size + 1 + 1 + 1]? = some (.cells #[.bool (g1 of (pre.map (·.1))).2.2] 4 (0, 0)) ∧ KB T w W) (fun _ _ _ => False) (pre ++ [(⟨x, hx⟩ : { x : Int // p x })]) W .normal a W2 := by
   intro a hno
   have hv : g1 of (pre.map (·.1) ++ [x]) = (go, gm, gfo) := by
    rw [HST.out, if_neg]
    rintro ⟨ha, hb⟩
    rcases hno with hno | ⟨hno, hno2⟩
    ·
     rw [hno] at ha; cases ha
    ·
     rcases hb with hb | hb
     ·
      rw [hno] at hb; cases hb
     ·
      exact hno2 hb
   refine ⟨KEEP.out.1, KEEP.out.2, I1.out, B2.out, ?_⟩
   rw [HM.out, hv]
   exact ⟨B3.out, B4.out, B5.out, KT.out⟩
  have HNO := qab.mk NO
  clear NO
  have YES : ∀ a : Act, b1 = true ∧ (gfo = false ∨ n1 > gm) → ownPostG w4.heap.size (KeptAt Bn) (fun pre W => Inv A W ∧ W.heap[w.heap.size]? = some (.cells #[.func (.func 75) #[] #[c0, c1, c2]] 110 (0, 0)) ∧
   W.heap[w.heap.size + 1]? = some (.cells #[.int .i64 (g1 of (pre.map (·.1))).1] 3 (0, 0)) ∧ W.heap[w.heap.size + 1 + 1]? = some (.cells #[.int .i64 (g1 of (pre.map (·.1))).2.1] 3 (0, 0)) ∧
   W.heap[w.heap.size + 1 + 1 + 1]? = some (.cells #[.bool (g1 of (pre.map (·.1))).2.2] 4 (0, 0)) ∧ KB T w W) (fun _ _ _ => False) (pre ++ [(⟨x, hx⟩ : { x : Int // p x })]) W .normal a (((W2.setCell ⟨w.heap.size + 1, 0, none⟩ (.int .i64 x)).setCell ⟨w.heap.size + 1 + 1, 0, none⟩ (.int .i64 n1)).setCell ⟨w.heap.size + 1 + 1 + 1, 0, none⟩ (.bool true)) := by
   intro a hyes
   have hv : g1 of (pre.map (·.1) ++ [x]) = (x, n1, true) := by
    rw [HST.out, if_pos hyes]
   have kA : ∀ S : Nat → Prop, S (w.heap.size + 1) → S (w.heap.size + 1 + 1) → S (w.heap.size + 1 + 1 + 1) → KB S W2 (((W2.setCell ⟨w.heap.size + 1, 0, none⟩ (.int .i64 x)).setCell ⟨w.heap.size + 1 + 1, 0, none⟩ (.int .i64 n1)).setCell ⟨w.heap.size + 1 + 1 + 1, 0, none⟩ (.bool true)) :=
    fun S s1 s2 s3 => (((KB.refl S W2).set (p := ⟨w.heap.size + 1, 0, none⟩) (.inl s1) _).set (p := ⟨w.heap.size + 1 + 1, 0, none⟩) (.inl s2) _).set (p := ⟨w.heap.size + 1 + 1 + 1, 0, none⟩) (.inl s3) _
   have kW := (KW.out.mono (T' := fun k => T k ∨ k = w.heap.size + 1 ∨ k = w.heap.size + 1 + 1 ∨ k = w.heap.size + 1 + 1 + 1) (fun k hk => .inl hk)).trans (kA _ (.inr (.inl rfl)) (.inr (.inr (.inl rfl))) (.inr (.inr (.inr rfl)))) (fun k hk => .inl hk)
   refine ⟨kW.from (fun k hk => ?_), kW.block Bn (by omega) (fun hk => ?_), HI.step _ _ _ I1.out (kA A ?_ ?_ ?_), ?_, ?_⟩
   ·
    rcases hk with hk | hk | hk | hk
    ·
     have := (hT k hk).1
     omega
    ·
     omega
    ·
     omega
    ·
     omega
   ·
    rcases hk with hk | hk | hk | hk
    ·
     exact (hT _ hk).2 rfl
    ·
     omega
    ·
     omega
    ·
     omega
   ·
    rw [hAe]; exact .inr (.inl rfl)
   ·
    rw [hAe]; exact .inr (.inr (.inl rfl))
   ·
    rw [hAe]; exact .inr (.inr (.inr rfl))
   ·
    exact blk_far (blk_far (blk_far B2.out (by dsimp only; omega) _) (by dsimp only; omega) _) (by dsimp only; omega) _
   ·
    rw [HM.out, hv]
    refine ⟨?_, ?_, ?_, ?_⟩
    ·
     exact blk_far (blk_far (qax B3.out 0 _) (by dsimp only; omega) _) (by dsimp only; omega) _
    ·
     exact blk_far (qax (blk_far B4.out (by dsimp only; omega) _) 0 _) (by dsimp only; omega) _
    ·
     exact qax (blk_far (blk_far B5.out (by dsimp only; omega) _) (by dsimp only; omega) _) 0 _
    ·
     exact KT.out.trans (kA (fun k => w.heap.size ≤ k) (by omega) (by omega) (by omega)) (fun k hk => .inr hk)
  have HYES := qab.mk YES
  clear YES
  cases b1 with
  | false =>
   gi_wp2
   exact HNO.out _ (by simp)
  | true =>
   cases gfo with
   | false =>
    gi_wp2
    exact HYES.out _ (by simp)
   | true =>
    by_cases hgt : n1 > gm
    ·
     gi_wp2
     exact HYES.out _ (by simp [hgt])
    ·
     gi_wp2
     exact HNO.out _ (by simp [hgt])
 case done =>
  rintro D xs W hD hSx ⟨h1, h2, h3, h4, h5, h6⟩ hK
  have hl := hS xs hSx
  rw [hl] at h3 h4 h5
  have hc3 : W.cell? ⟨w.heap.size + 1, 0, none⟩ = some (.int .i64 (g1 of L).1) := qaa h3 0
  have hc4 : W.cell? ⟨w.heap.size + 1 + 1, 0, none⟩ = some (.int .i64 (g1 of L).2.1) := qaa h4 0
  have hc5 : W.cell? ⟨w.heap.size + 1 + 1 + 1, 0, none⟩ = some (.bool (g1 of L).2.2) := qaa h5 0
  clear hof hseq hS h2 h3 h4 h5
  generalize hgL : g1 of L = g at hc3 hc4 hc5
  have HG := qab.mk hgL
  clear hgL
  have H1 := qab.mk h1
  have H6 := qab.mk h6
  have HK := qab.mk hK
  clear h1 h6 hK
  gi_wp2
  gi_region
  all_goals gi_wp2
  refine ⟨by simp, .inl ⟨_, _, rfl, run_takeDeferred (show W.drew.heap[D]? = _ from HK.out), ?_⟩⟩
  have hput := grownBy_putObj' W.drew D (.deferred none)
  have hrow : ∀ r, some D = some r → w.heap.size ≤ r ∧ ∃ o : Obj, W.drew.heap[r]? = some o ∧ o.isCells = false := fun r e => by
   injection e with e
   subst e
   exact ⟨by omega, _, HK.out, rfl⟩
  have hid : Inv A W.drew := HI.own A W W.drew none H1.out ⟨rfl, rfl, rfl, Nat.le_refl _, fun _ _ _ => rfl⟩ (fun r e => by cases e)
  have hi2 := HI.own A W.drew _ (some D) hid hput hrow
  refine ⟨_, results_tmp3 rfl _ _ _, by rw [HG.out]; rfl, HI.mono _ _ _ (fun k hk => by rw [hAe]; exact .inl hk) hi2, ?_⟩
  have hk6 : KB T w W.drew := ⟨H6.out.os, H6.out.tape, H6.out.output, H6.out.size, H6.out.block⟩
  exact hk6.trans (KB.of_grown hput) (fun k e => .inr (by injection e with e; omega))
 case stop =>
  rintro D c pre W _ _ h _
  exact h.elim
end Go.Proofs.Ytipphcjgdebecaa.PA
