/- What functions of the program answer. No condition. -/
import Derived.Test.YtipphcjgdebecaaSC
import Derived.Test.YtipphcjgdebecaaSD
import Derived.Test.YtipphcjgdebecaaSF
import Derived.Test.YtipphcjgdebecaaSH
import Derived.Test.YtipphcjgdebecaaSJ
import Derived.Test.YtipphcjgdebecaaSE
set_option linter.all false
set_option maxRecDepth 100000
set_option maxHeartbeats 8000000
namespace Go.Proofs.Ytipphcjgdebecaa.PA
open Go.RowKit Go.Proofs.YtipphcjgdebecaaW.PrintWords Go.Proofs.YtipphcjgdebecaaW.PrintLast Go.Proofs.YtipphcjgdebecaaW.PrintMore
attribute [local go_sem] qas qau max_two min_two qao qap qat qav
def givenV (l0 : List S39) (l1 : List S37) (l2 : List (List Int)) (a1 : Int) (fs : List Int) : Int :=
 if 12 < (fs.length : Int) then 3 else if (!validB l0 l1 l2 || (!inB a1 0 l0.length || fs.any fun f => !faultB l0 f)) = true then 2 else 0
theorem given1_calls (A0 : Option Addr) (c0 : Nat) (l0 : List S39) (A1 : Option Addr) (c1 : Nat) (l1 : List S37) (A2 : Option Addr) (c2 : Nat) (l2 : List (List Int)) (f : Int) (gb : Nat) (w : World) (hr0 : Kd.C k39 w A0 l0.length l0) (hc0 : l0.length ≤ c0) (hr1 : Kd.C k37 w A1 l1.length l1) (hc1 : l1.length ≤ c1) (hr2 : Kd.C (Kd.slice 3 (Kd.int .i64)) w A2 l2.length l2) (hc2 : l2.length ≤ c2)
  (hb : w.heap[gb]? = some (.cells #[.slice A0 l0.length c0, .slice A1 l1.length c1, .slice A2 l2.length c2] 26 (0, 0))) :
  Calls Try.prog 95 #[.int .i64 f, .pointer (some ⟨gb, 0, none⟩)] w fun e w' => e = .returned (.bool (!faultB l0 f)) ∧ Below w.heap.size w w' := by
 have hu26 := Try.underlying26
 have H := qab.mk (pipe_fault.calls _ _ l0 _ _ l1 _ _ l2 f (faultB l0 f) w hr0 hc0 hr1 hc1 hr2 hc2 (fault_some l0 l1 l2 f))
 have k0 : w.cell? ⟨gb, 0, none⟩ = some (.slice A0 l0.length c0) := qaa hb 0
 have k1 : w.cell? ⟨gb, 1, none⟩ = some (.slice A1 l1.length c1) := qaa hb 1
 have k2 : w.cell? ⟨gb, 2, none⟩ = some (.slice A2 l2.length c2) := qaa hb 2
 clear hr0 hc0 hr1 hc1 hr2 hc2 hb
 go_enter Try.func95, Try.ntmps95
 go_wp2_with (go_at_call 63; refine H.out.mono ?_; rintro e w2 ⟨rfl, hb⟩; have HB := qab.mk hb; clear hb)
 go_ret
 exact ⟨rfl, HB.out⟩
def pipe_given.f (l0_0 : List (S39)) (l0_1 : List (S37)) (l0_2 : List (List Int)) (a1 : Int) (l2 : List Int) : Option (Int) := some (givenV l0_0 l0_1 l0_2 a1 l2)
theorem pipe_given.calls (A0_0 : Option Addr) (c0_0 : Nat) (l0_0 : List (S39)) (A0_1 : Option Addr) (c0_1 : Nat) (l0_1 : List (S37)) (A0_2 : Option Addr) (c0_2 : Nat) (l0_2 : List (List Int)) (a1 : Int) (A2 : Option Addr) (c2 : Nat) (l2 : List Int) (r : Int) (w : World) (hr0_0 : Kd.C k39 w A0_0 l0_0.length l0_0) (hc0_0 : l0_0.length ≤ c0_0) (hr0_1 : Kd.C k37 w A0_1 l0_1.length l0_1) (hc0_1 : l0_1.length ≤ c0_1) (hr0_2 : Kd.C (Kd.slice 3 (Kd.int .i64)) w A0_2 l0_2.length l0_2) (hc0_2 : l0_2.length ≤ c0_2) (hr2 : Kd.C (Kd.int .i64) w A2 l2.length l2) (hc2 : l2.length ≤ c2) (h : pipe_given.f l0_0 l0_1 l0_2 a1 l2 = some r) :
  Calls Try.prog 70 #[.agg #[.slice A0_0 l0_0.length c0_0, .slice A0_1 l0_1.length c0_1, .slice A0_2 l0_2.length c0_2], .int .i64 a1, .slice A2 l2.length c2] w fun e w' => e = .returned (.int .i64 r) ∧ Below w.heap.size w w' := by
 have h' := Option.some.inj h
 clear h
 have HF := qab.mk h'
 clear h'
 have hu26 := Try.underlying26
 have HB := qab.mk (Below.refl w.heap.size w)
 have HR0 := qab.mk hr0_0
 have HR1 := qab.mk hr0_1
 have HR2 := qab.mk hr0_2
 have HR3 := qab.mk hr2
 clear hr0_0 hr0_1 hr0_2 hr2
 have hmf : ∀ (fn : Fn) (first cap : Array Value) (w : World), (Instr.makeFunc fn first cap).run Try.prog w = .ok (.func fn first cap) w := fun _ _ _ _ => rfl
 by_cases hlen : 12 < (l2.length : Int)
 ·
  have hr : r = 3 := by rw [← HF.out]; unfold givenV; rw [if_pos hlen]
  subst hr
  go_enter Try.func70, Try.ntmps70
  go_wp2_with ((with_reducible refine qam (N := 3) rfl ?_); refine qal ?hg (N := 3) ?hd (cs := #[.slice A0_0 l0_0.length c0_0, .slice A0_1 l0_1.length c0_1, .slice A0_2 l0_2.length c0_2]) (t := 26) ?hr ?_; (case hd => rfl); (case hg => rfl); (case hr => first | (go_simp; done) | (go_simp; rfl)); intro gb hg_gb w2 hbox hb; have BKgb := qab.mk hbox; have n_HB := qab.mk (qad HB.out hb); have GEgb : w.heap.size ≤ gb := (by rw [hg_gb]; exact HB.out.size); clear HB; have HB := n_HB; clear n_HB; obtain ⟨hfgb, hcgb_0, hcgb_1, hcgb_2⟩ := qz3 BKgb.out; clear hbox hb hg_gb)
  go_ret
  exact ⟨rfl, HB.out⟩
 ·
  have hr : r = if (!validB l0_0 l0_1 l0_2 || (!inB a1 0 l0_0.length || l2.any fun f => !faultB l0_0 f)) = true then 2 else 0 := by rw [← HF.out]; unfold givenV; rw [if_neg hlen]
  have HR := qab.mk hr
  clear hr
  have hval : ∀ W, Below w.heap.size w W → Calls Try.prog 54 #[.agg #[.slice A0_0 l0_0.length c0_0, .slice A0_1 l0_1.length c0_1, .slice A0_2 l0_2.length c0_2]] W fun e w' => e = .returned (.bool (validB l0_0 l0_1 l0_2)) ∧ Below W.heap.size W w' := fun W hW =>
   pipe_valid.calls _ _ _ _ _ _ _ _ _ _ W (Kd.qak HR0.out hW) hc0_0 (Kd.qak HR1.out hW) hc0_1 (Kd.qak HR2.out hW) hc0_2 rfl
  have hpl : ∀ W, Below w.heap.size w W → Calls Try.prog 62 #[.agg #[.slice A0_0 l0_0.length c0_0, .slice A0_1 l0_1.length c0_1, .slice A0_2 l0_2.length c0_2], .int .i64 a1] W fun e w' => e = .returned (.bool (inB a1 0 l0_0.length)) ∧ Below W.heap.size W w' := fun W hW =>
   pipe_place.calls _ _ _ _ _ _ _ _ _ _ _ W (Kd.qak HR0.out hW) hc0_0 (Kd.qak HR1.out hW) hc0_1 (Kd.qak HR2.out hW) hc0_2 (place_some _ _ _ _)
  have HVAL := qab.mk hval
  have HPL := qab.mk hpl
  clear hval hpl
  cases hv : validB l0_0 l0_1 l0_2 with
  | false =>
   rw [hv] at HR
   have hr2 : r = 2 := by rw [HR.out]; rfl
   have HV := qab.mk hv
   clear hv
   subst hr2
   go_enter Try.func70, Try.ntmps70
   go_wp2_with (first | ((with_reducible refine qam (N := 3) rfl ?_); refine qal ?hg (N := 3) ?hd (cs := #[.slice A0_0 l0_0.length c0_0, .slice A0_1 l0_1.length c0_1, .slice A0_2 l0_2.length c0_2]) (t := 26) ?hr ?_; (case hd => rfl); (case hg => rfl); (case hr => first | (go_simp; done) | (go_simp; rfl)); intro gb hg_gb w2 hbox hb; have BKgb := qab.mk hbox; have n_HB := qab.mk (qad HB.out hb); have GEgb : w.heap.size ≤ gb := (by rw [hg_gb]; exact HB.out.size); clear HB; have HB := n_HB; clear n_HB; obtain ⟨hfgb, hcgb_0, hcgb_1, hcgb_2⟩ := qz3 BKgb.out; clear hbox hb hg_gb) | (go_at_call 54; refine (HVAL.out _ HB.out).mono ?_; rw [HV.out]; rintro e w3 ⟨rfl, hb⟩; replace HB := qab.mk (qad HB.out hb); clear hb))
   go_ret
   exact ⟨rfl, HB.out⟩
  | true =>
   rw [hv] at HR
   have HV := qab.mk hv
   clear hv
   cases hp : inB a1 0 l0_0.length with
   | false =>
    rw [hp] at HR
    have hr2 : r = 2 := by rw [HR.out]; rfl
    have HP := qab.mk hp
    clear hp
    subst hr2
    go_enter Try.func70, Try.ntmps70
    go_wp2_with (first | ((with_reducible refine qam (N := 3) rfl ?_); refine qal ?hg (N := 3) ?hd (cs := #[.slice A0_0 l0_0.length c0_0, .slice A0_1 l0_1.length c0_1, .slice A0_2 l0_2.length c0_2]) (t := 26) ?hr ?_; (case hd => rfl); (case hg => rfl); (case hr => first | (go_simp; done) | (go_simp; rfl)); intro gb hg_gb w2 hbox hb; have BKgb := qab.mk hbox; have n_HB := qab.mk (qad HB.out hb); have GEgb : w.heap.size ≤ gb := (by rw [hg_gb]; exact HB.out.size); clear HB; have HB := n_HB; clear n_HB; obtain ⟨hfgb, hcgb_0, hcgb_1, hcgb_2⟩ := qz3 BKgb.out; clear hbox hb hg_gb) | (go_at_call 54; refine (HVAL.out _ HB.out).mono ?_; rw [HV.out]; rintro e w3 ⟨rfl, hb⟩; replace BKgb := qab.mk (qae BKgb.out hb); replace HB := qab.mk (qad HB.out hb); clear hb; obtain ⟨hfgb, hcgb_0, hcgb_1, hcgb_2⟩ := qz3 BKgb.out) | (go_at_call 62; refine (HPL.out _ HB.out).mono ?_; rw [HP.out]; rintro e w4 ⟨rfl, hb⟩; replace BKgb := qab.mk (qae BKgb.out hb); replace HB := qab.mk (qad HB.out hb); clear hb; obtain ⟨hfgb, hcgb_0, hcgb_1, hcgb_2⟩ := qz3 BKgb.out))
    go_ret
    exact ⟨rfl, HB.out⟩
   | true =>
    rw [hp] at HR
    have HP := qab.mk hp
    clear hp
    obtain ⟨b, hbb⟩ : ∃ b, b = l2.any fun f => !faultB l0_0 f := ⟨_, rfl⟩
    rw [← hbb] at HR
    have HBB := qab.mk hbb
    clear hbb
    have hany : ∀ gb W, Below w.heap.size w W → W.heap[gb]? = some (.cells #[.slice A0_0 l0_0.length c0_0, .slice A0_1 l0_1.length c0_1, .slice A0_2 l0_2.length c0_2] 26 (0, 0)) → Calls Try.prog 81 #[.slice A2 l2.length c2, .func (.func 95) #[] #[.pointer (some ⟨gb, 0, none⟩)]] W fun e w' => e = .returned (.bool b) ∧ Below W.heap.size W w' := fun gb W hW hg => by
     rw [HBB.out]
     exact has95 _ l2 _ _ (fun f => !faultB l0_0 f) W (Kd.qak HR3.out hW) (fun i W' _ _ hb' => by
      have hW' := qad hW hb'
      exact given1_calls _ _ l0_0 _ _ l0_1 _ _ l0_2 _ gb W' (Kd.qak HR0.out hW') hc0_0 (Kd.qak HR1.out hW') hc0_1 (Kd.qak HR2.out hW') hc0_2 (qae hg hb'))
    have HANY := qab.mk hany
    clear hany
    cases b with
    | true =>
     have hr2 : r = 2 := by rw [HR.out]; rfl
     subst hr2
     go_enter Try.func70, Try.ntmps70
     go_wp2_with (first | ((with_reducible refine qam (N := 3) rfl ?_); refine qal ?hg (N := 3) ?hd (cs := #[.slice A0_0 l0_0.length c0_0, .slice A0_1 l0_1.length c0_1, .slice A0_2 l0_2.length c0_2]) (t := 26) ?hr ?_; (case hd => rfl); (case hg => rfl); (case hr => first | (go_simp; done) | (go_simp; rfl)); intro gb hg_gb w2 hbox hb; have BKgb := qab.mk hbox; have n_HB := qab.mk (qad HB.out hb); have GEgb : w.heap.size ≤ gb := (by rw [hg_gb]; exact HB.out.size); clear HB; have HB := n_HB; clear n_HB; obtain ⟨hfgb, hcgb_0, hcgb_1, hcgb_2⟩ := qz3 BKgb.out; clear hbox hb hg_gb) | (go_at_call 54; refine (HVAL.out _ HB.out).mono ?_; rw [HV.out]; rintro e w3 ⟨rfl, hb⟩; replace BKgb := qab.mk (qae BKgb.out hb); replace HB := qab.mk (qad HB.out hb); clear hb; obtain ⟨hfgb, hcgb_0, hcgb_1, hcgb_2⟩ := qz3 BKgb.out) | (go_at_call 62; refine (HPL.out _ HB.out).mono ?_; rw [HP.out]; rintro e w4 ⟨rfl, hb⟩; replace BKgb := qab.mk (qae BKgb.out hb); replace HB := qab.mk (qad HB.out hb); clear hb; obtain ⟨hfgb, hcgb_0, hcgb_1, hcgb_2⟩ := qz3 BKgb.out) | (go_at_call 81; refine (HANY.out gb _ HB.out BKgb.out).mono ?_; rintro e w5 ⟨rfl, hb⟩; replace HB := qab.mk (qad HB.out hb); clear hb))
     go_ret
     exact ⟨rfl, HB.out⟩
    | false =>
     have hr2 : r = 0 := by rw [HR.out]; rfl
     subst hr2
     go_enter Try.func70, Try.ntmps70
     go_wp2_with (first | ((with_reducible refine qam (N := 3) rfl ?_); refine qal ?hg (N := 3) ?hd (cs := #[.slice A0_0 l0_0.length c0_0, .slice A0_1 l0_1.length c0_1, .slice A0_2 l0_2.length c0_2]) (t := 26) ?hr ?_; (case hd => rfl); (case hg => rfl); (case hr => first | (go_simp; done) | (go_simp; rfl)); intro gb hg_gb w2 hbox hb; have BKgb := qab.mk hbox; have n_HB := qab.mk (qad HB.out hb); have GEgb : w.heap.size ≤ gb := (by rw [hg_gb]; exact HB.out.size); clear HB; have HB := n_HB; clear n_HB; obtain ⟨hfgb, hcgb_0, hcgb_1, hcgb_2⟩ := qz3 BKgb.out; clear hbox hb hg_gb) | (go_at_call 54; refine (HVAL.out _ HB.out).mono ?_; rw [HV.out]; rintro e w3 ⟨rfl, hb⟩; replace BKgb := qab.mk (qae BKgb.out hb); replace HB := qab.mk (qad HB.out hb); clear hb; obtain ⟨hfgb, hcgb_0, hcgb_1, hcgb_2⟩ := qz3 BKgb.out) | (go_at_call 62; refine (HPL.out _ HB.out).mono ?_; rw [HP.out]; rintro e w4 ⟨rfl, hb⟩; replace BKgb := qab.mk (qae BKgb.out hb); replace HB := qab.mk (qad HB.out hb); clear hb; obtain ⟨hfgb, hcgb_0, hcgb_1, hcgb_2⟩ := qz3 BKgb.out) | (go_at_call 81; refine (HANY.out gb _ HB.out BKgb.out).mono ?_; rintro e w5 ⟨rfl, hb⟩; replace HB := qab.mk (qad HB.out hb); clear hb))
     go_ret
     exact ⟨rfl, HB.out⟩
end Go.Proofs.Ytipphcjgdebecaa.PA
namespace Go.Proofs.Ytipphcjgdebecaa.PA
open Go.RowKit Go.Proofs.YtipphcjgdebecaaW.PrintWords Go.Proofs.YtipphcjgdebecaaW.PrintLast Go.Proofs.YtipphcjgdebecaaW.PrintMore
attribute [local go_sem] qas qau max_two min_two qao qap qat qav
attribute [local go_sem] Oper.semAt_some
def numsOf (m : Nat) : List Int := (List.range m).map fun i : Nat => (i : Int)
theorem numsOf_succ (m : Nat) : numsOf (m + 1) = numsOf m ++ [(m : Int)] := by simp [numsOf, List.range_succ]
theorem numsOf_pre (k m : Nat) (h : k ≤ m) : numsOf k <+: numsOf m := by
 induction m with
 | zero =>
  obtain rfl : k = 0 := by omega
  exact List.prefix_refl _
 | succ m ih =>
  rcases Nat.lt_or_ge k (m + 1) with hk | hk
  ·
   rw [numsOf_succ]
   exact (ih (by omega)).trans (List.prefix_append _ _)
  ·
   obtain rfl : k = m + 1 := by omega
   exact List.prefix_refl _
theorem numsOf_length (m : Nat) : (numsOf m).length = m := by simp [numsOf]
theorem numbers1_in (F : Fence) (n : Nat) (h6 : F.fn 96) (hro : F.round = none) (hn : 1 ≤ n) (l Bn : Nat) (m : Nat) (hm : m ≤ 1000) (J Jx : List Int → World → Prop)
  (hY : ∀ pre x W, x ∈ numsOf m → J pre W → pre.length < (numsOf m).length → YieldAt F (n - 1) Try.prog l #[.int .i64 x] W fun e W' =>
   (e = .returned (.bool true) ∧ J (pre ++ [x]) W' ∧ KeptAt Bn W W') ∨ (e = .returned (.bool false) ∧ Jx (pre ++ [x]) W'))
  (W : World) (hBn : W.heap[Bn]? = some (.cells #[.int .i64 m] 3 (0, 0))) (h0 : J [] W) :
  CallsIn F n Try.prog 96 #[.func (.yield l) #[] #[], .pointer (some ⟨Bn, 0, none⟩)] W fun e W' => (∃ v, e = .returned v) ∧
   ((∃ ys, ys = numsOf m ∧ J ys W') ∨ (∃ pre, pre <+: numsOf m ∧ Jx pre W')) := by
 refine callsIn_of_wp Try.func96 rfl h6 ?_ hro
 simp only [Try.ntmps96, List.size_toArray, List.length_cons, List.length_nil, Nat.reduceAdd, Nat.reduceSub, Array.replicate_succ, Array.replicate_zero, List.push_toArray, List.append_toArray, List.nil_append, List.cons_append]
 have hc0 : W.cell? ⟨Bn, 0, none⟩ = some (.int .i64 m) := (qaa hBn 0).trans rfl
 gi_wp2
 gi_loopw [5] (fun s wr => ∃ (k : Nat), k ≤ m ∧ s = .int .i64 k ∧ qab (J (numsOf k) wr))
  (fun s _ => m - (intOf s).toNat)
 case atStart =>
  exact ⟨0, by omega, rfl, ⟨h0⟩⟩
 case round =>
  obtain ⟨k, hk, rfl, HJ⟩ := hrel
  by_cases hlt : k < m
  ·
   have hlt1 : (k : Int) < m := by omega
   obtain ⟨fn, tmps, assign, body, hy, hR⟩ := hY (numsOf k) k wr ((numsOf_pre (k + 1) m (by omega)).subset (by rw [numsOf_succ]; simp)) HJ.out (by rw [numsOf_length, numsOf_length]; exact hlt)
   gi_wp2
   try rw [hy]
   refine hR.mono ?_
   rintro e W3 (⟨rfl, hJ3, hk3⟩ | ⟨rfl, hJx3⟩)
   ·
    have HJ3 := qab.mk hJ3
    clear hJ3 hk3
    gi_wp2
    go_roundw
    case rel => exact ⟨k + 1, by omega, by go_num, ⟨by rw [numsOf_succ]; exact HJ3.out⟩⟩
    case measure => simp [intOf]; omega
   ·
    have HJ3 := qab.mk hJx3
    clear hJx3
    gi_wp2
    refine bodyPost_ret (results_none rfl _ _ _) rfl ?_
    exact ⟨⟨_, rfl⟩, .inr ⟨numsOf k ++ [(k : Int)], by rw [← numsOf_succ]; exact numsOf_pre (k + 1) m (by omega), HJ3.out⟩⟩
  ·
   obtain rfl : k = m := by omega
   gi_wp2
   go_end0
   exact ⟨⟨_, rfl⟩, .inl ⟨_, rfl, HJ.out⟩⟩
theorem numbers_stops (n : Nat) (hn : 1 ≤ n) (m : Nat) (hm : m ≤ 1000) (Bn : Nat) (w : World) (hBn : w.heap[Bn]? = some (.cells #[.int .i64 m] 3 (0, 0))) :
  SeqStopsK Fence.wide n Try.prog 96 #[.pointer (some ⟨Bn, 0, none⟩)] (fun x : { x : Int // x ∈ numsOf m } => #[.int .i64 x.1]) (KeptAt Bn) (fun xs => xs.map (·.1) = numsOf m) (fun pre => pre.map (·.1) <+: numsOf m) (numsOf m).length w := by
 intro l J Jx W hW hJ hJx hY h0
 refine (numbers1_in Fence.wide n trivial rfl hn l Bn m hm (fun pre W => ∃ p : List { x : Int // x ∈ numsOf m }, p.map (·.1) = pre ∧ J p W) (fun pre W => ∃ p : List { x : Int // x ∈ numsOf m }, p.map (·.1) = pre ∧ Jx p W) ?_ W ((hW.block Bn (blk_lt hBn)).trans hBn) ⟨[], rfl, h0⟩).mono ?_
 ·
  rintro pre x W1 hx ⟨p, rfl, hp⟩ hlen
  refine YieldAt_mono (hY p ⟨x, hx⟩ W1 hp (by simpa using hlen)) ?_
  rintro e W' (⟨rfl, h1, h2⟩ | ⟨rfl, h1⟩)
  ·
   exact .inl ⟨rfl, ⟨_, by simp, h1⟩, h2⟩
  ·
   exact .inr ⟨rfl, ⟨_, by simp, h1⟩⟩
 ·
  rintro e W' ⟨hv, (⟨ys, rfl, p, hp, h1⟩ | ⟨pre, hpre, p, rfl, h1⟩)⟩
  ·
   exact ⟨hv, .inl ⟨p, hp, h1⟩⟩
  ·
   exact ⟨hv, .inr ⟨p, hpre, h1⟩⟩
theorem numbers_calls (f : Int) (w : World) : Calls Try.prog 72 #[.int .i64 f] w fun e w' => ∃ B, e = .returned (.func (.func 96) #[] #[.pointer (some ⟨B, 0, none⟩)]) ∧ w'.heap[B]? = some (.cells #[.int .i64 f] 3 (0, 0)) ∧ w.heap.size ≤ B ∧ Below w.heap.size w w' := by
 have hmf : ∀ (fn : Fn) (first cap : Array Value) (w : World), (Instr.makeFunc fn first cap).run Try.prog w = .ok (.func fn first cap) w := fun _ _ _ _ => rfl
 have HB := qab.mk (Below.refl w.heap.size w)
 go_enter Try.func72, Try.ntmps72
 go_wp2_with ((with_reducible refine qam (N := 1) rfl ?_); refine qal ?hg (N := 1) ?hd (cs := #[.int .i64 f]) (t := 3) ?hr ?_; (case hd => rfl); (case hg => rfl); (case hr => first | (go_simp; done) | (go_simp; rfl)); intro gb hg_gb w2 hbox hb; have BKgb := qab.mk hbox; have n_HB := qab.mk (qad HB.out hb); have GEgb : w.heap.size ≤ gb := (by rw [hg_gb]; exact HB.out.size); clear HB; have HB := n_HB; clear n_HB; obtain ⟨hfgb, hcgb_0⟩ := qz1 BKgb.out; clear hbox hb hg_gb)
 go_ret
 exact ⟨gb, rfl, BKgb.out, GEgb, HB.out⟩
theorem greatest73_calls {p : Int → Prop} {gf : Nat} {lb : Array Value} (egf : ∀ args w, (callFunc gf args).run Try.prog w = .ok (.enter gf args) w)
  {S Sp : List { x : Int // p x } → Prop} {N Bn : Nat} {w : World} (hBn : Bn < w.heap.size)
  (hseq : ∀ n, 1 ≤ n → SeqStopsK Fence.wide n Try.prog gf lb (fun x : { x : Int // p x } => #[.int .i64 x.1]) (KeptAt Bn) S Sp N w)
  (L : List Int) (hS : ∀ xs, S xs → xs.map (·.1) = L) {Inv : (Nat → Prop) → World → Prop} (HI : Held w.heap.size Inv) (T : Nat → Prop) (hT : ∀ k, T k → k < w.heap.size ∧ k ≠ Bn)
  (A0 : Nat → Prop) (c0 c1 : Value) (of : Int → Int × Bool)
  (hof : ∀ A W x, p x → (∀ k, A k → k < W.heap.size) → Inv A W → Calls Try.prog 73 #[.int .i64 x, c0, c1] W fun e W' => e = .returned (.tuple #[.int .i64 (of x).1, .bool (of x).2]) ∧ Inv A W' ∧ KB T W W')
  (h0 : Inv A0 w) (hA0 : ∀ k, A0 k → k < w.heap.size) :
  Calls Try.prog 71 #[.func (.func gf) #[] lb, .func (.func 73) #[] #[c0, c1]] w fun e W' => e = .returned (.tuple #[.int .i64 (g1 of L).1, .int .i64 (g1 of L).2.1, .bool (g1 of L).2.2]) ∧ Inv A0 W' ∧ KB T w W' := by
 refine (callsIn_wide (n := 8)).1 ?_
 refine callsIn_of_wp_marks Try.func71 rfl trivial ?_ rfl
 simp only [Try.ntmps71, List.size_toArray, List.length_cons, List.length_nil, Nat.reduceAdd, Nat.reduceSub, Array.replicate_succ, Array.replicate_zero, List.push_toArray, List.append_toArray, List.nil_append, List.cons_append]
 gi_wp2
 obtain ⟨w4, hw4, b3, b7, b8, b9, hsz, hb⟩ := allocs4 w (.cells #[.func (.func 73) #[] #[c0, c1]] 110) (.cells #[.int .i64 0] 3) (.cells #[.int .i64 0] 3) (.cells #[.bool false] 4)
 rw [hw4]
 clear hw4
 obtain ⟨A, hAe⟩ : ∃ A : Nat → Prop, A = (fun k => A0 k ∨ k = w.heap.size + 1 ∨ k = w.heap.size + 1 + 1 ∨ k = w.heap.size + 1 + 1 + 1) := ⟨_, rfl⟩
 have hA : ∀ k, A k → k < w4.heap.size := fun k hk => by
  rw [hAe] at hk
  rcases hk with hk | hk | hk | hk
  ·
   have := hA0 k hk
   omega
  ·
   omega
  ·
   omega
  ·
   omega
 have i0 : Inv A w4 := by
  refine HI.step _ w _ (HI.mono _ _ _ (fun k hk => ?_) (HI.fresh _ _ h0)) (KB.of_below hb _)
  rw [hAe] at hk
  rcases hk with hk | hk | hk | hk
  ·
   exact .inl hk
  ·
   exact .inr (by omega)
  ·
   exact .inr (by omega)
  ·
   exact .inr (by omega)
 refine wpIn_rangeFunc_ownG rfl (by omega) (gf := gf) (lb := lb) rfl trivial egf (hseq _ (by omega)) (fun h k => KeptAt.trans h k) (keptAt_put (by omega)) hb (fun _ => rfl)
  (fun pre W => Inv A W ∧ W.heap[w.heap.size]? = some (.cells #[.func (.func 73) #[] #[c0, c1]] 110 (0, 0)) ∧
   W.heap[w.heap.size + 1]? = some (.cells #[.int .i64 (g1 of (pre.map (·.1))).1] 3 (0, 0)) ∧ W.heap[w.heap.size + 1 + 1]? = some (.cells #[.int .i64 (g1 of (pre.map (·.1))).2.1] 3 (0, 0)) ∧
   W.heap[w.heap.size + 1 + 1 + 1]? = some (.cells #[.bool (g1 of (pre.map (·.1))).2.2] 4 (0, 0)) ∧ KB T w W)
  (fun _ _ _ => False) ?own (fun _ _ _ _ _ hs _ _ => hs) ⟨i0, b3, b7, b8, b9, KB.of_below hb T⟩
  (fun x => { tmps := #[.func (.func gf) #[] lb, .func (.func 73) #[] #[c0, c1], undef, .pointer (some ⟨w.heap.size, 0, none⟩), .int .i64 0, .int .i64 0, .bool false, .pointer (some ⟨w.heap.size + 1, 0, none⟩), .pointer (some ⟨w.heap.size + 1 + 1, 0, none⟩), .pointer (some ⟨w.heap.size + 1 + 1 + 1, 0, none⟩),
   .int .i64 x.1, undef, undef, .func (.func gf) #[] lb, .int .i64 x.1, undef, undef, undef, undef, undef, undef, undef, undef, undef, undef, undef, undef, undef, undef, undef, undef, undef, undef, undef, undef, undef], defers := [] }) ?assign ?body ?done ?stop
 case own =>
  rintro s A B row ⟨h1, h2, h3, h4, h5, h6⟩ hg hr
  refine ⟨HI.own _ _ _ row h1 hg (fun r e => ⟨by have := (hr r e).1; omega, (hr r e).2⟩), blk_own h2 hg hr, blk_own h3 hg hr, blk_own h4 hg hr, blk_own h5 hg hr, ?_⟩
  exact h6.trans (KB.of_grown hg) (fun k e => .inr (by have := (hr k e).1; omega))
 case assign =>
  intro l x W K hK
  gi_wp2
  exact hK
 case body =>
  rintro l pre x W ⟨h1, h2, h3, h4, h5, h6⟩ _
  have hlt : w4.heap.size ≤ W.heap.size ∨ True := .inr trivial
  have hd : 1 ≤ 8 - 1 - 1 := by omega
  obtain ⟨x, hx⟩ := x
  have hcall := hof A W x hx (fun k hk => by
   have e1 := blk_lt h5
   have := hA k hk
   omega) h1
  have hmap : (pre ++ [(⟨x, hx⟩ : { x : Int // p x })]).map (·.1) = pre.map (·.1) ++ [x] := by simp
  have HM := qab.mk hmap
  have hst := g1_snoc of (pre.map (·.1)) x
  unfold g1s at hst
  have HST := qab.mk hst
  clear hst hmap
  generalize hg1 : g1 of (pre.map (·.1)) = g at h3 h4 h5 HST
  obtain ⟨go, gm, gfo⟩ := g
  generalize hn1 : of x = n1 at HST hcall
  obtain ⟨n1, b1⟩ := n1
  dsimp only at h3 h4 h5 HST hcall
  have H1 := qab.mk h1
  have H2 := qab.mk h2
  have H3 := qab.mk h3
  have H4 := qab.mk h4
  have H5 := qab.mk h5
  have H6 := qab.mk h6
  have hc2 : W.cell? ⟨w.heap.size, 0, none⟩ = some (.func (.func 73) #[] #[c0, c1]) := qaa h2 0
  have hWs : w.heap.size ≤ W.heap.size := h6.size
  clear h1 h2 h3 h4 h5 h6 hof hseq hS
  gi_wp2
  refine ⟨trivial, (CallsIn.inRound l (callsIn_wide.2 hcall)).mono ?_⟩
  rintro e W2 ⟨rfl, i1, k1⟩
  clear hcall hc2
  have nT : ∀ j, w.heap.size ≤ j → ¬ T j := fun j hj hk => by have := (hT j hk).1; omega
  have J2 := k1.blk H2.out (nT _ (by omega))
  have J3 := k1.blk H3.out (nT _ (by omega))
  have J4 := k1.blk H4.out (nT _ (by omega))
  have J5 := k1.blk H5.out (nT _ (by omega))
  have KT := qab.mk (H6.out.trans k1 (fun k hk => .inl hk))
  have KW := qab.mk k1
  have I1 := qab.mk i1
  clear i1 k1 H2 H3 H4 H5 H6 H1
  have hc3 : W2.cell? ⟨w.heap.size + 1, 0, none⟩ = some (.int .i64 go) := qaa J3 0
  have hc4 : W2.cell? ⟨w.heap.size + 1 + 1, 0, none⟩ = some (.int .i64 gm) := qaa J4 0
  have hc5 : W2.cell? ⟨w.heap.size + 1 + 1 + 1, 0, none⟩ = some (.bool gfo) := qaa J5 0
  have hf3 : W2.frozen? ⟨w.heap.size + 1, 0, none⟩ = false := qac J3 0
  have hf4 : W2.frozen? ⟨w.heap.size + 1 + 1, 0, none⟩ = false := qac J4 0
  have hf5 : W2.frozen? ⟨w.heap.size + 1 + 1 + 1, 0, none⟩ = false := qac J5 0
  have KEEP : qab (KeepsFrom w4.heap.size W W2 ∧ KeptAt Bn W W2) := ⟨KW.out.from (fun k hk => by have := (hT k hk).1; omega), KW.out.block Bn (by omega) (fun hk => (hT _ hk).2 rfl)⟩
  have B2 := qab.mk J2
  have B3 := qab.mk J3
  have B4 := qab.mk J4
  have B5 := qab.mk J5
  clear J2 J3 J4 J5
  have NO : ∀ a : Act, b1 = false ∨ (gfo = true ∧ ¬ n1 > gm) → ownPostG w4.heap.size (KeptAt Bn) (fun pre W => Inv A W ∧ W.heap[w.heap.size]? = some (.cells #[.func (.func 73) #[] #[c0, c1]] 110 (0, 0)) ∧
   W.heap[w.heap.size + 1]? = some (.cells #[.int .i64 (g1 of (pre.map (·.1))).1] 3 (0, 0)) ∧ W.heap[w.heap.size + 1 + 1]? = some (.cells #[.int .i64 (g1 of (pre.map (·.1))).2.1] 3 (0, 0)) ∧
   W.heap[w.heap.size + 1 + 1 + 1]? = some (.cells #[.bool (g1 of (pre.map (·.1))).2.2] 4 (0, 0)) ∧ KB T w W) (fun _ _ _ => False) (pre ++ [(⟨x, hx⟩ : { x : Int // p x })]) W .normal a W2 := by
   intro a hno
   have hv : g1 of (pre.map (·.1) ++ [x]) = (go, gm, gfo) := by
    rw [HST.out, if_neg]
    rintro ⟨ha, hb⟩
    rcases hno with hno | ⟨hno, hno2⟩
    ·
     rw [hno] at ha; cases ha
    ·
     rcases hb with hb | hb
     ·
      rw [hno] at hb; cases hb
     ·
      exact hno2 hb
   refine ⟨KEEP.out.1, KEEP.out.2, I1.out, B2.out, ?_⟩
   rw [HM.out, hv]
   exact ⟨B3.out, B4.out, B5.out, KT.out⟩
  have HNO := qab.mk NO
  clear NO
  have YES : ∀ a : Act, b1 = true ∧ (gfo = false ∨ n1 > gm) → ownPostG w4.heap.size (KeptAt Bn) (fun pre W => Inv A W ∧ W.heap[w.heap.size]? = some (.cells #[.func (.func 73) #[] #[c0, c1]] 110 (0, 0)) ∧
   W.heap[w.heap.size + 1]? = some (.cells #[.int .i64 (g1 of (pre.map (·.1))).1] 3 (0, 0)) ∧ W.heap[w.heap.size + 1 + 1]? = some (.cells #[.int .i64 (g1 of (pre.map (·.1))).2.1] 3 (0, 0)) ∧
   W.heap[w.heap.size + 1 + 1 + 1]? = some (.cells #[.bool (g1 of (pre.map (·.1))).2.2] 4 (0, 0)) ∧ KB T w W) (fun _ _ _ => False) (pre ++ [(⟨x, hx⟩ : { x : Int // p x })]) W .normal a (((W2.setCell ⟨w.heap.size + 1, 0, none⟩ (.int .i64 x)).setCell ⟨w.heap.size + 1 + 1, 0, none⟩ (.int .i64 n1)).setCell ⟨w.heap.size + 1 + 1 + 1, 0, none⟩ (.bool true)) := by
   intro a hyes
   have hv : g1 of (pre.map (·.1) ++ [x]) = (x, n1, true) := by
    rw [HST.out, if_pos hyes]
   have kA : ∀ S : Nat → Prop, S (w.heap.size + 1) → S (w.heap.size + 1 + 1) → S (w.heap.size + 1 + 1 + 1) → KB S W2 (((W2.setCell ⟨w.heap.size + 1, 0, none⟩ (.int .i64 x)).setCell ⟨w.heap.size + 1 + 1, 0, none⟩ (.int .i64 n1)).setCell ⟨w.heap.size + 1 + 1 + 1, 0, none⟩ (.bool true)) :=
    fun S s1 s2 s3 => (((KB.refl S W2).set (p := ⟨w.heap.size + 1, 0, none⟩) (.inl s1) _).set (p := ⟨w.heap.size + 1 + 1, 0, none⟩) (.inl s2) _).set (p := ⟨w.heap.size + 1 + 1 + 1, 0, none⟩) (.inl s3) _
   have kW := (KW.out.mono (T' := fun k => T k ∨ k = w.heap.size + 1 ∨ k = w.heap.size + 1 + 1 ∨ k = w.heap.size + 1 + 1 + 1) (fun k hk => .inl hk)).trans (kA _ (.inr (.inl rfl)) (.inr (.inr (.inl rfl))) (.inr (.inr (.inr rfl)))) (fun k hk => .inl hk)
   refine ⟨kW.from (fun k hk => ?_), kW.block Bn (by omega) (fun hk => ?_), HI.step _ _ _ I1.out (kA A ?_ ?_ ?_), ?_, ?_⟩
   ·
    rcases hk with hk | hk | hk | hk
    ·
     have := (hT k hk).1
     omega
    ·
     omega
    ·
     omega
    ·
     omega
   ·
    rcases hk with hk | hk | hk | hk
    ·
     exact (hT _ hk).2 rfl
    ·
     omega
    ·
     omega
    ·
     omega
   ·
    rw [hAe]; exact .inr (.inl rfl)
   ·
    rw [hAe]; exact .inr (.inr (.inl rfl))
   ·
    rw [hAe]; exact .inr (.inr (.inr rfl))
   ·
    exact blk_far (blk_far (blk_far B2.out (by dsimp only; omega) _) (by dsimp only; omega) _) (by dsimp only; omega) _
   ·
    rw [HM.out, hv]
    refine ⟨?_, ?_, ?_, ?_⟩
    ·
     exact blk_far (blk_far (blk_set B3.out 0 _) (by dsimp only; omega) _) (by dsimp only; omega) _
    ·
     exact blk_far (blk_set (blk_far B4.out (by dsimp only; omega) _) 0 _) (by dsimp only; omega) _
    ·
     exact blk_set (blk_far (blk_far B5.out (by dsimp only; omega) _) (by dsimp only; omega) _) 0 _
    ·
     exact KT.out.trans (kA (fun k => w.heap.size ≤ k) (by omega) (by omega) (by omega)) (fun k hk => .inr hk)
  have HYES := qab.mk YES
  clear YES
  cases b1 with
  | false =>
   gi_wp2
   exact HNO.out _ (by simp)
  | true =>
   cases gfo with
   | false =>
    gi_wp2
    exact HYES.out _ (by simp)
   | true =>
    by_cases hgt : n1 > gm
    ·
     gi_wp2
     exact HYES.out _ (by simp [hgt])
    ·
     gi_wp2
     exact HNO.out _ (by simp [hgt])
 case done =>
  rintro D xs W hD hSx ⟨h1, h2, h3, h4, h5, h6⟩ hK
  have hl := hS xs hSx
  rw [hl] at h3 h4 h5
  have hc3 : W.cell? ⟨w.heap.size + 1, 0, none⟩ = some (.int .i64 (g1 of L).1) := qaa h3 0
  have hc4 : W.cell? ⟨w.heap.size + 1 + 1, 0, none⟩ = some (.int .i64 (g1 of L).2.1) := qaa h4 0
  have hc5 : W.cell? ⟨w.heap.size + 1 + 1 + 1, 0, none⟩ = some (.bool (g1 of L).2.2) := qaa h5 0
  clear hof hseq hS h2 h3 h4 h5
  generalize hgL : g1 of L = g at hc3 hc4 hc5
  have HG := qab.mk hgL
  clear hgL
  have H1 := qab.mk h1
  have H6 := qab.mk h6
  have HK := qab.mk hK
  clear h1 h6 hK
  gi_wp2
  gi_region
  all_goals gi_wp2
  refine ⟨by simp, .inl ⟨_, _, rfl, run_takeDeferred (show W.drew.heap[D]? = _ from HK.out), ?_⟩⟩
  have hput := grownBy_putObj' W.drew D (.deferred none)
  have hrow : ∀ r, some D = some r → w.heap.size ≤ r ∧ ∃ o : Obj, W.drew.heap[r]? = some o ∧ o.isCells = false := fun r e => by
   injection e with e
   subst e
   exact ⟨by omega, _, HK.out, rfl⟩
  have hid : Inv A W.drew := HI.own A W W.drew none H1.out ⟨rfl, rfl, rfl, Nat.le_refl _, fun _ _ _ => rfl⟩ (fun r e => by cases e)
  have hi2 := HI.own A W.drew _ (some D) hid hput hrow
  refine ⟨_, results_tmp3 rfl _ _ _, by rw [HG.out]; rfl, HI.mono _ _ _ (fun k hk => by rw [hAe]; exact .inl hk) hi2, ?_⟩
  have hk6 : KB T w W.drew := ⟨H6.out.os, H6.out.tape, H6.out.output, H6.out.size, H6.out.block⟩
  exact hk6.trans (KB.of_grown hput) (fun k e => .inr (by injection e with e; omega))
 case stop =>
  rintro D c pre W _ _ h _
  exact h.elim
theorem greatest75_calls {p : Int → Prop} {gf : Nat} {lb : Array Value} (egf : ∀ args w, (callFunc gf args).run Try.prog w = .ok (.enter gf args) w)
  {S Sp : List { x : Int // p x } → Prop} {N Bn : Nat} {w : World} (hBn : Bn < w.heap.size)
  (hseq : ∀ n, 1 ≤ n → SeqStopsK Fence.wide n Try.prog gf lb (fun x : { x : Int // p x } => #[.int .i64 x.1]) (KeptAt Bn) S Sp N w)
  (L : List Int) (hS : ∀ xs, S xs → xs.map (·.1) = L) {Inv : (Nat → Prop) → World → Prop} (HI : Held w.heap.size Inv) (T : Nat → Prop) (hT : ∀ k, T k → k < w.heap.size ∧ k ≠ Bn)
  (A0 : Nat → Prop) (c0 c1 c2 : Value) (of : Int → Int × Bool)
  (hof : ∀ A W x, p x → (∀ k, A k → k < W.heap.size) → Inv A W → Calls Try.prog 75 #[.int .i64 x, c0, c1, c2] W fun e W' => e = .returned (.tuple #[.int .i64 (of x).1, .bool (of x).2]) ∧ Inv A W' ∧ KB T W W')
  (h0 : Inv A0 w) (hA0 : ∀ k, A0 k → k < w.heap.size) :
  Calls Try.prog 71 #[.func (.func gf) #[] lb, .func (.func 75) #[] #[c0, c1, c2]] w fun e W' => e = .returned (.tuple #[.int .i64 (g1 of L).1, .int .i64 (g1 of L).2.1, .bool (g1 of L).2.2]) ∧ Inv A0 W' ∧ KB T w W' := by
 refine (callsIn_wide (n := 8)).1 ?_
 refine callsIn_of_wp_marks Try.func71 rfl trivial ?_ rfl
 simp only [Try.ntmps71, List.size_toArray, List.length_cons, List.length_nil, Nat.reduceAdd, Nat.reduceSub, Array.replicate_succ, Array.replicate_zero, List.push_toArray, List.append_toArray, List.nil_append, List.cons_append]
 gi_wp2
 obtain ⟨w4, hw4, b3, b7, b8, b9, hsz, hb⟩ := allocs4 w (.cells #[.func (.func 75) #[] #[c0, c1, c2]] 110) (.cells #[.int .i64 0] 3) (.cells #[.int .i64 0] 3) (.cells #[.bool false] 4)
 rw [hw4]
 clear hw4
 obtain ⟨A, hAe⟩ : ∃ A : Nat → Prop, A = (fun k => A0 k ∨ k = w.heap.size + 1 ∨ k = w.heap.size + 1 + 1 ∨ k = w.heap.size + 1 + 1 + 1) := ⟨_, rfl⟩
 have hA : ∀ k, A k → k < w4.heap.size := fun k hk => by
  rw [hAe] at hk
  rcases hk with hk | hk | hk | hk
  ·
   have := hA0 k hk
   omega
  ·
   omega
  ·
   omega
  ·
   omega
 have i0 : Inv A w4 := by
  refine HI.step _ w _ (HI.mono _ _ _ (fun k hk => ?_) (HI.fresh _ _ h0)) (KB.of_below hb _)
  rw [hAe] at hk
  rcases hk with hk | hk | hk | hk
  ·
   exact .inl hk
  ·
   exact .inr (by omega)
  ·
   exact .inr (by omega)
  ·
   exact .inr (by omega)
 refine wpIn_rangeFunc_ownG rfl (by omega) (gf := gf) (lb := lb) rfl trivial egf (hseq _ (by omega)) (fun h k => KeptAt.trans h k) (keptAt_put (by omega)) hb (fun _ => rfl)
  (fun pre W => Inv A W ∧ W.heap[w.heap.size]? = some (.cells #[.func (.func 75) #[] #[c0, c1, c2]] 110 (0, 0)) ∧
   W.heap[w.heap.size + 1]? = some (.cells #[.int .i64 (g1 of (pre.map (·.1))).1] 3 (0, 0)) ∧ W.heap[w.heap.size + 1 + 1]? = some (.cells #[.int .i64 (g1 of (pre.map (·.1))).2.1] 3 (0, 0)) ∧
   W.heap[w.heap.size + 1 + 1 + 1]? = some (.cells #[.bool (g1 of (pre.map (·.1))).2.2] 4 (0, 0)) ∧ KB T w W)
  (fun _ _ _ => False) ?own (fun _ _ _ _ _ hs _ _ => hs) ⟨i0, b3, b7, b8, b9, KB.of_below hb T⟩
  (fun x => { tmps := #[.func (.func gf) #[] lb, .func (.func 75) #[] #[c0, c1, c2], undef, .pointer (some ⟨w.heap.size, 0, none⟩), .int .i64 0, .int .i64 0, .bool false, .pointer (some ⟨w.heap.size + 1, 0, none⟩), .pointer (some ⟨w.heap.size + 1 + 1, 0, none⟩), .pointer (some ⟨w.heap.size + 1 + 1 + 1, 0, none⟩),
   .int .i64 x.1, undef, undef, .func (.func gf) #[] lb, .int .i64 x.1, undef, undef, undef, undef, undef, undef, undef, undef, undef, undef, undef, undef, undef, undef, undef, undef, undef, undef, undef, undef, undef], defers := [] }) ?assign ?body ?done ?stop
 case own =>
  rintro s A B row ⟨h1, h2, h3, h4, h5, h6⟩ hg hr
  refine ⟨HI.own _ _ _ row h1 hg (fun r e => ⟨by have := (hr r e).1; omega, (hr r e).2⟩), blk_own h2 hg hr, blk_own h3 hg hr, blk_own h4 hg hr, blk_own h5 hg hr, ?_⟩
  exact h6.trans (KB.of_grown hg) (fun k e => .inr (by have := (hr k e).1; omega))
 case assign =>
  intro l x W K hK
  gi_wp2
  exact hK
 case body =>
  rintro l pre x W ⟨h1, h2, h3, h4, h5, h6⟩ _
  have hlt : w4.heap.size ≤ W.heap.size ∨ True := .inr trivial
  have hd : 1 ≤ 8 - 1 - 1 := by omega
  obtain ⟨x, hx⟩ := x
  have hcall := hof A W x hx (fun k hk => by
   have e1 := blk_lt h5
   have := hA k hk
   omega) h1
  have hmap : (pre ++ [(⟨x, hx⟩ : { x : Int // p x })]).map (·.1) = pre.map (·.1) ++ [x] := by simp
  have HM := qab.mk hmap
  have hst := g1_snoc of (pre.map (·.1)) x
  unfold g1s at hst
  have HST := qab.mk hst
  clear hst hmap
  generalize hg1 : g1 of (pre.map (·.1)) = g at h3 h4 h5 HST
  obtain ⟨go, gm, gfo⟩ := g
  generalize hn1 : of x = n1 at HST hcall
  obtain ⟨n1, b1⟩ := n1
  dsimp only at h3 h4 h5 HST hcall
  have H1 := qab.mk h1
  have H2 := qab.mk h2
  have H3 := qab.mk h3
  have H4 := qab.mk h4
  have H5 := qab.mk h5
  have H6 := qab.mk h6
  have hc2 : W.cell? ⟨w.heap.size, 0, none⟩ = some (.func (.func 75) #[] #[c0, c1, c2]) := qaa h2 0
  have hWs : w.heap.size ≤ W.heap.size := h6.size
  clear h1 h2 h3 h4 h5 h6 hof hseq hS
  gi_wp2
  refine ⟨trivial, (CallsIn.inRound l (callsIn_wide.2 hcall)).mono ?_⟩
  rintro e W2 ⟨rfl, i1, k1⟩
  clear hcall hc2
  have nT : ∀ j, w.heap.size ≤ j → ¬ T j := fun j hj hk => by have := (hT j hk).1; omega
  have J2 := k1.blk H2.out (nT _ (by omega))
  have J3 := k1.blk H3.out (nT _ (by omega))
  have J4 := k1.blk H4.out (nT _ (by omega))
  have J5 := k1.blk H5.out (nT _ (by omega))
  have KT := qab.mk (H6.out.trans k1 (fun k hk => .inl hk))
  have KW := qab.mk k1
  have I1 := qab.mk i1
  clear i1 k1 H2 H3 H4 H5 H6 H1
  have hc3 : W2.cell? ⟨w.heap.size + 1, 0, none⟩ = some (.int .i64 go) := qaa J3 0
  have hc4 : W2.cell? ⟨w.heap.size + 1 + 1, 0, none⟩ = some (.int .i64 gm) := qaa J4 0
  have hc5 : W2.cell? ⟨w.heap.size + 1 + 1 + 1, 0, none⟩ = some (.bool gfo) := qaa J5 0
  have hf3 : W2.frozen? ⟨w.heap.size + 1, 0, none⟩ = false := qac J3 0
  have hf4 : W2.frozen? ⟨w.heap.size + 1 + 1, 0, none⟩ = false := qac J4 0
  have hf5 : W2.frozen? ⟨w.heap.size + 1 + 1 + 1, 0, none⟩ = false := qac J5 0
  have KEEP : qab (KeepsFrom w4.heap.size W W2 ∧ KeptAt Bn W W2) := ⟨KW.out.from (fun k hk => by have := (hT k hk).1; omega), KW.out.block Bn (by omega) (fun hk => (hT _ hk).2 rfl)⟩
  have B2 := qab.mk J2
  have B3 := qab.mk J3
  have B4 := qab.mk J4
  have B5 := qab.mk J5
  clear J2 J3 J4 J5
  have NO : ∀ a : Act, b1 = false ∨ (gfo = true ∧ ¬ n1 > gm) → ownPostG w4.heap.size (KeptAt Bn) (fun pre W => Inv A W ∧ W.heap[w.heap.size]? = some (.cells #[.func (.func 75) #[] #[c0, c1, c2]] 110 (0, 0)) ∧
   W.heap[w.heap.size + 1]? = some (.cells #[.int .i64 (g1 of (pre.map (·.1))).1] 3 (0, 0)) ∧ W.heap[w.heap.size + 1 + 1]? = some (.cells #[.int .i64 (g1 of (pre.map (·.1))).2.1] 3 (0, 0)) ∧
   W.heap[w.heap.size + 1 + 1 + 1]? = some (.cells #[.bool (g1 of (pre.map (·.1))).2.2] 4 (0, 0)) ∧ KB T w W) (fun _ _ _ => False) (pre ++ [(⟨x, hx⟩ : { x : Int // p x })]) W .normal a W2 := by
   intro a hno
   have hv : g1 of (pre.map (·.1) ++ [x]) = (go, gm, gfo) := by
    rw [HST.out, if_neg]
    rintro ⟨ha, hb⟩
    rcases hno with hno | ⟨hno, hno2⟩
    ·
     rw [hno] at ha; cases ha
    ·
     rcases hb with hb | hb
     ·
      rw [hno] at hb; cases hb
     ·
      exact hno2 hb
   refine ⟨KEEP.out.1, KEEP.out.2, I1.out, B2.out, ?_⟩
   rw [HM.out, hv]
   exact ⟨B3.out, B4.out, B5.out, KT.out⟩
  have HNO := qab.mk NO
  clear NO
  have YES : ∀ a : Act, b1 = true ∧ (gfo = false ∨ n1 > gm) → ownPostG w4.heap.size (KeptAt Bn) (fun pre W => Inv A W ∧ W.heap[w.heap.size]? = some (.cells #[.func (.func 75) #[] #[c0, c1, c2]] 110 (0, 0)) ∧
   W.heap[w.heap.size + 1]? = some (.cells #[.int .i64 (g1 of (pre.map (·.1))).1] 3 (0, 0)) ∧ W.heap[w.heap.size + 1 + 1]? = some (.cells #[.int .i64 (g1 of (pre.map (·.1))).2.1] 3 (0, 0)) ∧
   W.heap[w.heap.size + 1 + 1 + 1]? = some (.cells #[.bool (g1 of (pre.map (·.1))).2.2] 4 (0, 0)) ∧ KB T w W) (fun _ _ _ => False) (pre ++ [(⟨x, hx⟩ : { x : Int // p x })]) W .normal a (((W2.setCell ⟨w.heap.size + 1, 0, none⟩ (.int .i64 x)).setCell ⟨w.heap.size + 1 + 1, 0, none⟩ (.int .i64 n1)).setCell ⟨w.heap.size + 1 + 1 + 1, 0, none⟩ (.bool true)) := by
   intro a hyes
   have hv : g1 of (pre.map (·.1) ++ [x]) = (x, n1, true) := by
    rw [HST.out, if_pos hyes]
   have kA : ∀ S : Nat → Prop, S (w.heap.size + 1) → S (w.heap.size + 1 + 1) → S (w.heap.size + 1 + 1 + 1) → KB S W2 (((W2.setCell ⟨w.heap.size + 1, 0, none⟩ (.int .i64 x)).setCell ⟨w.heap.size + 1 + 1, 0, none⟩ (.int .i64 n1)).setCell ⟨w.heap.size + 1 + 1 + 1, 0, none⟩ (.bool true)) :=
    fun S s1 s2 s3 => (((KB.refl S W2).set (p := ⟨w.heap.size + 1, 0, none⟩) (.inl s1) _).set (p := ⟨w.heap.size + 1 + 1, 0, none⟩) (.inl s2) _).set (p := ⟨w.heap.size + 1 + 1 + 1, 0, none⟩) (.inl s3) _
   have kW := (KW.out.mono (T' := fun k => T k ∨ k = w.heap.size + 1 ∨ k = w.heap.size + 1 + 1 ∨ k = w.heap.size + 1 + 1 + 1) (fun k hk => .inl hk)).trans (kA _ (.inr (.inl rfl)) (.inr (.inr (.inl rfl))) (.inr (.inr (.inr rfl)))) (fun k hk => .inl hk)
   refine ⟨kW.from (fun k hk => ?_), kW.block Bn (by omega) (fun hk => ?_), HI.step _ _ _ I1.out (kA A ?_ ?_ ?_), ?_, ?_⟩
   ·
    rcases hk with hk | hk | hk | hk
    ·
     have := (hT k hk).1
     omega
    ·
     omega
    ·
     omega
    ·
     omega
   ·
    rcases hk with hk | hk | hk | hk
    ·
     exact (hT _ hk).2 rfl
    ·
     omega
    ·
     omega
    ·
     omega
   ·
    rw [hAe]; exact .inr (.inl rfl)
   ·
    rw [hAe]; exact .inr (.inr (.inl rfl))
   ·
    rw [hAe]; exact .inr (.inr (.inr rfl))
   ·
    exact blk_far (blk_far (blk_far B2.out (by dsimp only; omega) _) (by dsimp only; omega) _) (by dsimp only; omega) _
   ·
    rw [HM.out, hv]
    refine ⟨?_, ?_, ?_, ?_⟩
    ·
     exact blk_far (blk_far (blk_set B3.out 0 _) (by dsimp only; omega) _) (by dsimp only; omega) _
    ·
     exact blk_far (blk_set (blk_far B4.out (by dsimp only; omega) _) 0 _) (by dsimp only; omega) _
    ·
     exact blk_set (blk_far (blk_far B5.out (by dsimp only; omega) _) (by dsimp only; omega) _) 0 _
    ·
     exact KT.out.trans (kA (fun k => w.heap.size ≤ k) (by omega) (by omega) (by omega)) (fun k hk => .inr hk)
  have HYES := qab.mk YES
  clear YES
  cases b1 with
  | false =>
   gi_wp2
   exact HNO.out _ (by simp)
  | true =>
   cases gfo with
   | false =>
    gi_wp2
    exact HYES.out _ (by simp)
   | true =>
    by_cases hgt : n1 > gm
    ·
     gi_wp2
     exact HYES.out _ (by simp [hgt])
    ·
     gi_wp2
     exact HNO.out _ (by simp [hgt])
 case done =>
  rintro D xs W hD hSx ⟨h1, h2, h3, h4, h5, h6⟩ hK
  have hl := hS xs hSx
  rw [hl] at h3 h4 h5
  have hc3 : W.cell? ⟨w.heap.size + 1, 0, none⟩ = some (.int .i64 (g1 of L).1) := qaa h3 0
  have hc4 : W.cell? ⟨w.heap.size + 1 + 1, 0, none⟩ = some (.int .i64 (g1 of L).2.1) := qaa h4 0
  have hc5 : W.cell? ⟨w.heap.size + 1 + 1 + 1, 0, none⟩ = some (.bool (g1 of L).2.2) := qaa h5 0
  clear hof hseq hS h2 h3 h4 h5
  generalize hgL : g1 of L = g at hc3 hc4 hc5
  have HG := qab.mk hgL
  clear hgL
  have H1 := qab.mk h1
  have H6 := qab.mk h6
  have HK := qab.mk hK
  clear h1 h6 hK
  gi_wp2
  gi_region
  all_goals gi_wp2
  refine ⟨by simp, .inl ⟨_, _, rfl, run_takeDeferred (show W.drew.heap[D]? = _ from HK.out), ?_⟩⟩
  have hput := grownBy_putObj' W.drew D (.deferred none)
  have hrow : ∀ r, some D = some r → w.heap.size ≤ r ∧ ∃ o : Obj, W.drew.heap[r]? = some o ∧ o.isCells = false := fun r e => by
   injection e with e
   subst e
   exact ⟨by omega, _, HK.out, rfl⟩
  have hid : Inv A W.drew := HI.own A W W.drew none H1.out ⟨rfl, rfl, rfl, Nat.le_refl _, fun _ _ _ => rfl⟩ (fun r e => by cases e)
  have hi2 := HI.own A W.drew _ (some D) hid hput hrow
  refine ⟨_, results_tmp3 rfl _ _ _, by rw [HG.out]; rfl, HI.mono _ _ _ (fun k hk => by rw [hAe]; exact .inl hk) hi2, ?_⟩
  have hk6 : KB T w W.drew := ⟨H6.out.os, H6.out.tape, H6.out.output, H6.out.size, H6.out.block⟩
  exact hk6.trans (KB.of_grown hput) (fun k e => .inr (by injection e with e; omega))
 case stop =>
  rintro D c pre W _ _ h _
  exact h.elim
end Go.Proofs.Ytipphcjgdebecaa.PA
namespace Go.Proofs.Ytipphcjgdebecaa.PA
open Go.RowKit Go.Proofs.YtipphcjgdebecaaW.PrintWords Go.Proofs.YtipphcjgdebecaaW.PrintLast Go.Proofs.YtipphcjgdebecaaW.PrintMore
attribute [local go_sem] qas qau max_two min_two qao qap qat qav
def pipe_net_weak.l0 : Nat → Int → Int → List Int → Int → Int → List (S39) → List (S37) → List (List Int) → Int → Option (Int × Int)
 | 0, _, _, _, _, _, _, _, _, _ => none
 | k + 1, x1, x8, x16, x17, x18, x435000, x435001, x435002, x435003 => if x18 < x17 then (if 0 ≤ x18 then (if x18 < (x16.length : Int) then ((pipe_net_order.f x435000 x435001 x435002 x435003 x1 (rd x16 x18)).bind fun bt436 => (if bt436.2.2 = true then (pipe_net_weak.l0 k x1 (mn x8 bt436.2.1) x16 x17 (wrap64 (x18 + 1)) x435000 x435001 x435002 x435003) else (some (x18, 0)))) else (none)) else (none)) else (some ((-1), x8))
def pipe_net_weak.f (k : Nat) (l0_0 : List (S39)) (l0_1 : List (S37)) (l0_2 : List (List Int)) (a0_3 : Int) (a1 : Int) (l2 : List Int) : Option (Int × Int) := pipe_net_weak.l0 k a1 (l0_1.length : Int) l2 (l2.length : Int) 0 l0_0 l0_1 l0_2 a0_3
theorem pipe_net_weak.calls (k : Nat) (A0_0 : Option Addr) (c0_0 : Nat) (l0_0 : List (S39)) (A0_1 : Option Addr) (c0_1 : Nat) (l0_1 : List (S37)) (A0_2 : Option Addr) (c0_2 : Nat) (l0_2 : List (List Int)) (a0_3 : Int) (a1 : Int) (A2 : Option Addr) (c2 : Nat) (l2 : List Int) (r1 : Int) (r2 : Int) (w : World) (hr0_0 : Kd.C k39 w A0_0 l0_0.length l0_0) (hc0_0 : l0_0.length ≤ c0_0) (hr0_1 : Kd.C k37 w A0_1 l0_1.length l0_1) (hc0_1 : l0_1.length ≤ c0_1) (hr0_2 : Kd.C (Kd.slice 3 (Kd.int .i64)) w A0_2 l0_2.length l0_2) (hc0_2 : l0_2.length ≤ c0_2) (hr2 : Kd.C (Kd.int .i64) w A2 l2.length l2) (hc2 : l2.length ≤ c2) (h : pipe_net_weak.f k l0_0 l0_1 l0_2 a0_3 a1 l2 = some (r1, r2)) :
  Calls Try.prog 74 #[.agg #[.slice A0_0 l0_0.length c0_0, .slice A0_1 l0_1.length c0_1, .slice A0_2 l0_2.length c0_2, .int .i64 a0_3], .int .i64 a1, .slice A2 l2.length c2] w fun e w' => e = .returned (.tuple #[.int .i64 r1, .int .i64 r2]) ∧ Below w.heap.size w w' := by
 have hu99 := Try.underlying99
 have hu97 := Try.underlying97
 have HR0_0 := qab.mk hr0_0
 have HC0_0 := qab.mk hc0_0
 clear hr0_0 hc0_0
 have HR0_1 := qab.mk hr0_1
 have HC0_1 := qab.mk hc0_1
 clear hr0_1 hc0_1
 have HR0_2 := qab.mk hr0_2
 have HC0_2 := qab.mk hc0_2
 clear hr0_2 hc0_2
 have HR2 := qab.mk hr2
 have HC2 := qab.mk hc2
 clear hr2 hc2
 have HB := qab.mk (Below.refl w.heap.size w)
 have H : (pipe_net_weak.l0 k a1 (l0_1.length : Int) l2 (l2.length : Int) 0 l0_0 l0_1 l0_2 a0_3) = some (r1, r2) := h
 clear h
 have H' := qab.mk H
 clear H
 go_enter Try.func74, Try.ntmps74
 go_wp2_with (first | ((with_reducible refine qam (N := 3) rfl ?_); refine qal ?hg (N := 3) ?hd (cs := #[.slice A0_0 l0_0.length c0_0, .slice A0_1 l0_1.length c0_1, .slice A0_2 l0_2.length c0_2, .int .i64 a0_3]) (t := 99) ?hr ?_; (case hd => rfl); (case hg => rfl); (case hr => first | (go_simp; done) | (go_simp; rfl)); intro gb434 hg w4 hbox hb; have n0_ := qab.mk (qad (by repeat (first | (with_reducible first | exact HB.out | apply qag | apply qaf | apply qah) | exact HB.out)) hb); have n1_ := qab.mk (hbox); have n2_ := qab.mk ((by rw [hg]; exact (qar (by repeat (first | (with_reducible first | exact HB.out | apply qag | apply qaf | apply qah) | exact HB.out))) : w.heap.size ≤ gb434)); have n3_ := qab.mk ((by rw [hg]; exact (qar (by repeat (first | (with_reducible first | exact HB.out | apply qag | apply qaf | apply qah) | exact HB.out))) : w.heap.size ≤ gb434)); clear HB; have HB := n0_; have BK434 := n1_; have GW434 := n2_; have GE434 := n3_; clear n0_ n1_ n2_ n3_; clear hb hbox hg; have hcz5_0 : w4.cell? ⟨gb434, 0, none⟩ = some (.slice A0_0 l0_0.length c0_0) := (qaa BK434.out 0).trans rfl; have hcz5_1 : w4.cell? ⟨gb434, 1, none⟩ = some (.slice A0_1 l0_1.length c0_1) := (qaa BK434.out 1).trans rfl; have hcz5_2 : w4.cell? ⟨gb434, 2, none⟩ = some (.slice A0_2 l0_2.length c0_2) := (qaa BK434.out 2).trans rfl; have hcz5_3 : w4.cell? ⟨gb434, 3, none⟩ = some (.int .i64 a0_3) := (qaa BK434.out 3).trans rfl; have hfz5_0 := qac BK434.out 0; have hfz5_1 := qac BK434.out 1; have hfz5_2 := qac BK434.out 2; have hfz5_3 := qac BK434.out 3))
 go_loopg [8, 18] k (fun kq v8 v18 w' => ∃ (x8_1 : Int) (x18_1 : Int), v8 = .int .i64 x8_1 ∧ v18 = .int .i64 x18_1 ∧ qab (pipe_net_weak.l0 kq a1 x8_1 l2 (l2.length : Int) x18_1 l0_0 l0_1 l0_2 a0_3 = some (r1, r2)) ∧ qab (kq ≤ k) ∧ qab (w'.heap[gb434]? = some (.cells #[(.slice A0_0 l0_0.length c0_0), (.slice A0_1 l0_1.length c0_1), (.slice A0_2 l0_2.length c0_2), .int .i64 a0_3] 99 (0, 0))) ∧ qab (Below w.heap.size w w'))
 case atStart => exact ⟨((l0_1.length : Int)), (0), (by first | rfl | (simp; done) | (simp [*]; done)), (by first | rfl | (simp; done) | (simp [*]; done)), H', ⟨Nat.le_refl _⟩, ⟨by (with_reducible repeat (first | refine blk_drewN ?_ _ | refine blk_drew ?_ | refine qan ?_ _)); exact BK434.out⟩, ⟨by repeat (first | (with_reducible first | exact HB.out | apply qag | apply qaf | apply qah | refine qai ?_ GE434.out) | exact HB.out)⟩⟩
 case round =>
  clear H'
  try clear c2
  try clear p2
  try clear hcz5_0
  try clear hcz5_1
  try clear hcz5_2
  try clear hcz5_3
  try clear hfz5_0
  try clear hfz5_1
  try clear hfz5_2
  try clear hfz5_3
  obtain ⟨x8_1, x18_1, rfl, rfl, HA, HK1, BK434, HB⟩ := hrel
  cases gk with
  | zero => exact absurd HA.out (by simp [pipe_net_weak.l0])
  | succ k1 =>
   have H := HA.out
   clear HA
   simp only [pipe_net_weak.l0] at H
   by_cases c6 : x18_1 < (l2.length : Int)
   ·
    rw [if_pos c6] at H
    have c6b0 : decide (x18_1 < (l2.length : Int)) = true := decide_eq_true c6
    clear c6
    by_cases c7 : 0 ≤ x18_1
    ·
     rw [if_pos c7] at H
     have c7b0 : decide (0 ≤ x18_1) = true := decide_eq_true c7
     clear c7
     by_cases c8 : x18_1 < (l2.length : Int)
     ·
      rw [if_pos c8] at H
      have c8b0 : decide (x18_1 < (l2.length : Int)) = true := decide_eq_true c8
      clear c8
      replace H := Option.bind_eq_some_iff.mp H
      obtain ⟨⟨t436, t439, t440⟩, A90, H⟩ := H
      replace H : (if t440 = true then (pipe_net_weak.l0 k1 a1 (mn x8_1 t439) l2 (l2.length : Int) (wrap64 (x18_1 + 1)) l0_0 l0_1 l0_2 a0_3) else (some (x18_1, 0))) = some (r1, r2) := H
      have A9 := qab.mk A90
      clear A90
      by_cases c10 : t440 = true
      ·
       subst c10
       have H1 : (pipe_net_weak.l0 k1 a1 (mn x8_1 t439) l2 (l2.length : Int) (wrap64 (x18_1 + 1)) l0_0 l0_1 l0_2 a0_3) = some (r1, r2) := by rw [if_pos rfl] at H; exact H
       clear H
       have H := H1
       clear H1
       obtain ⟨ji11, hji11⟩ : ∃ j_ : Int, (mn x8_1 t439) = j_ := ⟨_, rfl⟩
       replace H : (pipe_net_weak.l0 k1 a1 ji11 l2 (l2.length : Int) (wrap64 (x18_1 + 1)) l0_0 l0_1 l0_2 a0_3) = some (r1, r2) := by first | (rw [hji11] at H; exact H) | (simp only [hji11] at H ⊢; exact H)
       (try rw [hji11] at A9)
       have hji11_ : (if t439 < x8_1 then t439 else x8_1) = ji11 := hji11
       have H' := qab.mk H
       clear H
       have p435 : 0 ≤ (x18_1 : Int) := of_decide_eq_true (by first | (with_reducible assumption) | assumption)
       have q435 : x18_1 < (l2.length : Int) := of_decide_eq_true (by first | (with_reducible assumption) | assumption)
       obtain ⟨ad435, e435, hx435_0⟩ := Kd.at_int HR2.out x18_1 p435 q435
       cases e435
       replace hx435_0 := (HB.out.cell (World.block_lt_of_cell? w _ hx435_0)).trans hx435_0
       replace p435 := eq_true p435
       replace q435 := eq_true q435
       have hcz12_0 : wr.cell? ⟨gb434, 0, none⟩ = some (.slice A0_0 l0_0.length c0_0) := (qaa BK434.out 0).trans rfl
       have hcz12_1 : wr.cell? ⟨gb434, 1, none⟩ = some (.slice A0_1 l0_1.length c0_1) := (qaa BK434.out 1).trans rfl
       have hcz12_2 : wr.cell? ⟨gb434, 2, none⟩ = some (.slice A0_2 l0_2.length c0_2) := (qaa BK434.out 2).trans rfl
       have hcz12_3 : wr.cell? ⟨gb434, 3, none⟩ = some (.int .i64 a0_3) := (qaa BK434.out 3).trans rfl
       have hfz12_0 := qac BK434.out 0
       have hfz12_1 := qac BK434.out 1
       have hfz12_2 := qac BK434.out 2
       have hfz12_3 := qac BK434.out 3
       go_wp2_with (first | ((with_reducible refine gate_callee (f := 64) rfl ?_); refine goesL_ (some 26) rfl rfl Try.func64 (by kernel_rfl) rfl #[.agg #[.slice A0_0 l0_0.length c0_0, .slice A0_1 l0_1.length c0_1, .slice A0_2 l0_2.length c0_2, .int .i64 a0_3], .int .i64 a1, .int .i64 (rd l2 x18_1)] rfl (by (try simp only [List.map_toArray, List.map_cons, List.map_nil]); first | done | rfl | (simp only [List.length_drop, List.length_take]; rfl)) ?_; (with_reducible refine (pipe_net_order.calls _ _ l0_0 _ _ l0_1 _ _ l0_2 a0_3 a1 (rd l2 x18_1) t436 t439 true _ ?side1 ?side2 ?side3 ?side4 ?side5 ?side6 A9.out).mono ?_); (case side1 => repeat (first | exact (Kd.qak HR0_0.out HB.out) | (with_reducible refine Kd.C_alloc ?_ _) | (with_reducible refine Kd.C_drewN ?_ _) | (with_reducible refine Kd.C_drew ?_))); (case side2 => exact HC0_0.out); (case side3 => repeat (first | exact (Kd.qak HR0_1.out HB.out) | (with_reducible refine Kd.C_alloc ?_ _) | (with_reducible refine Kd.C_drewN ?_ _) | (with_reducible refine Kd.C_drew ?_))); (case side4 => exact HC0_1.out); (case side5 => repeat (first | exact (Kd.qak HR0_2.out HB.out) | (with_reducible refine Kd.C_alloc ?_ _) | (with_reducible refine Kd.C_drewN ?_ _) | (with_reducible refine Kd.C_drew ?_))); (case side6 => exact HC0_2.out); rintro e w13 ⟨v437, rfl, ho0, hb⟩; refine ⟨_, rfl, ?_⟩; have n0_ := qab.mk (Kd.R_lower ho0 (qar (by repeat (first | (with_reducible first | exact HB.out | apply qag | apply qaf | apply qah | refine qai ?_ GE434.out) | exact HB.out)))); have n1_ := qab.mk (qae (g := gb434) (o := .cells #[.slice A0_0 l0_0.length c0_0, .slice A0_1 l0_1.length c0_1, .slice A0_2 l0_2.length c0_2, .int .i64 a0_3] 99 (0, 0)) (by (with_reducible repeat (first | refine blk_drewN ?_ _ | refine blk_drew ?_ | refine qan ?_ _)); exact BK434.out) hb); have n2_ := qab.mk (qad (by repeat (first | (with_reducible first | exact HB.out | apply qag | apply qaf | apply qah | refine qai ?_ GE434.out) | exact HB.out)) hb); clear BK434; clear HB; have HO438 := n0_; have BK434 := n1_; have HB := n2_; clear n0_ n1_ n2_; (try clear hb); (try clear hb2); (try clear hk); (try clear hi); (try clear ho0)) | ((with_reducible refine qam (N := 11) rfl ?_); refine qal ?hg (N := 11) ?hd (cs := #[.slice none 0 0, .int .i64 0, .bool false]) (t := 97) ?hr ?_; (case hd => rfl); (case hg => rfl); (case hr => first | (go_simp; done) | (go_simp; rfl)); intro gb441 hg w14 hbox hb; have n0_ := qab.mk (Kd.R_below (by (with_reducible repeat (first | apply Kd.R_alloc | apply Kd.R_drewN | apply Kd.R_drew)); exact HO438.out) hb); have n1_ := qab.mk (qae (g := gb434) (o := .cells #[.slice A0_0 l0_0.length c0_0, .slice A0_1 l0_1.length c0_1, .slice A0_2 l0_2.length c0_2, .int .i64 a0_3] 99 (0, 0)) (by (with_reducible repeat (first | refine blk_drewN ?_ _ | refine blk_drew ?_ | refine qan ?_ _)); exact BK434.out) hb); have n2_ := qab.mk (qad (by repeat (first | (with_reducible first | exact HB.out | apply qag | apply qaf | apply qah | refine qai ?_ GE434.out) | exact HB.out)) hb); have n3_ := qab.mk (hbox); have n4_ := qab.mk ((by rw [hg]; exact (qar (by repeat (first | (with_reducible first | exact HB.out | apply qag | apply qaf | apply qah | refine qai ?_ GE434.out) | exact HB.out))) : w.heap.size ≤ gb441)); have n5_ := qab.mk ((by rw [hg]; exact (qar (by repeat (first | (with_reducible first | exact HB.out | apply qag | apply qaf | apply qah | refine qai ?_ GE434.out) | exact HB.out))) : w.heap.size ≤ gb441)); have n6_ := qab.mk ((by rw [hg]; exact Nat.ne_of_lt (blk_lt (g := gb434) (o := .cells #[.slice A0_0 l0_0.length c0_0, .slice A0_1 l0_1.length c0_1, .slice A0_2 l0_2.length c0_2, .int .i64 a0_3] 99 (0, 0)) (by (with_reducible repeat (first | refine blk_drewN ?_ _ | refine blk_drew ?_ | refine qan ?_ _)); exact BK434.out)) : gb434 ≠ gb441)); have n7_ := qab.mk ((by rw [hg]; exact Nat.ne_of_gt (blk_lt (g := gb434) (o := .cells #[.slice A0_0 l0_0.length c0_0, .slice A0_1 l0_1.length c0_1, .slice A0_2 l0_2.length c0_2, .int .i64 a0_3] 99 (0, 0)) (by (with_reducible repeat (first | refine blk_drewN ?_ _ | refine blk_drew ?_ | refine qan ?_ _)); exact BK434.out)) : gb441 ≠ gb434)); clear HO438; clear BK434; clear HB; have HO438 := n0_; have BK434 := n1_; have HB := n2_; have BK441 := n3_; have GW441 := n4_; have GE441 := n5_; have NB434_441 := n6_; have NB441_434 := n7_; clear n0_ n1_ n2_ n3_ n4_ n5_ n6_ n7_; clear hb hbox hg; obtain ⟨Ao15, co15, eo15⟩ := Kd.R_slice HO438.out; subst eo15; have hnb16 := NB441_434.out; have hnc16 := NB434_441.out; have hcz17_0 : w14.cell? ⟨gb441, 0, none⟩ = some (.slice none 0 0) := (qaa BK441.out 0).trans rfl; have hcz17_1 : w14.cell? ⟨gb441, 1, none⟩ = some (.int .i64 0) := (qaa BK441.out 1).trans rfl; have hcz17_2 : w14.cell? ⟨gb441, 2, none⟩ = some (.bool false) := (qaa BK441.out 2).trans rfl; have hfz17_0 := qac BK441.out 0; have hfz17_1 := qac BK441.out 1; have hfz17_2 := qac BK441.out 2))
       go_roundg k1
       case measure => have := HK1.out; omega
       case rel => exact ⟨(ji11), (wrap64 (x18_1 + 1)), (by first | rfl | (simp; done) | (simp only [← hji11] <;> (first | rfl | simp)) | (simp [*]; done)), (by first | rfl | (simp; done) | (simp [*]; done)), H', ⟨by have := HK1.out; omega⟩, ⟨by (with_reducible repeat (first | refine blk_drewN ?_ _ | refine blk_drew ?_ | refine qan ?_ _)); refine blk_far ?_ NB434_441.out _; (with_reducible repeat (first | refine blk_drewN ?_ _ | refine blk_drew ?_ | refine qan ?_ _)); refine blk_far ?_ NB434_441.out _; (with_reducible repeat (first | refine blk_drewN ?_ _ | refine blk_drew ?_ | refine qan ?_ _)); refine blk_far ?_ NB434_441.out _; (with_reducible repeat (first | refine blk_drewN ?_ _ | refine blk_drew ?_ | refine qan ?_ _)); exact BK434.out⟩, ⟨by repeat (first | (with_reducible first | exact HB.out | apply qag | apply qaf | apply qah | refine qai ?_ GE434.out | refine qai ?_ GE441.out) | exact HB.out)⟩⟩
      ·
       replace c10 := Bool.eq_false_iff.mpr c10
       subst c10
       have H1 : (some (x18_1, 0)) = some (r1, r2) := by rw [if_neg (show ¬ (false = true) by decide)] at H; exact H
       clear H
       have H := H1
       clear H1
       simp only [Option.some.injEq, Prod.mk.injEq] at H
       obtain ⟨rfl, rfl⟩ := H
       have p435 : 0 ≤ (x18_1 : Int) := of_decide_eq_true (by first | (with_reducible assumption) | assumption)
       have q435 : x18_1 < (l2.length : Int) := of_decide_eq_true (by first | (with_reducible assumption) | assumption)
       obtain ⟨ad435, e435, hx435_0⟩ := Kd.at_int HR2.out x18_1 p435 q435
       cases e435
       replace hx435_0 := (HB.out.cell (World.block_lt_of_cell? w _ hx435_0)).trans hx435_0
       replace p435 := eq_true p435
       replace q435 := eq_true q435
       have hcz18_0 : wr.cell? ⟨gb434, 0, none⟩ = some (.slice A0_0 l0_0.length c0_0) := (qaa BK434.out 0).trans rfl
       have hcz18_1 : wr.cell? ⟨gb434, 1, none⟩ = some (.slice A0_1 l0_1.length c0_1) := (qaa BK434.out 1).trans rfl
       have hcz18_2 : wr.cell? ⟨gb434, 2, none⟩ = some (.slice A0_2 l0_2.length c0_2) := (qaa BK434.out 2).trans rfl
       have hcz18_3 : wr.cell? ⟨gb434, 3, none⟩ = some (.int .i64 a0_3) := (qaa BK434.out 3).trans rfl
       have hfz18_0 := qac BK434.out 0
       have hfz18_1 := qac BK434.out 1
       have hfz18_2 := qac BK434.out 2
       have hfz18_3 := qac BK434.out 3
       go_wp2_with (first | ((with_reducible refine gate_callee (f := 64) rfl ?_); refine goesL_ (some 26) rfl rfl Try.func64 (by kernel_rfl) rfl #[.agg #[.slice A0_0 l0_0.length c0_0, .slice A0_1 l0_1.length c0_1, .slice A0_2 l0_2.length c0_2, .int .i64 a0_3], .int .i64 a1, .int .i64 (rd l2 x18_1)] rfl (by (try simp only [List.map_toArray, List.map_cons, List.map_nil]); first | done | rfl | (simp only [List.length_drop, List.length_take]; rfl)) ?_; (with_reducible refine (pipe_net_order.calls _ _ l0_0 _ _ l0_1 _ _ l0_2 a0_3 a1 (rd l2 x18_1) t436 t439 false _ ?side1 ?side2 ?side3 ?side4 ?side5 ?side6 A9.out).mono ?_); (case side1 => repeat (first | exact (Kd.qak HR0_0.out HB.out) | (with_reducible refine Kd.C_alloc ?_ _) | (with_reducible refine Kd.C_drewN ?_ _) | (with_reducible refine Kd.C_drew ?_))); (case side2 => exact HC0_0.out); (case side3 => repeat (first | exact (Kd.qak HR0_1.out HB.out) | (with_reducible refine Kd.C_alloc ?_ _) | (with_reducible refine Kd.C_drewN ?_ _) | (with_reducible refine Kd.C_drew ?_))); (case side4 => exact HC0_1.out); (case side5 => repeat (first | exact (Kd.qak HR0_2.out HB.out) | (with_reducible refine Kd.C_alloc ?_ _) | (with_reducible refine Kd.C_drewN ?_ _) | (with_reducible refine Kd.C_drew ?_))); (case side6 => exact HC0_2.out); rintro e w19 ⟨v437, rfl, ho0, hb⟩; refine ⟨_, rfl, ?_⟩; have n0_ := qab.mk (Kd.R_lower ho0 (qar (by repeat (first | (with_reducible first | exact HB.out | apply qag | apply qaf | apply qah | refine qai ?_ GE434.out) | exact HB.out)))); have n1_ := qab.mk (qae (g := gb434) (o := .cells #[.slice A0_0 l0_0.length c0_0, .slice A0_1 l0_1.length c0_1, .slice A0_2 l0_2.length c0_2, .int .i64 a0_3] 99 (0, 0)) (by (with_reducible repeat (first | refine blk_drewN ?_ _ | refine blk_drew ?_ | refine qan ?_ _)); exact BK434.out) hb); have n2_ := qab.mk (qad (by repeat (first | (with_reducible first | exact HB.out | apply qag | apply qaf | apply qah | refine qai ?_ GE434.out) | exact HB.out)) hb); clear BK434; clear HB; have HO438 := n0_; have BK434 := n1_; have HB := n2_; clear n0_ n1_ n2_; (try clear hb); (try clear hb2); (try clear hk); (try clear hi); (try clear ho0)) | ((with_reducible refine qam (N := 11) rfl ?_); refine qal ?hg (N := 11) ?hd (cs := #[.slice none 0 0, .int .i64 0, .bool false]) (t := 97) ?hr ?_; (case hd => rfl); (case hg => rfl); (case hr => first | (go_simp; done) | (go_simp; rfl)); intro gb441 hg w20 hbox hb; have n0_ := qab.mk (Kd.R_below (by (with_reducible repeat (first | apply Kd.R_alloc | apply Kd.R_drewN | apply Kd.R_drew)); exact HO438.out) hb); have n1_ := qab.mk (qae (g := gb434) (o := .cells #[.slice A0_0 l0_0.length c0_0, .slice A0_1 l0_1.length c0_1, .slice A0_2 l0_2.length c0_2, .int .i64 a0_3] 99 (0, 0)) (by (with_reducible repeat (first | refine blk_drewN ?_ _ | refine blk_drew ?_ | refine qan ?_ _)); exact BK434.out) hb); have n2_ := qab.mk (qad (by repeat (first | (with_reducible first | exact HB.out | apply qag | apply qaf | apply qah | refine qai ?_ GE434.out) | exact HB.out)) hb); have n3_ := qab.mk (hbox); have n4_ := qab.mk ((by rw [hg]; exact (qar (by repeat (first | (with_reducible first | exact HB.out | apply qag | apply qaf | apply qah | refine qai ?_ GE434.out) | exact HB.out))) : w.heap.size ≤ gb441)); have n5_ := qab.mk ((by rw [hg]; exact (qar (by repeat (first | (with_reducible first | exact HB.out | apply qag | apply qaf | apply qah | refine qai ?_ GE434.out) | exact HB.out))) : w.heap.size ≤ gb441)); have n6_ := qab.mk ((by rw [hg]; exact Nat.ne_of_lt (blk_lt (g := gb434) (o := .cells #[.slice A0_0 l0_0.length c0_0, .slice A0_1 l0_1.length c0_1, .slice A0_2 l0_2.length c0_2, .int .i64 a0_3] 99 (0, 0)) (by (with_reducible repeat (first | refine blk_drewN ?_ _ | refine blk_drew ?_ | refine qan ?_ _)); exact BK434.out)) : gb434 ≠ gb441)); have n7_ := qab.mk ((by rw [hg]; exact Nat.ne_of_gt (blk_lt (g := gb434) (o := .cells #[.slice A0_0 l0_0.length c0_0, .slice A0_1 l0_1.length c0_1, .slice A0_2 l0_2.length c0_2, .int .i64 a0_3] 99 (0, 0)) (by (with_reducible repeat (first | refine blk_drewN ?_ _ | refine blk_drew ?_ | refine qan ?_ _)); exact BK434.out)) : gb441 ≠ gb434)); clear HO438; clear BK434; clear HB; have HO438 := n0_; have BK434 := n1_; have HB := n2_; have BK441 := n3_; have GW441 := n4_; have GE441 := n5_; have NB434_441 := n6_; have NB441_434 := n7_; clear n0_ n1_ n2_ n3_ n4_ n5_ n6_ n7_; clear hb hbox hg; obtain ⟨Ao21, co21, eo21⟩ := Kd.R_slice HO438.out; subst eo21; have hnb22 := NB441_434.out; have hnc22 := NB434_441.out; have hcz23_0 : w20.cell? ⟨gb441, 0, none⟩ = some (.slice none 0 0) := (qaa BK441.out 0).trans rfl; have hcz23_1 : w20.cell? ⟨gb441, 1, none⟩ = some (.int .i64 0) := (qaa BK441.out 1).trans rfl; have hcz23_2 : w20.cell? ⟨gb441, 2, none⟩ = some (.bool false) := (qaa BK441.out 2).trans rfl; have hfz23_0 := qac BK441.out 0; have hfz23_1 := qac BK441.out 1; have hfz23_2 := qac BK441.out 2))
       go_ret2
       exact ⟨by first | rfl | (simp [errW_none, errW_some] <;> rfl) | (simp [*, errW_none, errW_some] <;> rfl), by repeat (first | (with_reducible first | exact HB.out | apply qag | apply qaf | apply qah | refine qai ?_ GE434.out | refine qai ?_ GE441.out) | exact HB.out)⟩
     ·
      rw [if_neg c8] at H
      exact absurd H (by simp)
    ·
     rw [if_neg c7] at H
     exact absurd H (by simp)
   ·
    rw [if_neg c6] at H
    have c6b0 : decide (x18_1 < (l2.length : Int)) = false := decide_eq_false c6
    clear c6
    simp only [Option.some.injEq, Prod.mk.injEq] at H
    obtain ⟨rfl, rfl⟩ := H
    go_wp2
    go_ret2
    exact ⟨by first | rfl | (simp [errW_none, errW_some] <;> rfl) | (simp [*, errW_none, errW_some] <;> rfl), by repeat (first | (with_reducible first | exact HB.out | apply qag | apply qaf | apply qah | refine qai ?_ GE434.out) | exact HB.out)⟩
theorem weak_some (l0 : List S39) (l1 : List S37) (l2 : List (List Int)) (wp from_ : Int) (fs : List Int) (ho : ∀ f ∈ fs, ∃ r, pipe_net_order.f l0 l1 l2 wp from_ f = some r) :
  ∀ (k j : Nat) (s : Int), fs.length - j < k → j ≤ fs.length → fs.length ≤ 1000 → ∃ r, pipe_net_weak.l0 k from_ s fs (fs.length : Int) (j : Int) l0 l1 l2 wp = some r := by
 intro k
 induction k with
 | zero => intro j s h; omega
 | succ k ih =>
  intro j s h hj hn
  unfold pipe_net_weak.l0
  by_cases hlt : j < fs.length
  ·
   rw [if_pos (by omega), if_pos (by omega), if_pos (by omega)]
   obtain ⟨r, hr⟩ := ho (rd fs j) (by unfold rd; simp [hlt])
   rw [hr]
   simp only [Option.bind_some]
   split
   ·
    have hw : wrap64 ((j : Int) + 1) = ((j + 1 : Nat) : Int) := by unfold wrap64; omega
    rw [hw]
    exact ih (j + 1) _ (by omega) (by omega) hn
   ·
    exact ⟨_, rfl⟩
  ·
   rw [if_neg (by omega)]
   exact ⟨_, rfl⟩
def weakV (l0 : List S39) (l1 : List S37) (l2 : List (List Int)) (wp from_ : Int) (fs : List Int) : Int × Int := (pipe_net_weak.f 14 l0 l1 l2 wp from_ fs).getD (0, 0)
theorem weakV_some (l0 : List S39) (l1 : List S37) (l2 : List (List Int)) (wp from_ : Int) (fs : List Int) (hl : fs.length ≤ 12) (ho : ∀ f ∈ fs, ∃ r, pipe_net_order.f l0 l1 l2 wp from_ f = some r) :
  pipe_net_weak.f 14 l0 l1 l2 wp from_ fs = some ((weakV l0 l1 l2 wp from_ fs).1, (weakV l0 l1 l2 wp from_ fs).2) := by
 obtain ⟨r, hr⟩ := weak_some l0 l1 l2 wp from_ fs ho 14 0 (l1.length : Int) (by omega) (by omega) (by omega)
 have h : pipe_net_weak.f 14 l0 l1 l2 wp from_ fs = some r := hr
 unfold weakV
 rw [h]
 rfl
theorem shl_pow (n : Nat) (h : n ≤ 5) : shl .i64 1 (n : Int) = 2 ^ n := by
 match n, h with
 | 0, _ => rfl
 | 1, _ => rfl
 | 2, _ => rfl
 | 3, _ => rfl
 | 4, _ => rfl
 | 5, _ => rfl
theorem given_ok {l0 : List S39} {l1 : List S37} {l2 : List (List Int)} {a1 : Int} {fs : List Int} (h : givenV l0 l1 l2 a1 fs = 0) : fs.length ≤ 12 ∧ validB l0 l1 l2 = true ∧ 0 ≤ a1 ∧ a1 ≤ l0.length ∧ ∀ f ∈ fs, 0 ≤ f ∧ f < 2 ^ l0.length := by
 unfold givenV at h
 split at h
 ·
  cases h
 ·
  rename_i hl
  split at h
  ·
   cases h
  ·
   rename_i hc
   simp only [Bool.or_eq_true, Bool.not_eq_true', not_or, Bool.not_eq_false] at hc
   obtain ⟨hv, hp, ha⟩ := hc
   have hlen := valid_lens hv
   unfold inB at hp
   simp only [Bool.and_eq_true, decide_eq_true_eq] at hp
   refine ⟨by omega, hv, hp.1, hp.2, fun f hf => ?_⟩
   rw [Bool.not_eq_true, List.any_eq_false] at ha
   have h1 := ha f hf
   simp only [Bool.not_eq_true', Bool.not_eq_false] at h1
   unfold faultB inB at h1
   simp only [Bool.and_eq_true, decide_eq_true_eq] at h1
   rw [shl_pow _ hlen.2.2.1] at h1
   have h32 : (2 : Int) ^ l0.length ≤ 32 := by
    have h := Nat.pow_le_pow_right (n := 2) (by decide) hlen.2.2.1
    have : ((2 ^ l0.length : Nat) : Int) ≤ ((2 ^ 5 : Nat) : Int) := Int.ofNat_le.2 h
    simpa using this
   have h0 : (0 : Int) < 2 ^ l0.length := Int.pow_pos (by decide)
   unfold wrap64 at h1
   exact ⟨h1.1, by omega⟩
theorem order_some {l0 : List S39} {l1 : List S37} {l2 : List (List Int)} {wp a1 f : Int} (hv : validB l0 l1 l2 = true) (hw : 0 ≤ wp) (h0 : 0 ≤ a1) (h1 : a1 ≤ l0.length) (f0 : 0 ≤ f) (f1 : f < 2 ^ l0.length) : ∃ r, pipe_net_order.f l0 l1 l2 wp a1 f = some r := by
 unfold pipe_net_order.f
 rw [if_pos ⟨hv, hw, h0, h1, f0, f1⟩]
 exact ⟨_, rfl⟩
structure Inv73 (w0 : World) (gn gf : Nat) (cn cf : Value) (cs : Array Value) (A : Nat → Prop) (W : World) : Prop where
 an : ¬ A gn
 af : ¬ A gf
 lo : ∀ k, A k → w0.heap.size ≤ k
 xn : W.heap[gn]? = some (.cells cs 26 (0, 0))
 xf : W.heap[gf]? = some (.cells #[cf] 47 (0, 0))
 hb : Below w0.heap.size w0 W
theorem Inv73.held {w0 : World} {gn gf : Nat} {cn cf : Value} {cs : Array Value} {B : Nat} (hB : w0.heap.size ≤ B) : Held B (Inv73 w0 gn gf cn cf cs) where
 mono A A' W hA h := ⟨fun hk => h.an (hA _ hk), fun hk => h.af (hA _ hk), fun k hk => h.lo k (hA k hk), h.xn, h.xf, h.hb⟩
 fresh A W h := ⟨fun hk => hk.elim h.an (fun e => by have := blk_lt h.xn; omega), fun hk => hk.elim h.af (fun e => by have := blk_lt h.xf; omega), fun k hk => hk.elim (h.lo k) (fun e => Nat.le_trans h.hb.size e), h.xn, h.xf, h.hb⟩
 step A W W' h hk := ⟨h.an, h.af, h.lo, hk.blk h.xn h.an, hk.blk h.xf h.af, ⟨hk.os.trans h.hb.os, hk.tape.trans h.hb.tape, hk.output.trans h.hb.output, Nat.le_trans h.hb.size hk.size, fun k hlt => (hk.block k (Nat.lt_of_lt_of_le hlt h.hb.size) (fun ha => by have := h.lo k ha; omega)).trans (h.hb.block k hlt)⟩⟩
 own A W W' row h hg hr := ⟨h.an, h.af, h.lo, blk_own h.xn hg hr, blk_own h.xf hg hr, ⟨hg.os.trans h.hb.os, hg.tape.trans h.hb.tape, hg.output.trans h.hb.output, Nat.le_trans h.hb.size hg.size, fun k hlt => (hg.block k (Nat.lt_of_lt_of_le hlt h.hb.size) (fun e => by have := (hr k e.symm).1; omega)).trans (h.hb.block k hlt)⟩⟩
def ofPost (l0 : List S39) (l1 : List S37) (l2 : List (List Int)) (fs : List Int) (p : Int) : Int × Bool := ((weakV l0 l1 l2 0 p fs).2, decide ((weakV l0 l1 l2 0 p fs).1 < 0))
theorem of73_calls (A0 : Option Addr) (c0 : Nat) (l0 : List S39) (A1 : Option Addr) (c1 : Nat) (l1 : List S37) (A2 : Option Addr) (c2 : Nat) (l2 : List (List Int)) (A3 : Option Addr) (c3 : Nat) (fs : List Int) (w0 : World) (gn gf : Nat) (cn : Value)
  (hr0 : Kd.C k39 w0 A0 l0.length l0) (hc0 : l0.length ≤ c0) (hr1 : Kd.C k37 w0 A1 l1.length l1) (hc1 : l1.length ≤ c1) (hr2 : Kd.C (Kd.slice 3 (Kd.int .i64)) w0 A2 l2.length l2) (hc2 : l2.length ≤ c2) (hr3 : Kd.C (Kd.int .i64) w0 A3 fs.length fs) (hc3 : fs.length ≤ c3)
  (x : Int) (hok : pipe_net_weak.f 14 l0 l1 l2 0 x fs = some ((weakV l0 l1 l2 0 x fs).1, (weakV l0 l1 l2 0 x fs).2)) (A : Nat → Prop) (w : World) (hinv : Inv73 w0 gn gf cn (.slice A3 fs.length c3) #[.slice A0 l0.length c0, .slice A1 l1.length c1, .slice A2 l2.length c2] A w) :
  Calls Try.prog 73 #[.int .i64 x, .pointer (some ⟨gn, 0, none⟩), .pointer (some ⟨gf, 0, none⟩)] w fun e w' => e = .returned (.tuple #[.int .i64 (ofPost l0 l1 l2 fs x).1, .bool (ofPost l0 l1 l2 fs x).2]) ∧ Inv73 w0 gn gf cn (.slice A3 fs.length c3) #[.slice A0 l0.length c0, .slice A1 l1.length c1, .slice A2 l2.length c2] A w' ∧ KB (fun _ => False) w w' := by
 have hu26 := Try.underlying26
 have hu99 := Try.underlying99
 have H := qab.mk (pipe_net_weak.calls 14 _ _ l0 _ _ l1 _ _ l2 0 x _ _ fs _ _ w (Kd.qak hr0 hinv.hb) hc0 (Kd.qak hr1 hinv.hb) hc1 (Kd.qak hr2 hinv.hb) hc2 (Kd.qak hr3 hinv.hb) hc3 hok)
 have k0 : w.cell? ⟨gn, 0, none⟩ = some (.slice A0 l0.length c0) := qaa hinv.xn 0
 have k1 : w.cell? ⟨gn, 1, none⟩ = some (.slice A1 l1.length c1) := qaa hinv.xn 1
 have k2 : w.cell? ⟨gn, 2, none⟩ = some (.slice A2 l2.length c2) := qaa hinv.xn 2
 have k3 : w.cell? ⟨gf, 0, none⟩ = some (.slice A3 fs.length c3) := qaa hinv.xf 0
 have HI := qab.mk hinv
 unfold ofPost
 clear hr0 hc0 hr1 hc1 hr2 hc2 hr3 hc3 hok hinv
 generalize weakV l0 l1 l2 0 x fs = ws at H ⊢
 obtain ⟨i, sl⟩ := ws
 try dsimp only at H ⊢
 go_enter Try.func73, Try.ntmps73
 go_wp2_with (go_at_call 74; refine H.out.mono ?_; rintro e w2 ⟨rfl, hb⟩; have HB := qab.mk hb; clear hb)
 go_ret2
 exact ⟨rfl, (Inv73.held (Nat.le_refl _)).step A w _ HI.out (KB.of_below HB.out A), KB.of_below HB.out _⟩
def postV (l0 : List S39) (l1 : List S37) (l2 : List (List Int)) (fs : List Int) : Int × Int × Int :=
 if givenV l0 l1 l2 0 fs ≠ 0 then (0, 0, givenV l0 l1 l2 0 fs) else
  if (g1 (ofPost l0 l1 l2 fs) (numsOf (l0.length + 1))).2.2 = true then ((g1 (ofPost l0 l1 l2 fs) (numsOf (l0.length + 1))).1, (g1 (ofPost l0 l1 l2 fs) (numsOf (l0.length + 1))).2.1, 0) else (0, 0, 5)
def pipe_Post.f (l0_0 : List (S39)) (l0_1 : List (S37)) (l0_2 : List (List Int)) (l1 : List Int) : Option (Int × Int × Int) := some (postV l0_0 l0_1 l0_2 l1)
theorem pipe_Post.calls (A0_0 : Option Addr) (c0_0 : Nat) (l0_0 : List (S39)) (A0_1 : Option Addr) (c0_1 : Nat) (l0_1 : List (S37)) (A0_2 : Option Addr) (c0_2 : Nat) (l0_2 : List (List Int)) (A1 : Option Addr) (c1 : Nat) (l1 : List Int) (r1 : Int) (r2 : Int) (r3 : Int) (w : World) (hr0_0 : Kd.C k39 w A0_0 l0_0.length l0_0) (hc0_0 : l0_0.length ≤ c0_0) (hr0_1 : Kd.C k37 w A0_1 l0_1.length l0_1) (hc0_1 : l0_1.length ≤ c0_1) (hr0_2 : Kd.C (Kd.slice 3 (Kd.int .i64)) w A0_2 l0_2.length l0_2) (hc0_2 : l0_2.length ≤ c0_2) (hr1 : Kd.C (Kd.int .i64) w A1 l1.length l1) (hc1 : l1.length ≤ c1) (h : pipe_Post.f l0_0 l0_1 l0_2 l1 = some (r1, r2, r3)) :
  Calls Try.prog 37 #[.agg #[.slice A0_0 l0_0.length c0_0, .slice A0_1 l0_1.length c0_1, .slice A0_2 l0_2.length c0_2], .slice A1 l1.length c1] w fun e w' => e = .returned (.tuple #[.int .i64 r1, .int .i64 r2, .int .i64 r3]) ∧ Below w.heap.size w w' := by
 have h' := Option.some.inj h
 clear h
 have HF := qab.mk h'
 clear h'
 have hu26 := Try.underlying26
 have HB := qab.mk (Below.refl w.heap.size w)
 have HR0 := qab.mk hr0_0
 have HR1 := qab.mk hr0_1
 have HR2 := qab.mk hr0_2
 have HR3 := qab.mk hr1
 clear hr0_0 hr0_1 hr0_2 hr1
 have hmf : ∀ (fn : Fn) (first cap : Array Value) (w : World), (Instr.makeFunc fn first cap).run Try.prog w = .ok (.func fn first cap) w := fun _ _ _ _ => rfl
 have hgiven : ∀ W, Below w.heap.size w W → Calls Try.prog 70 #[.agg #[.slice A0_0 l0_0.length c0_0, .slice A0_1 l0_1.length c0_1, .slice A0_2 l0_2.length c0_2], .int .i64 0, .slice A1 l1.length c1] W fun e w' => e = .returned (.int .i64 (givenV l0_0 l0_1 l0_2 0 l1)) ∧ Below W.heap.size W w' := fun W hW =>
  pipe_given.calls _ _ _ _ _ _ _ _ _ 0 _ _ l1 _ W (Kd.qak HR0.out hW) hc0_0 (Kd.qak HR1.out hW) hc0_1 (Kd.qak HR2.out hW) hc0_2 (Kd.qak HR3.out hW) hc1 rfl
 have HGIV := qab.mk hgiven
 clear hgiven
 obtain ⟨gv, hgv⟩ : ∃ gv, gv = givenV l0_0 l0_1 l0_2 0 l1 := ⟨_, rfl⟩
 rw [← hgv] at HGIV
 by_cases hz : gv = 0
 ·
  have hgo := given_ok (hgv.symm.trans hz)
  have hlen := valid_lens hgo.2.1
  have hweak : ∀ x, x ∈ numsOf (l0_0.length + 1) → pipe_net_weak.f 14 l0_0 l0_1 l0_2 0 x l1 = some ((weakV l0_0 l0_1 l0_2 0 x l1).1, (weakV l0_0 l0_1 l0_2 0 x l1).2) := fun x hx => by
   unfold numsOf at hx
   simp only [List.mem_map, List.mem_range] at hx
   obtain ⟨k, hk, rfl⟩ := hx
   exact weakV_some _ _ _ _ _ _ hgo.1 (fun f hf => order_some hgo.2.1 (by omega) (by omega) (by omega) (hgo.2.2.2.2 f hf).1 (hgo.2.2.2.2 f hf).2)
  have HW := qab.mk hweak
  have HLN : qab (l0_0.length ≤ 5) := ⟨hlen.2.2.1⟩
  have hPV : postV l0_0 l0_1 l0_2 l1 = (if (g1 (ofPost l0_0 l0_1 l0_2 l1) (numsOf (l0_0.length + 1))).2.2 = true then ((g1 (ofPost l0_0 l0_1 l0_2 l1) (numsOf (l0_0.length + 1))).1, (g1 (ofPost l0_0 l0_1 l0_2 l1) (numsOf (l0_0.length + 1))).2.1, 0) else (0, 0, 5)) := by
   unfold postV
   rw [if_neg (by rw [← hgv]; simp [hz])]
  have HPV := qab.mk (hPV.symm.trans HF.out)
  clear hPV hweak hlen hgo hgv
  subst hz
  have hw1 : IntKind.i64.wrap ((l0_0.length : Int) + 1) = (l0_0.length : Int) + 1 := by rw [i64_w]; unfold wrap64; have := HLN.out; omega
  go_enter Try.func37, Try.ntmps37
  go_wp2_with (first | ((with_reducible refine qam (N := 2) rfl ?_); refine qal ?hg (N := 2) ?hd (cs := #[.slice A0_0 l0_0.length c0_0, .slice A0_1 l0_1.length c0_1, .slice A0_2 l0_2.length c0_2]) (t := 26) ?hr ?_; (case hd => rfl); (case hg => rfl); (case hr => first | (go_simp; done) | (go_simp; rfl)); intro gb hg_gb w2 hbox hb; have BKgb := qab.mk hbox; have n_HB := qab.mk (qad HB.out hb); have GEgb : w.heap.size ≤ gb := (by rw [hg_gb]; exact HB.out.size); clear HB; have HB := n_HB; clear n_HB; clear hbox hb hg_gb) | ((with_reducible refine qam (N := 3) rfl ?_); refine qal ?hg (N := 3) ?hd (cs := #[.slice A1 l1.length c1]) (t := 47) ?hr ?_; (case hd => rfl); (case hg => rfl); (case hr => first | (go_simp; done) | (go_simp; rfl)); intro gf hg_gf w3 hbox hb; have BKgf := qab.mk hbox; replace BKgb := qab.mk (qae BKgb.out hb); have n_HB := qab.mk (qad HB.out hb); have GEgf : w.heap.size ≤ gf := (by rw [hg_gf]; exact HB.out.size); clear HB; have HB := n_HB; clear n_HB; clear hbox hb hg_gf; obtain ⟨hfgb, hcgb_0, hcgb_1, hcgb_2⟩ := qz3 BKgb.out; obtain ⟨hfgf, hcgf_0⟩ := qz1 BKgf.out) | (go_at_call 70; refine (HGIV.out _ HB.out).mono ?_; rintro e w4 ⟨rfl, hb⟩; replace BKgb := qab.mk (qae BKgb.out hb); replace BKgf := qab.mk (qae BKgf.out hb); replace HB := qab.mk (qad HB.out hb); clear hb; obtain ⟨hfgb, hcgb_0, hcgb_1, hcgb_2⟩ := qz3 BKgb.out) | (go_at_call 72; refine (numbers_calls _ _).mono ?_; rintro e w5 ⟨BB, rfl, hBB, hge, hb⟩; replace BKgb := qab.mk (qae BKgb.out hb); replace BKgf := qab.mk (qae BKgf.out hb); replace HB := qab.mk (qad HB.out hb); clear hb))
  have hcall := greatest73_calls (p := fun x => x ∈ numsOf (l0_0.length + 1)) (gf := 96) (lb := #[.pointer (some ⟨BB, 0, none⟩)]) (enters_of Try.func96 (by kernel_rfl) rfl) (Bn := BB) (w := w5) (blk_lt hBB) (fun n hn => numbers_stops n hn (l0_0.length + 1) (by have := HLN.out; omega) BB w5 hBB) (numsOf (l0_0.length + 1)) (fun xs h => h)
   (Inv73.held (w0 := w) (gn := gb) (gf := gf) (cn := .nilIface) (cf := .slice A1 l1.length c1) (cs := #[.slice A0_0 l0_0.length c0_0, .slice A0_1 l0_1.length c0_1, .slice A0_2 l0_2.length c0_2]) (B := w5.heap.size) HB.out.size) (fun _ => False) (fun k hk => hk.elim)
   (fun _ => False) (.pointer (some ⟨gb, 0, none⟩)) (.pointer (some ⟨gf, 0, none⟩)) (ofPost l0_0 l0_1 l0_2 l1)
   (fun A' W' x hx hA' hi' => of73_calls _ _ l0_0 _ _ l0_1 _ _ l0_2 _ _ l1 w gb gf .nilIface HR0.out hc0_0 HR1.out hc0_1 HR2.out hc0_2 HR3.out hc1 x (HW.out x hx) A' W' hi')
   ⟨fun h => h, fun h => h, fun k h => h.elim, BKgb.out, BKgf.out, HB.out⟩ (fun k hk => hk.elim)
  refine hcall.mono ?_
  rintro e w7 ⟨rfl, i7, k7⟩
  have hb7 := HB.out.trans (k7.toBelow (fun k h => h.elim) |>.mono HB.out.size)
  clear hcall i7 k7 hBB hge
  generalize g1 (ofPost l0_0 l0_1 l0_2 l1) (numsOf (l0_0.length + 1)) = g at HPV ⊢
  obtain ⟨ga, gc, gd⟩ := g
  try dsimp only at HPV ⊢
  have HB7 := qab.mk hb7
  clear hb7
  cases gd with
  | false =>
   have he := HPV.out
   cases he
   go_wp2_with fail
   go_ret3
   exact ⟨rfl, HB7.out⟩
  | true =>
   have he := HPV.out
   cases he
   go_wp2_with fail
   go_ret3
   exact ⟨rfl, HB7.out⟩
 ·
  have hzb : (gv != 0) = true := by simp [hz]
  have hv : (r1, r2, r3) = (0, 0, gv) := by rw [← HF.out]; unfold postV; rw [← hgv, if_pos hz]
  cases hv
  clear hgv
  go_enter Try.func37, Try.ntmps37
  go_wp2_with (first | ((with_reducible refine qam (N := 2) rfl ?_); refine qal ?hg (N := 2) ?hd (cs := #[.slice A0_0 l0_0.length c0_0, .slice A0_1 l0_1.length c0_1, .slice A0_2 l0_2.length c0_2]) (t := 26) ?hr ?_; (case hd => rfl); (case hg => rfl); (case hr => first | (go_simp; done) | (go_simp; rfl)); intro gb hg_gb w2 hbox hb; have BKgb := qab.mk hbox; have n_HB := qab.mk (qad HB.out hb); have GEgb : w.heap.size ≤ gb := (by rw [hg_gb]; exact HB.out.size); clear HB; have HB := n_HB; clear n_HB; clear hbox hb hg_gb) | ((with_reducible refine qam (N := 3) rfl ?_); refine qal ?hg (N := 3) ?hd (cs := #[.slice A1 l1.length c1]) (t := 47) ?hr ?_; (case hd => rfl); (case hg => rfl); (case hr => first | (go_simp; done) | (go_simp; rfl)); intro gf hg_gf w3 hbox hb; have BKgf := qab.mk hbox; replace BKgb := qab.mk (qae BKgb.out hb); have n_HB := qab.mk (qad HB.out hb); have GEgf : w.heap.size ≤ gf := (by rw [hg_gf]; exact HB.out.size); clear HB; have HB := n_HB; clear n_HB; clear hbox hb hg_gf; obtain ⟨hfgb, hcgb_0, hcgb_1, hcgb_2⟩ := qz3 BKgb.out; obtain ⟨hfgf, hcgf_0⟩ := qz1 BKgf.out) | (go_at_call 70; refine (HGIV.out _ HB.out).mono ?_; rintro e w4 ⟨rfl, hb⟩; replace HB := qab.mk (qad HB.out hb); clear hb))
  go_ret3
  exact ⟨rfl, HB.out⟩
end Go.Proofs.Ytipphcjgdebecaa.PA
