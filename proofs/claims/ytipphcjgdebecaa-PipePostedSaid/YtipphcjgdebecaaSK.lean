/- Parts of a proof about the pipe seat's laws: what the functions of the program answer. No condition of its own. -/
import Derived.Test.YtipphcjgdebecaaSC
import Derived.Test.YtipphcjgdebecaaSF
import Derived.Test.YtipphcjgdebecaaSE
import Derived.Test.YtipphcjgdebecaaSH
import Derived.Test.YtipphcjgdebecaaSJ
set_option linter.all false
namespace Go.Proofs.Ytipphcjgdebecaa.PA
open Go.RowKit Go.Proofs.YtipphcjgdebecaaW.PrintWords Go.Proofs.YtipphcjgdebecaaW.PrintLast Go.Proofs.YtipphcjgdebecaaW.PrintMore
attribute [local go_sem] max2_int min2_int max_two min_two max_three min_three max_four min_four
theorem search_all (E : OE) (hE : E.Fit) : ∀ (c : Nat) (s : Sp), E.At s → cntB s.r ≤ c → SearchC E s := by
 intro c
 induction c with
 | zero => exact fun s hs hc => search_step E hE s hs (fun s' _ h => by omega)
 | succ c ih => exact fun s hs hc => search_step E hE s hs (fun s' hs' h => ih s' hs' (by omega))
theorem bit_low : (List.range 32).all (fun r => (List.range 5).all fun i => !(bitB r i) || decide (2 ^ i ≤ r)) = true := by kernel_rfl
theorem bit_le (r : Int) (h0 : 0 ≤ r) (h1 : r < 32) (k : Nat) (hk : k < 5) (hb : bitB r k = true) : (2 : Int) ^ k ≤ r := by
 obtain ⟨n, rfl⟩ := Int.eq_ofNat_of_zero_le h0
 have h := bit_low
 rw [List.all_eq_true] at h
 have h2 := h n (by simp; omega)
 rw [List.all_eq_true] at h2
 have h3 := h2 k (by simp; omega)
 rw [hb] at h3
 simp only [Bool.not_true, Bool.false_or, decide_eq_true_eq] at h3
 exact_mod_cast h3
theorem valid_lens {l0 : List S39} {l1 : List S37} {l2 : List (List Int)} (h : validB l0 l1 l2 = true) : l2.length = l0.length + 1 ∧ 1 ≤ l0.length ∧ l0.length ≤ 5 ∧ 1 ≤ l1.length ∧ l1.length ≤ 72 ∧ ∀ p : Int, 0 ≤ p → p ≤ l0.length → (rd_L1 l2 p).length = l0.length + 1 := by
 unfold validB inB at h
 simp only [Bool.and_eq_true, decide_eq_true_eq] at h
 obtain ⟨h1, h2, ⟨h3, h4⟩, ⟨h5, h6⟩, _⟩ := h
 refine ⟨by omega, by omega, by omega, by omega, by omega, fun p p0 p1 => ?_⟩
 unfold waysB at h2
 rw [List.all_eq_true] at h2
 have h7 := h2 p.toNat (by simp; omega)
 unfold rowB at h7
 simp only [Bool.and_eq_true, decide_eq_true_eq] at h7
 have h8 := h7.1
 unfold rd_L1
 omega
def duesV (l0 : List S39) (l1 : List S37) (l2 : List (List Int)) (wp : Int) (n : Nat) : List Int := (List.range n).map fun i : Nat => (pipe_net_due.f l0 l1 l2 wp (i : Int)).getD 0
theorem duesV_succ (l0 : List S39) (l1 : List S37) (l2 : List (List Int)) (wp : Int) (n : Nat) : duesV l0 l1 l2 wp (n + 1) = duesV l0 l1 l2 wp n ++ [(pipe_net_due.f l0 l1 l2 wp (n : Int)).getD 0] := by simp [duesV, List.range_succ]
theorem duesV_length (l0 : List S39) (l1 : List S37) (l2 : List (List Int)) (wp : Int) (n : Nat) : (duesV l0 l1 l2 wp n).length = n := by simp [duesV]
theorem due_some (l0 : List S39) (l1 : List S37) (l2 : List (List Int)) (wp : Int) (i : Int) (h0 : 0 ≤ i) (h1 : i < l0.length) (hw : 0 ≤ wp) (hn : l1.length ≤ 1000) : pipe_net_due.f l0 l1 l2 wp i = some ((pipe_net_due.f l0 l1 l2 wp i).getD 0) := by
 unfold pipe_net_due.f pipe_net_freezes.f
 rw [if_pos ⟨h0, h1, hw, hn⟩]
 simp only [Option.bind_some]
 split <;> rfl
def DInv (w W : World) (gb gr gd : Nat) (cb cr : Array Value) (v : Value) (xs : List Int) : Prop :=
 W.heap[gb]? = some (.cells cb 99 (0, 0)) ∧ W.heap[gr]? = some (.cells cr 97 (0, 0)) ∧ W.heap[gd]? = some (.cells #[v] 47 (0, 0)) ∧ Kd.R (Kd.int .i64) 3 W w.heap.size (fun _ => True) v xs ∧ Below w.heap.size w W ∧ w.heap.size ≤ gd
theorem DInv.below {w W W1 : World} {gb gr gd : Nat} {cb cr : Array Value} {v : Value} {xs : List Int} (h : DInv w W gb gr gd cb cr v xs) (hb : Below W.heap.size W W1) : DInv w W1 gb gr gd cb cr v xs := by
 obtain ⟨a, b, c, d, e, f⟩ := h
 exact ⟨qam a hb, qam b hb, qam c hb, Kd.R_below d hb, qai e hb, f⟩
theorem DInv.put {w W W1 : World} {gb gr gd : Nat} {cb cr : Array Value} {v v1 : Value} {xs : List Int} {x : Int} (h : DInv w W gb gr gd cb cr v xs) (ho : Kd.R (Kd.int .i64) 3 W1 w.heap.size (fun _ => True) v1 (xs ++ [x])) (hB : Below w.heap.size w W1) (hg : W.grownBy W1 v.ownBlock) : DInv w (W1.setCell ⟨gd, 0, none⟩ v1) gb gr gd cb cr v1 (xs ++ [x]) := by
 obtain ⟨a, b, c, d, e, f⟩ := h
 have a1 := blk_grown a hg (Kd.R_ne d a (by decide))
 have b1 := blk_grown b hg (Kd.R_ne d b (by decide))
 have c1 := blk_grown c hg (Kd.R_ne d c (by decide))
 exact ⟨qbc a1 (p := ⟨gd, 0, none⟩) (blk_ne a c (by decide)) _, qbc b1 (p := ⟨gd, 0, none⟩) (blk_ne b c (by decide)) _, blk_set c1 0 v1, Kd.R_set ho c1 (by decide) 0 v1, qag hB f, f⟩
theorem store_func (W : World) (g : Nat) (f : Fn) (a b : Array Value) (u : Value) (hc : W.cell? ⟨g, 0, none⟩ = some u) (hf : W.frozen? ⟨g, 0, none⟩ = false) : (store ⟨g, 0, none⟩ (.func f a b)).run Try.prog W = .ok () (W.setCell ⟨g, 0, none⟩ (.func f a b)) := by
 rw [run_store _ _ _ _ _ rfl]
 simp [stored, hc, hf]
def pipe_net_order.f (l0_0 : List (S39)) (l0_1 : List (S37)) (l0_2 : List (List Int)) (a0_3 : Int) (a1 : Int) (a2 : Int) : Option (List Int × Int × Bool) := if validB l0_0 l0_1 l0_2 = true ∧ 0 ≤ a0_3 ∧ 0 ≤ a1 ∧ a1 ≤ l0_0.length ∧ 0 ≤ a2 ∧ a2 < 2 ^ l0_0.length then some (bestV l0_0 l0_1 l0_2 (duesV l0_0 l0_1 l0_2 a0_3 l0_0.length) ⟨a1, 0, a2⟩) else none
set_option maxHeartbeats 8000000 in
set_option maxRecDepth 100000 in
theorem pipe_net_order.calls (A0_0 : Option Addr) (c0_0 : Nat) (l0_0 : List (S39)) (A0_1 : Option Addr) (c0_1 : Nat) (l0_1 : List (S37)) (A0_2 : Option Addr) (c0_2 : Nat) (l0_2 : List (List Int)) (a0_3 : Int) (a1 : Int) (a2 : Int) (r1 : List Int) (r2 : Int) (r3 : Bool) (w : World) (hr0_0 : Kd.C k39 w A0_0 l0_0.length l0_0) (hc0_0 : l0_0.length ≤ c0_0) (hr0_1 : Kd.C k37 w A0_1 l0_1.length l0_1) (hc0_1 : l0_1.length ≤ c0_1) (hr0_2 : Kd.C (Kd.slice 3 (Kd.int .i64)) w A0_2 l0_2.length l0_2) (hc0_2 : l0_2.length ≤ c0_2) (h : pipe_net_order.f l0_0 l0_1 l0_2 a0_3 a1 a2 = some (r1, r2, r3)) :
  Calls Try.prog 64 #[.agg #[.slice A0_0 l0_0.length c0_0, .slice A0_1 l0_1.length c0_1, .slice A0_2 l0_2.length c0_2, .int .i64 a0_3], .int .i64 a1, .int .i64 a2] w fun e w' => ∃ v0_ : Value, e = .returned (.agg #[v0_, .int .i64 r2, .bool r3]) ∧ Kd.R (Kd.int .i64) 3 w' w.heap.size (fun _ => True) v0_ r1 ∧ Below w.heap.size w w' := by
 unfold pipe_net_order.f at h
 split at h
 case isFalse => cases h
 rename_i hc
 have h' := Option.some.inj h
 clear h
 have HF := qac.mk h'
 clear h'
 obtain ⟨q0, q1, q2, q3, q4, q5⟩ := hc
 have HV := qac.mk (valid_lens q0)
 clear q0
 have HR0 := qac.mk hr0_0
 have HR1 := qac.mk hr0_1
 have HR2 := qac.mk hr0_2
 clear hr0_0 hr0_1 hr0_2
 have hu99 := Try.underlying99
 have hu97 := Try.underlying97
 have hmm := @run_makeMap Try.prog
 have hmf : ∀ (fn : Fn) (first cap : Array Value) (w : World), (Instr.makeFunc fn first cap).run Try.prog w = .ok (.func fn first cap) w := fun _ _ _ _ => rfl
 have HB := qac.mk (Below.refl w.heap.size w)
 go_enter Try.func64, Try.ntmps64
 go_wp2_with ((first | ((with_reducible refine qax (N := 3) rfl ?_); refine qaw ?hg (N := 3) ?hd (cs := #[.slice A0_0 l0_0.length c0_0, .slice A0_1 l0_1.length c0_1, .slice A0_2 l0_2.length c0_2, .int .i64 a0_3]) (t := 99) ?hr ?_; (case hd => rfl); (case hg => rfl); (case hr => first | (go_simp; done) | (go_simp; rfl)); intro gb hg_gb w2 hbox hb; have BKgb := qac.mk hbox; have n_HB := qac.mk (qai HB.out hb); have GEgb : w.heap.size ≤ gb := (by rw [hg_gb]; exact HB.out.size); clear HB; have HB := n_HB; clear n_HB; clear hbox hb hg_gb) | ((with_reducible refine qax (N := 6) rfl ?_); refine qaw ?hg (N := 6) ?hd (cs := #[.slice none 0 0, .int .i64 0, .bool false]) (t := 97) ?hr ?_; (case hd => rfl); (case hg => rfl); (case hr => first | (go_simp; done) | (go_simp; rfl)); intro gr hg_gr w3 hbox hb; have BKgr := qac.mk hbox; have n_BKgb := qac.mk (qam BKgb.out hb); clear BKgb; have BKgb := n_BKgb; clear n_BKgb; have n_HB := qac.mk (qai HB.out hb); have GEgr : w.heap.size ≤ gr := (by rw [hg_gr]; exact HB.out.size); clear HB; have HB := n_HB; clear n_HB; clear hbox hb hg_gr) | ((with_reducible refine qax (N := 7) rfl ?_); refine qaw ?hg (N := 7) ?hd (cs := #[.slice none 0 0]) (t := 47) ?hr ?_; (case hd => rfl); (case hg => rfl); (case hr => first | (go_simp; done) | (go_simp; rfl)); intro gd hg_gd w4 hbox hb; have BKgd := qac.mk hbox; have n_BKgb := qac.mk (qam BKgb.out hb); clear BKgb; have BKgb := n_BKgb; clear n_BKgb; have n_BKgr := qac.mk (qam BKgr.out hb); clear BKgr; have BKgr := n_BKgr; clear n_BKgr; have n_HB := qac.mk (qai HB.out hb); have GEgd : w.heap.size ≤ gd := (by rw [hg_gd]; exact HB.out.size); clear HB; have HB := n_HB; clear n_HB; clear hbox hb hg_gd; have hfgb := qab BKgb.out; have hcgb_0 : w4.cell? ⟨gb, 0, none⟩ = some (.slice A0_0 l0_0.length c0_0) := (qaa BKgb.out 0).trans rfl; have hcgb_1 : w4.cell? ⟨gb, 1, none⟩ = some (.slice A0_1 l0_1.length c0_1) := (qaa BKgb.out 1).trans rfl; have hcgb_2 : w4.cell? ⟨gb, 2, none⟩ = some (.slice A0_2 l0_2.length c0_2) := (qaa BKgb.out 2).trans rfl; have hcgb_3 : w4.cell? ⟨gb, 3, none⟩ = some (.int .i64 a0_3) := (qaa BKgb.out 3).trans rfl; have hfgr := qab BKgr.out; have hcgr_0 : w4.cell? ⟨gr, 0, none⟩ = some (.slice none 0 0) := (qaa BKgr.out 0).trans rfl; have hcgr_1 : w4.cell? ⟨gr, 1, none⟩ = some (.int .i64 0) := (qaa BKgr.out 1).trans rfl; have hcgr_2 : w4.cell? ⟨gr, 2, none⟩ = some (.bool false) := (qaa BKgr.out 2).trans rfl; have hfgd := qab BKgd.out; have hcgd_0 : w4.cell? ⟨gd, 0, none⟩ = some (.slice none 0 0) := (qaa BKgd.out 0).trans rfl)))
 clear hfgb hcgb_0 hcgb_1 hcgb_2 hcgb_3 hfgr hcgr_0 hcgr_1 hcgr_2 hfgd hcgd_0
 have hdi : qac (DInv w w4 gb gr gd #[.slice A0_0 l0_0.length c0_0, .slice A0_1 l0_1.length c0_1, .slice A0_2 l0_2.length c0_2, .int .i64 a0_3] #[.slice none 0 0, .int .i64 0, .bool false] (.slice none 0 0) []) := ⟨BKgb.out, BKgr.out, BKgd.out, Kd.R_nil _ _ _ _ _, HB.out, GEgd⟩
 clear BKgb BKgr BKgd HB
 go_loopw [8, 15] (fun s8 s15 wr_ => ∃ (k : Nat) (v_ : Value), k ≤ l0_0.length ∧ s15 = .int .i64 k ∧ qac (DInv w wr_ gb gr gd #[.slice A0_0 l0_0.length c0_0, .slice A0_1 l0_1.length c0_1, .slice A0_2 l0_2.length c0_2, .int .i64 a0_3] #[.slice none 0 0, .int .i64 0, .bool false] v_ (duesV l0_0 l0_1 l0_2 a0_3 k))) (fun _ s _ => l0_0.length - (intOf s).toNat)
 case atStart => exact ⟨0, _, by omega, rfl, hdi⟩
 case round =>
  clear hdi
  obtain ⟨wO, rfl⟩ : ∃ wo : World, wo = wr := ⟨_, rfl⟩
  obtain ⟨k, v_, hk, rfl, HI⟩ := hrel
  have HV1 := HV.out
  by_cases hlt : k < l0_0.length
  ·
   have hlt1 : (k : Int) < l0_0.length := by omega
   obtain ⟨vA, vn, vc, rfl⟩ := R_shape HI.out.2.2.2.1
   obtain ⟨dk, hdk⟩ : ∃ dk, dk = (pipe_net_due.f l0_0 l0_1 l0_2 a0_3 (k : Int)).getD 0 := ⟨_, rfl⟩
   have HDK := qac.mk hdk
   clear hdk
   have hdue : ∀ W, Below w.heap.size w W → Calls Try.prog 89 #[.agg #[.slice A0_0 l0_0.length c0_0, .slice A0_1 l0_1.length c0_1, .slice A0_2 l0_2.length c0_2, .int .i64 a0_3], .int .i64 k] W fun e w' => e = .returned (.int .i64 dk) ∧ Below W.heap.size W w' := fun W hW =>
    pipe_net_due.calls _ _ _ _ _ _ _ _ _ a0_3 k dk W (Kd.qal HR0.out hW) hc0_0 (Kd.qal HR1.out hW) hc0_1 (Kd.qal HR2.out hW) hc0_2 (by rw [HDK.out]; exact due_some _ _ _ _ _ (by omega) hlt1 q1 (by omega))
   have HDUE := qac.mk hdue
   clear hdue
   have htup : ∀ W, W.heap[gb]? = some (.cells #[.slice A0_0 l0_0.length c0_0, .slice A0_1 l0_1.length c0_1, .slice A0_2 l0_2.length c0_2, .int .i64 a0_3] 99 (0, 0)) → W.cell? ⟨gd, 0, none⟩ = some (.slice vA vn vc) → Below w.heap.size w W → W.cell? ⟨gb, 0, none⟩ = some (.slice A0_0 l0_0.length c0_0) ∧ W.cell? ⟨gb, 1, none⟩ = some (.slice A0_1 l0_1.length c0_1) ∧ W.cell? ⟨gb, 2, none⟩ = some (.slice A0_2 l0_2.length c0_2) ∧ W.cell? ⟨gb, 3, none⟩ = some (.int .i64 a0_3) ∧ W.cell? ⟨gd, 0, none⟩ = some (.slice vA vn vc) ∧ qac (Below w.heap.size w W) := fun W h hd hb =>
    ⟨qaa h 0, qaa h 1, qaa h 2, qaa h 3, hd, ⟨hb⟩⟩
   have hd0 := HI.out.below (below_drew (Below.refl wO.heap.size wO))
   have hgd0 : wO.drew.cell? ⟨gd, 0, none⟩ = some (.slice vA vn vc) := qaa hd0.2.2.1 0
   have HD0 := qac.mk hd0
   have HT := qac.mk htup
   have hk5 : k ≤ 5 := by omega
   clear htup HV1 hd0
   go_upto_region 5 with fail
   refine start_ (n := 7) (S := fun w' => w'.cell? ⟨gb, 0, none⟩ = some (.slice A0_0 l0_0.length c0_0) ∧ w'.cell? ⟨gb, 1, none⟩ = some (.slice A0_1 l0_1.length c0_1) ∧ w'.cell? ⟨gb, 2, none⟩ = some (.slice A0_2 l0_2.length c0_2) ∧ w'.cell? ⟨gb, 3, none⟩ = some (.int .i64 a0_3) ∧ w'.cell? ⟨gd, 0, none⟩ = some (.slice vA vn vc) ∧ qac (Below w.heap.size w w')) (ds := [6]) (msk 7 0) (by kernel_rfl) rfl rfl (HT.out wO.drew HD0.out.1 hgd0 HD0.out.2.2.2.2.1) (fun hHeld => ?_)
   refine take_ (i := 0) (N := some 18) (v := ?_) (a' := ?_) (msk 7 1) rfl rfl (by kernel_rfl) (fun _ _ _ h => h) (Or.inl ⟨by rfl, ?_⟩) hHeld ?_ ?_; rotate_left; (focus (rintro w' ⟨s0, s1, s2, s3, s4, s5⟩; go_simp; with_reducible rfl)); rotate_left; (focus (simp only [Act.put, List.setIfInBounds_toArray, List.set_cons_zero, List.set_cons_succ, i64_w, i32_w]; rfl))
   refine take_ (i := 1) (N := some 19) (v := ?_) (a' := ?_) (msk 7 2) rfl rfl (by kernel_rfl) (fun _ _ _ h => h) (Or.inl ⟨by rfl, ?_⟩) hHeld ?_ ?_; rotate_left; (focus (rintro w' ⟨s0, s1, s2, s3, s4, s5⟩; go_simp; with_reducible rfl)); rotate_left; (focus (simp only [Act.put, List.setIfInBounds_toArray, List.set_cons_zero, List.set_cons_succ, i64_w, i32_w]; rfl))
   refine pure_ (i := 2) (N := some 20) (v := ?_) (a' := ?_) (msk 7 3) rfl rfl (by kernel_rfl) (fun _ _ _ h => h) (Or.inl ⟨by rfl, ?_⟩) ?_ ?_; rotate_left; (focus (intro w'; go_simp; with_reducible rfl)); rotate_left; (focus (simp only [Act.put, List.setIfInBounds_toArray, List.set_cons_zero, List.set_cons_succ, i64_w, i32_w]; rfl))
   refine one_ (i := 3) (N := some 21) (msk 7 4) rfl rfl (by kernel_rfl) (by decide) (fun K hK => ?_)
   refine goes_ Try.func89 (by kernel_rfl) rfl #[.agg #[.slice A0_0 l0_0.length c0_0, .slice A0_1 l0_1.length c0_1, .slice A0_2 l0_2.length c0_2, .int .i64 a0_3], .int .i64 k] (by rfl) rfl rfl (by first | rfl | (simp only [List.map_toArray, List.map_cons, List.map_nil]; rfl)) ?_
   refine (HDUE.out _ hHeld.2.2.2.2.2.out).mono ?_; rintro e w5 ⟨rfl, hb⟩; have hd5 := DInv.below HD0.out hb; have HD5 := qac.mk hd5; clear hd5 hb; refine ⟨_, rfl, ?_⟩; refine hK.out _ _ (HT.out w5 HD5.out.1 (qaa HD5.out.2.2.1 0) HD5.out.2.2.2.2.1) (fun hHeld => ?_); clear hK K; refine norm_ (a' := ?_) ?_ ?_; rotate_left; (focus (show Act.put _ (some 21) _ = _; simp only [Act.put, List.setIfInBounds_toArray, List.set_cons_zero, List.set_cons_succ, i64_w, i32_w]; rfl))
   refine one_ (i := 4) (N := some 22) (msk 7 5) rfl rfl (by kernel_rfl) (by decide) (fun K hK => ?_)
   refine value_ (w1 := ?_) (v := ?_) (by rfl) rfl ?_ ?_; rotate_left 2; (focus (go_simp; constructor; rfl; rfl))
   have hd6 := HD5.out.below (qae (Below.refl w5.heap.size w5) (.cells #[.int .i64 dk] 3)); have HD6 := qac.mk hd6; clear hd6
   refine hK.out _ _ (HT.out _ HD6.out.1 (qaa HD6.out.2.2.1 0) HD6.out.2.2.2.2.1) (fun hHeld => ?_); clear hK K; refine norm_ (a' := ?_) ?_ ?_; rotate_left; (focus (show Act.put _ (some 22) _ = _; simp only [Act.put, List.setIfInBounds_toArray, List.set_cons_zero, List.set_cons_succ, i64_w, i32_w]; rfl))
   refine one_ (i := 5) (N := some 23) (msk 7 6) rfl rfl (by kernel_rfl) (by decide) (fun K hK => ?_)
   refine Kd.R_append_step (Kd.int .i64) (w0 := w) (W := w5) w.heap.size (by rfl) (.tmp 18) (.tmp 22) 47 3 (.int .i64 0) 8 (by rfl) Try.underlying47 info3 rfl (by decide) (by omega) (.slice vA vn vc) (duesV l0_0 l0_1 l0_2 a0_3 k) dk [.int .i64 dk] (fun _ => True) (fun _ => False) (by rfl) (by rfl) rfl (fun _ h => h.elim) (fun _ _ => trivial) HD5.out.2.2.2.1 HD5.out.2.2.2.2.1 HD5.out.2.2.2.2.1.size (by rw [duesV_length]; omega) ?_; intro v6 w6 ho hB hg hat; obtain ⟨uA, un, uc, rfl⟩ := R_shape ho; have hbg := blk_grown HD5.out.1 hg (Kd.R_ne HD5.out.2.2.2.1 HD5.out.1 (by decide)); have hbd := blk_grown HD5.out.2.2.1 hg (Kd.R_ne HD5.out.2.2.2.1 HD5.out.2.2.1 (by decide)); have hgd7 : w6.cell? ⟨gd, 0, none⟩ = some (.slice vA vn vc) := qaa hbd 0; have hfd7 : w6.frozen? ⟨gd, 0, none⟩ = false := qab hbd 0; have hd7 := HD5.out.put ho hB hg; have HD7 := qac.mk hd7; have HS3 := qac.mk (HT.out w6 hbg hgd7 hB); clear ho hB hg hat hbg hbd hd7
   refine hK.out _ _ HS3.out (fun hHeld => ?_); clear hK K; refine norm_ (a' := ?_) ?_ ?_; rotate_left; (focus (show Act.put _ (some 23) _ = _; simp only [Act.put, List.setIfInBounds_toArray, List.set_cons_zero, List.set_cons_succ, i64_w, i32_w]; rfl))
   refine last_ (i := 6) (N := none) (msk 7 7) rfl rfl (by kernel_rfl) (by decide) (fun K hK => ?_)
   refine skip_ (w1 := ?_) (by rfl) rfl ?_ ?_; rotate_left; (focus (go_simp; rfl))
   refine hK.out _ _ ?_; clear hK K hHeld; refine done_ (by kernel_rfl) ?_
   clear HD0 HD5 HD6 HS3 HT hgd0 hgd7 hfd7
   try go_wp2_with fail
   go_roundw
   case rel => exact ⟨k + 1, _, by omega, by go_num, ⟨by rw [duesV_succ, ← HDK.out]; exact HD7.out⟩⟩
   case measure => simp [intOf]; omega
  ·
   obtain rfl : k = l0_0.length := by omega
   obtain ⟨vA, vn, vc, rfl⟩ := R_shape HI.out.2.2.2.1
   have hstf := fun (W : World) (g : Nat) (f : Fn) (a b : Array Value) (hc : W.cell? ⟨g, 0, none⟩ = some .nilFunc) (hf : W.frozen? ⟨g, 0, none⟩ = false) => store_func W g f a b .nilFunc hc hf
   go_wp2_with fail
   have HE5 : qac (l0_0.length ≤ 5) := ⟨HV1.2.2.1⟩
   have hvn := (Kd.qbb HI.out.2.2.2.1).1
   subst hvn
   obtain ⟨E, hEe⟩ : ∃ E : OE, E = { w0 := w, A0 := A0_0, c0 := c0_0, l0 := l0_0, A1 := A0_1, c1 := c0_1, l1 := l0_1, A2 := A0_2, c2 := c0_2, l2 := l0_2, wp := a0_3, Bn := gb, Bk := wO.heap.size + 1, Bd := gd, Bs := wO.heap.size + 1 + 1, m := wO.heap.size, Ad := vA, cd := vc, D := duesV l0_0 l0_1 l0_2 a0_3 l0_0.length } := ⟨_, rfl⟩
   have hDO := HI.out
   have lO : w.heap.size ≤ wO.heap.size := hDO.2.2.2.2.1.size
   have hE : E.Fit := by
    subst hEe
    exact ⟨HR0.out, HR1.out, HR2.out, HV1.2.2.1, duesV_length _ _ _ _ _, HV1.1, HV1.2.2.2.2.2, GEgb, by show w.heap.size ≤ wO.heap.size + 1; omega, GEgd, by show w.heap.size ≤ wO.heap.size + 1 + 1; omega, lO⟩
   have hAt : E.At ⟨a1, 0, a2⟩ := by
    subst hEe
    have h32 : (2 : Int) ^ l0_0.length ≤ 32 := by
     have h := Nat.pow_le_pow_right (n := 2) (by decide) HV1.2.2.1
     have : ((2 ^ l0_0.length : Nat) : Int) ≤ ((2 ^ 5 : Nat) : Int) := Int.ofNat_le.2 h
     simpa using this
    refine ⟨⟨q4, by show a2 < 32; omega⟩, q2, q3, fun i hi => ?_⟩
    obtain ⟨k, rfl, hk, hb⟩ := (mem_loopsOf a2 5 i).1 hi
    have h1 := bit_le a2 q4 (by omega) k hk hb
    rcases Nat.lt_or_ge k l0_0.length with h2 | h2
    ·
     show (k : Int) < l0_0.length
     omega
    ·
     exfalso
     have h3 := Nat.pow_le_pow_right (n := 2) (by decide) h2
     have h4 : ((2 ^ l0_0.length : Nat) : Int) ≤ ((2 ^ k : Nat) : Int) := Int.ofNat_le.2 h3
     simp at h4
     omega
   obtain ⟨w5, hw5, bm5, bk5, bs5, hsz5, hb5⟩ := allocs3 wO (.map #[] 0) (.cells #[.map (some wO.heap.size)] 120) (.cells #[.func (.func 90) #[] #[.pointer (some ⟨gb, 0, none⟩), .pointer (some ⟨wO.heap.size + 1, 0, none⟩), .pointer (some ⟨gd, 0, none⟩), .pointer (some ⟨wO.heap.size + 1 + 1, 0, none⟩)]] 121)
   rw [hw5]
   clear hw5
   have hD5 := hDO.below hb5
   have lgr := blk_lt hDO.2.1
   have lgb := blk_lt hDO.1
   have lgd := blk_lt hDO.2.2.1
   have henv : EnvInv E (fun k => k = gr) w5 := by
    subst hEe
    refine ⟨blk_ne hD5.1 hD5.2.1 (by decide), by show ¬ wO.heap.size + 1 = gr; omega, blk_ne hD5.2.2.1 hD5.2.1 (by decide), by show ¬ wO.heap.size + 1 + 1 = gr; omega, by show ¬ wO.heap.size = gr; omega, fun k hk => by show w.heap.size ≤ k; omega, hD5.1, bk5, hD5.2.2.1, bs5, hD5.2.2.2.2.1, ?_, ⟨#[], 0, [], bm5, rfl, by simp, fun i k e h _ => by simp at h, fun k hk => hk.elim⟩⟩
    have hr1 := Kd.R_types (Kd.R_mono (Kd.R_bound hDO.2.2.2.1) (ok' := fun k => k < wO.heap.size) (fun k hk => hk.2.2.1)) hDO.2.1 (by decide)
    exact Kd.R_mono (Kd.R_below hr1 hb5) (fun k hk => ⟨by show ¬ k = wO.heap.size; omega, hk.2⟩)
   have hcall := search_all E hE 5 ⟨a1, 0, a2⟩ hAt (cnt_le _) (fun k => k = gr) w5 henv (fun k hk => by omega)
   have hS : E.S ⟨a1, 0, a2⟩ = (r1, r2, r3) := by subst hEe; exact HF.out
   rw [hS] at hcall
   subst hEe
   refine hcall.mono ?_
   rintro e w7 ⟨v, rfl, hrow, henv7, hkb⟩
   obtain ⟨uA, un, uc, rfl⟩ := R_shape hrow
   have xr7 := hkb.blk hD5.2.1 (by show ¬ gr = wO.heap.size; omega)
   have hb7 : Below w.heap.size w w7 := henv7.hb
   have ROW := qac.mk hrow
   have XR := qac.mk xr7
   have HB7 := qac.mk hb7
   have z7 : ∀ i, w7.frozen? ⟨gr, i, none⟩ = false := qab xr7
   have c70 : w7.cell? ⟨gr, 0, none⟩ = some (.slice none 0 0) := qaa xr7 0
   have c71 : w7.cell? ⟨gr, 1, none⟩ = some (.int .i64 0) := qaa xr7 1
   have c72 : w7.cell? ⟨gr, 2, none⟩ = some (.bool false) := qaa xr7 2
   clear hcall hrow henv7 hkb xr7 hb7 henv hE hAt hS hstf hDO hD5 HV1 bm5 bk5 bs5 hb5
   go_wp2_with fail
   refine bodyPost_ret (results_cell_row rfl _ _ gr 97 _ (0, 0) _ rfl (blk_set (blk_set (blk_set XR.out 0 _) 1 _) 2 _) hu97 rfl (by kernel_rfl)) rfl ?_
   refine ⟨.slice uA un uc, rfl, ?_, qag (qag (qag HB7.out GEgr) GEgr) GEgr⟩
   exact Kd.R_mono (Kd.R_set (Kd.R_set (Kd.R_set ROW.out XR.out (by decide) 0 _) (blk_set XR.out 0 _) (by decide) 1 _) (blk_set (blk_set XR.out 0 _) 1 _) (by decide) 2 _) (fun _ _ => trivial)
end Go.Proofs.Ytipphcjgdebecaa.PA
