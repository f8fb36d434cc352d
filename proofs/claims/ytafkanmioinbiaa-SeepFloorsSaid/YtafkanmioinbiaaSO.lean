/- What functions of the program answer. No condition. -/
import Derived.Test.YtafkanmioinbiaaSC
import Derived.Test.YtafkanmioinbiaaSD
import Derived.Test.YtafkanmioinbiaaSF
import Derived.Test.YtafkanmioinbiaaSM
import Derived.Test.YtafkanmioinbiaaSN
import Derived.Test.YtafkanmioinbiaaSE
import Derived.Test.YtafkanmioinbiaaSG
set_option linter.all false
set_option maxRecDepth 100000
set_option maxHeartbeats 8000000
namespace Go.Proofs.Ytafkanmioinbiaa.SA
open Go.RowKit Go.Proofs.YtafkanmioinbiaaW.PrintWords Go.Proofs.YtafkanmioinbiaaW.PrintLast Go.Proofs.YtafkanmioinbiaaW.PrintMore
attribute [local go_sem] qax qaz max_two min_two qao qap qay qba
attribute [local go_sem] Oper.semAt_some
theorem pourTo_nil (Y : Int) (thaws vols rooms : List Int) : ∀ k, pourTo [] Y thaws vols rooms k = ⟨[], [], 0⟩
 | 0 => rfl
 | k + 1 => by
  show yearTo [] Y vols rooms (rd thaws k) k (pourTo [] Y thaws vols rooms k) 0 = _
  rw [pourTo_nil Y thaws vols rooms k]
  rfl
theorem pour0_calls (a0_0 : Int) (A0_1 : Option Addr) (c0_1 : Nat) (l0_1 : List S44) (A0_2 : Option Addr) (c0_2 : Nat) (l0_2 : List Int) (A0_3 : Option Addr) (c0_3 : Nat) (l0_3 : List Int) (A0_4 : Option Addr) (c0_4 : Nat) (l0_4 : List S41) (A0_5 : Option Addr) (c0_5 : Nat) (A1_0 : Option Addr) (c1_0 : Nat) (l1_0 : List Int) (A1_1 : Option Addr) (c1_1 : Nat) (l1_1 : List Int) (A1_2 : Option Addr) (c1_2 : Nat) (l1_2 : List Int) (w : World) (hr1_0 : Kd.C (Kd.int .i64) w A1_0 l1_0.length l1_0) (hr1_1 : Kd.C (Kd.int .i64) w A1_1 l1_1.length l1_1) (hc1_1 : l1_1.length ≤ c1_1)
  (hv : l1_1.length = 0) (ht : l1_0.length ≤ 10) :
  Calls Try.prog 86 #[.agg #[.int .i64 a0_0, .slice A0_1 l0_1.length c0_1, .slice A0_2 l0_2.length c0_2, .slice A0_3 l0_3.length c0_3, .slice A0_4 l0_4.length c0_4, .slice A0_5 0 c0_5], .agg #[.slice A1_0 l1_0.length c1_0, .slice A1_1 l1_1.length c1_1, .slice A1_2 l1_2.length c1_2]] w fun e w' => ∃ v, e = .returned (.tuple #[v, .agg #[.int .i64 l1_1.sum, .int .i64 0, .int .i64 0]]) ∧ Kd.R (Kd.int .i64) 3 w' w.heap.size (fun _ => True) v [] ∧ Below w.heap.size w w' := by
 have hu27 := Try.underlying27
 have hu95 := Try.underlying95
 have hu70 := Try.underlying70
 have hu67 := Try.underlying67
 have hmf : ∀ (fn : Fn) (first cap : Array Value) (w : World), (Instr.makeFunc fn first cap).run Try.prog w = .ok (.func fn first cap) w := fun _ _ _ _ => rfl
 have HB := qab.mk (Below.refl w.heap.size w)
 have HT0 := qab.mk hr1_0
 have HSU : qab (∀ W, Below w.heap.size w W → Calls Try.prog 81 #[.slice A1_1 l1_1.length c1_1] W fun e w' => e = .returned (.int .i64 l1_1.sum) ∧ Below W.heap.size W w') := ⟨fun W hW => sumAll_calls A1_1 c1_1 l1_1 W (Kd.qai hr1_1 hW) hc1_1 (fun k hk => by omega) (by omega)⟩
 obtain ⟨all, hall⟩ : ∃ a, a = l1_1.sum := ⟨_, rfl⟩
 rw [← hall] at HSU ⊢
 clear hr1_0 hr1_1 hv hall
 go_enter Try.func86, Try.ntmps86
 go_upto_region 1 with (first | ((with_reducible refine qam (N := 2) rfl ?_); refine ze 2 #[.int .i64 a0_0, .slice A0_1 l0_1.length c0_1, .slice A0_2 l0_2.length c0_2, .slice A0_3 l0_3.length c0_3, .slice A0_4 l0_4.length c0_4, .slice A0_5 0 c0_5] 27 ?_; intro gb hg_gb w2 hbox hb; have BKgb := qab.mk hbox; have n_HB := qab.mk (qae HB.out hb); have GEgb : w.heap.size ≤ gb := (by rw [hg_gb]; exact HB.out.size); clear HB; have HB := n_HB; clear n_HB; clear hbox hb hg_gb) | ((with_reducible refine qam (N := 3) rfl ?_); refine ze 3 #[.slice A1_0 l1_0.length c1_0, .slice A1_1 l1_1.length c1_1, .slice A1_2 l1_2.length c1_2] 67 ?_; intro gt hg_gt w3 hbox hb; have BKgt := qab.mk hbox; replace BKgb := qab.mk (qad BKgb.out hb); have n_HB := qab.mk (qae HB.out hb); have GEgt : w.heap.size ≤ gt := (by rw [hg_gt]; exact HB.out.size); clear HB; have HB := n_HB; clear n_HB; clear hbox hb hg_gt) | ((with_reducible refine qam (N := 5) rfl ?_); refine ze 5 #[.int .i64 0, .int .i64 0, .int .i64 0] 70 ?_; intro g5 hg_g5 w4 hbox hb; have BKg5 := qab.mk hbox; replace BKgb := qab.mk (qad BKgb.out hb); replace BKgt := qab.mk (qad BKgt.out hb); have n_HB := qab.mk (qae HB.out hb); have GEg5 : w.heap.size ≤ g5 := (by rw [hg_g5]; exact HB.out.size); clear HB; have HB := n_HB; clear n_HB; clear hbox hb hg_g5; obtain ⟨hfgb, hcgb_0, hcgb_1, hcgb_2, hcgb_3, hcgb_4, hcgb_5⟩ := qz6 BKgb.out; obtain ⟨hfgt, hcgt_0, hcgt_1, hcgt_2⟩ := qz3 BKgt.out; obtain ⟨hfg5, hcg5_0, hcg5_1, hcg5_2⟩ := qz3 BKg5.out))
 go_upto_region 2 with (first | ((with_reducible refine qam (N := 20) rfl ?_); refine Kd.R_make (Kd.int .i64) (w0 := w) w.heap.size 3 rfl (N := 20) rfl 23 _ _ rfl (0 : Int) rfl rfl Try.underlying23 (.int .i64 0) 8 info3 rfl (by decide) (by omega) (0 : Int) (ok := fun _ => True) (okp := fun _ => True) rfl (fun _ hk => hk) trivial (by omega) (by (try simp only [Int.toNat_natCast]); omega) HB.out HB.out.size ?_; intro v1 w5 ho hB hg_ hnew; (try clear hfgb hcgb_0 hcgb_1 hcgb_2 hcgb_3 hcgb_4 hcgb_5); (try clear hfgt hcgt_0 hcgt_1 hcgt_2); (try clear hfg5 hcg5_0 hcg5_1 hcg5_2); have ho2 : Kd.R (Kd.int .i64) 3 w5 w.heap.size (fun _ => True) v1 [] := ho; obtain ⟨Ay, cy, e⟩ := Kd.R_slice ho2; have e2 : v1 = .slice Ay 0 cy := e; clear e; subst e2; have hb : Below _ _ w5 := ⟨hg_.os, hg_.tape, hg_.output, hg_.size, fun k hk => hg_.block k hk (fun e => by cases e)⟩; have HY := qab.mk ho2; clear ho ho2 hnew; replace BKgb := qab.mk (qad BKgb.out hb); replace BKgt := qab.mk (qad BKgt.out hb); replace BKg5 := qab.mk (qad BKg5.out hb); replace HB := qab.mk hB; clear hB hb hg_; obtain ⟨hfgb, hcgb_0, hcgb_1, hcgb_2, hcgb_3, hcgb_4, hcgb_5⟩ := qz6 BKgb.out; obtain ⟨hfgt, hcgt_0, hcgt_1, hcgt_2⟩ := qz3 BKgt.out) | ((with_reducible refine qam (N := 6) rfl ?_); refine ze 6 #[.slice none 0 0] 23 ?_; intro g6 hg_g6 w6 hbox hb; have BKg6 := qab.mk hbox; have ne_gb_g6 : gb ≠ g6 := (by rw [hg_g6]; exact Nat.ne_of_lt (blk_lt BKgb.out)); have ne_gt_g6 : gt ≠ g6 := (by rw [hg_g6]; exact Nat.ne_of_lt (blk_lt BKgt.out)); have ne_g5_g6 : g5 ≠ g6 := (by rw [hg_g6]; exact Nat.ne_of_lt (blk_lt BKg5.out)); replace BKgb := qab.mk (qad BKgb.out hb); replace BKgt := qab.mk (qad BKgt.out hb); replace BKg5 := qab.mk (qad BKg5.out hb); have n_HB := qab.mk (qae HB.out hb); have GEg6 : w.heap.size ≤ g6 := (by rw [hg_g6]; exact HB.out.size); clear HB; have HB := n_HB; clear n_HB; obtain ⟨hfg6, hcg6_0⟩ := qz1 BKg6.out; replace HY := qab.mk (Kd.qal HY.out hb); clear hbox hb hg_g6))
 (try clear hfgb hcgb_0 hcgb_1 hcgb_2 hcgb_3 hcgb_4 hcgb_5); (try clear hfgt hcgt_0 hcgt_1 hcgt_2); (try clear hfg5 hcg5_0 hcg5_1 hcg5_2)
 clear hfg6 hcg6_0
 have he_ : setAll w6 g6 [.slice Ay 0 cy] 0 = (w6.setCell ⟨g6, 0, none⟩ (.slice Ay 0 cy)) := rfl; have hbl := setAll_below GEg6 [.slice Ay 0 cy] 0 _ HB.out; have hbx : (setAll w6 g6 [.slice Ay 0 cy] 0).heap[g6]? = some (.cells #[.slice Ay 0 cy] 23 (0, 0)) := setAll_new [.slice Ay 0 cy] [.slice none 0 0] BKg6.out rfl; have hx_BKgb := setAll_far ne_gb_g6 [.slice Ay 0 cy] 0 _ BKgb.out; have hx_BKgt := setAll_far ne_gt_g6 [.slice Ay 0 cy] 0 _ BKgt.out; have hx_BKg5 := setAll_far ne_g5_g6 [.slice Ay 0 cy] 0 _ BKg5.out; have hy_HY := setAll_R (g := g6) (by decide) [.slice Ay 0 cy] 0 w6 _ BKg6.out HY.out; rw [he_] at hy_HY hbl hbx hx_BKgb hx_BKgt hx_BKg5; clear he_; generalize (w6.setCell ⟨g6, 0, none⟩ (.slice Ay 0 cy)) = w7 at hy_HY hbl hbx hx_BKgb hx_BKgt hx_BKg5 ⊢; clear HB BKg6; have HB := qab.mk hbl; have BKg6 := qab.mk hbx; clear hbl hbx; clear BKgb; have BKgb := qab.mk hx_BKgb; clear hx_BKgb; clear BKgt; have BKgt := qab.mk hx_BKgt; clear hx_BKgt; clear BKg5; have BKg5 := qab.mk hx_BKg5; clear hx_BKg5; clear HY; have HY := qab.mk hy_HY; clear hy_HY
 have q6 : w7.cell? ⟨g6, 0, none⟩ = some (.slice Ay 0 cy) := (qaa BKg6.out 0).trans rfl
 go_wp2
 clear q6
 go_loopw [23] (fun s23 wr => s23 = .int .i64 0 ∧ wr = w7) (fun _ _ => 0)
 case atStart => exact ⟨rfl, rfl⟩
 case round =>
  obtain ⟨rfl, rfl⟩ := hrel
  have qb5 : wr.cell? ⟨gb, 5, none⟩ = some (.slice A0_5 0 c0_5) := (qaa BKgb.out 5).trans rfl
  go_upto_region 8 with (first | ((with_reducible refine qam (N := 36) rfl ?_); refine Kd.R_make (Kd.int .i64) (w0 := w) w.heap.size 3 rfl (N := 36) rfl 23 _ _ rfl (0 : Int) rfl rfl Try.underlying23 (.int .i64 0) 8 info3 rfl (by decide) (by omega) (0 : Int) (ok := fun _ => True) (okp := fun _ => True) rfl (fun _ hk => hk) trivial (by omega) (by (try simp only [Int.toNat_natCast]); omega) HB.out HB.out.size ?_; intro v2 w9 ho hB hg_ hnew; (try clear hfgb hcgb_0 hcgb_1 hcgb_2 hcgb_3 hcgb_4 hcgb_5); (try clear hfgt hcgt_0 hcgt_1 hcgt_2); (try clear hfg5 hcg5_0 hcg5_1 hcg5_2); have ho2 : Kd.R (Kd.int .i64) 3 w9 w.heap.size (fun _ => True) v2 [] := ho; obtain ⟨Ac, cc, e⟩ := Kd.R_slice ho2; have e2 : v2 = .slice Ac 0 cc := e; clear e; subst e2; have hb : Below _ _ w9 := ⟨hg_.os, hg_.tape, hg_.output, hg_.size, fun k hk => hg_.block k hk (fun e => by cases e)⟩; have HC := qab.mk ho2; clear ho ho2 hnew; replace BKgb := qab.mk (qad BKgb.out hb); replace BKgt := qab.mk (qad BKgt.out hb); replace BKg5 := qab.mk (qad BKg5.out hb); replace BKg6 := qab.mk (qad BKg6.out hb); replace HY := qab.mk (Kd.qal HY.out hb); replace HB := qab.mk hB; clear hB hb hg_; obtain ⟨hfgb, hcgb_0, hcgb_1, hcgb_2, hcgb_3, hcgb_4, hcgb_5⟩ := qz6 BKgb.out; obtain ⟨hfgt, hcgt_0, hcgt_1, hcgt_2⟩ := qz3 BKgt.out) | ((with_reducible refine qam (N := 8) rfl ?_); refine ze 8 #[.slice none 0 0] 23 ?_; intro g8 hg_g8 w10 hbox hb; have BKg8 := qab.mk hbox; have ne_gb_g8 : gb ≠ g8 := (by rw [hg_g8]; exact Nat.ne_of_lt (blk_lt BKgb.out)); have ne_gt_g8 : gt ≠ g8 := (by rw [hg_g8]; exact Nat.ne_of_lt (blk_lt BKgt.out)); have ne_g5_g8 : g5 ≠ g8 := (by rw [hg_g8]; exact Nat.ne_of_lt (blk_lt BKg5.out)); have ne_g6_g8 : g6 ≠ g8 := (by rw [hg_g8]; exact Nat.ne_of_lt (blk_lt BKg6.out)); replace BKgb := qab.mk (qad BKgb.out hb); replace BKgt := qab.mk (qad BKgt.out hb); replace BKg5 := qab.mk (qad BKg5.out hb); replace BKg6 := qab.mk (qad BKg6.out hb); have n_HB := qab.mk (qae HB.out hb); have GEg8 : w.heap.size ≤ g8 := (by rw [hg_g8]; exact HB.out.size); clear HB; have HB := n_HB; clear n_HB; obtain ⟨hfg8, hcg8_0⟩ := qz1 BKg8.out; replace HY := qab.mk (Kd.qal HY.out hb); clear hbox hb hg_g8))
  clear hfg8 hcg8_0 qb5 HC
  (try clear hfgb hcgb_0 hcgb_1 hcgb_2 hcgb_3 hcgb_4 hcgb_5); (try clear hfgt hcgt_0 hcgt_1 hcgt_2); (try clear hfg5 hcg5_0 hcg5_1 hcg5_2)
  have he_ : setAll w10 g8 [.slice Ac 0 cc] 0 = (w10.setCell ⟨g8, 0, none⟩ (.slice Ac 0 cc)) := rfl; have hbl := setAll_below GEg8 [.slice Ac 0 cc] 0 _ HB.out; have hbx : (setAll w10 g8 [.slice Ac 0 cc] 0).heap[g8]? = some (.cells #[.slice Ac 0 cc] 23 (0, 0)) := setAll_new [.slice Ac 0 cc] [.slice none 0 0] BKg8.out rfl; have hx_BKgb := setAll_far ne_gb_g8 [.slice Ac 0 cc] 0 _ BKgb.out; have hx_BKgt := setAll_far ne_gt_g8 [.slice Ac 0 cc] 0 _ BKgt.out; have hx_BKg5 := setAll_far ne_g5_g8 [.slice Ac 0 cc] 0 _ BKg5.out; have hx_BKg6 := setAll_far ne_g6_g8 [.slice Ac 0 cc] 0 _ BKg6.out; have hy_HY := setAll_R (g := g8) (by decide) [.slice Ac 0 cc] 0 w10 _ BKg8.out HY.out; rw [he_] at hy_HY hbl hbx hx_BKgb hx_BKgt hx_BKg5 hx_BKg6; clear he_; generalize (w10.setCell ⟨g8, 0, none⟩ (.slice Ac 0 cc)) = w11 at hy_HY hbl hbx hx_BKgb hx_BKgt hx_BKg5 hx_BKg6 ⊢; clear HB BKg8; have HB := qab.mk hbl; have BKg8 := qab.mk hbx; clear hbl hbx; clear BKgb; have BKgb := qab.mk hx_BKgb; clear hx_BKgb; clear BKgt; have BKgt := qab.mk hx_BKgt; clear hx_BKgt; clear BKg5; have BKg5 := qab.mk hx_BKg5; clear hx_BKg5; clear BKg6; have BKg6 := qab.mk hx_BKg6; clear hx_BKg6; clear HY; have HY := qab.mk hy_HY; clear hy_HY
  have qt1 : w11.cell? ⟨gt, 1, none⟩ = some (.slice A1_1 l1_1.length c1_1) := (qaa BKgt.out 1).trans rfl
  go_upto_region 9 with (first | (go_at_call 81; (with_reducible refine (HSU.out _ HB.out).mono ?_); rintro e w12 ⟨rfl, hb⟩; replace HY := qab.mk (Kd.qal HY.out hb); replace BKgb := qab.mk (qad BKgb.out hb); replace BKgt := qab.mk (qad BKgt.out hb); replace BKg5 := qab.mk (qad BKg5.out hb); replace BKg6 := qab.mk (qad BKg6.out hb); replace BKg8 := qab.mk (qad BKg8.out hb); replace HB := qab.mk (qae HB.out hb); clear hb) | ((with_reducible refine qam (N := 9) rfl ?_); refine ze 9 #[.int .i64 0, .int .i64 0, .int .i64 0] 70 ?_; intro g9 hg_g9 w13 hbox hb; have BKg9 := qab.mk hbox; have ne_gb_g9 : gb ≠ g9 := (by rw [hg_g9]; exact Nat.ne_of_lt (blk_lt BKgb.out)); have ne_gt_g9 : gt ≠ g9 := (by rw [hg_g9]; exact Nat.ne_of_lt (blk_lt BKgt.out)); have ne_g5_g9 : g5 ≠ g9 := (by rw [hg_g9]; exact Nat.ne_of_lt (blk_lt BKg5.out)); have ne_g6_g9 : g6 ≠ g9 := (by rw [hg_g9]; exact Nat.ne_of_lt (blk_lt BKg6.out)); have ne_g8_g9 : g8 ≠ g9 := (by rw [hg_g9]; exact Nat.ne_of_lt (blk_lt BKg8.out)); replace BKgb := qab.mk (qad BKgb.out hb); replace BKgt := qab.mk (qad BKgt.out hb); replace BKg5 := qab.mk (qad BKg5.out hb); replace BKg6 := qab.mk (qad BKg6.out hb); replace BKg8 := qab.mk (qad BKg8.out hb); have n_HB := qab.mk (qae HB.out hb); have GEg9 : w.heap.size ≤ g9 := (by rw [hg_g9]; exact HB.out.size); clear HB; have HB := n_HB; clear n_HB; obtain ⟨hfg9, hcg9_0, hcg9_1, hcg9_2⟩ := qz3 BKg9.out; replace HY := qab.mk (Kd.qal HY.out hb); clear hbox hb hg_g9))
  clear hfg9 hcg9_0 hcg9_1 hcg9_2 qt1
  have he_ : setAll w13 g9 [.int .i64 all, .int .i64 0, .int .i64 0] 0 = (((w13.setCell ⟨g9, 0, none⟩ (.int .i64 all)).setCell ⟨g9, 1, none⟩ (.int .i64 0)).setCell ⟨g9, 2, none⟩ (.int .i64 0)) := rfl; have hbl := setAll_below GEg9 [.int .i64 all, .int .i64 0, .int .i64 0] 0 _ HB.out; have hbx : (setAll w13 g9 [.int .i64 all, .int .i64 0, .int .i64 0] 0).heap[g9]? = some (.cells #[.int .i64 all, .int .i64 0, .int .i64 0] 70 (0, 0)) := setAll_new [.int .i64 all, .int .i64 0, .int .i64 0] [.int .i64 0, .int .i64 0, .int .i64 0] BKg9.out rfl; have hx_BKgb := setAll_far ne_gb_g9 [.int .i64 all, .int .i64 0, .int .i64 0] 0 _ BKgb.out; have hx_BKgt := setAll_far ne_gt_g9 [.int .i64 all, .int .i64 0, .int .i64 0] 0 _ BKgt.out; have hx_BKg5 := setAll_far ne_g5_g9 [.int .i64 all, .int .i64 0, .int .i64 0] 0 _ BKg5.out; have hx_BKg6 := setAll_far ne_g6_g9 [.int .i64 all, .int .i64 0, .int .i64 0] 0 _ BKg6.out; have hx_BKg8 := setAll_far ne_g8_g9 [.int .i64 all, .int .i64 0, .int .i64 0] 0 _ BKg8.out; have hy_HY := setAll_R (g := g9) (by decide) [.int .i64 all, .int .i64 0, .int .i64 0] 0 w13 _ BKg9.out HY.out; rw [he_] at hy_HY hbl hbx hx_BKgb hx_BKgt hx_BKg5 hx_BKg6 hx_BKg8; clear he_; generalize (((w13.setCell ⟨g9, 0, none⟩ (.int .i64 all)).setCell ⟨g9, 1, none⟩ (.int .i64 0)).setCell ⟨g9, 2, none⟩ (.int .i64 0)) = w14 at hy_HY hbl hbx hx_BKgb hx_BKgt hx_BKg5 hx_BKg6 hx_BKg8 ⊢; clear HB BKg9; have HB := qab.mk hbl; have BKg9 := qab.mk hbx; clear hbl hbx; clear BKgb; have BKgb := qab.mk hx_BKgb; clear hx_BKgb; clear BKgt; have BKgt := qab.mk hx_BKgt; clear hx_BKgt; clear BKg5; have BKg5 := qab.mk hx_BKg5; clear hx_BKg5; clear BKg6; have BKg6 := qab.mk hx_BKg6; clear hx_BKg6; clear BKg8; have BKg8 := qab.mk hx_BKg8; clear hx_BKg8; clear HY; have HY := qab.mk hy_HY; clear hy_HY
  have qt0 : w14.cell? ⟨gt, 0, none⟩ = some (.slice A1_0 l1_0.length c1_0) := (qaa BKgt.out 0).trans rfl
  go_wp2
  clear qt0
  go_loopw [45] (fun s45 wr => ∃ y : Nat, y ≤ l1_0.length ∧ s45 = .int .i64 y ∧ qab (wr.heap[gb]? = some (.cells #[.int .i64 a0_0, .slice A0_1 l0_1.length c0_1, .slice A0_2 l0_2.length c0_2, .slice A0_3 l0_3.length c0_3, .slice A0_4 l0_4.length c0_4, .slice A0_5 0 c0_5] 27 (0, 0))) ∧ qab (wr.heap[g5]? = some (.cells #[.int .i64 0, .int .i64 0, .int .i64 0] 70 (0, 0))) ∧ qab (wr.heap[g6]? = some (.cells #[.slice Ay 0 cy] 23 (0, 0))) ∧ qab (wr.heap[g9]? = some (.cells #[.int .i64 all, .int .i64 0, .int .i64 0] 70 (0, 0))) ∧ qab (Kd.R (Kd.int .i64) 3 wr w.heap.size (fun _ => True) (.slice Ay 0 cy) []) ∧ qab (Below w.heap.size w wr)) (fun s _ => l1_0.length - (intOf s).toNat)
  case atStart => exact ⟨0, by omega, rfl, BKgb, BKg5, BKg6, BKg9, HY, HB⟩
  case round =>
   clear BKgb BKg5 BKg6 BKg9 HY HB BKg8 BKgt
   obtain ⟨y, hy, rfl, BKgb, BKg5, BKg6, BKg9, HY, HB⟩ := hrel
   by_cases hly : y < l1_0.length
   ·
    obtain ⟨a0, e, q⟩ := Kd.at_int HT0.out y (by omega) (by omega)
    cases e
    replace q := (HB.out.cell (World.block_lt_of_cell? w _ q)).trans q
    simp only [Int.toNat_natCast] at q
    have qb5 : wr.cell? ⟨gb, 5, none⟩ = some (.slice A0_5 0 c0_5) := (qaa BKgb.out 5).trans rfl
    generalize rd l1_0 y = th at q
    go_wp2
    clear q qb5
    obtain ⟨w20, hw20⟩ : ∃ z, z = wr := ⟨_, rfl⟩
    rw [← hw20] at BKgb BKg5 BKg6 BKg9 HY HB
    go_loopw [53] (fun s53 wr => s53 = .int .i64 0 ∧ wr = w20) (fun _ _ => 0)
    case atStart => exact ⟨rfl, hw20.symm⟩
    case round =>
     obtain ⟨rfl, rfl⟩ := hrel
     clear hw20
     go_wp2
     go_roundw
     case rel => exact ⟨y + 1, by omega, by go_num, BKgb, BKg5, BKg6, BKg9, HY, HB⟩
     case measure => simp [intOf]; omega
   ·
    have q6 : wr.cell? ⟨g6, 0, none⟩ = some (.slice Ay 0 cy) := (qaa BKg6.out 0).trans rfl
    go_wp2
    clear q6
    obtain ⟨w20, hw20⟩ : ∃ z, z = wr := ⟨_, rfl⟩
    rw [← hw20] at BKgb BKg5 BKg6 BKg9 HY HB
    go_loopw [108] (fun s108 wr => s108 = .int .i64 0 ∧ wr = w20) (fun _ _ => 0)
    case atStart => exact ⟨rfl, hw20.symm⟩
    case round =>
     obtain ⟨rfl, rfl⟩ := hrel
     clear hw20
     have z0 : wr.cell? ⟨g6, 0, none⟩ = some (.slice Ay 0 cy) := (qaa BKg6.out 0).trans rfl
     obtain ⟨hfg9, hcg9_0, hcg9_1, hcg9_2⟩ := qz3 BKg9.out
     obtain ⟨hfg5, hcg5_0, hcg5_1, hcg5_2⟩ := qz3 BKg5.out
     go_wp2
     go_region
     go_wp2
     have B5 := qaw (blk_set (blk_set (blk_set BKg5.out 0 (.int .i64 all)) 1 (.int .i64 0)) 2 (.int .i64 0))
     have BB := qaq (qaj (j := 2) (v := .int .i64 0) (qaj (j := 1) (v := .int .i64 0) (qaj (j := 0) (v := .int .i64 all) HB.out GEg5) GEg5) GEg5)
     refine bodyPost_ret (results_tc rfl _ _ g5 70 #[.int .i64 all, .int .i64 0, .int .i64 0] (0, 0) _ rfl B5 hu70 rfl (by kernel_rfl)) rfl ?_
     exact ⟨_, rfl, Kd.R_drew (Kd.R_set (Kd.R_set (Kd.R_set HY.out BKg5.out (by decide) 0 (.int .i64 all)) (blk_set BKg5.out 0 (.int .i64 all)) (by decide) 1 (.int .i64 0)) (blk_set (blk_set BKg5.out 0 (.int .i64 all)) 1 (.int .i64 0)) (by decide) 2 (.int .i64 0)), BB⟩
def thawAt (l4 : List S41) (ths : List Int) (i : Nat) : Bool := inB (rd ths i) (rd_T41 l4 i).f0 (rd_T41 l4 i).f1
def lakeAt (l5 : List S95) (vols rooms : List Int) (i : Nat) : Bool := inB (rd vols i) (rd_T95 l5 i).f2.f0 (rd_T95 l5 i).f2.f1 && inB (rd rooms i) (rd_T95 l5 i).f3.f0 (rd_T95 l5 i).f3.f1
def truthB (l4 : List S41) (l5 : List S95) (ths vols rooms : List Int) : Bool :=
 decide (ths.length = l4.length) && (decide (vols.length = l5.length) && (decide (rooms.length = l5.length) && ((List.range l4.length).all (thawAt l4 ths) && (List.range l5.length).all (lakeAt l5 vols rooms))))
theorem truth_calls (a0_0 : Int) (A0_1 : Option Addr) (c0_1 : Nat) (l0_1 : List S44) (A0_2 : Option Addr) (c0_2 : Nat) (l0_2 : List Int) (A0_3 : Option Addr) (c0_3 : Nat) (l0_3 : List Int) (A0_4 : Option Addr) (c0_4 : Nat) (l0_4 : List S41) (A0_5 : Option Addr) (c0_5 : Nat) (l0_5 : List S95) (A1_0 : Option Addr) (c1_0 : Nat) (l1_0 : List Int) (A1_1 : Option Addr) (c1_1 : Nat) (l1_1 : List Int) (A1_2 : Option Addr) (c1_2 : Nat) (l1_2 : List Int) (w : World) (hr0_1 : Kd.C k44 w A0_1 l0_1.length l0_1) (hc0_1 : l0_1.length ≤ c0_1) (hr0_2 : Kd.C (Kd.int .i64) w A0_2 l0_2.length l0_2) (hc0_2 : l0_2.length ≤ c0_2) (hr0_3 : Kd.C (Kd.int .i64) w A0_3 l0_3.length l0_3) (hc0_3 : l0_3.length ≤ c0_3) (hr0_4 : Kd.C k41 w A0_4 l0_4.length l0_4) (hc0_4 : l0_4.length ≤ c0_4) (hr0_5 : Kd.C k95 w A0_5 l0_5.length l0_5) (hc0_5 : l0_5.length ≤ c0_5) (hr1_0 : Kd.C (Kd.int .i64) w A1_0 l1_0.length l1_0) (hr1_1 : Kd.C (Kd.int .i64) w A1_1 l1_1.length l1_1) (hr1_2 : Kd.C (Kd.int .i64) w A1_2 l1_2.length l1_2) (hn4 : l0_4.length ≤ 100) (hn5 : l0_5.length ≤ 100) :
  Calls Try.prog 85 #[.agg #[.int .i64 a0_0, .slice A0_1 l0_1.length c0_1, .slice A0_2 l0_2.length c0_2, .slice A0_3 l0_3.length c0_3, .slice A0_4 l0_4.length c0_4, .slice A0_5 l0_5.length c0_5], .agg #[.slice A1_0 l1_0.length c1_0, .slice A1_1 l1_1.length c1_1, .slice A1_2 l1_2.length c1_2]] w fun e w' => e = .returned (.bool (truthB l0_4 l0_5 l1_0 l1_1 l1_2)) ∧ Below w.heap.size w w' := by
 have hu27 := Try.underlying27
 have hu95 := Try.underlying95
 have hu41 := Try.underlying41
 have hu67 := Try.underlying67
 have HB := qab.mk (Below.refl w.heap.size w)
 have HR4 := qab.mk hr0_4
 have HR5 := qab.mk hr0_5
 have HT0 := qab.mk hr1_0
 have HT1 := qab.mk hr1_1
 have HT2 := qab.mk hr1_2
 clear hr0_1 hr0_2 hr0_3 hr0_4 hr0_5 hr1_0 hr1_1 hr1_2
 by_cases h0 : l1_0.length = l0_4.length
 ·
  by_cases h1 : l1_1.length = l0_5.length
  ·
   by_cases h2 : l1_2.length = l0_5.length
   ·
    have hb0 : ((l1_0.length : Int) != (l0_4.length : Int)) = false := by simp; omega
    have hb1 : ((l1_1.length : Int) != (l0_5.length : Int)) = false := by simp; omega
    have hb2 : ((l1_2.length : Int) != (l0_5.length : Int)) = false := by simp; omega
    have HTB : qab (truthB l0_4 l0_5 l1_0 l1_1 l1_2 = ((List.range l0_4.length).all (thawAt l0_4 l1_0) && (List.range l0_5.length).all (lakeAt l0_5 l1_1 l1_2))) := ⟨by unfold truthB; rw [decide_eq_true h0, decide_eq_true h1, decide_eq_true h2]; rfl⟩
    have HL0 := qab.mk h0
    have HL1 := qab.mk h1
    have HL2 := qab.mk h2
    clear h0 h1 h2
    go_enter Try.func85, Try.ntmps85
    go_upto_region 3 with (first | ((with_reducible refine qam (N := 2) rfl ?_); refine ze 2 #[.int .i64 a0_0, .slice A0_1 l0_1.length c0_1, .slice A0_2 l0_2.length c0_2, .slice A0_3 l0_3.length c0_3, .slice A0_4 l0_4.length c0_4, .slice A0_5 l0_5.length c0_5] 27 ?_; intro gb hg_gb w2 hbox hb; have BKgb := qab.mk hbox; have n_HB := qab.mk (qae HB.out hb); have GEgb : w.heap.size ≤ gb := (by rw [hg_gb]; exact HB.out.size); clear HB; have HB := n_HB; clear n_HB; clear hbox hb hg_gb) | ((with_reducible refine qam (N := 3) rfl ?_); refine ze 3 #[.slice A1_0 l1_0.length c1_0, .slice A1_1 l1_1.length c1_1, .slice A1_2 l1_2.length c1_2] 67 ?_; intro gt hg_gt w3 hbox hb; have BKgt := qab.mk hbox; replace BKgb := qab.mk (qad BKgb.out hb); have n_HB := qab.mk (qae HB.out hb); have GEgt : w.heap.size ≤ gt := (by rw [hg_gt]; exact HB.out.size); clear HB; have HB := n_HB; clear n_HB; clear hbox hb hg_gt; obtain ⟨hfgb, hcgb_0, hcgb_1, hcgb_2, hcgb_3, hcgb_4, hcgb_5⟩ := qz6 BKgb.out; obtain ⟨hfgt, hcgt_0, hcgt_1, hcgt_2⟩ := qz3 BKgt.out))
    clear hfgb hfgt
    go_wp2
    clear hcgb_0 hcgb_1 hcgb_2 hcgb_3 hcgb_4 hcgb_5 hcgt_0 hcgt_1 hcgt_2
    go_loopw [37] (fun s37 wr => ∃ k : Nat, k ≤ l0_4.length ∧ s37 = .int .i64 k ∧ qab (∀ j, j < k → thawAt l0_4 l1_0 j = true) ∧ qab (wr.heap[gb]? = some (.cells #[.int .i64 a0_0, .slice A0_1 l0_1.length c0_1, .slice A0_2 l0_2.length c0_2, .slice A0_3 l0_3.length c0_3, .slice A0_4 l0_4.length c0_4, .slice A0_5 l0_5.length c0_5] 27 (0, 0))) ∧ qab (wr.heap[gt]? = some (.cells #[.slice A1_0 l1_0.length c1_0, .slice A1_1 l1_1.length c1_1, .slice A1_2 l1_2.length c1_2] 67 (0, 0))) ∧ qab (Below w.heap.size w wr)) (fun s _ => l0_4.length - (intOf s).toNat)
    case atStart => exact ⟨0, by omega, rfl, ⟨fun j h => by omega⟩, BKgb, BKgt, HB⟩
    case round =>
     clear BKgb BKgt HB
     obtain ⟨k, hk, rfl, HN, BKgb, BKgt, HB⟩ := hrel
     by_cases hlt : k < l0_4.length
     ·
      have hk1 : k < l1_0.length := by have := HL0.out; omega
      obtain ⟨a4, e, q0, q1⟩ := at_T41 HR4.out k (by omega) (by omega)
      cases e
      obtain ⟨a0, e, q⟩ := Kd.at_int HT0.out k (by omega) (by omega)
      cases e
      simp only [Int.toNat_natCast] at q q0 q1
      replace q := (HB.out.cell (World.block_lt_of_cell? w _ q)).trans q; replace q0 := (HB.out.cell (World.block_lt_of_cell? w _ q0)).trans q0; replace q1 := (HB.out.cell (World.block_lt_of_cell? w _ q1)).trans q1
      obtain ⟨b, hb⟩ : ∃ b, b = thawAt l0_4 l1_0 k := ⟨_, rfl⟩
      have HIN : qab (∀ W, Calls Try.prog 55 #[.int .i64 (rd l1_0 k), .int .i64 (rd_T41 l0_4 k).f0, .int .i64 (rd_T41 l0_4 k).f1] W fun e w' => e = .returned (.bool b) ∧ Below W.heap.size W w') := ⟨fun W => by rw [hb]; exact in_calls _ _ _ W⟩
      have HBV := qab.mk hb.symm
      clear hb
      generalize (rd_T41 l0_4 k).f0 = lo at q0 HIN
      generalize (rd_T41 l0_4 k).f1 = hi at q1 HIN
      generalize rd l1_0 k = th at q HIN
      have Q := qab.mk q
      have HBW := qab.mk (Below.refl wr.heap.size wr)
      go_upto_region 6 with ((with_reducible refine qam (N := 6) rfl ?_); refine ze 6 #[.int .i64 0, .int .i64 0] 41 ?_; intro ge hg_ge w4 hbox hb; have BKge := qab.mk hbox; have n_HB := qab.mk (qae HBW.out hb); have GEge : wr.heap.size ≤ ge := (by rw [hg_ge]; exact HBW.out.size); clear HBW; have HBW := n_HB; clear n_HB; obtain ⟨hfge, hcge_0, hcge_1⟩ := qz2 BKge.out; clear hbox hb hg_ge)
      clear q q0 q1 hfge hcge_0 hcge_1
      have he_ : setAll w4 ge [.int .i64 lo, .int .i64 hi] 0 = ((w4.setCell ⟨ge, 0, none⟩ (.int .i64 lo)).setCell ⟨ge, 1, none⟩ (.int .i64 hi)) := rfl; have hbl := setAll_below GEge [.int .i64 lo, .int .i64 hi] 0 _ HBW.out; have hbx : (setAll w4 ge [.int .i64 lo, .int .i64 hi] 0).heap[ge]? = some (.cells #[.int .i64 lo, .int .i64 hi] 41 (0, 0)) := setAll_new [.int .i64 lo, .int .i64 hi] [.int .i64 0, .int .i64 0] BKge.out rfl; rw [he_] at hbl hbx ; clear he_; generalize ((w4.setCell ⟨ge, 0, none⟩ (.int .i64 lo)).setCell ⟨ge, 1, none⟩ (.int .i64 hi)) = w5 at hbl hbx  ⊢; clear HBW BKge; have HBW := qab.mk hbl; have BKge := qab.mk hbx; clear hbl hbx
      have HT : qab (∀ W, Below w5.heap.size w5 W → (W.cell? ⟨gt, 0, none⟩ = some (.slice (some a0) l1_0.length c1_0) ∧ W.cell? (a0.add k) = some (.int .i64 th) ∧ W.cell? ⟨ge, 0, none⟩ = some (.int .i64 lo) ∧ W.cell? ⟨ge, 1, none⟩ = some (.int .i64 hi) ∧ qab (Below w5.heap.size w5 W))) := ⟨fun W h => ⟨(qaa (qad BKgt.out (qae HBW.out h)) 0).trans rfl, ((qae HBW.out h).cell (World.block_lt_of_cell? wr _ Q.out)).trans Q.out, (qaa (qad BKge.out h) 0).trans rfl, (qaa (qad BKge.out h) 1).trans rfl, ⟨h⟩⟩⟩
      cases b with
      | false =>
       have HTF : qab (truthB l0_4 l0_5 l1_0 l1_1 l1_2 = false) := ⟨by rw [HTB.out, range_all_false k hlt HBV.out]; rfl⟩
       refine start_ (n := 11) (S := (fun w' => (w'.cell? ⟨gt, 0, none⟩ = some (.slice (some a0) l1_0.length c1_0) ∧ w'.cell? (a0.add k) = some (.int .i64 th) ∧ w'.cell? ⟨ge, 0, none⟩ = some (.int .i64 lo) ∧ w'.cell? ⟨ge, 1, none⟩ = some (.int .i64 hi) ∧ qab (Below w5.heap.size w5 w')))) (ds := []) (msk 11 0) (by kernel_rfl) rfl rfl (HT.out _ (qaq (Below.refl _ _))) (fun hHeld => ?_)
       refine zq 0 1 42 ?_
       refine zt5 1 2 43 hHeld ?_
       refine zq 2 3 44 ?_
       refine zq 3 4 45 ?_
       refine zt5 4 5 46 hHeld ?_
       refine zq 5 6 47 ?_
       refine zt5 6 7 48 hHeld ?_
       refine zq 7 8 49 ?_
       refine zt5 8 9 50 hHeld ?_
       refine one_ (i := 9) (N := some 51) (msk 11 10) rfl rfl (by kernel_rfl) (by decide) (fun K hK => ?_)
       refine zg Try.func55 #[.int .i64 th, .int .i64 lo, .int .i64 hi] ?_
       refine (HIN.out _).mono ?_; rintro e w6 ⟨rfl, hb⟩; have HP6 := qab.mk (HT.out w6 (qae hHeld.2.2.2.2.out hb)); clear hb; refine ⟨_, rfl, ?_⟩; refine hK.out _ _ HP6.out (fun hHeld => ?_); clear hK K; refine zn 51 ?_
       refine zq 10 11 52 ?_
       refine done_ (by kernel_rfl) ?_
       have HZ := HP6.out.2.2.2.2
       clear HP6 hHeld
       go_wp2
       go_ret
       exact ⟨by rw [HTF.out]; rfl, qae HB.out (qae HBW.out HZ.out)⟩
      | true =>
       refine start_ (n := 11) (S := (fun w' => (w'.cell? ⟨gt, 0, none⟩ = some (.slice (some a0) l1_0.length c1_0) ∧ w'.cell? (a0.add k) = some (.int .i64 th) ∧ w'.cell? ⟨ge, 0, none⟩ = some (.int .i64 lo) ∧ w'.cell? ⟨ge, 1, none⟩ = some (.int .i64 hi) ∧ qab (Below w5.heap.size w5 w')))) (ds := []) (msk 11 0) (by kernel_rfl) rfl rfl (HT.out _ (qaq (Below.refl _ _))) (fun hHeld => ?_)
       refine zq 0 1 42 ?_
       refine zt5 1 2 43 hHeld ?_
       refine zq 2 3 44 ?_
       refine zq 3 4 45 ?_
       refine zt5 4 5 46 hHeld ?_
       refine zq 5 6 47 ?_
       refine zt5 6 7 48 hHeld ?_
       refine zq 7 8 49 ?_
       refine zt5 8 9 50 hHeld ?_
       refine one_ (i := 9) (N := some 51) (msk 11 10) rfl rfl (by kernel_rfl) (by decide) (fun K hK => ?_)
       refine zg Try.func55 #[.int .i64 th, .int .i64 lo, .int .i64 hi] ?_
       refine (HIN.out _).mono ?_; rintro e w6 ⟨rfl, hb⟩; have HP6 := qab.mk (HT.out w6 (qae hHeld.2.2.2.2.out hb)); clear hb; refine ⟨_, rfl, ?_⟩; refine hK.out _ _ HP6.out (fun hHeld => ?_); clear hK K; refine zn 51 ?_
       refine zq 10 11 52 ?_
       refine done_ (by kernel_rfl) ?_
       have HZ := HP6.out.2.2.2.2
       clear HP6 hHeld
       go_wp2
       go_roundw
       case rel => exact ⟨k + 1, by omega, by go_num, ⟨fun j hj => by
        rcases Nat.lt_or_ge j k with h | h
        ·
         exact HN.out j h
        ·
         obtain rfl : j = k := by omega
         exact HBV.out⟩, ⟨qad BKgb.out (qae HBW.out HZ.out)⟩, ⟨qad BKgt.out (qae HBW.out HZ.out)⟩, ⟨qae HB.out (qae HBW.out HZ.out)⟩⟩
       case measure => simp [intOf]; omega
     ·
      have HTB2 : qab (truthB l0_4 l0_5 l1_0 l1_1 l1_2 = (List.range l0_5.length).all (lakeAt l0_5 l1_1 l1_2)) := ⟨by rw [HTB.out, range_all_true (fun j hj => HN.out j (by omega))]; rfl⟩
      have qb5 : wr.cell? ⟨gb, 5, none⟩ = some (.slice A0_5 l0_5.length c0_5) := (qaa BKgb.out 5).trans rfl
      clear HN HTB
      go_wp2
      clear qb5
      go_loopw [57] (fun s57 wr => ∃ k : Nat, k ≤ l0_5.length ∧ s57 = .int .i64 k ∧ qab (∀ j, j < k → lakeAt l0_5 l1_1 l1_2 j = true) ∧ qab (wr.heap[gt]? = some (.cells #[.slice A1_0 l1_0.length c1_0, .slice A1_1 l1_1.length c1_1, .slice A1_2 l1_2.length c1_2] 67 (0, 0))) ∧ qab (Below w.heap.size w wr)) (fun s _ => l0_5.length - (intOf s).toNat)
      case atStart => exact ⟨0, by omega, rfl, ⟨fun j h => by omega⟩, BKgt, HB⟩
      case round =>
       clear BKgb BKgt HB hlt hk
       obtain ⟨k, hk, rfl, HN, BKgt, HB⟩ := hrel
       by_cases hlt : k < l0_5.length
       ·
        have hk1 : k < l1_1.length := by have := HL1.out; omega
        have hk2 : k < l1_2.length := by have := HL2.out; omega
        obtain ⟨a5, e, q0, q1, q2, q3, q4, q5⟩ := at_T95 HR5.out k (by omega) (by omega)
        cases e
        obtain ⟨a1, e, z1⟩ := Kd.at_int HT1.out k (by omega) (by omega)
        cases e
        obtain ⟨a2, e, z2⟩ := Kd.at_int HT2.out k (by omega) (by omega)
        cases e
        simp only [Int.toNat_natCast] at q0 q1 q2 q3 q4 q5 z1 z2
        replace q0 := (HB.out.cell (World.block_lt_of_cell? w _ q0)).trans q0; replace q1 := (HB.out.cell (World.block_lt_of_cell? w _ q1)).trans q1; replace q2 := (HB.out.cell (World.block_lt_of_cell? w _ q2)).trans q2; replace q3 := (HB.out.cell (World.block_lt_of_cell? w _ q3)).trans q3; replace q4 := (HB.out.cell (World.block_lt_of_cell? w _ q4)).trans q4; replace q5 := (HB.out.cell (World.block_lt_of_cell? w _ q5)).trans q5; replace z1 := (HB.out.cell (World.block_lt_of_cell? w _ z1)).trans z1; replace z2 := (HB.out.cell (World.block_lt_of_cell? w _ z2)).trans z2
        obtain ⟨b1, hb1⟩ : ∃ b, b = inB (rd l1_1 k) (rd_T95 l0_5 k).f2.f0 (rd_T95 l0_5 k).f2.f1 := ⟨_, rfl⟩
        obtain ⟨b2, hb2⟩ : ∃ b, b = inB (rd l1_2 k) (rd_T95 l0_5 k).f3.f0 (rd_T95 l0_5 k).f3.f1 := ⟨_, rfl⟩
        have HIN1 : qab (∀ W, Calls Try.prog 55 #[.int .i64 (rd l1_1 k), .int .i64 (rd_T95 l0_5 k).f2.f0, .int .i64 (rd_T95 l0_5 k).f2.f1] W fun e w' => e = .returned (.bool b1) ∧ Below W.heap.size W w') := ⟨fun W => by rw [hb1]; exact in_calls _ _ _ W⟩
        have HIN2 : qab (∀ W, Calls Try.prog 55 #[.int .i64 (rd l1_2 k), .int .i64 (rd_T95 l0_5 k).f3.f0, .int .i64 (rd_T95 l0_5 k).f3.f1] W fun e w' => e = .returned (.bool b2) ∧ Below W.heap.size W w') := ⟨fun W => by rw [hb2]; exact in_calls _ _ _ W⟩
        have HLK : qab (lakeAt l0_5 l1_1 l1_2 k = (b1 && b2)) := ⟨by rw [hb1, hb2]; rfl⟩
        clear hb1 hb2
        generalize (rd_T95 l0_5 k).f0 = k0 at q0
        generalize (rd_T95 l0_5 k).f1 = k1 at q1
        generalize (rd_T95 l0_5 k).f2.f0 = k2 at q2 HIN1
        generalize (rd_T95 l0_5 k).f2.f1 = k3 at q3 HIN1
        generalize (rd_T95 l0_5 k).f3.f0 = k4 at q4 HIN2
        generalize (rd_T95 l0_5 k).f3.f1 = k5 at q5 HIN2
        generalize rd l1_1 k = vo at z1 HIN1
        generalize rd l1_2 k = ro at z2 HIN2
        have Z1 := qab.mk z1
        have Z2 := qab.mk z2
        have HBW := qab.mk (Below.refl wr.heap.size wr)
        go_upto_region 12 with ((with_reducible refine qam (N := 8) rfl ?_); refine ze 8 #[.int .i64 0, .int .i64 0, .int .i64 0, .int .i64 0, .int .i64 0, .int .i64 0] 95 ?_; intro ge hg_ge w4 hbox hb; have BKge := qab.mk hbox; have n_HB := qab.mk (qae HBW.out hb); have GEge : wr.heap.size ≤ ge := (by rw [hg_ge]; exact HBW.out.size); clear HBW; have HBW := n_HB; clear n_HB; obtain ⟨hfge, hcge_0, hcge_1, hcge_2, hcge_3, hcge_4, hcge_5⟩ := qz6 BKge.out; clear hbox hb hg_ge)
        clear q0 q1 q2 q3 q4 q5 z1 z2 hfge hcge_0 hcge_1 hcge_2 hcge_3 hcge_4 hcge_5
        have he_ : setAll w4 ge [.int .i64 k0, .int .i64 k1, .int .i64 k2, .int .i64 k3, .int .i64 k4, .int .i64 k5] 0 = ((((((w4.setCell ⟨ge, 0, none⟩ (.int .i64 k0)).setCell ⟨ge, 1, none⟩ (.int .i64 k1)).setCell ⟨ge, 2, none⟩ (.int .i64 k2)).setCell ⟨ge, 3, none⟩ (.int .i64 k3)).setCell ⟨ge, 4, none⟩ (.int .i64 k4)).setCell ⟨ge, 5, none⟩ (.int .i64 k5)) := rfl; have hbl := setAll_below GEge [.int .i64 k0, .int .i64 k1, .int .i64 k2, .int .i64 k3, .int .i64 k4, .int .i64 k5] 0 _ HBW.out; have hbx : (setAll w4 ge [.int .i64 k0, .int .i64 k1, .int .i64 k2, .int .i64 k3, .int .i64 k4, .int .i64 k5] 0).heap[ge]? = some (.cells #[.int .i64 k0, .int .i64 k1, .int .i64 k2, .int .i64 k3, .int .i64 k4, .int .i64 k5] 95 (0, 0)) := setAll_new [.int .i64 k0, .int .i64 k1, .int .i64 k2, .int .i64 k3, .int .i64 k4, .int .i64 k5] [.int .i64 0, .int .i64 0, .int .i64 0, .int .i64 0, .int .i64 0, .int .i64 0] BKge.out rfl; rw [he_] at hbl hbx ; clear he_; generalize ((((((w4.setCell ⟨ge, 0, none⟩ (.int .i64 k0)).setCell ⟨ge, 1, none⟩ (.int .i64 k1)).setCell ⟨ge, 2, none⟩ (.int .i64 k2)).setCell ⟨ge, 3, none⟩ (.int .i64 k3)).setCell ⟨ge, 4, none⟩ (.int .i64 k4)).setCell ⟨ge, 5, none⟩ (.int .i64 k5)) = w5 at hbl hbx  ⊢; clear HBW BKge; have HBW := qab.mk hbl; have BKge := qab.mk hbx; clear hbl hbx
        have HT : qab (∀ W, Below w5.heap.size w5 W → (W.cell? ⟨gt, 1, none⟩ = some (.slice (some a1) l1_1.length c1_1) ∧ W.cell? (a1.add k) = some (.int .i64 vo) ∧ W.cell? ⟨ge, 2, none⟩ = some (.int .i64 k2) ∧ W.cell? ⟨ge, 3, none⟩ = some (.int .i64 k3) ∧ W.cell? ⟨gt, 2, none⟩ = some (.slice (some a2) l1_2.length c1_2) ∧ W.cell? (a2.add k) = some (.int .i64 ro) ∧ W.cell? ⟨ge, 4, none⟩ = some (.int .i64 k4) ∧ W.cell? ⟨ge, 5, none⟩ = some (.int .i64 k5) ∧ qab (Below w5.heap.size w5 W))) := ⟨fun W h => ⟨(qaa (qad BKgt.out (qae HBW.out h)) 1).trans rfl, ((qae HBW.out h).cell (World.block_lt_of_cell? wr _ Z1.out)).trans Z1.out, (qaa (qad BKge.out h) 2).trans rfl, (qaa (qad BKge.out h) 3).trans rfl, (qaa (qad BKgt.out (qae HBW.out h)) 2).trans rfl, ((qae HBW.out h).cell (World.block_lt_of_cell? wr _ Z2.out)).trans Z2.out, (qaa (qad BKge.out h) 4).trans rfl, (qaa (qad BKge.out h) 5).trans rfl, ⟨h⟩⟩⟩
        cases b1 with
        | false =>
         have HTF : qab (truthB l0_4 l0_5 l1_0 l1_1 l1_2 = false) := ⟨by rw [HTB2.out, range_all_false k hlt (by rw [HLK.out]; rfl)]⟩
         refine start_ (n := 28) (S := (fun w' => (w'.cell? ⟨gt, 1, none⟩ = some (.slice (some a1) l1_1.length c1_1) ∧ w'.cell? (a1.add k) = some (.int .i64 vo) ∧ w'.cell? ⟨ge, 2, none⟩ = some (.int .i64 k2) ∧ w'.cell? ⟨ge, 3, none⟩ = some (.int .i64 k3) ∧ w'.cell? ⟨gt, 2, none⟩ = some (.slice (some a2) l1_2.length c1_2) ∧ w'.cell? (a2.add k) = some (.int .i64 ro) ∧ w'.cell? ⟨ge, 4, none⟩ = some (.int .i64 k4) ∧ w'.cell? ⟨ge, 5, none⟩ = some (.int .i64 k5) ∧ qab (Below w5.heap.size w5 w')))) (ds := []) (msk 28 0) (by kernel_rfl) rfl rfl (HT.out _ (qaq (Below.refl _ _))) (fun hHeld => ?_)
         refine zq 0 1 62 ?_
         refine zt9 1 2 63 hHeld ?_
         refine zq 2 3 64 ?_
         refine zq 3 4 65 ?_
         refine zt9 4 5 66 hHeld ?_
         refine zq 5 6 67 ?_
         refine zq 6 7 68 ?_
         refine zt9 7 8 69 hHeld ?_
         refine zq 8 9 70 ?_
         refine zq 9 10 71 ?_
         refine zt9 10 11 72 hHeld ?_
         refine one_ (i := 11) (N := some 73) (msk 28 12) rfl rfl (by kernel_rfl) (by decide) (fun K hK => ?_)
         refine zg Try.func55 #[.int .i64 vo, .int .i64 k2, .int .i64 k3] ?_
         refine (HIN1.out _).mono ?_; rintro e w6 ⟨rfl, hb⟩; have HP6 := qab.mk (HT.out w6 (qae hHeld.2.2.2.2.2.2.2.2.out hb)); clear hb; refine ⟨_, rfl, ?_⟩; refine hK.out _ _ HP6.out (fun hHeld => ?_); clear hK K; refine zn 73 ?_
         refine zq 12 13 74 ?_
         refine zq 13 14 75 ?_
         refine zo 14 15 76 ?_
         refine zo 15 16 77 ?_
         refine zo 16 17 78 ?_
         refine zo 17 18 79 ?_
         refine zo 18 19 80 ?_
         refine zo 19 20 81 ?_
         refine zo 20 21 82 ?_
         refine zo 21 22 83 ?_
         refine zo 22 23 84 ?_
         refine zo 23 24 85 ?_
         refine zo 24 25 86 ?_
         refine zo 25 26 87 ?_
         refine zo 26 27 88 ?_
         refine zq 27 28 89 ?_
         refine done_ (by kernel_rfl) ?_
         have HZ := HP6.out.2.2.2.2.2.2.2.2
         clear HP6 hHeld
         go_wp2
         go_ret
         exact ⟨by rw [HTF.out]; rfl, qae HB.out (qae HBW.out HZ.out)⟩
        | true =>
         cases b2 with
         | false =>
          have HTF : qab (truthB l0_4 l0_5 l1_0 l1_1 l1_2 = false) := ⟨by rw [HTB2.out, range_all_false k hlt (by rw [HLK.out]; rfl)]⟩
          refine start_ (n := 28) (S := (fun w' => (w'.cell? ⟨gt, 1, none⟩ = some (.slice (some a1) l1_1.length c1_1) ∧ w'.cell? (a1.add k) = some (.int .i64 vo) ∧ w'.cell? ⟨ge, 2, none⟩ = some (.int .i64 k2) ∧ w'.cell? ⟨ge, 3, none⟩ = some (.int .i64 k3) ∧ w'.cell? ⟨gt, 2, none⟩ = some (.slice (some a2) l1_2.length c1_2) ∧ w'.cell? (a2.add k) = some (.int .i64 ro) ∧ w'.cell? ⟨ge, 4, none⟩ = some (.int .i64 k4) ∧ w'.cell? ⟨ge, 5, none⟩ = some (.int .i64 k5) ∧ qab (Below w5.heap.size w5 w')))) (ds := []) (msk 28 0) (by kernel_rfl) rfl rfl (HT.out _ (qaq (Below.refl _ _))) (fun hHeld => ?_)
          refine zq 0 1 62 ?_
          refine zt9 1 2 63 hHeld ?_
          refine zq 2 3 64 ?_
          refine zq 3 4 65 ?_
          refine zt9 4 5 66 hHeld ?_
          refine zq 5 6 67 ?_
          refine zq 6 7 68 ?_
          refine zt9 7 8 69 hHeld ?_
          refine zq 8 9 70 ?_
          refine zq 9 10 71 ?_
          refine zt9 10 11 72 hHeld ?_
          refine one_ (i := 11) (N := some 73) (msk 28 12) rfl rfl (by kernel_rfl) (by decide) (fun K hK => ?_)
          refine zg Try.func55 #[.int .i64 vo, .int .i64 k2, .int .i64 k3] ?_
          refine (HIN1.out _).mono ?_; rintro e w6 ⟨rfl, hb⟩; have HP6 := qab.mk (HT.out w6 (qae hHeld.2.2.2.2.2.2.2.2.out hb)); clear hb; refine ⟨_, rfl, ?_⟩; refine hK.out _ _ HP6.out (fun hHeld => ?_); clear hK K; refine zn 73 ?_
          refine zq 12 13 74 ?_
          refine zq 13 14 75 ?_
          refine zq 14 15 76 ?_
          refine zt9 15 16 77 hHeld ?_
          refine zq 16 17 78 ?_
          refine zq 17 18 79 ?_
          refine zt9 18 19 80 hHeld ?_
          refine zq 19 20 81 ?_
          refine zq 20 21 82 ?_
          refine zt9 21 22 83 hHeld ?_
          refine zq 22 23 84 ?_
          refine zq 23 24 85 ?_
          refine zt9 24 25 86 hHeld ?_
          refine one_ (i := 25) (N := some 87) (msk 28 26) rfl rfl (by kernel_rfl) (by decide) (fun K hK => ?_)
          refine zg Try.func55 #[.int .i64 ro, .int .i64 k4, .int .i64 k5] ?_
          refine (HIN2.out _).mono ?_; rintro e w7 ⟨rfl, hb⟩; have HP7 := qab.mk (HT.out w7 (qae hHeld.2.2.2.2.2.2.2.2.out hb)); clear hb; refine ⟨_, rfl, ?_⟩; refine hK.out _ _ HP7.out (fun hHeld => ?_); clear hK K; refine zn 87 ?_
          refine zq 26 27 88 ?_
          refine zq 27 28 89 ?_
          refine done_ (by kernel_rfl) ?_
          have HZ := HP7.out.2.2.2.2.2.2.2.2
          clear HP6 HP7 hHeld
          go_wp2
          go_ret
          exact ⟨by rw [HTF.out]; rfl, qae HB.out (qae HBW.out HZ.out)⟩
         | true =>
          refine start_ (n := 28) (S := (fun w' => (w'.cell? ⟨gt, 1, none⟩ = some (.slice (some a1) l1_1.length c1_1) ∧ w'.cell? (a1.add k) = some (.int .i64 vo) ∧ w'.cell? ⟨ge, 2, none⟩ = some (.int .i64 k2) ∧ w'.cell? ⟨ge, 3, none⟩ = some (.int .i64 k3) ∧ w'.cell? ⟨gt, 2, none⟩ = some (.slice (some a2) l1_2.length c1_2) ∧ w'.cell? (a2.add k) = some (.int .i64 ro) ∧ w'.cell? ⟨ge, 4, none⟩ = some (.int .i64 k4) ∧ w'.cell? ⟨ge, 5, none⟩ = some (.int .i64 k5) ∧ qab (Below w5.heap.size w5 w')))) (ds := []) (msk 28 0) (by kernel_rfl) rfl rfl (HT.out _ (qaq (Below.refl _ _))) (fun hHeld => ?_)
          refine zq 0 1 62 ?_
          refine zt9 1 2 63 hHeld ?_
          refine zq 2 3 64 ?_
          refine zq 3 4 65 ?_
          refine zt9 4 5 66 hHeld ?_
          refine zq 5 6 67 ?_
          refine zq 6 7 68 ?_
          refine zt9 7 8 69 hHeld ?_
          refine zq 8 9 70 ?_
          refine zq 9 10 71 ?_
          refine zt9 10 11 72 hHeld ?_
          refine one_ (i := 11) (N := some 73) (msk 28 12) rfl rfl (by kernel_rfl) (by decide) (fun K hK => ?_)
          refine zg Try.func55 #[.int .i64 vo, .int .i64 k2, .int .i64 k3] ?_
          refine (HIN1.out _).mono ?_; rintro e w6 ⟨rfl, hb⟩; have HP6 := qab.mk (HT.out w6 (qae hHeld.2.2.2.2.2.2.2.2.out hb)); clear hb; refine ⟨_, rfl, ?_⟩; refine hK.out _ _ HP6.out (fun hHeld => ?_); clear hK K; refine zn 73 ?_
          refine zq 12 13 74 ?_
          refine zq 13 14 75 ?_
          refine zq 14 15 76 ?_
          refine zt9 15 16 77 hHeld ?_
          refine zq 16 17 78 ?_
          refine zq 17 18 79 ?_
          refine zt9 18 19 80 hHeld ?_
          refine zq 19 20 81 ?_
          refine zq 20 21 82 ?_
          refine zt9 21 22 83 hHeld ?_
          refine zq 22 23 84 ?_
          refine zq 23 24 85 ?_
          refine zt9 24 25 86 hHeld ?_
          refine one_ (i := 25) (N := some 87) (msk 28 26) rfl rfl (by kernel_rfl) (by decide) (fun K hK => ?_)
          refine zg Try.func55 #[.int .i64 ro, .int .i64 k4, .int .i64 k5] ?_
          refine (HIN2.out _).mono ?_; rintro e w7 ⟨rfl, hb⟩; have HP7 := qab.mk (HT.out w7 (qae hHeld.2.2.2.2.2.2.2.2.out hb)); clear hb; refine ⟨_, rfl, ?_⟩; refine hK.out _ _ HP7.out (fun hHeld => ?_); clear hK K; refine zn 87 ?_
          refine zq 26 27 88 ?_
          refine zq 27 28 89 ?_
          refine done_ (by kernel_rfl) ?_
          have HZ := HP7.out.2.2.2.2.2.2.2.2
          clear HP6 HP7 hHeld
          go_wp2
          go_roundw
          case rel => exact ⟨k + 1, by omega, by go_num, ⟨fun j hj => by
           rcases Nat.lt_or_ge j k with h | h
           ·
            exact HN.out j h
           ·
            obtain rfl : j = k := by omega
            rw [HLK.out]
            rfl⟩, ⟨qad BKgt.out (qae HBW.out HZ.out)⟩, ⟨qae HB.out (qae HBW.out HZ.out)⟩⟩
          case measure => simp [intOf]; omega
       ·
        have HTT : qab (truthB l0_4 l0_5 l1_0 l1_1 l1_2 = true) := ⟨by rw [HTB2.out, range_all_true (fun j hj => HN.out j (by omega))]⟩
        go_wp2
        go_ret
        exact ⟨by rw [HTT.out]; rfl, HB.out⟩
   ·
    have hb2 : ((l1_2.length : Int) != (l0_5.length : Int)) = true := by simp; omega
    have hb0 : ((l1_0.length : Int) != (l0_4.length : Int)) = false := by simp; omega
    have hb1 : ((l1_1.length : Int) != (l0_5.length : Int)) = false := by simp; omega
    have HTF : qab (truthB l0_4 l0_5 l1_0 l1_1 l1_2 = false) := ⟨by unfold truthB; simp [h2]⟩
    clear h0 h1 h2
    go_enter Try.func85, Try.ntmps85
    go_wp2_with (first | ((with_reducible refine qam (N := 2) rfl ?_); refine ze 2 #[.int .i64 a0_0, .slice A0_1 l0_1.length c0_1, .slice A0_2 l0_2.length c0_2, .slice A0_3 l0_3.length c0_3, .slice A0_4 l0_4.length c0_4, .slice A0_5 l0_5.length c0_5] 27 ?_; intro gb hg_gb w2 hbox hb; have BKgb := qab.mk hbox; have n_HB := qab.mk (qae HB.out hb); have GEgb : w.heap.size ≤ gb := (by rw [hg_gb]; exact HB.out.size); clear HB; have HB := n_HB; clear n_HB; clear hbox hb hg_gb) | ((with_reducible refine qam (N := 3) rfl ?_); refine ze 3 #[.slice A1_0 l1_0.length c1_0, .slice A1_1 l1_1.length c1_1, .slice A1_2 l1_2.length c1_2] 67 ?_; intro gt hg_gt w3 hbox hb; have BKgt := qab.mk hbox; replace BKgb := qab.mk (qad BKgb.out hb); have n_HB := qab.mk (qae HB.out hb); have GEgt : w.heap.size ≤ gt := (by rw [hg_gt]; exact HB.out.size); clear HB; have HB := n_HB; clear n_HB; clear hbox hb hg_gt; obtain ⟨hfgb, hcgb_0, hcgb_1, hcgb_2, hcgb_3, hcgb_4, hcgb_5⟩ := qz6 BKgb.out; obtain ⟨hfgt, hcgt_0, hcgt_1, hcgt_2⟩ := qz3 BKgt.out))
    go_ret
    exact ⟨by rw [HTF.out]; rfl, HB.out⟩
  ·
   have hb1 : ((l1_1.length : Int) != (l0_5.length : Int)) = true := by simp; omega
   have hb0 : ((l1_0.length : Int) != (l0_4.length : Int)) = false := by simp; omega
   have HTF : qab (truthB l0_4 l0_5 l1_0 l1_1 l1_2 = false) := ⟨by unfold truthB; simp [h1]⟩
   clear h0 h1
   go_enter Try.func85, Try.ntmps85
   go_wp2_with (first | ((with_reducible refine qam (N := 2) rfl ?_); refine ze 2 #[.int .i64 a0_0, .slice A0_1 l0_1.length c0_1, .slice A0_2 l0_2.length c0_2, .slice A0_3 l0_3.length c0_3, .slice A0_4 l0_4.length c0_4, .slice A0_5 l0_5.length c0_5] 27 ?_; intro gb hg_gb w2 hbox hb; have BKgb := qab.mk hbox; have n_HB := qab.mk (qae HB.out hb); have GEgb : w.heap.size ≤ gb := (by rw [hg_gb]; exact HB.out.size); clear HB; have HB := n_HB; clear n_HB; clear hbox hb hg_gb) | ((with_reducible refine qam (N := 3) rfl ?_); refine ze 3 #[.slice A1_0 l1_0.length c1_0, .slice A1_1 l1_1.length c1_1, .slice A1_2 l1_2.length c1_2] 67 ?_; intro gt hg_gt w3 hbox hb; have BKgt := qab.mk hbox; replace BKgb := qab.mk (qad BKgb.out hb); have n_HB := qab.mk (qae HB.out hb); have GEgt : w.heap.size ≤ gt := (by rw [hg_gt]; exact HB.out.size); clear HB; have HB := n_HB; clear n_HB; clear hbox hb hg_gt; obtain ⟨hfgb, hcgb_0, hcgb_1, hcgb_2, hcgb_3, hcgb_4, hcgb_5⟩ := qz6 BKgb.out; obtain ⟨hfgt, hcgt_0, hcgt_1, hcgt_2⟩ := qz3 BKgt.out))
   go_ret
   exact ⟨by rw [HTF.out]; rfl, HB.out⟩
 ·
  have hb0 : ((l1_0.length : Int) != (l0_4.length : Int)) = true := by simp; omega
  have HTF : qab (truthB l0_4 l0_5 l1_0 l1_1 l1_2 = false) := ⟨by unfold truthB; simp [h0]⟩
  clear h0
  go_enter Try.func85, Try.ntmps85
  go_wp2_with (first | ((with_reducible refine qam (N := 2) rfl ?_); refine ze 2 #[.int .i64 a0_0, .slice A0_1 l0_1.length c0_1, .slice A0_2 l0_2.length c0_2, .slice A0_3 l0_3.length c0_3, .slice A0_4 l0_4.length c0_4, .slice A0_5 l0_5.length c0_5] 27 ?_; intro gb hg_gb w2 hbox hb; have BKgb := qab.mk hbox; have n_HB := qab.mk (qae HB.out hb); have GEgb : w.heap.size ≤ gb := (by rw [hg_gb]; exact HB.out.size); clear HB; have HB := n_HB; clear n_HB; clear hbox hb hg_gb) | ((with_reducible refine qam (N := 3) rfl ?_); refine ze 3 #[.slice A1_0 l1_0.length c1_0, .slice A1_1 l1_1.length c1_1, .slice A1_2 l1_2.length c1_2] 67 ?_; intro gt hg_gt w3 hbox hb; have BKgt := qab.mk hbox; replace BKgb := qab.mk (qad BKgb.out hb); have n_HB := qab.mk (qae HB.out hb); have GEgt : w.heap.size ≤ gt := (by rw [hg_gt]; exact HB.out.size); clear HB; have HB := n_HB; clear n_HB; clear hbox hb hg_gt; obtain ⟨hfgb, hcgb_0, hcgb_1, hcgb_2, hcgb_3, hcgb_4, hcgb_5⟩ := qz6 BKgb.out; obtain ⟨hfgt, hcgt_0, hcgt_1, hcgt_2⟩ := qz3 BKgt.out))
  go_ret
  exact ⟨by rw [HTF.out]; rfl, HB.out⟩
def pourR (p : Int) (l1 : List S44) (l2 l3 : List Int) (l4 : List S41) (l5 : List S95) (ths vols rooms : List Int) : List Int × Int × Int × Int × Int :=
 if (validB p l1 l2 l3 l4 l5 && truthB l4 l5 ths vols rooms) = true then ((pourV l5 l4.length ths vols rooms).1, vols.sum, (pourV l5 l4.length ths vols rooms).2.1, (pourV l5 l4.length ths vols rooms).2.2, 0) else ([], 0, 0, 0, 2)
structure TruthF (l4 : List S41) (l5 : List S95) (ths vols rooms : List Int) : Prop where
 t : ths.length = l4.length
 v : vols.length = l5.length
 r : rooms.length = l5.length
 th : ∀ k : Nat, k < l4.length → (rd_T41 l4 k).f0 ≤ rd ths k ∧ rd ths k ≤ (rd_T41 l4 k).f1
 vo : ∀ k : Nat, k < l5.length → (rd_T95 l5 k).f2.f0 ≤ rd vols k ∧ rd vols k ≤ (rd_T95 l5 k).f2.f1
 ro : ∀ k : Nat, k < l5.length → (rd_T95 l5 k).f3.f0 ≤ rd rooms k ∧ rd rooms k ≤ (rd_T95 l5 k).f3.f1
theorem truth_facts {l4 : List S41} {l5 : List S95} {ths vols rooms : List Int} (h : truthB l4 l5 ths vols rooms = true) : TruthF l4 l5 ths vols rooms := by
 unfold truthB at h
 simp only [Bool.and_eq_true, decide_eq_true_eq] at h
 obtain ⟨h0, h1, h2, h3, h4⟩ := h
 have g3 : ∀ k : Nat, k < l4.length → thawAt l4 ths k = true := fun k hk => List.all_eq_true.1 h3 k (List.mem_range.2 hk)
 have g4 : ∀ k : Nat, k < l5.length → lakeAt l5 vols rooms k = true := fun k hk => List.all_eq_true.1 h4 k (List.mem_range.2 hk)
 unfold thawAt inB at g3
 unfold lakeAt inB at g4
 simp only [Bool.and_eq_true, decide_eq_true_eq] at g3 g4
 exact ⟨h0, h1, h2, g3, fun k hk => (g4 k hk).1, fun k hk => (g4 k hk).2⟩
theorem results_tct {P : Program} {fn : Func} {p u v : Tmp} {ty : TypeId} (h : fn.results = #[.tmp u, .cell p ty, .tmp v]) (tmps : Array Value) (w : World) (g : Nat) (t : TypeId) (cs : Array Value) (fr : Nat × Nat) (d : TypeDesc)
  (hp : tmps.getD p undef = .pointer (some ⟨g, 0, none⟩)) (hg : w.heap[g]? = some (.cells cs t fr)) (hu : P.underlying ty = some d) (hd : (match d with | .struct _ | .array _ _ => true | _ => false) = true) (hi : (P.info? ty).map (·.size) = some cs.size) :
  (results fn tmps).run P w = .ok (.tuple #[tmps.getD u undef, .agg cs, tmps.getD v undef]) w := by
 have hp' : tmps[p]?.getD undef = .pointer (some ⟨g, 0, none⟩) := by simpa using hp
 simp [results, h, hp', asAddr, run_loadVar_row w g t ty cs fr d hg hu hd hi]
theorem pourAll_calls (a0_0 : Int) (A0_1 : Option Addr) (c0_1 : Nat) (l0_1 : List S44) (A0_2 : Option Addr) (c0_2 : Nat) (l0_2 : List Int) (A0_3 : Option Addr) (c0_3 : Nat) (l0_3 : List Int) (A0_4 : Option Addr) (c0_4 : Nat) (l0_4 : List S41) (A0_5 : Option Addr) (c0_5 : Nat) (l0_5 : List S95) (A1_0 : Option Addr) (c1_0 : Nat) (l1_0 : List Int) (A1_1 : Option Addr) (c1_1 : Nat) (l1_1 : List Int) (A1_2 : Option Addr) (c1_2 : Nat) (l1_2 : List Int) (w : World) (hr0_1 : Kd.C k44 w A0_1 l0_1.length l0_1) (hc0_1 : l0_1.length ≤ c0_1) (hr0_2 : Kd.C (Kd.int .i64) w A0_2 l0_2.length l0_2) (hc0_2 : l0_2.length ≤ c0_2) (hr0_3 : Kd.C (Kd.int .i64) w A0_3 l0_3.length l0_3) (hc0_3 : l0_3.length ≤ c0_3) (hr0_4 : Kd.C k41 w A0_4 l0_4.length l0_4) (hc0_4 : l0_4.length ≤ c0_4) (hr0_5 : Kd.C k95 w A0_5 l0_5.length l0_5) (hc0_5 : l0_5.length ≤ c0_5) (hr1_0 : Kd.C (Kd.int .i64) w A1_0 l1_0.length l1_0) (hr1_1 : Kd.C (Kd.int .i64) w A1_1 l1_1.length l1_1) (hc1_1 : l1_1.length ≤ c1_1) (hr1_2 : Kd.C (Kd.int .i64) w A1_2 l1_2.length l1_2)
  (hV : ValidF a0_0 l0_1 l0_2 l0_3 l0_4 l0_5) (hT : TruthF l0_4 l0_5 l1_0 l1_1 l1_2) :
  Calls Try.prog 86 #[.agg #[.int .i64 a0_0, .slice A0_1 l0_1.length c0_1, .slice A0_2 l0_2.length c0_2, .slice A0_3 l0_3.length c0_3, .slice A0_4 l0_4.length c0_4, .slice A0_5 l0_5.length c0_5], .agg #[.slice A1_0 l1_0.length c1_0, .slice A1_1 l1_1.length c1_1, .slice A1_2 l1_2.length c1_2]] w fun e w' => ∃ v, e = .returned (.tuple #[v, .agg #[.int .i64 l1_1.sum, .int .i64 (pourV l0_5 l0_4.length l1_0 l1_1 l1_2).2.1, .int .i64 (pourV l0_5 l0_4.length l1_0 l1_1 l1_2).2.2]]) ∧ Kd.R (Kd.int .i64) 3 w' w.heap.size (fun _ => True) v (pourV l0_5 l0_4.length l1_0 l1_1 l1_2).1 ∧ Below w.heap.size w w' := by
 rcases Nat.eq_zero_or_pos l0_5.length with h0 | h0
 ·
  obtain rfl : l0_5 = [] := List.length_eq_zero_iff.1 h0
  have he : pourV [] l0_4.length l1_0 l1_1 l1_2 = ([], 0, 0) := by
   unfold pourV
   rw [pourTo_nil]
   rfl
  rw [he]
  exact pour0_calls a0_0 A0_1 c0_1 l0_1 A0_2 c0_2 l0_2 A0_3 c0_3 l0_3 A0_4 c0_4 l0_4 A0_5 c0_5 A1_0 c1_0 l1_0 A1_1 c1_1 l1_1 A1_2 c1_2 l1_2 w hr1_0 hr1_1 hc1_1 hT.v (by have := hT.t; have := hV.n4; omega)
 ·
  exact pour_calls a0_0 A0_1 c0_1 l0_1 A0_2 c0_2 l0_2 A0_3 c0_3 l0_3 A0_4 c0_4 l0_4 A0_5 c0_5 l0_5 A1_0 c1_0 l1_0 A1_1 c1_1 l1_1 A1_2 c1_2 l1_2 w hr0_1 hc0_1 hr0_2 hc0_2 hr0_3 hc0_3 hr0_4 hc0_4 hr0_5 hc0_5 hr1_0 hr1_1 hc1_1 hr1_2 hV hT.v hT.r hT.t (fun k hk => by have h1 := hT.vo k (by have := hT.v; omega); have h2 := (hV.l k (by have := hT.v; omega)).2.2.1; omega) h0
def seep_Pour.f (a0_0 : Int) (l0_1 : List (S44)) (l0_2 : List Int) (l0_3 : List Int) (l0_4 : List (S41)) (l0_5 : List (S95)) (l1_0 : List Int) (l1_1 : List Int) (l1_2 : List Int) : Option (List Int × Int × Int × Int × Int) := some (pourR a0_0 l0_1 l0_2 l0_3 l0_4 l0_5 l1_0 l1_1 l1_2)
theorem seep_Pour.calls (a0_0 : Int) (A0_1 : Option Addr) (c0_1 : Nat) (l0_1 : List (S44)) (A0_2 : Option Addr) (c0_2 : Nat) (l0_2 : List Int) (A0_3 : Option Addr) (c0_3 : Nat) (l0_3 : List Int) (A0_4 : Option Addr) (c0_4 : Nat) (l0_4 : List (S41)) (A0_5 : Option Addr) (c0_5 : Nat) (l0_5 : List (S95)) (A1_0 : Option Addr) (c1_0 : Nat) (l1_0 : List Int) (A1_1 : Option Addr) (c1_1 : Nat) (l1_1 : List Int) (A1_2 : Option Addr) (c1_2 : Nat) (l1_2 : List Int) (r1 : List Int) (r2 : Int) (r3 : Int) (r4 : Int) (r5 : Int) (w : World) (hr0_1 : Kd.C k44 w A0_1 l0_1.length l0_1) (hc0_1 : l0_1.length ≤ c0_1) (hr0_2 : Kd.C (Kd.int .i64) w A0_2 l0_2.length l0_2) (hc0_2 : l0_2.length ≤ c0_2) (hr0_3 : Kd.C (Kd.int .i64) w A0_3 l0_3.length l0_3) (hc0_3 : l0_3.length ≤ c0_3) (hr0_4 : Kd.C k41 w A0_4 l0_4.length l0_4) (hc0_4 : l0_4.length ≤ c0_4) (hr0_5 : Kd.C k95 w A0_5 l0_5.length l0_5) (hc0_5 : l0_5.length ≤ c0_5) (hr1_0 : Kd.C (Kd.int .i64) w A1_0 l1_0.length l1_0) (hc1_0 : l1_0.length ≤ c1_0) (hr1_1 : Kd.C (Kd.int .i64) w A1_1 l1_1.length l1_1) (hc1_1 : l1_1.length ≤ c1_1) (hr1_2 : Kd.C (Kd.int .i64) w A1_2 l1_2.length l1_2) (hc1_2 : l1_2.length ≤ c1_2) (h : seep_Pour.f a0_0 l0_1 l0_2 l0_3 l0_4 l0_5 l1_0 l1_1 l1_2 = some (r1, r2, r3, r4, r5)) :
  Calls Try.prog 44 #[.agg #[.int .i64 a0_0, .slice A0_1 l0_1.length c0_1, .slice A0_2 l0_2.length c0_2, .slice A0_3 l0_3.length c0_3, .slice A0_4 l0_4.length c0_4, .slice A0_5 l0_5.length c0_5], .agg #[.slice A1_0 l1_0.length c1_0, .slice A1_1 l1_1.length c1_1, .slice A1_2 l1_2.length c1_2]] w fun e w' => ∃ v0_ : Value, e = .returned (.tuple #[v0_, .agg #[.int .i64 r2, .int .i64 r3, .int .i64 r4], .int .i64 r5]) ∧ Kd.R (Kd.int .i64) 3 w' w.heap.size (fun _ => True) v0_ r1 ∧ Below w.heap.size w w' := by
 have hp : pourR a0_0 l0_1 l0_2 l0_3 l0_4 l0_5 l1_0 l1_1 l1_2 = (r1, r2, r3, r4, r5) := Option.some.inj h
 clear h
 have hu27 := Try.underlying27
 have hu70 := Try.underlying70
 have hu67 := Try.underlying67
 have HB := qab.mk (Below.refl w.heap.size w)
 have HVAL : qab (∀ W, Below w.heap.size w W → Calls Try.prog 66 #[.agg #[.int .i64 a0_0, .slice A0_1 l0_1.length c0_1, .slice A0_2 l0_2.length c0_2, .slice A0_3 l0_3.length c0_3, .slice A0_4 l0_4.length c0_4, .slice A0_5 l0_5.length c0_5]] W fun e w' => e = .returned (.bool (validB a0_0 l0_1 l0_2 l0_3 l0_4 l0_5)) ∧ Below W.heap.size W w') := ⟨fun W hW => seep_valid.calls _ _ _ l0_1 _ _ l0_2 _ _ l0_3 _ _ l0_4 _ _ l0_5 _ W (Kd.qai hr0_1 hW) hc0_1 (Kd.qai hr0_2 hW) hc0_2 (Kd.qai hr0_3 hW) hc0_3 (Kd.qai hr0_4 hW) hc0_4 (Kd.qai hr0_5 hW) hc0_5 rfl⟩
 cases hv : validB a0_0 l0_1 l0_2 l0_3 l0_4 l0_5 with
 | false =>
  have hq : ([], 0, 0, 0, 2) = (r1, r2, r3, r4, r5) := by rw [← hp]; unfold pourR; rw [hv]; rfl
  cases hq
  rw [hv] at HVAL
  clear hp hv hr0_1 hr0_2 hr0_3 hr0_4 hr0_5 hr1_0 hr1_1 hr1_2
  go_enter Try.func44, Try.ntmps44
  go_wp2_with (first | ((with_reducible refine qam (N := 2) rfl ?_); refine ze 2 #[.int .i64 a0_0, .slice A0_1 l0_1.length c0_1, .slice A0_2 l0_2.length c0_2, .slice A0_3 l0_3.length c0_3, .slice A0_4 l0_4.length c0_4, .slice A0_5 l0_5.length c0_5] 27 ?_; intro gb hg_gb w2 hbox hb; have BKgb := qab.mk hbox; have n_HB := qab.mk (qae HB.out hb); have GEgb : w.heap.size ≤ gb := (by rw [hg_gb]; exact HB.out.size); clear HB; have HB := n_HB; clear n_HB; clear hbox hb hg_gb) | ((with_reducible refine qam (N := 3) rfl ?_); refine ze 3 #[.slice A1_0 l1_0.length c1_0, .slice A1_1 l1_1.length c1_1, .slice A1_2 l1_2.length c1_2] 67 ?_; intro gt hg_gt w3 hbox hb; have BKgt := qab.mk hbox; replace BKgb := qab.mk (qad BKgb.out hb); have n_HB := qab.mk (qae HB.out hb); have GEgt : w.heap.size ≤ gt := (by rw [hg_gt]; exact HB.out.size); clear HB; have HB := n_HB; clear n_HB; clear hbox hb hg_gt) | ((with_reducible refine qam (N := 5) rfl ?_); refine ze 5 #[.int .i64 0, .int .i64 0, .int .i64 0] 70 ?_; intro g5 hg_g5 w4 hbox hb; have BKg5 := qab.mk hbox; replace BKgb := qab.mk (qad BKgb.out hb); replace BKgt := qab.mk (qad BKgt.out hb); have n_HB := qab.mk (qae HB.out hb); have GEg5 : w.heap.size ≤ g5 := (by rw [hg_g5]; exact HB.out.size); clear HB; have HB := n_HB; clear n_HB; clear hbox hb hg_g5; obtain ⟨hfgb, hcgb_0, hcgb_1, hcgb_2, hcgb_3, hcgb_4, hcgb_5⟩ := qz6 BKgb.out; obtain ⟨hfgt, hcgt_0, hcgt_1, hcgt_2⟩ := qz3 BKgt.out; obtain ⟨hfg5, hcg5_0, hcg5_1, hcg5_2⟩ := qz3 BKg5.out) | (go_at_call 66; (with_reducible refine (HVAL.out _ HB.out).mono ?_); rintro e wn ⟨rfl, hb⟩; replace BKg5 := qab.mk (qad BKg5.out hb); replace HB := qab.mk (qae HB.out hb); clear hb; obtain ⟨hfg5, hcg5_0, hcg5_1, hcg5_2⟩ := qz3 BKg5.out))
  refine bodyPost_ret (results_tct rfl _ _ g5 70 #[.int .i64 0, .int .i64 0, .int .i64 0] (0, 0) _ rfl (blk_set (blk_set (blk_set BKg5.out 0 _) 1 _) 2 _) hu70 rfl (by kernel_rfl)) rfl ?_
  exact ⟨_, rfl, Kd.R_nil _ _ _ _ _, qaj (qaj (qaj HB.out GEg5) GEg5) GEg5⟩
 | true =>
  have HV := qab.mk (valid_facts hv)
  have hn4 := HV.out.n4
  have hn5 := HV.out.n5
  have HTR : qab (∀ W, Below w.heap.size w W → Calls Try.prog 85 #[.agg #[.int .i64 a0_0, .slice A0_1 l0_1.length c0_1, .slice A0_2 l0_2.length c0_2, .slice A0_3 l0_3.length c0_3, .slice A0_4 l0_4.length c0_4, .slice A0_5 l0_5.length c0_5], .agg #[.slice A1_0 l1_0.length c1_0, .slice A1_1 l1_1.length c1_1, .slice A1_2 l1_2.length c1_2]] W fun e w' => e = .returned (.bool (truthB l0_4 l0_5 l1_0 l1_1 l1_2)) ∧ Below W.heap.size W w') := ⟨fun W hW => truth_calls a0_0 A0_1 c0_1 l0_1 A0_2 c0_2 l0_2 A0_3 c0_3 l0_3 A0_4 c0_4 l0_4 A0_5 c0_5 l0_5 A1_0 c1_0 l1_0 A1_1 c1_1 l1_1 A1_2 c1_2 l1_2 W (Kd.qai hr0_1 hW) hc0_1 (Kd.qai hr0_2 hW) hc0_2 (Kd.qai hr0_3 hW) hc0_3 (Kd.qai hr0_4 hW) hc0_4 (Kd.qai hr0_5 hW) hc0_5 (Kd.qai hr1_0 hW) (Kd.qai hr1_1 hW) (Kd.qai hr1_2 hW) (by omega) (by omega)⟩
  rw [hv] at HVAL
  cases ht : truthB l0_4 l0_5 l1_0 l1_1 l1_2 with
  | false =>
   have hq : ([], 0, 0, 0, 2) = (r1, r2, r3, r4, r5) := by rw [← hp]; unfold pourR; rw [hv, ht]; rfl
   cases hq
   rw [ht] at HTR
   clear hp hv ht hr0_1 hr0_2 hr0_3 hr0_4 hr0_5 hr1_0 hr1_1 hr1_2
   go_enter Try.func44, Try.ntmps44
   go_wp2_with (first | ((with_reducible refine qam (N := 2) rfl ?_); refine ze 2 #[.int .i64 a0_0, .slice A0_1 l0_1.length c0_1, .slice A0_2 l0_2.length c0_2, .slice A0_3 l0_3.length c0_3, .slice A0_4 l0_4.length c0_4, .slice A0_5 l0_5.length c0_5] 27 ?_; intro gb hg_gb w2 hbox hb; have BKgb := qab.mk hbox; have n_HB := qab.mk (qae HB.out hb); have GEgb : w.heap.size ≤ gb := (by rw [hg_gb]; exact HB.out.size); clear HB; have HB := n_HB; clear n_HB; clear hbox hb hg_gb) | ((with_reducible refine qam (N := 3) rfl ?_); refine ze 3 #[.slice A1_0 l1_0.length c1_0, .slice A1_1 l1_1.length c1_1, .slice A1_2 l1_2.length c1_2] 67 ?_; intro gt hg_gt w3 hbox hb; have BKgt := qab.mk hbox; replace BKgb := qab.mk (qad BKgb.out hb); have n_HB := qab.mk (qae HB.out hb); have GEgt : w.heap.size ≤ gt := (by rw [hg_gt]; exact HB.out.size); clear HB; have HB := n_HB; clear n_HB; clear hbox hb hg_gt) | ((with_reducible refine qam (N := 5) rfl ?_); refine ze 5 #[.int .i64 0, .int .i64 0, .int .i64 0] 70 ?_; intro g5 hg_g5 w4 hbox hb; have BKg5 := qab.mk hbox; replace BKgb := qab.mk (qad BKgb.out hb); replace BKgt := qab.mk (qad BKgt.out hb); have n_HB := qab.mk (qae HB.out hb); have GEg5 : w.heap.size ≤ g5 := (by rw [hg_g5]; exact HB.out.size); clear HB; have HB := n_HB; clear n_HB; clear hbox hb hg_g5; obtain ⟨hfgb, hcgb_0, hcgb_1, hcgb_2, hcgb_3, hcgb_4, hcgb_5⟩ := qz6 BKgb.out; obtain ⟨hfgt, hcgt_0, hcgt_1, hcgt_2⟩ := qz3 BKgt.out; obtain ⟨hfg5, hcg5_0, hcg5_1, hcg5_2⟩ := qz3 BKg5.out) | (go_at_call 66; (with_reducible refine (HVAL.out _ HB.out).mono ?_); rintro e wn ⟨rfl, hb⟩; replace BKg5 := qab.mk (qad BKg5.out hb); replace BKgb := qab.mk (qad BKgb.out hb); replace BKgt := qab.mk (qad BKgt.out hb); replace HB := qab.mk (qae HB.out hb); clear hb; obtain ⟨hfg5, hcg5_0, hcg5_1, hcg5_2⟩ := qz3 BKg5.out; obtain ⟨hfgb, hcgb_0, hcgb_1, hcgb_2, hcgb_3, hcgb_4, hcgb_5⟩ := qz6 BKgb.out; obtain ⟨hfgt, hcgt_0, hcgt_1, hcgt_2⟩ := qz3 BKgt.out) | (go_at_call 85; (with_reducible refine (HTR.out _ HB.out).mono ?_); rintro e wo ⟨rfl, hb⟩; replace BKg5 := qab.mk (qad BKg5.out hb); replace HB := qab.mk (qae HB.out hb); clear hb; obtain ⟨hfg5, hcg5_0, hcg5_1, hcg5_2⟩ := qz3 BKg5.out))
   refine bodyPost_ret (results_tct rfl _ _ g5 70 #[.int .i64 0, .int .i64 0, .int .i64 0] (0, 0) _ rfl (blk_set (blk_set (blk_set BKg5.out 0 _) 1 _) 2 _) hu70 rfl (by kernel_rfl)) rfl ?_
   exact ⟨_, rfl, Kd.R_nil _ _ _ _ _, qaj (qaj (qaj HB.out GEg5) GEg5) GEg5⟩
  | true =>
   have HTF := qab.mk (truth_facts ht)
   have hq : ((pourV l0_5 l0_4.length l1_0 l1_1 l1_2).1, l1_1.sum, (pourV l0_5 l0_4.length l1_0 l1_1 l1_2).2.1, (pourV l0_5 l0_4.length l1_0 l1_1 l1_2).2.2, 0) = (r1, r2, r3, r4, r5) := by rw [← hp]; unfold pourR; rw [hv, ht]; rfl
   have HPO : qab (∀ W, Below w.heap.size w W → Calls Try.prog 86 #[.agg #[.int .i64 a0_0, .slice A0_1 l0_1.length c0_1, .slice A0_2 l0_2.length c0_2, .slice A0_3 l0_3.length c0_3, .slice A0_4 l0_4.length c0_4, .slice A0_5 l0_5.length c0_5], .agg #[.slice A1_0 l1_0.length c1_0, .slice A1_1 l1_1.length c1_1, .slice A1_2 l1_2.length c1_2]] W fun e w' => ∃ v, e = .returned (.tuple #[v, .agg #[.int .i64 l1_1.sum, .int .i64 (pourV l0_5 l0_4.length l1_0 l1_1 l1_2).2.1, .int .i64 (pourV l0_5 l0_4.length l1_0 l1_1 l1_2).2.2]]) ∧ Kd.R (Kd.int .i64) 3 w' W.heap.size (fun _ => True) v (pourV l0_5 l0_4.length l1_0 l1_1 l1_2).1 ∧ Below W.heap.size W w') := ⟨fun W hW => pourAll_calls a0_0 A0_1 c0_1 l0_1 A0_2 c0_2 l0_2 A0_3 c0_3 l0_3 A0_4 c0_4 l0_4 A0_5 c0_5 l0_5 A1_0 c1_0 l1_0 A1_1 c1_1 l1_1 A1_2 c1_2 l1_2 W (Kd.qai hr0_1 hW) hc0_1 (Kd.qai hr0_2 hW) hc0_2 (Kd.qai hr0_3 hW) hc0_3 (Kd.qai hr0_4 hW) hc0_4 (Kd.qai hr0_5 hW) hc0_5 (Kd.qai hr1_0 hW) (Kd.qai hr1_1 hW) hc1_1 (Kd.qai hr1_2 hW) HV.out HTF.out⟩
   obtain ⟨P, hP⟩ : ∃ P, P = pourV l0_5 l0_4.length l1_0 l1_1 l1_2 := ⟨_, rfl⟩
   obtain ⟨S, hS⟩ : ∃ S, S = l1_1.sum := ⟨_, rfl⟩
   rw [← hP, ← hS] at hq
   rw [← hP, ← hS] at HPO
   obtain ⟨p1, p2, p3⟩ := P
   dsimp only at hq HPO
   cases hq
   rw [ht] at HTR
   clear hp hv ht hP hS hr0_1 hr0_2 hr0_3 hr0_4 hr0_5 hr1_0 hr1_1 hr1_2
   go_enter Try.func44, Try.ntmps44
   go_upto_region 4 with (first | ((with_reducible refine qam (N := 2) rfl ?_); refine ze 2 #[.int .i64 a0_0, .slice A0_1 l0_1.length c0_1, .slice A0_2 l0_2.length c0_2, .slice A0_3 l0_3.length c0_3, .slice A0_4 l0_4.length c0_4, .slice A0_5 l0_5.length c0_5] 27 ?_; intro gb hg_gb w2 hbox hb; have BKgb := qab.mk hbox; have n_HB := qab.mk (qae HB.out hb); have GEgb : w.heap.size ≤ gb := (by rw [hg_gb]; exact HB.out.size); clear HB; have HB := n_HB; clear n_HB; clear hbox hb hg_gb) | ((with_reducible refine qam (N := 3) rfl ?_); refine ze 3 #[.slice A1_0 l1_0.length c1_0, .slice A1_1 l1_1.length c1_1, .slice A1_2 l1_2.length c1_2] 67 ?_; intro gt hg_gt w3 hbox hb; have BKgt := qab.mk hbox; replace BKgb := qab.mk (qad BKgb.out hb); have n_HB := qab.mk (qae HB.out hb); have GEgt : w.heap.size ≤ gt := (by rw [hg_gt]; exact HB.out.size); clear HB; have HB := n_HB; clear n_HB; clear hbox hb hg_gt) | ((with_reducible refine qam (N := 5) rfl ?_); refine ze 5 #[.int .i64 0, .int .i64 0, .int .i64 0] 70 ?_; intro g5 hg_g5 w4 hbox hb; have BKg5 := qab.mk hbox; replace BKgb := qab.mk (qad BKgb.out hb); replace BKgt := qab.mk (qad BKgt.out hb); have n_HB := qab.mk (qae HB.out hb); have GEg5 : w.heap.size ≤ g5 := (by rw [hg_g5]; exact HB.out.size); clear HB; have HB := n_HB; clear n_HB; clear hbox hb hg_g5; obtain ⟨hfgb, hcgb_0, hcgb_1, hcgb_2, hcgb_3, hcgb_4, hcgb_5⟩ := qz6 BKgb.out; obtain ⟨hfgt, hcgt_0, hcgt_1, hcgt_2⟩ := qz3 BKgt.out; obtain ⟨hfg5, hcg5_0, hcg5_1, hcg5_2⟩ := qz3 BKg5.out) | (go_at_call 66; (with_reducible refine (HVAL.out _ HB.out).mono ?_); rintro e wn ⟨rfl, hb⟩; replace BKg5 := qab.mk (qad BKg5.out hb); replace BKgb := qab.mk (qad BKgb.out hb); replace BKgt := qab.mk (qad BKgt.out hb); replace HB := qab.mk (qae HB.out hb); clear hb; obtain ⟨hfg5, hcg5_0, hcg5_1, hcg5_2⟩ := qz3 BKg5.out; obtain ⟨hfgb, hcgb_0, hcgb_1, hcgb_2, hcgb_3, hcgb_4, hcgb_5⟩ := qz6 BKgb.out; obtain ⟨hfgt, hcgt_0, hcgt_1, hcgt_2⟩ := qz3 BKgt.out) | (go_at_call 85; (with_reducible refine (HTR.out _ HB.out).mono ?_); rintro e wo ⟨rfl, hb⟩; replace BKg5 := qab.mk (qad BKg5.out hb); replace BKgb := qab.mk (qad BKgb.out hb); replace BKgt := qab.mk (qad BKgt.out hb); replace HB := qab.mk (qae HB.out hb); clear hb; obtain ⟨hfg5, hcg5_0, hcg5_1, hcg5_2⟩ := qz3 BKg5.out; obtain ⟨hfgb, hcgb_0, hcgb_1, hcgb_2, hcgb_3, hcgb_4, hcgb_5⟩ := qz6 BKgb.out; obtain ⟨hfgt, hcgt_0, hcgt_1, hcgt_2⟩ := qz3 BKgt.out) | (go_at_call 86; (with_reducible refine (HPO.out _ HB.out).mono ?_); rintro e wp ⟨v, rfl, hR, hb⟩; have HRV := qab.mk (Kd.R_lower hR HB.out.size); clear hR; replace BKg5 := qab.mk (qad BKg5.out hb); replace HB := qab.mk (qae HB.out hb); clear hb; obtain ⟨vA, vn, vc, rfl⟩ := R_shape HRV.out) | ((with_reducible refine qam (N := 8) rfl ?_); refine ze 8 #[.int .i64 0, .int .i64 0, .int .i64 0] 70 ?_; intro g8 hg_g8 w8 hbox hb; have BKg8 := qab.mk hbox; have ne_g5_g8 : g5 ≠ g8 := (by rw [hg_g8]; exact Nat.ne_of_lt (blk_lt BKg5.out)); replace BKg5 := qab.mk (qad BKg5.out hb); have n_HB := qab.mk (qae HB.out hb); have GEg8 : w.heap.size ≤ g8 := (by rw [hg_g8]; exact HB.out.size); clear HB; have HB := n_HB; clear n_HB; obtain ⟨hfg8, hcg8_0, hcg8_1, hcg8_2⟩ := qz3 BKg8.out; replace HRV := qab.mk (Kd.qal HRV.out hb); clear hbox hb hg_g8))
   clear hfg8 hcg8_0 hcg8_1 hcg8_2
   have he_ : setAll w8 g8 [.int .i64 r2, .int .i64 r3, .int .i64 r4] 0 = (((w8.setCell ⟨g8, 0, none⟩ (.int .i64 r2)).setCell ⟨g8, 1, none⟩ (.int .i64 r3)).setCell ⟨g8, 2, none⟩ (.int .i64 r4)) := rfl; have hbl := setAll_below GEg8 [.int .i64 r2, .int .i64 r3, .int .i64 r4] 0 _ HB.out; have hbx : (setAll w8 g8 [.int .i64 r2, .int .i64 r3, .int .i64 r4] 0).heap[g8]? = some (.cells #[.int .i64 r2, .int .i64 r3, .int .i64 r4] 70 (0, 0)) := setAll_new [.int .i64 r2, .int .i64 r3, .int .i64 r4] [.int .i64 0, .int .i64 0, .int .i64 0] BKg8.out rfl; have hx_BKg5 := setAll_far ne_g5_g8 [.int .i64 r2, .int .i64 r3, .int .i64 r4] 0 _ BKg5.out; have hy_HRV := setAll_R (g := g8) (by decide) [.int .i64 r2, .int .i64 r3, .int .i64 r4] 0 w8 _ BKg8.out HRV.out; rw [he_] at hy_HRV hbl hbx hx_BKg5; clear he_; generalize (((w8.setCell ⟨g8, 0, none⟩ (.int .i64 r2)).setCell ⟨g8, 1, none⟩ (.int .i64 r3)).setCell ⟨g8, 2, none⟩ (.int .i64 r4)) = w9 at hy_HRV hbl hbx hx_BKg5 ⊢; clear HB BKg8; have HB := qab.mk hbl; have BKg8 := qab.mk hbx; clear hbl hbx; clear BKg5; have BKg5 := qab.mk hx_BKg5; clear hx_BKg5; clear HRV; have HRV := qab.mk hy_HRV; clear hy_HRV
   clear hfgb hcgb_0 hcgb_1 hcgb_2 hcgb_3 hcgb_4 hcgb_5 hfgt hcgt_0 hcgt_1 hcgt_2 hfg5 hcg5_0 hcg5_1 hcg5_2
   obtain ⟨hfg8, hcg8_0, hcg8_1, hcg8_2⟩ := qz3 BKg8.out
   obtain ⟨hfg5, hcg5_0, hcg5_1, hcg5_2⟩ := qz3 BKg5.out
   go_region
   go_wp2
   have B5 := qaw (blk_set (blk_set (blk_set BKg5.out 0 (.int .i64 r2)) 1 (.int .i64 r3)) 2 (.int .i64 r4))
   have BB := qaq (qaj (j := 2) (v := .int .i64 r4) (qaj (j := 1) (v := .int .i64 r3) (qaj (j := 0) (v := .int .i64 r2) HB.out GEg5) GEg5) GEg5)
   have BR := Kd.R_drew (Kd.R_set (Kd.R_set (Kd.R_set HRV.out BKg5.out (by decide) 0 (.int .i64 r2)) (blk_set BKg5.out 0 (.int .i64 r2)) (by decide) 1 (.int .i64 r3)) (blk_set (blk_set BKg5.out 0 (.int .i64 r2)) 1 (.int .i64 r3)) (by decide) 2 (.int .i64 r4))
   refine bodyPost_ret (results_tct rfl _ _ g5 70 #[.int .i64 r2, .int .i64 r3, .int .i64 r4] (0, 0) _ rfl B5 hu70 rfl (by kernel_rfl)) rfl ?_
   exact ⟨_, rfl, BR, BB⟩
end Go.Proofs.Ytafkanmioinbiaa.SA
