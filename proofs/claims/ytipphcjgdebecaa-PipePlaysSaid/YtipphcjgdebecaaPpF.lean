/- Parts of a proof about the pipe seat's laws: what the functions of the program answer. No condition of its own. -/
import Derived.Test.YtipphcjgdebecaaPpB
import Derived.Test.YtipphcjgdebecaaPpC
import Derived.Test.YtipphcjgdebecaaPpE
import Derived.Test.YtipphcjgdebecaaPpA
import Derived.Test.YtipphcjgdebecaaPpD
set_option linter.all false
namespace Go.Proofs.Ytipphcjgdebecaa.PA
open Go.RowKit Go.Proofs.YtipphcjgdebecaaW.PrintWords Go.Proofs.YtipphcjgdebecaaW.PrintLast Go.Proofs.YtipphcjgdebecaaW.PrintMore
attribute [local go_sem] max2_int min2_int max_two min_two max_three min_three max_four min_four
def lossR (L : S39) (warm : Int) (T : S44) : Int := mn (if T.f2 = true then wrap64 (warm + L.f6) else warm) (wrap64 (Int.tdiv (wrap64 (T.f0 * (wrap64 (warm + T.f1)))) 1000))
def groundR (L : S39) (lost : Int) : Int := wrap64 (Int.tdiv (wrap64 (wrap64 (L.f4 * lost) * L.f5)) 1000)
def stepR (L : S39) (T : S44) (x : Heat4) : Heat4 :=
 (wrap64 (wrap64 (x.1 + feedV L T) - lossR L x.1 T), wrap64 (x.2.1 + wrap64 (L.f4 * feedV L T)), wrap64 (x.2.2.1 + groundR L (lossR L x.1 T)), wrap64 (wrap64 (x.2.2.2 + wrap64 (L.f4 * lossR L x.1 T)) - groundR L (lossR L x.1 T)))
def playR (L : S39) (warm : Int) (l : List S44) : Heat4 := l.foldl (fun x T => stepR L T x) (warm, 0, 0, 0)
theorem fold_round {α β : Type} (f : β → α → β) (l : List α) (d : α) (k : Nat) (hk : k < l.length) (x : β) : (l.drop k).foldl f x = (l.drop (k + 1)).foldl f (f x (l.getD k d)) := by
 rw [List.drop_eq_getElem_cons hk, List.foldl_cons]
 simp [hk]
theorem rloss_calls (L : S39) (warm : Int) (T : S44) (W : World) : Calls Try.prog 61 #[.agg #[.int .i64 L.f0.f0, .int .i64 L.f0.f1, .int .i64 L.f1.f0, .int .i64 L.f1.f1, .int .i64 L.f2.f0, .int .i64 L.f2.f1, .int .i64 L.f3, .int .i64 L.f4, .int .i64 L.f5, .int .i64 L.f6, .int .i64 L.f7.f0, .int .i64 L.f7.f1], .int .i64 warm, .agg #[.int .i64 T.f0, .int .i64 T.f1, .bool T.f2]] W fun e w' => e = .returned (.int .i64 (lossR L warm T)) ∧ Below W.heap.size W w' :=
 talikref04_Loss.calls _ _ _ _ _ _ _ _ _ _ _ _ warm _ _ T.f2 _ W (by unfold talikref04_Loss.f lossR; cases T.f2 <;> rfl)
structure RI (w : World) (g3 g6 g7 : Nat) (L : S39) (x : Heat4) (W : World) : Prop where
 l : W.heap[g3]? = some (.cells #[.int .i64 L.f0.f0, .int .i64 L.f0.f1, .int .i64 L.f1.f0, .int .i64 L.f1.f1, .int .i64 L.f2.f0, .int .i64 L.f2.f1, .int .i64 L.f3, .int .i64 L.f4, .int .i64 L.f5, .int .i64 L.f6, .int .i64 L.f7.f0, .int .i64 L.f7.f1] 39 (0, 0))
 r : W.heap[g6]? = some (.cells #[.int .i64 0, .int .i64 0, .int .i64 0, .int .i64 0] 31 (0, 0))
 o : W.heap[g7]? = some (.cells #[.int .i64 x.1, .int .i64 x.2.1, .int .i64 x.2.2.1, .int .i64 x.2.2.2] 31 (0, 0))
 hb : Below w.heap.size w W
 ge : w.heap.size ≤ g7
 ne : g6 ≠ g7
theorem RI.below {w W W' : World} {g3 g6 g7 : Nat} {L : S39} {x : Heat4} (h : RI w g3 g6 g7 L x W) (hb : Below W.heap.size W W') : RI w g3 g6 g7 L x W' :=
 ⟨qah h.l hb, qah h.r hb, qah h.o hb, qag h.hb hb, h.ge, h.ne⟩
def talikref04_Play.T5 : Bool × List (List Nat × List Nat) := (true, [([], []), ([], []), ([1], [1]), ([], []), ([], []), ([3, 4], [3, 4]), ([5], [5]), ([0, 2, 6], [0, 2, 6]), ([7, 7, 0, 1, 2, 3, 4, 5, 6, 7], [7])])
def talikref04_Play.B5 : List Nat := [0, 0, 2, 0, 0, 24, 56, 127, 255]
theorem talikref04_Play.tab5 : rtab .any (opsOf Try.f22 5) = talikref04_Play.T5 := by kernel_rfl
theorem talikref04_Play.bits5 : waitsOk talikref04_Play.T5.2 talikref04_Play.B5 = true := by kernel_rfl
def talikref04_Play.f (a0_0 : Int) (a0_1 : Int) (a0_2 : Int) (a0_3 : Int) (a0_4 : Int) (a0_5 : Int) (a0_6 : Int) (a0_7 : Int) (a0_8 : Int) (a0_9 : Int) (a0_10 : Int) (a0_11 : Int) (a1 : Int) (l2 : List (S44)) : Option (Int × Int × Int × Int) := some (playR ⟨⟨a0_0, a0_1⟩, ⟨a0_2, a0_3⟩, ⟨a0_4, a0_5⟩, a0_6, a0_7, a0_8, a0_9, ⟨a0_10, a0_11⟩⟩ a1 l2)
set_option maxHeartbeats 4000000 in
set_option maxRecDepth 100000 in
theorem talikref04_Play.calls (a0_0 : Int) (a0_1 : Int) (a0_2 : Int) (a0_3 : Int) (a0_4 : Int) (a0_5 : Int) (a0_6 : Int) (a0_7 : Int) (a0_8 : Int) (a0_9 : Int) (a0_10 : Int) (a0_11 : Int) (a1 : Int) (A2 : Option Addr) (c2 : Nat) (l2 : List (S44)) (r1 : Int) (r2 : Int) (r3 : Int) (r4 : Int) (w : World) (hr2 : Kd.C k44 w A2 l2.length l2) (hc2 : l2.length ≤ c2) (h : talikref04_Play.f a0_0 a0_1 a0_2 a0_3 a0_4 a0_5 a0_6 a0_7 a0_8 a0_9 a0_10 a0_11 a1 l2 = some (r1, r2, r3, r4)) :
  Calls Try.prog 22 #[.agg #[.int .i64 a0_0, .int .i64 a0_1, .int .i64 a0_2, .int .i64 a0_3, .int .i64 a0_4, .int .i64 a0_5, .int .i64 a0_6, .int .i64 a0_7, .int .i64 a0_8, .int .i64 a0_9, .int .i64 a0_10, .int .i64 a0_11], .int .i64 a1, .slice A2 l2.length c2] w fun e w' => e = .returned (.agg #[.int .i64 r1, .int .i64 r2, .int .i64 r3, .int .i64 r4]) ∧ Below w.heap.size w w' := by
 have h' := Option.some.inj h
 clear h
 have HF := qab.mk h'
 clear h'
 have hu31 := Try.underlying31
 have hu39 := Try.underlying39
 have hu44 := Try.underlying44
 have hu37 := Try.underlying37
 have HB := qab.mk (Below.refl w.heap.size w)
 have HR2 := qab.mk hr2
 have hm2 := Kd.C_max hr2
 clear hr2
 obtain ⟨L, hL⟩ : ∃ L : S39, L = ⟨⟨a0_0, a0_1⟩, ⟨a0_2, a0_3⟩, ⟨a0_4, a0_5⟩, a0_6, a0_7, a0_8, a0_9, ⟨a0_10, a0_11⟩⟩ := ⟨_, rfl⟩
 have HL := qab.mk hL
 rw [← hL] at HF
 rw [show a0_0 = L.f0.f0 from by rw [hL], show a0_1 = L.f0.f1 from by rw [hL], show a0_2 = L.f1.f0 from by rw [hL], show a0_3 = L.f1.f1 from by rw [hL], show a0_4 = L.f2.f0 from by rw [hL], show a0_5 = L.f2.f1 from by rw [hL], show a0_6 = L.f3 from by rw [hL], show a0_7 = L.f4 from by rw [hL], show a0_8 = L.f5 from by rw [hL], show a0_9 = L.f6 from by rw [hL], show a0_10 = L.f7.f0 from by rw [hL], show a0_11 = L.f7.f1 from by rw [hL]]
 clear hL HL
 go_enter Try.func22, Try.ntmps22
 go_upto_region 2 with (first | ((with_reducible refine qar (N := 3) rfl ?_); refine qap ?hg (N := 3) ?hd (cs := #[.int .i64 L.f0.f0, .int .i64 L.f0.f1, .int .i64 L.f1.f0, .int .i64 L.f1.f1, .int .i64 L.f2.f0, .int .i64 L.f2.f1, .int .i64 L.f3, .int .i64 L.f4, .int .i64 L.f5, .int .i64 L.f6, .int .i64 L.f7.f0, .int .i64 L.f7.f1]) (t := 39) ?hr ?_; (case hd => rfl); (case hg => rfl); (case hr => first | (go_simp; done) | (go_simp; rfl)); intro g3 hg_g3 w2 hbox hb; have BKg3 := qab.mk hbox; have n_HB := qab.mk (qag HB.out hb); have GEg3 : w.heap.size ≤ g3 := (by rw [hg_g3]; exact HB.out.size); clear HB; have HB := n_HB; clear n_HB; have hfg3 := qac BKg3.out; have hcg3_0 : w2.cell? ⟨g3, 0, none⟩ = some (.int .i64 L.f0.f0) := (qaa BKg3.out 0).trans rfl; have hcg3_1 : w2.cell? ⟨g3, 1, none⟩ = some (.int .i64 L.f0.f1) := (qaa BKg3.out 1).trans rfl; have hcg3_2 : w2.cell? ⟨g3, 2, none⟩ = some (.int .i64 L.f1.f0) := (qaa BKg3.out 2).trans rfl; have hcg3_3 : w2.cell? ⟨g3, 3, none⟩ = some (.int .i64 L.f1.f1) := (qaa BKg3.out 3).trans rfl; have hcg3_4 : w2.cell? ⟨g3, 4, none⟩ = some (.int .i64 L.f2.f0) := (qaa BKg3.out 4).trans rfl; have hcg3_5 : w2.cell? ⟨g3, 5, none⟩ = some (.int .i64 L.f2.f1) := (qaa BKg3.out 5).trans rfl; have hcg3_6 : w2.cell? ⟨g3, 6, none⟩ = some (.int .i64 L.f3) := (qaa BKg3.out 6).trans rfl; have hcg3_7 : w2.cell? ⟨g3, 7, none⟩ = some (.int .i64 L.f4) := (qaa BKg3.out 7).trans rfl; have hcg3_8 : w2.cell? ⟨g3, 8, none⟩ = some (.int .i64 L.f5) := (qaa BKg3.out 8).trans rfl; have hcg3_9 : w2.cell? ⟨g3, 9, none⟩ = some (.int .i64 L.f6) := (qaa BKg3.out 9).trans rfl; have hcg3_10 : w2.cell? ⟨g3, 10, none⟩ = some (.int .i64 L.f7.f0) := (qaa BKg3.out 10).trans rfl; have hcg3_11 : w2.cell? ⟨g3, 11, none⟩ = some (.int .i64 L.f7.f1) := (qaa BKg3.out 11).trans rfl; clear hbox hb hg_g3) | ((with_reducible refine qar (N := 6) rfl ?_); refine qap ?hg (N := 6) ?hd (cs := #[.int .i64 0, .int .i64 0, .int .i64 0, .int .i64 0]) (t := 31) ?hr ?_; (case hd => rfl); (case hg => rfl); (case hr => first | (go_simp; done) | (go_simp; rfl)); intro g6 hg_g6 w3 hbox hb; have BKg6 := qab.mk hbox; have n_BKg3 := qab.mk (qah BKg3.out hb); clear BKg3; have BKg3 := n_BKg3; clear n_BKg3; have n_HB := qab.mk (qag HB.out hb); have GEg6 : w.heap.size ≤ g6 := (by rw [hg_g6]; exact HB.out.size); clear HB; have HB := n_HB; clear n_HB; have hfg6 := qac BKg6.out; have hcg6_0 : w3.cell? ⟨g6, 0, none⟩ = some (.int .i64 0) := (qaa BKg6.out 0).trans rfl; have hcg6_1 : w3.cell? ⟨g6, 1, none⟩ = some (.int .i64 0) := (qaa BKg6.out 1).trans rfl; have hcg6_2 : w3.cell? ⟨g6, 2, none⟩ = some (.int .i64 0) := (qaa BKg6.out 2).trans rfl; have hcg6_3 : w3.cell? ⟨g6, 3, none⟩ = some (.int .i64 0) := (qaa BKg6.out 3).trans rfl; clear hbox hb hg_g6) | ((with_reducible refine qar (N := 7) rfl ?_); refine qap ?hg (N := 7) ?hd (cs := #[.int .i64 0, .int .i64 0, .int .i64 0, .int .i64 0]) (t := 31) ?hr ?_; (case hd => rfl); (case hg => rfl); (case hr => first | (go_simp; done) | (go_simp; rfl)); intro g7 hg_g7 w4 hbox hb; have BKg7 := qab.mk hbox; have ne_g3_g7 : g3 ≠ g7 := (by rw [hg_g7]; exact Nat.ne_of_lt (blk_lt BKg3.out)); have ne_g6_g7 : g6 ≠ g7 := (by rw [hg_g7]; exact Nat.ne_of_lt (blk_lt BKg6.out)); have n_BKg3 := qab.mk (qah BKg3.out hb); clear BKg3; have BKg3 := n_BKg3; clear n_BKg3; have n_BKg6 := qab.mk (qah BKg6.out hb); clear BKg6; have BKg6 := n_BKg6; clear n_BKg6; have n_HB := qab.mk (qag HB.out hb); have GEg7 : w.heap.size ≤ g7 := (by rw [hg_g7]; exact HB.out.size); clear HB; have HB := n_HB; clear n_HB; have hfg7 := qac BKg7.out; have hcg7_0 : w4.cell? ⟨g7, 0, none⟩ = some (.int .i64 0) := (qaa BKg7.out 0).trans rfl; have hcg7_1 : w4.cell? ⟨g7, 1, none⟩ = some (.int .i64 0) := (qaa BKg7.out 1).trans rfl; have hcg7_2 : w4.cell? ⟨g7, 2, none⟩ = some (.int .i64 0) := (qaa BKg7.out 2).trans rfl; have hcg7_3 : w4.cell? ⟨g7, 3, none⟩ = some (.int .i64 0) := (qaa BKg7.out 3).trans rfl; clear hbox hb hg_g7))
 have he_ : setAll w4 g7 [.int .i64 a1, .int .i64 0, .int .i64 0, .int .i64 0] 0 = ((((w4.setCell ⟨g7, 0, none⟩ (.int .i64 a1)).setCell ⟨g7, 1, none⟩ (.int .i64 0)).setCell ⟨g7, 2, none⟩ (.int .i64 0)).setCell ⟨g7, 3, none⟩ (.int .i64 0)) := rfl; have hbl := setAll_below GEg7 [.int .i64 a1, .int .i64 0, .int .i64 0, .int .i64 0] 0 _ HB.out; have hbx : (setAll w4 g7 [.int .i64 a1, .int .i64 0, .int .i64 0, .int .i64 0] 0).heap[g7]? = some (.cells #[.int .i64 a1, .int .i64 0, .int .i64 0, .int .i64 0] 31 (0, 0)) := setAll_new [.int .i64 a1, .int .i64 0, .int .i64 0, .int .i64 0] [.int .i64 0, .int .i64 0, .int .i64 0, .int .i64 0] BKg7.out rfl; have hx_BKg3 := setAll_far ne_g3_g7 [.int .i64 a1, .int .i64 0, .int .i64 0, .int .i64 0] 0 _ BKg3.out; have hx_BKg6 := setAll_far ne_g6_g7 [.int .i64 a1, .int .i64 0, .int .i64 0, .int .i64 0] 0 _ BKg6.out; rw [he_] at hbl hbx hx_BKg3 hx_BKg6; clear he_; generalize ((((w4.setCell ⟨g7, 0, none⟩ (.int .i64 a1)).setCell ⟨g7, 1, none⟩ (.int .i64 0)).setCell ⟨g7, 2, none⟩ (.int .i64 0)).setCell ⟨g7, 3, none⟩ (.int .i64 0)) = w5 at hbl hbx hx_BKg3 hx_BKg6 ⊢; clear HB BKg7; have HB := qab.mk hbl; have BKg7 := qab.mk hbx; clear hbl hbx; clear BKg3; have BKg3 := qab.mk hx_BKg3; clear hx_BKg3; clear BKg6; have BKg6 := qab.mk hx_BKg6; clear hx_BKg6
 have HT : qab (RI w g3 g6 g7 L (a1, 0, 0, 0) w5) := ⟨⟨BKg3.out, BKg6.out, BKg7.out, HB.out, GEg7, ne_g6_g7⟩⟩
 clear BKg3 BKg6 BKg7 HB hfg3 hfg6 hfg7 hcg3_0 hcg3_1 hcg3_2 hcg3_3 hcg3_4 hcg3_5 hcg3_6 hcg3_7 hcg3_8 hcg3_9 hcg3_10 hcg3_11 hcg6_0 hcg6_1 hcg6_2 hcg6_3 hcg7_0 hcg7_1 hcg7_2 hcg7_3
 have HF0 : qab ((l2.drop 0).foldl (fun x T => stepR L T x) (a1, 0, 0, 0) = (r1, r2, r3, r4)) := ⟨by rw [List.drop_zero]; exact HF.out⟩
 clear HF
 go_wp2_with fail
 go_loopw [8] (fun s8 wr => ∃ (k : Nat) (x : Heat4), k ≤ l2.length ∧ s8 = .int .i64 k ∧ qab ((l2.drop k).foldl (fun x T => stepR L T x) x = (r1, r2, r3, r4)) ∧ qab (RI w g3 g6 g7 L x wr)) (fun s _ => l2.length - (intOf s).toNat)
 case atStart => exact ⟨0, (a1, 0, 0, 0), by omega, rfl, HF0, HT⟩
 case round =>
  clear HT HF0
  obtain ⟨k, x, hk, rfl, HF, HT⟩ := hrel
  by_cases hlt : k < l2.length
  ·
   have hki : (k : Int) < l2.length := by omega
   have hk0 : (0 : Int) ≤ k := by omega
   obtain ⟨ad, e, ht0, ht1, ht2⟩ := at_T44 HR2.out k (by omega) hki
   cases e
   simp only [Int.toNat_natCast] at ht0 ht1 ht2
   have hrd := fold_round (fun x T => stepR L T x) l2 z44 k hlt x
   rw [show l2.getD k z44 = rd_T44 l2 (k : Int) from by simp [rd_T44]] at hrd
   have HD : qab ((l2.drop (k + 1)).foldl (fun x T => stepR L T x) (stepR L (rd_T44 l2 (k : Int)) x) = (r1, r2, r3, r4)) := ⟨by rw [← hrd]; exact HF.out⟩
   clear hrd HF
   generalize rd_T44 l2 (k : Int) = T at HD ht0 ht1 ht2
   have htup : ∀ W, RI w g3 g6 g7 L x W → (W.cell? ⟨g3, 0, none⟩ = some (.int .i64 L.f0.f0) ∧ W.cell? ⟨g3, 1, none⟩ = some (.int .i64 L.f0.f1) ∧ W.cell? ⟨g3, 2, none⟩ = some (.int .i64 L.f1.f0) ∧ W.cell? ⟨g3, 3, none⟩ = some (.int .i64 L.f1.f1) ∧ W.cell? ⟨g3, 4, none⟩ = some (.int .i64 L.f2.f0) ∧ W.cell? ⟨g3, 5, none⟩ = some (.int .i64 L.f2.f1) ∧ W.cell? ⟨g3, 6, none⟩ = some (.int .i64 L.f3) ∧ W.cell? ⟨g3, 7, none⟩ = some (.int .i64 L.f4) ∧ W.cell? ⟨g3, 8, none⟩ = some (.int .i64 L.f5) ∧ W.cell? ⟨g3, 9, none⟩ = some (.int .i64 L.f6) ∧ W.cell? ⟨g3, 10, none⟩ = some (.int .i64 L.f7.f0) ∧ W.cell? ⟨g3, 11, none⟩ = some (.int .i64 L.f7.f1) ∧ W.cell? ⟨g7, 0, none⟩ = some (.int .i64 x.1) ∧ W.cell? (ad.add (k * 3)) = some (.int .i64 T.f0) ∧ W.cell? ⟨(ad.add (k * 3)).block, (ad.add (k * 3)).off + 1, none⟩ = some (.int .i64 T.f1) ∧ W.cell? ⟨(ad.add (k * 3)).block, (ad.add (k * 3)).off + 2, none⟩ = some (.bool T.f2) ∧ qab (RI w g3 g6 g7 L x W)) := fun W h =>
    ⟨qaa h.l 0, qaa h.l 1, qaa h.l 2, qaa h.l 3, qaa h.l 4, qaa h.l 5, qaa h.l 6, qaa h.l 7, qaa h.l 8, qaa h.l 9, qaa h.l 10, qaa h.l 11, qaa h.o 0, (h.hb.cell (World.block_lt_of_cell? w _ ht0)).trans ht0, (h.hb.cell (World.block_lt_of_cell? w _ ht1)).trans ht1, (h.hb.cell (World.block_lt_of_cell? w _ ht2)).trans ht2, ⟨h⟩⟩
   have HTUP := qab.mk htup
   clear htup ht0 ht1 ht2
   have HP1 := qab.mk (HTUP.out _ (HT.out.below (below_drew (Below.refl wr.heap.size wr))))
   clear HT
   go_upto_region 5 with fail
   refine start_ (n := 9) (S := fun w' => w'.cell? ⟨g3, 0, none⟩ = some (.int .i64 L.f0.f0) ∧ w'.cell? ⟨g3, 1, none⟩ = some (.int .i64 L.f0.f1) ∧ w'.cell? ⟨g3, 2, none⟩ = some (.int .i64 L.f1.f0) ∧ w'.cell? ⟨g3, 3, none⟩ = some (.int .i64 L.f1.f1) ∧ w'.cell? ⟨g3, 4, none⟩ = some (.int .i64 L.f2.f0) ∧ w'.cell? ⟨g3, 5, none⟩ = some (.int .i64 L.f2.f1) ∧ w'.cell? ⟨g3, 6, none⟩ = some (.int .i64 L.f3) ∧ w'.cell? ⟨g3, 7, none⟩ = some (.int .i64 L.f4) ∧ w'.cell? ⟨g3, 8, none⟩ = some (.int .i64 L.f5) ∧ w'.cell? ⟨g3, 9, none⟩ = some (.int .i64 L.f6) ∧ w'.cell? ⟨g3, 10, none⟩ = some (.int .i64 L.f7.f0) ∧ w'.cell? ⟨g3, 11, none⟩ = some (.int .i64 L.f7.f1) ∧ w'.cell? ⟨g7, 0, none⟩ = some (.int .i64 x.1) ∧ w'.cell? (ad.add (k * 3)) = some (.int .i64 T.f0) ∧ w'.cell? ⟨(ad.add (k * 3)).block, (ad.add (k * 3)).off + 1, none⟩ = some (.int .i64 T.f1) ∧ w'.cell? ⟨(ad.add (k * 3)).block, (ad.add (k * 3)).off + 2, none⟩ = some (.bool T.f2) ∧ qab (RI w g3 g6 g7 L x w')) (ds := []) (msk 9 0) (by kernel_rfl) rfl (by kernel_rfl) HP1.out (fun hHeld => ?_); refine with_tabW talikref04_Play.tab5 talikref04_Play.bits5 (fun HT_ HW_ => ?_)
   refine take_ (i := 0) (N := some 20) (v := ?_) (a' := ?_) (msk 9 1) rfl rfl (take_ofW HT_.out HW_.out (by kernel_rfl)) (fun _ _ _ h => h) (Or.inl ⟨by rfl, ?_⟩) hHeld ?_ ?_; rotate_left; (focus (rintro w' ⟨s0, s1, s2, s3, s4, s5, s6, s7, s8, s9, s10, s11, s12, s13, s14, s15, s16⟩; go_simp; with_reducible rfl)); rotate_left; (focus (simp only [Act.put, List.setIfInBounds_toArray, List.set_cons_zero, List.set_cons_succ, i64_w, i32_w]; rfl))
   refine pure_ (i := 1) (N := some 21) (v := ?_) (a' := ?_) (msk 9 2) rfl rfl (qaq HT_.out (by kernel_rfl)) (fun _ _ _ h => h) (Or.inl ⟨by rfl, ?_⟩) ?_ ?_; rotate_left; (focus (intro w'; go_simp; with_reducible rfl)); rotate_left; (focus (simp only [Act.put, List.setIfInBounds_toArray, List.set_cons_zero, List.set_cons_succ, i64_w, i32_w]; rfl))
   refine take_ (i := 2) (N := some 22) (v := ?_) (a' := ?_) (msk 9 3) rfl rfl (take_ofW HT_.out HW_.out (by kernel_rfl)) (fun _ _ _ h => h) (Or.inl ⟨by rfl, ?_⟩) hHeld ?_ ?_; rotate_left; (focus (rintro w' ⟨s0, s1, s2, s3, s4, s5, s6, s7, s8, s9, s10, s11, s12, s13, s14, s15, s16⟩; go_simp; with_reducible rfl)); rotate_left; (focus (simp only [Act.put, List.setIfInBounds_toArray, List.set_cons_zero, List.set_cons_succ, i64_w, i32_w]; rfl))
   refine pure_ (i := 3) (N := some 23) (v := ?_) (a' := ?_) (msk 9 4) rfl rfl (qaq HT_.out (by kernel_rfl)) (fun _ _ _ h => h) (Or.inl ⟨by rfl, ?_⟩) ?_ ?_; rotate_left; (focus (intro w'; go_simp; with_reducible rfl)); rotate_left; (focus (simp only [Act.put, List.setIfInBounds_toArray, List.set_cons_zero, List.set_cons_succ, i64_w, i32_w]; rfl))
   refine pure_ (i := 4) (N := some 24) (v := ?_) (a' := ?_) (msk 9 5) rfl rfl (qaq HT_.out (by kernel_rfl)) (fun _ _ _ h => h) (Or.inl ⟨by rfl, ?_⟩) ?_ ?_; rotate_left; (focus (intro w'; go_simp; with_reducible rfl)); rotate_left; (focus (simp only [Act.put, List.setIfInBounds_toArray, List.set_cons_zero, List.set_cons_succ, i64_w, i32_w]; rfl))
   refine pure_ (i := 5) (N := some 25) (v := ?_) (a' := ?_) (msk 9 6) rfl rfl (qaq HT_.out (by kernel_rfl)) (fun _ _ _ h => h) (Or.inl ⟨by rfl, ?_⟩) ?_ ?_; rotate_left; (focus (intro w'; go_simp; with_reducible rfl)); rotate_left; (focus (simp only [Act.put, List.setIfInBounds_toArray, List.set_cons_zero, List.set_cons_succ, i64_w, i32_w]; rfl))
   refine take_ (i := 6) (N := some 26) (v := ?_) (a' := ?_) (msk 9 7) rfl rfl (take_ofW HT_.out HW_.out (by kernel_rfl)) (fun _ _ _ h => h) (Or.inl ⟨by rfl, ?_⟩) hHeld ?_ ?_; rotate_left; (focus (rintro w' ⟨s0, s1, s2, s3, s4, s5, s6, s7, s8, s9, s10, s11, s12, s13, s14, s15, s16⟩; go_simp; with_reducible rfl)); rotate_left; (focus (simp only [Act.put, List.setIfInBounds_toArray, List.set_cons_zero, List.set_cons_succ, i64_w, i32_w]; rfl))
   refine one_ (i := 7) (N := some 27) (msk 9 8) rfl rfl (one_of HT_.out (by kernel_rfl)) (by decide) (fun K hK => ?_)
   refine goes_ Try.func61 (by kernel_rfl) rfl #[.agg #[.int .i64 L.f0.f0, .int .i64 L.f0.f1, .int .i64 L.f1.f0, .int .i64 L.f1.f1, .int .i64 L.f2.f0, .int .i64 L.f2.f1, .int .i64 L.f3, .int .i64 L.f4, .int .i64 L.f5, .int .i64 L.f6, .int .i64 L.f7.f0, .int .i64 L.f7.f1], .int .i64 x.1, .agg #[.int .i64 T.f0, .int .i64 T.f1, .bool T.f2]] (by rfl) rfl rfl (by (try simp only [List.map_toArray, List.map_cons, List.map_nil]); first | done | rfl | (simp only [List.length_drop, List.length_take]; rfl)) ?_
   refine (rloss_calls L x.1 T _).mono ?_; rintro e w8 ⟨rfl, hb⟩; have HP2 := qab.mk (HTUP.out w8 (RI.below hHeld.2.2.2.2.2.2.2.2.2.2.2.2.2.2.2.2.out hb)); clear hb; refine ⟨_, rfl, ?_⟩; refine hK.out _ _ HP2.out (fun hHeld => ?_); clear hK K; refine norm_ (a' := ?_) ?_ ?_; rotate_left; (focus (show Act.put _ (some 27) _ = _; simp only [Act.put, List.setIfInBounds_toArray, List.set_cons_zero, List.set_cons_succ, i64_w, i32_w]; rfl))
   refine pure_ (i := 8) (N := some 9) (v := ?_) (a' := ?_) (msk 9 9) rfl rfl (qaq HT_.out (by kernel_rfl)) (fun _ _ _ h => h) (Or.inl ⟨by rfl, ?_⟩) ?_ ?_; rotate_left; (focus (intro w'; go_simp; with_reducible rfl)); rotate_left; (focus (simp only [Act.put, List.setIfInBounds_toArray, List.set_cons_zero, List.set_cons_succ, i64_w, i32_w]; rfl))
   refine done_ (done_of HT_.out (by kernel_rfl)) ?_
   have HT := qab.mk HP2.out.2.2.2.2.2.2.2.2.2.2.2.2.2.2.2.2.out
   have ht2 := HP2.out.2.2.2.2.2.2.2.2.2.2.2.2.2.2.2.1
   clear HP1 HP2 HTUP
   obtain ⟨feed, hfe⟩ : ∃ feed, feed = feedV L T := ⟨_, rfl⟩
   have HFE := qab.mk hfe
   obtain ⟨lost, hlo⟩ : ∃ lost, lost = lossR L x.1 T := ⟨_, rfl⟩
   rw [← hlo]
   have HLO := qab.mk hlo
   clear hfe hlo
   go_upto_if 32 with (fail)
   go_cut [10] (fun v10 wc => v10 = .int .i64 feed ∧ qab (RI w g3 g6 g7 L x wc))
   case first =>
    cases hfd : T.f2 with
    | true =>
     have he : L.f6 = feed := by rw [HFE.out]; unfold feedV; rw [if_pos hfd]
     clear hfd ht2
     have h_l9 : w8.cell? ⟨g3, 9, none⟩ = some (.int .i64 L.f6) := (qaa HT.out.l 9).trans rfl
     go_wp2_with fail
     go_meet
     case rel => exact ⟨by first | rfl | rw [he], HT⟩
    | false =>
     have he : 0 = feed := by rw [HFE.out]; unfold feedV; rw [if_neg (by rw [hfd]; decide)]
     clear hfd ht2
     go_wp2_with fail
     go_meet
     case rel => exact ⟨by first | rfl | rw [he], HT⟩
   case rest =>
    clear HT ht2
    obtain ⟨rfl, HT⟩ := hcut
    obtain ⟨ground, hgr⟩ : ∃ ground, ground = groundR L lost := ⟨_, rfl⟩
    have HGR := qab.mk hgr
    unfold groundR at hgr
    have h_l7 : wc.cell? ⟨g3, 7, none⟩ = some (.int .i64 L.f4) := (qaa HT.out.l 7).trans rfl; have h_l8 : wc.cell? ⟨g3, 8, none⟩ = some (.int .i64 L.f5) := (qaa HT.out.l 8).trans rfl
    go_upto_region 10 with fail
    rw [← hgr]
    clear hgr
    have h_o0 : wc.cell? ⟨g7, 0, none⟩ = some (.int .i64 x.1) := (qaa HT.out.o 0).trans rfl; have h_o1 : wc.cell? ⟨g7, 1, none⟩ = some (.int .i64 x.2.1) := (qaa HT.out.o 1).trans rfl; have h_o2 : wc.cell? ⟨g7, 2, none⟩ = some (.int .i64 x.2.2.1) := (qaa HT.out.o 2).trans rfl; have h_o3 : wc.cell? ⟨g7, 3, none⟩ = some (.int .i64 x.2.2.2) := (qaa HT.out.o 3).trans rfl; have hf_o := qac HT.out.o
    have hw1 : IntKind.i64.wrap ((k : Int) + 1) = (k : Int) + 1 := by rw [i64_w]; unfold wrap64; omega
    go_upto_region 4 with fail
    have hy : RI w g3 g6 g7 L (wrap64 (wrap64 (x.1 + feed) - lost), wrap64 (x.2.1 + wrap64 (L.f4 * feed)), wrap64 (x.2.2.1 + ground), wrap64 (wrap64 (x.2.2.2 + wrap64 (L.f4 * lost)) - ground)) (setAll wc g7 [.int .i64 (wrap64 (wrap64 (x.1 + feed) - lost)), .int .i64 (wrap64 (x.2.1 + wrap64 (L.f4 * feed))), .int .i64 (wrap64 (x.2.2.1 + ground)), .int .i64 (wrap64 (wrap64 (x.2.2.2 + wrap64 (L.f4 * lost)) - ground))] 0) :=
     ⟨setAll_far (blk_ne HT.out.l HT.out.o (by decide)) _ _ _ HT.out.l, setAll_far HT.out.ne _ _ _ HT.out.r, setAll_new [.int .i64 (wrap64 (wrap64 (x.1 + feed) - lost)), .int .i64 (wrap64 (x.2.1 + wrap64 (L.f4 * feed))), .int .i64 (wrap64 (x.2.2.1 + ground)), .int .i64 (wrap64 (wrap64 (x.2.2.2 + wrap64 (L.f4 * lost)) - ground))] [.int .i64 x.1, .int .i64 x.2.1, .int .i64 x.2.2.1, .int .i64 x.2.2.2] HT.out.o rfl, setAll_below HT.out.ge _ _ _ HT.out.hb, HT.out.ge, HT.out.ne⟩
    have he_ : setAll wc g7 [.int .i64 (wrap64 (wrap64 (x.1 + feed) - lost)), .int .i64 (wrap64 (x.2.1 + wrap64 (L.f4 * feed))), .int .i64 (wrap64 (x.2.2.1 + ground)), .int .i64 (wrap64 (wrap64 (x.2.2.2 + wrap64 (L.f4 * lost)) - ground))] 0 = ((((wc.setCell ⟨g7, 0, none⟩ (.int .i64 (wrap64 (wrap64 (x.1 + feed) - lost)))).setCell ⟨g7, 1, none⟩ (.int .i64 (wrap64 (x.2.1 + wrap64 (L.f4 * feed))))).setCell ⟨g7, 2, none⟩ (.int .i64 (wrap64 (x.2.2.1 + ground)))).setCell ⟨g7, 3, none⟩ (.int .i64 (wrap64 (wrap64 (x.2.2.2 + wrap64 (L.f4 * lost)) - ground)))) := rfl
    rw [he_] at hy
    clear he_ h_o0 h_o1 h_o2 h_o3 hf_o
    generalize ((((wc.setCell ⟨g7, 0, none⟩ (.int .i64 (wrap64 (wrap64 (x.1 + feed) - lost)))).setCell ⟨g7, 1, none⟩ (.int .i64 (wrap64 (x.2.1 + wrap64 (L.f4 * feed))))).setCell ⟨g7, 2, none⟩ (.int .i64 (wrap64 (x.2.2.1 + ground)))).setCell ⟨g7, 3, none⟩ (.int .i64 (wrap64 (wrap64 (x.2.2.2 + wrap64 (L.f4 * lost)) - ground)))) = w9 at hy ⊢
    have hfin : (l2.drop (k + 1)).foldl (fun x T => stepR L T x) (wrap64 (wrap64 (x.1 + feed) - lost), wrap64 (x.2.1 + wrap64 (L.f4 * feed)), wrap64 (x.2.2.1 + ground), wrap64 (wrap64 (x.2.2.2 + wrap64 (L.f4 * lost)) - ground)) = (r1, r2, r3, r4) := by
     rw [← HD.out, HGR.out, HLO.out, HFE.out]
     rfl
    have HFIN := qab.mk hfin
    have HY := qab.mk hy
    clear hfin hy
    go_wp2_with fail
    go_roundw
    case rel => exact ⟨k + 1, _, by omega, by go_num, HFIN, HY⟩
    case measure => simp [intOf]; omega
  ·
   have he := HF.out
   rw [List.drop_eq_nil_of_le (by omega)] at he
   simp only [List.foldl_nil] at he
   have HE := qab.mk he
   clear he
   have h_r0 : wr.cell? ⟨g6, 0, none⟩ = some (.int .i64 0) := (qaa HT.out.r 0).trans rfl; have h_r1 : wr.cell? ⟨g6, 1, none⟩ = some (.int .i64 0) := (qaa HT.out.r 1).trans rfl; have h_r2 : wr.cell? ⟨g6, 2, none⟩ = some (.int .i64 0) := (qaa HT.out.r 2).trans rfl; have h_r3 : wr.cell? ⟨g6, 3, none⟩ = some (.int .i64 0) := (qaa HT.out.r 3).trans rfl; have h_o0 : wr.cell? ⟨g7, 0, none⟩ = some (.int .i64 x.1) := (qaa HT.out.o 0).trans rfl; have h_o1 : wr.cell? ⟨g7, 1, none⟩ = some (.int .i64 x.2.1) := (qaa HT.out.o 1).trans rfl; have h_o2 : wr.cell? ⟨g7, 2, none⟩ = some (.int .i64 x.2.2.1) := (qaa HT.out.o 2).trans rfl; have h_o3 : wr.cell? ⟨g7, 3, none⟩ = some (.int .i64 x.2.2.2) := (qaa HT.out.o 3).trans rfl; have hf_r := qac HT.out.r
   go_wp2_with fail
   try rw [Exit.noGoto_ret]
   refine bodyPost_ret (results_cell_row rfl _ _ g6 31 #[.int .i64 x.1, .int .i64 x.2.1, .int .i64 x.2.2.1, .int .i64 x.2.2.2] (0, 0) _ rfl ((blk_set (blk_set (blk_set (blk_set HT.out.r 0 _) 1 _) 2 _) 3 _)) Try.underlying31 rfl (by kernel_rfl)) rfl ?_
   refine ⟨?_, (qai (j := 3) (qai (j := 2) (qai (j := 1) (qai (j := 0) HT.out.hb GEg6) GEg6) GEg6) GEg6)⟩
   rw [HE.out]
end Go.Proofs.Ytipphcjgdebecaa.PA
namespace Go.Proofs.Ytipphcjgdebecaa.PA
open Go.RowKit Go.Proofs.YtipphcjgdebecaaW.PrintWords Go.Proofs.YtipphcjgdebecaaW.PrintLast Go.Proofs.YtipphcjgdebecaaW.PrintMore
attribute [local go_sem] max2_int min2_int max_two min_two max_three min_three max_four min_four
theorem wsucc (i : Nat) (h : i ≤ 1000000) : wrap64 ((i : Int) + 1) = ((i + 1 : Nat) : Int) := by unfold wrap64; omega
def shortB (l0 : List S39) (l1 : List S37) (l2 : List (List Int)) : Bool := (l2.take 10).all (fun r => decide (r.length ≤ 10)) && (decide (l0.length ≤ 8) && (decide (l1.length ≤ 77) && decide (l2.length ≤ 10)))
theorem short_end (l0 : List S39) (l1 : List S37) (l2 : List (List Int)) (i : Int) (k : Nat) : taliklaw04_short.j1 (k + 1) i false l0 l1 l2 = some (decide (l0.length ≤ 8) && (decide (l1.length ≤ 77) && decide (l2.length ≤ 10))) := by
 unfold taliklaw04_short.j1
 rw [if_neg (by decide)]
 by_cases h0 : l0.length ≤ 8
 ·
  rw [if_pos (by omega)]
  by_cases h1 : l1.length ≤ 77
  ·
   rw [if_pos (by omega)]
   simp [h0, h1]
   omega
  ·
   rw [if_neg (by omega)]
   simp [h1]
 ·
  rw [if_neg (by omega)]
  simp [h0]
theorem rd_L1_at (l2 : List (List Int)) (i : Nat) (h : i < l2.length) : rd_L1 l2 (i : Int) = l2[i] := by simp [rd_L1, h]
theorem short_go (l0 : List S39) (l1 : List S37) (l2 : List (List Int)) : ∀ (m i k : Nat), i + m = 10 → 2 * m + 2 ≤ k → taliklaw04_short.l0 k (i : Int) l0 l1 l2 = some (((l2.drop i).take m).all (fun r => decide (r.length ≤ 10)) && (decide (l0.length ≤ 8) && (decide (l1.length ≤ 77) && decide (l2.length ≤ 10)))) := by
 intro m
 induction m with
 | zero =>
  intro i k hi hk
  obtain ⟨k, rfl⟩ : ∃ k', k = k' + 2 := ⟨k - 2, by omega⟩
  unfold taliklaw04_short.l0
  have hd : decide ((i : Int) < 10) = false := by simp; omega
  rw [hd, short_end]
  simp
 | succ m ih =>
  intro i k hi hk
  obtain ⟨k, rfl⟩ : ∃ k', k = k' + 2 := ⟨k - 2, by omega⟩
  unfold taliklaw04_short.l0
  by_cases hlt : i < l2.length
  ·
   have hd : decide ((i : Int) < 10) = true := by simp; omega
   rw [if_pos (by omega), hd]
   unfold taliklaw04_short.j1
   rw [if_pos rfl, if_pos (by omega), if_pos (by omega), rd_L1_at l2 i hlt, List.drop_eq_getElem_cons hlt, List.take_succ_cons, List.all_cons]
   by_cases hr : l2[i].length ≤ 10
   ·
    rw [if_neg (by omega), wsucc i (by omega), ih (i + 1) k (by omega) (by omega)]
    simp [hr]
   ·
    rw [if_pos (by omega)]
    simp [hr]
  ·
   rw [if_neg (by omega), short_end, List.drop_eq_nil_of_le (by omega)]
   simp
theorem short_eq (l0 : List S39) (l1 : List S37) (l2 : List (List Int)) (k : Nat) (hk : 22 ≤ k) : taliklaw04_short.f k l0 l1 l2 = some (shortB l0 l1 l2) := short_go l0 l1 l2 10 0 k rfl (by omega)
structure Short (l0 : List S39) (l1 : List S37) (l2 : List (List Int)) : Prop where
 h0 : l0.length ≤ 8
 h1 : l1.length ≤ 77
 h2 : l2.length ≤ 10
 hr : ∀ i (h : i < l2.length), l2[i].length ≤ 10
theorem short_of {l0 : List S39} {l1 : List S37} {l2 : List (List Int)} (h : shortB l0 l1 l2 = true) : Short l0 l1 l2 := by
 unfold shortB at h
 simp only [Bool.and_eq_true, decide_eq_true_eq] at h
 obtain ⟨h1, h2, h3, h4⟩ := h
 rw [List.take_of_length_le h4, List.all_eq_true] at h1
 exact ⟨h2, h3, h4, fun i hi => by simpa using h1 _ (List.getElem_mem hi)⟩
theorem rspan_eq (s : S37) (lo hi : Int) : talikref04_Span.f s.f0 s.f1 lo hi = some (spanB s lo hi) := by
 unfold talikref04_Span.f spanB
 by_cases h1 : s.f0 ≥ lo <;> by_cases h2 : s.f0 ≤ s.f1 <;> simp [h1, h2]
theorem rin_eq (x lo hi : Int) : talikref04_in.f x lo hi = some (inB x lo hi) := by
 unfold talikref04_in.f inB
 by_cases h : x ≥ lo <;> simp [h]
theorem rloop_eq (l : S39) : talikref04_Loop.f l.f0.f0 l.f0.f1 l.f1.f0 l.f1.f1 l.f2.f0 l.f2.f1 l.f3 l.f4 l.f5 l.f6 l.f7.f0 l.f7.f1 = some (loopB l) := by
 unfold talikref04_Loop.f loopB
 rw [rspan_eq l.f0, rspan_eq l.f1, rspan_eq l.f2, rspan_eq l.f7, rin_eq, rin_eq, rin_eq, rin_eq]
 simp only [Option.bind_some]
 cases spanB l.f0 1 1000 <;> cases spanB l.f1 0 1000 <;> cases spanB l.f2 0 1000 <;> by_cases h1 : l.f2.f0 ≤ l.f1.f0 <;> by_cases h2 : l.f2.f1 ≤ l.f1.f1 <;> simp [h1, h2]
 cases inB l.f3 0 1000000 <;> cases inB l.f4 1 10000 <;> cases inB l.f5 0 1000 <;> cases inB l.f6 0 1000 <;> simp
def chkR (i : Nat) : List Int → Nat → Bool
 | [], _ => true
 | h :: t, j => inB h 0 72 && ((i != j || h == 0) && chkR i t (j + 1))
def rowsR (n : Nat) : List (List Int) → Nat → Bool
 | [], _ => true
 | r :: t, i => decide (r.length = n) && (chkR i r 0 && rowsR n t (i + 1))
def finR (l0 : List S39) (l1 : List S37) (l2 : List (List Int)) : Bool := inB l0.length 1 5 && (inB l1.length 1 72 && decide (l2.length = l0.length + 1))
theorem net3_go (l0 : List S39) (l1 : List S37) (l2 : List (List Int)) (i : Nat) (hi : i < l2.length) (b : Bool) (K : Nat) (hb : ∀ k, K ≤ k → talikref04_Net.l2 k ((i + 1 : Nat) : Int) l0 l1 l2 = some b) (hi6 : i ≤ 1000) (hr : l2[i].length ≤ 1000) :
  ∀ (m j k : Nat), j + m = l2[i].length → m + 1 + K ≤ k → talikref04_Net.l3 k (i : Int) (j : Int) l0 l1 l2 = some (chkR i (l2[i].drop j) j && b) := by
 intro m
 induction m with
 | zero =>
  intro j k hj hk
  obtain ⟨k, rfl⟩ : ∃ k', k = k' + 1 := ⟨k - 1, by omega⟩
  unfold talikref04_Net.l3
  rw [if_pos (by omega), if_pos (by omega), rd_L1_at l2 i hi, if_neg (by omega), wsucc i (by omega), hb k (by omega), List.drop_eq_nil_of_le (by omega)]
  simp [chkR]
 | succ m ih =>
  intro j k hj hk
  obtain ⟨k, rfl⟩ : ∃ k', k = k' + 1 := ⟨k - 1, by omega⟩
  unfold talikref04_Net.l3
  have hjl : j < l2[i].length := by omega
  have hrd : rd l2[i] (j : Int) = l2[i][j] := by simp [rd, hjl]
  rw [if_pos (by omega), if_pos (by omega), rd_L1_at l2 i hi, if_pos (by omega), if_pos (by omega), rin_eq, hrd, wsucc j (by omega), ih (j + 1) k (by omega) (by omega), List.drop_eq_getElem_cons hjl]
  simp only [Option.bind_some, chkR]
  generalize l2[i][j] = h
  cases inB h 0 72
  ·
   simp
  ·
   by_cases he : i = j
   ·
    by_cases h0 : h = 0
    ·
     simp [he, h0]
    ·
     simp [he, h0]
   ·
    have hz : ¬ ((i : Int) = (j : Int)) := by omega
    have hn : (i != j) = true := by simp [he]
    simp [hz, hn]
theorem net2_go (l0 : List S39) (l1 : List S37) (l2 : List (List Int)) (hs : Short l0 l1 l2) :
  ∀ (m i k : Nat), i + m = l2.length → 13 * m + 1 ≤ k → talikref04_Net.l2 k (i : Int) l0 l1 l2 = some (rowsR (l0.length + 1) (l2.drop i) i && finR l0 l1 l2) := by
 have h0 := hs.h0
 have h2 := hs.h2
 have hw : wrap64 ((l0.length : Int) + 1) = ((l0.length + 1 : Nat) : Int) := wsucc _ (by omega)
 intro m
 induction m with
 | zero =>
  intro i k hi hk
  obtain ⟨k, rfl⟩ : ∃ k', k = k' + 1 := ⟨k - 1, by omega⟩
  unfold talikref04_Net.l2
  rw [if_neg (by omega), rin_eq, rin_eq, hw, List.drop_eq_nil_of_le (by omega)]
  simp only [Option.bind_some, rowsR, finR, Bool.true_and]
  have e : ((l2.length : Int) == ((l0.length + 1 : Nat) : Int)) = decide (l2.length = l0.length + 1) := by
   rw [Bool.eq_iff_iff]
   simp
   omega
  rw [e]
  cases inB (l0.length : Int) 1 5 <;> cases inB (l1.length : Int) 1 72 <;> simp
 | succ m ih =>
  intro i k hi hk
  obtain ⟨k, rfl⟩ : ∃ k', k = k' + 1 := ⟨k - 1, by omega⟩
  have hil : i < l2.length := by omega
  have hr := hs.hr i hil
  unfold talikref04_Net.l2
  rw [if_pos (by omega), if_pos (by omega), rd_L1_at l2 i hil, hw, List.drop_eq_getElem_cons hil]
  simp only [rowsR]
  by_cases hl : l2[i].length = l0.length + 1
  ·
   rw [if_pos (by omega), show (0 : Int) = ((0 : Nat) : Int) from rfl, net3_go l0 l1 l2 i hil _ (13 * m + 1) (fun k hk => ih (i + 1) k (by omega) hk) (by omega) (by omega) l2[i].length 0 k (by omega) (by omega)]
   simp [hl, Bool.and_assoc]
  ·
   rw [if_neg (by omega)]
   simp [hl]
theorem net1_go (l0 : List S39) (l1 : List S37) (l2 : List (List Int)) (hs : Short l0 l1 l2) :
  ∀ (m i k : Nat), i + m = l1.length → m + 140 ≤ k → talikref04_Net.l1 k (i : Int) l0 l1 l2 = some ((l1.drop i).all (fun s => spanB s 0 1000) && (rowsR (l0.length + 1) l2 0 && finR l0 l1 l2)) := by
 have h1 := hs.h1
 have h2 := hs.h2
 intro m
 induction m with
 | zero =>
  intro i k hi hk
  obtain ⟨k, rfl⟩ : ∃ k', k = k' + 1 := ⟨k - 1, by omega⟩
  unfold talikref04_Net.l1
  rw [if_neg (by omega), show (0 : Int) = ((0 : Nat) : Int) from rfl, net2_go l0 l1 l2 hs l2.length 0 k (by omega) (by omega), List.drop_zero, show l1.drop i = [] from List.drop_eq_nil_of_le (by omega)]
  simp
 | succ m ih =>
  intro i k hi hk
  obtain ⟨k, rfl⟩ : ∃ k', k = k' + 1 := ⟨k - 1, by omega⟩
  have hil : i < l1.length := by omega
  have e : rd_T37 l1 (i : Int) = l1[i] := by simp [rd_T37, hil]
  unfold talikref04_Net.l1
  rw [if_pos (by omega), if_pos (by omega), e, rspan_eq, wsucc i (by omega), ih (i + 1) k (by omega) (by omega), List.drop_eq_getElem_cons hil]
  simp only [Option.bind_some, List.all_cons]
  cases spanB l1[i] 0 1000 <;> simp
theorem net0_go (l0 : List S39) (l1 : List S37) (l2 : List (List Int)) (hs : Short l0 l1 l2) :
  ∀ (m i k : Nat), i + m = l0.length → m + 230 ≤ k → talikref04_Net.l0 k (i : Int) l0 l1 l2 = some ((l0.drop i).all loopB && (l1.all (fun s => spanB s 0 1000) && (rowsR (l0.length + 1) l2 0 && finR l0 l1 l2))) := by
 have h0 := hs.h0
 have h1 := hs.h1
 intro m
 induction m with
 | zero =>
  intro i k hi hk
  obtain ⟨k, rfl⟩ : ∃ k', k = k' + 1 := ⟨k - 1, by omega⟩
  unfold talikref04_Net.l0
  rw [if_neg (by omega), show (0 : Int) = ((0 : Nat) : Int) from rfl, net1_go l0 l1 l2 hs l1.length 0 k (by omega) (by omega), List.drop_zero, show l0.drop i = [] from List.drop_eq_nil_of_le (by omega)]
  simp
 | succ m ih =>
  intro i k hi hk
  obtain ⟨k, rfl⟩ : ∃ k', k = k' + 1 := ⟨k - 1, by omega⟩
  have hil : i < l0.length := by omega
  have e : qak l0 (i : Int) = l0[i] := by simp [qak, hil]
  unfold talikref04_Net.l0
  rw [if_pos (by omega), if_pos (by omega), e, rloop_eq, wsucc i (by omega), ih (i + 1) k (by omega) (by omega), List.drop_eq_getElem_cons hil]
  simp only [Option.bind_some, List.all_cons]
  cases loopB l0[i] <;> simp
theorem chkR_iff (i : Nat) : ∀ (row : List Int) (j : Nat), chkR i row j = true ↔ (∀ h ∈ row, inB h 0 72 = true) ∧ (∀ n (h : n < row.length), j + n = i → row[n] = 0)
 | [], j => by simp [chkR]
 | h :: t, j => by
  simp only [chkR, Bool.and_eq_true, Bool.or_eq_true, chkR_iff i t (j + 1), bne_iff_ne, ne_eq, beq_iff_eq, List.mem_cons, forall_eq_or_imp]
  constructor
  ·
   rintro ⟨h1, h2, h3, h4⟩
   refine ⟨⟨h1, h3⟩, fun n hn he => ?_⟩
   cases n with
   | zero => exact h2.resolve_left (fun hne => hne (by omega))
   | succ n => simpa using h4 n (by simpa using hn) (by omega)
  ·
   rintro ⟨⟨h1, h3⟩, h4⟩
   refine ⟨h1, ?_, h3, fun n hn he => h4 (n + 1) (by simp only [List.length_cons]; omega) (by omega)⟩
   by_cases he : i = j
   ·
    exact .inr (h4 0 (by simp) (by omega))
   ·
    exact .inl he
theorem rowsR_iff (n : Nat) : ∀ (l : List (List Int)) (i : Nat), rowsR n l i = true ↔ ∀ m (h : m < l.length), l[m].length = n ∧ chkR (i + m) l[m] 0 = true
 | [], i => by simp [rowsR]
 | r :: t, i => by
  simp only [rowsR, Bool.and_eq_true, decide_eq_true_eq, rowsR_iff n t (i + 1)]
  constructor
  ·
   rintro ⟨h1, h2, h3⟩ m hm
   cases m with
   | zero => exact ⟨h1, h2⟩
   | succ m => have := h3 m (by simpa using hm); simpa [Nat.add_assoc, Nat.add_comm 1 m] using this
  ·
   intro h
   refine ⟨(h 0 (by simp)).1, (h 0 (by simp)).2, fun m hm => ?_⟩
   have := h (m + 1) (by simpa using hm)
   simpa [Nat.add_assoc, Nat.add_comm 1 m] using this
theorem rows_ways (l0 : List S39) (l2 : List (List Int)) (hl : l2.length = l0.length + 1) : rowsR (l0.length + 1) l2 0 = waysB (l0.length + 1) l2 := by
 rw [Bool.eq_iff_iff, rowsR_iff]
 unfold waysB
 rw [List.all_eq_true]
 constructor
 ·
  intro h j hj
  have hj' : j < l2.length := by simpa using hj
  obtain ⟨h1, h2⟩ := h j hj'
  rw [Nat.zero_add, chkR_iff] at h2
  have e : l2.getD j [] = l2[j] := by simp [hj']
  rw [e]
  unfold rowB
  simp only [Bool.and_eq_true, decide_eq_true_eq, List.all_eq_true]
  have hz := h2.2 j (by omega) (by omega)
  refine ⟨by omega, ?_, h2.1⟩
  simp [rd, show j < l2[j].length by omega, hz]
 ·
  intro h m hm
  have h1 := h m (by simpa using hm)
  have e : l2.getD m [] = l2[m] := by simp [hm]
  rw [e] at h1
  unfold rowB at h1
  simp only [Bool.and_eq_true, decide_eq_true_eq, List.all_eq_true] at h1
  obtain ⟨h2, h3, h4⟩ := h1
  have h5 : l2[m].length = l0.length + 1 := by omega
  refine ⟨h5, ?_⟩
  rw [Nat.zero_add, chkR_iff]
  refine ⟨h4, fun n hn he => ?_⟩
  obtain rfl : n = m := by omega
  simpa [rd, hn] using h3
theorem net_eq (l0 : List S39) (l1 : List S37) (l2 : List (List Int)) (hs : Short l0 l1 l2) (k : Nat) (hk : 240 ≤ k) : talikref04_Net.f k l0 l1 l2 = some (validB l0 l1 l2) := by
 have h := net0_go l0 l1 l2 hs l0.length 0 k (by omega) (by have := hs.h0; omega)
 have h' : talikref04_Net.f k l0 l1 l2 = some (l0.all loopB && (l1.all (fun s => spanB s 0 1000) && (rowsR (l0.length + 1) l2 0 && finR l0 l1 l2))) := by
  unfold talikref04_Net.f
  simpa using h
 rw [h']
 congr 1
 unfold finR validB
 by_cases hl : l2.length = l0.length + 1
 ·
  have e1 : decide ((l2.length : Int) = (l0.length : Int) + 1) = true := by simp; omega
  rw [rows_ways l0 l2 hl, e1]
  simp only [hl, decide_true, Bool.and_true, Bool.true_and]
  cases l0.all loopB <;> cases (l1.all fun s => spanB s 0 1000) <;> cases waysB ((l0.length : Int) + 1) l2 <;> cases inB (l0.length : Int) 1 5 <;> cases inB (l1.length : Int) 1 72 <;> simp
 ·
  have e1 : decide ((l2.length : Int) = (l0.length : Int) + 1) = false := by simp; omega
  rw [e1]
  simp [hl]
end Go.Proofs.Ytipphcjgdebecaa.PA
namespace Go.Proofs.Ytipphcjgdebecaa.PA
open Go.RowKit Go.Proofs.YtipphcjgdebecaaW.PrintWords Go.Proofs.YtipphcjgdebecaaW.PrintLast Go.Proofs.YtipphcjgdebecaaW.PrintMore
attribute [local go_sem] max2_int min2_int max_two min_two max_three min_three max_four min_four
theorem wrap_id {x : Int} (h0 : -9223372036854775808 ≤ x) (h1 : x ≤ 9223372036854775807) : wrap64 x = x := by unfold wrap64; omega
structure LoopOk (L : S39) : Prop where
 w0 : 1 ≤ L.f0.f0
 w1 : L.f0.f0 ≤ L.f0.f1
 w2 : L.f0.f1 ≤ 1000
 k0 : 0 ≤ L.f1.f0
 k1 : L.f1.f0 ≤ L.f1.f1
 k2 : L.f1.f1 ≤ 1000
 p0 : 0 ≤ L.f2.f0
 p1 : L.f2.f0 ≤ L.f2.f1
 p2 : L.f2.f1 ≤ 1000
 q0 : L.f2.f0 ≤ L.f1.f0
 q1 : L.f2.f1 ≤ L.f1.f1
 c0 : 0 ≤ L.f3
 c1 : L.f3 ≤ 1000000
 m0 : 1 ≤ L.f4
 m1 : L.f4 ≤ 10000
 g0 : 0 ≤ L.f5
 g1 : L.f5 ≤ 1000
 e0 : 0 ≤ L.f6
 e1 : L.f6 ≤ 1000
 x0 : 0 ≤ L.f7.f0
 x1 : L.f7.f0 ≤ L.f7.f1
 x2 : L.f7.f1 ≤ 72
theorem loop_ok {L : S39} (h : loopB L = true) : LoopOk L := by
 unfold loopB spanB inB at h
 simp only [Bool.and_eq_true, decide_eq_true_eq] at h
 obtain ⟨⟨a1, a2, a3⟩, ⟨b1, b2, b3⟩, ⟨c1, c2, c3⟩, d, e, ⟨f1, f2⟩, ⟨g1, g2⟩, ⟨h1, h2⟩, ⟨i1, i2⟩, j1, j2, j3⟩ := h
 exact ⟨a1, a2, a3, b1, b2, b3, c1, c2, c3, d, e, f1, f2, g1, g2, h1, h2, i1, i2, j1, j2, j3⟩
structure NetOk (l0 : List S39) (l1 : List S37) (l2 : List (List Int)) : Prop where
 n0 : 1 ≤ l0.length
 n1 : l0.length ≤ 5
 h0 : 1 ≤ l1.length
 h1 : l1.length ≤ 72
 m : l2.length = l0.length + 1
 ways : ∀ i (h : i < l2.length), l2[i].length = l0.length + 1 ∧ rd l2[i] i = 0 ∧ ∀ x ∈ l2[i], 0 ≤ x ∧ x ≤ 72
 loops : ∀ L ∈ l0, LoopOk L
 frost : ∀ F ∈ l1, 0 ≤ F.f0 ∧ F.f0 ≤ F.f1 ∧ F.f1 ≤ 1000
theorem net_ok {l0 : List S39} {l1 : List S37} {l2 : List (List Int)} (h : validB l0 l1 l2 = true) : NetOk l0 l1 l2 := by
 unfold validB at h
 simp only [Bool.and_eq_true, List.all_eq_true] at h
 obtain ⟨h1, h2, h3, h4, h5, h6⟩ := h
 unfold inB at h3 h4
 simp only [Bool.and_eq_true, decide_eq_true_eq] at h1 h3 h4
 refine ⟨by omega, by omega, by omega, by omega, by omega, fun i hi => ?_, fun L hL => loop_ok (h5 L hL), fun F hF => ?_⟩
 ·
  unfold waysB at h2
  rw [List.all_eq_true] at h2
  have h7 := h2 i (by simpa using hi)
  have e : l2.getD i [] = l2[i] := by simp [hi]
  rw [e] at h7
  unfold rowB inB at h7
  simp only [Bool.and_eq_true, decide_eq_true_eq, List.all_eq_true] at h7
  exact ⟨by omega, h7.2.1, h7.2.2⟩
 ·
  have h7 := h6 F hF
  unfold spanB at h7
  simp only [Bool.and_eq_true, decide_eq_true_eq] at h7
  exact h7
theorem mn_min (a b : Int) : mn a b = min a b := by unfold mn; split <;> omega
theorem mul_small {a b A B : Int} (ha0 : 0 ≤ a) (ha : a ≤ A) (hb0 : 0 ≤ b) (hb : b ≤ B) : 0 ≤ a * b ∧ a * b ≤ A * B :=
 ⟨Int.mul_nonneg ha0 hb0, Int.mul_le_mul ha hb hb0 (by omega)⟩
theorem tdiv_small {a : Int} (h : 0 ≤ a) : 0 ≤ Int.tdiv a 1000 ∧ Int.tdiv a 1000 ≤ a := by
 rw [Int.tdiv_eq_ediv_of_nonneg h]
 omega
structure HeatOk (n : Nat) (x : Heat4) : Prop where
 a0 : 0 ≤ x.1
 a1 : x.1 ≤ 1000 * (n + 1)
 b0 : 0 ≤ x.2.1
 b1 : x.2.1 ≤ 10000000 * n
 c0 : 0 ≤ x.2.2.1
 c1 : x.2.2.1 ≤ 2000000000 * n
 d0 : 0 ≤ x.2.2.2
 d1 : x.2.2.2 ≤ 2000000000 * n
theorem feed_bd {L : S39} (hL : LoopOk L) (T : S44) : 0 ≤ feedV L T ∧ feedV L T ≤ 1000 := by
 unfold feedV
 split
 ·
  exact ⟨hL.e0, hL.e1⟩
 ·
  omega
theorem sum2_id {a b : Int} (ha0 : -1000000000000000000 ≤ a) (ha1 : a ≤ 1000000000000000000) (hb0 : -1000000000000000000 ≤ b) (hb1 : b ≤ 1000000000000000000) : sumV [a, b] = a + b := by
 show wrap64 (wrap64 (0 + a) + b) = a + b
 unfold wrap64
 omega
theorem sum3_id {a b c : Int} (ha0 : -1000000000000000000 ≤ a) (ha1 : a ≤ 1000000000000000000) (hb0 : -1000000000000000000 ≤ b) (hb1 : b ≤ 1000000000000000000) (hc0 : -1000000000000000000 ≤ c) (hc1 : c ≤ 1000000000000000000) : sumV [a, b, c] = a + b + c := by
 show wrap64 (wrap64 (wrap64 (0 + a) + b) + c) = a + b + c
 unfold wrap64
 omega
theorem step_eq {L : S39} (hL : LoopOk L) {T : S44} (hk0 : 0 ≤ T.f0) (hk1 : T.f0 ≤ 1000) (hf0 : 0 ≤ T.f1) (hf1 : T.f1 ≤ 1000) {n : Nat} (hn : n ≤ 100) {x : Heat4} (hx : HeatOk n x) :
  stepH L T x = stepR L T x ∧ HeatOk (n + 1) (stepR L T x) ∧ (∃ lost, 0 ≤ lost ∧ lost ≤ x.1 + feedV L T ∧ 0 ≤ L.f4 * lost * L.f5 / 1000 ∧ L.f4 * lost * L.f5 / 1000 ≤ L.f4 * lost ∧ lossR L x.1 T = lost ∧
   stepR L T x = (x.1 + feedV L T - lost, x.2.1 + L.f4 * feedV L T, x.2.2.1 + L.f4 * lost * L.f5 / 1000, x.2.2.2 + L.f4 * lost - L.f4 * lost * L.f5 / 1000)) := by
 obtain ⟨e0, e1⟩ := feed_bd hL T
 have ha0 := hx.a0
 have ha1 := hx.a1
 have hb0 := hx.b0
 have hb1 := hx.b1
 have hc0 := hx.c0
 have hc1 := hx.c1
 have hd0 := hx.d0
 have hd1 := hx.d1
 have hm0 := hL.m0
 have hm1 := hL.m1
 have hg0 := hL.g0
 have hg1 := hL.g1
 have p1 := mul_small hk0 hk1 (b := x.1 + T.f1) (B := 200000) (by omega) (by omega)
 obtain ⟨d0, d1⟩ := tdiv_small p1.1
 have w1 : wrap64 (x.1 + T.f1) = x.1 + T.f1 := wrap_id (by omega) (by omega)
 have w2 : wrap64 (T.f0 * (x.1 + T.f1)) = T.f0 * (x.1 + T.f1) := wrap_id (by omega) (by omega)
 have w3 : wrap64 (Int.tdiv (T.f0 * (x.1 + T.f1)) 1000) = Int.tdiv (T.f0 * (x.1 + T.f1)) 1000 := wrap_id (by omega) (by omega)
 have hmost : (if T.f2 = true then wrap64 (x.1 + L.f6) else x.1) = x.1 + feedV L T := by
  have := hL.e0
  have := hL.e1
  unfold feedV
  split
  ·
   exact wrap_id (by omega) (by omega)
  ·
   omega
 have hR : lossR L x.1 T = min (x.1 + feedV L T) (Int.tdiv (T.f0 * (x.1 + T.f1)) 1000) := by
  unfold lossR
  rw [hmost, w1, w2, w3, mn_min]
 have hI : lossI T.f0 T.f1 x.1 (feedV L T) = min (x.1 + feedV L T) (Int.tdiv (T.f0 * (x.1 + T.f1)) 1000) := by
  unfold lossI
  rw [w1, w2, w3, wrap_id (x := x.1 + feedV L T) (by omega) (by omega), mn_min, Int.min_comm]
 obtain ⟨lost, hlost⟩ : ∃ lost, lost = min (x.1 + feedV L T) (Int.tdiv (T.f0 * (x.1 + T.f1)) 1000) := ⟨_, rfl⟩
 rw [← hlost] at hR hI
 have l0 : 0 ≤ lost := by omega
 have l1 : lost ≤ x.1 + feedV L T := by omega
 clear hlost w1 w2 w3 hmost p1 d0 d1
 obtain ⟨feed, hfeed⟩ : ∃ feed, feedV L T = feed := ⟨_, rfl⟩
 rw [hfeed] at e0 e1 hI l1
 rw [hfeed]
 obtain ⟨m0, m1⟩ := mul_small (a := L.f4) (A := 10000) (b := lost) (B := 200000) (by omega) hm1 l0 (by omega)
 obtain ⟨n0, n1⟩ := mul_small (a := L.f4 * lost) (A := 2000000000) (b := L.f5) (B := 1000) m0 (by omega) hg0 hg1
 obtain ⟨f0, f1⟩ := mul_small (a := L.f4) (A := 10000) (b := feed) (B := 1000) (by omega) hm1 e0 e1
 have gle : L.f4 * lost * L.f5 ≤ L.f4 * lost * 1000 := Int.mul_le_mul_of_nonneg_left hg1 m0
 have gd0 : 0 ≤ L.f4 * lost * L.f5 / 1000 := by omega
 have gd1 : L.f4 * lost * L.f5 / 1000 ≤ L.f4 * lost := by omega
 have gt : Int.tdiv (L.f4 * lost * L.f5) 1000 = L.f4 * lost * L.f5 / 1000 := Int.tdiv_eq_ediv_of_nonneg n0
 have hgR : groundR L lost = L.f4 * lost * L.f5 / 1000 := by
  unfold groundR
  rw [wrap_id (x := L.f4 * lost) (by omega) (by omega), wrap_id (x := L.f4 * lost * L.f5) (by omega) (by omega), gt, wrap_id (by omega) (by omega)]
 have hcm : lost * L.f4 = L.f4 * lost := Int.mul_comm _ _
 have hcf : feed * L.f4 = L.f4 * feed := Int.mul_comm _ _
 have hgV : groundV L lost = L.f4 * lost * L.f5 / 1000 := by
  unfold groundV
  rw [hcm, wrap_id (x := L.f4 * lost) (by omega) (by omega), wrap_id (x := L.f4 * lost * L.f5) (by omega) (by omega), gt, wrap_id (by omega) (by omega)]
 have key : stepR L T x = (x.1 + feed - lost, x.2.1 + L.f4 * feed, x.2.2.1 + L.f4 * lost * L.f5 / 1000, x.2.2.2 + L.f4 * lost - L.f4 * lost * L.f5 / 1000) := by
  unfold stepR
  rw [hfeed, hR, hgR, wrap_id (x := L.f4 * feed) (by omega) (by omega), wrap_id (x := L.f4 * lost) (by omega) (by omega), wrap_id (x := x.1 + feed) (by omega) (by omega), wrap_id (x := x.1 + feed - lost) (by omega) (by omega),
   wrap_id (x := x.2.1 + L.f4 * feed) (by omega) (by omega), wrap_id (x := x.2.2.1 + L.f4 * lost * L.f5 / 1000) (by omega) (by omega), wrap_id (x := x.2.2.2 + L.f4 * lost) (by omega) (by omega), wrap_id (x := x.2.2.2 + L.f4 * lost - L.f4 * lost * L.f5 / 1000) (by omega) (by omega)]
 have keyH : stepH L T x = (x.1 + feed - lost, x.2.1 + L.f4 * feed, x.2.2.1 + L.f4 * lost * L.f5 / 1000, x.2.2.2 + L.f4 * lost - L.f4 * lost * L.f5 / 1000) := by
  unfold stepH
  rw [hfeed, hI, hgV, hcf, hcm, wrap_id (x := L.f4 * feed) (by omega) (by omega), wrap_id (x := L.f4 * lost) (by omega) (by omega), wrap_id (x := -lost) (by omega) (by omega), wrap_id (x := -(L.f4 * lost * L.f5 / 1000)) (by omega) (by omega),
   sum3_id (a := x.1) (by omega) (by omega) (by omega) (by omega) (by omega) (by omega), sum2_id (a := x.2.1) (by omega) (by omega) (by omega) (by omega), sum2_id (a := x.2.2.1) (by omega) (by omega) (by omega) (by omega), sum3_id (a := x.2.2.2) (by omega) (by omega) (by omega) (by omega) (by omega) (by omega)]
  rfl
 refine ⟨keyH.trans key.symm, ?_, lost, l0, l1, gd0, gd1, hR, key⟩
 rw [key]
 refine ⟨?_, ?_, ?_, ?_, ?_, ?_, ?_, ?_⟩ <;> dsimp only <;> push_cast <;> omega
theorem playGo_no (L : S39) : ∀ (l3 : List S44) (l1 : List S37) (x : Heat4), truthB L l3 l1 = false → playGo L l3 l1 x = none
 | [], l1, x, h => by simp [truthB] at h
 | T :: ts, [], x, h => rfl
 | T :: ts, F :: fs, x, h => by
  simp only [truthB] at h
  simp only [playGo]
  cases hA : inB T.f0 L.f1.f0 L.f1.f1 with
  | false => simp
  | true =>
   cases hB : inB T.f1 F.f0 F.f1 with
   | false => simp
   | true =>
    rw [hA, hB] at h
    simp only [Bool.true_and] at h
    simpa using playGo_no L ts fs _ h
theorem playGo_yes (L : S39) (hL : LoopOk L) : ∀ (l3 : List S44) (l1 : List S37) (x : Heat4) (n : Nat), truthB L l3 l1 = true → (∀ F ∈ l1, 0 ≤ F.f0 ∧ F.f0 ≤ F.f1 ∧ F.f1 ≤ 1000) → n + l3.length ≤ 90 → HeatOk n x →
  playGo L l3 l1 x = some (l3.foldl (fun x T => stepR L T x) x) ∧ HeatOk (n + l3.length) (l3.foldl (fun x T => stepR L T x) x)
 | [], l1, x, n, h, hf, hn, hx => ⟨rfl, hx⟩
 | T :: ts, [], x, n, h, hf, hn, hx => by simp [truthB] at h
 | T :: ts, F :: fs, x, n, h, hf, hn, hx => by
  simp only [truthB, Bool.and_eq_true] at h
  obtain ⟨hA, hB, hC⟩ := h
  simp only [playGo, hA, hB, Bool.and_self, if_true, List.foldl_cons]
  have hF := hf F (by simp)
  have hA' := hA
  have hB' := hB
  unfold inB at hA' hB'
  simp only [Bool.and_eq_true, decide_eq_true_eq] at hA' hB'
  have k0 := hL.k0
  have k2 := hL.k2
  simp only [List.length_cons] at hn ⊢
  obtain ⟨h1, h2, _⟩ := step_eq hL (T := T) (by omega) (by omega) (by omega) (by omega) (n := n) (by omega) hx
  rw [h1]
  have := playGo_yes L hL ts fs (stepR L T x) (n + 1) hC (fun F' hF' => hf F' (by simp [hF'])) (by omega) h2
  rw [show n + (ts.length + 1) = n + 1 + ts.length from by omega]
  exact this
theorem rdT39_mem {l0 : List S39} {i : Int} (h0 : 0 ≤ i) (h1 : i < l0.length) : qak l0 i ∈ l0 := by
 have h2 : i.toNat < l0.length := by omega
 have e : qak l0 i = l0[i.toNat] := by simp [qak, h2]
 rw [e]
 exact List.getElem_mem _
theorem isloop_eq (l0 : List S39) (l1 : List S37) (l2 : List (List Int)) (a1 : Int) : talikref04_IsLoop.f l0 l1 l2 a1 = some (inB a1 0 (wrap64 ((l0.length : Int) - 1))) := by
 unfold talikref04_IsLoop.f
 rw [rin_eq]
 rfl
theorem isloop_iff {l0 : List S39} {l1 : List S37} {l2 : List (List Int)} (h : NetOk l0 l1 l2) (a1 : Int) : inB a1 0 (wrap64 ((l0.length : Int) - 1)) = true ↔ 0 ≤ a1 ∧ a1 < l0.length := by
 have h0 := h.n0
 have h1 := h.n1
 rw [wrap_id (by omega) (by omega)]
 unfold inB
 simp only [Bool.and_eq_true, decide_eq_true_eq]
 omega
end Go.Proofs.Ytipphcjgdebecaa.PA
namespace Go.Proofs.Ytipphcjgdebecaa.PA
open Go.RowKit Go.Proofs.YtipphcjgdebecaaW.PrintWords Go.Proofs.YtipphcjgdebecaaW.PrintLast Go.Proofs.YtipphcjgdebecaaW.PrintMore
attribute [local go_sem] max2_int min2_int max_two min_two max_three min_three max_four min_four
structure QI (w : World) (gb g9 : Nat) (nb : Array Value) (p1 p2 p3 p4 : Int) (W : World) : Prop where
 b : W.heap[gb]? = some (.cells nb 26 (0, 0))
 x : W.heap[g9]? = some (.cells #[.int .i64 p1, .int .i64 p2, .int .i64 p3, .int .i64 p4] 31 (0, 0))
 hb : Below w.heap.size w W
theorem QI.below {w W W' : World} {gb g9 : Nat} {nb : Array Value} {p1 p2 p3 p4 : Int} (h : QI w gb g9 nb p1 p2 p3 p4 W) (hb : Below W.heap.size W W') : QI w gb g9 nb p1 p2 p3 p4 W' := ⟨qah h.b hb, qah h.x hb, qag h.hb hb⟩
theorem plays_ways (l0 : List S39) (l1 : List S37) (l2 : List (List Int)) (a1 a2 : Int) (l3 : List S44) :
  ((l1.length : Int) < (l3.length : Int) ∧ playV l0 l1 l2 a1 a2 l3 = (0, 0, 0, 0, 3)) ∨
  (¬ (l1.length : Int) < (l3.length : Int) ∧ validB l0 l1 l2 = false ∧ playV l0 l1 l2 a1 a2 l3 = (0, 0, 0, 0, 2)) ∨
  (¬ (l1.length : Int) < (l3.length : Int) ∧ validB l0 l1 l2 = true ∧ inB a1 0 (wrap64 ((l0.length : Int) - 1)) = false ∧ playV l0 l1 l2 a1 a2 l3 = (0, 0, 0, 0, 2)) ∨
  (¬ (l1.length : Int) < (l3.length : Int) ∧ validB l0 l1 l2 = true ∧ inB a1 0 (wrap64 ((l0.length : Int) - 1)) = true ∧ 0 ≤ a1 ∧ a1 < l0.length ∧ a2 < (qak l0 a1).f0.f0 ∧ playV l0 l1 l2 a1 a2 l3 = (0, 0, 0, 0, 2)) ∨
  (¬ (l1.length : Int) < (l3.length : Int) ∧ validB l0 l1 l2 = true ∧ inB a1 0 (wrap64 ((l0.length : Int) - 1)) = true ∧ 0 ≤ a1 ∧ a1 < l0.length ∧ ¬ a2 < (qak l0 a1).f0.f0 ∧ (qak l0 a1).f0.f1 < a2 ∧ playV l0 l1 l2 a1 a2 l3 = (0, 0, 0, 0, 2)) ∨
  (¬ (l1.length : Int) < (l3.length : Int) ∧ validB l0 l1 l2 = true ∧ inB a1 0 (wrap64 ((l0.length : Int) - 1)) = true ∧ 0 ≤ a1 ∧ a1 < l0.length ∧ ¬ a2 < (qak l0 a1).f0.f0 ∧ ¬ (qak l0 a1).f0.f1 < a2 ∧ truthB (qak l0 a1) l3 l1 = false ∧ playV l0 l1 l2 a1 a2 l3 = (0, 0, 0, 0, 2)) ∨
  (¬ (l1.length : Int) < (l3.length : Int) ∧ validB l0 l1 l2 = true ∧ inB a1 0 (wrap64 ((l0.length : Int) - 1)) = true ∧ 0 ≤ a1 ∧ a1 < l0.length ∧ ¬ a2 < (qak l0 a1).f0.f0 ∧ ¬ (qak l0 a1).f0.f1 < a2 ∧ truthB (qak l0 a1) l3 l1 = true ∧ playV l0 l1 l2 a1 a2 l3 = heatR (some (playR (qak l0 a1) a2 l3))) := by
 by_cases h1 : (l1.length : Int) < (l3.length : Int)
 ·
  exact .inl ⟨h1, by unfold playV; rw [if_pos h1]⟩
 ·
  right
  have hv1 : (validB l0 l1 l2 && (inB a1 0 (wrap64 ((l0.length : Int) - 1)) && inB a2 (qak l0 a1).f0.f0 (qak l0 a1).f0.f1)) = false → playV l0 l1 l2 a1 a2 l3 = (0, 0, 0, 0, 2) := fun h => by
   unfold playV
   rw [if_neg h1, h]
   rfl
  cases hv : validB l0 l1 l2 with
  | false => exact .inl ⟨h1, rfl, hv1 (by rw [hv]; rfl)⟩
  | true =>
   right
   cases hi : inB a1 0 (wrap64 ((l0.length : Int) - 1)) with
   | false => exact .inl ⟨h1, rfl, rfl, hv1 (by rw [hv, hi]; rfl)⟩
   | true =>
    right
    have hn := net_ok hv
    have hn1 := hn.h1
    obtain ⟨i0, i1⟩ := (isloop_iff hn a1).1 hi
    have hL := hn.loops _ (rdT39_mem i0 i1)
    by_cases c1 : a2 < (qak l0 a1).f0.f0
    ·
     exact .inl ⟨h1, rfl, rfl, i0, i1, c1, hv1 (by rw [hv, hi]; unfold inB; simp; omega)⟩
    ·
     right
     by_cases c2 : (qak l0 a1).f0.f1 < a2
     ·
      exact .inl ⟨h1, rfl, rfl, i0, i1, c1, c2, hv1 (by rw [hv, hi]; unfold inB; simp; omega)⟩
     ·
      right
      have hA : inB a2 (qak l0 a1).f0.f0 (qak l0 a1).f0.f1 = true := by
       unfold inB
       simp
       omega
      have hpv : playV l0 l1 l2 a1 a2 l3 = heatR (playGo (qak l0 a1) l3 l1 (a2, 0, 0, 0)) := by
       unfold playV
       rw [if_neg h1, hv, hi, hA]
       rfl
      cases ht : truthB (qak l0 a1) l3 l1 with
      | false => exact .inl ⟨h1, rfl, rfl, i0, i1, c1, c2, rfl, by rw [hpv, playGo_no _ _ _ _ ht]; rfl⟩
      | true =>
       have w0 := hL.w0
       have w2 := hL.w2
       obtain ⟨hg, _⟩ := playGo_yes _ hL l3 l1 (a2, 0, 0, 0) 0 ht hn.frost (by omega) ⟨by dsimp only; omega, by dsimp only; omega, by dsimp only; omega, by dsimp only; omega, by dsimp only; omega, by dsimp only; omega, by dsimp only; omega, by dsimp only; omega⟩
       exact .inr ⟨h1, rfl, rfl, i0, i1, c1, c2, rfl, by rw [hpv, hg]; rfl⟩
def taliklaw04_PipePlays.T11 : Bool × List (List Nat × List Nat) := (true, [([], []), ([0], [0]), ([1], [1]), ([2], [2]), ([2], [2]), ([4, 2], [2, 4]), ([2], [2]), ([5, 6, 2], [2, 5, 6]), ([7, 2], [2, 7]), ([2], [2]), ([2], [2]), ([8, 9, 10, 2, 2], [2, 8, 9, 10]), ([3, 11, 2], [2, 3, 11]), ([2, 12], [2, 12]), ([13, 11], [13]), ([14, 14], [14]), ([14, 15], [14, 15]), ([16, 15, 0, 1, 2, 3, 4, 5, 6, 7, 8, 9, 10, 11, 12, 13, 14, 15, 16], [16])])
def taliklaw04_PipePlays.B11 : List Nat := [0, 1, 3, 7, 7, 23, 7, 119, 247, 7, 7, 2039, 4095, 8191, 16383, 32767, 65535, 131071]
theorem taliklaw04_PipePlays.tab11 : rtab .any (opsOf Try.f3 11) = taliklaw04_PipePlays.T11 := by kernel_rfl
theorem taliklaw04_PipePlays.bits11 : waitsOk taliklaw04_PipePlays.T11.2 taliklaw04_PipePlays.B11 = true := by kernel_rfl
def taliklaw04_PipePlays.f (l0_0 : List (S39)) (l0_1 : List (S37)) (l0_2 : List (List Int)) (a1 : Int) (a2 : Int) (l3 : List (S44)) : Option (Bool) := some true
set_option maxHeartbeats 8000000 in
set_option maxRecDepth 100000 in
theorem taliklaw04_PipePlays.calls (A0_0 : Option Addr) (c0_0 : Nat) (l0_0 : List (S39)) (A0_1 : Option Addr) (c0_1 : Nat) (l0_1 : List (S37)) (A0_2 : Option Addr) (c0_2 : Nat) (l0_2 : List (List Int)) (a1 : Int) (a2 : Int) (A3 : Option Addr) (c3 : Nat) (l3 : List (S44)) (r : Bool) (w : World) (hr0_0 : Kd.C k39 w A0_0 l0_0.length l0_0) (hc0_0 : l0_0.length ≤ c0_0) (hr0_1 : Kd.C k37 w A0_1 l0_1.length l0_1) (hc0_1 : l0_1.length ≤ c0_1) (hr0_2 : Kd.C (Kd.slice 3 (Kd.int .i64)) w A0_2 l0_2.length l0_2) (hc0_2 : l0_2.length ≤ c0_2) (hr3 : Kd.C k44 w A3 l3.length l3) (hc3 : l3.length ≤ c3) (h : taliklaw04_PipePlays.f l0_0 l0_1 l0_2 a1 a2 l3 = some r) :
  Calls Try.prog 3 #[.agg #[.slice A0_0 l0_0.length c0_0, .slice A0_1 l0_1.length c0_1, .slice A0_2 l0_2.length c0_2], .int .i64 a1, .int .i64 a2, .slice A3 l3.length c3] w fun e w' => e = .returned (.bool r) ∧ Below w.heap.size w w' := by
 obtain rfl := Option.some.inj h
 clear h
 have hu26 := Try.underlying26
 have hu31 := Try.underlying31
 have hu39 := Try.underlying39
 have hu37 := Try.underlying37
 have HB := qab.mk (Below.refl w.heap.size w)
 have HR0 := qab.mk hr0_0
 have HR1 := qab.mk hr0_1
 have HR2 := qab.mk hr0_2
 have HR3 := qab.mk hr3
 clear hr0_0 hr0_1 hr0_2 hr3
 have hshort : ∀ W, Below w.heap.size w W → Calls Try.prog 16 #[.agg #[.slice A0_0 l0_0.length c0_0, .slice A0_1 l0_1.length c0_1, .slice A0_2 l0_2.length c0_2]] W fun e w' => e = .returned (.bool (shortB l0_0 l0_1 l0_2)) ∧ Below W.heap.size W w' := fun W hW =>
  taliklaw04_short.calls 30 _ _ _ _ _ _ _ _ _ _ W (Kd.qam HR0.out hW) hc0_0 (Kd.qam HR1.out hW) hc0_1 (Kd.qam HR2.out hW) hc0_2 (short_eq l0_0 l0_1 l0_2 30 (by omega))
 have HSHORT := qab.mk hshort
 clear hshort
 have hknown : ∀ W, Below w.heap.size w W → Calls Try.prog 17 #[] W fun e w' => e = .returned (.bool true) ∧ Below W.heap.size W w' := fun W hW =>
  taliklaw04_known.calls true W rfl
 have HKNOWN := qab.mk hknown
 clear hknown
 cases hs : shortB l0_0 l0_1 l0_2 with
 | false =>
  rw [hs] at HSHORT
  go_enter Try.func3, Try.ntmps3
  go_wp2_with (first | (with_reducible refine qar (N := 4) rfl ?_); refine qap ?hg (N := 4) ?hd (cs := #[.slice A0_0 l0_0.length c0_0, .slice A0_1 l0_1.length c0_1, .slice A0_2 l0_2.length c0_2]) (t := 26) ?hr ?_; (case hd => rfl); (case hg => rfl); (case hr => first | (go_simp; done) | (go_simp; rfl)); intro gb hg_gb w2 hbox hb; have BKgb := qab.mk hbox; have n_HB := qab.mk (qag HB.out hb); have GEgb : w.heap.size ≤ gb := (by rw [hg_gb]; exact HB.out.size); clear HB; have HB := n_HB; clear n_HB; have hfgb := qac BKgb.out; have hcgb_0 : w2.cell? ⟨gb, 0, none⟩ = some (.slice A0_0 l0_0.length c0_0) := (qaa BKgb.out 0).trans rfl; have hcgb_1 : w2.cell? ⟨gb, 1, none⟩ = some (.slice A0_1 l0_1.length c0_1) := (qaa BKgb.out 1).trans rfl; have hcgb_2 : w2.cell? ⟨gb, 2, none⟩ = some (.slice A0_2 l0_2.length c0_2) := (qaa BKgb.out 2).trans rfl; clear hbox hb hg_gb | (go_at_call 16; with_reducible refine (HSHORT.out _ HB.out).mono ?_; rintro e w3 ⟨rfl, hb⟩; have n_HB := qab.mk (qag HB.out hb); clear HB; have HB := n_HB; clear n_HB; clear hb) | (go_at_call 17; with_reducible refine (HKNOWN.out _ HB.out).mono ?_; rintro e w4 ⟨rfl, hb⟩; have n_HB := qab.mk (qag HB.out hb); clear HB; have HB := n_HB; clear n_HB; clear hb))
  go_ret
  exact ⟨rfl, HB.out⟩
 | true =>
  rw [hs] at HSHORT
  have hsh := short_of hs
  clear hs
  by_cases hlen : (82 : Int) < (l3.length : Int)
  ·
   have hl1 : decide ((82 : Int) < (l3.length : Int)) = true := decide_eq_true hlen
   go_enter Try.func3, Try.ntmps3
   go_wp2_with (first | (with_reducible refine qar (N := 4) rfl ?_); refine qap ?hg (N := 4) ?hd (cs := #[.slice A0_0 l0_0.length c0_0, .slice A0_1 l0_1.length c0_1, .slice A0_2 l0_2.length c0_2]) (t := 26) ?hr ?_; (case hd => rfl); (case hg => rfl); (case hr => first | (go_simp; done) | (go_simp; rfl)); intro gb hg_gb w2 hbox hb; have BKgb := qab.mk hbox; have n_HB := qab.mk (qag HB.out hb); have GEgb : w.heap.size ≤ gb := (by rw [hg_gb]; exact HB.out.size); clear HB; have HB := n_HB; clear n_HB; have hfgb := qac BKgb.out; have hcgb_0 : w2.cell? ⟨gb, 0, none⟩ = some (.slice A0_0 l0_0.length c0_0) := (qaa BKgb.out 0).trans rfl; have hcgb_1 : w2.cell? ⟨gb, 1, none⟩ = some (.slice A0_1 l0_1.length c0_1) := (qaa BKgb.out 1).trans rfl; have hcgb_2 : w2.cell? ⟨gb, 2, none⟩ = some (.slice A0_2 l0_2.length c0_2) := (qaa BKgb.out 2).trans rfl; clear hbox hb hg_gb | (go_at_call 16; with_reducible refine (HSHORT.out _ HB.out).mono ?_; rintro e w3 ⟨rfl, hb⟩; have n_HB := qab.mk (qag HB.out hb); clear HB; have HB := n_HB; clear n_HB; clear hb) | (go_at_call 17; with_reducible refine (HKNOWN.out _ HB.out).mono ?_; rintro e w4 ⟨rfl, hb⟩; have n_HB := qab.mk (qag HB.out hb); clear HB; have HB := n_HB; clear n_HB; clear hb))
   go_ret
   exact ⟨rfl, HB.out⟩
  ·
   have hl1 : decide ((82 : Int) < (l3.length : Int)) = false := decide_eq_false hlen
   have hplay : ∀ W, Below w.heap.size w W → Calls Try.prog 18 #[.agg #[.slice A0_0 l0_0.length c0_0, .slice A0_1 l0_1.length c0_1, .slice A0_2 l0_2.length c0_2], .int .i64 a1, .int .i64 a2, .slice A3 l3.length c3] W fun e w' => e = .returned (.tuple #[.agg #[.int .i64 (playV l0_0 l0_1 l0_2 a1 a2 l3).1, .int .i64 (playV l0_0 l0_1 l0_2 a1 a2 l3).2.1, .int .i64 (playV l0_0 l0_1 l0_2 a1 a2 l3).2.2.1, .int .i64 (playV l0_0 l0_1 l0_2 a1 a2 l3).2.2.2.1], .int .i64 (playV l0_0 l0_1 l0_2 a1 a2 l3).2.2.2.2]) ∧ Below W.heap.size W w' := fun W hW =>
    pipe_Play.calls _ _ _ _ _ _ _ _ _ a1 a2 _ _ l3 _ _ _ _ _ W (Kd.qam HR0.out hW) hc0_0 (Kd.qam HR1.out hW) hc0_1 (Kd.qam HR2.out hW) hc0_2 (Kd.qam HR3.out hW) hc3 rfl
   have HPLAY := qab.mk hplay
   clear hplay
   have hnet : ∀ W, Below w.heap.size w W → Calls Try.prog 19 #[.agg #[.slice A0_0 l0_0.length c0_0, .slice A0_1 l0_1.length c0_1, .slice A0_2 l0_2.length c0_2]] W fun e w' => e = .returned (.bool (validB l0_0 l0_1 l0_2)) ∧ Below W.heap.size W w' := fun W hW =>
    talikref04_Net.calls 300 _ _ _ _ _ _ _ _ _ _ W (Kd.qam HR0.out hW) hc0_0 (Kd.qam HR1.out hW) hc0_1 (Kd.qam HR2.out hW) hc0_2 (net_eq l0_0 l0_1 l0_2 hsh 300 (by omega))
   have HNET := qab.mk hnet
   clear hnet
   have hlo : ∀ W, Below w.heap.size w W → Calls Try.prog 20 #[.agg #[.slice A0_0 l0_0.length c0_0, .slice A0_1 l0_1.length c0_1, .slice A0_2 l0_2.length c0_2], .int .i64 a1] W fun e w' => e = .returned (.bool (inB a1 0 (wrap64 ((l0_0.length : Int) - 1)))) ∧ Below W.heap.size W w' := fun W hW =>
    (talikref04_IsLoop.calls _ _ _ _ _ _ _ _ _ a1 _ W (Kd.qam HR0.out hW) hc0_0 (Kd.qam HR1.out hW) hc0_1 (Kd.qam HR2.out hW) hc0_2 (isloop_eq l0_0 l0_1 l0_2 a1)).mono fun e w' ⟨h1, h2⟩ => ⟨h1, h2⟩
   have HLO := qab.mk hlo
   clear hlo
   have hways := plays_ways l0_0 l0_1 l0_2 a1 a2 l3
   obtain ⟨⟨p1, p2, p3, p4, er⟩, hpe⟩ : ∃ p, p = playV l0_0 l0_1 l0_2 a1 a2 l3 := ⟨_, rfl⟩
   rw [← hpe] at HPLAY hways
   clear hpe
   dsimp only at HPLAY
   go_enter Try.func3, Try.ntmps3
   go_upto_region 5 with (first | (with_reducible refine qar (N := 4) rfl ?_); refine qap ?hg (N := 4) ?hd (cs := #[.slice A0_0 l0_0.length c0_0, .slice A0_1 l0_1.length c0_1, .slice A0_2 l0_2.length c0_2]) (t := 26) ?hr ?_; (case hd => rfl); (case hg => rfl); (case hr => first | (go_simp; done) | (go_simp; rfl)); intro gb hg_gb w2 hbox hb; have BKgb := qab.mk hbox; have n_HB := qab.mk (qag HB.out hb); have GEgb : w.heap.size ≤ gb := (by rw [hg_gb]; exact HB.out.size); clear HB; have HB := n_HB; clear n_HB; have hfgb := qac BKgb.out; have hcgb_0 : w2.cell? ⟨gb, 0, none⟩ = some (.slice A0_0 l0_0.length c0_0) := (qaa BKgb.out 0).trans rfl; have hcgb_1 : w2.cell? ⟨gb, 1, none⟩ = some (.slice A0_1 l0_1.length c0_1) := (qaa BKgb.out 1).trans rfl; have hcgb_2 : w2.cell? ⟨gb, 2, none⟩ = some (.slice A0_2 l0_2.length c0_2) := (qaa BKgb.out 2).trans rfl; clear hbox hb hg_gb | (go_at_call 16; with_reducible refine (HSHORT.out _ HB.out).mono ?_; rintro e w3 ⟨rfl, hb⟩; have n_BKgb := qab.mk (qah BKgb.out hb); clear BKgb; have BKgb := n_BKgb; clear n_BKgb; have n_HB := qab.mk (qag HB.out hb); clear HB; have HB := n_HB; clear n_HB; clear hb; have hfgb := qac BKgb.out; have hcgb_0 : w3.cell? ⟨gb, 0, none⟩ = some (.slice A0_0 l0_0.length c0_0) := (qaa BKgb.out 0).trans rfl; have hcgb_1 : w3.cell? ⟨gb, 1, none⟩ = some (.slice A0_1 l0_1.length c0_1) := (qaa BKgb.out 1).trans rfl; have hcgb_2 : w3.cell? ⟨gb, 2, none⟩ = some (.slice A0_2 l0_2.length c0_2) := (qaa BKgb.out 2).trans rfl) | (go_at_call 18; with_reducible refine (HPLAY.out _ HB.out).mono ?_; rintro e w4 ⟨rfl, hb⟩; have n_BKgb := qab.mk (qah BKgb.out hb); clear BKgb; have BKgb := n_BKgb; clear n_BKgb; have n_HB := qab.mk (qag HB.out hb); clear HB; have HB := n_HB; clear n_HB; clear hb; have hfgb := qac BKgb.out; have hcgb_0 : w4.cell? ⟨gb, 0, none⟩ = some (.slice A0_0 l0_0.length c0_0) := (qaa BKgb.out 0).trans rfl; have hcgb_1 : w4.cell? ⟨gb, 1, none⟩ = some (.slice A0_1 l0_1.length c0_1) := (qaa BKgb.out 1).trans rfl; have hcgb_2 : w4.cell? ⟨gb, 2, none⟩ = some (.slice A0_2 l0_2.length c0_2) := (qaa BKgb.out 2).trans rfl) | (with_reducible refine qar (N := 9) rfl ?_); refine qap ?hg (N := 9) ?hd (cs := #[.int .i64 0, .int .i64 0, .int .i64 0, .int .i64 0]) (t := 31) ?hr ?_; (case hd => rfl); (case hg => rfl); (case hr => first | (go_simp; done) | (go_simp; rfl)); intro g9 hg_g9 w5 hbox hb; have BKg9 := qab.mk hbox; have ne_gb_g9 : gb ≠ g9 := (by rw [hg_g9]; exact Nat.ne_of_lt (blk_lt BKgb.out)); have n_BKgb := qab.mk (qah BKgb.out hb); clear BKgb; have BKgb := n_BKgb; clear n_BKgb; have n_HB := qab.mk (qag HB.out hb); have GEg9 : w.heap.size ≤ g9 := (by rw [hg_g9]; exact HB.out.size); clear HB; have HB := n_HB; clear n_HB; have hfg9 := qac BKg9.out; have hcg9_0 : w5.cell? ⟨g9, 0, none⟩ = some (.int .i64 0) := (qaa BKg9.out 0).trans rfl; have hcg9_1 : w5.cell? ⟨g9, 1, none⟩ = some (.int .i64 0) := (qaa BKg9.out 1).trans rfl; have hcg9_2 : w5.cell? ⟨g9, 2, none⟩ = some (.int .i64 0) := (qaa BKg9.out 2).trans rfl; have hcg9_3 : w5.cell? ⟨g9, 3, none⟩ = some (.int .i64 0) := (qaa BKg9.out 3).trans rfl; clear hbox hb hg_g9)
   have he_ : setAll w5 g9 [.int .i64 p1, .int .i64 p2, .int .i64 p3, .int .i64 p4] 0 = ((((w5.setCell ⟨g9, 0, none⟩ (.int .i64 p1)).setCell ⟨g9, 1, none⟩ (.int .i64 p2)).setCell ⟨g9, 2, none⟩ (.int .i64 p3)).setCell ⟨g9, 3, none⟩ (.int .i64 p4)) := rfl; have hbl := setAll_below GEg9 [.int .i64 p1, .int .i64 p2, .int .i64 p3, .int .i64 p4] 0 _ HB.out; have hbx : (setAll w5 g9 [.int .i64 p1, .int .i64 p2, .int .i64 p3, .int .i64 p4] 0).heap[g9]? = some (.cells #[.int .i64 p1, .int .i64 p2, .int .i64 p3, .int .i64 p4] 31 (0, 0)) := setAll_new [.int .i64 p1, .int .i64 p2, .int .i64 p3, .int .i64 p4] [.int .i64 0, .int .i64 0, .int .i64 0, .int .i64 0] BKg9.out rfl; have hx_BKgb := setAll_far ne_gb_g9 [.int .i64 p1, .int .i64 p2, .int .i64 p3, .int .i64 p4] 0 _ BKgb.out; rw [he_] at hbl hbx hx_BKgb; clear he_; generalize ((((w5.setCell ⟨g9, 0, none⟩ (.int .i64 p1)).setCell ⟨g9, 1, none⟩ (.int .i64 p2)).setCell ⟨g9, 2, none⟩ (.int .i64 p3)).setCell ⟨g9, 3, none⟩ (.int .i64 p4)) = w6 at hbl hbx hx_BKgb ⊢; clear HB BKg9; have HB := qab.mk hbl; have BKg9 := qab.mk hbx; clear hbl hbx; clear BKgb; have BKgb := qab.mk hx_BKgb; clear hx_BKgb
   clear hfg9 hcg9_0 hcg9_1 hcg9_2 hcg9_3
   have HQ : qab (QI w gb g9 #[.slice A0_0 l0_0.length c0_0, .slice A0_1 l0_1.length c0_1, .slice A0_2 l0_2.length c0_2] p1 p2 p3 p4 w6) := ⟨⟨BKgb.out, BKg9.out, HB.out⟩⟩
   clear BKgb BKg9 HB hfgb hcgb_0 hcgb_1 hcgb_2 HSHORT HPLAY GEgb GEg9 hl1
   have hend : (er ≠ 0 ∧ p1 = 0 ∧ p2 = 0 ∧ p3 = 0 ∧ p4 = 0) ∨ (er = 0 ∧ 0 ≤ a1 ∧ a1 < l0_0.length ∧ (p1, p2, p3, p4) = playR (qak l0_0 a1) a2 l3) := by
    rcases hways with ⟨_, h⟩ | ⟨_, _, h⟩ | ⟨_, _, _, h⟩ | ⟨_, _, _, _, _, _, h⟩ | ⟨_, _, _, _, _, _, _, h⟩ | ⟨_, _, _, _, _, _, _, _, h⟩ | ⟨_, _, _, h0, h1, _, _, _, h⟩
    ·
     cases h; exact .inl ⟨by decide, rfl, rfl, rfl, rfl⟩
    ·
     cases h; exact .inl ⟨by decide, rfl, rfl, rfl, rfl⟩
    ·
     cases h; exact .inl ⟨by decide, rfl, rfl, rfl, rfl⟩
    ·
     cases h; exact .inl ⟨by decide, rfl, rfl, rfl, rfl⟩
    ·
     cases h; exact .inl ⟨by decide, rfl, rfl, rfl, rfl⟩
    ·
     cases h; exact .inl ⟨by decide, rfl, rfl, rfl, rfl⟩
    ·
     simp only [heatR, Prod.mk.injEq] at h
     exact .inr ⟨h.2.2.2.2, h0, h1, by rw [h.1, h.2.1, h.2.2.1, h.2.2.2.1]⟩
   have HEND := qab.mk hend
   clear hend
   have hq0 : w6.cell? ⟨gb, 0, none⟩ = some (.slice A0_0 l0_0.length c0_0) := (qaa HQ.out.b 0).trans rfl; have hq1 : w6.cell? ⟨gb, 1, none⟩ = some (.slice A0_1 l0_1.length c0_1) := (qaa HQ.out.b 1).trans rfl; have hq2 : w6.cell? ⟨gb, 2, none⟩ = some (.slice A0_2 l0_2.length c0_2) := (qaa HQ.out.b 2).trans rfl
   go_upto_if 34 with (fail)
   clear hq0 hq1 hq2
   go_cut [11] (fun v11 wc => v11 = .int .i64 er ∧ qab (QI w gb g9 #[.slice A0_0 l0_0.length c0_0, .slice A0_1 l0_1.length c0_1, .slice A0_2 l0_2.length c0_2] p1 p2 p3 p4 wc))
   case first =>
    rcases hways with h | h | h | h | h | h | h
    ·
     obtain ⟨h1, hp⟩ := h
     cases hp
     have g1 : decide ((l0_1.length : Int) < (l3.length : Int)) = true := decide_eq_true (by omega)
     have g2 : decide (l0_1.length < l3.length) = true := decide_eq_true (by omega)
     have hq0 : w6.cell? ⟨gb, 0, none⟩ = some (.slice A0_0 l0_0.length c0_0) := (qaa HQ.out.b 0).trans rfl; have hq1 : w6.cell? ⟨gb, 1, none⟩ = some (.slice A0_1 l0_1.length c0_1) := (qaa HQ.out.b 1).trans rfl; have hq2 : w6.cell? ⟨gb, 2, none⟩ = some (.slice A0_2 l0_2.length c0_2) := (qaa HQ.out.b 2).trans rfl
     go_wp2_with (first | fail)
     go_meet
     case rel => exact ⟨rfl, HQ⟩
    ·
     obtain ⟨h1, hv, hp⟩ := h
     cases hp
     have g1 : decide ((l0_1.length : Int) < (l3.length : Int)) = false := decide_eq_false (by omega)
     have g2 : decide (l0_1.length < l3.length) = false := decide_eq_false (by omega)
     rw [hv] at HNET
     have hq0 : w6.cell? ⟨gb, 0, none⟩ = some (.slice A0_0 l0_0.length c0_0) := (qaa HQ.out.b 0).trans rfl; have hq1 : w6.cell? ⟨gb, 1, none⟩ = some (.slice A0_1 l0_1.length c0_1) := (qaa HQ.out.b 1).trans rfl; have hq2 : w6.cell? ⟨gb, 2, none⟩ = some (.slice A0_2 l0_2.length c0_2) := (qaa HQ.out.b 2).trans rfl
     go_wp2_with (first | (go_at_call 19; with_reducible refine (HNET.out _ HQ.out.hb).mono ?_; rintro e w7 ⟨rfl, hb⟩; have n_HQ := qab.mk (HQ.out.below hb); clear HQ; have HQ := n_HQ; clear n_HQ hb hq0 hq1 hq2; have hq0 : w7.cell? ⟨gb, 0, none⟩ = some (.slice A0_0 l0_0.length c0_0) := (qaa HQ.out.b 0).trans rfl; have hq1 : w7.cell? ⟨gb, 1, none⟩ = some (.slice A0_1 l0_1.length c0_1) := (qaa HQ.out.b 1).trans rfl; have hq2 : w7.cell? ⟨gb, 2, none⟩ = some (.slice A0_2 l0_2.length c0_2) := (qaa HQ.out.b 2).trans rfl))
     go_meet
     case rel => exact ⟨rfl, HQ⟩
    ·
     obtain ⟨h1, hv, hi, hp⟩ := h
     cases hp
     have g1 : decide ((l0_1.length : Int) < (l3.length : Int)) = false := decide_eq_false (by omega)
     have g2 : decide (l0_1.length < l3.length) = false := decide_eq_false (by omega)
     rw [hv] at HNET
     rw [hi] at HLO
     have hq0 : w6.cell? ⟨gb, 0, none⟩ = some (.slice A0_0 l0_0.length c0_0) := (qaa HQ.out.b 0).trans rfl; have hq1 : w6.cell? ⟨gb, 1, none⟩ = some (.slice A0_1 l0_1.length c0_1) := (qaa HQ.out.b 1).trans rfl; have hq2 : w6.cell? ⟨gb, 2, none⟩ = some (.slice A0_2 l0_2.length c0_2) := (qaa HQ.out.b 2).trans rfl
     go_wp2_with (first | (go_at_call 19; with_reducible refine (HNET.out _ HQ.out.hb).mono ?_; rintro e w7 ⟨rfl, hb⟩; have n_HQ := qab.mk (HQ.out.below hb); clear HQ; have HQ := n_HQ; clear n_HQ hb hq0 hq1 hq2; have hq0 : w7.cell? ⟨gb, 0, none⟩ = some (.slice A0_0 l0_0.length c0_0) := (qaa HQ.out.b 0).trans rfl; have hq1 : w7.cell? ⟨gb, 1, none⟩ = some (.slice A0_1 l0_1.length c0_1) := (qaa HQ.out.b 1).trans rfl; have hq2 : w7.cell? ⟨gb, 2, none⟩ = some (.slice A0_2 l0_2.length c0_2) := (qaa HQ.out.b 2).trans rfl) | (go_at_call 20; with_reducible refine (HLO.out _ HQ.out.hb).mono ?_; rintro e w8 ⟨rfl, hb⟩; have n_HQ := qab.mk (HQ.out.below hb); clear HQ; have HQ := n_HQ; clear n_HQ hb hq0 hq1 hq2; have hq0 : w8.cell? ⟨gb, 0, none⟩ = some (.slice A0_0 l0_0.length c0_0) := (qaa HQ.out.b 0).trans rfl; have hq1 : w8.cell? ⟨gb, 1, none⟩ = some (.slice A0_1 l0_1.length c0_1) := (qaa HQ.out.b 1).trans rfl; have hq2 : w8.cell? ⟨gb, 2, none⟩ = some (.slice A0_2 l0_2.length c0_2) := (qaa HQ.out.b 2).trans rfl))
     go_meet
     case rel => exact ⟨rfl, HQ⟩
    ·
     obtain ⟨h1, hv, hi, i0, i1, c1, hp⟩ := h
     cases hp
     have g1 : decide ((l0_1.length : Int) < (l3.length : Int)) = false := decide_eq_false (by omega)
     have g2 : decide (l0_1.length < l3.length) = false := decide_eq_false (by omega)
     rw [hv] at HNET
     rw [hi] at HLO
     obtain ⟨ad, e, hl0, hl1, hl2, hl3, hl4, hl5, hl6, hl7, hl8, hl9, hl10, hl11⟩ := at_T39 HR0.out a1 i0 i1
     cases e
     clear hl2 hl3 hl4 hl5 hl6 hl7 hl8 hl9 hl10 hl11
     obtain ⟨n, rfl⟩ := Int.eq_ofNat_of_zero_le i0
     simp only [Int.toNat_natCast] at hl0 hl1
     generalize hb0 : (qak l0_0 n).f0.f0 = b0 at *
     generalize hb1 : (qak l0_0 n).f0.f1 = b1 at *
     clear hb0 hb1
     have HL0 := qab.mk hl0
     have HL1 := qab.mk hl1
     clear hl0 hl1
     have d1 : decide (a2 < b0) = true := decide_eq_true (by omega)
     have hq0 : w6.cell? ⟨gb, 0, none⟩ = some (.slice (some ad) l0_0.length c0_0) := (qaa HQ.out.b 0).trans rfl; have hq1 : w6.cell? ⟨gb, 1, none⟩ = some (.slice A0_1 l0_1.length c0_1) := (qaa HQ.out.b 1).trans rfl; have hq2 : w6.cell? ⟨gb, 2, none⟩ = some (.slice A0_2 l0_2.length c0_2) := (qaa HQ.out.b 2).trans rfl; have hl0 := (HQ.out.hb.cell (World.block_lt_of_cell? w _ HL0.out)).trans HL0.out; have hl1 := (HQ.out.hb.cell (World.block_lt_of_cell? w _ HL1.out)).trans HL1.out
     go_wp2_with (first | (go_at_call 19; with_reducible refine (HNET.out _ HQ.out.hb).mono ?_; rintro e w7 ⟨rfl, hb⟩; have n_HQ := qab.mk (HQ.out.below hb); clear HQ; have HQ := n_HQ; clear n_HQ hb hq0 hq1 hq2 hl0 hl1; have hq0 : w7.cell? ⟨gb, 0, none⟩ = some (.slice (some ad) l0_0.length c0_0) := (qaa HQ.out.b 0).trans rfl; have hq1 : w7.cell? ⟨gb, 1, none⟩ = some (.slice A0_1 l0_1.length c0_1) := (qaa HQ.out.b 1).trans rfl; have hq2 : w7.cell? ⟨gb, 2, none⟩ = some (.slice A0_2 l0_2.length c0_2) := (qaa HQ.out.b 2).trans rfl; have hl0 := (HQ.out.hb.cell (World.block_lt_of_cell? w _ HL0.out)).trans HL0.out; have hl1 := (HQ.out.hb.cell (World.block_lt_of_cell? w _ HL1.out)).trans HL1.out) | (go_at_call 20; with_reducible refine (HLO.out _ HQ.out.hb).mono ?_; rintro e w8 ⟨rfl, hb⟩; have n_HQ := qab.mk (HQ.out.below hb); clear HQ; have HQ := n_HQ; clear n_HQ hb hq0 hq1 hq2 hl0 hl1; have hq0 : w8.cell? ⟨gb, 0, none⟩ = some (.slice (some ad) l0_0.length c0_0) := (qaa HQ.out.b 0).trans rfl; have hq1 : w8.cell? ⟨gb, 1, none⟩ = some (.slice A0_1 l0_1.length c0_1) := (qaa HQ.out.b 1).trans rfl; have hq2 : w8.cell? ⟨gb, 2, none⟩ = some (.slice A0_2 l0_2.length c0_2) := (qaa HQ.out.b 2).trans rfl; have hl0 := (HQ.out.hb.cell (World.block_lt_of_cell? w _ HL0.out)).trans HL0.out; have hl1 := (HQ.out.hb.cell (World.block_lt_of_cell? w _ HL1.out)).trans HL1.out))
     go_meet
     case rel => exact ⟨rfl, HQ⟩
    ·
     obtain ⟨h1, hv, hi, i0, i1, c1, c2, hp⟩ := h
     cases hp
     have g1 : decide ((l0_1.length : Int) < (l3.length : Int)) = false := decide_eq_false (by omega)
     have g2 : decide (l0_1.length < l3.length) = false := decide_eq_false (by omega)
     rw [hv] at HNET
     rw [hi] at HLO
     obtain ⟨ad, e, hl0, hl1, hl2, hl3, hl4, hl5, hl6, hl7, hl8, hl9, hl10, hl11⟩ := at_T39 HR0.out a1 i0 i1
     cases e
     clear hl2 hl3 hl4 hl5 hl6 hl7 hl8 hl9 hl10 hl11
     obtain ⟨n, rfl⟩ := Int.eq_ofNat_of_zero_le i0
     simp only [Int.toNat_natCast] at hl0 hl1
     generalize hb0 : (qak l0_0 n).f0.f0 = b0 at *
     generalize hb1 : (qak l0_0 n).f0.f1 = b1 at *
     clear hb0 hb1
     have HL0 := qab.mk hl0
     have HL1 := qab.mk hl1
     clear hl0 hl1
     have d1 : decide (a2 < b0) = false := decide_eq_false (by omega)
     have d2 : decide (b1 < a2) = true := decide_eq_true (by omega)
     have hq0 : w6.cell? ⟨gb, 0, none⟩ = some (.slice (some ad) l0_0.length c0_0) := (qaa HQ.out.b 0).trans rfl; have hq1 : w6.cell? ⟨gb, 1, none⟩ = some (.slice A0_1 l0_1.length c0_1) := (qaa HQ.out.b 1).trans rfl; have hq2 : w6.cell? ⟨gb, 2, none⟩ = some (.slice A0_2 l0_2.length c0_2) := (qaa HQ.out.b 2).trans rfl; have hl0 := (HQ.out.hb.cell (World.block_lt_of_cell? w _ HL0.out)).trans HL0.out; have hl1 := (HQ.out.hb.cell (World.block_lt_of_cell? w _ HL1.out)).trans HL1.out
     go_wp2_with (first | (go_at_call 19; with_reducible refine (HNET.out _ HQ.out.hb).mono ?_; rintro e w7 ⟨rfl, hb⟩; have n_HQ := qab.mk (HQ.out.below hb); clear HQ; have HQ := n_HQ; clear n_HQ hb hq0 hq1 hq2 hl0 hl1; have hq0 : w7.cell? ⟨gb, 0, none⟩ = some (.slice (some ad) l0_0.length c0_0) := (qaa HQ.out.b 0).trans rfl; have hq1 : w7.cell? ⟨gb, 1, none⟩ = some (.slice A0_1 l0_1.length c0_1) := (qaa HQ.out.b 1).trans rfl; have hq2 : w7.cell? ⟨gb, 2, none⟩ = some (.slice A0_2 l0_2.length c0_2) := (qaa HQ.out.b 2).trans rfl; have hl0 := (HQ.out.hb.cell (World.block_lt_of_cell? w _ HL0.out)).trans HL0.out; have hl1 := (HQ.out.hb.cell (World.block_lt_of_cell? w _ HL1.out)).trans HL1.out) | (go_at_call 20; with_reducible refine (HLO.out _ HQ.out.hb).mono ?_; rintro e w8 ⟨rfl, hb⟩; have n_HQ := qab.mk (HQ.out.below hb); clear HQ; have HQ := n_HQ; clear n_HQ hb hq0 hq1 hq2 hl0 hl1; have hq0 : w8.cell? ⟨gb, 0, none⟩ = some (.slice (some ad) l0_0.length c0_0) := (qaa HQ.out.b 0).trans rfl; have hq1 : w8.cell? ⟨gb, 1, none⟩ = some (.slice A0_1 l0_1.length c0_1) := (qaa HQ.out.b 1).trans rfl; have hq2 : w8.cell? ⟨gb, 2, none⟩ = some (.slice A0_2 l0_2.length c0_2) := (qaa HQ.out.b 2).trans rfl; have hl0 := (HQ.out.hb.cell (World.block_lt_of_cell? w _ HL0.out)).trans HL0.out; have hl1 := (HQ.out.hb.cell (World.block_lt_of_cell? w _ HL1.out)).trans HL1.out))
     go_meet
     case rel => exact ⟨rfl, HQ⟩
    ·
     obtain ⟨h1, hv, hi, i0, i1, c1, c2, ht, hp⟩ := h
     cases hp
     have g1 : decide ((l0_1.length : Int) < (l3.length : Int)) = false := decide_eq_false (by omega)
     have g2 : decide (l0_1.length < l3.length) = false := decide_eq_false (by omega)
     rw [hv] at HNET
     rw [hi] at HLO
     have htr : ∀ W, Below w.heap.size w W → Calls Try.prog 21 #[.agg #[.slice A0_0 l0_0.length c0_0, .slice A0_1 l0_1.length c0_1, .slice A0_2 l0_2.length c0_2], .int .i64 a1, .slice A3 l3.length c3] W fun e w' => e = .returned (.bool false) ∧ Below W.heap.size W w' := fun W hW =>
      talikref04_Truth.calls _ _ _ _ _ _ _ _ _ a1 _ _ l3 _ W (Kd.qam HR0.out hW) hc0_0 (Kd.qam HR1.out hW) hc0_1 (Kd.qam HR2.out hW) hc0_2 (Kd.qam HR3.out hW) hc3 (by unfold talikref04_Truth.f; rw [if_pos ⟨i0, i1, by omega⟩, ht])
     have HTR := qab.mk htr
     clear htr
     obtain ⟨ad, e, hl0, hl1, hl2, hl3, hl4, hl5, hl6, hl7, hl8, hl9, hl10, hl11⟩ := at_T39 HR0.out a1 i0 i1
     cases e
     clear hl2 hl3 hl4 hl5 hl6 hl7 hl8 hl9 hl10 hl11
     obtain ⟨n, rfl⟩ := Int.eq_ofNat_of_zero_le i0
     simp only [Int.toNat_natCast] at hl0 hl1
     generalize hb0 : (qak l0_0 n).f0.f0 = b0 at *
     generalize hb1 : (qak l0_0 n).f0.f1 = b1 at *
     clear hb0 hb1
     have HL0 := qab.mk hl0
     have HL1 := qab.mk hl1
     clear hl0 hl1
     have d1 : decide (a2 < b0) = false := decide_eq_false (by omega)
     have d2 : decide (b1 < a2) = false := decide_eq_false (by omega)
     have hq0 : w6.cell? ⟨gb, 0, none⟩ = some (.slice (some ad) l0_0.length c0_0) := (qaa HQ.out.b 0).trans rfl; have hq1 : w6.cell? ⟨gb, 1, none⟩ = some (.slice A0_1 l0_1.length c0_1) := (qaa HQ.out.b 1).trans rfl; have hq2 : w6.cell? ⟨gb, 2, none⟩ = some (.slice A0_2 l0_2.length c0_2) := (qaa HQ.out.b 2).trans rfl; have hl0 := (HQ.out.hb.cell (World.block_lt_of_cell? w _ HL0.out)).trans HL0.out; have hl1 := (HQ.out.hb.cell (World.block_lt_of_cell? w _ HL1.out)).trans HL1.out
     go_wp2_with (first | (go_at_call 19; with_reducible refine (HNET.out _ HQ.out.hb).mono ?_; rintro e w7 ⟨rfl, hb⟩; have n_HQ := qab.mk (HQ.out.below hb); clear HQ; have HQ := n_HQ; clear n_HQ hb hq0 hq1 hq2 hl0 hl1; have hq0 : w7.cell? ⟨gb, 0, none⟩ = some (.slice (some ad) l0_0.length c0_0) := (qaa HQ.out.b 0).trans rfl; have hq1 : w7.cell? ⟨gb, 1, none⟩ = some (.slice A0_1 l0_1.length c0_1) := (qaa HQ.out.b 1).trans rfl; have hq2 : w7.cell? ⟨gb, 2, none⟩ = some (.slice A0_2 l0_2.length c0_2) := (qaa HQ.out.b 2).trans rfl; have hl0 := (HQ.out.hb.cell (World.block_lt_of_cell? w _ HL0.out)).trans HL0.out; have hl1 := (HQ.out.hb.cell (World.block_lt_of_cell? w _ HL1.out)).trans HL1.out) | (go_at_call 20; with_reducible refine (HLO.out _ HQ.out.hb).mono ?_; rintro e w8 ⟨rfl, hb⟩; have n_HQ := qab.mk (HQ.out.below hb); clear HQ; have HQ := n_HQ; clear n_HQ hb hq0 hq1 hq2 hl0 hl1; have hq0 : w8.cell? ⟨gb, 0, none⟩ = some (.slice (some ad) l0_0.length c0_0) := (qaa HQ.out.b 0).trans rfl; have hq1 : w8.cell? ⟨gb, 1, none⟩ = some (.slice A0_1 l0_1.length c0_1) := (qaa HQ.out.b 1).trans rfl; have hq2 : w8.cell? ⟨gb, 2, none⟩ = some (.slice A0_2 l0_2.length c0_2) := (qaa HQ.out.b 2).trans rfl; have hl0 := (HQ.out.hb.cell (World.block_lt_of_cell? w _ HL0.out)).trans HL0.out; have hl1 := (HQ.out.hb.cell (World.block_lt_of_cell? w _ HL1.out)).trans HL1.out) | (go_at_call 21; with_reducible refine (HTR.out _ HQ.out.hb).mono ?_; rintro e w9 ⟨rfl, hb⟩; have n_HQ := qab.mk (HQ.out.below hb); clear HQ; have HQ := n_HQ; clear n_HQ hb hq0 hq1 hq2 hl0 hl1; have hq0 : w9.cell? ⟨gb, 0, none⟩ = some (.slice (some ad) l0_0.length c0_0) := (qaa HQ.out.b 0).trans rfl; have hq1 : w9.cell? ⟨gb, 1, none⟩ = some (.slice A0_1 l0_1.length c0_1) := (qaa HQ.out.b 1).trans rfl; have hq2 : w9.cell? ⟨gb, 2, none⟩ = some (.slice A0_2 l0_2.length c0_2) := (qaa HQ.out.b 2).trans rfl; have hl0 := (HQ.out.hb.cell (World.block_lt_of_cell? w _ HL0.out)).trans HL0.out; have hl1 := (HQ.out.hb.cell (World.block_lt_of_cell? w _ HL1.out)).trans HL1.out))
     go_meet
     case rel => exact ⟨rfl, HQ⟩
    ·
     obtain ⟨h1, hv, hi, i0, i1, c1, c2, ht, hp⟩ := h
     obtain rfl : er = 0 := congrArg (fun p => p.2.2.2.2) hp
     clear hp
     have g1 : decide ((l0_1.length : Int) < (l3.length : Int)) = false := decide_eq_false (by omega)
     have g2 : decide (l0_1.length < l3.length) = false := decide_eq_false (by omega)
     rw [hv] at HNET
     rw [hi] at HLO
     have htr : ∀ W, Below w.heap.size w W → Calls Try.prog 21 #[.agg #[.slice A0_0 l0_0.length c0_0, .slice A0_1 l0_1.length c0_1, .slice A0_2 l0_2.length c0_2], .int .i64 a1, .slice A3 l3.length c3] W fun e w' => e = .returned (.bool true) ∧ Below W.heap.size W w' := fun W hW =>
      talikref04_Truth.calls _ _ _ _ _ _ _ _ _ a1 _ _ l3 _ W (Kd.qam HR0.out hW) hc0_0 (Kd.qam HR1.out hW) hc0_1 (Kd.qam HR2.out hW) hc0_2 (Kd.qam HR3.out hW) hc3 (by unfold talikref04_Truth.f; rw [if_pos ⟨i0, i1, by omega⟩, ht])
     have HTR := qab.mk htr
     clear htr
     obtain ⟨ad, e, hl0, hl1, hl2, hl3, hl4, hl5, hl6, hl7, hl8, hl9, hl10, hl11⟩ := at_T39 HR0.out a1 i0 i1
     cases e
     clear hl2 hl3 hl4 hl5 hl6 hl7 hl8 hl9 hl10 hl11
     obtain ⟨n, rfl⟩ := Int.eq_ofNat_of_zero_le i0
     simp only [Int.toNat_natCast] at hl0 hl1
     generalize hb0 : (qak l0_0 n).f0.f0 = b0 at *
     generalize hb1 : (qak l0_0 n).f0.f1 = b1 at *
     clear hb0 hb1
     have HL0 := qab.mk hl0
     have HL1 := qab.mk hl1
     clear hl0 hl1
     have d1 : decide (a2 < b0) = false := decide_eq_false (by omega)
     have d2 : decide (b1 < a2) = false := decide_eq_false (by omega)
     have hq0 : w6.cell? ⟨gb, 0, none⟩ = some (.slice (some ad) l0_0.length c0_0) := (qaa HQ.out.b 0).trans rfl; have hq1 : w6.cell? ⟨gb, 1, none⟩ = some (.slice A0_1 l0_1.length c0_1) := (qaa HQ.out.b 1).trans rfl; have hq2 : w6.cell? ⟨gb, 2, none⟩ = some (.slice A0_2 l0_2.length c0_2) := (qaa HQ.out.b 2).trans rfl; have hl0 := (HQ.out.hb.cell (World.block_lt_of_cell? w _ HL0.out)).trans HL0.out; have hl1 := (HQ.out.hb.cell (World.block_lt_of_cell? w _ HL1.out)).trans HL1.out
     go_wp2_with (first | (go_at_call 19; with_reducible refine (HNET.out _ HQ.out.hb).mono ?_; rintro e w7 ⟨rfl, hb⟩; have n_HQ := qab.mk (HQ.out.below hb); clear HQ; have HQ := n_HQ; clear n_HQ hb hq0 hq1 hq2 hl0 hl1; have hq0 : w7.cell? ⟨gb, 0, none⟩ = some (.slice (some ad) l0_0.length c0_0) := (qaa HQ.out.b 0).trans rfl; have hq1 : w7.cell? ⟨gb, 1, none⟩ = some (.slice A0_1 l0_1.length c0_1) := (qaa HQ.out.b 1).trans rfl; have hq2 : w7.cell? ⟨gb, 2, none⟩ = some (.slice A0_2 l0_2.length c0_2) := (qaa HQ.out.b 2).trans rfl; have hl0 := (HQ.out.hb.cell (World.block_lt_of_cell? w _ HL0.out)).trans HL0.out; have hl1 := (HQ.out.hb.cell (World.block_lt_of_cell? w _ HL1.out)).trans HL1.out) | (go_at_call 20; with_reducible refine (HLO.out _ HQ.out.hb).mono ?_; rintro e w8 ⟨rfl, hb⟩; have n_HQ := qab.mk (HQ.out.below hb); clear HQ; have HQ := n_HQ; clear n_HQ hb hq0 hq1 hq2 hl0 hl1; have hq0 : w8.cell? ⟨gb, 0, none⟩ = some (.slice (some ad) l0_0.length c0_0) := (qaa HQ.out.b 0).trans rfl; have hq1 : w8.cell? ⟨gb, 1, none⟩ = some (.slice A0_1 l0_1.length c0_1) := (qaa HQ.out.b 1).trans rfl; have hq2 : w8.cell? ⟨gb, 2, none⟩ = some (.slice A0_2 l0_2.length c0_2) := (qaa HQ.out.b 2).trans rfl; have hl0 := (HQ.out.hb.cell (World.block_lt_of_cell? w _ HL0.out)).trans HL0.out; have hl1 := (HQ.out.hb.cell (World.block_lt_of_cell? w _ HL1.out)).trans HL1.out) | (go_at_call 21; with_reducible refine (HTR.out _ HQ.out.hb).mono ?_; rintro e w9 ⟨rfl, hb⟩; have n_HQ := qab.mk (HQ.out.below hb); clear HQ; have HQ := n_HQ; clear n_HQ hb hq0 hq1 hq2 hl0 hl1; have hq0 : w9.cell? ⟨gb, 0, none⟩ = some (.slice (some ad) l0_0.length c0_0) := (qaa HQ.out.b 0).trans rfl; have hq1 : w9.cell? ⟨gb, 1, none⟩ = some (.slice A0_1 l0_1.length c0_1) := (qaa HQ.out.b 1).trans rfl; have hq2 : w9.cell? ⟨gb, 2, none⟩ = some (.slice A0_2 l0_2.length c0_2) := (qaa HQ.out.b 2).trans rfl; have hl0 := (HQ.out.hb.cell (World.block_lt_of_cell? w _ HL0.out)).trans HL0.out; have hl1 := (HQ.out.hb.cell (World.block_lt_of_cell? w _ HL1.out)).trans HL1.out))
     go_meet
     case rel => exact ⟨rfl, HQ⟩
   case rest =>
    clear HQ hways HNET HLO
    obtain ⟨rfl, HQ⟩ := hcut
    rcases HEND.out with ⟨he, rfl, rfl, rfl, rfl⟩ | ⟨rfl, i0, i1, hpr⟩
    ·
     have hb1 : (er != 0) = true := by simp [he]
     clear he HEND
     have BKg9 := qab.mk HQ.out.x
     have hfg9 := qac BKg9.out; have hcg9_0 : wc.cell? ⟨g9, 0, none⟩ = some (.int .i64 0) := (qaa BKg9.out 0).trans rfl; have hcg9_1 : wc.cell? ⟨g9, 1, none⟩ = some (.int .i64 0) := (qaa BKg9.out 1).trans rfl; have hcg9_2 : wc.cell? ⟨g9, 2, none⟩ = some (.int .i64 0) := (qaa BKg9.out 2).trans rfl; have hcg9_3 : wc.cell? ⟨g9, 3, none⟩ = some (.int .i64 0) := (qaa BKg9.out 3).trans rfl
     go_wp2_with (first | (go_at_call 17; with_reducible refine (HKNOWN.out _ HQ.out.hb).mono ?_; rintro e w10 ⟨rfl, hb⟩; have n_HQ := qab.mk (HQ.out.below hb); clear HQ; have HQ := n_HQ; clear n_HQ hb))
     go_ret
     exact ⟨rfl, HQ.out.hb⟩
    ·
     clear HEND
     obtain ⟨ad, e, hl0, hl1, hl2, hl3, hl4, hl5, hl6, hl7, hl8, hl9, hl10, hl11⟩ := at_T39 HR0.out a1 i0 i1
     cases e
     obtain ⟨n, rfl⟩ := Int.eq_ofNat_of_zero_le i0
     simp only [Int.toNat_natCast] at hl0 hl1 hl2 hl3 hl4 hl5 hl6 hl7 hl8 hl9 hl10 hl11
     generalize qak l0_0 n = L at hpr hl0 hl1 hl2 hl3 hl4 hl5 hl6 hl7 hl8 hl9 hl10 hl11
     have href : ∀ W, Below w.heap.size w W → Calls Try.prog 22 #[.agg #[.int .i64 L.f0.f0, .int .i64 L.f0.f1, .int .i64 L.f1.f0, .int .i64 L.f1.f1, .int .i64 L.f2.f0, .int .i64 L.f2.f1, .int .i64 L.f3, .int .i64 L.f4, .int .i64 L.f5, .int .i64 L.f6, .int .i64 L.f7.f0, .int .i64 L.f7.f1], .int .i64 a2, .slice A3 l3.length c3] W fun e w' => e = .returned (.agg #[.int .i64 p1, .int .i64 p2, .int .i64 p3, .int .i64 p4]) ∧ Below W.heap.size W w' := fun W hW =>
      talikref04_Play.calls _ _ _ _ _ _ _ _ _ _ _ _ a2 _ _ l3 _ _ _ _ W (Kd.qam HR3.out hW) hc3 (by unfold talikref04_Play.f; rw [hpr])
     have HREF := qab.mk href
     have htup : ∀ W, QI w gb g9 #[.slice (some ad) l0_0.length c0_0, .slice A0_1 l0_1.length c0_1, .slice A0_2 l0_2.length c0_2] p1 p2 p3 p4 W → (W.cell? ⟨gb, 0, none⟩ = some (.slice (some ad) l0_0.length c0_0) ∧ W.cell? ⟨g9, 0, none⟩ = some (.int .i64 p1) ∧ W.cell? ⟨g9, 1, none⟩ = some (.int .i64 p2) ∧ W.cell? ⟨g9, 2, none⟩ = some (.int .i64 p3) ∧ W.cell? ⟨g9, 3, none⟩ = some (.int .i64 p4) ∧ W.cell? (ad.add (n * 12)) = some (.int .i64 L.f0.f0) ∧ W.cell? ⟨(ad.add (n * 12)).block, (ad.add (n * 12)).off + 1, none⟩ = some (.int .i64 L.f0.f1) ∧ W.cell? ⟨(ad.add (n * 12)).block, (ad.add (n * 12)).off + 2, none⟩ = some (.int .i64 L.f1.f0) ∧ W.cell? ⟨(ad.add (n * 12)).block, (ad.add (n * 12)).off + 3, none⟩ = some (.int .i64 L.f1.f1) ∧ W.cell? ⟨(ad.add (n * 12)).block, (ad.add (n * 12)).off + 4, none⟩ = some (.int .i64 L.f2.f0) ∧ W.cell? ⟨(ad.add (n * 12)).block, (ad.add (n * 12)).off + 5, none⟩ = some (.int .i64 L.f2.f1) ∧ W.cell? ⟨(ad.add (n * 12)).block, (ad.add (n * 12)).off + 6, none⟩ = some (.int .i64 L.f3) ∧ W.cell? ⟨(ad.add (n * 12)).block, (ad.add (n * 12)).off + 7, none⟩ = some (.int .i64 L.f4) ∧ W.cell? ⟨(ad.add (n * 12)).block, (ad.add (n * 12)).off + 8, none⟩ = some (.int .i64 L.f5) ∧ W.cell? ⟨(ad.add (n * 12)).block, (ad.add (n * 12)).off + 9, none⟩ = some (.int .i64 L.f6) ∧ W.cell? ⟨(ad.add (n * 12)).block, (ad.add (n * 12)).off + 10, none⟩ = some (.int .i64 L.f7.f0) ∧ W.cell? ⟨(ad.add (n * 12)).block, (ad.add (n * 12)).off + 11, none⟩ = some (.int .i64 L.f7.f1) ∧ qab (QI w gb g9 #[.slice (some ad) l0_0.length c0_0, .slice A0_1 l0_1.length c0_1, .slice A0_2 l0_2.length c0_2] p1 p2 p3 p4 W)) := fun W h =>
      ⟨qaa h.b 0, qaa h.x 0, qaa h.x 1, qaa h.x 2, qaa h.x 3, (h.hb.cell (World.block_lt_of_cell? w _ hl0)).trans hl0, (h.hb.cell (World.block_lt_of_cell? w _ hl1)).trans hl1, (h.hb.cell (World.block_lt_of_cell? w _ hl2)).trans hl2, (h.hb.cell (World.block_lt_of_cell? w _ hl3)).trans hl3, (h.hb.cell (World.block_lt_of_cell? w _ hl4)).trans hl4, (h.hb.cell (World.block_lt_of_cell? w _ hl5)).trans hl5, (h.hb.cell (World.block_lt_of_cell? w _ hl6)).trans hl6, (h.hb.cell (World.block_lt_of_cell? w _ hl7)).trans hl7, (h.hb.cell (World.block_lt_of_cell? w _ hl8)).trans hl8, (h.hb.cell (World.block_lt_of_cell? w _ hl9)).trans hl9, (h.hb.cell (World.block_lt_of_cell? w _ hl10)).trans hl10, (h.hb.cell (World.block_lt_of_cell? w _ hl11)).trans hl11, ⟨h⟩⟩
     have HTUP := qab.mk htup
     have HP1 := qab.mk (htup _ (HQ.out.below (below_drew (Below.refl wc.heap.size wc))))
     clear htup href hpr hl0 hl1 hl2 hl3 hl4 hl5 hl6 hl7 hl8 hl9 hl10 hl11
     go_upto_region 11 with fail
     refine start_ (n := 18) (S := fun w' => (w'.cell? ⟨gb, 0, none⟩ = some (.slice (some ad) l0_0.length c0_0) ∧ w'.cell? ⟨g9, 0, none⟩ = some (.int .i64 p1) ∧ w'.cell? ⟨g9, 1, none⟩ = some (.int .i64 p2) ∧ w'.cell? ⟨g9, 2, none⟩ = some (.int .i64 p3) ∧ w'.cell? ⟨g9, 3, none⟩ = some (.int .i64 p4) ∧ w'.cell? (ad.add (n * 12)) = some (.int .i64 L.f0.f0) ∧ w'.cell? ⟨(ad.add (n * 12)).block, (ad.add (n * 12)).off + 1, none⟩ = some (.int .i64 L.f0.f1) ∧ w'.cell? ⟨(ad.add (n * 12)).block, (ad.add (n * 12)).off + 2, none⟩ = some (.int .i64 L.f1.f0) ∧ w'.cell? ⟨(ad.add (n * 12)).block, (ad.add (n * 12)).off + 3, none⟩ = some (.int .i64 L.f1.f1) ∧ w'.cell? ⟨(ad.add (n * 12)).block, (ad.add (n * 12)).off + 4, none⟩ = some (.int .i64 L.f2.f0) ∧ w'.cell? ⟨(ad.add (n * 12)).block, (ad.add (n * 12)).off + 5, none⟩ = some (.int .i64 L.f2.f1) ∧ w'.cell? ⟨(ad.add (n * 12)).block, (ad.add (n * 12)).off + 6, none⟩ = some (.int .i64 L.f3) ∧ w'.cell? ⟨(ad.add (n * 12)).block, (ad.add (n * 12)).off + 7, none⟩ = some (.int .i64 L.f4) ∧ w'.cell? ⟨(ad.add (n * 12)).block, (ad.add (n * 12)).off + 8, none⟩ = some (.int .i64 L.f5) ∧ w'.cell? ⟨(ad.add (n * 12)).block, (ad.add (n * 12)).off + 9, none⟩ = some (.int .i64 L.f6) ∧ w'.cell? ⟨(ad.add (n * 12)).block, (ad.add (n * 12)).off + 10, none⟩ = some (.int .i64 L.f7.f0) ∧ w'.cell? ⟨(ad.add (n * 12)).block, (ad.add (n * 12)).off + 11, none⟩ = some (.int .i64 L.f7.f1) ∧ qab (QI w gb g9 #[.slice (some ad) l0_0.length c0_0, .slice A0_1 l0_1.length c0_1, .slice A0_2 l0_2.length c0_2] p1 p2 p3 p4 w'))) (ds := []) (msk 18 0) (by kernel_rfl) rfl (by kernel_rfl) HP1.out (fun hHeld => ?_); refine with_tabW taliklaw04_PipePlays.tab11 taliklaw04_PipePlays.bits11 (fun HT_ HW_ => ?_)
     refine pure_ (i := 0) (N := some 86) (v := ?_) (a' := ?_) (msk 18 1) rfl rfl (qaq HT_.out (by kernel_rfl)) (fun _ _ _ h => h) (Or.inl ⟨by rfl, ?_⟩) ?_ ?_; rotate_left; (focus (intro w'; go_simp; with_reducible rfl)); rotate_left; (focus (simp only [Act.put, List.setIfInBounds_toArray, List.set_cons_zero, List.set_cons_succ, i64_w, i32_w]; rfl))
     refine pure_ (i := 1) (N := some 87) (v := ?_) (a' := ?_) (msk 18 2) rfl rfl (qaq HT_.out (by kernel_rfl)) (fun _ _ _ h => h) (Or.inl ⟨by rfl, ?_⟩) ?_ ?_; rotate_left; (focus (intro w'; go_simp; with_reducible rfl)); rotate_left; (focus (simp only [Act.put, List.setIfInBounds_toArray, List.set_cons_zero, List.set_cons_succ, i64_w, i32_w]; rfl))
     refine pure_ (i := 2) (N := some 88) (v := ?_) (a' := ?_) (msk 18 3) rfl rfl (qaq HT_.out (by kernel_rfl)) (fun _ _ _ h => h) (Or.inl ⟨by rfl, ?_⟩) ?_ ?_; rotate_left; (focus (intro w'; go_simp; with_reducible rfl)); rotate_left; (focus (simp only [Act.put, List.setIfInBounds_toArray, List.set_cons_zero, List.set_cons_succ, i64_w, i32_w]; rfl))
     refine take_ (i := 3) (N := some 89) (v := ?_) (a' := ?_) (msk 18 4) rfl rfl (take_ofW HT_.out HW_.out (by kernel_rfl)) (fun _ _ _ h => h) (Or.inl ⟨by rfl, ?_⟩) hHeld ?_ ?_; rotate_left; (focus (rintro w' ⟨s0, s1, s2, s3, s4, s5, s6, s7, s8, s9, s10, s11, s12, s13, s14, s15, s16, s17⟩; go_simp; with_reducible rfl)); rotate_left; (focus (simp only [Act.put, List.setIfInBounds_toArray, List.set_cons_zero, List.set_cons_succ, i64_w, i32_w]; rfl))
     refine pure_ (i := 4) (N := some 90) (v := ?_) (a' := ?_) (msk 18 5) rfl rfl (qaq HT_.out (by kernel_rfl)) (fun _ _ _ h => h) (Or.inl ⟨by rfl, ?_⟩) ?_ ?_; rotate_left; (focus (intro w'; go_simp; with_reducible rfl)); rotate_left; (focus (simp only [Act.put, List.setIfInBounds_toArray, List.set_cons_zero, List.set_cons_succ, i64_w, i32_w]; rfl))
     refine take_ (i := 5) (N := some 91) (v := ?_) (a' := ?_) (msk 18 6) rfl rfl (take_ofW HT_.out HW_.out (by kernel_rfl)) (fun _ _ _ h => h) (Or.inl ⟨by rfl, ?_⟩) hHeld ?_ ?_; rotate_left; (focus (rintro w' ⟨s0, s1, s2, s3, s4, s5, s6, s7, s8, s9, s10, s11, s12, s13, s14, s15, s16, s17⟩; go_simp; with_reducible rfl)); rotate_left; (focus (simp only [Act.put, List.setIfInBounds_toArray, List.set_cons_zero, List.set_cons_succ, i64_w, i32_w]; rfl))
     refine pure_ (i := 6) (N := some 92) (v := ?_) (a' := ?_) (msk 18 7) rfl rfl (qaq HT_.out (by kernel_rfl)) (fun _ _ _ h => h) (Or.inl ⟨by rfl, ?_⟩) ?_ ?_; rotate_left; (focus (intro w'; go_simp; with_reducible rfl)); rotate_left; (focus (simp only [Act.put, List.setIfInBounds_toArray, List.set_cons_zero, List.set_cons_succ, i64_w, i32_w]; rfl))
     refine pure_ (i := 7) (N := some 93) (v := ?_) (a' := ?_) (msk 18 8) rfl rfl (qaq HT_.out (by kernel_rfl)) (fun _ _ _ h => h) (Or.inl ⟨by rfl, ?_⟩) ?_ ?_; rotate_left; (focus (intro w'; go_simp; with_reducible rfl)); rotate_left; (focus (simp only [Act.put, List.setIfInBounds_toArray, List.set_cons_zero, List.set_cons_succ, i64_w, i32_w]; rfl))
     refine take_ (i := 8) (N := some 94) (v := ?_) (a' := ?_) (msk 18 9) rfl rfl (take_ofW HT_.out HW_.out (by kernel_rfl)) (fun _ _ _ h => h) (Or.inl ⟨by rfl, ?_⟩) hHeld ?_ ?_; rotate_left; (focus (rintro w' ⟨s0, s1, s2, s3, s4, s5, s6, s7, s8, s9, s10, s11, s12, s13, s14, s15, s16, s17⟩; go_simp; with_reducible rfl)); rotate_left; (focus (simp only [Act.put, List.setIfInBounds_toArray, List.set_cons_zero, List.set_cons_succ, i64_w, i32_w]; rfl))
     refine pure_ (i := 9) (N := some 95) (v := ?_) (a' := ?_) (msk 18 10) rfl rfl (qaq HT_.out (by kernel_rfl)) (fun _ _ _ h => h) (Or.inl ⟨by rfl, ?_⟩) ?_ ?_; rotate_left; (focus (intro w'; go_simp; with_reducible rfl)); rotate_left; (focus (simp only [Act.put, List.setIfInBounds_toArray, List.set_cons_zero, List.set_cons_succ, i64_w, i32_w]; rfl))
     refine pure_ (i := 10) (N := some 96) (v := ?_) (a' := ?_) (msk 18 11) rfl rfl (qaq HT_.out (by kernel_rfl)) (fun _ _ _ h => h) (Or.inl ⟨by rfl, ?_⟩) ?_ ?_; rotate_left; (focus (intro w'; go_simp; with_reducible rfl)); rotate_left; (focus (simp only [Act.put, List.setIfInBounds_toArray, List.set_cons_zero, List.set_cons_succ, i64_w, i32_w]; rfl))
     refine one_ (i := 11) (N := some 97) (msk 18 12) rfl rfl (one_of HT_.out (by kernel_rfl)) (by decide) (fun K hK => ?_)
     refine goes_ Try.func22 (by kernel_rfl) rfl #[.agg #[.int .i64 L.f0.f0, .int .i64 L.f0.f1, .int .i64 L.f1.f0, .int .i64 L.f1.f1, .int .i64 L.f2.f0, .int .i64 L.f2.f1, .int .i64 L.f3, .int .i64 L.f4, .int .i64 L.f5, .int .i64 L.f6, .int .i64 L.f7.f0, .int .i64 L.f7.f1], .int .i64 a2, .slice A3 l3.length c3] (by rfl) rfl rfl (by (try simp only [List.map_toArray, List.map_cons, List.map_nil]); first | done | rfl | (simp only [List.length_drop, List.length_take]; rfl)) ?_
     refine (HREF.out _ (QI.hb hHeld.2.2.2.2.2.2.2.2.2.2.2.2.2.2.2.2.2.out)).mono ?_; rintro e w7 ⟨rfl, hb⟩; have HP2 := qab.mk (HTUP.out w7 (QI.below hHeld.2.2.2.2.2.2.2.2.2.2.2.2.2.2.2.2.2.out hb)); clear hb; refine ⟨_, rfl, ?_⟩; refine hK.out _ _ HP2.out (fun hHeld => ?_); clear hK K; refine norm_ (a' := ?_) ?_ ?_; rotate_left; (focus (show Act.put _ (some 97) _ = _; simp only [Act.put, List.setIfInBounds_toArray, List.set_cons_zero, List.set_cons_succ, i64_w, i32_w]; rfl))
     refine pure_ (i := 12) (N := some 98) (v := ?_) (a' := ?_) (msk 18 13) rfl rfl (qaq HT_.out (by kernel_rfl)) (fun _ _ _ h => h) (Or.inl ⟨by rfl, ?_⟩) ?_ ?_; rotate_left; (focus (intro w'; go_simp; with_reducible rfl)); rotate_left; (focus (simp only [Act.put, List.setIfInBounds_toArray, List.set_cons_zero, List.set_cons_succ, i64_w, i32_w]; rfl))
     refine pure_ (i := 13) (N := some 99) (v := ?_) (a' := ?_) (msk 18 14) rfl rfl (qaq HT_.out (by kernel_rfl)) (fun _ _ _ h => h) (Or.inl ⟨by rfl, ?_⟩) ?_ ?_; rotate_left; (focus (intro w'; go_simp; with_reducible rfl)); rotate_left; (focus (simp only [Act.put, List.setIfInBounds_toArray, List.set_cons_zero, List.set_cons_succ, i64_w, i32_w]; rfl))
     refine pure_ (i := 14) (N := some 100) (v := ?_) (a' := ?_) (msk 18 15) rfl rfl (qaq HT_.out (by kernel_rfl)) (fun _ _ _ h => h) (Or.inl ⟨by rfl, ?_⟩) ?_ ?_; rotate_left; (focus (intro w'; go_simp; with_reducible rfl)); rotate_left; (focus (simp only [Act.put, List.setIfInBounds_toArray, List.set_cons_zero, List.set_cons_succ, i64_w, i32_w]; rfl))
     refine one_ (i := 15) (N := some 101) (msk 18 16) rfl rfl (one_of HT_.out (by kernel_rfl)) (by decide) (fun K hK => ?_)
     refine goes_ Try.func17 (by kernel_rfl) rfl #[] (by rfl) rfl rfl (by (try simp only [List.map_toArray, List.map_cons, List.map_nil]); first | done | rfl | (simp only [List.length_drop, List.length_take]; rfl)) ?_
     refine (HKNOWN.out _ (QI.hb hHeld.2.2.2.2.2.2.2.2.2.2.2.2.2.2.2.2.2.out)).mono ?_; rintro e w8 ⟨rfl, hb⟩; have HP3 := qab.mk (HTUP.out w8 (QI.below hHeld.2.2.2.2.2.2.2.2.2.2.2.2.2.2.2.2.2.out hb)); clear hb; refine ⟨_, rfl, ?_⟩; refine hK.out _ _ HP3.out (fun hHeld => ?_); clear hK K; refine norm_ (a' := ?_) ?_ ?_; rotate_left; (focus (show Act.put _ (some 101) _ = _; simp only [Act.put, List.setIfInBounds_toArray, List.set_cons_zero, List.set_cons_succ, i64_w, i32_w]; rfl))
     refine pure_ (i := 16) (N := some 102) (v := ?_) (a' := ?_) (msk 18 17) rfl rfl (qaq HT_.out (by kernel_rfl)) (fun _ _ _ h => h) (Or.inl ⟨by rfl, ?_⟩) ?_ ?_; rotate_left; (focus (intro w'; go_simp; with_reducible rfl)); rotate_left; (focus (simp only [Act.put, List.setIfInBounds_toArray, List.set_cons_zero, List.set_cons_succ, i64_w, i32_w]; rfl))
     refine pure_ (i := 17) (N := some 8) (v := ?_) (a' := ?_) (msk 18 18) rfl rfl (qaq HT_.out (by kernel_rfl)) (fun _ _ _ h => h) (Or.inl ⟨by rfl, ?_⟩) ?_ ?_; rotate_left; (focus (intro w'; go_simp; with_reducible rfl)); rotate_left; (focus (simp only [Act.put, List.setIfInBounds_toArray, List.set_cons_zero, List.set_cons_succ, i64_w, i32_w]; rfl))
     refine done_ (done_of HT_.out (by kernel_rfl)) ?_
     try go_wp2
     go_ret
     exact ⟨rfl, HP3.out.2.2.2.2.2.2.2.2.2.2.2.2.2.2.2.2.2.out.hb⟩
end Go.Proofs.Ytipphcjgdebecaa.PA
