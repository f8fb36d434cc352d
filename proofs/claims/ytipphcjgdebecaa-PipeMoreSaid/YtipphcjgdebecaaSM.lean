/- What functions of the program answer. No condition. -/
import Derived.Test.YtipphcjgdebecaaSC
import Derived.Test.YtipphcjgdebecaaSF
import Derived.Test.YtipphcjgdebecaaSG
import Derived.Test.YtipphcjgdebecaaSJ
import Derived.Test.YtipphcjgdebecaaSK
import Derived.Test.YtipphcjgdebecaaSL
set_option linter.all false
set_option maxRecDepth 100000
set_option maxHeartbeats 8000000
namespace Go.Proofs.Ytipphcjgdebecaa.PA
open Go.RowKit Go.Proofs.YtipphcjgdebecaaW.PrintWords Go.Proofs.YtipphcjgdebecaaW.PrintLast Go.Proofs.YtipphcjgdebecaaW.PrintMore
attribute [local go_sem] qas qau max_two min_two qao qap qat qav
structure NetC (l0 : List S39) (l1 : List S37) (l2 : List (List Int)) (A0 : Option Addr) (c0 : Nat) (A1 : Option Addr) (c1 : Nat) (A2 : Option Addr) (c2 : Nat) (W : World) : Prop where
 r0 : Kd.C k39 W A0 l0.length l0
 h0 : l0.length ≤ c0
 r1 : Kd.C k37 W A1 l1.length l1
 h1 : l1.length ≤ c1
 r2 : Kd.C (Kd.slice 3 (Kd.int .i64)) W A2 l2.length l2
 h2 : l2.length ≤ c2
theorem NetC.below {l0 : List S39} {l1 : List S37} {l2 : List (List Int)} {A0 A1 A2 : Option Addr} {c0 c1 c2 : Nat} {W W' : World} (h : NetC l0 l1 l2 A0 c0 A1 c1 A2 c2 W) (hb : Below W.heap.size W W') : NetC l0 l1 l2 A0 c0 A1 c1 A2 c2 W' :=
 ⟨Kd.qak h.r0 hb, h.h0, Kd.qak h.r1 hb, h.h1, Kd.qak h.r2 hb, h.h2⟩
def TR0 : List S44 := [⟨120, 250, true⟩, ⟨120, 250, false⟩]
section
variable {l0 : List S39} {l1 : List S37} {l2 : List (List Int)} {A0 A1 A2 : Option Addr} {c0 c1 c2 : Nat} {W : World}
theorem net_known (k : Nat) (hf : taliklaw04_Net.f k = some (l0, l1, l2)) (W : World) : Calls Try.prog 53 #[] W fun e w' => ∃ A0 c0 A1 c1 A2 c2, e = .returned (.agg #[.slice A0 l0.length c0, .slice A1 l1.length c1, .slice A2 l2.length c2]) ∧ NetC l0 l1 l2 A0 c0 A1 c1 A2 c2 w' ∧ Below W.heap.size W w' := by
 refine (taliklaw04_Net.calls k l0 l1 l2 W hf).mono ?_
 rintro e w' ⟨v0, v1, v2, rfl, h0, h1, h2, hb⟩
 obtain ⟨A0, n0, d0, rfl⟩ := R_shape h0
 obtain ⟨A1, n1, d1, rfl⟩ := R_shape h1
 obtain ⟨A2, d2, rfl, e2, f2⟩ := Kd.N_reads h2
 obtain ⟨rfl, e0, f0⟩ := Kd.R_reads' h0
 obtain ⟨rfl, e1, f1⟩ := Kd.R_reads' h1
 exact ⟨A0, d0, A1, d1, A2, d2, rfl, ⟨f0, e0, f1, e1, f2, e2⟩, hb⟩
theorem play_known (h : NetC l0 l1 l2 A0 c0 A1 c1 A2 c2 W) (hf : playV l0 l1 l2 0 350 TR0 = (268, 3000, 1420, 5680, 0)) :
  Calls Try.prog 18 #[.agg #[.slice A0 l0.length c0, .slice A1 l1.length c1, .slice A2 l2.length c2], .int .i64 0, .int .i64 350, .slice (some ⟨W.heap.size, 0, none⟩) 2 2] (W.alloc (.cells #[.int .i64 120, .int .i64 250, .bool true, .int .i64 120, .int .i64 250, .bool false] 44)) fun e w' =>
   e = .returned (.tuple #[.agg #[.int .i64 268, .int .i64 3000, .int .i64 1420, .int .i64 5680], .int .i64 0]) ∧ Below W.heap.size W w' := by
 have hb := qag (Below.refl W.heap.size W) (.cells #[.int .i64 120, .int .i64 250, .bool true, .int .i64 120, .int .i64 250, .bool false] 44)
 have h' := h.below hb
 have hr := new_row k44 44 W TR0 [.int .i64 120, .int .i64 250, .bool true, .int .i64 120, .int .i64 250, .bool false] (Reps.front (k44_mkM W _ _ ⟨120, 250, true⟩) rfl (Reps.front (k44_mkM W _ _ ⟨120, 250, false⟩) rfl (Reps.none _ _) rfl) rfl) (by decide)
 have hc := (Kd.R_reads' hr).2.2
 exact (pipe_Play.calls _ _ l0 _ _ l1 _ _ l2 0 350 _ 2 TR0 _ _ _ _ _ _ h'.r0 h'.h0 h'.r1 h'.h1 h'.r2 h'.h2 hc (by decide) (by unfold pipe_Play.f; rw [hf])).mono fun e w' ⟨h1, h2⟩ => ⟨h1, qad hb h2⟩
theorem freezes_known (h : NetC l0 l1 l2 A0 c0 A1 c1 A2 c2 W) (hf : pipe_Freezes.f l0 l1 l2 1 = some (4, 5, 0)) :
  Calls Try.prog 43 #[.agg #[.slice A0 l0.length c0, .slice A1 l1.length c1, .slice A2 l2.length c2], .int .i64 1] W fun e w' => e = .returned (.tuple #[.int .i64 4, .int .i64 5, .int .i64 0]) ∧ Below W.heap.size W w' :=
 pipe_Freezes.calls _ _ l0 _ _ l1 _ _ l2 1 _ _ _ _ h.r0 h.h0 h.r1 h.h1 h.r2 h.h2 hf
theorem order_known (h : NetC l0 l1 l2 A0 c0 A1 c1 A2 c2 W) (k : Nat) (f : Int) (l : List Int) (s e0 : Int) (hf : pipe_Order.f k l0 l1 l2 0 f = some (l, s, e0)) :
  Calls Try.prog 24 #[.agg #[.slice A0 l0.length c0, .slice A1 l1.length c1, .slice A2 l2.length c2], .int .i64 0, .int .i64 f] W fun e w' => ∃ v, e = .returned (.tuple #[v, .int .i64 s, .int .i64 e0]) ∧ Kd.R (Kd.int .i64) 3 w' W.heap.size (fun _ => True) v l ∧ Below W.heap.size W w' :=
 pipe_Order.calls k _ _ l0 _ _ l1 _ _ l2 0 f l s e0 _ h.r0 h.h0 h.r1 h.h1 h.r2 h.h2 hf
theorem post_known (h : NetC l0 l1 l2 A0 c0 A1 c1 A2 c2 W) (hf : postV l0 l1 l2 [1] = (1, 2, 0)) :
  Calls Try.prog 37 #[.agg #[.slice A0 l0.length c0, .slice A1 l1.length c1, .slice A2 l2.length c2], .slice (some ⟨W.heap.size, 0, none⟩) 1 1] (W.alloc (.cells #[.int .i64 1] 3)) fun e w' => e = .returned (.tuple #[.int .i64 1, .int .i64 2, .int .i64 0]) ∧ Below W.heap.size W w' := by
 have hb := qag (Below.refl W.heap.size W) (.cells #[.int .i64 1] 3)
 have h' := h.below hb
 exact (pipe_Post.calls _ _ l0 _ _ l1 _ _ l2 _ 1 [1] _ _ _ _ h'.r0 h'.h0 h'.r1 h'.h1 h'.r2 h'.h2 (new_ints W [1] (by decide)) (by decide) (by unfold pipe_Post.f; rw [hf])).mono fun e w' ⟨h1, h2⟩ => ⟨h1, qad hb h2⟩
theorem wrap_known (h : NetC l0 l1 l2 A0 c0 A1 c1 A2 c2 W) (hf : wrapV l0 l1 l2 0 [1, 2, 3] = (1, 30, 0)) :
  Calls Try.prog 39 #[.agg #[.slice A0 l0.length c0, .slice A1 l1.length c1, .slice A2 l2.length c2], .int .i64 0, .slice (some ⟨W.heap.size, 0, none⟩) 3 3] (W.alloc (.cells #[.int .i64 1, .int .i64 2, .int .i64 3] 3)) fun e w' => e = .returned (.tuple #[.int .i64 1, .int .i64 30, .int .i64 0]) ∧ Below W.heap.size W w' := by
 have hb := qag (Below.refl W.heap.size W) (.cells #[.int .i64 1, .int .i64 2, .int .i64 3] 3)
 have h' := h.below hb
 exact (pipe_Wrap.calls _ _ l0 _ _ l1 _ _ l2 0 _ 3 [1, 2, 3] _ _ _ _ h'.r0 h'.h0 h'.r1 h'.h1 h'.r2 h'.h2 (new_ints W [1, 2, 3] (by decide)) (by decide) (by unfold pipe_Wrap.f; rw [hf])).mono fun e w' ⟨h1, h2⟩ => ⟨h1, qad hb h2⟩
theorem same_known {base : Nat} {ok : Nat → Prop} {v : Value} (h : Kd.R (Kd.int .i64) 3 W base ok v [0]) :
  Calls Try.prog 28 #[v, .slice (some ⟨W.heap.size, 0, none⟩) 1 1] (W.alloc (.cells #[.int .i64 0] 3)) fun e w' => e = .returned (.bool true) ∧ Below W.heap.size W w' := by
 have hb := qag (Below.refl W.heap.size W) (.cells #[.int .i64 0] 3)
 obtain ⟨A, n, c, rfl⟩ := R_shape h
 obtain ⟨rfl, hc, hC⟩ := Kd.R_reads' h
 exact (talikref04_Same.calls 5 A c [0] _ 1 [0] true _ (Kd.qak hC hb) hc (new_ints W [0] (by decide)) (by decide) (by kernel_rfl)).mono fun e w' ⟨h1, h2⟩ => ⟨h1, qad hb h2.below⟩
end
def KL0 : List S39 := [⟨⟨300, 400⟩, ⟨100, 150⟩, ⟨50, 80⟩, 30, 50, 200, 60, ⟨1, 2⟩⟩, ⟨⟨300, 300⟩, ⟨200, 200⟩, ⟨60, 60⟩, 40, 50, 200, 80, ⟨1, 1⟩⟩]
def KL1 : List S37 := [⟨200, 300⟩, ⟨200, 300⟩, ⟨200, 300⟩, ⟨200, 300⟩, ⟨200, 300⟩, ⟨200, 300⟩, ⟨200, 300⟩, ⟨200, 300⟩]
def KL2 : List (List Int) := [[0, 1, 1], [1, 0, 1], [1, 1, 0]]
theorem kNet : taliklaw04_Net.f 12 = some (KL0, KL1, KL2) := by kernel_rfl
theorem kPlay : playV KL0 KL1 KL2 0 350 TR0 = (268, 3000, 1420, 5680, 0) := by kernel_rfl
theorem kFreezes : pipe_Freezes.f KL0 KL1 KL2 1 = some (4, 5, 0) := by kernel_rfl
theorem kOrder1 : pipe_Order.f 5 KL0 KL1 KL2 0 1 = some ([0], 1, 0) := by kernel_rfl
theorem kOrder3 : pipe_Order.f 5 KL0 KL1 KL2 0 3 = some ([], 0, 5) := by kernel_rfl
theorem kPost : postV KL0 KL1 KL2 [1] = (1, 2, 0) := by kernel_rfl
theorem kWrap : wrapV KL0 KL1 KL2 0 [1, 2, 3] = (1, 30, 0) := by kernel_rfl
def taliklaw04_known.f  : Option (Bool) := some true
theorem taliklaw04_known.calls  (r : Bool) (w : World) (h : taliklaw04_known.f  = some r) :
  Calls Try.prog 17 #[] w fun e w' => e = .returned (.bool r) ∧ Below w.heap.size w w' := by
 obtain rfl := Option.some.inj h
 clear h
 have hu26 := Try.underlying26
 have hu31 := Try.underlying31
 have hu44 := Try.underlying44
 have HB := qab.mk (Below.refl w.heap.size w)
 have hnet := net_known 12 kNet
 have hplay : ∀ A0 c0 A1 c1 A2 c2 W, NetC KL0 KL1 KL2 A0 c0 A1 c1 A2 c2 W → _ := fun A0 c0 A1 c1 A2 c2 W h => play_known h kPlay
 have hfrz : ∀ A0 c0 A1 c1 A2 c2 W, NetC KL0 KL1 KL2 A0 c0 A1 c1 A2 c2 W → _ := fun A0 c0 A1 c1 A2 c2 W h => freezes_known h kFreezes
 have hor1 : ∀ A0 c0 A1 c1 A2 c2 W, NetC KL0 KL1 KL2 A0 c0 A1 c1 A2 c2 W → _ := fun A0 c0 A1 c1 A2 c2 W h => order_known h _ 1 _ _ _ kOrder1
 have hor3 : ∀ A0 c0 A1 c1 A2 c2 W, NetC KL0 KL1 KL2 A0 c0 A1 c1 A2 c2 W → _ := fun A0 c0 A1 c1 A2 c2 W h => order_known h _ 3 _ _ _ kOrder3
 have hpost : ∀ A0 c0 A1 c1 A2 c2 W, NetC KL0 KL1 KL2 A0 c0 A1 c1 A2 c2 W → _ := fun A0 c0 A1 c1 A2 c2 W h => post_known h kPost
 have hwrap : ∀ A0 c0 A1 c1 A2 c2 W, NetC KL0 KL1 KL2 A0 c0 A1 c1 A2 c2 W → _ := fun A0 c0 A1 c1 A2 c2 W h => wrap_known h kWrap
 have HNET := qab.mk hnet
 have HPLAY := qab.mk hplay
 have HFRZ := qab.mk hfrz
 have HOR1 := qab.mk hor1
 have HOR3 := qab.mk hor3
 have HPOST := qab.mk hpost
 have HWRAP := qab.mk hwrap
 clear hnet hplay hfrz hor1 hor3 hpost hwrap
 generalize KL0 = l0 at *
 generalize KL1 = l1 at *
 generalize KL2 = l2 at *
 go_enter Try.func17, Try.ntmps17
 go_upto_region 2 with (first | (with_reducible refine qam (N := 1) rfl ?_); refine qal ?hg (N := 1) ?hd (cs := #[.int .i64 0, .int .i64 0, .int .i64 0, .int .i64 0]) (t := 31) ?hr ?_; (case hd => rfl); (case hg => rfl); (case hr => first | (go_simp; done) | (go_simp; rfl)); intro gx hg_gx w4 hbox hb; have BKgx := qab.mk hbox; have n_HB := qab.mk (qad HB.out hb); have GEgx : w.heap.size ≤ gx := (by rw [hg_gx]; exact HB.out.size); clear HB; have HB := n_HB; clear n_HB; obtain ⟨hfgx, hcgx_0, hcgx_1, hcgx_2, hcgx_3⟩ := qz4 BKgx.out; clear hbox hb hg_gx | (go_at_call 53; with_reducible refine (HNET.out _).mono ?_; rintro e w2 ⟨A0, c0, A1, c1, A2, c2, rfl, hn, hb⟩; have HN := qab.mk hn; clear hn; (try (replace HO := qab.mk (Kd.R_below HO.out hb))); replace HB := qab.mk (qad HB.out hb); clear hb) | (go_at_call 18; with_reducible refine (HPLAY.out _ _ _ _ _ _ _ HN.out).mono ?_; rintro e w3 ⟨rfl, hb⟩; replace HB := qab.mk (qad HB.out hb); clear hb))
 have he_ : setAll w4 gx [.int .i64 268, .int .i64 3000, .int .i64 1420, .int .i64 5680] 0 = ((((w4.setCell ⟨gx, 0, none⟩ (.int .i64 268)).setCell ⟨gx, 1, none⟩ (.int .i64 3000)).setCell ⟨gx, 2, none⟩ (.int .i64 1420)).setCell ⟨gx, 3, none⟩ (.int .i64 5680)) := rfl; have hbl := setAll_below GEgx [.int .i64 268, .int .i64 3000, .int .i64 1420, .int .i64 5680] 0 _ HB.out; have hbx : (setAll w4 gx [.int .i64 268, .int .i64 3000, .int .i64 1420, .int .i64 5680] 0).heap[gx]? = some (.cells #[.int .i64 268, .int .i64 3000, .int .i64 1420, .int .i64 5680] 31 (0, 0)) := setAll_new [.int .i64 268, .int .i64 3000, .int .i64 1420, .int .i64 5680] [.int .i64 0, .int .i64 0, .int .i64 0, .int .i64 0] BKgx.out rfl; rw [he_] at hbl hbx ; clear he_; generalize ((((w4.setCell ⟨gx, 0, none⟩ (.int .i64 268)).setCell ⟨gx, 1, none⟩ (.int .i64 3000)).setCell ⟨gx, 2, none⟩ (.int .i64 1420)).setCell ⟨gx, 3, none⟩ (.int .i64 5680)) = w5 at hbl hbx  ⊢; clear HB BKgx; have HB := qab.mk hbl; have BKgx := qab.mk hbx; clear hbl hbx
 clear hfgx hcgx_0 hcgx_1 hcgx_2 hcgx_3 HN
 go_upto_region 7 with (first | (go_at_call 53; with_reducible refine (HNET.out _).mono ?_; rintro e w6 ⟨A0, c0, A1, c1, A2, c2, rfl, hn, hb⟩; have HN := qab.mk hn; clear hn; (try (replace HO := qab.mk (Kd.R_below HO.out hb))); replace BKgx := qab.mk (qae BKgx.out hb); replace HB := qab.mk (qad HB.out hb); clear hb) | (go_at_call 43; with_reducible refine (HFRZ.out _ _ _ _ _ _ _ HN.out).mono ?_; rintro e w7 ⟨rfl, hb⟩; replace BKgx := qab.mk (qae BKgx.out hb); replace HB := qab.mk (qad HB.out hb); clear hb; clear HN) | (go_at_call 24; with_reducible refine (HOR1.out _ _ _ _ _ _ _ HN.out).mono ?_; rintro e w8 ⟨v1, rfl, ho, hb⟩; have HO := qab.mk ho; clear ho; replace BKgx := qab.mk (qae BKgx.out hb); replace HB := qab.mk (qad HB.out hb); clear hb; clear HN) | (go_at_call 24; with_reducible refine (HOR3.out _ _ _ _ _ _ _ HN.out).mono ?_; rintro e w9 ⟨v3, rfl, _, hb⟩; replace HO := qab.mk (Kd.R_below HO.out hb); replace BKgx := qab.mk (qae BKgx.out hb); replace HB := qab.mk (qad HB.out hb); clear hb; clear HN) | (go_at_call 37; with_reducible refine (HPOST.out _ _ _ _ _ _ _ HN.out).mono ?_; rintro e w10 ⟨rfl, hb⟩; replace HO := qab.mk (Kd.R_below HO.out hb); replace BKgx := qab.mk (qae BKgx.out hb); replace HB := qab.mk (qad HB.out hb); clear hb; clear HN) | (go_at_call 39; with_reducible refine (HWRAP.out _ _ _ _ _ _ _ HN.out).mono ?_; rintro e w11 ⟨rfl, hb⟩; replace HO := qab.mk (Kd.R_below HO.out hb); replace BKgx := qab.mk (qae BKgx.out hb); replace HB := qab.mk (qad HB.out hb); clear hb; clear HN))
 obtain ⟨hfgx, hcgx_0, hcgx_1, hcgx_2, hcgx_3⟩ := qz4 BKgx.out
 go_wp2_with (first | (go_at_call 28; with_reducible refine (same_known HO.out).mono ?_; rintro e w12 ⟨rfl, hb⟩; replace HB := qab.mk (qad HB.out hb); clear hb))
 go_ret
 exact ⟨rfl, HB.out⟩
end Go.Proofs.Ytipphcjgdebecaa.PA
