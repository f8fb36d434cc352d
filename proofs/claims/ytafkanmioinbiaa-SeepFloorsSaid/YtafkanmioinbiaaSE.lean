/- What functions of the program answer. No condition. -/
import Derived.Test.YtafkanmioinbiaaSC
import Derived.Test.YtafkanmioinbiaaSD
set_option linter.all false
set_option maxRecDepth 100000
set_option maxHeartbeats 8000000
namespace Go.Proofs.Ytafkanmioinbiaa.SA
open Go.RowKit Go.Proofs.YtafkanmioinbiaaW.PrintWords Go.Proofs.YtafkanmioinbiaaW.PrintLast Go.Proofs.YtafkanmioinbiaaW.PrintMore
attribute [local go_sem] qax qaz max_two min_two qao qap qay qba
def seep_valid.f (a0_0 : Int) (l0_1 : List (S44)) (l0_2 : List Int) (l0_3 : List Int) (l0_4 : List (S41)) (l0_5 : List (S95)) : Option (Bool) := some (validB a0_0 l0_1 l0_2 l0_3 l0_4 l0_5)
theorem seep_valid.calls (a0_0 : Int) (A0_1 : Option Addr) (c0_1 : Nat) (l0_1 : List (S44)) (A0_2 : Option Addr) (c0_2 : Nat) (l0_2 : List Int) (A0_3 : Option Addr) (c0_3 : Nat) (l0_3 : List Int) (A0_4 : Option Addr) (c0_4 : Nat) (l0_4 : List (S41)) (A0_5 : Option Addr) (c0_5 : Nat) (l0_5 : List (S95)) (r : Bool) (w : World) (hr0_1 : Kd.C k44 w A0_1 l0_1.length l0_1) (hc0_1 : l0_1.length ≤ c0_1) (hr0_2 : Kd.C (Kd.int .i64) w A0_2 l0_2.length l0_2) (hc0_2 : l0_2.length ≤ c0_2) (hr0_3 : Kd.C (Kd.int .i64) w A0_3 l0_3.length l0_3) (hc0_3 : l0_3.length ≤ c0_3) (hr0_4 : Kd.C k41 w A0_4 l0_4.length l0_4) (hc0_4 : l0_4.length ≤ c0_4) (hr0_5 : Kd.C k95 w A0_5 l0_5.length l0_5) (hc0_5 : l0_5.length ≤ c0_5) (h : seep_valid.f a0_0 l0_1 l0_2 l0_3 l0_4 l0_5 = some r) :
  Calls Try.prog 66 #[.agg #[.int .i64 a0_0, .slice A0_1 l0_1.length c0_1, .slice A0_2 l0_2.length c0_2, .slice A0_3 l0_3.length c0_3, .slice A0_4 l0_4.length c0_4, .slice A0_5 l0_5.length c0_5]] w fun e w' => e = .returned (.bool r) ∧ Below w.heap.size w w' := by
 obtain rfl := Option.some.inj h
 clear h
 have hu27 := Try.underlying27
 have hu44 := Try.underlying44
 have hu95 := Try.underlying95
 have hu41 := Try.underlying41
 have m1 := Kd.C_max hr0_1
 have m5 := Kd.C_max hr0_5
 have HR1 := qab.mk hr0_1
 have HR2 := qab.mk hr0_2
 have HR3 := qab.mk hr0_3
 have HR4 := qab.mk hr0_4
 have HR5 := qab.mk hr0_5
 clear hr0_1 hr0_2 hr0_3 hr0_4 hr0_5
 have HB := qab.mk (Below.refl w.heap.size w)
 go_enter Try.func66, Try.ntmps66
 go_wp2_with ((with_reducible refine qam (N := 1) rfl ?_); refine ze 1 #[.int .i64 a0_0, .slice A0_1 l0_1.length c0_1, .slice A0_2 l0_2.length c0_2, .slice A0_3 l0_3.length c0_3, .slice A0_4 l0_4.length c0_4, .slice A0_5 l0_5.length c0_5] 27 ?_; intro gb hg_gb w2 hbox hb; have BKgb := qab.mk hbox; have n_HB := qab.mk (qae HB.out hb); have GEgb : w.heap.size ≤ gb := (by rw [hg_gb]; exact HB.out.size); clear HB; have HB := n_HB; clear n_HB; obtain ⟨hfgb, hcgb_0, hcgb_1, hcgb_2, hcgb_3, hcgb_4, hcgb_5⟩ := qz6 BKgb.out; clear hbox hb hg_gb)
 go_loopw [10] (fun s10 wr => ∃ k : Nat, k ≤ l0_1.length ∧ s10 = .int .i64 k ∧ qab (∀ j : Nat, j < k → edgeB a0_0 (l0_1.getD j z44) = true) ∧ qab (wr.heap[gb]? = some (.cells #[.int .i64 a0_0, .slice A0_1 l0_1.length c0_1, .slice A0_2 l0_2.length c0_2, .slice A0_3 l0_3.length c0_3, .slice A0_4 l0_4.length c0_4, .slice A0_5 l0_5.length c0_5] 27 (0, 0))) ∧ qab (Below w.heap.size w wr)) (fun s _ => l0_1.length - (intOf s).toNat)
 case atStart => exact ⟨0, by omega, rfl, ⟨fun j h1 => by omega⟩, BKgb, HB⟩
 case round =>
  clear BKgb HB hfgb hcgb_0 hcgb_1 hcgb_2 hcgb_3 hcgb_4 hcgb_5
  obtain ⟨k, hk1, rfl, HN, BKgb, HB⟩ := hrel
  obtain ⟨hfgb, hcgb_0, hcgb_1, hcgb_2, hcgb_3, hcgb_4, hcgb_5⟩ := qz6 BKgb.out
  by_cases hlt : k < l0_1.length
  ·
   obtain ⟨ad, e, q0, q1, q2, q3⟩ := at_T44 HR1.out k (by omega) (by omega)
   cases e
   replace q0 := (HB.out.cell (World.block_lt_of_cell? w _ q0)).trans q0; replace q1 := (HB.out.cell (World.block_lt_of_cell? w _ q1)).trans q1; replace q2 := (HB.out.cell (World.block_lt_of_cell? w _ q2)).trans q2; replace q3 := (HB.out.cell (World.block_lt_of_cell? w _ q3)).trans q3
   simp only [Int.toNat_natCast] at q0 q1 q2 q3
   obtain ⟨x, hx⟩ : ∃ x, x = qav l0_1 k := ⟨_, rfl⟩
   have HX : qab (l0_1.getD k z44 = x) := ⟨by rw [hx]; simp [qav]⟩
   rw [← hx] at q0 q1 q2 q3
   clear hx
   go_upto_region 4 with ((with_reducible refine qam (N := 4) rfl ?_); refine ze 4 #[.int .i64 0, .int .i64 0, .int .i64 0, .int .i64 0] 44 ?_; intro ge hg_ge w4 hbox hb; have BKge := qab.mk hbox; have ne_gb_ge : gb ≠ ge := (by rw [hg_ge]; exact Nat.ne_of_lt (blk_lt BKgb.out)); replace BKgb := qab.mk (qad BKgb.out hb); have n_HB := qab.mk (qae HB.out hb); have GEge : w.heap.size ≤ ge := (by rw [hg_ge]; exact HB.out.size); clear HB; have HB := n_HB; clear n_HB; obtain ⟨hfge, hcge_0, hcge_1, hcge_2, hcge_3⟩ := qz4 BKge.out; clear hbox hb hg_ge)
   clear q0 q1 q2 q3 hfgb hcgb_0 hcgb_1 hcgb_2 hcgb_3 hcgb_4 hcgb_5 hfge hcge_0 hcge_1 hcge_2 hcge_3
   have he_ : setAll w4 ge [.int .i64 x.f0, .int .i64 x.f1, .int .i64 x.f2, .int .i64 x.f3] 0 = ((((w4.setCell ⟨ge, 0, none⟩ (.int .i64 x.f0)).setCell ⟨ge, 1, none⟩ (.int .i64 x.f1)).setCell ⟨ge, 2, none⟩ (.int .i64 x.f2)).setCell ⟨ge, 3, none⟩ (.int .i64 x.f3)) := rfl; have hbl := setAll_below GEge [.int .i64 x.f0, .int .i64 x.f1, .int .i64 x.f2, .int .i64 x.f3] 0 _ HB.out; have hbx : (setAll w4 ge [.int .i64 x.f0, .int .i64 x.f1, .int .i64 x.f2, .int .i64 x.f3] 0).heap[ge]? = some (.cells #[.int .i64 x.f0, .int .i64 x.f1, .int .i64 x.f2, .int .i64 x.f3] 44 (0, 0)) := setAll_new [.int .i64 x.f0, .int .i64 x.f1, .int .i64 x.f2, .int .i64 x.f3] [.int .i64 0, .int .i64 0, .int .i64 0, .int .i64 0] BKge.out rfl; have hx_BKgb := setAll_far ne_gb_ge [.int .i64 x.f0, .int .i64 x.f1, .int .i64 x.f2, .int .i64 x.f3] 0 _ BKgb.out; rw [he_] at hbl hbx hx_BKgb; clear he_; generalize ((((w4.setCell ⟨ge, 0, none⟩ (.int .i64 x.f0)).setCell ⟨ge, 1, none⟩ (.int .i64 x.f1)).setCell ⟨ge, 2, none⟩ (.int .i64 x.f2)).setCell ⟨ge, 3, none⟩ (.int .i64 x.f3)) = w5 at hbl hbx hx_BKgb ⊢; clear HB BKge; have HB := qab.mk hbl; have BKge := qab.mk hbx; clear hbl hbx; clear BKgb; have BKgb := qab.mk hx_BKgb; clear hx_BKgb
   obtain ⟨hfgb, hcgb_0, hcgb_1, hcgb_2, hcgb_3, hcgb_4, hcgb_5⟩ := qz6 BKgb.out; obtain ⟨hfge, hcge_0, hcge_1, hcge_2, hcge_3⟩ := qz4 BKge.out
   obtain ⟨b1, h_b1⟩ : ∃ b, b = inB x.f0 0 (wrap64 (a0_0 - 1)) := ⟨_, rfl⟩; have H_b1 : qab (∀ W, Calls Try.prog 55 #[.int .i64 x.f0, .int .i64 0, .int .i64 (wrap64 (a0_0 - 1))] W fun e w' => e = .returned (.bool b1) ∧ Below W.heap.size W w') := ⟨fun W => by rw [h_b1]; exact in_calls _ _ _ W⟩
   obtain ⟨b2, h_b2⟩ : ∃ b, b = inB x.f1 0 (wrap64 (a0_0 - 1)) := ⟨_, rfl⟩; have H_b2 : qab (∀ W, Calls Try.prog 55 #[.int .i64 x.f1, .int .i64 0, .int .i64 (wrap64 (a0_0 - 1))] W fun e w' => e = .returned (.bool b2) ∧ Below W.heap.size W w') := ⟨fun W => by rw [h_b2]; exact in_calls _ _ _ W⟩
   obtain ⟨b3, h_b3⟩ : ∃ b, b = !decide (x.f0 = x.f1) := ⟨_, rfl⟩
   have hq3 : (x.f0 == x.f1) = !b3 := by rw [h_b3, Bool.not_not]; rfl
   obtain ⟨b4, h_b4⟩ : ∃ b, b = inB x.f2 0 20000 := ⟨_, rfl⟩; have H_b4 : qab (∀ W, Calls Try.prog 55 #[.int .i64 x.f2, .int .i64 0, .int .i64 20000] W fun e w' => e = .returned (.bool b4) ∧ Below W.heap.size W w') := ⟨fun W => by rw [h_b4]; exact in_calls _ _ _ W⟩
   obtain ⟨b5, h_b5⟩ : ∃ b, b = inB x.f3 (-1) 1000000 := ⟨_, rfl⟩; have H_b5 : qab (∀ W, Calls Try.prog 55 #[.int .i64 x.f3, .int .i64 (-1), .int .i64 1000000] W fun e w' => e = .returned (.bool b5) ∧ Below W.heap.size W w') := ⟨fun W => by rw [h_b5]; exact in_calls _ _ _ W⟩
   have HV : qab (edgeB a0_0 x = (b1 && (b2 && (b3 && (b4 && b5))))) := ⟨by rw [h_b1, h_b2, h_b3, h_b4, h_b5]; rfl⟩
   clear h_b1 h_b2 h_b3 h_b4 h_b5
   cases b1 with
   | false =>
    go_wp2_with (go_at_call 55; (with_reducible refine (H_b1.out _).mono ?_); rintro e wn ⟨rfl, hb⟩; replace BKgb := qab.mk (qad BKgb.out hb); replace BKge := qab.mk (qad BKge.out hb); replace HB := qab.mk (qae HB.out hb); clear hb; obtain ⟨hfgb, hcgb_0, hcgb_1, hcgb_2, hcgb_3, hcgb_4, hcgb_5⟩ := qz6 BKgb.out; obtain ⟨hfge, hcge_0, hcge_1, hcge_2, hcge_3⟩ := qz4 BKge.out)
    go_ret
    exact ⟨by rw [validB_edge k hlt (by rw [HX.out, HV.out]; rfl)]; rfl, HB.out⟩
   | true =>
    cases b2 with
    | false =>
     go_wp2_with (first | (go_at_call 55; (with_reducible refine (H_b1.out _).mono ?_); rintro e wn ⟨rfl, hb⟩; replace BKgb := qab.mk (qad BKgb.out hb); replace BKge := qab.mk (qad BKge.out hb); replace HB := qab.mk (qae HB.out hb); clear hb; obtain ⟨hfgb, hcgb_0, hcgb_1, hcgb_2, hcgb_3, hcgb_4, hcgb_5⟩ := qz6 BKgb.out; obtain ⟨hfge, hcge_0, hcge_1, hcge_2, hcge_3⟩ := qz4 BKge.out) | (go_at_call 55; (with_reducible refine (H_b2.out _).mono ?_); rintro e wn ⟨rfl, hb⟩; replace BKgb := qab.mk (qad BKgb.out hb); replace BKge := qab.mk (qad BKge.out hb); replace HB := qab.mk (qae HB.out hb); clear hb; obtain ⟨hfgb, hcgb_0, hcgb_1, hcgb_2, hcgb_3, hcgb_4, hcgb_5⟩ := qz6 BKgb.out; obtain ⟨hfge, hcge_0, hcge_1, hcge_2, hcge_3⟩ := qz4 BKge.out))
     go_ret
     exact ⟨by rw [validB_edge k hlt (by rw [HX.out, HV.out]; rfl)]; rfl, HB.out⟩
    | true =>
     cases b3 with
     | false =>
      go_wp2_with (first | (go_at_call 55; (with_reducible refine (H_b1.out _).mono ?_); rintro e wn ⟨rfl, hb⟩; replace BKgb := qab.mk (qad BKgb.out hb); replace BKge := qab.mk (qad BKge.out hb); replace HB := qab.mk (qae HB.out hb); clear hb; obtain ⟨hfgb, hcgb_0, hcgb_1, hcgb_2, hcgb_3, hcgb_4, hcgb_5⟩ := qz6 BKgb.out; obtain ⟨hfge, hcge_0, hcge_1, hcge_2, hcge_3⟩ := qz4 BKge.out) | (go_at_call 55; (with_reducible refine (H_b2.out _).mono ?_); rintro e wn ⟨rfl, hb⟩; replace BKgb := qab.mk (qad BKgb.out hb); replace BKge := qab.mk (qad BKge.out hb); replace HB := qab.mk (qae HB.out hb); clear hb; obtain ⟨hfgb, hcgb_0, hcgb_1, hcgb_2, hcgb_3, hcgb_4, hcgb_5⟩ := qz6 BKgb.out; obtain ⟨hfge, hcge_0, hcge_1, hcge_2, hcge_3⟩ := qz4 BKge.out))
      go_ret
      exact ⟨by rw [validB_edge k hlt (by rw [HX.out, HV.out]; rfl)]; rfl, HB.out⟩
     | true =>
      cases b4 with
      | false =>
       go_wp2_with (first | (go_at_call 55; (with_reducible refine (H_b1.out _).mono ?_); rintro e wn ⟨rfl, hb⟩; replace BKgb := qab.mk (qad BKgb.out hb); replace BKge := qab.mk (qad BKge.out hb); replace HB := qab.mk (qae HB.out hb); clear hb; obtain ⟨hfgb, hcgb_0, hcgb_1, hcgb_2, hcgb_3, hcgb_4, hcgb_5⟩ := qz6 BKgb.out; obtain ⟨hfge, hcge_0, hcge_1, hcge_2, hcge_3⟩ := qz4 BKge.out) | (go_at_call 55; (with_reducible refine (H_b2.out _).mono ?_); rintro e wn ⟨rfl, hb⟩; replace BKgb := qab.mk (qad BKgb.out hb); replace BKge := qab.mk (qad BKge.out hb); replace HB := qab.mk (qae HB.out hb); clear hb; obtain ⟨hfgb, hcgb_0, hcgb_1, hcgb_2, hcgb_3, hcgb_4, hcgb_5⟩ := qz6 BKgb.out; obtain ⟨hfge, hcge_0, hcge_1, hcge_2, hcge_3⟩ := qz4 BKge.out) | (go_at_call 55; (with_reducible refine (H_b4.out _).mono ?_); rintro e wn ⟨rfl, hb⟩; replace BKgb := qab.mk (qad BKgb.out hb); replace BKge := qab.mk (qad BKge.out hb); replace HB := qab.mk (qae HB.out hb); clear hb; obtain ⟨hfgb, hcgb_0, hcgb_1, hcgb_2, hcgb_3, hcgb_4, hcgb_5⟩ := qz6 BKgb.out; obtain ⟨hfge, hcge_0, hcge_1, hcge_2, hcge_3⟩ := qz4 BKge.out))
       go_ret
       exact ⟨by rw [validB_edge k hlt (by rw [HX.out, HV.out]; rfl)]; rfl, HB.out⟩
      | true =>
       cases b5 with
       | false =>
        go_wp2_with (first | (go_at_call 55; (with_reducible refine (H_b1.out _).mono ?_); rintro e wn ⟨rfl, hb⟩; replace BKgb := qab.mk (qad BKgb.out hb); replace BKge := qab.mk (qad BKge.out hb); replace HB := qab.mk (qae HB.out hb); clear hb; obtain ⟨hfgb, hcgb_0, hcgb_1, hcgb_2, hcgb_3, hcgb_4, hcgb_5⟩ := qz6 BKgb.out; obtain ⟨hfge, hcge_0, hcge_1, hcge_2, hcge_3⟩ := qz4 BKge.out) | (go_at_call 55; (with_reducible refine (H_b2.out _).mono ?_); rintro e wn ⟨rfl, hb⟩; replace BKgb := qab.mk (qad BKgb.out hb); replace BKge := qab.mk (qad BKge.out hb); replace HB := qab.mk (qae HB.out hb); clear hb; obtain ⟨hfgb, hcgb_0, hcgb_1, hcgb_2, hcgb_3, hcgb_4, hcgb_5⟩ := qz6 BKgb.out; obtain ⟨hfge, hcge_0, hcge_1, hcge_2, hcge_3⟩ := qz4 BKge.out) | (go_at_call 55; (with_reducible refine (H_b4.out _).mono ?_); rintro e wn ⟨rfl, hb⟩; replace BKgb := qab.mk (qad BKgb.out hb); replace BKge := qab.mk (qad BKge.out hb); replace HB := qab.mk (qae HB.out hb); clear hb; obtain ⟨hfgb, hcgb_0, hcgb_1, hcgb_2, hcgb_3, hcgb_4, hcgb_5⟩ := qz6 BKgb.out; obtain ⟨hfge, hcge_0, hcge_1, hcge_2, hcge_3⟩ := qz4 BKge.out) | (go_at_call 55; (with_reducible refine (H_b5.out _).mono ?_); rintro e wn ⟨rfl, hb⟩; replace BKgb := qab.mk (qad BKgb.out hb); replace BKge := qab.mk (qad BKge.out hb); replace HB := qab.mk (qae HB.out hb); clear hb; obtain ⟨hfgb, hcgb_0, hcgb_1, hcgb_2, hcgb_3, hcgb_4, hcgb_5⟩ := qz6 BKgb.out; obtain ⟨hfge, hcge_0, hcge_1, hcge_2, hcge_3⟩ := qz4 BKge.out))
        go_ret
        exact ⟨by rw [validB_edge k hlt (by rw [HX.out, HV.out]; rfl)]; rfl, HB.out⟩
       | true =>
        go_wp2_with (first | (go_at_call 55; (with_reducible refine (H_b1.out _).mono ?_); rintro e wn ⟨rfl, hb⟩; replace BKgb := qab.mk (qad BKgb.out hb); replace BKge := qab.mk (qad BKge.out hb); replace HB := qab.mk (qae HB.out hb); clear hb; obtain ⟨hfgb, hcgb_0, hcgb_1, hcgb_2, hcgb_3, hcgb_4, hcgb_5⟩ := qz6 BKgb.out; obtain ⟨hfge, hcge_0, hcge_1, hcge_2, hcge_3⟩ := qz4 BKge.out) | (go_at_call 55; (with_reducible refine (H_b2.out _).mono ?_); rintro e wn ⟨rfl, hb⟩; replace BKgb := qab.mk (qad BKgb.out hb); replace BKge := qab.mk (qad BKge.out hb); replace HB := qab.mk (qae HB.out hb); clear hb; obtain ⟨hfgb, hcgb_0, hcgb_1, hcgb_2, hcgb_3, hcgb_4, hcgb_5⟩ := qz6 BKgb.out; obtain ⟨hfge, hcge_0, hcge_1, hcge_2, hcge_3⟩ := qz4 BKge.out) | (go_at_call 55; (with_reducible refine (H_b4.out _).mono ?_); rintro e wn ⟨rfl, hb⟩; replace BKgb := qab.mk (qad BKgb.out hb); replace BKge := qab.mk (qad BKge.out hb); replace HB := qab.mk (qae HB.out hb); clear hb; obtain ⟨hfgb, hcgb_0, hcgb_1, hcgb_2, hcgb_3, hcgb_4, hcgb_5⟩ := qz6 BKgb.out; obtain ⟨hfge, hcge_0, hcge_1, hcge_2, hcge_3⟩ := qz4 BKge.out) | (go_at_call 55; (with_reducible refine (H_b5.out _).mono ?_); rintro e wn ⟨rfl, hb⟩; replace BKgb := qab.mk (qad BKgb.out hb); replace BKge := qab.mk (qad BKge.out hb); replace HB := qab.mk (qae HB.out hb); clear hb; obtain ⟨hfgb, hcgb_0, hcgb_1, hcgb_2, hcgb_3, hcgb_4, hcgb_5⟩ := qz6 BKgb.out; obtain ⟨hfge, hcge_0, hcge_1, hcge_2, hcge_3⟩ := qz4 BKge.out))
        go_roundw
        case rel => exact ⟨k + 1, by omega, by go_num, ⟨fun j hj => by
          rcases Nat.lt_or_ge j k with h | h
          ·
           exact HN.out j h
          ·
           obtain rfl : j = k := by omega
           rw [HX.out, HV.out]; rfl⟩, BKgb, HB⟩
        case measure => simp [intOf]; omega
  ·
   have HE : qab (l0_1.all (edgeB a0_0) = true) := ⟨all_edges (fun j hj => HN.out j (by omega))⟩
   clear HN
   go_wp2
   go_loopw [53] (fun s53 wr => ∃ k : Nat, k ≤ l0_5.length ∧ s53 = .int .i64 k ∧ qab (∀ j : Nat, j < k → lakeB l0_5.length j (l0_5.getD j z95) = true) ∧ qab (wr.heap[gb]? = some (.cells #[.int .i64 a0_0, .slice A0_1 l0_1.length c0_1, .slice A0_2 l0_2.length c0_2, .slice A0_3 l0_3.length c0_3, .slice A0_4 l0_4.length c0_4, .slice A0_5 l0_5.length c0_5] 27 (0, 0))) ∧ qab (Below w.heap.size w wr)) (fun s _ => l0_5.length - (intOf s).toNat)
   case atStart => exact ⟨0, by omega, rfl, ⟨fun j h1 => by omega⟩, BKgb, HB⟩
   case round =>
    clear BKgb HB hfgb hcgb_0 hcgb_1 hcgb_2 hcgb_3 hcgb_4 hcgb_5 hlt hk1
    obtain ⟨k, hk1, rfl, HN, BKgb, HB⟩ := hrel
    obtain ⟨hfgb, hcgb_0, hcgb_1, hcgb_2, hcgb_3, hcgb_4, hcgb_5⟩ := qz6 BKgb.out
    by_cases hlt : k < l0_5.length
    ·
     obtain ⟨ad, e, q0, q1, q2, q3, q4, q5⟩ := at_T95 HR5.out k (by omega) (by omega)
     cases e
     replace q0 := (HB.out.cell (World.block_lt_of_cell? w _ q0)).trans q0; replace q1 := (HB.out.cell (World.block_lt_of_cell? w _ q1)).trans q1; replace q2 := (HB.out.cell (World.block_lt_of_cell? w _ q2)).trans q2; replace q3 := (HB.out.cell (World.block_lt_of_cell? w _ q3)).trans q3; replace q4 := (HB.out.cell (World.block_lt_of_cell? w _ q4)).trans q4; replace q5 := (HB.out.cell (World.block_lt_of_cell? w _ q5)).trans q5
     simp only [Int.toNat_natCast] at q0 q1 q2 q3 q4 q5
     obtain ⟨x, hx⟩ : ∃ x, x = rd_T95 l0_5 k := ⟨_, rfl⟩
     have HX : qab (l0_5.getD k z95 = x) := ⟨by rw [hx]; simp [rd_T95]⟩
     rw [← hx] at q0 q1 q2 q3 q4 q5
     clear hx
     go_upto_region 10 with ((with_reducible refine qam (N := 6) rfl ?_); refine ze 6 #[.int .i64 0, .int .i64 0, .int .i64 0, .int .i64 0, .int .i64 0, .int .i64 0] 95 ?_; intro ge hg_ge w4 hbox hb; have BKge := qab.mk hbox; have ne_gb_ge : gb ≠ ge := (by rw [hg_ge]; exact Nat.ne_of_lt (blk_lt BKgb.out)); replace BKgb := qab.mk (qad BKgb.out hb); have n_HB := qab.mk (qae HB.out hb); have GEge : w.heap.size ≤ ge := (by rw [hg_ge]; exact HB.out.size); clear HB; have HB := n_HB; clear n_HB; obtain ⟨hfge, hcge_0, hcge_1, hcge_2, hcge_3, hcge_4, hcge_5⟩ := qz6 BKge.out; clear hbox hb hg_ge)
     clear q0 q1 q2 q3 q4 q5 hfgb hcgb_0 hcgb_1 hcgb_2 hcgb_3 hcgb_4 hcgb_5 hfge hcge_0 hcge_1 hcge_2 hcge_3 hcge_4 hcge_5
     have he_ : setAll w4 ge [.int .i64 x.f0, .int .i64 x.f1, .int .i64 x.f2.f0, .int .i64 x.f2.f1, .int .i64 x.f3.f0, .int .i64 x.f3.f1] 0 = ((((((w4.setCell ⟨ge, 0, none⟩ (.int .i64 x.f0)).setCell ⟨ge, 1, none⟩ (.int .i64 x.f1)).setCell ⟨ge, 2, none⟩ (.int .i64 x.f2.f0)).setCell ⟨ge, 3, none⟩ (.int .i64 x.f2.f1)).setCell ⟨ge, 4, none⟩ (.int .i64 x.f3.f0)).setCell ⟨ge, 5, none⟩ (.int .i64 x.f3.f1)) := rfl; have hbl := setAll_below GEge [.int .i64 x.f0, .int .i64 x.f1, .int .i64 x.f2.f0, .int .i64 x.f2.f1, .int .i64 x.f3.f0, .int .i64 x.f3.f1] 0 _ HB.out; have hbx : (setAll w4 ge [.int .i64 x.f0, .int .i64 x.f1, .int .i64 x.f2.f0, .int .i64 x.f2.f1, .int .i64 x.f3.f0, .int .i64 x.f3.f1] 0).heap[ge]? = some (.cells #[.int .i64 x.f0, .int .i64 x.f1, .int .i64 x.f2.f0, .int .i64 x.f2.f1, .int .i64 x.f3.f0, .int .i64 x.f3.f1] 95 (0, 0)) := setAll_new [.int .i64 x.f0, .int .i64 x.f1, .int .i64 x.f2.f0, .int .i64 x.f2.f1, .int .i64 x.f3.f0, .int .i64 x.f3.f1] [.int .i64 0, .int .i64 0, .int .i64 0, .int .i64 0, .int .i64 0, .int .i64 0] BKge.out rfl; have hx_BKgb := setAll_far ne_gb_ge [.int .i64 x.f0, .int .i64 x.f1, .int .i64 x.f2.f0, .int .i64 x.f2.f1, .int .i64 x.f3.f0, .int .i64 x.f3.f1] 0 _ BKgb.out; rw [he_] at hbl hbx hx_BKgb; clear he_; generalize ((((((w4.setCell ⟨ge, 0, none⟩ (.int .i64 x.f0)).setCell ⟨ge, 1, none⟩ (.int .i64 x.f1)).setCell ⟨ge, 2, none⟩ (.int .i64 x.f2.f0)).setCell ⟨ge, 3, none⟩ (.int .i64 x.f2.f1)).setCell ⟨ge, 4, none⟩ (.int .i64 x.f3.f0)).setCell ⟨ge, 5, none⟩ (.int .i64 x.f3.f1)) = w5 at hbl hbx hx_BKgb ⊢; clear HB BKge; have HB := qab.mk hbl; have BKge := qab.mk hbx; clear hbl hbx; clear BKgb; have BKgb := qab.mk hx_BKgb; clear hx_BKgb
     obtain ⟨hfgb, hcgb_0, hcgb_1, hcgb_2, hcgb_3, hcgb_4, hcgb_5⟩ := qz6 BKgb.out; obtain ⟨hfge, hcge_0, hcge_1, hcge_2, hcge_3, hcge_4, hcge_5⟩ := qz6 BKge.out
     obtain ⟨b1, h_b1⟩ : ∃ b, b = inB x.f0 ((k : Int) + 1) ((l0_5.length : Int) - 1) := ⟨_, rfl⟩; have H_b1 : qab (∀ W, Calls Try.prog 55 #[.int .i64 x.f0, .int .i64 ((k : Int) + 1), .int .i64 ((l0_5.length : Int) - 1)] W fun e w' => e = .returned (.bool b1) ∧ Below W.heap.size W w') := ⟨fun W => by rw [h_b1]; exact in_calls _ _ _ W⟩
     obtain ⟨b2, h_b2⟩ : ∃ b, b = inB x.f1 0 20000 := ⟨_, rfl⟩; have H_b2 : qab (∀ W, Calls Try.prog 55 #[.int .i64 x.f1, .int .i64 0, .int .i64 20000] W fun e w' => e = .returned (.bool b2) ∧ Below W.heap.size W w') := ⟨fun W => by rw [h_b2]; exact in_calls _ _ _ W⟩
     obtain ⟨b3, h_b3⟩ : ∃ b, b = spanB x.f2 1000000 := ⟨_, rfl⟩; have H_b3 : qab (∀ W, Calls Try.prog 95 #[.agg #[.int .i64 x.f2.f0, .int .i64 x.f2.f1], .int .i64 1000000] W fun e w' => e = .returned (.bool b3) ∧ Below W.heap.size W w') := ⟨fun W => by rw [h_b3]; exact span_calls _ _ W⟩
     obtain ⟨b4, h_b4⟩ : ∃ b, b = spanB x.f3 1000000 := ⟨_, rfl⟩; have H_b4 : qab (∀ W, Calls Try.prog 95 #[.agg #[.int .i64 x.f3.f0, .int .i64 x.f3.f1], .int .i64 1000000] W fun e w' => e = .returned (.bool b4) ∧ Below W.heap.size W w') := ⟨fun W => by rw [h_b4]; exact span_calls _ _ W⟩
     have HV : qab (lakeB l0_5.length k x = ((decide (x.f0 = -1) || b1) && (b2 && (b3 && b4)))) := ⟨by rw [h_b1, h_b2, h_b3, h_b4]; rfl⟩
     clear h_b1 h_b2 h_b3 h_b4
     by_cases ha : x.f0 = -1
     ·
      have hq : (x.f0 != -1) = false := by simp [ha]
      rw [decide_eq_true ha, Bool.true_or] at HV
      clear ha H_b1
      cases b2 with
      | false =>
       go_wp2_with (go_at_call 55; (with_reducible refine (H_b2.out _).mono ?_); rintro e wn ⟨rfl, hb⟩; replace BKgb := qab.mk (qad BKgb.out hb); replace BKge := qab.mk (qad BKge.out hb); replace HB := qab.mk (qae HB.out hb); clear hb; obtain ⟨hfgb, hcgb_0, hcgb_1, hcgb_2, hcgb_3, hcgb_4, hcgb_5⟩ := qz6 BKgb.out; obtain ⟨hfge, hcge_0, hcge_1, hcge_2, hcge_3, hcge_4, hcge_5⟩ := qz6 BKge.out)
       go_ret
       exact ⟨by rw [validB_lake HE.out k hlt (by rw [HX.out, HV.out]; rfl)]; rfl, HB.out⟩
      | true =>
       cases b3 with
       | false =>
        go_wp2_with (first | (go_at_call 55; (with_reducible refine (H_b2.out _).mono ?_); rintro e wn ⟨rfl, hb⟩; replace BKgb := qab.mk (qad BKgb.out hb); replace BKge := qab.mk (qad BKge.out hb); replace HB := qab.mk (qae HB.out hb); clear hb; obtain ⟨hfgb, hcgb_0, hcgb_1, hcgb_2, hcgb_3, hcgb_4, hcgb_5⟩ := qz6 BKgb.out; obtain ⟨hfge, hcge_0, hcge_1, hcge_2, hcge_3, hcge_4, hcge_5⟩ := qz6 BKge.out) | (go_at_call 95; (with_reducible refine (H_b3.out _).mono ?_); rintro e wn ⟨rfl, hb⟩; replace BKgb := qab.mk (qad BKgb.out hb); replace BKge := qab.mk (qad BKge.out hb); replace HB := qab.mk (qae HB.out hb); clear hb; obtain ⟨hfgb, hcgb_0, hcgb_1, hcgb_2, hcgb_3, hcgb_4, hcgb_5⟩ := qz6 BKgb.out; obtain ⟨hfge, hcge_0, hcge_1, hcge_2, hcge_3, hcge_4, hcge_5⟩ := qz6 BKge.out))
        go_ret
        exact ⟨by rw [validB_lake HE.out k hlt (by rw [HX.out, HV.out]; rfl)]; rfl, HB.out⟩
       | true =>
        cases b4 with
        | false =>
         go_wp2_with (first | (go_at_call 55; (with_reducible refine (H_b2.out _).mono ?_); rintro e wn ⟨rfl, hb⟩; replace BKgb := qab.mk (qad BKgb.out hb); replace BKge := qab.mk (qad BKge.out hb); replace HB := qab.mk (qae HB.out hb); clear hb; obtain ⟨hfgb, hcgb_0, hcgb_1, hcgb_2, hcgb_3, hcgb_4, hcgb_5⟩ := qz6 BKgb.out; obtain ⟨hfge, hcge_0, hcge_1, hcge_2, hcge_3, hcge_4, hcge_5⟩ := qz6 BKge.out) | (go_at_call 95; (with_reducible refine (H_b3.out _).mono ?_); rintro e wn ⟨rfl, hb⟩; replace BKgb := qab.mk (qad BKgb.out hb); replace BKge := qab.mk (qad BKge.out hb); replace HB := qab.mk (qae HB.out hb); clear hb; obtain ⟨hfgb, hcgb_0, hcgb_1, hcgb_2, hcgb_3, hcgb_4, hcgb_5⟩ := qz6 BKgb.out; obtain ⟨hfge, hcge_0, hcge_1, hcge_2, hcge_3, hcge_4, hcge_5⟩ := qz6 BKge.out) | (go_at_call 95; (with_reducible refine (H_b4.out _).mono ?_); rintro e wn ⟨rfl, hb⟩; replace BKgb := qab.mk (qad BKgb.out hb); replace BKge := qab.mk (qad BKge.out hb); replace HB := qab.mk (qae HB.out hb); clear hb; obtain ⟨hfgb, hcgb_0, hcgb_1, hcgb_2, hcgb_3, hcgb_4, hcgb_5⟩ := qz6 BKgb.out; obtain ⟨hfge, hcge_0, hcge_1, hcge_2, hcge_3, hcge_4, hcge_5⟩ := qz6 BKge.out))
         go_ret
         exact ⟨by rw [validB_lake HE.out k hlt (by rw [HX.out, HV.out]; rfl)]; rfl, HB.out⟩
        | true =>
         go_wp2_with (first | (go_at_call 55; (with_reducible refine (H_b2.out _).mono ?_); rintro e wn ⟨rfl, hb⟩; replace BKgb := qab.mk (qad BKgb.out hb); replace BKge := qab.mk (qad BKge.out hb); replace HB := qab.mk (qae HB.out hb); clear hb; obtain ⟨hfgb, hcgb_0, hcgb_1, hcgb_2, hcgb_3, hcgb_4, hcgb_5⟩ := qz6 BKgb.out; obtain ⟨hfge, hcge_0, hcge_1, hcge_2, hcge_3, hcge_4, hcge_5⟩ := qz6 BKge.out) | (go_at_call 95; (with_reducible refine (H_b3.out _).mono ?_); rintro e wn ⟨rfl, hb⟩; replace BKgb := qab.mk (qad BKgb.out hb); replace BKge := qab.mk (qad BKge.out hb); replace HB := qab.mk (qae HB.out hb); clear hb; obtain ⟨hfgb, hcgb_0, hcgb_1, hcgb_2, hcgb_3, hcgb_4, hcgb_5⟩ := qz6 BKgb.out; obtain ⟨hfge, hcge_0, hcge_1, hcge_2, hcge_3, hcge_4, hcge_5⟩ := qz6 BKge.out) | (go_at_call 95; (with_reducible refine (H_b4.out _).mono ?_); rintro e wn ⟨rfl, hb⟩; replace BKgb := qab.mk (qad BKgb.out hb); replace BKge := qab.mk (qad BKge.out hb); replace HB := qab.mk (qae HB.out hb); clear hb; obtain ⟨hfgb, hcgb_0, hcgb_1, hcgb_2, hcgb_3, hcgb_4, hcgb_5⟩ := qz6 BKgb.out; obtain ⟨hfge, hcge_0, hcge_1, hcge_2, hcge_3, hcge_4, hcge_5⟩ := qz6 BKge.out))
         go_roundw
         case rel => exact ⟨k + 1, by omega, by go_num, ⟨fun j hj => by
           rcases Nat.lt_or_ge j k with h | h
           ·
            exact HN.out j h
           ·
            obtain rfl : j = k := by omega
            rw [HX.out, HV.out]; rfl⟩, BKgb, HB⟩
         case measure => simp [intOf]; omega
     ·
      have hq : (x.f0 != -1) = true := by simp [ha]
      rw [decide_eq_false ha, Bool.false_or] at HV
      clear ha
      cases b1 with
      | false =>
       go_wp2_with (go_at_call 55; (with_reducible refine (H_b1.out _).mono ?_); rintro e wn ⟨rfl, hb⟩; replace BKgb := qab.mk (qad BKgb.out hb); replace BKge := qab.mk (qad BKge.out hb); replace HB := qab.mk (qae HB.out hb); clear hb; obtain ⟨hfgb, hcgb_0, hcgb_1, hcgb_2, hcgb_3, hcgb_4, hcgb_5⟩ := qz6 BKgb.out; obtain ⟨hfge, hcge_0, hcge_1, hcge_2, hcge_3, hcge_4, hcge_5⟩ := qz6 BKge.out)
       go_ret
       exact ⟨by rw [validB_lake HE.out k hlt (by rw [HX.out, HV.out]; rfl)]; rfl, HB.out⟩
      | true =>
       cases b2 with
       | false =>
        go_wp2_with (first | (go_at_call 55; (with_reducible refine (H_b1.out _).mono ?_); rintro e wn ⟨rfl, hb⟩; replace BKgb := qab.mk (qad BKgb.out hb); replace BKge := qab.mk (qad BKge.out hb); replace HB := qab.mk (qae HB.out hb); clear hb; obtain ⟨hfgb, hcgb_0, hcgb_1, hcgb_2, hcgb_3, hcgb_4, hcgb_5⟩ := qz6 BKgb.out; obtain ⟨hfge, hcge_0, hcge_1, hcge_2, hcge_3, hcge_4, hcge_5⟩ := qz6 BKge.out) | (go_at_call 55; (with_reducible refine (H_b2.out _).mono ?_); rintro e wn ⟨rfl, hb⟩; replace BKgb := qab.mk (qad BKgb.out hb); replace BKge := qab.mk (qad BKge.out hb); replace HB := qab.mk (qae HB.out hb); clear hb; obtain ⟨hfgb, hcgb_0, hcgb_1, hcgb_2, hcgb_3, hcgb_4, hcgb_5⟩ := qz6 BKgb.out; obtain ⟨hfge, hcge_0, hcge_1, hcge_2, hcge_3, hcge_4, hcge_5⟩ := qz6 BKge.out))
        go_ret
        exact ⟨by rw [validB_lake HE.out k hlt (by rw [HX.out, HV.out]; rfl)]; rfl, HB.out⟩
       | true =>
        cases b3 with
        | false =>
         go_wp2_with (first | (go_at_call 55; (with_reducible refine (H_b1.out _).mono ?_); rintro e wn ⟨rfl, hb⟩; replace BKgb := qab.mk (qad BKgb.out hb); replace BKge := qab.mk (qad BKge.out hb); replace HB := qab.mk (qae HB.out hb); clear hb; obtain ⟨hfgb, hcgb_0, hcgb_1, hcgb_2, hcgb_3, hcgb_4, hcgb_5⟩ := qz6 BKgb.out; obtain ⟨hfge, hcge_0, hcge_1, hcge_2, hcge_3, hcge_4, hcge_5⟩ := qz6 BKge.out) | (go_at_call 55; (with_reducible refine (H_b2.out _).mono ?_); rintro e wn ⟨rfl, hb⟩; replace BKgb := qab.mk (qad BKgb.out hb); replace BKge := qab.mk (qad BKge.out hb); replace HB := qab.mk (qae HB.out hb); clear hb; obtain ⟨hfgb, hcgb_0, hcgb_1, hcgb_2, hcgb_3, hcgb_4, hcgb_5⟩ := qz6 BKgb.out; obtain ⟨hfge, hcge_0, hcge_1, hcge_2, hcge_3, hcge_4, hcge_5⟩ := qz6 BKge.out) | (go_at_call 95; (with_reducible refine (H_b3.out _).mono ?_); rintro e wn ⟨rfl, hb⟩; replace BKgb := qab.mk (qad BKgb.out hb); replace BKge := qab.mk (qad BKge.out hb); replace HB := qab.mk (qae HB.out hb); clear hb; obtain ⟨hfgb, hcgb_0, hcgb_1, hcgb_2, hcgb_3, hcgb_4, hcgb_5⟩ := qz6 BKgb.out; obtain ⟨hfge, hcge_0, hcge_1, hcge_2, hcge_3, hcge_4, hcge_5⟩ := qz6 BKge.out))
         go_ret
         exact ⟨by rw [validB_lake HE.out k hlt (by rw [HX.out, HV.out]; rfl)]; rfl, HB.out⟩
        | true =>
         cases b4 with
         | false =>
          go_wp2_with (first | (go_at_call 55; (with_reducible refine (H_b1.out _).mono ?_); rintro e wn ⟨rfl, hb⟩; replace BKgb := qab.mk (qad BKgb.out hb); replace BKge := qab.mk (qad BKge.out hb); replace HB := qab.mk (qae HB.out hb); clear hb; obtain ⟨hfgb, hcgb_0, hcgb_1, hcgb_2, hcgb_3, hcgb_4, hcgb_5⟩ := qz6 BKgb.out; obtain ⟨hfge, hcge_0, hcge_1, hcge_2, hcge_3, hcge_4, hcge_5⟩ := qz6 BKge.out) | (go_at_call 55; (with_reducible refine (H_b2.out _).mono ?_); rintro e wn ⟨rfl, hb⟩; replace BKgb := qab.mk (qad BKgb.out hb); replace BKge := qab.mk (qad BKge.out hb); replace HB := qab.mk (qae HB.out hb); clear hb; obtain ⟨hfgb, hcgb_0, hcgb_1, hcgb_2, hcgb_3, hcgb_4, hcgb_5⟩ := qz6 BKgb.out; obtain ⟨hfge, hcge_0, hcge_1, hcge_2, hcge_3, hcge_4, hcge_5⟩ := qz6 BKge.out) | (go_at_call 95; (with_reducible refine (H_b3.out _).mono ?_); rintro e wn ⟨rfl, hb⟩; replace BKgb := qab.mk (qad BKgb.out hb); replace BKge := qab.mk (qad BKge.out hb); replace HB := qab.mk (qae HB.out hb); clear hb; obtain ⟨hfgb, hcgb_0, hcgb_1, hcgb_2, hcgb_3, hcgb_4, hcgb_5⟩ := qz6 BKgb.out; obtain ⟨hfge, hcge_0, hcge_1, hcge_2, hcge_3, hcge_4, hcge_5⟩ := qz6 BKge.out) | (go_at_call 95; (with_reducible refine (H_b4.out _).mono ?_); rintro e wn ⟨rfl, hb⟩; replace BKgb := qab.mk (qad BKgb.out hb); replace BKge := qab.mk (qad BKge.out hb); replace HB := qab.mk (qae HB.out hb); clear hb; obtain ⟨hfgb, hcgb_0, hcgb_1, hcgb_2, hcgb_3, hcgb_4, hcgb_5⟩ := qz6 BKgb.out; obtain ⟨hfge, hcge_0, hcge_1, hcge_2, hcge_3, hcge_4, hcge_5⟩ := qz6 BKge.out))
          go_ret
          exact ⟨by rw [validB_lake HE.out k hlt (by rw [HX.out, HV.out]; rfl)]; rfl, HB.out⟩
         | true =>
          go_wp2_with (first | (go_at_call 55; (with_reducible refine (H_b1.out _).mono ?_); rintro e wn ⟨rfl, hb⟩; replace BKgb := qab.mk (qad BKgb.out hb); replace BKge := qab.mk (qad BKge.out hb); replace HB := qab.mk (qae HB.out hb); clear hb; obtain ⟨hfgb, hcgb_0, hcgb_1, hcgb_2, hcgb_3, hcgb_4, hcgb_5⟩ := qz6 BKgb.out; obtain ⟨hfge, hcge_0, hcge_1, hcge_2, hcge_3, hcge_4, hcge_5⟩ := qz6 BKge.out) | (go_at_call 55; (with_reducible refine (H_b2.out _).mono ?_); rintro e wn ⟨rfl, hb⟩; replace BKgb := qab.mk (qad BKgb.out hb); replace BKge := qab.mk (qad BKge.out hb); replace HB := qab.mk (qae HB.out hb); clear hb; obtain ⟨hfgb, hcgb_0, hcgb_1, hcgb_2, hcgb_3, hcgb_4, hcgb_5⟩ := qz6 BKgb.out; obtain ⟨hfge, hcge_0, hcge_1, hcge_2, hcge_3, hcge_4, hcge_5⟩ := qz6 BKge.out) | (go_at_call 95; (with_reducible refine (H_b3.out _).mono ?_); rintro e wn ⟨rfl, hb⟩; replace BKgb := qab.mk (qad BKgb.out hb); replace BKge := qab.mk (qad BKge.out hb); replace HB := qab.mk (qae HB.out hb); clear hb; obtain ⟨hfgb, hcgb_0, hcgb_1, hcgb_2, hcgb_3, hcgb_4, hcgb_5⟩ := qz6 BKgb.out; obtain ⟨hfge, hcge_0, hcge_1, hcge_2, hcge_3, hcge_4, hcge_5⟩ := qz6 BKge.out) | (go_at_call 95; (with_reducible refine (H_b4.out _).mono ?_); rintro e wn ⟨rfl, hb⟩; replace BKgb := qab.mk (qad BKgb.out hb); replace BKge := qab.mk (qad BKge.out hb); replace HB := qab.mk (qae HB.out hb); clear hb; obtain ⟨hfgb, hcgb_0, hcgb_1, hcgb_2, hcgb_3, hcgb_4, hcgb_5⟩ := qz6 BKgb.out; obtain ⟨hfge, hcge_0, hcge_1, hcge_2, hcge_3, hcge_4, hcge_5⟩ := qz6 BKge.out))
          go_roundw
          case rel => exact ⟨k + 1, by omega, by go_num, ⟨fun j hj => by
            rcases Nat.lt_or_ge j k with h | h
            ·
             exact HN.out j h
            ·
             obtain rfl : j = k := by omega
             rw [HX.out, HV.out]; rfl⟩, BKgb, HB⟩
          case measure => simp [intOf]; omega
    ·
     have HL : qab (lakesB l0_5 = true) := ⟨all_lakes (fun j hj => HN.out j (by omega))⟩
     clear HN
     obtain ⟨b1, h_b1⟩ : ∃ b, b = inB a0_0 1 10 := ⟨_, rfl⟩; have H_b1 : qab (∀ W, Calls Try.prog 55 #[.int .i64 a0_0, .int .i64 1, .int .i64 10] W fun e w' => e = .returned (.bool b1) ∧ Below W.heap.size W w') := ⟨fun W => by rw [h_b1]; exact in_calls _ _ _ W⟩
     obtain ⟨b2, h_b2⟩ : ∃ b, b = decide (l0_1.length ≤ 12) := ⟨_, rfl⟩
     have hq2 : decide ((l0_1.length : Int) ≤ 12) = b2 := by rw [h_b2]; exact decide_eq_decide.2 (by omega)
     obtain ⟨b3, h_b3⟩ : ∃ b, b = incB l0_2 a0_0 := ⟨_, rfl⟩
     have H_b3 : qab (∀ W, Below w.heap.size w W → Calls Try.prog 88 #[.slice A0_2 l0_2.length c0_2, .int .i64 a0_0] W fun e w' => e = .returned (.bool b3) ∧ Below W.heap.size W w') := ⟨fun W hW => by rw [h_b3]; exact inc_calls _ _ _ _ W (Kd.qai HR2.out hW) hc0_2⟩
     obtain ⟨b4, h_b4⟩ : ∃ b, b = incB l0_3 a0_0 := ⟨_, rfl⟩
     have H_b4 : qab (∀ W, Below w.heap.size w W → Calls Try.prog 88 #[.slice A0_3 l0_3.length c0_3, .int .i64 a0_0] W fun e w' => e = .returned (.bool b4) ∧ Below W.heap.size W w') := ⟨fun W hW => by rw [h_b4]; exact inc_calls _ _ _ _ W (Kd.qai HR3.out hW) hc0_3⟩
     obtain ⟨b5, h_b5⟩ : ∃ b, b = inB (l0_4.length : Int) 1 10 := ⟨_, rfl⟩; have H_b5 : qab (∀ W, Calls Try.prog 55 #[.int .i64 (l0_4.length : Int), .int .i64 1, .int .i64 10] W fun e w' => e = .returned (.bool b5) ∧ Below W.heap.size W w') := ⟨fun W => by rw [h_b5]; exact in_calls _ _ _ W⟩
     obtain ⟨b6, h_b6⟩ : ∃ b, b = l0_4.all (fun s => spanB s 20000) := ⟨_, rfl⟩
     have H_b6 : qab (∀ W, Below w.heap.size w W → Calls Try.prog 96 #[.slice A0_4 l0_4.length c0_4, .func (.func 97) #[] #[]] W fun e w' => e = .returned (.bool (!b6)) ∧ Below W.heap.size W w') := ⟨fun W hW => by
      rw [h_b6, List.all_eq_not_any_not, Bool.not_not]
      exact has97 l0_4 _ _ (fun s => !spanB s 20000) W (Kd.qai HR4.out hW) (fun i W' _ _ _ => valid_1_calls _ W')⟩
     obtain ⟨b7, h_b7⟩ : ∃ b, b = decide (l0_5.length ≤ 6) := ⟨_, rfl⟩
     have hq7 : decide ((l0_5.length : Int) ≤ 6) = b7 := by rw [h_b7]; exact decide_eq_decide.2 (by omega)
     have HV : qab (validB a0_0 l0_1 l0_2 l0_3 l0_4 l0_5 = (b1 && (b2 && (b3 && (b4 && (b5 && (b6 && b7))))))) := ⟨by unfold validB; rw [HE.out, HL.out, h_b1, h_b2, h_b3, h_b4, h_b5, h_b6, h_b7]; rfl⟩
     clear h_b1 h_b2 h_b3 h_b4 h_b5 h_b6 h_b7
     cases b1 with
     | false =>
      go_wp2_with (go_at_call 55; (with_reducible refine (H_b1.out _).mono ?_); rintro e wn ⟨rfl, hb⟩; replace BKgb := qab.mk (qad BKgb.out hb); replace HB := qab.mk (qae HB.out hb); clear hb; obtain ⟨hfgb, hcgb_0, hcgb_1, hcgb_2, hcgb_3, hcgb_4, hcgb_5⟩ := qz6 BKgb.out)
      go_ret
      exact ⟨by rw [HV.out]; rfl, HB.out⟩
     | true =>
      cases b2 with
      | false =>
       go_wp2_with (go_at_call 55; (with_reducible refine (H_b1.out _).mono ?_); rintro e wn ⟨rfl, hb⟩; replace BKgb := qab.mk (qad BKgb.out hb); replace HB := qab.mk (qae HB.out hb); clear hb; obtain ⟨hfgb, hcgb_0, hcgb_1, hcgb_2, hcgb_3, hcgb_4, hcgb_5⟩ := qz6 BKgb.out)
       go_ret
       exact ⟨by rw [HV.out]; rfl, HB.out⟩
      | true =>
       cases b3 with
       | false =>
        go_wp2_with (first | (go_at_call 55; (with_reducible refine (H_b1.out _).mono ?_); rintro e wn ⟨rfl, hb⟩; replace BKgb := qab.mk (qad BKgb.out hb); replace HB := qab.mk (qae HB.out hb); clear hb; obtain ⟨hfgb, hcgb_0, hcgb_1, hcgb_2, hcgb_3, hcgb_4, hcgb_5⟩ := qz6 BKgb.out) | (go_at_call 88; (with_reducible refine (H_b3.out _ HB.out).mono ?_); rintro e wn ⟨rfl, hb⟩; replace BKgb := qab.mk (qad BKgb.out hb); replace HB := qab.mk (qae HB.out hb); clear hb; obtain ⟨hfgb, hcgb_0, hcgb_1, hcgb_2, hcgb_3, hcgb_4, hcgb_5⟩ := qz6 BKgb.out))
        go_ret
        exact ⟨by rw [HV.out]; rfl, HB.out⟩
       | true =>
        cases b4 with
        | false =>
         go_wp2_with (first | (go_at_call 55; (with_reducible refine (H_b1.out _).mono ?_); rintro e wn ⟨rfl, hb⟩; replace BKgb := qab.mk (qad BKgb.out hb); replace HB := qab.mk (qae HB.out hb); clear hb; obtain ⟨hfgb, hcgb_0, hcgb_1, hcgb_2, hcgb_3, hcgb_4, hcgb_5⟩ := qz6 BKgb.out) | (go_at_call 88; (with_reducible refine (H_b3.out _ HB.out).mono ?_); rintro e wn ⟨rfl, hb⟩; replace BKgb := qab.mk (qad BKgb.out hb); replace HB := qab.mk (qae HB.out hb); clear hb; obtain ⟨hfgb, hcgb_0, hcgb_1, hcgb_2, hcgb_3, hcgb_4, hcgb_5⟩ := qz6 BKgb.out) | (go_at_call 88; (with_reducible refine (H_b4.out _ HB.out).mono ?_); rintro e wn ⟨rfl, hb⟩; replace BKgb := qab.mk (qad BKgb.out hb); replace HB := qab.mk (qae HB.out hb); clear hb; obtain ⟨hfgb, hcgb_0, hcgb_1, hcgb_2, hcgb_3, hcgb_4, hcgb_5⟩ := qz6 BKgb.out))
         go_ret
         exact ⟨by rw [HV.out]; rfl, HB.out⟩
        | true =>
         cases b5 with
         | false =>
          go_wp2_with (first | (go_at_call 55; (with_reducible refine (H_b1.out _).mono ?_); rintro e wn ⟨rfl, hb⟩; replace BKgb := qab.mk (qad BKgb.out hb); replace HB := qab.mk (qae HB.out hb); clear hb; obtain ⟨hfgb, hcgb_0, hcgb_1, hcgb_2, hcgb_3, hcgb_4, hcgb_5⟩ := qz6 BKgb.out) | (go_at_call 88; (with_reducible refine (H_b3.out _ HB.out).mono ?_); rintro e wn ⟨rfl, hb⟩; replace BKgb := qab.mk (qad BKgb.out hb); replace HB := qab.mk (qae HB.out hb); clear hb; obtain ⟨hfgb, hcgb_0, hcgb_1, hcgb_2, hcgb_3, hcgb_4, hcgb_5⟩ := qz6 BKgb.out) | (go_at_call 88; (with_reducible refine (H_b4.out _ HB.out).mono ?_); rintro e wn ⟨rfl, hb⟩; replace BKgb := qab.mk (qad BKgb.out hb); replace HB := qab.mk (qae HB.out hb); clear hb; obtain ⟨hfgb, hcgb_0, hcgb_1, hcgb_2, hcgb_3, hcgb_4, hcgb_5⟩ := qz6 BKgb.out) | (go_at_call 55; (with_reducible refine (H_b5.out _).mono ?_); rintro e wn ⟨rfl, hb⟩; replace BKgb := qab.mk (qad BKgb.out hb); replace HB := qab.mk (qae HB.out hb); clear hb; obtain ⟨hfgb, hcgb_0, hcgb_1, hcgb_2, hcgb_3, hcgb_4, hcgb_5⟩ := qz6 BKgb.out))
          go_ret
          exact ⟨by rw [HV.out]; rfl, HB.out⟩
         | true =>
          cases b6 with
          | false =>
           go_wp2_with (first | (go_at_call 55; (with_reducible refine (H_b1.out _).mono ?_); rintro e wn ⟨rfl, hb⟩; replace BKgb := qab.mk (qad BKgb.out hb); replace HB := qab.mk (qae HB.out hb); clear hb; obtain ⟨hfgb, hcgb_0, hcgb_1, hcgb_2, hcgb_3, hcgb_4, hcgb_5⟩ := qz6 BKgb.out) | (go_at_call 88; (with_reducible refine (H_b3.out _ HB.out).mono ?_); rintro e wn ⟨rfl, hb⟩; replace BKgb := qab.mk (qad BKgb.out hb); replace HB := qab.mk (qae HB.out hb); clear hb; obtain ⟨hfgb, hcgb_0, hcgb_1, hcgb_2, hcgb_3, hcgb_4, hcgb_5⟩ := qz6 BKgb.out) | (go_at_call 88; (with_reducible refine (H_b4.out _ HB.out).mono ?_); rintro e wn ⟨rfl, hb⟩; replace BKgb := qab.mk (qad BKgb.out hb); replace HB := qab.mk (qae HB.out hb); clear hb; obtain ⟨hfgb, hcgb_0, hcgb_1, hcgb_2, hcgb_3, hcgb_4, hcgb_5⟩ := qz6 BKgb.out) | (go_at_call 55; (with_reducible refine (H_b5.out _).mono ?_); rintro e wn ⟨rfl, hb⟩; replace BKgb := qab.mk (qad BKgb.out hb); replace HB := qab.mk (qae HB.out hb); clear hb; obtain ⟨hfgb, hcgb_0, hcgb_1, hcgb_2, hcgb_3, hcgb_4, hcgb_5⟩ := qz6 BKgb.out) | (go_at_call 96; (with_reducible refine (H_b6.out _ HB.out).mono ?_); rintro e wn ⟨rfl, hb⟩; replace BKgb := qab.mk (qad BKgb.out hb); replace HB := qab.mk (qae HB.out hb); clear hb; obtain ⟨hfgb, hcgb_0, hcgb_1, hcgb_2, hcgb_3, hcgb_4, hcgb_5⟩ := qz6 BKgb.out))
           go_ret
           exact ⟨by rw [HV.out]; rfl, HB.out⟩
          | true =>
           cases b7 with
           | false =>
            go_wp2_with (first | (go_at_call 55; (with_reducible refine (H_b1.out _).mono ?_); rintro e wn ⟨rfl, hb⟩; replace BKgb := qab.mk (qad BKgb.out hb); replace HB := qab.mk (qae HB.out hb); clear hb; obtain ⟨hfgb, hcgb_0, hcgb_1, hcgb_2, hcgb_3, hcgb_4, hcgb_5⟩ := qz6 BKgb.out) | (go_at_call 88; (with_reducible refine (H_b3.out _ HB.out).mono ?_); rintro e wn ⟨rfl, hb⟩; replace BKgb := qab.mk (qad BKgb.out hb); replace HB := qab.mk (qae HB.out hb); clear hb; obtain ⟨hfgb, hcgb_0, hcgb_1, hcgb_2, hcgb_3, hcgb_4, hcgb_5⟩ := qz6 BKgb.out) | (go_at_call 88; (with_reducible refine (H_b4.out _ HB.out).mono ?_); rintro e wn ⟨rfl, hb⟩; replace BKgb := qab.mk (qad BKgb.out hb); replace HB := qab.mk (qae HB.out hb); clear hb; obtain ⟨hfgb, hcgb_0, hcgb_1, hcgb_2, hcgb_3, hcgb_4, hcgb_5⟩ := qz6 BKgb.out) | (go_at_call 55; (with_reducible refine (H_b5.out _).mono ?_); rintro e wn ⟨rfl, hb⟩; replace BKgb := qab.mk (qad BKgb.out hb); replace HB := qab.mk (qae HB.out hb); clear hb; obtain ⟨hfgb, hcgb_0, hcgb_1, hcgb_2, hcgb_3, hcgb_4, hcgb_5⟩ := qz6 BKgb.out) | (go_at_call 96; (with_reducible refine (H_b6.out _ HB.out).mono ?_); rintro e wn ⟨rfl, hb⟩; replace BKgb := qab.mk (qad BKgb.out hb); replace HB := qab.mk (qae HB.out hb); clear hb; obtain ⟨hfgb, hcgb_0, hcgb_1, hcgb_2, hcgb_3, hcgb_4, hcgb_5⟩ := qz6 BKgb.out))
            go_ret
            exact ⟨by rw [HV.out]; rfl, HB.out⟩
           | true =>
            go_wp2_with (first | (go_at_call 55; (with_reducible refine (H_b1.out _).mono ?_); rintro e wn ⟨rfl, hb⟩; replace BKgb := qab.mk (qad BKgb.out hb); replace HB := qab.mk (qae HB.out hb); clear hb; obtain ⟨hfgb, hcgb_0, hcgb_1, hcgb_2, hcgb_3, hcgb_4, hcgb_5⟩ := qz6 BKgb.out) | (go_at_call 88; (with_reducible refine (H_b3.out _ HB.out).mono ?_); rintro e wn ⟨rfl, hb⟩; replace BKgb := qab.mk (qad BKgb.out hb); replace HB := qab.mk (qae HB.out hb); clear hb; obtain ⟨hfgb, hcgb_0, hcgb_1, hcgb_2, hcgb_3, hcgb_4, hcgb_5⟩ := qz6 BKgb.out) | (go_at_call 88; (with_reducible refine (H_b4.out _ HB.out).mono ?_); rintro e wn ⟨rfl, hb⟩; replace BKgb := qab.mk (qad BKgb.out hb); replace HB := qab.mk (qae HB.out hb); clear hb; obtain ⟨hfgb, hcgb_0, hcgb_1, hcgb_2, hcgb_3, hcgb_4, hcgb_5⟩ := qz6 BKgb.out) | (go_at_call 55; (with_reducible refine (H_b5.out _).mono ?_); rintro e wn ⟨rfl, hb⟩; replace BKgb := qab.mk (qad BKgb.out hb); replace HB := qab.mk (qae HB.out hb); clear hb; obtain ⟨hfgb, hcgb_0, hcgb_1, hcgb_2, hcgb_3, hcgb_4, hcgb_5⟩ := qz6 BKgb.out) | (go_at_call 96; (with_reducible refine (H_b6.out _ HB.out).mono ?_); rintro e wn ⟨rfl, hb⟩; replace BKgb := qab.mk (qad BKgb.out hb); replace HB := qab.mk (qae HB.out hb); clear hb; obtain ⟨hfgb, hcgb_0, hcgb_1, hcgb_2, hcgb_3, hcgb_4, hcgb_5⟩ := qz6 BKgb.out))
            go_ret
            exact ⟨by rw [HV.out]; rfl, HB.out⟩
theorem dyke_calls (g : Nat) (v0 v1 v2 v3 v4 v5 : Value) (d i : Int) (w : World) (hb : w.heap[g]? = some (.cells #[v0, v1, v2, v3, v4, v5, .int .i64 d] 123 (0, 0))) (i0 : 0 ≤ i) (i1 : i < 64) :
  Calls Try.prog 92 #[.pointer (some ⟨g, 0, none⟩), .int .i64 i] w fun e w' => e = .returned (.bool (dykeV d i)) ∧ Below w.heap.size w w' := by
 have c6 : w.cell? ⟨g, 6, none⟩ = some (.int .i64 d) := (qaa hb 6).trans rfl
 have hu123 := Try.underlying123
 have i2 : i ≤ 64 := by omega
 have hm : min i.toNat 64 = i.toNat := Nat.min_eq_left (by omega)
 clear hb
 go_enter Try.func92, Try.ntmps92
 go_wp2
 go_ret
 exact ⟨by unfold dykeV; rw [hm]; rfl, Below.refl _ _⟩
theorem givenB_cost {p : Int} {l1 : List S44} {l2 l3 : List Int} {l4 : List S41} {l5 : List S95} {l : List Int} (k : Nat) (hk : k < l.length) (h : (qav l1 (rd l k)).f3 = -1) : givenB p l1 l2 l3 l4 l5 l = false := by
 unfold givenB
 have : (l.all fun n => !decide ((qav l1 n).f3 = -1)) = false := by
  rw [List.all_eq_false]
  refine ⟨l[k], List.getElem_mem hk, ?_⟩
  have e : rd l (k : Int) = l[k] := by simp [rd, hk]
  rw [e] at h
  simp [h]
 rw [this]
 simp
theorem given_calls (a0_0 : Int) (A0_1 : Option Addr) (c0_1 : Nat) (l0_1 : List S44) (A0_2 : Option Addr) (c0_2 : Nat) (l0_2 : List Int) (A0_3 : Option Addr) (c0_3 : Nat) (l0_3 : List Int) (A0_4 : Option Addr) (c0_4 : Nat) (l0_4 : List S41) (A0_5 : Option Addr) (c0_5 : Nat) (l0_5 : List S95) (A1 : Option Addr) (c1 : Nat) (l1 : List Int) (w : World)
  (hr0_1 : Kd.C k44 w A0_1 l0_1.length l0_1) (hc0_1 : l0_1.length ≤ c0_1) (hr0_2 : Kd.C (Kd.int .i64) w A0_2 l0_2.length l0_2) (hc0_2 : l0_2.length ≤ c0_2) (hr0_3 : Kd.C (Kd.int .i64) w A0_3 l0_3.length l0_3) (hc0_3 : l0_3.length ≤ c0_3) (hr0_4 : Kd.C k41 w A0_4 l0_4.length l0_4) (hc0_4 : l0_4.length ≤ c0_4) (hr0_5 : Kd.C k95 w A0_5 l0_5.length l0_5) (hc0_5 : l0_5.length ≤ c0_5) (hr1 : Kd.C (Kd.int .i64) w A1 l1.length l1) (hc1 : l1.length ≤ c1) :
  Calls Try.prog 54 #[.agg #[.int .i64 a0_0, .slice A0_1 l0_1.length c0_1, .slice A0_2 l0_2.length c0_2, .slice A0_3 l0_3.length c0_3, .slice A0_4 l0_4.length c0_4, .slice A0_5 l0_5.length c0_5], .slice A1 l1.length c1] w fun e w' =>
   (givenB a0_0 l0_1 l0_2 l0_3 l0_4 l0_5 l1 = true ∧ ∃ g, e = .returned (.tuple #[.pointer (some ⟨g, 0, none⟩), .bool true]) ∧ w.heap.size ≤ g ∧ w'.heap[g]? = some (.cells #[.int .i64 a0_0, .slice A0_1 l0_1.length c0_1, .slice A0_2 l0_2.length c0_2, .slice A0_3 l0_3.length c0_3, .slice A0_4 l0_4.length c0_4, .slice A0_5 l0_5.length c0_5, .int .i64 (maskV l1 : Int)] 123 (0, 0)) ∧ Below w.heap.size w w') ∨
   (givenB a0_0 l0_1 l0_2 l0_3 l0_4 l0_5 l1 = false ∧ e = .returned (.tuple #[.pointer none, .bool false]) ∧ Below w.heap.size w w') := by
 have hu27 := Try.underlying27
 have hu123 := Try.underlying123
 have hu44 := Try.underlying44
 have m1 := Kd.C_max hr0_1
 have m2 := Kd.C_max hr1
 have HB := qab.mk (Below.refl w.heap.size w)
 have HVAL : qab (∀ W, Below w.heap.size w W → Calls Try.prog 66 #[.agg #[.int .i64 a0_0, .slice A0_1 l0_1.length c0_1, .slice A0_2 l0_2.length c0_2, .slice A0_3 l0_3.length c0_3, .slice A0_4 l0_4.length c0_4, .slice A0_5 l0_5.length c0_5]] W fun e w' => e = .returned (.bool (validB a0_0 l0_1 l0_2 l0_3 l0_4 l0_5)) ∧ Below W.heap.size W w') := ⟨fun W hW => seep_valid.calls _ _ _ l0_1 _ _ l0_2 _ _ l0_3 _ _ l0_4 _ _ l0_5 _ W (Kd.qai hr0_1 hW) hc0_1 (Kd.qai hr0_2 hW) hc0_2 (Kd.qai hr0_3 hW) hc0_3 (Kd.qai hr0_4 hW) hc0_4 (Kd.qai hr0_5 hW) hc0_5 rfl⟩
 have HINC : qab (∀ W, Below w.heap.size w W → Calls Try.prog 88 #[.slice A1 l1.length c1, .int .i64 l0_1.length] W fun e w' => e = .returned (.bool (incB l1 l0_1.length)) ∧ Below W.heap.size W w') := ⟨fun W hW => inc_calls _ _ l1 _ W (Kd.qai hr1 hW) hc1⟩
 have HR1 := qab.mk hr0_1
 have HRL := qab.mk hr1
 clear hr0_1 hr0_2 hr0_3 hr0_4 hr0_5 hr1
 cases hv : validB a0_0 l0_1 l0_2 l0_3 l0_4 l0_5 with
 | false =>
  have hg : qab (givenB a0_0 l0_1 l0_2 l0_3 l0_4 l0_5 l1 = false) := ⟨by unfold givenB; rw [hv]; rfl⟩
  rw [hv] at HVAL
  clear hv
  go_enter Try.func54, Try.ntmps54
  go_wp2_with (first | ((with_reducible refine qam (N := 2) rfl ?_); refine ze 2 #[.int .i64 a0_0, .slice A0_1 l0_1.length c0_1, .slice A0_2 l0_2.length c0_2, .slice A0_3 l0_3.length c0_3, .slice A0_4 l0_4.length c0_4, .slice A0_5 l0_5.length c0_5] 27 ?_; intro gb hg_gb w2 hbox hb; have BKgb := qab.mk hbox; have n_HB := qab.mk (qae HB.out hb); have GEgb : w.heap.size ≤ gb := (by rw [hg_gb]; exact HB.out.size); clear HB; have HB := n_HB; clear n_HB; obtain ⟨hfgb, hcgb_0, hcgb_1, hcgb_2, hcgb_3, hcgb_4, hcgb_5⟩ := qz6 BKgb.out; clear hbox hb hg_gb) | (go_at_call 66; (with_reducible refine (HVAL.out _ HB.out).mono ?_); rintro e wn ⟨rfl, hb⟩; replace BKgb := qab.mk (qad BKgb.out hb); replace HB := qab.mk (qae HB.out hb); clear hb; obtain ⟨hfgb, hcgb_0, hcgb_1, hcgb_2, hcgb_3, hcgb_4, hcgb_5⟩ := qz6 BKgb.out))
  go_ret2
  exact .inr ⟨hg.out, rfl, HB.out⟩
 | true =>
  rw [hv] at HVAL
  cases hi : incB l1 l0_1.length with
  | false =>
   have hg : qab (givenB a0_0 l0_1 l0_2 l0_3 l0_4 l0_5 l1 = false) := ⟨by unfold givenB; rw [hi, Bool.false_and, Bool.and_false]⟩
   rw [hi] at HINC
   clear hv hi
   go_enter Try.func54, Try.ntmps54
   go_wp2_with (first | ((with_reducible refine qam (N := 2) rfl ?_); refine ze 2 #[.int .i64 a0_0, .slice A0_1 l0_1.length c0_1, .slice A0_2 l0_2.length c0_2, .slice A0_3 l0_3.length c0_3, .slice A0_4 l0_4.length c0_4, .slice A0_5 l0_5.length c0_5] 27 ?_; intro gb hg_gb w2 hbox hb; have BKgb := qab.mk hbox; have n_HB := qab.mk (qae HB.out hb); have GEgb : w.heap.size ≤ gb := (by rw [hg_gb]; exact HB.out.size); clear HB; have HB := n_HB; clear n_HB; obtain ⟨hfgb, hcgb_0, hcgb_1, hcgb_2, hcgb_3, hcgb_4, hcgb_5⟩ := qz6 BKgb.out; clear hbox hb hg_gb) | (go_at_call 66; (with_reducible refine (HVAL.out _ HB.out).mono ?_); rintro e wn ⟨rfl, hb⟩; replace BKgb := qab.mk (qad BKgb.out hb); replace HB := qab.mk (qae HB.out hb); clear hb; obtain ⟨hfgb, hcgb_0, hcgb_1, hcgb_2, hcgb_3, hcgb_4, hcgb_5⟩ := qz6 BKgb.out) | (go_at_call 88; (with_reducible refine (HINC.out _ HB.out).mono ?_); rintro e wn ⟨rfl, hb⟩; replace BKgb := qab.mk (qad BKgb.out hb); replace HB := qab.mk (qae HB.out hb); clear hb; obtain ⟨hfgb, hcgb_0, hcgb_1, hcgb_2, hcgb_3, hcgb_4, hcgb_5⟩ := qz6 BKgb.out))
   go_ret2
   exact .inr ⟨hg.out, rfl, HB.out⟩
  | true =>
   have HM := qab.mk (inc_mem hi (.inr (by omega)) (by omega))
   have hn12 : l0_1.length ≤ 12 := by
    unfold validB at hv
    simp only [Bool.and_eq_true, decide_eq_true_eq] at hv
    exact hv.2.2.2.1
   have HG : qab (givenB a0_0 l0_1 l0_2 l0_3 l0_4 l0_5 l1 = l1.all fun n => !decide ((qav l0_1 n).f3 = -1)) := ⟨by unfold givenB; rw [hv, hi]; rfl⟩
   rw [hi] at HINC
   clear hv hi
   go_enter Try.func54, Try.ntmps54
   go_wp2_with (first | ((with_reducible refine qam (N := 2) rfl ?_); refine ze 2 #[.int .i64 a0_0, .slice A0_1 l0_1.length c0_1, .slice A0_2 l0_2.length c0_2, .slice A0_3 l0_3.length c0_3, .slice A0_4 l0_4.length c0_4, .slice A0_5 l0_5.length c0_5] 27 ?_; intro gb hg_gb w2 hbox hb; have BKgb := qab.mk hbox; have n_HB := qab.mk (qae HB.out hb); have GEgb : w.heap.size ≤ gb := (by rw [hg_gb]; exact HB.out.size); clear HB; have HB := n_HB; clear n_HB; obtain ⟨hfgb, hcgb_0, hcgb_1, hcgb_2, hcgb_3, hcgb_4, hcgb_5⟩ := qz6 BKgb.out; clear hbox hb hg_gb) | ((with_reducible refine qam (N := 22) rfl ?_); refine ze 22 #[.int .i64 a0_0, .slice A0_1 l0_1.length c0_1, .slice A0_2 l0_2.length c0_2, .slice A0_3 l0_3.length c0_3, .slice A0_4 l0_4.length c0_4, .slice A0_5 l0_5.length c0_5, .int .i64 0] 123 ?_; intro gd hg_gd w5 hbox hb; have BKgd := qab.mk hbox; have ne_gb_gd : gb ≠ gd := (by rw [hg_gd]; exact Nat.ne_of_lt (blk_lt BKgb.out)); replace BKgb := qab.mk (qad BKgb.out hb); have n_HB := qab.mk (qae HB.out hb); have GEgd : w.heap.size ≤ gd := (by rw [hg_gd]; exact HB.out.size); clear HB; have HB := n_HB; clear n_HB; obtain ⟨hfgd, hcgd_0, hcgd_1, hcgd_2, hcgd_3, hcgd_4, hcgd_5, hcgd_6⟩ := qz7 BKgd.out; clear hbox hb hg_gd; obtain ⟨hfgb, hcgb_0, hcgb_1, hcgb_2, hcgb_3, hcgb_4, hcgb_5⟩ := qz6 BKgb.out; obtain ⟨hfgd, hcgd_0, hcgd_1, hcgd_2, hcgd_3, hcgd_4, hcgd_5, hcgd_6⟩ := qz7 BKgd.out) | (go_at_call 66; (with_reducible refine (HVAL.out _ HB.out).mono ?_); rintro e wn ⟨rfl, hb⟩; replace BKgb := qab.mk (qad BKgb.out hb); replace HB := qab.mk (qae HB.out hb); clear hb; obtain ⟨hfgb, hcgb_0, hcgb_1, hcgb_2, hcgb_3, hcgb_4, hcgb_5⟩ := qz6 BKgb.out) | (go_at_call 88; (with_reducible refine (HINC.out _ HB.out).mono ?_); rintro e wn ⟨rfl, hb⟩; replace BKgb := qab.mk (qad BKgb.out hb); replace HB := qab.mk (qae HB.out hb); clear hb; obtain ⟨hfgb, hcgb_0, hcgb_1, hcgb_2, hcgb_3, hcgb_4, hcgb_5⟩ := qz6 BKgb.out))
   have hd0 : (0 : Int) = ((maskV (l1.take 0) : Nat) : Int) := by simp [maskV]
   go_loopw [25] (fun s25 wr => ∃ k : Nat, k ≤ l1.length ∧ s25 = .int .i64 k ∧ qab (∀ j : Nat, j < k → (qav l0_1 (rd l1 j)).f3 ≠ -1) ∧ qab (wr.heap[gb]? = some (.cells #[.int .i64 a0_0, .slice A0_1 l0_1.length c0_1, .slice A0_2 l0_2.length c0_2, .slice A0_3 l0_3.length c0_3, .slice A0_4 l0_4.length c0_4, .slice A0_5 l0_5.length c0_5] 27 (0, 0))) ∧ qab (wr.heap[gd]? = some (.cells #[.int .i64 a0_0, .slice A0_1 l0_1.length c0_1, .slice A0_2 l0_2.length c0_2, .slice A0_3 l0_3.length c0_3, .slice A0_4 l0_4.length c0_4, .slice A0_5 l0_5.length c0_5, .int .i64 (maskV (l1.take k) : Int)] 123 (0, 0))) ∧ qab (Below w.heap.size w wr)) (fun s _ => l1.length - (intOf s).toNat)
   case atStart => exact ⟨0, by omega, rfl, ⟨fun j h1 => by omega⟩, BKgb, ⟨by rw [← hd0]; exact BKgd.out⟩, HB⟩
   case round =>
    clear BKgb BKgd HB hfgb hcgb_0 hcgb_1 hcgb_2 hcgb_3 hcgb_4 hcgb_5 hfgd hcgd_0 hcgd_1 hcgd_2 hcgd_3 hcgd_4 hcgd_5 hcgd_6 hd0
    obtain ⟨k, hk1, rfl, HN, BKgb, BKgd, HB⟩ := hrel
    by_cases hlt : k < l1.length
    ·
     obtain ⟨ad, e, q⟩ := Kd.at_int HRL.out k (by omega) (by omega)
     cases e
     replace q := (HB.out.cell (World.block_lt_of_cell? w _ q)).trans q
     simp only [Int.toNat_natCast] at q
     have hx : 0 ≤ rd l1 k ∧ rd l1 k < l0_1.length := HM.out _ (by simp [rd, hlt])
     have HTK : qab (l1.take (k + 1) = l1.take k ++ [rd l1 k]) := ⟨by rw [List.take_succ, List.getElem?_eq_getElem hlt]; simp [rd, hlt]⟩
     have HML : qab (maskV (l1.take k) < 2 ^ 12) := ⟨mask_lt _ 12 (fun x hx => by have := HM.out x (List.mem_of_mem_take hx); omega)⟩
     obtain ⟨n, hn⟩ := Int.eq_ofNat_of_zero_le hx.1
     have HNV : qab (rd l1 k = (n : Int)) := ⟨hn⟩
     rw [hn] at q hx HTK
     clear hn
     have hx0 := hx.1
     have hx1 := hx.2
     clear hx
     obtain ⟨ad2, e, _, _, _, q3⟩ := at_T44 HR1.out n (by omega) (by omega)
     cases e
     replace q3 := (HB.out.cell (World.block_lt_of_cell? w _ q3)).trans q3
     simp only [Int.toNat_natCast] at q3
     obtain ⟨cc, hcc⟩ : ∃ x, x = (qav l0_1 n).f3 := ⟨_, rfl⟩
     rw [← hcc] at q3
     have HCC := qab.mk hcc
     clear hcc
     obtain ⟨hfgb, hcgb_0, hcgb_1, hcgb_2, hcgb_3, hcgb_4, hcgb_5⟩ := qz6 BKgb.out; obtain ⟨hfgd, hcgd_0, hcgd_1, hcgd_2, hcgd_3, hcgd_4, hcgd_5⟩ := qz6 BKgd.out; have hcgd_6 : wr.cell? ⟨gd, 6, none⟩ = some (.int .i64 (maskV (l1.take k) : Int)) := (qaa BKgd.out 6).trans rfl
     by_cases hc : cc = -1
     ·
      have hcb : (cc == -1) = true := by simp [hc]
      have hg : qab (givenB a0_0 l0_1 l0_2 l0_3 l0_4 l0_5 l1 = false) := ⟨givenB_cost k hlt (by rw [HNV.out, ← HCC.out, hc])⟩
      clear hc
      go_wp2
      go_ret2
      exact .inr ⟨hg.out, rfl, HB.out⟩
     ·
      have hcb : (cc == -1) = false := by simp [hc]
      have HC := qab.mk hc
      clear hc
      go_upto_region 9 with fail
      clear q q3
      go_region
      have hbk := qaw (blk_set BKgd.out 6 (.int .i64 (bits .or .i64 (maskV (l1.take k)) (wrap64 (2 ^ n)))))
      have hbl := qaq (qaj (j := 6) (v := .int .i64 (bits .or .i64 (maskV (l1.take k)) (wrap64 (2 ^ n)))) HB.out GEgd)
      have hbm := qaw (blk_far (p := ⟨gd, 6, none⟩) BKgb.out ne_gb_gd (.int .i64 (bits .or .i64 (maskV (l1.take k)) (wrap64 (2 ^ n)))))
      have he : bits .or .i64 (maskV (l1.take k)) (wrap64 (2 ^ n)) = (maskV (l1.take (k + 1)) : Int) := by
       have hn12' : n < 12 := by omega
       have hp : 2 ^ n < 2 ^ 12 := Nat.pow_lt_pow_right (by decide) hn12'
       have hm := HML.out
       rw [HTK.out, maskV_snoc, Int.toNat_natCast, show ((2 : Int) ^ n) = ((2 ^ n : Nat) : Int) from by simp, show wrap64 ((2 ^ n : Nat) : Int) = ((2 ^ n : Nat) : Int) from by generalize 2 ^ n = P at hp; unfold wrap64; omega, bits_or_i64_nat _ _ (by omega) (by omega)]
      rw [he] at hbk hbl hbm ⊢
      generalize (wr.setCell ⟨gd, 6, none⟩ (.int .i64 (maskV (l1.take (k + 1)) : Int))).drew = wx at hbk hbl hbm ⊢
      go_wp2
      go_roundw
      case rel => exact ⟨k + 1, by omega, by go_num, ⟨fun j hj => by
       rcases Nat.lt_or_ge j k with h | h
       ·
        exact HN.out j h
       ·
        obtain rfl : j = k := by omega
        rw [HNV.out, ← HCC.out]
        exact HC.out⟩, ⟨hbm⟩, ⟨hbk⟩, ⟨hbl⟩⟩
      case measure => simp [intOf]; omega
    ·
     have hk : k = l1.length := by omega
     have hg : qab (givenB a0_0 l0_1 l0_2 l0_3 l0_4 l0_5 l1 = true) := ⟨by
      rw [HG.out, List.all_eq_true]
      intro x hx
      obtain ⟨j, hj, rfl⟩ := List.mem_iff_getElem.1 hx
      have h := HN.out j (by omega)
      have e : rd l1 (j : Int) = l1[j] := by simp [rd, hj]
      rw [e] at h
      simpa using h⟩
     have HBD : qab (wr.heap[gd]? = some (.cells #[.int .i64 a0_0, .slice A0_1 l0_1.length c0_1, .slice A0_2 l0_2.length c0_2, .slice A0_3 l0_3.length c0_3, .slice A0_4 l0_4.length c0_4, .slice A0_5 l0_5.length c0_5, .int .i64 (maskV l1 : Int)] 123 (0, 0))) := ⟨by have h := BKgd.out; rwa [hk, List.take_length] at h⟩
     clear hk
     go_wp2
     go_ret2
     exact .inl ⟨hg.out, gd, rfl, GEgd, HBD.out, HB.out⟩
end Go.Proofs.Ytafkanmioinbiaa.SA
namespace Go.Proofs.Ytafkanmioinbiaa.SA
open Go.RowKit Go.Proofs.YtafkanmioinbiaaW.PrintWords Go.Proofs.YtafkanmioinbiaaW.PrintLast Go.Proofs.YtafkanmioinbiaaW.PrintMore
attribute [local go_sem] qax qaz max_two min_two qao qap qay qba
attribute [local go_sem] Oper.semAt_some
def openB (d : Int) (es : List S44) (th : Int) (k : Nat) : Bool := !dykeV d k && decide (th ≥ (qav es k).f2)
def openL (d : Int) (es : List S44) (th : Int) (n : Nat) : List Nat := (List.range n).filter (openB d es th)
theorem openL_yes {d : Int} {es : List S44} {th : Int} (n : Nat) (h : openB d es th n = true) : openL d es th (n + 1) = openL d es th n ++ [n] := by
 unfold openL
 rw [List.range_succ, List.filter_append]
 simp [h]
theorem openL_no {d : Int} {es : List S44} {th : Int} (n : Nat) (h : openB d es th n = false) : openL d es th (n + 1) = openL d es th n := by
 unfold openL
 rw [List.range_succ, List.filter_append]
 simp [h]
theorem openL_pre (d : Int) (es : List S44) (th : Int) (k n : Nat) (h : k ≤ n) : openL d es th k <+: openL d es th n := by
 induction n with
 | zero =>
  obtain rfl : k = 0 := by omega
  exact List.prefix_refl _
 | succ n ih =>
  rcases Nat.lt_or_ge k (n + 1) with hk | hk
  ·
   refine (ih (by omega)).trans ?_
   cases hb : openB d es th n
   ·
    rw [openL_no n hb]; exact List.prefix_refl _
   ·
    rw [openL_yes n hb]; exact List.prefix_append _ _
  ·
   obtain rfl : k = n + 1 := by omega
   exact List.prefix_refl _
theorem openL_len (d : Int) (es : List S44) (th : Int) (n : Nat) : (openL d es th n).length ≤ n := by
 unfold openL
 exact Nat.le_trans (List.length_filter_le _ _) (by simp)
structure OKp (B gd Bd Bt : Nat) (W W' : World) : Prop where
 b : Below B W W'
 d : W'.heap[gd]? = W.heap[gd]?
 p : W'.heap[Bd]? = W.heap[Bd]?
 t : W'.heap[Bt]? = W.heap[Bt]?
theorem open1_in (n : Nat) (hn : 3 ≤ n) (l gd Bd Bt : Nat) (v0 v2 v3 v4 v5 : Value) (A1 : Option Addr) (c1 : Nat) (es : List S44) (d th : Int) (w : World) (hr : Kd.C k44 w A1 es.length es) (h12 : es.length ≤ 60) (J Jx : List Nat → World → Prop)
  (hJ : ∀ pre W W', J pre W → Below W.heap.size W W' → J pre W')
  (hY : ∀ pre k W, k < es.length → J pre W → pre.length < es.length → YieldAt Fence.wide (n - 1) Try.prog l #[.int .i64 (k : Int), .agg #[.int .i64 (qav es k).f0, .int .i64 (qav es k).f1, .int .i64 (qav es k).f2, .int .i64 (qav es k).f3]] W fun e W' =>
   (e = .returned (.bool true) ∧ J (pre ++ [k]) W' ∧ OKp w.heap.size gd Bd Bt W W') ∨ (e = .returned (.bool false) ∧ Jx (pre ++ [k]) W'))
  (W : World) (hB : Below w.heap.size w W) (hp : W.heap[Bd]? = some (.cells #[.pointer (some ⟨gd, 0, none⟩)] 84 (0, 0))) (ht : W.heap[Bt]? = some (.cells #[.int .i64 th] 3 (0, 0)))
  (hd : W.heap[gd]? = some (.cells #[v0, .slice A1 es.length c1, v2, v3, v4, v5, .int .i64 d] 123 (0, 0))) (h0 : J [] W) :
  CallsIn Fence.wide n Try.prog 107 #[.func (.yield l) #[] #[], .pointer (some ⟨Bd, 0, none⟩), .pointer (some ⟨Bt, 0, none⟩)] W fun e W' => (∃ v, e = .returned v) ∧
   ((∃ ys, ys = openL d es th es.length ∧ J ys W') ∨ (∃ pre, pre <+: openL d es th es.length ∧ Jx pre W')) := by
 have hu123 := Try.underlying123
 have hu27 := Try.underlying27
 have hu44 := Try.underlying44
 have hm := Kd.C_max hr
 have HR := qab.mk hr
 have HY := qab.mk hY
 have HJJ := qab.mk hJ
 clear hr hY hJ
 have HB := qab.mk hB
 have BKd := qab.mk hd
 have BKp := qab.mk hp
 have BKt := qab.mk ht
 have q0 : W.cell? ⟨Bd, 0, none⟩ = some (.pointer (some ⟨gd, 0, none⟩)) := (qaa hp 0).trans rfl
 have q1 : W.cell? ⟨gd, 1, none⟩ = some (.slice A1 es.length c1) := (qaa hd 1).trans rfl
 clear hB hd hp ht
 refine callsIn_of_wp Try.func107 rfl trivial ?_ rfl
 simp only [Try.ntmps107, List.size_toArray, List.length_cons, List.length_nil, Nat.reduceAdd, Nat.reduceSub, Array.replicate_succ, Array.replicate_zero, List.push_toArray, List.append_toArray, List.nil_append, List.cons_append]
 gi_wp2
 gi_loopw [12] (fun s wr => ∃ (k : Nat), k ≤ es.length ∧ s = .int .i64 k ∧ qab (Below w.heap.size w wr) ∧ qab (wr.heap[Bd]? = some (.cells #[.pointer (some ⟨gd, 0, none⟩)] 84 (0, 0))) ∧ qab (wr.heap[Bt]? = some (.cells #[.int .i64 th] 3 (0, 0))) ∧ qab (wr.heap[gd]? = some (.cells #[v0, .slice A1 es.length c1, v2, v3, v4, v5, .int .i64 d] 123 (0, 0))) ∧ qab (J (openL d es th k) wr))
  (fun s _ => es.length - (intOf s).toNat)
 case atStart => exact ⟨0, by omega, rfl, HB, BKp, BKt, BKd, ⟨h0⟩⟩
 case round =>
  clear HB BKp BKt BKd q0 q1 h0
  obtain ⟨k, hk, rfl, HB, BKp, BKt, BKd, HJ⟩ := hrel
  by_cases hlt : k < es.length
  ·
   obtain ⟨ad, e, q0, q1, q2, q3⟩ := at_T44 HR.out k (by omega) (by omega)
   cases e
   replace q0 := (HB.out.cell (World.block_lt_of_cell? w _ q0)).trans q0; replace q1 := (HB.out.cell (World.block_lt_of_cell? w _ q1)).trans q1; replace q2 := (HB.out.cell (World.block_lt_of_cell? w _ q2)).trans q2; replace q3 := (HB.out.cell (World.block_lt_of_cell? w _ q3)).trans q3
   simp only [Int.toNat_natCast] at q0 q1 q2 q3
   obtain ⟨x, hx⟩ : ∃ x, x = qav es k := ⟨_, rfl⟩
   rw [← hx] at q0 q1 q2 q3
   have HX := qab.mk hx
   clear hx
   have a_p : (wr.alloc (.cells #[.int .i64 x.f0, .int .i64 x.f1, .int .i64 x.f2, .int .i64 x.f3] 44)).cell? ⟨Bd, 0, none⟩ = some (.pointer (some ⟨gd, 0, none⟩)) := (qaa (qan BKp.out _) 0).trans rfl
   cases hb1 : dykeV d k with
   | true =>
    have HOB : qab (openB d es th k = false) := ⟨by unfold openB; rw [hb1]; rfl⟩
    have HB1 := qab.mk hb1
    clear hb1
    gi_wp2
    refine ⟨trivial, fun _ => by omega, ?_⟩; have hbk := blk_new wr ((.cells #[.int .i64 x.f0, .int .i64 x.f1, .int .i64 x.f2, .int .i64 x.f3] 44)); have hb : Below wr.heap.size wr (wr.alloc ((.cells #[.int .i64 x.f0, .int .i64 x.f1, .int .i64 x.f2, .int .i64 x.f3] 44))) := (Below.refl _ _).alloc (Nat.le_refl _) _; have hbA := hb; generalize hw_ : (wr.alloc ((.cells #[.int .i64 x.f0, .int .i64 x.f1, .int .i64 x.f2, .int .i64 x.f3] 44))) = w5 at hbk hb hbA ⊢; clear hw_; replace BKp := qab.mk (qad BKp.out hb); replace BKt := qab.mk (qad BKt.out hb); replace BKd := qab.mk (qad BKd.out hb); have GEge : w.heap.size ≤ wr.heap.size := HB.out.size; replace HB := qab.mk (qae HB.out hb); clear hb; generalize hg_ : wr.heap.size = ge at hbk GEge ⊢; clear hg_; have BKge := qab.mk hbk; clear hbk; obtain ⟨hfge, hcge_0, hcge_1, hcge_2, hcge_3⟩ := qz4 BKge.out; have HW5 := qab.mk hbA; clear hbA; refine (callsIn_wide.2 (dyke_calls gd _ _ _ _ _ _ d (k : Int) w5 BKd.out (by omega) (by omega))).mono ?_; rw [HB1.out]; rintro e wn ⟨rfl, hb⟩; replace HW5 := qab.mk (qae HW5.out hb); replace BKp := qab.mk (qad BKp.out hb); replace BKt := qab.mk (qad BKt.out hb); replace BKd := qab.mk (qad BKd.out hb); replace BKge := qab.mk (qad BKge.out hb); replace HB := qab.mk (qae HB.out hb); clear hb; have f_p : wn.cell? ⟨Bd, 0, none⟩ = some (.pointer (some ⟨gd, 0, none⟩)) := (qaa BKp.out 0).trans rfl; have f_t : wn.cell? ⟨Bt, 0, none⟩ = some (.int .i64 th) := (qaa BKt.out 0).trans rfl; obtain ⟨hfge, hcge_0, hcge_1, hcge_2, hcge_3⟩ := qz4 BKge.out
    gi_wp2
    refine ⟨fun _ h => (by cases h), ?_⟩
    gi_wp2
    go_roundw
    case rel => exact ⟨k + 1, by omega, by go_num, HB, BKp, BKt, BKd, ⟨by rw [openL_no k HOB.out]; exact HJJ.out _ _ _ HJ.out HW5.out⟩⟩
    case measure => simp [intOf]; omega
   | false =>
    have HB1 := qab.mk hb1
    by_cases hth : th ≥ x.f2
    ·
     have HOB : qab (openB d es th k = true) := ⟨by unfold openB; rw [hb1, ← HX.out, decide_eq_true hth]; rfl⟩
     have hd2 : decide (x.f2 ≤ th) = true := decide_eq_true hth
     clear hb1 hth
     gi_wp2
     refine ⟨trivial, fun _ => by omega, ?_⟩; have hbk := blk_new wr ((.cells #[.int .i64 x.f0, .int .i64 x.f1, .int .i64 x.f2, .int .i64 x.f3] 44)); have hb : Below wr.heap.size wr (wr.alloc ((.cells #[.int .i64 x.f0, .int .i64 x.f1, .int .i64 x.f2, .int .i64 x.f3] 44))) := (Below.refl _ _).alloc (Nat.le_refl _) _; have hbA := hb; generalize hw_ : (wr.alloc ((.cells #[.int .i64 x.f0, .int .i64 x.f1, .int .i64 x.f2, .int .i64 x.f3] 44))) = w5 at hbk hb hbA ⊢; clear hw_; replace BKp := qab.mk (qad BKp.out hb); replace BKt := qab.mk (qad BKt.out hb); replace BKd := qab.mk (qad BKd.out hb); have GEge : w.heap.size ≤ wr.heap.size := HB.out.size; replace HB := qab.mk (qae HB.out hb); clear hb; generalize hg_ : wr.heap.size = ge at hbk GEge ⊢; clear hg_; have BKge := qab.mk hbk; clear hbk; obtain ⟨hfge, hcge_0, hcge_1, hcge_2, hcge_3⟩ := qz4 BKge.out; have HW5 := qab.mk hbA; clear hbA; refine (callsIn_wide.2 (dyke_calls gd _ _ _ _ _ _ d (k : Int) w5 BKd.out (by omega) (by omega))).mono ?_; rw [HB1.out]; rintro e wn ⟨rfl, hb⟩; replace HW5 := qab.mk (qae HW5.out hb); replace BKp := qab.mk (qad BKp.out hb); replace BKt := qab.mk (qad BKt.out hb); replace BKd := qab.mk (qad BKd.out hb); replace BKge := qab.mk (qad BKge.out hb); replace HB := qab.mk (qae HB.out hb); clear hb; have f_p : wn.cell? ⟨Bd, 0, none⟩ = some (.pointer (some ⟨gd, 0, none⟩)) := (qaa BKp.out 0).trans rfl; have f_t : wn.cell? ⟨Bt, 0, none⟩ = some (.int .i64 th) := (qaa BKt.out 0).trans rfl; obtain ⟨hfge, hcge_0, hcge_1, hcge_2, hcge_3⟩ := qz4 BKge.out
     have hx := HX.out
     have hlen := openL_len d es th k
     obtain ⟨fn, tmps, assign, body, hy, hR⟩ := HY.out (openL d es th k) k wn hlt (HJJ.out _ _ _ HJ.out HW5.out) (by omega)
     rw [← hx] at hy
     clear hx
     gi_wp2
     refine ⟨fun _ => by omega, ?_⟩
     refine hR.mono ?_
     clear hR
     rintro e W3 (⟨rfl, hJ3, hk3⟩ | ⟨rfl, hJx3⟩)
     ·
      have HJ3 := qab.mk hJ3
      have HB3 := qab.mk (HB.out.trans hk3.b)
      have BKp3 := qab.mk (Eq.trans hk3.p BKp.out)
      have BKt3 := qab.mk (Eq.trans hk3.t BKt.out)
      have BKd3 := qab.mk (Eq.trans hk3.d BKd.out)
      clear hJ3 hk3
      gi_wp2
      go_roundw
      case rel => exact ⟨k + 1, by omega, by go_num, HB3, BKp3, BKt3, BKd3, ⟨by rw [openL_yes k HOB.out]; exact HJ3.out⟩⟩
      case measure => simp [intOf]; omega
     ·
      have HJ3 := qab.mk hJx3
      clear hJx3
      gi_wp2
      refine bodyPost_ret (results_none rfl _ _ _) rfl ?_
      exact ⟨⟨_, rfl⟩, .inr ⟨openL d es th k ++ [k], by rw [← openL_yes k HOB.out]; exact openL_pre d es th (k + 1) es.length (by omega), HJ3.out⟩⟩
    ·
     have HOB : qab (openB d es th k = false) := ⟨by unfold openB; rw [hb1, ← HX.out, decide_eq_false hth]; rfl⟩
     have hd2 : decide (x.f2 ≤ th) = false := decide_eq_false hth
     clear hb1 hth
     gi_wp2
     refine ⟨trivial, fun _ => by omega, ?_⟩; have hbk := blk_new wr ((.cells #[.int .i64 x.f0, .int .i64 x.f1, .int .i64 x.f2, .int .i64 x.f3] 44)); have hb : Below wr.heap.size wr (wr.alloc ((.cells #[.int .i64 x.f0, .int .i64 x.f1, .int .i64 x.f2, .int .i64 x.f3] 44))) := (Below.refl _ _).alloc (Nat.le_refl _) _; have hbA := hb; generalize hw_ : (wr.alloc ((.cells #[.int .i64 x.f0, .int .i64 x.f1, .int .i64 x.f2, .int .i64 x.f3] 44))) = w5 at hbk hb hbA ⊢; clear hw_; replace BKp := qab.mk (qad BKp.out hb); replace BKt := qab.mk (qad BKt.out hb); replace BKd := qab.mk (qad BKd.out hb); have GEge : w.heap.size ≤ wr.heap.size := HB.out.size; replace HB := qab.mk (qae HB.out hb); clear hb; generalize hg_ : wr.heap.size = ge at hbk GEge ⊢; clear hg_; have BKge := qab.mk hbk; clear hbk; obtain ⟨hfge, hcge_0, hcge_1, hcge_2, hcge_3⟩ := qz4 BKge.out; have HW5 := qab.mk hbA; clear hbA; refine (callsIn_wide.2 (dyke_calls gd _ _ _ _ _ _ d (k : Int) w5 BKd.out (by omega) (by omega))).mono ?_; rw [HB1.out]; rintro e wn ⟨rfl, hb⟩; replace HW5 := qab.mk (qae HW5.out hb); replace BKp := qab.mk (qad BKp.out hb); replace BKt := qab.mk (qad BKt.out hb); replace BKd := qab.mk (qad BKd.out hb); replace BKge := qab.mk (qad BKge.out hb); replace HB := qab.mk (qae HB.out hb); clear hb; have f_p : wn.cell? ⟨Bd, 0, none⟩ = some (.pointer (some ⟨gd, 0, none⟩)) := (qaa BKp.out 0).trans rfl; have f_t : wn.cell? ⟨Bt, 0, none⟩ = some (.int .i64 th) := (qaa BKt.out 0).trans rfl; obtain ⟨hfge, hcge_0, hcge_1, hcge_2, hcge_3⟩ := qz4 BKge.out
     gi_wp2
     refine ⟨fun _ h => (by cases h), ?_⟩
     gi_wp2
     go_roundw
     case rel => exact ⟨k + 1, by omega, by go_num, HB, BKp, BKt, BKd, ⟨by rw [openL_no k HOB.out]; exact HJJ.out _ _ _ HJ.out HW5.out⟩⟩
     case measure => simp [intOf]; omega
  ·
   obtain rfl : k = es.length := by omega
   gi_wp2
   go_end0
   exact ⟨⟨_, rfl⟩, .inl ⟨_, rfl, HJ.out⟩⟩
end Go.Proofs.Ytafkanmioinbiaa.SA
namespace Go.Proofs.Ytafkanmioinbiaa.SA
open Go.RowKit Go.Proofs.YtafkanmioinbiaaW.PrintWords Go.Proofs.YtafkanmioinbiaaW.PrintLast Go.Proofs.YtafkanmioinbiaaW.PrintMore
attribute [local go_sem] qax qaz max_two min_two qao qap qay qba
def seedS (y : Int) (ws : List Int) (s : List Int × List Int) (p : Nat) : List Int × List Int :=
 if s.1.getD p 0 < y ∨ ws.contains (p : Int) = true then (s.1.set p (min (s.1.getD p 0) y), s.2 ++ [(p : Int)]) else s
def seedTo (y : Int) (ws : List Int) (o : List Int) (k : Nat) : List Int × List Int := (List.range k).foldl (seedS y ws) (o, [])
def relS (es : List S44) (y p : Int) (s : List Int × List Int) (k : Nat) : List Int × List Int :=
 if (qav es k).f0 = p ∧ rd s.1 (qav es k).f1 > y then (s.1.set (qav es k).f1.toNat y, s.2 ++ [(qav es k).f1]) else s
def relV (es : List S44) (y p : Int) (ks : List Nat) (s : List Int × List Int) : List Int × List Int := ks.foldl (relS es y p) s
def bfsV (es : List S44) (ks : List Nat) (y : Int) : Nat → List Int → List Int → List Int
 | 0, o, _ => o
 | _ + 1, o, [] => o
 | n + 1, o, p :: q => bfsV es ks y n (relV es y p ks (o, q)).1 (relV es y p ks (o, q)).2
def cntN (y : Int) (o : List Int) : Nat := (o.filter fun x => decide (x > y)).length
def yearV (es : List S44) (ws : List Int) (d : Int) (th y : Int) (o : List Int) : List Int :=
 bfsV es (openL d es th es.length) y (cntN y (seedTo y ws o o.length).1 + (seedTo y ws o o.length).2.length + 1) (seedTo y ws o o.length).1 (seedTo y ws o o.length).2
def foulTo (p : Nat) (es : List S44) (ws : List Int) (d : Int) (ths : List Int) : Nat → List Int
 | 0 => List.replicate p (ths.length : Int)
 | k + 1 => yearV es ws d (rd ths k) k (foulTo p es ws d ths k)
def foulV (p : Nat) (es : List S44) (ws : List Int) (d : Int) (ths : List Int) : List Int := foulTo p es ws d ths ths.length
theorem seedTo_succ (y : Int) (ws : List Int) (o : List Int) (k : Nat) : seedTo y ws o (k + 1) = seedS y ws (seedTo y ws o k) k := by
 unfold seedTo
 rw [List.range_succ, List.foldl_append]
 rfl
theorem seedS_length (y : Int) (ws : List Int) (s : List Int × List Int) (p : Nat) : (seedS y ws s p).1.length = s.1.length := by
 unfold seedS
 split <;> simp
theorem seedTo_length (y : Int) (ws : List Int) (o : List Int) (k : Nat) : (seedTo y ws o k).1.length = o.length := by
 induction k with
 | zero => rfl
 | succ k ih => rw [seedTo_succ, seedS_length, ih]
theorem relS_length (es : List S44) (y p : Int) (s : List Int × List Int) (k : Nat) : (relS es y p s k).1.length = s.1.length := by
 unfold relS
 split <;> simp
theorem relV_length (es : List S44) (y p : Int) (ks : List Nat) : ∀ s : List Int × List Int, (relV es y p ks s).1.length = s.1.length := by
 induction ks with
 | nil => intro s; rfl
 | cons k t ih => intro s; unfold relV; rw [List.foldl_cons]; exact (ih _).trans (relS_length es y p s k)
theorem cntN_set (y : Int) : ∀ (o : List Int) (i : Nat) (_ : i < o.length), o.getD i 0 > y → cntN y (o.set i y) + 1 = cntN y o
 | [], i, h, _ => by simp at h
 | x :: t, 0, _, h => by
  have h' : x > y := h
  unfold cntN
  simp [h']
 | x :: t, i + 1, hi, h => by
  have ih := cntN_set y t i (by simpa using hi) (by simpa using h)
  unfold cntN at ih ⊢
  rw [List.set_cons_succ, List.filter_cons, List.filter_cons]
  split <;> simp at ih ⊢ <;> omega
theorem relS_meas (es : List S44) (y p : Int) (s : List Int × List Int) (k : Nat) (h0 : 0 ≤ (qav es k).f1) (h1 : (qav es k).f1 < s.1.length) : cntN y (relS es y p s k).1 + (relS es y p s k).2.length = cntN y s.1 + s.2.length := by
 unfold relS
 split
 ·
  rename_i h
  have h2 : rd s.1 (qav es k).f1 = s.1.getD (qav es k).f1.toNat 0 := rfl
  rw [h2] at h
  have := cntN_set y s.1 (qav es k).f1.toNat (by omega) h.2
  simp only [List.length_append, List.length_singleton]
  omega
 ·
  rfl
theorem relV_meas (es : List S44) (y p : Int) : ∀ (ks : List Nat) (s : List Int × List Int), (∀ k ∈ ks, 0 ≤ (qav es k).f1 ∧ (qav es k).f1 < s.1.length) → cntN y (relV es y p ks s).1 + (relV es y p ks s).2.length = cntN y s.1 + s.2.length
 | [], _, _ => rfl
 | k :: t, s, h => by
  unfold relV
  rw [List.foldl_cons]
  have h1 := relV_meas es y p t (relS es y p s k) (fun j hj => by rw [relS_length]; exact h j (by simp [hj]))
  unfold relV at h1
  rw [h1]
  exact relS_meas es y p s k (h k (by simp)).1 (h k (by simp)).2
theorem relV_snoc (es : List S44) (y p : Int) (ks : List Nat) (k : Nat) (s : List Int × List Int) : relV es y p (ks ++ [k]) s = relS es y p (relV es y p ks s) k := by
 unfold relV
 rw [List.foldl_append]
 rfl
theorem relS_in (es : List S44) (y p : Int) (s : List Int × List Int) (k : Nat) (n : Nat) (h : ∀ x ∈ s.2, 0 ≤ x ∧ x < (n : Int)) (h0 : 0 ≤ (qav es k).f1 ∧ (qav es k).f1 < (n : Int)) : ∀ x ∈ (relS es y p s k).2, 0 ≤ x ∧ x < (n : Int) := by
 unfold relS
 split
 ·
  intro x hx
  rw [List.mem_append, List.mem_singleton] at hx
  rcases hx with hx | rfl
  ·
   exact h x hx
  ·
   exact h0
 ·
  exact h
theorem seedTo_in (y : Int) (ws : List Int) (o : List Int) : ∀ k, ∀ x ∈ (seedTo y ws o k).2, 0 ≤ x ∧ x < (k : Int)
 | 0 => by intro x hx; simp [seedTo] at hx
 | k + 1 => by
  intro x hx
  rw [seedTo_succ] at hx
  unfold seedS at hx
  split at hx
  ·
   rw [List.mem_append, List.mem_singleton] at hx
   rcases hx with hx | rfl
   ·
    have := seedTo_in y ws o k x hx
    omega
   ·
    omega
  ·
   have := seedTo_in y ws o k x hx
   omega
theorem seedTo_len (y : Int) (ws : List Int) (o : List Int) : ∀ k, (seedTo y ws o k).2.length ≤ k
 | 0 => by simp [seedTo]
 | k + 1 => by
  have := seedTo_len y ws o k
  rw [seedTo_succ]
  unfold seedS
  split
  ·
   simp; omega
  ·
   omega
def fillTo (P : Nat) (N : Int) (k : Nat) : List Int := List.replicate k N ++ List.replicate (P - k) 0
theorem fillTo_zero (P : Nat) (N : Int) : fillTo P N 0 = List.replicate P 0 := by simp [fillTo]
theorem fillTo_all (P : Nat) (N : Int) : fillTo P N P = List.replicate P N := by simp [fillTo]
theorem fillTo_succ (P : Nat) (N : Int) (k : Nat) (hk : k < P) : (fillTo P N k).set k N = fillTo P N (k + 1) := by
 unfold fillTo
 refine List.ext_getElem (by simp; omega) fun i h1 h2 => ?_
 rw [List.getElem_set]
 simp only [List.getElem_append, List.getElem_replicate, List.length_replicate]
 by_cases h : k = i
 ·
  subst h
  simp
 ·
  rw [if_neg h]
  split <;> split <;> first | rfl | omega
theorem bfsV_length (es : List S44) (ks : List Nat) (y : Int) : ∀ (n : Nat) (o q : List Int), (bfsV es ks y n o q).length = o.length
 | 0, _, _ => rfl
 | _ + 1, _, [] => rfl
 | n + 1, o, p :: q => by
  show (bfsV es ks y n _ _).length = _
  rw [bfsV_length es ks y n]
  exact relV_length es y p ks (o, q)
theorem foulTo_length (P : Nat) (es : List S44) (ws : List Int) (d : Int) (ths : List Int) : ∀ k, (foulTo P es ws d ths k).length = P
 | 0 => by simp [foulTo]
 | k + 1 => by
  show (yearV _ _ _ _ _ _).length = _
  unfold yearV
  rw [bfsV_length, seedTo_length]
  exact foulTo_length P es ws d ths k
end Go.Proofs.Ytafkanmioinbiaa.SA
