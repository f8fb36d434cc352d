/- What functions of the program answer. No condition. -/
import Derived.Test.YtafkanmioinbiaaSC
import Derived.Test.YtafkanmioinbiaaSD
import Derived.Test.YtafkanmioinbiaaSK
import Derived.Test.YtafkanmioinbiaaSE
import Derived.Test.YtafkanmioinbiaaSF
import Derived.Test.YtafkanmioinbiaaSG
import Derived.Test.YtafkanmioinbiaaSJ
import Derived.Test.YtafkanmioinbiaaSI
set_option linter.all false
set_option maxRecDepth 100000
set_option maxHeartbeats 8000000
namespace Go.Proofs.Ytafkanmioinbiaa.SA
open Go.RowKit Go.Proofs.YtafkanmioinbiaaW.PrintWords Go.Proofs.YtafkanmioinbiaaW.PrintLast Go.Proofs.YtafkanmioinbiaaW.PrintMore
attribute [local go_sem] qax qaz max_two min_two qao qap qay qba
attribute [local go_sem] Oper.semAt_some
def rdC (xs : List (Int × List Int)) (i : Int) : Int × List Int := xs.getD i.toNat (0, [])
theorem at_RC {W : World} {B n c : Nat} {ok : Nat → Prop} {A : Option Addr} {xs : List (Int × List Int)} (h : Kd.R kCh 104 W B ok (.slice A n c) xs) (i : Int) (h0 : 0 ≤ i) (h1 : i < n) :
  ∃ ad, A = some ad ∧ W.cell? (ad.add (i.toNat * 2)) = some (.int .i64 (rdC xs i).1) ∧ ∃ Ax cx, W.cell? ⟨(ad.add (i.toNat * 2)).block, (ad.add (i.toNat * 2)).off + 1, none⟩ = some (.slice Ax (rdC xs i).2.length cx) ∧ Kd.R (Kd.int .i64) 3 W B (fun _ => True) (.slice Ax (rdC xs i).2.length cx) (rdC xs i).2 := by
 have hx : 0 < xs.length := by have := (Kd.R_reads' h).1; omega
 obtain ⟨ad, c', e⟩ := Kd.R_slice1 h hx
 injection e with e1 e2 e3
 subst e1
 subst e2
 subst e3
 obtain ⟨cs, hl, ⟨c0, c1, rfl, hM0, v, rfl, hR⟩, hc⟩ := Kd.R_get h (0, []) i h0 h1
 have h00 : c0 = [.int .i64 (rdC xs i).1] := hM0
 subst h00
 obtain ⟨Ax, cx, e⟩ := Kd.R_slice hR
 subst e
 refine ⟨ad, rfl, hc 0 _ rfl, Ax, cx, ?_, Kd.R_mono hR (fun _ _ => trivial)⟩
 rw [← add_field _ _ 1 (by omega)]
 exact hc 1 _ rfl
theorem before_calls (x y : Int × List Int) (Ax Ay : Option Addr) (cx cy : Nat) (W : World) (hx : Kd.C (Kd.int .i64) W Ax x.2.length x.2) (hcx : x.2.length ≤ cx) (hy : Kd.C (Kd.int .i64) W Ay y.2.length y.2) (hcy : y.2.length ≤ cy) (hl : x.2.length ≤ 1000) :
  Calls Try.prog 71 #[.agg #[.int .i64 x.1, .slice Ax x.2.length cx], .agg #[.int .i64 y.1, .slice Ay y.2.length cy]] W fun e w' => e = .returned (.bool (beforeB x y)) ∧ Below W.heap.size W w' :=
 seep_before.calls _ _ _ _ x.2 _ _ _ y.2 _ W hx hcx hy hcy (before_some x y hl)
theorem best_calls (p0 : Value) (B : Nat) (A : Option Addr) (c : Nat) (cs : List (Int × List Int)) (holds : Int × List Int → Bool) (w : World) (hB : B ≤ w.heap.size) (hr : Kd.R kCh 104 w B (fun _ => True) (.slice A cs.length c) cs) (hl : ∀ x ∈ cs, x.2.length ≤ 1000)
  (hq : ∀ (x : Int × List Int) (Ax : Option Addr) (cx : Nat) (W : World), x ∈ cs → Below w.heap.size w W → Kd.C (Kd.int .i64) W Ax x.2.length x.2 → x.2.length ≤ cx → Calls Try.prog 69 #[.agg #[.int .i64 x.1, .slice Ax x.2.length cx], p0] W fun e w' => e = .returned (.bool (holds x)) ∧ Below W.heap.size W w') :
  Calls Try.prog 67 #[.slice A cs.length c, .func (.func 69) #[] #[p0], .func (.func 71) #[] #[]] w fun e w' => ∃ y Ay cy, e = .returned (.tuple #[.agg #[.int .i64 y.1, .slice Ay y.2.length cy], .bool (bestV holds cs).isSome]) ∧ ((bestV holds cs = none ∧ y = (0, [])) ∨ bestV holds cs = some y) ∧ Kd.R (Kd.int .i64) 3 w' B (fun _ => True) (.slice Ay y.2.length cy) y.2 ∧ Below w.heap.size w w' := by
 have hu104 := Try.underlying104
 have hm := (Kd.R_reads' hr).2
 have hcm := Kd.C_max hm.2
 have HR := qab.mk hr
 have HQ := qab.mk hq
 have HL := qab.mk hl
 have HB := qab.mk (Below.refl w.heap.size w)
 clear hm hr hq hl
 go_enter Try.func67, Try.ntmps67
 go_wp2_with (first | ((with_reducible refine qam (N := 6) rfl ?_); refine ze 6 #[.int .i64 0, .slice none 0 0] 104 ?_; intro g6 hg_g6 w2 hbox hb; have BKg6 := qab.mk hbox; have n_HB := qab.mk (qae HB.out hb); have GEg6 : w.heap.size ≤ g6 := (by rw [hg_g6]; exact HB.out.size); clear HB; have HB := n_HB; clear n_HB; obtain ⟨hfg6, hcg6_0, hcg6_1⟩ := qz2 BKg6.out; clear hbox hb hg_g6) | ((with_reducible refine qam (N := 8) rfl ?_); refine ze 8 #[.int .i64 0, .slice none 0 0] 104 ?_; intro g8 hg_g8 w3 hbox hb; have BKg8 := qab.mk hbox; have ne_g6_g8 : g6 ≠ g8 := (by rw [hg_g8]; exact Nat.ne_of_lt (blk_lt BKg6.out)); replace BKg6 := qab.mk (qad BKg6.out hb); have n_HB := qab.mk (qae HB.out hb); have GEg8 : w.heap.size ≤ g8 := (by rw [hg_g8]; exact HB.out.size); clear HB; have HB := n_HB; clear n_HB; obtain ⟨hfg8, hcg8_0, hcg8_1⟩ := qz2 BKg8.out; clear hbox hb hg_g8))
 have NE68 := qab.mk ne_g6_g8
 clear ne_g6_g8
 go_loopw [9, 14] (fun s9 s14 wr => ∃ (k : Nat) (o : Option (Int × List Int)) (y : Int × List Int) (Ay : Option Addr) (cy : Nat), k ≤ cs.length ∧ s14 = .int .i64 k ∧ s9 = .bool o.isSome ∧ qab (o = (cs.take k).foldl (bestS holds) none) ∧ qab ((o = none ∧ y = (0, [])) ∨ o = some y) ∧ qab (Kd.R (Kd.int .i64) 3 w B (fun _ => True) (.slice Ay y.2.length cy) y.2) ∧ qab (wr.heap[g8]? = some (.cells #[.int .i64 y.1, .slice Ay y.2.length cy] 104 (0, 0))) ∧ qab (wr.heap[g6]? = some (.cells #[.int .i64 0, .slice none 0 0] 104 (0, 0))) ∧ qab (Below w.heap.size w wr)) (fun _ s _ => cs.length - (intOf s).toNat)
 case atStart => exact ⟨0, none, (0, []), none, 0, by omega, rfl, rfl, ⟨rfl⟩, ⟨.inl ⟨rfl, rfl⟩⟩, ⟨Kd.R_nil _ _ _ _ _⟩, BKg8, BKg6, HB⟩
 case round =>
  clear BKg8 BKg6 HB hfg6 hcg6_0 hcg6_1 hfg8 hcg8_0 hcg8_1
  obtain ⟨k, o, y, Ay, cy, hk, rfl, rfl, HO, HOY, HRY, BKg8, BKg6, HB⟩ := hrel
  by_cases hlt : k < cs.length
  ·
   obtain ⟨ad, e, q0, Ax, cx, q1, hrx⟩ := at_RC HR.out k (by omega) (by omega)
   subst e
   replace q0 := (HB.out.cell (World.block_lt_of_cell? w _ q0)).trans q0; replace q1 := (HB.out.cell (World.block_lt_of_cell? w _ q1)).trans q1
   simp only [Int.toNat_natCast] at q0 q1
   have hxm : rdC cs k ∈ cs := by simp [rdC, hlt]
   have hst : (cs.take (k + 1)).foldl (bestS holds) none = bestS holds o (rdC cs k) := by
    rw [List.take_succ, List.getElem?_eq_getElem hlt, List.foldl_append, ← HO.out]
    simp [rdC, hlt]
   obtain ⟨x, hx⟩ : ∃ x, x = rdC cs k := ⟨_, rfl⟩
   rw [← hx] at q0 q1 hrx hxm hst
   clear hx
   have HST := qab.mk hst
   have HRX := qab.mk hrx
   have hcx := (Kd.R_reads' hrx).2
   obtain ⟨hh, h_h⟩ : ∃ b, b = holds x := ⟨_, rfl⟩
   have HHOLD : qab (∀ W, Below w.heap.size w W → Calls Try.prog 69 #[.agg #[.int .i64 x.1, .slice Ax x.2.length cx], p0] W fun e w' => e = .returned (.bool hh) ∧ Below W.heap.size W w') := ⟨fun W hW => by rw [h_h]; exact HQ.out x Ax cx W hxm hW (Kd.qai hcx.2 hW) hcx.1⟩
   replace h_h := h_h.symm
   have H_h := qab.mk h_h
   obtain ⟨hv, h_b⟩ : ∃ b, b = beforeB x y := ⟨_, rfl⟩
   have HBEF : qab (∀ W, Below w.heap.size w W → Calls Try.prog 71 #[.agg #[.int .i64 x.1, .slice Ax x.2.length cx], .agg #[.int .i64 y.1, .slice Ay y.2.length cy]] W fun e w' => e = .returned (.bool hv) ∧ Below W.heap.size W w') := ⟨fun W hW => by rw [h_b]; exact before_calls x y Ax Ay cx cy W (Kd.qai hcx.2 hW) hcx.1 (Kd.qai (Kd.R_reads' HRY.out).2.2 hW) (Kd.R_reads' HRY.out).2.1 (HL.out x hxm)⟩
   replace h_b := h_b.symm
   have H_b := qab.mk h_b
   clear hrx hcx hst hxm h_h h_b
   go_upto_region 6 with ((with_reducible refine qam (N := 11) rfl ?_); refine ze 11 #[.int .i64 0, .slice none 0 0] 104 ?_; intro gx hg_gx w4 hbox hb; have BKgx := qab.mk hbox; have ne_g8_gx : g8 ≠ gx := (by rw [hg_gx]; exact Nat.ne_of_lt (blk_lt BKg8.out)); have ne_g6_gx : g6 ≠ gx := (by rw [hg_gx]; exact Nat.ne_of_lt (blk_lt BKg6.out)); replace BKg8 := qab.mk (qad BKg8.out hb); replace BKg6 := qab.mk (qad BKg6.out hb); have n_HB := qab.mk (qae HB.out hb); have GEgx : w.heap.size ≤ gx := (by rw [hg_gx]; exact HB.out.size); clear HB; have HB := n_HB; clear n_HB; obtain ⟨hfgx, hcgx_0, hcgx_1⟩ := qz2 BKgx.out; clear hbox hb hg_gx)
   clear q0 q1 hfgx hcgx_0 hcgx_1
   have he_ : setAll w4 gx [.int .i64 x.1, .slice Ax x.2.length cx] 0 = ((w4.setCell ⟨gx, 0, none⟩ (.int .i64 x.1)).setCell ⟨gx, 1, none⟩ (.slice Ax x.2.length cx)) := rfl; have hbl := setAll_below GEgx [.int .i64 x.1, .slice Ax x.2.length cx] 0 _ HB.out; have hbx : (setAll w4 gx [.int .i64 x.1, .slice Ax x.2.length cx] 0).heap[gx]? = some (.cells #[.int .i64 x.1, .slice Ax x.2.length cx] 104 (0, 0)) := setAll_new [.int .i64 x.1, .slice Ax x.2.length cx] [.int .i64 0, .slice none 0 0] BKgx.out rfl; have hx_BKg8 := setAll_far ne_g8_gx [.int .i64 x.1, .slice Ax x.2.length cx] 0 _ BKg8.out; have hx_BKg6 := setAll_far ne_g6_gx [.int .i64 x.1, .slice Ax x.2.length cx] 0 _ BKg6.out; rw [he_] at hbl hbx hx_BKg8 hx_BKg6; clear he_; generalize ((w4.setCell ⟨gx, 0, none⟩ (.int .i64 x.1)).setCell ⟨gx, 1, none⟩ (.slice Ax x.2.length cx)) = w5 at hbl hbx hx_BKg8 hx_BKg6 ⊢; clear HB BKgx; have HB := qab.mk hbl; have BKgx := qab.mk hbx; clear hbl hbx; clear BKg8; have BKg8 := qab.mk hx_BKg8; clear hx_BKg8; clear BKg6; have BKg6 := qab.mk hx_BKg6; clear hx_BKg6
   obtain ⟨hfgx, hcgx_0, hcgx_1⟩ := qz2 BKgx.out; obtain ⟨hfg8, hcg8_0, hcg8_1⟩ := qz2 BKg8.out
   cases o with
   | none =>
    cases hh with
    | false =>
     go_wp2_with (first | (go_at_call 69; (with_reducible refine (HHOLD.out _ HB.out).mono ?_); rintro e wh ⟨rfl, hb⟩; replace BKgx := qab.mk (qad BKgx.out hb); replace BKg8 := qab.mk (qad BKg8.out hb); replace BKg6 := qab.mk (qad BKg6.out hb); replace HB := qab.mk (qae HB.out hb); clear hb; obtain ⟨hfgx, hcgx_0, hcgx_1⟩ := qz2 BKgx.out; obtain ⟨hfg8, hcg8_0, hcg8_1⟩ := qz2 BKg8.out) | (go_at_call 71; (with_reducible refine (HBEF.out _ HB.out).mono ?_); rintro e wv ⟨rfl, hb⟩; replace BKgx := qab.mk (qad BKgx.out hb); replace BKg8 := qab.mk (qad BKg8.out hb); replace BKg6 := qab.mk (qad BKg6.out hb); replace HB := qab.mk (qae HB.out hb); clear hb; obtain ⟨hfgx, hcgx_0, hcgx_1⟩ := qz2 BKgx.out; obtain ⟨hfg8, hcg8_0, hcg8_1⟩ := qz2 BKg8.out))
     have HS1 : qab (none = (cs.take (k + 1)).foldl (bestS holds) none) := ⟨by rw [HST.out]; exact (if_neg (by simp [H_h.out])).symm⟩
     go_roundw
     case rel => exact ⟨k + 1, none, y, Ay, cy, by omega, by go_num, rfl, HS1, ⟨by have h := HOY.out; simpa using h⟩, HRY, BKg8, BKg6, HB⟩
     case measure => simp [intOf]; omega
    | true =>
     go_wp2_with (first | (go_at_call 69; (with_reducible refine (HHOLD.out _ HB.out).mono ?_); rintro e wh ⟨rfl, hb⟩; replace BKgx := qab.mk (qad BKgx.out hb); replace BKg8 := qab.mk (qad BKg8.out hb); replace BKg6 := qab.mk (qad BKg6.out hb); replace HB := qab.mk (qae HB.out hb); clear hb; obtain ⟨hfgx, hcgx_0, hcgx_1⟩ := qz2 BKgx.out; obtain ⟨hfg8, hcg8_0, hcg8_1⟩ := qz2 BKg8.out) | (go_at_call 71; (with_reducible refine (HBEF.out _ HB.out).mono ?_); rintro e wv ⟨rfl, hb⟩; replace BKgx := qab.mk (qad BKgx.out hb); replace BKg8 := qab.mk (qad BKg8.out hb); replace BKg6 := qab.mk (qad BKg6.out hb); replace HB := qab.mk (qae HB.out hb); clear hb; obtain ⟨hfgx, hcgx_0, hcgx_1⟩ := qz2 BKgx.out; obtain ⟨hfg8, hcg8_0, hcg8_1⟩ := qz2 BKg8.out))
     have bk1 := blk_set (blk_set BKg8.out 0 (.int .i64 x.1)) 1 (.slice Ax x.2.length cx)
     have bk6 := blk_far (p := ⟨g8, 1, none⟩) (blk_far (p := ⟨g8, 0, none⟩) BKg6.out NE68.out (.int .i64 x.1)) NE68.out (.slice Ax x.2.length cx)
     have hb1 := qaj (j := 1) (v := .slice Ax x.2.length cx) (qaj (j := 0) (v := .int .i64 x.1) HB.out GEg8) GEg8
     have HS1 : qab (some x = (cs.take (k + 1)).foldl (bestS holds) none) := ⟨by rw [HST.out]; exact (if_pos (by simp [H_h.out])).symm⟩
     have BK1 := qab.mk bk1
     have BK6 := qab.mk bk6
     have HB1 := qab.mk hb1
     clear bk1 bk6 hb1
     go_roundw
     case rel => exact ⟨k + 1, some x, x, Ax, cx, by omega, by go_num, rfl, HS1, ⟨.inr rfl⟩, HRX, BK1, BK6, HB1⟩
     case measure => simp [intOf]; omega
   | some z =>
    have hzy : y = z := by rcases HOY.out with ⟨h, _⟩ | h; cases h; exact (Option.some.inj h).symm
    subst hzy
    cases hv with
    | false =>
     go_wp2_with (first | (go_at_call 69; (with_reducible refine (HHOLD.out _ HB.out).mono ?_); rintro e wh ⟨rfl, hb⟩; replace BKgx := qab.mk (qad BKgx.out hb); replace BKg8 := qab.mk (qad BKg8.out hb); replace BKg6 := qab.mk (qad BKg6.out hb); replace HB := qab.mk (qae HB.out hb); clear hb; obtain ⟨hfgx, hcgx_0, hcgx_1⟩ := qz2 BKgx.out; obtain ⟨hfg8, hcg8_0, hcg8_1⟩ := qz2 BKg8.out) | (go_at_call 71; (with_reducible refine (HBEF.out _ HB.out).mono ?_); rintro e wv ⟨rfl, hb⟩; replace BKgx := qab.mk (qad BKgx.out hb); replace BKg8 := qab.mk (qad BKg8.out hb); replace BKg6 := qab.mk (qad BKg6.out hb); replace HB := qab.mk (qae HB.out hb); clear hb; obtain ⟨hfgx, hcgx_0, hcgx_1⟩ := qz2 BKgx.out; obtain ⟨hfg8, hcg8_0, hcg8_1⟩ := qz2 BKg8.out))
     have HS1 : qab (some y = (cs.take (k + 1)).foldl (bestS holds) none) := ⟨by rw [HST.out]; exact (if_neg (by simp [H_b.out])).symm⟩
     go_roundw
     case rel => exact ⟨k + 1, some y, y, Ay, cy, by omega, by go_num, rfl, HS1, ⟨.inr rfl⟩, HRY, BKg8, BKg6, HB⟩
     case measure => simp [intOf]; omega
    | true =>
     cases hh with
     | false =>
      go_wp2_with (first | (go_at_call 69; (with_reducible refine (HHOLD.out _ HB.out).mono ?_); rintro e wh ⟨rfl, hb⟩; replace BKgx := qab.mk (qad BKgx.out hb); replace BKg8 := qab.mk (qad BKg8.out hb); replace BKg6 := qab.mk (qad BKg6.out hb); replace HB := qab.mk (qae HB.out hb); clear hb; obtain ⟨hfgx, hcgx_0, hcgx_1⟩ := qz2 BKgx.out; obtain ⟨hfg8, hcg8_0, hcg8_1⟩ := qz2 BKg8.out) | (go_at_call 71; (with_reducible refine (HBEF.out _ HB.out).mono ?_); rintro e wv ⟨rfl, hb⟩; replace BKgx := qab.mk (qad BKgx.out hb); replace BKg8 := qab.mk (qad BKg8.out hb); replace BKg6 := qab.mk (qad BKg6.out hb); replace HB := qab.mk (qae HB.out hb); clear hb; obtain ⟨hfgx, hcgx_0, hcgx_1⟩ := qz2 BKgx.out; obtain ⟨hfg8, hcg8_0, hcg8_1⟩ := qz2 BKg8.out))
      have HS1 : qab (some y = (cs.take (k + 1)).foldl (bestS holds) none) := ⟨by rw [HST.out]; exact (if_neg (by simp [H_h.out])).symm⟩
      go_roundw
      case rel => exact ⟨k + 1, some y, y, Ay, cy, by omega, by go_num, rfl, HS1, ⟨.inr rfl⟩, HRY, BKg8, BKg6, HB⟩
      case measure => simp [intOf]; omega
     | true =>
      go_wp2_with (first | (go_at_call 69; (with_reducible refine (HHOLD.out _ HB.out).mono ?_); rintro e wh ⟨rfl, hb⟩; replace BKgx := qab.mk (qad BKgx.out hb); replace BKg8 := qab.mk (qad BKg8.out hb); replace BKg6 := qab.mk (qad BKg6.out hb); replace HB := qab.mk (qae HB.out hb); clear hb; obtain ⟨hfgx, hcgx_0, hcgx_1⟩ := qz2 BKgx.out; obtain ⟨hfg8, hcg8_0, hcg8_1⟩ := qz2 BKg8.out) | (go_at_call 71; (with_reducible refine (HBEF.out _ HB.out).mono ?_); rintro e wv ⟨rfl, hb⟩; replace BKgx := qab.mk (qad BKgx.out hb); replace BKg8 := qab.mk (qad BKg8.out hb); replace BKg6 := qab.mk (qad BKg6.out hb); replace HB := qab.mk (qae HB.out hb); clear hb; obtain ⟨hfgx, hcgx_0, hcgx_1⟩ := qz2 BKgx.out; obtain ⟨hfg8, hcg8_0, hcg8_1⟩ := qz2 BKg8.out))
      have bk1 := blk_set (blk_set BKg8.out 0 (.int .i64 x.1)) 1 (.slice Ax x.2.length cx)
      have bk6 := blk_far (p := ⟨g8, 1, none⟩) (blk_far (p := ⟨g8, 0, none⟩) BKg6.out NE68.out (.int .i64 x.1)) NE68.out (.slice Ax x.2.length cx)
      have hb1 := qaj (j := 1) (v := .slice Ax x.2.length cx) (qaj (j := 0) (v := .int .i64 x.1) HB.out GEg8) GEg8
      have HS1 : qab (some x = (cs.take (k + 1)).foldl (bestS holds) none) := ⟨by rw [HST.out]; exact (if_pos (by simp [H_b.out, H_h.out])).symm⟩
      have BK1 := qab.mk bk1
      have BK6 := qab.mk bk6
      have HB1 := qab.mk hb1
      clear bk1 bk6 hb1
      go_roundw
      case rel => exact ⟨k + 1, some x, x, Ax, cx, by omega, by go_num, rfl, HS1, ⟨.inr rfl⟩, HRX, BK1, BK6, HB1⟩
      case measure => simp [intOf]; omega
  ·
   have hkE : k = cs.length := by omega
   have HO2 : qab (o = bestV holds cs) := ⟨by have h := HO.out; rwa [hkE, List.take_length] at h⟩
   obtain ⟨hfg8, hcg8_0, hcg8_1⟩ := qz2 BKg8.out
   obtain ⟨hfg6, hcg6_0, hcg6_1⟩ := qz2 BKg6.out
   clear hkE HO
   go_wp2
   refine bodyPost_ret (results_ct rfl _ _ g6 104 #[.int .i64 y.1, .slice Ay y.2.length cy] (0, 0) _ rfl (blk_set (blk_set BKg6.out 0 _) 1 _) hu104 rfl (by kernel_rfl)) rfl ?_
   refine ⟨y, Ay, cy, by rw [← HO2.out]; rfl, by rw [← HO2.out]; exact HOY.out, ?_, qaj (qaj HB.out GEg6) GEg6⟩
   exact Kd.R_set (Kd.R_set (Kd.qal HRY.out HB.out) BKg6.out (by decide) 0 _) (blk_set BKg6.out 0 _) (by decide) 1 _
def holdsV (p : Int) (l1 : List S44) (l2 l3 : List Int) (l4 : List S41) (l5 : List S95) (x : Int × List Int) : Bool := givenB p l1 l2 l3 l4 l5 x.2 && keepsB p l1 l2 l3 l4 (maskV x.2)
def dykR : Option (Int × List Int) → List Int × Int × Int
 | none => ([], 0, 5)
 | some y => (y.2, y.1, 0)
def dykesV (p : Int) (l1 : List S44) (l2 l3 : List Int) (l4 : List S41) (l5 : List S95) : List Int × Int × Int :=
 if validB p l1 l2 l3 l4 l5 = true then dykR (bestV (holdsV p l1 l2 l3 l4 l5) (choicesV l1)) else ([], 0, 2)
theorem choices_len (es : List S44) (x : Int × List Int) (h : x ∈ choicesV es) : x.2.length ≤ es.length := by
 unfold choicesV choicesTo at h
 obtain ⟨b, _, rfl⟩ := List.mem_map.1 h
 exact chL_len b _
theorem dykes1_calls (a0_0 : Int) (A0_1 : Option Addr) (c0_1 : Nat) (l0_1 : List S44) (A0_2 : Option Addr) (c0_2 : Nat) (l0_2 : List Int) (A0_3 : Option Addr) (c0_3 : Nat) (l0_3 : List Int) (A0_4 : Option Addr) (c0_4 : Nat) (l0_4 : List S41) (A0_5 : Option Addr) (c0_5 : Nat) (l0_5 : List S95) (gb : Nat) (x : Int × List Int) (Ax : Option Addr) (cx : Nat) (w : World) (hr0_1 : Kd.C k44 w A0_1 l0_1.length l0_1) (hc0_1 : l0_1.length ≤ c0_1) (hr0_2 : Kd.C (Kd.int .i64) w A0_2 l0_2.length l0_2) (hc0_2 : l0_2.length ≤ c0_2) (hr0_3 : Kd.C (Kd.int .i64) w A0_3 l0_3.length l0_3) (hc0_3 : l0_3.length ≤ c0_3) (hr0_4 : Kd.C k41 w A0_4 l0_4.length l0_4) (hc0_4 : l0_4.length ≤ c0_4) (hr0_5 : Kd.C k95 w A0_5 l0_5.length l0_5) (hc0_5 : l0_5.length ≤ c0_5) (hx : Kd.C (Kd.int .i64) w Ax x.2.length x.2) (hcx : x.2.length ≤ cx) (hb : w.heap[gb]? = some (.cells #[.int .i64 a0_0, .slice A0_1 l0_1.length c0_1, .slice A0_2 l0_2.length c0_2, .slice A0_3 l0_3.length c0_3, .slice A0_4 l0_4.length c0_4, .slice A0_5 l0_5.length c0_5] 27 (0, 0))) :
  Calls Try.prog 69 #[.agg #[.int .i64 x.1, .slice Ax x.2.length cx], .pointer (some ⟨gb, 0, none⟩)] w fun e w' => e = .returned (.bool (holdsV a0_0 l0_1 l0_2 l0_3 l0_4 l0_5 x)) ∧ Below w.heap.size w w' := by
 have hu27 := Try.underlying27
 have hu104 := Try.underlying104
 have HB := qab.mk (Below.refl w.heap.size w)
 have BKgb := qab.mk hb
 cases hg : givenB a0_0 l0_1 l0_2 l0_3 l0_4 l0_5 x.2 with
 | false =>
  have HG : qab (holdsV a0_0 l0_1 l0_2 l0_3 l0_4 l0_5 x = false) := ⟨by unfold holdsV; rw [hg]; rfl⟩
  have HGIV : qab (∀ W, Below w.heap.size w W → Calls Try.prog 54 #[.agg #[.int .i64 a0_0, .slice A0_1 l0_1.length c0_1, .slice A0_2 l0_2.length c0_2, .slice A0_3 l0_3.length c0_3, .slice A0_4 l0_4.length c0_4, .slice A0_5 l0_5.length c0_5], .slice Ax x.2.length cx] W fun e w' => e = .returned (.tuple #[.pointer none, .bool false]) ∧ Below W.heap.size W w') := ⟨fun W hW => given_false a0_0 A0_1 c0_1 l0_1 A0_2 c0_2 l0_2 A0_3 c0_3 l0_3 A0_4 c0_4 l0_4 A0_5 c0_5 l0_5 Ax cx x.2 W (Kd.qai hr0_1 hW) hc0_1 (Kd.qai hr0_2 hW) hc0_2 (Kd.qai hr0_3 hW) hc0_3 (Kd.qai hr0_4 hW) hc0_4 (Kd.qai hr0_5 hW) hc0_5 (Kd.qai hx hW) hcx hg⟩
  clear hg hr0_1 hr0_2 hr0_3 hr0_4 hr0_5 hx hb
  go_enter Try.func69, Try.ntmps69
  go_wp2_with (first | ((with_reducible refine qam (N := 2) rfl ?_); refine ze 2 #[.int .i64 x.1, .slice Ax x.2.length cx] 104 ?_; intro gx hg_gx w2 hbox hb; have BKgx := qab.mk hbox; replace BKgb := qab.mk (qad BKgb.out hb); have n_HB := qab.mk (qae HB.out hb); have GEgx : w.heap.size ≤ gx := (by rw [hg_gx]; exact HB.out.size); clear HB; have HB := n_HB; clear n_HB; obtain ⟨hfgx, hcgx_0, hcgx_1⟩ := qz2 BKgx.out; clear hbox hb hg_gx; obtain ⟨hfgb, hcgb_0, hcgb_1, hcgb_2, hcgb_3, hcgb_4, hcgb_5⟩ := qz6 BKgb.out) | (go_at_call 54; (with_reducible refine (HGIV.out _ HB.out).mono ?_); rintro e wn ⟨rfl, hb⟩; replace BKgb := qab.mk (qad BKgb.out hb); replace HB := qab.mk (qae HB.out hb); clear hb; obtain ⟨hfgb, hcgb_0, hcgb_1, hcgb_2, hcgb_3, hcgb_4, hcgb_5⟩ := qz6 BKgb.out))
  go_ret
  exact ⟨by rw [HG.out]; rfl, HB.out⟩
 | true =>
  have HV := qab.mk (valid_facts (given_valid hg))
  have HG : qab (holdsV a0_0 l0_1 l0_2 l0_3 l0_4 l0_5 x = keepsB a0_0 l0_1 l0_2 l0_3 l0_4 (maskV x.2)) := ⟨by unfold holdsV; rw [hg]; rfl⟩
  have HGIV : qab (∀ W, Below w.heap.size w W → Calls Try.prog 54 #[.agg #[.int .i64 a0_0, .slice A0_1 l0_1.length c0_1, .slice A0_2 l0_2.length c0_2, .slice A0_3 l0_3.length c0_3, .slice A0_4 l0_4.length c0_4, .slice A0_5 l0_5.length c0_5], .slice Ax x.2.length cx] W fun e w' => ∃ g, e = .returned (.tuple #[.pointer (some ⟨g, 0, none⟩), .bool true]) ∧ W.heap.size ≤ g ∧ w'.heap[g]? = some (.cells #[.int .i64 a0_0, .slice A0_1 l0_1.length c0_1, .slice A0_2 l0_2.length c0_2, .slice A0_3 l0_3.length c0_3, .slice A0_4 l0_4.length c0_4, .slice A0_5 l0_5.length c0_5, .int .i64 (maskV x.2 : Int)] 123 (0, 0)) ∧ Below W.heap.size W w') := ⟨fun W hW => given_true a0_0 A0_1 c0_1 l0_1 A0_2 c0_2 l0_2 A0_3 c0_3 l0_3 A0_4 c0_4 l0_4 A0_5 c0_5 l0_5 Ax cx x.2 W (Kd.qai hr0_1 hW) hc0_1 (Kd.qai hr0_2 hW) hc0_2 (Kd.qai hr0_3 hW) hc0_3 (Kd.qai hr0_4 hW) hc0_4 (Kd.qai hr0_5 hW) hc0_5 (Kd.qai hx hW) hcx hg⟩
  obtain ⟨kb, hkb⟩ : ∃ b, b = keepsB a0_0 l0_1 l0_2 l0_3 l0_4 (maskV x.2) := ⟨_, rfl⟩
  have HKE : qab (∀ gd W, Below w.heap.size w W → W.heap[gd]? = some (.cells #[.int .i64 a0_0, .slice A0_1 l0_1.length c0_1, .slice A0_2 l0_2.length c0_2, .slice A0_3 l0_3.length c0_3, .slice A0_4 l0_4.length c0_4, .slice A0_5 l0_5.length c0_5, .int .i64 (maskV x.2 : Int)] 123 (0, 0)) → Calls Try.prog 70 #[.pointer (some ⟨gd, 0, none⟩)] W fun e w' => e = .returned (.bool kb) ∧ Below W.heap.size W w') := ⟨fun gd W hW hd => by rw [hkb]; exact keeps_calls a0_0 A0_1 c0_1 l0_1 A0_2 c0_2 l0_2 A0_3 c0_3 l0_3 A0_4 c0_4 l0_4 A0_5 c0_5 l0_5 (maskV x.2 : Int) gd W (Kd.qai hr0_1 hW) hc0_1 (Kd.qai hr0_2 hW) hc0_2 (Kd.qai hr0_3 hW) hc0_3 (Kd.qai hr0_4 hW) hc0_4 (Kd.qai hr0_5 hW) hc0_5 HV.out hd⟩
  have HKB := qab.mk hkb
  clear hkb hg hr0_1 hr0_2 hr0_3 hr0_4 hr0_5 hx hb
  go_enter Try.func69, Try.ntmps69
  go_wp2_with (first | ((with_reducible refine qam (N := 2) rfl ?_); refine ze 2 #[.int .i64 x.1, .slice Ax x.2.length cx] 104 ?_; intro gx hg_gx w2 hbox hb; have BKgx := qab.mk hbox; replace BKgb := qab.mk (qad BKgb.out hb); have n_HB := qab.mk (qae HB.out hb); have GEgx : w.heap.size ≤ gx := (by rw [hg_gx]; exact HB.out.size); clear HB; have HB := n_HB; clear n_HB; obtain ⟨hfgx, hcgx_0, hcgx_1⟩ := qz2 BKgx.out; clear hbox hb hg_gx; obtain ⟨hfgb, hcgb_0, hcgb_1, hcgb_2, hcgb_3, hcgb_4, hcgb_5⟩ := qz6 BKgb.out) | (go_at_call 54; (with_reducible refine (HGIV.out _ HB.out).mono ?_); rintro e wn ⟨gd, rfl, GEgd, hbk, hb⟩; have BKgd := qab.mk hbk; clear hbk; have HBo := HB; replace BKgb := qab.mk (qad BKgb.out hb); replace HB := qab.mk (qae HB.out hb); clear hb; have GEd : w.heap.size ≤ gd := Nat.le_trans (by first | exact HBo.out.size | omega) GEgd; obtain ⟨hfgb, hcgb_0, hcgb_1, hcgb_2, hcgb_3, hcgb_4, hcgb_5⟩ := qz6 BKgb.out) | (go_at_call 70; (with_reducible refine (HKE.out gd _ HB.out BKgd.out).mono ?_); rintro e wk ⟨rfl, hb⟩; have HBK := qab.mk (qae HB.out hb); clear hb))
  go_ret
  exact ⟨by rw [HG.out, ← HKB.out]; rfl, HBK.out⟩
def seep_Dykes.f (a0_0 : Int) (l0_1 : List (S44)) (l0_2 : List Int) (l0_3 : List Int) (l0_4 : List (S41)) (l0_5 : List (S95)) : Option (List Int × Int × Int) := some (dykesV a0_0 l0_1 l0_2 l0_3 l0_4 l0_5)
theorem seep_Dykes.calls (a0_0 : Int) (A0_1 : Option Addr) (c0_1 : Nat) (l0_1 : List (S44)) (A0_2 : Option Addr) (c0_2 : Nat) (l0_2 : List Int) (A0_3 : Option Addr) (c0_3 : Nat) (l0_3 : List Int) (A0_4 : Option Addr) (c0_4 : Nat) (l0_4 : List (S41)) (A0_5 : Option Addr) (c0_5 : Nat) (l0_5 : List (S95)) (r1 : List Int) (r2 : Int) (r3 : Int) (w : World) (hr0_1 : Kd.C k44 w A0_1 l0_1.length l0_1) (hc0_1 : l0_1.length ≤ c0_1) (hr0_2 : Kd.C (Kd.int .i64) w A0_2 l0_2.length l0_2) (hc0_2 : l0_2.length ≤ c0_2) (hr0_3 : Kd.C (Kd.int .i64) w A0_3 l0_3.length l0_3) (hc0_3 : l0_3.length ≤ c0_3) (hr0_4 : Kd.C k41 w A0_4 l0_4.length l0_4) (hc0_4 : l0_4.length ≤ c0_4) (hr0_5 : Kd.C k95 w A0_5 l0_5.length l0_5) (hc0_5 : l0_5.length ≤ c0_5) (h : seep_Dykes.f a0_0 l0_1 l0_2 l0_3 l0_4 l0_5 = some (r1, r2, r3)) :
  Calls Try.prog 33 #[.agg #[.int .i64 a0_0, .slice A0_1 l0_1.length c0_1, .slice A0_2 l0_2.length c0_2, .slice A0_3 l0_3.length c0_3, .slice A0_4 l0_4.length c0_4, .slice A0_5 l0_5.length c0_5]] w fun e w' => ∃ v0_ : Value, e = .returned (.tuple #[v0_, .int .i64 r2, .int .i64 r3]) ∧ Kd.R (Kd.int .i64) 3 w' w.heap.size (fun _ => True) v0_ r1 ∧ Below w.heap.size w w' := by
 have hp : dykesV a0_0 l0_1 l0_2 l0_3 l0_4 l0_5 = (r1, r2, r3) := Option.some.inj h
 clear h
 have hu27 := Try.underlying27
 have hu104 := Try.underlying104
 have hmf : ∀ (fn : Fn) (first cap : Array Value) (w : World), (Instr.makeFunc fn first cap).run Try.prog w = .ok (.func fn first cap) w := fun _ _ _ _ => rfl
 have HB := qab.mk (Below.refl w.heap.size w)
 have HVAL : qab (∀ W, Below w.heap.size w W → Calls Try.prog 66 #[.agg #[.int .i64 a0_0, .slice A0_1 l0_1.length c0_1, .slice A0_2 l0_2.length c0_2, .slice A0_3 l0_3.length c0_3, .slice A0_4 l0_4.length c0_4, .slice A0_5 l0_5.length c0_5]] W fun e w' => e = .returned (.bool (validB a0_0 l0_1 l0_2 l0_3 l0_4 l0_5)) ∧ Below W.heap.size W w') := ⟨fun W hW => seep_valid.calls _ _ _ l0_1 _ _ l0_2 _ _ l0_3 _ _ l0_4 _ _ l0_5 _ W (Kd.qai hr0_1 hW) hc0_1 (Kd.qai hr0_2 hW) hc0_2 (Kd.qai hr0_3 hW) hc0_3 (Kd.qai hr0_4 hW) hc0_4 (Kd.qai hr0_5 hW) hc0_5 rfl⟩
 cases hv : validB a0_0 l0_1 l0_2 l0_3 l0_4 l0_5 with
 | false =>
  obtain ⟨rfl, rfl, rfl⟩ : r1 = [] ∧ r2 = 0 ∧ r3 = 2 := by
   unfold dykesV at hp
   rw [hv] at hp
   injection hp with h1 h2
   injection h2 with h2 h3
   exact ⟨h1.symm, h2.symm, h3.symm⟩
  rw [hv] at HVAL
  clear hp hv hr0_1 hr0_2 hr0_3 hr0_4 hr0_5
  go_enter Try.func33, Try.ntmps33
  go_wp2_with (first | ((with_reducible refine qam (N := 1) rfl ?_); refine ze 1 #[.int .i64 a0_0, .slice A0_1 l0_1.length c0_1, .slice A0_2 l0_2.length c0_2, .slice A0_3 l0_3.length c0_3, .slice A0_4 l0_4.length c0_4, .slice A0_5 l0_5.length c0_5] 27 ?_; intro gb hg_gb w2 hbox hb; have BKgb := qab.mk hbox; have n_HB := qab.mk (qae HB.out hb); have GEgb : w.heap.size ≤ gb := (by rw [hg_gb]; exact HB.out.size); clear HB; have HB := n_HB; clear n_HB; obtain ⟨hfgb, hcgb_0, hcgb_1, hcgb_2, hcgb_3, hcgb_4, hcgb_5⟩ := qz6 BKgb.out; clear hbox hb hg_gb) | (go_at_call 66; (with_reducible refine (HVAL.out _ HB.out).mono ?_); rintro e wn ⟨rfl, hb⟩; replace BKgb := qab.mk (qad BKgb.out hb); replace HB := qab.mk (qae HB.out hb); clear hb; obtain ⟨hfgb, hcgb_0, hcgb_1, hcgb_2, hcgb_3, hcgb_4, hcgb_5⟩ := qz6 BKgb.out))
  go_ret3
  exact ⟨_, rfl, Kd.R_nil _ _ _ _ _, HB.out⟩
 | true =>
  have HV := qab.mk (valid_facts hv)
  obtain ⟨ob, hob⟩ : ∃ o, o = bestV (holdsV a0_0 l0_1 l0_2 l0_3 l0_4 l0_5) (choicesV l0_1) := ⟨_, rfl⟩
  have hp2 : dykR ob = (r1, r2, r3) := by
   unfold dykesV at hp
   rw [hv, if_pos rfl, ← hob] at hp
   exact hp
  rw [hv] at HVAL
  have HCH : qab (∀ W, Below w.heap.size w W → Calls Try.prog 68 #[.agg #[.int .i64 a0_0, .slice A0_1 l0_1.length c0_1, .slice A0_2 l0_2.length c0_2, .slice A0_3 l0_3.length c0_3, .slice A0_4 l0_4.length c0_4, .slice A0_5 l0_5.length c0_5]] W fun e w' => ∃ vo, e = .returned vo ∧ Kd.R kCh 104 w' W.heap.size (fun _ => True) vo (choicesV l0_1) ∧ Below W.heap.size W w') := ⟨fun W hW => choices_calls a0_0 A0_1 c0_1 l0_1 A0_2 c0_2 l0_2 A0_3 c0_3 l0_3 A0_4 c0_4 l0_4 A0_5 c0_5 l0_5 W (Kd.qai hr0_1 hW) hc0_1 (Kd.qai hr0_2 hW) hc0_2 (Kd.qai hr0_3 hW) hc0_3 (Kd.qai hr0_4 hW) hc0_4 (Kd.qai hr0_5 hW) hc0_5 HV.out⟩
  have HBE : qab (∀ gb W (Ac : Option Addr) (cc : Nat), Below w.heap.size w W → W.heap[gb]? = some (.cells #[.int .i64 a0_0, .slice A0_1 l0_1.length c0_1, .slice A0_2 l0_2.length c0_2, .slice A0_3 l0_3.length c0_3, .slice A0_4 l0_4.length c0_4, .slice A0_5 l0_5.length c0_5] 27 (0, 0)) → Kd.R kCh 104 W w.heap.size (fun _ => True) (.slice Ac (choicesV l0_1).length cc) (choicesV l0_1) → Calls Try.prog 67 #[.slice Ac (choicesV l0_1).length cc, .func (.func 69) #[] #[.pointer (some ⟨gb, 0, none⟩)], .func (.func 71) #[] #[]] W fun e w' => ∃ y Ay cy, e = .returned (.tuple #[.agg #[.int .i64 y.1, .slice Ay y.2.length cy], .bool ob.isSome]) ∧ ((ob = none ∧ y = (0, [])) ∨ ob = some y) ∧ Kd.R (Kd.int .i64) 3 w' w.heap.size (fun _ => True) (.slice Ay y.2.length cy) y.2 ∧ Below W.heap.size W w') := ⟨fun gb W Ac cc hW hgb hR => by
   rw [hob]
   exact best_calls _ w.heap.size Ac cc (choicesV l0_1) (holdsV a0_0 l0_1 l0_2 l0_3 l0_4 l0_5) W hW.size hR (fun x hx => by have h1 := choices_len l0_1 x hx; have h2 := HV.out.n1; omega) (fun x Ax cx W2 hx hW2 hC hcx => dykes1_calls a0_0 A0_1 c0_1 l0_1 A0_2 c0_2 l0_2 A0_3 c0_3 l0_3 A0_4 c0_4 l0_4 A0_5 c0_5 l0_5 gb x Ax cx W2 (Kd.qai hr0_1 (qae hW hW2)) hc0_1 (Kd.qai hr0_2 (qae hW hW2)) hc0_2 (Kd.qai hr0_3 (qae hW hW2)) hc0_3 (Kd.qai hr0_4 (qae hW hW2)) hc0_4 (Kd.qai hr0_5 (qae hW hW2)) hc0_5 hC hcx (qad hgb hW2))⟩
  obtain ⟨CS, hCS⟩ : ∃ CS, CS = choicesV l0_1 := ⟨_, rfl⟩
  rw [← hCS] at HCH HBE
  have HP := qab.mk hp2
  clear hp hp2 hv hob hCS hr0_1 hr0_2 hr0_3 hr0_4 hr0_5
  go_enter Try.func33, Try.ntmps33
  go_upto_region 4 with (first | ((with_reducible refine qam (N := 1) rfl ?_); refine ze 1 #[.int .i64 a0_0, .slice A0_1 l0_1.length c0_1, .slice A0_2 l0_2.length c0_2, .slice A0_3 l0_3.length c0_3, .slice A0_4 l0_4.length c0_4, .slice A0_5 l0_5.length c0_5] 27 ?_; intro gb hg_gb w2 hbox hb; have BKgb := qab.mk hbox; have n_HB := qab.mk (qae HB.out hb); have GEgb : w.heap.size ≤ gb := (by rw [hg_gb]; exact HB.out.size); clear HB; have HB := n_HB; clear n_HB; obtain ⟨hfgb, hcgb_0, hcgb_1, hcgb_2, hcgb_3, hcgb_4, hcgb_5⟩ := qz6 BKgb.out; clear hbox hb hg_gb) | (go_at_call 66; (with_reducible refine (HVAL.out _ HB.out).mono ?_); rintro e wn ⟨rfl, hb⟩; replace BKgb := qab.mk (qad BKgb.out hb); replace HB := qab.mk (qae HB.out hb); clear hb; obtain ⟨hfgb, hcgb_0, hcgb_1, hcgb_2, hcgb_3, hcgb_4, hcgb_5⟩ := qz6 BKgb.out) | (go_at_call 68; (with_reducible refine (HCH.out _ HB.out).mono ?_); rintro e wn ⟨vo, rfl, hR, hb⟩; obtain ⟨Ac, cc, e⟩ := Kd.R_slice hR; subst e; have HRC := qab.mk (Kd.R_lower hR HB.out.size); clear hR; replace BKgb := qab.mk (qad BKgb.out hb); replace HB := qab.mk (qae HB.out hb); clear hb; obtain ⟨hfgb, hcgb_0, hcgb_1, hcgb_2, hcgb_3, hcgb_4, hcgb_5⟩ := qz6 BKgb.out) | (go_at_call 67; (with_reducible refine (HBE.out gb _ Ac cc HB.out BKgb.out HRC.out).mono ?_); rintro e wm ⟨y, Ay, cy, rfl, hob, hR, hb⟩; have HOB := qab.mk hob; have HRY := qab.mk hR; clear hob hR; replace BKgb := qab.mk (qad BKgb.out hb); replace HB := qab.mk (qae HB.out hb); clear hb) | ((with_reducible refine qam (N := 5) rfl ?_); refine ze 5 #[.int .i64 0, .slice none 0 0] 104 ?_; intro g5 hg_g5 w6 hbox hb; have BKg5 := qab.mk hbox; have n_HB := qab.mk (qae HB.out hb); have GEg5 : w.heap.size ≤ g5 := (by rw [hg_g5]; exact HB.out.size); clear HB; have HB := n_HB; clear n_HB; obtain ⟨hfg5, hcg5_0, hcg5_1⟩ := qz2 BKg5.out; replace HRY := qab.mk (Kd.qal HRY.out hb); clear hbox hb hg_g5))
  have he_ : setAll w6 g5 [.int .i64 y.1, .slice Ay y.2.length cy] 0 = ((w6.setCell ⟨g5, 0, none⟩ (.int .i64 y.1)).setCell ⟨g5, 1, none⟩ (.slice Ay y.2.length cy)) := rfl; have hbl := setAll_below GEg5 [.int .i64 y.1, .slice Ay y.2.length cy] 0 _ HB.out; have hbx : (setAll w6 g5 [.int .i64 y.1, .slice Ay y.2.length cy] 0).heap[g5]? = some (.cells #[.int .i64 y.1, .slice Ay y.2.length cy] 104 (0, 0)) := setAll_new [.int .i64 y.1, .slice Ay y.2.length cy] [.int .i64 0, .slice none 0 0] BKg5.out rfl; have hy_HRY := setAll_R (g := g5) (by decide) [.int .i64 y.1, .slice Ay y.2.length cy] 0 w6 _ BKg5.out HRY.out; rw [he_] at hy_HRY hbl hbx ; clear he_; generalize ((w6.setCell ⟨g5, 0, none⟩ (.int .i64 y.1)).setCell ⟨g5, 1, none⟩ (.slice Ay y.2.length cy)) = w7 at hy_HRY hbl hbx  ⊢; clear HB BKg5; have HB := qab.mk hbl; have BKg5 := qab.mk hbx; clear hbl hbx; clear HRY; have HRY := qab.mk hy_HRY; clear hy_HRY
  obtain ⟨hfg5, hcg5_0, hcg5_1⟩ := qz2 BKg5.out
  cases ob with
  | none =>
   obtain ⟨rfl, rfl, rfl⟩ : r1 = [] ∧ r2 = 0 ∧ r3 = 5 := by
    have hp := HP.out
    injection hp with h1 h2
    injection h2 with h2 h3
    exact ⟨h1.symm, h2.symm, h3.symm⟩
   go_wp2
   go_ret3
   exact ⟨_, rfl, Kd.R_nil _ _ _ _ _, HB.out⟩
  | some z =>
   have hzy : y = z := by rcases HOB.out with ⟨h, _⟩ | h; cases h; exact (Option.some.inj h).symm
   subst hzy
   obtain ⟨rfl, rfl, rfl⟩ : r1 = y.2 ∧ r2 = y.1 ∧ r3 = 0 := by
    have hp := HP.out
    injection hp with h1 h2
    injection h2 with h2 h3
    exact ⟨h1.symm, h2.symm, h3.symm⟩
   go_wp2_with fail
   go_region
   go_wp2
   go_ret3
   exact ⟨_, rfl, Kd.R_drew HRY.out, qaq HB.out⟩
def endsStep (d : Int) (es : List S44) (ws : List Int) (l4 : List S41) (route : List Int) (k : Nat) (year : Nat) : Option Nat :=
 match goesN d es l4 (rd route k).toNat year with
 | none => none
 | some y => if k = 0 then (if ws.contains (qav es (rd route k)).f0 = true then some y else none) else (if (qav es (rd route (k - 1 : Nat))).f1 = (qav es (rd route k)).f0 then some y else none)
def endsTo (d : Int) (es : List S44) (ws : List Int) (l4 : List S41) (route : List Int) : Nat → Option Nat
 | 0 => some 0
 | k + 1 => (endsTo d es ws l4 route k).bind (endsStep d es ws l4 route k)
def endsV (d : Int) (es : List S44) (ws : List Int) (l4 : List S41) (route : List Int) : Option (List Int) :=
 if route.length = 0 then some ws else (endsTo d es ws l4 route route.length).map fun _ => [(qav es (rd route (route.length - 1 : Nat))).f1]
theorem endsTo_none (d : Int) (es : List S44) (ws : List Int) (l4 : List S41) (route : List Int) (k n : Nat) (hk : k ≤ n) (h : endsTo d es ws l4 route k = none) : endsTo d es ws l4 route n = none := by
 induction n with
 | zero =>
  obtain rfl : k = 0 := by omega
  exact h
 | succ n ih =>
  rcases Nat.lt_or_ge k (n + 1) with hlt | hge
  ·
   unfold endsTo
   rw [ih (by omega)]
   rfl
  ·
   obtain rfl : k = n + 1 := by omega
   exact h
theorem lateIface (i : Int) (W : World) : (Instr.makeInterface 117 (.agg #[.int .i64 i])).run Try.prog W = .ok (.iface 117 (.agg #[.int .i64 i])) W := by kernel_rfl
theorem goesN_some {d : Int} {es : List S44} {l4 : List S41} {n year y : Nat} (h : goesN d es l4 n year = some y) : y < l4.length ∧ year ≤ y := by
 unfold goesN at h
 have h1 := List.mem_of_find?_eq_some h
 rw [List.mem_iff_getElem] at h1
 obtain ⟨j, hj, rfl⟩ := h1
 simp at hj ⊢
 omega
def unfairP (ln : Int) : Ending := .panicked [{ v := .iface 117 (.agg #[.int .i64 ln]), recovered := false }]
def EndsPost (ln : Int) : Option (List Int) → Ending → World → Prop
 | none, e, _ => e = unfairP ln
 | some xs, e, w' => ∃ A c, e = .returned (.slice A xs.length c) ∧ xs.length ≤ c ∧ Kd.C (Kd.int .i64) w' A xs.length xs
theorem ends_calls (gd : Nat) (v0 v3 v5 : Value) (A1 : Option Addr) (c1 : Nat) (l1 : List S44) (A2 : Option Addr) (c2 : Nat) (l2 : List Int) (A4 : Option Addr) (c4 : Nat) (l4 : List S41) (d : Int) (ln : Int) (Ar : Option Addr) (cr : Nat) (route : List Int) (w : World)
  (hr1 : Kd.C k44 w A1 l1.length l1) (hr2 : Kd.C (Kd.int .i64) w A2 l2.length l2) (hc2 : l2.length ≤ c2) (hr4 : Kd.C k41 w A4 l4.length l4) (h15 : l4.length ≤ 100) (h12 : l1.length ≤ 12) (hrr : Kd.C (Kd.int .i64) w Ar route.length route) (hrl : route.length ≤ 1000) (hre : ∀ k : Nat, k < route.length → 0 ≤ rd route k ∧ rd route k < l1.length)
  (hd : w.heap[gd]? = some (.cells #[v0, .slice A1 l1.length c1, .slice A2 l2.length c2, v3, .slice A4 l4.length c4, v5, .int .i64 d] 123 (0, 0))) :
  Calls Try.prog 104 #[.pointer (some ⟨gd, 0, none⟩), .int .i64 ln, .slice Ar route.length cr] w fun e w' =>
   EndsPost ln (endsV d l1 l2 l4 route) e w' ∧ Below w.heap.size w w' := by
 have hu123 := Try.underlying123
 have hu27 := Try.underlying27
 have hu44 := Try.underlying44
 have hu117 := Try.underlying117
 have hli := lateIface
 have HB := qab.mk (Below.refl w.heap.size w)
 have HD := qab.mk hd
 have HR1 := qab.mk hr1
 have HR2 := qab.mk hr2
 have HR4 := qab.mk hr4
 have HRR := qab.mk hrr
 have HRE := qab.mk hre
 have q2 : w.cell? ⟨gd, 2, none⟩ = some (.slice A2 l2.length c2) := (qaa hd 2).trans rfl
 clear hr1 hr2 hr4 hrr hre hd
 by_cases hz : route.length = 0
 ·
  have hzb : ((route.length : Int) == 0) = true := by simp [hz]
  have HZ : qab (endsV d l1 l2 l4 route = some l2) := ⟨by unfold endsV; rw [if_pos hz]⟩
  clear hz
  go_enter Try.func104, Try.ntmps104
  go_wp2
  go_ret
  exact ⟨by rw [HZ.out]; exact ⟨A2, c2, rfl, hc2, HR2.out⟩, HB.out⟩
 ·
  have hzb : ((route.length : Int) == 0) = false := by rw [beq_eq_false_iff_ne]; omega
  have HZ : qab (endsV d l1 l2 l4 route = (endsTo d l1 l2 l4 route route.length).map fun _ => [(qav l1 (rd route (route.length - 1 : Nat))).f1]) := ⟨by unfold endsV; rw [if_neg hz]⟩
  go_enter Try.func104, Try.ntmps104
  go_wp2
  go_loopw [7, 23] (fun s7 s23 wr => ∃ (k y : Nat), k ≤ route.length ∧ y ≤ 100 ∧ s23 = .int .i64 k ∧ s7 = .int .i64 y ∧ qab (endsTo d l1 l2 l4 route k = some y) ∧ qab (Below w.heap.size w wr)) (fun _ s _ => route.length - (intOf s).toNat)
  case atStart => exact ⟨0, 0, by omega, by omega, rfl, rfl, ⟨rfl⟩, HB⟩
  case round =>
   clear HB q2
   obtain ⟨k, y, hk, hy, rfl, rfl, HE, HB⟩ := hrel
   by_cases hlt : k < route.length
   ·
    obtain ⟨ar, e, q⟩ := Kd.at_int HRR.out k (by omega) (by omega)
    cases e
    have hx := HRE.out k hlt
    obtain ⟨n, hn⟩ := Int.eq_ofNat_of_zero_le hx.1
    have hn1 : n < l1.length := by omega
    have HN : qab (rd route k = (n : Int)) := ⟨hn⟩
    rw [hn] at q
    clear hn hx
    obtain ⟨a1, e, q0, q1, q2, q3⟩ := at_T44 HR1.out n (by omega) (by omega)
    cases e
    simp only [Int.toNat_natCast] at q q0 q1 q2 q3
    replace q := (HB.out.cell (World.block_lt_of_cell? w _ q)).trans q; replace q0 := (HB.out.cell (World.block_lt_of_cell? w _ q0)).trans q0; replace q1 := (HB.out.cell (World.block_lt_of_cell? w _ q1)).trans q1; replace q2 := (HB.out.cell (World.block_lt_of_cell? w _ q2)).trans q2; replace q3 := (HB.out.cell (World.block_lt_of_cell? w _ q3)).trans q3
    have g1 : wr.cell? ⟨gd, 1, none⟩ = some (.slice (some a1) l1.length c1) := (qaa (qad HD.out HB.out) 1).trans rfl
    obtain ⟨X, hX⟩ : ∃ x, x = qav l1 n := ⟨_, rfl⟩
    have HX := qab.mk hX
    rw [← hX] at q0 q1 q2 q3
    clear hX
    obtain ⟨e0, e1, e2, e3⟩ := X
    dsimp only at q0 q1 q2 q3
    have HGO : qab (∀ W, Below w.heap.size w W → Calls Try.prog 63 #[.pointer (some ⟨gd, 0, none⟩), .int .i64 (n : Int), .int .i64 (y : Int)] W fun e w' => e = .returned (.tuple #[.int .i64 (goesV d l1 l4 n y).1, .bool (goesV d l1 l4 n y).2]) ∧ Below W.heap.size W w') := ⟨fun W hW => goes_calls gd _ _ _ _ _ _ l1 _ _ l4 d n y W (Kd.qai HR1.out hW) (Kd.qai HR4.out hW) (by omega) hn1 (by omega) (by omega) (qad HD.out hW)⟩
    go_upto_region 8 with ((with_reducible refine qam (N := 10) rfl ?_); refine ze 10 #[.int .i64 0, .int .i64 0, .int .i64 0, .int .i64 0] 44 ?_; intro ge hg_ge w4 hbox hb; have BKge := qab.mk hbox; have n_HB := qab.mk (qae HB.out hb); have GEge : w.heap.size ≤ ge := (by rw [hg_ge]; exact HB.out.size); clear HB; have HB := n_HB; clear n_HB; obtain ⟨hfge, hcge_0, hcge_1, hcge_2, hcge_3⟩ := qz4 BKge.out; clear hbox hb hg_ge)
    clear q0 q1 q2 q3 hfge hcge_0 hcge_1 hcge_2 hcge_3 g1
    have he_ : setAll w4 ge [.int .i64 e0, .int .i64 e1, .int .i64 e2, .int .i64 e3] 0 = ((((w4.setCell ⟨ge, 0, none⟩ (.int .i64 e0)).setCell ⟨ge, 1, none⟩ (.int .i64 e1)).setCell ⟨ge, 2, none⟩ (.int .i64 e2)).setCell ⟨ge, 3, none⟩ (.int .i64 e3)) := rfl; have hbl := setAll_below GEge [.int .i64 e0, .int .i64 e1, .int .i64 e2, .int .i64 e3] 0 _ HB.out; have hbx : (setAll w4 ge [.int .i64 e0, .int .i64 e1, .int .i64 e2, .int .i64 e3] 0).heap[ge]? = some (.cells #[.int .i64 e0, .int .i64 e1, .int .i64 e2, .int .i64 e3] 44 (0, 0)) := setAll_new [.int .i64 e0, .int .i64 e1, .int .i64 e2, .int .i64 e3] [.int .i64 0, .int .i64 0, .int .i64 0, .int .i64 0] BKge.out rfl; rw [he_] at hbl hbx ; clear he_; generalize ((((w4.setCell ⟨ge, 0, none⟩ (.int .i64 e0)).setCell ⟨ge, 1, none⟩ (.int .i64 e1)).setCell ⟨ge, 2, none⟩ (.int .i64 e2)).setCell ⟨ge, 3, none⟩ (.int .i64 e3)) = w5 at hbl hbx  ⊢; clear HB BKge; have HB := qab.mk hbl; have BKge := qab.mk hbx; clear hbl hbx
    obtain ⟨hfge, hcge_0, hcge_1, hcge_2, hcge_3⟩ := qz4 BKge.out
    obtain ⟨g1, g2, hgv⟩ : ∃ a b, goesV d l1 l4 n y = (a, b) := ⟨_, _, rfl⟩
    have HGV := qab.mk hgv
    rw [hgv] at HGO
    clear hgv
    go_upto_region 9 with (go_at_call 63; (with_reducible refine (HGO.out _ HB.out).mono ?_); rintro e wg ⟨rfl, hb⟩; replace BKge := qab.mk (qad BKge.out hb); replace HB := qab.mk (qae HB.out hb); clear hb)
    clear hfge hcge_0 hcge_1 hcge_2 hcge_3
    obtain ⟨wr, rfl⟩ : ∃ z, z = wg := ⟨_, rfl⟩
    have hEQ : endsTo d l1 l2 l4 route (k + 1) = endsStep d l1 l2 l4 route k y := by
     show (endsTo d l1 l2 l4 route k).bind _ = _
     rw [HE.out]
     rfl
    have HEQ := qab.mk hEQ
    clear hEQ
    have HNONE : qab (endsTo d l1 l2 l4 route (k + 1) = none → EndsPost ln (endsV d l1 l2 l4 route) (unfairP ln) w) := ⟨fun h => by rw [HZ.out, endsTo_none d l1 l2 l4 route (k + 1) route.length (by omega) h]; rfl⟩
    have hPOST : ∀ W, endsTo d l1 l2 l4 route (k + 1) = none → EndsPost ln (endsV d l1 l2 l4 route) (unfairP ln) W := fun W h => by rw [HZ.out, endsTo_none d l1 l2 l4 route (k + 1) route.length (by omega) h]; rfl
    have HPOST := qab.mk hPOST
    clear hPOST HNONE
    have HT : qab (∀ W, Below wr.heap.size wr W → (W.cell? ⟨gd, 2, none⟩ = some (.slice A2 l2.length c2) ∧ W.cell? ⟨gd, 1, none⟩ = some (.slice (some a1) l1.length c1) ∧ W.cell? ⟨ge, 0, none⟩ = some (.int .i64 e0) ∧ qab (Below wr.heap.size wr W))) := ⟨fun W h => ⟨(qaa (qad HD.out (qae HB.out h)) 2).trans rfl, (qaa (qad HD.out (qae HB.out h)) 1).trans rfl, (qaa (qad BKge.out h) 0).trans rfl, ⟨h⟩⟩⟩
    cases g2 with
    | false =>
     have HX1 : qab (endsTo d l1 l2 l4 route (k + 1) = none) := ⟨by
      rw [HEQ.out]
      unfold endsStep
      rw [HN.out, Int.toNat_natCast]
      have h := HGV.out
      unfold goesV at h
      cases hg : goesN d l1 l4 n y with
      | none => rfl
      | some z => rw [hg] at h; injection h with _ h; cases h⟩
     refine start_ (n := 39) (S := (fun w' => (w'.cell? ⟨gd, 2, none⟩ = some (.slice A2 l2.length c2) ∧ w'.cell? ⟨gd, 1, none⟩ = some (.slice (some a1) l1.length c1) ∧ w'.cell? ⟨ge, 0, none⟩ = some (.int .i64 e0) ∧ qab (Below wr.heap.size wr w')))) (ds := []) (msk 39 0) (by kernel_rfl) rfl rfl (HT.out _ (qaq (Below.refl _ _))) (fun hHeld => ?_)
     have HP6 := qab.mk hHeld
     refine zq 0 1 43 ?_
     refine zq 1 2 44 ?_
     refine zq 2 3 45 ?_
     refine zo 3 4 46 ?_
     refine zo 4 5 47 ?_
     refine zo 5 6 48 ?_
     refine zo 6 7 49 ?_
     refine zo 7 8 50 ?_
     refine zo 8 9 51 ?_
     refine zo 9 10 52 ?_
     refine zo 10 11 53 ?_
     refine zo 11 12 54 ?_
     refine zo 12 13 55 ?_
     refine zo 13 14 56 ?_
     refine zo 14 15 57 ?_
     refine zo 15 16 58 ?_
     refine zq 16 17 59 ?_
     refine zq 17 18 60 ?_
     refine zo 18 19 61 ?_
     refine zo 19 20 62 ?_
     refine zo 20 21 63 ?_
     refine zo 21 22 64 ?_
     refine zo 22 23 65 ?_
     refine zo 23 24 66 ?_
     refine zo 24 25 67 ?_
     refine zo 25 26 68 ?_
     refine zo 26 27 69 ?_
     refine zo 27 28 70 ?_
     refine zo 28 29 71 ?_
     refine zo 29 30 72 ?_
     refine zo 30 31 73 ?_
     refine zo 31 32 74 ?_
     refine zo 32 33 75 ?_
     refine zo 33 34 76 ?_
     refine zo 34 35 77 ?_
     refine zo 35 36 78 ?_
     refine zo 36 37 79 ?_
     refine zo 37 38 80 ?_
     refine zq 38 39 81 ?_
     refine done_ (by kernel_rfl) ?_
     have HZ6 := HP6.out.2.2.2
     clear HP6 hHeld
     go_wp2
     exact ⟨rfl, HPOST.out _ HX1.out, qae HB.out HZ6.out⟩
    | true =>
     obtain ⟨Y, hY, hYg⟩ : ∃ Y : Nat, goesN d l1 l4 n y = some Y ∧ g1 = (Y : Int) := by
      have h := HGV.out
      unfold goesV at h
      cases hg : goesN d l1 l4 n y with
      | none => rw [hg] at h; injection h with _ h; cases h
      | some z => rw [hg] at h; injection h with h _; exact ⟨z, rfl, h.symm⟩
     subst hYg
     have hY100 : Y ≤ 100 := by have := (goesN_some hY).1; omega
     have HYS : qab (endsTo d l1 l2 l4 route (k + 1) = if k = 0 then (if l2.contains e0 = true then some Y else none) else (if (qav l1 (rd route (k - 1 : Nat))).f1 = e0 then some Y else none)) := ⟨by
      rw [HEQ.out]
      unfold endsStep
      rw [HN.out, Int.toNat_natCast, hY, ← HX.out]⟩
     clear hY
     rcases Nat.eq_zero_or_pos k with hk0 | hk0
     ·
      subst hk0
      obtain ⟨cb, hcb⟩ : ∃ b, b = l2.contains e0 := ⟨_, rfl⟩
      have HCON : qab (∀ W, Below wr.heap.size wr W → Calls Try.prog 64 #[.slice A2 l2.length c2, .int .i64 e0] W fun e w' => e = .returned (.bool cb) ∧ Below W.heap.size W w') := ⟨fun W h => by rw [hcb]; exact contains_calls _ _ _ _ _ (Kd.qai HR2.out (qae HB.out h)) hc2⟩
      have HYS2 : qab (endsTo d l1 l2 l4 route (0 + 1) = if cb = true then some Y else none) := ⟨by rw [HYS.out, if_pos rfl, hcb]⟩
      clear hcb
      cases cb with
      | false =>
       refine start_ (n := 39) (S := (fun w' => (w'.cell? ⟨gd, 2, none⟩ = some (.slice A2 l2.length c2) ∧ w'.cell? ⟨gd, 1, none⟩ = some (.slice (some a1) l1.length c1) ∧ w'.cell? ⟨ge, 0, none⟩ = some (.int .i64 e0) ∧ qab (Below wr.heap.size wr w')))) (ds := []) (msk 39 0) (by kernel_rfl) rfl rfl (HT.out _ (qaq (Below.refl _ _))) (fun hHeld => ?_)
       have HP6 := qab.mk hHeld
       refine zq 0 1 43 ?_
       refine zq 1 2 44 ?_
       refine zq 2 3 45 ?_
       refine zq 3 4 46 ?_
       refine zq 4 5 47 ?_
       refine zq 5 6 48 ?_
       refine zq 6 7 49 ?_
       refine zq 7 8 50 ?_
       refine zq 8 9 51 ?_
       refine zq 9 10 52 ?_
       refine zt4 10 11 53 hHeld ?_
       refine zq 11 12 54 ?_
       refine zt4 12 13 55 hHeld ?_
       refine one_ (i := 13) (N := some 56) (msk 39 14) rfl rfl (by kernel_rfl) (by decide) (fun K hK => ?_)
       refine zg Try.func64 #[.slice A2 l2.length c2, .int .i64 e0] ?_
       refine (HCON.out _ hHeld.2.2.2.out).mono ?_; rintro e w6 ⟨rfl, hb⟩; have HP6 := qab.mk (HT.out w6 (qae hHeld.2.2.2.out hb)); clear hb; refine ⟨_, rfl, ?_⟩; refine hK.out _ _ HP6.out (fun hHeld => ?_); clear hK K; refine zn 56 ?_
       refine zq 14 15 57 ?_
       refine zq 15 16 58 ?_
       refine zq 16 17 59 ?_
       refine zq 17 18 60 ?_
       refine zo 18 19 61 ?_
       refine zo 19 20 62 ?_
       refine zo 20 21 63 ?_
       refine zo 21 22 64 ?_
       refine zo 22 23 65 ?_
       refine zo 23 24 66 ?_
       refine zo 24 25 67 ?_
       refine zo 25 26 68 ?_
       refine zo 26 27 69 ?_
       refine zo 27 28 70 ?_
       refine zo 28 29 71 ?_
       refine zo 29 30 72 ?_
       refine zo 30 31 73 ?_
       refine zo 31 32 74 ?_
       refine zo 32 33 75 ?_
       refine zo 33 34 76 ?_
       refine zo 34 35 77 ?_
       refine zo 35 36 78 ?_
       refine zo 36 37 79 ?_
       refine zo 37 38 80 ?_
       refine zq 38 39 81 ?_
       refine done_ (by kernel_rfl) ?_
       have HZ6 := HP6.out.2.2.2
       clear HP6 hHeld
       go_wp2
       exact ⟨rfl, HPOST.out _ HYS2.out, qae HB.out HZ6.out⟩
      | true =>
       refine start_ (n := 39) (S := (fun w' => (w'.cell? ⟨gd, 2, none⟩ = some (.slice A2 l2.length c2) ∧ w'.cell? ⟨gd, 1, none⟩ = some (.slice (some a1) l1.length c1) ∧ w'.cell? ⟨ge, 0, none⟩ = some (.int .i64 e0) ∧ qab (Below wr.heap.size wr w')))) (ds := []) (msk 39 0) (by kernel_rfl) rfl rfl (HT.out _ (qaq (Below.refl _ _))) (fun hHeld => ?_)
       have HP6 := qab.mk hHeld
       refine zq 0 1 43 ?_
       refine zq 1 2 44 ?_
       refine zq 2 3 45 ?_
       refine zq 3 4 46 ?_
       refine zq 4 5 47 ?_
       refine zq 5 6 48 ?_
       refine zq 6 7 49 ?_
       refine zq 7 8 50 ?_
       refine zq 8 9 51 ?_
       refine zq 9 10 52 ?_
       refine zt4 10 11 53 hHeld ?_
       refine zq 11 12 54 ?_
       refine zt4 12 13 55 hHeld ?_
       refine one_ (i := 13) (N := some 56) (msk 39 14) rfl rfl (by kernel_rfl) (by decide) (fun K hK => ?_)
       refine zg Try.func64 #[.slice A2 l2.length c2, .int .i64 e0] ?_
       refine (HCON.out _ hHeld.2.2.2.out).mono ?_; rintro e w6 ⟨rfl, hb⟩; have HP6 := qab.mk (HT.out w6 (qae hHeld.2.2.2.out hb)); clear hb; refine ⟨_, rfl, ?_⟩; refine hK.out _ _ HP6.out (fun hHeld => ?_); clear hK K; refine zn 56 ?_
       refine zq 14 15 57 ?_
       refine zq 15 16 58 ?_
       refine zq 16 17 59 ?_
       refine zq 17 18 60 ?_
       refine zq 18 19 61 ?_
       refine zq 19 20 62 ?_
       refine zq 20 21 63 ?_
       refine zo 21 22 64 ?_
       refine zo 22 23 65 ?_
       refine zo 23 24 66 ?_
       refine zo 24 25 67 ?_
       refine zo 25 26 68 ?_
       refine zo 26 27 69 ?_
       refine zo 27 28 70 ?_
       refine zo 28 29 71 ?_
       refine zo 29 30 72 ?_
       refine zo 30 31 73 ?_
       refine zo 31 32 74 ?_
       refine zo 32 33 75 ?_
       refine zo 33 34 76 ?_
       refine zo 34 35 77 ?_
       refine zo 35 36 78 ?_
       refine zo 36 37 79 ?_
       refine zq 37 38 80 ?_
       refine zq 38 39 81 ?_
       refine done_ (by kernel_rfl) ?_
       have HZ6 := HP6.out.2.2.2
       clear HP6 hHeld
       go_wp2
       go_roundw
       case rel => exact ⟨1, Y, by omega, hY100, rfl, rfl, ⟨HYS2.out⟩, ⟨qae HB.out HZ6.out⟩⟩
       case measure => simp [intOf]; omega
     ·
      have hke : ((k : Int) == 0) = false := by rw [beq_eq_false_iff_ne]; omega
      have hkg : decide ((0 : Int) < (k : Int)) = true := by rw [decide_eq_true_eq]; omega
      have hkw : wrap64 ((k : Int) - 1) = ((k - 1 : Nat) : Int) := by unfold wrap64; omega
      have hk1 : k - 1 < route.length := by omega
      obtain ⟨_, e, qk⟩ := Kd.at_int HRR.out (k - 1 : Nat) (by omega) (by omega)
      cases e
      have hpx := HRE.out (k - 1) hk1
      obtain ⟨p, hp⟩ := Int.eq_ofNat_of_zero_le hpx.1
      have hp1 : p < l1.length := by omega
      have HP1 : qab (rd route (k - 1 : Nat) = (p : Int)) := ⟨hp⟩
      rw [hp] at qk
      clear hp hpx
      obtain ⟨_, e, _, qt, _, _⟩ := at_T44 HR1.out p (by omega) (by omega)
      cases e
      simp only [Int.toNat_natCast] at qk qt
      obtain ⟨pt, hpt⟩ : ∃ x, x = (qav l1 p).f1 := ⟨_, rfl⟩
      rw [← hpt] at qt
      have QK := qab.mk qk
      have QT := qab.mk qt
      have HT : qab (∀ W, Below wr.heap.size wr W → (W.cell? ⟨gd, 2, none⟩ = some (.slice A2 l2.length c2) ∧ W.cell? ⟨gd, 1, none⟩ = some (.slice (some a1) l1.length c1) ∧ W.cell? ⟨ge, 0, none⟩ = some (.int .i64 e0) ∧ W.cell? (ar.add (k - 1)) = some (.int .i64 (p : Int)) ∧ W.cell? ⟨(a1.add (p * 4)).block, (a1.add (p * 4)).off + 1, none⟩ = some (.int .i64 pt) ∧ qab (Below wr.heap.size wr W))) := ⟨fun W h => ⟨(HT.out W h).1, (HT.out W h).2.1, (HT.out W h).2.2.1, ((qae HB.out h).cell (World.block_lt_of_cell? w _ QK.out)).trans QK.out, ((qae HB.out h).cell (World.block_lt_of_cell? w _ QT.out)).trans QT.out, ⟨h⟩⟩⟩
      have HYS2 : qab (endsTo d l1 l2 l4 route (k + 1) = if pt = e0 then some Y else none) := ⟨by rw [HYS.out, if_neg (by omega), HP1.out, hpt]⟩
      clear qk qt hpt
      by_cases hpe : pt = e0
      ·
       have hne : (pt != e0) = false := by simp [hpe]
       have HYS3 : qab (endsTo d l1 l2 l4 route (k + 1) = some Y) := ⟨by rw [HYS2.out, if_pos hpe]⟩
       clear hpe
       refine start_ (n := 39) (S := (fun w' => (w'.cell? ⟨gd, 2, none⟩ = some (.slice A2 l2.length c2) ∧ w'.cell? ⟨gd, 1, none⟩ = some (.slice (some a1) l1.length c1) ∧ w'.cell? ⟨ge, 0, none⟩ = some (.int .i64 e0) ∧ w'.cell? (ar.add (k - 1)) = some (.int .i64 (p : Int)) ∧ w'.cell? ⟨(a1.add (p * 4)).block, (a1.add (p * 4)).off + 1, none⟩ = some (.int .i64 pt) ∧ qab (Below wr.heap.size wr w')))) (ds := []) (msk 39 0) (by kernel_rfl) rfl rfl (HT.out _ (qaq (Below.refl _ _))) (fun hHeld => ?_)
       have HP6 := qab.mk hHeld
       refine zq 0 1 43 ?_
       refine zq 1 2 44 ?_
       refine zq 2 3 45 ?_
       refine zq 3 4 46 ?_
       refine zq 4 5 47 ?_
       refine zq 5 6 48 ?_
       refine zo 6 7 49 ?_
       refine zo 7 8 50 ?_
       refine zo 8 9 51 ?_
       refine zo 9 10 52 ?_
       refine zo 10 11 53 ?_
       refine zo 11 12 54 ?_
       refine zo 12 13 55 ?_
       refine zo 13 14 56 ?_
       refine zo 14 15 57 ?_
       refine zq 15 16 58 ?_
       refine zq 16 17 59 ?_
       refine zq 17 18 60 ?_
       refine zq 18 19 61 ?_
       refine zq 19 20 62 ?_
       refine zq 20 21 63 ?_
       refine zq 21 22 64 ?_
       refine zq 22 23 65 ?_
       refine zq 23 24 66 ?_
       refine zq 24 25 67 ?_
       refine zt6 25 26 68 hHeld ?_
       refine zq 26 27 69 ?_
       refine zq 27 28 70 ?_
       refine zq 28 29 71 ?_
       refine zq 29 30 72 ?_
       refine zt6 30 31 73 hHeld ?_
       refine zq 31 32 74 ?_
       refine zq 32 33 75 ?_
       refine zt6 33 34 76 hHeld ?_
       refine zq 34 35 77 ?_
       refine zt6 35 36 78 hHeld ?_
       refine zq 36 37 79 ?_
       refine zq 37 38 80 ?_
       refine zq 38 39 81 ?_
       refine done_ (by kernel_rfl) ?_
       have HZ6 := HP6.out.2.2.2.2.2
       clear HP6 hHeld hkw
       go_wp2
       go_roundw
       case rel => exact ⟨k + 1, Y, by omega, hY100, by go_num, rfl, HYS3, ⟨qae HB.out HZ6.out⟩⟩
       case measure => simp [intOf]; omega
      ·
       have hne : (pt != e0) = true := by simp [hpe]
       have HYS3 : qab (endsTo d l1 l2 l4 route (k + 1) = none) := ⟨by rw [HYS2.out, if_neg hpe]⟩
       clear hpe
       refine start_ (n := 39) (S := (fun w' => (w'.cell? ⟨gd, 2, none⟩ = some (.slice A2 l2.length c2) ∧ w'.cell? ⟨gd, 1, none⟩ = some (.slice (some a1) l1.length c1) ∧ w'.cell? ⟨ge, 0, none⟩ = some (.int .i64 e0) ∧ w'.cell? (ar.add (k - 1)) = some (.int .i64 (p : Int)) ∧ w'.cell? ⟨(a1.add (p * 4)).block, (a1.add (p * 4)).off + 1, none⟩ = some (.int .i64 pt) ∧ qab (Below wr.heap.size wr w')))) (ds := []) (msk 39 0) (by kernel_rfl) rfl rfl (HT.out _ (qaq (Below.refl _ _))) (fun hHeld => ?_)
       have HP6 := qab.mk hHeld
       refine zq 0 1 43 ?_
       refine zq 1 2 44 ?_
       refine zq 2 3 45 ?_
       refine zq 3 4 46 ?_
       refine zq 4 5 47 ?_
       refine zq 5 6 48 ?_
       refine zo 6 7 49 ?_
       refine zo 7 8 50 ?_
       refine zo 8 9 51 ?_
       refine zo 9 10 52 ?_
       refine zo 10 11 53 ?_
       refine zo 11 12 54 ?_
       refine zo 12 13 55 ?_
       refine zo 13 14 56 ?_
       refine zo 14 15 57 ?_
       refine zq 15 16 58 ?_
       refine zq 16 17 59 ?_
       refine zq 17 18 60 ?_
       refine zq 18 19 61 ?_
       refine zq 19 20 62 ?_
       refine zq 20 21 63 ?_
       refine zq 21 22 64 ?_
       refine zq 22 23 65 ?_
       refine zq 23 24 66 ?_
       refine zq 24 25 67 ?_
       refine zt6 25 26 68 hHeld ?_
       refine zq 26 27 69 ?_
       refine zq 27 28 70 ?_
       refine zq 28 29 71 ?_
       refine zq 29 30 72 ?_
       refine zt6 30 31 73 hHeld ?_
       refine zq 31 32 74 ?_
       refine zq 32 33 75 ?_
       refine zt6 33 34 76 hHeld ?_
       refine zq 34 35 77 ?_
       refine zt6 35 36 78 hHeld ?_
       refine zq 36 37 79 ?_
       refine zq 37 38 80 ?_
       refine zq 38 39 81 ?_
       refine done_ (by kernel_rfl) ?_
       have HZ6 := HP6.out.2.2.2.2.2
       clear HP6 hHeld hkw
       go_wp2
       exact ⟨rfl, HPOST.out _ HYS3.out, qae HB.out HZ6.out⟩
   ·
    have hkE : k = route.length := by omega
    have HEN : qab (endsV d l1 l2 l4 route = some [(qav l1 (rd route (route.length - 1 : Nat))).f1]) := ⟨by rw [HZ.out, ← hkE, HE.out]; rfl⟩
    clear hkE HE
    obtain ⟨nr, hnr⟩ : ∃ nr, nr = route.length := ⟨_, rfl⟩
    have hk1 : route.length - 1 < route.length := by omega
    have hkw : wrap64 ((route.length : Int) - 1) = ((route.length - 1 : Nat) : Int) := by unfold wrap64; omega
    obtain ⟨ar, e, qk⟩ := Kd.at_int HRR.out (route.length - 1 : Nat) (by omega) (by omega)
    cases e
    have hpx := HRE.out (route.length - 1) hk1
    obtain ⟨p, hp⟩ := Int.eq_ofNat_of_zero_le hpx.1
    have hp1 : p < l1.length := by omega
    rw [hp] at HEN qk
    clear hp hpx
    obtain ⟨a1, e, _, qt, _, _⟩ := at_T44 HR1.out p (by omega) (by omega)
    cases e
    simp only [Int.toNat_natCast] at qk qt
    obtain ⟨pt, hpt⟩ : ∃ x, x = (qav l1 p).f1 := ⟨_, rfl⟩
    rw [← hpt] at qt HEN
    replace qk := (HB.out.cell (World.block_lt_of_cell? w _ qk)).trans qk; replace qt := (HB.out.cell (World.block_lt_of_cell? w _ qt)).trans qt
    have g1 : wr.cell? ⟨gd, 1, none⟩ = some (.slice (some a1) l1.length c1) := (qaa (qad HD.out HB.out) 1).trans rfl
    clear hpt hnr nr
    go_upto_region 13 with fail
    refine start_ (n := 16) (S := (fun w' => (w'.cell? ⟨gd, 1, none⟩ = some (.slice (some a1) l1.length c1) ∧ w'.cell? (ar.add (route.length - 1)) = some (.int .i64 (p : Int)) ∧ w'.cell? ⟨(a1.add (p * 4)).block, (a1.add (p * 4)).off + 1, none⟩ = some (.int .i64 pt)))) (ds := [14]) (msk 16 0) (by kernel_rfl) rfl rfl ⟨g1, qk, qt⟩ (fun hHeld => ?_)
    refine zq 0 1 87 ?_
    refine zq 1 2 88 ?_
    refine zq 2 3 89 ?_
    refine zq 3 4 90 ?_
    refine zt3 4 5 91 hHeld ?_
    refine zq 5 6 92 ?_
    refine zq 6 7 93 ?_
    refine zq 7 8 94 ?_
    refine zq 8 9 95 ?_
    refine zq 9 10 96 ?_
    refine zt3 10 11 97 hHeld ?_
    refine zq 11 12 98 ?_
    refine zq 12 13 99 ?_
    refine zt3 13 14 100 hHeld ?_
    refine last_ (i := 14) (N := some 101) (msk 16 15) rfl rfl (by kernel_rfl) (by decide) (fun K hK => ?_); refine value_ (w1 := ?_) (v := ?_) (by rfl) rfl ?_ ?_; rotate_left 2; (focus (go_simp; constructor; rfl; rfl)); refine hK.out _ _ ?_; clear hK K; refine zn 101 ?_
    refine zq 15 16 6 ?_
    refine done_ (by kernel_rfl) ?_
    go_wp2
    go_ret
    refine ⟨by rw [HEN.out]; exact ⟨_, 1, rfl, by simp, C_blk (xs := [pt]) (blk_new _ _) (by simp)⟩, qag (qaq HB.out) _⟩
def ap (u v : Value) : Prop := ∀ k, u.ownBlock = some k → v.ownBlock ≠ some k
theorem ap.symm {u v : Value} (h : ap u v) : ap v u := fun k hk e => h k e hk
theorem ap_nil (v : Value) : ap (.slice none 0 0) v := fun k hk => by simp [Value.ownBlock] at hk
structure Rows4 (w5 : World) (a b c d : Value) (la lb lc ld : List Int) (W : World) : Prop where
 hb : Below w5.heap.size w5 W
 ra : Kd.R (Kd.int .i64) 3 W w5.heap.size (fun _ => True) a la
 rb : Kd.R (Kd.int .i64) 3 W w5.heap.size (fun _ => True) b lb
 rc : Kd.R (Kd.int .i64) 3 W w5.heap.size (fun _ => True) c lc
 rd : Kd.R (Kd.int .i64) 3 W w5.heap.size (fun _ => True) d ld
 ab : ap a b
 ac : ap a c
 ad : ap a d
 bc : ap b c
 bd : ap b d
 cd : ap c d
section
variable {w5 W W' : World} {a b c d a1 : Value} {la lb lc ld : List Int}
theorem Rows4.below (h : Rows4 w5 a b c d la lb lc ld W) (hb : Below W.heap.size W W') : Rows4 w5 a b c d la lb lc ld W' := ⟨qae h.hb hb, Kd.qal h.ra hb, Kd.qal h.rb hb, Kd.qal h.rc hb, Kd.qal h.rd hb, h.ab, h.ac, h.ad, h.bc, h.bd, h.cd⟩
theorem Rows4.swap (h : Rows4 w5 a b c d la lb lc ld W) : Rows4 w5 c d a b lc ld la lb W := ⟨h.hb, h.rc, h.rd, h.ra, h.rb, h.cd, h.ac.symm, h.bc.symm, h.ad.symm, h.bd.symm, h.ab⟩
theorem Rows4.flip (h : Rows4 w5 a b c d la lb lc ld W) : Rows4 w5 b a c d lb la lc ld W := ⟨h.hb, h.rb, h.ra, h.rc, h.rd, h.ab.symm, h.bc, h.bd, h.ac, h.ad, h.cd⟩
theorem ap_new {v : Value} {lv : List Int} (h : ap a v) (hv : Kd.R (Kd.int .i64) 3 W w5.heap.size (fun _ => True) v lv) (hat : a1.ownBlock = a.ownBlock ∨ ∃ b, a1.ownBlock = some b ∧ W.heap.size ≤ b) : ap a1 v := by
 intro k hk e
 rcases hat with h1 | ⟨b, h1, h2⟩
 ·
  exact h k (h1.symm.trans hk) e
 ·
  have := Kd.R_lt hv k e
  rw [h1] at hk
  injection hk with hk
  omega
theorem Rows4.growA {l2 : List Int} (h : Rows4 w5 a b c d la lb lc ld W) (ho : Kd.R (Kd.int .i64) 3 W' w5.heap.size (fun _ => True) a1 l2) (hB : Below w5.heap.size w5 W') (hg : W.grownBy W' a.ownBlock) (hat : a1.ownBlock = a.ownBlock ∨ ∃ b, a1.ownBlock = some b ∧ W.heap.size ≤ b) : Rows4 w5 a1 b c d l2 lb lc ld W' :=
 ⟨hB, ho, Kd.R_grown2 h.rb rfl hg (fun k hk e => h.ab k hk e.symm), Kd.R_grown2 h.rc rfl hg (fun k hk e => h.ac k hk e.symm), Kd.R_grown2 h.rd rfl hg (fun k hk e => h.ad k hk e.symm), ap_new h.ab h.rb hat, ap_new h.ac h.rc hat, ap_new h.ad h.rd hat, h.bc, h.bd, h.cd⟩
theorem Rows4.growB {l2 : List Int} {b1 : Value} (h : Rows4 w5 a b c d la lb lc ld W) (ho : Kd.R (Kd.int .i64) 3 W' w5.heap.size (fun _ => True) b1 l2) (hB : Below w5.heap.size w5 W') (hg : W.grownBy W' b.ownBlock) (hat : b1.ownBlock = b.ownBlock ∨ ∃ k, b1.ownBlock = some k ∧ W.heap.size ≤ k) : Rows4 w5 a b1 c d la l2 lc ld W' :=
 (h.flip.growA ho hB hg hat).flip
theorem Rows4.set {g t : Nat} {cs : Array Value} (h : Rows4 w5 a b c d la lb lc ld W) (hb : W.heap[g]? = some (.cells cs t (0, 0))) (hl : w5.heap.size ≤ g) (i : Nat) (u : Value) (ht : ∀ q, q ∈ 3 :: (Kd.int .i64).E → q ≠ t := by decide) : Rows4 w5 a b c d la lb lc ld (W.setCell ⟨g, i, none⟩ u) :=
 ⟨qaj h.hb hl, Kd.R_set h.ra hb ht i u, Kd.R_set h.rb hb ht i u, Kd.R_set h.rc hb ht i u, Kd.R_set h.rd hb ht i u, h.ab, h.ac, h.ad, h.bc, h.bd, h.cd⟩
end
structure DQ (w5 : World) (gT gU ge : Nat) (cT cU ex : Array Value) (W : World) : Prop where
 hb : Below w5.heap.size w5 W
 xT : W.heap[gT]? = some (.cells cT 67 (0, 0))
 xU : W.heap[gU]? = some (.cells cU 67 (0, 0))
 e : W.heap[ge]? = some (.cells ex 95 (0, 0))
 lT : w5.heap.size ≤ gT
 lU : w5.heap.size ≤ gU
 ne : gT ≠ gU
section
variable {w5 W W' : World} {gT gU ge : Nat} {cT cU ex : Array Value}
theorem DQ.below (h : DQ w5 gT gU ge cT cU ex W) (hb : Below W.heap.size W W') : DQ w5 gT gU ge cT cU ex W' := ⟨qae h.hb hb, qad h.xT hb, qad h.xU hb, qad h.e hb, h.lT, h.lU, h.ne⟩
theorem DQ.grown {u : Value} {base : Nat} {ok : Nat → Prop} {l : List Int} (h : DQ w5 gT gU ge cT cU ex W) (hr : Kd.R (Kd.int .i64) 3 W base ok u l) (hg : W.grownBy W' u.ownBlock) (hb : Below w5.heap.size w5 W') : DQ w5 gT gU ge cT cU ex W' :=
 ⟨hb, blk_grown h.xT hg (Kd.R_ne hr h.xT (by decide)), blk_grown h.xU hg (Kd.R_ne hr h.xU (by decide)), blk_grown h.e hg (Kd.R_ne hr h.e (by decide)), h.lT, h.lU, h.ne⟩
theorem DQ.put {t a b : Value} (h : DQ w5 gT gU ge #[t, a, b] cU ex W) (u v : Value) : DQ w5 gT gU ge #[t, u, v] cU ex ((W.setCell ⟨gT, 1, none⟩ u).setCell ⟨gT, 2, none⟩ v) :=
 ⟨qaj (qaj h.hb h.lT) h.lT, blk_set (blk_set h.xT 1 u) 2 v, blk_far (p := ⟨gT, 2, none⟩) (blk_far (p := ⟨gT, 1, none⟩) h.xU h.ne.symm u) h.ne.symm v, blk_far (p := ⟨gT, 2, none⟩) (blk_far (p := ⟨gT, 1, none⟩) h.e (blk_ne h.e h.xT (by decide)) u) (blk_ne h.e h.xT (by decide)) v, h.lT, h.lU, h.ne⟩
theorem DQ.turn (h : DQ w5 gT gU ge cT cU ex W) : DQ w5 gU gT ge cU cT ex W := ⟨h.hb, h.xU, h.xT, h.e, h.lU, h.lT, h.ne.symm⟩
end
theorem Rows4.setAll {w5 : World} {a b c d : Value} {la lb lc ld : List Int} {g t : Nat} (ht : ∀ q, q ∈ 3 :: (Kd.int .i64).E → q ≠ t) (hl : w5.heap.size ≤ g) : ∀ (vs : List Value) (i : Nat) (W : World) (cs : Array Value), W.heap[g]? = some (.cells cs t (0, 0)) → Rows4 w5 a b c d la lb lc ld W → Rows4 w5 a b c d la lb lc ld (setAll W g vs i)
 | [], _, _, _, _, h => h
 | u :: vs, i, W, cs, hb, h => Rows4.setAll ht hl vs (i + 1) _ _ (blk_set hb i u) (h.set hb hl i u ht)
def colL (f : S95 → Int) (ls : List S95) (i : Nat) : List Int := (ls.take i).map f
theorem colL_succ (f : S95 → Int) (ls : List S95) (i : Nat) (hi : i < ls.length) : colL f ls (i + 1) = colL f ls i ++ [f (rd_T95 ls i)] := by
 unfold colL
 rw [List.take_succ, List.getElem?_eq_getElem hi, List.map_append]
 congr 1
 simp [rd_T95, hi]
theorem colL_len (f : S95 → Int) (ls : List S95) (i : Nat) (hi : i ≤ ls.length) : (colL f ls i).length = i := by simp [colL]; omega
theorem colL_all (f : S95 → Int) (ls : List S95) : colL f ls ls.length = ls.map f := by simp [colL]
end Go.Proofs.Ytafkanmioinbiaa.SA
