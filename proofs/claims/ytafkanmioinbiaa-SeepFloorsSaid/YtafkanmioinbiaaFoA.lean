/- What functions of the program answer. No condition. -/
import Derived.Test.YtafkanmioinbiaaSC
import Derived.Test.YtafkanmioinbiaaSD
import Derived.Test.YtafkanmioinbiaaSF
import Derived.RangeFuncNested
import Derived.RangeFuncBound
import Derived.RangeFuncCalls
import Derived.RangeFuncLeaves
import Derived.RangeFuncBox
import Derived.Shelf.Abstract
import Derived.Shelf.RegionOpen
import Derived.OwnWalkIn
import Derived.TacticsInMore
import Derived.LoopNIn
import Derived.LoopIn
import Derived.Recover
import Derived.Defers
import Derived.WalkLawsBesides
import Derived.WalkSmall
import Derived.Test.YtafkanmioinbiaaSE
import Derived.Test.YtafkanmioinbiaaSG
import Derived.Test.YtafkanmioinbiaaSH
import Derived.Test.YtafkanmioinbiaaSQ
import Derived.Test.YtafkanmioinbiaaSK
set_option linter.all false
set_option maxRecDepth 100000
set_option maxHeartbeats 8000000
namespace Go.Proofs.Ytafkanmioinbiaa.SA
open Go.RowKit Go.Proofs.YtafkanmioinbiaaW.PrintWords Go.Proofs.YtafkanmioinbiaaW.PrintLast Go.Proofs.YtafkanmioinbiaaW.PrintMore
attribute [local go_sem] qax qaz max_two min_two qao qap qay qba
def talikref07_in.f (a0 : Int) (a1 : Int) (a2 : Int) : Option (Bool) := if a0 ≥ a1 then (some (decide (a0 ≤ a2))) else (some false)
theorem talikref07_in.calls (a0 : Int) (a1 : Int) (a2 : Int) (r : Bool) (w : World) (h : talikref07_in.f a0 a1 a2 = some r) :
  Calls Try.prog 57 #[.int .i64 a0, .int .i64 a1, .int .i64 a2] w fun e w' => e = .returned (.bool r) ∧ qar w w' := by
 have H : (if a0 ≥ a1 then (some (decide (a0 ≤ a2))) else (some false)) = some r := h
 clear h
 by_cases c4 : a0 ≥ a1
 ·
  rw [if_pos c4] at H
  have c4b0 : decide (a1 ≤ a0) = true := decide_eq_true c4
  clear c4
  obtain rfl := Option.some.inj H
  go_enter Try.func57, Try.ntmps57
  go_wp2
  go_ret
  exact ⟨by first | rfl | (simp; done) | (simp [*]; done), by repeat (first | exact qar.refl _ | apply qar.step)⟩
 ·
  rw [if_neg c4] at H
  have c4b0 : decide (a1 ≤ a0) = false := decide_eq_false c4
  clear c4
  obtain rfl := Option.some.inj H
  go_enter Try.func57, Try.ntmps57
  go_wp2
  go_ret
  exact ⟨by first | rfl | (simp; done) | (simp [*]; done), by repeat (first | exact qar.refl _ | apply qar.step)⟩
def talikref07_Span.f (a0_0 : Int) (a0_1 : Int) (a1 : Int) : Option (Bool) := if a0_0 ≥ 0 then (if a0_0 ≤ a0_1 then (some (decide (a0_1 ≤ a1))) else (some false)) else (some false)
theorem talikref07_Span.calls (a0_0 : Int) (a0_1 : Int) (a1 : Int) (r : Bool) (w : World) (h : talikref07_Span.f a0_0 a0_1 a1 = some r) :
  Calls Try.prog 60 #[.agg #[.int .i64 a0_0, .int .i64 a0_1], .int .i64 a1] w fun e w' => e = .returned (.bool r) ∧ Below w.heap.size w w' := by
 have hu41 := Try.underlying41
 have HB := qab.mk (Below.refl w.heap.size w)
 have H : (if a0_0 ≥ 0 then (if a0_0 ≤ a0_1 then (some (decide (a0_1 ≤ a1))) else (some false)) else (some false)) = some r := h
 clear h
 by_cases c3 : a0_0 ≥ 0
 ·
  rw [if_pos c3] at H
  have c3b0 : decide (0 ≤ a0_0) = true := decide_eq_true c3
  clear c3
  by_cases c4 : a0_0 ≤ a0_1
  ·
   rw [if_pos c4] at H
   have c4b0 : decide (a0_0 ≤ a0_1) = true := decide_eq_true c4
   clear c4
   obtain rfl := Option.some.inj H
   go_enter Try.func60, Try.ntmps60
   go_wp2_with (first | ((with_reducible refine qam (N := 2) rfl ?_); refine ze 2 #[.int .i64 a0_0, .int .i64 a0_1] 41 ?_; intro gb189 hg w5 hbox hb; have n0_ := qab.mk (qae (zb HB.out) hb); have n1_ := qab.mk (hbox); have n2_ := qab.mk ((by rw [hg]; exact (below_size (zb HB.out)) : w.heap.size ≤ gb189)); have n3_ := qab.mk ((by rw [hg]; exact (below_size (zb HB.out)) : w.heap.size ≤ gb189)); clear HB; have HB := n0_; have BK189 := n1_; have GW189 := n2_; have GE189 := n3_; clear n0_ n1_ n2_ n3_; clear hb hbox hg; obtain ⟨hfz_, hcz6_0, hcz6_1⟩ := qz2 BK189.out))
   go_ret
   exact ⟨by first | rfl | (simp [qbb, qbc] <;> rfl) | (simp [*, qbb, qbc] <;> rfl), by repeat (first | (with_reducible first | exact HB.out | apply qag | apply qaf | apply qah | refine qaj ?_ GE189.out) | exact HB.out)⟩
  ·
   rw [if_neg c4] at H
   have c4b0 : decide (a0_0 ≤ a0_1) = false := decide_eq_false c4
   clear c4
   obtain rfl := Option.some.inj H
   go_enter Try.func60, Try.ntmps60
   go_wp2_with (first | ((with_reducible refine qam (N := 2) rfl ?_); refine ze 2 #[.int .i64 a0_0, .int .i64 a0_1] 41 ?_; intro gb189 hg w7 hbox hb; have n0_ := qab.mk (qae (zb HB.out) hb); have n1_ := qab.mk (hbox); have n2_ := qab.mk ((by rw [hg]; exact (below_size (zb HB.out)) : w.heap.size ≤ gb189)); have n3_ := qab.mk ((by rw [hg]; exact (below_size (zb HB.out)) : w.heap.size ≤ gb189)); clear HB; have HB := n0_; have BK189 := n1_; have GW189 := n2_; have GE189 := n3_; clear n0_ n1_ n2_ n3_; clear hb hbox hg; obtain ⟨hfz_, hcz8_0, hcz8_1⟩ := qz2 BK189.out))
   go_ret
   exact ⟨by first | rfl | (simp [qbb, qbc] <;> rfl) | (simp [*, qbb, qbc] <;> rfl), by repeat (first | (with_reducible first | exact HB.out | apply qag | apply qaf | apply qah | refine qaj ?_ GE189.out) | exact HB.out)⟩
 ·
  rw [if_neg c3] at H
  have c3b0 : decide (0 ≤ a0_0) = false := decide_eq_false c3
  clear c3
  obtain rfl := Option.some.inj H
  go_enter Try.func60, Try.ntmps60
  go_wp2_with (first | ((with_reducible refine qam (N := 2) rfl ?_); refine ze 2 #[.int .i64 a0_0, .int .i64 a0_1] 41 ?_; intro gb189 hg w9 hbox hb; have n0_ := qab.mk (qae (zb HB.out) hb); have n1_ := qab.mk (hbox); have n2_ := qab.mk ((by rw [hg]; exact (below_size (zb HB.out)) : w.heap.size ≤ gb189)); have n3_ := qab.mk ((by rw [hg]; exact (below_size (zb HB.out)) : w.heap.size ≤ gb189)); clear HB; have HB := n0_; have BK189 := n1_; have GW189 := n2_; have GE189 := n3_; clear n0_ n1_ n2_ n3_; clear hb hbox hg; obtain ⟨hfz_, hcz10_0, hcz10_1⟩ := qz2 BK189.out))
  go_ret
  exact ⟨by first | rfl | (simp [qbb, qbc] <;> rfl) | (simp [*, qbb, qbc] <;> rfl), by repeat (first | (with_reducible first | exact HB.out | apply qag | apply qaf | apply qah | refine qaj ?_ GE189.out) | exact HB.out)⟩
theorem ref_in_eq (x lo hi : Int) : talikref07_in.f x lo hi = some (inB x lo hi) := by
 unfold talikref07_in.f inB
 by_cases h : x ≥ lo <;> simp [h]
theorem ref_Span_eq (a b hi : Int) : talikref07_Span.f a b hi = some (spanB ⟨a, b⟩ hi) := by
 unfold talikref07_Span.f spanB
 by_cases h : a ≥ 0 <;> by_cases h2 : a ≤ b <;> simp [h, h2]
theorem rin_calls (x lo hi : Int) (W : World) : Calls Try.prog 57 #[.int .i64 x, .int .i64 lo, .int .i64 hi] W fun e w' => e = .returned (.bool (inB x lo hi)) ∧ Below W.heap.size W w' :=
 (talikref07_in.calls x lo hi _ W (ref_in_eq x lo hi)).mono fun e w' ⟨h1, h2⟩ => ⟨h1, h2.below⟩
theorem rspan_calls (s : S41) (hi : Int) (W : World) : Calls Try.prog 60 #[.agg #[.int .i64 s.f0, .int .i64 s.f1], .int .i64 hi] W fun e w' => e = .returned (.bool (spanB s hi)) ∧ Below W.heap.size W w' :=
 (talikref07_Span.calls s.f0 s.f1 hi _ W (ref_Span_eq s.f0 s.f1 hi))
def talikref07_Rising.f (l0 : List Int) (a1 : Int) : Option (Bool) := some (incB l0 a1)
theorem talikref07_Rising.calls (A0 : Option Addr) (c0 : Nat) (l0 : List Int) (a1 : Int) (r : Bool) (w : World) (hr0 : Kd.C (Kd.int .i64) w A0 l0.length l0) (hc0 : l0.length ≤ c0) (h : talikref07_Rising.f l0 a1 = some r) :
  Calls Try.prog 61 #[.slice A0 l0.length c0, .int .i64 a1] w fun e w' => e = .returned (.bool r) ∧ Below w.heap.size w w' := by
 obtain rfl := Option.some.inj h
 clear h
 have m0 := Kd.C_max hr0
 have HR := qab.mk hr0
 have HB := qab.mk (Below.refl w.heap.size w)
 obtain ⟨bb, hbb⟩ : ∃ b, wrap64 (a1 - 1) = b := ⟨_, rfl⟩
 have HBB := qab.mk hbb
 have hbw : IntKind.i64.wrap (a1 - 1) = bb := (i64_w _).trans hbb
 clear hr0 hc0 hbb
 go_enter Try.func61, Try.ntmps61
 go_wp2
 go_loopw [5] (fun s5 wr => ∃ k : Nat, k ≤ l0.length ∧ s5 = .int .i64 k ∧ qab (∀ j : Nat, j < k → incAt l0 a1 j = true) ∧ qab (Below w.heap.size w wr)) (fun s _ => l0.length - (intOf s).toNat)
 case atStart => exact ⟨0, by omega, rfl, ⟨fun j h1 => by omega⟩, HB⟩
 case round =>
  clear HB
  obtain ⟨k, hk1, rfl, HN, HB⟩ := hrel
  by_cases hlt : k < l0.length
  ·
   obtain ⟨ad, e, t1⟩ := Kd.at_int HR.out k (by omega) (by omega)
   cases e
   simp only [Int.toNat_natCast] at t1
   obtain ⟨x, hx⟩ : ∃ x, x = rd l0 k := ⟨_, rfl⟩
   rw [← hx] at t1
   have T1 := qab.mk t1
   have HX : qab (l0.getD k 0 = x) := ⟨by rw [hx]; simp [rd]⟩
   obtain ⟨b1, hb1⟩ : ∃ b, b = inB x 0 bb := ⟨_, rfl⟩
   have HIN : qab (∀ W, Calls Try.prog 57 #[.int .i64 x, .int .i64 0, .int .i64 bb] W fun e w' => e = .returned (.bool b1) ∧ Below W.heap.size W w') := ⟨fun W => by rw [hb1]; exact rin_calls _ _ _ W⟩
   have HA : qab (incAt l0 a1 k = (b1 && (decide (k = 0) || decide (l0.getD (k - 1) 0 < x)))) := ⟨by unfold incAt; rw [HX.out, HBB.out, hb1]⟩
   clear t1 hx hb1 HX
   go_upto_region 4 with fail
   cases b1 with
   | false =>
    have HV : qab (incB l0 a1 = false) := ⟨range_all_false k hlt (by rw [HA.out]; rfl)⟩
    have HT : qab (∀ W, Below w.heap.size w W → (W.cell? (ad.add k) = some (.int .i64 x) ∧ qab (Below w.heap.size w W))) := ⟨fun W h => ⟨(h.cell (World.block_lt_of_cell? w _ T1.out)).trans T1.out, ⟨h⟩⟩⟩
    refine start_ (n := 24) (S := (fun w' => (w'.cell? (ad.add k) = some (.int .i64 x) ∧ qab (Below w.heap.size w w')))) (ds := []) (msk 24 0) (by kernel_rfl) rfl rfl (HT.out _ (qaq HB.out)) (fun hHeld => ?_)
    refine zq 0 1 12 ?_
    refine zq 1 2 13 ?_
    refine zq 2 3 14 ?_
    refine zt2 3 4 15 hHeld ?_
    refine zq 4 5 16 ?_
    refine zq 5 6 17 ?_
    refine one_ (i := 6) (N := some 18) (msk 24 7) rfl rfl (by kernel_rfl) (by decide) (fun K hK => ?_)
    refine zg Try.func57 #[.int .i64 x, .int .i64 0, .int .i64 bb] ?_
    refine (HIN.out _).mono ?_; rintro e w5 ⟨rfl, hb⟩; have HP5 := qab.mk (HT.out w5 (qae hHeld.2.out hb)); clear hb; refine ⟨_, rfl, ?_⟩; refine hK.out _ _ HP5.out (fun hHeld => ?_); clear hK K; refine zn 18 ?_
    refine zq 7 8 19 ?_
    refine zq 8 9 20 ?_
    refine zo 9 10 21 ?_
    refine zo 10 11 22 ?_
    refine zo 11 12 23 ?_
    refine zo 12 13 24 ?_
    refine zo 13 14 25 ?_
    refine zo 14 15 26 ?_
    refine zo 15 16 27 ?_
    refine zo 16 17 28 ?_
    refine zo 17 18 29 ?_
    refine zo 18 19 30 ?_
    refine zo 19 20 31 ?_
    refine zo 20 21 32 ?_
    refine zo 21 22 33 ?_
    refine zo 22 23 34 ?_
    refine zq 23 24 35 ?_
    refine done_ (by kernel_rfl) ?_
    clear hHeld
    go_wp2
    go_ret
    exact ⟨by rw [HV.out]; rfl, HP5.out.2.out⟩
   | true =>
    rcases Nat.eq_zero_or_pos k with hk | hk
    ·
     have HV : qab (incAt l0 a1 k = true) := ⟨by rw [HA.out, hk]; rfl⟩
     have hk0 : decide (0 < (k : Int)) = false := decide_eq_false (by omega)
     have hk0n : decide (0 < k) = false := decide_eq_false (by omega)
     clear hk
     have HT : qab (∀ W, Below w.heap.size w W → (W.cell? (ad.add k) = some (.int .i64 x) ∧ qab (Below w.heap.size w W))) := ⟨fun W h => ⟨(h.cell (World.block_lt_of_cell? w _ T1.out)).trans T1.out, ⟨h⟩⟩⟩
     refine start_ (n := 24) (S := (fun w' => (w'.cell? (ad.add k) = some (.int .i64 x) ∧ qab (Below w.heap.size w w')))) (ds := []) (msk 24 0) (by kernel_rfl) rfl rfl (HT.out _ (qaq HB.out)) (fun hHeld => ?_)
     refine zq 0 1 12 ?_
     refine zq 1 2 13 ?_
     refine zq 2 3 14 ?_
     refine zt2 3 4 15 hHeld ?_
     refine zq 4 5 16 ?_
     refine zq 5 6 17 ?_
     refine one_ (i := 6) (N := some 18) (msk 24 7) rfl rfl (by kernel_rfl) (by decide) (fun K hK => ?_)
     refine zg Try.func57 #[.int .i64 x, .int .i64 0, .int .i64 bb] ?_
     refine (HIN.out _).mono ?_; rintro e w5 ⟨rfl, hb⟩; have HP5 := qab.mk (HT.out w5 (qae hHeld.2.out hb)); clear hb; refine ⟨_, rfl, ?_⟩; refine hK.out _ _ HP5.out (fun hHeld => ?_); clear hK K; refine zn 18 ?_
     refine zq 7 8 19 ?_
     refine zq 8 9 20 ?_
     refine zq 9 10 21 ?_
     refine zq 10 11 22 ?_
     refine zq 11 12 23 ?_
     refine zo 12 13 24 ?_
     refine zo 13 14 25 ?_
     refine zo 14 15 26 ?_
     refine zo 15 16 27 ?_
     refine zo 16 17 28 ?_
     refine zo 17 18 29 ?_
     refine zo 18 19 30 ?_
     refine zo 19 20 31 ?_
     refine zo 20 21 32 ?_
     refine zo 21 22 33 ?_
     refine zq 22 23 34 ?_
     refine zq 23 24 35 ?_
     refine done_ (by kernel_rfl) ?_
     clear hHeld
     go_wp2
     go_roundw
     case rel => exact ⟨k + 1, by omega, by go_num, ⟨fun i hi => by
      rcases Nat.lt_or_ge i k with h | h
      ·
       exact HN.out i h
      ·
       obtain rfl : i = k := by omega
       exact HV.out⟩, HP5.out.2⟩
     case measure => simp [intOf]; omega
    ·
     obtain ⟨j, hj⟩ : ∃ j, k = j + 1 := ⟨k - 1, by omega⟩
     obtain ⟨_, e, t2⟩ := Kd.at_int HR.out j (by omega) (by omega)
     cases e
     simp only [Int.toNat_natCast] at t2
     obtain ⟨y, hy⟩ : ∃ y, y = rd l0 j := ⟨_, rfl⟩
     rw [← hy] at t2
     have T2 := qab.mk t2
     have HY : qab (incAt l0 a1 k = decide (y < x)) := ⟨by rw [HA.out, hy, hj]; simp [rd]⟩
     have hj1 : IntKind.i64.wrap ((k : Int) - 1) = (j : Int) := by rw [i64_w]; unfold wrap64; omega
     have hk0 : decide (0 < (k : Int)) = true := decide_eq_true (by omega)
     have hk0n : decide (0 < k) = true := decide_eq_true (by omega)
     have hjl : j < l0.length := by omega
     clear hj hk
     clear t2 hy HA
     have HT : qab (∀ W, Below w.heap.size w W → (W.cell? (ad.add k) = some (.int .i64 x) ∧ W.cell? (ad.add j) = some (.int .i64 y) ∧ qab (Below w.heap.size w W))) := ⟨fun W h => ⟨(h.cell (World.block_lt_of_cell? w _ T1.out)).trans T1.out, (h.cell (World.block_lt_of_cell? w _ T2.out)).trans T2.out, ⟨h⟩⟩⟩
     by_cases hxy : x ≤ y
     ·
      have hd : decide (x ≤ y) = true := decide_eq_true hxy
      have HV : qab (incB l0 a1 = false) := ⟨range_all_false k hlt (by rw [HY.out]; exact decide_eq_false (by omega))⟩
      clear hxy
      refine start_ (n := 24) (S := (fun w' => (w'.cell? (ad.add k) = some (.int .i64 x) ∧ w'.cell? (ad.add j) = some (.int .i64 y) ∧ qab (Below w.heap.size w w')))) (ds := []) (msk 24 0) (by kernel_rfl) rfl rfl (HT.out _ (qaq HB.out)) (fun hHeld => ?_)
      refine zq 0 1 12 ?_
      refine zq 1 2 13 ?_
      refine zq 2 3 14 ?_
      refine zt3 3 4 15 hHeld ?_
      refine zq 4 5 16 ?_
      refine zq 5 6 17 ?_
      refine one_ (i := 6) (N := some 18) (msk 24 7) rfl rfl (by kernel_rfl) (by decide) (fun K hK => ?_)
      refine zg Try.func57 #[.int .i64 x, .int .i64 0, .int .i64 bb] ?_
      refine (HIN.out _).mono ?_; rintro e w5 ⟨rfl, hb⟩; have HP5 := qab.mk (HT.out w5 (qae hHeld.2.2.out hb)); clear hb; refine ⟨_, rfl, ?_⟩; refine hK.out _ _ HP5.out (fun hHeld => ?_); clear hK K; refine zn 18 ?_
      refine zq 7 8 19 ?_
      refine zq 8 9 20 ?_
      refine zq 9 10 21 ?_
      refine zq 10 11 22 ?_
      refine zq 11 12 23 ?_
      refine zq 12 13 24 ?_
      refine zq 13 14 25 ?_
      refine zq 14 15 26 ?_
      refine zt3 15 16 27 hHeld ?_
      refine zq 16 17 28 ?_
      refine zq 17 18 29 ?_
      refine zq 18 19 30 ?_
      refine zq 19 20 31 ?_
      refine zt3 20 21 32 hHeld ?_
      refine zq 21 22 33 ?_
      refine zq 22 23 34 ?_
      refine zq 23 24 35 ?_
      refine done_ (by kernel_rfl) ?_
      clear hHeld
      go_wp2
      go_ret
      exact ⟨by rw [HV.out]; rfl, HP5.out.2.2.out⟩
     ·
      have hd : decide (x ≤ y) = false := decide_eq_false hxy
      have HV : qab (incAt l0 a1 k = true) := ⟨by rw [HY.out]; exact decide_eq_true (by omega)⟩
      clear hxy
      refine start_ (n := 24) (S := (fun w' => (w'.cell? (ad.add k) = some (.int .i64 x) ∧ w'.cell? (ad.add j) = some (.int .i64 y) ∧ qab (Below w.heap.size w w')))) (ds := []) (msk 24 0) (by kernel_rfl) rfl rfl (HT.out _ (qaq HB.out)) (fun hHeld => ?_)
      refine zq 0 1 12 ?_
      refine zq 1 2 13 ?_
      refine zq 2 3 14 ?_
      refine zt3 3 4 15 hHeld ?_
      refine zq 4 5 16 ?_
      refine zq 5 6 17 ?_
      refine one_ (i := 6) (N := some 18) (msk 24 7) rfl rfl (by kernel_rfl) (by decide) (fun K hK => ?_)
      refine zg Try.func57 #[.int .i64 x, .int .i64 0, .int .i64 bb] ?_
      refine (HIN.out _).mono ?_; rintro e w5 ⟨rfl, hb⟩; have HP5 := qab.mk (HT.out w5 (qae hHeld.2.2.out hb)); clear hb; refine ⟨_, rfl, ?_⟩; refine hK.out _ _ HP5.out (fun hHeld => ?_); clear hK K; refine zn 18 ?_
      refine zq 7 8 19 ?_
      refine zq 8 9 20 ?_
      refine zq 9 10 21 ?_
      refine zq 10 11 22 ?_
      refine zq 11 12 23 ?_
      refine zq 12 13 24 ?_
      refine zq 13 14 25 ?_
      refine zq 14 15 26 ?_
      refine zt3 15 16 27 hHeld ?_
      refine zq 16 17 28 ?_
      refine zq 17 18 29 ?_
      refine zq 18 19 30 ?_
      refine zq 19 20 31 ?_
      refine zt3 20 21 32 hHeld ?_
      refine zq 21 22 33 ?_
      refine zq 22 23 34 ?_
      refine zq 23 24 35 ?_
      refine done_ (by kernel_rfl) ?_
      clear hHeld
      go_wp2
      go_roundw
      case rel => exact ⟨k + 1, by omega, by go_num, ⟨fun i hi => by
       rcases Nat.lt_or_ge i k with h | h
       ·
        exact HN.out i h
       ·
        obtain rfl : i = k := by omega
        exact HV.out⟩, HP5.out.2.2⟩
      case measure => simp [intOf]; omega
  ·
   have HV : qab (incB l0 a1 = true) := ⟨range_all_true (fun j hj => HN.out j (by omega))⟩
   go_wp2
   go_ret
   exact ⟨by rw [HV.out]; rfl, HB.out⟩
theorem validB_thaw {p : Int} {l1 : List S44} {l2 l3 : List Int} {l4 : List S41} {l5 : List S95} (k : Nat) (hk : k < l4.length) (h : spanB (l4.getD k z41) 20000 = false) : validB p l1 l2 l3 l4 l5 = false := by
 have : l4.all (fun s => spanB s 20000) = false := by
  rw [List.all_eq_false]
  refine ⟨l4[k], List.getElem_mem hk, ?_⟩
  rw [List.getD_eq_getElem?_getD, List.getElem?_eq_getElem hk] at h
  simpa using h
 unfold validB
 rw [this]
 simp
theorem all_thaws {l4 : List S41} (h : ∀ j : Nat, j < l4.length → spanB (l4.getD j z41) 20000 = true) : l4.all (fun s => spanB s 20000) = true := by
 rw [List.all_eq_true]
 intro x hx
 obtain ⟨j, hj, rfl⟩ := List.mem_iff_getElem.1 hx
 have := h j hj
 rwa [List.getD_eq_getElem?_getD, List.getElem?_eq_getElem hj] at this
def talikref07_Map.f (a0_0 : Int) (l0_1 : List (S44)) (l0_2 : List Int) (l0_3 : List Int) (l0_4 : List (S41)) (l0_5 : List (S95)) : Option (Bool) := some (validB a0_0 l0_1 l0_2 l0_3 l0_4 l0_5)
theorem talikref07_Map.calls (a0_0 : Int) (A0_1 : Option Addr) (c0_1 : Nat) (l0_1 : List (S44)) (A0_2 : Option Addr) (c0_2 : Nat) (l0_2 : List Int) (A0_3 : Option Addr) (c0_3 : Nat) (l0_3 : List Int) (A0_4 : Option Addr) (c0_4 : Nat) (l0_4 : List (S41)) (A0_5 : Option Addr) (c0_5 : Nat) (l0_5 : List (S95)) (r : Bool) (w : World) (hr0_1 : Kd.C k44 w A0_1 l0_1.length l0_1) (hc0_1 : l0_1.length ≤ c0_1) (hr0_2 : Kd.C (Kd.int .i64) w A0_2 l0_2.length l0_2) (hc0_2 : l0_2.length ≤ c0_2) (hr0_3 : Kd.C (Kd.int .i64) w A0_3 l0_3.length l0_3) (hc0_3 : l0_3.length ≤ c0_3) (hr0_4 : Kd.C k41 w A0_4 l0_4.length l0_4) (hc0_4 : l0_4.length ≤ c0_4) (hr0_5 : Kd.C k95 w A0_5 l0_5.length l0_5) (hc0_5 : l0_5.length ≤ c0_5) (h : talikref07_Map.f a0_0 l0_1 l0_2 l0_3 l0_4 l0_5 = some r) :
  Calls Try.prog 27 #[.agg #[.int .i64 a0_0, .slice A0_1 l0_1.length c0_1, .slice A0_2 l0_2.length c0_2, .slice A0_3 l0_3.length c0_3, .slice A0_4 l0_4.length c0_4, .slice A0_5 l0_5.length c0_5]] w fun e w' => e = .returned (.bool r) ∧ Below w.heap.size w w' := by
 obtain rfl := Option.some.inj h
 clear h
 have hu27 := Try.underlying27
 have hu44 := Try.underlying44
 have hu95 := Try.underlying95
 have hu41 := Try.underlying41
 have m1 := Kd.C_max hr0_1
 have m4 := Kd.C_max hr0_4
 have m5 := Kd.C_max hr0_5
 have HR1 := qab.mk hr0_1
 have HR2 := qab.mk hr0_2
 have HR3 := qab.mk hr0_3
 have HR4 := qab.mk hr0_4
 have HR5 := qab.mk hr0_5
 clear hr0_1 hr0_2 hr0_3 hr0_4 hr0_5
 have HB := qab.mk (Below.refl w.heap.size w)
 go_enter Try.func27, Try.ntmps27
 go_wp2_with ((with_reducible refine qam (N := 1) rfl ?_); refine ze 1 #[.int .i64 a0_0, .slice A0_1 l0_1.length c0_1, .slice A0_2 l0_2.length c0_2, .slice A0_3 l0_3.length c0_3, .slice A0_4 l0_4.length c0_4, .slice A0_5 l0_5.length c0_5] 27 ?_; intro gb hg_gb w2 hbox hb; have BKgb := qab.mk hbox; have n_HB := qab.mk (qae HB.out hb); have GEgb : w.heap.size ≤ gb := (by rw [hg_gb]; exact HB.out.size); clear HB; have HB := n_HB; clear n_HB; obtain ⟨hfgb, hcgb_0, hcgb_1, hcgb_2, hcgb_3, hcgb_4, hcgb_5⟩ := qz6 BKgb.out; clear hbox hb hg_gb)
 go_loopw [3] (fun s3 wr => ∃ k : Nat, k ≤ l0_1.length ∧ s3 = .int .i64 k ∧ qab (∀ j : Nat, j < k → edgeB a0_0 (l0_1.getD j z44) = true) ∧ qab (wr.heap[gb]? = some (.cells #[.int .i64 a0_0, .slice A0_1 l0_1.length c0_1, .slice A0_2 l0_2.length c0_2, .slice A0_3 l0_3.length c0_3, .slice A0_4 l0_4.length c0_4, .slice A0_5 l0_5.length c0_5] 27 (0, 0))) ∧ qab (Below w.heap.size w wr)) (fun s _ => l0_1.length - (intOf s).toNat)
 case atStart => exact ⟨0, by omega, rfl, ⟨fun j h1 => by omega⟩, BKgb, HB⟩
 case round =>
  clear BKgb HB hfgb hcgb_0 hcgb_1 hcgb_2 hcgb_3 hcgb_4 hcgb_5
  obtain ⟨k, hk1, rfl, HN, BKgb, HB⟩ := hrel
  obtain ⟨hfgb, hcgb_0, hcgb_1, hcgb_2, hcgb_3, hcgb_4, hcgb_5⟩ := qz6 BKgb.out
  by_cases hlt : k < l0_1.length
  ·
   obtain ⟨ad, e, q0, q1, q2, q3⟩ := at_T44 HR1.out k (by omega) (by omega)
   cases e
   replace q0 := (HB.out.cell (World.block_lt_of_cell? w _ q0)).trans q0; replace q1 := (HB.out.cell (World.block_lt_of_cell? w _ q1)).trans q1; replace q2 := (HB.out.cell (World.block_lt_of_cell? w _ q2)).trans q2; replace q3 := (HB.out.cell (World.block_lt_of_cell? w _ q3)).trans q3
   simp only [Int.toNat_natCast] at q0 q1 q2 q3
   obtain ⟨x, hx⟩ : ∃ x, x = qav l0_1 k := ⟨_, rfl⟩
   have HX : qab (l0_1.getD k z44 = x) := ⟨by rw [hx]; simp [qav]⟩
   rw [← hx] at q0 q1 q2 q3
   clear hx
   go_upto_region 5 with ((with_reducible refine qam (N := 4) rfl ?_); refine ze 4 #[.int .i64 0, .int .i64 0, .int .i64 0, .int .i64 0] 44 ?_; intro ge hg_ge w4 hbox hb; have BKge := qab.mk hbox; have ne_gb_ge : gb ≠ ge := (by rw [hg_ge]; exact Nat.ne_of_lt (blk_lt BKgb.out)); replace BKgb := qab.mk (qad BKgb.out hb); have n_HB := qab.mk (qae HB.out hb); have GEge : w.heap.size ≤ ge := (by rw [hg_ge]; exact HB.out.size); clear HB; have HB := n_HB; clear n_HB; obtain ⟨hfge, hcge_0, hcge_1, hcge_2, hcge_3⟩ := qz4 BKge.out; clear hbox hb hg_ge)
   clear q0 q1 q2 q3 hfgb hcgb_0 hcgb_1 hcgb_2 hcgb_3 hcgb_4 hcgb_5 hfge hcge_0 hcge_1 hcge_2 hcge_3
   have he_ : setAll w4 ge [.int .i64 x.f0, .int .i64 x.f1, .int .i64 x.f2, .int .i64 x.f3] 0 = ((((w4.setCell ⟨ge, 0, none⟩ (.int .i64 x.f0)).setCell ⟨ge, 1, none⟩ (.int .i64 x.f1)).setCell ⟨ge, 2, none⟩ (.int .i64 x.f2)).setCell ⟨ge, 3, none⟩ (.int .i64 x.f3)) := rfl; have hbl := setAll_below GEge [.int .i64 x.f0, .int .i64 x.f1, .int .i64 x.f2, .int .i64 x.f3] 0 _ HB.out; have hbx : (setAll w4 ge [.int .i64 x.f0, .int .i64 x.f1, .int .i64 x.f2, .int .i64 x.f3] 0).heap[ge]? = some (.cells #[.int .i64 x.f0, .int .i64 x.f1, .int .i64 x.f2, .int .i64 x.f3] 44 (0, 0)) := setAll_new [.int .i64 x.f0, .int .i64 x.f1, .int .i64 x.f2, .int .i64 x.f3] [.int .i64 0, .int .i64 0, .int .i64 0, .int .i64 0] BKge.out rfl; have hx_BKgb := setAll_far ne_gb_ge [.int .i64 x.f0, .int .i64 x.f1, .int .i64 x.f2, .int .i64 x.f3] 0 _ BKgb.out; rw [he_] at hbl hbx hx_BKgb; clear he_; generalize ((((w4.setCell ⟨ge, 0, none⟩ (.int .i64 x.f0)).setCell ⟨ge, 1, none⟩ (.int .i64 x.f1)).setCell ⟨ge, 2, none⟩ (.int .i64 x.f2)).setCell ⟨ge, 3, none⟩ (.int .i64 x.f3)) = w5 at hbl hbx hx_BKgb ⊢; clear HB BKge; have HB := qab.mk hbl; have BKge := qab.mk hbx; clear hbl hbx; clear BKgb; have BKgb := qab.mk hx_BKgb; clear hx_BKgb
   obtain ⟨hfgb, hcgb_0, hcgb_1, hcgb_2, hcgb_3, hcgb_4, hcgb_5⟩ := qz6 BKgb.out; obtain ⟨hfge, hcge_0, hcge_1, hcge_2, hcge_3⟩ := qz4 BKge.out
   obtain ⟨b1, h_b1⟩ : ∃ b, b = inB x.f0 0 (wrap64 (a0_0 - 1)) := ⟨_, rfl⟩; have H_b1 : qab (∀ W, Calls Try.prog 57 #[.int .i64 x.f0, .int .i64 0, .int .i64 (wrap64 (a0_0 - 1))] W fun e w' => e = .returned (.bool b1) ∧ Below W.heap.size W w') := ⟨fun W => by rw [h_b1]; exact rin_calls _ _ _ W⟩
   obtain ⟨b2, h_b2⟩ : ∃ b, b = inB x.f1 0 (wrap64 (a0_0 - 1)) := ⟨_, rfl⟩; have H_b2 : qab (∀ W, Calls Try.prog 57 #[.int .i64 x.f1, .int .i64 0, .int .i64 (wrap64 (a0_0 - 1))] W fun e w' => e = .returned (.bool b2) ∧ Below W.heap.size W w') := ⟨fun W => by rw [h_b2]; exact rin_calls _ _ _ W⟩
   obtain ⟨b3, h_b3⟩ : ∃ b, b = !decide (x.f0 = x.f1) := ⟨_, rfl⟩
   have hq3 : (x.f0 == x.f1) = !b3 := by rw [h_b3, Bool.not_not]; rfl
   obtain ⟨b4, h_b4⟩ : ∃ b, b = inB x.f2 0 20000 := ⟨_, rfl⟩; have H_b4 : qab (∀ W, Calls Try.prog 57 #[.int .i64 x.f2, .int .i64 0, .int .i64 20000] W fun e w' => e = .returned (.bool b4) ∧ Below W.heap.size W w') := ⟨fun W => by rw [h_b4]; exact rin_calls _ _ _ W⟩
   obtain ⟨b5, h_b5⟩ : ∃ b, b = inB x.f3 (-1) 1000000 := ⟨_, rfl⟩; have H_b5 : qab (∀ W, Calls Try.prog 57 #[.int .i64 x.f3, .int .i64 (-1), .int .i64 1000000] W fun e w' => e = .returned (.bool b5) ∧ Below W.heap.size W w') := ⟨fun W => by rw [h_b5]; exact rin_calls _ _ _ W⟩
   have HV : qab (edgeB a0_0 x = (b1 && (b2 && (b3 && (b4 && b5))))) := ⟨by rw [h_b1, h_b2, h_b3, h_b4, h_b5]; rfl⟩
   clear h_b1 h_b2 h_b3 h_b4 h_b5
   cases b1 with
   | false =>
    go_wp2_with (go_at_call 57; (with_reducible refine (H_b1.out _).mono ?_); rintro e wn ⟨rfl, hb⟩; replace BKgb := qab.mk (qad BKgb.out hb); replace BKge := qab.mk (qad BKge.out hb); replace HB := qab.mk (qae HB.out hb); clear hb; obtain ⟨hfgb, hcgb_0, hcgb_1, hcgb_2, hcgb_3, hcgb_4, hcgb_5⟩ := qz6 BKgb.out; obtain ⟨hfge, hcge_0, hcge_1, hcge_2, hcge_3⟩ := qz4 BKge.out)
    go_ret
    exact ⟨by rw [validB_edge k hlt (by rw [HX.out, HV.out]; rfl)]; rfl, HB.out⟩
   | true =>
    cases b2 with
    | false =>
     go_wp2_with (first | (go_at_call 57; (with_reducible refine (H_b1.out _).mono ?_); rintro e wn ⟨rfl, hb⟩; replace BKgb := qab.mk (qad BKgb.out hb); replace BKge := qab.mk (qad BKge.out hb); replace HB := qab.mk (qae HB.out hb); clear hb; obtain ⟨hfgb, hcgb_0, hcgb_1, hcgb_2, hcgb_3, hcgb_4, hcgb_5⟩ := qz6 BKgb.out; obtain ⟨hfge, hcge_0, hcge_1, hcge_2, hcge_3⟩ := qz4 BKge.out) | (go_at_call 57; (with_reducible refine (H_b2.out _).mono ?_); rintro e wn ⟨rfl, hb⟩; replace BKgb := qab.mk (qad BKgb.out hb); replace BKge := qab.mk (qad BKge.out hb); replace HB := qab.mk (qae HB.out hb); clear hb; obtain ⟨hfgb, hcgb_0, hcgb_1, hcgb_2, hcgb_3, hcgb_4, hcgb_5⟩ := qz6 BKgb.out; obtain ⟨hfge, hcge_0, hcge_1, hcge_2, hcge_3⟩ := qz4 BKge.out))
     go_ret
     exact ⟨by rw [validB_edge k hlt (by rw [HX.out, HV.out]; rfl)]; rfl, HB.out⟩
    | true =>
     cases b3 with
     | false =>
      go_wp2_with (first | (go_at_call 57; (with_reducible refine (H_b1.out _).mono ?_); rintro e wn ⟨rfl, hb⟩; replace BKgb := qab.mk (qad BKgb.out hb); replace BKge := qab.mk (qad BKge.out hb); replace HB := qab.mk (qae HB.out hb); clear hb; obtain ⟨hfgb, hcgb_0, hcgb_1, hcgb_2, hcgb_3, hcgb_4, hcgb_5⟩ := qz6 BKgb.out; obtain ⟨hfge, hcge_0, hcge_1, hcge_2, hcge_3⟩ := qz4 BKge.out) | (go_at_call 57; (with_reducible refine (H_b2.out _).mono ?_); rintro e wn ⟨rfl, hb⟩; replace BKgb := qab.mk (qad BKgb.out hb); replace BKge := qab.mk (qad BKge.out hb); replace HB := qab.mk (qae HB.out hb); clear hb; obtain ⟨hfgb, hcgb_0, hcgb_1, hcgb_2, hcgb_3, hcgb_4, hcgb_5⟩ := qz6 BKgb.out; obtain ⟨hfge, hcge_0, hcge_1, hcge_2, hcge_3⟩ := qz4 BKge.out))
      go_ret
      exact ⟨by rw [validB_edge k hlt (by rw [HX.out, HV.out]; rfl)]; rfl, HB.out⟩
     | true =>
      cases b4 with
      | false =>
       go_wp2_with (first | (go_at_call 57; (with_reducible refine (H_b1.out _).mono ?_); rintro e wn ⟨rfl, hb⟩; replace BKgb := qab.mk (qad BKgb.out hb); replace BKge := qab.mk (qad BKge.out hb); replace HB := qab.mk (qae HB.out hb); clear hb; obtain ⟨hfgb, hcgb_0, hcgb_1, hcgb_2, hcgb_3, hcgb_4, hcgb_5⟩ := qz6 BKgb.out; obtain ⟨hfge, hcge_0, hcge_1, hcge_2, hcge_3⟩ := qz4 BKge.out) | (go_at_call 57; (with_reducible refine (H_b2.out _).mono ?_); rintro e wn ⟨rfl, hb⟩; replace BKgb := qab.mk (qad BKgb.out hb); replace BKge := qab.mk (qad BKge.out hb); replace HB := qab.mk (qae HB.out hb); clear hb; obtain ⟨hfgb, hcgb_0, hcgb_1, hcgb_2, hcgb_3, hcgb_4, hcgb_5⟩ := qz6 BKgb.out; obtain ⟨hfge, hcge_0, hcge_1, hcge_2, hcge_3⟩ := qz4 BKge.out) | (go_at_call 57; (with_reducible refine (H_b4.out _).mono ?_); rintro e wn ⟨rfl, hb⟩; replace BKgb := qab.mk (qad BKgb.out hb); replace BKge := qab.mk (qad BKge.out hb); replace HB := qab.mk (qae HB.out hb); clear hb; obtain ⟨hfgb, hcgb_0, hcgb_1, hcgb_2, hcgb_3, hcgb_4, hcgb_5⟩ := qz6 BKgb.out; obtain ⟨hfge, hcge_0, hcge_1, hcge_2, hcge_3⟩ := qz4 BKge.out))
       go_ret
       exact ⟨by rw [validB_edge k hlt (by rw [HX.out, HV.out]; rfl)]; rfl, HB.out⟩
      | true =>
       cases b5 with
       | false =>
        go_wp2_with (first | (go_at_call 57; (with_reducible refine (H_b1.out _).mono ?_); rintro e wn ⟨rfl, hb⟩; replace BKgb := qab.mk (qad BKgb.out hb); replace BKge := qab.mk (qad BKge.out hb); replace HB := qab.mk (qae HB.out hb); clear hb; obtain ⟨hfgb, hcgb_0, hcgb_1, hcgb_2, hcgb_3, hcgb_4, hcgb_5⟩ := qz6 BKgb.out; obtain ⟨hfge, hcge_0, hcge_1, hcge_2, hcge_3⟩ := qz4 BKge.out) | (go_at_call 57; (with_reducible refine (H_b2.out _).mono ?_); rintro e wn ⟨rfl, hb⟩; replace BKgb := qab.mk (qad BKgb.out hb); replace BKge := qab.mk (qad BKge.out hb); replace HB := qab.mk (qae HB.out hb); clear hb; obtain ⟨hfgb, hcgb_0, hcgb_1, hcgb_2, hcgb_3, hcgb_4, hcgb_5⟩ := qz6 BKgb.out; obtain ⟨hfge, hcge_0, hcge_1, hcge_2, hcge_3⟩ := qz4 BKge.out) | (go_at_call 57; (with_reducible refine (H_b4.out _).mono ?_); rintro e wn ⟨rfl, hb⟩; replace BKgb := qab.mk (qad BKgb.out hb); replace BKge := qab.mk (qad BKge.out hb); replace HB := qab.mk (qae HB.out hb); clear hb; obtain ⟨hfgb, hcgb_0, hcgb_1, hcgb_2, hcgb_3, hcgb_4, hcgb_5⟩ := qz6 BKgb.out; obtain ⟨hfge, hcge_0, hcge_1, hcge_2, hcge_3⟩ := qz4 BKge.out) | (go_at_call 57; (with_reducible refine (H_b5.out _).mono ?_); rintro e wn ⟨rfl, hb⟩; replace BKgb := qab.mk (qad BKgb.out hb); replace BKge := qab.mk (qad BKge.out hb); replace HB := qab.mk (qae HB.out hb); clear hb; obtain ⟨hfgb, hcgb_0, hcgb_1, hcgb_2, hcgb_3, hcgb_4, hcgb_5⟩ := qz6 BKgb.out; obtain ⟨hfge, hcge_0, hcge_1, hcge_2, hcge_3⟩ := qz4 BKge.out))
        go_ret
        exact ⟨by rw [validB_edge k hlt (by rw [HX.out, HV.out]; rfl)]; rfl, HB.out⟩
       | true =>
        go_wp2_with (first | (go_at_call 57; (with_reducible refine (H_b1.out _).mono ?_); rintro e wn ⟨rfl, hb⟩; replace BKgb := qab.mk (qad BKgb.out hb); replace BKge := qab.mk (qad BKge.out hb); replace HB := qab.mk (qae HB.out hb); clear hb; obtain ⟨hfgb, hcgb_0, hcgb_1, hcgb_2, hcgb_3, hcgb_4, hcgb_5⟩ := qz6 BKgb.out; obtain ⟨hfge, hcge_0, hcge_1, hcge_2, hcge_3⟩ := qz4 BKge.out) | (go_at_call 57; (with_reducible refine (H_b2.out _).mono ?_); rintro e wn ⟨rfl, hb⟩; replace BKgb := qab.mk (qad BKgb.out hb); replace BKge := qab.mk (qad BKge.out hb); replace HB := qab.mk (qae HB.out hb); clear hb; obtain ⟨hfgb, hcgb_0, hcgb_1, hcgb_2, hcgb_3, hcgb_4, hcgb_5⟩ := qz6 BKgb.out; obtain ⟨hfge, hcge_0, hcge_1, hcge_2, hcge_3⟩ := qz4 BKge.out) | (go_at_call 57; (with_reducible refine (H_b4.out _).mono ?_); rintro e wn ⟨rfl, hb⟩; replace BKgb := qab.mk (qad BKgb.out hb); replace BKge := qab.mk (qad BKge.out hb); replace HB := qab.mk (qae HB.out hb); clear hb; obtain ⟨hfgb, hcgb_0, hcgb_1, hcgb_2, hcgb_3, hcgb_4, hcgb_5⟩ := qz6 BKgb.out; obtain ⟨hfge, hcge_0, hcge_1, hcge_2, hcge_3⟩ := qz4 BKge.out) | (go_at_call 57; (with_reducible refine (H_b5.out _).mono ?_); rintro e wn ⟨rfl, hb⟩; replace BKgb := qab.mk (qad BKgb.out hb); replace BKge := qab.mk (qad BKge.out hb); replace HB := qab.mk (qae HB.out hb); clear hb; obtain ⟨hfgb, hcgb_0, hcgb_1, hcgb_2, hcgb_3, hcgb_4, hcgb_5⟩ := qz6 BKgb.out; obtain ⟨hfge, hcge_0, hcge_1, hcge_2, hcge_3⟩ := qz4 BKge.out))
        go_roundw
        case rel => exact ⟨k + 1, by omega, by go_num, ⟨fun j hj => by
          rcases Nat.lt_or_ge j k with h | h
          ·
           exact HN.out j h
          ·
           obtain rfl : j = k := by omega
           rw [HX.out, HV.out]; rfl⟩, BKgb, HB⟩
        case measure => simp [intOf]; omega
  ·
   have HE : qab (l0_1.all (edgeB a0_0) = true) := ⟨all_edges (fun j hj => HN.out j (by omega))⟩
   clear HN
   go_wp2
   go_loopw [5] (fun s5 wr => ∃ k : Nat, k ≤ l0_4.length ∧ s5 = .int .i64 k ∧ qab (∀ j : Nat, j < k → spanB (l0_4.getD j z41) 20000 = true) ∧ qab (wr.heap[gb]? = some (.cells #[.int .i64 a0_0, .slice A0_1 l0_1.length c0_1, .slice A0_2 l0_2.length c0_2, .slice A0_3 l0_3.length c0_3, .slice A0_4 l0_4.length c0_4, .slice A0_5 l0_5.length c0_5] 27 (0, 0))) ∧ qab (Below w.heap.size w wr)) (fun s _ => l0_4.length - (intOf s).toNat)
   case atStart => exact ⟨0, by omega, rfl, ⟨fun j h1 => by omega⟩, BKgb, HB⟩
   case round =>
    clear BKgb HB hfgb hcgb_0 hcgb_1 hcgb_2 hcgb_3 hcgb_4 hcgb_5 hlt hk1
    obtain ⟨k, hk1, rfl, HN, BKgb, HB⟩ := hrel
    obtain ⟨hfgb, hcgb_0, hcgb_1, hcgb_2, hcgb_3, hcgb_4, hcgb_5⟩ := qz6 BKgb.out
    by_cases hlt : k < l0_4.length
    ·
     obtain ⟨ad, e, q0, q1⟩ := at_T41 HR4.out k (by omega) (by omega)
     cases e
     replace q0 := (HB.out.cell (World.block_lt_of_cell? w _ q0)).trans q0; replace q1 := (HB.out.cell (World.block_lt_of_cell? w _ q1)).trans q1
     simp only [Int.toNat_natCast] at q0 q1
     obtain ⟨x, hx⟩ : ∃ x, x = rd_T41 l0_4 k := ⟨_, rfl⟩
     have HX : qab (l0_4.getD k z41 = x) := ⟨by rw [hx]; simp [rd_T41]⟩
     rw [← hx] at q0 q1
     clear hx
     obtain ⟨b1, h_b1⟩ : ∃ b, b = spanB x 20000 := ⟨_, rfl⟩; have H_b1 : qab (∀ W, Calls Try.prog 60 #[.agg #[.int .i64 x.f0, .int .i64 x.f1], .int .i64 20000] W fun e w' => e = .returned (.bool b1) ∧ Below W.heap.size W w') := ⟨fun W => by rw [h_b1]; exact rspan_calls _ _ W⟩
     have HV := qab.mk h_b1
     clear h_b1
     cases b1 with
     | false =>
      go_wp2_with (go_at_call 60; (with_reducible refine (H_b1.out _).mono ?_); rintro e wn ⟨rfl, hb⟩; replace BKgb := qab.mk (qad BKgb.out hb); replace HB := qab.mk (qae HB.out hb); clear hb; obtain ⟨hfgb, hcgb_0, hcgb_1, hcgb_2, hcgb_3, hcgb_4, hcgb_5⟩ := qz6 BKgb.out)
      go_ret
      exact ⟨by rw [validB_thaw k hlt (by rw [HX.out, ← HV.out])]; rfl, HB.out⟩
     | true =>
      go_wp2_with (first | (go_at_call 60; (with_reducible refine (H_b1.out _).mono ?_); rintro e wn ⟨rfl, hb⟩; replace BKgb := qab.mk (qad BKgb.out hb); replace HB := qab.mk (qae HB.out hb); clear hb; obtain ⟨hfgb, hcgb_0, hcgb_1, hcgb_2, hcgb_3, hcgb_4, hcgb_5⟩ := qz6 BKgb.out))
      go_roundw
      case rel => exact ⟨k + 1, by omega, by go_num, ⟨fun j hj => by
        rcases Nat.lt_or_ge j k with h | h
        ·
         exact HN.out j h
        ·
         obtain rfl : j = k := by omega
         rw [HX.out, ← HV.out]⟩, BKgb, HB⟩
      case measure => simp [intOf]; omega
    ·
     have HL4 : qab (l0_4.all (fun s => spanB s 20000) = true) := ⟨all_thaws (fun j hj => HN.out j (by omega))⟩
     clear HN
     go_wp2
     go_loopw [6] (fun s6 wr => ∃ k : Nat, k ≤ l0_5.length ∧ s6 = .int .i64 k ∧ qab (∀ j : Nat, j < k → lakeB l0_5.length j (l0_5.getD j z95) = true) ∧ qab (wr.heap[gb]? = some (.cells #[.int .i64 a0_0, .slice A0_1 l0_1.length c0_1, .slice A0_2 l0_2.length c0_2, .slice A0_3 l0_3.length c0_3, .slice A0_4 l0_4.length c0_4, .slice A0_5 l0_5.length c0_5] 27 (0, 0))) ∧ qab (Below w.heap.size w wr)) (fun s _ => l0_5.length - (intOf s).toNat)
     case atStart => exact ⟨0, by omega, rfl, ⟨fun j h1 => by omega⟩, BKgb, HB⟩
     case round =>
      clear BKgb HB hfgb hcgb_0 hcgb_1 hcgb_2 hcgb_3 hcgb_4 hcgb_5 hlt hk1
      obtain ⟨k, hk1, rfl, HN, BKgb, HB⟩ := hrel
      obtain ⟨hfgb, hcgb_0, hcgb_1, hcgb_2, hcgb_3, hcgb_4, hcgb_5⟩ := qz6 BKgb.out
      by_cases hlt : k < l0_5.length
      ·
       obtain ⟨ad, e, q0, q1, q2, q3, q4, q5⟩ := at_T95 HR5.out k (by omega) (by omega)
       cases e
       replace q0 := (HB.out.cell (World.block_lt_of_cell? w _ q0)).trans q0; replace q1 := (HB.out.cell (World.block_lt_of_cell? w _ q1)).trans q1; replace q2 := (HB.out.cell (World.block_lt_of_cell? w _ q2)).trans q2; replace q3 := (HB.out.cell (World.block_lt_of_cell? w _ q3)).trans q3; replace q4 := (HB.out.cell (World.block_lt_of_cell? w _ q4)).trans q4; replace q5 := (HB.out.cell (World.block_lt_of_cell? w _ q5)).trans q5
       simp only [Int.toNat_natCast] at q0 q1 q2 q3 q4 q5
       obtain ⟨x, hx⟩ : ∃ x, x = rd_T95 l0_5 k := ⟨_, rfl⟩
       have HX : qab (l0_5.getD k z95 = x) := ⟨by rw [hx]; simp [rd_T95]⟩
       rw [← hx] at q0 q1 q2 q3 q4 q5
       clear hx
       go_upto_region 16 with ((with_reducible refine qam (N := 7) rfl ?_); refine ze 7 #[.int .i64 0, .int .i64 0, .int .i64 0, .int .i64 0, .int .i64 0, .int .i64 0] 95 ?_; intro ge hg_ge w4 hbox hb; have BKge := qab.mk hbox; have ne_gb_ge : gb ≠ ge := (by rw [hg_ge]; exact Nat.ne_of_lt (blk_lt BKgb.out)); replace BKgb := qab.mk (qad BKgb.out hb); have n_HB := qab.mk (qae HB.out hb); have GEge : w.heap.size ≤ ge := (by rw [hg_ge]; exact HB.out.size); clear HB; have HB := n_HB; clear n_HB; obtain ⟨hfge, hcge_0, hcge_1, hcge_2, hcge_3, hcge_4, hcge_5⟩ := qz6 BKge.out; clear hbox hb hg_ge)
       clear q0 q1 q2 q3 q4 q5 hfgb hcgb_0 hcgb_1 hcgb_2 hcgb_3 hcgb_4 hcgb_5 hfge hcge_0 hcge_1 hcge_2 hcge_3 hcge_4 hcge_5
       have he_ : setAll w4 ge [.int .i64 x.f0, .int .i64 x.f1, .int .i64 x.f2.f0, .int .i64 x.f2.f1, .int .i64 x.f3.f0, .int .i64 x.f3.f1] 0 = ((((((w4.setCell ⟨ge, 0, none⟩ (.int .i64 x.f0)).setCell ⟨ge, 1, none⟩ (.int .i64 x.f1)).setCell ⟨ge, 2, none⟩ (.int .i64 x.f2.f0)).setCell ⟨ge, 3, none⟩ (.int .i64 x.f2.f1)).setCell ⟨ge, 4, none⟩ (.int .i64 x.f3.f0)).setCell ⟨ge, 5, none⟩ (.int .i64 x.f3.f1)) := rfl; have hbl := setAll_below GEge [.int .i64 x.f0, .int .i64 x.f1, .int .i64 x.f2.f0, .int .i64 x.f2.f1, .int .i64 x.f3.f0, .int .i64 x.f3.f1] 0 _ HB.out; have hbx : (setAll w4 ge [.int .i64 x.f0, .int .i64 x.f1, .int .i64 x.f2.f0, .int .i64 x.f2.f1, .int .i64 x.f3.f0, .int .i64 x.f3.f1] 0).heap[ge]? = some (.cells #[.int .i64 x.f0, .int .i64 x.f1, .int .i64 x.f2.f0, .int .i64 x.f2.f1, .int .i64 x.f3.f0, .int .i64 x.f3.f1] 95 (0, 0)) := setAll_new [.int .i64 x.f0, .int .i64 x.f1, .int .i64 x.f2.f0, .int .i64 x.f2.f1, .int .i64 x.f3.f0, .int .i64 x.f3.f1] [.int .i64 0, .int .i64 0, .int .i64 0, .int .i64 0, .int .i64 0, .int .i64 0] BKge.out rfl; have hx_BKgb := setAll_far ne_gb_ge [.int .i64 x.f0, .int .i64 x.f1, .int .i64 x.f2.f0, .int .i64 x.f2.f1, .int .i64 x.f3.f0, .int .i64 x.f3.f1] 0 _ BKgb.out; rw [he_] at hbl hbx hx_BKgb; clear he_; generalize ((((((w4.setCell ⟨ge, 0, none⟩ (.int .i64 x.f0)).setCell ⟨ge, 1, none⟩ (.int .i64 x.f1)).setCell ⟨ge, 2, none⟩ (.int .i64 x.f2.f0)).setCell ⟨ge, 3, none⟩ (.int .i64 x.f2.f1)).setCell ⟨ge, 4, none⟩ (.int .i64 x.f3.f0)).setCell ⟨ge, 5, none⟩ (.int .i64 x.f3.f1)) = w5 at hbl hbx hx_BKgb ⊢; clear HB BKge; have HB := qab.mk hbl; have BKge := qab.mk hbx; clear hbl hbx; clear BKgb; have BKgb := qab.mk hx_BKgb; clear hx_BKgb
       obtain ⟨hfgb, hcgb_0, hcgb_1, hcgb_2, hcgb_3, hcgb_4, hcgb_5⟩ := qz6 BKgb.out; obtain ⟨hfge, hcge_0, hcge_1, hcge_2, hcge_3, hcge_4, hcge_5⟩ := qz6 BKge.out
       obtain ⟨b1, h_b1⟩ : ∃ b, b = inB x.f0 ((k : Int) + 1) ((l0_5.length : Int) - 1) := ⟨_, rfl⟩; have H_b1 : qab (∀ W, Calls Try.prog 57 #[.int .i64 x.f0, .int .i64 ((k : Int) + 1), .int .i64 ((l0_5.length : Int) - 1)] W fun e w' => e = .returned (.bool b1) ∧ Below W.heap.size W w') := ⟨fun W => by rw [h_b1]; exact rin_calls _ _ _ W⟩
       obtain ⟨b2, h_b2⟩ : ∃ b, b = inB x.f1 0 20000 := ⟨_, rfl⟩; have H_b2 : qab (∀ W, Calls Try.prog 57 #[.int .i64 x.f1, .int .i64 0, .int .i64 20000] W fun e w' => e = .returned (.bool b2) ∧ Below W.heap.size W w') := ⟨fun W => by rw [h_b2]; exact rin_calls _ _ _ W⟩
       obtain ⟨b3, h_b3⟩ : ∃ b, b = spanB x.f2 1000000 := ⟨_, rfl⟩; have H_b3 : qab (∀ W, Calls Try.prog 60 #[.agg #[.int .i64 x.f2.f0, .int .i64 x.f2.f1], .int .i64 1000000] W fun e w' => e = .returned (.bool b3) ∧ Below W.heap.size W w') := ⟨fun W => by rw [h_b3]; exact rspan_calls _ _ W⟩
       obtain ⟨b4, h_b4⟩ : ∃ b, b = spanB x.f3 1000000 := ⟨_, rfl⟩; have H_b4 : qab (∀ W, Calls Try.prog 60 #[.agg #[.int .i64 x.f3.f0, .int .i64 x.f3.f1], .int .i64 1000000] W fun e w' => e = .returned (.bool b4) ∧ Below W.heap.size W w') := ⟨fun W => by rw [h_b4]; exact rspan_calls _ _ W⟩
       have HV : qab (lakeB l0_5.length k x = ((decide (x.f0 = -1) || b1) && (b2 && (b3 && b4)))) := ⟨by rw [h_b1, h_b2, h_b3, h_b4]; rfl⟩
       clear h_b1 h_b2 h_b3 h_b4
       by_cases ha : x.f0 = -1
       ·
        have hq : (x.f0 != -1) = false := by simp [ha]
        rw [decide_eq_true ha, Bool.true_or] at HV
        clear ha H_b1
        cases b2 with
        | false =>
         go_wp2_with (go_at_call 57; (with_reducible refine (H_b2.out _).mono ?_); rintro e wn ⟨rfl, hb⟩; replace BKgb := qab.mk (qad BKgb.out hb); replace BKge := qab.mk (qad BKge.out hb); replace HB := qab.mk (qae HB.out hb); clear hb; obtain ⟨hfgb, hcgb_0, hcgb_1, hcgb_2, hcgb_3, hcgb_4, hcgb_5⟩ := qz6 BKgb.out; obtain ⟨hfge, hcge_0, hcge_1, hcge_2, hcge_3, hcge_4, hcge_5⟩ := qz6 BKge.out)
         go_ret
         exact ⟨by rw [validB_lake HE.out k hlt (by rw [HX.out, HV.out]; rfl)]; rfl, HB.out⟩
        | true =>
         cases b3 with
         | false =>
          go_wp2_with (first | (go_at_call 57; (with_reducible refine (H_b2.out _).mono ?_); rintro e wn ⟨rfl, hb⟩; replace BKgb := qab.mk (qad BKgb.out hb); replace BKge := qab.mk (qad BKge.out hb); replace HB := qab.mk (qae HB.out hb); clear hb; obtain ⟨hfgb, hcgb_0, hcgb_1, hcgb_2, hcgb_3, hcgb_4, hcgb_5⟩ := qz6 BKgb.out; obtain ⟨hfge, hcge_0, hcge_1, hcge_2, hcge_3, hcge_4, hcge_5⟩ := qz6 BKge.out) | (go_at_call 60; (with_reducible refine (H_b3.out _).mono ?_); rintro e wn ⟨rfl, hb⟩; replace BKgb := qab.mk (qad BKgb.out hb); replace BKge := qab.mk (qad BKge.out hb); replace HB := qab.mk (qae HB.out hb); clear hb; obtain ⟨hfgb, hcgb_0, hcgb_1, hcgb_2, hcgb_3, hcgb_4, hcgb_5⟩ := qz6 BKgb.out; obtain ⟨hfge, hcge_0, hcge_1, hcge_2, hcge_3, hcge_4, hcge_5⟩ := qz6 BKge.out))
          go_ret
          exact ⟨by rw [validB_lake HE.out k hlt (by rw [HX.out, HV.out]; rfl)]; rfl, HB.out⟩
         | true =>
          cases b4 with
          | false =>
           go_wp2_with (first | (go_at_call 57; (with_reducible refine (H_b2.out _).mono ?_); rintro e wn ⟨rfl, hb⟩; replace BKgb := qab.mk (qad BKgb.out hb); replace BKge := qab.mk (qad BKge.out hb); replace HB := qab.mk (qae HB.out hb); clear hb; obtain ⟨hfgb, hcgb_0, hcgb_1, hcgb_2, hcgb_3, hcgb_4, hcgb_5⟩ := qz6 BKgb.out; obtain ⟨hfge, hcge_0, hcge_1, hcge_2, hcge_3, hcge_4, hcge_5⟩ := qz6 BKge.out) | (go_at_call 60; (with_reducible refine (H_b3.out _).mono ?_); rintro e wn ⟨rfl, hb⟩; replace BKgb := qab.mk (qad BKgb.out hb); replace BKge := qab.mk (qad BKge.out hb); replace HB := qab.mk (qae HB.out hb); clear hb; obtain ⟨hfgb, hcgb_0, hcgb_1, hcgb_2, hcgb_3, hcgb_4, hcgb_5⟩ := qz6 BKgb.out; obtain ⟨hfge, hcge_0, hcge_1, hcge_2, hcge_3, hcge_4, hcge_5⟩ := qz6 BKge.out) | (go_at_call 60; (with_reducible refine (H_b4.out _).mono ?_); rintro e wn ⟨rfl, hb⟩; replace BKgb := qab.mk (qad BKgb.out hb); replace BKge := qab.mk (qad BKge.out hb); replace HB := qab.mk (qae HB.out hb); clear hb; obtain ⟨hfgb, hcgb_0, hcgb_1, hcgb_2, hcgb_3, hcgb_4, hcgb_5⟩ := qz6 BKgb.out; obtain ⟨hfge, hcge_0, hcge_1, hcge_2, hcge_3, hcge_4, hcge_5⟩ := qz6 BKge.out))
           go_ret
           exact ⟨by rw [validB_lake HE.out k hlt (by rw [HX.out, HV.out]; rfl)]; rfl, HB.out⟩
          | true =>
           go_wp2_with (first | (go_at_call 57; (with_reducible refine (H_b2.out _).mono ?_); rintro e wn ⟨rfl, hb⟩; replace BKgb := qab.mk (qad BKgb.out hb); replace BKge := qab.mk (qad BKge.out hb); replace HB := qab.mk (qae HB.out hb); clear hb; obtain ⟨hfgb, hcgb_0, hcgb_1, hcgb_2, hcgb_3, hcgb_4, hcgb_5⟩ := qz6 BKgb.out; obtain ⟨hfge, hcge_0, hcge_1, hcge_2, hcge_3, hcge_4, hcge_5⟩ := qz6 BKge.out) | (go_at_call 60; (with_reducible refine (H_b3.out _).mono ?_); rintro e wn ⟨rfl, hb⟩; replace BKgb := qab.mk (qad BKgb.out hb); replace BKge := qab.mk (qad BKge.out hb); replace HB := qab.mk (qae HB.out hb); clear hb; obtain ⟨hfgb, hcgb_0, hcgb_1, hcgb_2, hcgb_3, hcgb_4, hcgb_5⟩ := qz6 BKgb.out; obtain ⟨hfge, hcge_0, hcge_1, hcge_2, hcge_3, hcge_4, hcge_5⟩ := qz6 BKge.out) | (go_at_call 60; (with_reducible refine (H_b4.out _).mono ?_); rintro e wn ⟨rfl, hb⟩; replace BKgb := qab.mk (qad BKgb.out hb); replace BKge := qab.mk (qad BKge.out hb); replace HB := qab.mk (qae HB.out hb); clear hb; obtain ⟨hfgb, hcgb_0, hcgb_1, hcgb_2, hcgb_3, hcgb_4, hcgb_5⟩ := qz6 BKgb.out; obtain ⟨hfge, hcge_0, hcge_1, hcge_2, hcge_3, hcge_4, hcge_5⟩ := qz6 BKge.out))
           go_roundw
           case rel => exact ⟨k + 1, by omega, by go_num, ⟨fun j hj => by
             rcases Nat.lt_or_ge j k with h | h
             ·
              exact HN.out j h
             ·
              obtain rfl : j = k := by omega
              rw [HX.out, HV.out]; rfl⟩, BKgb, HB⟩
           case measure => simp [intOf]; omega
       ·
        have hq : (x.f0 != -1) = true := by simp [ha]
        rw [decide_eq_false ha, Bool.false_or] at HV
        clear ha
        cases b1 with
        | false =>
         go_wp2_with (go_at_call 57; (with_reducible refine (H_b1.out _).mono ?_); rintro e wn ⟨rfl, hb⟩; replace BKgb := qab.mk (qad BKgb.out hb); replace BKge := qab.mk (qad BKge.out hb); replace HB := qab.mk (qae HB.out hb); clear hb; obtain ⟨hfgb, hcgb_0, hcgb_1, hcgb_2, hcgb_3, hcgb_4, hcgb_5⟩ := qz6 BKgb.out; obtain ⟨hfge, hcge_0, hcge_1, hcge_2, hcge_3, hcge_4, hcge_5⟩ := qz6 BKge.out)
         go_ret
         exact ⟨by rw [validB_lake HE.out k hlt (by rw [HX.out, HV.out]; rfl)]; rfl, HB.out⟩
        | true =>
         cases b2 with
         | false =>
          go_wp2_with (first | (go_at_call 57; (with_reducible refine (H_b1.out _).mono ?_); rintro e wn ⟨rfl, hb⟩; replace BKgb := qab.mk (qad BKgb.out hb); replace BKge := qab.mk (qad BKge.out hb); replace HB := qab.mk (qae HB.out hb); clear hb; obtain ⟨hfgb, hcgb_0, hcgb_1, hcgb_2, hcgb_3, hcgb_4, hcgb_5⟩ := qz6 BKgb.out; obtain ⟨hfge, hcge_0, hcge_1, hcge_2, hcge_3, hcge_4, hcge_5⟩ := qz6 BKge.out) | (go_at_call 57; (with_reducible refine (H_b2.out _).mono ?_); rintro e wn ⟨rfl, hb⟩; replace BKgb := qab.mk (qad BKgb.out hb); replace BKge := qab.mk (qad BKge.out hb); replace HB := qab.mk (qae HB.out hb); clear hb; obtain ⟨hfgb, hcgb_0, hcgb_1, hcgb_2, hcgb_3, hcgb_4, hcgb_5⟩ := qz6 BKgb.out; obtain ⟨hfge, hcge_0, hcge_1, hcge_2, hcge_3, hcge_4, hcge_5⟩ := qz6 BKge.out))
          go_ret
          exact ⟨by rw [validB_lake HE.out k hlt (by rw [HX.out, HV.out]; rfl)]; rfl, HB.out⟩
         | true =>
          cases b3 with
          | false =>
           go_wp2_with (first | (go_at_call 57; (with_reducible refine (H_b1.out _).mono ?_); rintro e wn ⟨rfl, hb⟩; replace BKgb := qab.mk (qad BKgb.out hb); replace BKge := qab.mk (qad BKge.out hb); replace HB := qab.mk (qae HB.out hb); clear hb; obtain ⟨hfgb, hcgb_0, hcgb_1, hcgb_2, hcgb_3, hcgb_4, hcgb_5⟩ := qz6 BKgb.out; obtain ⟨hfge, hcge_0, hcge_1, hcge_2, hcge_3, hcge_4, hcge_5⟩ := qz6 BKge.out) | (go_at_call 57; (with_reducible refine (H_b2.out _).mono ?_); rintro e wn ⟨rfl, hb⟩; replace BKgb := qab.mk (qad BKgb.out hb); replace BKge := qab.mk (qad BKge.out hb); replace HB := qab.mk (qae HB.out hb); clear hb; obtain ⟨hfgb, hcgb_0, hcgb_1, hcgb_2, hcgb_3, hcgb_4, hcgb_5⟩ := qz6 BKgb.out; obtain ⟨hfge, hcge_0, hcge_1, hcge_2, hcge_3, hcge_4, hcge_5⟩ := qz6 BKge.out) | (go_at_call 60; (with_reducible refine (H_b3.out _).mono ?_); rintro e wn ⟨rfl, hb⟩; replace BKgb := qab.mk (qad BKgb.out hb); replace BKge := qab.mk (qad BKge.out hb); replace HB := qab.mk (qae HB.out hb); clear hb; obtain ⟨hfgb, hcgb_0, hcgb_1, hcgb_2, hcgb_3, hcgb_4, hcgb_5⟩ := qz6 BKgb.out; obtain ⟨hfge, hcge_0, hcge_1, hcge_2, hcge_3, hcge_4, hcge_5⟩ := qz6 BKge.out))
           go_ret
           exact ⟨by rw [validB_lake HE.out k hlt (by rw [HX.out, HV.out]; rfl)]; rfl, HB.out⟩
          | true =>
           cases b4 with
           | false =>
            go_wp2_with (first | (go_at_call 57; (with_reducible refine (H_b1.out _).mono ?_); rintro e wn ⟨rfl, hb⟩; replace BKgb := qab.mk (qad BKgb.out hb); replace BKge := qab.mk (qad BKge.out hb); replace HB := qab.mk (qae HB.out hb); clear hb; obtain ⟨hfgb, hcgb_0, hcgb_1, hcgb_2, hcgb_3, hcgb_4, hcgb_5⟩ := qz6 BKgb.out; obtain ⟨hfge, hcge_0, hcge_1, hcge_2, hcge_3, hcge_4, hcge_5⟩ := qz6 BKge.out) | (go_at_call 57; (with_reducible refine (H_b2.out _).mono ?_); rintro e wn ⟨rfl, hb⟩; replace BKgb := qab.mk (qad BKgb.out hb); replace BKge := qab.mk (qad BKge.out hb); replace HB := qab.mk (qae HB.out hb); clear hb; obtain ⟨hfgb, hcgb_0, hcgb_1, hcgb_2, hcgb_3, hcgb_4, hcgb_5⟩ := qz6 BKgb.out; obtain ⟨hfge, hcge_0, hcge_1, hcge_2, hcge_3, hcge_4, hcge_5⟩ := qz6 BKge.out) | (go_at_call 60; (with_reducible refine (H_b3.out _).mono ?_); rintro e wn ⟨rfl, hb⟩; replace BKgb := qab.mk (qad BKgb.out hb); replace BKge := qab.mk (qad BKge.out hb); replace HB := qab.mk (qae HB.out hb); clear hb; obtain ⟨hfgb, hcgb_0, hcgb_1, hcgb_2, hcgb_3, hcgb_4, hcgb_5⟩ := qz6 BKgb.out; obtain ⟨hfge, hcge_0, hcge_1, hcge_2, hcge_3, hcge_4, hcge_5⟩ := qz6 BKge.out) | (go_at_call 60; (with_reducible refine (H_b4.out _).mono ?_); rintro e wn ⟨rfl, hb⟩; replace BKgb := qab.mk (qad BKgb.out hb); replace BKge := qab.mk (qad BKge.out hb); replace HB := qab.mk (qae HB.out hb); clear hb; obtain ⟨hfgb, hcgb_0, hcgb_1, hcgb_2, hcgb_3, hcgb_4, hcgb_5⟩ := qz6 BKgb.out; obtain ⟨hfge, hcge_0, hcge_1, hcge_2, hcge_3, hcge_4, hcge_5⟩ := qz6 BKge.out))
            go_ret
            exact ⟨by rw [validB_lake HE.out k hlt (by rw [HX.out, HV.out]; rfl)]; rfl, HB.out⟩
           | true =>
            go_wp2_with (first | (go_at_call 57; (with_reducible refine (H_b1.out _).mono ?_); rintro e wn ⟨rfl, hb⟩; replace BKgb := qab.mk (qad BKgb.out hb); replace BKge := qab.mk (qad BKge.out hb); replace HB := qab.mk (qae HB.out hb); clear hb; obtain ⟨hfgb, hcgb_0, hcgb_1, hcgb_2, hcgb_3, hcgb_4, hcgb_5⟩ := qz6 BKgb.out; obtain ⟨hfge, hcge_0, hcge_1, hcge_2, hcge_3, hcge_4, hcge_5⟩ := qz6 BKge.out) | (go_at_call 57; (with_reducible refine (H_b2.out _).mono ?_); rintro e wn ⟨rfl, hb⟩; replace BKgb := qab.mk (qad BKgb.out hb); replace BKge := qab.mk (qad BKge.out hb); replace HB := qab.mk (qae HB.out hb); clear hb; obtain ⟨hfgb, hcgb_0, hcgb_1, hcgb_2, hcgb_3, hcgb_4, hcgb_5⟩ := qz6 BKgb.out; obtain ⟨hfge, hcge_0, hcge_1, hcge_2, hcge_3, hcge_4, hcge_5⟩ := qz6 BKge.out) | (go_at_call 60; (with_reducible refine (H_b3.out _).mono ?_); rintro e wn ⟨rfl, hb⟩; replace BKgb := qab.mk (qad BKgb.out hb); replace BKge := qab.mk (qad BKge.out hb); replace HB := qab.mk (qae HB.out hb); clear hb; obtain ⟨hfgb, hcgb_0, hcgb_1, hcgb_2, hcgb_3, hcgb_4, hcgb_5⟩ := qz6 BKgb.out; obtain ⟨hfge, hcge_0, hcge_1, hcge_2, hcge_3, hcge_4, hcge_5⟩ := qz6 BKge.out) | (go_at_call 60; (with_reducible refine (H_b4.out _).mono ?_); rintro e wn ⟨rfl, hb⟩; replace BKgb := qab.mk (qad BKgb.out hb); replace BKge := qab.mk (qad BKge.out hb); replace HB := qab.mk (qae HB.out hb); clear hb; obtain ⟨hfgb, hcgb_0, hcgb_1, hcgb_2, hcgb_3, hcgb_4, hcgb_5⟩ := qz6 BKgb.out; obtain ⟨hfge, hcge_0, hcge_1, hcge_2, hcge_3, hcge_4, hcge_5⟩ := qz6 BKge.out))
            go_roundw
            case rel => exact ⟨k + 1, by omega, by go_num, ⟨fun j hj => by
              rcases Nat.lt_or_ge j k with h | h
              ·
               exact HN.out j h
              ·
               obtain rfl : j = k := by omega
               rw [HX.out, HV.out]; rfl⟩, BKgb, HB⟩
            case measure => simp [intOf]; omega
      ·
       have HL : qab (lakesB l0_5 = true) := ⟨all_lakes (fun j hj => HN.out j (by omega))⟩
       clear HN
       obtain ⟨b1, h_b1⟩ : ∃ b, b = inB a0_0 1 10 := ⟨_, rfl⟩; have H_b1 : qab (∀ W, Calls Try.prog 57 #[.int .i64 a0_0, .int .i64 1, .int .i64 10] W fun e w' => e = .returned (.bool b1) ∧ Below W.heap.size W w') := ⟨fun W => by rw [h_b1]; exact rin_calls _ _ _ W⟩
       obtain ⟨b2, h_b2⟩ : ∃ b, b = decide (l0_1.length ≤ 12) := ⟨_, rfl⟩
       have hq2 : decide ((l0_1.length : Int) ≤ 12) = b2 := by rw [h_b2]; exact decide_eq_decide.2 (by omega)
       obtain ⟨b3, h_b3⟩ : ∃ b, b = incB l0_2 a0_0 := ⟨_, rfl⟩
       have H_b3 : qab (∀ W, Below w.heap.size w W → Calls Try.prog 61 #[.slice A0_2 l0_2.length c0_2, .int .i64 a0_0] W fun e w' => e = .returned (.bool b3) ∧ Below W.heap.size W w') := ⟨fun W hW => by rw [h_b3]; exact talikref07_Rising.calls _ _ _ _ _ W (Kd.qai HR2.out hW) hc0_2 rfl⟩
       obtain ⟨b4, h_b4⟩ : ∃ b, b = incB l0_3 a0_0 := ⟨_, rfl⟩
       have H_b4 : qab (∀ W, Below w.heap.size w W → Calls Try.prog 61 #[.slice A0_3 l0_3.length c0_3, .int .i64 a0_0] W fun e w' => e = .returned (.bool b4) ∧ Below W.heap.size W w') := ⟨fun W hW => by rw [h_b4]; exact talikref07_Rising.calls _ _ _ _ _ W (Kd.qai HR3.out hW) hc0_3 rfl⟩
       obtain ⟨b5, h_b5⟩ : ∃ b, b = inB (l0_4.length : Int) 1 10 := ⟨_, rfl⟩; have H_b5 : qab (∀ W, Calls Try.prog 57 #[.int .i64 (l0_4.length : Int), .int .i64 1, .int .i64 10] W fun e w' => e = .returned (.bool b5) ∧ Below W.heap.size W w') := ⟨fun W => by rw [h_b5]; exact rin_calls _ _ _ W⟩
       obtain ⟨b7, h_b7⟩ : ∃ b, b = decide (l0_5.length ≤ 6) := ⟨_, rfl⟩
       have hq7 : decide ((l0_5.length : Int) ≤ 6) = b7 := by rw [h_b7]; exact decide_eq_decide.2 (by omega)
       have HV : qab (validB a0_0 l0_1 l0_2 l0_3 l0_4 l0_5 = (b1 && (b2 && (b3 && (b4 && (b5 && b7)))))) := ⟨by unfold validB; rw [HE.out, HL.out, HL4.out, h_b1, h_b2, h_b3, h_b4, h_b5, h_b7]; rfl⟩
       clear h_b1 h_b2 h_b3 h_b4 h_b5 h_b7
       cases b1 with
       | false =>
        go_wp2_with (go_at_call 57; (with_reducible refine (H_b1.out _).mono ?_); rintro e wn ⟨rfl, hb⟩; replace BKgb := qab.mk (qad BKgb.out hb); replace HB := qab.mk (qae HB.out hb); clear hb; obtain ⟨hfgb, hcgb_0, hcgb_1, hcgb_2, hcgb_3, hcgb_4, hcgb_5⟩ := qz6 BKgb.out)
        go_ret
        exact ⟨by rw [HV.out]; rfl, HB.out⟩
       | true =>
        cases b2 with
        | false =>
         go_wp2_with (go_at_call 57; (with_reducible refine (H_b1.out _).mono ?_); rintro e wn ⟨rfl, hb⟩; replace BKgb := qab.mk (qad BKgb.out hb); replace HB := qab.mk (qae HB.out hb); clear hb; obtain ⟨hfgb, hcgb_0, hcgb_1, hcgb_2, hcgb_3, hcgb_4, hcgb_5⟩ := qz6 BKgb.out)
         go_ret
         exact ⟨by rw [HV.out]; rfl, HB.out⟩
        | true =>
         cases b3 with
         | false =>
          go_wp2_with (first | (go_at_call 57; (with_reducible refine (H_b1.out _).mono ?_); rintro e wn ⟨rfl, hb⟩; replace BKgb := qab.mk (qad BKgb.out hb); replace HB := qab.mk (qae HB.out hb); clear hb; obtain ⟨hfgb, hcgb_0, hcgb_1, hcgb_2, hcgb_3, hcgb_4, hcgb_5⟩ := qz6 BKgb.out) | (go_at_call 61; (with_reducible refine (H_b3.out _ HB.out).mono ?_); rintro e wn ⟨rfl, hb⟩; replace BKgb := qab.mk (qad BKgb.out hb); replace HB := qab.mk (qae HB.out hb); clear hb; obtain ⟨hfgb, hcgb_0, hcgb_1, hcgb_2, hcgb_3, hcgb_4, hcgb_5⟩ := qz6 BKgb.out))
          go_ret
          exact ⟨by rw [HV.out]; rfl, HB.out⟩
         | true =>
          cases b4 with
          | false =>
           go_wp2_with (first | (go_at_call 57; (with_reducible refine (H_b1.out _).mono ?_); rintro e wn ⟨rfl, hb⟩; replace BKgb := qab.mk (qad BKgb.out hb); replace HB := qab.mk (qae HB.out hb); clear hb; obtain ⟨hfgb, hcgb_0, hcgb_1, hcgb_2, hcgb_3, hcgb_4, hcgb_5⟩ := qz6 BKgb.out) | (go_at_call 61; (with_reducible refine (H_b3.out _ HB.out).mono ?_); rintro e wn ⟨rfl, hb⟩; replace BKgb := qab.mk (qad BKgb.out hb); replace HB := qab.mk (qae HB.out hb); clear hb; obtain ⟨hfgb, hcgb_0, hcgb_1, hcgb_2, hcgb_3, hcgb_4, hcgb_5⟩ := qz6 BKgb.out) | (go_at_call 61; (with_reducible refine (H_b4.out _ HB.out).mono ?_); rintro e wn ⟨rfl, hb⟩; replace BKgb := qab.mk (qad BKgb.out hb); replace HB := qab.mk (qae HB.out hb); clear hb; obtain ⟨hfgb, hcgb_0, hcgb_1, hcgb_2, hcgb_3, hcgb_4, hcgb_5⟩ := qz6 BKgb.out))
           go_ret
           exact ⟨by rw [HV.out]; rfl, HB.out⟩
          | true =>
           cases b5 with
           | false =>
            go_wp2_with (first | (go_at_call 57; (with_reducible refine (H_b1.out _).mono ?_); rintro e wn ⟨rfl, hb⟩; replace BKgb := qab.mk (qad BKgb.out hb); replace HB := qab.mk (qae HB.out hb); clear hb; obtain ⟨hfgb, hcgb_0, hcgb_1, hcgb_2, hcgb_3, hcgb_4, hcgb_5⟩ := qz6 BKgb.out) | (go_at_call 61; (with_reducible refine (H_b3.out _ HB.out).mono ?_); rintro e wn ⟨rfl, hb⟩; replace BKgb := qab.mk (qad BKgb.out hb); replace HB := qab.mk (qae HB.out hb); clear hb; obtain ⟨hfgb, hcgb_0, hcgb_1, hcgb_2, hcgb_3, hcgb_4, hcgb_5⟩ := qz6 BKgb.out) | (go_at_call 61; (with_reducible refine (H_b4.out _ HB.out).mono ?_); rintro e wn ⟨rfl, hb⟩; replace BKgb := qab.mk (qad BKgb.out hb); replace HB := qab.mk (qae HB.out hb); clear hb; obtain ⟨hfgb, hcgb_0, hcgb_1, hcgb_2, hcgb_3, hcgb_4, hcgb_5⟩ := qz6 BKgb.out) | (go_at_call 57; (with_reducible refine (H_b5.out _).mono ?_); rintro e wn ⟨rfl, hb⟩; replace BKgb := qab.mk (qad BKgb.out hb); replace HB := qab.mk (qae HB.out hb); clear hb; obtain ⟨hfgb, hcgb_0, hcgb_1, hcgb_2, hcgb_3, hcgb_4, hcgb_5⟩ := qz6 BKgb.out))
            go_ret
            exact ⟨by rw [HV.out]; rfl, HB.out⟩
           | true =>
            cases b7 with
            | false =>
             go_wp2_with (first | (go_at_call 57; (with_reducible refine (H_b1.out _).mono ?_); rintro e wn ⟨rfl, hb⟩; replace BKgb := qab.mk (qad BKgb.out hb); replace HB := qab.mk (qae HB.out hb); clear hb; obtain ⟨hfgb, hcgb_0, hcgb_1, hcgb_2, hcgb_3, hcgb_4, hcgb_5⟩ := qz6 BKgb.out) | (go_at_call 61; (with_reducible refine (H_b3.out _ HB.out).mono ?_); rintro e wn ⟨rfl, hb⟩; replace BKgb := qab.mk (qad BKgb.out hb); replace HB := qab.mk (qae HB.out hb); clear hb; obtain ⟨hfgb, hcgb_0, hcgb_1, hcgb_2, hcgb_3, hcgb_4, hcgb_5⟩ := qz6 BKgb.out) | (go_at_call 61; (with_reducible refine (H_b4.out _ HB.out).mono ?_); rintro e wn ⟨rfl, hb⟩; replace BKgb := qab.mk (qad BKgb.out hb); replace HB := qab.mk (qae HB.out hb); clear hb; obtain ⟨hfgb, hcgb_0, hcgb_1, hcgb_2, hcgb_3, hcgb_4, hcgb_5⟩ := qz6 BKgb.out) | (go_at_call 57; (with_reducible refine (H_b5.out _).mono ?_); rintro e wn ⟨rfl, hb⟩; replace BKgb := qab.mk (qad BKgb.out hb); replace HB := qab.mk (qae HB.out hb); clear hb; obtain ⟨hfgb, hcgb_0, hcgb_1, hcgb_2, hcgb_3, hcgb_4, hcgb_5⟩ := qz6 BKgb.out))
             go_ret
             exact ⟨by rw [HV.out]; rfl, HB.out⟩
            | true =>
             go_wp2_with (first | (go_at_call 57; (with_reducible refine (H_b1.out _).mono ?_); rintro e wn ⟨rfl, hb⟩; replace BKgb := qab.mk (qad BKgb.out hb); replace HB := qab.mk (qae HB.out hb); clear hb; obtain ⟨hfgb, hcgb_0, hcgb_1, hcgb_2, hcgb_3, hcgb_4, hcgb_5⟩ := qz6 BKgb.out) | (go_at_call 61; (with_reducible refine (H_b3.out _ HB.out).mono ?_); rintro e wn ⟨rfl, hb⟩; replace BKgb := qab.mk (qad BKgb.out hb); replace HB := qab.mk (qae HB.out hb); clear hb; obtain ⟨hfgb, hcgb_0, hcgb_1, hcgb_2, hcgb_3, hcgb_4, hcgb_5⟩ := qz6 BKgb.out) | (go_at_call 61; (with_reducible refine (H_b4.out _ HB.out).mono ?_); rintro e wn ⟨rfl, hb⟩; replace BKgb := qab.mk (qad BKgb.out hb); replace HB := qab.mk (qae HB.out hb); clear hb; obtain ⟨hfgb, hcgb_0, hcgb_1, hcgb_2, hcgb_3, hcgb_4, hcgb_5⟩ := qz6 BKgb.out) | (go_at_call 57; (with_reducible refine (H_b5.out _).mono ?_); rintro e wn ⟨rfl, hb⟩; replace BKgb := qab.mk (qad BKgb.out hb); replace HB := qab.mk (qae HB.out hb); clear hb; obtain ⟨hfgb, hcgb_0, hcgb_1, hcgb_2, hcgb_3, hcgb_4, hcgb_5⟩ := qz6 BKgb.out))
             go_ret
             exact ⟨by rw [HV.out]; rfl, HB.out⟩
def talikref07_Has.l0 : Nat → List Int → Int → Int → Option (Bool)
 | 0, _, _, _ => none
 | k + 1, x0, x1, x5 => if x5 < (x0.length : Int) then (if 0 ≤ x5 then (if (rd x0 x5) = x1 then (some true) else (talikref07_Has.l0 k x0 x1 (wrap64 (x5 + 1)))) else (none)) else (some false)
def talikref07_Has.f (k : Nat) (l0 : List Int) (a1 : Int) : Option (Bool) := talikref07_Has.l0 k l0 a1 0
theorem talikref07_Has.mono_l : ∀ k, (∀ y0 y1 y2, LeO (talikref07_Has.l0 k y0 y1 y2) (talikref07_Has.l0 (k + 1) y0 y1 y2))
 | 0 => fun _ _ _ r h => by simp [talikref07_Has.l0] at h
 | k + 1 => by
  have ih0 := talikref07_Has.mono_l k
  ·
   intro y0 y1 y2
   unfold talikref07_Has.l0
   repeat' first
   | (with_reducible exact ih0 _ _ _)
   | (with_reducible exact LeO.refl _)
   | (with_reducible exact LeO.none _)
   | (with_reducible refine LeO.ite ?_ ?_)
   | (with_reducible refine LeO.bind ?_ (fun _ => ?_))
   | exact ih0 _ _ _
   | exact LeO.none _
   | refine LeO.ite ?_ ?_
   | refine LeO.bind ?_ (fun _ => ?_)
theorem talikref07_Has.mono : ∀ a0 a1 k, LeO (talikref07_Has.f k a0 a1) (talikref07_Has.f (k + 1) a0 a1) := by
 intro a0 a1 k
 have ih0 := talikref07_Has.mono_l k
 unfold talikref07_Has.f
 repeat' first
   | (with_reducible exact ih0 _ _ _)
   | (with_reducible exact LeO.refl _)
   | (with_reducible exact LeO.none _)
   | (with_reducible refine LeO.ite ?_ ?_)
   | (with_reducible refine LeO.bind ?_ (fun _ => ?_))
   | exact ih0 _ _ _
   | exact LeO.none _
   | refine LeO.ite ?_ ?_
   | refine LeO.bind ?_ (fun _ => ?_)
theorem talikref07_Has.calls (k : Nat) (A0 : Option Addr) (c0 : Nat) (l0 : List Int) (a1 : Int) (r : Bool) (w : World) (hr0 : Kd.C (Kd.int .i64) w A0 l0.length l0) (hc0 : l0.length ≤ c0) (h : talikref07_Has.f k l0 a1 = some r) :
  Calls Try.prog 25 #[.slice A0 l0.length c0, .int .i64 a1] w fun e w' => e = .returned (.bool r) ∧ qar w w' := by
 have HR0 := qab.mk hr0
 have HC0 := qab.mk hc0
 clear hr0 hc0
 have H : (talikref07_Has.l0 k l0 a1 0) = some r := h
 clear h
 have H' := qab.mk H
 clear H
 go_enter Try.func25, Try.ntmps25
 go_wp2
 go_loopg [5] k (fun kq v5 w' => ∃ (x5_1 : Int), v5 = .int .i64 x5_1 ∧ qab (talikref07_Has.l0 kq l0 a1 x5_1 = some r) ∧ qab (kq ≤ k) ∧ qar w w')
 case atStart => exact ⟨(0), (by first | rfl | (simp; done) | (simp [*]; done)), H', ⟨Nat.le_refl _⟩, by repeat (first | exact qar.refl _ | apply qar.step)⟩
 case round =>
  clear H'
  try clear c2
  try clear p2
  obtain ⟨x5_1, rfl, HA, HK1, ⟨m1, rfl⟩⟩ := hrel
  cases gk with
  | zero => exact absurd HA.out (by simp [talikref07_Has.l0])
  | succ k1 =>
   have H := HA.out
   clear HA
   simp only [talikref07_Has.l0] at H
   by_cases c3 : x5_1 < (l0.length : Int)
   ·
    rw [if_pos c3] at H
    have c3b0 : decide (x5_1 < (l0.length : Int)) = true := decide_eq_true c3
    clear c3
    by_cases c4 : 0 ≤ x5_1
    ·
     rw [if_pos c4] at H
     have c4b0 : decide (0 ≤ x5_1) = true := decide_eq_true c4
     clear c4
     by_cases c5 : (rd l0 x5_1) = a1
     ·
      rw [if_pos c5] at H
      have c5b0 : ((rd l0 x5_1) == a1) = true := beq_iff_eq.mpr c5
      have c5b1 : ((rd l0 x5_1) != a1) = false := bne_eq_false_iff_eq.mpr c5
      clear c5
      obtain rfl := Option.some.inj H
      have p198 : 0 ≤ (x5_1 : Int) := of_decide_eq_true (by first | (with_reducible assumption) | assumption)
      have q198 : x5_1 < (l0.length : Int) := of_decide_eq_true (by first | (with_reducible assumption) | assumption)
      obtain ⟨ad198, e198, hx198_0⟩ := Kd.at_int HR0.out x5_1 p198 q198
      cases e198
      replace p198 := eq_true p198
      replace q198 := eq_true q198
      go_wp2
      go_ret
      exact ⟨by first | rfl | (simp; done) | (simp [*]; done), by repeat (first | exact qar.refl _ | apply qar.step)⟩
     ·
      rw [if_neg c5] at H
      have c5b0 : ((rd l0 x5_1) == a1) = false := beq_eq_false_iff_ne.mpr c5
      have c5b1 : ((rd l0 x5_1) != a1) = true := bne_iff_ne.mpr c5
      have H' := qab.mk H
      clear H
      have p198 : 0 ≤ (x5_1 : Int) := of_decide_eq_true (by first | (with_reducible assumption) | assumption)
      have q198 : x5_1 < (l0.length : Int) := of_decide_eq_true (by first | (with_reducible assumption) | assumption)
      obtain ⟨ad198, e198, hx198_0⟩ := Kd.at_int HR0.out x5_1 p198 q198
      cases e198
      replace p198 := eq_true p198
      replace q198 := eq_true q198
      go_wp2
      go_roundg k1
      case measure => have := HK1.out; omega
      case rel => exact ⟨(wrap64 (x5_1 + 1)), (by first | rfl | (simp; done) | (simp [*]; done)), H', ⟨by have := HK1.out; omega⟩, by repeat (first | exact qar.refl _ | apply qar.step)⟩
    ·
     rw [if_neg c4] at H
     exact absurd H (by simp)
   ·
    rw [if_neg c3] at H
    have c3b0 : decide (x5_1 < (l0.length : Int)) = false := decide_eq_false c3
    clear c3
    obtain rfl := Option.some.inj H
    go_wp2
    go_ret
    exact ⟨by first | rfl | (simp; done) | (simp [*]; done), by repeat (first | exact qar.refl _ | apply qar.step)⟩
theorem ref_Has_eq (l : List Int) (n : Int) (hl : l.length ≤ 9223372036854775807) : talikref07_Has.f (l.length + 1) l n = some (l.contains n) := by
 have go : ∀ (d i k : Nat), i + d = l.length → d < k → (∀ j, j < i → l.getD j 0 ≠ n) → talikref07_Has.l0 k l n (i : Int) = some (l.contains n) := by
  intro d
  induction d with
  | zero =>
   intro i k hd hk hp
   obtain ⟨k, rfl⟩ : ∃ m, k = m + 1 := ⟨k - 1, by omega⟩
   simp only [talikref07_Has.l0]
   rw [if_neg (by omega)]
   have : l.contains n = false := by
    rw [← Bool.not_eq_true]
    intro h
    have hm : n ∈ l := by simpa using h
    obtain ⟨j, hj, e⟩ := List.mem_iff_getElem.1 hm
    exact hp j (by omega) (by rw [List.getD_eq_getElem?_getD, List.getElem?_eq_getElem hj]; exact e)
   rw [this]
  | succ d ih =>
   intro i k hd hk hp
   obtain ⟨k, rfl⟩ : ∃ m, k = m + 1 := ⟨k - 1, by omega⟩
   simp only [talikref07_Has.l0]
   have e1 : rd l (i : Int) = l.getD i 0 := by simp [rd]
   rw [if_pos (by omega), if_pos (by omega), e1]
   by_cases h : l.getD i 0 = n
   ·
    rw [if_pos h]
    have hi : i < l.length := by omega
    have : l.contains n = true := by
     rw [List.getD_eq_getElem?_getD, List.getElem?_eq_getElem hi] at h
     simpa using List.mem_iff_getElem.2 ⟨i, hi, h⟩
    rw [this]
   ·
    rw [if_neg h, show wrap64 ((i : Int) + 1) = ((i + 1 : Nat) : Int) from by unfold wrap64; omega]
    refine ih (i + 1) k (by omega) (by omega) (fun j hj => ?_)
    rcases Nat.lt_or_ge j i with h2 | h2
    ·
     exact hp j h2
    ·
     obtain rfl : j = i := by omega
     exact h
 exact go l.length 0 _ (by omega) (by omega) (fun j hj => by omega)
theorem rhas_calls (A : Option Addr) (c : Nat) (l : List Int) (n : Int) (W : World) (hr : Kd.C (Kd.int .i64) W A l.length l) (hc : l.length ≤ c) : Calls Try.prog 25 #[.slice A l.length c, .int .i64 n] W fun e w' => e = .returned (.bool (l.contains n)) ∧ Below W.heap.size W w' :=
 (talikref07_Has.calls (l.length + 1) A c l n _ W hr hc (ref_Has_eq l n (Kd.C_max hr))).mono fun e w' ⟨h1, h2⟩ => ⟨h1, h2.below⟩
structure RF (w : World) (gb : Nat) (mcs : Array Value) (v : Value) (o : List Int) (W : World) : Prop where
 hb : Below w.heap.size w W
 b : W.heap[gb]? = some (.cells mcs 27 (0, 0))
 o : Kd.R (Kd.int .i64) 3 W w.heap.size (fun _ => True) v o
section
variable {w W W' : World} {gb : Nat} {mcs : Array Value} {v v' : Value} {o o' : List Int}
theorem RF.below (h : RF w gb mcs v o W) (hb : Below W.heap.size W W') : RF w gb mcs v o W' := ⟨qae h.hb hb, qad h.b hb, Kd.qal h.o hb⟩
theorem RF.app (h : RF w gb mcs v o W) (ho : Kd.R (Kd.int .i64) 3 W' w.heap.size (fun _ => True) v' o') (hB : Below w.heap.size w W') (hg : W.grownBy W' v.ownBlock) : RF w gb mcs v' o' W' := ⟨hB, blk_grown h.b hg (Kd.R_ne h.o h.b (by decide)), ho⟩
theorem RF.put {go n c : Nat} (h : RF w gb mcs (.slice (some ⟨go, 0, none⟩) n c) o W) (hn : 0 < n) (i : Nat) (x : Int) : RF w gb mcs (.slice (some ⟨go, 0, none⟩) n c) (o.set i x) (W.setCell ⟨go, i, none⟩ (.int .i64 x)) := by
 obtain ⟨h1, cs, h2⟩ := R_blk h.o hn
 exact ⟨qaj h.hb h1, blk_far (p := ⟨go, i, none⟩) h.b (blk_ne h.b h2 (by decide)) _, Kd.R_putn h.o (i : Int) x⟩
end
end Go.Proofs.Ytafkanmioinbiaa.SA
namespace Go.Proofs.Ytafkanmioinbiaa.SA
open Go.RowKit Go.Shelf Go.Proofs.YtafkanmioinbiaaW.PrintWords Go.Proofs.YtafkanmioinbiaaW.PrintLast Go.Proofs.YtafkanmioinbiaaW.PrintMore
attribute [local go_sem] qax qaz max_two min_two qao qap qay qba
def opE (l1 : List S44) (dk : Nat → Bool) (ths : List Int) (y i : Nat) : Prop := i < l1.length ∧ dk i = false ∧ (qav l1 i).f2 ≤ rd ths y
inductive Fl (l1 : List S44) (ws : List Int) (dk : Nat → Bool) (ths : List Int) : Nat → Int → Prop
 | waste {y : Nat} {p : Int} : p ∈ ws → Fl l1 ws dk ths y p
 | later {y : Nat} {p : Int} : Fl l1 ws dk ths y p → Fl l1 ws dk ths (y + 1) p
 | edge {y i : Nat} : opE l1 dk ths y i → Fl l1 ws dk ths y (qav l1 i).f0 → Fl l1 ws dk ths y (qav l1 i).f1
def InP (l1 : List S44) (P : Nat) : Prop := ∀ i : Nat, i < l1.length → (0 ≤ (qav l1 i).f0 ∧ (qav l1 i).f0 < P) ∧ (0 ≤ (qav l1 i).f1 ∧ (qav l1 i).f1 < P)
structure IsF (l1 : List S44) (ws : List Int) (dk : Nat → Bool) (ths : List Int) (N P b k : Nat) (o : List Int) : Prop where
 len : o.length = P
 rng : ∀ p : Int, 0 ≤ p → p < P → 0 ≤ rd o p ∧ (rd o p < b ∨ rd o p = N)
 iff : ∀ p : Int, 0 ≤ p → p < P → ∀ y : Nat, y < k → (rd o p ≤ y ↔ Fl l1 ws dk ths y p)
theorem rd_set (o : List Int) (n : Nat) (y x : Int) (hx : 0 ≤ x) (hn : n < o.length) : rd (o.set n y) x = if x = n then y else rd o x := by
 unfold rd
 rw [List.getD_eq_getElem?_getD, List.getElem?_set]
 by_cases h : x = n
 ·
  rw [if_pos (by omega), if_pos hn, if_pos h]
  rfl
 ·
  rw [if_neg (by omega), if_neg h, List.getD_eq_getElem?_getD]
section
variable {l1 : List S44} {ws : List Int} {dk : Nat → Bool} {ths : List Int} {N P b k : Nat} {o o' : List Int}
theorem IsF.step (hN : k < N) (h : IsF l1 ws dk ths N P b k o) (hb : b ≤ k + 1) (hE : InP l1 P) (hw : ∀ p ∈ ws, 0 ≤ p ∧ p < P) (h1 : o'.length = P)
  (h2 : ∀ p : Int, 0 ≤ p → p < P → rd o' p = rd o p ∨ (rd o p > k ∧ rd o' p = k)) (h3 : ∀ p : Int, 0 ≤ p → p < P → rd o' p ≤ k → Fl l1 ws dk ths k p)
  (h4 : ∀ p ∈ ws, rd o' p ≤ k) (h5 : ∀ i, opE l1 dk ths k i → rd o' (qav l1 i).f0 ≤ k → rd o' (qav l1 i).f1 ≤ k) : IsF l1 ws dk ths N P (k + 1) (k + 1) o' := by
 refine ⟨h1, fun p hp0 hp1 => ?_, fun p hp0 hp1 y hy => ?_⟩
 ·
  have := h.rng p hp0 hp1
  rcases h2 p hp0 hp1 with e | ⟨_, e⟩ <;> rw [e] <;> omega
 ·
  rcases Nat.lt_or_ge y k with hlt | hge
  ·
   rw [← h.iff p hp0 hp1 y hlt]
   rcases h2 p hp0 hp1 with e | ⟨e1, e2⟩
   ·
    rw [e]
   ·
    rw [e2]; constructor <;> intro _ <;> omega
  ·
   obtain rfl : y = k := by omega
   refine ⟨h3 p hp0 hp1, fun hf => ?_⟩
   have go : ∀ z q, Fl l1 ws dk ths z q → z = y → 0 ≤ q ∧ q < P → rd o' q ≤ y := by
    intro z q hq
    induction hq with
    | waste hm => exact fun _ _ => h4 _ hm
    | @later z q hq ih =>
     intro e hqP
     have := (h.iff q hqP.1 hqP.2 z (by omega)).2 hq
     rcases h2 q hqP.1 hqP.2 with e1 | ⟨e1, _⟩ <;> omega
    | @edge z i ho hq ih =>
     intro e _
     subst e
     exact h5 i ho (ih rfl (hE i ho.1).1)
   exact go y p hf rfl ⟨hp0, hp1⟩
structure Mid (l1 : List S44) (ws : List Int) (dk : Nat → Bool) (ths : List Int) (P y : Nat) (o o' : List Int) : Prop where
 len : o'.length = P
 chg : ∀ p : Int, 0 ≤ p → p < P → rd o' p = rd o p ∨ (rd o p > y ∧ rd o' p = y)
 snd : ∀ p : Int, 0 ≤ p → p < P → rd o' p ≤ y → Fl l1 ws dk ths y p
theorem Mid.put {y : Nat} (h : Mid l1 ws dk ths P y o o') (x : Int) (hx : 0 ≤ x ∧ x < P) (hgt : (y : Int) < rd o' x) (hf : Fl l1 ws dk ths y x) : Mid l1 ws dk ths P y o (o'.set x.toNat y) := by
 have hl : x.toNat < o'.length := by have := h.len; omega
 refine ⟨by rw [List.length_set]; exact h.len, fun p h0 h1 => ?_, fun p h0 h1 => ?_⟩
 ·
  rw [rd_set _ _ _ _ h0 hl]
  by_cases e : p = (x.toNat : Int)
  ·
   rw [if_pos e]
   obtain rfl : p = x := by omega
   refine .inr ⟨?_, rfl⟩
   rcases h.chg p h0 h1 with e | ⟨e, _⟩ <;> omega
  ·
   rw [if_neg e]
   exact h.chg p h0 h1
 ·
  rw [rd_set _ _ _ _ h0 hl]
  by_cases e : p = (x.toNat : Int)
  ·
   rw [if_pos e]
   obtain rfl : p = x := by omega
   exact fun _ => hf
  ·
   rw [if_neg e]
   exact h.snd p h0 h1
end
end Go.Proofs.Ytafkanmioinbiaa.SA
namespace Go.Proofs.Ytafkanmioinbiaa.SA
open Go.RowKit Go.Proofs.YtafkanmioinbiaaW.PrintWords Go.Proofs.YtafkanmioinbiaaW.PrintLast Go.Proofs.YtafkanmioinbiaaW.PrintMore
attribute [local go_sem] qax qaz max_two min_two qao qap qay qba
end Go.Proofs.Ytafkanmioinbiaa.SA
namespace Go.Proofs.Ytafkanmioinbiaa.SA
open Go.RowKit Go.Shelf Go.Proofs.YtafkanmioinbiaaW.PrintWords Go.Proofs.YtafkanmioinbiaaW.PrintLast Go.Proofs.YtafkanmioinbiaaW.PrintMore
attribute [local go_sem] qax qaz max_two min_two qao qap qay qba
def shortB (l1 : List S44) (l2 l3 : List Int) (l4 : List S41) (l5 : List S95) : Bool := decide (l1.length ≤ 16) && (decide (l2.length ≤ 15) && (decide (l3.length ≤ 15) && (decide (l4.length ≤ 15) && decide (l5.length ≤ 10))))
theorem known_some : taliklaw07_known.f = some true := rfl
section
variable (p : Int) (l1 : List S44) (l2 l3 : List Int) (l4 : List S41) (l5 : List S95)
theorem short_eq : taliklaw07_short.f p l1 l2 l3 l4 l5 = some (shortB l1 l2 l3 l4 l5) := by
 unfold taliklaw07_short.f shortB
 by_cases h1 : l1.length ≤ 16
 ·
  rw [if_pos (by omega), decide_eq_true h1]
  by_cases h2 : l2.length ≤ 15
  ·
   rw [if_pos (by omega), decide_eq_true h2]
   by_cases h3 : l3.length ≤ 15
   ·
    rw [if_pos (by omega), decide_eq_true h3]
    by_cases h4 : l4.length ≤ 15
    ·
     rw [if_pos (by omega), decide_eq_true h4, show decide ((l5.length : Int) ≤ 10) = decide (l5.length ≤ 10) from decide_eq_decide.2 (by omega)]
     rfl
    ·
     rw [if_neg (by omega), decide_eq_false h4]
     rfl
   ·
    rw [if_neg (by omega), decide_eq_false h3]
    rfl
  ·
   rw [if_neg (by omega), decide_eq_false h2]
   rfl
 ·
  rw [if_neg (by omega), decide_eq_false h1]
  rfl
theorem wsucc (i : Nat) (h : i < 1000000) : wrap64 ((i : Int) + 1) = ((i + 1 : Nat) : Int) := by unfold wrap64; omega
theorem valid_cost (hv : validB p l1 l2 l3 l4 l5 = true) (i : Nat) (hi : i < l1.length) : -1 ≤ (qav l1 i).f3 ∧ (qav l1 i).f3 ≤ 1000000 := by
 unfold validB at hv
 have h1 := (Bool.and_eq_true_iff.1 hv).1
 rw [List.all_eq_true] at h1
 have h2 := h1 _ (List.getElem_mem hi)
 unfold edgeB inB at h2
 simp only [Bool.and_eq_true, decide_eq_true_eq] at h2
 have e : qav l1 (i : Int) = l1[i] := by simp [qav, hi]
 rw [e]
 omega
end
theorem Fl.congr {l1 : List S44} {ws : List Int} {dk dk' : Nat → Bool} {ths : List Int} (h : ∀ i, i < l1.length → dk i = dk' i) {y : Nat} {x : Int} (hf : Fl l1 ws dk ths y x) : Fl l1 ws dk' ths y x := by
 induction hf with
 | waste hm => exact .waste hm
 | later _ ih => exact .later ih
 | edge ho _ ih => exact .edge ⟨ho.1, by rw [← h _ ho.1]; exact ho.2.1, ho.2.2⟩ ih
theorem IsF.congr {l1 : List S44} {ws : List Int} {dk dk' : Nat → Bool} {ths : List Int} {N P b k : Nat} {o : List Int} (h : ∀ i, i < l1.length → dk i = dk' i) (hf : IsF l1 ws dk ths N P b k o) : IsF l1 ws dk' ths N P b k o :=
 ⟨hf.len, hf.rng, fun p h0 h1 y hy => (hf.iff p h0 h1 y hy).trans ⟨fun g => g.congr h, fun g => g.congr (fun i hi => (h i hi).symm)⟩⟩
theorem Fl.mono {l1 l1' : List S44} {ws ws' : List Int} {dk dk' : Nat → Bool} {ths ths' : List Int} {N : Nat} (hw : ∀ p ∈ ws, p ∈ ws') (he : ∀ y i, y < N → opE l1 dk ths y i → opE l1' dk' ths' y i) (hr : ∀ i : Nat, i < l1.length → qav l1' i = qav l1 i)
  {y : Nat} {x : Int} (hf : Fl l1 ws dk ths y x) : y < N → Fl l1' ws' dk' ths' y x := by
 induction hf with
 | waste hm => exact fun _ => .waste (hw _ hm)
 | later _ ih => exact fun h => .later (ih (by omega))
 | @edge y i ho _ ih =>
  intro h
  have h1 := Fl.edge (he y i h ho) (by rw [hr i ho.1]; exact ih h)
  rwa [hr i ho.1] at h1
end Go.Proofs.Ytafkanmioinbiaa.SA
namespace Go.Proofs.Ytafkanmioinbiaa.SA
open Go.RowKit Go.Proofs.YtafkanmioinbiaaW.PrintWords Go.Proofs.YtafkanmioinbiaaW.PrintLast Go.Proofs.YtafkanmioinbiaaW.PrintMore
attribute [local go_sem] qax qaz max_two min_two qao qap qay qba
end Go.Proofs.Ytafkanmioinbiaa.SA
