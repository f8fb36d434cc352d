/- What functions of the program answer. No condition. -/
import Derived.Test.YtafkanmioinbiaaSC
set_option linter.all false
set_option maxRecDepth 100000
set_option maxHeartbeats 8000000
namespace Go.Proofs.Ytafkanmioinbiaa.SA
open Go.RowKit Go.Proofs.YtafkanmioinbiaaW.PrintWords Go.Proofs.YtafkanmioinbiaaW.PrintLast Go.Proofs.YtafkanmioinbiaaW.PrintMore
attribute [local go_sem] qax qaz max_two min_two qao qap qay qba
def seep_span.f (a0_0 : Int) (a0_1 : Int) (a1 : Int) : Option (Bool) := if a0_0 ≥ 0 then (if a0_0 ≤ a0_1 then (some (decide (a0_1 ≤ a1))) else (some false)) else (some false)
theorem seep_span.calls (a0_0 : Int) (a0_1 : Int) (a1 : Int) (r : Bool) (w : World) (h : seep_span.f a0_0 a0_1 a1 = some r) :
  Calls Try.prog 95 #[.agg #[.int .i64 a0_0, .int .i64 a0_1], .int .i64 a1] w fun e w' => e = .returned (.bool r) ∧ Below w.heap.size w w' := by
 have hu41 := Try.underlying41
 have HB := qab.mk (Below.refl w.heap.size w)
 have H : (if a0_0 ≥ 0 then (if a0_0 ≤ a0_1 then (some (decide (a0_1 ≤ a1))) else (some false)) else (some false)) = some r := h
 clear h
 by_cases c3 : a0_0 ≥ 0
 ·
  rw [if_pos c3] at H
  have c3b0 : decide (0 ≤ a0_0) = true := decide_eq_true c3
  clear c3
  by_cases c4 : a0_0 ≤ a0_1
  ·
   rw [if_pos c4] at H
   have c4b0 : decide (a0_0 ≤ a0_1) = true := decide_eq_true c4
   clear c4
   obtain rfl := Option.some.inj H
   go_enter Try.func95, Try.ntmps95
   go_wp2_with (first | ((with_reducible refine qam (N := 2) rfl ?_); refine ze 2 #[.int .i64 a0_0, .int .i64 a0_1] 41 ?_; intro gb101 hg w5 hbox hb; have n0_ := qab.mk (qae (zb HB.out) hb); have n1_ := qab.mk (hbox); have n2_ := qab.mk ((by rw [hg]; exact (below_size (zb HB.out)) : w.heap.size ≤ gb101)); have n3_ := qab.mk ((by rw [hg]; exact (below_size (zb HB.out)) : w.heap.size ≤ gb101)); clear HB; have HB := n0_; have BK101 := n1_; have GW101 := n2_; have GE101 := n3_; clear n0_ n1_ n2_ n3_; clear hb hbox hg; obtain ⟨hfz_, hcz6_0, hcz6_1⟩ := qz2 BK101.out))
   go_ret
   exact ⟨by first | rfl | (simp [qbb, qbc] <;> rfl) | (simp [*, qbb, qbc] <;> rfl), by repeat (first | (with_reducible first | exact HB.out | apply qag | apply qaf | apply qah | refine qaj ?_ GE101.out) | exact HB.out)⟩
  ·
   rw [if_neg c4] at H
   have c4b0 : decide (a0_0 ≤ a0_1) = false := decide_eq_false c4
   clear c4
   obtain rfl := Option.some.inj H
   go_enter Try.func95, Try.ntmps95
   go_wp2_with (first | ((with_reducible refine qam (N := 2) rfl ?_); refine ze 2 #[.int .i64 a0_0, .int .i64 a0_1] 41 ?_; intro gb101 hg w7 hbox hb; have n0_ := qab.mk (qae (zb HB.out) hb); have n1_ := qab.mk (hbox); have n2_ := qab.mk ((by rw [hg]; exact (below_size (zb HB.out)) : w.heap.size ≤ gb101)); have n3_ := qab.mk ((by rw [hg]; exact (below_size (zb HB.out)) : w.heap.size ≤ gb101)); clear HB; have HB := n0_; have BK101 := n1_; have GW101 := n2_; have GE101 := n3_; clear n0_ n1_ n2_ n3_; clear hb hbox hg; obtain ⟨hfz_, hcz8_0, hcz8_1⟩ := qz2 BK101.out))
   go_ret
   exact ⟨by first | rfl | (simp [qbb, qbc] <;> rfl) | (simp [*, qbb, qbc] <;> rfl), by repeat (first | (with_reducible first | exact HB.out | apply qag | apply qaf | apply qah | refine qaj ?_ GE101.out) | exact HB.out)⟩
 ·
  rw [if_neg c3] at H
  have c3b0 : decide (0 ≤ a0_0) = false := decide_eq_false c3
  clear c3
  obtain rfl := Option.some.inj H
  go_enter Try.func95, Try.ntmps95
  go_wp2_with (first | ((with_reducible refine qam (N := 2) rfl ?_); refine ze 2 #[.int .i64 a0_0, .int .i64 a0_1] 41 ?_; intro gb101 hg w9 hbox hb; have n0_ := qab.mk (qae (zb HB.out) hb); have n1_ := qab.mk (hbox); have n2_ := qab.mk ((by rw [hg]; exact (below_size (zb HB.out)) : w.heap.size ≤ gb101)); have n3_ := qab.mk ((by rw [hg]; exact (below_size (zb HB.out)) : w.heap.size ≤ gb101)); clear HB; have HB := n0_; have BK101 := n1_; have GW101 := n2_; have GE101 := n3_; clear n0_ n1_ n2_ n3_; clear hb hbox hg; obtain ⟨hfz_, hcz10_0, hcz10_1⟩ := qz2 BK101.out))
  go_ret
  exact ⟨by first | rfl | (simp [qbb, qbc] <;> rfl) | (simp [*, qbb, qbc] <;> rfl), by repeat (first | (with_reducible first | exact HB.out | apply qag | apply qaf | apply qah | refine qaj ?_ GE101.out) | exact HB.out)⟩
def seep_valid_1.f (a0_0 : Int) (a0_1 : Int) : Option (Bool) := (seep_span.f a0_0 a0_1 20000).bind fun t103 => (some (!t103))
theorem seep_valid_1.calls (a0_0 : Int) (a0_1 : Int) (r : Bool) (w : World) (h : seep_valid_1.f a0_0 a0_1 = some r) :
  Calls Try.prog 97 #[.agg #[.int .i64 a0_0, .int .i64 a0_1]] w fun e w' => e = .returned (.bool r) ∧ Below w.heap.size w w' := by
 have hu41 := Try.underlying41
 have HB := qab.mk (Below.refl w.heap.size w)
 have H : ((seep_span.f a0_0 a0_1 20000).bind fun t103 => (some (!t103))) = some r := h
 clear h
 replace H := Option.bind_eq_some_iff.mp H
 obtain ⟨t103, A20, H⟩ := H
 try dsimp only at H
 have A2 := qab.mk A20
 clear A20
 obtain rfl := Option.some.inj H
 go_enter Try.func97, Try.ntmps97
 go_wp2_with (first | ((with_reducible refine qam (N := 1) rfl ?_); refine ze 1 #[.int .i64 a0_0, .int .i64 a0_1] 41 ?_; intro gb102 hg w3 hbox hb; have n0_ := qab.mk (qae (zb HB.out) hb); have n1_ := qab.mk (hbox); have n2_ := qab.mk ((by rw [hg]; exact (below_size (zb HB.out)) : w.heap.size ≤ gb102)); have n3_ := qab.mk ((by rw [hg]; exact (below_size (zb HB.out)) : w.heap.size ≤ gb102)); clear HB; have HB := n0_; have BK102 := n1_; have GW102 := n2_; have GE102 := n3_; clear n0_ n1_ n2_ n3_; clear hb hbox hg; obtain ⟨hfz_, hcz4_0, hcz4_1⟩ := qz2 BK102.out) | ((with_reducible refine gate_callee (f := 95) rfl ?_); refine zl 4 Try.func95 #[.agg #[.int .i64 a0_0, .int .i64 a0_1], .int .i64 20000] ?_; (with_reducible refine (seep_span.calls a0_0 a0_1 20000 t103 _ A2.out).mono ?_); rintro e w5 ⟨rfl, hb⟩; refine ⟨_, rfl, ?_⟩; replace BK102 := qab.mk (zk BK102.out hb); replace HB := qab.mk (qae (by repeat (first | (with_reducible first | exact HB.out | apply qag | apply qaf | apply qah | refine qaj ?_ GE102.out) | exact HB.out)) hb); (try clear hb); (try clear hb2); (try clear hk); (try clear hi)))
 go_ret
 exact ⟨by first | rfl | (simp [qbb, qbc] <;> rfl) | (simp [*, qbb, qbc] <;> rfl), by repeat (first | (with_reducible first | exact HB.out | apply qag | apply qaf | apply qah | refine qaj ?_ GE102.out) | exact HB.out)⟩
def seep_in.f (a0 : Int) (a1 : Int) (a2 : Int) : Option (Bool) := if a0 ≥ a1 then (some (decide (a0 ≤ a2))) else (some false)
theorem seep_in.calls (a0 : Int) (a1 : Int) (a2 : Int) (r : Bool) (w : World) (h : seep_in.f a0 a1 a2 = some r) :
  Calls Try.prog 55 #[.int .i64 a0, .int .i64 a1, .int .i64 a2] w fun e w' => e = .returned (.bool r) ∧ qar w w' := by
 have H : (if a0 ≥ a1 then (some (decide (a0 ≤ a2))) else (some false)) = some r := h
 clear h
 by_cases c4 : a0 ≥ a1
 ·
  rw [if_pos c4] at H
  have c4b0 : decide (a1 ≤ a0) = true := decide_eq_true c4
  clear c4
  obtain rfl := Option.some.inj H
  go_enter Try.func55, Try.ntmps55
  go_wp2
  go_ret
  exact ⟨by first | rfl | (simp; done) | (simp [*]; done), by repeat (first | exact qar.refl _ | apply qar.step)⟩
 ·
  rw [if_neg c4] at H
  have c4b0 : decide (a1 ≤ a0) = false := decide_eq_false c4
  clear c4
  obtain rfl := Option.some.inj H
  go_enter Try.func55, Try.ntmps55
  go_wp2
  go_ret
  exact ⟨by first | rfl | (simp; done) | (simp [*]; done), by repeat (first | exact qar.refl _ | apply qar.step)⟩
def seep_increasing.l0 : Nat → List Int → Int → List Int → Int → Int → Option (Bool)
 | 0, _, _, _, _, _ => none
 | k + 1, x0, x1, x7, x8, x9 => if x9 < x8 then (if 0 ≤ x9 then (if x9 < (x7.length : Int) then ((seep_in.f (rd x7 x9) 0 (wrap64 (x1 - 1))).bind fun t106 => (if t106 = true then (if x9 > 0 then (if 0 ≤ (wrap64 (x9 - 1)) then (if (wrap64 (x9 - 1)) < (x0.length : Int) then (if (rd x7 x9) ≤ (rd x0 (wrap64 (x9 - 1))) then (some false) else (seep_increasing.l0 k x0 x1 x7 x8 (wrap64 (x9 + 1)))) else (none)) else (none)) else (seep_increasing.l0 k x0 x1 x7 x8 (wrap64 (x9 + 1)))) else (some false))) else (none)) else (none)) else (some true)
def seep_increasing.f (k : Nat) (l0 : List Int) (a1 : Int) : Option (Bool) := seep_increasing.l0 k l0 a1 l0 (l0.length : Int) 0
theorem seep_increasing.calls (k : Nat) (A0 : Option Addr) (c0 : Nat) (l0 : List Int) (a1 : Int) (r : Bool) (w : World) (hr0 : Kd.C (Kd.int .i64) w A0 l0.length l0) (hc0 : l0.length ≤ c0) (h : seep_increasing.f k l0 a1 = some r) :
  Calls Try.prog 88 #[.slice A0 l0.length c0, .int .i64 a1] w fun e w' => e = .returned (.bool r) ∧ qar w w' := by
 have HR0 := qab.mk hr0
 have HC0 := qab.mk hc0
 clear hr0 hc0
 have H : (seep_increasing.l0 k l0 a1 l0 (l0.length : Int) 0) = some r := h
 clear h
 have H' := qab.mk H
 clear H
 go_enter Try.func88, Try.ntmps88
 go_wp2
 go_loopg [9] k (fun kq v9 w' => ∃ (x9_1 : Int), v9 = .int .i64 x9_1 ∧ qab (seep_increasing.l0 kq l0 a1 l0 (l0.length : Int) x9_1 = some r) ∧ qab (kq ≤ k) ∧ qar w w')
 case atStart => exact ⟨(0), (by first | rfl | (simp; done) | (simp [*]; done)), H', ⟨Nat.le_refl _⟩, by repeat (first | exact qar.refl _ | apply qar.step)⟩
 case round =>
  clear H'
  try clear p2
  obtain ⟨x9_1, rfl, HA, HK1, ⟨m1, rfl⟩⟩ := hrel
  cases gk with
  | zero => exact absurd HA.out (by simp [seep_increasing.l0])
  | succ k1 =>
   have H := HA.out
   clear HA
   simp only [seep_increasing.l0] at H
   by_cases c3 : x9_1 < (l0.length : Int)
   ·
    rw [if_pos c3] at H
    have c3b0 : decide (x9_1 < (l0.length : Int)) = true := decide_eq_true c3
    clear c3
    by_cases c4 : 0 ≤ x9_1
    ·
     rw [if_pos c4] at H
     have c4b0 : decide (0 ≤ x9_1) = true := decide_eq_true c4
     clear c4
     by_cases c5 : x9_1 < (l0.length : Int)
     ·
      rw [if_pos c5] at H
      have c5b0 : decide (x9_1 < (l0.length : Int)) = true := decide_eq_true c5
      clear c5
      replace H := Option.bind_eq_some_iff.mp H
      obtain ⟨t106, A60, H⟩ := H
      try dsimp only at H
      have A6 := qab.mk A60
      clear A60
      by_cases c7 : t106 = true
      ·
       subst c7
       rw [if_pos rfl] at H
       by_cases c8 : x9_1 > 0
       ·
        rw [if_pos c8] at H
        have c8b0 : decide (0 < x9_1) = true := decide_eq_true c8
        clear c8
        obtain ⟨ji9, hji9⟩ : ∃ j_ : Int, (wrap64 (x9_1 - 1)) = j_ := ⟨_, rfl⟩
        replace H : (if 0 ≤ (ji9) then (if (ji9) < (l0.length : Int) then (if (rd l0 x9_1) ≤ (rd l0 (ji9)) then (some false) else (seep_increasing.l0 k1 l0 a1 l0 (l0.length : Int) (wrap64 (x9_1 + 1)))) else (none)) else (none)) = some r := by first | (rw [hji9] at H; exact H) | (simp only [hji9] at H ⊢; exact H)
        (try rw [hji9] at A6)
        have hji9w : (IntKind.i64.wrap (x9_1 - 1)) = ji9 := (i64_w _).trans hji9
        by_cases c10 : 0 ≤ (ji9)
        ·
         rw [if_pos c10] at H
         have c10b0 : decide (0 ≤ (ji9)) = true := decide_eq_true c10
         clear c10
         by_cases c11 : (ji9) < (l0.length : Int)
         ·
          rw [if_pos c11] at H
          have c11b0 : decide ((ji9) < (l0.length : Int)) = true := decide_eq_true c11
          clear c11
          by_cases c12 : (rd l0 x9_1) ≤ (rd l0 (ji9))
          ·
           rw [if_pos c12] at H
           have c12b0 : decide ((rd l0 x9_1) ≤ (rd l0 (ji9))) = true := decide_eq_true c12
           clear c12
           obtain rfl := Option.some.inj H
           have p105 : 0 ≤ (x9_1 : Int) := of_decide_eq_true (by first | (with_reducible assumption) | assumption)
           have q105 : x9_1 < (l0.length : Int) := of_decide_eq_true (by first | (with_reducible assumption) | assumption)
           obtain ⟨ad105, e105, hx105_0⟩ := Kd.at_int HR0.out x9_1 p105 q105
           cases e105
           replace p105 := eq_true p105
           replace q105 := eq_true q105
           go_wp2_with (first | ((with_reducible refine gate_callee (f := 55) rfl ?_); refine zl 17 Try.func55 #[.int .i64 (rd l0 x9_1), .int .i64 0, .int .i64 (wrap64 (a1 - 1))] ?_; (with_reducible refine (seep_in.calls (rd l0 x9_1) 0 (wrap64 (a1 - 1)) true _ A6.out).mono ?_); rintro e w' ⟨rfl, ⟨nd, rfl⟩⟩; refine ⟨_, rfl, ?_⟩; have p107 : 0 ≤ ((ji9) : Int) := of_decide_eq_true (by first | (with_reducible assumption) | assumption); have q107 : (ji9) < (l0.length : Int) := of_decide_eq_true (by first | (with_reducible assumption) | assumption); obtain ⟨ad107, e107, hx107_0⟩ := Kd.at_int HR0.out (ji9) p107 q107; obtain rfl : ad105 = ad107 := (by injection e107); replace p107 := eq_true p107; replace q107 := eq_true q107))
           go_ret
           exact ⟨by first | rfl | (simp; done) | (simp only [← hji9] <;> (first | rfl | simp)) | (simp [*]; done), by repeat (first | exact qar.refl _ | apply qar.step)⟩
          ·
           rw [if_neg c12] at H
           have c12b0 : decide ((rd l0 x9_1) ≤ (rd l0 (ji9))) = false := decide_eq_false c12
           clear c12
           have H' := qab.mk H
           clear H
           have p105 : 0 ≤ (x9_1 : Int) := of_decide_eq_true (by first | (with_reducible assumption) | assumption)
           have q105 : x9_1 < (l0.length : Int) := of_decide_eq_true (by first | (with_reducible assumption) | assumption)
           obtain ⟨ad105, e105, hx105_0⟩ := Kd.at_int HR0.out x9_1 p105 q105
           cases e105
           replace p105 := eq_true p105
           replace q105 := eq_true q105
           go_wp2_with (first | ((with_reducible refine gate_callee (f := 55) rfl ?_); refine zl 17 Try.func55 #[.int .i64 (rd l0 x9_1), .int .i64 0, .int .i64 (wrap64 (a1 - 1))] ?_; (with_reducible refine (seep_in.calls (rd l0 x9_1) 0 (wrap64 (a1 - 1)) true _ A6.out).mono ?_); rintro e w' ⟨rfl, ⟨nd, rfl⟩⟩; refine ⟨_, rfl, ?_⟩; have p107 : 0 ≤ ((ji9) : Int) := of_decide_eq_true (by first | (with_reducible assumption) | assumption); have q107 : (ji9) < (l0.length : Int) := of_decide_eq_true (by first | (with_reducible assumption) | assumption); obtain ⟨ad107, e107, hx107_0⟩ := Kd.at_int HR0.out (ji9) p107 q107; obtain rfl : ad105 = ad107 := (by injection e107); replace p107 := eq_true p107; replace q107 := eq_true q107))
           go_roundg k1
           case measure => have := HK1.out; omega
           case rel => exact ⟨(wrap64 (x9_1 + 1)), (by first | rfl | (simp; done) | (simp [*]; done)), H', ⟨by have := HK1.out; omega⟩, by repeat (first | exact qar.refl _ | apply qar.step)⟩
         ·
          rw [if_neg c11] at H
          exact absurd H (by simp)
        ·
         rw [if_neg c10] at H
         exact absurd H (by simp)
       ·
        rw [if_neg c8] at H
        have c8b0 : decide (0 < x9_1) = false := decide_eq_false c8
        clear c8
        have H' := qab.mk H
        clear H
        have p105 : 0 ≤ (x9_1 : Int) := of_decide_eq_true (by first | (with_reducible assumption) | assumption)
        have q105 : x9_1 < (l0.length : Int) := of_decide_eq_true (by first | (with_reducible assumption) | assumption)
        obtain ⟨ad105, e105, hx105_0⟩ := Kd.at_int HR0.out x9_1 p105 q105
        cases e105
        replace p105 := eq_true p105
        replace q105 := eq_true q105
        go_wp2_with (first | ((with_reducible refine gate_callee (f := 55) rfl ?_); refine zl 17 Try.func55 #[.int .i64 (rd l0 x9_1), .int .i64 0, .int .i64 (wrap64 (a1 - 1))] ?_; (with_reducible refine (seep_in.calls (rd l0 x9_1) 0 (wrap64 (a1 - 1)) true _ A6.out).mono ?_); rintro e w' ⟨rfl, ⟨nd, rfl⟩⟩; refine ⟨_, rfl, ?_⟩))
        go_roundg k1
        case measure => have := HK1.out; omega
        case rel => exact ⟨(wrap64 (x9_1 + 1)), (by first | rfl | (simp; done) | (simp [*]; done)), H', ⟨by have := HK1.out; omega⟩, by repeat (first | exact qar.refl _ | apply qar.step)⟩
      ·
       replace c7 := Bool.eq_false_iff.mpr c7
       subst c7
       rw [if_neg (show ¬ (false = true) by decide)] at H
       obtain rfl := Option.some.inj H
       have p105 : 0 ≤ (x9_1 : Int) := of_decide_eq_true (by first | (with_reducible assumption) | assumption)
       have q105 : x9_1 < (l0.length : Int) := of_decide_eq_true (by first | (with_reducible assumption) | assumption)
       obtain ⟨ad105, e105, hx105_0⟩ := Kd.at_int HR0.out x9_1 p105 q105
       cases e105
       replace p105 := eq_true p105
       replace q105 := eq_true q105
       go_wp2_with (first | ((with_reducible refine gate_callee (f := 55) rfl ?_); refine zl 17 Try.func55 #[.int .i64 (rd l0 x9_1), .int .i64 0, .int .i64 (wrap64 (a1 - 1))] ?_; (with_reducible refine (seep_in.calls (rd l0 x9_1) 0 (wrap64 (a1 - 1)) false _ A6.out).mono ?_); rintro e w' ⟨rfl, ⟨nd, rfl⟩⟩; refine ⟨_, rfl, ?_⟩))
       go_ret
       exact ⟨by first | rfl | (simp; done) | (simp [*]; done), by repeat (first | exact qar.refl _ | apply qar.step)⟩
     ·
      rw [if_neg c5] at H
      exact absurd H (by simp)
    ·
     rw [if_neg c4] at H
     exact absurd H (by simp)
   ·
    rw [if_neg c3] at H
    have c3b0 : decide (x9_1 < (l0.length : Int)) = false := decide_eq_false c3
    clear c3
    obtain rfl := Option.some.inj H
    go_wp2
    go_ret
    exact ⟨by first | rfl | (simp; done) | (simp [*]; done), by repeat (first | exact qar.refl _ | apply qar.step)⟩
def inB (x lo hi : Int) : Bool := decide (lo ≤ x) && decide (x ≤ hi)
def spanB (s : S41) (hi : Int) : Bool := decide (0 ≤ s.f0) && (decide (s.f0 ≤ s.f1) && decide (s.f1 ≤ hi))
def edgeB (p : Int) (e : S44) : Bool := inB e.f0 0 (wrap64 (p - 1)) && (inB e.f1 0 (wrap64 (p - 1)) && (!decide (e.f0 = e.f1) && (inB e.f2 0 20000 && inB e.f3 (-1) 1000000)))
def lakeB (n : Int) (i : Int) (l : S95) : Bool := (decide (l.f0 = -1) || inB l.f0 (i + 1) (n - 1)) && (inB l.f1 0 20000 && (spanB l.f2 1000000 && spanB l.f3 1000000))
def incAt (l : List Int) (b : Int) (i : Nat) : Bool := inB (l.getD i 0) 0 (wrap64 (b - 1)) && (decide (i = 0) || decide (l.getD (i - 1) 0 < l.getD i 0))
def incB (l : List Int) (b : Int) : Bool := (List.range l.length).all (incAt l b)
def lakesB (l : List S95) : Bool := (List.range l.length).all fun i => lakeB l.length i (l.getD i z95)
def validB (p : Int) (l1 : List S44) (l2 l3 : List Int) (l4 : List S41) (l5 : List S95) : Bool :=
 l1.all (edgeB p) && (lakesB l5 && (inB p 1 10 && (decide (l1.length ≤ 12) && (incB l2 p && (incB l3 p && (inB l4.length 1 10 && (l4.all (fun s => spanB s 20000) && decide (l5.length ≤ 6))))))))
theorem seep_in_eq (x lo hi : Int) : seep_in.f x lo hi = some (inB x lo hi) := by
 unfold seep_in.f inB
 by_cases h : x ≥ lo <;> simp [h]
theorem seep_span_eq (a b hi : Int) : seep_span.f a b hi = some (spanB ⟨a, b⟩ hi) := by
 unfold seep_span.f spanB
 by_cases h : a ≥ 0 <;> by_cases h2 : a ≤ b <;> simp [h, h2]
theorem range_all_false {n : Nat} {p : Nat → Bool} (k : Nat) (hk : k < n) (h : p k = false) : (List.range n).all p = false := by
 rw [List.all_eq_false]
 exact ⟨k, List.mem_range.2 hk, by simp [h]⟩
theorem range_all_true {n : Nat} {p : Nat → Bool} (h : ∀ k, k < n → p k = true) : (List.range n).all p = true := by
 rw [List.all_eq_true]
 exact fun k hk => h k (List.mem_range.1 hk)
theorem inc_go (l : List Int) (b : Int) (hl : l.length ≤ 9223372036854775807) : ∀ (d i k : Nat), i + d = l.length → d < k → (∀ j, j < i → incAt l b j = true) → seep_increasing.l0 k l b l (l.length : Int) (i : Int) = some (incB l b) := by
 intro d
 induction d with
 | zero =>
  intro i k hd hk hp
  obtain ⟨k, rfl⟩ : ∃ m, k = m + 1 := ⟨k - 1, by omega⟩
  simp only [seep_increasing.l0]
  rw [if_neg (by omega)]
  unfold incB
  rw [range_all_true (fun j hj => hp j (by omega))]
 | succ d ih =>
  intro i k hd hk hp
  obtain ⟨k, rfl⟩ : ∃ m, k = m + 1 := ⟨k - 1, by omega⟩
  simp only [seep_increasing.l0]
  have e1 : rd l (i : Int) = l.getD i 0 := by simp [rd]
  rw [if_pos (by omega), if_pos (by omega), if_pos (by omega), seep_in_eq, Option.bind_some, e1]
  by_cases h1 : inB (l.getD i 0) 0 (wrap64 (b - 1)) = true
  ·
   rw [if_pos h1]
   by_cases h2 : (i : Int) > 0
   ·
    have e2 : wrap64 ((i : Int) - 1) = ((i - 1 : Nat) : Int) := by unfold wrap64; omega
    have e3 : rd l ((i - 1 : Nat) : Int) = l.getD (i - 1) 0 := by simp [rd]
    rw [if_pos h2, e2, if_pos (by omega), if_pos (by omega), e3]
    by_cases h3 : l.getD i 0 ≤ l.getD (i - 1) 0
    ·
     rw [if_pos h3]
     unfold incB
     rw [range_all_false i (by omega) (by unfold incAt; rw [h1, decide_eq_false (show ¬ i = 0 by omega), decide_eq_false (show ¬ l.getD (i - 1) 0 < l.getD i 0 by omega)]; rfl)]
    ·
     rw [if_neg h3, show wrap64 ((i : Int) + 1) = ((i + 1 : Nat) : Int) from by unfold wrap64; omega]
     refine ih (i + 1) k (by omega) (by omega) (fun j hj => ?_)
     rcases Nat.lt_or_ge j i with h | h
     ·
      exact hp j h
     ·
      obtain rfl : j = i := by omega
      unfold incAt
      rw [h1, decide_eq_true (show l.getD (j - 1) 0 < l.getD j 0 by omega), Bool.or_true]
      rfl
   ·
    rw [if_neg h2, show wrap64 ((i : Int) + 1) = ((i + 1 : Nat) : Int) from by unfold wrap64; omega]
    refine ih (i + 1) k (by omega) (by omega) (fun j hj => ?_)
    rcases Nat.lt_or_ge j i with h | h
    ·
     exact hp j h
    ·
     obtain rfl : j = i := by omega
     unfold incAt
     rw [h1, decide_eq_true (show j = 0 by omega)]
     rfl
  ·
   rw [if_neg h1]
   unfold incB
   rw [range_all_false i (by omega) (by unfold incAt; rw [show inB (l.getD i 0) 0 (wrap64 (b - 1)) = false from by simpa using h1]; rfl)]
theorem seep_inc_eq (l : List Int) (b : Int) (hl : l.length ≤ 9223372036854775807) : seep_increasing.f (l.length + 1) l b = some (incB l b) := inc_go l b hl l.length 0 _ (by omega) (by omega) (fun j hj => by omega)
theorem in_calls (x lo hi : Int) (W : World) : Calls Try.prog 55 #[.int .i64 x, .int .i64 lo, .int .i64 hi] W fun e w' => e = .returned (.bool (inB x lo hi)) ∧ Below W.heap.size W w' :=
 (seep_in.calls x lo hi _ W (seep_in_eq x lo hi)).mono fun e w' ⟨h1, h2⟩ => ⟨h1, h2.below⟩
theorem span_calls (s : S41) (hi : Int) (W : World) : Calls Try.prog 95 #[.agg #[.int .i64 s.f0, .int .i64 s.f1], .int .i64 hi] W fun e w' => e = .returned (.bool (spanB s hi)) ∧ Below W.heap.size W w' :=
 (seep_span.calls s.f0 s.f1 hi _ W (seep_span_eq s.f0 s.f1 hi))
theorem inc_calls (A : Option Addr) (c : Nat) (l : List Int) (b : Int) (W : World) (hr : Kd.C (Kd.int .i64) W A l.length l) (hc : l.length ≤ c) : Calls Try.prog 88 #[.slice A l.length c, .int .i64 b] W fun e w' => e = .returned (.bool (incB l b)) ∧ Below W.heap.size W w' :=
 (seep_increasing.calls (l.length + 1) A c l b _ W hr hc (seep_inc_eq l b (Kd.C_max hr))).mono fun e w' ⟨h1, h2⟩ => ⟨h1, h2.below⟩
theorem valid_1_calls (s : S41) (W : World) : Calls Try.prog 97 #[.agg #[.int .i64 s.f0, .int .i64 s.f1]] W fun e w' => e = .returned (.bool (!spanB s 20000)) ∧ Below W.heap.size W w' := by
 have h : seep_valid_1.f s.f0 s.f1 = some (!spanB s 20000) := by unfold seep_valid_1.f; rw [seep_span_eq]; rfl
 exact seep_valid_1.calls _ _ _ W h
section
variable {p : Int} {l1 : List S44} {l2 l3 : List Int} {l4 : List S41} {l5 : List S95}
theorem validB_edge (k : Nat) (hk : k < l1.length) (h : edgeB p (l1.getD k z44) = false) : validB p l1 l2 l3 l4 l5 = false := by
 have : l1.all (edgeB p) = false := by
  rw [List.all_eq_false]
  refine ⟨l1[k], List.getElem_mem hk, ?_⟩
  rw [List.getD_eq_getElem?_getD, List.getElem?_eq_getElem hk] at h
  simpa using h
 unfold validB
 rw [this]
 rfl
theorem all_edges (h : ∀ j : Nat, j < l1.length → edgeB p (l1.getD j z44) = true) : l1.all (edgeB p) = true := by
 rw [List.all_eq_true]
 intro x hx
 obtain ⟨j, hj, rfl⟩ := List.mem_iff_getElem.1 hx
 have := h j hj
 rwa [List.getD_eq_getElem?_getD, List.getElem?_eq_getElem hj] at this
theorem validB_lake (he : l1.all (edgeB p) = true) (k : Nat) (hk : k < l5.length) (h : lakeB l5.length k (l5.getD k z95) = false) : validB p l1 l2 l3 l4 l5 = false := by
 have : lakesB l5 = false := range_all_false k hk h
 unfold validB
 rw [he, this]
 rfl
theorem all_lakes (h : ∀ j : Nat, j < l5.length → lakeB l5.length j (l5.getD j z95) = true) : lakesB l5 = true := range_all_true h
end
theorem i64_wrap_nat (n : Nat) (h : n < 9223372036854775808) : IntKind.i64.wrap (n : Int) = (n : Int) := by
 simp [IntKind.wrap_i64, wrap64]
 omega
theorem bits_or_i64_nat (a b : Nat) (ha : a < 9223372036854775808) (hb : b < 9223372036854775808) : bits .or .i64 (a : Int) (b : Int) = ((a ||| b : Nat) : Int) := by
 have hx : a ||| b < 2 ^ 63 := Nat.or_lt_two_pow (by omega) (by omega)
 have h1 : (BitVec.ofInt 64 (a : Int)).toNat = a := by
  rw [BitVec.ofInt_natCast, BitVec.toNat_ofNat]; exact Nat.mod_eq_of_lt (by omega)
 have h2 : (BitVec.ofInt 64 (b : Int)).toNat = b := by
  rw [BitVec.ofInt_natCast, BitVec.toNat_ofNat]; exact Nat.mod_eq_of_lt (by omega)
 show IntKind.i64.wrap ((BitVec.ofInt 64 (a : Int) ||| BitVec.ofInt 64 (b : Int)).toNat : Int) = _
 rw [BitVec.toNat_or, h1, h2]
 rw [i64_wrap_nat _ (by omega)]
theorem bits_and_i64_nat (a b : Nat) (ha : a < 9223372036854775808) (hb : b < 9223372036854775808) : bits .and .i64 (a : Int) (b : Int) = ((a &&& b : Nat) : Int) := by
 have hx : a &&& b ≤ a := Nat.and_le_left
 have h1 : (BitVec.ofInt 64 (a : Int)).toNat = a := by
  rw [BitVec.ofInt_natCast, BitVec.toNat_ofNat]; exact Nat.mod_eq_of_lt (by omega)
 have h2 : (BitVec.ofInt 64 (b : Int)).toNat = b := by
  rw [BitVec.ofInt_natCast, BitVec.toNat_ofNat]; exact Nat.mod_eq_of_lt (by omega)
 show IntKind.i64.wrap ((BitVec.ofInt 64 (a : Int) &&& BitVec.ofInt 64 (b : Int)).toNat : Int) = _
 rw [BitVec.toNat_and, h1, h2]
 rw [i64_wrap_nat _ (by omega)]
def maskV (l : List Int) : Nat := l.foldl (fun m n => m ||| 2 ^ n.toNat) 0
theorem maskV_snoc (l : List Int) (n : Int) : maskV (l ++ [n]) = maskV l ||| 2 ^ n.toNat := by simp [maskV]
theorem mask_lt (l : List Int) (k : Nat) (h : ∀ x ∈ l, 0 ≤ x ∧ x < k) : maskV l < 2 ^ k := by
 have key : ∀ (l : List Int) (m : Nat), m < 2 ^ k → (∀ x ∈ l, 0 ≤ x ∧ x < k) → l.foldl (fun m n => m ||| 2 ^ n.toNat) m < 2 ^ k := by
  intro l
  induction l with
  | nil => intro m hm _; exact hm
  | cons x t ih =>
   intro m hm hx
   have h0 := hx x (by simp)
   exact ih _ (Nat.or_lt_two_pow hm (Nat.pow_lt_pow_right (by decide) (by omega))) (fun y hy => hx y (by simp [hy]))
 exact key l 0 (Nat.two_pow_pos k) h
def dykeV (d i : Int) : Bool := bits .and .i64 (d / 2 ^ min i.toNat 64) 1 == 1
theorem dyke_bit (m : Nat) (hm : m < 9223372036854775808) (i : Nat) (hi : i < 64) : dykeV (m : Int) (i : Int) = m.testBit i := by
 unfold dykeV
 rw [Int.toNat_natCast, Nat.min_eq_left (by omega)]
 have e : ((m : Int) / 2 ^ i) = ((m / 2 ^ i : Nat) : Int) := by simp
 have hle : m / 2 ^ i ≤ m := Nat.div_le_self _ _
 rw [e, show (1 : Int) = ((1 : Nat) : Int) from rfl, bits_and_i64_nat _ _ (by omega) (by decide), Nat.and_one_is_mod, Nat.testBit_eq_decide_div_mod_eq]
 have h2 : m / 2 ^ i % 2 = 0 ∨ m / 2 ^ i % 2 = 1 := by omega
 rcases h2 with h2 | h2 <;> simp [h2]
def givenB (p : Int) (l1 : List S44) (l2 l3 : List Int) (l4 : List S41) (l5 : List S95) (l : List Int) : Bool :=
 validB p l1 l2 l3 l4 l5 && (incB l l1.length && l.all fun n => !decide ((qav l1 n).f3 = -1))
theorem inc_mem {l : List Int} {b : Int} (h : incB l b = true) (hb : 1 ≤ b ∨ 0 ≤ b) (hb2 : b ≤ 9223372036854775807) : ∀ x ∈ l, 0 ≤ x ∧ x < b := by
 intro x hx
 obtain ⟨j, hj, rfl⟩ := List.mem_iff_getElem.1 hx
 unfold incB at h
 rw [List.all_eq_true] at h
 have h1 := h j (List.mem_range.2 hj)
 unfold incAt inB at h1
 rw [List.getD_eq_getElem?_getD, List.getElem?_eq_getElem hj] at h1
 simp only [Bool.and_eq_true, decide_eq_true_eq, Option.getD_some] at h1
 have h2 := h1.1
 have e : wrap64 (b - 1) = b - 1 := by unfold wrap64; omega
 rw [e] at h2
 omega
def idxI {α : Type} (p : α → Bool) (l : List α) : Int := match l.findIdx? p with | some i => (i : Int) | none => -1
theorem idxI_some {α : Type} (p : α → Bool) (l : List α) (d : α) (k : Nat) (hk : k < l.length) (hn : ∀ j, j < k → p (l.getD j d) = false) (h : p (l.getD k d) = true) : idxI p l = (k : Int) := by
 have : l.findIdx? p = some k := by
  rw [List.findIdx?_eq_some_iff_getElem]
  refine ⟨hk, by simpa [hk] using h, fun j hj => ?_⟩
  have := hn j hj
  simp [show j < l.length by omega] at this
  simp [this]
 simp [idxI, this]
theorem idxI_none {α : Type} (p : α → Bool) (l : List α) (d : α) (hn : ∀ j, j < l.length → p (l.getD j d) = false) : idxI p l = -1 := by
 have : l.findIdx? p = none := by
  rw [List.findIdx?_eq_none_iff]
  intro x hx
  obtain ⟨j, hj, rfl⟩ := List.mem_iff_getElem.1 hx
  have := hn j hj
  simpa [hj] using this
 simp [idxI, this]
theorem idxI_any {α : Type} (p : α → Bool) (l : List α) : decide (0 ≤ idxI p l) = l.any p := by
 unfold idxI
 cases h : l.findIdx? p with
 | none =>
  rw [List.findIdx?_eq_none_iff] at h
  have : l.any p = false := by simpa using h
  simp [this]
 | some i =>
  rw [List.findIdx?_eq_some_iff_getElem] at h
  obtain ⟨hi, hp, _⟩ := h
  have : l.any p = true := List.any_eq_true.2 ⟨l[i], List.getElem_mem _, hp⟩
  simp [this]
theorem R_shape {α : Type} {d : Kd α} {e : Nat} {w : World} {base : Nat} {ok : Nat → Prop} {v : Value} {xs : List α} (h : d.R e w base ok v xs) : ∃ A n c, v = .slice A n c := by
 obtain ⟨A, c, e⟩ := Kd.R_slice h
 exact ⟨A, _, c, e⟩
theorem idx97 (l : List S41) (A : Option Addr) (c : Nat) (p : S41 → Bool) (w : World) (hr : Kd.C k41 w A l.length l) (hq : ∀ (i : Int) (W : World), 0 ≤ i → i < l.length → Below w.heap.size w W → Calls Try.prog 97 #[.agg #[.int .i64 (rd_T41 l i).f0, .int .i64 (rd_T41 l i).f1]] W fun e w' => e = .returned (.bool (p (rd_T41 l i))) ∧ Below W.heap.size W w') :
  Calls Try.prog 108 #[.slice A l.length c, .func (.func 97) #[] #[]] w fun e w' => e = .returned (.int .i64 (idxI p l)) ∧ Below w.heap.size w w' := by
 have hm := Kd.C_max hr
 have HR := qab.mk hr
 have HQ := qab.mk hq
 clear hr hq
 go_enter Try.func108, Try.ntmps108
 go_wp2
 go_loopw [8] (fun s8 wr => ∃ k : Nat, k ≤ l.length ∧ s8 = .int .i64 k ∧ qab (∀ j : Nat, j < k → p (l.getD j z41) = false) ∧ qab (Below w.heap.size w wr)) (fun s8 _ => l.length - (intOf s8).toNat)
 case atStart => exact ⟨0, by omega, rfl, ⟨fun j h1 => by omega⟩, ⟨Below.refl _ _⟩⟩
 case round =>
  obtain ⟨k, hk1, rfl, HN, HB⟩ := hrel
  by_cases hlt : k < l.length
  ·
   obtain ⟨ad, e, hc0, hc1⟩ := at_T41 HR.out k (by omega) (by omega)
   cases e
   replace hc0 := (HB.out.cell (World.block_lt_of_cell? w _ hc0)).trans hc0
   replace hc1 := (HB.out.cell (World.block_lt_of_cell? w _ hc1)).trans hc1
   simp only [Int.toNat_natCast] at hc0 hc1
   have hu41 := Try.underlying41
   cases hp : p (rd_T41 l k) with
   | true =>
    have HP := qab.mk hp
    clear hp
    go_wp2_with (go_at_call 97; refine (HQ.out k _ (by omega) (by omega) HB.out).mono ?_; rw [HP.out]; rintro e w1 ⟨rfl, hb⟩; have HB1 := qab.mk (qae HB.out hb); clear hb)
    go_ret
    exact ⟨by rw [idxI_some p l z41 k hlt HN.out (by simpa [rd_T41] using HP.out)]; rfl, HB1.out⟩
   | false =>
    have HP := qab.mk hp
    clear hp
    go_wp2_with (go_at_call 97; refine (HQ.out k _ (by omega) (by omega) HB.out).mono ?_; rw [HP.out]; rintro e w1 ⟨rfl, hb⟩; have HB1 := qab.mk (qae HB.out hb); clear hb)
    go_roundw
    case rel => exact ⟨k + 1, by omega, by go_num, ⟨fun j hj => by
     rcases Nat.lt_or_ge j k with h | h
     ·
      exact HN.out j h
     ·
      obtain rfl : j = k := by omega
      simpa [rd_T41] using HP.out⟩, HB1⟩
    case measure => simp [intOf]; omega
  ·
   go_wp2
   go_ret
   exact ⟨by rw [idxI_none p l z41 (fun j hj => HN.out j (by omega))]; rfl, HB.out⟩
theorem has97 (l : List S41) (A : Option Addr) (c : Nat) (p : S41 → Bool) (w : World) (hr : Kd.C k41 w A l.length l) (hq : ∀ (i : Int) (W : World), 0 ≤ i → i < l.length → Below w.heap.size w W → Calls Try.prog 97 #[.agg #[.int .i64 (rd_T41 l i).f0, .int .i64 (rd_T41 l i).f1]] W fun e w' => e = .returned (.bool (p (rd_T41 l i))) ∧ Below W.heap.size W w') :
  Calls Try.prog 96 #[.slice A l.length c, .func (.func 97) #[] #[]] w fun e w' => e = .returned (.bool (l.any p)) ∧ Below w.heap.size w w' := by
 have HR := qab.mk hr
 have HQ := qab.mk hq
 clear hr hq
 go_enter Try.func96, Try.ntmps96
 go_wp2_with (go_at_call 108; refine (idx97  l A c p _ HR.out HQ.out).mono ?_; rintro e w1 ⟨rfl, hb⟩; have HB := qab.mk hb; clear hb)
 go_ret
 exact ⟨by rw [← idxI_any p l]; rfl, HB.out⟩
theorem idx75 (l : List Int) (A : Option Addr) (c : Nat) (p : Int → Bool) (w : World) (hr : Kd.C (Kd.int .i64) w A l.length l) (hq : ∀ (i : Int) (W : World), 0 ≤ i → i < l.length → Below w.heap.size w W → Calls Try.prog 75 #[.int .i64 (rd l i)] W fun e w' => e = .returned (.bool (p (rd l i))) ∧ Below W.heap.size W w') :
  Calls Try.prog 102 #[.slice A l.length c, .func (.func 75) #[] #[]] w fun e w' => e = .returned (.int .i64 (idxI p l)) ∧ Below w.heap.size w w' := by
 have hm := Kd.C_max hr
 have HR := qab.mk hr
 have HQ := qab.mk hq
 clear hr hq
 go_enter Try.func102, Try.ntmps102
 go_wp2
 go_loopw [8] (fun s8 wr => ∃ k : Nat, k ≤ l.length ∧ s8 = .int .i64 k ∧ qab (∀ j : Nat, j < k → p (l.getD j 0) = false) ∧ qab (Below w.heap.size w wr)) (fun s8 _ => l.length - (intOf s8).toNat)
 case atStart => exact ⟨0, by omega, rfl, ⟨fun j h1 => by omega⟩, ⟨Below.refl _ _⟩⟩
 case round =>
  obtain ⟨k, hk1, rfl, HN, HB⟩ := hrel
  by_cases hlt : k < l.length
  ·
   obtain ⟨ad, e, hc⟩ := Kd.at_int HR.out k (by omega) (by omega)
   cases e
   have hc' : wr.cell? (ad.add k) = some (.int .i64 (rd l k)) := (HB.out.cell (World.block_lt_of_cell? w _ hc)).trans hc
   clear hc
   cases hp : p (rd l k) with
   | true =>
    have HP := qab.mk hp
    clear hp
    go_wp2_with (go_at_call 75; refine (HQ.out k _ (by omega) (by omega) HB.out).mono ?_; rw [HP.out]; rintro e w1 ⟨rfl, hb⟩; have HB1 := qab.mk (qae HB.out hb); clear hb)
    go_ret
    exact ⟨by rw [idxI_some p l 0 k hlt HN.out (by simpa [rd] using HP.out)]; rfl, HB1.out⟩
   | false =>
    have HP := qab.mk hp
    clear hp
    go_wp2_with (go_at_call 75; refine (HQ.out k _ (by omega) (by omega) HB.out).mono ?_; rw [HP.out]; rintro e w1 ⟨rfl, hb⟩; have HB1 := qab.mk (qae HB.out hb); clear hb)
    go_roundw
    case rel => exact ⟨k + 1, by omega, by go_num, ⟨fun j hj => by
     rcases Nat.lt_or_ge j k with h | h
     ·
      exact HN.out j h
     ·
      obtain rfl : j = k := by omega
      simpa [rd] using HP.out⟩, HB1⟩
    case measure => simp [intOf]; omega
  ·
   go_wp2
   go_ret
   exact ⟨by rw [idxI_none p l 0 (fun j hj => HN.out j (by omega))]; rfl, HB.out⟩
theorem has75 (l : List Int) (A : Option Addr) (c : Nat) (p : Int → Bool) (w : World) (hr : Kd.C (Kd.int .i64) w A l.length l) (hq : ∀ (i : Int) (W : World), 0 ≤ i → i < l.length → Below w.heap.size w W → Calls Try.prog 75 #[.int .i64 (rd l i)] W fun e w' => e = .returned (.bool (p (rd l i))) ∧ Below W.heap.size W w') :
  Calls Try.prog 74 #[.slice A l.length c, .func (.func 75) #[] #[]] w fun e w' => e = .returned (.bool (l.any p)) ∧ Below w.heap.size w w' := by
 have HR := qab.mk hr
 have HQ := qab.mk hq
 clear hr hq
 go_enter Try.func74, Try.ntmps74
 go_wp2_with (go_at_call 102; refine (idx75  l A c p _ HR.out HQ.out).mono ?_; rintro e w1 ⟨rfl, hb⟩; have HB := qab.mk hb; clear hb)
 go_ret
 exact ⟨by rw [← idxI_any p l]; rfl, HB.out⟩
theorem idx78 (p0 : Value) (l : List Int) (A : Option Addr) (c : Nat) (p : Int → Bool) (w : World) (hr : Kd.C (Kd.int .i64) w A l.length l) (hq : ∀ (i : Int) (W : World), 0 ≤ i → i < l.length → Below w.heap.size w W → Calls Try.prog 78 #[.int .i64 (rd l i), p0] W fun e w' => e = .returned (.bool (p (rd l i))) ∧ Below W.heap.size W w') :
  Calls Try.prog 102 #[.slice A l.length c, .func (.func 78) #[] #[p0]] w fun e w' => e = .returned (.int .i64 (idxI p l)) ∧ Below w.heap.size w w' := by
 have hm := Kd.C_max hr
 have HR := qab.mk hr
 have HQ := qab.mk hq
 clear hr hq
 go_enter Try.func102, Try.ntmps102
 go_wp2
 go_loopw [8] (fun s8 wr => ∃ k : Nat, k ≤ l.length ∧ s8 = .int .i64 k ∧ qab (∀ j : Nat, j < k → p (l.getD j 0) = false) ∧ qab (Below w.heap.size w wr)) (fun s8 _ => l.length - (intOf s8).toNat)
 case atStart => exact ⟨0, by omega, rfl, ⟨fun j h1 => by omega⟩, ⟨Below.refl _ _⟩⟩
 case round =>
  obtain ⟨k, hk1, rfl, HN, HB⟩ := hrel
  by_cases hlt : k < l.length
  ·
   obtain ⟨ad, e, hc⟩ := Kd.at_int HR.out k (by omega) (by omega)
   cases e
   have hc' : wr.cell? (ad.add k) = some (.int .i64 (rd l k)) := (HB.out.cell (World.block_lt_of_cell? w _ hc)).trans hc
   clear hc
   cases hp : p (rd l k) with
   | true =>
    have HP := qab.mk hp
    clear hp
    go_wp2_with (go_at_call 78; refine (HQ.out k _ (by omega) (by omega) HB.out).mono ?_; rw [HP.out]; rintro e w1 ⟨rfl, hb⟩; have HB1 := qab.mk (qae HB.out hb); clear hb)
    go_ret
    exact ⟨by rw [idxI_some p l 0 k hlt HN.out (by simpa [rd] using HP.out)]; rfl, HB1.out⟩
   | false =>
    have HP := qab.mk hp
    clear hp
    go_wp2_with (go_at_call 78; refine (HQ.out k _ (by omega) (by omega) HB.out).mono ?_; rw [HP.out]; rintro e w1 ⟨rfl, hb⟩; have HB1 := qab.mk (qae HB.out hb); clear hb)
    go_roundw
    case rel => exact ⟨k + 1, by omega, by go_num, ⟨fun j hj => by
     rcases Nat.lt_or_ge j k with h | h
     ·
      exact HN.out j h
     ·
      obtain rfl : j = k := by omega
      simpa [rd] using HP.out⟩, HB1⟩
    case measure => simp [intOf]; omega
  ·
   go_wp2
   go_ret
   exact ⟨by rw [idxI_none p l 0 (fun j hj => HN.out j (by omega))]; rfl, HB.out⟩
theorem has78 (p0 : Value) (l : List Int) (A : Option Addr) (c : Nat) (p : Int → Bool) (w : World) (hr : Kd.C (Kd.int .i64) w A l.length l) (hq : ∀ (i : Int) (W : World), 0 ≤ i → i < l.length → Below w.heap.size w W → Calls Try.prog 78 #[.int .i64 (rd l i), p0] W fun e w' => e = .returned (.bool (p (rd l i))) ∧ Below W.heap.size W w') :
  Calls Try.prog 74 #[.slice A l.length c, .func (.func 78) #[] #[p0]] w fun e w' => e = .returned (.bool (l.any p)) ∧ Below w.heap.size w w' := by
 have HR := qab.mk hr
 have HQ := qab.mk hq
 clear hr hq
 go_enter Try.func74, Try.ntmps74
 go_wp2_with (go_at_call 102; refine (idx78 p0 l A c p _ HR.out HQ.out).mono ?_; rintro e w1 ⟨rfl, hb⟩; have HB := qab.mk hb; clear hb)
 go_ret
 exact ⟨by rw [← idxI_any p l]; rfl, HB.out⟩
theorem idx98 (p0 : Value) (p1 : Value) (l : List Int) (A : Option Addr) (c : Nat) (p : Int → Bool) (w : World) (hr : Kd.C (Kd.int .i64) w A l.length l) (hq : ∀ (i : Int) (W : World), 0 ≤ i → i < l.length → Below w.heap.size w W → Calls Try.prog 98 #[.int .i64 (rd l i), p0, p1] W fun e w' => e = .returned (.bool (p (rd l i))) ∧ Below W.heap.size W w') :
  Calls Try.prog 102 #[.slice A l.length c, .func (.func 98) #[] #[p0, p1]] w fun e w' => e = .returned (.int .i64 (idxI p l)) ∧ Below w.heap.size w w' := by
 have hm := Kd.C_max hr
 have HR := qab.mk hr
 have HQ := qab.mk hq
 clear hr hq
 go_enter Try.func102, Try.ntmps102
 go_wp2
 go_loopw [8] (fun s8 wr => ∃ k : Nat, k ≤ l.length ∧ s8 = .int .i64 k ∧ qab (∀ j : Nat, j < k → p (l.getD j 0) = false) ∧ qab (Below w.heap.size w wr)) (fun s8 _ => l.length - (intOf s8).toNat)
 case atStart => exact ⟨0, by omega, rfl, ⟨fun j h1 => by omega⟩, ⟨Below.refl _ _⟩⟩
 case round =>
  obtain ⟨k, hk1, rfl, HN, HB⟩ := hrel
  by_cases hlt : k < l.length
  ·
   obtain ⟨ad, e, hc⟩ := Kd.at_int HR.out k (by omega) (by omega)
   cases e
   have hc' : wr.cell? (ad.add k) = some (.int .i64 (rd l k)) := (HB.out.cell (World.block_lt_of_cell? w _ hc)).trans hc
   clear hc
   cases hp : p (rd l k) with
   | true =>
    have HP := qab.mk hp
    clear hp
    go_wp2_with (go_at_call 98; refine (HQ.out k _ (by omega) (by omega) HB.out).mono ?_; rw [HP.out]; rintro e w1 ⟨rfl, hb⟩; have HB1 := qab.mk (qae HB.out hb); clear hb)
    go_ret
    exact ⟨by rw [idxI_some p l 0 k hlt HN.out (by simpa [rd] using HP.out)]; rfl, HB1.out⟩
   | false =>
    have HP := qab.mk hp
    clear hp
    go_wp2_with (go_at_call 98; refine (HQ.out k _ (by omega) (by omega) HB.out).mono ?_; rw [HP.out]; rintro e w1 ⟨rfl, hb⟩; have HB1 := qab.mk (qae HB.out hb); clear hb)
    go_roundw
    case rel => exact ⟨k + 1, by omega, by go_num, ⟨fun j hj => by
     rcases Nat.lt_or_ge j k with h | h
     ·
      exact HN.out j h
     ·
      obtain rfl : j = k := by omega
      simpa [rd] using HP.out⟩, HB1⟩
    case measure => simp [intOf]; omega
  ·
   go_wp2
   go_ret
   exact ⟨by rw [idxI_none p l 0 (fun j hj => HN.out j (by omega))]; rfl, HB.out⟩
theorem has98 (p0 : Value) (p1 : Value) (l : List Int) (A : Option Addr) (c : Nat) (p : Int → Bool) (w : World) (hr : Kd.C (Kd.int .i64) w A l.length l) (hq : ∀ (i : Int) (W : World), 0 ≤ i → i < l.length → Below w.heap.size w W → Calls Try.prog 98 #[.int .i64 (rd l i), p0, p1] W fun e w' => e = .returned (.bool (p (rd l i))) ∧ Below W.heap.size W w') :
  Calls Try.prog 74 #[.slice A l.length c, .func (.func 98) #[] #[p0, p1]] w fun e w' => e = .returned (.bool (l.any p)) ∧ Below w.heap.size w w' := by
 have HR := qab.mk hr
 have HQ := qab.mk hq
 clear hr hq
 go_enter Try.func74, Try.ntmps74
 go_wp2_with (go_at_call 102; refine (idx98 p0 p1 l A c p _ HR.out HQ.out).mono ?_; rintro e w1 ⟨rfl, hb⟩; have HB := qab.mk hb; clear hb)
 go_ret
 exact ⟨by rw [← idxI_any p l]; rfl, HB.out⟩
theorem idx105 (p0 : Value) (l : List Int) (A : Option Addr) (c : Nat) (p : Int → Bool) (w : World) (hr : Kd.C (Kd.int .i64) w A l.length l) (hq : ∀ (i : Int) (W : World), 0 ≤ i → i < l.length → Below w.heap.size w W → Calls Try.prog 105 #[.int .i64 (rd l i), p0] W fun e w' => e = .returned (.bool (p (rd l i))) ∧ Below W.heap.size W w') :
  Calls Try.prog 102 #[.slice A l.length c, .func (.func 105) #[] #[p0]] w fun e w' => e = .returned (.int .i64 (idxI p l)) ∧ Below w.heap.size w w' := by
 have hm := Kd.C_max hr
 have HR := qab.mk hr
 have HQ := qab.mk hq
 clear hr hq
 go_enter Try.func102, Try.ntmps102
 go_wp2
 go_loopw [8] (fun s8 wr => ∃ k : Nat, k ≤ l.length ∧ s8 = .int .i64 k ∧ qab (∀ j : Nat, j < k → p (l.getD j 0) = false) ∧ qab (Below w.heap.size w wr)) (fun s8 _ => l.length - (intOf s8).toNat)
 case atStart => exact ⟨0, by omega, rfl, ⟨fun j h1 => by omega⟩, ⟨Below.refl _ _⟩⟩
 case round =>
  obtain ⟨k, hk1, rfl, HN, HB⟩ := hrel
  by_cases hlt : k < l.length
  ·
   obtain ⟨ad, e, hc⟩ := Kd.at_int HR.out k (by omega) (by omega)
   cases e
   have hc' : wr.cell? (ad.add k) = some (.int .i64 (rd l k)) := (HB.out.cell (World.block_lt_of_cell? w _ hc)).trans hc
   clear hc
   cases hp : p (rd l k) with
   | true =>
    have HP := qab.mk hp
    clear hp
    go_wp2_with (go_at_call 105; refine (HQ.out k _ (by omega) (by omega) HB.out).mono ?_; rw [HP.out]; rintro e w1 ⟨rfl, hb⟩; have HB1 := qab.mk (qae HB.out hb); clear hb)
    go_ret
    exact ⟨by rw [idxI_some p l 0 k hlt HN.out (by simpa [rd] using HP.out)]; rfl, HB1.out⟩
   | false =>
    have HP := qab.mk hp
    clear hp
    go_wp2_with (go_at_call 105; refine (HQ.out k _ (by omega) (by omega) HB.out).mono ?_; rw [HP.out]; rintro e w1 ⟨rfl, hb⟩; have HB1 := qab.mk (qae HB.out hb); clear hb)
    go_roundw
    case rel => exact ⟨k + 1, by omega, by go_num, ⟨fun j hj => by
     rcases Nat.lt_or_ge j k with h | h
     ·
      exact HN.out j h
     ·
      obtain rfl : j = k := by omega
      simpa [rd] using HP.out⟩, HB1⟩
    case measure => simp [intOf]; omega
  ·
   go_wp2
   go_ret
   exact ⟨by rw [idxI_none p l 0 (fun j hj => HN.out j (by omega))]; rfl, HB.out⟩
theorem has105 (p0 : Value) (l : List Int) (A : Option Addr) (c : Nat) (p : Int → Bool) (w : World) (hr : Kd.C (Kd.int .i64) w A l.length l) (hq : ∀ (i : Int) (W : World), 0 ≤ i → i < l.length → Below w.heap.size w W → Calls Try.prog 105 #[.int .i64 (rd l i), p0] W fun e w' => e = .returned (.bool (p (rd l i))) ∧ Below W.heap.size W w') :
  Calls Try.prog 74 #[.slice A l.length c, .func (.func 105) #[] #[p0]] w fun e w' => e = .returned (.bool (l.any p)) ∧ Below w.heap.size w w' := by
 have HR := qab.mk hr
 have HQ := qab.mk hq
 clear hr hq
 go_enter Try.func74, Try.ntmps74
 go_wp2_with (go_at_call 102; refine (idx105 p0 l A c p _ HR.out HQ.out).mono ?_; rintro e w1 ⟨rfl, hb⟩; have HB := qab.mk hb; clear hb)
 go_ret
 exact ⟨by rw [← idxI_any p l]; rfl, HB.out⟩
def setAll (W : World) (g : Nat) : List Value → Nat → World
 | [], _ => W
 | v :: r, i => setAll (W.setCell ⟨g, i, none⟩ v) g r (i + 1)
theorem setAll_blk {g t : Nat} : ∀ (vs zs pre : List Value) (W : World), W.heap[g]? = some (.cells (pre ++ zs).toArray t (0, 0)) → zs.length = vs.length → (setAll W g vs pre.length).heap[g]? = some (.cells (pre ++ vs).toArray t (0, 0))
 | [], zs, pre, W, h, hl => by
  have : zs = [] := List.length_eq_zero_iff.1 hl
  subst this
  exact h
 | v :: vs, [], pre, W, h, hl => by simp at hl
 | v :: vs, z :: zs, pre, W, h, hl => by
  have h1 := blk_set h pre.length v
  have e : (pre ++ z :: zs).toArray.setIfInBounds pre.length v = ((pre ++ [v]) ++ zs).toArray := by simp
  rw [e] at h1
  have h2 := setAll_blk vs zs (pre ++ [v]) _ h1 (by simpa using hl)
  have e2 : pre ++ v :: vs = pre ++ [v] ++ vs := by simp
  rw [e2]
  have e3 : (pre ++ [v]).length = pre.length + 1 := by simp
  rw [e3] at h2
  exact h2
theorem setAll_new {g t : Nat} {W : World} (vs zs : List Value) (h : W.heap[g]? = some (.cells zs.toArray t (0, 0))) (hl : zs.length = vs.length) : (setAll W g vs 0).heap[g]? = some (.cells vs.toArray t (0, 0)) := setAll_blk vs zs [] W h hl
theorem setAll_far {g g' t : Nat} {cs : Array Value} (hne : g' ≠ g) : ∀ (vs : List Value) (i : Nat) (W : World), W.heap[g']? = some (.cells cs t (0, 0)) → (setAll W g vs i).heap[g']? = some (.cells cs t (0, 0))
 | [], _, _, h => h
 | v :: vs, i, W, h => setAll_far hne vs (i + 1) _ (blk_far h hne v)
theorem setAll_below {g : Nat} {w : World} (hg : w.heap.size ≤ g) : ∀ (vs : List Value) (i : Nat) (W : World), Below w.heap.size w W → Below w.heap.size w (setAll W g vs i)
 | [], _, _, h => h
 | v :: vs, i, W, h => setAll_below hg vs (i + 1) _ (qaj h hg)
theorem new_ints (W : World) (xs : List Int) (h : xs.length ≤ 9223372036854775807) : Kd.C (Kd.int .i64) (W.alloc (.cells (xs.map (Value.int .i64)).toArray 3)) (some ⟨W.heap.size, 0, none⟩) xs.length xs :=
 Kd.C_of_reads (enc := Value.int .i64) (d := (0 : Int)) (h1 := fun _ => rfl) ⟨rfl, h, fun _ => ⟨_, rfl, fun j hj => by
  have h1 := qaa (blk_new W (.cells (xs.map (Value.int .i64)).toArray 3)) j
  have h2 : (⟨W.heap.size, 0, none⟩ : Addr).add j = ⟨W.heap.size, j, none⟩ := by simp [Addr.add]; try omega
  rw [h2, h1]
  simp [hj]⟩⟩
theorem new_row {α : Type} (d : Kd α) (e : Nat) (W : World) (xs : List α) (inner : List Value) (hrep : Reps (d.M W W.heap.size (fun _ => True)) d.sz xs inner) (hm : xs.length ≤ 9223372036854775807) :
  d.R e (W.alloc (.cells inner.toArray e)) W.heap.size (fun _ => True) (.slice (some ⟨W.heap.size, 0, none⟩) xs.length xs.length) xs := by
 refine ⟨fun _ _ => trivial, inner, ?_, ?_⟩
 ·
  have h2 := World.ownsRow_lit (base := W.heap.size) (e := e) (size := d.sz) W inner.toArray xs.length (Nat.le_refl _) (by simpa [maxLen] using hm) (by simpa using hrep.1)
  simpa using h2
 ·
  refine hrep.imp_ (fun p c hp => d.M_mono (fun k hk => ⟨trivial, fun he => ?_⟩) (Kd.M_below (d.M_bound hp) (qag (Below.refl _ _) _)))
  have h3 : k = W.heap.size := by simpa [Value.ownBlock] using he
  have := hk.2.2.1
  omega
end Go.Proofs.Ytafkanmioinbiaa.SA
