/- What functions of the program answer. No condition. -/
import Derived.Test.YtafkanmioinbiaaSC
import Derived.Test.YtafkanmioinbiaaSD
import Derived.Test.YtafkanmioinbiaaSF
import Derived.Test.YtafkanmioinbiaaSG
set_option linter.all false
set_option maxRecDepth 100000
set_option maxHeartbeats 8000000
namespace Go.Proofs.Ytafkanmioinbiaa.SA
open Go.RowKit Go.Proofs.YtafkanmioinbiaaW.PrintWords Go.Proofs.YtafkanmioinbiaaW.PrintLast Go.Proofs.YtafkanmioinbiaaW.PrintMore
attribute [local go_sem] qax qaz max_two min_two qao qap qay qba
def seep_sum.l0 : Nat → Int → List Int → Int → Int → Option (Int)
 | 0, _, _, _, _ => none
 | k + 1, x3, x6, x7, x8 => if x8 < x7 then (if 0 ≤ x8 then (if x8 < (x6.length : Int) then (seep_sum.l0 k (wrap64 (x3 + (rd x6 x8))) x6 x7 (wrap64 (x8 + 1))) else (none)) else (none)) else (some x3)
def seep_sum.f (k : Nat) (l0 : List Int) : Option (Int) := seep_sum.l0 k 0 l0 (l0.length : Int) 0
theorem seep_sum.calls (k : Nat) (A0 : Option Addr) (c0 : Nat) (l0 : List Int) (r : Int) (w : World) (hr0 : Kd.C (Kd.int .i64) w A0 l0.length l0) (hc0 : l0.length ≤ c0) (h : seep_sum.f k l0 = some r) :
  Calls Try.prog 81 #[.slice A0 l0.length c0] w fun e w' => e = .returned (.int .i64 r) ∧ qar w w' := by
 have HR0 := qab.mk hr0
 have HC0 := qab.mk hc0
 clear hr0 hc0
 have H : (seep_sum.l0 k 0 l0 (l0.length : Int) 0) = some r := h
 clear h
 have H' := qab.mk H
 clear H
 go_enter Try.func81, Try.ntmps81
 go_wp2
 go_loopg [3, 8] k (fun kq v3 v8 w' => ∃ (x3_1 : Int) (x8_1 : Int), v3 = .int .i64 x3_1 ∧ v8 = .int .i64 x8_1 ∧ qab (seep_sum.l0 kq x3_1 l0 (l0.length : Int) x8_1 = some r) ∧ qab (kq ≤ k) ∧ qar w w')
 case atStart => exact ⟨(0), (0), (by first | rfl | (simp; done) | (simp [*]; done)), (by first | rfl | (simp; done) | (simp [*]; done)), H', ⟨Nat.le_refl _⟩, by repeat (first | exact qar.refl _ | apply qar.step)⟩
 case round =>
  clear H'
  obtain ⟨x3_1, x8_1, rfl, rfl, HA, HK1, ⟨m1, rfl⟩⟩ := hrel
  cases gk with
  | zero => exact absurd HA.out (by simp [seep_sum.l0])
  | succ k1 =>
   have H := HA.out
   clear HA
   simp only [seep_sum.l0] at H
   by_cases c2 : x8_1 < (l0.length : Int)
   ·
    rw [if_pos c2] at H
    have c2b0 : decide (x8_1 < (l0.length : Int)) = true := decide_eq_true c2
    clear c2
    by_cases c3 : 0 ≤ x8_1
    ·
     rw [if_pos c3] at H
     have c3b0 : decide (0 ≤ x8_1) = true := decide_eq_true c3
     clear c3
     by_cases c4 : x8_1 < (l0.length : Int)
     ·
      rw [if_pos c4] at H
      have c4b0 : decide (x8_1 < (l0.length : Int)) = true := decide_eq_true c4
      clear c4
      have H' := qab.mk H
      clear H
      have p119 : 0 ≤ (x8_1 : Int) := of_decide_eq_true (by first | (with_reducible assumption) | assumption)
      have q119 : x8_1 < (l0.length : Int) := of_decide_eq_true (by first | (with_reducible assumption) | assumption)
      obtain ⟨ad119, e119, hx119_0⟩ := Kd.at_int HR0.out x8_1 p119 q119
      cases e119
      replace p119 := eq_true p119
      replace q119 := eq_true q119
      go_wp2
      go_roundg k1
      case measure => have := HK1.out; omega
      case rel => exact ⟨(wrap64 (x3_1 + (rd l0 x8_1))), (wrap64 (x8_1 + 1)), (by first | rfl | (simp; done) | (simp [*]; done)), (by first | rfl | (simp; done) | (simp [*]; done)), H', ⟨by have := HK1.out; omega⟩, by repeat (first | exact qar.refl _ | apply qar.step)⟩
     ·
      rw [if_neg c4] at H
      exact absurd H (by simp)
    ·
     rw [if_neg c3] at H
     exact absurd H (by simp)
   ·
    rw [if_neg c2] at H
    have c2b0 : decide (x8_1 < (l0.length : Int)) = false := decide_eq_false c2
    clear c2
    obtain rfl := Option.some.inj H
    go_wp2
    go_ret
    exact ⟨by first | rfl | (simp; done) | (simp [*]; done), by repeat (first | exact qar.refl _ | apply qar.step)⟩
def cmp_Or_int.l0 : Nat → Int → List Int → Int → Int → Option (Int)
 | 0, _, _, _, _ => none
 | k + 1, x3, x6, x7, x8 => if x8 < x7 then (if 0 ≤ x8 then (if x8 < (x6.length : Int) then (if (rd x6 x8) = x3 then (cmp_Or_int.l0 k x3 x6 x7 (wrap64 (x8 + 1))) else (some (rd x6 x8))) else (none)) else (none)) else (some x3)
def cmp_Or_int.f (k : Nat) (l0 : List Int) : Option (Int) := cmp_Or_int.l0 k 0 l0 (l0.length : Int) 0
theorem cmp_Or_int.calls (k : Nat) (A0 : Option Addr) (c0 : Nat) (l0 : List Int) (r : Int) (w : World) (hr0 : Kd.C (Kd.int .i64) w A0 l0.length l0) (hc0 : l0.length ≤ c0) (h : cmp_Or_int.f k l0 = some r) :
  Calls Try.prog 99 #[.slice A0 l0.length c0] w fun e w' => e = .returned (.int .i64 r) ∧ qar w w' := by
 have HR0 := qab.mk hr0
 have HC0 := qab.mk hc0
 clear hr0 hc0
 have H : (cmp_Or_int.l0 k 0 l0 (l0.length : Int) 0) = some r := h
 clear h
 have H' := qab.mk H
 clear H
 go_enter Try.func99, Try.ntmps99
 go_wp2
 go_loopg [8] k (fun kq v8 w' => ∃ (x8_1 : Int), v8 = .int .i64 x8_1 ∧ qab (cmp_Or_int.l0 kq 0 l0 (l0.length : Int) x8_1 = some r) ∧ qab (kq ≤ k) ∧ qar w w')
 case atStart => exact ⟨(0), (by first | rfl | (simp; done) | (simp [*]; done)), H', ⟨Nat.le_refl _⟩, by repeat (first | exact qar.refl _ | apply qar.step)⟩
 case round =>
  clear H'
  obtain ⟨x8_1, rfl, HA, HK1, ⟨m1, rfl⟩⟩ := hrel
  cases gk with
  | zero => exact absurd HA.out (by simp [cmp_Or_int.l0])
  | succ k1 =>
   have H := HA.out
   clear HA
   simp only [cmp_Or_int.l0] at H
   by_cases c2 : x8_1 < (l0.length : Int)
   ·
    rw [if_pos c2] at H
    have c2b0 : decide (x8_1 < (l0.length : Int)) = true := decide_eq_true c2
    clear c2
    by_cases c3 : 0 ≤ x8_1
    ·
     rw [if_pos c3] at H
     have c3b0 : decide (0 ≤ x8_1) = true := decide_eq_true c3
     clear c3
     by_cases c4 : x8_1 < (l0.length : Int)
     ·
      rw [if_pos c4] at H
      have c4b0 : decide (x8_1 < (l0.length : Int)) = true := decide_eq_true c4
      clear c4
      by_cases c5 : (rd l0 x8_1) = 0
      ·
       rw [if_pos c5] at H
       have c5b0 : ((rd l0 x8_1) == 0) = true := beq_iff_eq.mpr c5
       have c5b1 : ((rd l0 x8_1) != 0) = false := bne_eq_false_iff_eq.mpr c5
       clear c5
       have H' := qab.mk H
       clear H
       have p121 : 0 ≤ (x8_1 : Int) := of_decide_eq_true (by first | (with_reducible assumption) | assumption)
       have q121 : x8_1 < (l0.length : Int) := of_decide_eq_true (by first | (with_reducible assumption) | assumption)
       obtain ⟨ad121, e121, hx121_0⟩ := Kd.at_int HR0.out x8_1 p121 q121
       cases e121
       replace p121 := eq_true p121
       replace q121 := eq_true q121
       go_wp2
       go_roundg k1
       case measure => have := HK1.out; omega
       case rel => exact ⟨(wrap64 (x8_1 + 1)), (by first | rfl | (simp; done) | (simp [*]; done)), H', ⟨by have := HK1.out; omega⟩, by repeat (first | exact qar.refl _ | apply qar.step)⟩
      ·
       rw [if_neg c5] at H
       have c5b0 : ((rd l0 x8_1) == 0) = false := beq_eq_false_iff_ne.mpr c5
       have c5b1 : ((rd l0 x8_1) != 0) = true := bne_iff_ne.mpr c5
       obtain rfl := Option.some.inj H
       have p121 : 0 ≤ (x8_1 : Int) := of_decide_eq_true (by first | (with_reducible assumption) | assumption)
       have q121 : x8_1 < (l0.length : Int) := of_decide_eq_true (by first | (with_reducible assumption) | assumption)
       obtain ⟨ad121, e121, hx121_0⟩ := Kd.at_int HR0.out x8_1 p121 q121
       cases e121
       replace p121 := eq_true p121
       replace q121 := eq_true q121
       go_wp2
       go_ret
       exact ⟨by first | rfl | (simp; done) | (simp [*]; done), by repeat (first | exact qar.refl _ | apply qar.step)⟩
     ·
      rw [if_neg c4] at H
      exact absurd H (by simp)
    ·
     rw [if_neg c3] at H
     exact absurd H (by simp)
   ·
    rw [if_neg c2] at H
    have c2b0 : decide (x8_1 < (l0.length : Int)) = false := decide_eq_false c2
    clear c2
    obtain rfl := Option.some.inj H
    go_wp2
    go_ret
    exact ⟨by first | rfl | (simp; done) | (simp [*]; done), by repeat (first | exact qar.refl _ | apply qar.step)⟩
def cmp_isNaN_int.f (a0 : Int) : Option (Bool) := some (a0 != a0)
theorem cmp_isNaN_int.calls (a0 : Int) (r : Bool) (w : World) (h : cmp_isNaN_int.f a0 = some r) :
  Calls Try.prog 109 #[.int .i64 a0] w fun e w' => e = .returned (.bool r) ∧ qar w w' := by
 have H : (some (a0 != a0)) = some r := h
 clear h
 obtain rfl := Option.some.inj H
 go_enter Try.func109, Try.ntmps109
 go_wp2
 go_ret
 exact ⟨by first | rfl | (simp; done) | (simp [*]; done), by repeat (first | exact qar.refl _ | apply qar.step)⟩
def cmp_Compare_int.f (a0 : Int) (a1 : Int) : Option (Int) := (cmp_isNaN_int.f a0).bind fun t122 => ((cmp_isNaN_int.f a1).bind fun t123 => (if t122 = true then (if t123 = true then (some 0) else (some (-1))) else (if t123 = true then (some 1) else (if a0 < a1 then (some (-1)) else (if a0 > a1 then (some 1) else (some 0))))))
theorem cmp_Compare_int.calls (a0 : Int) (a1 : Int) (r : Int) (w : World) (h : cmp_Compare_int.f a0 a1 = some r) :
  Calls Try.prog 100 #[.int .i64 a0, .int .i64 a1] w fun e w' => e = .returned (.int .i64 r) ∧ qar w w' := by
 have H : ((cmp_isNaN_int.f a0).bind fun t122 => ((cmp_isNaN_int.f a1).bind fun t123 => (if t122 = true then (if t123 = true then (some 0) else (some (-1))) else (if t123 = true then (some 1) else (if a0 < a1 then (some (-1)) else (if a0 > a1 then (some 1) else (some 0))))))) = some r := h
 clear h
 replace H := Option.bind_eq_some_iff.mp H
 obtain ⟨t122, A30, H⟩ := H
 try dsimp only at H
 have A3 := qab.mk A30
 clear A30
 replace H := Option.bind_eq_some_iff.mp H
 obtain ⟨t123, A40, H⟩ := H
 try dsimp only at H
 have A4 := qab.mk A40
 clear A40
 by_cases c5 : t122 = true
 ·
  subst c5
  rw [if_pos rfl] at H
  by_cases c6 : t123 = true
  ·
   subst c6
   rw [if_pos rfl] at H
   obtain rfl := Option.some.inj H
   go_enter Try.func100, Try.ntmps100
   go_wp2_with (first | ((with_reducible refine gate_callee (f := 109) rfl ?_); refine zl 8 Try.func109 #[.int .i64 a0] ?_; (with_reducible refine (cmp_isNaN_int.calls a0 true _ A3.out).mono ?_); rintro e w' ⟨rfl, ⟨nd, rfl⟩⟩; refine ⟨_, rfl, ?_⟩) | ((with_reducible refine gate_callee (f := 109) rfl ?_); refine zl 10 Try.func109 #[.int .i64 a1] ?_; (with_reducible refine (cmp_isNaN_int.calls a1 true _ A4.out).mono ?_); rintro e w' ⟨rfl, ⟨nd, rfl⟩⟩; refine ⟨_, rfl, ?_⟩))
   go_ret
   exact ⟨by first | rfl | (simp; done) | (simp [*]; done), by repeat (first | exact qar.refl _ | apply qar.step)⟩
  ·
   replace c6 := Bool.eq_false_iff.mpr c6
   subst c6
   rw [if_neg (show ¬ (false = true) by decide)] at H
   obtain rfl := Option.some.inj H
   go_enter Try.func100, Try.ntmps100
   go_wp2_with (first | ((with_reducible refine gate_callee (f := 109) rfl ?_); refine zl 8 Try.func109 #[.int .i64 a0] ?_; (with_reducible refine (cmp_isNaN_int.calls a0 true _ A3.out).mono ?_); rintro e w' ⟨rfl, ⟨nd, rfl⟩⟩; refine ⟨_, rfl, ?_⟩) | ((with_reducible refine gate_callee (f := 109) rfl ?_); refine zl 10 Try.func109 #[.int .i64 a1] ?_; (with_reducible refine (cmp_isNaN_int.calls a1 false _ A4.out).mono ?_); rintro e w' ⟨rfl, ⟨nd, rfl⟩⟩; refine ⟨_, rfl, ?_⟩))
   go_ret
   exact ⟨by first | rfl | (simp; done) | (simp [*]; done), by repeat (first | exact qar.refl _ | apply qar.step)⟩
 ·
  replace c5 := Bool.eq_false_iff.mpr c5
  subst c5
  rw [if_neg (show ¬ (false = true) by decide)] at H
  by_cases c7 : t123 = true
  ·
   subst c7
   rw [if_pos rfl] at H
   obtain rfl := Option.some.inj H
   go_enter Try.func100, Try.ntmps100
   go_wp2_with (first | ((with_reducible refine gate_callee (f := 109) rfl ?_); refine zl 8 Try.func109 #[.int .i64 a0] ?_; (with_reducible refine (cmp_isNaN_int.calls a0 false _ A3.out).mono ?_); rintro e w' ⟨rfl, ⟨nd, rfl⟩⟩; refine ⟨_, rfl, ?_⟩) | ((with_reducible refine gate_callee (f := 109) rfl ?_); refine zl 10 Try.func109 #[.int .i64 a1] ?_; (with_reducible refine (cmp_isNaN_int.calls a1 true _ A4.out).mono ?_); rintro e w' ⟨rfl, ⟨nd, rfl⟩⟩; refine ⟨_, rfl, ?_⟩))
   go_ret
   exact ⟨by first | rfl | (simp; done) | (simp [*]; done), by repeat (first | exact qar.refl _ | apply qar.step)⟩
  ·
   replace c7 := Bool.eq_false_iff.mpr c7
   subst c7
   rw [if_neg (show ¬ (false = true) by decide)] at H
   by_cases c8 : a0 < a1
   ·
    rw [if_pos c8] at H
    have c8b0 : decide (a0 < a1) = true := decide_eq_true c8
    clear c8
    obtain rfl := Option.some.inj H
    go_enter Try.func100, Try.ntmps100
    go_wp2_with (first | ((with_reducible refine gate_callee (f := 109) rfl ?_); refine zl 8 Try.func109 #[.int .i64 a0] ?_; (with_reducible refine (cmp_isNaN_int.calls a0 false _ A3.out).mono ?_); rintro e w' ⟨rfl, ⟨nd, rfl⟩⟩; refine ⟨_, rfl, ?_⟩) | ((with_reducible refine gate_callee (f := 109) rfl ?_); refine zl 10 Try.func109 #[.int .i64 a1] ?_; (with_reducible refine (cmp_isNaN_int.calls a1 false _ A4.out).mono ?_); rintro e w' ⟨rfl, ⟨nd, rfl⟩⟩; refine ⟨_, rfl, ?_⟩))
    go_ret
    exact ⟨by first | rfl | (simp; done) | (simp [*]; done), by repeat (first | exact qar.refl _ | apply qar.step)⟩
   ·
    rw [if_neg c8] at H
    have c8b0 : decide (a0 < a1) = false := decide_eq_false c8
    clear c8
    by_cases c9 : a0 > a1
    ·
     rw [if_pos c9] at H
     have c9b0 : decide (a1 < a0) = true := decide_eq_true c9
     clear c9
     obtain rfl := Option.some.inj H
     go_enter Try.func100, Try.ntmps100
     go_wp2_with (first | ((with_reducible refine gate_callee (f := 109) rfl ?_); refine zl 8 Try.func109 #[.int .i64 a0] ?_; (with_reducible refine (cmp_isNaN_int.calls a0 false _ A3.out).mono ?_); rintro e w' ⟨rfl, ⟨nd, rfl⟩⟩; refine ⟨_, rfl, ?_⟩) | ((with_reducible refine gate_callee (f := 109) rfl ?_); refine zl 10 Try.func109 #[.int .i64 a1] ?_; (with_reducible refine (cmp_isNaN_int.calls a1 false _ A4.out).mono ?_); rintro e w' ⟨rfl, ⟨nd, rfl⟩⟩; refine ⟨_, rfl, ?_⟩))
     go_ret
     exact ⟨by first | rfl | (simp; done) | (simp [*]; done), by repeat (first | exact qar.refl _ | apply qar.step)⟩
    ·
     rw [if_neg c9] at H
     have c9b0 : decide (a1 < a0) = false := decide_eq_false c9
     clear c9
     obtain rfl := Option.some.inj H
     go_enter Try.func100, Try.ntmps100
     go_wp2_with (first | ((with_reducible refine gate_callee (f := 109) rfl ?_); refine zl 8 Try.func109 #[.int .i64 a0] ?_; (with_reducible refine (cmp_isNaN_int.calls a0 false _ A3.out).mono ?_); rintro e w' ⟨rfl, ⟨nd, rfl⟩⟩; refine ⟨_, rfl, ?_⟩) | ((with_reducible refine gate_callee (f := 109) rfl ?_); refine zl 10 Try.func109 #[.int .i64 a1] ?_; (with_reducible refine (cmp_isNaN_int.calls a1 false _ A4.out).mono ?_); rintro e w' ⟨rfl, ⟨nd, rfl⟩⟩; refine ⟨_, rfl, ?_⟩))
     go_ret
     exact ⟨by first | rfl | (simp; done) | (simp [*]; done), by repeat (first | exact qar.refl _ | apply qar.step)⟩
def slices_Compare_int_int.l0 : Nat → List Int → List Int → List Int → Int → Int → Option (Int)
 | 0, _, _, _, _, _ => none
 | k + 1, x0, x1, x9, x10, x11 => if x11 < x10 then (if 0 ≤ x11 then (if x11 < (x9.length : Int) then (if x11 ≥ (x1.length : Int) then (some 1) else (if x11 < (x1.length : Int) then ((cmp_Compare_int.f (rd x9 x11) (rd x1 x11)).bind fun t126 => (if t126 = 0 then (slices_Compare_int_int.l0 k x0 x1 x9 x10 (wrap64 (x11 + 1))) else (some t126))) else (none))) else (none)) else (none)) else (if (x0.length : Int) < (x1.length : Int) then (some (-1)) else (some 0))
def slices_Compare_int_int.f (k : Nat) (l0 : List Int) (l1 : List Int) : Option (Int) := slices_Compare_int_int.l0 k l0 l1 l0 (l0.length : Int) 0
theorem slices_Compare_int_int.calls (k : Nat) (A0 : Option Addr) (c0 : Nat) (l0 : List Int) (A1 : Option Addr) (c1 : Nat) (l1 : List Int) (r : Int) (w : World) (hr0 : Kd.C (Kd.int .i64) w A0 l0.length l0) (hc0 : l0.length ≤ c0) (hr1 : Kd.C (Kd.int .i64) w A1 l1.length l1) (hc1 : l1.length ≤ c1) (h : slices_Compare_int_int.f k l0 l1 = some r) :
  Calls Try.prog 101 #[.slice A0 l0.length c0, .slice A1 l1.length c1] w fun e w' => e = .returned (.int .i64 r) ∧ qar w w' := by
 have HR0 := qab.mk hr0
 have HC0 := qab.mk hc0
 clear hr0 hc0
 have HR1 := qab.mk hr1
 have HC1 := qab.mk hc1
 clear hr1 hc1
 have H : (slices_Compare_int_int.l0 k l0 l1 l0 (l0.length : Int) 0) = some r := h
 clear h
 have H' := qab.mk H
 clear H
 go_enter Try.func101, Try.ntmps101
 go_wp2
 go_loopg [11] k (fun kq v11 w' => ∃ (x11_1 : Int), v11 = .int .i64 x11_1 ∧ qab (slices_Compare_int_int.l0 kq l0 l1 l0 (l0.length : Int) x11_1 = some r) ∧ qab (kq ≤ k) ∧ qar w w')
 case atStart => exact ⟨(0), (by first | rfl | (simp; done) | (simp [*]; done)), H', ⟨Nat.le_refl _⟩, by repeat (first | exact qar.refl _ | apply qar.step)⟩
 case round =>
  clear H'
  try clear c1
  try clear p2
  obtain ⟨x11_1, rfl, HA, HK1, ⟨m1, rfl⟩⟩ := hrel
  cases gk with
  | zero => exact absurd HA.out (by simp [slices_Compare_int_int.l0])
  | succ k1 =>
   have H := HA.out
   clear HA
   simp only [slices_Compare_int_int.l0] at H
   by_cases c3 : x11_1 < (l0.length : Int)
   ·
    rw [if_pos c3] at H
    have c3b0 : decide (x11_1 < (l0.length : Int)) = true := decide_eq_true c3
    clear c3
    by_cases c4 : 0 ≤ x11_1
    ·
     rw [if_pos c4] at H
     have c4b0 : decide (0 ≤ x11_1) = true := decide_eq_true c4
     clear c4
     by_cases c5 : x11_1 < (l0.length : Int)
     ·
      rw [if_pos c5] at H
      have c5b0 : decide (x11_1 < (l0.length : Int)) = true := decide_eq_true c5
      clear c5
      by_cases c6 : x11_1 ≥ (l1.length : Int)
      ·
       rw [if_pos c6] at H
       have c6b0 : decide ((l1.length : Int) ≤ x11_1) = true := decide_eq_true c6
       clear c6
       obtain rfl := Option.some.inj H
       have p124 : 0 ≤ (x11_1 : Int) := of_decide_eq_true (by first | (with_reducible assumption) | assumption)
       have q124 : x11_1 < (l0.length : Int) := of_decide_eq_true (by first | (with_reducible assumption) | assumption)
       obtain ⟨ad124, e124, hx124_0⟩ := Kd.at_int HR0.out x11_1 p124 q124
       cases e124
       replace p124 := eq_true p124
       replace q124 := eq_true q124
       go_wp2
       go_ret
       exact ⟨by first | rfl | (simp; done) | (simp [*]; done), by repeat (first | exact qar.refl _ | apply qar.step)⟩
      ·
       rw [if_neg c6] at H
       have c6b0 : decide ((l1.length : Int) ≤ x11_1) = false := decide_eq_false c6
       clear c6
       by_cases c7 : x11_1 < (l1.length : Int)
       ·
        rw [if_pos c7] at H
        have c7b0 : decide (x11_1 < (l1.length : Int)) = true := decide_eq_true c7
        clear c7
        replace H := Option.bind_eq_some_iff.mp H
        obtain ⟨t126, A80, H⟩ := H
        try dsimp only at H
        have A8 := qab.mk A80
        clear A80
        by_cases c9 : t126 = 0
        ·
         rw [if_pos c9] at H
         have c9b0 : (t126 == 0) = true := beq_iff_eq.mpr c9
         have c9b1 : (t126 != 0) = false := bne_eq_false_iff_eq.mpr c9
         clear c9
         have H' := qab.mk H
         clear H
         have p124 : 0 ≤ (x11_1 : Int) := of_decide_eq_true (by first | (with_reducible assumption) | assumption)
         have q124 : x11_1 < (l0.length : Int) := of_decide_eq_true (by first | (with_reducible assumption) | assumption)
         obtain ⟨ad124, e124, hx124_0⟩ := Kd.at_int HR0.out x11_1 p124 q124
         cases e124
         replace p124 := eq_true p124
         replace q124 := eq_true q124
         have p125 : 0 ≤ (x11_1 : Int) := of_decide_eq_true (by first | (with_reducible assumption) | assumption)
         have q125 : x11_1 < (l1.length : Int) := of_decide_eq_true (by first | (with_reducible assumption) | assumption)
         obtain ⟨ad125, e125, hx125_0⟩ := Kd.at_int HR1.out x11_1 p125 q125
         cases e125
         replace p125 := eq_true p125
         replace q125 := eq_true q125
         go_wp2_with (first | ((with_reducible refine gate_callee (f := 100) rfl ?_); refine zl 26 Try.func100 #[.int .i64 (rd l0 x11_1), .int .i64 (rd l1 x11_1)] ?_; (with_reducible refine (cmp_Compare_int.calls (rd l0 x11_1) (rd l1 x11_1) t126 _ A8.out).mono ?_); rintro e w' ⟨rfl, ⟨nd, rfl⟩⟩; refine ⟨_, rfl, ?_⟩))
         go_roundg k1
         case measure => have := HK1.out; omega
         case rel => exact ⟨(wrap64 (x11_1 + 1)), (by first | rfl | (simp; done) | (simp [*]; done)), H', ⟨by have := HK1.out; omega⟩, by repeat (first | exact qar.refl _ | apply qar.step)⟩
        ·
         rw [if_neg c9] at H
         have c9b0 : (t126 == 0) = false := beq_eq_false_iff_ne.mpr c9
         have c9b1 : (t126 != 0) = true := bne_iff_ne.mpr c9
         obtain rfl := Option.some.inj H
         have p124 : 0 ≤ (x11_1 : Int) := of_decide_eq_true (by first | (with_reducible assumption) | assumption)
         have q124 : x11_1 < (l0.length : Int) := of_decide_eq_true (by first | (with_reducible assumption) | assumption)
         obtain ⟨ad124, e124, hx124_0⟩ := Kd.at_int HR0.out x11_1 p124 q124
         cases e124
         replace p124 := eq_true p124
         replace q124 := eq_true q124
         have p125 : 0 ≤ (x11_1 : Int) := of_decide_eq_true (by first | (with_reducible assumption) | assumption)
         have q125 : x11_1 < (l1.length : Int) := of_decide_eq_true (by first | (with_reducible assumption) | assumption)
         obtain ⟨ad125, e125, hx125_0⟩ := Kd.at_int HR1.out x11_1 p125 q125
         cases e125
         replace p125 := eq_true p125
         replace q125 := eq_true q125
         go_wp2_with (first | ((with_reducible refine gate_callee (f := 100) rfl ?_); refine zl 26 Try.func100 #[.int .i64 (rd l0 x11_1), .int .i64 (rd l1 x11_1)] ?_; (with_reducible refine (cmp_Compare_int.calls (rd l0 x11_1) (rd l1 x11_1) t126 _ A8.out).mono ?_); rintro e w' ⟨rfl, ⟨nd, rfl⟩⟩; refine ⟨_, rfl, ?_⟩))
         go_ret
         exact ⟨by first | rfl | (simp; done) | (simp [*]; done), by repeat (first | exact qar.refl _ | apply qar.step)⟩
       ·
        rw [if_neg c7] at H
        exact absurd H (by simp)
     ·
      rw [if_neg c5] at H
      exact absurd H (by simp)
    ·
     rw [if_neg c4] at H
     exact absurd H (by simp)
   ·
    rw [if_neg c3] at H
    have c3b0 : decide (x11_1 < (l0.length : Int)) = false := decide_eq_false c3
    clear c3
    by_cases c10 : (l0.length : Int) < (l1.length : Int)
    ·
     rw [if_pos c10] at H
     have c10b0 : decide ((l0.length : Int) < (l1.length : Int)) = true := decide_eq_true c10
     have c10b1 : decide (l0.length < l1.length) = true := decide_eq_true (Int.ofNat_lt.mp c10)
     clear c10
     obtain rfl := Option.some.inj H
     go_wp2
     go_ret
     exact ⟨by first | rfl | (simp; done) | (simp [*]; done), by repeat (first | exact qar.refl _ | apply qar.step)⟩
    ·
     rw [if_neg c10] at H
     have c10b0 : decide ((l0.length : Int) < (l1.length : Int)) = false := decide_eq_false c10
     have c10b1 : decide (l0.length < l1.length) = false := decide_eq_false (fun h => c10 (Int.ofNat_lt.mpr h))
     clear c10
     obtain rfl := Option.some.inj H
     go_wp2
     go_ret
     exact ⟨by first | rfl | (simp; done) | (simp [*]; done), by repeat (first | exact qar.refl _ | apply qar.step)⟩
end Go.Proofs.Ytafkanmioinbiaa.SA
namespace Go.Proofs.Ytafkanmioinbiaa.SA
open Go.RowKit Go.Proofs.YtafkanmioinbiaaW.PrintWords Go.Proofs.YtafkanmioinbiaaW.PrintLast Go.Proofs.YtafkanmioinbiaaW.PrintMore
attribute [local go_sem] qax qaz max_two min_two qao qap qay qba
attribute [local go_sem] Oper.semAt_some
theorem info104 : (Try.prog.info? 104).map (fun i => (i.zero, i.size, i.bytes)) = some (some (.agg #[.int .i64 0, .slice none 0 0]), 2, 32) := by kernel_rfl
def kCh : Kd (Int × List Int) := Kd.pair (Kd.int .i64) (Kd.slice 3 (Kd.int .i64))
def chOk (es : List S44) (b n : Nat) : Bool := (List.range n).all fun i => !(b.testBit i) || !decide ((qav es (i : Nat)).f3 = -1)
def chN (b n : Nat) : List Nat := (List.range n).filter (b.testBit ·)
def chL (b n : Nat) : List Int := (chN b n).map fun (i : Nat) => (i : Int)
def chC (es : List S44) (b n : Nat) : Int := ((chN b n).map fun (i : Nat) => (qav es i).f3).sum
def choicesTo (es : List S44) (k : Nat) : List (Int × List Int) := ((List.range k).filter (chOk es · es.length)).map fun b => (chC es b es.length, chL b es.length)
def choicesV (es : List S44) : List (Int × List Int) := choicesTo es (2 ^ es.length)
theorem chN_yes (b n : Nat) (h : b.testBit n = true) : chN b (n + 1) = chN b n ++ [n] := by simp [chN, List.range_succ, h]
theorem chN_no (b n : Nat) (h : b.testBit n = false) : chN b (n + 1) = chN b n := by simp [chN, List.range_succ, h]
theorem chL_len (b n : Nat) : (chL b n).length ≤ n := by
 unfold chL chN
 rw [List.length_map]
 exact Nat.le_trans (List.length_filter_le _ _) (by simp)
theorem chOk_succ (es : List S44) (b n : Nat) : chOk es b (n + 1) = (chOk es b n && (!(b.testBit n) || !decide ((qav es n).f3 = -1))) := by simp [chOk, List.range_succ]
theorem chOk_bad (es : List S44) (b n : Nat) (hn : n < es.length) (h : b.testBit n = true) (h3 : (qav es n).f3 = -1) : chOk es b es.length = false := range_all_false n hn (by simp [h, h3])
theorem chC_bound (es : List S44) (b : Nat) (he : ∀ k : Nat, k < es.length → -1 ≤ (qav es k).f3 ∧ (qav es k).f3 ≤ 1000000) : ∀ n, n ≤ es.length → -(n : Int) ≤ chC es b n ∧ chC es b n ≤ n * 1000000
 | 0, _ => by simp [chC, chN]
 | n + 1, hn => by
  have ih := chC_bound es b he n (by omega)
  have := he n (by omega)
  cases h : b.testBit n
  ·
   unfold chC; rw [chN_no b n h]; unfold chC at ih; push_cast; omega
  ·
   unfold chC; rw [chN_yes b n h]; unfold chC at ih; simp only [List.map_append, List.sum_append, List.map_cons, List.map_nil, List.sum_cons, List.sum_nil]; push_cast; omega
theorem choicesTo_succ (es : List S44) (k : Nat) : choicesTo es (k + 1) = choicesTo es k ++ (if chOk es k es.length = true then [(chC es k es.length, chL k es.length)] else []) := by
 unfold choicesTo
 rw [List.range_succ, List.filter_append, List.map_append]
 cases h : chOk es k es.length <;> simp [h]
theorem choicesTo_len (es : List S44) (k : Nat) : (choicesTo es k).length ≤ k := by
 unfold choicesTo
 rw [List.length_map]
 exact Nat.le_trans (List.length_filter_le _ _) (by simp)
theorem C_blk {W : World} {g : Nat} {xs : List Int} (h : W.heap[g]? = some (.cells (xs.map (Value.int .i64)).toArray 3 (0, 0))) (hl : xs.length ≤ 9223372036854775807) : Kd.C (Kd.int .i64) W (some ⟨g, 0, none⟩) xs.length xs :=
 Kd.C_of_reads (enc := Value.int .i64) (d := (0 : Int)) (h1 := fun _ => rfl) ⟨rfl, hl, fun _ => ⟨_, rfl, fun j hj => by
  have h1 := qaa h j
  have h2 : (⟨g, 0, none⟩ : Addr).add j = ⟨g, j, none⟩ := by simp [Addr.add]; try omega
  rw [h2, h1]
  simp [hj]⟩⟩
theorem allocX (X : World) (obj : Obj) : ∃ x1 g, X.alloc obj = x1 ∧ X.heap.size = g ∧ x1.heap[g]? = some obj ∧ Below X.heap.size X x1 := ⟨_, _, rfl, rfl, blk_new X obj, qag (Below.refl _ _) _⟩
theorem R_apart {α : Type} {d' : Kd α} {W : World} {base : Nat} {e' : Nat} {v v' : Value} {l : List Int} (h : Kd.R (Kd.int .i64) 3 W base (fun _ => True) v l) (h' : ∀ k, v'.ownBlock = some k → ∃ cells, W.heap[k]? = some (.cells cells e' (0, 0))) (he : (3 : Nat) ≠ e' := by decide) : Kd.R (Kd.int .i64) 3 W base (fun k => some k ≠ v'.ownBlock) v l := by
 refine Kd.R_mono (Kd.R_bound h) (fun k hk e => ?_)
 obtain ⟨_, _, _, q, hq, cells, hc⟩ := hk
 obtain ⟨cells', hc'⟩ := h' k e.symm
 rw [hc] at hc'
 injection hc' with hc'
 injection hc' with _ h2
 have h3 : q = 3 := by simpa [Kd.int, Kd.scalar] using hq
 exact he (h3.symm.trans h2)
structure CR (W0 : World) (g5 ge : Nat) (cost : Int) (v : Value) (e0 e1 e2 e3 : Int) (W : World) : Prop where
 hb : Below W0.heap.size W0 W
 c : W.heap[g5]? = some (.cells #[.int .i64 cost, v] 104 (0, 0))
 e : W.heap[ge]? = some (.cells #[.int .i64 e0, .int .i64 e1, .int .i64 e2, .int .i64 e3] 44 (0, 0))
 l5 : W0.heap.size ≤ g5
section
variable {W0 W W' : World} {g5 ge : Nat} {cost e0 e1 e2 e3 : Int} {v : Value}
theorem CR.below (h : CR W0 g5 ge cost v e0 e1 e2 e3 W) (hb : Below W.heap.size W W') : CR W0 g5 ge cost v e0 e1 e2 e3 W' := ⟨qae h.hb hb, qad h.c hb, qad h.e hb, h.l5⟩
theorem CR.grown {u : Value} {base : Nat} {ok : Nat → Prop} {l : List Int} (h : CR W0 g5 ge cost v e0 e1 e2 e3 W) (hr : Kd.R (Kd.int .i64) 3 W base ok u l) (hg : W.grownBy W' u.ownBlock) (hb : Below W0.heap.size W0 W') : CR W0 g5 ge cost v e0 e1 e2 e3 W' :=
 ⟨hb, blk_grown h.c hg (Kd.R_ne hr h.c (by decide)), blk_grown h.e hg (Kd.R_ne hr h.e (by decide)), h.l5⟩
theorem CR.put (h : CR W0 g5 ge cost v e0 e1 e2 e3 W) (u : Value) (c2 : Int) : Below W0.heap.size W0 ((W.setCell ⟨g5, 1, none⟩ u).setCell ⟨g5, 0, none⟩ (.int .i64 c2)) ∧ ((W.setCell ⟨g5, 1, none⟩ u).setCell ⟨g5, 0, none⟩ (.int .i64 c2)).heap[g5]? = some (.cells #[.int .i64 c2, u] 104 (0, 0)) :=
 ⟨qaj (qaj h.hb h.l5) h.l5, blk_set (blk_set h.c 1 u) 0 _⟩
end
theorem band_bit (b i : Nat) (hb : b < 9223372036854775808) (hi : i < 64) : (bits .and .i64 ((b : Int) / 2 ^ i) 1 == 0) = !b.testBit i := by
 have e : ((b : Int) / 2 ^ i) = ((b / 2 ^ i : Nat) : Int) := by simp
 have hle : b / 2 ^ i ≤ b := Nat.div_le_self _ _
 rw [e, show (1 : Int) = ((1 : Nat) : Int) from rfl, bits_and_i64_nat _ _ (by omega) (by decide), Nat.and_one_is_mod, Nat.testBit_eq_decide_div_mod_eq]
 have h2 : b / 2 ^ i % 2 = 0 ∨ b / 2 ^ i % 2 = 1 := by omega
 rcases h2 with h2 | h2 <;> simp [h2]
theorem sum2_calls (a b : Int) (g : Nat) (W : World) (h : W.heap[g]? = some (.cells #[.int .i64 a, .int .i64 b] 3 (0, 0))) (h0 : -1000000000 ≤ a ∧ a ≤ 1000000000) (h1 : -1000000000 ≤ b ∧ b ≤ 1000000000) :
  Calls Try.prog 81 #[.slice (some ⟨g, 0, none⟩) 2 2] W fun e w' => e = .returned (.int .i64 (a + b)) ∧ Below W.heap.size W w' := by
 have hc := C_blk (xs := [a, b]) h (by simp)
 have hf : seep_sum.f 3 [a, b] = some (a + b) := by
  unfold seep_sum.f
  simp only [seep_sum.l0, List.length_cons, List.length_nil]
  rw [show wrap64 (0 + rd [a, b] 0) = a from by simp [rd, wrap64]; omega]
  simp [rd, wrap64]
  omega
 exact (seep_sum.calls 3 _ 2 [a, b] _ W hc (by simp) hf).mono fun e w' ⟨h1, h2⟩ => ⟨h1, h2.below⟩
theorem choices_calls (a0_0 : Int) (A0_1 : Option Addr) (c0_1 : Nat) (l0_1 : List S44) (A0_2 : Option Addr) (c0_2 : Nat) (l0_2 : List Int) (A0_3 : Option Addr) (c0_3 : Nat) (l0_3 : List Int) (A0_4 : Option Addr) (c0_4 : Nat) (l0_4 : List S41) (A0_5 : Option Addr) (c0_5 : Nat) (l0_5 : List S95) (w : World) (hr0_1 : Kd.C k44 w A0_1 l0_1.length l0_1) (hc0_1 : l0_1.length ≤ c0_1) (hr0_2 : Kd.C (Kd.int .i64) w A0_2 l0_2.length l0_2) (hc0_2 : l0_2.length ≤ c0_2) (hr0_3 : Kd.C (Kd.int .i64) w A0_3 l0_3.length l0_3) (hc0_3 : l0_3.length ≤ c0_3) (hr0_4 : Kd.C k41 w A0_4 l0_4.length l0_4) (hc0_4 : l0_4.length ≤ c0_4) (hr0_5 : Kd.C k95 w A0_5 l0_5.length l0_5) (hc0_5 : l0_5.length ≤ c0_5) (hV : ValidF a0_0 l0_1 l0_2 l0_3 l0_4 l0_5) :
  Calls Try.prog 68 #[.agg #[.int .i64 a0_0, .slice A0_1 l0_1.length c0_1, .slice A0_2 l0_2.length c0_2, .slice A0_3 l0_3.length c0_3, .slice A0_4 l0_4.length c0_4, .slice A0_5 l0_5.length c0_5]] w fun e w' => ∃ vo, e = .returned vo ∧ Kd.R kCh 104 w' w.heap.size (fun _ => True) vo (choicesV l0_1) ∧ Below w.heap.size w w' := by
 have hu27 := Try.underlying27
 have hu44 := Try.underlying44
 have hu104 := Try.underlying104
 have HB := qab.mk (Below.refl w.heap.size w)
 have HV := qab.mk hV
 have hn1 := hV.n1
 have HR1 := qab.mk hr0_1
 clear hr0_1 hr0_2 hr0_3 hr0_4 hr0_5 hV
 have HO : qab (Kd.R kCh 104 w w.heap.size (fun _ => True) (.slice none 0 0) (choicesTo l0_1 0)) := ⟨Kd.R_nil _ _ _ _ _⟩
 obtain ⟨N, hN⟩ : ∃ N : Nat, N = 2 ^ l0_1.length := ⟨_, rfl⟩
 have hN4 : N ≤ 4096 := by
  rw [hN]
  exact Nat.le_trans (Nat.pow_le_pow_right (by decide) hn1) (by decide)
 have HN := qab.mk hN
 clear hN
 go_enter Try.func68, Try.ntmps68
 go_wp2_with ((with_reducible refine qam (N := 1) rfl ?_); refine ze 1 #[.int .i64 a0_0, .slice A0_1 l0_1.length c0_1, .slice A0_2 l0_2.length c0_2, .slice A0_3 l0_3.length c0_3, .slice A0_4 l0_4.length c0_4, .slice A0_5 l0_5.length c0_5] 27 ?_; intro gb hg_gb w2 hbox hb; have BKgb := qab.mk hbox; have n_HB := qab.mk (qae HB.out hb); have GEgb : w.heap.size ≤ gb := (by rw [hg_gb]; exact HB.out.size); clear HB; have HB := n_HB; clear n_HB; obtain ⟨hfgb, hcgb_0, hcgb_1, hcgb_2, hcgb_3, hcgb_4, hcgb_5⟩ := qz6 BKgb.out; replace HO := qab.mk (Kd.qal HO.out hb); clear hbox hb hg_gb)
 go_step3
 go_wp2
 go_step3
 go_wp2
 rw [show wrap64 ((2 : Int) ^ l0_1.length) = (N : Int) from by
  have h : ((2 : Int) ^ l0_1.length) = ((2 ^ l0_1.length : Nat) : Int) := by simp
  rw [h, ← HN.out]
  unfold wrap64
  omega]
 go_loopw [3, 12] (fun s3 s12 wr => ∃ (k : Nat) (vo : Value), k ≤ N ∧ s12 = .int .i64 k ∧ vo = s3 ∧ qab (Kd.R kCh 104 wr w.heap.size (fun _ => True) vo (choicesTo l0_1 k)) ∧ qab (wr.heap[gb]? = some (.cells #[.int .i64 a0_0, .slice A0_1 l0_1.length c0_1, .slice A0_2 l0_2.length c0_2, .slice A0_3 l0_3.length c0_3, .slice A0_4 l0_4.length c0_4, .slice A0_5 l0_5.length c0_5] 27 (0, 0))) ∧ qab (Below w.heap.size w wr)) (fun _ s _ => N - (intOf s).toNat)
 case atStart => exact ⟨0, _, by omega, rfl, rfl, HO, BKgb, HB⟩
 case round =>
  clear HO BKgb HB hfgb hcgb_0 hcgb_1 hcgb_2 hcgb_3 hcgb_4 hcgb_5
  obtain ⟨k, vo, hk, rfl, rfl, HO, BKgb, HB⟩ := hrel
  obtain ⟨W0, rfl⟩ : ∃ W0, W0 = wr := ⟨_, rfl⟩
  by_cases hlt : k < N
  ·
   have f1 : W0.cell? ⟨gb, 1, none⟩ = some (.slice A0_1 l0_1.length c0_1) := (qaa BKgb.out 1).trans rfl
   have HBW := qab.mk (Below.refl W0.heap.size W0)
   have HRW0 : qab (Kd.R (Kd.int .i64) 3 W0 W0.heap.size (fun _ => True) (.slice none 0 0) (chL k 0)) := ⟨Kd.R_nil _ _ _ _ _⟩
   go_upto_region 6 with ((with_reducible refine qam (N := 5) rfl ?_); refine ze 5 #[.int .i64 0, .slice none 0 0] 104 ?_; intro g5 hg_g5 w3 hbox hb; have BKg5 := qab.mk hbox; have n_HB := qab.mk (qae HBW.out hb); have GEg5 : W0.heap.size ≤ g5 := (by rw [hg_g5]; exact HBW.out.size); clear HBW; have HBW := n_HB; clear n_HB; obtain ⟨hfg5, hcg5_0, hcg5_1⟩ := qz2 BKg5.out; replace HRW0 := qab.mk (Kd.qal HRW0.out hb); clear hbox hb hg_g5)
   clear f1
   have f1 : w3.cell? ⟨gb, 1, none⟩ = some (.slice A0_1 l0_1.length c0_1) := (qaa (qad BKgb.out HBW.out) 1).trans rfl
   go_wp2
   clear f1
   have BKn : qab (w3.heap[g5]? = some (.cells #[.int .i64 (chC l0_1 k 0), .slice none 0 0] 104 (0, 0))) := BKg5
   clear BKg5 hfg5 hcg5_0 hcg5_1
   have BKg5 := BKn
   clear BKn
   go_loopw [18] (fun s18 wr => ∃ (i : Nat) (v : Value), i ≤ l0_1.length ∧ s18 = .int .i64 i ∧ qab (chOk l0_1 k i = true) ∧ qab (wr.heap[g5]? = some (.cells #[.int .i64 (chC l0_1 k i), v] 104 (0, 0))) ∧ qab (Kd.R (Kd.int .i64) 3 wr W0.heap.size (fun _ => True) v (chL k i)) ∧ qab (Below W0.heap.size W0 wr)) (fun s _ => l0_1.length - (intOf s).toNat)
   case atStart => exact ⟨0, _, by omega, rfl, ⟨rfl⟩, BKg5, HRW0, HBW⟩
   case round =>
    clear BKg5 HRW0 HBW
    obtain ⟨i, v, hi, rfl, HOK, BKg5, HRW0, HBW⟩ := hrel
    by_cases hli : i < l0_1.length
    ·
     obtain ⟨ad, e, q0, q1, q2, q3⟩ := at_T44 HR1.out i (by omega) (by omega)
     cases e
     have hW := qae HB.out HBW.out
     replace q0 := (hW.cell (World.block_lt_of_cell? w _ q0)).trans q0
     replace q1 := (hW.cell (World.block_lt_of_cell? w _ q1)).trans q1
     replace q2 := (hW.cell (World.block_lt_of_cell? w _ q2)).trans q2
     replace q3 := (hW.cell (World.block_lt_of_cell? w _ q3)).trans q3
     clear hW
     simp only [Int.toNat_natCast] at q0 q1 q2 q3
     have hec := (HV.out.e i hli).2.2.2.2
     have HST := qab.mk (chOk_succ l0_1 k i)
     have HBD := qab.mk (chOk_bad l0_1 k i hli)
     have HCB := qab.mk (chC_bound l0_1 k (fun k hk => (HV.out.e k hk).2.2.2.2) i hi)
     have HCY : qab (k.testBit i = true → chC l0_1 k (i + 1) = chC l0_1 k i + (qav l0_1 i).f3) := ⟨fun h => by unfold chC; rw [chN_yes k i h]; simp⟩
     have HCN : qab (k.testBit i = false → chC l0_1 k (i + 1) = chC l0_1 k i) := ⟨fun h => by unfold chC; rw [chN_no k i h]⟩
     generalize (qav l0_1 i).f0 = e0 at q0
     generalize (qav l0_1 i).f1 = e1 at q1
     generalize (qav l0_1 i).f2 = e2 at q2
     generalize (qav l0_1 i).f3 = ec at q3 hec HST HBD HCY
     have HBB := qab.mk (band_bit k i (by omega) (by omega))
     have HCBi : qab (-1000000000 ≤ chC l0_1 k i ∧ chC l0_1 k i ≤ 1000000000) := ⟨by have h := HCB.out; constructor <;> omega⟩
     have HLL : qab ((chL k i).length ≤ 100) := ⟨by have := chL_len k i; omega⟩
     have HLY : qab (k.testBit i = true → chL k (i + 1) = chL k i ++ [(i : Int)]) := ⟨fun h => by unfold chL; rw [chN_yes k i h]; simp⟩
     have HLN : qab (k.testBit i = false → chL k (i + 1) = chL k i) := ⟨fun h => by unfold chL; rw [chN_no k i h]⟩
     obtain ⟨cost, hcost⟩ : ∃ c, c = chC l0_1 k i := ⟨_, rfl⟩
     obtain ⟨l, hl⟩ : ∃ c, c = chL k i := ⟨_, rfl⟩
     rw [← hcost] at BKg5 HCBi HCY HCN
     rw [← hl] at HRW0 HLL HLY HLN
     clear hcost hl
     go_upto_region 9 with ((with_reducible refine qam (N := 7) rfl ?_); refine ze 7 #[.int .i64 0, .int .i64 0, .int .i64 0, .int .i64 0] 44 ?_; intro ge hg_ge w4 hbox hb; have BKge := qab.mk hbox; have ne_g5_ge : g5 ≠ ge := (by rw [hg_ge]; exact Nat.ne_of_lt (blk_lt BKg5.out)); replace BKg5 := qab.mk (qad BKg5.out hb); have n_HB := qab.mk (qae HBW.out hb); have GEge : W0.heap.size ≤ ge := (by rw [hg_ge]; exact HBW.out.size); clear HBW; have HBW := n_HB; clear n_HB; obtain ⟨hfge, hcge_0, hcge_1, hcge_2, hcge_3⟩ := qz4 BKge.out; replace HRW0 := qab.mk (Kd.qal HRW0.out hb); clear hbox hb hg_ge)
     clear q0 q1 q2 q3 hfge hcge_0 hcge_1 hcge_2 hcge_3
     have he_ : setAll w4 ge [.int .i64 e0, .int .i64 e1, .int .i64 e2, .int .i64 ec] 0 = ((((w4.setCell ⟨ge, 0, none⟩ (.int .i64 e0)).setCell ⟨ge, 1, none⟩ (.int .i64 e1)).setCell ⟨ge, 2, none⟩ (.int .i64 e2)).setCell ⟨ge, 3, none⟩ (.int .i64 ec)) := rfl; have hbl := setAll_below GEge [.int .i64 e0, .int .i64 e1, .int .i64 e2, .int .i64 ec] 0 _ HBW.out; have hbx : (setAll w4 ge [.int .i64 e0, .int .i64 e1, .int .i64 e2, .int .i64 ec] 0).heap[ge]? = some (.cells #[.int .i64 e0, .int .i64 e1, .int .i64 e2, .int .i64 ec] 44 (0, 0)) := setAll_new [.int .i64 e0, .int .i64 e1, .int .i64 e2, .int .i64 ec] [.int .i64 0, .int .i64 0, .int .i64 0, .int .i64 0] BKge.out rfl; have hx_BKg5 := setAll_far ne_g5_ge [.int .i64 e0, .int .i64 e1, .int .i64 e2, .int .i64 ec] 0 _ BKg5.out; have hy_HRW0 := setAll_R (g := ge) (by decide) [.int .i64 e0, .int .i64 e1, .int .i64 e2, .int .i64 ec] 0 w4 _ BKge.out HRW0.out; rw [he_] at hy_HRW0 hbl hbx hx_BKg5; clear he_; generalize ((((w4.setCell ⟨ge, 0, none⟩ (.int .i64 e0)).setCell ⟨ge, 1, none⟩ (.int .i64 e1)).setCell ⟨ge, 2, none⟩ (.int .i64 e2)).setCell ⟨ge, 3, none⟩ (.int .i64 ec)) = w5 at hy_HRW0 hbl hbx hx_BKg5 ⊢; clear HBW BKge; have HBW := qab.mk hbl; have BKge := qab.mk hbx; clear hbl hbx; clear BKg5; have BKg5 := qab.mk hx_BKg5; clear hx_BKg5; clear HRW0; have HRW0 := qab.mk hy_HRW0; clear hy_HRW0
     obtain ⟨hfge, hcge_0, hcge_1, hcge_2, hcge_3⟩ := qz4 BKge.out
     have HCR : qab (CR W0 g5 ge cost v e0 e1 e2 ec w5) := ⟨⟨HBW.out, BKg5.out, BKge.out, GEg5⟩⟩
     cases hbt : k.testBit i with
     | false =>
      have hb0 : (bits BinOp.and IntKind.i64 ((k : Int) / 2 ^ i) 1 == 0) = true := by rw [HBB.out, hbt]; rfl
      have HN1 : qab (chOk l0_1 k (i + 1) = true ∧ chC l0_1 k (i + 1) = cost ∧ chL k (i + 1) = l) := ⟨by rw [HST.out, HOK.out, hbt]; rfl, HCN.out hbt, HLN.out hbt⟩
      clear HBB HBD HCY HLY hbt
      go_wp2
      go_roundw
      case rel => exact ⟨i + 1, v, by omega, by go_num, ⟨HN1.out.1⟩, ⟨by rw [HN1.out.2.1]; exact BKg5.out⟩, ⟨by rw [HN1.out.2.2]; exact HRW0.out⟩, HBW⟩
      case measure => simp [intOf]; omega
     | true =>
      have hb0 : (bits BinOp.and IntKind.i64 ((k : Int) / 2 ^ i) 1 == 0) = false := by rw [HBB.out, hbt]; rfl
      by_cases hm1 : ec = -1
      ·
       have hm2 : (ec == -1) = true := by simp [hm1]
       have HBD2 := qab.mk (HBD.out hbt hm1)
       clear HBB HBD HCY HLY hbt hm1
       go_wp2
       go_roundw
       case rel => exact ⟨k + 1, vo, by omega, by go_num, rfl, ⟨by rw [choicesTo_succ, HBD2.out, if_neg (by decide), List.append_nil]; exact Kd.qal HO.out HBW.out⟩, ⟨qad BKgb.out HBW.out⟩, ⟨qae HB.out HBW.out⟩⟩
       case measure => simp [intOf]; omega
      ·
       have hm2 : (ec == -1) = false := by simp [hm1]
       have HN1 : qab (chOk l0_1 k (i + 1) = true ∧ chC l0_1 k (i + 1) = cost + ec ∧ chL k (i + 1) = l ++ [(i : Int)]) := ⟨by rw [HST.out, HOK.out, hbt]; simp [hm1], HCY.out hbt, HLY.out hbt⟩
       have HCB2 : qab (-1000000000 ≤ cost ∧ cost ≤ 1000000000) := HCBi
       clear HBB HBD HCY HLY hbt hm1
       obtain ⟨c2, hc2⟩ : ∃ c, c = cost + ec := ⟨_, rfl⟩
       rw [← hc2] at HN1
       have HSUM : qab (∀ W g, W.heap[g]? = some (.cells #[.int .i64 cost, .int .i64 ec] 3 (0, 0)) → Calls Try.prog 81 #[.slice (some ⟨g, 0, none⟩) 2 2] W fun e w' => e = .returned (.int .i64 c2) ∧ Below W.heap.size W w') := ⟨fun W g h => by rw [hc2]; exact sum2_calls cost ec g W h HCB2.out ⟨by omega, by omega⟩⟩
       have hll := HLL.out
       clear hc2 HCB2 HCBi
       go_upto_region 11 with fail
       have HT : qab (∀ W, CR W0 g5 ge cost v e0 e1 e2 ec W → (W.cell? ⟨g5, 1, none⟩ = some v ∧ W.cell? ⟨g5, 0, none⟩ = some (.int .i64 cost) ∧ W.cell? ⟨ge, 3, none⟩ = some (.int .i64 ec) ∧ qab (CR W0 g5 ge cost v e0 e1 e2 ec W))) := ⟨fun W h => ⟨(qaa h.c 1).trans rfl, (qaa h.c 0).trans rfl, (qaa h.e 3).trans rfl, ⟨h⟩⟩⟩
       clear hfge hcge_0 hcge_1 hcge_2 hcge_3
       refine start_ (n := 15) (S := fun w' => (w'.cell? ⟨g5, 1, none⟩ = some v ∧ w'.cell? ⟨g5, 0, none⟩ = some (.int .i64 cost) ∧ w'.cell? ⟨ge, 3, none⟩ = some (.int .i64 ec) ∧ qab (CR W0 g5 ge cost v e0 e1 e2 ec w'))) (ds := [12, 14]) (msk 15 0) (by kernel_rfl) rfl rfl (HT.out _ (HCR.out.below (qaq (Below.refl _ _)))) (fun hHeld => ?_)
       have HRW := qab.mk (Kd.R_drew HRW0.out); generalize w5.drew = xw at hHeld HRW ⊢
       refine zq 0 1 31 ?_
       refine zt4 1 2 32 hHeld ?_
       refine zq 2 3 33 ?_
       refine zqg #[true, true, true, false, false, true, false, false, false, false, false, false, false, false, false] 5 36 ?_
       refine ztg4 #[true, true, true, false, false, true, true, false, false, false, false, false, false, false, false] 6 37 hHeld ?_
       refine zqg #[true, true, true, false, false, true, true, true, false, false, false, false, false, false, false] 7 38 ?_
       refine ztg4 #[true, true, true, false, false, true, true, true, true, false, false, false, false, false, false] 8 39 hHeld ?_
       refine join_ (σ := Option Addr × Nat × Nat × Nat × Nat) 4 #[true, true, true, true, true, true, true, true, true, true, false, true, false, false, false] (fun s_ => [(42, .pointer (some ⟨g5, 1, none⟩)), (34, .slice (some ⟨s_.2.2.2.1, 0, none⟩) 1 1), (35, .slice s_.1 s_.2.1 s_.2.2.1), (40, .slice (some ⟨s_.2.2.2.2, 0, none⟩) 2 2)]) (fun s_ w' => (w'.cell? ⟨g5, 1, none⟩ = some v ∧ w'.cell? ⟨g5, 0, none⟩ = some (.int .i64 cost) ∧ w'.cell? ⟨ge, 3, none⟩ = some (.int .i64 ec) ∧ qab (CR W0 g5 ge cost v e0 e1 e2 ec w')) ∧ Kd.R (Kd.int .i64) 3 w' W0.heap.size (fun _ => True) (.slice s_.1 s_.2.1 s_.2.2.1) (l ++ [(i : Int)]) ∧ w'.heap[s_.2.2.2.2]? = some (.cells #[.int .i64 cost, .int .i64 ec] 3 (0, 0))) ?_ ?_
       rotate_left
       ·
        intro hCont
        refine two_ (i := 3) (j := 9) (Ni := some 34) (Nj := some 40) #[true, true, true, true, false, true, true, true, true, false, false, false, false, false, false] #[true, true, true, false, false, true, true, true, true, true, false, false, false, false, false] rfl rfl rfl rfl (by kernel_rfl) (by decide) (by decide) (fun K hK => ?_) (fun K hK => ?_)
        ·
         refine value_ (w1 := ?_) (v := ?_) (by rfl) rfl ?_ ?_; rotate_left 2; (focus (go_simp; constructor; rfl; rfl))
         obtain ⟨x1, g34, e1_, e2_, HB34, hb_⟩ := allocX xw (.cells #[.int .i64 (i : Int)] 3); rw [e1_, e2_]; clear e1_ e2_; replace HRW := qab.mk (Kd.qal HRW.out hb_); (try (replace HB40 := qad HB40 hb_))
         refine hK.out _ _ (HT.out _ (hHeld.2.2.2.out.below hb_)) (fun hHeld => ?_); clear hK K hb_; refine zn 34 ?_
         refine two_ (i := 4) (j := 9) (Ni := some 35) (Nj := some 40) (msk 15 9) #[true, true, true, true, false, true, true, true, true, true, false, false, false, false, false] rfl rfl rfl rfl (by kernel_rfl) (by decide) (by decide) (fun K hK => ?_) (fun K hK => ?_)
         ·
          refine Kd.R_append_rows_step (Kd.int .i64) (w0 := W0) W0.heap.size (by rfl) (.tmp 32) (.tmp 34) 23 3 (.int .i64 0) 8 rfl Try.underlying23 info3 rfl (by decide) (by omega) v l [(i : Int)] (some ⟨g34, 0, none⟩) 1 1 (fun _ => True) (fun _ => False) rfl rfl ?aO ?aR (fun _ _ h => h) (fun _ h => h.elim) ?aF ?aB ?aS ?aL ?_; (case aO => exact HRW.out); (case aR => exact C_blk (xs := [(i : Int)]) HB34 (by simp)); (case aF => exact fun _ _ => trivial); (case aB => exact hHeld.2.2.2.out.hb); (case aS => exact hHeld.2.2.2.out.hb.size); (case aL => omega)
          intro v1 x4 ho hB hg hat; obtain ⟨A1, n1, c1, rfl⟩ := R_shape ho; have HCR4 := hHeld.2.2.2.out.grown HRW.out hg hB; clear HRW; have HRW := qab.mk (Kd.R_mono (ok' := fun _ => True) ho (fun _ _ => trivial)); clear ho hg hB hat
          refine hK.out _ _ (HT.out _ HCR4) (fun hHeld => ?_); clear hK K HCR4; refine zn 35 ?_
          refine zqg #[true, true, true, true, true, true, true, true, true, false, false, true, false, false, false] 11 42 ?_
          refine one_ (i := 9) (N := some 40) #[true, true, true, true, true, true, true, true, true, true, false, true, false, false, false] rfl rfl (by kernel_rfl) (by decide) (fun K hK => ?_)
          refine value_ (w1 := ?_) (v := ?_) (by rfl) rfl ?_ ?_; rotate_left 2; (focus (go_simp; constructor; rfl; rfl))
          obtain ⟨x5, g40, e1_, e2_, HB40, hb_⟩ := allocX x4 (.cells #[.int .i64 cost, .int .i64 ec] 3); rw [e1_, e2_]; replace HRW := qab.mk (Kd.qal HRW.out hb_); clear e1_ e2_
          refine hK.out _ _ (HT.out _ (hHeld.2.2.2.out.below hb_)) (fun hHeld => ?_); clear hK K hb_; refine zn 40 ?_
          exact norm_ (by simp only [putAll, Act.put, qzA, qzB, qzC]) (hCont (A1, n1, c1, g34, g40) _ ⟨hHeld, HRW.out, HB40⟩)
         ·
          refine value_ (w1 := ?_) (v := ?_) (by rfl) rfl ?_ ?_; rotate_left 2; (focus (go_simp; constructor; rfl; rfl))
          obtain ⟨x2, g40, e1_, e2_, HB40, hb_⟩ := allocX x1 (.cells #[.int .i64 cost, .int .i64 ec] 3); rw [e1_, e2_]; have n_ := qab.mk (Kd.qal (Kd.R_mono (ok' := fun k => k ≠ g40) (Kd.R_bound HRW.out) (fun k hk => by have := hk.2.2.1; omega)) hb_); clear HRW; have HRW := n_; clear n_; (try (replace HB34 := qad HB34 hb_)); clear e1_ e2_
          refine hK.out _ _ (HT.out _ (hHeld.2.2.2.out.below hb_)) (fun hHeld => ?_); clear hK K hb_; refine zn 40 ?_
          refine one_ (i := 4) (N := some 35) (msk 15 10) rfl rfl (by kernel_rfl) (by decide) (fun K hK => ?_)
          refine Kd.R_append_rows_step (Kd.int .i64) (w0 := W0) W0.heap.size (by rfl) (.tmp 32) (.tmp 34) 23 3 (.int .i64 0) 8 rfl Try.underlying23 info3 rfl (by decide) (by omega) v l [(i : Int)] (some ⟨g34, 0, none⟩) 1 1 (fun k => k ≠ g40) (fun _ => False) rfl rfl ?aO ?aR (fun _ _ h => h) (fun _ h => h.elim) ?aF ?aB ?aS ?aL ?_; (case aO => exact HRW.out); (case aR => exact C_blk (xs := [(i : Int)]) HB34 (by simp)); (case aF => exact fun k hk => by have := blk_lt HB40; omega); (case aB => exact hHeld.2.2.2.out.hb); (case aS => exact hHeld.2.2.2.out.hb.size); (case aL => omega)
          intro v1 x4 ho hB hg hat; obtain ⟨A1, n1, c1, rfl⟩ := R_shape ho; have HCR4 := hHeld.2.2.2.out.grown HRW.out hg hB; replace HB40 := blk_grown HB40 hg (fun e => HRW.out.1 g40 e.symm rfl); clear HRW; have HRW := qab.mk (Kd.R_mono (ok' := fun _ => True) ho (fun _ _ => trivial)); clear ho hg hB hat
          refine hK.out _ _ (HT.out _ HCR4) (fun hHeld => ?_); clear hK K HCR4; refine zn 35 ?_
          refine zqg #[true, true, true, true, true, true, true, true, true, true, false, true, false, false, false] 11 42 ?_
          exact norm_ (by simp only [putAll, Act.put, qzA, qzB, qzC]) (hCont (A1, n1, c1, g34, g40) _ ⟨hHeld, HRW.out, HB40⟩)
        ·
         refine value_ (w1 := ?_) (v := ?_) (by rfl) rfl ?_ ?_; rotate_left 2; (focus (go_simp; constructor; rfl; rfl))
         obtain ⟨x1, g40, e1_, e2_, HB40, hb_⟩ := allocX xw (.cells #[.int .i64 cost, .int .i64 ec] 3); rw [e1_, e2_]; have n_ := qab.mk (Kd.qal (Kd.R_mono (ok' := fun k => k ≠ g40) (Kd.R_bound HRW.out) (fun k hk => by have := hk.2.2.1; omega)) hb_); clear HRW; have HRW := n_; clear n_; (try (replace HB34 := qad HB34 hb_)); clear e1_ e2_
         refine hK.out _ _ (HT.out _ (hHeld.2.2.2.out.below hb_)) (fun hHeld => ?_); clear hK K hb_; refine zn 40 ?_
         refine one_ (i := 3) (N := some 34) #[true, true, true, true, false, true, true, true, true, true, false, false, false, false, false] rfl rfl (by kernel_rfl) (by decide) (fun K hK => ?_)
         refine value_ (w1 := ?_) (v := ?_) (by rfl) rfl ?_ ?_; rotate_left 2; (focus (go_simp; constructor; rfl; rfl))
         obtain ⟨x2, g34, e1_, e2_, HB34, hb_⟩ := allocX x1 (.cells #[.int .i64 (i : Int)] 3); rw [e1_, e2_]; clear e1_ e2_; replace HRW := qab.mk (Kd.qal HRW.out hb_); (try (replace HB40 := qad HB40 hb_))
         refine hK.out _ _ (HT.out _ (hHeld.2.2.2.out.below hb_)) (fun hHeld => ?_); clear hK K hb_; refine zn 34 ?_
         refine one_ (i := 4) (N := some 35) (msk 15 10) rfl rfl (by kernel_rfl) (by decide) (fun K hK => ?_)
         refine Kd.R_append_rows_step (Kd.int .i64) (w0 := W0) W0.heap.size (by rfl) (.tmp 32) (.tmp 34) 23 3 (.int .i64 0) 8 rfl Try.underlying23 info3 rfl (by decide) (by omega) v l [(i : Int)] (some ⟨g34, 0, none⟩) 1 1 (fun k => k ≠ g40) (fun _ => False) rfl rfl ?aO ?aR (fun _ _ h => h) (fun _ h => h.elim) ?aF ?aB ?aS ?aL ?_; (case aO => exact HRW.out); (case aR => exact C_blk (xs := [(i : Int)]) HB34 (by simp)); (case aF => exact fun k hk => by have := blk_lt HB40; omega); (case aB => exact hHeld.2.2.2.out.hb); (case aS => exact hHeld.2.2.2.out.hb.size); (case aL => omega)
         intro v1 x4 ho hB hg hat; obtain ⟨A1, n1, c1, rfl⟩ := R_shape ho; have HCR4 := hHeld.2.2.2.out.grown HRW.out hg hB; replace HB40 := blk_grown HB40 hg (fun e => HRW.out.1 g40 e.symm rfl); clear HRW; have HRW := qab.mk (Kd.R_mono (ok' := fun _ => True) ho (fun _ _ => trivial)); clear ho hg hB hat
         refine hK.out _ _ (HT.out _ HCR4) (fun hHeld => ?_); clear hK K HCR4; refine zn 35 ?_
         refine zqg #[true, true, true, true, true, true, true, true, true, true, false, true, false, false, false] 11 42 ?_
         exact norm_ (by simp only [putAll, Act.put, qzA, qzB, qzC]) (hCont (A1, n1, c1, g34, g40) _ ⟨hHeld, HRW.out, HB40⟩)
       rintro ⟨A1, n1, c1, g34, g40⟩ xj ⟨hHeld, hR_, hB_⟩; simp only [putAll, Act.put, qzA, qzB, qzC]
       have HRW := qab.mk hR_; have HB40 := hB_; clear hR_ hB_
       refine one_ (i := 10) (N := some 41) (msk 15 12) rfl rfl (by kernel_rfl) (by decide) (fun K hK => ?_)
       refine goes_ Try.func81 (by kernel_rfl) rfl #[.slice (some ⟨g40, 0, none⟩) 2 2] (by rfl) rfl rfl (by (try simp only [List.map_toArray, List.map_cons, List.map_nil]); first | done | rfl) ?_
       refine (HSUM.out _ g40 HB40).mono ?_; rintro e x6 ⟨rfl, hb_⟩; replace HRW := qab.mk (Kd.qal HRW.out hb_); refine ⟨_, rfl, ?_⟩; refine hK.out _ _ (HT.out _ (hHeld.2.2.2.out.below hb_)) (fun hHeld => ?_); clear hK K hb_; refine zn 41 ?_
       have HCRx := qab.mk hHeld.2.2.2.out; have fr5 := qac HCRx.out.c; have c50 := qaa HCRx.out.c 0; have c51 := qaa HCRx.out.c 1; have HNR := qab.mk (Kd.R_set HRW.out HCRx.out.c (by decide) 1 (.slice A1 n1 c1)); have HCY := qab.mk (HCRx.out.put (.slice A1 n1 c1) c2); have HNR2 := qab.mk (Kd.R_set HNR.out (blk_set HCRx.out.c 1 (.slice A1 n1 c1)) (by decide) 0 (.int .i64 c2)); have fr52 := qac (blk_set HCRx.out.c 1 (.slice A1 n1 c1)); have c502 := qaa (blk_set HCRx.out.c 1 (.slice A1 n1 c1)) 0
       refine last_ (i := 12) (N := none) (msk 15 13) rfl rfl (by kernel_rfl) (by decide) (fun K hK => ?_); refine skip_ (w1 := ?_) (by rfl) rfl ?_ ?_; rotate_left; (focus (go_simp; rfl)); refine hK.out _ _ ?_; clear hK K hHeld
       refine zq 13 14 43 ?_
       refine last_ (i := 14) (N := none) (msk 15 15) rfl rfl (by kernel_rfl) (by decide) (fun K hK => ?_); refine skip_ (w1 := ?_) (by rfl) rfl ?_ ?_; rotate_left; (focus (go_simp; rfl)); refine hK.out _ _ ?_; clear hK K
       refine done_ (by kernel_rfl) ?_
       go_wp2
       go_roundw
       case rel => exact ⟨i + 1, _, by omega, by go_num, ⟨HN1.out.1⟩, ⟨by rw [HN1.out.2.1]; exact HCY.out.2⟩, ⟨by rw [HN1.out.2.2]; exact HNR2.out⟩, ⟨HCY.out.1⟩⟩
       case measure => simp [intOf]; omega
    ·
     have hiE : i = l0_1.length := by omega
     have HCV : qab (choicesTo l0_1 (k + 1) = choicesTo l0_1 k ++ [(chC l0_1 k i, chL k i)]) := ⟨by rw [choicesTo_succ, if_pos (by rw [← hiE]; exact HOK.out), hiE]⟩
     have HO1 := qab.mk (Kd.qal HO.out HBW.out)
     have HB1 := qab.mk (qae HB.out HBW.out)
     have BKb := qab.mk (qad BKgb.out HBW.out)
     have hcl := choicesTo_len l0_1 k
     have HRA := qab.mk (R_apart (d' := kCh) (e' := 104) (v' := vo) (Kd.R_lower HRW0.out HB.out.size) (Kd.R_typed HO1.out))
     obtain ⟨cost, hcost⟩ : ∃ c, c = chC l0_1 k i := ⟨_, rfl⟩
     obtain ⟨l, hl⟩ : ∃ c, c = chL k i := ⟨_, rfl⟩
     rw [← hcost] at BKg5 HCV
     rw [← hl] at HRA HCV
     have c50 : wr.cell? ⟨g5, 0, none⟩ = some (.int .i64 cost) := (qaa BKg5.out 0).trans rfl
     have c51 : wr.cell? ⟨g5, 1, none⟩ = some v := (qaa BKg5.out 1).trans rfl
     obtain ⟨vA, vn, vc, rfl⟩ := R_shape HRA.out
     clear hcost hl hiE HOK HRW0
     go_wp2_with ((with_reducible refine gate_builtin (b := .append) (xs := #[.tmp 45, .tmp 47]) rfl ?_); at_builtin; refine Kd.R_append kCh (w0 := w) w.heap.size rfl (.tmp 45) (.tmp 47) 107 104 (.agg #[.int .i64 0, .slice none 0 0]) 32 rfl Try.underlying107 info104 rfl (by decide) (by omega) vo (choicesTo l0_1 k) ((cost, l) : Int × List Int) [.int .i64 cost, .slice vA vn vc] (fun _ => True) (fun q => some q ≠ vo.ownBlock) rfl rfl ?aP (fun _ hk => ⟨trivial, hk⟩) ?aF ?aO ?aB ?aS ?aL ?_; (case aP => exact ⟨[.int .i64 cost], [.slice vA vn vc], rfl, rfl, ⟨_, rfl, HRA.out⟩⟩); (case aF => exact fun _ _ => trivial); (case aO => exact HO1.out); (case aB => exact HB1.out); (case aS => exact HB1.out.size); (case aL => omega); intro v1 w1 ho hB hg hat; have HO2 := qab.mk ho; have HB2 := qab.mk hB; have BKb2 := qab.mk (blk_grown BKb.out hg (Kd.R_ne HO1.out BKb.out (by decide))); clear ho hB hg hat)
     go_roundw
     case rel => exact ⟨k + 1, v1, by omega, by go_num, rfl, ⟨by rw [HCV.out]; exact HO2.out⟩, BKb2, HB2⟩
     case measure => simp [intOf]; omega
  ·
   have hkE : k = N := by omega
   have HOE : qab (Kd.R kCh 104 W0 w.heap.size (fun _ => True) vo (choicesV l0_1)) := ⟨by unfold choicesV; rw [← HN.out, ← hkE]; exact HO.out⟩
   clear hkE HO
   go_wp2
   try rw [Exit.noGoto_ret]
   go_ret
   exact ⟨vo, rfl, HOE.out, HB.out⟩
end Go.Proofs.Ytafkanmioinbiaa.SA
namespace Go.Proofs.Ytafkanmioinbiaa.SA
open Go.RowKit Go.Proofs.YtafkanmioinbiaaW.PrintWords Go.Proofs.YtafkanmioinbiaaW.PrintLast Go.Proofs.YtafkanmioinbiaaW.PrintMore
attribute [local go_sem] qax qaz max_two min_two qao qap qay qba
def seep_before.f (k : Nat) (a0_0 : Int) (l0_1 : List Int) (a1_0 : Int) (l1_1 : List Int) : Option (Bool) := (cmp_Compare_int.f a0_0 a1_0).bind fun t129 => ((cmp_Compare_int.f (l0_1.length : Int) (l1_1.length : Int)).bind fun t130 => ((slices_Compare_int_int.f k l0_1 l1_1).bind fun t131 => ((cmp_Or_int.f k (([t129, t130, t131] : List Int))).bind fun t135 => (some (decide (t135 < 0))))))
def seep_before.T1 : Bool × List (List Nat × List Nat) := (true, [([], []), ([0], [0]), ([], []), ([2], [2]), ([1, 3], [1, 3]), ([], []), ([5], [5]), ([6], [6]), ([], []), ([8], [8]), ([9], [9]), ([7, 10, 4], [7, 10]), ([], []), ([12], [12]), ([], []), ([14], [14]), ([13, 15, 11], [13, 15]), ([4, 11, 16], [4, 11, 16]), ([17, 16], [17]), ([18], [18]), ([19, 18, 0, 1, 2, 3, 4, 5, 6, 7, 8, 9, 10, 11, 12, 13, 14, 15, 16, 17, 18, 19], [19])])
def seep_before.B1 : List Nat := [0, 1, 0, 4, 15, 0, 32, 96, 0, 256, 768, 2047, 0, 4096, 0, 16384, 65535, 131071, 262143, 524287, 1048575]
theorem seep_before.tab1 : rtab .any (opsOf Try.f71 1) = seep_before.T1 := by kernel_rfl
theorem seep_before.bits1 : waitsOk seep_before.T1.2 seep_before.B1 = true := by kernel_rfl
theorem seep_before.calls (k : Nat) (a0_0 : Int) (A0_1 : Option Addr) (c0_1 : Nat) (l0_1 : List Int) (a1_0 : Int) (A1_1 : Option Addr) (c1_1 : Nat) (l1_1 : List Int) (r : Bool) (w : World) (hr0_1 : Kd.C (Kd.int .i64) w A0_1 l0_1.length l0_1) (hc0_1 : l0_1.length ≤ c0_1) (hr1_1 : Kd.C (Kd.int .i64) w A1_1 l1_1.length l1_1) (hc1_1 : l1_1.length ≤ c1_1) (h : seep_before.f k a0_0 l0_1 a1_0 l1_1 = some r) :
  Calls Try.prog 71 #[.agg #[.int .i64 a0_0, .slice A0_1 l0_1.length c0_1], .agg #[.int .i64 a1_0, .slice A1_1 l1_1.length c1_1]] w fun e w' => e = .returned (.bool r) ∧ Below w.heap.size w w' := by
 have hu104 := Try.underlying104
 have HR0_1 := qab.mk hr0_1
 have HC0_1 := qab.mk hc0_1
 clear hr0_1 hc0_1
 have HR1_1 := qab.mk hr1_1
 have HC1_1 := qab.mk hc1_1
 clear hr1_1 hc1_1
 have HB := qab.mk (Below.refl w.heap.size w)
 have H : ((cmp_Compare_int.f a0_0 a1_0).bind fun t129 => ((cmp_Compare_int.f (l0_1.length : Int) (l1_1.length : Int)).bind fun t130 => ((slices_Compare_int_int.f k l0_1 l1_1).bind fun t131 => ((cmp_Or_int.f k (([t129, t130, t131] : List Int))).bind fun t135 => (some (decide (t135 < 0))))))) = some r := h
 clear h
 replace H := Option.bind_eq_some_iff.mp H
 obtain ⟨t129, A30, H⟩ := H
 try dsimp only at H
 have A3 := qab.mk A30
 clear A30
 replace H := Option.bind_eq_some_iff.mp H
 obtain ⟨t130, A40, H⟩ := H
 try dsimp only at H
 have A4 := qab.mk A40
 clear A40
 replace H := Option.bind_eq_some_iff.mp H
 obtain ⟨t131, A50, H⟩ := H
 try dsimp only at H
 have A5 := qab.mk A50
 clear A50
 obtain ⟨y132, hy132⟩ : ∃ y_ : List Int, y_ = (([t129, t130, t131] : List Int)) := ⟨_, rfl⟩
 replace H : ((cmp_Or_int.f k y132).bind fun t135 => (some (decide (t135 < 0)))) = some r := by first | (rw [hy132]; with_reducible exact H) | (have H2_ := (Option.bind_some _ _).symm.trans H; rw [hy132]; with_reducible exact H2_) | (have H2_ := (Option.bind_some _ _).symm.trans H; with_reducible exact H2_) | with_reducible exact H | (rw [hy132]; exact H) | exact H
 have Ny132 := qab.mk hy132
 clear hy132
 replace H := Option.bind_eq_some_iff.mp H
 obtain ⟨t135, A60, H⟩ := H
 try dsimp only at H
 have A6 := qab.mk A60
 clear A60
 obtain rfl := Option.some.inj H
 go_enter Try.func71, Try.ntmps71
 try go_wp2_with (first | ((with_reducible refine qam (N := 2) rfl ?_); refine ze 2 #[.int .i64 a0_0, .slice A0_1 l0_1.length c0_1] 104 ?_; intro gb127 hg w7 hbox hb; have n0_ := qab.mk (qae (zb HB.out) hb); have n1_ := qab.mk (hbox); have n2_ := qab.mk ((by rw [hg]; exact (below_size (zb HB.out)) : w.heap.size ≤ gb127)); have n3_ := qab.mk ((by rw [hg]; exact (below_size (zb HB.out)) : w.heap.size ≤ gb127)); clear HB; have HB := n0_; have BK127 := n1_; have GW127 := n2_; have GE127 := n3_; clear n0_ n1_ n2_ n3_; clear hb hbox hg) | ((with_reducible refine qam (N := 3) rfl ?_); refine ze 3 #[.int .i64 a1_0, .slice A1_1 l1_1.length c1_1] 104 ?_; intro gb128 hg w8 hbox hb; have n0_ := qab.mk (zk BK127.out hb); have n1_ := qab.mk (qae (by repeat (first | (with_reducible first | exact HB.out | apply qag | apply qaf | apply qah | refine qaj ?_ GE127.out) | exact HB.out)) hb); have n2_ := qab.mk (hbox); have n3_ := qab.mk ((by rw [hg]; exact (below_size (by repeat (first | (with_reducible first | exact HB.out | apply qag | apply qaf | apply qah | refine qaj ?_ GE127.out) | exact HB.out))) : w.heap.size ≤ gb128)); have n4_ := qab.mk ((by rw [hg]; exact (below_size (by repeat (first | (with_reducible first | exact HB.out | apply qag | apply qaf | apply qah | refine qaj ?_ GE127.out) | exact HB.out))) : w.heap.size ≤ gb128)); have n5_ := qab.mk ((by rw [hg]; exact Nat.ne_of_lt (blk_lt (g := gb127) (o := .cells #[.int .i64 a0_0, .slice A0_1 l0_1.length c0_1] 104 (0, 0)) (by (with_reducible repeat (first | refine qau ?_ _ | refine qaw ?_ | refine qan ?_ _)); exact BK127.out)) : gb127 ≠ gb128)); have n6_ := qab.mk ((by rw [hg]; exact Nat.ne_of_gt (blk_lt (g := gb127) (o := .cells #[.int .i64 a0_0, .slice A0_1 l0_1.length c0_1] 104 (0, 0)) (by (with_reducible repeat (first | refine qau ?_ _ | refine qaw ?_ | refine qan ?_ _)); exact BK127.out)) : gb128 ≠ gb127)); clear BK127; clear HB; have BK127 := n0_; have HB := n1_; have BK128 := n2_; have GW128 := n3_; have GE128 := n4_; have NB127_128 := n5_; have NB128_127 := n6_; clear n0_ n1_ n2_ n3_ n4_ n5_ n6_; clear hb hbox hg))
 replace BK127 := qab.mk (qaw BK127.out)
 replace BK128 := qab.mk (qaw BK128.out)
 replace HB := qab.mk (qah HB.out)
 refine start_ (n := 21) (S := fun w' => w'.cell? ⟨gb127, 0, none⟩ = some (.int .i64 a0_0) ∧ w'.cell? ⟨gb127, 1, none⟩ = some (.slice A0_1 l0_1.length c0_1) ∧ w'.cell? ⟨gb128, 0, none⟩ = some (.int .i64 a1_0) ∧ w'.cell? ⟨gb128, 1, none⟩ = some (.slice A1_1 l1_1.length c1_1)) (ds := []) (msk 21 0) (by kernel_rfl) rfl rfl ⟨(qaa BK127.out 0).trans rfl, (qaa BK127.out 1).trans rfl, (qaa BK128.out 0).trans rfl, (qaa BK128.out 1).trans rfl⟩ (fun hHeld => ?_); refine with_tabW seep_before.tab1 seep_before.bits1 (fun HT_ HW_ => ?_)
 generalize w8.drew = w9 at BK127 BK128 HB hHeld ⊢
 refine zu HT_.out 0 1 5 ?_
 refine zug #[true, false, true, false, false, false, false, false, false, false, false, false, false, false, false, false, false, false, false, false, false] HT_.out 2 7 ?_
 refine zug #[true, false, true, false, false, true, false, false, false, false, false, false, false, false, false, false, false, false, false, false, false] HT_.out 5 10 ?_
 refine zug #[true, false, true, false, false, true, false, false, true, false, false, false, false, false, false, false, false, false, false, false, false] HT_.out 8 13 ?_
 refine zug #[true, false, true, false, false, true, false, false, true, false, false, false, true, false, false, false, false, false, false, false, false] HT_.out 12 17 ?_
 refine zug #[true, false, true, false, false, true, false, false, true, false, false, false, true, false, true, false, false, false, false, false, false] HT_.out 14 19 ?_
 refine zwg4 #[true, true, true, false, false, true, false, false, true, false, false, false, true, false, true, false, false, false, false, false, false] HT_.out HW_.out 1 6 hHeld ?_
 refine zwg4 #[true, true, true, true, false, true, false, false, true, false, false, false, true, false, true, false, false, false, false, false, false] HT_.out HW_.out 3 8 hHeld ?_
 refine zwg4 #[true, true, true, true, false, true, true, false, true, false, false, false, true, false, true, false, false, false, false, false, false] HT_.out HW_.out 6 11 hHeld ?_
 refine zug #[true, true, true, true, false, true, true, true, true, false, false, false, true, false, true, false, false, false, false, false, false] HT_.out 7 12 ?_
 refine zwg4 #[true, true, true, true, false, true, true, true, true, true, false, false, true, false, true, false, false, false, false, false, false] HT_.out HW_.out 9 14 hHeld ?_
 refine zug #[true, true, true, true, false, true, true, true, true, true, true, false, true, false, true, false, false, false, false, false, false] HT_.out 10 15 ?_
 refine zwg4 #[true, true, true, true, false, true, true, true, true, true, true, false, true, true, true, false, false, false, false, false, false] HT_.out HW_.out 13 18 hHeld ?_
 refine zwg4 #[true, true, true, true, false, true, true, true, true, true, true, false, true, true, true, true, false, false, false, false, false] HT_.out HW_.out 15 20 hHeld ?_
 refine one_ (i := 4) (N := some 9) #[true, true, true, true, true, true, true, true, true, true, true, false, true, true, true, true, false, false, false, false, false] rfl rfl (one_of HT_.out (by kernel_rfl)) (by decide) (fun K hK => ?_)
 refine zg Try.func100 #[.int .i64 a0_0, .int .i64 a1_0] ?_
 with_reducible refine (cmp_Compare_int.calls a0_0 a1_0 t129 _ A3.out).mono ?_
 rintro e w' ⟨rfl, ⟨nd, rfl⟩⟩
 refine ⟨_, rfl, ?_⟩
 refine hK.out _ _ ⟨(qaa BK127.out 0).trans rfl, (qaa BK127.out 1).trans rfl, (qaa BK128.out 0).trans rfl, (qaa BK128.out 1).trans rfl⟩ (fun hHeld => ?_)
 clear hK K
 refine zn 9 ?_
 refine one_ (i := 11) (N := some 16) (msk 21 16) rfl rfl (one_of HT_.out (by kernel_rfl)) (by decide) (fun K hK => ?_)
 refine zg Try.func100 #[.int .i64 (l0_1.length : Int), .int .i64 (l1_1.length : Int)] ?_
 with_reducible refine (cmp_Compare_int.calls (l0_1.length : Int) (l1_1.length : Int) t130 _ A4.out).mono ?_
 rintro e w' ⟨rfl, ⟨nd, rfl⟩⟩
 refine ⟨_, rfl, ?_⟩
 refine hK.out _ _ ⟨(qaa BK127.out 0).trans rfl, (qaa BK127.out 1).trans rfl, (qaa BK128.out 0).trans rfl, (qaa BK128.out 1).trans rfl⟩ (fun hHeld => ?_)
 clear hK K
 refine zn 16 ?_
 refine one_ (i := 16) (N := some 21) (msk 21 17) rfl rfl (one_of HT_.out (by kernel_rfl)) (by decide) (fun K hK => ?_)
 refine zg Try.func101 #[.slice A0_1 l0_1.length c0_1, .slice A1_1 l1_1.length c1_1] ?_
 with_reducible refine (slices_Compare_int_int.calls k _ _ l0_1 _ _ l1_1 t131 _ ?side1 ?side2 ?side3 ?side4 A5.out).mono ?_
 (case side1 => repeat (first | exact (Kd.qai HR0_1.out (by repeat (first | (with_reducible first | exact HB.out | apply qag | apply qaf | apply qah | refine qaj ?_ GE127.out | refine qaj ?_ GE128.out) | exact HB.out))) | (with_reducible refine Kd.qas ?_ _) | (with_reducible refine Kd.qat ?_ _) | (with_reducible refine Kd.C_drew ?_)))
 (case side2 => exact HC0_1.out)
 (case side3 => repeat (first | exact (Kd.qai HR1_1.out (by repeat (first | (with_reducible first | exact HB.out | apply qag | apply qaf | apply qah | refine qaj ?_ GE127.out | refine qaj ?_ GE128.out) | exact HB.out))) | (with_reducible refine Kd.qas ?_ _) | (with_reducible refine Kd.qat ?_ _) | (with_reducible refine Kd.C_drew ?_)))
 (case side4 => exact HC1_1.out)
 rintro e w' ⟨rfl, ⟨nd, rfl⟩⟩
 refine ⟨_, rfl, ?_⟩
 refine hK.out _ _ ⟨(qaa BK127.out 0).trans rfl, (qaa BK127.out 1).trans rfl, (qaa BK128.out 0).trans rfl, (qaa BK128.out 1).trans rfl⟩ (fun hHeld => ?_)
 clear hK K
 refine zn 21 ?_
 refine one_ (i := 17) (N := some 22) (msk 21 18) rfl rfl (one_of HT_.out (by kernel_rfl)) (by decide) (fun K hK => ?_)
 refine Kd.R_lit_step (Kd.int .i64) _ 3 ?hg (N := 22) ?hd (xs := ([t129, t130, t131] : List Int)) (inner := [.int .i64 t129, .int .i64 t130, .int .i64 t131]) (ok := fun _ => True) (okp := fun _ => True) ?hr ?hp (fun _ hk => hk) trivial (Below.refl _ _) (Nat.le_refl _) (by simp) ?_; (case hd => rfl); (case hg => rfl); (case hr => first | (go_simp; done) | (go_simp; rfl)); (case hp => exact (Reps.one (show Kd.M (Kd.int .i64) _ _ _ t129 [.int .i64 t129] from rfl) (Reps.one (show Kd.M (Kd.int .i64) _ _ _ t130 [.int .i64 t130] from rfl) (Reps.one (show Kd.M (Kd.int .i64) _ _ _ t131 [.int .i64 t131] from rfl) (Reps.none _ _)))))
 intro v133 w10 ho11 hb hg_ hnew_
 clear hg_ hnew_
 (first | rw [← Ny132.out] at ho11 | (simp only [Int.reduceToNat] at ho11; rw [← Ny132.out] at ho11))
 have HO134 := qab.mk (Kd.R_lower ho11 (below_size (by repeat (first | (with_reducible first | exact HB.out | apply qag | apply qaf | apply qah | refine qaj ?_ GE127.out | refine qaj ?_ GE128.out) | exact HB.out))))
 replace BK127 := qab.mk (zk BK127.out hb)
 replace BK128 := qab.mk (zk BK128.out hb)
 replace HB := qab.mk (qae (by repeat (first | (with_reducible first | exact HB.out | apply qag | apply qaf | apply qah | refine qaj ?_ GE127.out | refine qaj ?_ GE128.out) | exact HB.out)) hb)
 clear hb ho11
 obtain ⟨Ao12, co12, eo12⟩ := Kd.R_slice HO134.out
 (first | subst eo12 | (injection eo12 with f1_ f2_ f3_; have f4_ := f1_.symm; have f5_ := f3_.symm; clear f1_ f2_ f3_; subst f4_; subst f5_))
 refine hK.out _ _ ⟨(qaa BK127.out 0).trans rfl, (qaa BK127.out 1).trans rfl, (qaa BK128.out 0).trans rfl, (qaa BK128.out 1).trans rfl⟩ (fun hHeld => ?_)
 clear hK K
 refine zn 22 ?_
 refine one_ (i := 18) (N := some 23) (msk 21 19) rfl rfl (one_of HT_.out (by kernel_rfl)) (by decide) (fun K hK => ?_)
 refine zg Try.func99 #[.slice Ao12 y132.length co12] ?_
 with_reducible refine (cmp_Or_int.calls k _ _ y132 t135 _ ?side1 ?side2 A6.out).mono ?_
 (case side1 => repeat (first | exact (Kd.R_reads' HO134.out).2.2 | (with_reducible refine Kd.qas ?_ _) | (with_reducible refine Kd.qat ?_ _) | (with_reducible refine Kd.C_drew ?_)))
 (case side2 => exact (Kd.R_reads' HO134.out).2.1)
 rintro e w' ⟨rfl, ⟨nd, rfl⟩⟩
 refine ⟨_, rfl, ?_⟩
 refine hK.out _ _ ⟨(qaa BK127.out 0).trans rfl, (qaa BK127.out 1).trans rfl, (qaa BK128.out 0).trans rfl, (qaa BK128.out 1).trans rfl⟩ (fun hHeld => ?_)
 clear hK K
 refine zn 23 ?_
 refine zu HT_.out 19 20 24 ?_
 refine zu HT_.out 20 21 4 ?_
 refine done_ (done_of HT_.out (by kernel_rfl)) ?_
 try go_wp2
 go_ret
 exact ⟨by first | rfl | (simp [qbb, qbc] <;> rfl) | (simp [*, qbb, qbc] <;> rfl), by repeat (first | (with_reducible first | exact HB.out | apply qag | apply qaf | apply qah | refine qaj ?_ GE127.out | refine qaj ?_ GE128.out) | exact HB.out)⟩
def cmpI (a b : Int) : Int := if a < b then -1 else if a > b then 1 else 0
def cmpL : List Int → List Int → Int
 | [], [] => 0
 | [], _ :: _ => -1
 | _ :: _, [] => 1
 | x :: t, y :: u => if cmpI x y = 0 then cmpL t u else cmpI x y
def orI (a b c : Int) : Int := if a = 0 then (if b = 0 then c else b) else a
def beforeB (a b : Int × List Int) : Bool := decide (orI (cmpI a.1 b.1) (cmpI (a.2.length : Int) (b.2.length : Int)) (cmpL a.2 b.2) < 0)
theorem compare_some (a b : Int) : cmp_Compare_int.f a b = some (cmpI a b) := by
 unfold cmp_Compare_int.f cmp_isNaN_int.f cmpI
 by_cases h : a < b
 ·
  simp [h]
 ·
  by_cases h2 : a > b <;> simp [h, h2]
theorem or_some (k : Nat) (a b c : Int) : cmp_Or_int.f (k + 4) [a, b, c] = some (orI a b c) := by
 unfold cmp_Or_int.f orI
 simp only [cmp_Or_int.l0]
 by_cases ha : a = 0 <;> by_cases hb : b = 0 <;> by_cases hc : c = 0 <;> simp [rd, wrap64, ha, hb, hc]
theorem sliceCmp_some (l m : List Int) (hl : l.length ≤ 1000) : ∀ (d i k : Nat), i + d = l.length → d < k → slices_Compare_int_int.l0 k l m l (l.length : Int) (i : Int) = some (cmpL (l.drop i) (m.drop i)) ∨ m.length < i := by
 intro d
 induction d with
 | zero =>
  intro i k hd hk
  obtain ⟨k, rfl⟩ : ∃ j, k = j + 1 := ⟨k - 1, by omega⟩
  rcases Nat.lt_or_ge m.length i with hm | hm
  ·
   exact .inr hm
  refine .inl ?_
  simp only [slices_Compare_int_int.l0]
  rw [if_neg (by omega), List.drop_eq_nil_of_le (by omega)]
  by_cases h : (l.length : Int) < m.length
  ·
   rw [if_pos h, List.drop_eq_getElem_cons (show i < m.length by omega)]
   rfl
  ·
   rw [if_neg h, List.drop_eq_nil_of_le (by omega)]
   rfl
 | succ d ih =>
  intro i k hd hk
  obtain ⟨k, rfl⟩ : ∃ j, k = j + 1 := ⟨k - 1, by omega⟩
  rcases Nat.lt_or_ge m.length i with hm | hm
  ·
   exact .inr hm
  refine .inl ?_
  simp only [slices_Compare_int_int.l0]
  rw [if_pos (by omega), if_pos (by omega), if_pos (by omega), List.drop_eq_getElem_cons (show i < l.length by omega)]
  by_cases h : i = m.length
  ·
   rw [if_pos (by omega), show m.drop i = [] from List.drop_eq_nil_of_le (by omega)]
   rfl
  ·
   have hi : i < m.length := by omega
   rw [if_neg (by omega), if_pos (by omega), compare_some, Option.bind_some, List.drop_eq_getElem_cons hi]
   have e1 : rd l (i : Int) = l[i] := by simp [rd, show i < l.length by omega]
   have e2 : rd m (i : Int) = m[i] := by simp [rd, hi]
   rw [e1, e2]
   unfold cmpL
   by_cases h0 : cmpI l[i] m[i] = 0
   ·
    rw [if_pos h0, if_pos h0, show wrap64 ((i : Int) + 1) = ((i + 1 : Nat) : Int) from by unfold wrap64; omega]
    rcases ih (i + 1) k (by omega) (by omega) with h1 | h1
    ·
     exact h1
    ·
     omega
   ·
    rw [if_neg h0, if_neg h0]
theorem before_some (a b : Int × List Int) (ha : a.2.length ≤ 1000) : seep_before.f (a.2.length + 4) a.1 a.2 b.1 b.2 = some (beforeB a b) := by
 unfold seep_before.f beforeB
 have h1 : slices_Compare_int_int.f (a.2.length + 4) a.2 b.2 = some (cmpL a.2 b.2) := by
  rcases sliceCmp_some a.2 b.2 ha a.2.length 0 (a.2.length + 4) (by omega) (by omega) with h | h
  ·
   unfold slices_Compare_int_int.f
   simpa using h
  ·
   omega
 rw [compare_some, Option.bind_some, compare_some, Option.bind_some, h1, Option.bind_some, or_some, Option.bind_some]
def bestS (holds : Int × List Int → Bool) (o : Option (Int × List Int)) (x : Int × List Int) : Option (Int × List Int) :=
 if ((match o with | none => true | some y => beforeB x y) && holds x) = true then some x else o
def bestV (holds : Int × List Int → Bool) (l : List (Int × List Int)) : Option (Int × List Int) := l.foldl (bestS holds) none
end Go.Proofs.Ytafkanmioinbiaa.SA
