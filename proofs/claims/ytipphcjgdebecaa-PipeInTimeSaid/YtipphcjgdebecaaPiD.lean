/- What functions of the program answer. No condition. -/
import Derived.Test.YtipphcjgdebecaaSC
set_option linter.all false
set_option maxRecDepth 100000
set_option maxHeartbeats 8000000
namespace Go.Proofs.Ytipphcjgdebecaa.PA
open Go.RowKit Go.Proofs.YtipphcjgdebecaaW.PrintWords Go.Proofs.YtipphcjgdebecaaW.PrintLast Go.Proofs.YtipphcjgdebecaaW.PrintMore
attribute [local go_sem] max2_int min2_int max_two min_two qas qat max_four min_four
def taliklaw04_percents.l0 : Nat → List Int → Int → Option (Bool)
 | 0, _, _ => none
 | k + 1, x0, x3 => if x3 < (x0.length : Int) then (if 0 ≤ x3 then (if (rd x0 x3) < 0 then (some false) else (if (rd x0 x3) > 100 then (some false) else (taliklaw04_percents.l0 k x0 (wrap64 (x3 + 1))))) else (none)) else (if (x0.length : Int) ≥ 1 then (some (decide ((x0.length : Int) ≤ 200))) else (some false))
def taliklaw04_percents.f (k : Nat) (l0 : List Int) : Option (Bool) := taliklaw04_percents.l0 k l0 0
theorem taliklaw04_percents.calls (k : Nat) (A0 : Option Addr) (c0 : Nat) (l0 : List Int) (r : Bool) (w : World) (hr0 : Kd.C (Kd.int .i64) w A0 l0.length l0) (hc0 : l0.length ≤ c0) (h : taliklaw04_percents.f k l0 = some r) :
  Calls Try.prog 33 #[.slice A0 l0.length c0] w fun e w' => e = .returned (.bool r) ∧ Drawn0 w w' := by
 have HR0 := qab.mk hr0
 have HC0 := qab.mk hc0
 clear hr0 hc0
 have H : (taliklaw04_percents.l0 k l0 0) = some r := h
 clear h
 have H' := qab.mk H
 clear H
 go_enter Try.func33, Try.ntmps33
 go_wp2
 go_loopg [3] k (fun kq v3 w' => ∃ (x3_1 : Int), v3 = .int .i64 x3_1 ∧ qab (taliklaw04_percents.l0 kq l0 x3_1 = some r) ∧ qab (kq ≤ k) ∧ Drawn0 w w')
 case atStart => exact ⟨(0), (by first | rfl | (simp; done) | (simp [*]; done)), H', ⟨Nat.le_refl _⟩, by repeat (first | exact Drawn0.refl _ | apply Drawn0.step)⟩
 case round =>
  clear H'
  obtain ⟨x3_1, rfl, HA, HK1, ⟨m1, rfl⟩⟩ := hrel
  cases gk with
  | zero => exact absurd HA.out (by simp [taliklaw04_percents.l0])
  | succ k1 =>
   have H := HA.out
   clear HA
   simp only [taliklaw04_percents.l0] at H
   by_cases c2 : x3_1 < (l0.length : Int)
   ·
    rw [if_pos c2] at H
    have c2b0 : decide (x3_1 < (l0.length : Int)) = true := decide_eq_true c2
    clear c2
    by_cases c3 : 0 ≤ x3_1
    ·
     rw [if_pos c3] at H
     have c3b0 : decide (0 ≤ x3_1) = true := decide_eq_true c3
     clear c3
     by_cases c4 : (rd l0 x3_1) < 0
     ·
      rw [if_pos c4] at H
      have c4b0 : decide ((rd l0 x3_1) < 0) = true := decide_eq_true c4
      clear c4
      obtain rfl := Option.some.inj H
      have p298 : 0 ≤ (x3_1 : Int) := of_decide_eq_true (by first | (with_reducible assumption) | assumption)
      have q298 : x3_1 < (l0.length : Int) := of_decide_eq_true (by first | (with_reducible assumption) | assumption)
      obtain ⟨ad298, e298, hx298_0⟩ := Kd.at_int HR0.out x3_1 p298 q298
      cases e298
      replace p298 := eq_true p298
      replace q298 := eq_true q298
      go_wp2
      go_ret
      exact ⟨by first | rfl | (simp; done) | (simp [*]; done), by repeat (first | exact Drawn0.refl _ | apply Drawn0.step)⟩
     ·
      rw [if_neg c4] at H
      have c4b0 : decide ((rd l0 x3_1) < 0) = false := decide_eq_false c4
      clear c4
      by_cases c5 : (rd l0 x3_1) > 100
      ·
       rw [if_pos c5] at H
       have c5b0 : decide (100 < (rd l0 x3_1)) = true := decide_eq_true c5
       clear c5
       obtain rfl := Option.some.inj H
       have p298 : 0 ≤ (x3_1 : Int) := of_decide_eq_true (by first | (with_reducible assumption) | assumption)
       have q298 : x3_1 < (l0.length : Int) := of_decide_eq_true (by first | (with_reducible assumption) | assumption)
       obtain ⟨ad298, e298, hx298_0⟩ := Kd.at_int HR0.out x3_1 p298 q298
       cases e298
       replace p298 := eq_true p298
       replace q298 := eq_true q298
       have p299 : 0 ≤ (x3_1 : Int) := of_decide_eq_true (by first | (with_reducible assumption) | assumption)
       have q299 : x3_1 < (l0.length : Int) := of_decide_eq_true (by first | (with_reducible assumption) | assumption)
       obtain ⟨ad299, e299, hx299_0⟩ := Kd.at_int HR0.out x3_1 p299 q299
       obtain rfl : ad298 = ad299 := (by injection e299)
       replace p299 := eq_true p299
       replace q299 := eq_true q299
       go_wp2
       go_ret
       exact ⟨by first | rfl | (simp; done) | (simp [*]; done), by repeat (first | exact Drawn0.refl _ | apply Drawn0.step)⟩
      ·
       rw [if_neg c5] at H
       have c5b0 : decide (100 < (rd l0 x3_1)) = false := decide_eq_false c5
       clear c5
       have H' := qab.mk H
       clear H
       have p298 : 0 ≤ (x3_1 : Int) := of_decide_eq_true (by first | (with_reducible assumption) | assumption)
       have q298 : x3_1 < (l0.length : Int) := of_decide_eq_true (by first | (with_reducible assumption) | assumption)
       obtain ⟨ad298, e298, hx298_0⟩ := Kd.at_int HR0.out x3_1 p298 q298
       cases e298
       replace p298 := eq_true p298
       replace q298 := eq_true q298
       have p299 : 0 ≤ (x3_1 : Int) := of_decide_eq_true (by first | (with_reducible assumption) | assumption)
       have q299 : x3_1 < (l0.length : Int) := of_decide_eq_true (by first | (with_reducible assumption) | assumption)
       obtain ⟨ad299, e299, hx299_0⟩ := Kd.at_int HR0.out x3_1 p299 q299
       obtain rfl : ad298 = ad299 := (by injection e299)
       replace p299 := eq_true p299
       replace q299 := eq_true q299
       go_wp2
       go_roundg k1
       case measure => have := HK1.out; omega
       case rel => exact ⟨(wrap64 (x3_1 + 1)), (by first | rfl | (simp; done) | (simp [*]; done)), H', ⟨by have := HK1.out; omega⟩, by repeat (first | exact Drawn0.refl _ | apply Drawn0.step)⟩
    ·
     rw [if_neg c3] at H
     exact absurd H (by simp)
   ·
    rw [if_neg c2] at H
    have c2b0 : decide (x3_1 < (l0.length : Int)) = false := decide_eq_false c2
    clear c2
    by_cases c6 : (l0.length : Int) ≥ 1
    ·
     rw [if_pos c6] at H
     have c6b0 : decide (1 ≤ (l0.length : Int)) = true := decide_eq_true c6
     have c6b1 : decide (1 ≤ l0.length) = true := decide_eq_true (by omega)
     clear c6
     obtain rfl := Option.some.inj H
     go_wp2
     go_ret
     exact ⟨by first | rfl | (simp; done) | (simp [*]; done), by repeat (first | exact Drawn0.refl _ | apply Drawn0.step)⟩
    ·
     rw [if_neg c6] at H
     have c6b0 : decide (1 ≤ (l0.length : Int)) = false := decide_eq_false c6
     have c6b1 : decide (1 ≤ l0.length) = false := decide_eq_false (by omega)
     clear c6
     obtain rfl := Option.some.inj H
     go_wp2
     go_ret
     exact ⟨by first | rfl | (simp; done) | (simp [*]; done), by repeat (first | exact Drawn0.refl _ | apply Drawn0.step)⟩
def taliklaw04_part.f (a0_0 : Int) (a0_1 : Int) (a1 : Int) : Option (Int) := some (wrap64 (a0_0 + (wrap64 (Int.tdiv (wrap64 ((wrap64 (a0_1 - a0_0)) * a1)) 100))))
theorem taliklaw04_part.calls (a0_0 : Int) (a0_1 : Int) (a1 : Int) (r : Int) (w : World) (h : taliklaw04_part.f a0_0 a0_1 a1 = some r) :
  Calls Try.prog 34 #[.agg #[.int .i64 a0_0, .int .i64 a0_1], .int .i64 a1] w fun e w' => e = .returned (.int .i64 r) ∧ Below w.heap.size w w' := by
 have hu37 := Try.underlying37
 have HB := qab.mk (Below.refl w.heap.size w)
 have H : (some (wrap64 (a0_0 + (wrap64 (Int.tdiv (wrap64 ((wrap64 (a0_1 - a0_0)) * a1)) 100))))) = some r := h
 clear h
 obtain rfl := Option.some.inj H
 go_enter Try.func34, Try.ntmps34
 go_wp2_with (first | ((with_reducible refine qan (N := 2) rfl ?_); refine qam ?hg (N := 2) ?hd (cs := #[.int .i64 a0_0, .int .i64 a0_1]) (t := 37) ?hr ?_; (case hd => rfl); (case hg => rfl); (case hr => first | (go_simp; done) | (go_simp; rfl)); intro gb300 hg w3 hbox hb; have n0_ := qab.mk (qad (by repeat (first | (with_reducible first | exact HB.out | apply qaf | apply qae | apply qah) | exact HB.out)) hb); have n1_ := qab.mk (hbox); have n2_ := qab.mk ((by rw [hg]; exact (qao (by repeat (first | (with_reducible first | exact HB.out | apply qaf | apply qae | apply qah) | exact HB.out))) : w.heap.size ≤ gb300)); have n3_ := qab.mk ((by rw [hg]; exact (qao (by repeat (first | (with_reducible first | exact HB.out | apply qaf | apply qae | apply qah) | exact HB.out))) : w.heap.size ≤ gb300)); clear HB; have HB := n0_; have BK300 := n1_; have GW300 := n2_; have GE300 := n3_; clear n0_ n1_ n2_ n3_; clear hb hbox hg; have hcz4_0 : w3.cell? ⟨gb300, 0, none⟩ = some (.int .i64 a0_0) := (qaa BK300.out 0).trans rfl; have hcz4_1 : w3.cell? ⟨gb300, 1, none⟩ = some (.int .i64 a0_1) := (qaa BK300.out 1).trans rfl; have hfz4_0 := qac BK300.out 0; have hfz4_1 := qac BK300.out 1))
 go_ret
 exact ⟨by first | rfl | (simp [errW_none, errW_some] <;> rfl) | (simp [*, errW_none, errW_some] <;> rfl), by repeat (first | (with_reducible first | exact HB.out | apply qaf | apply qae | apply qah | refine qai ?_ GE300.out) | exact HB.out)⟩
def taliklaw04_truth.l0 : Nat → Int → Int → List Int → List (S44) → Int → List (S39) → List (S37) → List (List Int) → Option ((List (S44)))
 | 0, _, _, _, _, _, _, _, _ => none
 | k + 1, x1, x2, x3, x9, x10, x302000, x302001, x302002 => if x10 < x2 then (if 0 ≤ x1 then (if x1 < (x302000.length : Int) then (if (x3.length : Int) = 0 then (none) else (if 0 ≤ (Int.tmod (wrap64 ((wrap64 (2 * x10)) + 1)) (x3.length : Int)) then (if (Int.tmod (wrap64 ((wrap64 (2 * x10)) + 1)) (x3.length : Int)) < (x3.length : Int) then ((taliklaw04_part.f ((qaj x302000 x1).f1.f0) ((qaj x302000 x1).f1.f1) (rd x3 (Int.tmod (wrap64 ((wrap64 (2 * x10)) + 1)) (x3.length : Int)))).bind fun t304 => (if 0 ≤ x10 then (if x10 < (x302001.length : Int) then (if 0 ≤ (Int.tmod (wrap64 ((wrap64 (2 * x10)) + 2)) (x3.length : Int)) then (if (Int.tmod (wrap64 ((wrap64 (2 * x10)) + 2)) (x3.length : Int)) < (x3.length : Int) then ((taliklaw04_part.f ((rd_T37 x302001 x10).f0) ((rd_T37 x302001 x10).f1) (rd x3 (Int.tmod (wrap64 ((wrap64 (2 * x10)) + 2)) (x3.length : Int)))).bind fun t307 => (if x9.length < 5864062014805 then (taliklaw04_truth.l0 k x1 x2 x3 (x9 ++ [(⟨t304, t307, false⟩ : S44)]) (wrap64 (x10 + 1)) x302000 x302001 x302002) else (none))) else (none)) else (none)) else (none)) else (none))) else (none)) else (none))) else (none)) else (none)) else (some x9)
def taliklaw04_truth.f (k : Nat) (l0_0 : List (S39)) (l0_1 : List (S37)) (l0_2 : List (List Int)) (a1 : Int) (a2 : Int) (l3 : List Int) : Option ((List (S44))) := taliklaw04_truth.l0 k a1 a2 l3 ([] : List (S44)) 0 l0_0 l0_1 l0_2
def taliklaw04_truth.T5 : Bool × List (List Nat × List Nat) := (true, [([], []), ([], []), ([1], [1]), ([], []), ([2, 3], [2, 3]), ([4], [4]), ([5], [5]), ([], []), ([], []), ([8], [8]), ([9], [9]), ([], []), ([11], [11]), ([10, 12], [10, 12]), ([7, 13], [7, 13]), ([14], [14]), ([6, 15], [6, 15]), ([], []), ([17], [17]), ([], []), ([18, 19], [18, 19]), ([20], [20]), ([], []), ([], []), ([23], [23]), ([24], [24]), ([], []), ([26], [26]), ([25, 27], [25, 27]), ([22, 28], [22, 28]), ([29], [29]), ([21, 30, 16], [21, 30]), ([16, 31], [16, 31]), ([32], [32]), ([0, 33, 31], [0, 33]), ([34, 34, 0, 1, 2, 3, 4, 5, 6, 7, 8, 9, 10, 11, 12, 13, 14, 15, 16, 17, 18, 19, 20, 21, 22, 23, 24, 25, 26, 27, 28, 29, 30, 31, 32, 33, 34], [0, 34])])
def taliklaw04_truth.B5 : List Nat := [0, 0, 2, 0, 14, 30, 62, 0, 0, 256, 768, 0, 2048, 7936, 16256, 32640, 65534, 0, 131072, 0, 917504, 1966080, 0, 0, 8388608, 25165824, 0, 67108864, 260046848, 532676608, 1069547520, 2147483646, 4294967294, 8589934590, 17179869183, 34359738367]
theorem taliklaw04_truth.tab5 : rtab .any (opsOf Try.f35 5) = taliklaw04_truth.T5 := by kernel_rfl
theorem taliklaw04_truth.bits5 : waitsOk taliklaw04_truth.T5.2 taliklaw04_truth.B5 = true := by kernel_rfl
theorem taliklaw04_truth.calls (k : Nat) (A0_0 : Option Addr) (c0_0 : Nat) (l0_0 : List (S39)) (A0_1 : Option Addr) (c0_1 : Nat) (l0_1 : List (S37)) (A0_2 : Option Addr) (c0_2 : Nat) (l0_2 : List (List Int)) (a1 : Int) (a2 : Int) (A3 : Option Addr) (c3 : Nat) (l3 : List Int) (r : List (S44)) (w : World) (hr0_0 : Kd.C k39 w A0_0 l0_0.length l0_0) (hc0_0 : l0_0.length ≤ c0_0) (hr0_1 : Kd.C k37 w A0_1 l0_1.length l0_1) (hc0_1 : l0_1.length ≤ c0_1) (hr0_2 : Kd.C (Kd.slice 3 (Kd.int .i64)) w A0_2 l0_2.length l0_2) (hc0_2 : l0_2.length ≤ c0_2) (hr3 : Kd.C (Kd.int .i64) w A3 l3.length l3) (hc3 : l3.length ≤ c3) (h : taliklaw04_truth.f k l0_0 l0_1 l0_2 a1 a2 l3 = some r) :
  Calls Try.prog 35 #[.agg #[.slice A0_0 l0_0.length c0_0, .slice A0_1 l0_1.length c0_1, .slice A0_2 l0_2.length c0_2], .int .i64 a1, .int .i64 a2, .slice A3 l3.length c3] w fun e w' => ∃ v0_ : Value, e = .returned (v0_) ∧ Kd.R k44 44 w' w.heap.size (fun _ => True) v0_ r ∧ Below w.heap.size w w' := by
 have hu26 := Try.underlying26
 have hu37 := Try.underlying37
 have hu44 := Try.underlying44
 have HR0_0 := qab.mk hr0_0
 have HC0_0 := qab.mk hc0_0
 clear hr0_0 hc0_0
 have HR0_1 := qab.mk hr0_1
 have HC0_1 := qab.mk hc0_1
 clear hr0_1 hc0_1
 have HR0_2 := qab.mk hr0_2
 have HC0_2 := qab.mk hc0_2
 clear hr0_2 hc0_2
 have HR3 := qab.mk hr3
 have HC3 := qab.mk hc3
 clear hr3 hc3
 have HB := qab.mk (Below.refl w.heap.size w)
 have H : (taliklaw04_truth.l0 k a1 a2 l3 ([] : List (S44)) 0 l0_0 l0_1 l0_2) = some r := h
 clear h
 have H' := qab.mk H
 clear H
 go_enter Try.func35, Try.ntmps35
 go_wp2_with (first | ((with_reducible refine qan (N := 4) rfl ?_); refine qam ?hg (N := 4) ?hd (cs := #[.slice A0_0 l0_0.length c0_0, .slice A0_1 l0_1.length c0_1, .slice A0_2 l0_2.length c0_2]) (t := 26) ?hr ?_; (case hd => rfl); (case hg => rfl); (case hr => first | (go_simp; done) | (go_simp; rfl)); intro gb301 hg w5 hbox hb; have n0_ := qab.mk (qad (by repeat (first | (with_reducible first | exact HB.out | apply qaf | apply qae | apply qah) | exact HB.out)) hb); have n1_ := qab.mk (hbox); have n2_ := qab.mk ((by rw [hg]; exact (qao (by repeat (first | (with_reducible first | exact HB.out | apply qaf | apply qae | apply qah) | exact HB.out))) : w.heap.size ≤ gb301)); have n3_ := qab.mk ((by rw [hg]; exact (qao (by repeat (first | (with_reducible first | exact HB.out | apply qaf | apply qae | apply qah) | exact HB.out))) : w.heap.size ≤ gb301)); clear HB; have HB := n0_; have BK301 := n1_; have GW301 := n2_; have GE301 := n3_; clear n0_ n1_ n2_ n3_; clear hb hbox hg))
 go_loopg [9, 10] k (fun kq v9 v10 w' => ∃ (x9_1 : List (S44)) (x10_1 : Int), v10 = .int .i64 x10_1 ∧ qab (taliklaw04_truth.l0 kq a1 a2 l3 x9_1 x10_1 l0_0 l0_1 l0_2 = some r) ∧ qab (kq ≤ k) ∧ qab (Kd.R k44 44 w' w.heap.size (fun _ => True) v9 x9_1) ∧ qab (w'.heap[gb301]? = some (.cells #[(.slice A0_0 l0_0.length c0_0), (.slice A0_1 l0_1.length c0_1), (.slice A0_2 l0_2.length c0_2)] 26 (0, 0))) ∧ qab (Below w.heap.size w w'))
 case atStart => exact ⟨(([] : List (S44))), (0), (by first | rfl | (simp; done) | (simp [*]; done)), H', ⟨Nat.le_refl _⟩, ⟨by first | exact Kd.R_nil _ _ _ _ _ | exact Kd.N_nil _ _ _ _ _ | exact Kd.V_nil _ _ _ _ _ | exact Kd.Q_nil _ _ _ _ _ | exact Kd.S_nil _ _ _ _ _⟩, ⟨by (with_reducible repeat (first | refine qaq ?_ _ | refine qar ?_ | refine qak ?_ _)); exact BK301.out⟩, ⟨by repeat (first | (with_reducible first | exact HB.out | apply qaf | apply qae | apply qah | refine qai ?_ GE301.out) | exact HB.out)⟩⟩
 case round =>
  clear H'
  try clear p2
  try clear c3
  obtain ⟨x9_1, x10_1, rfl, HA, HK1, HO_9, BK301, HB⟩ := hrel
  cases gk with
  | zero => exact absurd HA.out (by simp [taliklaw04_truth.l0])
  | succ k1 =>
   have H := HA.out
   clear HA
   simp only [taliklaw04_truth.l0] at H
   by_cases c6 : x10_1 < a2
   ·
    rw [if_pos c6] at H
    have c6b0 : decide (x10_1 < a2) = true := decide_eq_true c6
    clear c6
    by_cases c7 : 0 ≤ a1
    ·
     rw [if_pos c7] at H
     have c7b0 : decide (0 ≤ a1) = true := decide_eq_true c7
     clear c7
     by_cases c8 : a1 < (l0_0.length : Int)
     ·
      rw [if_pos c8] at H
      have c8b0 : decide (a1 < (l0_0.length : Int)) = true := decide_eq_true c8
      clear c8
      by_cases c9 : (l3.length : Int) = 0
      ·
       rw [if_pos c9] at H
       exact absurd H (by simp)
      ·
       rw [if_neg c9] at H
       have c9b0 : ((l3.length : Int) == 0) = false := beq_eq_false_iff_ne.mpr c9
       have c9b1 : ((l3.length : Int) != 0) = true := bne_iff_ne.mpr c9
       have c9b2 : ¬ (l3 = []) := fun h_ => c9 (by rw [h_]; rfl)
       obtain ⟨ji10, hji10⟩ : ∃ j_ : Int, (Int.tmod (wrap64 ((wrap64 (2 * x10_1)) + 1)) (l3.length : Int)) = j_ := ⟨_, rfl⟩
       replace H : (if 0 ≤ (ji10) then (if (ji10) < (l3.length : Int) then ((taliklaw04_part.f ((qaj l0_0 a1).f1.f0) ((qaj l0_0 a1).f1.f1) (rd l3 (ji10))).bind fun t304 => (if 0 ≤ x10_1 then (if x10_1 < (l0_1.length : Int) then (if 0 ≤ (Int.tmod (wrap64 ((wrap64 (2 * x10_1)) + 2)) (l3.length : Int)) then (if (Int.tmod (wrap64 ((wrap64 (2 * x10_1)) + 2)) (l3.length : Int)) < (l3.length : Int) then ((taliklaw04_part.f ((rd_T37 l0_1 x10_1).f0) ((rd_T37 l0_1 x10_1).f1) (rd l3 (Int.tmod (wrap64 ((wrap64 (2 * x10_1)) + 2)) (l3.length : Int)))).bind fun t307 => (if x9_1.length < 5864062014805 then (taliklaw04_truth.l0 k1 a1 a2 l3 (x9_1 ++ [(⟨t304, t307, false⟩ : S44)]) (wrap64 (x10_1 + 1)) l0_0 l0_1 l0_2) else (none))) else (none)) else (none)) else (none)) else (none))) else (none)) else (none)) = some r := by first | (rw [hji10] at H; exact H) | (simp only [hji10] at H ⊢; exact H)
       by_cases c11 : 0 ≤ (ji10)
       ·
        rw [if_pos c11] at H
        have c11b0 : decide (0 ≤ (ji10)) = true := decide_eq_true c11
        clear c11
        by_cases c12 : (ji10) < (l3.length : Int)
        ·
         rw [if_pos c12] at H
         have c12b0 : decide ((ji10) < (l3.length : Int)) = true := decide_eq_true c12
         clear c12
         replace H := Option.bind_eq_some_iff.mp H
         obtain ⟨t304, A130, H⟩ := H
         replace H : (if 0 ≤ x10_1 then (if x10_1 < (l0_1.length : Int) then (if 0 ≤ (Int.tmod (wrap64 ((wrap64 (2 * x10_1)) + 2)) (l3.length : Int)) then (if (Int.tmod (wrap64 ((wrap64 (2 * x10_1)) + 2)) (l3.length : Int)) < (l3.length : Int) then ((taliklaw04_part.f ((rd_T37 l0_1 x10_1).f0) ((rd_T37 l0_1 x10_1).f1) (rd l3 (Int.tmod (wrap64 ((wrap64 (2 * x10_1)) + 2)) (l3.length : Int)))).bind fun t307 => (if x9_1.length < 5864062014805 then (taliklaw04_truth.l0 k1 a1 a2 l3 (x9_1 ++ [(⟨t304, t307, false⟩ : S44)]) (wrap64 (x10_1 + 1)) l0_0 l0_1 l0_2) else (none))) else (none)) else (none)) else (none)) else (none)) = some r := H
         have A13 := qab.mk A130
         clear A130
         by_cases c14 : 0 ≤ x10_1
         ·
          rw [if_pos c14] at H
          have c14b0 : decide (0 ≤ x10_1) = true := decide_eq_true c14
          clear c14
          by_cases c15 : x10_1 < (l0_1.length : Int)
          ·
           rw [if_pos c15] at H
           have c15b0 : decide (x10_1 < (l0_1.length : Int)) = true := decide_eq_true c15
           clear c15
           obtain ⟨ji16, hji16⟩ : ∃ j_ : Int, (Int.tmod (wrap64 ((wrap64 (2 * x10_1)) + 2)) (l3.length : Int)) = j_ := ⟨_, rfl⟩
           replace H : (if 0 ≤ (ji16) then (if (ji16) < (l3.length : Int) then ((taliklaw04_part.f ((rd_T37 l0_1 x10_1).f0) ((rd_T37 l0_1 x10_1).f1) (rd l3 (ji16))).bind fun t307 => (if x9_1.length < 5864062014805 then (taliklaw04_truth.l0 k1 a1 a2 l3 (x9_1 ++ [(⟨t304, t307, false⟩ : S44)]) (wrap64 (x10_1 + 1)) l0_0 l0_1 l0_2) else (none))) else (none)) else (none)) = some r := by first | (rw [hji16] at H; exact H) | (simp only [hji16] at H ⊢; exact H)
           (try rw [hji16] at A13)
           by_cases c17 : 0 ≤ (ji16)
           ·
            rw [if_pos c17] at H
            have c17b0 : decide (0 ≤ (ji16)) = true := decide_eq_true c17
            clear c17
            by_cases c18 : (ji16) < (l3.length : Int)
            ·
             rw [if_pos c18] at H
             have c18b0 : decide ((ji16) < (l3.length : Int)) = true := decide_eq_true c18
             clear c18
             replace H := Option.bind_eq_some_iff.mp H
             obtain ⟨t307, A190, H⟩ := H
             replace H : (if x9_1.length < 5864062014805 then (taliklaw04_truth.l0 k1 a1 a2 l3 (x9_1 ++ [(⟨t304, t307, false⟩ : S44)]) (wrap64 (x10_1 + 1)) l0_0 l0_1 l0_2) else (none)) = some r := H
             have A19 := qab.mk A190
             clear A190
             by_cases c20 : x9_1.length < 5864062014805
             ·
              rw [if_pos c20] at H
              have LMc20 := qab.mk c20
              clear c20
              obtain ⟨y308, hy308⟩ : ∃ y_ : List (S44), y_ = (x9_1 ++ [(⟨t304, t307, false⟩ : S44)]) := ⟨_, rfl⟩
              replace H : (taliklaw04_truth.l0 k1 a1 a2 l3 y308 (wrap64 (x10_1 + 1)) l0_0 l0_1 l0_2) = some r := by first | (rw [hy308]; with_reducible exact H) | (have H2_ := (Option.bind_some _ _).symm.trans H; rw [hy308]; with_reducible exact H2_) | (have H2_ := (Option.bind_some _ _).symm.trans H; with_reducible exact H2_) | with_reducible exact H | (rw [hy308]; exact H) | exact H
              have Ny308 := qab.mk hy308
              clear hy308
              have H' := qab.mk H
              clear H
              try go_wp2
              have n0_ := qab.mk (Kd.R_drew HO_9.out)
              have n1_ := qab.mk (qar BK301.out)
              have n2_ := qab.mk (qah HB.out)
              clear HO_9
              clear BK301
              clear HB
              have HO_9 := n0_
              have BK301 := n1_
              have HB := n2_
              clear n0_ n1_ n2_
              have p302 : 0 ≤ (a1 : Int) := of_decide_eq_true (by first | (with_reducible assumption) | assumption)
              have q302 : a1 < (l0_0.length : Int) := of_decide_eq_true (by first | (with_reducible assumption) | assumption)
              obtain ⟨ad302, e302, hx302_0, hx302_1, hx302_2, hx302_3, hx302_4, hx302_5, hx302_6, hx302_7, hx302_8, hx302_9, hx302_10, hx302_11⟩ := at_T39 HR0_0.out a1 p302 q302
              have hw302_11 := hx302_11
              have hw302_10 := hx302_10
              have hw302_9 := hx302_9
              have hw302_8 := hx302_8
              have hw302_7 := hx302_7
              have hw302_6 := hx302_6
              have hw302_5 := hx302_5
              have hw302_4 := hx302_4
              have hw302_3 := hx302_3
              have hw302_2 := hx302_2
              have hw302_1 := hx302_1
              have hw302_0 := hx302_0
              cases e302
              replace hx302_0 := (HB.out.cell (World.block_lt_of_cell? w _ hx302_0)).trans hx302_0
              replace hx302_1 := (HB.out.cell (World.block_lt_of_cell? w _ hx302_1)).trans hx302_1
              replace hx302_2 := (HB.out.cell (World.block_lt_of_cell? w _ hx302_2)).trans hx302_2
              replace hx302_3 := (HB.out.cell (World.block_lt_of_cell? w _ hx302_3)).trans hx302_3
              replace hx302_4 := (HB.out.cell (World.block_lt_of_cell? w _ hx302_4)).trans hx302_4
              replace hx302_5 := (HB.out.cell (World.block_lt_of_cell? w _ hx302_5)).trans hx302_5
              replace hx302_6 := (HB.out.cell (World.block_lt_of_cell? w _ hx302_6)).trans hx302_6
              replace hx302_7 := (HB.out.cell (World.block_lt_of_cell? w _ hx302_7)).trans hx302_7
              replace hx302_8 := (HB.out.cell (World.block_lt_of_cell? w _ hx302_8)).trans hx302_8
              replace hx302_9 := (HB.out.cell (World.block_lt_of_cell? w _ hx302_9)).trans hx302_9
              replace hx302_10 := (HB.out.cell (World.block_lt_of_cell? w _ hx302_10)).trans hx302_10
              replace hx302_11 := (HB.out.cell (World.block_lt_of_cell? w _ hx302_11)).trans hx302_11
              replace p302 := eq_true p302
              replace q302 := eq_true q302
              have p303 : 0 ≤ ((ji10) : Int) := of_decide_eq_true (by first | (with_reducible assumption) | assumption)
              have q303 : (ji10) < (l3.length : Int) := of_decide_eq_true (by first | (with_reducible assumption) | assumption)
              obtain ⟨ad303, e303, hx303_0⟩ := Kd.at_int HR3.out (ji10) p303 q303
              have hw303_0 := hx303_0
              cases e303
              replace hx303_0 := (HB.out.cell (World.block_lt_of_cell? w _ hx303_0)).trans hx303_0
              replace p303 := eq_true p303
              replace q303 := eq_true q303
              have p305 : 0 ≤ (x10_1 : Int) := of_decide_eq_true (by first | (with_reducible assumption) | assumption)
              have q305 : x10_1 < (l0_1.length : Int) := of_decide_eq_true (by first | (with_reducible assumption) | assumption)
              obtain ⟨ad305, e305, hx305_0, hx305_1⟩ := at_T37 HR0_1.out x10_1 p305 q305
              have hw305_1 := hx305_1
              have hw305_0 := hx305_0
              cases e305
              replace hx305_0 := (HB.out.cell (World.block_lt_of_cell? w _ hx305_0)).trans hx305_0
              replace hx305_1 := (HB.out.cell (World.block_lt_of_cell? w _ hx305_1)).trans hx305_1
              replace p305 := eq_true p305
              replace q305 := eq_true q305
              have p306 : 0 ≤ ((ji16) : Int) := of_decide_eq_true (by first | (with_reducible assumption) | assumption)
              have q306 : (ji16) < (l3.length : Int) := of_decide_eq_true (by first | (with_reducible assumption) | assumption)
              obtain ⟨ad306, e306, hx306_0⟩ := Kd.at_int HR3.out (ji16) p306 q306
              have hw306_0 := hx306_0
              obtain rfl : ad303 = ad306 := (by injection e306)
              replace hx306_0 := (HB.out.cell (World.block_lt_of_cell? w _ hx306_0)).trans hx306_0
              replace p306 := eq_true p306
              replace q306 := eq_true q306
              refine start_ (n := 36) (S := fun w' => w'.cell? ⟨gb301, 0, none⟩ = some (.slice (some ad302) l0_0.length c0_0) ∧ w'.cell? ⟨gb301, 1, none⟩ = some (.slice (some ad305) l0_1.length c0_1) ∧ w'.cell? ⟨gb301, 2, none⟩ = some (.slice A0_2 l0_2.length c0_2) ∧ w'.cell? (ad302.add ((a1).toNat * 12)) = some (.int .i64 ((qaj l0_0 a1).f0.f0)) ∧ w'.cell? ⟨(ad302.add ((a1).toNat * 12)).block, (ad302.add ((a1).toNat * 12)).off + 1, none⟩ = some (.int .i64 ((qaj l0_0 a1).f0.f1)) ∧ w'.cell? ⟨(ad302.add ((a1).toNat * 12)).block, (ad302.add ((a1).toNat * 12)).off + 2, none⟩ = some (.int .i64 ((qaj l0_0 a1).f1.f0)) ∧ w'.cell? ⟨(ad302.add ((a1).toNat * 12)).block, (ad302.add ((a1).toNat * 12)).off + 3, none⟩ = some (.int .i64 ((qaj l0_0 a1).f1.f1)) ∧ w'.cell? ⟨(ad302.add ((a1).toNat * 12)).block, (ad302.add ((a1).toNat * 12)).off + 4, none⟩ = some (.int .i64 ((qaj l0_0 a1).f2.f0)) ∧ w'.cell? ⟨(ad302.add ((a1).toNat * 12)).block, (ad302.add ((a1).toNat * 12)).off + 5, none⟩ = some (.int .i64 ((qaj l0_0 a1).f2.f1)) ∧ w'.cell? ⟨(ad302.add ((a1).toNat * 12)).block, (ad302.add ((a1).toNat * 12)).off + 6, none⟩ = some (.int .i64 ((qaj l0_0 a1).f3)) ∧ w'.cell? ⟨(ad302.add ((a1).toNat * 12)).block, (ad302.add ((a1).toNat * 12)).off + 7, none⟩ = some (.int .i64 ((qaj l0_0 a1).f4)) ∧ w'.cell? ⟨(ad302.add ((a1).toNat * 12)).block, (ad302.add ((a1).toNat * 12)).off + 8, none⟩ = some (.int .i64 ((qaj l0_0 a1).f5)) ∧ w'.cell? ⟨(ad302.add ((a1).toNat * 12)).block, (ad302.add ((a1).toNat * 12)).off + 9, none⟩ = some (.int .i64 ((qaj l0_0 a1).f6)) ∧ w'.cell? ⟨(ad302.add ((a1).toNat * 12)).block, (ad302.add ((a1).toNat * 12)).off + 10, none⟩ = some (.int .i64 ((qaj l0_0 a1).f7.f0)) ∧ w'.cell? ⟨(ad302.add ((a1).toNat * 12)).block, (ad302.add ((a1).toNat * 12)).off + 11, none⟩ = some (.int .i64 ((qaj l0_0 a1).f7.f1)) ∧ w'.cell? (ad303.add ((ji10)).toNat) = some (.int .i64 (rd l3 (ji10))) ∧ w'.cell? (ad305.add ((x10_1).toNat * 2)) = some (.int .i64 ((rd_T37 l0_1 x10_1).f0)) ∧ w'.cell? ⟨(ad305.add ((x10_1).toNat * 2)).block, (ad305.add ((x10_1).toNat * 2)).off + 1, none⟩ = some (.int .i64 ((rd_T37 l0_1 x10_1).f1)) ∧ w'.cell? (ad303.add ((ji16)).toNat) = some (.int .i64 (rd l3 (ji16)))) (ds := []) (msk 36 0) (by kernel_rfl) rfl rfl ⟨(qaa BK301.out 0).trans rfl, (qaa BK301.out 1).trans rfl, (qaa BK301.out 2).trans rfl, ((HB.out.cell (World.block_lt_of_cell? w _ hw302_0)).trans hw302_0), ((HB.out.cell (World.block_lt_of_cell? w _ hw302_1)).trans hw302_1), ((HB.out.cell (World.block_lt_of_cell? w _ hw302_2)).trans hw302_2), ((HB.out.cell (World.block_lt_of_cell? w _ hw302_3)).trans hw302_3), ((HB.out.cell (World.block_lt_of_cell? w _ hw302_4)).trans hw302_4), ((HB.out.cell (World.block_lt_of_cell? w _ hw302_5)).trans hw302_5), ((HB.out.cell (World.block_lt_of_cell? w _ hw302_6)).trans hw302_6), ((HB.out.cell (World.block_lt_of_cell? w _ hw302_7)).trans hw302_7), ((HB.out.cell (World.block_lt_of_cell? w _ hw302_8)).trans hw302_8), ((HB.out.cell (World.block_lt_of_cell? w _ hw302_9)).trans hw302_9), ((HB.out.cell (World.block_lt_of_cell? w _ hw302_10)).trans hw302_10), ((HB.out.cell (World.block_lt_of_cell? w _ hw302_11)).trans hw302_11), ((HB.out.cell (World.block_lt_of_cell? w _ hw303_0)).trans hw303_0), ((HB.out.cell (World.block_lt_of_cell? w _ hw305_0)).trans hw305_0), ((HB.out.cell (World.block_lt_of_cell? w _ hw305_1)).trans hw305_1), ((HB.out.cell (World.block_lt_of_cell? w _ hw306_0)).trans hw306_0)⟩ (fun hHeld => ?_); refine with_tabW taliklaw04_truth.tab5 taliklaw04_truth.bits5 (fun HT_ HW_ => ?_)
              generalize wr.drew = w21 at HO_9 BK301 HB hx302_0 hx302_1 hx302_10 hx302_11 hx302_2 hx302_3 hx302_4 hx302_5 hx302_6 hx302_7 hx302_8 hx302_9 hx303_0 hx305_0 hx305_1 hx306_0 hHeld ⊢
              refine pure_ (i := 0) (N := some 16) (v := ?_) (a' := ?_) (msk 36 1) rfl rfl (qau HT_.out (by kernel_rfl)) (fun _ _ _ h => h) (Or.inl ⟨by rfl, ?_⟩) ?_ ?_
              rotate_left
              ·
               intro w'
               go_simp
               with_reducible rfl
              rotate_left
              ·
               simp only [Act.put, qzA, qzB, qzC, i64_w, i32_w]
               rfl
              refine pure_ (i := 1) (N := some 17) (v := ?_) (a' := ?_) (msk 36 2) rfl rfl (qau HT_.out (by kernel_rfl)) (fun _ _ _ h => h) (Or.inl ⟨by rfl, ?_⟩) ?_ ?_
              rotate_left
              ·
               intro w'
               go_simp
               with_reducible rfl
              rotate_left
              ·
               simp only [Act.put, qzA, qzB, qzC, i64_w, i32_w]
               rfl
              refine pure_ (i := 3) (N := some 19) (v := ?_) (a' := ?_) #[true, true, false, true, false, false, false, false, false, false, false, false, false, false, false, false, false, false, false, false, false, false, false, false, false, false, false, false, false, false, false, false, false, false, false, false] rfl rfl (qau HT_.out (by kernel_rfl)) (fun _ _ _ h => h) (Or.inl ⟨by rfl, ?_⟩) ?_ ?_
              rotate_left
              ·
               intro w'
               go_simp
               with_reducible rfl
              rotate_left
              ·
               simp only [Act.put, qzA, qzB, qzC, i64_w, i32_w]
               rfl
              refine pure_ (i := 7) (N := some 23) (v := ?_) (a' := ?_) #[true, true, false, true, false, false, false, true, false, false, false, false, false, false, false, false, false, false, false, false, false, false, false, false, false, false, false, false, false, false, false, false, false, false, false, false] rfl rfl (qau HT_.out (by kernel_rfl)) (fun _ _ _ h => h) (Or.inl ⟨by rfl, ?_⟩) ?_ ?_
              rotate_left
              ·
               intro w'
               go_simp
               with_reducible rfl
              rotate_left
              ·
               simp only [Act.put, qzA, qzB, qzC, i64_w, i32_w]
               rfl
              refine pure_ (i := 8) (N := some 24) (v := ?_) (a' := ?_) #[true, true, false, true, false, false, false, true, true, false, false, false, false, false, false, false, false, false, false, false, false, false, false, false, false, false, false, false, false, false, false, false, false, false, false, false] rfl rfl (qau HT_.out (by kernel_rfl)) (fun _ _ _ h => h) (Or.inl ⟨by rfl, ?_⟩) ?_ ?_
              rotate_left
              ·
               intro w'
               go_simp
               with_reducible rfl
              rotate_left
              ·
               simp only [Act.put, qzA, qzB, qzC, i64_w, i32_w]
               rfl
              refine pure_ (i := 9) (N := some 25) (v := ?_) (a' := ?_) #[true, true, false, true, false, false, false, true, true, true, false, false, false, false, false, false, false, false, false, false, false, false, false, false, false, false, false, false, false, false, false, false, false, false, false, false] rfl rfl (qau HT_.out (by kernel_rfl)) (fun _ _ _ h => h) (Or.inl ⟨by rfl, ?_⟩) ?_ ?_
              rotate_left
              ·
               intro w'
               go_simp
               with_reducible rfl
              rotate_left
              ·
               simp only [Act.put, qzA, qzB, qzC, i64_w, i32_w]
               rfl
              refine pure_ (i := 10) (N := some 26) (v := ?_) (a' := ?_) #[true, true, false, true, false, false, false, true, true, true, true, false, false, false, false, false, false, false, false, false, false, false, false, false, false, false, false, false, false, false, false, false, false, false, false, false] rfl rfl (qau HT_.out (by kernel_rfl)) (fun _ _ _ h => h) (Or.inl ⟨by rfl, ?_⟩) ?_ ?_
              rotate_left
              ·
               intro w'
               go_simp
               with_reducible rfl
              rotate_left
              ·
               simp only [Act.put, qzA, qzB, qzC, i64_w, i32_w]
               rfl
              refine pure_ (i := 11) (N := some 27) (v := ?_) (a' := ?_) #[true, true, false, true, false, false, false, true, true, true, true, true, false, false, false, false, false, false, false, false, false, false, false, false, false, false, false, false, false, false, false, false, false, false, false, false] rfl rfl (qau HT_.out (by kernel_rfl)) (fun _ _ _ h => h) (Or.inl ⟨by rfl, ?_⟩) ?_ ?_
              rotate_left
              ·
               intro w'
               go_simp
               with_reducible rfl
              rotate_left
              ·
               simp only [Act.put, qzA, qzB, qzC, i64_w, i32_w]
               rfl
              refine pure_ (i := 12) (N := some 28) (v := ?_) (a' := ?_) #[true, true, false, true, false, false, false, true, true, true, true, true, true, false, false, false, false, false, false, false, false, false, false, false, false, false, false, false, false, false, false, false, false, false, false, false] rfl rfl (qau HT_.out (by kernel_rfl)) (fun _ _ _ h => h) (Or.inl ⟨by rfl, ?_⟩) ?_ ?_
              rotate_left
              ·
               intro w'
               go_simp
               with_reducible rfl
              rotate_left
              ·
               simp only [Act.put, qzA, qzB, qzC, i64_w, i32_w]
               rfl
              refine pure_ (i := 13) (N := some 29) (v := ?_) (a' := ?_) #[true, true, false, true, false, false, false, true, true, true, true, true, true, true, false, false, false, false, false, false, false, false, false, false, false, false, false, false, false, false, false, false, false, false, false, false] rfl rfl (qau HT_.out (by kernel_rfl)) (fun _ _ _ h => h) (Or.inl ⟨by rfl, ?_⟩) ?_ ?_
              rotate_left
              ·
               intro w'
               go_simp
               with_reducible rfl
              rotate_left
              ·
               simp only [Act.put, qzA, qzB, qzC, i64_w, i32_w]
               rfl
              refine pure_ (i := 14) (N := some 30) (v := ?_) (a' := ?_) #[true, true, false, true, false, false, false, true, true, true, true, true, true, true, true, false, false, false, false, false, false, false, false, false, false, false, false, false, false, false, false, false, false, false, false, false] rfl rfl (qau HT_.out (by kernel_rfl)) (fun _ _ _ h => h) (Or.inl ⟨by rfl, ?_⟩) ?_ ?_
              rotate_left
              ·
               intro w'
               go_simp
               with_reducible rfl
              rotate_left
              ·
               simp only [Act.put, qzA, qzB, qzC, i64_w, i32_w]
               rfl
              refine pure_ (i := 17) (N := some 33) (v := ?_) (a' := ?_) #[true, true, false, true, false, false, false, true, true, true, true, true, true, true, true, false, false, true, false, false, false, false, false, false, false, false, false, false, false, false, false, false, false, false, false, false] rfl rfl (qau HT_.out (by kernel_rfl)) (fun _ _ _ h => h) (Or.inl ⟨by rfl, ?_⟩) ?_ ?_
              rotate_left
              ·
               intro w'
               go_simp
               with_reducible rfl
              rotate_left
              ·
               simp only [Act.put, qzA, qzB, qzC, i64_w, i32_w]
               rfl
              refine pure_ (i := 19) (N := some 35) (v := ?_) (a' := ?_) #[true, true, false, true, false, false, false, true, true, true, true, true, true, true, true, false, false, true, false, true, false, false, false, false, false, false, false, false, false, false, false, false, false, false, false, false] rfl rfl (qau HT_.out (by kernel_rfl)) (fun _ _ _ h => h) (Or.inl ⟨by rfl, ?_⟩) ?_ ?_
              rotate_left
              ·
               intro w'
               go_simp
               with_reducible rfl
              rotate_left
              ·
               simp only [Act.put, qzA, qzB, qzC, i64_w, i32_w]
               rfl
              refine pure_ (i := 22) (N := some 38) (v := ?_) (a' := ?_) #[true, true, false, true, false, false, false, true, true, true, true, true, true, true, true, false, false, true, false, true, false, false, true, false, false, false, false, false, false, false, false, false, false, false, false, false] rfl rfl (qau HT_.out (by kernel_rfl)) (fun _ _ _ h => h) (Or.inl ⟨by rfl, ?_⟩) ?_ ?_
              rotate_left
              ·
               intro w'
               go_simp
               with_reducible rfl
              rotate_left
              ·
               simp only [Act.put, qzA, qzB, qzC, i64_w, i32_w]
               rfl
              refine pure_ (i := 23) (N := some 39) (v := ?_) (a' := ?_) #[true, true, false, true, false, false, false, true, true, true, true, true, true, true, true, false, false, true, false, true, false, false, true, true, false, false, false, false, false, false, false, false, false, false, false, false] rfl rfl (qau HT_.out (by kernel_rfl)) (fun _ _ _ h => h) (Or.inl ⟨by rfl, ?_⟩) ?_ ?_
              rotate_left
              ·
               intro w'
               go_simp
               with_reducible rfl
              rotate_left
              ·
               simp only [Act.put, qzA, qzB, qzC, i64_w, i32_w]
               rfl
              refine pure_ (i := 24) (N := some 40) (v := ?_) (a' := ?_) #[true, true, false, true, false, false, false, true, true, true, true, true, true, true, true, false, false, true, false, true, false, false, true, true, true, false, false, false, false, false, false, false, false, false, false, false] rfl rfl (qau HT_.out (by kernel_rfl)) (fun _ _ _ h => h) (Or.inl ⟨by rfl, ?_⟩) ?_ ?_
              rotate_left
              ·
               intro w'
               go_simp
               with_reducible rfl
              rotate_left
              ·
               simp only [Act.put, qzA, qzB, qzC, i64_w, i32_w]
               rfl
              refine pure_ (i := 25) (N := some 41) (v := ?_) (a' := ?_) #[true, true, false, true, false, false, false, true, true, true, true, true, true, true, true, false, false, true, false, true, false, false, true, true, true, true, false, false, false, false, false, false, false, false, false, false] rfl rfl (qau HT_.out (by kernel_rfl)) (fun _ _ _ h => h) (Or.inl ⟨by rfl, ?_⟩) ?_ ?_
              rotate_left
              ·
               intro w'
               go_simp
               with_reducible rfl
              rotate_left
              ·
               simp only [Act.put, qzA, qzB, qzC, i64_w, i32_w]
               rfl
              refine pure_ (i := 26) (N := some 42) (v := ?_) (a' := ?_) #[true, true, false, true, false, false, false, true, true, true, true, true, true, true, true, false, false, true, false, true, false, false, true, true, true, true, true, false, false, false, false, false, false, false, false, false] rfl rfl (qau HT_.out (by kernel_rfl)) (fun _ _ _ h => h) (Or.inl ⟨by rfl, ?_⟩) ?_ ?_
              rotate_left
              ·
               intro w'
               go_simp
               with_reducible rfl
              rotate_left
              ·
               simp only [Act.put, qzA, qzB, qzC, i64_w, i32_w]
               rfl
              refine pure_ (i := 27) (N := some 43) (v := ?_) (a' := ?_) #[true, true, false, true, false, false, false, true, true, true, true, true, true, true, true, false, false, true, false, true, false, false, true, true, true, true, true, true, false, false, false, false, false, false, false, false] rfl rfl (qau HT_.out (by kernel_rfl)) (fun _ _ _ h => h) (Or.inl ⟨by rfl, ?_⟩) ?_ ?_
              rotate_left
              ·
               intro w'
               go_simp
               with_reducible rfl
              rotate_left
              ·
               simp only [Act.put, qzA, qzB, qzC, i64_w, i32_w]
               rfl
              refine pure_ (i := 28) (N := some 44) (v := ?_) (a' := ?_) #[true, true, false, true, false, false, false, true, true, true, true, true, true, true, true, false, false, true, false, true, false, false, true, true, true, true, true, true, true, false, false, false, false, false, false, false] rfl rfl (qau HT_.out (by kernel_rfl)) (fun _ _ _ h => h) (Or.inl ⟨by rfl, ?_⟩) ?_ ?_
              rotate_left
              ·
               intro w'
               go_simp
               with_reducible rfl
              rotate_left
              ·
               simp only [Act.put, qzA, qzB, qzC, i64_w, i32_w]
               rfl
              refine pure_ (i := 29) (N := some 45) (v := ?_) (a' := ?_) #[true, true, false, true, false, false, false, true, true, true, true, true, true, true, true, false, false, true, false, true, false, false, true, true, true, true, true, true, true, true, false, false, false, false, false, false] rfl rfl (qau HT_.out (by kernel_rfl)) (fun _ _ _ h => h) (Or.inl ⟨by rfl, ?_⟩) ?_ ?_
              rotate_left
              ·
               intro w'
               go_simp
               with_reducible rfl
              rotate_left
              ·
               simp only [Act.put, qzA, qzB, qzC, i64_w, i32_w]
               rfl
              refine take_ (i := 2) (N := some 18) (v := ?_) (a' := ?_) #[true, true, true, true, false, false, false, true, true, true, true, true, true, true, true, false, false, true, false, true, false, false, true, true, true, true, true, true, true, true, false, false, false, false, false, false] rfl rfl (take_ofW HT_.out HW_.out (by kernel_rfl)) (fun _ _ _ h => h) (Or.inl ⟨by rfl, ?_⟩) hHeld ?_ ?_
              rotate_left
              ·
               rintro w' ⟨s0, s1, s2, s3, s4, s5, s6, s7, s8, s9, s10, s11, s12, s13, s14, s15, s16, s17, s18⟩
               go_simp
               with_reducible rfl
              rotate_left
              ·
               simp only [Act.put, qzA, qzB, qzC, i64_w, i32_w]
               rfl
              refine pure_ (i := 4) (N := some 20) (v := ?_) (a' := ?_) #[true, true, true, true, true, false, false, true, true, true, true, true, true, true, true, false, false, true, false, true, false, false, true, true, true, true, true, true, true, true, false, false, false, false, false, false] rfl rfl (qau HT_.out (by kernel_rfl)) (fun _ _ _ h => h) (Or.inl ⟨by rfl, ?_⟩) ?_ ?_
              rotate_left
              ·
               intro w'
               go_simp
               with_reducible rfl
              rotate_left
              ·
               simp only [Act.put, qzA, qzB, qzC, i64_w, i32_w]
               rfl
              refine pure_ (i := 5) (N := some 21) (v := ?_) (a' := ?_) #[true, true, true, true, true, true, false, true, true, true, true, true, true, true, true, false, false, true, false, true, false, false, true, true, true, true, true, true, true, true, false, false, false, false, false, false] rfl rfl (qau HT_.out (by kernel_rfl)) (fun _ _ _ h => h) (Or.inl ⟨by rfl, ?_⟩) ?_ ?_
              rotate_left
              ·
               intro w'
               go_simp
               with_reducible rfl
              rotate_left
              ·
               simp only [Act.put, qzA, qzB, qzC, i64_w, i32_w]
               rfl
              refine take_ (i := 6) (N := some 22) (v := ?_) (a' := ?_) #[true, true, true, true, true, true, true, true, true, true, true, true, true, true, true, false, false, true, false, true, false, false, true, true, true, true, true, true, true, true, false, false, false, false, false, false] rfl rfl (take_ofW HT_.out HW_.out (by kernel_rfl)) (fun _ _ _ h => h) (Or.inl ⟨by rfl, ?_⟩) hHeld ?_ ?_
              rotate_left
              ·
               rintro w' ⟨s0, s1, s2, s3, s4, s5, s6, s7, s8, s9, s10, s11, s12, s13, s14, s15, s16, s17, s18⟩
               go_simp
               with_reducible rfl
              rotate_left
              ·
               simp only [Act.put, qzA, qzB, qzC, i64_w, i32_w]
               rfl
              refine take_ (i := 15) (N := some 31) (v := ?_) (a' := ?_) #[true, true, true, true, true, true, true, true, true, true, true, true, true, true, true, true, false, true, false, true, false, false, true, true, true, true, true, true, true, true, false, false, false, false, false, false] rfl rfl (take_ofW HT_.out HW_.out (by kernel_rfl)) (fun _ _ _ h => h) (Or.inl ⟨by rfl, ?_⟩) hHeld ?_ ?_
              rotate_left
              ·
               rintro w' ⟨s0, s1, s2, s3, s4, s5, s6, s7, s8, s9, s10, s11, s12, s13, s14, s15, s16, s17, s18⟩
               go_simp
               with_reducible rfl
              rotate_left
              ·
               simp only [Act.put, qzA, qzB, qzC, i64_w, i32_w]
               rfl
              refine take_ (i := 18) (N := some 34) (v := ?_) (a' := ?_) #[true, true, true, true, true, true, true, true, true, true, true, true, true, true, true, true, false, true, true, true, false, false, true, true, true, true, true, true, true, true, false, false, false, false, false, false] rfl rfl (take_ofW HT_.out HW_.out (by kernel_rfl)) (fun _ _ _ h => h) (Or.inl ⟨by rfl, ?_⟩) hHeld ?_ ?_
              rotate_left
              ·
               rintro w' ⟨s0, s1, s2, s3, s4, s5, s6, s7, s8, s9, s10, s11, s12, s13, s14, s15, s16, s17, s18⟩
               go_simp
               with_reducible rfl
              rotate_left
              ·
               simp only [Act.put, qzA, qzB, qzC, i64_w, i32_w]
               rfl
              refine pure_ (i := 20) (N := some 36) (v := ?_) (a' := ?_) #[true, true, true, true, true, true, true, true, true, true, true, true, true, true, true, true, false, true, true, true, true, false, true, true, true, true, true, true, true, true, false, false, false, false, false, false] rfl rfl (qau HT_.out (by kernel_rfl)) (fun _ _ _ h => h) (Or.inl ⟨by rfl, ?_⟩) ?_ ?_
              rotate_left
              ·
               intro w'
               go_simp
               with_reducible rfl
              rotate_left
              ·
               simp only [Act.put, qzA, qzB, qzC, i64_w, i32_w]
               rfl
              refine take_ (i := 21) (N := some 37) (v := ?_) (a' := ?_) #[true, true, true, true, true, true, true, true, true, true, true, true, true, true, true, true, false, true, true, true, true, true, true, true, true, true, true, true, true, true, false, false, false, false, false, false] rfl rfl (take_ofW HT_.out HW_.out (by kernel_rfl)) (fun _ _ _ h => h) (Or.inl ⟨by rfl, ?_⟩) hHeld ?_ ?_
              rotate_left
              ·
               rintro w' ⟨s0, s1, s2, s3, s4, s5, s6, s7, s8, s9, s10, s11, s12, s13, s14, s15, s16, s17, s18⟩
               go_simp
               with_reducible rfl
              rotate_left
              ·
               simp only [Act.put, qzA, qzB, qzC, i64_w, i32_w]
               rfl
              refine take_ (i := 30) (N := some 46) (v := ?_) (a' := ?_) #[true, true, true, true, true, true, true, true, true, true, true, true, true, true, true, true, false, true, true, true, true, true, true, true, true, true, true, true, true, true, true, false, false, false, false, false] rfl rfl (take_ofW HT_.out HW_.out (by kernel_rfl)) (fun _ _ _ h => h) (Or.inl ⟨by rfl, ?_⟩) hHeld ?_ ?_
              rotate_left
              ·
               rintro w' ⟨s0, s1, s2, s3, s4, s5, s6, s7, s8, s9, s10, s11, s12, s13, s14, s15, s16, s17, s18⟩
               go_simp
               with_reducible rfl
              rotate_left
              ·
               simp only [Act.put, qzA, qzB, qzC, i64_w, i32_w]
               rfl
              refine one_ (i := 16) (N := some 32) (msk 36 31) rfl rfl (one_of HT_.out (by kernel_rfl)) (by decide) (fun K hK => ?_)
              refine goes_ Try.func34 (by kernel_rfl) rfl #[.agg #[.int .i64 ((qaj l0_0 a1).f1.f0), .int .i64 ((qaj l0_0 a1).f1.f1)], .int .i64 (rd l3 (ji10))] (by rfl) rfl rfl (by (try simp only [List.map_toArray, List.map_cons, List.map_nil]); first | done | (simp only [hji10]; rfl) | rfl | (simp only [List.length_drop, List.length_take]; rfl)) ?_
              with_reducible refine (taliklaw04_part.calls ((qaj l0_0 a1).f1.f0) ((qaj l0_0 a1).f1.f1) (rd l3 (ji10)) t304 _ A13.out).mono ?_
              rintro e w22 ⟨rfl, hb⟩
              refine ⟨_, rfl, ?_⟩
              have n0_ := qab.mk (Kd.R_below (by (with_reducible repeat (first | apply Kd.R_alloc | apply Kd.R_drewN | apply Kd.R_drew)); exact HO_9.out) hb)
              have n1_ := qab.mk (qag (g := gb301) (o := .cells #[.slice (some ad302) l0_0.length c0_0, .slice (some ad305) l0_1.length c0_1, .slice A0_2 l0_2.length c0_2] 26 (0, 0)) (by (with_reducible repeat (first | refine qaq ?_ _ | refine qar ?_ | refine qak ?_ _)); exact BK301.out) hb)
              have n2_ := qab.mk (qad (by repeat (first | (with_reducible first | exact HB.out | apply qaf | apply qae | apply qah | refine qai ?_ GE301.out) | exact HB.out)) hb)
              clear HO_9
              clear BK301
              clear HB
              have HO_9 := n0_
              have BK301 := n1_
              have HB := n2_
              clear n0_ n1_ n2_
              (try clear hb)
              (try clear hb2)
              (try clear hk)
              (try clear hi)
              refine hK.out _ _ ⟨(qaa BK301.out 0).trans rfl, (qaa BK301.out 1).trans rfl, (qaa BK301.out 2).trans rfl, ((HB.out.cell (World.block_lt_of_cell? w _ hw302_0)).trans hw302_0), ((HB.out.cell (World.block_lt_of_cell? w _ hw302_1)).trans hw302_1), ((HB.out.cell (World.block_lt_of_cell? w _ hw302_2)).trans hw302_2), ((HB.out.cell (World.block_lt_of_cell? w _ hw302_3)).trans hw302_3), ((HB.out.cell (World.block_lt_of_cell? w _ hw302_4)).trans hw302_4), ((HB.out.cell (World.block_lt_of_cell? w _ hw302_5)).trans hw302_5), ((HB.out.cell (World.block_lt_of_cell? w _ hw302_6)).trans hw302_6), ((HB.out.cell (World.block_lt_of_cell? w _ hw302_7)).trans hw302_7), ((HB.out.cell (World.block_lt_of_cell? w _ hw302_8)).trans hw302_8), ((HB.out.cell (World.block_lt_of_cell? w _ hw302_9)).trans hw302_9), ((HB.out.cell (World.block_lt_of_cell? w _ hw302_10)).trans hw302_10), ((HB.out.cell (World.block_lt_of_cell? w _ hw302_11)).trans hw302_11), ((HB.out.cell (World.block_lt_of_cell? w _ hw303_0)).trans hw303_0), ((HB.out.cell (World.block_lt_of_cell? w _ hw305_0)).trans hw305_0), ((HB.out.cell (World.block_lt_of_cell? w _ hw305_1)).trans hw305_1), ((HB.out.cell (World.block_lt_of_cell? w _ hw306_0)).trans hw306_0)⟩ (fun hHeld => ?_)
              clear hK K
              refine norm_ (a' := ?_) ?_ ?_
              rotate_left
              ·
               show Act.put _ (some 32) _ = _
               simp only [Act.put, qzA, qzB, qzC, i64_w, i32_w]
               rfl
              refine one_ (i := 31) (N := some 47) (msk 36 32) rfl rfl (one_of HT_.out (by kernel_rfl)) (by decide) (fun K hK => ?_)
              refine goes_ Try.func34 (by kernel_rfl) rfl #[.agg #[.int .i64 ((rd_T37 l0_1 x10_1).f0), .int .i64 ((rd_T37 l0_1 x10_1).f1)], .int .i64 (rd l3 (ji16))] (by rfl) rfl rfl (by (try simp only [List.map_toArray, List.map_cons, List.map_nil]); first | done | (simp only [hji16]; rfl) | rfl | (simp only [List.length_drop, List.length_take]; rfl)) ?_
              with_reducible refine (taliklaw04_part.calls ((rd_T37 l0_1 x10_1).f0) ((rd_T37 l0_1 x10_1).f1) (rd l3 (ji16)) t307 _ A19.out).mono ?_
              rintro e w23 ⟨rfl, hb⟩
              refine ⟨_, rfl, ?_⟩
              have n0_ := qab.mk (Kd.R_below (by (with_reducible repeat (first | apply Kd.R_alloc | apply Kd.R_drewN | apply Kd.R_drew)); exact HO_9.out) hb)
              have n1_ := qab.mk (qag (g := gb301) (o := .cells #[.slice (some ad302) l0_0.length c0_0, .slice (some ad305) l0_1.length c0_1, .slice A0_2 l0_2.length c0_2] 26 (0, 0)) (by (with_reducible repeat (first | refine qaq ?_ _ | refine qar ?_ | refine qak ?_ _)); exact BK301.out) hb)
              have n2_ := qab.mk (qad (by repeat (first | (with_reducible first | exact HB.out | apply qaf | apply qae | apply qah | refine qai ?_ GE301.out) | exact HB.out)) hb)
              clear HO_9
              clear BK301
              clear HB
              have HO_9 := n0_
              have BK301 := n1_
              have HB := n2_
              clear n0_ n1_ n2_
              (try clear hb)
              (try clear hb2)
              (try clear hk)
              (try clear hi)
              refine hK.out _ _ ⟨(qaa BK301.out 0).trans rfl, (qaa BK301.out 1).trans rfl, (qaa BK301.out 2).trans rfl, ((HB.out.cell (World.block_lt_of_cell? w _ hw302_0)).trans hw302_0), ((HB.out.cell (World.block_lt_of_cell? w _ hw302_1)).trans hw302_1), ((HB.out.cell (World.block_lt_of_cell? w _ hw302_2)).trans hw302_2), ((HB.out.cell (World.block_lt_of_cell? w _ hw302_3)).trans hw302_3), ((HB.out.cell (World.block_lt_of_cell? w _ hw302_4)).trans hw302_4), ((HB.out.cell (World.block_lt_of_cell? w _ hw302_5)).trans hw302_5), ((HB.out.cell (World.block_lt_of_cell? w _ hw302_6)).trans hw302_6), ((HB.out.cell (World.block_lt_of_cell? w _ hw302_7)).trans hw302_7), ((HB.out.cell (World.block_lt_of_cell? w _ hw302_8)).trans hw302_8), ((HB.out.cell (World.block_lt_of_cell? w _ hw302_9)).trans hw302_9), ((HB.out.cell (World.block_lt_of_cell? w _ hw302_10)).trans hw302_10), ((HB.out.cell (World.block_lt_of_cell? w _ hw302_11)).trans hw302_11), ((HB.out.cell (World.block_lt_of_cell? w _ hw303_0)).trans hw303_0), ((HB.out.cell (World.block_lt_of_cell? w _ hw305_0)).trans hw305_0), ((HB.out.cell (World.block_lt_of_cell? w _ hw305_1)).trans hw305_1), ((HB.out.cell (World.block_lt_of_cell? w _ hw306_0)).trans hw306_0)⟩ (fun hHeld => ?_)
              clear hK K
              refine norm_ (a' := ?_) ?_ ?_
              rotate_left
              ·
               show Act.put _ (some 47) _ = _
               simp only [Act.put, qzA, qzB, qzC, i64_w, i32_w]
               rfl
              refine pure_ (i := 32) (N := some 48) (v := ?_) (a' := ?_) (msk 36 33) rfl rfl (qau HT_.out (by kernel_rfl)) (fun _ _ _ h => h) (Or.inl ⟨by rfl, ?_⟩) ?_ ?_
              rotate_left
              ·
               intro w'
               go_simp
               with_reducible rfl
              rotate_left
              ·
               simp only [Act.put, qzA, qzB, qzC, i64_w, i32_w]
               rfl
              refine one_ (i := 33) (N := some 49) (msk 36 34) rfl rfl (one_of HT_.out (by kernel_rfl)) (by decide) (fun K hK => ?_)
              refine value_ (w1 := ?_) (v := ?_) (by rfl) rfl ?_ ?_
              rotate_left 2
              ·
               go_simp
               constructor
               ·
                rfl
               ·
                rfl
              refine hK.out _ _ ⟨(qaa (qak BK301.out _) 0).trans rfl, (qaa (qak BK301.out _) 1).trans rfl, (qaa (qak BK301.out _) 2).trans rfl, (World.cell?_alloc_lt _ _ _ (World.block_lt_of_cell? _ _ (((HB.out.cell (World.block_lt_of_cell? w _ hw302_0)).trans hw302_0)))).trans (((HB.out.cell (World.block_lt_of_cell? w _ hw302_0)).trans hw302_0)), (World.cell?_alloc_lt _ _ _ (World.block_lt_of_cell? _ _ (((HB.out.cell (World.block_lt_of_cell? w _ hw302_1)).trans hw302_1)))).trans (((HB.out.cell (World.block_lt_of_cell? w _ hw302_1)).trans hw302_1)), (World.cell?_alloc_lt _ _ _ (World.block_lt_of_cell? _ _ (((HB.out.cell (World.block_lt_of_cell? w _ hw302_2)).trans hw302_2)))).trans (((HB.out.cell (World.block_lt_of_cell? w _ hw302_2)).trans hw302_2)), (World.cell?_alloc_lt _ _ _ (World.block_lt_of_cell? _ _ (((HB.out.cell (World.block_lt_of_cell? w _ hw302_3)).trans hw302_3)))).trans (((HB.out.cell (World.block_lt_of_cell? w _ hw302_3)).trans hw302_3)), (World.cell?_alloc_lt _ _ _ (World.block_lt_of_cell? _ _ (((HB.out.cell (World.block_lt_of_cell? w _ hw302_4)).trans hw302_4)))).trans (((HB.out.cell (World.block_lt_of_cell? w _ hw302_4)).trans hw302_4)), (World.cell?_alloc_lt _ _ _ (World.block_lt_of_cell? _ _ (((HB.out.cell (World.block_lt_of_cell? w _ hw302_5)).trans hw302_5)))).trans (((HB.out.cell (World.block_lt_of_cell? w _ hw302_5)).trans hw302_5)), (World.cell?_alloc_lt _ _ _ (World.block_lt_of_cell? _ _ (((HB.out.cell (World.block_lt_of_cell? w _ hw302_6)).trans hw302_6)))).trans (((HB.out.cell (World.block_lt_of_cell? w _ hw302_6)).trans hw302_6)), (World.cell?_alloc_lt _ _ _ (World.block_lt_of_cell? _ _ (((HB.out.cell (World.block_lt_of_cell? w _ hw302_7)).trans hw302_7)))).trans (((HB.out.cell (World.block_lt_of_cell? w _ hw302_7)).trans hw302_7)), (World.cell?_alloc_lt _ _ _ (World.block_lt_of_cell? _ _ (((HB.out.cell (World.block_lt_of_cell? w _ hw302_8)).trans hw302_8)))).trans (((HB.out.cell (World.block_lt_of_cell? w _ hw302_8)).trans hw302_8)), (World.cell?_alloc_lt _ _ _ (World.block_lt_of_cell? _ _ (((HB.out.cell (World.block_lt_of_cell? w _ hw302_9)).trans hw302_9)))).trans (((HB.out.cell (World.block_lt_of_cell? w _ hw302_9)).trans hw302_9)), (World.cell?_alloc_lt _ _ _ (World.block_lt_of_cell? _ _ (((HB.out.cell (World.block_lt_of_cell? w _ hw302_10)).trans hw302_10)))).trans (((HB.out.cell (World.block_lt_of_cell? w _ hw302_10)).trans hw302_10)), (World.cell?_alloc_lt _ _ _ (World.block_lt_of_cell? _ _ (((HB.out.cell (World.block_lt_of_cell? w _ hw302_11)).trans hw302_11)))).trans (((HB.out.cell (World.block_lt_of_cell? w _ hw302_11)).trans hw302_11)), (World.cell?_alloc_lt _ _ _ (World.block_lt_of_cell? _ _ (((HB.out.cell (World.block_lt_of_cell? w _ hw303_0)).trans hw303_0)))).trans (((HB.out.cell (World.block_lt_of_cell? w _ hw303_0)).trans hw303_0)), (World.cell?_alloc_lt _ _ _ (World.block_lt_of_cell? _ _ (((HB.out.cell (World.block_lt_of_cell? w _ hw305_0)).trans hw305_0)))).trans (((HB.out.cell (World.block_lt_of_cell? w _ hw305_0)).trans hw305_0)), (World.cell?_alloc_lt _ _ _ (World.block_lt_of_cell? _ _ (((HB.out.cell (World.block_lt_of_cell? w _ hw305_1)).trans hw305_1)))).trans (((HB.out.cell (World.block_lt_of_cell? w _ hw305_1)).trans hw305_1)), (World.cell?_alloc_lt _ _ _ (World.block_lt_of_cell? _ _ (((HB.out.cell (World.block_lt_of_cell? w _ hw306_0)).trans hw306_0)))).trans (((HB.out.cell (World.block_lt_of_cell? w _ hw306_0)).trans hw306_0))⟩ (fun hHeld => ?_)
              clear hK K
              refine norm_ (a' := ?_) ?_ ?_
              rotate_left
              ·
               show Act.put _ (some 49) _ = _
               simp only [Act.put, qzA, qzB, qzC, i64_w, i32_w]
               rfl
              refine one_ (i := 34) (N := some 50) (msk 36 35) rfl rfl (one_of HT_.out (by kernel_rfl)) (by decide) (fun K hK => ?_)
              refine Kd.R_append_step k44 (w0 := w) w.heap.size (by rfl) (.tmp 16) (.tmp 49) 27 44 (.agg #[(.int .i64 0), (.int .i64 0), (.bool false)]) 24 rfl Try.underlying27 info44 rfl (by decide) (by omega) u9 x9_1 (⟨t304, t307, false⟩ : S44) [.int .i64 t304, .int .i64 t307, .bool false] (fun _ => True) (fun _ => False) rfl rfl ?aP (fun _ hk => hk.elim) ?aF ?aO ?aB ?aS ?aL ?_
              (case aP => exact k44_mkM _ _ _ (⟨t304, t307, false⟩ : S44))
              (case aB => exact (by repeat (first | (with_reducible first | exact HB.out | apply qaf | apply qae | apply qah | refine qai ?_ GE301.out) | exact HB.out)))
              (case aF => exact (fun _ _ => trivial))
              (case aO => exact (by (with_reducible repeat (first | apply Kd.R_alloc | apply Kd.R_drewN | apply Kd.R_drew)); exact HO_9.out))
              (case aS => exact (qao (by repeat (first | (with_reducible first | exact HB.out | apply qaf | apply qae | apply qah | refine qai ?_ GE301.out) | exact HB.out))))
              (case aL => have := LMc20.out; omega)
              intro v309 w24 ho hb hg hat
              rw [← Ny308.out] at ho
              have n0_ := qab.mk (blk_grown (g := gb301) (o := .cells #[.slice (some ad302) l0_0.length c0_0, .slice (some ad305) l0_1.length c0_1, .slice A0_2 l0_2.length c0_2] 26 (0, 0)) (by (with_reducible repeat (first | refine qaq ?_ _ | refine qar ?_ | refine qak ?_ _)); exact BK301.out) hg (Kd.R_ne HO_9.out BK301.out (by decide)))
              have n1_ := qab.mk (hb)
              have n2_ := qab.mk (ho)
              clear BK301
              clear HB
              clear HO_9
              have BK301 := n0_
              have HB := n1_
              have HO310 := n2_
              clear n0_ n1_ n2_
              clear ho hb hg hat
              refine hK.out _ _ ⟨(qaa BK301.out 0).trans rfl, (qaa BK301.out 1).trans rfl, (qaa BK301.out 2).trans rfl, ((HB.out.cell (World.block_lt_of_cell? w _ hw302_0)).trans hw302_0), ((HB.out.cell (World.block_lt_of_cell? w _ hw302_1)).trans hw302_1), ((HB.out.cell (World.block_lt_of_cell? w _ hw302_2)).trans hw302_2), ((HB.out.cell (World.block_lt_of_cell? w _ hw302_3)).trans hw302_3), ((HB.out.cell (World.block_lt_of_cell? w _ hw302_4)).trans hw302_4), ((HB.out.cell (World.block_lt_of_cell? w _ hw302_5)).trans hw302_5), ((HB.out.cell (World.block_lt_of_cell? w _ hw302_6)).trans hw302_6), ((HB.out.cell (World.block_lt_of_cell? w _ hw302_7)).trans hw302_7), ((HB.out.cell (World.block_lt_of_cell? w _ hw302_8)).trans hw302_8), ((HB.out.cell (World.block_lt_of_cell? w _ hw302_9)).trans hw302_9), ((HB.out.cell (World.block_lt_of_cell? w _ hw302_10)).trans hw302_10), ((HB.out.cell (World.block_lt_of_cell? w _ hw302_11)).trans hw302_11), ((HB.out.cell (World.block_lt_of_cell? w _ hw303_0)).trans hw303_0), ((HB.out.cell (World.block_lt_of_cell? w _ hw305_0)).trans hw305_0), ((HB.out.cell (World.block_lt_of_cell? w _ hw305_1)).trans hw305_1), ((HB.out.cell (World.block_lt_of_cell? w _ hw306_0)).trans hw306_0)⟩ (fun hHeld => ?_)
              clear hK K
              refine norm_ (a' := ?_) ?_ ?_
              rotate_left
              ·
               show Act.put _ (some 50) _ = _
               simp only [Act.put, qzA, qzB, qzC, i64_w, i32_w]
               rfl
              refine pure_ (i := 35) (N := some 9) (v := ?_) (a' := ?_) (msk 36 36) rfl rfl (qau HT_.out (by kernel_rfl)) (fun _ _ _ h => h) (Or.inl ⟨by rfl, ?_⟩) ?_ ?_
              rotate_left
              ·
               intro w'
               go_simp
               with_reducible rfl
              rotate_left
              ·
               simp only [Act.put, qzA, qzB, qzC, i64_w, i32_w]
               rfl
              refine done_ (done_of HT_.out (by kernel_rfl)) ?_
              try go_wp2
              go_roundg k1
              case measure => have := HK1.out; omega
              case rel => exact ⟨(y308), (wrap64 (x10_1 + 1)), (by first | rfl | (simp; done) | (simp [*]; done)), H', ⟨by have := HK1.out; omega⟩, ⟨by (with_reducible repeat (first | apply Kd.R_alloc | apply Kd.R_drewN | apply Kd.R_drew)); exact HO310.out⟩, ⟨by (with_reducible repeat (first | refine qaq ?_ _ | refine qar ?_ | refine qak ?_ _)); exact BK301.out⟩, ⟨by repeat (first | (with_reducible first | exact HB.out | apply qaf | apply qae | apply qah | refine qai ?_ GE301.out) | exact HB.out)⟩⟩
             ·
              rw [if_neg c20] at H
              exact absurd H (by simp)
            ·
             rw [if_neg c18] at H
             exact absurd H (by simp)
           ·
            rw [if_neg c17] at H
            exact absurd H (by simp)
          ·
           rw [if_neg c15] at H
           exact absurd H (by simp)
         ·
          rw [if_neg c14] at H
          exact absurd H (by simp)
        ·
         rw [if_neg c12] at H
         exact absurd H (by simp)
       ·
        rw [if_neg c11] at H
        exact absurd H (by simp)
     ·
      rw [if_neg c8] at H
      exact absurd H (by simp)
    ·
     rw [if_neg c7] at H
     exact absurd H (by simp)
   ·
    rw [if_neg c6] at H
    have c6b0 : decide (x10_1 < a2) = false := decide_eq_false c6
    clear c6
    obtain rfl := Option.some.inj H
    go_wp2
    go_ret
    exact ⟨_, by first | rfl | (simp [errW_none, errW_some] <;> rfl) | (simp [*, errW_none, errW_some] <;> rfl), by (with_reducible repeat (first | apply Kd.R_alloc | apply Kd.R_drewN | apply Kd.R_drew)); exact HO_9.out, by repeat (first | (with_reducible first | exact HB.out | apply qaf | apply qae | apply qah | refine qai ?_ GE301.out) | exact HB.out)⟩
end Go.Proofs.Ytipphcjgdebecaa.PA
