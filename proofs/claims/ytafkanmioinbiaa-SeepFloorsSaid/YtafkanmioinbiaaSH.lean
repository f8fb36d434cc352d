/- What functions of the program answer. No condition. -/
import Derived.Test.YtafkanmioinbiaaSC
import Derived.Test.YtafkanmioinbiaaSG
import Derived.Test.YtafkanmioinbiaaSD
import Derived.Test.YtafkanmioinbiaaSF
import Derived.Test.YtafkanmioinbiaaSE
set_option linter.all false
set_option maxRecDepth 100000
set_option maxHeartbeats 8000000
namespace Go.Proofs.Ytafkanmioinbiaa.SA
open Go.RowKit Go.Proofs.YtafkanmioinbiaaW.PrintWords Go.Proofs.YtafkanmioinbiaaW.PrintLast Go.Proofs.YtafkanmioinbiaaW.PrintMore
attribute [local go_sem] qax qaz max_two min_two qao qap qay qba
attribute [local go_sem high] eqA41
def talikref07_SameSpans.l0 : Nat → List (S41) → List (S41) → Int → Option (Bool)
 | 0, _, _, _ => none
 | k + 1, x0, x1, x5 => if x5 < (x0.length : Int) then (if 0 ≤ x5 then (if x5 < (x1.length : Int) then (if (!(((rd_T41 x0 x5).f0) == ((rd_T41 x1 x5).f0)) || (!(((rd_T41 x0 x5).f1) == ((rd_T41 x1 x5).f1)))) = true then (some false) else (talikref07_SameSpans.l0 k x0 x1 (wrap64 (x5 + 1)))) else (none)) else (none)) else (some true)
def talikref07_SameSpans.f (k : Nat) (l0 : List (S41)) (l1 : List (S41)) : Option (Bool) := if (l0.length : Int) = (l1.length : Int) then (talikref07_SameSpans.l0 k l0 l1 0) else (some false)
theorem talikref07_SameSpans.calls (k : Nat) (A0 : Option Addr) (c0 : Nat) (l0 : List (S41)) (A1 : Option Addr) (c1 : Nat) (l1 : List (S41)) (r : Bool) (w : World) (hr0 : Kd.C k41 w A0 l0.length l0) (hc0 : l0.length ≤ c0) (hr1 : Kd.C k41 w A1 l1.length l1) (hc1 : l1.length ≤ c1) (h : talikref07_SameSpans.f k l0 l1 = some r) :
  Calls Try.prog 46 #[.slice A0 l0.length c0, .slice A1 l1.length c1] w fun e w' => e = .returned (.bool r) ∧ qar w w' := by
 have hu41 := Try.underlying41
 have HR0 := qab.mk hr0
 have HC0 := qab.mk hc0
 clear hr0 hc0
 have HR1 := qab.mk hr1
 have HC1 := qab.mk hc1
 clear hr1 hc1
 have H : (if (l0.length : Int) = (l1.length : Int) then (talikref07_SameSpans.l0 k l0 l1 0) else (some false)) = some r := h
 clear h
 by_cases c3 : (l0.length : Int) = (l1.length : Int)
 ·
  rw [if_pos c3] at H
  have c3b0 : ((l0.length : Int) == (l1.length : Int)) = true := beq_iff_eq.mpr c3
  have c3b1 : ((l0.length : Int) != (l1.length : Int)) = false := bne_eq_false_iff_eq.mpr c3
  have c3b2 : (l0.length == l1.length) = true := by first | simpa using c3 | (simp at c3 ⊢; omega)
  clear c3
  have H' := qab.mk H
  clear H
  go_enter Try.func46, Try.ntmps46
  go_wp2
  repeat (go_quiet (fail); try go_wp2)
  go_loopg [5] k (fun kq v5 w' => ∃ (x5_1 : Int), v5 = .int .i64 x5_1 ∧ qab (talikref07_SameSpans.l0 kq l0 l1 x5_1 = some r) ∧ qab (kq ≤ k) ∧ qar w w')
  case atStart => exact ⟨(0), (by first | rfl | (simp; done) | (simp [*]; done)), H', ⟨Nat.le_refl _⟩, by repeat (first | exact qar.refl _ | apply qar.step)⟩
  case round =>
   clear H'
   try clear c1
   try clear p2
   try clear c3
   try clear c3b0
   try clear c3b1
   try clear c3b2
   obtain ⟨x5_1, rfl, HA, HK1, ⟨m1, rfl⟩⟩ := hrel
   cases gk with
   | zero => exact absurd HA.out (by simp [talikref07_SameSpans.l0])
   | succ k1 =>
    have H := HA.out
    clear HA
    simp only [talikref07_SameSpans.l0] at H
    by_cases c4 : x5_1 < (l0.length : Int)
    ·
     rw [if_pos c4] at H
     have c4b0 : decide (x5_1 < (l0.length : Int)) = true := decide_eq_true c4
     clear c4
     by_cases c5 : 0 ≤ x5_1
     ·
      rw [if_pos c5] at H
      have c5b0 : decide (0 ≤ x5_1) = true := decide_eq_true c5
      clear c5
      by_cases c6 : x5_1 < (l1.length : Int)
      ·
       rw [if_pos c6] at H
       have c6b0 : decide (x5_1 < (l1.length : Int)) = true := decide_eq_true c6
       clear c6
       by_cases c7 : (!(((rd_T41 l0 x5_1).f0) == ((rd_T41 l1 x5_1).f0)) || (!(((rd_T41 l0 x5_1).f1) == ((rd_T41 l1 x5_1).f1)))) = true
       ·
        rw [if_pos c7] at H
        have c7b0 : (!(((rd_T41 l0 x5_1).f0) == ((rd_T41 l1 x5_1).f0)) || (!(((rd_T41 l0 x5_1).f1) == ((rd_T41 l1 x5_1).f1)))) = true := c7
        clear c7
        obtain rfl := Option.some.inj H
        have p150 : 0 ≤ (x5_1 : Int) := of_decide_eq_true (by first | (with_reducible assumption) | assumption)
        have q150 : x5_1 < (l0.length : Int) := of_decide_eq_true (by first | (with_reducible assumption) | assumption)
        obtain ⟨ad150, e150, hx150_0, hx150_1⟩ := at_T41 HR0.out x5_1 p150 q150
        cases e150
        replace p150 := eq_true p150
        replace q150 := eq_true q150
        have p151 : 0 ≤ (x5_1 : Int) := of_decide_eq_true (by first | (with_reducible assumption) | assumption)
        have q151 : x5_1 < (l1.length : Int) := of_decide_eq_true (by first | (with_reducible assumption) | assumption)
        obtain ⟨ad151, e151, hx151_0, hx151_1⟩ := at_T41 HR1.out x5_1 p151 q151
        cases e151
        replace p151 := eq_true p151
        replace q151 := eq_true q151
        go_wp2
        repeat (go_quiet (fail); try go_wp2)
        go_ret
        exact ⟨by first | rfl | (simp; done) | (simp [*]; done), by repeat (first | exact qar.refl _ | apply qar.step)⟩
       ·
        rw [if_neg c7] at H
        have c7b0 : (!(((rd_T41 l0 x5_1).f0) == ((rd_T41 l1 x5_1).f0)) || (!(((rd_T41 l0 x5_1).f1) == ((rd_T41 l1 x5_1).f1)))) = false := by simpa using c7
        clear c7
        have H' := qab.mk H
        clear H
        have p150 : 0 ≤ (x5_1 : Int) := of_decide_eq_true (by first | (with_reducible assumption) | assumption)
        have q150 : x5_1 < (l0.length : Int) := of_decide_eq_true (by first | (with_reducible assumption) | assumption)
        obtain ⟨ad150, e150, hx150_0, hx150_1⟩ := at_T41 HR0.out x5_1 p150 q150
        cases e150
        replace p150 := eq_true p150
        replace q150 := eq_true q150
        have p151 : 0 ≤ (x5_1 : Int) := of_decide_eq_true (by first | (with_reducible assumption) | assumption)
        have q151 : x5_1 < (l1.length : Int) := of_decide_eq_true (by first | (with_reducible assumption) | assumption)
        obtain ⟨ad151, e151, hx151_0, hx151_1⟩ := at_T41 HR1.out x5_1 p151 q151
        cases e151
        replace p151 := eq_true p151
        replace q151 := eq_true q151
        go_wp2
        repeat (go_quiet (fail); try go_wp2)
        go_roundg k1
        case measure => have := HK1.out; omega
        case rel => exact ⟨(wrap64 (x5_1 + 1)), (by first | rfl | (simp; done) | (simp [*]; done)), H', ⟨by have := HK1.out; omega⟩, by repeat (first | exact qar.refl _ | apply qar.step)⟩
      ·
       rw [if_neg c6] at H
       exact absurd H (by simp)
     ·
      rw [if_neg c5] at H
      exact absurd H (by simp)
    ·
     rw [if_neg c4] at H
     have c4b0 : decide (x5_1 < (l0.length : Int)) = false := decide_eq_false c4
     clear c4
     obtain rfl := Option.some.inj H
     go_wp2
     repeat (go_quiet (fail); try go_wp2)
     go_ret
     exact ⟨by first | rfl | (simp; done) | (simp [*]; done), by repeat (first | exact qar.refl _ | apply qar.step)⟩
 ·
  rw [if_neg c3] at H
  have c3b0 : ((l0.length : Int) == (l1.length : Int)) = false := beq_eq_false_iff_ne.mpr c3
  have c3b1 : ((l0.length : Int) != (l1.length : Int)) = true := bne_iff_ne.mpr c3
  have c3b2 : (l0.length == l1.length) = false := by first | simpa using c3 | (simp at c3 ⊢; omega)
  obtain rfl := Option.some.inj H
  go_enter Try.func46, Try.ntmps46
  go_wp2
  repeat (go_quiet (fail); try go_wp2)
  go_ret
  exact ⟨by first | rfl | (simp; done) | (simp [*]; done), by repeat (first | exact qar.refl _ | apply qar.step)⟩
def taliklaw07_span.f (a0 : Int) (a1 : Int) : Option (Int × Int) := some (a0, a1)
theorem taliklaw07_span.calls (a0 : Int) (a1 : Int) (r1 : Int) (r2 : Int) (w : World) (h : taliklaw07_span.f a0 a1 = some (r1, r2)) :
  Calls Try.prog 50 #[.int .i64 a0, .int .i64 a1] w fun e w' => e = .returned (.agg #[.int .i64 r1, .int .i64 r2]) ∧ Below w.heap.size w w' := by
 have hu41 := Try.underlying41
 have HB := qab.mk (Below.refl w.heap.size w)
 have H : (some (a0, a1)) = some (r1, r2) := h
 clear h
 simp only [Option.some.injEq, Prod.mk.injEq] at H
 obtain ⟨rfl, rfl⟩ := H
 go_enter Try.func50, Try.ntmps50
 go_wp2_with (first | ((with_reducible refine qam (N := 4) rfl ?_); refine ze 4 #[.int .i64 0, .int .i64 0] 41 ?_; intro gb152 hg w3 hbox hb; have n0_ := qab.mk (qae (zb HB.out) hb); have n1_ := qab.mk (hbox); have n2_ := qab.mk ((by rw [hg]; exact (below_size (zb HB.out)) : w.heap.size ≤ gb152)); have n3_ := qab.mk ((by rw [hg]; exact (below_size (zb HB.out)) : w.heap.size ≤ gb152)); clear HB; have HB := n0_; have BK152 := n1_; have GW152 := n2_; have GE152 := n3_; clear n0_ n1_ n2_ n3_; clear hb hbox hg; obtain ⟨hfz_, hcz4_0, hcz4_1⟩ := qz2 BK152.out))
 refine bodyPost_ret (results_cell_row rfl _ _ gb152 41 #[.int .i64 a0, .int .i64 a1] (0, 0) _ rfl (by (with_reducible repeat (first | refine qau ?_ _ | refine qaw ?_ | refine qan ?_ _)); refine blk_put (cs := #[.int .i64 a0, .int .i64 0]) ?_ 1 _ rfl; (with_reducible repeat (first | refine qau ?_ _ | refine qaw ?_ | refine qan ?_ _)); refine blk_put (cs := #[.int .i64 0, .int .i64 0]) ?_ 0 _ rfl; (with_reducible repeat (first | refine qau ?_ _ | refine qaw ?_ | refine qan ?_ _)); exact BK152.out) Try.underlying41 rfl (by kernel_rfl)) rfl ?_
 exact ⟨by first | rfl | (simp [qbb, qbc] <;> rfl) | (simp [*, qbb, qbc] <;> rfl), by repeat (first | (with_reducible first | exact HB.out | apply qag | apply qaf | apply qah | refine qaj ?_ GE152.out) | exact HB.out)⟩
def taliklaw07_M.f  : Option (Int × (List (S44)) × List Int × List Int × (List (S41)) × (List (S95))) := (taliklaw07_span.f 500 650).bind fun bt163 => ((taliklaw07_span.f 550 750).bind fun bt165 => ((taliklaw07_span.f 600 850).bind fun bt167 => ((taliklaw07_span.f 650 950).bind fun bt169 => ((taliklaw07_span.f 100 120).bind fun bt174 => ((taliklaw07_span.f 10 20).bind fun bt176 => ((taliklaw07_span.f 200 250).bind fun bt178 => ((taliklaw07_span.f 90 130).bind fun bt180 => ((taliklaw07_span.f 400 400).bind fun bt182 => ((taliklaw07_span.f 300 400).bind fun bt184 => (some (5, (([(⟨0, 1, 0, 300⟩ : S44), (⟨1, 3, 900, 500⟩ : S44), (⟨0, 2, 600, 200⟩ : S44), (⟨2, 3, 700, 250⟩ : S44), (⟨2, 4, 0, (-1)⟩ : S44), (⟨1, 2, 800, 100⟩ : S44)] : List (S44))), (([0] : List Int)), (([3] : List Int)), (([(⟨bt163.1, bt163.2⟩ : S41), (⟨bt165.1, bt165.2⟩ : S41), (⟨bt167.1, bt167.2⟩ : S41), (⟨bt169.1, bt169.2⟩ : S41)] : List (S41))), (([(⟨1, 620, (⟨bt174.1, bt174.2⟩ : S41), (⟨bt176.1, bt176.2⟩ : S41)⟩ : S95), (⟨2, 5000, (⟨bt178.1, bt178.2⟩ : S41), (⟨bt180.1, bt180.2⟩ : S41)⟩ : S95), (⟨(-1), 5000, (⟨bt182.1, bt182.2⟩ : S41), (⟨bt184.1, bt184.2⟩ : S41)⟩ : S95)] : List (S95))))))))))))))
theorem taliklaw07_M.calls  (r1 : Int) (r2 : List (S44)) (r3 : List Int) (r4 : List Int) (r5 : List (S41)) (r6 : List (S95)) (w : World) (h : taliklaw07_M.f  = some (r1, r2, r3, r4, r5, r6)) :
  Calls Try.prog 53 #[] w fun e w' => ∃ v1_ v2_ v3_ v4_ v5_ : Value, e = .returned (.agg #[.int .i64 r1, v1_, v2_, v3_, v4_, v5_]) ∧ Kd.R k44 44 w' w.heap.size (fun _ => True) v1_ r2 ∧ Kd.R (Kd.int .i64) 3 w' w.heap.size (fun k_ => some k_ ≠ (v3_ : Value).ownBlock) v2_ r3 ∧ Kd.R (Kd.int .i64) 3 w' w.heap.size (fun k_ => some k_ ≠ (v2_ : Value).ownBlock) v3_ r4 ∧ Kd.R k41 41 w' w.heap.size (fun _ => True) v4_ r5 ∧ Kd.R k95 95 w' w.heap.size (fun _ => True) v5_ r6 ∧ Below w.heap.size w w' := by
 have hu27 := Try.underlying27
 have hu44 := Try.underlying44
 have hu95 := Try.underlying95
 have HB := qab.mk (Below.refl w.heap.size w)
 have H : ((taliklaw07_span.f 500 650).bind fun bt163 => ((taliklaw07_span.f 550 750).bind fun bt165 => ((taliklaw07_span.f 600 850).bind fun bt167 => ((taliklaw07_span.f 650 950).bind fun bt169 => ((taliklaw07_span.f 100 120).bind fun bt174 => ((taliklaw07_span.f 10 20).bind fun bt176 => ((taliklaw07_span.f 200 250).bind fun bt178 => ((taliklaw07_span.f 90 130).bind fun bt180 => ((taliklaw07_span.f 400 400).bind fun bt182 => ((taliklaw07_span.f 300 400).bind fun bt184 => (some (5, (([(⟨0, 1, 0, 300⟩ : S44), (⟨1, 3, 900, 500⟩ : S44), (⟨0, 2, 600, 200⟩ : S44), (⟨2, 3, 700, 250⟩ : S44), (⟨2, 4, 0, (-1)⟩ : S44), (⟨1, 2, 800, 100⟩ : S44)] : List (S44))), (([0] : List Int)), (([3] : List Int)), (([(⟨bt163.1, bt163.2⟩ : S41), (⟨bt165.1, bt165.2⟩ : S41), (⟨bt167.1, bt167.2⟩ : S41), (⟨bt169.1, bt169.2⟩ : S41)] : List (S41))), (([(⟨1, 620, (⟨bt174.1, bt174.2⟩ : S41), (⟨bt176.1, bt176.2⟩ : S41)⟩ : S95), (⟨2, 5000, (⟨bt178.1, bt178.2⟩ : S41), (⟨bt180.1, bt180.2⟩ : S41)⟩ : S95), (⟨(-1), 5000, (⟨bt182.1, bt182.2⟩ : S41), (⟨bt184.1, bt184.2⟩ : S41)⟩ : S95)] : List (S95))))))))))))))) = some (r1, r2, r3, r4, r5, r6) := h
 clear h
 obtain ⟨y154, hy154⟩ : ∃ y_ : List (S44), y_ = (([(⟨0, 1, 0, 300⟩ : S44), (⟨1, 3, 900, 500⟩ : S44), (⟨0, 2, 600, 200⟩ : S44), (⟨2, 3, 700, 250⟩ : S44), (⟨2, 4, 0, (-1)⟩ : S44), (⟨1, 2, 800, 100⟩ : S44)] : List (S44))) := ⟨_, rfl⟩
 replace H : ((taliklaw07_span.f 500 650).bind fun bt163 => ((taliklaw07_span.f 550 750).bind fun bt165 => ((taliklaw07_span.f 600 850).bind fun bt167 => ((taliklaw07_span.f 650 950).bind fun bt169 => ((taliklaw07_span.f 100 120).bind fun bt174 => ((taliklaw07_span.f 10 20).bind fun bt176 => ((taliklaw07_span.f 200 250).bind fun bt178 => ((taliklaw07_span.f 90 130).bind fun bt180 => ((taliklaw07_span.f 400 400).bind fun bt182 => ((taliklaw07_span.f 300 400).bind fun bt184 => (some (5, y154, (([0] : List Int)), (([3] : List Int)), (([(⟨bt163.1, bt163.2⟩ : S41), (⟨bt165.1, bt165.2⟩ : S41), (⟨bt167.1, bt167.2⟩ : S41), (⟨bt169.1, bt169.2⟩ : S41)] : List (S41))), (([(⟨1, 620, (⟨bt174.1, bt174.2⟩ : S41), (⟨bt176.1, bt176.2⟩ : S41)⟩ : S95), (⟨2, 5000, (⟨bt178.1, bt178.2⟩ : S41), (⟨bt180.1, bt180.2⟩ : S41)⟩ : S95), (⟨(-1), 5000, (⟨bt182.1, bt182.2⟩ : S41), (⟨bt184.1, bt184.2⟩ : S41)⟩ : S95)] : List (S95))))))))))))))) = some (r1, r2, r3, r4, r5, r6) := by first | (rw [hy154]; with_reducible exact H) | (have H2_ := (Option.bind_some _ _).symm.trans H; rw [hy154]; with_reducible exact H2_) | (have H2_ := (Option.bind_some _ _).symm.trans H; with_reducible exact H2_) | with_reducible exact H | (rw [hy154]; exact H) | exact H
 have Ny154 := qab.mk hy154
 clear hy154
 obtain ⟨y157, hy157⟩ : ∃ y_ : List Int, y_ = (([0] : List Int)) := ⟨_, rfl⟩
 replace H : ((taliklaw07_span.f 500 650).bind fun bt163 => ((taliklaw07_span.f 550 750).bind fun bt165 => ((taliklaw07_span.f 600 850).bind fun bt167 => ((taliklaw07_span.f 650 950).bind fun bt169 => ((taliklaw07_span.f 100 120).bind fun bt174 => ((taliklaw07_span.f 10 20).bind fun bt176 => ((taliklaw07_span.f 200 250).bind fun bt178 => ((taliklaw07_span.f 90 130).bind fun bt180 => ((taliklaw07_span.f 400 400).bind fun bt182 => ((taliklaw07_span.f 300 400).bind fun bt184 => (some (5, y154, y157, (([3] : List Int)), (([(⟨bt163.1, bt163.2⟩ : S41), (⟨bt165.1, bt165.2⟩ : S41), (⟨bt167.1, bt167.2⟩ : S41), (⟨bt169.1, bt169.2⟩ : S41)] : List (S41))), (([(⟨1, 620, (⟨bt174.1, bt174.2⟩ : S41), (⟨bt176.1, bt176.2⟩ : S41)⟩ : S95), (⟨2, 5000, (⟨bt178.1, bt178.2⟩ : S41), (⟨bt180.1, bt180.2⟩ : S41)⟩ : S95), (⟨(-1), 5000, (⟨bt182.1, bt182.2⟩ : S41), (⟨bt184.1, bt184.2⟩ : S41)⟩ : S95)] : List (S95))))))))))))))) = some (r1, r2, r3, r4, r5, r6) := by first | (rw [hy157]; with_reducible exact H) | (have H2_ := (Option.bind_some _ _).symm.trans H; rw [hy157]; with_reducible exact H2_) | (have H2_ := (Option.bind_some _ _).symm.trans H; with_reducible exact H2_) | with_reducible exact H | (rw [hy157]; exact H) | exact H
 have Ny157 := qab.mk hy157
 clear hy157
 obtain ⟨y160, hy160⟩ : ∃ y_ : List Int, y_ = (([3] : List Int)) := ⟨_, rfl⟩
 replace H : ((taliklaw07_span.f 500 650).bind fun bt163 => ((taliklaw07_span.f 550 750).bind fun bt165 => ((taliklaw07_span.f 600 850).bind fun bt167 => ((taliklaw07_span.f 650 950).bind fun bt169 => ((taliklaw07_span.f 100 120).bind fun bt174 => ((taliklaw07_span.f 10 20).bind fun bt176 => ((taliklaw07_span.f 200 250).bind fun bt178 => ((taliklaw07_span.f 90 130).bind fun bt180 => ((taliklaw07_span.f 400 400).bind fun bt182 => ((taliklaw07_span.f 300 400).bind fun bt184 => (some (5, y154, y157, y160, (([(⟨bt163.1, bt163.2⟩ : S41), (⟨bt165.1, bt165.2⟩ : S41), (⟨bt167.1, bt167.2⟩ : S41), (⟨bt169.1, bt169.2⟩ : S41)] : List (S41))), (([(⟨1, 620, (⟨bt174.1, bt174.2⟩ : S41), (⟨bt176.1, bt176.2⟩ : S41)⟩ : S95), (⟨2, 5000, (⟨bt178.1, bt178.2⟩ : S41), (⟨bt180.1, bt180.2⟩ : S41)⟩ : S95), (⟨(-1), 5000, (⟨bt182.1, bt182.2⟩ : S41), (⟨bt184.1, bt184.2⟩ : S41)⟩ : S95)] : List (S95))))))))))))))) = some (r1, r2, r3, r4, r5, r6) := by first | (rw [hy160]; with_reducible exact H) | (have H2_ := (Option.bind_some _ _).symm.trans H; rw [hy160]; with_reducible exact H2_) | (have H2_ := (Option.bind_some _ _).symm.trans H; with_reducible exact H2_) | with_reducible exact H | (rw [hy160]; exact H) | exact H
 have Ny160 := qab.mk hy160
 clear hy160
 replace H := Option.bind_eq_some_iff.mp H
 obtain ⟨⟨t163, t164⟩, A10, H⟩ := H
 try dsimp only at H
 have A1 := qab.mk A10
 clear A10
 replace H := Option.bind_eq_some_iff.mp H
 obtain ⟨⟨t165, t166⟩, A20, H⟩ := H
 try dsimp only at H
 have A2 := qab.mk A20
 clear A20
 replace H := Option.bind_eq_some_iff.mp H
 obtain ⟨⟨t167, t168⟩, A30, H⟩ := H
 try dsimp only at H
 have A3 := qab.mk A30
 clear A30
 replace H := Option.bind_eq_some_iff.mp H
 obtain ⟨⟨t169, t170⟩, A40, H⟩ := H
 try dsimp only at H
 have A4 := qab.mk A40
 clear A40
 obtain ⟨y171, hy171⟩ : ∃ y_ : List (S41), y_ = (([(⟨t163, t164⟩ : S41), (⟨t165, t166⟩ : S41), (⟨t167, t168⟩ : S41), (⟨t169, t170⟩ : S41)] : List (S41))) := ⟨_, rfl⟩
 replace H : ((taliklaw07_span.f 100 120).bind fun bt174 => ((taliklaw07_span.f 10 20).bind fun bt176 => ((taliklaw07_span.f 200 250).bind fun bt178 => ((taliklaw07_span.f 90 130).bind fun bt180 => ((taliklaw07_span.f 400 400).bind fun bt182 => ((taliklaw07_span.f 300 400).bind fun bt184 => (some (5, y154, y157, y160, y171, (([(⟨1, 620, (⟨bt174.1, bt174.2⟩ : S41), (⟨bt176.1, bt176.2⟩ : S41)⟩ : S95), (⟨2, 5000, (⟨bt178.1, bt178.2⟩ : S41), (⟨bt180.1, bt180.2⟩ : S41)⟩ : S95), (⟨(-1), 5000, (⟨bt182.1, bt182.2⟩ : S41), (⟨bt184.1, bt184.2⟩ : S41)⟩ : S95)] : List (S95))))))))))) = some (r1, r2, r3, r4, r5, r6) := by first | (rw [hy171]; with_reducible exact H) | (have H2_ := (Option.bind_some _ _).symm.trans H; rw [hy171]; with_reducible exact H2_) | (have H2_ := (Option.bind_some _ _).symm.trans H; with_reducible exact H2_) | with_reducible exact H | (rw [hy171]; exact H) | exact H
 have Ny171 := qab.mk hy171
 clear hy171
 replace H := Option.bind_eq_some_iff.mp H
 obtain ⟨⟨t174, t175⟩, A50, H⟩ := H
 try dsimp only at H
 have A5 := qab.mk A50
 clear A50
 replace H := Option.bind_eq_some_iff.mp H
 obtain ⟨⟨t176, t177⟩, A60, H⟩ := H
 try dsimp only at H
 have A6 := qab.mk A60
 clear A60
 replace H := Option.bind_eq_some_iff.mp H
 obtain ⟨⟨t178, t179⟩, A70, H⟩ := H
 try dsimp only at H
 have A7 := qab.mk A70
 clear A70
 replace H := Option.bind_eq_some_iff.mp H
 obtain ⟨⟨t180, t181⟩, A80, H⟩ := H
 try dsimp only at H
 have A8 := qab.mk A80
 clear A80
 replace H := Option.bind_eq_some_iff.mp H
 obtain ⟨⟨t182, t183⟩, A90, H⟩ := H
 try dsimp only at H
 have A9 := qab.mk A90
 clear A90
 replace H := Option.bind_eq_some_iff.mp H
 obtain ⟨⟨t184, t185⟩, A100, H⟩ := H
 try dsimp only at H
 have A10 := qab.mk A100
 clear A100
 obtain ⟨y186, hy186⟩ : ∃ y_ : List (S95), y_ = (([(⟨1, 620, (⟨t174, t175⟩ : S41), (⟨t176, t177⟩ : S41)⟩ : S95), (⟨2, 5000, (⟨t178, t179⟩ : S41), (⟨t180, t181⟩ : S41)⟩ : S95), (⟨(-1), 5000, (⟨t182, t183⟩ : S41), (⟨t184, t185⟩ : S41)⟩ : S95)] : List (S95))) := ⟨_, rfl⟩
 replace H : (some (5, y154, y157, y160, y171, y186)) = some (r1, r2, r3, r4, r5, r6) := by first | (rw [hy186]; with_reducible exact H) | (have H2_ := (Option.bind_some _ _).symm.trans H; rw [hy186]; with_reducible exact H2_) | (have H2_ := (Option.bind_some _ _).symm.trans H; with_reducible exact H2_) | with_reducible exact H | (rw [hy186]; exact H) | exact H
 have Ny186 := qab.mk hy186
 clear hy186
 simp only [Option.some.injEq, Prod.mk.injEq] at H
 obtain ⟨rfl, rfl, rfl, rfl, rfl, rfl⟩ := H
 go_enter Try.func53, Try.ntmps53
 go_wp2_with (first | ((with_reducible refine qam (N := 0) rfl ?_); refine ze 0 #[.int .i64 0, .slice none 0 0, .slice none 0 0, .slice none 0 0, .slice none 0 0, .slice none 0 0] 27 ?_; intro gb153 hg w11 hbox hb; have n0_ := qab.mk (qae (zb HB.out) hb); have n1_ := qab.mk (hbox); have n2_ := qab.mk ((by rw [hg]; exact (below_size (zb HB.out)) : w.heap.size ≤ gb153)); have n3_ := qab.mk ((by rw [hg]; exact (below_size (zb HB.out)) : w.heap.size ≤ gb153)); clear HB; have HB := n0_; have BK153 := n1_; have GW153 := n2_; have GE153 := n3_; clear n0_ n1_ n2_ n3_; clear hb hbox hg) | ((with_reducible refine qam (N := 7) rfl ?_); refine Kd.R_lit k44 _ 44 ?hg (N := 7) ?hd (xs := ([(⟨0, 1, 0, 300⟩ : S44), (⟨1, 3, 900, 500⟩ : S44), (⟨0, 2, 600, 200⟩ : S44), (⟨2, 3, 700, 250⟩ : S44), (⟨2, 4, 0, (-1)⟩ : S44), (⟨1, 2, 800, 100⟩ : S44)] : List (S44))) (inner := [.int .i64 0, .int .i64 1, .int .i64 0, .int .i64 300, .int .i64 1, .int .i64 3, .int .i64 900, .int .i64 500, .int .i64 0, .int .i64 2, .int .i64 600, .int .i64 200, .int .i64 2, .int .i64 3, .int .i64 700, .int .i64 250, .int .i64 2, .int .i64 4, .int .i64 0, .int .i64 (-1), .int .i64 1, .int .i64 2, .int .i64 800, .int .i64 100]) (ok := fun _ => True) (okp := fun _ => True) ?hr ?hp (fun _ hk => hk) trivial (Below.refl _ _) (Nat.le_refl _) (by simp) ?_; (case hd => rfl); (case hg => rfl); (case hr => first | (go_simp; done) | (go_simp; rfl)); (case hp => exact (Reps.c4 (show Kd.M k44 _ _ _ (⟨0, 1, 0, 300⟩ : S44) [.int .i64 0, .int .i64 1, .int .i64 0, .int .i64 300] from (k44_mkM _ _ _ (⟨0, 1, 0, 300⟩ : S44) )) (Reps.c4 (show Kd.M k44 _ _ _ (⟨1, 3, 900, 500⟩ : S44) [.int .i64 1, .int .i64 3, .int .i64 900, .int .i64 500] from (k44_mkM _ _ _ (⟨1, 3, 900, 500⟩ : S44) )) (Reps.c4 (show Kd.M k44 _ _ _ (⟨0, 2, 600, 200⟩ : S44) [.int .i64 0, .int .i64 2, .int .i64 600, .int .i64 200] from (k44_mkM _ _ _ (⟨0, 2, 600, 200⟩ : S44) )) (Reps.c4 (show Kd.M k44 _ _ _ (⟨2, 3, 700, 250⟩ : S44) [.int .i64 2, .int .i64 3, .int .i64 700, .int .i64 250] from (k44_mkM _ _ _ (⟨2, 3, 700, 250⟩ : S44) )) (Reps.c4 (show Kd.M k44 _ _ _ (⟨2, 4, 0, (-1)⟩ : S44) [.int .i64 2, .int .i64 4, .int .i64 0, .int .i64 (-1)] from (k44_mkM _ _ _ (⟨2, 4, 0, (-1)⟩ : S44) )) (Reps.c4 (show Kd.M k44 _ _ _ (⟨1, 2, 800, 100⟩ : S44) [.int .i64 1, .int .i64 2, .int .i64 800, .int .i64 100] from (k44_mkM _ _ _ (⟨1, 2, 800, 100⟩ : S44) )) (Reps.none _ _)))))))); intro v155 w12 ho13 hb hg_ hnew_; clear hg_ hnew_; (first | rw [← Ny154.out] at ho13 | (simp only [Int.reduceToNat] at ho13; rw [← Ny154.out] at ho13)); have HO156 := qab.mk (Kd.R_lower ho13 (below_size (by repeat (first | (with_reducible first | exact HB.out | apply qag | apply qaf | apply qah | refine qaj ?_ GE153.out) | exact HB.out)))); replace BK153 := qab.mk (zk BK153.out hb); replace HB := qab.mk (qae (by repeat (first | (with_reducible first | exact HB.out | apply qag | apply qaf | apply qah | refine qaj ?_ GE153.out) | exact HB.out)) hb); clear hb ho13) | ((with_reducible refine qam (N := 8) rfl ?_); refine Kd.R_lit (Kd.int .i64) _ 3 ?hg (N := 8) ?hd (xs := ([0] : List Int)) (inner := [.int .i64 0]) (ok := fun _ => True) (okp := fun _ => True) ?hr ?hp (fun _ hk => hk) trivial (Below.refl _ _) (Nat.le_refl _) (by simp) ?_; (case hd => rfl); (case hg => rfl); (case hr => first | (go_simp; done) | (go_simp; rfl)); (case hp => exact (Reps.one (show Kd.M (Kd.int .i64) _ _ _ 0 [.int .i64 0] from rfl) (Reps.none _ _))); intro v158 w14 ho15 hb hg_ hnew_; clear hg_ hnew_; (first | rw [← Ny157.out] at ho15 | (simp only [Int.reduceToNat] at ho15; rw [← Ny157.out] at ho15)); replace HO156 := qab.mk (zx HO156.out hb); have HO159 := qab.mk (Kd.R_lower ho15 (below_size (by repeat (first | (with_reducible first | exact HB.out | apply qag | apply qaf | apply qah | refine qaj ?_ GE153.out) | exact HB.out)))); replace BK153 := qab.mk (zk BK153.out hb); replace HB := qab.mk (qae (by repeat (first | (with_reducible first | exact HB.out | apply qag | apply qaf | apply qah | refine qaj ?_ GE153.out) | exact HB.out)) hb); clear hb ho15) | ((with_reducible refine qam (N := 9) rfl ?_); refine Kd.R_lit (Kd.int .i64) _ 3 ?hg (N := 9) ?hd (xs := ([3] : List Int)) (inner := [.int .i64 3]) (ok := fun _ => True) (okp := fun _ => True) ?hr ?hp (fun _ hk => hk) trivial (Below.refl _ _) (Nat.le_refl _) (by simp) ?_; (case hd => rfl); (case hg => rfl); (case hr => first | (go_simp; done) | (go_simp; rfl)); (case hp => exact (Reps.one (show Kd.M (Kd.int .i64) _ _ _ 3 [.int .i64 3] from rfl) (Reps.none _ _))); intro v161 w16 ho17 hb hg_ hnew_; clear hg_ hnew_; (first | rw [← Ny160.out] at ho17 | (simp only [Int.reduceToNat] at ho17; rw [← Ny160.out] at ho17)); have n0_ := qab.mk (zx HO156.out hb); have n1_ := qab.mk (Kd.R_elder' (by (with_reducible repeat (first | apply Kd.R_alloc | apply Kd.R_drewN | apply Kd.R_drew)); exact HO159.out) (Kd.R_base ho17) hb); have n2_ := qab.mk (Kd.R_lower (Kd.R_new' ho17 (Kd.R_lt (by (with_reducible repeat (first | apply Kd.R_alloc | apply Kd.R_drewN | apply Kd.R_drew)); exact HO159.out))) (below_size (by repeat (first | (with_reducible first | exact HB.out | apply qag | apply qaf | apply qah | refine qaj ?_ GE153.out) | exact HB.out)))); have n3_ := qab.mk (zk BK153.out hb); have n4_ := qab.mk (qae (by repeat (first | (with_reducible first | exact HB.out | apply qag | apply qaf | apply qah | refine qaj ?_ GE153.out) | exact HB.out)) hb); clear HO156; clear HO159; clear BK153; clear HB; have HO156 := n0_; have HO159 := n1_; have HO162 := n2_; have BK153 := n3_; have HB := n4_; clear n0_ n1_ n2_ n3_ n4_; clear hb ho17) | ((with_reducible refine gate_callee (f := 50) rfl ?_); refine zl 10 Try.func50 #[.int .i64 500, .int .i64 650] ?_; (with_reducible refine (taliklaw07_span.calls 500 650 t163 t164 _ A1.out).mono ?_); rintro e w18 ⟨rfl, hb⟩; refine ⟨_, rfl, ?_⟩; replace HO156 := qab.mk (zx HO156.out hb); replace HO159 := qab.mk (zx HO159.out hb); replace HO162 := qab.mk (zx HO162.out hb); replace BK153 := qab.mk (zk BK153.out hb); replace HB := qab.mk (qae (by repeat (first | (with_reducible first | exact HB.out | apply qag | apply qaf | apply qah | refine qaj ?_ GE153.out) | exact HB.out)) hb); (try clear hb); (try clear hb2); (try clear hk); (try clear hi)) | ((with_reducible refine gate_callee (f := 50) rfl ?_); refine zl 11 Try.func50 #[.int .i64 550, .int .i64 750] ?_; (with_reducible refine (taliklaw07_span.calls 550 750 t165 t166 _ A2.out).mono ?_); rintro e w19 ⟨rfl, hb⟩; refine ⟨_, rfl, ?_⟩; replace HO156 := qab.mk (zx HO156.out hb); replace HO159 := qab.mk (zx HO159.out hb); replace HO162 := qab.mk (zx HO162.out hb); replace BK153 := qab.mk (zk BK153.out hb); replace HB := qab.mk (qae (by repeat (first | (with_reducible first | exact HB.out | apply qag | apply qaf | apply qah | refine qaj ?_ GE153.out) | exact HB.out)) hb); (try clear hb); (try clear hb2); (try clear hk); (try clear hi)) | ((with_reducible refine gate_callee (f := 50) rfl ?_); refine zl 12 Try.func50 #[.int .i64 600, .int .i64 850] ?_; (with_reducible refine (taliklaw07_span.calls 600 850 t167 t168 _ A3.out).mono ?_); rintro e w20 ⟨rfl, hb⟩; refine ⟨_, rfl, ?_⟩; replace HO156 := qab.mk (zx HO156.out hb); replace HO159 := qab.mk (zx HO159.out hb); replace HO162 := qab.mk (zx HO162.out hb); replace BK153 := qab.mk (zk BK153.out hb); replace HB := qab.mk (qae (by repeat (first | (with_reducible first | exact HB.out | apply qag | apply qaf | apply qah | refine qaj ?_ GE153.out) | exact HB.out)) hb); (try clear hb); (try clear hb2); (try clear hk); (try clear hi)) | ((with_reducible refine gate_callee (f := 50) rfl ?_); refine zl 13 Try.func50 #[.int .i64 650, .int .i64 950] ?_; (with_reducible refine (taliklaw07_span.calls 650 950 t169 t170 _ A4.out).mono ?_); rintro e w21 ⟨rfl, hb⟩; refine ⟨_, rfl, ?_⟩; replace HO156 := qab.mk (zx HO156.out hb); replace HO159 := qab.mk (zx HO159.out hb); replace HO162 := qab.mk (zx HO162.out hb); replace BK153 := qab.mk (zk BK153.out hb); replace HB := qab.mk (qae (by repeat (first | (with_reducible first | exact HB.out | apply qag | apply qaf | apply qah | refine qaj ?_ GE153.out) | exact HB.out)) hb); (try clear hb); (try clear hb2); (try clear hk); (try clear hi)) | ((with_reducible refine qam (N := 14) rfl ?_); refine Kd.R_lit k41 _ 41 ?hg (N := 14) ?hd (xs := ([(⟨t163, t164⟩ : S41), (⟨t165, t166⟩ : S41), (⟨t167, t168⟩ : S41), (⟨t169, t170⟩ : S41)] : List (S41))) (inner := [.int .i64 t163, .int .i64 t164, .int .i64 t165, .int .i64 t166, .int .i64 t167, .int .i64 t168, .int .i64 t169, .int .i64 t170]) (ok := fun _ => True) (okp := fun _ => True) ?hr ?hp (fun _ hk => hk) trivial (Below.refl _ _) (Nat.le_refl _) (by simp) ?_; (case hd => rfl); (case hg => rfl); (case hr => first | (go_simp; done) | (go_simp; rfl)); (case hp => exact (Reps.c2 (show Kd.M k41 _ _ _ (⟨t163, t164⟩ : S41) [.int .i64 t163, .int .i64 t164] from (k41_mkM _ _ _ (⟨t163, t164⟩ : S41) )) (Reps.c2 (show Kd.M k41 _ _ _ (⟨t165, t166⟩ : S41) [.int .i64 t165, .int .i64 t166] from (k41_mkM _ _ _ (⟨t165, t166⟩ : S41) )) (Reps.c2 (show Kd.M k41 _ _ _ (⟨t167, t168⟩ : S41) [.int .i64 t167, .int .i64 t168] from (k41_mkM _ _ _ (⟨t167, t168⟩ : S41) )) (Reps.c2 (show Kd.M k41 _ _ _ (⟨t169, t170⟩ : S41) [.int .i64 t169, .int .i64 t170] from (k41_mkM _ _ _ (⟨t169, t170⟩ : S41) )) (Reps.none _ _)))))); intro v172 w22 ho23 hb hg_ hnew_; clear hg_ hnew_; (first | rw [← Ny171.out] at ho23 | (simp only [Int.reduceToNat] at ho23; rw [← Ny171.out] at ho23)); replace HO156 := qab.mk (zx HO156.out hb); replace HO159 := qab.mk (zx HO159.out hb); replace HO162 := qab.mk (zx HO162.out hb); have HO173 := qab.mk (Kd.R_lower ho23 (below_size (by repeat (first | (with_reducible first | exact HB.out | apply qag | apply qaf | apply qah | refine qaj ?_ GE153.out) | exact HB.out)))); replace BK153 := qab.mk (zk BK153.out hb); replace HB := qab.mk (qae (by repeat (first | (with_reducible first | exact HB.out | apply qag | apply qaf | apply qah | refine qaj ?_ GE153.out) | exact HB.out)) hb); clear hb ho23) | ((with_reducible refine gate_callee (f := 50) rfl ?_); refine zl 15 Try.func50 #[.int .i64 100, .int .i64 120] ?_; (with_reducible refine (taliklaw07_span.calls 100 120 t174 t175 _ A5.out).mono ?_); rintro e w24 ⟨rfl, hb⟩; refine ⟨_, rfl, ?_⟩; replace HO156 := qab.mk (zx HO156.out hb); replace HO159 := qab.mk (zx HO159.out hb); replace HO162 := qab.mk (zx HO162.out hb); replace HO173 := qab.mk (zx HO173.out hb); replace BK153 := qab.mk (zk BK153.out hb); replace HB := qab.mk (qae (by repeat (first | (with_reducible first | exact HB.out | apply qag | apply qaf | apply qah | refine qaj ?_ GE153.out) | exact HB.out)) hb); (try clear hb); (try clear hb2); (try clear hk); (try clear hi)) | ((with_reducible refine gate_callee (f := 50) rfl ?_); refine zl 16 Try.func50 #[.int .i64 10, .int .i64 20] ?_; (with_reducible refine (taliklaw07_span.calls 10 20 t176 t177 _ A6.out).mono ?_); rintro e w25 ⟨rfl, hb⟩; refine ⟨_, rfl, ?_⟩; replace HO156 := qab.mk (zx HO156.out hb); replace HO159 := qab.mk (zx HO159.out hb); replace HO162 := qab.mk (zx HO162.out hb); replace HO173 := qab.mk (zx HO173.out hb); replace BK153 := qab.mk (zk BK153.out hb); replace HB := qab.mk (qae (by repeat (first | (with_reducible first | exact HB.out | apply qag | apply qaf | apply qah | refine qaj ?_ GE153.out) | exact HB.out)) hb); (try clear hb); (try clear hb2); (try clear hk); (try clear hi)) | ((with_reducible refine gate_callee (f := 50) rfl ?_); refine zl 18 Try.func50 #[.int .i64 200, .int .i64 250] ?_; (with_reducible refine (taliklaw07_span.calls 200 250 t178 t179 _ A7.out).mono ?_); rintro e w26 ⟨rfl, hb⟩; refine ⟨_, rfl, ?_⟩; replace HO156 := qab.mk (zx HO156.out hb); replace HO159 := qab.mk (zx HO159.out hb); replace HO162 := qab.mk (zx HO162.out hb); replace HO173 := qab.mk (zx HO173.out hb); replace BK153 := qab.mk (zk BK153.out hb); replace HB := qab.mk (qae (by repeat (first | (with_reducible first | exact HB.out | apply qag | apply qaf | apply qah | refine qaj ?_ GE153.out) | exact HB.out)) hb); (try clear hb); (try clear hb2); (try clear hk); (try clear hi)) | ((with_reducible refine gate_callee (f := 50) rfl ?_); refine zl 19 Try.func50 #[.int .i64 90, .int .i64 130] ?_; (with_reducible refine (taliklaw07_span.calls 90 130 t180 t181 _ A8.out).mono ?_); rintro e w27 ⟨rfl, hb⟩; refine ⟨_, rfl, ?_⟩; replace HO156 := qab.mk (zx HO156.out hb); replace HO159 := qab.mk (zx HO159.out hb); replace HO162 := qab.mk (zx HO162.out hb); replace HO173 := qab.mk (zx HO173.out hb); replace BK153 := qab.mk (zk BK153.out hb); replace HB := qab.mk (qae (by repeat (first | (with_reducible first | exact HB.out | apply qag | apply qaf | apply qah | refine qaj ?_ GE153.out) | exact HB.out)) hb); (try clear hb); (try clear hb2); (try clear hk); (try clear hi)) | ((with_reducible refine gate_callee (f := 50) rfl ?_); refine zl 21 Try.func50 #[.int .i64 400, .int .i64 400] ?_; (with_reducible refine (taliklaw07_span.calls 400 400 t182 t183 _ A9.out).mono ?_); rintro e w28 ⟨rfl, hb⟩; refine ⟨_, rfl, ?_⟩; replace HO156 := qab.mk (zx HO156.out hb); replace HO159 := qab.mk (zx HO159.out hb); replace HO162 := qab.mk (zx HO162.out hb); replace HO173 := qab.mk (zx HO173.out hb); replace BK153 := qab.mk (zk BK153.out hb); replace HB := qab.mk (qae (by repeat (first | (with_reducible first | exact HB.out | apply qag | apply qaf | apply qah | refine qaj ?_ GE153.out) | exact HB.out)) hb); (try clear hb); (try clear hb2); (try clear hk); (try clear hi)) | ((with_reducible refine gate_callee (f := 50) rfl ?_); refine zl 22 Try.func50 #[.int .i64 300, .int .i64 400] ?_; (with_reducible refine (taliklaw07_span.calls 300 400 t184 t185 _ A10.out).mono ?_); rintro e w29 ⟨rfl, hb⟩; refine ⟨_, rfl, ?_⟩; replace HO156 := qab.mk (zx HO156.out hb); replace HO159 := qab.mk (zx HO159.out hb); replace HO162 := qab.mk (zx HO162.out hb); replace HO173 := qab.mk (zx HO173.out hb); replace BK153 := qab.mk (zk BK153.out hb); replace HB := qab.mk (qae (by repeat (first | (with_reducible first | exact HB.out | apply qag | apply qaf | apply qah | refine qaj ?_ GE153.out) | exact HB.out)) hb); (try clear hb); (try clear hb2); (try clear hk); (try clear hi)) | ((with_reducible refine qam (N := 24) rfl ?_); refine Kd.R_lit k95 _ 95 ?hg (N := 24) ?hd (xs := ([(⟨1, 620, (⟨t174, t175⟩ : S41), (⟨t176, t177⟩ : S41)⟩ : S95), (⟨2, 5000, (⟨t178, t179⟩ : S41), (⟨t180, t181⟩ : S41)⟩ : S95), (⟨(-1), 5000, (⟨t182, t183⟩ : S41), (⟨t184, t185⟩ : S41)⟩ : S95)] : List (S95))) (inner := [.int .i64 1, .int .i64 620, .int .i64 t174, .int .i64 t175, .int .i64 t176, .int .i64 t177, .int .i64 2, .int .i64 5000, .int .i64 t178, .int .i64 t179, .int .i64 t180, .int .i64 t181, .int .i64 (-1), .int .i64 5000, .int .i64 t182, .int .i64 t183, .int .i64 t184, .int .i64 t185]) (ok := fun _ => True) (okp := fun _ => True) ?hr ?hp (fun _ hk => hk) trivial (Below.refl _ _) (Nat.le_refl _) (by simp) ?_; (case hd => rfl); (case hg => rfl); (case hr => first | (go_simp; done) | (go_simp; rfl)); (case hp => exact (Reps.c6 (show Kd.M k95 _ _ _ (⟨1, 620, (⟨t174, t175⟩ : S41), (⟨t176, t177⟩ : S41)⟩ : S95) [.int .i64 1, .int .i64 620, .int .i64 t174, .int .i64 t175, .int .i64 t176, .int .i64 t177] from (k95_mkM _ _ _ (⟨1, 620, (⟨t174, t175⟩ : S41), (⟨t176, t177⟩ : S41)⟩ : S95) )) (Reps.c6 (show Kd.M k95 _ _ _ (⟨2, 5000, (⟨t178, t179⟩ : S41), (⟨t180, t181⟩ : S41)⟩ : S95) [.int .i64 2, .int .i64 5000, .int .i64 t178, .int .i64 t179, .int .i64 t180, .int .i64 t181] from (k95_mkM _ _ _ (⟨2, 5000, (⟨t178, t179⟩ : S41), (⟨t180, t181⟩ : S41)⟩ : S95) )) (Reps.c6 (show Kd.M k95 _ _ _ (⟨(-1), 5000, (⟨t182, t183⟩ : S41), (⟨t184, t185⟩ : S41)⟩ : S95) [.int .i64 (-1), .int .i64 5000, .int .i64 t182, .int .i64 t183, .int .i64 t184, .int .i64 t185] from (k95_mkM _ _ _ (⟨(-1), 5000, (⟨t182, t183⟩ : S41), (⟨t184, t185⟩ : S41)⟩ : S95) )) (Reps.none _ _))))); intro v187 w30 ho31 hb hg_ hnew_; clear hg_ hnew_; (first | rw [← Ny186.out] at ho31 | (simp only [Int.reduceToNat] at ho31; rw [← Ny186.out] at ho31)); replace HO156 := qab.mk (zx HO156.out hb); replace HO159 := qab.mk (zx HO159.out hb); replace HO162 := qab.mk (zx HO162.out hb); replace HO173 := qab.mk (zx HO173.out hb); have HO188 := qab.mk (Kd.R_lower ho31 (below_size (by repeat (first | (with_reducible first | exact HB.out | apply qag | apply qaf | apply qah | refine qaj ?_ GE153.out) | exact HB.out)))); replace BK153 := qab.mk (zk BK153.out hb); replace HB := qab.mk (qae (by repeat (first | (with_reducible first | exact HB.out | apply qag | apply qaf | apply qah | refine qaj ?_ GE153.out) | exact HB.out)) hb); clear hb ho31; obtain ⟨Ao32, co32, eo32⟩ := Kd.R_slice HO188.out; subst eo32; obtain ⟨Ao33, co33, eo33⟩ := Kd.R_slice HO173.out; subst eo33; obtain ⟨Ao34, co34, eo34⟩ := Kd.R_slice HO162.out; subst eo34; obtain ⟨Ao35, co35, eo35⟩ := Kd.R_slice HO159.out; subst eo35; obtain ⟨Ao36, co36, eo36⟩ := Kd.R_slice HO156.out; subst eo36; obtain ⟨hfz_, hcz37_0, hcz37_1, hcz37_2, hcz37_3, hcz37_4, hcz37_5⟩ := qz6 BK153.out))
 refine bodyPost_ret (results_cell_row rfl _ _ gb153 27 #[.int .i64 5, .slice Ao36 y154.length co36, .slice Ao35 y157.length co35, .slice Ao34 y160.length co34, .slice Ao33 y171.length co33, .slice Ao32 y186.length co32] (0, 0) _ rfl (by (with_reducible repeat (first | refine qau ?_ _ | refine qaw ?_ | refine qan ?_ _)); refine blk_put (cs := #[.int .i64 5, .slice Ao36 y154.length co36, .slice Ao35 y157.length co35, .slice Ao34 y160.length co34, .slice Ao33 y171.length co33, .slice none 0 0]) ?_ 5 _ rfl; (with_reducible repeat (first | refine qau ?_ _ | refine qaw ?_ | refine qan ?_ _)); refine blk_put (cs := #[.int .i64 5, .slice Ao36 y154.length co36, .slice Ao35 y157.length co35, .slice Ao34 y160.length co34, .slice none 0 0, .slice none 0 0]) ?_ 4 _ rfl; (with_reducible repeat (first | refine qau ?_ _ | refine qaw ?_ | refine qan ?_ _)); refine blk_put (cs := #[.int .i64 5, .slice Ao36 y154.length co36, .slice Ao35 y157.length co35, .slice none 0 0, .slice none 0 0, .slice none 0 0]) ?_ 3 _ rfl; (with_reducible repeat (first | refine qau ?_ _ | refine qaw ?_ | refine qan ?_ _)); refine blk_put (cs := #[.int .i64 5, .slice Ao36 y154.length co36, .slice none 0 0, .slice none 0 0, .slice none 0 0, .slice none 0 0]) ?_ 2 _ rfl; (with_reducible repeat (first | refine qau ?_ _ | refine qaw ?_ | refine qan ?_ _)); refine blk_put (cs := #[.int .i64 5, .slice none 0 0, .slice none 0 0, .slice none 0 0, .slice none 0 0, .slice none 0 0]) ?_ 1 _ rfl; (with_reducible repeat (first | refine qau ?_ _ | refine qaw ?_ | refine qan ?_ _)); refine blk_put (cs := #[.int .i64 0, .slice none 0 0, .slice none 0 0, .slice none 0 0, .slice none 0 0, .slice none 0 0]) ?_ 0 _ rfl; (with_reducible repeat (first | refine qau ?_ _ | refine qaw ?_ | refine qan ?_ _)); exact BK153.out) Try.underlying27 rfl (by kernel_rfl)) rfl ?_
 exact ⟨_, _, _, _, _, by first | rfl | (simp [qbb, qbc] <;> rfl) | (simp [*, qbb, qbc] <;> rfl), by (with_reducible repeat (first | apply Kd.R_alloc | apply Kd.R_drewN | apply Kd.R_drew)); exact Kd.R_mono (Kd.R_far (p := ⟨gb153, 5, none⟩) (Kd.R_far (p := ⟨gb153, 4, none⟩) (Kd.R_far (p := ⟨gb153, 3, none⟩) (Kd.R_far (p := ⟨gb153, 2, none⟩) (Kd.R_far (p := ⟨gb153, 1, none⟩) (Kd.R_far (p := ⟨gb153, 0, none⟩) (Kd.R_types HO156.out BK153.out (by decide)) (fun _ hk => hk.2) (.int .i64 5)) (fun _ hk => hk.2) (.slice Ao36 y154.length co36)) (fun _ hk => hk.2) (.slice Ao35 y157.length co35)) (fun _ hk => hk.2) (.slice Ao34 y160.length co34)) (fun _ hk => hk.2) (.slice Ao33 y171.length co33)) (fun _ hk => hk.2) (.slice Ao32 y186.length co32)) (fun _ hk => trivial), by (with_reducible repeat (first | apply Kd.R_alloc | apply Kd.R_drewN | apply Kd.R_drew)); exact Kd.R_mono (Kd.R_far (p := ⟨gb153, 5, none⟩) (Kd.R_far (p := ⟨gb153, 4, none⟩) (Kd.R_far (p := ⟨gb153, 3, none⟩) (Kd.R_far (p := ⟨gb153, 2, none⟩) (Kd.R_far (p := ⟨gb153, 1, none⟩) (Kd.R_far (p := ⟨gb153, 0, none⟩) (Kd.R_types HO159.out BK153.out (by decide)) (fun _ hk => hk.2) (.int .i64 5)) (fun _ hk => hk.2) (.slice Ao36 y154.length co36)) (fun _ hk => hk.2) (.slice Ao35 y157.length co35)) (fun _ hk => hk.2) (.slice Ao34 y160.length co34)) (fun _ hk => hk.2) (.slice Ao33 y171.length co33)) (fun _ hk => hk.2) (.slice Ao32 y186.length co32)) (fun _ hk => hk.1.2), by (with_reducible repeat (first | apply Kd.R_alloc | apply Kd.R_drewN | apply Kd.R_drew)); exact Kd.R_mono (Kd.R_far (p := ⟨gb153, 5, none⟩) (Kd.R_far (p := ⟨gb153, 4, none⟩) (Kd.R_far (p := ⟨gb153, 3, none⟩) (Kd.R_far (p := ⟨gb153, 2, none⟩) (Kd.R_far (p := ⟨gb153, 1, none⟩) (Kd.R_far (p := ⟨gb153, 0, none⟩) (Kd.R_types HO162.out BK153.out (by decide)) (fun _ hk => hk.2) (.int .i64 5)) (fun _ hk => hk.2) (.slice Ao36 y154.length co36)) (fun _ hk => hk.2) (.slice Ao35 y157.length co35)) (fun _ hk => hk.2) (.slice Ao34 y160.length co34)) (fun _ hk => hk.2) (.slice Ao33 y171.length co33)) (fun _ hk => hk.2) (.slice Ao32 y186.length co32)) (fun _ hk => hk.1.2), by (with_reducible repeat (first | apply Kd.R_alloc | apply Kd.R_drewN | apply Kd.R_drew)); exact Kd.R_mono (Kd.R_far (p := ⟨gb153, 5, none⟩) (Kd.R_far (p := ⟨gb153, 4, none⟩) (Kd.R_far (p := ⟨gb153, 3, none⟩) (Kd.R_far (p := ⟨gb153, 2, none⟩) (Kd.R_far (p := ⟨gb153, 1, none⟩) (Kd.R_far (p := ⟨gb153, 0, none⟩) (Kd.R_types HO173.out BK153.out (by decide)) (fun _ hk => hk.2) (.int .i64 5)) (fun _ hk => hk.2) (.slice Ao36 y154.length co36)) (fun _ hk => hk.2) (.slice Ao35 y157.length co35)) (fun _ hk => hk.2) (.slice Ao34 y160.length co34)) (fun _ hk => hk.2) (.slice Ao33 y171.length co33)) (fun _ hk => hk.2) (.slice Ao32 y186.length co32)) (fun _ hk => trivial), by (with_reducible repeat (first | apply Kd.R_alloc | apply Kd.R_drewN | apply Kd.R_drew)); exact Kd.R_mono (Kd.R_far (p := ⟨gb153, 5, none⟩) (Kd.R_far (p := ⟨gb153, 4, none⟩) (Kd.R_far (p := ⟨gb153, 3, none⟩) (Kd.R_far (p := ⟨gb153, 2, none⟩) (Kd.R_far (p := ⟨gb153, 1, none⟩) (Kd.R_far (p := ⟨gb153, 0, none⟩) (Kd.R_types HO188.out BK153.out (by decide)) (fun _ hk => hk.2) (.int .i64 5)) (fun _ hk => hk.2) (.slice Ao36 y154.length co36)) (fun _ hk => hk.2) (.slice Ao35 y157.length co35)) (fun _ hk => hk.2) (.slice Ao34 y160.length co34)) (fun _ hk => hk.2) (.slice Ao33 y171.length co33)) (fun _ hk => hk.2) (.slice Ao32 y186.length co32)) (fun _ hk => trivial), by repeat (first | (with_reducible first | exact HB.out | apply qag | apply qaf | apply qah | refine qaj ?_ GE153.out) | exact HB.out)⟩
end Go.Proofs.Ytafkanmioinbiaa.SA
namespace Go.Proofs.Ytafkanmioinbiaa.SA
open Go.RowKit Go.Proofs.YtafkanmioinbiaaW.PrintWords Go.Proofs.YtafkanmioinbiaaW.PrintLast Go.Proofs.YtafkanmioinbiaaW.PrintMore
attribute [local go_sem] qax qaz max_two min_two qao qap qay qba
theorem most_calls (g : Nat) (v0 v1 v2 v3 v5 : Value) (A4 : Option Addr) (c4 : Nat) (l4 : List S41) (d : Int) (w : World) (hr : Kd.C k41 w A4 l4.length l4) (h15 : l4.length ≤ 100000) (hb : w.heap[g]? = some (.cells #[v0, v1, v2, v3, .slice A4 l4.length c4, v5, .int .i64 d] 123 (0, 0))) :
  Calls Try.prog 58 #[.pointer (some ⟨g, 0, none⟩)] w fun e w' => ∃ v, e = .returned v ∧ Kd.R (Kd.int .i64) 3 w' w.heap.size (fun _ => True) v (l4.map (·.f1)) ∧ Below w.heap.size w w' := by
 have hu123 := Try.underlying123
 have hu27 := Try.underlying27
 have hu41 := Try.underlying41
 have HR := qab.mk hr
 have HB := qab.mk (Below.refl w.heap.size w)
 have q4 : w.cell? ⟨g, 4, none⟩ = some (.slice A4 l4.length c4) := (qaa hb 4).trans rfl
 have HO : qab (Kd.R (Kd.int .i64) 3 w w.heap.size (fun _ => True) (.slice none 0 0) ((l4.take 0).map (·.f1))) := ⟨Kd.R_nil _ _ _ _ _⟩
 clear hr hb
 go_enter Try.func58, Try.ntmps58
 go_wp2
 go_loopw [3, 12] (fun s3 s12 wr => ∃ (k : Nat) (v : Value), k ≤ l4.length ∧ s12 = .int .i64 k ∧ v = s3 ∧ qab (Kd.R (Kd.int .i64) 3 wr w.heap.size (fun _ => True) v ((l4.take k).map (·.f1))) ∧ qab (Below w.heap.size w wr)) (fun _ s _ => l4.length - (intOf s).toNat)
 case atStart => exact ⟨0, _, by omega, rfl, rfl, HO, HB⟩
 case round =>
  clear HB HO q4
  obtain ⟨k, v, hk, rfl, rfl, HO, HB⟩ := hrel
  by_cases hlt : k < l4.length
  ·
   obtain ⟨ad, e, q0, q1⟩ := at_T41 HR.out k (by omega) (by omega)
   cases e
   replace q0 := (HB.out.cell (World.block_lt_of_cell? w _ q0)).trans q0; replace q1 := (HB.out.cell (World.block_lt_of_cell? w _ q1)).trans q1
   simp only [Int.toNat_natCast] at q0 q1
   obtain ⟨x, hx⟩ : ∃ x, x = rd_T41 l4 k := ⟨_, rfl⟩
   rw [← hx] at q0 q1
   have HX : qab ((l4.take (k + 1)).map (·.f1) = (l4.take k).map (·.f1) ++ [x.f1]) := ⟨by rw [hx, List.map_take, List.map_take, List.take_succ, List.getElem?_eq_getElem (by simpa using hlt)]; simp [rd_T41, hlt]⟩
   clear hx
   have hlen : ((l4.take k).map (·.f1)).length ≤ 100000 := by simp; omega
   have HL := qab.mk hlen
   clear hlen
   go_upto_region 5 with ((with_reducible refine qam (N := 5) rfl ?_); refine ze 5 #[.int .i64 0, .int .i64 0] 41 ?_; intro ge hg_ge w4 hbox hb; have BKge := qab.mk hbox; have n_HB := qab.mk (qae HB.out hb); have GEge : w.heap.size ≤ ge := (by rw [hg_ge]; exact HB.out.size); clear HB; have HB := n_HB; clear n_HB; obtain ⟨hfge, hcge_0, hcge_1⟩ := qz2 BKge.out; replace HO := qab.mk (Kd.qal HO.out hb); clear hbox hb hg_ge)
   clear q0 q1 hfge hcge_0 hcge_1
   have he_ : setAll w4 ge [.int .i64 x.f0, .int .i64 x.f1] 0 = ((w4.setCell ⟨ge, 0, none⟩ (.int .i64 x.f0)).setCell ⟨ge, 1, none⟩ (.int .i64 x.f1)) := rfl; have hbl := setAll_below GEge [.int .i64 x.f0, .int .i64 x.f1] 0 _ HB.out; have hbx : (setAll w4 ge [.int .i64 x.f0, .int .i64 x.f1] 0).heap[ge]? = some (.cells #[.int .i64 x.f0, .int .i64 x.f1] 41 (0, 0)) := setAll_new [.int .i64 x.f0, .int .i64 x.f1] [.int .i64 0, .int .i64 0] BKge.out rfl; have hy_HO := setAll_R (g := ge) (by decide) [.int .i64 x.f0, .int .i64 x.f1] 0 w4 _ BKge.out HO.out; rw [he_] at hy_HO hbl hbx ; clear he_; generalize ((w4.setCell ⟨ge, 0, none⟩ (.int .i64 x.f0)).setCell ⟨ge, 1, none⟩ (.int .i64 x.f1)) = w5 at hy_HO hbl hbx  ⊢; clear HB BKge; have HB := qab.mk hbl; have BKge := qab.mk hbx; clear hbl hbx; clear HO; have HO := qab.mk hy_HO; clear hy_HO
   obtain ⟨hfge, hcge_0, hcge_1⟩ := qz2 BKge.out
   go_wp2_with ((with_reducible refine gate_builtin (b := .append) (xs := #[.tmp 16, .tmp 19]) rfl ?_); at_builtin; refine Kd.R_append (Kd.int .i64) (w0 := w) w.heap.size rfl (.tmp 16) (.tmp 19) 23 3 (.int .i64 0) 8 rfl Try.underlying23 info3 rfl (by decide) (by omega) v ((l4.take k).map (·.f1)) x.f1 [.int .i64 x.f1] (fun _ => True) (fun _ => False) rfl rfl ?aP (fun _ hk => hk.elim) ?aF ?aO ?aB ?aS ?aL ?_; (case aP => exact rfl); (case aF => exact fun _ _ => trivial); (case aO => exact HO.out); (case aB => exact HB.out); (case aS => exact HB.out.size); (case aL => have := HL.out; omega); intro v1 w1 ho hB hg hat; have HO1 := qab.mk ho; have HB1 := qab.mk hB; clear ho hB hg hat)
   go_roundw
   case rel => exact ⟨k + 1, v1, by omega, by go_num, rfl, ⟨by rw [HX.out]; exact HO1.out⟩, HB1⟩
   case measure => simp [intOf]; omega
  ·
   have hk' : k = l4.length := by omega
   have HO1 : qab (Kd.R (Kd.int .i64) 3 wr w.heap.size (fun _ => True) v (l4.map (·.f1))) := ⟨by have h := HO.out; rwa [hk', List.take_length] at h⟩
   clear hk' HO
   go_wp2
   go_ret
   exact ⟨v, rfl, HO1.out, HB.out⟩
theorem least_calls (g : Nat) (v0 v1 v2 v3 v5 : Value) (A4 : Option Addr) (c4 : Nat) (l4 : List S41) (d : Int) (w : World) (hr : Kd.C k41 w A4 l4.length l4) (h15 : l4.length ≤ 100000) (hb : w.heap[g]? = some (.cells #[v0, v1, v2, v3, .slice A4 l4.length c4, v5, .int .i64 d] 123 (0, 0))) :
  Calls Try.prog 59 #[.pointer (some ⟨g, 0, none⟩)] w fun e w' => ∃ v, e = .returned v ∧ Kd.R (Kd.int .i64) 3 w' w.heap.size (fun _ => True) v (l4.map (·.f0)) ∧ Below w.heap.size w w' := by
 have hu123 := Try.underlying123
 have hu27 := Try.underlying27
 have hu41 := Try.underlying41
 have HR := qab.mk hr
 have HB := qab.mk (Below.refl w.heap.size w)
 have q4 : w.cell? ⟨g, 4, none⟩ = some (.slice A4 l4.length c4) := (qaa hb 4).trans rfl
 have HO : qab (Kd.R (Kd.int .i64) 3 w w.heap.size (fun _ => True) (.slice none 0 0) ((l4.take 0).map (·.f0))) := ⟨Kd.R_nil _ _ _ _ _⟩
 clear hr hb
 go_enter Try.func59, Try.ntmps59
 go_wp2
 go_loopw [3, 12] (fun s3 s12 wr => ∃ (k : Nat) (v : Value), k ≤ l4.length ∧ s12 = .int .i64 k ∧ v = s3 ∧ qab (Kd.R (Kd.int .i64) 3 wr w.heap.size (fun _ => True) v ((l4.take k).map (·.f0))) ∧ qab (Below w.heap.size w wr)) (fun _ s _ => l4.length - (intOf s).toNat)
 case atStart => exact ⟨0, _, by omega, rfl, rfl, HO, HB⟩
 case round =>
  clear HB HO q4
  obtain ⟨k, v, hk, rfl, rfl, HO, HB⟩ := hrel
  by_cases hlt : k < l4.length
  ·
   obtain ⟨ad, e, q0, q1⟩ := at_T41 HR.out k (by omega) (by omega)
   cases e
   replace q0 := (HB.out.cell (World.block_lt_of_cell? w _ q0)).trans q0; replace q1 := (HB.out.cell (World.block_lt_of_cell? w _ q1)).trans q1
   simp only [Int.toNat_natCast] at q0 q1
   obtain ⟨x, hx⟩ : ∃ x, x = rd_T41 l4 k := ⟨_, rfl⟩
   rw [← hx] at q0 q1
   have HX : qab ((l4.take (k + 1)).map (·.f0) = (l4.take k).map (·.f0) ++ [x.f0]) := ⟨by rw [hx, List.map_take, List.map_take, List.take_succ, List.getElem?_eq_getElem (by simpa using hlt)]; simp [rd_T41, hlt]⟩
   clear hx
   have hlen : ((l4.take k).map (·.f0)).length ≤ 100000 := by simp; omega
   have HL := qab.mk hlen
   clear hlen
   go_upto_region 5 with ((with_reducible refine qam (N := 5) rfl ?_); refine ze 5 #[.int .i64 0, .int .i64 0] 41 ?_; intro ge hg_ge w4 hbox hb; have BKge := qab.mk hbox; have n_HB := qab.mk (qae HB.out hb); have GEge : w.heap.size ≤ ge := (by rw [hg_ge]; exact HB.out.size); clear HB; have HB := n_HB; clear n_HB; obtain ⟨hfge, hcge_0, hcge_1⟩ := qz2 BKge.out; replace HO := qab.mk (Kd.qal HO.out hb); clear hbox hb hg_ge)
   clear q0 q1 hfge hcge_0 hcge_1
   have he_ : setAll w4 ge [.int .i64 x.f0, .int .i64 x.f1] 0 = ((w4.setCell ⟨ge, 0, none⟩ (.int .i64 x.f0)).setCell ⟨ge, 1, none⟩ (.int .i64 x.f1)) := rfl; have hbl := setAll_below GEge [.int .i64 x.f0, .int .i64 x.f1] 0 _ HB.out; have hbx : (setAll w4 ge [.int .i64 x.f0, .int .i64 x.f1] 0).heap[ge]? = some (.cells #[.int .i64 x.f0, .int .i64 x.f1] 41 (0, 0)) := setAll_new [.int .i64 x.f0, .int .i64 x.f1] [.int .i64 0, .int .i64 0] BKge.out rfl; have hy_HO := setAll_R (g := ge) (by decide) [.int .i64 x.f0, .int .i64 x.f1] 0 w4 _ BKge.out HO.out; rw [he_] at hy_HO hbl hbx ; clear he_; generalize ((w4.setCell ⟨ge, 0, none⟩ (.int .i64 x.f0)).setCell ⟨ge, 1, none⟩ (.int .i64 x.f1)) = w5 at hy_HO hbl hbx  ⊢; clear HB BKge; have HB := qab.mk hbl; have BKge := qab.mk hbx; clear hbl hbx; clear HO; have HO := qab.mk hy_HO; clear hy_HO
   obtain ⟨hfge, hcge_0, hcge_1⟩ := qz2 BKge.out
   go_wp2_with ((with_reducible refine gate_builtin (b := .append) (xs := #[.tmp 16, .tmp 19]) rfl ?_); at_builtin; refine Kd.R_append (Kd.int .i64) (w0 := w) w.heap.size rfl (.tmp 16) (.tmp 19) 23 3 (.int .i64 0) 8 rfl Try.underlying23 info3 rfl (by decide) (by omega) v ((l4.take k).map (·.f0)) x.f0 [.int .i64 x.f0] (fun _ => True) (fun _ => False) rfl rfl ?aP (fun _ hk => hk.elim) ?aF ?aO ?aB ?aS ?aL ?_; (case aP => exact rfl); (case aF => exact fun _ _ => trivial); (case aO => exact HO.out); (case aB => exact HB.out); (case aS => exact HB.out.size); (case aL => have := HL.out; omega); intro v1 w1 ho hB hg hat; have HO1 := qab.mk ho; have HB1 := qab.mk hB; clear ho hB hg hat)
   go_roundw
   case rel => exact ⟨k + 1, v1, by omega, by go_num, rfl, ⟨by rw [HX.out]; exact HO1.out⟩, HB1⟩
   case measure => simp [intOf]; omega
  ·
   have hk' : k = l4.length := by omega
   have HO1 : qab (Kd.R (Kd.int .i64) 3 wr w.heap.size (fun _ => True) v (l4.map (·.f0))) := ⟨by have h := HO.out; rwa [hk', List.take_length] at h⟩
   clear hk' HO
   go_wp2
   go_ret
   exact ⟨v, rfl, HO1.out, HB.out⟩
end Go.Proofs.Ytafkanmioinbiaa.SA
namespace Go.Proofs.Ytafkanmioinbiaa.SA
open Go.RowKit Go.Proofs.YtafkanmioinbiaaW.PrintWords Go.Proofs.YtafkanmioinbiaaW.PrintLast Go.Proofs.YtafkanmioinbiaaW.PrintMore
attribute [local go_sem] qax qaz max_two min_two qao qap qay qba
attribute [local go_sem] Oper.semAt_some
def spanAt (A B : List Int) (j : Nat) : S41 := ⟨rd A j, rd B j⟩
def mostY (p : Int) (l1 : List S44) (l2 : List Int) (l4 : List S41) (d : Int) : List Int := foulV p.toNat l1 l2 d (l4.map (·.f1))
def leastY (p : Int) (l1 : List S44) (l2 : List Int) (l4 : List S41) (d : Int) : List Int := foulV p.toNat l1 l2 d (l4.map (·.f0))
def yearsV (p : Int) (l1 : List S44) (l2 l3 : List Int) (l4 : List S41) (l5 : List S95) (l : List Int) : List S41 × Int :=
 if givenB p l1 l2 l3 l4 l5 l = true then ((List.range p.toNat).map (spanAt (mostY p l1 l2 l4 (maskV l)) (leastY p l1 l2 l4 (maskV l))), 0) else ([], 2)
structure YE (w : World) (gb gd g8 : Nat) (mc dc : Array Value) (A B : List Int) (k : Nat) (W : World) : Prop where
 b : W.heap[gb]? = some (.cells mc 27 (0, 0))
 d : W.heap[gd]? = some (.cells dc 123 (0, 0))
 hb : Below w.heap.size w W
 e : ∃ v0 v1, W.heap[g8]? = some (.cells #[v0, v1] 89 (0, 0)) ∧ (1 ≤ k → Kd.R (Kd.int .i64) 3 W w.heap.size (fun _ => True) v0 A) ∧ (2 ≤ k → Kd.R (Kd.int .i64) 3 W w.heap.size (fun _ => True) v1 B)
theorem YE.below {w W W' : World} {gb gd g8 : Nat} {mc dc : Array Value} {A B : List Int} {k : Nat} (h : YE w gb gd g8 mc dc A B k W) (hb : Below W.heap.size W W') : YE w gb gd g8 mc dc A B k W' := by
 obtain ⟨v0, v1, e1, e2, e3⟩ := h.e
 exact ⟨qad h.b hb, qad h.d hb, qae h.hb hb, v0, v1, qad e1 hb, fun h => Kd.qal (e2 h) hb, fun h => Kd.qal (e3 h) hb⟩
theorem YE.next {w W : World} {gb gd g8 : Nat} {mc dc : Array Value} {A B : List Int} {k : Nat} {v : Value} (h : YE w gb gd g8 mc dc A B k W) (hg : w.heap.size ≤ g8) (n1 : gb ≠ g8) (n2 : gd ≠ g8) (hk : k < 2) (hr : Kd.R (Kd.int .i64) 3 W w.heap.size (fun _ => True) v (if k = 0 then A else B)) : YE w gb gd g8 mc dc A B (k + 1) (W.setCell ⟨g8, k, none⟩ v) := by
 obtain ⟨v0, v1, e1, e2, e3⟩ := h.e
 refine ⟨blk_far (p := ⟨g8, k, none⟩) h.b n1 _, blk_far (p := ⟨g8, k, none⟩) h.d n2 _, qaj h.hb hg, ?_⟩
 have h2 := blk_set e1 k v
 have r := Kd.R_set hr e1 (by decide) k v
 rcases (by omega : k = 0 ∨ k = 1) with rfl | rfl
 ·
  exact ⟨v, v1, h2, fun _ => r, fun h => by omega⟩
 ·
  exact ⟨v0, v, h2, fun _ => Kd.R_set (e2 (by omega)) e1 (by decide) 1 v, fun _ => r⟩
def seep_Years.f (a0_0 : Int) (l0_1 : List (S44)) (l0_2 : List Int) (l0_3 : List Int) (l0_4 : List (S41)) (l0_5 : List (S95)) (l1 : List Int) : Option ((List (S41)) × Int) := some (yearsV a0_0 l0_1 l0_2 l0_3 l0_4 l0_5 l1)
theorem seep_Years.calls (a0_0 : Int) (A0_1 : Option Addr) (c0_1 : Nat) (l0_1 : List (S44)) (A0_2 : Option Addr) (c0_2 : Nat) (l0_2 : List Int) (A0_3 : Option Addr) (c0_3 : Nat) (l0_3 : List Int) (A0_4 : Option Addr) (c0_4 : Nat) (l0_4 : List (S41)) (A0_5 : Option Addr) (c0_5 : Nat) (l0_5 : List (S95)) (A1 : Option Addr) (c1 : Nat) (l1 : List Int) (r1 : List (S41)) (r2 : Int) (w : World) (hr0_1 : Kd.C k44 w A0_1 l0_1.length l0_1) (hc0_1 : l0_1.length ≤ c0_1) (hr0_2 : Kd.C (Kd.int .i64) w A0_2 l0_2.length l0_2) (hc0_2 : l0_2.length ≤ c0_2) (hr0_3 : Kd.C (Kd.int .i64) w A0_3 l0_3.length l0_3) (hc0_3 : l0_3.length ≤ c0_3) (hr0_4 : Kd.C k41 w A0_4 l0_4.length l0_4) (hc0_4 : l0_4.length ≤ c0_4) (hr0_5 : Kd.C k95 w A0_5 l0_5.length l0_5) (hc0_5 : l0_5.length ≤ c0_5) (hr1 : Kd.C (Kd.int .i64) w A1 l1.length l1) (hc1 : l1.length ≤ c1) (h : seep_Years.f a0_0 l0_1 l0_2 l0_3 l0_4 l0_5 l1 = some (r1, r2)) :
  Calls Try.prog 23 #[.agg #[.int .i64 a0_0, .slice A0_1 l0_1.length c0_1, .slice A0_2 l0_2.length c0_2, .slice A0_3 l0_3.length c0_3, .slice A0_4 l0_4.length c0_4, .slice A0_5 l0_5.length c0_5], .slice A1 l1.length c1] w fun e w' => ∃ v0_ : Value, e = .returned (.tuple #[v0_, .int .i64 r2]) ∧ Kd.R k41 41 w' w.heap.size (fun _ => True) v0_ r1 ∧ Below w.heap.size w w' := by
 have hp : yearsV a0_0 l0_1 l0_2 l0_3 l0_4 l0_5 l1 = (r1, r2) := Option.some.inj h
 clear h
 have hu27 := Try.underlying27
 have hu41 := Try.underlying41
 have hu89 := Try.underlying89
 have hu91 := Try.underlying91
 have hi0 : ∀ (f g : Value) (w : World), (Instr.index 91 (.agg #[f, g]) (.int .i64 0)).run Try.prog w = .ok f w := fun f g w => by rfl
 have hi1 : ∀ (f g : Value) (w : World), (Instr.index 91 (.agg #[f, g]) (.int .i64 1)).run Try.prog w = .ok g w := fun f g w => by rfl
 have HB := qab.mk (Below.refl w.heap.size w)
 cases hg : givenB a0_0 l0_1 l0_2 l0_3 l0_4 l0_5 l1 with
 | false =>
  obtain ⟨rfl, rfl⟩ : r1 = [] ∧ r2 = 2 := by
   unfold yearsV at hp
   rw [hg] at hp
   injection hp with h1 h2
   exact ⟨h1.symm, h2.symm⟩
  have HGIV : qab (∀ W, Below w.heap.size w W → Calls Try.prog 54 #[.agg #[.int .i64 a0_0, .slice A0_1 l0_1.length c0_1, .slice A0_2 l0_2.length c0_2, .slice A0_3 l0_3.length c0_3, .slice A0_4 l0_4.length c0_4, .slice A0_5 l0_5.length c0_5], .slice A1 l1.length c1] W fun e w' => e = .returned (.tuple #[.pointer none, .bool false]) ∧ Below W.heap.size W w') := ⟨fun W hW => given_false a0_0 A0_1 c0_1 l0_1 A0_2 c0_2 l0_2 A0_3 c0_3 l0_3 A0_4 c0_4 l0_4 A0_5 c0_5 l0_5 A1 c1 l1 W (Kd.qai hr0_1 hW) hc0_1 (Kd.qai hr0_2 hW) hc0_2 (Kd.qai hr0_3 hW) hc0_3 (Kd.qai hr0_4 hW) hc0_4 (Kd.qai hr0_5 hW) hc0_5 (Kd.qai hr1 hW) hc1 hg⟩
  clear hp hg hr0_1 hr0_2 hr0_3 hr0_4 hr0_5 hr1
  go_enter Try.func23, Try.ntmps23
  go_wp2_with (first | ((with_reducible refine qam (N := 2) rfl ?_); refine ze 2 #[.int .i64 a0_0, .slice A0_1 l0_1.length c0_1, .slice A0_2 l0_2.length c0_2, .slice A0_3 l0_3.length c0_3, .slice A0_4 l0_4.length c0_4, .slice A0_5 l0_5.length c0_5] 27 ?_; intro gb hg_gb w2 hbox hb; have BKgb := qab.mk hbox; have n_HB := qab.mk (qae HB.out hb); have GEgb : w.heap.size ≤ gb := (by rw [hg_gb]; exact HB.out.size); clear HB; have HB := n_HB; clear n_HB; obtain ⟨hfgb, hcgb_0, hcgb_1, hcgb_2, hcgb_3, hcgb_4, hcgb_5⟩ := qz6 BKgb.out; clear hbox hb hg_gb) | (go_at_call 54; (with_reducible refine (HGIV.out _ HB.out).mono ?_); rintro e wn ⟨rfl, hb⟩; replace BKgb := qab.mk (qad BKgb.out hb); replace HB := qab.mk (qae HB.out hb); clear hb; obtain ⟨hfgb, hcgb_0, hcgb_1, hcgb_2, hcgb_3, hcgb_4, hcgb_5⟩ := qz6 BKgb.out))
  go_ret2
  exact ⟨_, rfl, Kd.R_nil _ _ _ _ _, HB.out⟩
 | true =>
  have HV := qab.mk (valid_facts (given_valid hg))
  have hn4 := HV.out.n4
  have hpp := HV.out.pp
  obtain ⟨A, hA⟩ : ∃ A, A = mostY a0_0 l0_1 l0_2 l0_4 (maskV l1) := ⟨_, rfl⟩
  obtain ⟨B, hBE⟩ : ∃ B, B = leastY a0_0 l0_1 l0_2 l0_4 (maskV l1) := ⟨_, rfl⟩
  obtain ⟨rfl, rfl⟩ : r1 = (List.range a0_0.toNat).map (spanAt A B) ∧ r2 = 0 := by
   unfold yearsV at hp
   rw [hg, if_pos rfl, ← hA, ← hBE] at hp
   injection hp with h1 h2
   exact ⟨h1.symm, h2.symm⟩
  have HGIV : qab (∀ W, Below w.heap.size w W → Calls Try.prog 54 #[.agg #[.int .i64 a0_0, .slice A0_1 l0_1.length c0_1, .slice A0_2 l0_2.length c0_2, .slice A0_3 l0_3.length c0_3, .slice A0_4 l0_4.length c0_4, .slice A0_5 l0_5.length c0_5], .slice A1 l1.length c1] W fun e w' => ∃ g, e = .returned (.tuple #[.pointer (some ⟨g, 0, none⟩), .bool true]) ∧ W.heap.size ≤ g ∧ w'.heap[g]? = some (.cells #[.int .i64 a0_0, .slice A0_1 l0_1.length c0_1, .slice A0_2 l0_2.length c0_2, .slice A0_3 l0_3.length c0_3, .slice A0_4 l0_4.length c0_4, .slice A0_5 l0_5.length c0_5, .int .i64 (maskV l1 : Int)] 123 (0, 0)) ∧ Below W.heap.size W w') := ⟨fun W hW => given_true a0_0 A0_1 c0_1 l0_1 A0_2 c0_2 l0_2 A0_3 c0_3 l0_3 A0_4 c0_4 l0_4 A0_5 c0_5 l0_5 A1 c1 l1 W (Kd.qai hr0_1 hW) hc0_1 (Kd.qai hr0_2 hW) hc0_2 (Kd.qai hr0_3 hW) hc0_3 (Kd.qai hr0_4 hW) hc0_4 (Kd.qai hr0_5 hW) hc0_5 (Kd.qai hr1 hW) hc1 hg⟩
  have HMO : qab (∀ gd W, Below w.heap.size w W → W.heap[gd]? = some (.cells #[.int .i64 a0_0, .slice A0_1 l0_1.length c0_1, .slice A0_2 l0_2.length c0_2, .slice A0_3 l0_3.length c0_3, .slice A0_4 l0_4.length c0_4, .slice A0_5 l0_5.length c0_5, .int .i64 (maskV l1 : Int)] 123 (0, 0)) → Calls Try.prog 58 #[.pointer (some ⟨gd, 0, none⟩)] W fun e w' => ∃ v, e = .returned v ∧ Kd.R (Kd.int .i64) 3 w' W.heap.size (fun _ => True) v (l0_4.map (·.f1)) ∧ Below W.heap.size W w') := ⟨fun gd W hW hd => most_calls gd _ _ _ _ _ _ _ l0_4 _ W (Kd.qai hr0_4 hW) (by omega) hd⟩
  have HLE : qab (∀ gd W, Below w.heap.size w W → W.heap[gd]? = some (.cells #[.int .i64 a0_0, .slice A0_1 l0_1.length c0_1, .slice A0_2 l0_2.length c0_2, .slice A0_3 l0_3.length c0_3, .slice A0_4 l0_4.length c0_4, .slice A0_5 l0_5.length c0_5, .int .i64 (maskV l1 : Int)] 123 (0, 0)) → Calls Try.prog 59 #[.pointer (some ⟨gd, 0, none⟩)] W fun e w' => ∃ v, e = .returned v ∧ Kd.R (Kd.int .i64) 3 w' W.heap.size (fun _ => True) v (l0_4.map (·.f0)) ∧ Below W.heap.size W w') := ⟨fun gd W hW hd => least_calls gd _ _ _ _ _ _ _ l0_4 _ W (Kd.qai hr0_4 hW) (by omega) hd⟩
  have HFO : qab (∀ gd W (ad : Addr) (n c : Nat) (ths : List Int), n = ths.length → ths.length ≤ 100000 → Below w.heap.size w W → W.heap[gd]? = some (.cells #[.int .i64 a0_0, .slice A0_1 l0_1.length c0_1, .slice A0_2 l0_2.length c0_2, .slice A0_3 l0_3.length c0_3, .slice A0_4 l0_4.length c0_4, .slice A0_5 l0_5.length c0_5, .int .i64 (maskV l1 : Int)] 123 (0, 0)) → Kd.C (Kd.int .i64) W (some ad) ths.length ths → Calls Try.prog 56 #[.pointer (some ⟨gd, 0, none⟩), .slice (some ad) n c] W fun e w' => ∃ v, e = .returned v ∧ Kd.R (Kd.int .i64) 3 w' W.heap.size (fun _ => True) v (foulV a0_0.toNat l0_1 l0_2 (maskV l1) ths) ∧ Below W.heap.size W w') := ⟨fun gd W ad n c ths hn hl hW hd ht => by subst hn; exact foulG a0_0 A0_1 c0_1 l0_1 A0_2 c0_2 l0_2 A0_3 c0_3 l0_3 A0_4 c0_4 l0_4 A0_5 c0_5 l0_5 (maskV l1 : Int) gd _ c ths W (Kd.qai hr0_1 hW) hc0_1 (Kd.qai hr0_2 hW) hc0_2 (Kd.qai hr0_3 hW) hc0_3 (Kd.qai hr0_4 hW) hc0_4 (Kd.qai hr0_5 hW) hc0_5 ht hl HV.out hd⟩
  have HA := qab.mk hA
  have HBE := qab.mk hBE
  clear hp hg hr0_1 hr0_2 hr0_3 hr0_4 hr0_5 hr1 hA hBE
  go_enter Try.func23, Try.ntmps23
  go_upto_region 5 with (first | ((with_reducible refine qam (N := 2) rfl ?_); refine ze 2 #[.int .i64 a0_0, .slice A0_1 l0_1.length c0_1, .slice A0_2 l0_2.length c0_2, .slice A0_3 l0_3.length c0_3, .slice A0_4 l0_4.length c0_4, .slice A0_5 l0_5.length c0_5] 27 ?_; intro gb hg_gb w2 hbox hb; have BKgb := qab.mk hbox; have n_HB := qab.mk (qae HB.out hb); have GEgb : w.heap.size ≤ gb := (by rw [hg_gb]; exact HB.out.size); clear HB; have HB := n_HB; clear n_HB; obtain ⟨hfgb, hcgb_0, hcgb_1, hcgb_2, hcgb_3, hcgb_4, hcgb_5⟩ := qz6 BKgb.out; clear hbox hb hg_gb) | (go_at_call 54; (with_reducible refine (HGIV.out _ HB.out).mono ?_); rintro e wn ⟨gd, rfl, GEgd, hbk, hb⟩; have BKgd := qab.mk hbk; clear hbk; have HBo := HB; replace BKgb := qab.mk (qad BKgb.out hb); replace HB := qab.mk (qae HB.out hb); clear hb; have GEd : w.heap.size ≤ gd := Nat.le_trans (by first | exact HBo.out.size | omega) GEgd; obtain ⟨hfgb, hcgb_0, hcgb_1, hcgb_2, hcgb_3, hcgb_4, hcgb_5⟩ := qz6 BKgb.out) | ((with_reducible refine qam (N := 8) rfl ?_); refine ze 8 #[.slice none 0 0, .slice none 0 0] 89 ?_; intro g8 hg_g8 w5 hbox hb; have BKg8 := qab.mk hbox; have ne_gb_g8 : gb ≠ g8 := (by rw [hg_g8]; exact Nat.ne_of_lt (blk_lt BKgb.out)); have ne_gd_g8 : gd ≠ g8 := (by rw [hg_g8]; exact Nat.ne_of_lt (blk_lt BKgd.out)); replace BKgb := qab.mk (qad BKgb.out hb); replace BKgd := qab.mk (qad BKgd.out hb); have n_HB := qab.mk (qae HB.out hb); have GEg8 : w.heap.size ≤ g8 := (by rw [hg_g8]; exact HB.out.size); clear HB; have HB := n_HB; clear n_HB; obtain ⟨hfg8, hcg8_0, hcg8_1⟩ := qz2 BKg8.out; clear hbox hb hg_g8))
  have YE0 : qab (YE w gb gd g8 #[.int .i64 a0_0, .slice A0_1 l0_1.length c0_1, .slice A0_2 l0_2.length c0_2, .slice A0_3 l0_3.length c0_3, .slice A0_4 l0_4.length c0_4, .slice A0_5 l0_5.length c0_5] #[.int .i64 a0_0, .slice A0_1 l0_1.length c0_1, .slice A0_2 l0_2.length c0_2, .slice A0_3 l0_3.length c0_3, .slice A0_4 l0_4.length c0_4, .slice A0_5 l0_5.length c0_5, .int .i64 (maskV l1 : Int)] A B 0 w5) := ⟨⟨BKgb.out, BKgd.out, HB.out, _, _, BKg8.out, fun h => by omega, fun h => by omega⟩⟩
  go_wp2
  go_loopw [26] (fun s26 wr => ∃ k : Nat, k ≤ 2 ∧ s26 = .int .i64 k ∧ qab (YE w gb gd g8 #[.int .i64 a0_0, .slice A0_1 l0_1.length c0_1, .slice A0_2 l0_2.length c0_2, .slice A0_3 l0_3.length c0_3, .slice A0_4 l0_4.length c0_4, .slice A0_5 l0_5.length c0_5] #[.int .i64 a0_0, .slice A0_1 l0_1.length c0_1, .slice A0_2 l0_2.length c0_2, .slice A0_3 l0_3.length c0_3, .slice A0_4 l0_4.length c0_4, .slice A0_5 l0_5.length c0_5, .int .i64 (maskV l1 : Int)] A B k wr)) (fun s _ => 2 - (intOf s).toNat)
  case atStart => exact ⟨0, by omega, rfl, YE0⟩
  case round =>
   clear YE0 HB BKgb BKgd BKg8 HBo GEgd hfg8 hcg8_0 hcg8_1
   obtain ⟨k, hk, rfl, HY⟩ := hrel
   rcases (by omega : k = 0 ∨ k = 1 ∨ k = 2) with rfl | rfl | rfl
   ·
    go_wp2_with (first | (go_at_call 58; (with_reducible refine (HMO.out gd _ HY.out.hb HY.out.d).mono ?_); rintro e wn ⟨v, rfl, hR, hb⟩; obtain ⟨ad, ca, e⟩ := Kd.R_slice1 hR (by simp; omega); subst e; have HTH := qab.mk (Kd.R_reads' hR).2.2; replace HY := qab.mk (HY.out.below hb); clear hR hb) | (go_at_call 56; (with_reducible refine (HFO.out gd _ ad _ ca (l0_4.map (·.f1)) (by simp) (by simp; omega) HY.out.hb HY.out.d HTH.out).mono ?_); rintro e wo ⟨v, rfl, hR, hb⟩; obtain ⟨aF, cF, eF⟩ := Kd.R_slice1 hR (by rw [foulV_length]; omega); subst eF; have HRV := qab.mk (Kd.R_lower hR HY.out.hb.size); replace HY := qab.mk (HY.out.below hb); clear hR hb; obtain ⟨_, _, hbg, _⟩ := HY.out.e; have frg := qac hbg; obtain ⟨_, hcg⟩ : ∃ x, wo.cell? ⟨g8, 0, none⟩ = some x := ⟨_, (qaa hbg 0).trans rfl⟩; clear hbg))
    go_roundw
    case rel => exact ⟨1, by omega, by go_num, ⟨HY.out.next GEg8 ne_gb_g8 ne_gd_g8 (by omega) (by have h := HRV.out; rw [if_pos (by decide), HA.out]; exact h)⟩⟩
    case measure => simp [intOf]
   ·
    go_wp2_with (first | (go_at_call 59; (with_reducible refine (HLE.out gd _ HY.out.hb HY.out.d).mono ?_); rintro e wn ⟨v, rfl, hR, hb⟩; obtain ⟨ad, ca, e⟩ := Kd.R_slice1 hR (by simp; omega); subst e; have HTH := qab.mk (Kd.R_reads' hR).2.2; replace HY := qab.mk (HY.out.below hb); clear hR hb) | (go_at_call 56; (with_reducible refine (HFO.out gd _ ad _ ca (l0_4.map (·.f0)) (by simp) (by simp; omega) HY.out.hb HY.out.d HTH.out).mono ?_); rintro e wo ⟨v, rfl, hR, hb⟩; obtain ⟨aF, cF, eF⟩ := Kd.R_slice1 hR (by rw [foulV_length]; omega); subst eF; have HRV := qab.mk (Kd.R_lower hR HY.out.hb.size); replace HY := qab.mk (HY.out.below hb); clear hR hb; obtain ⟨_, _, hbg, _⟩ := HY.out.e; have frg := qac hbg; obtain ⟨_, hcg⟩ : ∃ x, wo.cell? ⟨g8, 1, none⟩ = some x := ⟨_, (qaa hbg 1).trans rfl⟩; clear hbg))
    go_roundw
    case rel => exact ⟨2, by omega, by go_num, ⟨HY.out.next GEg8 ne_gb_g8 ne_gd_g8 (by omega) (by have h := HRV.out; rw [if_neg (by decide), HBE.out]; exact h)⟩⟩
    case measure => simp [intOf]
   ·
    obtain ⟨v0, v1, hb8, hr0, hr1⟩ := HY.out.e
    have BKg8 := qab.mk hb8
    have HA1 := qab.mk (hr0 (by omega))
    have HB1 := qab.mk (hr1 (by omega))
    have hla : A.length = a0_0.toNat := by rw [HA.out]; exact foulTo_length _ _ _ _ _ _
    have hlb : B.length = a0_0.toNat := by rw [HBE.out]; exact foulTo_length _ _ _ _ _ _
    clear hb8 hr0 hr1 hk
    obtain ⟨a, ca, e⟩ := Kd.R_slice1 HA1.out (by omega)
    subst e
    obtain ⟨b, cb, e⟩ := Kd.R_slice1 HB1.out (by omega)
    subst e
    have HLA := qab.mk (And.intro hla hlb)
    clear hla hlb
    have f0 : wr.cell? ⟨gb, 0, none⟩ = some (.int .i64 a0_0) := (qaa HY.out.b 0).trans rfl
    have HO : qab (Kd.R k41 41 wr w.heap.size (fun _ => True) (.slice none 0 0) ((List.range 0).map (spanAt A B))) := ⟨Kd.R_nil _ _ _ _ _⟩
    go_wp2
    have BKgb := qab.mk HY.out.b
    have HB := qab.mk HY.out.hb
    clear HY f0
    go_loopw [11, 39] (fun s11 s39 wr => ∃ (j : Nat) (v : Value), (j : Int) ≤ a0_0 ∧ s39 = .int .i64 j ∧ v = s11 ∧ qab (Kd.R k41 41 wr w.heap.size (fun _ => True) v ((List.range j).map (spanAt A B))) ∧ qab (Kd.R (Kd.int .i64) 3 wr w.heap.size (fun _ => True) (.slice (some a) A.length ca) A) ∧ qab (Kd.R (Kd.int .i64) 3 wr w.heap.size (fun _ => True) (.slice (some b) B.length cb) B) ∧ qab (wr.heap[g8]? = some (.cells #[.slice (some a) A.length ca, .slice (some b) B.length cb] 89 (0, 0))) ∧ qab (wr.heap[gb]? = some (.cells #[.int .i64 a0_0, .slice A0_1 l0_1.length c0_1, .slice A0_2 l0_2.length c0_2, .slice A0_3 l0_3.length c0_3, .slice A0_4 l0_4.length c0_4, .slice A0_5 l0_5.length c0_5] 27 (0, 0))) ∧ qab (Below w.heap.size w wr)) (fun _ s _ => a0_0.toNat - (intOf s).toNat)
    case atStart => exact ⟨0, _, by omega, rfl, rfl, HO, HA1, HB1, BKg8, BKgb, HB⟩
    case round =>
     clear HO HA1 HB1 BKg8 BKgb HB
     obtain ⟨j, v, hj, rfl, rfl, HO, HA, HBB, BKg8, BKgb, HB⟩ := hrel
     by_cases hlt : (j : Int) < a0_0
     ·
      have hja : j < A.length := by have := HLA.out; omega
      have hjb : j < B.length := by have := HLA.out; omega
      obtain ⟨_, e, q2⟩ := Kd.at_int (Kd.R_reads' HA.out).2.2 j (by omega) (by omega)
      cases e
      obtain ⟨_, e, q3⟩ := Kd.at_int (Kd.R_reads' HBB.out).2.2 j (by omega) (by omega)
      cases e
      simp only [Int.toNat_natCast] at q2 q3
      have q0 : wr.cell? ⟨g8, 0, none⟩ = some (.slice (some a) A.length ca) := (qaa BKg8.out 0).trans rfl
      have q1 : wr.cell? ⟨g8, 1, none⟩ = some (.slice (some b) B.length cb) := (qaa BKg8.out 1).trans rfl
      go_upto_region 14 with fail
      refine start_ (n := 15) (S := (fun w' => (w'.cell? ⟨g8, 0, none⟩ = some (.slice (some a) A.length ca) ∧ w'.cell? ⟨g8, 1, none⟩ = some (.slice (some b) B.length cb) ∧ w'.cell? (a.add j) = some (.int .i64 (rd A j)) ∧ w'.cell? (b.add j) = some (.int .i64 (rd B j))))) (ds := [12, 13]) (msk 15 0) (by kernel_rfl) rfl rfl ⟨q0, q1, q2, q3⟩ (fun hHeld => ?_)
      have HO2 := qab.mk (Kd.R_drew HO.out); have HB2 := qab.mk (qaq HB.out); have HA2 := qab.mk (Kd.R_drew HA.out); have HBB2 := qab.mk (Kd.R_drew HBB.out); have BK2 := qab.mk (qaw BKg8.out); have BKb2 := qab.mk (qaw BKgb.out)
      generalize wr.drew = wq at hHeld HO2 HB2 HA2 HBB2 BK2 BKb2 ⊢
      refine zq 0 1 42 ?_
      refine zq 1 2 43 ?_
      refine zt4 2 3 44 hHeld ?_
      refine zq 3 4 45 ?_
      refine zq 4 5 46 ?_
      refine zt4 5 6 47 hHeld ?_
      refine zq 6 7 48 ?_
      refine zt4 7 8 49 hHeld ?_
      refine zq 8 9 50 ?_
      refine zq 9 10 51 ?_
      refine zt4 10 11 52 hHeld ?_
      refine zq 11 12 53 ?_
      refine last_ (i := 12) (N := some 54) (msk 15 13) rfl rfl (by kernel_rfl) (by decide) (fun K hK => ?_); refine value_ (w1 := ?_) (v := ?_) (by rfl) rfl ?_ ?_; rotate_left 2; (focus (go_simp; constructor; rfl; rfl)); refine hK.out _ _ ?_; clear hK K; refine zn 54 ?_
      refine last_ (i := 13) (N := some 55) (msk 15 14) rfl rfl (by kernel_rfl) (by decide) (fun K hK => ?_)
      refine Kd.R_append_step k41 (w0 := w) w.heap.size (by rfl) (.tmp 42) (.tmp 54) 24 41 (.agg #[.int .i64 0, .int .i64 0]) 16 rfl Try.underlying24 info41 rfl (by decide) (by omega) v ((List.range j).map (spanAt A B)) (spanAt A B j) [.int .i64 (rd A j), .int .i64 (rd B j)] (fun _ => True) (fun _ => False) rfl rfl ?aP (fun _ hk => hk.elim) ?aF ?aO ?aB ?aS ?aL ?_; (case aP => exact k41_mkM _ _ _ (spanAt A B j)); (case aF => exact fun _ _ => trivial); (case aO => exact HO2.out); (case aB => exact HB2.out); (case aS => exact HB2.out.size); (case aL => simp; omega); intro v1 w1 ho hB hg hat
      have HO3 := qab.mk ho; have HB3 := qab.mk hB; have HA3 := qab.mk (Kd.R_over' HA2.out (Kd.R_typed HO2.out) (by decide) hg); have HBB3 := qab.mk (Kd.R_over' HBB2.out (Kd.R_typed HO2.out) (by decide) hg); have BK3 := qab.mk (blk_grown BK2.out hg (Kd.R_ne HO2.out BK2.out (by decide))); have BKb3 := qab.mk (blk_grown BKb2.out hg (Kd.R_ne HO2.out BKb2.out (by decide))); clear ho hB hg hat
      refine hK.out _ _ ?_; clear hK K; refine zn 55 ?_
      refine zq 14 15 11 ?_
      refine done_ (by kernel_rfl) ?_
      go_wp2
      go_roundw
      case rel => exact ⟨j + 1, v1, by omega, by go_num, rfl, ⟨by rw [List.range_succ, List.map_append]; exact HO3.out⟩, HA3, HBB3, BK3, BKb3, HB3⟩
      case measure => simp [intOf]; omega
     ·
      have hjE : j = a0_0.toNat := by omega
      have HO4 : qab (Kd.R k41 41 wr w.heap.size (fun _ => True) v ((List.range a0_0.toNat).map (spanAt A B))) := ⟨by rw [← hjE]; exact HO.out⟩
      clear hjE HO
      go_wp2
      go_ret2
      exact ⟨v, rfl, HO4.out, HB.out⟩
end Go.Proofs.Ytafkanmioinbiaa.SA
