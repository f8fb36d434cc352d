/- What functions of the program answer. No condition. -/
import Derived.Test.YtipphcjgdebecaaSC
import Derived.Test.YtipphcjgdebecaaPlB
import Derived.Test.YtipphcjgdebecaaSF
import Derived.Test.YtipphcjgdebecaaPlE
import Derived.Test.YtipphcjgdebecaaSD
import Derived.Test.YtipphcjgdebecaaSJ
import Derived.Test.YtipphcjgdebecaaSM
import Derived.Test.YtipphcjgdebecaaPlC
set_option linter.all false
set_option maxRecDepth 100000
set_option maxHeartbeats 8000000
namespace Go.Proofs.Ytipphcjgdebecaa.PA
open Go.RowKit Go.Proofs.YtipphcjgdebecaaW.PrintWords Go.Proofs.YtipphcjgdebecaaW.PrintLast Go.Proofs.YtipphcjgdebecaaW.PrintMore
attribute [local go_sem] qaw qay max_two min_two qas qat qax qaz
mutual
def talikref04_Orders.l0 : Nat → Int → List (List Int) → Int → List (S39) → List (S37) → List (List Int) → Option ((List (List Int)))
 | 0, _, _, _, _, _, _ => none
 | k + 1, x1, x5, x6, x202000, x202001, x202002 => if x6 < (x202000.length : Int) then ((talikref04_Has.f k x1 x6).bind fun t205 => (if t205 = true then (talikref04_Orders.l1 k x1 x5 x6 ([] : List (List Int)) 0 x202000 x202001 x202002) else (talikref04_Orders.l0 k x1 x5 (wrap64 (x6 + 1)) x202000 x202001 x202002))) else (some x5)
def talikref04_Orders.l1 : Nat → Int → List (List Int) → Int → List (List Int) → Int → List (S39) → List (S37) → List (List Int) → Option ((List (List Int)))
 | 0, _, _, _, _, _, _, _, _ => none
 | k + 1, x1, x5, x6, x7, x8, x202000, x202001, x202002 => if x8 < (x5.length : Int) then (talikref04_Orders.l2 k x1 x5 x6 x7 x8 0 x202000 x202001 x202002) else (talikref04_Orders.l0 k x1 x7 (wrap64 (x6 + 1)) x202000 x202001 x202002)
def talikref04_Orders.l2 : Nat → Int → List (List Int) → Int → List (List Int) → Int → Int → List (S39) → List (S37) → List (List Int) → Option ((List (List Int)))
 | 0, _, _, _, _, _, _, _, _, _ => none
 | k + 1, x1, x5, x6, x7, x8, x9, x202000, x202001, x202002 => if x9 < (x202000.length : Int) then (talikref04_Orders.l3 k x1 x5 x6 x7 x8 x9 false 0 x202000 x202001 x202002) else (talikref04_Orders.l1 k x1 x5 x6 x7 (wrap64 (x8 + 1)) x202000 x202001 x202002)
def talikref04_Orders.l3 : Nat → Int → List (List Int) → Int → List (List Int) → Int → Int → Bool → Int → List (S39) → List (S37) → List (List Int) → Option ((List (List Int)))
 | 0, _, _, _, _, _, _, _, _, _, _, _ => none
 | k + 1, x1, x5, x6, x7, x8, x9, x10, x11, x202000, x202001, x202002 => if 0 ≤ x8 then (if x8 < (x5.length : Int) then (if x11 < ((rd_L1 x5 x8).length : Int) then (if x10 = true then (talikref04_Orders.l3 k x1 x5 x6 x7 x8 x9 true (wrap64 (x11 + 1)) x202000 x202001 x202002) else (if 0 ≤ x11 then (talikref04_Orders.l3 k x1 x5 x6 x7 x8 x9 ((rd (rd_L1 x5 x8) x11) == x9) (wrap64 (x11 + 1)) x202000 x202001 x202002) else (none))) else ((talikref04_Has.f k x1 x9).bind fun t209 => (if t209 = true then (if x10 = true then (talikref04_Orders.l2 k x1 x5 x6 x7 x8 (wrap64 (x9 + 1)) x202000 x202001 x202002) else (if ([] : List Int).length + (rd_L1 x5 x8).length < 17592186044416 then ((some (([] : List Int) ++ (rd_L1 x5 x8) : List Int)).bind fun y211 => (if y211.length < 17592186044416 then (if x7.length < 5864062014805 then (talikref04_Orders.l2 k x1 x5 x6 (x7 ++ [(y211 ++ [x9])]) x8 (wrap64 (x9 + 1)) x202000 x202001 x202002) else (none)) else (none))) else (none))) else (talikref04_Orders.l2 k x1 x5 x6 x7 x8 (wrap64 (x9 + 1)) x202000 x202001 x202002)))) else (none)) else (none)
end
def talikref04_Orders.f (k : Nat) (l0_0 : List (S39)) (l0_1 : List (S37)) (l0_2 : List (List Int)) (a1 : Int) : Option ((List (List Int))) := talikref04_Orders.l0 k a1 (([[]] : List (List Int))) 0 l0_0 l0_1 l0_2
theorem talikref04_Orders.calls (k : Nat) (A0_0 : Option Addr) (c0_0 : Nat) (l0_0 : List (S39)) (A0_1 : Option Addr) (c0_1 : Nat) (l0_1 : List (S37)) (A0_2 : Option Addr) (c0_2 : Nat) (l0_2 : List (List Int)) (a1 : Int) (r : List (List Int)) (w : World) (hr0_0 : Kd.C k39 w A0_0 l0_0.length l0_0) (hc0_0 : l0_0.length ≤ c0_0) (hr0_1 : Kd.C k37 w A0_1 l0_1.length l0_1) (hc0_1 : l0_1.length ≤ c0_1) (hr0_2 : Kd.C (Kd.slice 3 (Kd.int .i64)) w A0_2 l0_2.length l0_2) (hc0_2 : l0_2.length ≤ c0_2) (h : talikref04_Orders.f k l0_0 l0_1 l0_2 a1 = some r) :
  Calls Try.prog 66 #[.agg #[.slice A0_0 l0_0.length c0_0, .slice A0_1 l0_1.length c0_1, .slice A0_2 l0_2.length c0_2], .int .i64 a1] w fun e w' => ∃ v0_ : Value, e = .returned (v0_) ∧ Kd.S (Kd.slice 3 (Kd.int .i64)) 47 w' w.heap.size (fun _ => True) v0_ r ∧ Below w.heap.size w w' := by
 have hu26 := Try.underlying26
 have HR0_0 := qab.mk hr0_0
 have HC0_0 := qab.mk hc0_0
 clear hr0_0 hc0_0
 have HR0_1 := qab.mk hr0_1
 have HC0_1 := qab.mk hc0_1
 clear hr0_1 hc0_1
 have HR0_2 := qab.mk hr0_2
 have HC0_2 := qab.mk hc0_2
 clear hr0_2 hc0_2
 have HB := qab.mk (Below.refl w.heap.size w)
 have H : (talikref04_Orders.l0 k a1 (([[]] : List (List Int))) 0 l0_0 l0_1 l0_2) = some r := h
 clear h
 obtain ⟨y202, hy202⟩ : ∃ y_ : List (List Int), y_ = (([[]] : List (List Int))) := ⟨_, rfl⟩
 replace H : (talikref04_Orders.l0 k a1 y202 0 l0_0 l0_1 l0_2) = some r := by first | (rw [hy202]; with_reducible exact H) | (have H2_ := (Option.bind_some _ _).symm.trans H; rw [hy202]; with_reducible exact H2_) | (have H2_ := (Option.bind_some _ _).symm.trans H; with_reducible exact H2_) | with_reducible exact H | (rw [hy202]; exact H) | exact H
 have Ny202 := qab.mk hy202
 clear hy202
 have H' := qab.mk H
 clear H
 go_enter Try.func66, Try.ntmps66
 go_wp2_with (first | ((with_reducible refine qan (N := 2) rfl ?_); refine qam ?hg (N := 2) ?hd (cs := #[.slice A0_0 l0_0.length c0_0, .slice A0_1 l0_1.length c0_1, .slice A0_2 l0_2.length c0_2]) (t := 26) ?hr ?_; (case hd => rfl); (case hg => rfl); (case hr => first | (go_simp; done) | (go_simp; rfl)); intro gb201 hg w3 hbox hb; have n0_ := qab.mk (qad (by repeat (first | (with_reducible first | exact HB.out | apply qaf | apply qae | apply qah) | exact HB.out)) hb); have n1_ := qab.mk (hbox); have n2_ := qab.mk ((by rw [hg]; exact (qap (by repeat (first | (with_reducible first | exact HB.out | apply qaf | apply qae | apply qah) | exact HB.out))) : w.heap.size ≤ gb201)); have n3_ := qab.mk ((by rw [hg]; exact (qap (by repeat (first | (with_reducible first | exact HB.out | apply qaf | apply qae | apply qah) | exact HB.out))) : w.heap.size ≤ gb201)); clear HB; have HB := n0_; have BK201 := n1_; have GW201 := n2_; have GE201 := n3_; clear n0_ n1_ n2_ n3_; clear hb hbox hg) | ((with_reducible refine qan (N := 12) rfl ?_); refine Kd.S_lit (Kd.slice 3 (Kd.int .i64)) _ 47 ?hg (N := 12) ?hd (xs := ([[]] : List (List Int))) (inner := [.slice none 0 0]) (ok := fun _ => True) (okp := fun _ => True) ?hr ?hp (fun _ hk => hk) trivial (Below.refl _ _) (Nat.le_refl _) (by simp) ?_; (case hd => rfl); (case hg => rfl); (case hr => first | (go_simp; done) | (go_simp; rfl)); (case hp => exact (Reps.one (show Kd.M (Kd.slice 3 (Kd.int .i64)) _ _ _ [] [.slice none 0 0] from ⟨_, rfl, Kd.R_nil _ _ _ _ _⟩) (Reps.none _ _))); intro v203 w4 ho5 hb hg_ hnew_; clear hg_ hnew_; (first | rw [← Ny202.out] at ho5 | (simp only [Int.reduceToNat] at ho5; rw [← Ny202.out] at ho5)); have n0_ := qab.mk (Kd.S_lower ho5 (qap (by repeat (first | (with_reducible first | exact HB.out | apply qaf | apply qae | apply qah | refine qai ?_ GE201.out) | exact HB.out)))); have n1_ := qab.mk (qag (g := gb201) (o := .cells #[.slice A0_0 l0_0.length c0_0, .slice A0_1 l0_1.length c0_1, .slice A0_2 l0_2.length c0_2] 26 (0, 0)) (by (with_reducible repeat (first | refine qao ?_ _ | refine qaq ?_ | refine qak ?_ _)); exact BK201.out) hb); have n2_ := qab.mk (qad (by repeat (first | (with_reducible first | exact HB.out | apply qaf | apply qae | apply qah | refine qai ?_ GE201.out) | exact HB.out)) hb); clear BK201; clear HB; have HO204 := n0_; have BK201 := n1_; have HB := n2_; clear n0_ n1_ n2_; clear hb ho5))
 go_loopg [5, 6] k (fun kq v5 v6 w' => ∃ (x5_1 : List (List Int)) (x6_1 : Int), v6 = .int .i64 x6_1 ∧ qab (talikref04_Orders.l0 kq a1 x5_1 x6_1 l0_0 l0_1 l0_2 = some r) ∧ qab (kq ≤ k) ∧ qab (Kd.S (Kd.slice 3 (Kd.int .i64)) 47 w' w.heap.size (fun _ => True) v5 x5_1) ∧ qab (w'.heap[gb201]? = some (.cells #[(.slice A0_0 l0_0.length c0_0), (.slice A0_1 l0_1.length c0_1), (.slice A0_2 l0_2.length c0_2)] 26 (0, 0))) ∧ qab (Below w.heap.size w w'))
 case atStart => exact ⟨(y202), (0), (by first | rfl | (simp; done) | (simp [*]; done)), H', ⟨Nat.le_refl _⟩, ⟨by (with_reducible repeat (first | apply Kd.S_alloc | apply Kd.S_drewN | apply Kd.S_drew)); exact HO204.out⟩, ⟨by (with_reducible repeat (first | refine qao ?_ _ | refine qaq ?_ | refine qak ?_ _)); exact BK201.out⟩, ⟨by repeat (first | (with_reducible first | exact HB.out | apply qaf | apply qae | apply qah | refine qai ?_ GE201.out) | exact HB.out)⟩⟩
 case round =>
  clear H'
  try clear p2
  obtain ⟨x5_1, x6_1, rfl, HA, HK1, HO_5, BK201, HB⟩ := hrel
  cases gk with
  | zero => exact absurd HA.out (by simp [talikref04_Orders.l0])
  | succ k1 =>
   have H := HA.out
   clear HA
   simp only [talikref04_Orders.l0] at H
   by_cases c6 : x6_1 < (l0_0.length : Int)
   ·
    rw [if_pos c6] at H
    have c6b0 : decide (x6_1 < (l0_0.length : Int)) = true := decide_eq_true c6
    clear c6
    replace H := Option.bind_eq_some_iff.mp H
    obtain ⟨t205, A70, H⟩ := H
    replace H : (if t205 = true then (talikref04_Orders.l1 k1 a1 x5_1 x6_1 ([] : List (List Int)) 0 l0_0 l0_1 l0_2) else (talikref04_Orders.l0 k1 a1 x5_1 (wrap64 (x6_1 + 1)) l0_0 l0_1 l0_2)) = some r := H
    have A7 := qab.mk A70
    clear A70
    by_cases c8 : t205 = true
    ·
     subst c8
     have H1 : (talikref04_Orders.l1 k1 a1 x5_1 x6_1 ([] : List (List Int)) 0 l0_0 l0_1 l0_2) = some r := by rw [if_pos rfl] at H; exact H
     clear H
     have H := H1
     clear H1
     have H' := qab.mk H
     clear H
     have hcz9_0 : wr.cell? ⟨gb201, 0, none⟩ = some (.slice A0_0 l0_0.length c0_0) := (qaa BK201.out 0).trans rfl
     have hcz9_1 : wr.cell? ⟨gb201, 1, none⟩ = some (.slice A0_1 l0_1.length c0_1) := (qaa BK201.out 1).trans rfl
     have hcz9_2 : wr.cell? ⟨gb201, 2, none⟩ = some (.slice A0_2 l0_2.length c0_2) := (qaa BK201.out 2).trans rfl
     have hfz9_0 := qac BK201.out 0
     have hfz9_1 := qac BK201.out 1
     have hfz9_2 := qac BK201.out 2
     go_wp2_with (first | ((with_reducible refine gate_callee (f := 68) rfl ?_); refine goesL_ (some 22) rfl rfl Try.func68 (by kernel_rfl) rfl #[.int .i64 a1, .int .i64 x6_1] rfl (by (try simp only [List.map_toArray, List.map_cons, List.map_nil]); first | done | rfl | (simp only [List.length_drop, List.length_take]; rfl)) ?_; (with_reducible refine (talikref04_Has.calls k1 a1 x6_1 true _ A7.out).mono ?_); rintro e w' ⟨rfl, ⟨nd, rfl⟩⟩; refine ⟨_, rfl, ?_⟩))
     go_loopg [7, 8] k1 (fun kq v7 v8 w' => ∃ (x7_2 : List (List Int)) (x8_2 : Int), v8 = .int .i64 x8_2 ∧ qab (talikref04_Orders.l1 kq a1 x5_1 x6_1 x7_2 x8_2 l0_0 l0_1 l0_2 = some r) ∧ qab (kq ≤ k1) ∧ qab (Kd.S (Kd.slice 3 (Kd.int .i64)) 47 w' w.heap.size (fun k_ => some k_ ≠ (v7 : Value).ownBlock) u5 x5_1) ∧ qab (Kd.S (Kd.slice 3 (Kd.int .i64)) 47 w' w.heap.size (fun k_ => some k_ ≠ (u5 : Value).ownBlock) v7 x7_2) ∧ qab (w'.heap[gb201]? = some (.cells #[(.slice A0_0 l0_0.length c0_0), (.slice A0_1 l0_1.length c0_1), (.slice A0_2 l0_2.length c0_2)] 26 (0, 0))) ∧ qab (Below w.heap.size w w'))
     case atStart => exact ⟨(([] : List (List Int))), (0), (by first | rfl | (simp; done) | (simp [*]; done)), H', ⟨Nat.le_refl _⟩, ⟨by (with_reducible repeat (first | apply Kd.S_alloc | apply Kd.S_drewN | apply Kd.S_drew)); exact Kd.S_mono HO_5.out (fun _ hk => (by simp [Value.ownBlock]))⟩, ⟨by first | exact Kd.S_nil _ _ _ _ _ | exact Kd.N_nil _ _ _ _ _ | exact Kd.V_nil _ _ _ _ _ | exact Kd.Q_nil _ _ _ _ _ | exact Kd.R_nil _ _ _ _ _⟩, ⟨by (with_reducible repeat (first | refine qao ?_ _ | refine qaq ?_ | refine qak ?_ _)); exact BK201.out⟩, ⟨by repeat (first | (with_reducible first | exact HB.out | apply qaf | apply qae | apply qah | refine qai ?_ GE201.out) | exact HB.out)⟩⟩
     case round =>
      clear H'
      try clear p2
      try clear c6
      try clear c6b0
      try clear p6
      try clear c8
      try clear hcz9_0
      try clear hcz9_1
      try clear hcz9_2
      try clear hfz9_0
      try clear hfz9_1
      try clear hfz9_2
      try clear p2
      obtain ⟨x7_2, x8_2, rfl, HA, HK2, HO_5, HO_7, BK201, HB⟩ := hrel
      cases gk with
      | zero => exact absurd HA.out (by simp [talikref04_Orders.l1])
      | succ k2 =>
       have H := HA.out
       clear HA
       simp only [talikref04_Orders.l1] at H
       by_cases c10 : x8_2 < (x5_1.length : Int)
       ·
        rw [if_pos c10] at H
        have c10b0 : decide (x8_2 < (x5_1.length : Int)) = true := decide_eq_true c10
        clear c10
        have H' := qab.mk H
        clear H
        obtain ⟨Ao11, co11, eo11⟩ := Kd.S_slice HO_5.out
        subst eo11
        go_wp2
        go_loopg [7, 9] k2 (fun kq v7 v9 w' => ∃ (x7_3 : List (List Int)) (x9_3 : Int), v9 = .int .i64 x9_3 ∧ qab (talikref04_Orders.l2 kq a1 x5_1 x6_1 x7_3 x8_2 x9_3 l0_0 l0_1 l0_2 = some r) ∧ qab (kq ≤ k2) ∧ qab (Kd.S (Kd.slice 3 (Kd.int .i64)) 47 w' w.heap.size (fun k_ => some k_ ≠ (v7 : Value).ownBlock) (.slice Ao11 x5_1.length co11) x5_1) ∧ qab (Kd.S (Kd.slice 3 (Kd.int .i64)) 47 w' w.heap.size (fun k_ => some k_ ≠ ((.slice Ao11 x5_1.length co11) : Value).ownBlock) v7 x7_3) ∧ qab (w'.heap[gb201]? = some (.cells #[(.slice A0_0 l0_0.length c0_0), (.slice A0_1 l0_1.length c0_1), (.slice A0_2 l0_2.length c0_2)] 26 (0, 0))) ∧ qab (Below w.heap.size w w'))
        case atStart => exact ⟨(x7_2), (0), (by first | rfl | (simp; done) | (simp [*]; done)), H', ⟨Nat.le_refl _⟩, ⟨by (with_reducible repeat (first | apply Kd.S_alloc | apply Kd.S_drewN | apply Kd.S_drew)); exact HO_5.out⟩, ⟨by (with_reducible repeat (first | apply Kd.S_alloc | apply Kd.S_drewN | apply Kd.S_drew)); exact HO_7.out⟩, ⟨by (with_reducible repeat (first | refine qao ?_ _ | refine qaq ?_ | refine qak ?_ _)); exact BK201.out⟩, ⟨by repeat (first | (with_reducible first | exact HB.out | apply qaf | apply qae | apply qah | refine qai ?_ GE201.out) | exact HB.out)⟩⟩
        case round =>
         clear H'
         try clear c1
         try clear p2
         try clear c6
         try clear c6b0
         try clear p6
         try clear c8
         try clear c10
         try clear c10b0
         try clear hcz9_0
         try clear hcz9_1
         try clear hcz9_2
         try clear hfz9_0
         try clear hfz9_1
         try clear hfz9_2
         try clear p2
         try clear p6
         obtain ⟨x7_3, x9_3, rfl, HA, HK3, HO_5, HO_7, BK201, HB⟩ := hrel
         cases gk with
         | zero => exact absurd HA.out (by simp [talikref04_Orders.l2])
         | succ k3 =>
          have H := HA.out
          clear HA
          simp only [talikref04_Orders.l2] at H
          by_cases c12 : x9_3 < (l0_0.length : Int)
          ·
           rw [if_pos c12] at H
           have c12b0 : decide (x9_3 < (l0_0.length : Int)) = true := decide_eq_true c12
           clear c12
           have H' := qab.mk H
           clear H
           have hcz13_0 : wr.cell? ⟨gb201, 0, none⟩ = some (.slice A0_0 l0_0.length c0_0) := (qaa BK201.out 0).trans rfl
           have hcz13_1 : wr.cell? ⟨gb201, 1, none⟩ = some (.slice A0_1 l0_1.length c0_1) := (qaa BK201.out 1).trans rfl
           have hcz13_2 : wr.cell? ⟨gb201, 2, none⟩ = some (.slice A0_2 l0_2.length c0_2) := (qaa BK201.out 2).trans rfl
           have hfz13_0 := qac BK201.out 0
           have hfz13_1 := qac BK201.out 1
           have hfz13_2 := qac BK201.out 2
           go_wp2
           go_loopg [10, 11] k3 (fun kq v10 v11 w' => ∃ (x10_4 : Bool) (x11_4 : Int), v10 = .bool x10_4 ∧ v11 = .int .i64 x11_4 ∧ qab (talikref04_Orders.l3 kq a1 x5_1 x6_1 x7_3 x8_2 x9_3 x10_4 x11_4 l0_0 l0_1 l0_2 = some r) ∧ qab (kq ≤ k3) ∧ qab (Kd.S (Kd.slice 3 (Kd.int .i64)) 47 w' w.heap.size (fun k_ => some k_ ≠ (u7 : Value).ownBlock) (.slice Ao11 x5_1.length co11) x5_1) ∧ qab (Kd.S (Kd.slice 3 (Kd.int .i64)) 47 w' w.heap.size (fun k_ => some k_ ≠ ((.slice Ao11 x5_1.length co11) : Value).ownBlock) u7 x7_3) ∧ qab (w'.heap[gb201]? = some (.cells #[(.slice A0_0 l0_0.length c0_0), (.slice A0_1 l0_1.length c0_1), (.slice A0_2 l0_2.length c0_2)] 26 (0, 0))) ∧ qab (Below w.heap.size w w'))
           case atStart => exact ⟨(false), (0), (by first | rfl | (simp; done) | (simp [*]; done)), (by first | rfl | (simp; done) | (simp [*]; done)), H', ⟨Nat.le_refl _⟩, ⟨by (with_reducible repeat (first | apply Kd.S_alloc | apply Kd.S_drewN | apply Kd.S_drew)); exact HO_5.out⟩, ⟨by (with_reducible repeat (first | apply Kd.S_alloc | apply Kd.S_drewN | apply Kd.S_drew)); exact HO_7.out⟩, ⟨by (with_reducible repeat (first | refine qao ?_ _ | refine qaq ?_ | refine qak ?_ _)); exact BK201.out⟩, ⟨by repeat (first | (with_reducible first | exact HB.out | apply qaf | apply qae | apply qah | refine qai ?_ GE201.out) | exact HB.out)⟩⟩
           case round =>
            clear H'
            try clear c1
            try clear p2
            try clear c6
            try clear c6b0
            try clear p6
            try clear c8
            try clear c10
            try clear c10b0
            try clear c12
            try clear c12b0
            try clear hcz13_0
            try clear hcz13_1
            try clear hcz13_2
            try clear hcz9_0
            try clear hcz9_1
            try clear hcz9_2
            try clear hfz13_0
            try clear hfz13_1
            try clear hfz13_2
            try clear hfz9_0
            try clear hfz9_1
            try clear hfz9_2
            try clear p2
            try clear p6
            obtain ⟨x10_4, x11_4, rfl, rfl, HA, HK4, HO_5, HO_7, BK201, HB⟩ := hrel
            cases gk with
            | zero => exact absurd HA.out (by simp [talikref04_Orders.l3])
            | succ k4 =>
             have H := HA.out
             clear HA
             simp only [talikref04_Orders.l3] at H
             by_cases c14 : 0 ≤ x8_2
             ·
              rw [if_pos c14] at H
              have c14b0 : decide (0 ≤ x8_2) = true := decide_eq_true c14
              clear c14
              by_cases c15 : x8_2 < (x5_1.length : Int)
              ·
               rw [if_pos c15] at H
               have c15b0 : decide (x8_2 < (x5_1.length : Int)) = true := decide_eq_true c15
               clear c15
               by_cases c16 : x11_4 < ((rd_L1 x5_1 x8_2).length : Int)
               ·
                rw [if_pos c16] at H
                have c16b0 : decide (x11_4 < ((rd_L1 x5_1 x8_2).length : Int)) = true := decide_eq_true c16
                clear c16
                by_cases c17 : x10_4 = true
                ·
                 subst c17
                 have H1 : (talikref04_Orders.l3 k4 a1 x5_1 x6_1 x7_3 x8_2 x9_3 true (wrap64 (x11_4 + 1)) l0_0 l0_1 l0_2) = some r := by rw [if_pos rfl] at H; exact H
                 clear H
                 have H := H1
                 clear H1
                 have H' := qab.mk H
                 clear H
                 have p206 : 0 ≤ (x8_2 : Int) := of_decide_eq_true (by first | (with_reducible assumption) | assumption)
                 have q206 : x8_2 < (x5_1.length : Int) := of_decide_eq_true (by first | (with_reducible assumption) | assumption)
                 obtain ⟨ad206, A206_0, c206_0, e206, hx206_0, hl206_0, hi206_0⟩ := at_L1 (Kd.S_reads' HO_5.out).2.2 x8_2 p206 q206
                 cases e206
                 obtain ⟨ce206, hce206, hMe206, hcc206⟩ := Kd.S_get HO_5.out [] x8_2 p206 (by first | exact q206 | exact of_decide_eq_true (by first | (with_reducible assumption) | assumption) | (have e_ := (Kd.S_reads' HO_5.out).1; omega))
                 obtain ⟨ve206_0, rfl, ge206_0⟩ := hMe206
                 have hv206_0 := hcc206 0 _ rfl
                 rw [Nat.add_zero, show ((Kd.slice 3 (Kd.int .i64))).sz = 1 from rfl, Nat.mul_one] at hv206_0
                 replace hv206_0 := Option.some.inj (hv206_0.symm.trans hx206_0)
                 rw [hv206_0] at ge206_0
                 have HL206_0 := qab.mk (show Kd.R (Kd.int .i64) 3 _ _ _ _ (rd_L1 x5_1 x8_2) from ge206_0)
                 clear hv206_0 ge206_0
                 clear hcc206 hce206
                 have HR206_0 := qab.mk hi206_0
                 have HC206_0 := qab.mk hl206_0
                 clear hi206_0 hl206_0
                 replace p206 := eq_true p206
                 replace q206 := eq_true q206
                 go_wp2
                 go_roundg k4
                 case measure => have := HK1.out; have := HK2.out; have := HK3.out; have := HK4.out; omega
                 case rel => exact ⟨(true), (wrap64 (x11_4 + 1)), (by first | rfl | (simp; done) | (simp [*]; done)), (by first | rfl | (simp; done) | (simp [*]; done)), H', ⟨by have := HK1.out; have := HK2.out; have := HK3.out; have := HK4.out; omega⟩, ⟨by (with_reducible repeat (first | apply Kd.S_alloc | apply Kd.S_drewN | apply Kd.S_drew)); exact HO_5.out⟩, ⟨by (with_reducible repeat (first | apply Kd.S_alloc | apply Kd.S_drewN | apply Kd.S_drew)); exact HO_7.out⟩, ⟨by (with_reducible repeat (first | refine qao ?_ _ | refine qaq ?_ | refine qak ?_ _)); exact BK201.out⟩, ⟨by repeat (first | (with_reducible first | exact HB.out | apply qaf | apply qae | apply qah | refine qai ?_ GE201.out) | exact HB.out)⟩⟩
                ·
                 replace c17 := Bool.eq_false_iff.mpr c17
                 subst c17
                 have H1 : (if 0 ≤ x11_4 then (talikref04_Orders.l3 k4 a1 x5_1 x6_1 x7_3 x8_2 x9_3 ((rd (rd_L1 x5_1 x8_2) x11_4) == x9_3) (wrap64 (x11_4 + 1)) l0_0 l0_1 l0_2) else (none)) = some r := by rw [if_neg (show ¬ (false = true) by decide)] at H; exact H
                 clear H
                 have H := H1
                 clear H1
                 by_cases c18 : 0 ≤ x11_4
                 ·
                  rw [if_pos c18] at H
                  have c18b0 : decide (0 ≤ x11_4) = true := decide_eq_true c18
                  clear c18
                  have H' := qab.mk H
                  clear H
                  have p206 : 0 ≤ (x8_2 : Int) := of_decide_eq_true (by first | (with_reducible assumption) | assumption)
                  have q206 : x8_2 < (x5_1.length : Int) := of_decide_eq_true (by first | (with_reducible assumption) | assumption)
                  obtain ⟨ad206, A206_0, c206_0, e206, hx206_0, hl206_0, hi206_0⟩ := at_L1 (Kd.S_reads' HO_5.out).2.2 x8_2 p206 q206
                  cases e206
                  obtain ⟨ce206, hce206, hMe206, hcc206⟩ := Kd.S_get HO_5.out [] x8_2 p206 (by first | exact q206 | exact of_decide_eq_true (by first | (with_reducible assumption) | assumption) | (have e_ := (Kd.S_reads' HO_5.out).1; omega))
                  obtain ⟨ve206_0, rfl, ge206_0⟩ := hMe206
                  have hv206_0 := hcc206 0 _ rfl
                  rw [Nat.add_zero, show ((Kd.slice 3 (Kd.int .i64))).sz = 1 from rfl, Nat.mul_one] at hv206_0
                  replace hv206_0 := Option.some.inj (hv206_0.symm.trans hx206_0)
                  rw [hv206_0] at ge206_0
                  have HL206_0 := qab.mk (show Kd.R (Kd.int .i64) 3 _ _ _ _ (rd_L1 x5_1 x8_2) from ge206_0)
                  clear hv206_0 ge206_0
                  clear hcc206 hce206
                  have HR206_0 := qab.mk hi206_0
                  have HC206_0 := qab.mk hl206_0
                  clear hi206_0 hl206_0
                  replace p206 := eq_true p206
                  replace q206 := eq_true q206
                  have p207 : 0 ≤ (x8_2 : Int) := of_decide_eq_true (by first | (with_reducible assumption) | assumption)
                  have q207 : x8_2 < (x5_1.length : Int) := of_decide_eq_true (by first | (with_reducible assumption) | assumption)
                  obtain ⟨ad207, A207_0, c207_0, e207, hx207_0, hl207_0, hi207_0⟩ := at_L1 (Kd.S_reads' HO_5.out).2.2 x8_2 p207 q207
                  obtain rfl : ad206 = ad207 := (by injection e207)
                  obtain ⟨ce207, hce207, hMe207, hcc207⟩ := Kd.S_get HO_5.out [] x8_2 p207 (by first | exact q207 | exact of_decide_eq_true (by first | (with_reducible assumption) | assumption) | (have e_ := (Kd.S_reads' HO_5.out).1; omega))
                  obtain ⟨ve207_0, rfl, ge207_0⟩ := hMe207
                  have hv207_0 := hcc207 0 _ rfl
                  rw [Nat.add_zero, show ((Kd.slice 3 (Kd.int .i64))).sz = 1 from rfl, Nat.mul_one] at hv207_0
                  replace hv207_0 := Option.some.inj (hv207_0.symm.trans hx207_0)
                  rw [hv207_0] at ge207_0
                  have HL207_0 := qab.mk (show Kd.R (Kd.int .i64) 3 _ _ _ _ (rd_L1 x5_1 x8_2) from ge207_0)
                  clear hv207_0 ge207_0
                  clear hcc207 hce207
                  have HR207_0 := qab.mk hi207_0
                  have HC207_0 := qab.mk hl207_0
                  clear hi207_0 hl207_0
                  replace p207 := eq_true p207
                  replace q207 := eq_true q207
                  have ea_ := Option.some.inj (hx206_0.symm.trans hx207_0)
                  injection ea_ with ea_ en_ ec_
                  subst ea_
                  subst ec_
                  clear en_
                  have p208 : 0 ≤ (x11_4 : Int) := of_decide_eq_true (by first | (with_reducible assumption) | assumption)
                  have q208 : x11_4 < ((rd_L1 x5_1 x8_2).length : Int) := of_decide_eq_true (by first | (with_reducible assumption) | assumption)
                  obtain ⟨ad208, e208, hx208_0⟩ := Kd.at_int (by repeat (first | (with_reducible exact HR207_0.out) | (with_reducible refine Kd.C_alloc ?_ _) | (with_reducible refine Kd.C_drewN ?_ _) | (with_reducible refine Kd.C_drew ?_) | exact HR207_0.out)) x11_4 p208 q208
                  cases e208
                  replace p208 := eq_true p208
                  replace q208 := eq_true q208
                  go_wp2
                  go_roundg k4
                  case measure => have := HK1.out; have := HK2.out; have := HK3.out; have := HK4.out; omega
                  case rel => exact ⟨(((rd (rd_L1 x5_1 x8_2) x11_4) == x9_3)), (wrap64 (x11_4 + 1)), (by first | rfl | (simp; done) | (simp [*]; done)), (by first | rfl | (simp; done) | (simp [*]; done)), H', ⟨by have := HK1.out; have := HK2.out; have := HK3.out; have := HK4.out; omega⟩, ⟨by (with_reducible repeat (first | apply Kd.S_alloc | apply Kd.S_drewN | apply Kd.S_drew)); exact HO_5.out⟩, ⟨by (with_reducible repeat (first | apply Kd.S_alloc | apply Kd.S_drewN | apply Kd.S_drew)); exact HO_7.out⟩, ⟨by (with_reducible repeat (first | refine qao ?_ _ | refine qaq ?_ | refine qak ?_ _)); exact BK201.out⟩, ⟨by repeat (first | (with_reducible first | exact HB.out | apply qaf | apply qae | apply qah | refine qai ?_ GE201.out) | exact HB.out)⟩⟩
                 ·
                  rw [if_neg c18] at H
                  exact absurd H (by simp)
               ·
                rw [if_neg c16] at H
                have c16b0 : decide (x11_4 < ((rd_L1 x5_1 x8_2).length : Int)) = false := decide_eq_false c16
                clear c16
                replace H := Option.bind_eq_some_iff.mp H
                obtain ⟨t209, A190, H⟩ := H
                replace H : (if t209 = true then (if x10_4 = true then (talikref04_Orders.l2 k4 a1 x5_1 x6_1 x7_3 x8_2 (wrap64 (x9_3 + 1)) l0_0 l0_1 l0_2) else (if ([] : List Int).length + (rd_L1 x5_1 x8_2).length < 17592186044416 then ((some (([] : List Int) ++ (rd_L1 x5_1 x8_2) : List Int)).bind fun y211 => (if y211.length < 17592186044416 then (if x7_3.length < 5864062014805 then (talikref04_Orders.l2 k4 a1 x5_1 x6_1 (x7_3 ++ [(y211 ++ [x9_3])]) x8_2 (wrap64 (x9_3 + 1)) l0_0 l0_1 l0_2) else (none)) else (none))) else (none))) else (talikref04_Orders.l2 k4 a1 x5_1 x6_1 x7_3 x8_2 (wrap64 (x9_3 + 1)) l0_0 l0_1 l0_2)) = some r := H
                have A19 := qab.mk A190
                clear A190
                by_cases c20 : t209 = true
                ·
                 subst c20
                 have H1 : (if x10_4 = true then (talikref04_Orders.l2 k4 a1 x5_1 x6_1 x7_3 x8_2 (wrap64 (x9_3 + 1)) l0_0 l0_1 l0_2) else (if ([] : List Int).length + (rd_L1 x5_1 x8_2).length < 17592186044416 then ((some (([] : List Int) ++ (rd_L1 x5_1 x8_2) : List Int)).bind fun y211 => (if y211.length < 17592186044416 then (if x7_3.length < 5864062014805 then (talikref04_Orders.l2 k4 a1 x5_1 x6_1 (x7_3 ++ [(y211 ++ [x9_3])]) x8_2 (wrap64 (x9_3 + 1)) l0_0 l0_1 l0_2) else (none)) else (none))) else (none))) = some r := by rw [if_pos rfl] at H; exact H
                 clear H
                 have H := H1
                 clear H1
                 by_cases c21 : x10_4 = true
                 ·
                  subst c21
                  have H1 : (talikref04_Orders.l2 k4 a1 x5_1 x6_1 x7_3 x8_2 (wrap64 (x9_3 + 1)) l0_0 l0_1 l0_2) = some r := by rw [if_pos rfl] at H; exact H
                  clear H
                  have H := H1
                  clear H1
                  have H' := qab.mk H
                  clear H
                  have p206 : 0 ≤ (x8_2 : Int) := of_decide_eq_true (by first | (with_reducible assumption) | assumption)
                  have q206 : x8_2 < (x5_1.length : Int) := of_decide_eq_true (by first | (with_reducible assumption) | assumption)
                  obtain ⟨ad206, A206_0, c206_0, e206, hx206_0, hl206_0, hi206_0⟩ := at_L1 (Kd.S_reads' HO_5.out).2.2 x8_2 p206 q206
                  cases e206
                  obtain ⟨ce206, hce206, hMe206, hcc206⟩ := Kd.S_get HO_5.out [] x8_2 p206 (by first | exact q206 | exact of_decide_eq_true (by first | (with_reducible assumption) | assumption) | (have e_ := (Kd.S_reads' HO_5.out).1; omega))
                  obtain ⟨ve206_0, rfl, ge206_0⟩ := hMe206
                  have hv206_0 := hcc206 0 _ rfl
                  rw [Nat.add_zero, show ((Kd.slice 3 (Kd.int .i64))).sz = 1 from rfl, Nat.mul_one] at hv206_0
                  replace hv206_0 := Option.some.inj (hv206_0.symm.trans hx206_0)
                  rw [hv206_0] at ge206_0
                  have HL206_0 := qab.mk (show Kd.R (Kd.int .i64) 3 _ _ _ _ (rd_L1 x5_1 x8_2) from ge206_0)
                  clear hv206_0 ge206_0
                  clear hcc206 hce206
                  have HR206_0 := qab.mk hi206_0
                  have HC206_0 := qab.mk hl206_0
                  clear hi206_0 hl206_0
                  replace p206 := eq_true p206
                  replace q206 := eq_true q206
                  go_wp2_with (first | ((with_reducible refine gate_callee (f := 68) rfl ?_); refine goesL_ (some 60) rfl rfl Try.func68 (by kernel_rfl) rfl #[.int .i64 a1, .int .i64 x9_3] rfl (by (try simp only [List.map_toArray, List.map_cons, List.map_nil]); first | done | rfl | (simp only [List.length_drop, List.length_take]; rfl)) ?_; (with_reducible refine (talikref04_Has.calls k4 a1 x9_3 true _ A19.out).mono ?_); rintro e w' ⟨rfl, ⟨nd, rfl⟩⟩; refine ⟨_, rfl, ?_⟩))
                  go_roundg k4
                  case measure => have := HK1.out; have := HK2.out; have := HK3.out; have := HK4.out; omega
                  case rel => exact ⟨(x7_3), (wrap64 (x9_3 + 1)), (by first | rfl | (simp; done) | (simp [*]; done)), H', ⟨by have := HK1.out; have := HK2.out; have := HK3.out; have := HK4.out; omega⟩, ⟨by (with_reducible repeat (first | apply Kd.S_alloc | apply Kd.S_drewN | apply Kd.S_drew)); exact HO_5.out⟩, ⟨by (with_reducible repeat (first | apply Kd.S_alloc | apply Kd.S_drewN | apply Kd.S_drew)); exact HO_7.out⟩, ⟨by (with_reducible repeat (first | refine qao ?_ _ | refine qaq ?_ | refine qak ?_ _)); exact BK201.out⟩, ⟨by repeat (first | (with_reducible first | exact HB.out | apply qaf | apply qae | apply qah | refine qai ?_ GE201.out) | exact HB.out)⟩⟩
                 ·
                  replace c21 := Bool.eq_false_iff.mpr c21
                  subst c21
                  have H1 : (if ([] : List Int).length + (rd_L1 x5_1 x8_2).length < 17592186044416 then ((some (([] : List Int) ++ (rd_L1 x5_1 x8_2) : List Int)).bind fun y211 => (if y211.length < 17592186044416 then (if x7_3.length < 5864062014805 then (talikref04_Orders.l2 k4 a1 x5_1 x6_1 (x7_3 ++ [(y211 ++ [x9_3])]) x8_2 (wrap64 (x9_3 + 1)) l0_0 l0_1 l0_2) else (none)) else (none))) else (none)) = some r := by rw [if_neg (show ¬ (false = true) by decide)] at H; exact H
                  clear H
                  have H := H1
                  clear H1
                  by_cases c22 : ([] : List Int).length + (rd_L1 x5_1 x8_2).length < 17592186044416
                  ·
                   rw [if_pos c22] at H
                   have LMc22 := qab.mk c22
                   clear c22
                   obtain ⟨y211, hy211⟩ : ∃ y_ : List Int, y_ = (([] : List Int) ++ (rd_L1 x5_1 x8_2)) := ⟨_, rfl⟩
                   replace H : (if y211.length < 17592186044416 then (if x7_3.length < 5864062014805 then (talikref04_Orders.l2 k4 a1 x5_1 x6_1 (x7_3 ++ [(y211 ++ [x9_3])]) x8_2 (wrap64 (x9_3 + 1)) l0_0 l0_1 l0_2) else (none)) else (none)) = some r := by first | (rw [hy211]; with_reducible exact H) | (have H2_ := (Option.bind_some _ _).symm.trans H; rw [hy211]; with_reducible exact H2_) | (have H2_ := (Option.bind_some _ _).symm.trans H; with_reducible exact H2_) | with_reducible exact H | (rw [hy211]; exact H) | exact H
                   have Ny211 := qab.mk hy211
                   clear hy211
                   by_cases c23 : y211.length < 17592186044416
                   ·
                    rw [if_pos c23] at H
                    have LMc23 := qab.mk c23
                    clear c23
                    obtain ⟨y214, hy214⟩ : ∃ y_ : List Int, y_ = (y211 ++ [x9_3]) := ⟨_, rfl⟩
                    replace H : (if x7_3.length < 5864062014805 then (talikref04_Orders.l2 k4 a1 x5_1 x6_1 (x7_3 ++ [y214]) x8_2 (wrap64 (x9_3 + 1)) l0_0 l0_1 l0_2) else (none)) = some r := by first | (rw [hy214]; with_reducible exact H) | (have H2_ := (Option.bind_some _ _).symm.trans H; rw [hy214]; with_reducible exact H2_) | (have H2_ := (Option.bind_some _ _).symm.trans H; with_reducible exact H2_) | with_reducible exact H | (rw [hy214]; exact H) | exact H
                    have Ny214 := qab.mk hy214
                    clear hy214
                    by_cases c24 : x7_3.length < 5864062014805
                    ·
                     rw [if_pos c24] at H
                     have LMc24 := qab.mk c24
                     clear c24
                     obtain ⟨y217, hy217⟩ : ∃ y_ : List (List Int), y_ = (x7_3 ++ [y214]) := ⟨_, rfl⟩
                     replace H : (talikref04_Orders.l2 k4 a1 x5_1 x6_1 y217 x8_2 (wrap64 (x9_3 + 1)) l0_0 l0_1 l0_2) = some r := by first | (rw [hy217]; with_reducible exact H) | (have H2_ := (Option.bind_some _ _).symm.trans H; rw [hy217]; with_reducible exact H2_) | (have H2_ := (Option.bind_some _ _).symm.trans H; with_reducible exact H2_) | with_reducible exact H | (rw [hy217]; exact H) | exact H
                     have Ny217 := qab.mk hy217
                     clear hy217
                     have H' := qab.mk H
                     clear H
                     have p206 : 0 ≤ (x8_2 : Int) := of_decide_eq_true (by first | (with_reducible assumption) | assumption)
                     have q206 : x8_2 < (x5_1.length : Int) := of_decide_eq_true (by first | (with_reducible assumption) | assumption)
                     obtain ⟨ad206, A206_0, c206_0, e206, hx206_0, hl206_0, hi206_0⟩ := at_L1 (Kd.S_reads' HO_5.out).2.2 x8_2 p206 q206
                     cases e206
                     obtain ⟨ce206, hce206, hMe206, hcc206⟩ := Kd.S_get HO_5.out [] x8_2 p206 (by first | exact q206 | exact of_decide_eq_true (by first | (with_reducible assumption) | assumption) | (have e_ := (Kd.S_reads' HO_5.out).1; omega))
                     obtain ⟨ve206_0, rfl, ge206_0⟩ := hMe206
                     have hv206_0 := hcc206 0 _ rfl
                     rw [Nat.add_zero, show ((Kd.slice 3 (Kd.int .i64))).sz = 1 from rfl, Nat.mul_one] at hv206_0
                     replace hv206_0 := Option.some.inj (hv206_0.symm.trans hx206_0)
                     rw [hv206_0] at ge206_0
                     have HL206_0 := qab.mk (show Kd.R (Kd.int .i64) 3 _ _ _ _ (rd_L1 x5_1 x8_2) from ge206_0)
                     clear hv206_0 ge206_0
                     clear hcc206 hce206
                     have HR206_0 := qab.mk hi206_0
                     have HC206_0 := qab.mk hl206_0
                     clear hi206_0 hl206_0
                     replace p206 := eq_true p206
                     replace q206 := eq_true q206
                     go_wp2_with (first | ((with_reducible refine gate_callee (f := 68) rfl ?_); refine goesL_ (some 60) rfl rfl Try.func68 (by kernel_rfl) rfl #[.int .i64 a1, .int .i64 x9_3] rfl (by (try simp only [List.map_toArray, List.map_cons, List.map_nil]); first | done | rfl | (simp only [List.length_drop, List.length_take]; rfl)) ?_; (with_reducible refine (talikref04_Has.calls k4 a1 x9_3 true _ A19.out).mono ?_); rintro e w' ⟨rfl, ⟨nd, rfl⟩⟩; refine ⟨_, rfl, ?_⟩; have p210 : 0 ≤ (x8_2 : Int) := of_decide_eq_true (by first | (with_reducible assumption) | assumption); have q210 : x8_2 < (x5_1.length : Int) := of_decide_eq_true (by first | (with_reducible assumption) | assumption); obtain ⟨ad210, A210_0, c210_0, e210, hx210_0, hl210_0, hi210_0⟩ := at_L1 (Kd.S_reads' HO_5.out).2.2 x8_2 p210 q210; obtain rfl : ad206 = ad210 := (by injection e210); obtain ⟨ce210, hce210, hMe210, hcc210⟩ := Kd.S_get HO_5.out [] x8_2 p210 (by first | exact q210 | exact of_decide_eq_true (by first | (with_reducible assumption) | assumption) | (have e_ := (Kd.S_reads' HO_5.out).1; omega)); obtain ⟨ve210_0, rfl, ge210_0⟩ := hMe210; have hv210_0 := hcc210 0 _ rfl; rw [Nat.add_zero, show ((Kd.slice 3 (Kd.int .i64))).sz = 1 from rfl, Nat.mul_one] at hv210_0; replace hv210_0 := Option.some.inj (hv210_0.symm.trans hx210_0); rw [hv210_0] at ge210_0; have HL210_0 := qab.mk (show Kd.R (Kd.int .i64) 3 _ _ _ _ (rd_L1 x5_1 x8_2) from ge210_0); clear hv210_0 ge210_0; clear hcc210 hce210; have HR210_0 := qab.mk hi210_0; have HC210_0 := qab.mk hl210_0; clear hi210_0 hl210_0; replace p210 := eq_true p210; replace q210 := eq_true q210; have ea_ := Option.some.inj (hx206_0.symm.trans hx210_0); injection ea_ with ea_ en_ ec_; subst ea_; subst ec_; clear en_) | ((with_reducible refine gate_builtin (b := .append) (xs := #[.const (.slice none 0 0), .tmp 69]) rfl ?_); at_builtin; refine Kd.R_append_rows (Kd.int .i64) (w0 := w) w.heap.size rfl (.const (.slice none 0 0)) (.tmp 69) 47 3 (.int .i64 0) 8 rfl Try.underlying47 info3 rfl (by decide) (by omega) (.slice none 0 0) ([] : List Int) (rd_L1 x5_1 x8_2) _ _ _ (fun k_ => some k_ ≠ (.slice A206_0 (rd_L1 x5_1 x8_2).length c206_0 : Value).ownBlock ∧ some k_ ≠ (.slice A206_0 (rd_L1 x5_1 x8_2).length c206_0 : Value).ownBlock) (fun _ => False) rfl rfl ?aO ?aR (fun _ _ h => h) (fun _ h => h.elim) ?aF ?aB ?aS ?aL ?_; (case aR => repeat (first | exact (by repeat (first | (with_reducible exact HR210_0.out) | (with_reducible refine Kd.C_alloc ?_ _) | (with_reducible refine Kd.C_drewN ?_ _) | (with_reducible refine Kd.C_drew ?_) | exact HR210_0.out)) | (with_reducible refine Kd.C_alloc ?_ _) | (with_reducible refine Kd.C_drewN ?_ _) | (with_reducible refine Kd.C_drew ?_))); (case aB => exact (by repeat (first | (with_reducible first | exact HB.out | apply qaf | apply qae | apply qah | refine qai ?_ GE201.out) | exact HB.out))); (case aF => exact (fun k_ hk => ⟨Kd.fresh' (Kd.R_lt (by (with_reducible repeat (first | apply Kd.R_alloc | apply Kd.R_drewN | apply Kd.R_drew)); exact HL206_0.out)) k_ hk, Kd.fresh' (Kd.R_lt (by (with_reducible repeat (first | apply Kd.R_alloc | apply Kd.R_drewN | apply Kd.R_drew)); exact HL210_0.out)) k_ hk⟩)); (case aO => exact ((Kd.R_nil _ _ _ _ (fun k_ => some k_ ≠ (.slice A206_0 (rd_L1 x5_1 x8_2).length c206_0 : Value).ownBlock ∧ some k_ ≠ (.slice A206_0 (rd_L1 x5_1 x8_2).length c206_0 : Value).ownBlock)))); (case aS => exact (qap (by repeat (first | (with_reducible first | exact HB.out | apply qaf | apply qae | apply qah | refine qai ?_ GE201.out) | exact HB.out)))); (case aL => have := LMc22.out; omega); intro v212 w25 ho hb hg hat; rw [← Ny211.out] at ho; have n0_ := qab.mk (Kd.S_after (Kd.S_apart_nil (by (with_reducible repeat (first | apply Kd.S_alloc | apply Kd.S_drewN | apply Kd.S_drew)); exact HO_5.out)) hg hat); have n1_ := qab.mk (Kd.S_after (Kd.S_apart_nil (by (with_reducible repeat (first | apply Kd.S_alloc | apply Kd.S_drewN | apply Kd.S_drew)); exact HO_7.out)) hg hat); have n2_ := qab.mk (blk_grown (g := gb201) (o := .cells #[.slice A0_0 l0_0.length c0_0, .slice A0_1 l0_1.length c0_1, .slice A0_2 l0_2.length c0_2] 26 (0, 0)) (by (with_reducible repeat (first | refine qao ?_ _ | refine qaq ?_ | refine qak ?_ _)); exact BK201.out) hg (by simp [Value.ownBlock])); have n3_ := qab.mk (Kd.R_after (Kd.R_apart_nil (by (with_reducible repeat (first | apply Kd.R_alloc | apply Kd.R_drewN | apply Kd.R_drew)); exact HL206_0.out)) hg hat); have n4_ := qab.mk (Kd.R_after (Kd.R_apart_nil (by (with_reducible repeat (first | apply Kd.R_alloc | apply Kd.R_drewN | apply Kd.R_drew)); exact HL210_0.out)) hg hat); have n5_ := qab.mk (hb); have n6_ := qab.mk (ho); clear HO_5; clear HO_7; clear BK201; clear HL206_0; clear HL210_0; clear HB; have HO_5 := n0_; have HO_7 := n1_; have BK201 := n2_; have HL206_0 := n3_; have HL210_0 := n4_; have HB := n5_; have HO213 := n6_; clear n0_ n1_ n2_ n3_ n4_ n5_ n6_; clear ho hb hg hat) | ((with_reducible refine gate_builtin (b := .append) (xs := #[.tmp 70, .tmp 72]) rfl ?_); at_builtin; refine Kd.R_append (Kd.int .i64) (w0 := w) w.heap.size rfl (.tmp 70) (.tmp 72) 47 3 (.int .i64 0) 8 rfl Try.underlying47 info3 rfl (by decide) (by omega) v212 y211 x9_3 [.int .i64 x9_3] (fun k_ => some k_ ≠ (.slice A206_0 (rd_L1 x5_1 x8_2).length c206_0 : Value).ownBlock ∧ some k_ ≠ (.slice A206_0 (rd_L1 x5_1 x8_2).length c206_0 : Value).ownBlock) (fun _ => False) rfl rfl ?aP (fun _ hk => hk.elim) ?aF ?aO ?aB ?aS ?aL ?_; (case aP => exact rfl); (case aB => exact (by repeat (first | (with_reducible first | exact HB.out | apply qaf | apply qae | apply qah | refine qai ?_ GE201.out) | exact HB.out))); (case aF => exact (fun k_ hk => ⟨Kd.fresh' (Kd.R_lt (by (with_reducible repeat (first | apply Kd.R_alloc | apply Kd.R_drewN | apply Kd.R_drew)); exact HL206_0.out)) k_ hk, Kd.fresh' (Kd.R_lt (by (with_reducible repeat (first | apply Kd.R_alloc | apply Kd.R_drewN | apply Kd.R_drew)); exact HL210_0.out)) k_ hk⟩)); (case aO => exact (by (with_reducible repeat (first | apply Kd.R_alloc | apply Kd.R_drewN | apply Kd.R_drew)); exact HO213.out)); (case aS => exact (qap (by repeat (first | (with_reducible first | exact HB.out | apply qaf | apply qae | apply qah | refine qai ?_ GE201.out) | exact HB.out)))); (case aL => have := LMc23.out; omega); intro v215 w26 ho hb hg hat; rw [← Ny214.out] at ho; have n0_ := qab.mk (Kd.S_after (ok := (fun k_ => some k_ ≠ (u7 : Value).ownBlock)) (by (with_reducible repeat (first | apply Kd.S_alloc | apply Kd.S_drewN | apply Kd.S_drew)); exact HO_5.out) hg hat); have n1_ := qab.mk (Kd.S_after (ok := (fun k_ => some k_ ≠ (.slice (some ad206) x5_1.length co11 : Value).ownBlock)) (by (with_reducible repeat (first | apply Kd.S_alloc | apply Kd.S_drewN | apply Kd.S_drew)); exact HO_7.out) hg hat); have n2_ := qab.mk (blk_grown (g := gb201) (o := .cells #[.slice A0_0 l0_0.length c0_0, .slice A0_1 l0_1.length c0_1, .slice A0_2 l0_2.length c0_2] 26 (0, 0)) (by (with_reducible repeat (first | refine qao ?_ _ | refine qaq ?_ | refine qak ?_ _)); exact BK201.out) hg (Kd.R_ne HO213.out BK201.out (by decide))); have n3_ := qab.mk (Kd.R_after (ok := (fun k_ => some k_ ≠ (.slice (some ad206) x5_1.length co11 : Value).ownBlock ∧ some k_ ≠ (u7 : Value).ownBlock)) (by (with_reducible repeat (first | apply Kd.R_alloc | apply Kd.R_drewN | apply Kd.R_drew)); exact Kd.R_mono HL206_0.out (fun _ hk => ⟨⟨hk.1.2, hk.1.1⟩, hk.2⟩)) hg hat); have n4_ := qab.mk (Kd.R_after (ok := (fun k_ => some k_ ≠ (.slice (some ad206) x5_1.length co11 : Value).ownBlock ∧ some k_ ≠ (u7 : Value).ownBlock)) (by (with_reducible repeat (first | apply Kd.R_alloc | apply Kd.R_drewN | apply Kd.R_drew)); exact Kd.R_mono HL210_0.out (fun _ hk => ⟨⟨hk.1.2, hk.1.1⟩, hk.2⟩)) hg hat); have n5_ := qab.mk (hb); have n6_ := qab.mk (ho); clear HO_5; clear HO_7; clear BK201; clear HL206_0; clear HL210_0; clear HB; clear HO213; have HO_5 := n0_; have HO_7 := n1_; have BK201 := n2_; have HL206_0 := n3_; have HL210_0 := n4_; have HB := n5_; have HO216 := n6_; clear n0_ n1_ n2_ n3_ n4_ n5_ n6_; clear ho hb hg hat; obtain ⟨Ao28, co28, eo28⟩ := Kd.R_slice HO216.out; subst eo28) | ((with_reducible refine gate_builtin (b := .append) (xs := #[.tmp 65, .tmp 74]) rfl ?_); at_builtin; refine Kd.S_append (Kd.slice 3 (Kd.int .i64)) (w0 := w) w.heap.size rfl (.tmp 65) (.tmp 74) 24 47 (.slice none 0 0) 24 rfl Try.underlying24 info47 rfl (by decide) (by omega) u7 x7_3 y214 [.slice Ao28 y214.length co28] (fun k_ => some k_ ≠ (.slice (some ad206) x5_1.length co11 : Value).ownBlock) (fun k_ => some k_ = (.slice Ao28 y214.length co28 : Value).ownBlock) rfl rfl ?aP (fun k_ hk_ => ((Kd.R_mono (ok' := fun k_ => ((fun k_ => some k_ ≠ (.slice (some ad206) x5_1.length co11 : Value).ownBlock)) k_ ∧ some k_ ≠ (u7 : Value).ownBlock) (Kd.R_apart' (Kd.R_apart' (HO216.out) (Kd.S_typed HO_5.out) (by decide)) (Kd.S_typed HO_7.out) (by decide)) (fun k_ hk => ⟨hk.1.2, hk.2⟩))).1 k_ hk_.symm) ?aF ?aO ?aB ?aS ?aL ?_; (case aP => exact Kd.M_row (Kd.R_mono (Kd.R_tight rfl (Kd.R_mono (ok' := fun k_ => ((fun k_ => some k_ ≠ (.slice (some ad206) x5_1.length co11 : Value).ownBlock)) k_ ∧ some k_ ≠ (u7 : Value).ownBlock) (Kd.R_apart' (Kd.R_apart' (HO216.out) (Kd.S_typed HO_5.out) (by decide)) (Kd.S_typed HO_7.out) (by decide)) (fun k_ hk => ⟨hk.1.2, hk.2⟩))) (fun _ h_ => h_))); (case aB => exact (by repeat (first | (with_reducible first | exact HB.out | apply qaf | apply qae | apply qah | refine qai ?_ GE201.out) | exact HB.out))); (case aF => exact (fun k_ hk => Kd.fresh' (Kd.S_lt (by (with_reducible repeat (first | apply Kd.S_alloc | apply Kd.S_drewN | apply Kd.S_drew)); exact HO_5.out)) k_ hk)); (case aO => exact (by (with_reducible repeat (first | apply Kd.S_alloc | apply Kd.S_drewN | apply Kd.S_drew)); exact Kd.S_mono HO_7.out (fun k_ hk => ⟨hk.1, fun e_ => hk.2 e_⟩))); (case aS => exact (qap (by repeat (first | (with_reducible first | exact HB.out | apply qaf | apply qae | apply qah | refine qai ?_ GE201.out) | exact HB.out)))); (case aL => have := LMc24.out; omega); intro v218 w27 ho hb hg hat; rw [← Ny217.out] at ho; have n0_ := qab.mk (Kd.S_after (ok := (fun k_ => some k_ ≠ (.slice Ao28 y214.length co28 : Value).ownBlock)) (by (with_reducible repeat (first | apply Kd.S_alloc | apply Kd.S_drewN | apply Kd.S_drew)); exact Kd.S_mono HO_5.out (fun _ hk => ⟨hk.2, hk.1⟩)) hg hat); have n1_ := qab.mk (blk_grown (g := gb201) (o := .cells #[.slice A0_0 l0_0.length c0_0, .slice A0_1 l0_1.length c0_1, .slice A0_2 l0_2.length c0_2] 26 (0, 0)) (by (with_reducible repeat (first | refine qao ?_ _ | refine qaq ?_ | refine qak ?_ _)); exact BK201.out) hg (Kd.S_ne HO_7.out BK201.out (by decide))); have n2_ := qab.mk (Kd.R_after (ok := (fun k_ => some k_ ≠ (.slice (some ad206) x5_1.length co11 : Value).ownBlock ∧ some k_ ≠ (.slice Ao28 y214.length co28 : Value).ownBlock)) (by (with_reducible repeat (first | apply Kd.R_alloc | apply Kd.R_drewN | apply Kd.R_drew)); exact Kd.R_mono HL206_0.out (fun _ hk => ⟨⟨hk.1.1, hk.2⟩, hk.1.2⟩)) hg hat); have n3_ := qab.mk (Kd.R_after (ok := (fun k_ => some k_ ≠ (.slice (some ad206) x5_1.length co11 : Value).ownBlock ∧ some k_ ≠ (.slice Ao28 y214.length co28 : Value).ownBlock)) (by (with_reducible repeat (first | apply Kd.R_alloc | apply Kd.R_drewN | apply Kd.R_drew)); exact Kd.R_mono HL210_0.out (fun _ hk => ⟨⟨hk.1.1, hk.2⟩, hk.1.2⟩)) hg hat); have n4_ := qab.mk (hb); have n5_ := qab.mk (ho); clear HO_5; clear BK201; clear HL206_0; clear HL210_0; clear HB; clear HO_7; clear HO216; have HO_5 := n0_; have BK201 := n1_; have HL206_0 := n2_; have HL210_0 := n3_; have HB := n4_; have HO219 := n5_; clear n0_ n1_ n2_ n3_ n4_ n5_; clear ho hb hg hat))
                     go_roundg k4
                     case measure => have := HK1.out; have := HK2.out; have := HK3.out; have := HK4.out; omega
                     case rel => exact ⟨(y217), (wrap64 (x9_3 + 1)), (by first | rfl | (simp; done) | (simp [*]; done)), H', ⟨by have := HK1.out; have := HK2.out; have := HK3.out; have := HK4.out; omega⟩, ⟨by (with_reducible repeat (first | apply Kd.S_alloc | apply Kd.S_drewN | apply Kd.S_drew)); exact Kd.S_mono HO_5.out (fun _ hk => hk.2)⟩, ⟨by (with_reducible repeat (first | apply Kd.S_alloc | apply Kd.S_drewN | apply Kd.S_drew)); exact HO219.out⟩, ⟨by (with_reducible repeat (first | refine qao ?_ _ | refine qaq ?_ | refine qak ?_ _)); exact BK201.out⟩, ⟨by repeat (first | (with_reducible first | exact HB.out | apply qaf | apply qae | apply qah | refine qai ?_ GE201.out) | exact HB.out)⟩⟩
                    ·
                     rw [if_neg c24] at H
                     exact absurd H (by simp)
                   ·
                    rw [if_neg c23] at H
                    exact absurd H (by simp)
                  ·
                   rw [if_neg c22] at H
                   exact absurd H (by simp)
                ·
                 replace c20 := Bool.eq_false_iff.mpr c20
                 subst c20
                 have H1 : (talikref04_Orders.l2 k4 a1 x5_1 x6_1 x7_3 x8_2 (wrap64 (x9_3 + 1)) l0_0 l0_1 l0_2) = some r := by rw [if_neg (show ¬ (false = true) by decide)] at H; exact H
                 clear H
                 have H := H1
                 clear H1
                 have H' := qab.mk H
                 clear H
                 have p206 : 0 ≤ (x8_2 : Int) := of_decide_eq_true (by first | (with_reducible assumption) | assumption)
                 have q206 : x8_2 < (x5_1.length : Int) := of_decide_eq_true (by first | (with_reducible assumption) | assumption)
                 obtain ⟨ad206, A206_0, c206_0, e206, hx206_0, hl206_0, hi206_0⟩ := at_L1 (Kd.S_reads' HO_5.out).2.2 x8_2 p206 q206
                 cases e206
                 obtain ⟨ce206, hce206, hMe206, hcc206⟩ := Kd.S_get HO_5.out [] x8_2 p206 (by first | exact q206 | exact of_decide_eq_true (by first | (with_reducible assumption) | assumption) | (have e_ := (Kd.S_reads' HO_5.out).1; omega))
                 obtain ⟨ve206_0, rfl, ge206_0⟩ := hMe206
                 have hv206_0 := hcc206 0 _ rfl
                 rw [Nat.add_zero, show ((Kd.slice 3 (Kd.int .i64))).sz = 1 from rfl, Nat.mul_one] at hv206_0
                 replace hv206_0 := Option.some.inj (hv206_0.symm.trans hx206_0)
                 rw [hv206_0] at ge206_0
                 have HL206_0 := qab.mk (show Kd.R (Kd.int .i64) 3 _ _ _ _ (rd_L1 x5_1 x8_2) from ge206_0)
                 clear hv206_0 ge206_0
                 clear hcc206 hce206
                 have HR206_0 := qab.mk hi206_0
                 have HC206_0 := qab.mk hl206_0
                 clear hi206_0 hl206_0
                 replace p206 := eq_true p206
                 replace q206 := eq_true q206
                 go_wp2_with (first | ((with_reducible refine gate_callee (f := 68) rfl ?_); refine goesL_ (some 60) rfl rfl Try.func68 (by kernel_rfl) rfl #[.int .i64 a1, .int .i64 x9_3] rfl (by (try simp only [List.map_toArray, List.map_cons, List.map_nil]); first | done | rfl | (simp only [List.length_drop, List.length_take]; rfl)) ?_; (with_reducible refine (talikref04_Has.calls k4 a1 x9_3 false _ A19.out).mono ?_); rintro e w' ⟨rfl, ⟨nd, rfl⟩⟩; refine ⟨_, rfl, ?_⟩))
                 go_roundg k4
                 case measure => have := HK1.out; have := HK2.out; have := HK3.out; have := HK4.out; omega
                 case rel => exact ⟨(x7_3), (wrap64 (x9_3 + 1)), (by first | rfl | (simp; done) | (simp [*]; done)), H', ⟨by have := HK1.out; have := HK2.out; have := HK3.out; have := HK4.out; omega⟩, ⟨by (with_reducible repeat (first | apply Kd.S_alloc | apply Kd.S_drewN | apply Kd.S_drew)); exact HO_5.out⟩, ⟨by (with_reducible repeat (first | apply Kd.S_alloc | apply Kd.S_drewN | apply Kd.S_drew)); exact HO_7.out⟩, ⟨by (with_reducible repeat (first | refine qao ?_ _ | refine qaq ?_ | refine qak ?_ _)); exact BK201.out⟩, ⟨by repeat (first | (with_reducible first | exact HB.out | apply qaf | apply qae | apply qah | refine qai ?_ GE201.out) | exact HB.out)⟩⟩
              ·
               rw [if_neg c15] at H
               exact absurd H (by simp)
             ·
              rw [if_neg c14] at H
              exact absurd H (by simp)
          ·
           rw [if_neg c12] at H
           have c12b0 : decide (x9_3 < (l0_0.length : Int)) = false := decide_eq_false c12
           clear c12
           have H' := qab.mk H
           clear H
           have hcz29_0 : wr.cell? ⟨gb201, 0, none⟩ = some (.slice A0_0 l0_0.length c0_0) := (qaa BK201.out 0).trans rfl
           have hcz29_1 : wr.cell? ⟨gb201, 1, none⟩ = some (.slice A0_1 l0_1.length c0_1) := (qaa BK201.out 1).trans rfl
           have hcz29_2 : wr.cell? ⟨gb201, 2, none⟩ = some (.slice A0_2 l0_2.length c0_2) := (qaa BK201.out 2).trans rfl
           have hfz29_0 := qac BK201.out 0
           have hfz29_1 := qac BK201.out 1
           have hfz29_2 := qac BK201.out 2
           go_wp2
           go_roundg k3
           case measure => have := HK1.out; have := HK2.out; have := HK3.out; omega
           case rel => exact ⟨(x7_3), (wrap64 (x8_2 + 1)), (by first | rfl | (simp; done) | (simp [*]; done)), H', ⟨by have := HK1.out; have := HK2.out; have := HK3.out; omega⟩, ⟨by (with_reducible repeat (first | apply Kd.S_alloc | apply Kd.S_drewN | apply Kd.S_drew)); exact HO_5.out⟩, ⟨by (with_reducible repeat (first | apply Kd.S_alloc | apply Kd.S_drewN | apply Kd.S_drew)); exact HO_7.out⟩, ⟨by (with_reducible repeat (first | refine qao ?_ _ | refine qaq ?_ | refine qak ?_ _)); exact BK201.out⟩, ⟨by repeat (first | (with_reducible first | exact HB.out | apply qaf | apply qae | apply qah | refine qai ?_ GE201.out) | exact HB.out)⟩⟩
       ·
        rw [if_neg c10] at H
        have c10b0 : decide (x8_2 < (x5_1.length : Int)) = false := decide_eq_false c10
        clear c10
        have H' := qab.mk H
        clear H
        obtain ⟨Ao30, co30, eo30⟩ := Kd.S_slice HO_5.out
        subst eo30
        go_wp2
        go_roundg k2
        case measure => have := HK1.out; have := HK2.out; omega
        case rel => exact ⟨(x7_2), (wrap64 (x6_1 + 1)), (by first | rfl | (simp; done) | (simp [*]; done)), H', ⟨by have := HK1.out; have := HK2.out; omega⟩, ⟨by (with_reducible repeat (first | apply Kd.S_alloc | apply Kd.S_drewN | apply Kd.S_drew)); exact Kd.S_mono HO_7.out (fun _ hk => trivial)⟩, ⟨by (with_reducible repeat (first | refine qao ?_ _ | refine qaq ?_ | refine qak ?_ _)); exact BK201.out⟩, ⟨by repeat (first | (with_reducible first | exact HB.out | apply qaf | apply qae | apply qah | refine qai ?_ GE201.out) | exact HB.out)⟩⟩
    ·
     replace c8 := Bool.eq_false_iff.mpr c8
     subst c8
     have H1 : (talikref04_Orders.l0 k1 a1 x5_1 (wrap64 (x6_1 + 1)) l0_0 l0_1 l0_2) = some r := by rw [if_neg (show ¬ (false = true) by decide)] at H; exact H
     clear H
     have H := H1
     clear H1
     have H' := qab.mk H
     clear H
     have hcz31_0 : wr.cell? ⟨gb201, 0, none⟩ = some (.slice A0_0 l0_0.length c0_0) := (qaa BK201.out 0).trans rfl
     have hcz31_1 : wr.cell? ⟨gb201, 1, none⟩ = some (.slice A0_1 l0_1.length c0_1) := (qaa BK201.out 1).trans rfl
     have hcz31_2 : wr.cell? ⟨gb201, 2, none⟩ = some (.slice A0_2 l0_2.length c0_2) := (qaa BK201.out 2).trans rfl
     have hfz31_0 := qac BK201.out 0
     have hfz31_1 := qac BK201.out 1
     have hfz31_2 := qac BK201.out 2
     go_wp2_with (first | ((with_reducible refine gate_callee (f := 68) rfl ?_); refine goesL_ (some 22) rfl rfl Try.func68 (by kernel_rfl) rfl #[.int .i64 a1, .int .i64 x6_1] rfl (by (try simp only [List.map_toArray, List.map_cons, List.map_nil]); first | done | rfl | (simp only [List.length_drop, List.length_take]; rfl)) ?_; (with_reducible refine (talikref04_Has.calls k1 a1 x6_1 false _ A7.out).mono ?_); rintro e w' ⟨rfl, ⟨nd, rfl⟩⟩; refine ⟨_, rfl, ?_⟩))
     go_roundg k1
     case measure => have := HK1.out; omega
     case rel => exact ⟨(x5_1), (wrap64 (x6_1 + 1)), (by first | rfl | (simp; done) | (simp [*]; done)), H', ⟨by have := HK1.out; omega⟩, ⟨by (with_reducible repeat (first | apply Kd.S_alloc | apply Kd.S_drewN | apply Kd.S_drew)); exact HO_5.out⟩, ⟨by (with_reducible repeat (first | refine qao ?_ _ | refine qaq ?_ | refine qak ?_ _)); exact BK201.out⟩, ⟨by repeat (first | (with_reducible first | exact HB.out | apply qaf | apply qae | apply qah | refine qai ?_ GE201.out) | exact HB.out)⟩⟩
   ·
    rw [if_neg c6] at H
    have c6b0 : decide (x6_1 < (l0_0.length : Int)) = false := decide_eq_false c6
    clear c6
    obtain rfl := Option.some.inj H
    have hcz32_0 : wr.cell? ⟨gb201, 0, none⟩ = some (.slice A0_0 l0_0.length c0_0) := (qaa BK201.out 0).trans rfl
    have hcz32_1 : wr.cell? ⟨gb201, 1, none⟩ = some (.slice A0_1 l0_1.length c0_1) := (qaa BK201.out 1).trans rfl
    have hcz32_2 : wr.cell? ⟨gb201, 2, none⟩ = some (.slice A0_2 l0_2.length c0_2) := (qaa BK201.out 2).trans rfl
    have hfz32_0 := qac BK201.out 0
    have hfz32_1 := qac BK201.out 1
    have hfz32_2 := qac BK201.out 2
    go_wp2
    go_ret
    exact ⟨_, by first | rfl | (simp [qau, qav] <;> rfl) | (simp [*, qau, qav] <;> rfl), by (with_reducible repeat (first | apply Kd.S_alloc | apply Kd.S_drewN | apply Kd.S_drew)); exact HO_5.out, by repeat (first | (with_reducible first | exact HB.out | apply qaf | apply qae | apply qah | refine qai ?_ GE201.out) | exact HB.out)⟩
def bestR (S : List Int → Option Int) : List (List Int) → Way → Option Way
 | [], x => some x
 | o :: t, x => (S o).bind fun s => bestR S t (if s ≥ 0 ∧ (x.2.2 = false ∨ s > x.2.1) then (o, s, true) else x)
theorem bestR_round (S : List Int → Option Int) (l : List (List Int)) (k : Nat) (hk : k < l.length) (x : Way) : bestR S (l.drop k) x = (S (l.getD k [])).bind fun s => bestR S (l.drop (k + 1)) (if s ≥ 0 ∧ (x.2.2 = false ∨ s > x.2.1) then (l.getD k [], s, true) else x) := by
 rw [List.drop_eq_getElem_cons hk]
 simp [bestR, hk]
theorem rows_at {W : World} {base : Nat} {ok : Nat → Prop} {A : Option Addr} {n c : Nat} {xs : List (List Int)} (h : (Kd.slice 3 (Kd.int .i64)).R 47 W base ok (.slice A n c) xs) (i : Nat) (hi : i < xs.length) :
  ∃ ad v, A = some ad ∧ W.cell? (ad.add i) = some v ∧ Kd.R (Kd.int .i64) 3 W base ok v (xs.getD i []) := by
 obtain ⟨hn, _, _⟩ := Kd.R_reads' h
 cases A with
 | none =>
  obtain ⟨_, inner, ho, hr⟩ := h
  rcases ho.2 with ⟨hv, hz⟩ | ⟨g, cap', cur, hv, _⟩
  ·
   have := hr.1
   simp_all
  ·
   cases hv
 | some ad =>
  obtain ⟨cs, hl, ⟨v, rfl, hv⟩, hc⟩ := Kd.R_getA h ([] : List Int) (i : Int) (by omega) (by omega)
  refine ⟨ad, v, rfl, ?_, ?_⟩
  ·
   have := hc 0 v rfl
   simpa [Kd.slice] using this
  ·
   simpa using Kd.R_mono hv (fun k hk => hk.1)
structure RefO (w : World) (gb : Nat) (nb : Array Value) (vl : Value) (ll : List (List Int)) (vd : Value) (dd : List Int) (W : World) : Prop where
 b : W.heap[gb]? = some (.cells nb 26 (0, 0))
 hb : Below w.heap.size w W
 l : (Kd.slice 3 (Kd.int .i64)).R 47 W w.heap.size (fun _ => True) vl ll
 d : Kd.R (Kd.int .i64) 3 W w.heap.size (fun _ => True) vd dd
theorem RefO.below {w W W' : World} {gb : Nat} {nb : Array Value} {vl vd : Value} {ll : List (List Int)} {dd : List Int} (h : RefO w gb nb vl ll vd dd W) (hb : Below W.heap.size W W') : RefO w gb nb vl ll vd dd W' := ⟨qag h.b hb, qad h.hb hb, Kd.R_below h.l hb, Kd.R_below h.d hb⟩
structure RefB (w : World) (gb : Nat) (nb : Array Value) (W : World) : Prop where
 b : W.heap[gb]? = some (.cells nb 26 (0, 0))
 hb : Below w.heap.size w W
theorem RefB.below {w W W' : World} {gb : Nat} {nb : Array Value} (h : RefB w gb nb W) (hb : Below W.heap.size W W') : RefB w gb nb W' := ⟨qag h.b hb, qad h.hb hb⟩
def talikref04_Order.f (k : Nat) (l0_0 : List (S39)) (l0_1 : List (S37)) (l0_2 : List (List Int)) (a1 : Int) (a2 : Int) : Option (List Int × Int × Bool) := (talikref04_Orders.f k l0_0 l0_1 l0_2 a2).bind fun l => (talikref04_Dues.f k l0_0 l0_1 l0_2).bind fun d => bestR (fun o => talikref04_Slack.f k l0_0 l0_1 l0_2 d a1 o) l ([], 0, false)
theorem talikref04_Order.calls (k : Nat) (A0_0 : Option Addr) (c0_0 : Nat) (l0_0 : List (S39)) (A0_1 : Option Addr) (c0_1 : Nat) (l0_1 : List (S37)) (A0_2 : Option Addr) (c0_2 : Nat) (l0_2 : List (List Int)) (a1 : Int) (a2 : Int) (r1 : List Int) (r2 : Int) (r3 : Bool) (w : World) (hr0_0 : Kd.C k39 w A0_0 l0_0.length l0_0) (hc0_0 : l0_0.length ≤ c0_0) (hr0_1 : Kd.C k37 w A0_1 l0_1.length l0_1) (hc0_1 : l0_1.length ≤ c0_1) (hr0_2 : Kd.C (Kd.slice 3 (Kd.int .i64)) w A0_2 l0_2.length l0_2) (hc0_2 : l0_2.length ≤ c0_2) (h : talikref04_Order.f k l0_0 l0_1 l0_2 a1 a2 = some (r1, r2, r3)) :
  Calls Try.prog 27 #[.agg #[.slice A0_0 l0_0.length c0_0, .slice A0_1 l0_1.length c0_1, .slice A0_2 l0_2.length c0_2], .int .i64 a1, .int .i64 a2] w fun e w' => ∃ v0_ : Value, e = .returned (.tuple #[v0_, .int .i64 r2, .bool r3]) ∧ Kd.R (Kd.int .i64) 3 w' w.heap.size (fun _ => True) v0_ r1 ∧ Below w.heap.size w w' := by
 unfold talikref04_Order.f at h
 obtain ⟨ll, hll, h⟩ := Option.bind_eq_some_iff.1 h
 obtain ⟨dd, hdd, h⟩ := Option.bind_eq_some_iff.1 h
 have HF := qab.mk h
 clear h
 have HR0 := qab.mk hr0_0
 have HR1 := qab.mk hr0_1
 have HR2 := qab.mk hr0_2
 clear hr0_0 hr0_1 hr0_2
 have hu26 := Try.underlying26
 have hu47 := Try.underlying47
 have HB := qab.mk (Below.refl w.heap.size w)
 have hords : ∀ W, Below w.heap.size w W → _ := fun W hW => talikref04_Orders.calls k _ _ l0_0 _ _ l0_1 _ _ l0_2 a2 ll W (Kd.qaj HR0.out hW) hc0_0 (Kd.qaj HR1.out hW) hc0_1 (Kd.qaj HR2.out hW) hc0_2 hll
 have HORDS := qab.mk hords
 have hdues : ∀ W, Below w.heap.size w W → _ := fun W hW => talikref04_Dues.calls k _ _ l0_0 _ _ l0_1 _ _ l0_2 dd W (Kd.qaj HR0.out hW) hc0_0 (Kd.qaj HR1.out hW) hc0_1 (Kd.qaj HR2.out hW) hc0_2 hdd
 have HDUES := qab.mk hdues
 clear hords hdues hll hdd
 go_enter Try.func27, Try.ntmps27
 go_upto_region 1 with (first | (with_reducible refine qan (N := 3) rfl ?_); refine qam ?hg (N := 3) ?hd (cs := #[.slice A0_0 l0_0.length c0_0, .slice A0_1 l0_1.length c0_1, .slice A0_2 l0_2.length c0_2]) (t := 26) ?hr ?_; (case hd => rfl); (case hg => rfl); (case hr => first | (go_simp; done) | (go_simp; rfl)); intro gb hg_gb w2 hbox hb; have BKgb := qab.mk hbox; have n_HB := qab.mk (qad HB.out hb); have GEgb : w.heap.size ≤ gb := (by rw [hg_gb]; exact HB.out.size); clear HB; have HB := n_HB; clear n_HB; obtain ⟨hfgb, hcgb_0, hcgb_1, hcgb_2⟩ := qz3 BKgb.out; clear hbox hb hg_gb)
 have htup : ∀ W, RefB w gb #[.slice A0_0 l0_0.length c0_0, .slice A0_1 l0_1.length c0_1, .slice A0_2 l0_2.length c0_2] W → W.cell? ⟨gb, 0, none⟩ = some (.slice A0_0 l0_0.length c0_0) ∧ W.cell? ⟨gb, 1, none⟩ = some (.slice A0_1 l0_1.length c0_1) ∧ W.cell? ⟨gb, 2, none⟩ = some (.slice A0_2 l0_2.length c0_2) ∧ qab (RefB w gb #[.slice A0_0 l0_0.length c0_0, .slice A0_1 l0_1.length c0_1, .slice A0_2 l0_2.length c0_2] W) := fun W h => ⟨qaa h.b 0, qaa h.b 1, qaa h.b 2, ⟨h⟩⟩
 have HT := qab.mk htup
 have HS0 := qab.mk (htup w2.drew ⟨qag BKgb.out (qbb (Below.refl _ _)), qbb HB.out⟩)
 clear htup hfgb hcgb_0 hcgb_1 hcgb_2 BKgb HB
 go_region_held3 (fun w' => w'.cell? ⟨gb, 0, none⟩ = some (.slice A0_0 l0_0.length c0_0) ∧ w'.cell? ⟨gb, 1, none⟩ = some (.slice A0_1 l0_1.length c0_1) ∧ w'.cell? ⟨gb, 2, none⟩ = some (.slice A0_2 l0_2.length c0_2) ∧ qab (RefB w gb #[.slice A0_0 l0_0.length c0_0, .slice A0_1 l0_1.length c0_1, .slice A0_2 l0_2.length c0_2] w'))
  (first | exact HS0.out | exact HS1.out | exact HS2.out)
  (first | ((go_at_call 66; refine (HORDS.out _ (RefB.hb (qab.out (And.right (And.right (And.right (by assumption))))))).mono ?_; rintro e w5 ⟨v9, rfl, ho, hb⟩; have HS1 := qab.mk (HT.out w5 (RefB.below HS0.out.2.2.2.out hb)); have HO := qab.mk (Kd.R_lower (Kd.S_R ho) HS0.out.2.2.2.out.hb.size); clear ho hb)) | ((go_at_call 67; refine (HDUES.out _ (RefB.hb (qab.out (And.right (And.right (And.right (by assumption))))))).mono ?_; rintro e w6 ⟨v10, rfl, hd, hb⟩; have HS2 := qab.mk (HT.out w6 (RefB.below HS1.out.2.2.2.out hb)); have HRO := qab.mk (RefO.mk HS2.out.2.2.2.out.b HS2.out.2.2.2.out.hb (Kd.R_below HO.out hb) (Kd.R_lower hd HS1.out.2.2.2.out.hb.size)); clear hd hb)))
 clear HT HS0 HS1 HS2 HO HORDS HDUES
 go_wp2_with fail
 have HF0 : qab (bestR (fun o => talikref04_Slack.f k l0_0 l0_1 l0_2 dd a1 o) (ll.drop 0) ([], 0, false) = some (r1, r2, r3)) := ⟨by rw [List.drop_zero]; exact HF.out⟩
 have HO0 : qab (Kd.R (Kd.int .i64) 3 w6 w.heap.size (fun _ => True) (.slice none 0 0) []) := ⟨Kd.R_nil _ _ _ _ _⟩
 obtain ⟨lA, lc, rfl⟩ := Kd.R_slice HRO.out.l
 obtain ⟨dA, dc, rfl⟩ := Kd.R_slice HRO.out.d
 have hlm := Kd.C_max (Kd.R_reads' HRO.out.l).2.2
 clear HF
 go_loopw [11, 12, 13, 14] (fun s11 s12 s13 s14 wr => ∃ (j : Nat) (vb : Value) (x : Way), j ≤ ll.length ∧ s11 = vb ∧ s12 = .int .i64 x.2.1 ∧ s13 = .bool x.2.2 ∧ s14 = .int .i64 j ∧ qab (bestR (fun o => talikref04_Slack.f k l0_0 l0_1 l0_2 dd a1 o) (ll.drop j) x = some (r1, r2, r3)) ∧ qab (RefO w gb #[.slice A0_0 l0_0.length c0_0, .slice A0_1 l0_1.length c0_1, .slice A0_2 l0_2.length c0_2] (.slice lA ll.length lc) ll (.slice dA dd.length dc) dd wr) ∧ qab (Kd.R (Kd.int .i64) 3 wr w.heap.size (fun _ => True) vb x.1)) (fun _ _ _ s _ => ll.length - (intOf s).toNat)
 case atStart => exact ⟨0, _, ([], 0, false), by omega, rfl, rfl, rfl, rfl, HF0, HRO, HO0⟩
 case round =>
  clear HF0 HRO HO0
  obtain ⟨j, vb, x, hj, rfl, rfl, rfl, rfl, HF, HRO, HO⟩ := hrel
  by_cases hlt : j < ll.length
  ·
   have hlt1 : (j : Int) < ll.length := by omega
   have hj0 : (0 : Int) ≤ j := by omega
   obtain ⟨ad, vr, e, hrow, hR⟩ := rows_at HRO.out.l j hlt
   subst e
   obtain ⟨rA, rc, rfl⟩ := Kd.R_slice hR
   have HROW := qab.mk hrow
   have HRR := qab.mk hR
   have hq := HF.out
   rw [bestR_round _ _ _ hlt] at hq
   obtain ⟨s, hs, hq⟩ := Option.bind_eq_some_iff.1 hq
   have HQ := qab.mk hq
   clear hrow hR hq HF
   have hsl : ∀ W, RefO w gb #[.slice A0_0 l0_0.length c0_0, .slice A0_1 l0_1.length c0_1, .slice A0_2 l0_2.length c0_2] (.slice (some ad) ll.length lc) ll (.slice dA dd.length dc) dd W → Kd.R (Kd.int .i64) 3 W w.heap.size (fun _ => True) (.slice rA (ll.getD j []).length rc) (ll.getD j []) → _ := fun W h hr => talikref04_Slack.calls k _ _ l0_0 _ _ l0_1 _ _ l0_2 dA dc dd a1 rA rc (ll.getD j []) s W (Kd.qaj HR0.out h.hb) hc0_0 (Kd.qaj HR1.out h.hb) hc0_1 (Kd.qaj HR2.out h.hb) hc0_2 (Kd.R_reads' h.d).2.2 (Kd.R_reads' h.d).2.1 (Kd.R_reads' hr).2.2 (Kd.R_reads' hr).2.1 hs
   have HSL := qab.mk hsl
   clear hsl hs
   have htup : ∀ W, RefO w gb #[.slice A0_0 l0_0.length c0_0, .slice A0_1 l0_1.length c0_1, .slice A0_2 l0_2.length c0_2] (.slice (some ad) ll.length lc) ll (.slice dA dd.length dc) dd W → W.cell? (ad.add j) = some (.slice rA (ll.getD j []).length rc) → W.cell? ⟨gb, 0, none⟩ = some (.slice A0_0 l0_0.length c0_0) ∧ W.cell? ⟨gb, 1, none⟩ = some (.slice A0_1 l0_1.length c0_1) ∧ W.cell? ⟨gb, 2, none⟩ = some (.slice A0_2 l0_2.length c0_2) ∧ W.cell? (ad.add j) = some (.slice rA (ll.getD j []).length rc) ∧ qab (RefO w gb #[.slice A0_0 l0_0.length c0_0, .slice A0_1 l0_1.length c0_1, .slice A0_2 l0_2.length c0_2] (.slice (some ad) ll.length lc) ll (.slice dA dd.length dc) dd W) := fun W h hr => ⟨qaa h.b 0, qaa h.b 1, qaa h.b 2, hr, ⟨h⟩⟩
   have HT := qab.mk htup
   clear htup
   obtain ⟨wO, rfl⟩ : ∃ wo : World, wo = wr := ⟨_, rfl⟩
   have HS0 := qab.mk (HT.out wO.drew (HRO.out.below (qbb (Below.refl _ _))) HROW.out)
   clear HROW
   generalize ll.getD j [] = row at *
   have hlr : row.length ≤ row.length := Nat.le_refl _
   go_upto_region 7 with fail
   go_region_held3 (fun w' => w'.cell? ⟨gb, 0, none⟩ = some (.slice A0_0 l0_0.length c0_0) ∧ w'.cell? ⟨gb, 1, none⟩ = some (.slice A0_1 l0_1.length c0_1) ∧ w'.cell? ⟨gb, 2, none⟩ = some (.slice A0_2 l0_2.length c0_2) ∧ w'.cell? (ad.add j) = some (.slice rA row.length rc) ∧ qab (RefO w gb #[.slice A0_0 l0_0.length c0_0, .slice A0_1 l0_1.length c0_1, .slice A0_2 l0_2.length c0_2] (.slice (some ad) ll.length lc) ll (.slice dA dd.length dc) dd w'))
    (first | exact HS0.out | exact HS1.out)
    (first | ((go_at_call 31; refine (HSL.out _ (qab.out (And.right (And.right (And.right (And.right (by assumption)))))) (Kd.R_below HRR.out (qbb (Below.refl _ _)))).mono ?_; rintro e w7 ⟨rfl, hb⟩; have HS1 := qab.mk (HT.out w7 (RefO.below HS0.out.2.2.2.2.out hb) ((hb.cell (World.block_lt_of_cell? _ _ HS0.out.2.2.2.1)).trans HS0.out.2.2.2.1)); have n_HRR := qab.mk (Kd.R_below (Kd.R_below HRR.out (qbb (Below.refl _ _))) hb); have n_HO := qab.mk (Kd.R_below (Kd.R_below HO.out (qbb (Below.refl _ _))) hb); clear hb)))
   clear HRR HO HSL HS0 HT HRO
   have HRO := qab.mk HS1.out.2.2.2.2.out
   have hrow := HS1.out.2.2.2.1
   clear HS1
   have HO := n_HO
   have HRR := n_HRR
   clear n_HO n_HRR hq
   have hw1 : IntKind.i64.wrap ((j : Int) + 1) = (j : Int) + 1 := by rw [i64_w]; unfold wrap64; omega
   obtain ⟨xo, xm, xf⟩ := x
   dsimp only at HQ HO
   have hno : ∀ y : Way, y = (if s ≥ 0 ∧ (xf = false ∨ s > xm) then (row, s, true) else (xo, xm, xf)) → qab (bestR (fun o => talikref04_Slack.f k l0_0 l0_1 l0_2 dd a1 o) (List.drop (j + 1) ll) y = some (r1, r2, r3)) := fun y hy => ⟨by rw [hy]; exact HQ.out⟩
   clear HQ
   by_cases c1 : 0 ≤ s
   ·
    have d1 : decide (0 ≤ s) = true := decide_eq_true c1
    cases xf with
    | false =>
     have HN := hno (row, s, true) (by rw [if_pos ⟨c1, .inl rfl⟩])
     clear hno
     go_wp2_with fail
     go_roundw
     case rel => exact ⟨j + 1, _, (row, s, true), by omega, rfl, rfl, rfl, by go_num, HN, HRO, HRR⟩
     case measure => simp [intOf]; omega
    | true =>
     by_cases c2 : xm < s
     ·
      have d2 : decide (xm < s) = true := decide_eq_true c2
      have HN := hno (row, s, true) (by rw [if_pos ⟨c1, .inr c2⟩])
      clear hno
      go_wp2_with fail
      go_roundw
      case rel => exact ⟨j + 1, _, (row, s, true), by omega, rfl, rfl, rfl, by go_num, HN, HRO, HRR⟩
      case measure => simp [intOf]; omega
     ·
      have d2 : decide (xm < s) = false := decide_eq_false c2
      have HN := hno (xo, xm, true) (by rw [if_neg (fun h => h.2.elim (fun h => by cases h) c2)])
      clear hno
      go_wp2_with fail
      go_roundw
      case rel => exact ⟨j + 1, _, (xo, xm, true), by omega, rfl, rfl, rfl, by go_num, HN, HRO, HO⟩
      case measure => simp [intOf]; omega
   ·
    have d1 : decide (0 ≤ s) = false := decide_eq_false c1
    have HN := hno (xo, xm, xf) (by rw [if_neg (fun h => c1 h.1)])
    clear hno
    go_wp2_with fail
    go_roundw
    case rel => exact ⟨j + 1, _, (xo, xm, xf), by omega, rfl, rfl, rfl, by go_num, HN, HRO, HO⟩
    case measure => simp [intOf]; omega
  ·
   have he := HF.out
   rw [List.drop_eq_nil_of_le (by omega)] at he
   simp only [bestR, Option.some.injEq] at he
   subst he
   go_wp2_with fail
   go_ret3
   exact ⟨_, rfl, HO.out, HRO.out.hb⟩
end Go.Proofs.Ytipphcjgdebecaa.PA
