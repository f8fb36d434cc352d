/- Parts of a proof about the pipe seat's laws: what the functions of the program answer. No condition of its own. -/
import Derived.Test.YtipphcjgdebecaaSC
import Derived.Test.YtipphcjgdebecaaSF
import Derived.Test.YtipphcjgdebecaaSE
import Derived.Test.YtipphcjgdebecaaPwC
set_option linter.all false
namespace Go.Proofs.Ytipphcjgdebecaa.PA
open Go.RowKit Go.Proofs.YtipphcjgdebecaaW.PrintWords Go.Proofs.YtipphcjgdebecaaW.PrintLast Go.Proofs.YtipphcjgdebecaaW.PrintMore
attribute [local go_sem] qbd qbf max_two min_two qay qaz qbe qbg
def pipe_Warmth.l0 : Nat → List (List (S37)) → Int → Int → List (S39) → List (S37) → List (List Int) → Option ((List (List (S37))) × Int)
 | 0, _, _, _, _, _, _ => none
 | k + 1, x4, x11, x12, x519000, x519001, x519002 => if x12 < x11 then ((pipe_net_warmth.f x519000 x519001 x519002 0 x12).bind fun t520 => (if x4.length < 5864062014805 then (pipe_Warmth.l0 k (x4 ++ [t520]) x11 (wrap64 (x12 + 1)) x519000 x519001 x519002) else (none))) else (some (x4, 0))
def pipe_Warmth.f (k : Nat) (l0_0 : List (S39)) (l0_1 : List (S37)) (l0_2 : List (List Int)) : Option ((List (List (S37))) × Int) := (pipe_valid.f l0_0 l0_1 l0_2).bind fun t519 => (if t519 = true then (pipe_Warmth.l0 k ([] : List (List (S37))) (l0_0.length : Int) 0 l0_0 l0_1 l0_2) else (some (([] : List (List (S37))), 2)))
set_option maxHeartbeats 8000000 in
set_option maxRecDepth 100000 in
theorem pipe_Warmth.calls (k : Nat) (A0_0 : Option Addr) (c0_0 : Nat) (l0_0 : List (S39)) (A0_1 : Option Addr) (c0_1 : Nat) (l0_1 : List (S37)) (A0_2 : Option Addr) (c0_2 : Nat) (l0_2 : List (List Int)) (r1 : List (List (S37))) (r2 : Int) (w : World) (hr0_0 : Kd.C k39 w A0_0 l0_0.length l0_0) (hc0_0 : l0_0.length ≤ c0_0) (hr0_1 : Kd.C k37 w A0_1 l0_1.length l0_1) (hc0_1 : l0_1.length ≤ c0_1) (hr0_2 : Kd.C (Kd.slice 3 (Kd.int .i64)) w A0_2 l0_2.length l0_2) (hc0_2 : l0_2.length ≤ c0_2) (h : pipe_Warmth.f k l0_0 l0_1 l0_2 = some (r1, r2)) :
  Calls Try.prog 47 #[.agg #[.slice A0_0 l0_0.length c0_0, .slice A0_1 l0_1.length c0_1, .slice A0_2 l0_2.length c0_2]] w fun e w' => ∃ v0_ : Value, e = .returned (.tuple #[v0_, .int .i64 r2]) ∧ Kd.S (Kd.slice 37 k37) 23 w' w.heap.size (fun _ => True) v0_ r1 ∧ Below w.heap.size w w' := by
 have hu26 := Try.underlying26
 have hu99 := Try.underlying99
 have HR0_0 := qab.mk hr0_0
 have HC0_0 := qab.mk hc0_0
 clear hr0_0 hc0_0
 have HR0_1 := qab.mk hr0_1
 have HC0_1 := qab.mk hc0_1
 clear hr0_1 hc0_1
 have HR0_2 := qab.mk hr0_2
 have HC0_2 := qab.mk hc0_2
 clear hr0_2 hc0_2
 have HB := qab.mk (Below.refl w.heap.size w)
 have H : ((pipe_valid.f l0_0 l0_1 l0_2).bind fun t519 => (if t519 = true then (pipe_Warmth.l0 k ([] : List (List (S37))) (l0_0.length : Int) 0 l0_0 l0_1 l0_2) else (some (([] : List (List (S37))), 2)))) = some (r1, r2) := h
 clear h
 replace H := Option.bind_eq_some_iff.mp H
 obtain ⟨t519, A20, H⟩ := H
 replace H : (if t519 = true then (pipe_Warmth.l0 k ([] : List (List (S37))) (l0_0.length : Int) 0 l0_0 l0_1 l0_2) else (some (([] : List (List (S37))), 2))) = some (r1, r2) := H
 have A2 := qab.mk A20
 clear A20
 by_cases c3 : t519 = true
 ·
  subst c3
  have H1 : (pipe_Warmth.l0 k ([] : List (List (S37))) (l0_0.length : Int) 0 l0_0 l0_1 l0_2) = some (r1, r2) := by rw [if_pos rfl] at H; exact H
  clear H
  have H := H1
  clear H1
  have H' := qab.mk H
  clear H
  go_enter Try.func47, Try.ntmps47
  go_wp2_with (first | ((with_reducible refine qav (N := 1) rfl ?_); refine qau ?hg (N := 1) ?hd (cs := #[.slice A0_0 l0_0.length c0_0, .slice A0_1 l0_1.length c0_1, .slice A0_2 l0_2.length c0_2]) (t := 26) ?hr ?_; (case hd => rfl); (case hg => rfl); (case hr => first | (go_simp; done) | (go_simp; rfl)); intro gb518 hg w4 hbox hb; have n0_ := qab.mk (qag (by repeat (first | (with_reducible first | exact HB.out | apply qae | apply qac | apply qaf) | exact HB.out)) hb); have n1_ := qab.mk (hbox); have n2_ := qab.mk ((by rw [hg]; exact (qaq (by repeat (first | (with_reducible first | exact HB.out | apply qae | apply qac | apply qaf) | exact HB.out))) : w.heap.size ≤ gb518)); have n3_ := qab.mk ((by rw [hg]; exact (qaq (by repeat (first | (with_reducible first | exact HB.out | apply qae | apply qac | apply qaf) | exact HB.out))) : w.heap.size ≤ gb518)); clear HB; have HB := n0_; have BK518 := n1_; have GW518 := n2_; have GE518 := n3_; clear n0_ n1_ n2_ n3_; clear hb hbox hg; have hcz5_0 : w4.cell? ⟨gb518, 0, none⟩ = some (.slice A0_0 l0_0.length c0_0) := (qaa BK518.out 0).trans rfl; have hcz5_1 : w4.cell? ⟨gb518, 1, none⟩ = some (.slice A0_1 l0_1.length c0_1) := (qaa BK518.out 1).trans rfl; have hcz5_2 : w4.cell? ⟨gb518, 2, none⟩ = some (.slice A0_2 l0_2.length c0_2) := (qaa BK518.out 2).trans rfl; have hfz5_0 := qad BK518.out 0; have hfz5_1 := qad BK518.out 1; have hfz5_2 := qad BK518.out 2) | ((with_reducible refine qat (f := 54) rfl ?_); refine qbb (some 7) rfl rfl Try.func54 (by kernel_rfl) rfl #[.agg #[.slice A0_0 l0_0.length c0_0, .slice A0_1 l0_1.length c0_1, .slice A0_2 l0_2.length c0_2]] rfl (by (try simp only [List.map_toArray, List.map_cons, List.map_nil]); first | done | rfl | (simp only [List.length_drop, List.length_take]; rfl)) ?_; (with_reducible refine (pipe_valid.calls _ _ l0_0 _ _ l0_1 _ _ l0_2 true _ ?side1 ?side2 ?side3 ?side4 ?side5 ?side6 A2.out).mono ?_); (case side1 => repeat (first | exact (Kd.qai HR0_0.out HB.out) | (with_reducible refine Kd.qal ?_ _) | (with_reducible refine Kd.qam ?_ _) | (with_reducible refine Kd.qap ?_))); (case side2 => exact HC0_0.out); (case side3 => repeat (first | exact (Kd.qai HR0_1.out HB.out) | (with_reducible refine Kd.qal ?_ _) | (with_reducible refine Kd.qam ?_ _) | (with_reducible refine Kd.qap ?_))); (case side4 => exact HC0_1.out); (case side5 => repeat (first | exact (Kd.qai HR0_2.out HB.out) | (with_reducible refine Kd.qal ?_ _) | (with_reducible refine Kd.qam ?_ _) | (with_reducible refine Kd.qap ?_))); (case side6 => exact HC0_2.out); rintro e w6 ⟨rfl, hb⟩; refine ⟨_, rfl, ?_⟩; have n0_ := qab.mk (qaj (g := gb518) (o := .cells #[.slice A0_0 l0_0.length c0_0, .slice A0_1 l0_1.length c0_1, .slice A0_2 l0_2.length c0_2] 26 (0, 0)) (by (with_reducible repeat (first | refine qan ?_ _ | refine qao ?_ | refine qak ?_ _)); exact BK518.out) hb); have n1_ := qab.mk (qag (by repeat (first | (with_reducible first | exact HB.out | apply qae | apply qac | apply qaf | refine qah ?_ GE518.out) | exact HB.out)) hb); clear BK518; clear HB; have BK518 := n0_; have HB := n1_; clear n0_ n1_; (try clear hb); (try clear hb2); (try clear hk); (try clear hi); have hcz7_0 : w6.cell? ⟨gb518, 0, none⟩ = some (.slice A0_0 l0_0.length c0_0) := (qaa BK518.out 0).trans rfl; have hcz7_1 : w6.cell? ⟨gb518, 1, none⟩ = some (.slice A0_1 l0_1.length c0_1) := (qaa BK518.out 1).trans rfl; have hcz7_2 : w6.cell? ⟨gb518, 2, none⟩ = some (.slice A0_2 l0_2.length c0_2) := (qaa BK518.out 2).trans rfl; have hfz7_0 := qad BK518.out 0; have hfz7_1 := qad BK518.out 1; have hfz7_2 := qad BK518.out 2))
  go_loopg [4, 12] k (fun kq v4 v12 w' => ∃ (x4_1 : List (List (S37))) (x12_1 : Int), v12 = .int .i64 x12_1 ∧ qab (pipe_Warmth.l0 kq x4_1 (l0_0.length : Int) x12_1 l0_0 l0_1 l0_2 = some (r1, r2)) ∧ qab (kq ≤ k) ∧ qab (Kd.S (Kd.slice 37 k37) 23 w' w.heap.size (fun _ => True) v4 x4_1) ∧ qab (w'.heap[gb518]? = some (.cells #[(.slice A0_0 l0_0.length c0_0), (.slice A0_1 l0_1.length c0_1), (.slice A0_2 l0_2.length c0_2)] 26 (0, 0))) ∧ qab (Below w.heap.size w w'))
  case atStart => exact ⟨(([] : List (List (S37)))), (0), (by first | rfl | (simp; done) | (simp [*]; done)), H', ⟨Nat.le_refl _⟩, ⟨by first | exact Kd.S_nil _ _ _ _ _ | exact Kd.N_nil _ _ _ _ _ | exact Kd.V_nil _ _ _ _ _ | exact Kd.Q_nil _ _ _ _ _ | exact Kd.R_nil _ _ _ _ _⟩, ⟨by (with_reducible repeat (first | refine qan ?_ _ | refine qao ?_ | refine qak ?_ _)); exact BK518.out⟩, ⟨by repeat (first | (with_reducible first | exact HB.out | apply qae | apply qac | apply qaf | refine qah ?_ GE518.out) | exact HB.out)⟩⟩
  case round =>
   clear H'
   try clear p2
   try clear c3
   try clear c4
   try clear c5
   try clear hcz5_0
   try clear hcz5_1
   try clear hcz5_2
   try clear hcz7_0
   try clear hcz7_1
   try clear hcz7_2
   try clear hfz5_0
   try clear hfz5_1
   try clear hfz5_2
   try clear hfz7_0
   try clear hfz7_1
   try clear hfz7_2
   obtain ⟨x4_1, x12_1, rfl, HA, HK1, HO_4, BK518, HB⟩ := hrel
   cases gk with
   | zero => exact absurd HA.out (by simp [pipe_Warmth.l0])
   | succ k1 =>
    have H := HA.out
    clear HA
    simp only [pipe_Warmth.l0] at H
    by_cases c8 : x12_1 < (l0_0.length : Int)
    ·
     rw [if_pos c8] at H
     have c8b0 : decide (x12_1 < (l0_0.length : Int)) = true := decide_eq_true c8
     clear c8
     replace H := Option.bind_eq_some_iff.mp H
     obtain ⟨t520, A90, H⟩ := H
     replace H : (if x4_1.length < 5864062014805 then (pipe_Warmth.l0 k1 (x4_1 ++ [t520]) (l0_0.length : Int) (wrap64 (x12_1 + 1)) l0_0 l0_1 l0_2) else (none)) = some (r1, r2) := H
     have A9 := qab.mk A90
     clear A90
     by_cases c10 : x4_1.length < 5864062014805
     ·
      rw [if_pos c10] at H
      have LMc10 := qab.mk c10
      clear c10
      obtain ⟨y523, hy523⟩ : ∃ y_ : List (List (S37)), y_ = (x4_1 ++ [t520]) := ⟨_, rfl⟩
      replace H : (pipe_Warmth.l0 k1 y523 (l0_0.length : Int) (wrap64 (x12_1 + 1)) l0_0 l0_1 l0_2) = some (r1, r2) := by first | (rw [hy523]; with_reducible exact H) | (have H2_ := (Option.bind_some _ _).symm.trans H; rw [hy523]; with_reducible exact H2_) | (have H2_ := (Option.bind_some _ _).symm.trans H; with_reducible exact H2_) | with_reducible exact H | (rw [hy523]; exact H) | exact H
      have Ny523 := qab.mk hy523
      clear hy523
      have H' := qab.mk H
      clear H
      have hcz11_0 : wr.cell? ⟨gb518, 0, none⟩ = some (.slice A0_0 l0_0.length c0_0) := (qaa BK518.out 0).trans rfl
      have hcz11_1 : wr.cell? ⟨gb518, 1, none⟩ = some (.slice A0_1 l0_1.length c0_1) := (qaa BK518.out 1).trans rfl
      have hcz11_2 : wr.cell? ⟨gb518, 2, none⟩ = some (.slice A0_2 l0_2.length c0_2) := (qaa BK518.out 2).trans rfl
      have hfz11_0 := qad BK518.out 0
      have hfz11_1 := qad BK518.out 1
      have hfz11_2 := qad BK518.out 2
      go_wp2_with (first | ((with_reducible refine qat (f := 79) rfl ?_); refine qbb (some 19) rfl rfl Try.func79 (by kernel_rfl) rfl #[.agg #[.slice A0_0 l0_0.length c0_0, .slice A0_1 l0_1.length c0_1, .slice A0_2 l0_2.length c0_2, .int .i64 0], .int .i64 x12_1] rfl (by (try simp only [List.map_toArray, List.map_cons, List.map_nil]); first | done | rfl | (simp only [List.length_drop, List.length_take]; rfl)) ?_; (with_reducible refine (pipe_net_warmth.calls _ _ l0_0 _ _ l0_1 _ _ l0_2 0 x12_1 t520 _ ?side1 ?side2 ?side3 ?side4 ?side5 ?side6 A9.out).mono ?_); (case side1 => repeat (first | exact (Kd.qai HR0_0.out HB.out) | (with_reducible refine Kd.qal ?_ _) | (with_reducible refine Kd.qam ?_ _) | (with_reducible refine Kd.qap ?_))); (case side2 => exact HC0_0.out); (case side3 => repeat (first | exact (Kd.qai HR0_1.out HB.out) | (with_reducible refine Kd.qal ?_ _) | (with_reducible refine Kd.qam ?_ _) | (with_reducible refine Kd.qap ?_))); (case side4 => exact HC0_1.out); (case side5 => repeat (first | exact (Kd.qai HR0_2.out HB.out) | (with_reducible refine Kd.qal ?_ _) | (with_reducible refine Kd.qam ?_ _) | (with_reducible refine Kd.qap ?_))); (case side6 => exact HC0_2.out); rintro e w12 ⟨v521, rfl, ho0, hb⟩; refine ⟨_, rfl, ?_⟩; have n0_ := qab.mk (Kd.S_elder' (by (with_reducible repeat (first | apply Kd.S_alloc | apply Kd.S_drewN | apply Kd.S_drew)); exact HO_4.out) (Kd.R_base ho0) hb); have n1_ := qab.mk (Kd.R_lower ho0 (qaq (by repeat (first | (with_reducible first | exact HB.out | apply qae | apply qac | apply qaf | refine qah ?_ GE518.out) | exact HB.out)))); have n2_ := qab.mk (qaj (g := gb518) (o := .cells #[.slice A0_0 l0_0.length c0_0, .slice A0_1 l0_1.length c0_1, .slice A0_2 l0_2.length c0_2] 26 (0, 0)) (by (with_reducible repeat (first | refine qan ?_ _ | refine qao ?_ | refine qak ?_ _)); exact BK518.out) hb); have n3_ := qab.mk (qag (by repeat (first | (with_reducible first | exact HB.out | apply qae | apply qac | apply qaf | refine qah ?_ GE518.out) | exact HB.out)) hb); clear HO_4; clear BK518; clear HB; have HO_4 := n0_; have HO522 := n1_; have BK518 := n2_; have HB := n3_; clear n0_ n1_ n2_ n3_; (try clear hb); (try clear hb2); (try clear hk); (try clear hi); (try clear ho0); obtain ⟨Ao14, co14, eo14⟩ := Kd.R_slice HO522.out; subst eo14) | ((with_reducible refine gate_builtin (b := .append) (xs := #[.tmp 15, .tmp 20]) rfl ?_); at_builtin; refine Kd.S_append (Kd.slice 37 k37) (w0 := w) w.heap.size rfl (.tmp 15) (.tmp 20) 80 23 (.slice none 0 0) 24 rfl Try.underlying80 info23 rfl (by decide) (by omega) u4 x4_1 t520 [.slice Ao14 t520.length co14] (fun _ => True) (fun k_ => some k_ = (.slice Ao14 t520.length co14 : Value).ownBlock) rfl rfl ?aP (fun k_ hk_ => ((Kd.R_mono (ok' := fun k_ => ((fun _ => True)) k_ ∧ some k_ ≠ (u4 : Value).ownBlock) (Kd.R_apart' (HO522.out) (Kd.S_typed HO_4.out) (by decide)) (fun k_ hk => ⟨trivial, hk.2⟩))).1 k_ hk_.symm) ?aF ?aO ?aB ?aS ?aL ?_; (case aP => exact Kd.M_row (Kd.R_mono (Kd.R_tight rfl (Kd.R_mono (ok' := fun k_ => ((fun _ => True)) k_ ∧ some k_ ≠ (u4 : Value).ownBlock) (Kd.R_apart' (HO522.out) (Kd.S_typed HO_4.out) (by decide)) (fun k_ hk => ⟨trivial, hk.2⟩))) (fun _ h_ => h_))); (case aB => exact (by repeat (first | (with_reducible first | exact HB.out | apply qae | apply qac | apply qaf | refine qah ?_ GE518.out) | exact HB.out))); (case aF => exact (fun _ _ => trivial)); (case aO => exact (by (with_reducible repeat (first | apply Kd.S_alloc | apply Kd.S_drewN | apply Kd.S_drew)); exact Kd.S_mono HO_4.out (fun k_ hk => ⟨trivial, fun e_ => hk.2 e_⟩))); (case aS => exact (qaq (by repeat (first | (with_reducible first | exact HB.out | apply qae | apply qac | apply qaf | refine qah ?_ GE518.out) | exact HB.out)))); (case aL => have := LMc10.out; omega); intro v524 w13 ho hb hg hat; rw [← Ny523.out] at ho; have n0_ := qab.mk (blk_grown (g := gb518) (o := .cells #[.slice A0_0 l0_0.length c0_0, .slice A0_1 l0_1.length c0_1, .slice A0_2 l0_2.length c0_2] 26 (0, 0)) (by (with_reducible repeat (first | refine qan ?_ _ | refine qao ?_ | refine qak ?_ _)); exact BK518.out) hg (Kd.S_ne HO_4.out BK518.out (by decide))); have n1_ := qab.mk (hb); have n2_ := qab.mk (ho); clear BK518; clear HB; clear HO_4; clear HO522; have BK518 := n0_; have HB := n1_; have HO525 := n2_; clear n0_ n1_ n2_; clear ho hb hg hat))
      go_roundg k1
      case measure => have := HK1.out; omega
      case rel => exact ⟨(y523), (wrap64 (x12_1 + 1)), (by first | rfl | (simp; done) | (simp [*]; done)), H', ⟨by have := HK1.out; omega⟩, ⟨by (with_reducible repeat (first | apply Kd.S_alloc | apply Kd.S_drewN | apply Kd.S_drew)); exact HO525.out⟩, ⟨by (with_reducible repeat (first | refine qan ?_ _ | refine qao ?_ | refine qak ?_ _)); exact BK518.out⟩, ⟨by repeat (first | (with_reducible first | exact HB.out | apply qae | apply qac | apply qaf | refine qah ?_ GE518.out) | exact HB.out)⟩⟩
     ·
      rw [if_neg c10] at H
      exact absurd H (by simp)
    ·
     rw [if_neg c8] at H
     have c8b0 : decide (x12_1 < (l0_0.length : Int)) = false := decide_eq_false c8
     clear c8
     simp only [Option.some.injEq, Prod.mk.injEq] at H
     obtain ⟨rfl, rfl⟩ := H
     go_wp2
     go_ret2
     exact ⟨_, by first | rfl | (simp [qar, qas] <;> rfl) | (simp [*, qar, qas] <;> rfl), by (with_reducible repeat (first | apply Kd.S_alloc | apply Kd.S_drewN | apply Kd.S_drew)); exact HO_4.out, by repeat (first | (with_reducible first | exact HB.out | apply qae | apply qac | apply qaf | refine qah ?_ GE518.out) | exact HB.out)⟩
 ·
  replace c3 := Bool.eq_false_iff.mpr c3
  subst c3
  have H1 : (some (([] : List (List (S37))), 2)) = some (r1, r2) := by rw [if_neg (show ¬ (false = true) by decide)] at H; exact H
  clear H
  have H := H1
  clear H1
  simp only [Option.some.injEq, Prod.mk.injEq] at H
  obtain ⟨rfl, rfl⟩ := H
  go_enter Try.func47, Try.ntmps47
  go_wp2_with (first | ((with_reducible refine qav (N := 1) rfl ?_); refine qau ?hg (N := 1) ?hd (cs := #[.slice A0_0 l0_0.length c0_0, .slice A0_1 l0_1.length c0_1, .slice A0_2 l0_2.length c0_2]) (t := 26) ?hr ?_; (case hd => rfl); (case hg => rfl); (case hr => first | (go_simp; done) | (go_simp; rfl)); intro gb518 hg w15 hbox hb; have n0_ := qab.mk (qag (by repeat (first | (with_reducible first | exact HB.out | apply qae | apply qac | apply qaf) | exact HB.out)) hb); have n1_ := qab.mk (hbox); have n2_ := qab.mk ((by rw [hg]; exact (qaq (by repeat (first | (with_reducible first | exact HB.out | apply qae | apply qac | apply qaf) | exact HB.out))) : w.heap.size ≤ gb518)); have n3_ := qab.mk ((by rw [hg]; exact (qaq (by repeat (first | (with_reducible first | exact HB.out | apply qae | apply qac | apply qaf) | exact HB.out))) : w.heap.size ≤ gb518)); clear HB; have HB := n0_; have BK518 := n1_; have GW518 := n2_; have GE518 := n3_; clear n0_ n1_ n2_ n3_; clear hb hbox hg; have hcz16_0 : w15.cell? ⟨gb518, 0, none⟩ = some (.slice A0_0 l0_0.length c0_0) := (qaa BK518.out 0).trans rfl; have hcz16_1 : w15.cell? ⟨gb518, 1, none⟩ = some (.slice A0_1 l0_1.length c0_1) := (qaa BK518.out 1).trans rfl; have hcz16_2 : w15.cell? ⟨gb518, 2, none⟩ = some (.slice A0_2 l0_2.length c0_2) := (qaa BK518.out 2).trans rfl; have hfz16_0 := qad BK518.out 0; have hfz16_1 := qad BK518.out 1; have hfz16_2 := qad BK518.out 2) | ((with_reducible refine qat (f := 54) rfl ?_); refine qbb (some 7) rfl rfl Try.func54 (by kernel_rfl) rfl #[.agg #[.slice A0_0 l0_0.length c0_0, .slice A0_1 l0_1.length c0_1, .slice A0_2 l0_2.length c0_2]] rfl (by (try simp only [List.map_toArray, List.map_cons, List.map_nil]); first | done | rfl | (simp only [List.length_drop, List.length_take]; rfl)) ?_; (with_reducible refine (pipe_valid.calls _ _ l0_0 _ _ l0_1 _ _ l0_2 false _ ?side1 ?side2 ?side3 ?side4 ?side5 ?side6 A2.out).mono ?_); (case side1 => repeat (first | exact (Kd.qai HR0_0.out HB.out) | (with_reducible refine Kd.qal ?_ _) | (with_reducible refine Kd.qam ?_ _) | (with_reducible refine Kd.qap ?_))); (case side2 => exact HC0_0.out); (case side3 => repeat (first | exact (Kd.qai HR0_1.out HB.out) | (with_reducible refine Kd.qal ?_ _) | (with_reducible refine Kd.qam ?_ _) | (with_reducible refine Kd.qap ?_))); (case side4 => exact HC0_1.out); (case side5 => repeat (first | exact (Kd.qai HR0_2.out HB.out) | (with_reducible refine Kd.qal ?_ _) | (with_reducible refine Kd.qam ?_ _) | (with_reducible refine Kd.qap ?_))); (case side6 => exact HC0_2.out); rintro e w17 ⟨rfl, hb⟩; refine ⟨_, rfl, ?_⟩; have n0_ := qab.mk (qaj (g := gb518) (o := .cells #[.slice A0_0 l0_0.length c0_0, .slice A0_1 l0_1.length c0_1, .slice A0_2 l0_2.length c0_2] 26 (0, 0)) (by (with_reducible repeat (first | refine qan ?_ _ | refine qao ?_ | refine qak ?_ _)); exact BK518.out) hb); have n1_ := qab.mk (qag (by repeat (first | (with_reducible first | exact HB.out | apply qae | apply qac | apply qaf | refine qah ?_ GE518.out) | exact HB.out)) hb); clear BK518; clear HB; have BK518 := n0_; have HB := n1_; clear n0_ n1_; (try clear hb); (try clear hb2); (try clear hk); (try clear hi)))
  go_ret2
  exact ⟨_, by first | rfl | (simp [qar, qas] <;> rfl) | (simp [*, qar, qas] <;> rfl), by first | exact Kd.S_nil _ _ _ _ _ | exact Kd.N_nil _ _ _ _ _ | exact Kd.V_nil _ _ _ _ _ | exact Kd.Q_nil _ _ _ _ _ | exact Kd.R_nil _ _ _ _ _, by repeat (first | (with_reducible first | exact HB.out | apply qae | apply qac | apply qaf | refine qah ?_ GE518.out) | exact HB.out)⟩
def pipe_Check.f (l0_0 : List (S39)) (l0_1 : List (S37)) (l0_2 : List (List Int)) : Option (Int) := (pipe_valid.f l0_0 l0_1 l0_2).bind fun t595 => (if t595 = true then (some 0) else (some 2))
set_option maxHeartbeats 8000000 in
set_option maxRecDepth 100000 in
theorem pipe_Check.calls (A0_0 : Option Addr) (c0_0 : Nat) (l0_0 : List (S39)) (A0_1 : Option Addr) (c0_1 : Nat) (l0_1 : List (S37)) (A0_2 : Option Addr) (c0_2 : Nat) (l0_2 : List (List Int)) (r : Int) (w : World) (hr0_0 : Kd.C k39 w A0_0 l0_0.length l0_0) (hc0_0 : l0_0.length ≤ c0_0) (hr0_1 : Kd.C k37 w A0_1 l0_1.length l0_1) (hc0_1 : l0_1.length ≤ c0_1) (hr0_2 : Kd.C (Kd.slice 3 (Kd.int .i64)) w A0_2 l0_2.length l0_2) (hc0_2 : l0_2.length ≤ c0_2) (h : pipe_Check.f l0_0 l0_1 l0_2 = some r) :
  Calls Try.prog 49 #[.agg #[.slice A0_0 l0_0.length c0_0, .slice A0_1 l0_1.length c0_1, .slice A0_2 l0_2.length c0_2]] w fun e w' => e = .returned (.int .i64 r) ∧ Below w.heap.size w w' := by
 have hu26 := Try.underlying26
 have HR0_0 := qab.mk hr0_0
 have HC0_0 := qab.mk hc0_0
 clear hr0_0 hc0_0
 have HR0_1 := qab.mk hr0_1
 have HC0_1 := qab.mk hc0_1
 clear hr0_1 hc0_1
 have HR0_2 := qab.mk hr0_2
 have HC0_2 := qab.mk hc0_2
 clear hr0_2 hc0_2
 have HB := qab.mk (Below.refl w.heap.size w)
 have H : ((pipe_valid.f l0_0 l0_1 l0_2).bind fun t595 => (if t595 = true then (some 0) else (some 2))) = some r := h
 clear h
 replace H := Option.bind_eq_some_iff.mp H
 obtain ⟨t595, A20, H⟩ := H
 replace H : (if t595 = true then (some 0) else (some 2)) = some r := H
 have A2 := qab.mk A20
 clear A20
 by_cases c3 : t595 = true
 ·
  subst c3
  have H1 : (some 0) = some r := by rw [if_pos rfl] at H; exact H
  clear H
  have H := H1
  clear H1
  obtain rfl := Option.some.inj H
  go_enter Try.func49, Try.ntmps49
  go_wp2_with (first | ((with_reducible refine qav (N := 1) rfl ?_); refine qau ?hg (N := 1) ?hd (cs := #[.slice A0_0 l0_0.length c0_0, .slice A0_1 l0_1.length c0_1, .slice A0_2 l0_2.length c0_2]) (t := 26) ?hr ?_; (case hd => rfl); (case hg => rfl); (case hr => first | (go_simp; done) | (go_simp; rfl)); intro gb594 hg w4 hbox hb; have n0_ := qab.mk (qag (by repeat (first | (with_reducible first | exact HB.out | apply qae | apply qac | apply qaf) | exact HB.out)) hb); have n1_ := qab.mk (hbox); have n2_ := qab.mk ((by rw [hg]; exact (qaq (by repeat (first | (with_reducible first | exact HB.out | apply qae | apply qac | apply qaf) | exact HB.out))) : w.heap.size ≤ gb594)); have n3_ := qab.mk ((by rw [hg]; exact (qaq (by repeat (first | (with_reducible first | exact HB.out | apply qae | apply qac | apply qaf) | exact HB.out))) : w.heap.size ≤ gb594)); clear HB; have HB := n0_; have BK594 := n1_; have GW594 := n2_; have GE594 := n3_; clear n0_ n1_ n2_ n3_; clear hb hbox hg; have hcz5_0 : w4.cell? ⟨gb594, 0, none⟩ = some (.slice A0_0 l0_0.length c0_0) := (qaa BK594.out 0).trans rfl; have hcz5_1 : w4.cell? ⟨gb594, 1, none⟩ = some (.slice A0_1 l0_1.length c0_1) := (qaa BK594.out 1).trans rfl; have hcz5_2 : w4.cell? ⟨gb594, 2, none⟩ = some (.slice A0_2 l0_2.length c0_2) := (qaa BK594.out 2).trans rfl; have hfz5_0 := qad BK594.out 0; have hfz5_1 := qad BK594.out 1; have hfz5_2 := qad BK594.out 2) | ((with_reducible refine qat (f := 54) rfl ?_); refine qbb (some 4) rfl rfl Try.func54 (by kernel_rfl) rfl #[.agg #[.slice A0_0 l0_0.length c0_0, .slice A0_1 l0_1.length c0_1, .slice A0_2 l0_2.length c0_2]] rfl (by (try simp only [List.map_toArray, List.map_cons, List.map_nil]); first | done | rfl | (simp only [List.length_drop, List.length_take]; rfl)) ?_; (with_reducible refine (pipe_valid.calls _ _ l0_0 _ _ l0_1 _ _ l0_2 true _ ?side1 ?side2 ?side3 ?side4 ?side5 ?side6 A2.out).mono ?_); (case side1 => repeat (first | exact (Kd.qai HR0_0.out HB.out) | (with_reducible refine Kd.qal ?_ _) | (with_reducible refine Kd.qam ?_ _) | (with_reducible refine Kd.qap ?_))); (case side2 => exact HC0_0.out); (case side3 => repeat (first | exact (Kd.qai HR0_1.out HB.out) | (with_reducible refine Kd.qal ?_ _) | (with_reducible refine Kd.qam ?_ _) | (with_reducible refine Kd.qap ?_))); (case side4 => exact HC0_1.out); (case side5 => repeat (first | exact (Kd.qai HR0_2.out HB.out) | (with_reducible refine Kd.qal ?_ _) | (with_reducible refine Kd.qam ?_ _) | (with_reducible refine Kd.qap ?_))); (case side6 => exact HC0_2.out); rintro e w6 ⟨rfl, hb⟩; refine ⟨_, rfl, ?_⟩; have n0_ := qab.mk (qaj (g := gb594) (o := .cells #[.slice A0_0 l0_0.length c0_0, .slice A0_1 l0_1.length c0_1, .slice A0_2 l0_2.length c0_2] 26 (0, 0)) (by (with_reducible repeat (first | refine qan ?_ _ | refine qao ?_ | refine qak ?_ _)); exact BK594.out) hb); have n1_ := qab.mk (qag (by repeat (first | (with_reducible first | exact HB.out | apply qae | apply qac | apply qaf | refine qah ?_ GE594.out) | exact HB.out)) hb); clear BK594; clear HB; have BK594 := n0_; have HB := n1_; clear n0_ n1_; (try clear hb); (try clear hb2); (try clear hk); (try clear hi)))
  go_ret
  exact ⟨by first | rfl | (simp [qar, qas] <;> rfl) | (simp [*, qar, qas] <;> rfl), by repeat (first | (with_reducible first | exact HB.out | apply qae | apply qac | apply qaf | refine qah ?_ GE594.out) | exact HB.out)⟩
 ·
  replace c3 := Bool.eq_false_iff.mpr c3
  subst c3
  have H1 : (some 2) = some r := by rw [if_neg (show ¬ (false = true) by decide)] at H; exact H
  clear H
  have H := H1
  clear H1
  obtain rfl := Option.some.inj H
  go_enter Try.func49, Try.ntmps49
  go_wp2_with (first | ((with_reducible refine qav (N := 1) rfl ?_); refine qau ?hg (N := 1) ?hd (cs := #[.slice A0_0 l0_0.length c0_0, .slice A0_1 l0_1.length c0_1, .slice A0_2 l0_2.length c0_2]) (t := 26) ?hr ?_; (case hd => rfl); (case hg => rfl); (case hr => first | (go_simp; done) | (go_simp; rfl)); intro gb594 hg w7 hbox hb; have n0_ := qab.mk (qag (by repeat (first | (with_reducible first | exact HB.out | apply qae | apply qac | apply qaf) | exact HB.out)) hb); have n1_ := qab.mk (hbox); have n2_ := qab.mk ((by rw [hg]; exact (qaq (by repeat (first | (with_reducible first | exact HB.out | apply qae | apply qac | apply qaf) | exact HB.out))) : w.heap.size ≤ gb594)); have n3_ := qab.mk ((by rw [hg]; exact (qaq (by repeat (first | (with_reducible first | exact HB.out | apply qae | apply qac | apply qaf) | exact HB.out))) : w.heap.size ≤ gb594)); clear HB; have HB := n0_; have BK594 := n1_; have GW594 := n2_; have GE594 := n3_; clear n0_ n1_ n2_ n3_; clear hb hbox hg; have hcz8_0 : w7.cell? ⟨gb594, 0, none⟩ = some (.slice A0_0 l0_0.length c0_0) := (qaa BK594.out 0).trans rfl; have hcz8_1 : w7.cell? ⟨gb594, 1, none⟩ = some (.slice A0_1 l0_1.length c0_1) := (qaa BK594.out 1).trans rfl; have hcz8_2 : w7.cell? ⟨gb594, 2, none⟩ = some (.slice A0_2 l0_2.length c0_2) := (qaa BK594.out 2).trans rfl; have hfz8_0 := qad BK594.out 0; have hfz8_1 := qad BK594.out 1; have hfz8_2 := qad BK594.out 2) | ((with_reducible refine qat (f := 54) rfl ?_); refine qbb (some 4) rfl rfl Try.func54 (by kernel_rfl) rfl #[.agg #[.slice A0_0 l0_0.length c0_0, .slice A0_1 l0_1.length c0_1, .slice A0_2 l0_2.length c0_2]] rfl (by (try simp only [List.map_toArray, List.map_cons, List.map_nil]); first | done | rfl | (simp only [List.length_drop, List.length_take]; rfl)) ?_; (with_reducible refine (pipe_valid.calls _ _ l0_0 _ _ l0_1 _ _ l0_2 false _ ?side1 ?side2 ?side3 ?side4 ?side5 ?side6 A2.out).mono ?_); (case side1 => repeat (first | exact (Kd.qai HR0_0.out HB.out) | (with_reducible refine Kd.qal ?_ _) | (with_reducible refine Kd.qam ?_ _) | (with_reducible refine Kd.qap ?_))); (case side2 => exact HC0_0.out); (case side3 => repeat (first | exact (Kd.qai HR0_1.out HB.out) | (with_reducible refine Kd.qal ?_ _) | (with_reducible refine Kd.qam ?_ _) | (with_reducible refine Kd.qap ?_))); (case side4 => exact HC0_1.out); (case side5 => repeat (first | exact (Kd.qai HR0_2.out HB.out) | (with_reducible refine Kd.qal ?_ _) | (with_reducible refine Kd.qam ?_ _) | (with_reducible refine Kd.qap ?_))); (case side6 => exact HC0_2.out); rintro e w9 ⟨rfl, hb⟩; refine ⟨_, rfl, ?_⟩; have n0_ := qab.mk (qaj (g := gb594) (o := .cells #[.slice A0_0 l0_0.length c0_0, .slice A0_1 l0_1.length c0_1, .slice A0_2 l0_2.length c0_2] 26 (0, 0)) (by (with_reducible repeat (first | refine qan ?_ _ | refine qao ?_ | refine qak ?_ _)); exact BK594.out) hb); have n1_ := qab.mk (qag (by repeat (first | (with_reducible first | exact HB.out | apply qae | apply qac | apply qaf | refine qah ?_ GE594.out) | exact HB.out)) hb); clear BK594; clear HB; have BK594 := n0_; have HB := n1_; clear n0_ n1_; (try clear hb); (try clear hb2); (try clear hk); (try clear hi)))
  go_ret
  exact ⟨by first | rfl | (simp [qar, qas] <;> rfl) | (simp [*, qar, qas] <;> rfl), by repeat (first | (with_reducible first | exact HB.out | apply qae | apply qac | apply qaf | refine qah ?_ GE594.out) | exact HB.out)⟩
end Go.Proofs.Ytipphcjgdebecaa.PA
namespace Go.Proofs.Ytipphcjgdebecaa.PA
open Go.RowKit Go.Proofs.YtipphcjgdebecaaW.PrintWords Go.Proofs.YtipphcjgdebecaaW.PrintLast Go.Proofs.YtipphcjgdebecaaW.PrintMore
attribute [local go_sem] qbd qbf max_two min_two qay qaz qbe qbg
theorem eqA37 (d : Nat) (w : World) (x0 y0 : Int) (x1 y1 : Int) :
  (Op.equalIn (d + 2) 37 (.agg #[.int .i64 x0, .int .i64 x1]) (.agg #[.int .i64 y0, .int .i64 y1])).run Try.prog w = .ok (x0 == y0 && (x1 == y1)) w := by
 refine eqA_of Try.underlying37 (by kernel_rfl) ?_
 refine eqf_cons (by rfl) (by go_simp; rfl) (by go_simp; rfl) (by go_simp) ?_
 exact eqf_last (by rfl) (by go_simp; rfl) (by go_simp; rfl) (by go_simp)
end Go.Proofs.Ytipphcjgdebecaa.PA
namespace Go.Proofs.Ytipphcjgdebecaa.PA
open Go.RowKit Go.Proofs.YtipphcjgdebecaaW.PrintWords Go.Proofs.YtipphcjgdebecaaW.PrintLast Go.Proofs.YtipphcjgdebecaaW.PrintMore
attribute [local go_sem] qbd qbf max_two min_two qay qaz qbe qbg
attribute [local go_sem high] eqA37
mutual
def talikref04_SameSpans.l0 : Nat → List (List (S37)) → List (List (S37)) → Int → Option (Bool)
 | 0, _, _, _ => none
 | k + 1, x0, x1, x5 => if x5 < (x0.length : Int) then (if 0 ≤ x5 then (if x5 < (x1.length : Int) then (if ((rd_L6 x0 x5).length : Int) = ((rd_L6 x1 x5).length : Int) then (talikref04_SameSpans.l1 k x0 x1 x5 0) else (some false)) else (none)) else (none)) else (some true)
def talikref04_SameSpans.l1 : Nat → List (List (S37)) → List (List (S37)) → Int → Int → Option (Bool)
 | 0, _, _, _, _ => none
 | k + 1, x0, x1, x5, x6 => if 0 ≤ x5 then (if x5 < (x0.length : Int) then (if x6 < ((rd_L6 x0 x5).length : Int) then (if 0 ≤ x6 then (if x5 < (x1.length : Int) then (if x6 < ((rd_L6 x1 x5).length : Int) then (if (!(((rd_T37 (rd_L6 x0 x5) x6).f0) == ((rd_T37 (rd_L6 x1 x5) x6).f0)) || (!(((rd_T37 (rd_L6 x0 x5) x6).f1) == ((rd_T37 (rd_L6 x1 x5) x6).f1)))) = true then (some false) else (talikref04_SameSpans.l1 k x0 x1 x5 (wrap64 (x6 + 1)))) else (none)) else (none)) else (none)) else (talikref04_SameSpans.l0 k x0 x1 (wrap64 (x5 + 1)))) else (none)) else (none)
end
def talikref04_SameSpans.f (k : Nat) (l0 : List (List (S37))) (l1 : List (List (S37))) : Option (Bool) := if (l0.length : Int) = (l1.length : Int) then (talikref04_SameSpans.l0 k l0 l1 0) else (some false)
set_option maxHeartbeats 8000000 in
set_option maxRecDepth 100000 in
theorem talikref04_SameSpans.calls (k : Nat) (A0 : Option Addr) (c0 : Nat) (l0 : List (List (S37))) (A1 : Option Addr) (c1 : Nat) (l1 : List (List (S37))) (r : Bool) (w : World) (hr0 : Kd.C (Kd.slice 37 k37) w A0 l0.length l0) (hc0 : l0.length ≤ c0) (hr1 : Kd.C (Kd.slice 37 k37) w A1 l1.length l1) (hc1 : l1.length ≤ c1) (h : talikref04_SameSpans.f k l0 l1 = some r) :
  Calls Try.prog 50 #[.slice A0 l0.length c0, .slice A1 l1.length c1] w fun e w' => e = .returned (.bool r) ∧ Drawn0 w w' := by
 have hu37 := Try.underlying37
 have HR0 := qab.mk hr0
 have HC0 := qab.mk hc0
 clear hr0 hc0
 have HR1 := qab.mk hr1
 have HC1 := qab.mk hc1
 clear hr1 hc1
 have H : (if (l0.length : Int) = (l1.length : Int) then (talikref04_SameSpans.l0 k l0 l1 0) else (some false)) = some r := h
 clear h
 by_cases c3 : (l0.length : Int) = (l1.length : Int)
 ·
  rw [if_pos c3] at H
  have c3b0 : ((l0.length : Int) == (l1.length : Int)) = true := beq_iff_eq.mpr c3
  have c3b1 : ((l0.length : Int) != (l1.length : Int)) = false := bne_eq_false_iff_eq.mpr c3
  have c3b2 : (l0.length == l1.length) = true := by first | simpa using c3 | (simp at c3 ⊢; omega)
  clear c3
  have H' := qab.mk H
  clear H
  go_enter Try.func50, Try.ntmps50
  go_wp2
  repeat (go_quiet (fail); try go_wp2)
  go_loopg [5] k (fun kq v5 w' => ∃ (x5_1 : Int), v5 = .int .i64 x5_1 ∧ qab (talikref04_SameSpans.l0 kq l0 l1 x5_1 = some r) ∧ qab (kq ≤ k) ∧ Drawn0 w w')
  case atStart => exact ⟨(0), (by first | rfl | (simp; done) | (simp [*]; done)), H', ⟨Nat.le_refl _⟩, by repeat (first | exact Drawn0.refl _ | apply Drawn0.step)⟩
  case round =>
   clear H'
   try clear c1
   try clear p2
   try clear c3
   try clear c3b0
   try clear c3b1
   try clear c3b2
   obtain ⟨x5_1, rfl, HA, HK1, ⟨m1, rfl⟩⟩ := hrel
   cases gk with
   | zero => exact absurd HA.out (by simp [talikref04_SameSpans.l0])
   | succ k1 =>
    have H := HA.out
    clear HA
    simp only [talikref04_SameSpans.l0] at H
    by_cases c4 : x5_1 < (l0.length : Int)
    ·
     rw [if_pos c4] at H
     have c4b0 : decide (x5_1 < (l0.length : Int)) = true := decide_eq_true c4
     clear c4
     by_cases c5 : 0 ≤ x5_1
     ·
      rw [if_pos c5] at H
      have c5b0 : decide (0 ≤ x5_1) = true := decide_eq_true c5
      clear c5
      by_cases c6 : x5_1 < (l1.length : Int)
      ·
       rw [if_pos c6] at H
       have c6b0 : decide (x5_1 < (l1.length : Int)) = true := decide_eq_true c6
       clear c6
       by_cases c7 : ((rd_L6 l0 x5_1).length : Int) = ((rd_L6 l1 x5_1).length : Int)
       ·
        rw [if_pos c7] at H
        have c7b0 : (((rd_L6 l0 x5_1).length : Int) == ((rd_L6 l1 x5_1).length : Int)) = true := beq_iff_eq.mpr c7
        have c7b1 : (((rd_L6 l0 x5_1).length : Int) != ((rd_L6 l1 x5_1).length : Int)) = false := bne_eq_false_iff_eq.mpr c7
        have c7b2 : ((rd_L6 l0 x5_1).length == (rd_L6 l1 x5_1).length) = true := by first | simpa using c7 | (simp at c7 ⊢; omega)
        clear c7
        have H' := qab.mk H
        clear H
        have p596 : 0 ≤ (x5_1 : Int) := of_decide_eq_true (by first | (with_reducible assumption) | assumption)
        have q596 : x5_1 < (l0.length : Int) := of_decide_eq_true (by first | (with_reducible assumption) | assumption)
        obtain ⟨ad596, A596_0, c596_0, e596, hx596_0, hl596_0, hi596_0⟩ := at_L6 HR0.out x5_1 p596 q596
        cases e596
        have HR596_0 := qab.mk hi596_0
        have HC596_0 := qab.mk hl596_0
        clear hi596_0 hl596_0
        replace p596 := eq_true p596
        replace q596 := eq_true q596
        have p597 : 0 ≤ (x5_1 : Int) := of_decide_eq_true (by first | (with_reducible assumption) | assumption)
        have q597 : x5_1 < (l1.length : Int) := of_decide_eq_true (by first | (with_reducible assumption) | assumption)
        obtain ⟨ad597, A597_0, c597_0, e597, hx597_0, hl597_0, hi597_0⟩ := at_L6 HR1.out x5_1 p597 q597
        cases e597
        have HR597_0 := qab.mk hi597_0
        have HC597_0 := qab.mk hl597_0
        clear hi597_0 hl597_0
        replace p597 := eq_true p597
        replace q597 := eq_true q597
        go_wp2
        repeat (go_quiet (fail); try go_wp2)
        go_loopg [6] k1 (fun kq v6 w' => ∃ (x6_2 : Int), v6 = .int .i64 x6_2 ∧ qab (talikref04_SameSpans.l1 kq l0 l1 x5_1 x6_2 = some r) ∧ qab (kq ≤ k1) ∧ Drawn0 w w')
        case atStart => exact ⟨(0), (by first | rfl | (simp; done) | (simp [*]; done)), H', ⟨Nat.le_refl _⟩, by repeat (first | exact Drawn0.refl _ | apply Drawn0.step)⟩
        case round =>
         clear H'
         try clear c1
         try clear p2
         try clear c3
         try clear c3b0
         try clear c3b1
         try clear c3b2
         try clear c4
         try clear c4b0
         try clear c5
         try clear c5b0
         try clear p5
         try clear q5
         try clear hx5
         try clear c6
         try clear c6b0
         try clear c7
         try clear c7b0
         try clear c7b1
         try clear c7b2
         try clear hx596_0
         try clear hx597_0
         try clear p2
         try clear p596
         try clear p597
         try clear q596
         try clear q597
         obtain ⟨x6_2, rfl, HA, HK2, ⟨m2, rfl⟩⟩ := hrel
         cases gk with
         | zero => exact absurd HA.out (by simp [talikref04_SameSpans.l1])
         | succ k2 =>
          have H := HA.out
          clear HA
          simp only [talikref04_SameSpans.l1] at H
          by_cases c8 : 0 ≤ x5_1
          ·
           rw [if_pos c8] at H
           have c8b0 : decide (0 ≤ x5_1) = true := decide_eq_true c8
           clear c8
           by_cases c9 : x5_1 < (l0.length : Int)
           ·
            rw [if_pos c9] at H
            have c9b0 : decide (x5_1 < (l0.length : Int)) = true := decide_eq_true c9
            clear c9
            by_cases c10 : x6_2 < ((rd_L6 l0 x5_1).length : Int)
            ·
             rw [if_pos c10] at H
             have c10b0 : decide (x6_2 < ((rd_L6 l0 x5_1).length : Int)) = true := decide_eq_true c10
             clear c10
             by_cases c11 : 0 ≤ x6_2
             ·
              rw [if_pos c11] at H
              have c11b0 : decide (0 ≤ x6_2) = true := decide_eq_true c11
              clear c11
              by_cases c12 : x5_1 < (l1.length : Int)
              ·
               rw [if_pos c12] at H
               have c12b0 : decide (x5_1 < (l1.length : Int)) = true := decide_eq_true c12
               clear c12
               by_cases c13 : x6_2 < ((rd_L6 l1 x5_1).length : Int)
               ·
                rw [if_pos c13] at H
                have c13b0 : decide (x6_2 < ((rd_L6 l1 x5_1).length : Int)) = true := decide_eq_true c13
                clear c13
                by_cases c14 : (!(((rd_T37 (rd_L6 l0 x5_1) x6_2).f0) == ((rd_T37 (rd_L6 l1 x5_1) x6_2).f0)) || (!(((rd_T37 (rd_L6 l0 x5_1) x6_2).f1) == ((rd_T37 (rd_L6 l1 x5_1) x6_2).f1)))) = true
                ·
                 rw [if_pos c14] at H
                 have c14b0 : (!(((rd_T37 (rd_L6 l0 x5_1) x6_2).f0) == ((rd_T37 (rd_L6 l1 x5_1) x6_2).f0)) || (!(((rd_T37 (rd_L6 l0 x5_1) x6_2).f1) == ((rd_T37 (rd_L6 l1 x5_1) x6_2).f1)))) = true := c14
                 clear c14
                 obtain rfl := Option.some.inj H
                 have p598 : 0 ≤ (x5_1 : Int) := of_decide_eq_true (by first | (with_reducible assumption) | assumption)
                 have q598 : x5_1 < (l0.length : Int) := of_decide_eq_true (by first | (with_reducible assumption) | assumption)
                 obtain ⟨ad598, A598_0, c598_0, e598, hx598_0, hl598_0, hi598_0⟩ := at_L6 HR0.out x5_1 p598 q598
                 obtain rfl : ad596 = ad598 := (by injection e598)
                 have HR598_0 := qab.mk hi598_0
                 have HC598_0 := qab.mk hl598_0
                 clear hi598_0 hl598_0
                 replace p598 := eq_true p598
                 replace q598 := eq_true q598
                 have p599 : 0 ≤ (x5_1 : Int) := of_decide_eq_true (by first | (with_reducible assumption) | assumption)
                 have q599 : x5_1 < (l0.length : Int) := of_decide_eq_true (by first | (with_reducible assumption) | assumption)
                 obtain ⟨ad599, A599_0, c599_0, e599, hx599_0, hl599_0, hi599_0⟩ := at_L6 HR0.out x5_1 p599 q599
                 obtain rfl : ad596 = ad599 := (by injection e599)
                 have HR599_0 := qab.mk hi599_0
                 have HC599_0 := qab.mk hl599_0
                 clear hi599_0 hl599_0
                 replace p599 := eq_true p599
                 replace q599 := eq_true q599
                 have ea_ := Option.some.inj (hx598_0.symm.trans hx599_0)
                 injection ea_ with ea_ en_ ec_
                 subst ea_
                 subst ec_
                 clear en_
                 have p600 : 0 ≤ (x6_2 : Int) := of_decide_eq_true (by first | (with_reducible assumption) | assumption)
                 have q600 : x6_2 < ((rd_L6 l0 x5_1).length : Int) := of_decide_eq_true (by first | (with_reducible assumption) | assumption)
                 obtain ⟨ad600, e600, hx600_0, hx600_1⟩ := at_T37 HR599_0.out x6_2 p600 q600
                 cases e600
                 replace p600 := eq_true p600
                 replace q600 := eq_true q600
                 have p601 : 0 ≤ (x5_1 : Int) := of_decide_eq_true (by first | (with_reducible assumption) | assumption)
                 have q601 : x5_1 < (l1.length : Int) := of_decide_eq_true (by first | (with_reducible assumption) | assumption)
                 obtain ⟨ad601, A601_0, c601_0, e601, hx601_0, hl601_0, hi601_0⟩ := at_L6 HR1.out x5_1 p601 q601
                 obtain rfl : ad597 = ad601 := (by injection e601)
                 have HR601_0 := qab.mk hi601_0
                 have HC601_0 := qab.mk hl601_0
                 clear hi601_0 hl601_0
                 replace p601 := eq_true p601
                 replace q601 := eq_true q601
                 have p602 : 0 ≤ (x6_2 : Int) := of_decide_eq_true (by first | (with_reducible assumption) | assumption)
                 have q602 : x6_2 < ((rd_L6 l1 x5_1).length : Int) := of_decide_eq_true (by first | (with_reducible assumption) | assumption)
                 obtain ⟨ad602, e602, hx602_0, hx602_1⟩ := at_T37 HR601_0.out x6_2 p602 q602
                 cases e602
                 replace p602 := eq_true p602
                 replace q602 := eq_true q602
                 go_wp2
                 repeat (go_quiet (fail); try go_wp2)
                 go_ret
                 exact ⟨by first | rfl | (simp; done) | (simp [*]; done), by repeat (first | exact Drawn0.refl _ | apply Drawn0.step)⟩
                ·
                 rw [if_neg c14] at H
                 have c14b0 : (!(((rd_T37 (rd_L6 l0 x5_1) x6_2).f0) == ((rd_T37 (rd_L6 l1 x5_1) x6_2).f0)) || (!(((rd_T37 (rd_L6 l0 x5_1) x6_2).f1) == ((rd_T37 (rd_L6 l1 x5_1) x6_2).f1)))) = false := by simpa using c14
                 clear c14
                 have H' := qab.mk H
                 clear H
                 have p598 : 0 ≤ (x5_1 : Int) := of_decide_eq_true (by first | (with_reducible assumption) | assumption)
                 have q598 : x5_1 < (l0.length : Int) := of_decide_eq_true (by first | (with_reducible assumption) | assumption)
                 obtain ⟨ad598, A598_0, c598_0, e598, hx598_0, hl598_0, hi598_0⟩ := at_L6 HR0.out x5_1 p598 q598
                 obtain rfl : ad596 = ad598 := (by injection e598)
                 have HR598_0 := qab.mk hi598_0
                 have HC598_0 := qab.mk hl598_0
                 clear hi598_0 hl598_0
                 replace p598 := eq_true p598
                 replace q598 := eq_true q598
                 have p599 : 0 ≤ (x5_1 : Int) := of_decide_eq_true (by first | (with_reducible assumption) | assumption)
                 have q599 : x5_1 < (l0.length : Int) := of_decide_eq_true (by first | (with_reducible assumption) | assumption)
                 obtain ⟨ad599, A599_0, c599_0, e599, hx599_0, hl599_0, hi599_0⟩ := at_L6 HR0.out x5_1 p599 q599
                 obtain rfl : ad596 = ad599 := (by injection e599)
                 have HR599_0 := qab.mk hi599_0
                 have HC599_0 := qab.mk hl599_0
                 clear hi599_0 hl599_0
                 replace p599 := eq_true p599
                 replace q599 := eq_true q599
                 have ea_ := Option.some.inj (hx598_0.symm.trans hx599_0)
                 injection ea_ with ea_ en_ ec_
                 subst ea_
                 subst ec_
                 clear en_
                 have p600 : 0 ≤ (x6_2 : Int) := of_decide_eq_true (by first | (with_reducible assumption) | assumption)
                 have q600 : x6_2 < ((rd_L6 l0 x5_1).length : Int) := of_decide_eq_true (by first | (with_reducible assumption) | assumption)
                 obtain ⟨ad600, e600, hx600_0, hx600_1⟩ := at_T37 HR599_0.out x6_2 p600 q600
                 cases e600
                 replace p600 := eq_true p600
                 replace q600 := eq_true q600
                 have p601 : 0 ≤ (x5_1 : Int) := of_decide_eq_true (by first | (with_reducible assumption) | assumption)
                 have q601 : x5_1 < (l1.length : Int) := of_decide_eq_true (by first | (with_reducible assumption) | assumption)
                 obtain ⟨ad601, A601_0, c601_0, e601, hx601_0, hl601_0, hi601_0⟩ := at_L6 HR1.out x5_1 p601 q601
                 obtain rfl : ad597 = ad601 := (by injection e601)
                 have HR601_0 := qab.mk hi601_0
                 have HC601_0 := qab.mk hl601_0
                 clear hi601_0 hl601_0
                 replace p601 := eq_true p601
                 replace q601 := eq_true q601
                 have p602 : 0 ≤ (x6_2 : Int) := of_decide_eq_true (by first | (with_reducible assumption) | assumption)
                 have q602 : x6_2 < ((rd_L6 l1 x5_1).length : Int) := of_decide_eq_true (by first | (with_reducible assumption) | assumption)
                 obtain ⟨ad602, e602, hx602_0, hx602_1⟩ := at_T37 HR601_0.out x6_2 p602 q602
                 cases e602
                 replace p602 := eq_true p602
                 replace q602 := eq_true q602
                 go_wp2
                 repeat (go_quiet (fail); try go_wp2)
                 go_roundg k2
                 case measure => have := HK1.out; have := HK2.out; omega
                 case rel => exact ⟨(wrap64 (x6_2 + 1)), (by first | rfl | (simp; done) | (simp [*]; done)), H', ⟨by have := HK1.out; have := HK2.out; omega⟩, by repeat (first | exact Drawn0.refl _ | apply Drawn0.step)⟩
               ·
                rw [if_neg c13] at H
                exact absurd H (by simp)
              ·
               rw [if_neg c12] at H
               exact absurd H (by simp)
             ·
              rw [if_neg c11] at H
              exact absurd H (by simp)
            ·
             rw [if_neg c10] at H
             have c10b0 : decide (x6_2 < ((rd_L6 l0 x5_1).length : Int)) = false := decide_eq_false c10
             clear c10
             have H' := qab.mk H
             clear H
             have p598 : 0 ≤ (x5_1 : Int) := of_decide_eq_true (by first | (with_reducible assumption) | assumption)
             have q598 : x5_1 < (l0.length : Int) := of_decide_eq_true (by first | (with_reducible assumption) | assumption)
             obtain ⟨ad598, A598_0, c598_0, e598, hx598_0, hl598_0, hi598_0⟩ := at_L6 HR0.out x5_1 p598 q598
             obtain rfl : ad596 = ad598 := (by injection e598)
             have HR598_0 := qab.mk hi598_0
             have HC598_0 := qab.mk hl598_0
             clear hi598_0 hl598_0
             replace p598 := eq_true p598
             replace q598 := eq_true q598
             go_wp2
             repeat (go_quiet (fail); try go_wp2)
             go_roundg k2
             case measure => have := HK1.out; have := HK2.out; omega
             case rel => exact ⟨(wrap64 (x5_1 + 1)), (by first | rfl | (simp; done) | (simp [*]; done)), H', ⟨by have := HK1.out; have := HK2.out; omega⟩, by repeat (first | exact Drawn0.refl _ | apply Drawn0.step)⟩
           ·
            rw [if_neg c9] at H
            exact absurd H (by simp)
          ·
           rw [if_neg c8] at H
           exact absurd H (by simp)
       ·
        rw [if_neg c7] at H
        have c7b0 : (((rd_L6 l0 x5_1).length : Int) == ((rd_L6 l1 x5_1).length : Int)) = false := beq_eq_false_iff_ne.mpr c7
        have c7b1 : (((rd_L6 l0 x5_1).length : Int) != ((rd_L6 l1 x5_1).length : Int)) = true := bne_iff_ne.mpr c7
        have c7b2 : ((rd_L6 l0 x5_1).length == (rd_L6 l1 x5_1).length) = false := by first | simpa using c7 | (simp at c7 ⊢; omega)
        obtain rfl := Option.some.inj H
        have p596 : 0 ≤ (x5_1 : Int) := of_decide_eq_true (by first | (with_reducible assumption) | assumption)
        have q596 : x5_1 < (l0.length : Int) := of_decide_eq_true (by first | (with_reducible assumption) | assumption)
        obtain ⟨ad596, A596_0, c596_0, e596, hx596_0, hl596_0, hi596_0⟩ := at_L6 HR0.out x5_1 p596 q596
        cases e596
        have HR596_0 := qab.mk hi596_0
        have HC596_0 := qab.mk hl596_0
        clear hi596_0 hl596_0
        replace p596 := eq_true p596
        replace q596 := eq_true q596
        have p597 : 0 ≤ (x5_1 : Int) := of_decide_eq_true (by first | (with_reducible assumption) | assumption)
        have q597 : x5_1 < (l1.length : Int) := of_decide_eq_true (by first | (with_reducible assumption) | assumption)
        obtain ⟨ad597, A597_0, c597_0, e597, hx597_0, hl597_0, hi597_0⟩ := at_L6 HR1.out x5_1 p597 q597
        cases e597
        have HR597_0 := qab.mk hi597_0
        have HC597_0 := qab.mk hl597_0
        clear hi597_0 hl597_0
        replace p597 := eq_true p597
        replace q597 := eq_true q597
        go_wp2
        repeat (go_quiet (fail); try go_wp2)
        go_ret
        exact ⟨by first | rfl | (simp; done) | (simp [*]; done), by repeat (first | exact Drawn0.refl _ | apply Drawn0.step)⟩
      ·
       rw [if_neg c6] at H
       exact absurd H (by simp)
     ·
      rw [if_neg c5] at H
      exact absurd H (by simp)
    ·
     rw [if_neg c4] at H
     have c4b0 : decide (x5_1 < (l0.length : Int)) = false := decide_eq_false c4
     clear c4
     obtain rfl := Option.some.inj H
     go_wp2
     repeat (go_quiet (fail); try go_wp2)
     go_ret
     exact ⟨by first | rfl | (simp; done) | (simp [*]; done), by repeat (first | exact Drawn0.refl _ | apply Drawn0.step)⟩
 ·
  rw [if_neg c3] at H
  have c3b0 : ((l0.length : Int) == (l1.length : Int)) = false := beq_eq_false_iff_ne.mpr c3
  have c3b1 : ((l0.length : Int) != (l1.length : Int)) = true := bne_iff_ne.mpr c3
  have c3b2 : (l0.length == l1.length) = false := by first | simpa using c3 | (simp at c3 ⊢; omega)
  obtain rfl := Option.some.inj H
  go_enter Try.func50, Try.ntmps50
  go_wp2
  repeat (go_quiet (fail); try go_wp2)
  go_ret
  exact ⟨by first | rfl | (simp; done) | (simp [*]; done), by repeat (first | exact Drawn0.refl _ | apply Drawn0.step)⟩
end Go.Proofs.Ytipphcjgdebecaa.PA
namespace Go.Proofs.Ytipphcjgdebecaa.PA
open Go.RowKit Go.Proofs.YtipphcjgdebecaaW.PrintWords Go.Proofs.YtipphcjgdebecaaW.PrintLast Go.Proofs.YtipphcjgdebecaaW.PrintMore
attribute [local go_sem] qbd qbf max_two min_two qay qaz qbe qbg
mutual
def talikref04_Warmth.l0 : Nat → List (List (S37)) → Int → List (S39) → List (S37) → List (List Int) → Option ((List (List (S37))))
 | 0, _, _, _, _, _ => none
 | k + 1, x3, x4, x604000, x604001, x604002 => if x4 < (x604000.length : Int) then (talikref04_Warmth.l1 k x3 x4 ([] : List (S37)) 1 x604000 x604001 x604002) else (some x3)
def talikref04_Warmth.l1 : Nat → List (List (S37)) → Int → List (S37) → Int → List (S39) → List (S37) → List (List Int) → Option ((List (List (S37))))
 | 0, _, _, _, _, _, _, _ => none
 | k + 1, x3, x4, x5, x6, x604000, x604001, x604002 => if x6 ≤ (x604001.length : Int) then ((talikref04_Warm.f x604000 x604001 x604002 x4 x6).bind fun bt604 => (if x5.length < 8796093022208 then (talikref04_Warmth.l1 k x3 x4 (x5 ++ [(⟨bt604.1, bt604.2⟩ : S37)]) (wrap64 (x6 + 1)) x604000 x604001 x604002) else (none))) else (if x3.length < 5864062014805 then (talikref04_Warmth.l0 k (x3 ++ [x5]) (wrap64 (x4 + 1)) x604000 x604001 x604002) else (none))
end
def talikref04_Warmth.f (k : Nat) (l0_0 : List (S39)) (l0_1 : List (S37)) (l0_2 : List (List Int)) : Option ((List (List (S37)))) := talikref04_Warmth.l0 k ([] : List (List (S37))) 0 l0_0 l0_1 l0_2
set_option maxHeartbeats 8000000 in
set_option maxRecDepth 100000 in
theorem talikref04_Warmth.calls (k : Nat) (A0_0 : Option Addr) (c0_0 : Nat) (l0_0 : List (S39)) (A0_1 : Option Addr) (c0_1 : Nat) (l0_1 : List (S37)) (A0_2 : Option Addr) (c0_2 : Nat) (l0_2 : List (List Int)) (r : List (List (S37))) (w : World) (hr0_0 : Kd.C k39 w A0_0 l0_0.length l0_0) (hc0_0 : l0_0.length ≤ c0_0) (hr0_1 : Kd.C k37 w A0_1 l0_1.length l0_1) (hc0_1 : l0_1.length ≤ c0_1) (hr0_2 : Kd.C (Kd.slice 3 (Kd.int .i64)) w A0_2 l0_2.length l0_2) (hc0_2 : l0_2.length ≤ c0_2) (h : talikref04_Warmth.f k l0_0 l0_1 l0_2 = some r) :
  Calls Try.prog 51 #[.agg #[.slice A0_0 l0_0.length c0_0, .slice A0_1 l0_1.length c0_1, .slice A0_2 l0_2.length c0_2]] w fun e w' => ∃ v0_ : Value, e = .returned (v0_) ∧ Kd.S (Kd.slice 37 k37) 23 w' w.heap.size (fun _ => True) v0_ r ∧ Below w.heap.size w w' := by
 have hu26 := Try.underlying26
 have HR0_0 := qab.mk hr0_0
 have HC0_0 := qab.mk hc0_0
 clear hr0_0 hc0_0
 have HR0_1 := qab.mk hr0_1
 have HC0_1 := qab.mk hc0_1
 clear hr0_1 hc0_1
 have HR0_2 := qab.mk hr0_2
 have HC0_2 := qab.mk hc0_2
 clear hr0_2 hc0_2
 have HB := qab.mk (Below.refl w.heap.size w)
 have H : (talikref04_Warmth.l0 k ([] : List (List (S37))) 0 l0_0 l0_1 l0_2) = some r := h
 clear h
 have H' := qab.mk H
 clear H
 go_enter Try.func51, Try.ntmps51
 go_wp2_with (first | ((with_reducible refine qav (N := 1) rfl ?_); refine qau ?hg (N := 1) ?hd (cs := #[.slice A0_0 l0_0.length c0_0, .slice A0_1 l0_1.length c0_1, .slice A0_2 l0_2.length c0_2]) (t := 26) ?hr ?_; (case hd => rfl); (case hg => rfl); (case hr => first | (go_simp; done) | (go_simp; rfl)); intro gb603 hg w2 hbox hb; have n0_ := qab.mk (qag (by repeat (first | (with_reducible first | exact HB.out | apply qae | apply qac | apply qaf) | exact HB.out)) hb); have n1_ := qab.mk (hbox); have n2_ := qab.mk ((by rw [hg]; exact (qaq (by repeat (first | (with_reducible first | exact HB.out | apply qae | apply qac | apply qaf) | exact HB.out))) : w.heap.size ≤ gb603)); have n3_ := qab.mk ((by rw [hg]; exact (qaq (by repeat (first | (with_reducible first | exact HB.out | apply qae | apply qac | apply qaf) | exact HB.out))) : w.heap.size ≤ gb603)); clear HB; have HB := n0_; have BK603 := n1_; have GW603 := n2_; have GE603 := n3_; clear n0_ n1_ n2_ n3_; clear hb hbox hg))
 go_loopg [3, 4] k (fun kq v3 v4 w' => ∃ (x3_1 : List (List (S37))) (x4_1 : Int), v4 = .int .i64 x4_1 ∧ qab (talikref04_Warmth.l0 kq x3_1 x4_1 l0_0 l0_1 l0_2 = some r) ∧ qab (kq ≤ k) ∧ qab (Kd.S (Kd.slice 37 k37) 23 w' w.heap.size (fun _ => True) v3 x3_1) ∧ qab (w'.heap[gb603]? = some (.cells #[(.slice A0_0 l0_0.length c0_0), (.slice A0_1 l0_1.length c0_1), (.slice A0_2 l0_2.length c0_2)] 26 (0, 0))) ∧ qab (Below w.heap.size w w'))
 case atStart => exact ⟨(([] : List (List (S37)))), (0), (by first | rfl | (simp; done) | (simp [*]; done)), H', ⟨Nat.le_refl _⟩, ⟨by first | exact Kd.S_nil _ _ _ _ _ | exact Kd.N_nil _ _ _ _ _ | exact Kd.V_nil _ _ _ _ _ | exact Kd.Q_nil _ _ _ _ _ | exact Kd.R_nil _ _ _ _ _⟩, ⟨by (with_reducible repeat (first | refine qan ?_ _ | refine qao ?_ | refine qak ?_ _)); exact BK603.out⟩, ⟨by repeat (first | (with_reducible first | exact HB.out | apply qae | apply qac | apply qaf | refine qah ?_ GE603.out) | exact HB.out)⟩⟩
 case round =>
  clear H'
  try clear p2
  obtain ⟨x3_1, x4_1, rfl, HA, HK1, HO_3, BK603, HB⟩ := hrel
  cases gk with
  | zero => exact absurd HA.out (by simp [talikref04_Warmth.l0])
  | succ k1 =>
   have H := HA.out
   clear HA
   simp only [talikref04_Warmth.l0] at H
   by_cases c3 : x4_1 < (l0_0.length : Int)
   ·
    rw [if_pos c3] at H
    have c3b0 : decide (x4_1 < (l0_0.length : Int)) = true := decide_eq_true c3
    clear c3
    have H' := qab.mk H
    clear H
    have hcz4_0 : wr.cell? ⟨gb603, 0, none⟩ = some (.slice A0_0 l0_0.length c0_0) := (qaa BK603.out 0).trans rfl
    have hcz4_1 : wr.cell? ⟨gb603, 1, none⟩ = some (.slice A0_1 l0_1.length c0_1) := (qaa BK603.out 1).trans rfl
    have hcz4_2 : wr.cell? ⟨gb603, 2, none⟩ = some (.slice A0_2 l0_2.length c0_2) := (qaa BK603.out 2).trans rfl
    have hfz4_0 := qad BK603.out 0
    have hfz4_1 := qad BK603.out 1
    have hfz4_2 := qad BK603.out 2
    go_wp2
    go_loopg [5, 6] k1 (fun kq v5 v6 w' => ∃ (x5_2 : List (S37)) (x6_2 : Int), v6 = .int .i64 x6_2 ∧ qab (talikref04_Warmth.l1 kq x3_1 x4_1 x5_2 x6_2 l0_0 l0_1 l0_2 = some r) ∧ qab (kq ≤ k1) ∧ qab (Kd.S (Kd.slice 37 k37) 23 w' w.heap.size (fun k_ => some k_ ≠ (v5 : Value).ownBlock) u3 x3_1) ∧ qab (Kd.R k37 37 w' w.heap.size (fun _ => True) v5 x5_2) ∧ qab (w'.heap[gb603]? = some (.cells #[(.slice A0_0 l0_0.length c0_0), (.slice A0_1 l0_1.length c0_1), (.slice A0_2 l0_2.length c0_2)] 26 (0, 0))) ∧ qab (Below w.heap.size w w'))
    case atStart => exact ⟨(([] : List (S37))), (1), (by first | rfl | (simp; done) | (simp [*]; done)), H', ⟨Nat.le_refl _⟩, ⟨by (with_reducible repeat (first | apply Kd.S_alloc | apply Kd.S_drewN | apply Kd.S_drew)); exact Kd.S_mono HO_3.out (fun _ hk => (by simp [Value.ownBlock]))⟩, ⟨by first | exact Kd.R_nil _ _ _ _ _ | exact Kd.N_nil _ _ _ _ _ | exact Kd.V_nil _ _ _ _ _ | exact Kd.Q_nil _ _ _ _ _ | exact Kd.S_nil _ _ _ _ _⟩, ⟨by (with_reducible repeat (first | refine qan ?_ _ | refine qao ?_ | refine qak ?_ _)); exact BK603.out⟩, ⟨by repeat (first | (with_reducible first | exact HB.out | apply qae | apply qac | apply qaf | refine qah ?_ GE603.out) | exact HB.out)⟩⟩
    case round =>
     clear H'
     try clear p2
     try clear c3
     try clear c3b0
     try clear hcz4_0
     try clear hcz4_1
     try clear hcz4_2
     try clear hfz4_0
     try clear hfz4_1
     try clear hfz4_2
     try clear p2
     obtain ⟨x5_2, x6_2, rfl, HA, HK2, HO_3, HO_5, BK603, HB⟩ := hrel
     cases gk with
     | zero => exact absurd HA.out (by simp [talikref04_Warmth.l1])
     | succ k2 =>
      have H := HA.out
      clear HA
      simp only [talikref04_Warmth.l1] at H
      by_cases c5 : x6_2 ≤ (l0_1.length : Int)
      ·
       rw [if_pos c5] at H
       have c5b0 : decide (x6_2 ≤ (l0_1.length : Int)) = true := decide_eq_true c5
       clear c5
       replace H := Option.bind_eq_some_iff.mp H
       obtain ⟨⟨t604, t605⟩, A60, H⟩ := H
       replace H : (if x5_2.length < 8796093022208 then (talikref04_Warmth.l1 k2 x3_1 x4_1 (x5_2 ++ [(⟨t604, t605⟩ : S37)]) (wrap64 (x6_2 + 1)) l0_0 l0_1 l0_2) else (none)) = some r := H
       have A6 := qab.mk A60
       clear A60
       by_cases c7 : x5_2.length < 8796093022208
       ·
        rw [if_pos c7] at H
        have LMc7 := qab.mk c7
        clear c7
        obtain ⟨y606, hy606⟩ : ∃ y_ : List (S37), y_ = (x5_2 ++ [(⟨t604, t605⟩ : S37)]) := ⟨_, rfl⟩
        replace H : (talikref04_Warmth.l1 k2 x3_1 x4_1 y606 (wrap64 (x6_2 + 1)) l0_0 l0_1 l0_2) = some r := by first | (rw [hy606]; with_reducible exact H) | (have H2_ := (Option.bind_some _ _).symm.trans H; rw [hy606]; with_reducible exact H2_) | (have H2_ := (Option.bind_some _ _).symm.trans H; with_reducible exact H2_) | with_reducible exact H | (rw [hy606]; exact H) | exact H
        have Ny606 := qab.mk hy606
        clear hy606
        have H' := qab.mk H
        clear H
        have hcz8_0 : wr.cell? ⟨gb603, 0, none⟩ = some (.slice A0_0 l0_0.length c0_0) := (qaa BK603.out 0).trans rfl
        have hcz8_1 : wr.cell? ⟨gb603, 1, none⟩ = some (.slice A0_1 l0_1.length c0_1) := (qaa BK603.out 1).trans rfl
        have hcz8_2 : wr.cell? ⟨gb603, 2, none⟩ = some (.slice A0_2 l0_2.length c0_2) := (qaa BK603.out 2).trans rfl
        have hfz8_0 := qad BK603.out 0
        have hfz8_1 := qad BK603.out 1
        have hfz8_2 := qad BK603.out 2
        go_wp2_with (first | ((with_reducible refine qat (f := 80) rfl ?_); refine qbb (some 25) rfl rfl Try.func80 (by kernel_rfl) rfl #[.agg #[.slice A0_0 l0_0.length c0_0, .slice A0_1 l0_1.length c0_1, .slice A0_2 l0_2.length c0_2], .int .i64 x4_1, .int .i64 x6_2] rfl (by (try simp only [List.map_toArray, List.map_cons, List.map_nil]); first | done | rfl | (simp only [List.length_drop, List.length_take]; rfl)) ?_; (with_reducible refine (talikref04_Warm.calls _ _ l0_0 _ _ l0_1 _ _ l0_2 x4_1 x6_2 t604 t605 _ ?side1 ?side2 ?side3 ?side4 ?side5 ?side6 A6.out).mono ?_); (case side1 => repeat (first | exact (Kd.qai HR0_0.out HB.out) | (with_reducible refine Kd.qal ?_ _) | (with_reducible refine Kd.qam ?_ _) | (with_reducible refine Kd.qap ?_))); (case side2 => exact HC0_0.out); (case side3 => repeat (first | exact (Kd.qai HR0_1.out HB.out) | (with_reducible refine Kd.qal ?_ _) | (with_reducible refine Kd.qam ?_ _) | (with_reducible refine Kd.qap ?_))); (case side4 => exact HC0_1.out); (case side5 => repeat (first | exact (Kd.qai HR0_2.out HB.out) | (with_reducible refine Kd.qal ?_ _) | (with_reducible refine Kd.qam ?_ _) | (with_reducible refine Kd.qap ?_))); (case side6 => exact HC0_2.out); rintro e w9 ⟨rfl, hb⟩; refine ⟨_, rfl, ?_⟩; have n0_ := qab.mk (Kd.S_below (by (with_reducible repeat (first | apply Kd.S_alloc | apply Kd.S_drewN | apply Kd.S_drew)); exact HO_3.out) hb); have n1_ := qab.mk (Kd.R_below (by (with_reducible repeat (first | apply Kd.R_alloc | apply Kd.R_drewN | apply Kd.R_drew)); exact HO_5.out) hb); have n2_ := qab.mk (qaj (g := gb603) (o := .cells #[.slice A0_0 l0_0.length c0_0, .slice A0_1 l0_1.length c0_1, .slice A0_2 l0_2.length c0_2] 26 (0, 0)) (by (with_reducible repeat (first | refine qan ?_ _ | refine qao ?_ | refine qak ?_ _)); exact BK603.out) hb); have n3_ := qab.mk (qag (by repeat (first | (with_reducible first | exact HB.out | apply qae | apply qac | apply qaf | refine qah ?_ GE603.out) | exact HB.out)) hb); clear HO_3; clear HO_5; clear BK603; clear HB; have HO_3 := n0_; have HO_5 := n1_; have BK603 := n2_; have HB := n3_; clear n0_ n1_ n2_ n3_; (try clear hb); (try clear hb2); (try clear hk); (try clear hi)) | ((with_reducible refine gate_builtin (b := .append) (xs := #[.tmp 21, .tmp 26]) rfl ?_); at_builtin; refine Kd.R_append k37 (w0 := w) w.heap.size rfl (.tmp 21) (.tmp 26) 23 37 (.agg #[(.int .i64 0), (.int .i64 0)]) 16 rfl Try.underlying23 info37 rfl (by decide) (by omega) u5 x5_2 (⟨t604, t605⟩ : S37) [.int .i64 t604, .int .i64 t605] (fun _ => True) (fun _ => False) rfl rfl ?aP (fun _ hk => hk.elim) ?aF ?aO ?aB ?aS ?aL ?_; (case aP => exact k37_mkM _ _ _ (⟨t604, t605⟩ : S37)); (case aB => exact (by repeat (first | (with_reducible first | exact HB.out | apply qae | apply qac | apply qaf | refine qah ?_ GE603.out) | exact HB.out))); (case aF => exact (fun _ _ => trivial)); (case aO => exact (by (with_reducible repeat (first | apply Kd.R_alloc | apply Kd.R_drewN | apply Kd.R_drew)); exact HO_5.out)); (case aS => exact (qaq (by repeat (first | (with_reducible first | exact HB.out | apply qae | apply qac | apply qaf | refine qah ?_ GE603.out) | exact HB.out)))); (case aL => have := LMc7.out; omega); intro v607 w10 ho hb hg hat; rw [← Ny606.out] at ho; have n0_ := qab.mk (Kd.S_after (ok := (fun _ => True)) (by (with_reducible repeat (first | apply Kd.S_alloc | apply Kd.S_drewN | apply Kd.S_drew)); exact Kd.S_mono HO_3.out (fun _ hk => ⟨trivial, hk⟩)) hg hat); have n1_ := qab.mk (blk_grown (g := gb603) (o := .cells #[.slice A0_0 l0_0.length c0_0, .slice A0_1 l0_1.length c0_1, .slice A0_2 l0_2.length c0_2] 26 (0, 0)) (by (with_reducible repeat (first | refine qan ?_ _ | refine qao ?_ | refine qak ?_ _)); exact BK603.out) hg (Kd.R_ne HO_5.out BK603.out (by decide))); have n2_ := qab.mk (hb); have n3_ := qab.mk (ho); clear HO_3; clear BK603; clear HB; clear HO_5; have HO_3 := n0_; have BK603 := n1_; have HB := n2_; have HO608 := n3_; clear n0_ n1_ n2_ n3_; clear ho hb hg hat))
        go_roundg k2
        case measure => have := HK1.out; have := HK2.out; omega
        case rel => exact ⟨(y606), (wrap64 (x6_2 + 1)), (by first | rfl | (simp; done) | (simp [*]; done)), H', ⟨by have := HK1.out; have := HK2.out; omega⟩, ⟨by (with_reducible repeat (first | apply Kd.S_alloc | apply Kd.S_drewN | apply Kd.S_drew)); exact Kd.S_mono HO_3.out (fun _ hk => hk.2)⟩, ⟨by (with_reducible repeat (first | apply Kd.R_alloc | apply Kd.R_drewN | apply Kd.R_drew)); exact HO608.out⟩, ⟨by (with_reducible repeat (first | refine qan ?_ _ | refine qao ?_ | refine qak ?_ _)); exact BK603.out⟩, ⟨by repeat (first | (with_reducible first | exact HB.out | apply qae | apply qac | apply qaf | refine qah ?_ GE603.out) | exact HB.out)⟩⟩
       ·
        rw [if_neg c7] at H
        exact absurd H (by simp)
      ·
       rw [if_neg c5] at H
       have c5b0 : decide (x6_2 ≤ (l0_1.length : Int)) = false := decide_eq_false c5
       clear c5
       by_cases c11 : x3_1.length < 5864062014805
       ·
        rw [if_pos c11] at H
        have LMc11 := qab.mk c11
        clear c11
        obtain ⟨y609, hy609⟩ : ∃ y_ : List (List (S37)), y_ = (x3_1 ++ [x5_2]) := ⟨_, rfl⟩
        replace H : (talikref04_Warmth.l0 k2 y609 (wrap64 (x4_1 + 1)) l0_0 l0_1 l0_2) = some r := by first | (rw [hy609]; with_reducible exact H) | (have H2_ := (Option.bind_some _ _).symm.trans H; rw [hy609]; with_reducible exact H2_) | (have H2_ := (Option.bind_some _ _).symm.trans H; with_reducible exact H2_) | with_reducible exact H | (rw [hy609]; exact H) | exact H
        have Ny609 := qab.mk hy609
        clear hy609
        have H' := qab.mk H
        clear H
        have hcz12_0 : wr.cell? ⟨gb603, 0, none⟩ = some (.slice A0_0 l0_0.length c0_0) := (qaa BK603.out 0).trans rfl
        have hcz12_1 : wr.cell? ⟨gb603, 1, none⟩ = some (.slice A0_1 l0_1.length c0_1) := (qaa BK603.out 1).trans rfl
        have hcz12_2 : wr.cell? ⟨gb603, 2, none⟩ = some (.slice A0_2 l0_2.length c0_2) := (qaa BK603.out 2).trans rfl
        have hfz12_0 := qad BK603.out 0
        have hfz12_1 := qad BK603.out 1
        have hfz12_2 := qad BK603.out 2
        obtain ⟨Ao14, co14, eo14⟩ := Kd.R_slice HO_5.out
        subst eo14
        go_wp2_with (first | ((with_reducible refine gate_builtin (b := .append) (xs := #[.tmp 28, .tmp 30]) rfl ?_); at_builtin; refine Kd.S_append (Kd.slice 37 k37) (w0 := w) w.heap.size rfl (.tmp 28) (.tmp 30) 80 23 (.slice none 0 0) 24 rfl Try.underlying80 info23 rfl (by decide) (by omega) u3 x3_1 x5_2 [.slice Ao14 x5_2.length co14] (fun _ => True) (fun k_ => some k_ = (.slice Ao14 x5_2.length co14 : Value).ownBlock) rfl rfl ?aP (fun k_ hk_ => ((Kd.R_mono (ok' := fun k_ => ((fun _ => True)) k_ ∧ some k_ ≠ (u3 : Value).ownBlock) (Kd.R_apart' (HO_5.out) (Kd.S_typed HO_3.out) (by decide)) (fun k_ hk => ⟨trivial, hk.2⟩))).1 k_ hk_.symm) ?aF ?aO ?aB ?aS ?aL ?_; (case aP => exact Kd.M_row (Kd.R_mono (Kd.R_tight rfl (Kd.R_mono (ok' := fun k_ => ((fun _ => True)) k_ ∧ some k_ ≠ (u3 : Value).ownBlock) (Kd.R_apart' (HO_5.out) (Kd.S_typed HO_3.out) (by decide)) (fun k_ hk => ⟨trivial, hk.2⟩))) (fun _ h_ => h_))); (case aB => exact (by repeat (first | (with_reducible first | exact HB.out | apply qae | apply qac | apply qaf | refine qah ?_ GE603.out) | exact HB.out))); (case aF => exact (fun _ _ => trivial)); (case aO => exact (by (with_reducible repeat (first | apply Kd.S_alloc | apply Kd.S_drewN | apply Kd.S_drew)); exact Kd.S_mono HO_3.out (fun k_ hk => ⟨trivial, fun e_ => hk e_⟩))); (case aS => exact (qaq (by repeat (first | (with_reducible first | exact HB.out | apply qae | apply qac | apply qaf | refine qah ?_ GE603.out) | exact HB.out)))); (case aL => have := LMc11.out; omega); intro v610 w13 ho hb hg hat; rw [← Ny609.out] at ho; have n0_ := qab.mk (blk_grown (g := gb603) (o := .cells #[.slice A0_0 l0_0.length c0_0, .slice A0_1 l0_1.length c0_1, .slice A0_2 l0_2.length c0_2] 26 (0, 0)) (by (with_reducible repeat (first | refine qan ?_ _ | refine qao ?_ | refine qak ?_ _)); exact BK603.out) hg (Kd.S_ne HO_3.out BK603.out (by decide))); have n1_ := qab.mk (hb); have n2_ := qab.mk (ho); clear BK603; clear HB; clear HO_3; clear HO_5; have BK603 := n0_; have HB := n1_; have HO611 := n2_; clear n0_ n1_ n2_; clear ho hb hg hat))
        go_roundg k2
        case measure => have := HK1.out; have := HK2.out; omega
        case rel => exact ⟨(y609), (wrap64 (x4_1 + 1)), (by first | rfl | (simp; done) | (simp [*]; done)), H', ⟨by have := HK1.out; have := HK2.out; omega⟩, ⟨by (with_reducible repeat (first | apply Kd.S_alloc | apply Kd.S_drewN | apply Kd.S_drew)); exact HO611.out⟩, ⟨by (with_reducible repeat (first | refine qan ?_ _ | refine qao ?_ | refine qak ?_ _)); exact BK603.out⟩, ⟨by repeat (first | (with_reducible first | exact HB.out | apply qae | apply qac | apply qaf | refine qah ?_ GE603.out) | exact HB.out)⟩⟩
       ·
        rw [if_neg c11] at H
        exact absurd H (by simp)
   ·
    rw [if_neg c3] at H
    have c3b0 : decide (x4_1 < (l0_0.length : Int)) = false := decide_eq_false c3
    clear c3
    obtain rfl := Option.some.inj H
    have hcz15_0 : wr.cell? ⟨gb603, 0, none⟩ = some (.slice A0_0 l0_0.length c0_0) := (qaa BK603.out 0).trans rfl
    have hcz15_1 : wr.cell? ⟨gb603, 1, none⟩ = some (.slice A0_1 l0_1.length c0_1) := (qaa BK603.out 1).trans rfl
    have hcz15_2 : wr.cell? ⟨gb603, 2, none⟩ = some (.slice A0_2 l0_2.length c0_2) := (qaa BK603.out 2).trans rfl
    have hfz15_0 := qad BK603.out 0
    have hfz15_1 := qad BK603.out 1
    have hfz15_2 := qad BK603.out 2
    go_wp2
    go_ret
    exact ⟨_, by first | rfl | (simp [qar, qas] <;> rfl) | (simp [*, qar, qas] <;> rfl), by (with_reducible repeat (first | apply Kd.S_alloc | apply Kd.S_drewN | apply Kd.S_drew)); exact HO_3.out, by repeat (first | (with_reducible first | exact HB.out | apply qae | apply qac | apply qaf | refine qah ?_ GE603.out) | exact HB.out)⟩
end Go.Proofs.Ytipphcjgdebecaa.PA
