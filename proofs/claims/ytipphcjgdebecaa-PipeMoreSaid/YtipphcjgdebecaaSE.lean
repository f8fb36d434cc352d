/- What functions of the program answer. No condition. -/
import Derived.Test.YtipphcjgdebecaaSC
import Derived.Test.YtipphcjgdebecaaSD
set_option linter.all false
set_option maxRecDepth 100000
set_option maxHeartbeats 8000000
namespace Go.Proofs.Ytipphcjgdebecaa.PA
open Go.RowKit Go.Proofs.YtipphcjgdebecaaW.PrintWords Go.Proofs.YtipphcjgdebecaaW.PrintLast Go.Proofs.YtipphcjgdebecaaW.PrintMore
attribute [local go_sem] qas qau max_two min_two qao qap qat qav
def bitB (s i : Int) : Bool := bits .and .i64 (s / 2 ^ min i.toNat 64) 1 == 1
def boxV (l : S39) (b : Bool) : Value := .iface (if b then 145 else 146) (.agg #[.int .i64 l.f0.f0, .int .i64 l.f0.f1, .int .i64 l.f1.f0, .int .i64 l.f1.f1, .int .i64 l.f2.f0, .int .i64 l.f2.f1, .int .i64 l.f3, .int .i64 l.f4, .int .i64 l.f5, .int .i64 l.f6, .int .i64 l.f7.f0, .int .i64 l.f7.f1])
theorem box_calls (A0 : Option Addr) (c0 : Nat) (l0 : List S39) (v1 v2 : Value) (wr i : Int) (w : World) (hr : Kd.C k39 w A0 l0.length l0) (h0 : 0 ≤ i) (h1 : i < l0.length) (h2 : 0 ≤ wr) : 
  Calls Try.prog 105 #[.agg #[.slice A0 l0.length c0, v1, v2, .int .i64 wr], .int .i64 i] w fun e w' => e = .returned (boxV (qaj l0 i) (bitB wr i)) ∧ Below w.heap.size w w' := by
 have hu26 := Try.underlying26
 have hu99 := Try.underlying99
 have hu39 := Try.underlying39
 have hu145 := Try.underlying145
 have hu146 := Try.underlying146
 obtain ⟨ad, e, hl0, hl1, hl2, hl3, hl4, hl5, hl6, hl7, hl8, hl9, hl10, hl11⟩ := at_T39 hr i h0 h1
 cases e
 have HB := qab.mk (Below.refl w.heap.size w)
 obtain ⟨n, rfl⟩ := Int.eq_ofNat_of_zero_le h0
 simp only [Int.toNat_natCast] at hl0 hl1 hl2 hl3 hl4 hl5 hl6 hl7 hl8 hl9 hl10 hl11
 cases hb : bitB wr n
 all_goals
  have HT := qab.mk hb
  unfold bitB at hb
  simp only [Int.toNat_natCast] at hb
  go_enter Try.func105, Try.ntmps105
  go_wp2_with ((with_reducible refine qam (N := 2) rfl ?_); refine qal ?hg (N := 2) ?hd (cs := #[.slice (some ad) l0.length c0, v1, v2, .int .i64 wr]) (t := 99) ?hr ?_; (case hd => rfl); (case hg => rfl); (case hr => first | (go_simp; done) | (go_simp; rfl)); intro gb hg_gb w2 hbox hb; have BKgb := qab.mk hbox; have n_HB := qab.mk (qad HB.out hb); have GEgb : w.heap.size ≤ gb := (by rw [hg_gb]; exact HB.out.size); clear HB; have HB := n_HB; clear n_HB; obtain ⟨hfgb, hcgb_0, hcgb_1, hcgb_2, hcgb_3⟩ := qz4 BKgb.out; clear hbox hb hg_gb; replace hl0 := (HB.out.cell (World.block_lt_of_cell? w _ hl0)).trans hl0; replace hl1 := (HB.out.cell (World.block_lt_of_cell? w _ hl1)).trans hl1; replace hl2 := (HB.out.cell (World.block_lt_of_cell? w _ hl2)).trans hl2; replace hl3 := (HB.out.cell (World.block_lt_of_cell? w _ hl3)).trans hl3; replace hl4 := (HB.out.cell (World.block_lt_of_cell? w _ hl4)).trans hl4; replace hl5 := (HB.out.cell (World.block_lt_of_cell? w _ hl5)).trans hl5; replace hl6 := (HB.out.cell (World.block_lt_of_cell? w _ hl6)).trans hl6; replace hl7 := (HB.out.cell (World.block_lt_of_cell? w _ hl7)).trans hl7; replace hl8 := (HB.out.cell (World.block_lt_of_cell? w _ hl8)).trans hl8; replace hl9 := (HB.out.cell (World.block_lt_of_cell? w _ hl9)).trans hl9; replace hl10 := (HB.out.cell (World.block_lt_of_cell? w _ hl10)).trans hl10; replace hl11 := (HB.out.cell (World.block_lt_of_cell? w _ hl11)).trans hl11)
  go_ret
  exact ⟨rfl, HB.out⟩
theorem box_true (A0 : Option Addr) (c0 : Nat) (l0 : List S39) (v1 v2 : Value) (wr i : Int) (w : World) (hr : Kd.C k39 w A0 l0.length l0) (h0 : 0 ≤ i) (h1 : i < l0.length) (h2 : 0 ≤ wr) (hb : bitB wr i = true) : 
  Calls Try.prog 105 #[.agg #[.slice A0 l0.length c0, v1, v2, .int .i64 wr], .int .i64 i] w fun e w' => e = .returned (.iface 145 (.agg #[.int .i64 (qaj l0 i).f0.f0, .int .i64 (qaj l0 i).f0.f1, .int .i64 (qaj l0 i).f1.f0, .int .i64 (qaj l0 i).f1.f1, .int .i64 (qaj l0 i).f2.f0, .int .i64 (qaj l0 i).f2.f1, .int .i64 (qaj l0 i).f3, .int .i64 (qaj l0 i).f4, .int .i64 (qaj l0 i).f5, .int .i64 (qaj l0 i).f6, .int .i64 (qaj l0 i).f7.f0, .int .i64 (qaj l0 i).f7.f1])) ∧ Below w.heap.size w w' := by
 have h := box_calls A0 c0 l0 v1 v2 wr i w hr h0 h1 h2
 rw [hb] at h
 exact h
theorem box_false (A0 : Option Addr) (c0 : Nat) (l0 : List S39) (v1 v2 : Value) (wr i : Int) (w : World) (hr : Kd.C k39 w A0 l0.length l0) (h0 : 0 ≤ i) (h1 : i < l0.length) (h2 : 0 ≤ wr) (hb : bitB wr i = false) : 
  Calls Try.prog 105 #[.agg #[.slice A0 l0.length c0, v1, v2, .int .i64 wr], .int .i64 i] w fun e w' => e = .returned (.iface 146 (.agg #[.int .i64 (qaj l0 i).f0.f0, .int .i64 (qaj l0 i).f0.f1, .int .i64 (qaj l0 i).f1.f0, .int .i64 (qaj l0 i).f1.f1, .int .i64 (qaj l0 i).f2.f0, .int .i64 (qaj l0 i).f2.f1, .int .i64 (qaj l0 i).f3, .int .i64 (qaj l0 i).f4, .int .i64 (qaj l0 i).f5, .int .i64 (qaj l0 i).f6, .int .i64 (qaj l0 i).f7.f0, .int .i64 (qaj l0 i).f7.f1])) ∧ Below w.heap.size w w' := by
 have h := box_calls A0 c0 l0 v1 v2 wr i w hr h0 h1 h2
 rw [hb] at h
 exact h
theorem method_145 (v0 v1 v2 v3 v4 v5 v6 v7 v8 v9 v10 v11 : Value) (W : World) : (method 264 145 (.agg #[v0, v1, v2, v3, v4, v5, v6, v7, v8, v9, v10, v11]) "talik/pipe.leak").run Try.prog W = .ok (121, .agg #[v0, v1, v2, v3, v4, v5, v6, v7, v8, v9, v10, v11]) W := by kernel_rfl
theorem method_146 (v0 v1 v2 v3 v4 v5 v6 v7 v8 v9 v10 v11 : Value) (W : World) : (method 264 146 (.agg #[v0, v1, v2, v3, v4, v5, v6, v7, v8, v9, v10, v11]) "talik/pipe.leak").run Try.prog W = .ok (122, .agg #[v0, v1, v2, v3, v4, v5, v6, v7, v8, v9, v10, v11]) W := by kernel_rfl
theorem field37_0 (a b : Value) (W : World) : (Instr.field 37 (.agg #[a, b]) 0).run Try.prog W = .ok a W := by kernel_rfl
theorem field37_1 (a b : Value) (W : World) : (Instr.field 37 (.agg #[a, b]) 1).run Try.prog W = .ok b W := by kernel_rfl
def leakOf (l : S39) (b : Bool) : S37 := if b then l.f2 else l.f1
def lossV (leak frost warm : Int) : Int := (pipe_loss.f leak frost warm 0).getD 0
theorem loss_calls (leak frost warm : Int) (W : World) : Calls Try.prog 56 #[.int .i64 leak, .int .i64 frost, .int .i64 warm, .int .i64 0] W fun e w' => e = .returned (.int .i64 (lossV leak frost warm)) ∧ Below W.heap.size W w' :=
 pipe_loss.calls leak frost warm 0 _ W rfl
def greatestV (l0 : List S39) (l1 : List S37) (wr i h warm : Int) : Int := wrap64 (warm - lossV (leakOf (qaj l0 i) (bitB wr i)).f0 (rd_T37 l1 h).f0 warm)
def leastV (l0 : List S39) (l1 : List S37) (wr i h warm : Int) : Int := wrap64 (warm - lossV (leakOf (qaj l0 i) (bitB wr i)).f1 (rd_T37 l1 h).f1 warm)
theorem least_calls (A0 : Option Addr) (c0 : Nat) (l0 : List S39) (A1 : Option Addr) (c1 : Nat) (l1 : List S37) (v2 : Value) (wr i h warm : Int) (w : World) (hr : Kd.C k39 w A0 l0.length l0) (hr1 : Kd.C k37 w A1 l1.length l1) (h0 : 0 ≤ i) (h1 : i < l0.length) (h2 : 0 ≤ wr) (h3 : 0 ≤ h) (h4 : h < l1.length) : 
  Calls Try.prog 98 #[.agg #[.slice A0 l0.length c0, .slice A1 l1.length c1, v2, .int .i64 wr], .int .i64 i, .int .i64 h, .int .i64 warm] w fun e w' => e = .returned (.int .i64 (leastV l0 l1 wr i h warm)) ∧ Below w.heap.size w w' := by
 have hu26 := Try.underlying26
 have hu99 := Try.underlying99
 have hu37 := Try.underlying37
 obtain ⟨ad, e, hf0, hf1⟩ := at_T37 hr1 h h3 h4
 cases e
 have HR := qab.mk hr
 clear hr
 have HB := qab.mk (Below.refl w.heap.size w)
 obtain ⟨n, rfl⟩ := Int.eq_ofNat_of_zero_le h3
 simp only [Int.toNat_natCast] at hf0 hf1
 cases hb : bitB wr i
 ·
  have HT := qab.mk hb
  clear hb
  have hm := method_146
  have hfa := field37_0
  have hfb := field37_1
  go_enter Try.func98, Try.ntmps98
  go_wp2_with ((with_reducible refine qam (N := 4) rfl ?_); refine qal ?hg (N := 4) ?hd (cs := #[.slice A0 l0.length c0, .slice (some ad) l1.length c1, v2, .int .i64 wr]) (t := 99) ?hr ?_; (case hd => rfl); (case hg => rfl); (case hr => first | (go_simp; done) | (go_simp; rfl)); intro gb hg_gb w2 hbox hb; have BKgb := qab.mk hbox; have n_HB := qab.mk (qad HB.out hb); have GEgb : w.heap.size ≤ gb := (by rw [hg_gb]; exact HB.out.size); clear HB; have HB := n_HB; clear n_HB; obtain ⟨hfgb, hcgb_0, hcgb_1, hcgb_2, hcgb_3⟩ := qz4 BKgb.out; clear hbox hb hg_gb; replace hf0 := (HB.out.cell (World.block_lt_of_cell? w _ hf0)).trans hf0; replace hf1 := (HB.out.cell (World.block_lt_of_cell? w _ hf1)).trans hf1)
  go_region_held3 (fun w' => w'.cell? ⟨gb, 0, none⟩ = some (.slice A0 l0.length c0) ∧ w'.cell? ⟨gb, 1, none⟩ = some (.slice (some ad) l1.length c1) ∧ w'.cell? ⟨gb, 2, none⟩ = some v2 ∧ w'.cell? ⟨gb, 3, none⟩ = some (.int .i64 wr) ∧ w'.cell? ⟨(ad.add (n * 2)).block, (ad.add (n * 2)).off + 1, none⟩ = some (.int .i64 (rd_T37 l1 n).f1) ∧ qab (Below w2.heap.size w2 w'))
   (first | exact ⟨hcgb_0, hcgb_1, hcgb_2, hcgb_3, hf1, ⟨below_drew (Below.refl _ _)⟩⟩ | exact ⟨(HX.out.cell (World.block_lt_of_cell? w2 _ hcgb_0)).trans hcgb_0, (HX.out.cell (World.block_lt_of_cell? w2 _ hcgb_1)).trans hcgb_1, (HX.out.cell (World.block_lt_of_cell? w2 _ hcgb_2)).trans hcgb_2, (HX.out.cell (World.block_lt_of_cell? w2 _ hcgb_3)).trans hcgb_3, (HX.out.cell (World.block_lt_of_cell? w2 _ hf1)).trans hf1, HX⟩)
   (first | (go_at_call 105; refine (box_false _ _ _ _ _ _ _ _ (Kd.qak (Kd.qak HR.out HB.out) (qab.out (And.right (And.right (And.right (And.right (And.right (by assumption)))))))) h0 h1 h2 HT.out).mono ?_; rintro e w3 ⟨rfl, hb⟩; have HX : qab (Below w2.heap.size w2 w3) := ⟨qad (qab.out (And.right (And.right (And.right (And.right (And.right (by assumption))))))) hb⟩) | (go_at_call 122; refine (pipe_bare_leak.calls _ _ _ _ _ _ _ _ _ _ _ _ _ _ _ rfl).mono ?_; rintro e w3 ⟨rfl, hb⟩; have HX : qab (Below w2.heap.size w2 w3) := ⟨qad (qab.out (And.right (And.right (And.right (And.right (And.right (by assumption))))))) hb⟩) | (go_at_call 56; refine (loss_calls _ _ _ _).mono ?_; rintro e w3 ⟨rfl, hb⟩; have HX : qab (Below w2.heap.size w2 w3) := ⟨qad (qab.out (And.right (And.right (And.right (And.right (And.right (by assumption))))))) hb⟩))
  go_wp2
  go_ret
  exact ⟨by unfold leastV; rw [HT.out]; simp only [i64_w]; rfl, qad HB.out (qab.out (And.right (And.right (And.right (And.right (And.right (by assumption)))))))⟩
 ·
  have HT := qab.mk hb
  clear hb
  have hm := method_145
  have hfa := field37_0
  have hfb := field37_1
  go_enter Try.func98, Try.ntmps98
  go_wp2_with ((with_reducible refine qam (N := 4) rfl ?_); refine qal ?hg (N := 4) ?hd (cs := #[.slice A0 l0.length c0, .slice (some ad) l1.length c1, v2, .int .i64 wr]) (t := 99) ?hr ?_; (case hd => rfl); (case hg => rfl); (case hr => first | (go_simp; done) | (go_simp; rfl)); intro gb hg_gb w2 hbox hb; have BKgb := qab.mk hbox; have n_HB := qab.mk (qad HB.out hb); have GEgb : w.heap.size ≤ gb := (by rw [hg_gb]; exact HB.out.size); clear HB; have HB := n_HB; clear n_HB; obtain ⟨hfgb, hcgb_0, hcgb_1, hcgb_2, hcgb_3⟩ := qz4 BKgb.out; clear hbox hb hg_gb; replace hf0 := (HB.out.cell (World.block_lt_of_cell? w _ hf0)).trans hf0; replace hf1 := (HB.out.cell (World.block_lt_of_cell? w _ hf1)).trans hf1)
  go_region_held3 (fun w' => w'.cell? ⟨gb, 0, none⟩ = some (.slice A0 l0.length c0) ∧ w'.cell? ⟨gb, 1, none⟩ = some (.slice (some ad) l1.length c1) ∧ w'.cell? ⟨gb, 2, none⟩ = some v2 ∧ w'.cell? ⟨gb, 3, none⟩ = some (.int .i64 wr) ∧ w'.cell? ⟨(ad.add (n * 2)).block, (ad.add (n * 2)).off + 1, none⟩ = some (.int .i64 (rd_T37 l1 n).f1) ∧ qab (Below w2.heap.size w2 w'))
   (first | exact ⟨hcgb_0, hcgb_1, hcgb_2, hcgb_3, hf1, ⟨below_drew (Below.refl _ _)⟩⟩ | exact ⟨(HX.out.cell (World.block_lt_of_cell? w2 _ hcgb_0)).trans hcgb_0, (HX.out.cell (World.block_lt_of_cell? w2 _ hcgb_1)).trans hcgb_1, (HX.out.cell (World.block_lt_of_cell? w2 _ hcgb_2)).trans hcgb_2, (HX.out.cell (World.block_lt_of_cell? w2 _ hcgb_3)).trans hcgb_3, (HX.out.cell (World.block_lt_of_cell? w2 _ hf1)).trans hf1, HX⟩)
   (first | (go_at_call 105; refine (box_true _ _ _ _ _ _ _ _ (Kd.qak (Kd.qak HR.out HB.out) (qab.out (And.right (And.right (And.right (And.right (And.right (by assumption)))))))) h0 h1 h2 HT.out).mono ?_; rintro e w3 ⟨rfl, hb⟩; have HX : qab (Below w2.heap.size w2 w3) := ⟨qad (qab.out (And.right (And.right (And.right (And.right (And.right (by assumption))))))) hb⟩) | (go_at_call 121; refine (pipe_wrapped_leak.calls _ _ _ _ _ _ _ _ _ _ _ _ _ _ _ rfl).mono ?_; rintro e w3 ⟨rfl, hb⟩; have HX : qab (Below w2.heap.size w2 w3) := ⟨qad (qab.out (And.right (And.right (And.right (And.right (And.right (by assumption))))))) hb⟩) | (go_at_call 56; refine (loss_calls _ _ _ _).mono ?_; rintro e w3 ⟨rfl, hb⟩; have HX : qab (Below w2.heap.size w2 w3) := ⟨qad (qab.out (And.right (And.right (And.right (And.right (And.right (by assumption))))))) hb⟩))
  go_wp2
  go_ret
  exact ⟨by unfold leastV; rw [HT.out]; simp only [i64_w]; rfl, qad HB.out (qab.out (And.right (And.right (And.right (And.right (And.right (by assumption)))))))⟩
theorem greatest_calls (A0 : Option Addr) (c0 : Nat) (l0 : List S39) (A1 : Option Addr) (c1 : Nat) (l1 : List S37) (v2 : Value) (wr i h warm : Int) (w : World) (hr : Kd.C k39 w A0 l0.length l0) (hr1 : Kd.C k37 w A1 l1.length l1) (h0 : 0 ≤ i) (h1 : i < l0.length) (h2 : 0 ≤ wr) (h3 : 0 ≤ h) (h4 : h < l1.length) : 
  Calls Try.prog 99 #[.agg #[.slice A0 l0.length c0, .slice A1 l1.length c1, v2, .int .i64 wr], .int .i64 i, .int .i64 h, .int .i64 warm] w fun e w' => e = .returned (.int .i64 (greatestV l0 l1 wr i h warm)) ∧ Below w.heap.size w w' := by
 have hu26 := Try.underlying26
 have hu99 := Try.underlying99
 have hu37 := Try.underlying37
 obtain ⟨ad, e, hf0, hf1⟩ := at_T37 hr1 h h3 h4
 cases e
 have HR := qab.mk hr
 clear hr
 have HB := qab.mk (Below.refl w.heap.size w)
 obtain ⟨n, rfl⟩ := Int.eq_ofNat_of_zero_le h3
 simp only [Int.toNat_natCast] at hf0 hf1
 cases hb : bitB wr i
 ·
  have HT := qab.mk hb
  clear hb
  have hm := method_146
  have hfa := field37_0
  have hfb := field37_1
  go_enter Try.func99, Try.ntmps99
  go_wp2_with ((with_reducible refine qam (N := 4) rfl ?_); refine qal ?hg (N := 4) ?hd (cs := #[.slice A0 l0.length c0, .slice (some ad) l1.length c1, v2, .int .i64 wr]) (t := 99) ?hr ?_; (case hd => rfl); (case hg => rfl); (case hr => first | (go_simp; done) | (go_simp; rfl)); intro gb hg_gb w2 hbox hb; have BKgb := qab.mk hbox; have n_HB := qab.mk (qad HB.out hb); have GEgb : w.heap.size ≤ gb := (by rw [hg_gb]; exact HB.out.size); clear HB; have HB := n_HB; clear n_HB; obtain ⟨hfgb, hcgb_0, hcgb_1, hcgb_2, hcgb_3⟩ := qz4 BKgb.out; clear hbox hb hg_gb; replace hf0 := (HB.out.cell (World.block_lt_of_cell? w _ hf0)).trans hf0; replace hf1 := (HB.out.cell (World.block_lt_of_cell? w _ hf1)).trans hf1)
  go_region_held3 (fun w' => w'.cell? ⟨gb, 0, none⟩ = some (.slice A0 l0.length c0) ∧ w'.cell? ⟨gb, 1, none⟩ = some (.slice (some ad) l1.length c1) ∧ w'.cell? ⟨gb, 2, none⟩ = some v2 ∧ w'.cell? ⟨gb, 3, none⟩ = some (.int .i64 wr) ∧ w'.cell? (ad.add (n * 2)) = some (.int .i64 (rd_T37 l1 n).f0) ∧ qab (Below w2.heap.size w2 w'))
   (first | exact ⟨hcgb_0, hcgb_1, hcgb_2, hcgb_3, hf0, ⟨below_drew (Below.refl _ _)⟩⟩ | exact ⟨(HX.out.cell (World.block_lt_of_cell? w2 _ hcgb_0)).trans hcgb_0, (HX.out.cell (World.block_lt_of_cell? w2 _ hcgb_1)).trans hcgb_1, (HX.out.cell (World.block_lt_of_cell? w2 _ hcgb_2)).trans hcgb_2, (HX.out.cell (World.block_lt_of_cell? w2 _ hcgb_3)).trans hcgb_3, (HX.out.cell (World.block_lt_of_cell? w2 _ hf0)).trans hf0, HX⟩)
   (first | (go_at_call 105; refine (box_false _ _ _ _ _ _ _ _ (Kd.qak (Kd.qak HR.out HB.out) (qab.out (And.right (And.right (And.right (And.right (And.right (by assumption)))))))) h0 h1 h2 HT.out).mono ?_; rintro e w3 ⟨rfl, hb⟩; have HX : qab (Below w2.heap.size w2 w3) := ⟨qad (qab.out (And.right (And.right (And.right (And.right (And.right (by assumption))))))) hb⟩) | (go_at_call 122; refine (pipe_bare_leak.calls _ _ _ _ _ _ _ _ _ _ _ _ _ _ _ rfl).mono ?_; rintro e w3 ⟨rfl, hb⟩; have HX : qab (Below w2.heap.size w2 w3) := ⟨qad (qab.out (And.right (And.right (And.right (And.right (And.right (by assumption))))))) hb⟩) | (go_at_call 56; refine (loss_calls _ _ _ _).mono ?_; rintro e w3 ⟨rfl, hb⟩; have HX : qab (Below w2.heap.size w2 w3) := ⟨qad (qab.out (And.right (And.right (And.right (And.right (And.right (by assumption))))))) hb⟩))
  go_wp2
  go_ret
  exact ⟨by unfold greatestV; rw [HT.out]; simp only [i64_w]; rfl, qad HB.out (qab.out (And.right (And.right (And.right (And.right (And.right (by assumption)))))))⟩
 ·
  have HT := qab.mk hb
  clear hb
  have hm := method_145
  have hfa := field37_0
  have hfb := field37_1
  go_enter Try.func99, Try.ntmps99
  go_wp2_with ((with_reducible refine qam (N := 4) rfl ?_); refine qal ?hg (N := 4) ?hd (cs := #[.slice A0 l0.length c0, .slice (some ad) l1.length c1, v2, .int .i64 wr]) (t := 99) ?hr ?_; (case hd => rfl); (case hg => rfl); (case hr => first | (go_simp; done) | (go_simp; rfl)); intro gb hg_gb w2 hbox hb; have BKgb := qab.mk hbox; have n_HB := qab.mk (qad HB.out hb); have GEgb : w.heap.size ≤ gb := (by rw [hg_gb]; exact HB.out.size); clear HB; have HB := n_HB; clear n_HB; obtain ⟨hfgb, hcgb_0, hcgb_1, hcgb_2, hcgb_3⟩ := qz4 BKgb.out; clear hbox hb hg_gb; replace hf0 := (HB.out.cell (World.block_lt_of_cell? w _ hf0)).trans hf0; replace hf1 := (HB.out.cell (World.block_lt_of_cell? w _ hf1)).trans hf1)
  go_region_held3 (fun w' => w'.cell? ⟨gb, 0, none⟩ = some (.slice A0 l0.length c0) ∧ w'.cell? ⟨gb, 1, none⟩ = some (.slice (some ad) l1.length c1) ∧ w'.cell? ⟨gb, 2, none⟩ = some v2 ∧ w'.cell? ⟨gb, 3, none⟩ = some (.int .i64 wr) ∧ w'.cell? (ad.add (n * 2)) = some (.int .i64 (rd_T37 l1 n).f0) ∧ qab (Below w2.heap.size w2 w'))
   (first | exact ⟨hcgb_0, hcgb_1, hcgb_2, hcgb_3, hf0, ⟨below_drew (Below.refl _ _)⟩⟩ | exact ⟨(HX.out.cell (World.block_lt_of_cell? w2 _ hcgb_0)).trans hcgb_0, (HX.out.cell (World.block_lt_of_cell? w2 _ hcgb_1)).trans hcgb_1, (HX.out.cell (World.block_lt_of_cell? w2 _ hcgb_2)).trans hcgb_2, (HX.out.cell (World.block_lt_of_cell? w2 _ hcgb_3)).trans hcgb_3, (HX.out.cell (World.block_lt_of_cell? w2 _ hf0)).trans hf0, HX⟩)
   (first | (go_at_call 105; refine (box_true _ _ _ _ _ _ _ _ (Kd.qak (Kd.qak HR.out HB.out) (qab.out (And.right (And.right (And.right (And.right (And.right (by assumption)))))))) h0 h1 h2 HT.out).mono ?_; rintro e w3 ⟨rfl, hb⟩; have HX : qab (Below w2.heap.size w2 w3) := ⟨qad (qab.out (And.right (And.right (And.right (And.right (And.right (by assumption))))))) hb⟩) | (go_at_call 121; refine (pipe_wrapped_leak.calls _ _ _ _ _ _ _ _ _ _ _ _ _ _ _ rfl).mono ?_; rintro e w3 ⟨rfl, hb⟩; have HX : qab (Below w2.heap.size w2 w3) := ⟨qad (qab.out (And.right (And.right (And.right (And.right (And.right (by assumption))))))) hb⟩) | (go_at_call 56; refine (loss_calls _ _ _ _).mono ?_; rintro e w3 ⟨rfl, hb⟩; have HX : qab (Below w2.heap.size w2 w3) := ⟨qad (qab.out (And.right (And.right (And.right (And.right (And.right (by assumption))))))) hb⟩))
  go_wp2
  go_ret
  exact ⟨by unfold greatestV; rw [HT.out]; simp only [i64_w]; rfl, qad HB.out (qab.out (And.right (And.right (And.right (And.right (And.right (by assumption)))))))⟩
def wAt (f : Int → Int → Int) (w0 : Int) : Nat → Int
 | 0 => w0
 | k + 1 => f k (wAt f w0 k)
def wList (f : Int → Int → Int) (w0 : Int) (n : Nat) : List Int := (List.range n).map fun k => wAt f w0 (k + 1)
theorem wList_succ (f : Int → Int → Int) (w0 : Int) (n : Nat) : wList f w0 (n + 1) = wList f w0 n ++ [wAt f w0 (n + 1)] := by simp [wList, List.range_succ]
theorem wList_length (f : Int → Int → Int) (w0 : Int) (n : Nat) : (wList f w0 n).length = n := by simp [wList]
def WInv (w W : World) (gb gf ge : Nat) (cb cf : Array Value) (u0 u1 : Value) (xs0 xs1 : List Int) : Prop :=
 W.heap[gb]? = some (.cells cb 99 (0, 0)) ∧ W.heap[gf]? = some (.cells cf 130 (0, 0)) ∧ W.heap[ge]? = some (.cells #[u0, u1] 129 (0, 0)) ∧
 Kd.R (Kd.int .i64) 3 W w.heap.size (fun k => some k ≠ u1.ownBlock) u0 xs0 ∧ Kd.R (Kd.int .i64) 3 W w.heap.size (fun k => some k ≠ u0.ownBlock) u1 xs1 ∧ Below w.heap.size w W ∧ w.heap.size ≤ ge
section
variable {w W W1 : World} {gb gf ge : Nat} {cb cf : Array Value} {u0 u1 v' : Value} {xs0 xs1 : List Int} {x : Int}
theorem WInv.below (h : WInv w W gb gf ge cb cf u0 u1 xs0 xs1) (hb : Below W.heap.size W W1) : WInv w W1 gb gf ge cb cf u0 u1 xs0 xs1 := by
 obtain ⟨a, b, c, d, e, f, g⟩ := h
 exact ⟨qae a hb, qae b hb, qae c hb, Kd.R_below d hb, Kd.R_below e hb, qad f hb, g⟩
theorem WInv.put0 (h : WInv w W gb gf ge cb cf u0 u1 xs0 xs1) (ho : Kd.R (Kd.int .i64) 3 W1 w.heap.size (fun k => some k ≠ u1.ownBlock) v' (xs0 ++ [x])) (hB : Below w.heap.size w W1) (hg : W.grownBy W1 u0.ownBlock)
  (hat : v'.ownBlock = u0.ownBlock ∨ ∃ b, v'.ownBlock = some b ∧ W.heap.size ≤ b) : WInv w (W1.setCell ⟨ge, 0, none⟩ v') gb gf ge cb cf v' u1 (xs0 ++ [x]) xs1 := by
 obtain ⟨a, b, c, d, e, f, g⟩ := h
 have c1 := blk_grown c hg (Kd.R_ne d c (by decide))
 have a1 := blk_grown a hg (Kd.R_ne d a (by decide))
 have b1 := blk_grown b hg (Kd.R_ne d b (by decide))
 refine ⟨blk_far a1 (p := ⟨ge, 0, none⟩) (blk_ne a c (by decide)) _, blk_far b1 (p := ⟨ge, 0, none⟩) (blk_ne b c (by decide)) _, (blk_set c1 0 v'), ?_, ?_, qai hB g, g⟩
 ·
  exact Kd.R_set ho c1 (by decide) 0 v'
 ·
  have e1 := Kd.R_after (ok := fun _ => True) (v1 := v') (Kd.R_mono e (fun k hk => ⟨trivial, hk⟩)) hg hat
  exact Kd.R_set (Kd.R_mono e1 (fun k hk => hk.2)) c1 (by decide) 0 v'
theorem WInv.put1 (h : WInv w W gb gf ge cb cf u0 u1 xs0 xs1) (ho : Kd.R (Kd.int .i64) 3 W1 w.heap.size (fun k => some k ≠ u0.ownBlock) v' (xs1 ++ [x])) (hB : Below w.heap.size w W1) (hg : W.grownBy W1 u1.ownBlock)
  (hat : v'.ownBlock = u1.ownBlock ∨ ∃ b, v'.ownBlock = some b ∧ W.heap.size ≤ b) : WInv w (W1.setCell ⟨ge, 1, none⟩ v') gb gf ge cb cf u0 v' xs0 (xs1 ++ [x]) := by
 obtain ⟨a, b, c, d, e, f, g⟩ := h
 have c1 := blk_grown c hg (Kd.R_ne e c (by decide))
 have a1 := blk_grown a hg (Kd.R_ne e a (by decide))
 have b1 := blk_grown b hg (Kd.R_ne e b (by decide))
 refine ⟨blk_far a1 (p := ⟨ge, 1, none⟩) (blk_ne a c (by decide)) _, blk_far b1 (p := ⟨ge, 1, none⟩) (blk_ne b c (by decide)) _, (blk_set c1 1 v'), ?_, ?_, qai hB g, g⟩
 ·
  have e1 := Kd.R_after (ok := fun _ => True) (v1 := v') (Kd.R_mono d (fun k hk => ⟨trivial, hk⟩)) hg hat
  exact Kd.R_set (Kd.R_mono e1 (fun k hk => hk.2)) c1 (by decide) 1 v'
 ·
  exact Kd.R_set ho c1 (by decide) 1 v'
end
theorem rd_wList (f : Int → Int → Int) (w0 : Int) (n j : Nat) (h : j < n) : rd (wList f w0 n) j = wAt f w0 (j + 1) := by simp [rd, wList, h]
theorem WInv.grown37 {w W W1 : World} {gb gf ge : Nat} {cb cf : Array Value} {u0 u1 v : Value} {xs0 xs1 : List Int} {ok : Nat → Prop} {ys : List S37} (h : WInv w W gb gf ge cb cf u0 u1 xs0 xs1) (hv : Kd.R k37 37 W w.heap.size ok v ys) (hg : W.grownBy W1 v.ownBlock) (hB : Below w.heap.size w W1) : WInv w W1 gb gf ge cb cf u0 u1 xs0 xs1 := by
 obtain ⟨a, b, c, d, e, f, g⟩ := h
 exact ⟨blk_grown a hg (Kd.R_ne hv a (by decide)), blk_grown b hg (Kd.R_ne hv b (by decide)), blk_grown c hg (Kd.R_ne hv c (by decide)), Kd.R_over d hv (by decide) hg, Kd.R_over e hv (by decide) hg, hB, g⟩
def warmthV (l0 : List S39) (l1 : List S37) (wp i : Int) : List S37 :=
 (List.range l1.length).map fun h => ⟨wAt (fun h x => leastV l0 l1 wp i h x) (qaj l0 i).f0.f0 (h + 1), wAt (fun h x => greatestV l0 l1 wp i h x) (qaj l0 i).f0.f1 (h + 1)⟩
theorem warmth_calls (A0 : Option Addr) (c0 : Nat) (l0 : List S39) (A1 : Option Addr) (c1 : Nat) (l1 : List S37) (v2 : Value) (wp i : Int) (w : World) (hr : Kd.C k39 w A0 l0.length l0) (hr1 : Kd.C k37 w A1 l1.length l1) (h0 : 0 ≤ i) (h1 : i < l0.length) (h2 : 0 ≤ wp) (hn : l1.length ≤ 1000) : 
  Calls Try.prog 79 #[.agg #[.slice A0 l0.length c0, .slice A1 l1.length c1, v2, .int .i64 wp], .int .i64 i] w fun e w' => ∃ v0_ : Value, e = .returned (v0_) ∧ Kd.R k37 37 w' w.heap.size (fun _ => True) v0_ (warmthV l0 l1 wp i) ∧ Below w.heap.size w w' := by
 have hu26 := Try.underlying26
 have hu99 := Try.underlying99
 have hu37 := Try.underlying37
 have hu39 := Try.underlying39
 have hu129 := Try.underlying129
 have hu130 := Try.underlying130
 have hu132 := Try.underlying132
 obtain ⟨ad, e, hl0, hl1, hl2, hl3, hl4, hl5, hl6, hl7, hl8, hl9, hl10, hl11⟩ := at_T39 hr i h0 h1
 cases e
 obtain ⟨n, rfl⟩ := Int.eq_ofNat_of_zero_le h0
 simp only [Int.toNat_natCast] at hl0 hl1 hl2 hl3 hl4 hl5 hl6 hl7 hl8 hl9 hl10 hl11
 clear hl2 hl3 hl4 hl5 hl6 hl7 hl8 hl9 hl10 hl11
 have HR := qab.mk hr
 have HR1 := qab.mk hr1
 clear hr hr1
 have HB := qab.mk (Below.refl w.heap.size w)
 go_enter Try.func79, Try.ntmps79
 go_wp2_with ((with_reducible refine qam (N := 2) rfl ?_); refine qal ?hg (N := 2) ?hd (cs := #[.slice (some ad) l0.length c0, .slice A1 l1.length c1, v2, .int .i64 wp]) (t := 99) ?hr ?_; (case hd => rfl); (case hg => rfl); (case hr => first | (go_simp; done) | (go_simp; rfl)); intro gb hg_gb w2 hbox hb; have BKgb := qab.mk hbox; have n_HB := qab.mk (qad HB.out hb); have GEgb : w.heap.size ≤ gb := (by rw [hg_gb]; exact HB.out.size); clear HB; have HB := n_HB; clear n_HB; obtain ⟨hfgb, hcgb_0, hcgb_1, hcgb_2, hcgb_3⟩ := qz4 BKgb.out; clear hbox hb hg_gb)
 have hbk := blk_new w2 (.cells #[.slice none 0 0, .slice none 0 0] 129); have hb : Below w2.heap.size w2 (w2.alloc (.cells #[.slice none 0 0, .slice none 0 0] 129)) := (Below.refl _ _).alloc (Nat.le_refl _) _; generalize hw_ : (w2.alloc (.cells #[.slice none 0 0, .slice none 0 0] 129)) = w3 at hbk hb ⊢; clear hw_; replace BKgb := qab.mk (qae BKgb.out hb); have GEge : w.heap.size ≤ w2.heap.size := HB.out.size; replace HB := qab.mk (qad HB.out hb); clear hb; generalize hg_ : w2.heap.size = ge at hbk GEge ⊢; clear hg_; have BKge := qab.mk hbk; clear hbk; obtain ⟨hfge, hcge_0, hcge_1⟩ := qz2 BKge.out; obtain ⟨hfgb, hcgb_0, hcgb_1, hcgb_2, hcgb_3⟩ := qz4 BKgb.out; replace hl0 := (HB.out.cell (World.block_lt_of_cell? w _ hl0)).trans hl0; replace hl1 := (HB.out.cell (World.block_lt_of_cell? w _ hl1)).trans hl1
 have ne0 := World.new_ne w3 _ hcgb_0
 have ne1 := World.new_ne w3 _ hl0
 go_region_held3 (fun w' => w'.cell? ⟨gb, 0, none⟩ = some (.slice (some ad) l0.length c0) ∧ w'.cell? (ad.add (n * 12)) = some (.int .i64 (qaj l0 n).f0.f0) ∧ w'.cell? ⟨(ad.add (n * 12)).block, (ad.add (n * 12)).off + 1, none⟩ = some (.int .i64 (qaj l0 n).f0.f1))
  (go_keep)
  ((fail))
 clear ne0 ne1
 rename_i hHeld
 clear hHeld
 simp only [Exit.then]
 clear hl0 hl1 hfgb hcgb_0 hcgb_1 hcgb_2 hcgb_3 hfge hcge_0 hcge_1
 have hbk := blk_drew (blk_new w3 (.cells #[.int .i64 (qaj l0 n).f0.f0, .int .i64 (qaj l0 n).f0.f1] 130)); have hb : Below w3.heap.size w3 (w3.alloc (.cells #[.int .i64 (qaj l0 n).f0.f0, .int .i64 (qaj l0 n).f0.f1] 130)).drew := below_drew ((Below.refl _ _).alloc (Nat.le_refl _) _); generalize hw_ : (w3.alloc (.cells #[.int .i64 (qaj l0 n).f0.f0, .int .i64 (qaj l0 n).f0.f1] 130)).drew = w4 at hbk hb ⊢; clear hw_; replace BKgb := qab.mk (qae BKgb.out hb); replace BKge := qab.mk (qae BKge.out hb); have GEgf : w.heap.size ≤ w3.heap.size := HB.out.size; replace HB := qab.mk (qad HB.out hb); clear hb; generalize hg_ : w3.heap.size = gf at hbk GEgf ⊢; clear hg_; have BKgf := qab.mk hbk; clear hbk; obtain ⟨hfgf, hcgf_0, hcgf_1⟩ := qz2 BKgf.out; obtain ⟨hfgb, hcgb_0, hcgb_1, hcgb_2, hcgb_3⟩ := qz4 BKgb.out
 have hmf : ∀ (fn : Fn) (first cap : Array Value) (w : World), (Instr.makeFunc fn first cap).run Try.prog w = .ok (.func fn first cap) w := fun _ _ _ _ => rfl
 have HI : qab (WInv w w4 gb gf ge #[.slice (some ad) l0.length c0, .slice A1 l1.length c1, v2, .int .i64 wp] #[.int .i64 (qaj l0 n).f0.f0, .int .i64 (qaj l0 n).f0.f1] (.slice none 0 0) (.slice none 0 0) [] []) := ⟨BKgb.out, BKgf.out, BKge.out, Kd.R_nil _ _ _ _ _, Kd.R_nil _ _ _ _ _, HB.out, GEge⟩
 clear BKgb BKgf BKge HB hfgf hcgf_0 hcgf_1 GEgf
 have hi0 : ∀ (x0 x1 : Value) W, (Instr.index 132 (.agg #[x0, x1]) (.int .i64 0)).run Try.prog W = .ok x0 W := fun _ _ _ => by kernel_rfl
 have hi1 : ∀ (x0 x1 : Value) W, (Instr.index 132 (.agg #[x0, x1]) (.int .i64 1)).run Try.prog W = .ok x1 W := fun _ _ _ => by kernel_rfl
 go_wp2_with fail
 go_loopw [36] (fun s36 wr_ => ∃ (k : Nat) (u0 u1 : Value), k ≤ 2 ∧ s36 = .int .i64 k ∧ (k = 0 → u0 = .slice none 0 0) ∧ (k ≤ 1 → u1 = .slice none 0 0) ∧ qab (WInv w wr_ gb gf ge #[.slice (some ad) l0.length c0, .slice A1 l1.length c1, v2, .int .i64 wp] #[.int .i64 (qaj l0 n).f0.f0, .int .i64 (qaj l0 n).f0.f1] u0 u1 (if 0 < k then wList (fun h x => leastV l0 l1 wp n h x) (qaj l0 n).f0.f0 l1.length else []) (if 1 < k then wList (fun h x => greatestV l0 l1 wp n h x) (qaj l0 n).f0.f1 l1.length else []))) (fun s _ => 2 - (intOf s).toNat)
 case atStart => exact ⟨0, _, _, by omega, rfl, fun _ => rfl, fun _ => rfl, HI⟩
 case round =>
  clear HI
  obtain ⟨wO, rfl⟩ : ∃ wo : World, wo = wr := ⟨_, rfl⟩
  obtain ⟨k, u0, u1, hk, rfl, hu0, hu1, HI⟩ := hrel
  obtain rfl | rfl | rfl : k = 0 ∨ k = 1 ∨ k = 2 := by omega
  ·
   obtain rfl := hu0 rfl
   obtain rfl := hu1 (by omega)
   clear hu0 hu1
   have HI : qab (WInv w wO gb gf ge #[.slice (some ad) l0.length c0, .slice A1 l1.length c1, v2, .int .i64 wp] #[.int .i64 (qaj l0 n).f0.f0, .int .i64 (qaj l0 n).f0.f1] (.slice none 0 0) (.slice none 0 0) [] []) := HI
   have BKgb := HI.out.1
   have BKgf := HI.out.2.1
   obtain ⟨hfgb, hcgb_0, hcgb_1, hcgb_2, hcgb_3⟩ := qz4 BKgb
   obtain ⟨hfgf, hcgf_0, hcgf_1⟩ := qz2 BKgf
   clear BKgb BKgf
   go_wp2_with fail
   clear hfgb hcgb_0 hcgb_1 hcgb_2 hcgb_3 hfgf hcgf_0 hcgf_1
   go_loopw [9, 47] (fun s9 s47 wr_ => ∃ (j : Nat) (v_ : Value), j ≤ l1.length ∧ s9 = .int .i64 (wAt (fun h x => leastV l0 l1 wp n h x) (qaj l0 n).f0.f0 j) ∧ s47 = .int .i64 j ∧ qab (WInv w wr_ gb gf ge #[.slice (some ad) l0.length c0, .slice A1 l1.length c1, v2, .int .i64 wp] #[.int .i64 (qaj l0 n).f0.f0, .int .i64 (qaj l0 n).f0.f1] v_ (.slice none 0 0) (wList (fun h x => leastV l0 l1 wp n h x) (qaj l0 n).f0.f0 j) [])) (fun _ s _ => l1.length - (intOf s).toNat)
   case atStart => exact ⟨0, _, by omega, rfl, rfl, HI⟩
   case round =>
    clear HI
    obtain ⟨j, v_, hj, rfl, rfl, HI⟩ := hrel
    by_cases hlt : j < l1.length
    ·
     have hlt1 : (j : Int) < l1.length := by omega
     obtain ⟨BKgb, BKgf, BKge, RO, RQ, HBo, GEe⟩ := HI.out
     have HBo' := qab.mk HBo
     clear HBo RO RQ GEe BKgf BKgb BKge
     go_wp2_with fail
     refine (least_calls _ _ _ _ _ _ _ _ _ _ _ _ (Kd.qak HR.out HBo'.out) (Kd.qak HR1.out HBo'.out) h0 h1 h2 (by omega) hlt1).mono ?_
     rintro e w5 ⟨rfl, hb⟩
     have HI5 := qab.mk (HI.out.below hb)
     clear HI HBo' hb
     obtain ⟨BKgb, BKgf, BKge, RO, RQ, HBo, GEe⟩ := HI5.out
     have RO' := qab.mk RO
     have RQ' := qab.mk RQ
     have HBo' := qab.mk HBo
     have GEe' := qab.mk GEe
     clear HBo RO RQ GEe
     have hfge := qac BKge
     have hcge_0 : w5.cell? ⟨ge, 0, none⟩ = some v_ := (qaa BKge 0).trans rfl
     have hcge_1 : w5.cell? ⟨ge, 1, none⟩ = some (.slice none 0 0) := (qaa BKge 1).trans rfl
     have BKge' := qab.mk BKge
     clear BKgb BKgf BKge
     go_wp2_with ((with_reducible refine gate_builtin (b := .append) (xs := #[.tmp 58, .tmp 60]) rfl ?_); at_builtin; refine Kd.R_append (Kd.int .i64) (w0 := w) w.heap.size rfl (.tmp 58) (.tmp 60) 47 3 (.int .i64 0) 8 rfl Try.underlying47 info3 rfl (by decide) (by omega) v_ (wList (fun h x => leastV l0 l1 wp n h x) (qaj l0 n).f0.f0 j) (leastV l0 l1 wp n j (wAt (fun h x => leastV l0 l1 wp n h x) (qaj l0 n).f0.f0 j)) [.int .i64 (leastV l0 l1 wp n j (wAt (fun h x => leastV l0 l1 wp n h x) (qaj l0 n).f0.f0 j))] (fun k => some k ≠ (Value.slice none 0 0).ownBlock) (fun _ => False) rfl rfl ?aP (fun _ hk => hk.elim) ?aF ?aO ?aB ?aS ?aL ?_; (case aP => exact rfl); (case aF => exact fun k hk => Kd.fresh_ok RQ'.out k hk); (case aO => exact RO'.out); (case aB => exact HBo'.out); (case aS => exact HBo'.out.size); (case aL => have hl_ := wList_length (fun h x => leastV l0 l1 wp n h x) (qaj l0 n).f0.f0 j; omega); intro v6 w6 ho hB hg hat; obtain ⟨A6, n6, c6, rfl⟩ := R_shape ho; have ho' : Kd.R (Kd.int .i64) 3 w6 w.heap.size (fun k => some k ≠ (Value.slice none 0 0).ownBlock) _ (wList (fun h x => leastV l0 l1 wp n h x) (qaj l0 n).f0.f0 j ++ [(leastV l0 l1 wp n j (wAt (fun h x => leastV l0 l1 wp n h x) (qaj l0 n).f0.f0 j))]) := ho; have HI6 := qab.mk (HI5.out.put0 ho' hB hg hat); have hfge6 : ∀ i, w6.frozen? ⟨ge, i, none⟩ = false := qac (blk_grown BKge'.out hg (Kd.R_ne RO'.out BKge'.out (by decide))); have hcge6_0 : w6.cell? ⟨ge, 0, none⟩ = some v_ := (qaa (blk_grown BKge'.out hg (Kd.R_ne RO'.out BKge'.out (by decide))) 0).trans rfl; have hcge6_1 : w6.cell? ⟨ge, 1, none⟩ = some (.slice none 0 0) := (qaa (blk_grown BKge'.out hg (Kd.R_ne RO'.out BKge'.out (by decide))) 1).trans rfl; clear ho ho' hB hg hat hfge hcge_0 hcge_1)
     go_roundw
     case rel => ((repeat apply Exists.intro); exact ⟨⟨j + 1, _, by omega, rfl, by go_num, ⟨by rw [wList_succ]; exact HI6.out⟩⟩, rfl⟩)
     case measure => simp [intOf]; omega
    ·
     obtain rfl : j = l1.length := by omega
     go_wp2_with fail
     go_roundw
     case rel => first | exact ⟨1, _, _, by omega, rfl, fun h => by omega, fun _ => rfl, HI⟩ | ((repeat apply Exists.intro); exact ⟨⟨1, _, _, by omega, rfl, fun h => by omega, fun _ => rfl, HI⟩, rfl⟩)
     case measure => simp [intOf]
  ·
   obtain rfl := hu1 (by omega)
   clear hu0 hu1
   have HI : qab (WInv w wO gb gf ge #[.slice (some ad) l0.length c0, .slice A1 l1.length c1, v2, .int .i64 wp] #[.int .i64 (qaj l0 n).f0.f0, .int .i64 (qaj l0 n).f0.f1] u0 (.slice none 0 0) (wList (fun h x => leastV l0 l1 wp n h x) (qaj l0 n).f0.f0 l1.length) []) := HI
   have BKgb := HI.out.1
   have BKgf := HI.out.2.1
   obtain ⟨hfgb, hcgb_0, hcgb_1, hcgb_2, hcgb_3⟩ := qz4 BKgb
   obtain ⟨hfgf, hcgf_0, hcgf_1⟩ := qz2 BKgf
   clear BKgb BKgf
   go_wp2_with fail
   clear hfgb hcgb_0 hcgb_1 hcgb_2 hcgb_3 hfgf hcgf_0 hcgf_1
   go_loopw [9, 47] (fun s9 s47 wr_ => ∃ (j : Nat) (v_ : Value), j ≤ l1.length ∧ s9 = .int .i64 (wAt (fun h x => greatestV l0 l1 wp n h x) (qaj l0 n).f0.f1 j) ∧ s47 = .int .i64 j ∧ qab (WInv w wr_ gb gf ge #[.slice (some ad) l0.length c0, .slice A1 l1.length c1, v2, .int .i64 wp] #[.int .i64 (qaj l0 n).f0.f0, .int .i64 (qaj l0 n).f0.f1] u0 v_ (wList (fun h x => leastV l0 l1 wp n h x) (qaj l0 n).f0.f0 l1.length) (wList (fun h x => greatestV l0 l1 wp n h x) (qaj l0 n).f0.f1 j))) (fun _ s _ => l1.length - (intOf s).toNat)
   case atStart => exact ⟨0, _, by omega, rfl, rfl, HI⟩
   case round =>
    clear HI
    obtain ⟨j, v_, hj, rfl, rfl, HI⟩ := hrel
    by_cases hlt : j < l1.length
    ·
     have hlt1 : (j : Int) < l1.length := by omega
     obtain ⟨BKgb, BKgf, BKge, RO, RQ, HBo, GEe⟩ := HI.out
     have HBo' := qab.mk HBo
     clear HBo RO RQ GEe BKgf BKgb BKge
     go_wp2_with fail
     refine (greatest_calls _ _ _ _ _ _ _ _ _ _ _ _ (Kd.qak HR.out HBo'.out) (Kd.qak HR1.out HBo'.out) h0 h1 h2 (by omega) hlt1).mono ?_
     rintro e w5 ⟨rfl, hb⟩
     have HI5 := qab.mk (HI.out.below hb)
     clear HI HBo' hb
     obtain ⟨BKgb, BKgf, BKge, RO, RQ, HBo, GEe⟩ := HI5.out
     have RO' := qab.mk RO
     have RQ' := qab.mk RQ
     have HBo' := qab.mk HBo
     have GEe' := qab.mk GEe
     clear HBo RO RQ GEe
     have hfge := qac BKge
     have hcge_0 : w5.cell? ⟨ge, 0, none⟩ = some u0 := (qaa BKge 0).trans rfl
     have hcge_1 : w5.cell? ⟨ge, 1, none⟩ = some v_ := (qaa BKge 1).trans rfl
     have BKge' := qab.mk BKge
     clear BKgb BKgf BKge
     go_wp2_with ((with_reducible refine gate_builtin (b := .append) (xs := #[.tmp 58, .tmp 60]) rfl ?_); at_builtin; refine Kd.R_append (Kd.int .i64) (w0 := w) w.heap.size rfl (.tmp 58) (.tmp 60) 47 3 (.int .i64 0) 8 rfl Try.underlying47 info3 rfl (by decide) (by omega) v_ (wList (fun h x => greatestV l0 l1 wp n h x) (qaj l0 n).f0.f1 j) (greatestV l0 l1 wp n j (wAt (fun h x => greatestV l0 l1 wp n h x) (qaj l0 n).f0.f1 j)) [.int .i64 (greatestV l0 l1 wp n j (wAt (fun h x => greatestV l0 l1 wp n h x) (qaj l0 n).f0.f1 j))] (fun k => some k ≠ u0.ownBlock) (fun _ => False) rfl rfl ?aP (fun _ hk => hk.elim) ?aF ?aO ?aB ?aS ?aL ?_; (case aP => exact rfl); (case aF => exact fun k hk => Kd.fresh_ok RO'.out k hk); (case aO => exact RQ'.out); (case aB => exact HBo'.out); (case aS => exact HBo'.out.size); (case aL => have hl_ := wList_length (fun h x => greatestV l0 l1 wp n h x) (qaj l0 n).f0.f1 j; omega); intro v6 w6 ho hB hg hat; obtain ⟨A6, n6, c6, rfl⟩ := R_shape ho; have ho' : Kd.R (Kd.int .i64) 3 w6 w.heap.size (fun k => some k ≠ u0.ownBlock) _ (wList (fun h x => greatestV l0 l1 wp n h x) (qaj l0 n).f0.f1 j ++ [(greatestV l0 l1 wp n j (wAt (fun h x => greatestV l0 l1 wp n h x) (qaj l0 n).f0.f1 j))]) := ho; have HI6 := qab.mk (HI5.out.put1 ho' hB hg hat); have hfge6 : ∀ i, w6.frozen? ⟨ge, i, none⟩ = false := qac (blk_grown BKge'.out hg (Kd.R_ne RQ'.out BKge'.out (by decide))); have hcge6_0 : w6.cell? ⟨ge, 0, none⟩ = some u0 := (qaa (blk_grown BKge'.out hg (Kd.R_ne RQ'.out BKge'.out (by decide))) 0).trans rfl; have hcge6_1 : w6.cell? ⟨ge, 1, none⟩ = some v_ := (qaa (blk_grown BKge'.out hg (Kd.R_ne RQ'.out BKge'.out (by decide))) 1).trans rfl; clear ho ho' hB hg hat hfge hcge_0 hcge_1)
     go_roundw
     case rel => ((repeat apply Exists.intro); exact ⟨⟨j + 1, _, by omega, rfl, by go_num, ⟨by rw [wList_succ]; exact HI6.out⟩⟩, rfl⟩)
     case measure => simp [intOf]; omega
    ·
     obtain rfl : j = l1.length := by omega
     go_wp2_with fail
     go_roundw
     case rel => first | exact ⟨2, _, _, by omega, rfl, fun h => by omega, fun h => by omega, HI⟩ | ((repeat apply Exists.intro); exact ⟨⟨2, _, _, by omega, rfl, fun h => by omega, fun h => by omega, HI⟩, rfl⟩)
     case measure => simp [intOf]
  ·
   have HI : qab (WInv w wO gb gf ge #[.slice (some ad) l0.length c0, .slice A1 l1.length c1, v2, .int .i64 wp] #[.int .i64 (qaj l0 n).f0.f0, .int .i64 (qaj l0 n).f0.f1] u0 u1 (wList (fun h x => leastV l0 l1 wp n h x) (qaj l0 n).f0.f0 l1.length) (wList (fun h x => greatestV l0 l1 wp n h x) (qaj l0 n).f0.f1 l1.length)) := HI
   clear hu0 hu1
   have BKgb := HI.out.1
   obtain ⟨hfgb, hcgb_0, hcgb_1, hcgb_2, hcgb_3⟩ := qz4 BKgb
   clear BKgb
   go_wp2_with fail
   clear hfgb hcgb_0 hcgb_1 hcgb_2 hcgb_3
   obtain ⟨A0_, q0, rfl, _, _⟩ := Kd.R_reads HI.out.2.2.2.1
   obtain ⟨A1_, q1, rfl, _, _⟩ := Kd.R_reads HI.out.2.2.2.2.1
   go_loopw [11, 69] (fun s11 s69 wr_ => ∃ (j : Nat), j ≤ l1.length ∧ s69 = .int .i64 j ∧ qab (Kd.R k37 37 wr_ w.heap.size (fun _ => True) s11 ((List.range j).map fun h => ⟨wAt (fun h x => leastV l0 l1 wp n h x) (qaj l0 n).f0.f0 (h + 1), wAt (fun h x => greatestV l0 l1 wp n h x) (qaj l0 n).f0.f1 (h + 1)⟩)) ∧ qab (WInv w wr_ gb gf ge #[.slice (some ad) l0.length c0, .slice A1 l1.length c1, v2, .int .i64 wp] #[.int .i64 (qaj l0 n).f0.f0, .int .i64 (qaj l0 n).f0.f1] (.slice A0_ (wList (fun h x => leastV l0 l1 wp n h x) (qaj l0 n).f0.f0 l1.length).length q0) (.slice A1_ (wList (fun h x => greatestV l0 l1 wp n h x) (qaj l0 n).f0.f1 l1.length).length q1) (wList (fun h x => leastV l0 l1 wp n h x) (qaj l0 n).f0.f0 l1.length) (wList (fun h x => greatestV l0 l1 wp n h x) (qaj l0 n).f0.f1 l1.length))) (fun _ s _ => l1.length - (intOf s).toNat)
   case atStart => exact ⟨0, by omega, rfl, ⟨Kd.R_nil _ _ _ _ _⟩, HI⟩
   case round =>
    clear HI
    obtain ⟨j, hj, rfl, HO, HI⟩ := hrel
    by_cases hlt : j < l1.length
    ·
     have hj1 : (j : Int) < l1.length := by omega
     have hl0_ := wList_length (fun h x => leastV l0 l1 wp n h x) (qaj l0 n).f0.f0 l1.length
     have hl1_ := wList_length (fun h x => greatestV l0 l1 wp n h x) (qaj l0 n).f0.f1 l1.length
     have hx0 := rd_wList (fun h x => leastV l0 l1 wp n h x) (qaj l0 n).f0.f0 l1.length j hlt
     have hx1 := rd_wList (fun h x => greatestV l0 l1 wp n h x) (qaj l0 n).f0.f1 l1.length j hlt
     have HX0 := qab.mk hx0
     have HX1 := qab.mk hx1
     clear hx0 hx1
     generalize hlo : (wList (fun h x => leastV l0 l1 wp n h x) (qaj l0 n).f0.f0 l1.length) = lo at *
     generalize hhi : (wList (fun h x => greatestV l0 l1 wp n h x) (qaj l0 n).f0.f1 l1.length) = hi at *
     clear hlo hhi
     have jl0 : (j : Int) < lo.length := by omega
     have jl1 : (j : Int) < hi.length := by omega
     obtain ⟨ad0, e0, hy0⟩ := Kd.at_int (Kd.R_reads' HI.out.2.2.2.1).2.2 j (by omega) (by omega)
     obtain ⟨ad1, e1, hy1⟩ := Kd.at_int (Kd.R_reads' HI.out.2.2.2.2.1).2.2 j (by omega) (by omega)
     cases e0
     cases e1
     clear hy0 hy1 hl0_ hl1_
     have keepL : qab (∀ W, WInv w W gb gf ge #[.slice (some ad) l0.length c0, .slice A1 l1.length c1, v2, .int .i64 wp] #[.int .i64 (qaj l0 n).f0.f0, .int .i64 (qaj l0 n).f0.f1] (.slice (some ad0) lo.length q0) (.slice (some ad1) hi.length q1) lo hi → W.cell? ⟨ge, 0, none⟩ = some (.slice (some ad0) lo.length q0) ∧ W.cell? ⟨ge, 1, none⟩ = some (.slice (some ad1) hi.length q1) ∧ W.cell? (ad0.add j) = some (.int .i64 (rd lo j)) ∧ W.cell? (ad1.add j) = some (.int .i64 (rd hi j)) ∧ qab (WInv w W gb gf ge #[.slice (some ad) l0.length c0, .slice A1 l1.length c1, v2, .int .i64 wp] #[.int .i64 (qaj l0 n).f0.f0, .int .i64 (qaj l0 n).f0.f1] (.slice (some ad0) lo.length q0) (.slice (some ad1) hi.length q1) lo hi)) := ⟨by
      intro W h
      obtain ⟨ad0', e0, hy0⟩ := Kd.at_int (Kd.R_reads' h.2.2.2.1).2.2 j (by omega) (by omega)
      obtain ⟨ad1', e1, hy1⟩ := Kd.at_int (Kd.R_reads' h.2.2.2.2.1).2.2 j (by omega) (by omega)
      cases e0
      cases e1
      exact ⟨(qaa h.2.2.1 0).trans rfl, (qaa h.2.2.1 1).trans rfl, hy0, hy1, ⟨h⟩⟩⟩
     go_wp2_with fail
     go_region_held3 (fun w' => w'.cell? ⟨ge, 0, none⟩ = some (.slice (some ad0) lo.length q0) ∧ w'.cell? ⟨ge, 1, none⟩ = some (.slice (some ad1) hi.length q1) ∧ w'.cell? (ad0.add j) = some (.int .i64 (rd lo j)) ∧ w'.cell? (ad1.add j) = some (.int .i64 (rd hi j)) ∧ qab (WInv w w' gb gf ge #[.slice (some ad) l0.length c0, .slice A1 l1.length c1, v2, .int .i64 wp] #[.int .i64 (qaj l0 n).f0.f0, .int .i64 (qaj l0 n).f0.f1] (.slice (some ad0) lo.length q0) (.slice (some ad1) hi.length q1) lo hi))
      (first | exact keepL.out _ HI7.out | exact keepL.out _ (HI.out.below (below_drew (Below.refl _ _))) | exact keepL.out _ (HI.out.below (below_drew ((Below.refl _ _).alloc (Nat.le_refl _) _))))
      ((refine Kd.R_append_step k37 (w0 := w) (W := wr.drew) w.heap.size (by rfl) (.tmp 72) (.tmp 84) 23 37 (.agg #[.int .i64 0, .int .i64 0]) 16 (by rfl) Try.underlying23 info37 rfl (by decide) (by omega) u11 _ (⟨rd lo j, rd hi j⟩ : S37) [.int .i64 (rd lo j), .int .i64 (rd hi j)] (fun _ => True) (fun _ => False) (by rfl) (by rfl) (k37_mkM _ _ _ _) (fun _ hk => hk.elim) (fun _ _ => trivial) (Kd.R_drew HO.out) (below_drew HI.out.2.2.2.2.2.1) HI.out.2.2.2.2.2.1.size (by simp; omega) ?_; intro v7 w7 ho hB hg hat; obtain ⟨A7, n7, c7, rfl⟩ := R_shape ho; have HI7 := qab.mk (WInv.grown37 (HI.out.below (below_drew (Below.refl _ _))) (Kd.R_drew HO.out) hg hB)))
     go_wp2
     go_roundw
     case rel =>
      have ho2 : Kd.R k37 37 w7 w.heap.size (fun _ => True) (.slice A7 n7 c7) ((List.range (j + 1)).map fun h => ⟨wAt (fun h x => leastV l0 l1 wp n h x) (qaj l0 n).f0.f0 (h + 1), wAt (fun h x => greatestV l0 l1 wp n h x) (qaj l0 n).f0.f1 (h + 1)⟩) := by
       rw [List.range_succ, List.map_append, List.map_singleton, ← HX0.out, ← HX1.out]
       exact ho
      first | exact ⟨j + 1, by omega, by go_num, ⟨ho2⟩, HI7⟩ | ((repeat apply Exists.intro); exact ⟨⟨j + 1, by omega, by go_num, ⟨ho2⟩, HI7⟩, rfl⟩)
     case measure => simp [intOf]; omega
    ·
     obtain rfl : j = l1.length := by omega
     go_wp2_with fail
     go_ret
     exact ⟨_, rfl, HO.out, HI.out.2.2.2.2.2.1⟩
end Go.Proofs.Ytipphcjgdebecaa.PA
namespace Go.Proofs.Ytipphcjgdebecaa.PA
open Go.RowKit Go.Proofs.YtipphcjgdebecaaW.PrintWords Go.Proofs.YtipphcjgdebecaaW.PrintLast Go.Proofs.YtipphcjgdebecaaW.PrintMore
attribute [local go_sem] qas qau max_two min_two qao qap qat qav
attribute [local go_sem] Oper.semAt_some
def qaq (f : Int) : Nat → List Int
 | 0 => []
 | k + 1 => if bitB f k then qaq f k ++ [(k : Int)] else qaq f k
theorem loopsOf_yes (f : Int) (k : Nat) (h : bitB f k = true) : qaq f (k + 1) = qaq f k ++ [(k : Int)] := by rw [qaq, if_pos h]
theorem loopsOf_no (f : Int) (k : Nat) (h : bitB f k = false) : qaq f (k + 1) = qaq f k := by rw [qaq, if_neg (by simp [h])]
theorem loopsOf_pre (f : Int) (k n : Nat) (h : k ≤ n) : qaq f k <+: qaq f n := by
 induction n with
 | zero =>
  obtain rfl : k = 0 := by omega
  exact List.prefix_refl _
 | succ n ih =>
  rcases Nat.lt_or_ge k (n + 1) with hk | hk
  ·
   refine (ih (by omega)).trans ?_
   cases hb : bitB f n
   ·
    rw [loopsOf_no f n hb]; exact List.prefix_refl _
   ·
    rw [loopsOf_yes f n hb]; exact List.prefix_append _ _
  ·
   obtain rfl : k = n + 1 := by omega
   exact List.prefix_refl _
theorem loopsOf_lt (f : Int) (k : Nat) (hk : k < 5) (h : bitB f k = true) : (qaq f k).length < (qaq f 5).length := by
 have h1 := (loopsOf_pre f (k + 1) 5 (by omega)).length_le
 rw [loopsOf_yes f k h] at h1
 simp at h1
 omega
def KeptAt (Bn : Nat) (A B : World) : Prop := B.heap[Bn]? = A.heap[Bn]?
theorem loops1_in (F : Fence) (n : Nat) (h6 : F.fn 97) (hro : F.round = none) (hn : 1 ≤ n) (l Bn : Nat) (f : Int) (h0f : 0 ≤ f) (J Jx : List Int → World → Prop)
  (hY : ∀ pre x W, x ∈ qaq f 5 → J pre W → pre.length < (qaq f 5).length → YieldAt F (n - 1) Try.prog l #[.int .i64 x] W fun e W' =>
   (e = .returned (.bool true) ∧ J (pre ++ [x]) W' ∧ KeptAt Bn W W') ∨ (e = .returned (.bool false) ∧ Jx (pre ++ [x]) W'))
  (W : World) (hBn : W.heap[Bn]? = some (.cells #[.int .i64 f] 3 (0, 0))) (h0 : J [] W) :
  CallsIn F n Try.prog 97 #[.func (.yield l) #[] #[], .pointer (some ⟨Bn, 0, none⟩)] W fun e W' => (∃ v, e = .returned v) ∧
   ((∃ ys, ys = qaq f 5 ∧ J ys W') ∨ (∃ pre, pre <+: qaq f 5 ∧ Jx pre W')) := by
 refine callsIn_of_wp Try.func97 rfl h6 ?_ hro
 simp only [Try.ntmps97, List.size_toArray, List.length_cons, List.length_nil, Nat.reduceAdd, Nat.reduceSub, Array.replicate_succ, Array.replicate_zero, List.push_toArray, List.append_toArray, List.nil_append, List.cons_append]
 gi_wp2
 gi_loopw [4] (fun s wr => ∃ (k : Nat), k ≤ 5 ∧ s = .int .i64 k ∧ qab (wr.heap[Bn]? = some (.cells #[.int .i64 f] 3 (0, 0))) ∧ qab (J (qaq f k) wr))
  (fun s _ => 5 - (intOf s).toNat)
 case atStart =>
  exact ⟨0, by omega, rfl, ⟨hBn⟩, ⟨h0⟩⟩
 case round =>
  obtain ⟨k, hk, rfl, BK, HJ⟩ := hrel
  have hc : wr.cell? ⟨Bn, 0, none⟩ = some (.int .i64 f) := (qaa BK.out 0).trans rfl
  by_cases hlt : k < 5
  ·
   cases hb : bitB f k with
   | false =>
    have hb1 : (bits .and .i64 (f / 2 ^ k) 1 == 1) = false := by
     have h := hb
     unfold bitB at h
     rwa [Int.toNat_natCast, show min k 64 = k from by omega] at h
    have HB1 := qab.mk hb
    clear hb
    gi_wp2
    refine ⟨fun _ h => (by cases h), ?_⟩
    gi_wp2
    go_roundw
    case rel => exact ⟨k + 1, by omega, by go_num, BK, ⟨by rw [loopsOf_no f k HB1.out]; exact HJ.out⟩⟩
    case measure => simp [intOf]; omega
   | true =>
    have hb1 : (bits .and .i64 (f / 2 ^ k) 1 == 1) = true := by
     have h := hb
     unfold bitB at h
     rwa [Int.toNat_natCast, show min k 64 = k from by omega] at h
    have HB1 := qab.mk hb
    clear hb
    obtain ⟨fn, tmps, assign, body, hy, hR⟩ := hY (qaq f k) k wr ((loopsOf_pre f (k + 1) 5 (by omega)).subset (by rw [loopsOf_yes f k HB1.out]; simp)) HJ.out (loopsOf_lt f k hlt HB1.out)
    gi_wp2
    try rw [hy]
    refine hR.mono ?_
    rintro e W3 (⟨rfl, hJ3, hk3⟩ | ⟨rfl, hJx3⟩)
    ·
     have BK3 := qab.mk (Eq.trans hk3 BK.out)
     have HJ3 := qab.mk hJ3
     clear hJ3 hk3
     gi_wp2
     go_roundw
     case rel => exact ⟨k + 1, by omega, by go_num, BK3, ⟨by rw [loopsOf_yes f k HB1.out]; exact HJ3.out⟩⟩
     case measure => simp [intOf]; omega
    ·
     have HJ3 := qab.mk hJx3
     clear hJx3
     gi_wp2
     refine bodyPost_ret (results_none rfl _ _ _) rfl ?_
     exact ⟨⟨_, rfl⟩, .inr ⟨qaq f k ++ [(k : Int)], by rw [← loopsOf_yes f k HB1.out]; exact loopsOf_pre f (k + 1) 5 (by omega), HJ3.out⟩⟩
  ·
   obtain rfl : k = 5 := by omega
   gi_wp2
   go_end0
   exact ⟨⟨_, rfl⟩, .inl ⟨_, rfl, HJ.out⟩⟩
end Go.Proofs.Ytipphcjgdebecaa.PA
namespace Go.Proofs.Ytipphcjgdebecaa.PA
open Go.RowKit Go.Proofs.YtipphcjgdebecaaW.PrintWords Go.Proofs.YtipphcjgdebecaaW.PrintLast Go.Proofs.YtipphcjgdebecaaW.PrintMore
attribute [local go_sem] qas qau max_two min_two qao qap qat qav
structure Sp where
 p : Int
 h : Int
 r : Int
 deriving DecidableEq
def spV (s : Sp) : Value := .agg #[.int .i64 s.p, .int .i64 s.h, .int .i64 s.r]
def hourV (l0 : List S39) (l2 : List (List Int)) (s : Sp) (i : Int) : Int := wrap64 (wrap64 (s.h + rd (rd_L1 l2 s.p) (i + 1)) + (qaj l0 i).f7.f1)
def nextV (l0 : List S39) (l2 : List (List Int)) (s : Sp) (i : Int) : Sp := ⟨i + 1, hourV l0 l2 s i, bits .andNot .i64 s.r (wrap64 (2 ^ i.toNat))⟩
theorem spV_eq (p h r : Int) : spV ⟨p, h, r⟩ = .agg #[.int .i64 p, .int .i64 h, .int .i64 r] := rfl
theorem lateIface (i : Int) (W : World) : (Instr.makeInterface 137 (.agg #[.int .i64 i])).run Try.prog W = .ok (.iface 137 (.agg #[.int .i64 i])) W := by kernel_rfl
theorem repairs_calls (A0 : Option Addr) (c0 : Nat) (l0 : List S39) (v1 : Value) (A2 : Option Addr) (c2 : Nat) (l2 : List (List Int)) (wp : Int) (s : Sp) (i : Int) (A3 : Option Addr) (c3 : Nat) (D : List Int) (w : World)
  (hr0 : Kd.C k39 w A0 l0.length l0) (hr2 : Kd.C (Kd.slice 3 (Kd.int .i64)) w A2 l2.length l2) (hr3 : Kd.C (Kd.int .i64) w A3 D.length D)
  (p0 : 0 ≤ s.p) (p1 : s.p < l2.length) (i0 : 0 ≤ i) (i1 : i < l0.length) (i2 : i + 1 < (rd_L1 l2 s.p).length) (i3 : i < D.length) (i4 : i < 60) :
  Calls Try.prog 104 #[.agg #[.slice A0 l0.length c0, v1, .slice A2 l2.length c2, .int .i64 wp], spV s, .int .i64 i, .slice A3 D.length c3] w fun e w' =>
   (if hourV l0 l2 s i > rd D i then e = .panicked [{ v := .iface 137 (.agg #[.int .i64 i]), recovered := false }] else e = .returned (.tuple #[spV (nextV l0 l2 s i), .int .i64 (wrap64 (rd D i - hourV l0 l2 s i))])) ∧ Below w.heap.size w w' := by
 have hu26 := Try.underlying26
 have hu99 := Try.underlying99
 have hu39 := Try.underlying39
 have hu37 := Try.underlying37
 have hu123 := Try.underlying123
 have hli := lateIface
 obtain ⟨p, h, r⟩ := s
 dsimp only at p0 p1 i2
 obtain ⟨ad, e, hl0, hl1, hl2, hl3, hl4, hl5, hl6, hl7, hl8, hl9, hl10, hl11⟩ := at_T39 hr0 i i0 i1
 cases e
 clear hl0 hl1 hl2 hl3 hl4 hl5 hl6 hl7 hl8 hl9 hl10
 obtain ⟨ad2, A4, c4, e, hrow, hl4, hC⟩ := at_L1 hr2 p p0 p1
 cases e
 obtain ⟨ad4, e, hx⟩ := Kd.at_int hC (i + 1) (by omega) i2
 cases e
 obtain ⟨ad3, e, hd⟩ := Kd.at_int hr3 i i0 i3
 cases e
 clear hC hr0 hr2 hr3
 obtain ⟨n, rfl⟩ := Int.eq_ofNat_of_zero_le i0
 obtain ⟨m, rfl⟩ := Int.eq_ofNat_of_zero_le p0
 simp only [Int.toNat_natCast] at hl11 hrow hd
 obtain ⟨row, hrw⟩ : ∃ row, row = rd_L1 l2 m := ⟨_, rfl⟩
 obtain ⟨hV, hVe⟩ : ∃ hV, hV = hourV l0 l2 ⟨m, h, r⟩ n := ⟨_, rfl⟩
 have HV := qab.mk hVe
 unfold hourV at hVe
 dsimp only at hVe
 rw [← hrw] at hrow hx hl4 i2 hVe
 have HB := qab.mk (Below.refl w.heap.size w)
 have hx1 : w.cell? ⟨ad4.block, ad4.off + (n + 1), none⟩ = some (.int .i64 (rd row (n + 1))) := by show w.cell? (ad4.add (n + 1)) = _; rw [show (n + 1 : Nat) = ((n : Int) + 1).toNat from by omega]; exact hx
 clear hx
 have hw1 : IntKind.i64.wrap ((n : Int) + 1) = (n : Int) + 1 := by rw [i64_w]; unfold wrap64; omega
 have hw2 : (0 : Int) ≤ (n : Int) + 1 := by omega
 by_cases hlate : hV > rd D n
 ·
  rw [← HV.out]
  simp only [if_pos hlate]
  simp only [spV_eq]
  have hlt : hV > rd D n := hlate
  clear hlate
  have H2 := qab.mk hrw
  clear hrw
  go_enter Try.func104, Try.ntmps104
  go_wp2_with (first | ((with_reducible refine qam (N := 4) rfl ?_); refine qal ?hg (N := 4) ?hd (cs := #[.slice (some ad) l0.length c0, v1, .slice (some ad2) l2.length c2, .int .i64 wp]) (t := 99) ?hr ?_; (case hd => rfl); (case hg => rfl); (case hr => first | (go_simp; done) | (go_simp; rfl)); intro gb hg_gb w2 hbox hb; have BKgb := qab.mk hbox; have n_HB := qab.mk (qad HB.out hb); have GEgb : w.heap.size ≤ gb := (by rw [hg_gb]; exact HB.out.size); clear HB; have HB := n_HB; clear n_HB; obtain ⟨hfgb, hcgb_0, hcgb_1, hcgb_2, hcgb_3⟩ := qz4 BKgb.out; clear hbox hb hg_gb) | ((with_reducible refine qam (N := 5) rfl ?_); refine qal ?hg (N := 5) ?hd (cs := #[.int .i64 m, .int .i64 h, .int .i64 r]) (t := 123) ?hr ?_; (case hd => rfl); (case hg => rfl); (case hr => first | (go_simp; done) | (go_simp; rfl)); intro gs hg_gs w3 hbox hb; have BKgs := qab.mk hbox; replace BKgb := qab.mk (qae BKgb.out hb); have n_HB := qab.mk (qad HB.out hb); have GEgs : w.heap.size ≤ gs := (by rw [hg_gs]; exact HB.out.size); clear HB; have HB := n_HB; clear n_HB; obtain ⟨hfgs, hcgs_0, hcgs_1, hcgs_2⟩ := qz3 BKgs.out; clear hbox hb hg_gs))
  clear hfgb hcgb_0 hcgb_1 hcgb_2 hcgb_3 hfgs hcgs_0 hcgs_1 hcgs_2
  have hbk := blk_new w3 (.cells #[.int .i64 0, .int .i64 0, .int .i64 0] 123); have hb : Below w3.heap.size w3 (w3.alloc (.cells #[.int .i64 0, .int .i64 0, .int .i64 0] 123)) := (Below.refl _ _).alloc (Nat.le_refl _) _; generalize hw_ : (w3.alloc (.cells #[.int .i64 0, .int .i64 0, .int .i64 0] 123)) = w4 at hbk hb ⊢; clear hw_; replace BKgb := qab.mk (qae BKgb.out hb); replace BKgs := qab.mk (qae BKgs.out hb); have GEgr : w.heap.size ≤ w3.heap.size := HB.out.size; replace HB := qab.mk (qad HB.out hb); clear hb; generalize hg_ : w3.heap.size = gr at hbk GEgr ⊢; clear hg_; have BKgr := qab.mk hbk; clear hbk; obtain ⟨hfgr, hcgr_0, hcgr_1, hcgr_2⟩ := qz3 BKgr.out; obtain ⟨hfgb, hcgb_0, hcgb_1, hcgb_2, hcgb_3⟩ := qz4 BKgb.out; obtain ⟨hfgs, hcgs_0, hcgs_1, hcgs_2⟩ := qz3 BKgs.out; replace hl11 := (HB.out.cell (World.block_lt_of_cell? w _ hl11)).trans hl11; replace hrow := (HB.out.cell (World.block_lt_of_cell? w _ hrow)).trans hrow; replace hd := (HB.out.cell (World.block_lt_of_cell? w _ hd)).trans hd; replace hx1 := (HB.out.cell (World.block_lt_of_cell? w _ hx1)).trans hx1
  have ne0 := World.new_ne w4 _ hl11
  have ne1 := World.new_ne w4 _ hrow
  have ne2 := World.new_ne w4 _ hd
  have ne3 := World.new_ne w4 _ hx1
  clear BKgb BKgs BKgr
  go_region_held3 (fun w' => w'.cell? ⟨gb, 0, none⟩ = some (.slice (some ad) l0.length c0) ∧ w'.cell? ⟨gb, 2, none⟩ = some (.slice (some ad2) l2.length c2) ∧ w'.cell? ⟨gs, 0, none⟩ = some (.int .i64 m) ∧ w'.cell? ⟨gs, 1, none⟩ = some (.int .i64 h) ∧ w'.cell? ⟨(ad.add (n * 12)).block, (ad.add (n * 12)).off + 11, none⟩ = some (.int .i64 (qaj l0 n).f7.f1) ∧ w'.cell? (ad2.add m) = some (.slice (some ad4) row.length c4) ∧ w'.cell? ⟨ad4.block, ad4.off + (n + 1), none⟩ = some (.int .i64 (rd row (n + 1))))
   (go_keep)
   ((fail))
  rename_i hHeld
  clear hHeld
  simp only [Exit.then]
  have hlt2 : wrap64 (wrap64 (h + rd row (n + 1)) + (qaj l0 n).f7.f1) > rd D n := by rw [← hVe]; exact hlt
  go_wp2_with fail
  exact ⟨rfl, rfl, below_drew HB.out⟩
 ·
  rw [← HV.out]
  simp only [if_neg hlate, nextV]
  rw [← HV.out]
  simp only [spV_eq]
  have hlt : ¬ hV > rd D n := hlate
  clear hlate
  have H2 := qab.mk hrw
  clear hrw
  go_enter Try.func104, Try.ntmps104
  go_wp2_with (first | ((with_reducible refine qam (N := 4) rfl ?_); refine qal ?hg (N := 4) ?hd (cs := #[.slice (some ad) l0.length c0, v1, .slice (some ad2) l2.length c2, .int .i64 wp]) (t := 99) ?hr ?_; (case hd => rfl); (case hg => rfl); (case hr => first | (go_simp; done) | (go_simp; rfl)); intro gb hg_gb w2 hbox hb; have BKgb := qab.mk hbox; have n_HB := qab.mk (qad HB.out hb); have GEgb : w.heap.size ≤ gb := (by rw [hg_gb]; exact HB.out.size); clear HB; have HB := n_HB; clear n_HB; obtain ⟨hfgb, hcgb_0, hcgb_1, hcgb_2, hcgb_3⟩ := qz4 BKgb.out; clear hbox hb hg_gb) | ((with_reducible refine qam (N := 5) rfl ?_); refine qal ?hg (N := 5) ?hd (cs := #[.int .i64 m, .int .i64 h, .int .i64 r]) (t := 123) ?hr ?_; (case hd => rfl); (case hg => rfl); (case hr => first | (go_simp; done) | (go_simp; rfl)); intro gs hg_gs w3 hbox hb; have BKgs := qab.mk hbox; replace BKgb := qab.mk (qae BKgb.out hb); have n_HB := qab.mk (qad HB.out hb); have GEgs : w.heap.size ≤ gs := (by rw [hg_gs]; exact HB.out.size); clear HB; have HB := n_HB; clear n_HB; obtain ⟨hfgs, hcgs_0, hcgs_1, hcgs_2⟩ := qz3 BKgs.out; clear hbox hb hg_gs))
  clear hfgb hcgb_0 hcgb_1 hcgb_2 hcgb_3 hfgs hcgs_0 hcgs_1 hcgs_2
  have lt3 : (ad3.add n).block < w.heap.size := World.block_lt_of_cell? w _ hd
  have ltg := blk_lt BKgs.out
  have hbk := blk_new w3 (.cells #[.int .i64 0, .int .i64 0, .int .i64 0] 123); have hb : Below w3.heap.size w3 (w3.alloc (.cells #[.int .i64 0, .int .i64 0, .int .i64 0] 123)) := (Below.refl _ _).alloc (Nat.le_refl _) _; generalize hw_ : (w3.alloc (.cells #[.int .i64 0, .int .i64 0, .int .i64 0] 123)) = w4 at hbk hb ⊢; clear hw_; replace BKgb := qab.mk (qae BKgb.out hb); replace BKgs := qab.mk (qae BKgs.out hb); have GEgr : w.heap.size ≤ w3.heap.size := HB.out.size; replace HB := qab.mk (qad HB.out hb); clear hb; generalize hg_ : w3.heap.size = gr at hbk GEgr ⊢; have EQgr := qab.mk hg_; clear hg_; have BKgr := qab.mk hbk; clear hbk; obtain ⟨hfgr, hcgr_0, hcgr_1, hcgr_2⟩ := qz3 BKgr.out; obtain ⟨hfgb, hcgb_0, hcgb_1, hcgb_2, hcgb_3⟩ := qz4 BKgb.out; obtain ⟨hfgs, hcgs_0, hcgs_1, hcgs_2⟩ := qz3 BKgs.out; replace hl11 := (HB.out.cell (World.block_lt_of_cell? w _ hl11)).trans hl11; replace hrow := (HB.out.cell (World.block_lt_of_cell? w _ hrow)).trans hrow; replace hd := (HB.out.cell (World.block_lt_of_cell? w _ hd)).trans hd; replace hx1 := (HB.out.cell (World.block_lt_of_cell? w _ hx1)).trans hx1
  have ne9 : gr ≠ (ad3.add n).block := by omega
  have ne8 : gr ≠ gs := by have := EQgr.out; omega
  have ne8s := ne8.symm
  have ne9s := ne9.symm
  have ne0 := World.new_ne w4 _ hl11
  have ne1 := World.new_ne w4 _ hrow
  have ne2 := World.new_ne w4 _ hd
  have ne3 := World.new_ne w4 _ hx1
  go_region_held3 (fun w' => w'.cell? ⟨gb, 0, none⟩ = some (.slice (some ad) l0.length c0) ∧ w'.cell? ⟨gb, 2, none⟩ = some (.slice (some ad2) l2.length c2) ∧ w'.cell? ⟨gs, 0, none⟩ = some (.int .i64 m) ∧ w'.cell? ⟨gs, 1, none⟩ = some (.int .i64 h) ∧ w'.cell? ⟨(ad.add (n * 12)).block, (ad.add (n * 12)).off + 11, none⟩ = some (.int .i64 (qaj l0 n).f7.f1) ∧ w'.cell? (ad2.add m) = some (.slice (some ad4) row.length c4) ∧ w'.cell? ⟨ad4.block, ad4.off + (n + 1), none⟩ = some (.int .i64 (rd row (n + 1))))
   (go_keep)
   ((fail))
  rename_i hHeld
  clear hHeld
  simp only [Exit.then]
  have hlt2 : ¬ wrap64 (wrap64 (h + rd row (n + 1)) + (qaj l0 n).f7.f1) > rd D n := by rw [← hVe]; omega
  go_wp2_with fail
  go_region_held3 (fun w' => w'.cell? ⟨gs, 2, none⟩ = some (.int .i64 r) ∧ w'.cell? (ad3.add n) = some (.int .i64 (rd D n)))
   (go_keep)
   ((fail))
  rename_i hHeld2
  clear hHeld2
  simp only [Exit.then]
  go_wp2_with fail
  refine bodyPost_ret (results_ct rfl _ _ gr 123 _ (0, 0) _ rfl (by first | exact blk_drew (blk_set (blk_set (blk_set BKgr.out 0 _) 1 _) 2 _) | exact blk_set (blk_set (blk_set BKgr.out 0 _) 1 _) 2 _) hu123 rfl (by kernel_rfl)) rfl ?_
  refine ⟨?_, ?_⟩
  ·
   simp only [i64_w, hVe, hw1]
   rfl
  ·
   exact below_drew (below_drew (qai (qai (qai HB.out (by omega)) (by omega)) (by omega)))
theorem ta137 (v : Value) (W : World) : (Instr.typeAssert (.iface 137 v) 20 137 true).run Try.prog W = .ok (.tuple #[v, .bool true]) W := by
 have h := Try.underlying137
 simp [Instr.typeAssert, go_sem, h]
theorem repaired1_late (g : Nat) (x : Bool) (i : Int) (w : World) (hb : w.heap[g]? = some (.cells #[.bool x] 4 (0, 0))) :
  CallsD Try.prog 103 #[.pointer (some ⟨g, 0, none⟩)] (.panicking ({ v := .iface 137 (.agg #[.int .i64 i]), recovered := false } :: [])) w fun e u' w' =>
   e = .returned (.tuple #[]) ∧ u' = .panicking ({ v := .iface 137 (.agg #[.int .i64 i]), recovered := true } :: []) ∧ w' = (w.alloc (.cells #[.int .i64 i] 137)).setCell ⟨g, 0, none⟩ (.bool false) := by
 have hta := ta137
 have hb1 := qan hb (.cells #[.int .i64 i] 137)
 have h1 : (w.alloc (.cells #[.int .i64 i] 137)).cell? ⟨g, 0, none⟩ = some (.bool x) := qaa hb1 0
 have h2 : (w.alloc (.cells #[.int .i64 i] 137)).frozen? ⟨g, 0, none⟩ = false := qac hb1 0
 clear hb hb1
 refine callsD_of_wpS Try.func103 rfl fun c₀ cs hu => ?_
 apply wpS_seq
 apply wpS_region
 simp [wpOpsS, go_sem, recoverD, hu, Try.ntmps103, Exit.thenS]
 refine wpS_of_wp ?_
 go_wp2
 cases c₀
 simp_all [bodyPostS, results, Try.results103]
theorem repaired1_idle (p : Addr) (w : World) :
  CallsD Try.prog 103 #[.pointer (some p)] .returning w fun e u' w' => e = .returned (.tuple #[]) ∧ u' = .returning ∧ w' = w := by
 refine callsD_of_wpS Try.func103 rfl fun c₀ cs hu => ?_
 apply wpS_seq
 apply wpS_region
 simp [wpOpsS, go_sem, recoverD, hu, Try.ntmps103, Exit.thenS]
 refine wpS_of_wp ?_
 go_wp2
 cases c₀
 simp_all [bodyPostS, results, Try.results103]
def repV (l0 : List S39) (l2 : List (List Int)) (D : List Int) (s : Sp) (i : Int) : Sp × Int × Bool :=
 if hourV l0 l2 s i > rd D i then (⟨0, 0, 0⟩, 0, false) else (nextV l0 l2 s i, wrap64 (rd D i - hourV l0 l2 s i), true)
theorem repaired_calls (A0 : Option Addr) (c0 : Nat) (l0 : List S39) (v1 : Value) (A2 : Option Addr) (c2 : Nat) (l2 : List (List Int)) (wp : Int) (s : Sp) (i : Int) (A3 : Option Addr) (c3 : Nat) (D : List Int) (w : World)
  (hr0 : Kd.C k39 w A0 l0.length l0) (hr2 : Kd.C (Kd.slice 3 (Kd.int .i64)) w A2 l2.length l2) (hr3 : Kd.C (Kd.int .i64) w A3 D.length D)
  (p0 : 0 ≤ s.p) (p1 : s.p < l2.length) (i0 : 0 ≤ i) (i1 : i < l0.length) (i2 : i + 1 < (rd_L1 l2 s.p).length) (i3 : i < D.length) (i4 : i < 60) :
  Calls Try.prog 92 #[.agg #[.slice A0 l0.length c0, v1, .slice A2 l2.length c2, .int .i64 wp], spV s, .int .i64 i, .slice A3 D.length c3] w fun e w' =>
   e = .returned (.tuple #[spV (repV l0 l2 D s i).1, .int .i64 (repV l0 l2 D s i).2.1, .bool (repV l0 l2 D s i).2.2]) ∧ Below w.heap.size w w' := by
 have hu26 := Try.underlying26
 have hu99 := Try.underlying99
 have hu123 := Try.underlying123
 have hmf : ∀ (fn : Fn) (first cap : Array Value) (w : World), (Instr.makeFunc fn first cap).run Try.prog w = .ok (.func fn first cap) w := fun _ _ _ _ => rfl
 have H0 := qab.mk hr0
 have H2 := qab.mk hr2
 have H3 := qab.mk hr3
 clear hr0 hr2 hr3
 have HB := qab.mk (Below.refl w.heap.size w)
 unfold repV
 obtain ⟨p, h, r⟩ := s
 simp only [spV_eq]
 dsimp only at p0 p1 i2
 by_cases hlate : hourV l0 l2 ⟨p, h, r⟩ i > rd D i
 ·
  simp only [if_pos hlate]
  have HL := qab.mk hlate
  clear hlate
  go_enter_defers Try.func92, Try.ntmps92
  go_wp2_with ((first | ((with_reducible refine qam (N := 4) rfl ?_); refine qal ?hg (N := 4) ?hd (cs := #[.slice A0 l0.length c0, v1, .slice A2 l2.length c2, .int .i64 wp]) (t := 99) ?hr ?_; (case hd => rfl); (case hg => rfl); (case hr => first | (go_simp; done) | (go_simp; rfl)); intro gb hg_gb w2 hbox hb; have BKgb := qab.mk hbox; have n_HB := qab.mk (qad HB.out hb); have GEgb : w.heap.size ≤ gb := (by rw [hg_gb]; exact HB.out.size); clear HB; have HB := n_HB; clear n_HB; clear hbox hb hg_gb) | ((with_reducible refine qam (N := 5) rfl ?_); refine qal ?hg (N := 5) ?hd (cs := #[.int .i64 p, .int .i64 h, .int .i64 r]) (t := 123) ?hr ?_; (case hd => rfl); (case hg => rfl); (case hr => first | (go_simp; done) | (go_simp; rfl)); intro gs hg_gs w3 hbox hb; have BKgs := qab.mk hbox; replace BKgb := qab.mk (qae BKgb.out hb); have n_HB := qab.mk (qad HB.out hb); have GEgs : w.heap.size ≤ gs := (by rw [hg_gs]; exact HB.out.size); clear HB; have HB := n_HB; clear n_HB; clear hbox hb hg_gs) | ((with_reducible refine qam (N := 8) rfl ?_); refine qal ?hg (N := 8) ?hd (cs := #[.int .i64 0, .int .i64 0, .int .i64 0]) (t := 123) ?hr ?_; (case hd => rfl); (case hg => rfl); (case hr => first | (go_simp; done) | (go_simp; rfl)); intro gz hg_gz w4 hbox hb; have BKgz := qab.mk hbox; replace BKgb := qab.mk (qae BKgb.out hb); replace BKgs := qab.mk (qae BKgs.out hb); have n_HB := qab.mk (qad HB.out hb); have GEgz : w.heap.size ≤ gz := (by rw [hg_gz]; exact HB.out.size); clear HB; have HB := n_HB; clear n_HB; clear hbox hb hg_gz) | ((with_reducible refine qam (N := 10) rfl ?_); refine qal ?hg (N := 10) ?hd (cs := #[.bool false]) (t := 4) ?hr ?_; (case hd => rfl); (case hg => rfl); (case hr => first | (go_simp; done) | (go_simp; rfl)); intro gi hg_gi w5 hbox hb; have BKgi := qab.mk hbox; replace BKgb := qab.mk (qae BKgb.out hb); replace BKgs := qab.mk (qae BKgs.out hb); replace BKgz := qab.mk (qae BKgz.out hb); have n_HB := qab.mk (qad HB.out hb); have GEgi : w.heap.size ≤ gi := (by rw [hg_gi]; exact HB.out.size); clear HB; have HB := n_HB; clear n_HB; clear hbox hb hg_gi; obtain ⟨hfgb, hcgb_0, hcgb_1, hcgb_2, hcgb_3⟩ := qz4 BKgb.out; obtain ⟨hfgs, hcgs_0, hcgs_1, hcgs_2⟩ := qz3 BKgs.out; obtain ⟨hfgz, hcgz_0, hcgz_1, hcgz_2⟩ := qz3 BKgz.out; obtain ⟨hfgi, hcgi_0⟩ := qz1 BKgi.out)))
  refine (repairs_calls _ _ _ _ _ _ _ _ ⟨p, h, r⟩ i _ _ D w5 (Kd.qak H0.out HB.out) (Kd.qak H2.out HB.out) (Kd.qak H3.out HB.out) p0 p1 i0 i1 i2 i3 i4).mono ?_
  rintro e w6 ⟨he, hb⟩
  rw [if_pos HL.out] at he
  subst he
  clear hfgb hcgb_0 hcgb_1 hcgb_2 hcgb_3 hfgs hcgs_0 hcgs_1 hcgs_2 hfgz hcgz_0 hcgz_1 hcgz_2 hfgi hcgi_0
  replace BKgb := qab.mk (qae BKgb.out hb); replace BKgs := qab.mk (qae BKgs.out hb); replace BKgz := qab.mk (qae BKgz.out hb); replace BKgi := qab.mk (qae BKgi.out hb); replace HB := qab.mk (qad HB.out hb); clear hb
  try dsimp only
  refine leaves_cons (f := 103) (args := #[.pointer (some ⟨gi, 0, none⟩)]) (by simp) (by simp [go_sem]) ?_
  refine (repaired1_late gi false i w6 BKgi.out).mono ?_
  rintro e u' w'' ⟨rfl, rfl, rfl⟩
  have B1 := blk_far (p := ⟨gi, 0, none⟩) (qan BKgz.out (.cells #[.int .i64 i] 137)) (blk_ne BKgz.out BKgi.out (by decide)) (.bool false)
  have B2 := blk_set (qan BKgi.out (.cells #[.int .i64 i] 137)) 0 (.bool false)
  have B3 := qai (j := 0) (v := .bool false) (HB.out.alloc HB.out.size (.cells #[.int .i64 i] 137)) GEgi
  generalize (w6.alloc (.cells #[.int .i64 i] 137)).setCell ⟨gi, 0, none⟩ (.bool false) = w7 at B1 B2 B3 ⊢
  have z0 : w7.cell? ⟨gz, 0, none⟩ = some (.int .i64 0) := qaa B1 0
  have z1 : w7.cell? ⟨gz, 1, none⟩ = some (.int .i64 0) := qaa B1 1
  have z2 : w7.cell? ⟨gz, 2, none⟩ = some (.int .i64 0) := qaa B1 2
  have z3 : w7.cell? ⟨gi, 0, none⟩ = some (.bool false) := qaa B2 0
  simp [Leaves, settle, results, Try.results92, go_sem, z0, z1, z2, z3, hu123]
  exact ⟨rfl, B3⟩
 ·
  simp only [if_neg hlate]
  have HL := qab.mk hlate
  clear hlate
  go_enter_defers Try.func92, Try.ntmps92
  go_wp2_with ((first | ((with_reducible refine qam (N := 4) rfl ?_); refine qal ?hg (N := 4) ?hd (cs := #[.slice A0 l0.length c0, v1, .slice A2 l2.length c2, .int .i64 wp]) (t := 99) ?hr ?_; (case hd => rfl); (case hg => rfl); (case hr => first | (go_simp; done) | (go_simp; rfl)); intro gb hg_gb w2 hbox hb; have BKgb := qab.mk hbox; have n_HB := qab.mk (qad HB.out hb); have GEgb : w.heap.size ≤ gb := (by rw [hg_gb]; exact HB.out.size); clear HB; have HB := n_HB; clear n_HB; clear hbox hb hg_gb) | ((with_reducible refine qam (N := 5) rfl ?_); refine qal ?hg (N := 5) ?hd (cs := #[.int .i64 p, .int .i64 h, .int .i64 r]) (t := 123) ?hr ?_; (case hd => rfl); (case hg => rfl); (case hr => first | (go_simp; done) | (go_simp; rfl)); intro gs hg_gs w3 hbox hb; have BKgs := qab.mk hbox; replace BKgb := qab.mk (qae BKgb.out hb); have n_HB := qab.mk (qad HB.out hb); have GEgs : w.heap.size ≤ gs := (by rw [hg_gs]; exact HB.out.size); clear HB; have HB := n_HB; clear n_HB; clear hbox hb hg_gs) | ((with_reducible refine qam (N := 8) rfl ?_); refine qal ?hg (N := 8) ?hd (cs := #[.int .i64 0, .int .i64 0, .int .i64 0]) (t := 123) ?hr ?_; (case hd => rfl); (case hg => rfl); (case hr => first | (go_simp; done) | (go_simp; rfl)); intro gz hg_gz w4 hbox hb; have BKgz := qab.mk hbox; replace BKgb := qab.mk (qae BKgb.out hb); replace BKgs := qab.mk (qae BKgs.out hb); have n_HB := qab.mk (qad HB.out hb); have GEgz : w.heap.size ≤ gz := (by rw [hg_gz]; exact HB.out.size); clear HB; have HB := n_HB; clear n_HB; clear hbox hb hg_gz) | ((with_reducible refine qam (N := 10) rfl ?_); refine qal ?hg (N := 10) ?hd (cs := #[.bool false]) (t := 4) ?hr ?_; (case hd => rfl); (case hg => rfl); (case hr => first | (go_simp; done) | (go_simp; rfl)); intro gi hg_gi w5 hbox hb; have BKgi := qab.mk hbox; replace BKgb := qab.mk (qae BKgb.out hb); replace BKgs := qab.mk (qae BKgs.out hb); replace BKgz := qab.mk (qae BKgz.out hb); have n_HB := qab.mk (qad HB.out hb); have GEgi : w.heap.size ≤ gi := (by rw [hg_gi]; exact HB.out.size); clear HB; have HB := n_HB; clear n_HB; clear hbox hb hg_gi; obtain ⟨hfgb, hcgb_0, hcgb_1, hcgb_2, hcgb_3⟩ := qz4 BKgb.out; obtain ⟨hfgs, hcgs_0, hcgs_1, hcgs_2⟩ := qz3 BKgs.out; obtain ⟨hfgz, hcgz_0, hcgz_1, hcgz_2⟩ := qz3 BKgz.out; obtain ⟨hfgi, hcgi_0⟩ := qz1 BKgi.out)))
  refine (repairs_calls _ _ _ _ _ _ _ _ ⟨p, h, r⟩ i _ _ D w5 (Kd.qak H0.out HB.out) (Kd.qak H2.out HB.out) (Kd.qak H3.out HB.out) p0 p1 i0 i1 i2 i3 i4).mono ?_
  rintro e w6 ⟨he, hb⟩
  rw [if_neg (Int.not_lt.2 HL.out)] at he
  subst he
  clear hfgb hcgb_0 hcgb_1 hcgb_2 hcgb_3 hfgs hcgs_0 hcgs_1 hcgs_2 hfgz hcgz_0 hcgz_1 hcgz_2 hfgi hcgi_0
  have nzi := blk_ne BKgz.out BKgi.out (by decide)
  replace BKgb := qab.mk (qae BKgb.out hb); replace BKgs := qab.mk (qae BKgs.out hb); replace BKgz := qab.mk (qae BKgz.out hb); replace BKgi := qab.mk (qae BKgi.out hb); replace HB := qab.mk (qad HB.out hb); clear hb
  clear BKgb BKgs
  obtain ⟨q, hq⟩ : ∃ q, nextV l0 l2 ⟨p, h, r⟩ i = q := ⟨_, rfl⟩
  rw [hq]
  have HQ := qab.mk hq
  clear hq
  obtain ⟨q0, q1, q2⟩ := q
  simp only [spV_eq]
  obtain ⟨hfgz, hcgz_0, hcgz_1, hcgz_2⟩ := qz3 BKgz.out
  obtain ⟨hfgi, hcgi_0⟩ := qz1 BKgi.out
  have nzi2 := nzi.symm
  go_wp2
  refine leaves_cons (f := 103) (args := #[.pointer (some ⟨gi, 0, none⟩)]) (by simp) (by simp [go_sem]) ?_
  refine (repaired1_idle ⟨gi, 0, none⟩ _).mono ?_
  rintro e u' w'' ⟨rfl, rfl, rfl⟩
  have B1 := blk_far (p := ⟨gi, 0, none⟩) (blk_set (blk_set (blk_set (blk_set (blk_set (blk_set BKgz.out 0 (.int .i64 q0)) 1 (.int .i64 q1)) 2 (.int .i64 q2)) 0 (.int .i64 q0)) 1 (.int .i64 q1)) 2 (.int .i64 q2)) nzi (.bool true)
  have B2 := blk_set (blk_far (p := ⟨gz, 2, none⟩) (blk_far (p := ⟨gz, 1, none⟩) (blk_far (p := ⟨gz, 0, none⟩) (blk_far (p := ⟨gz, 2, none⟩) (blk_far (p := ⟨gz, 1, none⟩) (blk_far (p := ⟨gz, 0, none⟩) BKgi.out nzi2 (.int .i64 q0)) nzi2 (.int .i64 q1)) nzi2 (.int .i64 q2)) nzi2 (.int .i64 q0)) nzi2 (.int .i64 q1)) nzi2 (.int .i64 q2)) 0 (.bool true)
  have B3 := qai (j := 0) (v := .bool true) (qai (j := 2) (v := .int .i64 q2) (qai (j := 1) (v := .int .i64 q1) (qai (j := 0) (v := .int .i64 q0) (qai (j := 2) (v := .int .i64 q2) (qai (j := 1) (v := .int .i64 q1) (qai (j := 0) (v := .int .i64 q0) HB.out GEgz) GEgz) GEgz) GEgz) GEgz) GEgz) GEgi
  dsimp only
  generalize World.setCell _ ⟨gi, 0, none⟩ (.bool true) = w7 at B1 B2 B3 ⊢
  have z0 : w7.cell? ⟨gz, 0, none⟩ = some (.int .i64 q0) := qaa B1 0
  have z1 : w7.cell? ⟨gz, 1, none⟩ = some (.int .i64 q1) := qaa B1 1
  have z2 : w7.cell? ⟨gz, 2, none⟩ = some (.int .i64 q2) := qaa B1 2
  have z3 : w7.cell? ⟨gi, 0, none⟩ = some (.bool true) := qaa B2 0
  simp [Leaves, settle, results, Try.results92, go_sem, z0, z1, z2, z3, hu123]
  exact ⟨by rw [HQ.out]; rfl, B3⟩
structure KB (T : Nat → Prop) (w w' : World) : Prop where
 os : w'.os = w.os
 tape : w'.tape = w.tape
 output : w'.output = w.output
 size : w.heap.size ≤ w'.heap.size
 block : ∀ k, k < w.heap.size → ¬ T k → w'.heap[k]? = w.heap[k]?
section
variable {T T' : Nat → Prop} {w W W2 : World} {g : Nat} {o : Obj}
theorem KB.refl (T : Nat → Prop) (w : World) : KB T w w := ⟨rfl, rfl, rfl, Nat.le_refl _, fun _ _ _ => rfl⟩
theorem KB.of_below (h : Below w.heap.size w W) (T : Nat → Prop) : KB T w W := ⟨h.os, h.tape, h.output, h.size, fun k hk _ => h.block k hk⟩
theorem KB.of_grown {row : Option Nat} (h : w.grownBy W row) : KB (fun k => row = some k) w W := ⟨h.os, h.tape, h.output, h.size, fun k hk hn => h.block k hk (fun e => hn e.symm)⟩
theorem KB.mono (h : KB T w W) (hs : ∀ k, T k → T' k) : KB T' w W := ⟨h.os, h.tape, h.output, h.size, fun k hk hn => h.block k hk (fun x => hn (hs k x))⟩
theorem KB.trans (h : KB T w W) (k : KB T' W W2) (hs : ∀ k, T' k → T k ∨ w.heap.size ≤ k) : KB T w W2 :=
 ⟨k.os.trans h.os, k.tape.trans h.tape, k.output.trans h.output, Nat.le_trans h.size k.size, fun i hi hn => (k.block i (Nat.lt_of_lt_of_le hi h.size) (fun x => (hs i x).elim hn (fun y => by omega))).trans (h.block i hi hn)⟩
theorem KB.then_below (h : KB T w W) (k : Below W.heap.size W W2) : KB T w W2 := h.trans (KB.of_below k (fun _ => False)) (fun _ x => x.elim)
theorem KB.set (h : KB T w W) {p : Addr} (hp : T p.block ∨ w.heap.size ≤ p.block) (u : Value) : KB T w (W.setCell p u) :=
 h.trans (T' := fun k => k = p.block) ⟨rfl, rfl, rfl, by simp, fun k _ hn => Below.heap_setCell W p u k hn⟩ (fun k e => e ▸ hp)
theorem KB.blk (h : KB T w W) (hb : w.heap[g]? = some o) (hn : ¬ T g) : W.heap[g]? = some o := (h.block g (blk_lt hb) hn).trans hb
theorem KB.below (h : KB T w W) {B : Nat} {u : World} (hu : Below B u w) (hB : B ≤ w.heap.size) (hn : ∀ k, T k → B ≤ k) : Below B u W :=
 ⟨h.os.trans hu.os, h.tape.trans hu.tape, h.output.trans hu.output, Nat.le_trans hu.size h.size, fun k hk => (h.block k (by omega) (fun x => by have := hn k x; omega)).trans (hu.block k hk)⟩
theorem KB.toBelow (h : KB T w W) (hn : ∀ k, T k → w.heap.size ≤ k) : Below w.heap.size w W := h.below (Below.refl _ _) (Nat.le_refl _) hn
theorem KB.from (h : KB T w W) {B : Nat} (hn : ∀ k, T k → k < B) : KeepsFrom B w W :=
 ⟨h.size, fun k o hB hk _ => (h.block k (blk_lt hk) (fun x => by have := hn k x; omega)).trans hk⟩
theorem KB.R {α : Type} {d : Kd α} {e base : Nat} {ok : Nat → Prop} {v : Value} {xs : List α} (h : KB T w W) (hr : Kd.R d e w base ok v xs) (hok : ∀ k, ok k → ¬ T k) : Kd.R d e W base ok v xs := Kd.R_step hr (fun k ho hlt => h.block k hlt (hok k ho))
end
structure Held (B : Nat) (Inv : (Nat → Prop) → World → Prop) : Prop where
 mono : ∀ A A' W, (∀ k, A' k → A k) → Inv A W → Inv A' W
 fresh : ∀ A W, Inv A W → Inv (fun k => A k ∨ W.heap.size ≤ k) W
 step : ∀ A W W', Inv A W → KB A W W' → Inv A W'
 own : ∀ A W W' row, Inv A W → W.grownBy W' row → (∀ r, row = some r → B ≤ r ∧ ∃ o : Obj, W.heap[r]? = some o ∧ o.isCells = false) → Inv A W'
theorem KeptAt.trans {Bn : Nat} {A B C : World} (h : KeptAt Bn A B) (k : KeptAt Bn B C) : KeptAt Bn A C := Eq.trans k h
abbrev LoopOf (f : Int) := { x : Int // x ∈ qaq f 5 }
theorem YieldAt_mono {F : Fence} {m : Nat} {P : Program} {l : Nat} {args : Array Value} {W : World} {R R' : Ending → World → Prop} (h : YieldAt F m P l args W R) (hr : ∀ e w, R e w → R' e w) : YieldAt F m P l args W R' := YieldAt.mono h hr
theorem loops_stops (n : Nat) (hn : 1 ≤ n) (f : Int) (h0f : 0 ≤ f) (Bn : Nat) (w : World) (hBn : w.heap[Bn]? = some (.cells #[.int .i64 f] 3 (0, 0))) :
  SeqStopsK Fence.wide n Try.prog 97 #[.pointer (some ⟨Bn, 0, none⟩)] (fun x : LoopOf f => #[.int .i64 x.1]) (KeptAt Bn) (fun xs => xs.map (·.1) = qaq f 5) (fun pre => pre.map (·.1) <+: qaq f 5) (qaq f 5).length w := by
 intro l J Jx W hW hJ hJx hY h0
 refine (loops1_in Fence.wide n trivial rfl hn l Bn f h0f (fun pre W => ∃ p : List (LoopOf f), p.map (·.1) = pre ∧ J p W) (fun pre W => ∃ p : List (LoopOf f), p.map (·.1) = pre ∧ Jx p W) ?_ W ((hW.block Bn (blk_lt hBn)).trans hBn) ⟨[], rfl, h0⟩).mono ?_
 ·
  rintro pre x W1 hx ⟨p, rfl, hp⟩ hlen
  refine YieldAt_mono (hY p ⟨x, hx⟩ W1 hp (by simpa using hlen)) ?_
  rintro e W' (⟨rfl, h1, h2⟩ | ⟨rfl, h1⟩)
  ·
   exact .inl ⟨rfl, ⟨_, by simp, h1⟩, h2⟩
  ·
   exact .inr ⟨rfl, ⟨_, by simp, h1⟩⟩
 ·
  rintro e W' ⟨hv, (⟨ys, rfl, p, hp, h1⟩ | ⟨pre, hpre, p, rfl, h1⟩)⟩
  ·
   exact ⟨hv, .inl ⟨p, hp, h1⟩⟩
  ·
   exact ⟨hv, .inr ⟨p, hpre, h1⟩⟩
end Go.Proofs.Ytipphcjgdebecaa.PA
