/- What functions of the program answer. No condition. -/
import Derived.Test.YtafkanmioinbiaaSC
import Derived.Test.YtafkanmioinbiaaSD
import Derived.Test.YtafkanmioinbiaaSE
import Derived.Test.YtafkanmioinbiaaSF
import Derived.Test.YtafkanmioinbiaaSH
import Derived.Test.YtafkanmioinbiaaSG
import Derived.Test.YtafkanmioinbiaaSK
import Derived.Test.YtafkanmioinbiaaSN
import Derived.Test.YtafkanmioinbiaaSO
import Derived.Test.YtafkanmioinbiaaSL
set_option linter.all false
set_option maxRecDepth 100000
set_option maxHeartbeats 8000000
namespace Go.Proofs.Ytafkanmioinbiaa.SA
open Go.RowKit Go.Proofs.YtafkanmioinbiaaW.PrintWords Go.Proofs.YtafkanmioinbiaaW.PrintLast Go.Proofs.YtafkanmioinbiaaW.PrintMore
attribute [local go_sem] qax qaz max_two min_two qao qap qay qba
attribute [local go_sem] Oper.semAt_some
def earlyV (l4 : List S41) (l5 : List S95) : List Int := (pourV l5 l4.length (l4.map (·.f1)) (l5.map (·.f2.f1)) (l5.map (·.f3.f0))).1
def lateV (l4 : List S41) (l5 : List S95) : List Int := (pourV l5 l4.length (l4.map (·.f0)) (l5.map (·.f2.f0)) (l5.map (·.f3.f1))).1
def drainV (p : Int) (l1 : List S44) (l2 l3 : List Int) (l4 : List S41) (l5 : List S95) : List S41 × Int :=
 if validB p l1 l2 l3 l4 l5 = true then ((List.range l5.length).map (spanAt (earlyV l4 l5) (lateV l4 l5)), 0) else ([], 2)
theorem lakeStep_len (ls : List S95) (Y : Int) (vols rooms : List Int) (thaw year : Int) (s : Pt) (i : Nat) : (lakeStep ls Y vols rooms thaw year s i).years.length = s.years.length := by
 unfold lakeStep
 split
 ·
  rfl
 ·
  rw [flowV_years]; simp
theorem yearTo_len (ls : List S95) (Y : Int) (vols rooms : List Int) (thaw year : Int) (s : Pt) : ∀ k, (yearTo ls Y vols rooms thaw year s k).years.length = s.years.length
 | 0 => rfl
 | k + 1 => by rw [yearTo_succ, lakeStep_len, yearTo_len ls Y vols rooms thaw year s k]
theorem pourTo_len (ls : List S95) (Y : Int) (ths vols rooms : List Int) : ∀ k, (pourTo ls Y ths vols rooms k).years.length = ls.length
 | 0 => by simp [pourTo]
 | k + 1 => by
  show (yearTo _ _ _ _ _ _ _ _).years.length = _
  rw [yearTo_len, pourTo_len ls Y ths vols rooms k]
theorem rd_map41 (f : S41 → Int) (l : List S41) (k : Nat) (hk : k < l.length) : rd (l.map f) k = f (rd_T41 l k) := by simp [rd, rd_T41, hk]
theorem rd_map95 (f : S95 → Int) (l : List S95) (k : Nat) (hk : k < l.length) : rd (l.map f) k = f (rd_T95 l k) := by simp [rd, rd_T95, hk]
theorem truth_most {p : Int} {l1 : List S44} {l2 l3 : List Int} {l4 : List S41} {l5 : List S95} (h : ValidF p l1 l2 l3 l4 l5) : TruthF l4 l5 (l4.map (·.f1)) (l5.map (·.f2.f1)) (l5.map (·.f3.f0)) :=
 ⟨by simp, by simp, by simp, fun k hk => by rw [rd_map41 _ _ _ hk]; have := h.s k hk; omega, fun k hk => by rw [rd_map95 _ _ _ hk]; have := h.l k hk; omega, fun k hk => by rw [rd_map95 _ _ _ hk]; have := h.l k hk; omega⟩
theorem truth_least {p : Int} {l1 : List S44} {l2 l3 : List Int} {l4 : List S41} {l5 : List S95} (h : ValidF p l1 l2 l3 l4 l5) : TruthF l4 l5 (l4.map (·.f0)) (l5.map (·.f2.f0)) (l5.map (·.f3.f1)) :=
 ⟨by simp, by simp, by simp, fun k hk => by rw [rd_map41 _ _ _ hk]; have := h.s k hk; omega, fun k hk => by rw [rd_map95 _ _ _ hk]; have := h.l k hk; omega, fun k hk => by rw [rd_map95 _ _ _ hk]; have := h.l k hk; omega⟩
def seep_Drain.f (a0_0 : Int) (l0_1 : List (S44)) (l0_2 : List Int) (l0_3 : List Int) (l0_4 : List (S41)) (l0_5 : List (S95)) : Option ((List (S41)) × Int) := some (drainV a0_0 l0_1 l0_2 l0_3 l0_4 l0_5)
theorem seep_Drain.calls (a0_0 : Int) (A0_1 : Option Addr) (c0_1 : Nat) (l0_1 : List (S44)) (A0_2 : Option Addr) (c0_2 : Nat) (l0_2 : List Int) (A0_3 : Option Addr) (c0_3 : Nat) (l0_3 : List Int) (A0_4 : Option Addr) (c0_4 : Nat) (l0_4 : List (S41)) (A0_5 : Option Addr) (c0_5 : Nat) (l0_5 : List (S95)) (r1 : List (S41)) (r2 : Int) (w : World) (hr0_1 : Kd.C k44 w A0_1 l0_1.length l0_1) (hc0_1 : l0_1.length ≤ c0_1) (hr0_2 : Kd.C (Kd.int .i64) w A0_2 l0_2.length l0_2) (hc0_2 : l0_2.length ≤ c0_2) (hr0_3 : Kd.C (Kd.int .i64) w A0_3 l0_3.length l0_3) (hc0_3 : l0_3.length ≤ c0_3) (hr0_4 : Kd.C k41 w A0_4 l0_4.length l0_4) (hc0_4 : l0_4.length ≤ c0_4) (hr0_5 : Kd.C k95 w A0_5 l0_5.length l0_5) (hc0_5 : l0_5.length ≤ c0_5) (h : seep_Drain.f a0_0 l0_1 l0_2 l0_3 l0_4 l0_5 = some (r1, r2)) :
  Calls Try.prog 45 #[.agg #[.int .i64 a0_0, .slice A0_1 l0_1.length c0_1, .slice A0_2 l0_2.length c0_2, .slice A0_3 l0_3.length c0_3, .slice A0_4 l0_4.length c0_4, .slice A0_5 l0_5.length c0_5]] w fun e w' => ∃ v0_ : Value, e = .returned (.tuple #[v0_, .int .i64 r2]) ∧ Kd.R k41 41 w' w.heap.size (fun _ => True) v0_ r1 ∧ Below w.heap.size w w' := by
 have hp : drainV a0_0 l0_1 l0_2 l0_3 l0_4 l0_5 = (r1, r2) := Option.some.inj h
 clear h
 have hu27 := Try.underlying27
 have hu123 := Try.underlying123
 have hu95 := Try.underlying95
 have hu41 := Try.underlying41
 have hu67 := Try.underlying67
 have hu70 := Try.underlying70
 have HB := qab.mk (Below.refl w.heap.size w)
 have HVAL : qab (∀ W, Below w.heap.size w W → Calls Try.prog 66 #[.agg #[.int .i64 a0_0, .slice A0_1 l0_1.length c0_1, .slice A0_2 l0_2.length c0_2, .slice A0_3 l0_3.length c0_3, .slice A0_4 l0_4.length c0_4, .slice A0_5 l0_5.length c0_5]] W fun e w' => e = .returned (.bool (validB a0_0 l0_1 l0_2 l0_3 l0_4 l0_5)) ∧ Below W.heap.size W w') := ⟨fun W hW => seep_valid.calls _ _ _ l0_1 _ _ l0_2 _ _ l0_3 _ _ l0_4 _ _ l0_5 _ W (Kd.qai hr0_1 hW) hc0_1 (Kd.qai hr0_2 hW) hc0_2 (Kd.qai hr0_3 hW) hc0_3 (Kd.qai hr0_4 hW) hc0_4 (Kd.qai hr0_5 hW) hc0_5 rfl⟩
 cases hv : validB a0_0 l0_1 l0_2 l0_3 l0_4 l0_5 with
 | false =>
  have hq : (([] : List S41), (2 : Int)) = (r1, r2) := by rw [← hp]; unfold drainV; rw [hv]; rfl
  cases hq
  rw [hv] at HVAL
  clear hp hv hr0_1 hr0_2 hr0_3 hr0_4 hr0_5
  go_enter Try.func45, Try.ntmps45
  go_wp2_with (first | ((with_reducible refine qam (N := 1) rfl ?_); refine ze 1 #[.int .i64 a0_0, .slice A0_1 l0_1.length c0_1, .slice A0_2 l0_2.length c0_2, .slice A0_3 l0_3.length c0_3, .slice A0_4 l0_4.length c0_4, .slice A0_5 l0_5.length c0_5] 27 ?_; intro gb hg_gb w2 hbox hb; have BKgb := qab.mk hbox; have n_HB := qab.mk (qae HB.out hb); have GEgb : w.heap.size ≤ gb := (by rw [hg_gb]; exact HB.out.size); clear HB; have HB := n_HB; clear n_HB; obtain ⟨hfgb, hcgb_0, hcgb_1, hcgb_2, hcgb_3, hcgb_4, hcgb_5⟩ := qz6 BKgb.out; clear hbox hb hg_gb) | (go_at_call 66; (with_reducible refine (HVAL.out _ HB.out).mono ?_); rintro e wn ⟨rfl, hb⟩; replace BKgb := qab.mk (qad BKgb.out hb); replace HB := qab.mk (qae HB.out hb); clear hb; obtain ⟨hfgb, hcgb_0, hcgb_1, hcgb_2, hcgb_3, hcgb_4, hcgb_5⟩ := qz6 BKgb.out))
  go_ret2
  exact ⟨_, rfl, Kd.R_nil _ _ _ _ _, HB.out⟩
 | true =>
  have HV := qab.mk (valid_facts hv)
  have hn4 := HV.out.n4
  have hn5 := HV.out.n5
  have hq : ((List.range l0_5.length).map (spanAt (earlyV l0_4 l0_5) (lateV l0_4 l0_5)), (0 : Int)) = (r1, r2) := by rw [← hp]; unfold drainV; rw [hv]; rfl
  obtain ⟨A, hA⟩ : ∃ A, A = earlyV l0_4 l0_5 := ⟨_, rfl⟩
  obtain ⟨B, hBE⟩ : ∃ B, B = lateV l0_4 l0_5 := ⟨_, rfl⟩
  rw [← hA, ← hBE] at hq
  obtain ⟨T1, hT1⟩ : ∃ T, T = l0_4.map (·.f1) := ⟨_, rfl⟩
  obtain ⟨T2, hT2⟩ : ∃ T, T = l0_4.map (·.f0) := ⟨_, rfl⟩
  have HMO : qab (∀ gd W, Below w.heap.size w W → W.heap[gd]? = some (.cells #[.int .i64 a0_0, .slice A0_1 l0_1.length c0_1, .slice A0_2 l0_2.length c0_2, .slice A0_3 l0_3.length c0_3, .slice A0_4 l0_4.length c0_4, .slice A0_5 l0_5.length c0_5, .int .i64 0] 123 (0, 0)) → Calls Try.prog 58 #[.pointer (some ⟨gd, 0, none⟩)] W fun e w' => ∃ v, e = .returned v ∧ Kd.R (Kd.int .i64) 3 w' W.heap.size (fun _ => True) v T1 ∧ Below W.heap.size W w') := ⟨fun gd W hW hd => by rw [hT1]; exact most_calls gd _ _ _ _ _ _ _ l0_4 _ W (Kd.qai hr0_4 hW) (by omega) hd⟩
  have HLE : qab (∀ gd W, Below w.heap.size w W → W.heap[gd]? = some (.cells #[.int .i64 a0_0, .slice A0_1 l0_1.length c0_1, .slice A0_2 l0_2.length c0_2, .slice A0_3 l0_3.length c0_3, .slice A0_4 l0_4.length c0_4, .slice A0_5 l0_5.length c0_5, .int .i64 0] 123 (0, 0)) → Calls Try.prog 59 #[.pointer (some ⟨gd, 0, none⟩)] W fun e w' => ∃ v, e = .returned v ∧ Kd.R (Kd.int .i64) 3 w' W.heap.size (fun _ => True) v T2 ∧ Below W.heap.size W w') := ⟨fun gd W hW hd => by rw [hT2]; exact least_calls gd _ _ _ _ _ _ _ l0_4 _ W (Kd.qai hr0_4 hW) (by omega) hd⟩
  have HPO : qab (∀ (W : World) (th vo ro : List Int) (A0 A1 A2 : Option Addr) (c0 c1 c2 : Nat), Below w.heap.size w W → Kd.C (Kd.int .i64) W A0 th.length th → Kd.C (Kd.int .i64) W A1 vo.length vo → vo.length ≤ c1 → Kd.C (Kd.int .i64) W A2 ro.length ro → TruthF l0_4 l0_5 th vo ro → Calls Try.prog 86 #[.agg #[.int .i64 a0_0, .slice A0_1 l0_1.length c0_1, .slice A0_2 l0_2.length c0_2, .slice A0_3 l0_3.length c0_3, .slice A0_4 l0_4.length c0_4, .slice A0_5 l0_5.length c0_5], .agg #[.slice A0 th.length c0, .slice A1 vo.length c1, .slice A2 ro.length c2]] W fun e w' => ∃ v p2 p3, e = .returned (.tuple #[v, .agg #[.int .i64 vo.sum, .int .i64 p2, .int .i64 p3]]) ∧ Kd.R (Kd.int .i64) 3 w' W.heap.size (fun _ => True) v (pourV l0_5 l0_4.length th vo ro).1 ∧ Below W.heap.size W w') := ⟨fun W th vo ro A0 A1 A2 c0 c1 c2 hW h0 h1 hc1 h2 hT => (pourAll_calls a0_0 A0_1 c0_1 l0_1 A0_2 c0_2 l0_2 A0_3 c0_3 l0_3 A0_4 c0_4 l0_4 A0_5 c0_5 l0_5 A0 c0 th A1 c1 vo A2 c2 ro W (Kd.qai hr0_1 hW) hc0_1 (Kd.qai hr0_2 hW) hc0_2 (Kd.qai hr0_3 hW) hc0_3 (Kd.qai hr0_4 hW) hc0_4 (Kd.qai hr0_5 hW) hc0_5 h0 h1 hc1 h2 HV.out hT).mono fun e w' ⟨v, h1, h2, h3⟩ => ⟨v, _, _, h1, h2, h3⟩⟩
  have HT1 := qab.mk hT1
  have HT2 := qab.mk hT2
  have HAE := qab.mk hA
  have HBE := qab.mk hBE
  have HR5 := qab.mk hr0_5
  cases hq
  rw [hv] at HVAL
  clear hp hv hT1 hT2 hA hBE hr0_1 hr0_2 hr0_3 hr0_4 hr0_5
  go_enter Try.func45, Try.ntmps45
  go_upto_region 4 with (first | ((with_reducible refine qam (N := 1) rfl ?_); refine ze 1 #[.int .i64 a0_0, .slice A0_1 l0_1.length c0_1, .slice A0_2 l0_2.length c0_2, .slice A0_3 l0_3.length c0_3, .slice A0_4 l0_4.length c0_4, .slice A0_5 l0_5.length c0_5] 27 ?_; intro gb hg_gb w2 hbox hb; have BKgb := qab.mk hbox; have n_HB := qab.mk (qae HB.out hb); have GEgb : w.heap.size ≤ gb := (by rw [hg_gb]; exact HB.out.size); clear HB; have HB := n_HB; clear n_HB; obtain ⟨hfgb, hcgb_0, hcgb_1, hcgb_2, hcgb_3, hcgb_4, hcgb_5⟩ := qz6 BKgb.out; clear hbox hb hg_gb) | (go_at_call 66; (with_reducible refine (HVAL.out _ HB.out).mono ?_); rintro e wn ⟨rfl, hb⟩; replace BKgb := qab.mk (qad BKgb.out hb); replace HB := qab.mk (qae HB.out hb); clear hb; obtain ⟨hfgb, hcgb_0, hcgb_1, hcgb_2, hcgb_3, hcgb_4, hcgb_5⟩ := qz6 BKgb.out) | ((with_reducible refine qam (N := 20) rfl ?_); refine ze 20 #[.int .i64 a0_0, .slice A0_1 l0_1.length c0_1, .slice A0_2 l0_2.length c0_2, .slice A0_3 l0_3.length c0_3, .slice A0_4 l0_4.length c0_4, .slice A0_5 l0_5.length c0_5, .int .i64 0] 123 ?_; intro gd hg_gd w3 hbox hb; have BKgd := qab.mk hbox; replace BKgb := qab.mk (qad BKgb.out hb); have n_HB := qab.mk (qae HB.out hb); have GEgd : w.heap.size ≤ gd := (by rw [hg_gd]; exact HB.out.size); clear HB; have HB := n_HB; clear n_HB; obtain ⟨hfgd, hcgd_0, hcgd_1, hcgd_2, hcgd_3, hcgd_4, hcgd_5, hcgd_6⟩ := qz7 BKgd.out; clear hbox hb hg_gd))
  clear hfgb hcgb_0 hcgb_1 hcgb_2 hcgb_3 hcgb_4 hcgb_5 hfgd hcgd_0 hcgd_1 hcgd_2 hcgd_3 hcgd_4 hcgd_5 hcgd_6
  go_upto_region 5 with (first | (go_at_call 58; (with_reducible refine (HMO.out gd _ HB.out BKgd.out).mono ?_); rintro e w4 ⟨v1, rfl, hR, hb⟩; obtain ⟨t1A, t1n, t1c, rfl⟩ := R_shape hR; have HR1 := qab.mk (Kd.R_lower hR HB.out.size); clear hR; replace BKgb := qab.mk (qad BKgb.out hb); replace BKgd := qab.mk (qad BKgd.out hb); replace HB := qab.mk (qae HB.out hb); clear hb) | (go_at_call 59; (with_reducible refine (HLE.out gd _ HB.out BKgd.out).mono ?_); rintro e w5 ⟨v2, rfl, hR, hb⟩; obtain ⟨t2A, t2n, t2c, rfl⟩ := R_shape hR; have HR2 := qab.mk (Kd.R_lower hR HB.out.size); clear hR; replace HR1 := qab.mk (Kd.qal HR1.out hb); replace BKgb := qab.mk (qad BKgb.out hb); replace BKgd := qab.mk (qad BKgd.out hb); replace HB := qab.mk (qae HB.out hb); clear hb; have HBL := qab.mk (Below.refl w5.heap.size w5)) | ((with_reducible refine qam (N := 5) rfl ?_); refine ze 5 #[.slice none 0 0, .slice none 0 0, .slice none 0 0] 67 ?_; intro g5 hg_g5 w6 hbox hb; have BKg5 := qab.mk hbox; have n_HB := qab.mk (qae HBL.out hb); have GEg5 : w5.heap.size ≤ g5 := (by rw [hg_g5]; exact HBL.out.size); clear HBL; have HBL := n_HB; clear n_HB; obtain ⟨hfg5, hcg5_0, hcg5_1, hcg5_2⟩ := qz3 BKg5.out; clear hbox hb hg_g5) | ((with_reducible refine qam (N := 6) rfl ?_); refine ze 6 #[.slice none 0 0, .slice none 0 0, .slice none 0 0] 67 ?_; intro g6 hg_g6 w7 hbox hb; have BKg6 := qab.mk hbox; have ne_g5_g6 : g5 ≠ g6 := (by rw [hg_g6]; exact Nat.ne_of_lt (blk_lt BKg5.out)); replace BKg5 := qab.mk (qad BKg5.out hb); have n_HB := qab.mk (qae HBL.out hb); have GEg6 : w5.heap.size ≤ g6 := (by rw [hg_g6]; exact HBL.out.size); clear HBL; have HBL := n_HB; clear n_HB; obtain ⟨hfg6, hcg6_0, hcg6_1, hcg6_2⟩ := qz3 BKg6.out; clear hbox hb hg_g6; have ne_65 := ne_g5_g6.symm; clear hfg5 hcg5_0 hcg5_1 hcg5_2; obtain ⟨hfg5, hcg5_0, hcg5_1, hcg5_2⟩ := qz3 BKg5.out))
  clear hfg5 hcg5_0 hcg5_1 hcg5_2 hfg6 hcg6_0 hcg6_1 hcg6_2
  have NE56 := qab.mk ne_g5_g6
  have he_ : setAll w7 g5 [.slice t1A t1n t1c, .slice none 0 0, .slice none 0 0] 0 = (((w7.setCell ⟨g5, 0, none⟩ (.slice t1A t1n t1c)).setCell ⟨g5, 1, none⟩ (.slice none 0 0)).setCell ⟨g5, 2, none⟩ (.slice none 0 0)) := rfl; have hbl := setAll_below GEg5 [.slice t1A t1n t1c, .slice none 0 0, .slice none 0 0] 0 _ HBL.out; have hbx : (setAll w7 g5 [.slice t1A t1n t1c, .slice none 0 0, .slice none 0 0] 0).heap[g5]? = some (.cells #[.slice t1A t1n t1c, .slice none 0 0, .slice none 0 0] 67 (0, 0)) := setAll_new [.slice t1A t1n t1c, .slice none 0 0, .slice none 0 0] [.slice none 0 0, .slice none 0 0, .slice none 0 0] BKg5.out rfl; have hx_BKg6 := setAll_far ne_65 [.slice t1A t1n t1c, .slice none 0 0, .slice none 0 0] 0 _ BKg6.out; rw [he_] at hbl hbx hx_BKg6; clear he_; generalize (((w7.setCell ⟨g5, 0, none⟩ (.slice t1A t1n t1c)).setCell ⟨g5, 1, none⟩ (.slice none 0 0)).setCell ⟨g5, 2, none⟩ (.slice none 0 0)) = w8 at hbl hbx hx_BKg6 ⊢; clear HBL BKg5; have HBL := qab.mk hbl; have BKg5 := qab.mk hbx; clear hbl hbx; clear BKg6; have BKg6 := qab.mk hx_BKg6; clear hx_BKg6
  have he_ : setAll w8 g6 [.slice t2A t2n t2c, .slice none 0 0, .slice none 0 0] 0 = (((w8.setCell ⟨g6, 0, none⟩ (.slice t2A t2n t2c)).setCell ⟨g6, 1, none⟩ (.slice none 0 0)).setCell ⟨g6, 2, none⟩ (.slice none 0 0)) := rfl; have hbl := setAll_below GEg6 [.slice t2A t2n t2c, .slice none 0 0, .slice none 0 0] 0 _ HBL.out; have hbx : (setAll w8 g6 [.slice t2A t2n t2c, .slice none 0 0, .slice none 0 0] 0).heap[g6]? = some (.cells #[.slice t2A t2n t2c, .slice none 0 0, .slice none 0 0] 67 (0, 0)) := setAll_new [.slice t2A t2n t2c, .slice none 0 0, .slice none 0 0] [.slice none 0 0, .slice none 0 0, .slice none 0 0] BKg6.out rfl; have hx_BKg5 := setAll_far ne_g5_g6 [.slice t2A t2n t2c, .slice none 0 0, .slice none 0 0] 0 _ BKg5.out; rw [he_] at hbl hbx hx_BKg5; clear he_; generalize (((w8.setCell ⟨g6, 0, none⟩ (.slice t2A t2n t2c)).setCell ⟨g6, 1, none⟩ (.slice none 0 0)).setCell ⟨g6, 2, none⟩ (.slice none 0 0)) = w9 at hbl hbx hx_BKg5 ⊢; clear HBL BKg6; have HBL := qab.mk hbl; have BKg6 := qab.mk hbx; clear hbl hbx; clear BKg5; have BKg5 := qab.mk hx_BKg5; clear hx_BKg5
  clear ne_65 ne_g5_g6
  have HROW : qab (Rows4 w5 (.slice none 0 0) (.slice none 0 0) (.slice none 0 0) (.slice none 0 0) (colL (·.f2.f1) l0_5 0) (colL (·.f3.f0) l0_5 0) (colL (·.f2.f0) l0_5 0) (colL (·.f3.f1) l0_5 0) w9) := ⟨⟨HBL.out, Kd.R_nil _ _ _ _ _, Kd.R_nil _ _ _ _ _, Kd.R_nil _ _ _ _ _, Kd.R_nil _ _ _ _ _, ap_nil _, ap_nil _, ap_nil _, ap_nil _, ap_nil _, ap_nil _⟩⟩
  have BKg5' : qab (w9.heap[g5]? = some (.cells #[.slice t1A t1n t1c, .slice none 0 0, .slice none 0 0] 67 (0, 0))) := BKg5
  clear HBL
  have qb5 : w9.cell? ⟨gb, 5, none⟩ = some (.slice A0_5 l0_5.length c0_5) := (qaa (qad BKgb.out HROW.out.hb) 5).trans rfl
  go_wp2
  clear qb5
  go_loopw [30] (fun s30 wr => ∃ (i : Nat) (aA bA cA dA : Option Addr) (an ac bn bc cn cc dn dc : Nat), i ≤ l0_5.length ∧ s30 = .int .i64 i ∧ qab (Rows4 w5 (.slice aA an ac) (.slice bA bn bc) (.slice cA cn cc) (.slice dA dn dc) (colL (·.f2.f1) l0_5 i) (colL (·.f3.f0) l0_5 i) (colL (·.f2.f0) l0_5 i) (colL (·.f3.f1) l0_5 i) wr) ∧ qab (wr.heap[g5]? = some (.cells #[.slice t1A t1n t1c, .slice aA an ac, .slice bA bn bc] 67 (0, 0))) ∧ qab (wr.heap[g6]? = some (.cells #[.slice t2A t2n t2c, .slice cA cn cc, .slice dA dn dc] 67 (0, 0)))) (fun s _ => l0_5.length - (intOf s).toNat)
  case atStart => exact ⟨0, none, none, none, none, 0, 0, 0, 0, 0, 0, 0, 0, by omega, rfl, HROW, BKg5, BKg6⟩
  case round =>
   clear HROW BKg5 BKg6 BKg5'
   obtain ⟨i, aA, bA, cA, dA, an, ac, bn, bc, cn, cc, dn, dc, hi, rfl, HROW, BKg5, BKg6⟩ := hrel
   by_cases hlt : i < l0_5.length
   ·
    obtain ⟨a5, e, q0, q1, q2, q3, q4, q5⟩ := at_T95 HR5.out i (by omega) (by omega)
    cases e
    have hW := qae HB.out HROW.out.hb
    simp only [Int.toNat_natCast] at q0 q1 q2 q3 q4 q5
    replace q0 := (hW.cell (World.block_lt_of_cell? w _ q0)).trans q0
    replace q1 := (hW.cell (World.block_lt_of_cell? w _ q1)).trans q1
    replace q2 := (hW.cell (World.block_lt_of_cell? w _ q2)).trans q2
    replace q3 := (hW.cell (World.block_lt_of_cell? w _ q3)).trans q3
    replace q4 := (hW.cell (World.block_lt_of_cell? w _ q4)).trans q4
    replace q5 := (hW.cell (World.block_lt_of_cell? w _ q5)).trans q5
    have HC1 := qab.mk (colL_succ (·.f2.f1) l0_5 i hlt)
    have HC2 := qab.mk (colL_succ (·.f3.f0) l0_5 i hlt)
    have HC3 := qab.mk (colL_succ (·.f2.f0) l0_5 i hlt)
    have HC4 := qab.mk (colL_succ (·.f3.f1) l0_5 i hlt)
    have hln1 := colL_len (·.f2.f1) l0_5 i hi
    have hln2 := colL_len (·.f3.f0) l0_5 i hi
    have hln3 := colL_len (·.f2.f0) l0_5 i hi
    have hln4 := colL_len (·.f3.f1) l0_5 i hi
    generalize rd_T95 l0_5 i = X at q0 q1 q2 q3 q4 q5 HC1 HC2 HC3 HC4
    generalize colL (·.f2.f1) l0_5 i = la at HROW HC1 hln1
    generalize colL (·.f3.f0) l0_5 i = lb at HROW HC2 hln2
    generalize colL (·.f2.f0) l0_5 i = lc at HROW HC3 hln3
    generalize colL (·.f3.f1) l0_5 i = ld at HROW HC4 hln4
    obtain ⟨k0, k1, ⟨k2, k3⟩, ⟨k4, k5⟩⟩ := X
    dsimp only at q0 q1 q2 q3 q4 q5 HC1 HC2 HC3 HC4
    have hla : la.length ≤ 100 := by omega
    have hlb : lb.length ≤ 100 := by omega
    have hlc : lc.length ≤ 100 := by omega
    have hld : ld.length ≤ 100 := by omega
    clear hW hln1 hln2 hln3 hln4
    have HBL := qab.mk HROW.out.hb
    go_upto_region 8 with ((with_reducible refine qam (N := 8) rfl ?_); refine ze 8 #[.int .i64 0, .int .i64 0, .int .i64 0, .int .i64 0, .int .i64 0, .int .i64 0] 95 ?_; intro ge hg_ge w4_ hbox hb; have BKge := qab.mk hbox; have ne_g5_ge : g5 ≠ ge := (by rw [hg_ge]; exact Nat.ne_of_lt (blk_lt BKg5.out)); have ne_g6_ge : g6 ≠ ge := (by rw [hg_ge]; exact Nat.ne_of_lt (blk_lt BKg6.out)); replace BKg5 := qab.mk (qad BKg5.out hb); replace BKg6 := qab.mk (qad BKg6.out hb); have n_HB := qab.mk (qae HBL.out hb); have GEge : w5.heap.size ≤ ge := (by rw [hg_ge]; exact HBL.out.size); clear HBL; have HBL := n_HB; clear n_HB; obtain ⟨hfge, hcge_0, hcge_1, hcge_2, hcge_3, hcge_4, hcge_5⟩ := qz6 BKge.out; replace HROW := qab.mk (HROW.out.below hb); clear hbox hb hg_ge)
    clear q0 q1 q2 q3 q4 q5 hfge hcge_0 hcge_1 hcge_2 hcge_3 hcge_4 hcge_5
    have he_ : setAll w4_ ge [.int .i64 k0, .int .i64 k1, .int .i64 k2, .int .i64 k3, .int .i64 k4, .int .i64 k5] 0 = ((((((w4_.setCell ⟨ge, 0, none⟩ (.int .i64 k0)).setCell ⟨ge, 1, none⟩ (.int .i64 k1)).setCell ⟨ge, 2, none⟩ (.int .i64 k2)).setCell ⟨ge, 3, none⟩ (.int .i64 k3)).setCell ⟨ge, 4, none⟩ (.int .i64 k4)).setCell ⟨ge, 5, none⟩ (.int .i64 k5)) := rfl; have hbl := setAll_below GEge [.int .i64 k0, .int .i64 k1, .int .i64 k2, .int .i64 k3, .int .i64 k4, .int .i64 k5] 0 _ HBL.out; have hbx : (setAll w4_ ge [.int .i64 k0, .int .i64 k1, .int .i64 k2, .int .i64 k3, .int .i64 k4, .int .i64 k5] 0).heap[ge]? = some (.cells #[.int .i64 k0, .int .i64 k1, .int .i64 k2, .int .i64 k3, .int .i64 k4, .int .i64 k5] 95 (0, 0)) := setAll_new [.int .i64 k0, .int .i64 k1, .int .i64 k2, .int .i64 k3, .int .i64 k4, .int .i64 k5] [.int .i64 0, .int .i64 0, .int .i64 0, .int .i64 0, .int .i64 0, .int .i64 0] BKge.out rfl; have hx_BKg5 := setAll_far ne_g5_ge [.int .i64 k0, .int .i64 k1, .int .i64 k2, .int .i64 k3, .int .i64 k4, .int .i64 k5] 0 _ BKg5.out; have hx_BKg6 := setAll_far ne_g6_ge [.int .i64 k0, .int .i64 k1, .int .i64 k2, .int .i64 k3, .int .i64 k4, .int .i64 k5] 0 _ BKg6.out; have hy_ROW := Rows4.setAll (g := ge) (by decide) GEge [.int .i64 k0, .int .i64 k1, .int .i64 k2, .int .i64 k3, .int .i64 k4, .int .i64 k5] 0 w4_ _ BKge.out HROW.out; rw [he_] at hy_ROW hbl hbx hx_BKg5 hx_BKg6; clear he_; generalize ((((((w4_.setCell ⟨ge, 0, none⟩ (.int .i64 k0)).setCell ⟨ge, 1, none⟩ (.int .i64 k1)).setCell ⟨ge, 2, none⟩ (.int .i64 k2)).setCell ⟨ge, 3, none⟩ (.int .i64 k3)).setCell ⟨ge, 4, none⟩ (.int .i64 k4)).setCell ⟨ge, 5, none⟩ (.int .i64 k5)) = w5_ at hy_ROW hbl hbx hx_BKg5 hx_BKg6 ⊢; clear HBL BKge; have HBL := qab.mk hbl; have BKge := qab.mk hbx; clear hbl hbx; clear BKg5; have BKg5 := qab.mk hx_BKg5; clear hx_BKg5; clear BKg6; have BKg6 := qab.mk hx_BKg6; clear hx_BKg6; clear HROW; have HROW := qab.mk hy_ROW; clear hy_ROW
    have HDQ : qab (DQ w5 g5 g6 ge #[.slice t1A t1n t1c, .slice aA an ac, .slice bA bn bc] #[.slice t2A t2n t2c, .slice cA cn cc, .slice dA dn dc] #[.int .i64 k0, .int .i64 k1, .int .i64 k2, .int .i64 k3, .int .i64 k4, .int .i64 k5] w5_) := ⟨⟨HBL.out, BKg5.out, BKg6.out, BKge.out, GEg5, GEg6, NE56.out⟩⟩
    clear BKg5 BKg6 BKge HBL
    have HT : qab (∀ W, DQ w5 g5 g6 ge #[.slice t1A t1n t1c, .slice aA an ac, .slice bA bn bc] #[.slice t2A t2n t2c, .slice cA cn cc, .slice dA dn dc] #[.int .i64 k0, .int .i64 k1, .int .i64 k2, .int .i64 k3, .int .i64 k4, .int .i64 k5] W → (W.cell? ⟨g5, 1, none⟩ = some (.slice aA an ac) ∧ W.cell? ⟨g5, 2, none⟩ = some (.slice bA bn bc) ∧ W.cell? ⟨ge, 3, none⟩ = some (.int .i64 k3) ∧ W.cell? ⟨ge, 4, none⟩ = some (.int .i64 k4) ∧ qab (DQ w5 g5 g6 ge #[.slice t1A t1n t1c, .slice aA an ac, .slice bA bn bc] #[.slice t2A t2n t2c, .slice cA cn cc, .slice dA dn dc] #[.int .i64 k0, .int .i64 k1, .int .i64 k2, .int .i64 k3, .int .i64 k4, .int .i64 k5] W))) := ⟨fun W h => ⟨(qaa h.xT 1).trans rfl, (qaa h.xT 2).trans rfl, (qaa h.e 3).trans rfl, (qaa h.e 4).trans rfl, ⟨h⟩⟩⟩
    refine start_ (n := 18) (S := fun w' => (w'.cell? ⟨g5, 1, none⟩ = some (.slice aA an ac) ∧ w'.cell? ⟨g5, 2, none⟩ = some (.slice bA bn bc) ∧ w'.cell? ⟨ge, 3, none⟩ = some (.int .i64 k3) ∧ w'.cell? ⟨ge, 4, none⟩ = some (.int .i64 k4) ∧ qab (DQ w5 g5 g6 ge #[.slice t1A t1n t1c, .slice aA an ac, .slice bA bn bc] #[.slice t2A t2n t2c, .slice cA cn cc, .slice dA dn dc] #[.int .i64 k0, .int .i64 k1, .int .i64 k2, .int .i64 k3, .int .i64 k4, .int .i64 k5] w'))) (ds := [15, 17]) (msk 18 0) (by kernel_rfl) rfl rfl (HT.out _ (HDQ.out.below (qaq (Below.refl _ _)))) (fun hHeld => ?_)
    have HRW := qab.mk (HROW.out.below (qaq (Below.refl _ _))); generalize w5_.drew = xw at hHeld HRW ⊢
    refine zq 0 1 34 ?_
    refine zt5 1 2 35 hHeld ?_
    refine zq 2 3 36 ?_
    refine zq 3 4 37 ?_
    refine zt5 4 5 38 hHeld ?_
    refine zqg #[true, true, true, true, true, false, false, true, false, false, false, false, false, false, false, false, false, false] 7 41 ?_
    refine ztg5 #[true, true, true, true, true, false, false, true, true, false, false, false, false, false, false, false, false, false] 8 42 hHeld ?_
    refine zqg #[true, true, true, true, true, false, false, true, true, true, false, false, false, false, false, false, false, false] 9 43 ?_
    refine zqg #[true, true, true, true, true, false, false, true, true, true, true, false, false, false, false, false, false, false] 10 44 ?_
    refine ztg5 #[true, true, true, true, true, false, false, true, true, true, true, true, false, false, false, false, false, false] 11 45 hHeld ?_
    refine join_ (σ := Option Addr × Nat × Nat × Option Addr × Nat × Nat × Nat × Nat) 3 (msk 18 15) (fun s_ => [(39, .slice (some ⟨s_.2.2.2.2.2.2.1, 0, none⟩) 1 1), (40, .slice s_.1 s_.2.1 s_.2.2.1), (46, .slice (some ⟨s_.2.2.2.2.2.2.2, 0, none⟩) 1 1), (47, .slice s_.2.2.2.1 s_.2.2.2.2.1 s_.2.2.2.2.2.1), (48, .pointer (some ⟨g5, 1, none⟩))]) (fun s_ w' => (w'.cell? ⟨g5, 1, none⟩ = some (.slice aA an ac) ∧ w'.cell? ⟨g5, 2, none⟩ = some (.slice bA bn bc) ∧ w'.cell? ⟨ge, 3, none⟩ = some (.int .i64 k3) ∧ w'.cell? ⟨ge, 4, none⟩ = some (.int .i64 k4) ∧ qab (DQ w5 g5 g6 ge #[.slice t1A t1n t1c, .slice aA an ac, .slice bA bn bc] #[.slice t2A t2n t2c, .slice cA cn cc, .slice dA dn dc] #[.int .i64 k0, .int .i64 k1, .int .i64 k2, .int .i64 k3, .int .i64 k4, .int .i64 k5] w')) ∧ Rows4 w5 (.slice s_.1 s_.2.1 s_.2.2.1) (.slice s_.2.2.2.1 s_.2.2.2.2.1 s_.2.2.2.2.2.1) (.slice cA cn cc) (.slice dA dn dc) (la ++ [k3]) (lb ++ [k4]) lc ld w') ?_ ?_
    rotate_left
    ·
     intro hCont
     refine two_ (i := 5) (j := 12) (Ni := some 39) (Nj := some 46) #[true, true, true, true, true, true, false, true, true, true, true, true, false, false, false, false, false, false] #[true, true, true, true, true, false, false, true, true, true, true, true, true, false, false, false, false, false] rfl rfl rfl rfl (by kernel_rfl) (by decide) (by decide) (fun K hK => ?_) (fun K hK => ?_)
     ·
      refine value_ (w1 := ?_) (v := ?_) (by rfl) rfl ?_ ?_; rotate_left 2; (focus (go_simp; constructor; rfl; rfl))
      obtain ⟨x1, g39, e1_, e2_, HB39, hb_⟩ := allocX xw (.cells #[.int .i64 k3] 3); rw [e1_, e2_]; clear e1_ e2_; replace HRW := qab.mk (HRW.out.below hb_); (try (replace HB46 := qad HB46 hb_))
      refine hK.out _ _ (HT.out _ (hHeld.2.2.2.2.out.below hb_)) (fun hHeld => ?_); clear hK K hb_; refine zn 39 ?_
      refine two_ (i := 6) (j := 12) (Ni := some 40) (Nj := some 46) (msk 18 12) #[true, true, true, true, true, true, false, true, true, true, true, true, true, false, false, false, false, false] rfl rfl rfl rfl (by kernel_rfl) (by decide) (by decide) (fun K hK => ?_) (fun K hK => ?_)
      ·
       refine Kd.R_append_rows_step (Kd.int .i64) (w0 := w5) w5.heap.size (by rfl) (.tmp 35) (.tmp 39) 23 3 (.int .i64 0) 8 rfl Try.underlying23 info3 rfl (by decide) (by omega) (.slice aA an ac) la [k3] (some ⟨g39, 0, none⟩) 1 1 (fun _ => True) (fun _ => False) rfl rfl ?aO ?aR (fun _ _ h => h) (fun _ h => h.elim) ?aF ?aB ?aS ?aL ?_; (case aO => exact HRW.out.ra); (case aR => exact C_blk (xs := [k3]) HB39 (by simp)); (case aF => exact fun _ _ => trivial); (case aB => exact hHeld.2.2.2.2.out.hb); (case aS => exact hHeld.2.2.2.2.out.hb.size); (case aL => omega)
       intro v1 x4 ho hB hg hat; obtain ⟨eA, en, ec, rfl⟩ := R_shape ho; have HDQ4 := hHeld.2.2.2.2.out.grown HRW.out.ra hg hB; replace HRW := qab.mk (HRW.out.growA ho hB hg hat); clear ho hg hB hat
       refine hK.out _ _ (HT.out _ HDQ4) (fun hHeld => ?_); clear hK K HDQ4; refine zn 40 ?_
       refine zqg #[true, true, true, true, true, true, true, true, true, true, true, true, false, false, true, false, false, false] 14 48 ?_
       refine one_ (i := 12) (N := some 46) #[true, true, true, true, true, true, true, true, true, true, true, true, true, false, true, false, false, false] rfl rfl (by kernel_rfl) (by decide) (fun K hK => ?_)
       refine value_ (w1 := ?_) (v := ?_) (by rfl) rfl ?_ ?_; rotate_left 2; (focus (go_simp; constructor; rfl; rfl))
       obtain ⟨x5, g46, e1_, e2_, HB46, hb_⟩ := allocX x4 (.cells #[.int .i64 k4] 3); rw [e1_, e2_]; clear e1_ e2_; replace HRW := qab.mk (HRW.out.below hb_); (try (replace HB39 := qad HB39 hb_))
       refine hK.out _ _ (HT.out _ (hHeld.2.2.2.2.out.below hb_)) (fun hHeld => ?_); clear hK K hb_; refine zn 46 ?_
       refine one_ (i := 13) (N := some 47) (msk 18 15) rfl rfl (by kernel_rfl) (by decide) (fun K hK => ?_)
       refine Kd.R_append_rows_step (Kd.int .i64) (w0 := w5) w5.heap.size (by rfl) (.tmp 42) (.tmp 46) 23 3 (.int .i64 0) 8 rfl Try.underlying23 info3 rfl (by decide) (by omega) (.slice bA bn bc) lb [k4] (some ⟨g46, 0, none⟩) 1 1 (fun _ => True) (fun _ => False) rfl rfl ?aO ?aR (fun _ _ h => h) (fun _ h => h.elim) ?aF ?aB ?aS ?aL ?_; (case aO => exact HRW.out.rb); (case aR => exact C_blk (xs := [k4]) HB46 (by simp)); (case aF => exact fun _ _ => trivial); (case aB => exact hHeld.2.2.2.2.out.hb); (case aS => exact hHeld.2.2.2.2.out.hb.size); (case aL => omega)
       intro v1 x4 ho hB hg hat; obtain ⟨fA, fn_, fc, rfl⟩ := R_shape ho; have HDQ4 := hHeld.2.2.2.2.out.grown HRW.out.rb hg hB; replace HRW := qab.mk (HRW.out.growB ho hB hg hat); clear ho hg hB hat
       refine hK.out _ _ (HT.out _ HDQ4) (fun hHeld => ?_); clear hK K HDQ4; refine zn 47 ?_
       exact norm_ (by simp only [putAll, Act.put, qzA, qzB, qzC]) (hCont (eA, en, ec, fA, fn_, fc, g39, g46) _ ⟨hHeld, HRW.out⟩)
      ·
       refine value_ (w1 := ?_) (v := ?_) (by rfl) rfl ?_ ?_; rotate_left 2; (focus (go_simp; constructor; rfl; rfl))
       obtain ⟨x2, g46, e1_, e2_, HB46, hb_⟩ := allocX x1 (.cells #[.int .i64 k4] 3); rw [e1_, e2_]; have NE46 : (Value.slice aA an ac).ownBlock ≠ some g46 := fun e_ => (by have := Kd.R_lt HRW.out.ra _ e_; omega); clear e1_ e2_; replace HRW := qab.mk (HRW.out.below hb_); (try (replace HB39 := qad HB39 hb_))
       refine hK.out _ _ (HT.out _ (hHeld.2.2.2.2.out.below hb_)) (fun hHeld => ?_); clear hK K hb_; refine zn 46 ?_
       refine one_ (i := 6) (N := some 40) (msk 18 13) rfl rfl (by kernel_rfl) (by decide) (fun K hK => ?_)
       refine Kd.R_append_rows_step (Kd.int .i64) (w0 := w5) w5.heap.size (by rfl) (.tmp 35) (.tmp 39) 23 3 (.int .i64 0) 8 rfl Try.underlying23 info3 rfl (by decide) (by omega) (.slice aA an ac) la [k3] (some ⟨g39, 0, none⟩) 1 1 (fun _ => True) (fun _ => False) rfl rfl ?aO ?aR (fun _ _ h => h) (fun _ h => h.elim) ?aF ?aB ?aS ?aL ?_; (case aO => exact HRW.out.ra); (case aR => exact C_blk (xs := [k3]) HB39 (by simp)); (case aF => exact fun _ _ => trivial); (case aB => exact hHeld.2.2.2.2.out.hb); (case aS => exact hHeld.2.2.2.2.out.hb.size); (case aL => omega)
       intro v1 x4 ho hB hg hat; obtain ⟨eA, en, ec, rfl⟩ := R_shape ho; have HDQ4 := hHeld.2.2.2.2.out.grown HRW.out.ra hg hB; replace HB46 := blk_grown HB46 hg (fun e_ => NE46 e_.symm); replace HRW := qab.mk (HRW.out.growA ho hB hg hat); clear ho hg hB hat
       refine hK.out _ _ (HT.out _ HDQ4) (fun hHeld => ?_); clear hK K HDQ4; refine zn 40 ?_
       refine zqg #[true, true, true, true, true, true, true, true, true, true, true, true, true, false, true, false, false, false] 14 48 ?_
       refine one_ (i := 13) (N := some 47) (msk 18 15) rfl rfl (by kernel_rfl) (by decide) (fun K hK => ?_)
       refine Kd.R_append_rows_step (Kd.int .i64) (w0 := w5) w5.heap.size (by rfl) (.tmp 42) (.tmp 46) 23 3 (.int .i64 0) 8 rfl Try.underlying23 info3 rfl (by decide) (by omega) (.slice bA bn bc) lb [k4] (some ⟨g46, 0, none⟩) 1 1 (fun _ => True) (fun _ => False) rfl rfl ?aO ?aR (fun _ _ h => h) (fun _ h => h.elim) ?aF ?aB ?aS ?aL ?_; (case aO => exact HRW.out.rb); (case aR => exact C_blk (xs := [k4]) HB46 (by simp)); (case aF => exact fun _ _ => trivial); (case aB => exact hHeld.2.2.2.2.out.hb); (case aS => exact hHeld.2.2.2.2.out.hb.size); (case aL => omega)
       intro v1 x4 ho hB hg hat; obtain ⟨fA, fn_, fc, rfl⟩ := R_shape ho; have HDQ4 := hHeld.2.2.2.2.out.grown HRW.out.rb hg hB; replace HRW := qab.mk (HRW.out.growB ho hB hg hat); clear ho hg hB hat
       refine hK.out _ _ (HT.out _ HDQ4) (fun hHeld => ?_); clear hK K HDQ4; refine zn 47 ?_
       exact norm_ (by simp only [putAll, Act.put, qzA, qzB, qzC]) (hCont (eA, en, ec, fA, fn_, fc, g39, g46) _ ⟨hHeld, HRW.out⟩)
     ·
      refine value_ (w1 := ?_) (v := ?_) (by rfl) rfl ?_ ?_; rotate_left 2; (focus (go_simp; constructor; rfl; rfl))
      obtain ⟨x1, g46, e1_, e2_, HB46, hb_⟩ := allocX xw (.cells #[.int .i64 k4] 3); rw [e1_, e2_]; have NE46 : (Value.slice aA an ac).ownBlock ≠ some g46 := fun e_ => (by have := Kd.R_lt HRW.out.ra _ e_; omega); clear e1_ e2_; replace HRW := qab.mk (HRW.out.below hb_); (try (replace HB39 := qad HB39 hb_))
      refine hK.out _ _ (HT.out _ (hHeld.2.2.2.2.out.below hb_)) (fun hHeld => ?_); clear hK K hb_; refine zn 46 ?_
      refine one_ (i := 5) (N := some 39) #[true, true, true, true, true, true, false, true, true, true, true, true, true, false, false, false, false, false] rfl rfl (by kernel_rfl) (by decide) (fun K hK => ?_)
      refine value_ (w1 := ?_) (v := ?_) (by rfl) rfl ?_ ?_; rotate_left 2; (focus (go_simp; constructor; rfl; rfl))
      obtain ⟨x2, g39, e1_, e2_, HB39, hb_⟩ := allocX x1 (.cells #[.int .i64 k3] 3); rw [e1_, e2_]; clear e1_ e2_; replace HRW := qab.mk (HRW.out.below hb_); (try (replace HB46 := qad HB46 hb_))
      refine hK.out _ _ (HT.out _ (hHeld.2.2.2.2.out.below hb_)) (fun hHeld => ?_); clear hK K hb_; refine zn 39 ?_
      refine one_ (i := 6) (N := some 40) (msk 18 13) rfl rfl (by kernel_rfl) (by decide) (fun K hK => ?_)
      refine Kd.R_append_rows_step (Kd.int .i64) (w0 := w5) w5.heap.size (by rfl) (.tmp 35) (.tmp 39) 23 3 (.int .i64 0) 8 rfl Try.underlying23 info3 rfl (by decide) (by omega) (.slice aA an ac) la [k3] (some ⟨g39, 0, none⟩) 1 1 (fun _ => True) (fun _ => False) rfl rfl ?aO ?aR (fun _ _ h => h) (fun _ h => h.elim) ?aF ?aB ?aS ?aL ?_; (case aO => exact HRW.out.ra); (case aR => exact C_blk (xs := [k3]) HB39 (by simp)); (case aF => exact fun _ _ => trivial); (case aB => exact hHeld.2.2.2.2.out.hb); (case aS => exact hHeld.2.2.2.2.out.hb.size); (case aL => omega)
      intro v1 x4 ho hB hg hat; obtain ⟨eA, en, ec, rfl⟩ := R_shape ho; have HDQ4 := hHeld.2.2.2.2.out.grown HRW.out.ra hg hB; replace HB46 := blk_grown HB46 hg (fun e_ => NE46 e_.symm); replace HRW := qab.mk (HRW.out.growA ho hB hg hat); clear ho hg hB hat
      refine hK.out _ _ (HT.out _ HDQ4) (fun hHeld => ?_); clear hK K HDQ4; refine zn 40 ?_
      refine zqg #[true, true, true, true, true, true, true, true, true, true, true, true, true, false, true, false, false, false] 14 48 ?_
      refine one_ (i := 13) (N := some 47) (msk 18 15) rfl rfl (by kernel_rfl) (by decide) (fun K hK => ?_)
      refine Kd.R_append_rows_step (Kd.int .i64) (w0 := w5) w5.heap.size (by rfl) (.tmp 42) (.tmp 46) 23 3 (.int .i64 0) 8 rfl Try.underlying23 info3 rfl (by decide) (by omega) (.slice bA bn bc) lb [k4] (some ⟨g46, 0, none⟩) 1 1 (fun _ => True) (fun _ => False) rfl rfl ?aO ?aR (fun _ _ h => h) (fun _ h => h.elim) ?aF ?aB ?aS ?aL ?_; (case aO => exact HRW.out.rb); (case aR => exact C_blk (xs := [k4]) HB46 (by simp)); (case aF => exact fun _ _ => trivial); (case aB => exact hHeld.2.2.2.2.out.hb); (case aS => exact hHeld.2.2.2.2.out.hb.size); (case aL => omega)
      intro v1 x4 ho hB hg hat; obtain ⟨fA, fn_, fc, rfl⟩ := R_shape ho; have HDQ4 := hHeld.2.2.2.2.out.grown HRW.out.rb hg hB; replace HRW := qab.mk (HRW.out.growB ho hB hg hat); clear ho hg hB hat
      refine hK.out _ _ (HT.out _ HDQ4) (fun hHeld => ?_); clear hK K HDQ4; refine zn 47 ?_
      exact norm_ (by simp only [putAll, Act.put, qzA, qzB, qzC]) (hCont (eA, en, ec, fA, fn_, fc, g39, g46) _ ⟨hHeld, HRW.out⟩)
    rintro ⟨eA, en, ec, fA, fn_, fc, g39, g46⟩ xj ⟨hHeld, hR_⟩; simp only [putAll, Act.put, qzA, qzB, qzC]
    have HRW := qab.mk hR_; clear hR_; have HDQx := qab.mk hHeld.2.2.2.2.out; have HDQ2 := qab.mk (HDQx.out.put (.slice eA en ec) (.slice fA fn_ fc)); have HROW2 := qab.mk ((HRW.out.set HDQx.out.xT HDQx.out.lT 1 (.slice eA en ec)).set (blk_set HDQx.out.xT 1 (.slice eA en ec)) HDQx.out.lT 2 (.slice fA fn_ fc)); have fr5 := qac HDQx.out.xT; have c51 := qaa HDQx.out.xT 1; have fr52 := qac (blk_set HDQx.out.xT 1 (.slice eA en ec)); have c52 := qaa (blk_set HDQx.out.xT 1 (.slice eA en ec)) 2
    refine last_ (i := 15) (N := none) (msk 18 16) rfl rfl (by kernel_rfl) (by decide) (fun K hK => ?_); refine skip_ (w1 := ?_) (by rfl) rfl ?_ ?_; rotate_left; (focus (go_simp; rfl)); refine hK.out _ _ ?_; clear hK K hHeld
    refine zq 16 17 49 ?_
    refine last_ (i := 17) (N := none) (msk 18 18) rfl rfl (by kernel_rfl) (by decide) (fun K hK => ?_); refine skip_ (w1 := ?_) (by rfl) rfl ?_ ?_; rotate_left; (focus (go_simp; rfl)); refine hK.out _ _ ?_; clear hK K
    refine done_ (by kernel_rfl) ?_
    have HDQ3 := HDQ2; have HROW3 := HROW2; clear HDQ2 HROW2 fr5 c51 fr52 c52 hHeld HRW HDQx; generalize (xj.setCell ⟨g5, 1, none⟩ (.slice eA en ec)).setCell ⟨g5, 2, none⟩ (.slice fA fn_ fc) = w_8 at HDQ3 HROW3 ⊢
    clear HT HDQ HROW
    have HDQ := qab.mk HDQ3.out.turn
    have HROW := qab.mk HROW3.out.swap
    clear HDQ3 HROW3
    have HT : qab (∀ W, DQ w5 g6 g5 ge #[.slice t2A t2n t2c, .slice cA cn cc, .slice dA dn dc] #[.slice t1A t1n t1c, .slice eA en ec, .slice fA fn_ fc] #[.int .i64 k0, .int .i64 k1, .int .i64 k2, .int .i64 k3, .int .i64 k4, .int .i64 k5] W → (W.cell? ⟨g6, 1, none⟩ = some (.slice cA cn cc) ∧ W.cell? ⟨g6, 2, none⟩ = some (.slice dA dn dc) ∧ W.cell? ⟨ge, 2, none⟩ = some (.int .i64 k2) ∧ W.cell? ⟨ge, 5, none⟩ = some (.int .i64 k5) ∧ qab (DQ w5 g6 g5 ge #[.slice t2A t2n t2c, .slice cA cn cc, .slice dA dn dc] #[.slice t1A t1n t1c, .slice eA en ec, .slice fA fn_ fc] #[.int .i64 k0, .int .i64 k1, .int .i64 k2, .int .i64 k3, .int .i64 k4, .int .i64 k5] W))) := ⟨fun W h => ⟨(qaa h.xT 1).trans rfl, (qaa h.xT 2).trans rfl, (qaa h.e 2).trans rfl, (qaa h.e 5).trans rfl, ⟨h⟩⟩⟩
    go_upto_region 9 with fail
    refine start_ (n := 18) (S := fun w' => (w'.cell? ⟨g6, 1, none⟩ = some (.slice cA cn cc) ∧ w'.cell? ⟨g6, 2, none⟩ = some (.slice dA dn dc) ∧ w'.cell? ⟨ge, 2, none⟩ = some (.int .i64 k2) ∧ w'.cell? ⟨ge, 5, none⟩ = some (.int .i64 k5) ∧ qab (DQ w5 g6 g5 ge #[.slice t2A t2n t2c, .slice cA cn cc, .slice dA dn dc] #[.slice t1A t1n t1c, .slice eA en ec, .slice fA fn_ fc] #[.int .i64 k0, .int .i64 k1, .int .i64 k2, .int .i64 k3, .int .i64 k4, .int .i64 k5] w'))) (ds := [15, 17]) (msk 18 0) (by kernel_rfl) rfl rfl (HT.out _ (HDQ.out.below (qaq (Below.refl _ _)))) (fun hHeld => ?_)
    have HRW := qab.mk (HROW.out.below (qaq (Below.refl _ _))); generalize w_8.drew = xw at hHeld HRW ⊢
    refine zq 0 1 50 ?_
    refine zt5 1 2 51 hHeld ?_
    refine zq 2 3 52 ?_
    refine zq 3 4 53 ?_
    refine zt5 4 5 54 hHeld ?_
    refine zqg #[true, true, true, true, true, false, false, true, false, false, false, false, false, false, false, false, false, false] 7 57 ?_
    refine ztg5 #[true, true, true, true, true, false, false, true, true, false, false, false, false, false, false, false, false, false] 8 58 hHeld ?_
    refine zqg #[true, true, true, true, true, false, false, true, true, true, false, false, false, false, false, false, false, false] 9 59 ?_
    refine zqg #[true, true, true, true, true, false, false, true, true, true, true, false, false, false, false, false, false, false] 10 60 ?_
    refine ztg5 #[true, true, true, true, true, false, false, true, true, true, true, true, false, false, false, false, false, false] 11 61 hHeld ?_
    refine join_ (σ := Option Addr × Nat × Nat × Option Addr × Nat × Nat × Nat × Nat) 3 (msk 18 15) (fun s_ => [(55, .slice (some ⟨s_.2.2.2.2.2.2.1, 0, none⟩) 1 1), (56, .slice s_.1 s_.2.1 s_.2.2.1), (62, .slice (some ⟨s_.2.2.2.2.2.2.2, 0, none⟩) 1 1), (63, .slice s_.2.2.2.1 s_.2.2.2.2.1 s_.2.2.2.2.2.1), (64, .pointer (some ⟨g6, 1, none⟩))]) (fun s_ w' => (w'.cell? ⟨g6, 1, none⟩ = some (.slice cA cn cc) ∧ w'.cell? ⟨g6, 2, none⟩ = some (.slice dA dn dc) ∧ w'.cell? ⟨ge, 2, none⟩ = some (.int .i64 k2) ∧ w'.cell? ⟨ge, 5, none⟩ = some (.int .i64 k5) ∧ qab (DQ w5 g6 g5 ge #[.slice t2A t2n t2c, .slice cA cn cc, .slice dA dn dc] #[.slice t1A t1n t1c, .slice eA en ec, .slice fA fn_ fc] #[.int .i64 k0, .int .i64 k1, .int .i64 k2, .int .i64 k3, .int .i64 k4, .int .i64 k5] w')) ∧ Rows4 w5 (.slice s_.1 s_.2.1 s_.2.2.1) (.slice s_.2.2.2.1 s_.2.2.2.2.1 s_.2.2.2.2.2.1) (.slice eA en ec) (.slice fA fn_ fc) (lc ++ [k2]) (ld ++ [k5]) (la ++ [k3]) (lb ++ [k4]) w') ?_ ?_
    rotate_left
    ·
     intro hCont
     refine two_ (i := 5) (j := 12) (Ni := some 55) (Nj := some 62) #[true, true, true, true, true, true, false, true, true, true, true, true, false, false, false, false, false, false] #[true, true, true, true, true, false, false, true, true, true, true, true, true, false, false, false, false, false] rfl rfl rfl rfl (by kernel_rfl) (by decide) (by decide) (fun K hK => ?_) (fun K hK => ?_)
     ·
      refine value_ (w1 := ?_) (v := ?_) (by rfl) rfl ?_ ?_; rotate_left 2; (focus (go_simp; constructor; rfl; rfl))
      obtain ⟨x1, g39, e1_, e2_, HB39, hb_⟩ := allocX xw (.cells #[.int .i64 k2] 3); rw [e1_, e2_]; clear e1_ e2_; replace HRW := qab.mk (HRW.out.below hb_); (try (replace HB46 := qad HB46 hb_))
      refine hK.out _ _ (HT.out _ (hHeld.2.2.2.2.out.below hb_)) (fun hHeld => ?_); clear hK K hb_; refine zn 55 ?_
      refine two_ (i := 6) (j := 12) (Ni := some 56) (Nj := some 62) (msk 18 12) #[true, true, true, true, true, true, false, true, true, true, true, true, true, false, false, false, false, false] rfl rfl rfl rfl (by kernel_rfl) (by decide) (by decide) (fun K hK => ?_) (fun K hK => ?_)
      ·
       refine Kd.R_append_rows_step (Kd.int .i64) (w0 := w5) w5.heap.size (by rfl) (.tmp 51) (.tmp 55) 23 3 (.int .i64 0) 8 rfl Try.underlying23 info3 rfl (by decide) (by omega) (.slice cA cn cc) lc [k2] (some ⟨g39, 0, none⟩) 1 1 (fun _ => True) (fun _ => False) rfl rfl ?aO ?aR (fun _ _ h => h) (fun _ h => h.elim) ?aF ?aB ?aS ?aL ?_; (case aO => exact HRW.out.ra); (case aR => exact C_blk (xs := [k2]) HB39 (by simp)); (case aF => exact fun _ _ => trivial); (case aB => exact hHeld.2.2.2.2.out.hb); (case aS => exact hHeld.2.2.2.2.out.hb.size); (case aL => omega)
       intro v1 x4 ho hB hg hat; obtain ⟨A1, n1, c1, rfl⟩ := R_shape ho; have HDQ4 := hHeld.2.2.2.2.out.grown HRW.out.ra hg hB; replace HRW := qab.mk (HRW.out.growA ho hB hg hat); clear ho hg hB hat
       refine hK.out _ _ (HT.out _ HDQ4) (fun hHeld => ?_); clear hK K HDQ4; refine zn 56 ?_
       refine zqg #[true, true, true, true, true, true, true, true, true, true, true, true, false, false, true, false, false, false] 14 64 ?_
       refine one_ (i := 12) (N := some 62) #[true, true, true, true, true, true, true, true, true, true, true, true, true, false, true, false, false, false] rfl rfl (by kernel_rfl) (by decide) (fun K hK => ?_)
       refine value_ (w1 := ?_) (v := ?_) (by rfl) rfl ?_ ?_; rotate_left 2; (focus (go_simp; constructor; rfl; rfl))
       obtain ⟨x5, g46, e1_, e2_, HB46, hb_⟩ := allocX x4 (.cells #[.int .i64 k5] 3); rw [e1_, e2_]; clear e1_ e2_; replace HRW := qab.mk (HRW.out.below hb_); (try (replace HB39 := qad HB39 hb_))
       refine hK.out _ _ (HT.out _ (hHeld.2.2.2.2.out.below hb_)) (fun hHeld => ?_); clear hK K hb_; refine zn 62 ?_
       refine one_ (i := 13) (N := some 63) (msk 18 15) rfl rfl (by kernel_rfl) (by decide) (fun K hK => ?_)
       refine Kd.R_append_rows_step (Kd.int .i64) (w0 := w5) w5.heap.size (by rfl) (.tmp 58) (.tmp 62) 23 3 (.int .i64 0) 8 rfl Try.underlying23 info3 rfl (by decide) (by omega) (.slice dA dn dc) ld [k5] (some ⟨g46, 0, none⟩) 1 1 (fun _ => True) (fun _ => False) rfl rfl ?aO ?aR (fun _ _ h => h) (fun _ h => h.elim) ?aF ?aB ?aS ?aL ?_; (case aO => exact HRW.out.rb); (case aR => exact C_blk (xs := [k5]) HB46 (by simp)); (case aF => exact fun _ _ => trivial); (case aB => exact hHeld.2.2.2.2.out.hb); (case aS => exact hHeld.2.2.2.2.out.hb.size); (case aL => omega)
       intro v1 x4 ho hB hg hat; obtain ⟨A2, n2, c2, rfl⟩ := R_shape ho; have HDQ4 := hHeld.2.2.2.2.out.grown HRW.out.rb hg hB; replace HRW := qab.mk (HRW.out.growB ho hB hg hat); clear ho hg hB hat
       refine hK.out _ _ (HT.out _ HDQ4) (fun hHeld => ?_); clear hK K HDQ4; refine zn 63 ?_
       exact norm_ (by simp only [putAll, Act.put, qzA, qzB, qzC]) (hCont (A1, n1, c1, A2, n2, c2, g39, g46) _ ⟨hHeld, HRW.out⟩)
      ·
       refine value_ (w1 := ?_) (v := ?_) (by rfl) rfl ?_ ?_; rotate_left 2; (focus (go_simp; constructor; rfl; rfl))
       obtain ⟨x2, g46, e1_, e2_, HB46, hb_⟩ := allocX x1 (.cells #[.int .i64 k5] 3); rw [e1_, e2_]; have NE46 : (Value.slice cA cn cc).ownBlock ≠ some g46 := fun e_ => (by have := Kd.R_lt HRW.out.ra _ e_; omega); clear e1_ e2_; replace HRW := qab.mk (HRW.out.below hb_); (try (replace HB39 := qad HB39 hb_))
       refine hK.out _ _ (HT.out _ (hHeld.2.2.2.2.out.below hb_)) (fun hHeld => ?_); clear hK K hb_; refine zn 62 ?_
       refine one_ (i := 6) (N := some 56) (msk 18 13) rfl rfl (by kernel_rfl) (by decide) (fun K hK => ?_)
       refine Kd.R_append_rows_step (Kd.int .i64) (w0 := w5) w5.heap.size (by rfl) (.tmp 51) (.tmp 55) 23 3 (.int .i64 0) 8 rfl Try.underlying23 info3 rfl (by decide) (by omega) (.slice cA cn cc) lc [k2] (some ⟨g39, 0, none⟩) 1 1 (fun _ => True) (fun _ => False) rfl rfl ?aO ?aR (fun _ _ h => h) (fun _ h => h.elim) ?aF ?aB ?aS ?aL ?_; (case aO => exact HRW.out.ra); (case aR => exact C_blk (xs := [k2]) HB39 (by simp)); (case aF => exact fun _ _ => trivial); (case aB => exact hHeld.2.2.2.2.out.hb); (case aS => exact hHeld.2.2.2.2.out.hb.size); (case aL => omega)
       intro v1 x4 ho hB hg hat; obtain ⟨A1, n1, c1, rfl⟩ := R_shape ho; have HDQ4 := hHeld.2.2.2.2.out.grown HRW.out.ra hg hB; replace HB46 := blk_grown HB46 hg (fun e_ => NE46 e_.symm); replace HRW := qab.mk (HRW.out.growA ho hB hg hat); clear ho hg hB hat
       refine hK.out _ _ (HT.out _ HDQ4) (fun hHeld => ?_); clear hK K HDQ4; refine zn 56 ?_
       refine zqg #[true, true, true, true, true, true, true, true, true, true, true, true, true, false, true, false, false, false] 14 64 ?_
       refine one_ (i := 13) (N := some 63) (msk 18 15) rfl rfl (by kernel_rfl) (by decide) (fun K hK => ?_)
       refine Kd.R_append_rows_step (Kd.int .i64) (w0 := w5) w5.heap.size (by rfl) (.tmp 58) (.tmp 62) 23 3 (.int .i64 0) 8 rfl Try.underlying23 info3 rfl (by decide) (by omega) (.slice dA dn dc) ld [k5] (some ⟨g46, 0, none⟩) 1 1 (fun _ => True) (fun _ => False) rfl rfl ?aO ?aR (fun _ _ h => h) (fun _ h => h.elim) ?aF ?aB ?aS ?aL ?_; (case aO => exact HRW.out.rb); (case aR => exact C_blk (xs := [k5]) HB46 (by simp)); (case aF => exact fun _ _ => trivial); (case aB => exact hHeld.2.2.2.2.out.hb); (case aS => exact hHeld.2.2.2.2.out.hb.size); (case aL => omega)
       intro v1 x4 ho hB hg hat; obtain ⟨A2, n2, c2, rfl⟩ := R_shape ho; have HDQ4 := hHeld.2.2.2.2.out.grown HRW.out.rb hg hB; replace HRW := qab.mk (HRW.out.growB ho hB hg hat); clear ho hg hB hat
       refine hK.out _ _ (HT.out _ HDQ4) (fun hHeld => ?_); clear hK K HDQ4; refine zn 63 ?_
       exact norm_ (by simp only [putAll, Act.put, qzA, qzB, qzC]) (hCont (A1, n1, c1, A2, n2, c2, g39, g46) _ ⟨hHeld, HRW.out⟩)
     ·
      refine value_ (w1 := ?_) (v := ?_) (by rfl) rfl ?_ ?_; rotate_left 2; (focus (go_simp; constructor; rfl; rfl))
      obtain ⟨x1, g46, e1_, e2_, HB46, hb_⟩ := allocX xw (.cells #[.int .i64 k5] 3); rw [e1_, e2_]; have NE46 : (Value.slice cA cn cc).ownBlock ≠ some g46 := fun e_ => (by have := Kd.R_lt HRW.out.ra _ e_; omega); clear e1_ e2_; replace HRW := qab.mk (HRW.out.below hb_); (try (replace HB39 := qad HB39 hb_))
      refine hK.out _ _ (HT.out _ (hHeld.2.2.2.2.out.below hb_)) (fun hHeld => ?_); clear hK K hb_; refine zn 62 ?_
      refine one_ (i := 5) (N := some 55) #[true, true, true, true, true, true, false, true, true, true, true, true, true, false, false, false, false, false] rfl rfl (by kernel_rfl) (by decide) (fun K hK => ?_)
      refine value_ (w1 := ?_) (v := ?_) (by rfl) rfl ?_ ?_; rotate_left 2; (focus (go_simp; constructor; rfl; rfl))
      obtain ⟨x2, g39, e1_, e2_, HB39, hb_⟩ := allocX x1 (.cells #[.int .i64 k2] 3); rw [e1_, e2_]; clear e1_ e2_; replace HRW := qab.mk (HRW.out.below hb_); (try (replace HB46 := qad HB46 hb_))
      refine hK.out _ _ (HT.out _ (hHeld.2.2.2.2.out.below hb_)) (fun hHeld => ?_); clear hK K hb_; refine zn 55 ?_
      refine one_ (i := 6) (N := some 56) (msk 18 13) rfl rfl (by kernel_rfl) (by decide) (fun K hK => ?_)
      refine Kd.R_append_rows_step (Kd.int .i64) (w0 := w5) w5.heap.size (by rfl) (.tmp 51) (.tmp 55) 23 3 (.int .i64 0) 8 rfl Try.underlying23 info3 rfl (by decide) (by omega) (.slice cA cn cc) lc [k2] (some ⟨g39, 0, none⟩) 1 1 (fun _ => True) (fun _ => False) rfl rfl ?aO ?aR (fun _ _ h => h) (fun _ h => h.elim) ?aF ?aB ?aS ?aL ?_; (case aO => exact HRW.out.ra); (case aR => exact C_blk (xs := [k2]) HB39 (by simp)); (case aF => exact fun _ _ => trivial); (case aB => exact hHeld.2.2.2.2.out.hb); (case aS => exact hHeld.2.2.2.2.out.hb.size); (case aL => omega)
      intro v1 x4 ho hB hg hat; obtain ⟨A1, n1, c1, rfl⟩ := R_shape ho; have HDQ4 := hHeld.2.2.2.2.out.grown HRW.out.ra hg hB; replace HB46 := blk_grown HB46 hg (fun e_ => NE46 e_.symm); replace HRW := qab.mk (HRW.out.growA ho hB hg hat); clear ho hg hB hat
      refine hK.out _ _ (HT.out _ HDQ4) (fun hHeld => ?_); clear hK K HDQ4; refine zn 56 ?_
      refine zqg #[true, true, true, true, true, true, true, true, true, true, true, true, true, false, true, false, false, false] 14 64 ?_
      refine one_ (i := 13) (N := some 63) (msk 18 15) rfl rfl (by kernel_rfl) (by decide) (fun K hK => ?_)
      refine Kd.R_append_rows_step (Kd.int .i64) (w0 := w5) w5.heap.size (by rfl) (.tmp 58) (.tmp 62) 23 3 (.int .i64 0) 8 rfl Try.underlying23 info3 rfl (by decide) (by omega) (.slice dA dn dc) ld [k5] (some ⟨g46, 0, none⟩) 1 1 (fun _ => True) (fun _ => False) rfl rfl ?aO ?aR (fun _ _ h => h) (fun _ h => h.elim) ?aF ?aB ?aS ?aL ?_; (case aO => exact HRW.out.rb); (case aR => exact C_blk (xs := [k5]) HB46 (by simp)); (case aF => exact fun _ _ => trivial); (case aB => exact hHeld.2.2.2.2.out.hb); (case aS => exact hHeld.2.2.2.2.out.hb.size); (case aL => omega)
      intro v1 x4 ho hB hg hat; obtain ⟨A2, n2, c2, rfl⟩ := R_shape ho; have HDQ4 := hHeld.2.2.2.2.out.grown HRW.out.rb hg hB; replace HRW := qab.mk (HRW.out.growB ho hB hg hat); clear ho hg hB hat
      refine hK.out _ _ (HT.out _ HDQ4) (fun hHeld => ?_); clear hK K HDQ4; refine zn 63 ?_
      exact norm_ (by simp only [putAll, Act.put, qzA, qzB, qzC]) (hCont (A1, n1, c1, A2, n2, c2, g39, g46) _ ⟨hHeld, HRW.out⟩)
    rintro ⟨A1, n1, c1, A2, n2, c2, g39, g46⟩ xj ⟨hHeld, hR_⟩; simp only [putAll, Act.put, qzA, qzB, qzC]
    have HRW := qab.mk hR_; clear hR_; have HDQx := qab.mk hHeld.2.2.2.2.out; have HDQ2 := qab.mk (HDQx.out.put (.slice A1 n1 c1) (.slice A2 n2 c2)); have HROW2 := qab.mk ((HRW.out.set HDQx.out.xT HDQx.out.lT 1 (.slice A1 n1 c1)).set (blk_set HDQx.out.xT 1 (.slice A1 n1 c1)) HDQx.out.lT 2 (.slice A2 n2 c2)); have fr5 := qac HDQx.out.xT; have c51 := qaa HDQx.out.xT 1; have fr52 := qac (blk_set HDQx.out.xT 1 (.slice A1 n1 c1)); have c52 := qaa (blk_set HDQx.out.xT 1 (.slice A1 n1 c1)) 2
    refine last_ (i := 15) (N := none) (msk 18 16) rfl rfl (by kernel_rfl) (by decide) (fun K hK => ?_); refine skip_ (w1 := ?_) (by rfl) rfl ?_ ?_; rotate_left; (focus (go_simp; rfl)); refine hK.out _ _ ?_; clear hK K hHeld
    refine zq 16 17 65 ?_
    refine last_ (i := 17) (N := none) (msk 18 18) rfl rfl (by kernel_rfl) (by decide) (fun K hK => ?_); refine skip_ (w1 := ?_) (by rfl) rfl ?_ ?_; rotate_left; (focus (go_simp; rfl)); refine hK.out _ _ ?_; clear hK K
    refine done_ (by kernel_rfl) ?_
    have HDQ3 := HDQ2; have HROW3 := HROW2; clear HDQ2 HROW2 fr5 c51 fr52 c52 hHeld HRW HDQx; generalize (xj.setCell ⟨g6, 1, none⟩ (.slice A1 n1 c1)).setCell ⟨g6, 2, none⟩ (.slice A2 n2 c2) = w_9 at HDQ3 HROW3 ⊢
    go_wp2
    go_roundw
    case rel => exact ⟨i + 1, eA, fA, A1, A2, en, ec, fn_, fc, n1, c1, n2, c2, by omega, by go_num, ⟨by rw [HC1.out, HC2.out, HC3.out, HC4.out]; exact HROW3.out.swap⟩, ⟨HDQ3.out.xU⟩, ⟨HDQ3.out.xT⟩⟩
    case measure => simp [intOf]; omega
   ·
    have hiE : i = l0_5.length := by omega
    have HX : qab (Rows4 w5 (.slice aA an ac) (.slice bA bn bc) (.slice cA cn cc) (.slice dA dn dc) (l0_5.map (·.f2.f1)) (l0_5.map (·.f3.f0)) (l0_5.map (·.f2.f0)) (l0_5.map (·.f3.f1)) wr) := ⟨by have h := HROW.out; rw [hiE, colL_all, colL_all, colL_all, colL_all] at h; exact h⟩
    have HTR1 := qab.mk (truth_most HV.out)
    have HTR2 := qab.mk (truth_least HV.out)
    rw [← HT1.out] at HTR1
    rw [← HT2.out] at HTR2
    have HA1 : qab (A = (pourV l0_5 l0_4.length T1 (l0_5.map (·.f2.f1)) (l0_5.map (·.f3.f0))).1 ∧ A.length = l0_5.length) := ⟨by rw [HAE.out, HT1.out]; exact ⟨rfl, pourTo_len _ _ _ _ _ _⟩⟩
    have HA2 : qab (B = (pourV l0_5 l0_4.length T2 (l0_5.map (·.f2.f0)) (l0_5.map (·.f3.f1))).1 ∧ B.length = l0_5.length) := ⟨by rw [HBE.out, HT2.out]; exact ⟨rfl, pourTo_len _ _ _ _ _ _⟩⟩
    generalize l0_5.map (·.f2.f1) = VH at HX HTR1 HA1
    generalize l0_5.map (·.f3.f0) = RL at HX HTR1 HA1
    generalize l0_5.map (·.f2.f0) = VL at HX HTR2 HA2
    generalize l0_5.map (·.f3.f1) = RH at HX HTR2 HA2
    have ra := Kd.R_reads' HX.out.ra
    have rb := Kd.R_reads' HX.out.rb
    have rc := Kd.R_reads' HX.out.rc
    have rd_ := Kd.R_reads' HX.out.rd
    have r1 := Kd.R_reads' (Kd.qal HR1.out HX.out.hb)
    have r2 := Kd.R_reads' (Kd.qal HR2.out HX.out.hb)
    have hBw := qae HB.out HX.out.hb
    obtain rfl : an = VH.length := by have := ra.1; omega
    obtain rfl : bn = RL.length := by have := rb.1; omega
    obtain rfl : cn = VL.length := by have := rc.1; omega
    obtain rfl : dn = RH.length := by have := rd_.1; omega
    obtain rfl : t1n = T1.length := by have := r1.1; omega
    obtain rfl : t2n = T2.length := by have := r2.1; omega
    have HP1 : qab (∀ W, Below wr.heap.size wr W → Calls Try.prog 86 #[.agg #[.int .i64 a0_0, .slice A0_1 l0_1.length c0_1, .slice A0_2 l0_2.length c0_2, .slice A0_3 l0_3.length c0_3, .slice A0_4 l0_4.length c0_4, .slice A0_5 l0_5.length c0_5], .agg #[.slice t1A T1.length t1c, .slice aA VH.length ac, .slice bA RL.length bc]] W fun e w' => ∃ v p1 p2 p3, e = .returned (.tuple #[v, .agg #[.int .i64 p1, .int .i64 p2, .int .i64 p3]]) ∧ Kd.R (Kd.int .i64) 3 w' W.heap.size (fun _ => True) v A ∧ Below W.heap.size W w') := ⟨fun W hW => by
     rw [HA1.out.1]
     exact (HPO.out W T1 VH RL t1A aA bA t1c ac bc (qae hBw hW) (Kd.qai r1.2.2 hW) (Kd.qai ra.2.2 hW) ra.2.1 (Kd.qai rb.2.2 hW) HTR1.out).mono fun e w' ⟨v, p2, p3, h1, h2, h3⟩ => ⟨v, _, p2, p3, h1, h2, h3⟩⟩
    have HP2 : qab (∀ W, Below wr.heap.size wr W → Calls Try.prog 86 #[.agg #[.int .i64 a0_0, .slice A0_1 l0_1.length c0_1, .slice A0_2 l0_2.length c0_2, .slice A0_3 l0_3.length c0_3, .slice A0_4 l0_4.length c0_4, .slice A0_5 l0_5.length c0_5], .agg #[.slice t2A T2.length t2c, .slice cA VL.length cc, .slice dA RH.length dc]] W fun e w' => ∃ v p1 p2 p3, e = .returned (.tuple #[v, .agg #[.int .i64 p1, .int .i64 p2, .int .i64 p3]]) ∧ Kd.R (Kd.int .i64) 3 w' W.heap.size (fun _ => True) v B ∧ Below W.heap.size W w') := ⟨fun W hW => by
     rw [HA2.out.1]
     exact (HPO.out W T2 VL RH t2A cA dA t2c cc dc (qae hBw hW) (Kd.qai r2.2.2 hW) (Kd.qai rc.2.2 hW) rc.2.1 (Kd.qai rd_.2.2 hW) HTR2.out).mono fun e w' ⟨v, p2, p3, h1, h2, h3⟩ => ⟨v, _, p2, p3, h1, h2, h3⟩⟩
    have BKb2 := qab.mk (qad BKgb.out HX.out.hb)
    have HBw := qab.mk hBw
    clear ra rb rc rd_ r1 r2 hBw BKgb HB HROW HX hiE HPO HTR1 HTR2 HT1 HT2 HR1 HR2
    have BKgb := BKb2
    have HB := qab.mk (Below.refl wr.heap.size wr)
    clear BKb2
    obtain ⟨hfgb, hcgb_0, hcgb_1, hcgb_2, hcgb_3, hcgb_4, hcgb_5⟩ := qz6 BKgb.out
    obtain ⟨hfg5, hcg5_0, hcg5_1, hcg5_2⟩ := qz3 BKg5.out
    go_upto_region 12 with (first | (go_at_call 86; (with_reducible refine (HP1.out _ HB.out).mono ?_); rintro e wp ⟨v1, p1, p2, p3, rfl, hR, hb⟩; obtain ⟨vA, vn, vc, rfl⟩ := R_shape hR; have HRA := qab.mk (Kd.R_lower hR (Nat.le_trans HBw.out.size HB.out.size)); clear hR; clear hfgb hcgb_0 hcgb_1 hcgb_2 hcgb_3 hcgb_4 hcgb_5 hfg5 hcg5_0 hcg5_1 hcg5_2; replace BKgb := qab.mk (qad BKgb.out hb); replace BKg6 := qab.mk (qad BKg6.out hb); replace HB := qab.mk (qae HB.out hb); clear hb) | ((with_reducible refine qam (N := 10) rfl ?_); refine ze 10 #[.int .i64 0, .int .i64 0, .int .i64 0] 70 ?_; intro g10 hg_g10 w11 hbox hb; have BKg10 := qab.mk hbox; have ne_gb_g10 : gb ≠ g10 := (by rw [hg_g10]; exact Nat.ne_of_lt (blk_lt BKgb.out)); have ne_g6_g10 : g6 ≠ g10 := (by rw [hg_g10]; exact Nat.ne_of_lt (blk_lt BKg6.out)); replace BKgb := qab.mk (qad BKgb.out hb); replace BKg6 := qab.mk (qad BKg6.out hb); have n_HB := qab.mk (qae HB.out hb); have GEg10 : wr.heap.size ≤ g10 := (by rw [hg_g10]; exact HB.out.size); clear HB; have HB := n_HB; clear n_HB; obtain ⟨hfg10, hcg10_0, hcg10_1, hcg10_2⟩ := qz3 BKg10.out; replace HRA := qab.mk (Kd.qal HRA.out hb); clear hbox hb hg_g10))
    clear hfg10 hcg10_0 hcg10_1 hcg10_2
    have he_ : setAll w11 g10 [.int .i64 p1, .int .i64 p2, .int .i64 p3] 0 = (((w11.setCell ⟨g10, 0, none⟩ (.int .i64 p1)).setCell ⟨g10, 1, none⟩ (.int .i64 p2)).setCell ⟨g10, 2, none⟩ (.int .i64 p3)) := rfl; have hbl := setAll_below GEg10 [.int .i64 p1, .int .i64 p2, .int .i64 p3] 0 _ HB.out; have hbx : (setAll w11 g10 [.int .i64 p1, .int .i64 p2, .int .i64 p3] 0).heap[g10]? = some (.cells #[.int .i64 p1, .int .i64 p2, .int .i64 p3] 70 (0, 0)) := setAll_new [.int .i64 p1, .int .i64 p2, .int .i64 p3] [.int .i64 0, .int .i64 0, .int .i64 0] BKg10.out rfl; have hx_BKgb := setAll_far ne_gb_g10 [.int .i64 p1, .int .i64 p2, .int .i64 p3] 0 _ BKgb.out; have hx_BKg6 := setAll_far ne_g6_g10 [.int .i64 p1, .int .i64 p2, .int .i64 p3] 0 _ BKg6.out; have hy_HRA := setAll_R (g := g10) (by decide) [.int .i64 p1, .int .i64 p2, .int .i64 p3] 0 w11 _ BKg10.out HRA.out; rw [he_] at hy_HRA hbl hbx hx_BKgb hx_BKg6; clear he_; generalize (((w11.setCell ⟨g10, 0, none⟩ (.int .i64 p1)).setCell ⟨g10, 1, none⟩ (.int .i64 p2)).setCell ⟨g10, 2, none⟩ (.int .i64 p3)) = w12 at hy_HRA hbl hbx hx_BKgb hx_BKg6 ⊢; clear HB BKg10; have HB := qab.mk hbl; have BKg10 := qab.mk hbx; clear hbl hbx; clear BKgb; have BKgb := qab.mk hx_BKgb; clear hx_BKgb; clear BKg6; have BKg6 := qab.mk hx_BKg6; clear hx_BKg6; clear HRA; have HRA := qab.mk hy_HRA; clear hy_HRA
    obtain ⟨hfgb, hcgb_0, hcgb_1, hcgb_2, hcgb_3, hcgb_4, hcgb_5⟩ := qz6 BKgb.out
    obtain ⟨hfg6, hcg6_0, hcg6_1, hcg6_2⟩ := qz3 BKg6.out
    go_upto_region 13 with (first | (go_at_call 86; (with_reducible refine (HP2.out _ HB.out).mono ?_); rintro e wq ⟨v2, p4, p5, p6, rfl, hR, hb⟩; obtain ⟨uA, un, uc, rfl⟩ := R_shape hR; have HRB := qab.mk (Kd.R_lower hR (Nat.le_trans HBw.out.size HB.out.size)); clear hR; replace HRA := qab.mk (Kd.qal HRA.out hb); clear hfgb hcgb_0 hcgb_1 hcgb_2 hcgb_3 hcgb_4 hcgb_5 hfg6 hcg6_0 hcg6_1 hcg6_2; replace BKgb := qab.mk (qad BKgb.out hb); replace HB := qab.mk (qae HB.out hb); clear hb) | ((with_reducible refine qam (N := 12) rfl ?_); refine ze 12 #[.int .i64 0, .int .i64 0, .int .i64 0] 70 ?_; intro g12 hg_g12 w13 hbox hb; have BKg12 := qab.mk hbox; have ne_gb_g12 : gb ≠ g12 := (by rw [hg_g12]; exact Nat.ne_of_lt (blk_lt BKgb.out)); replace BKgb := qab.mk (qad BKgb.out hb); have n_HB := qab.mk (qae HB.out hb); have GEg12 : wr.heap.size ≤ g12 := (by rw [hg_g12]; exact HB.out.size); clear HB; have HB := n_HB; clear n_HB; obtain ⟨hfg12, hcg12_0, hcg12_1, hcg12_2⟩ := qz3 BKg12.out; replace HRA := qab.mk (Kd.qal HRA.out hb); replace HRB := qab.mk (Kd.qal HRB.out hb); clear hbox hb hg_g12))
    clear hfg12 hcg12_0 hcg12_1 hcg12_2
    have he_ : setAll w13 g12 [.int .i64 p4, .int .i64 p5, .int .i64 p6] 0 = (((w13.setCell ⟨g12, 0, none⟩ (.int .i64 p4)).setCell ⟨g12, 1, none⟩ (.int .i64 p5)).setCell ⟨g12, 2, none⟩ (.int .i64 p6)) := rfl; have hbl := setAll_below GEg12 [.int .i64 p4, .int .i64 p5, .int .i64 p6] 0 _ HB.out; have hbx : (setAll w13 g12 [.int .i64 p4, .int .i64 p5, .int .i64 p6] 0).heap[g12]? = some (.cells #[.int .i64 p4, .int .i64 p5, .int .i64 p6] 70 (0, 0)) := setAll_new [.int .i64 p4, .int .i64 p5, .int .i64 p6] [.int .i64 0, .int .i64 0, .int .i64 0] BKg12.out rfl; have hx_BKgb := setAll_far ne_gb_g12 [.int .i64 p4, .int .i64 p5, .int .i64 p6] 0 _ BKgb.out; have hy_HRA := setAll_R (g := g12) (by decide) [.int .i64 p4, .int .i64 p5, .int .i64 p6] 0 w13 _ BKg12.out HRA.out; have hy_HRB := setAll_R (g := g12) (by decide) [.int .i64 p4, .int .i64 p5, .int .i64 p6] 0 w13 _ BKg12.out HRB.out; rw [he_] at hy_HRA hy_HRB hbl hbx hx_BKgb; clear he_; generalize (((w13.setCell ⟨g12, 0, none⟩ (.int .i64 p4)).setCell ⟨g12, 1, none⟩ (.int .i64 p5)).setCell ⟨g12, 2, none⟩ (.int .i64 p6)) = w14 at hy_HRA hy_HRB hbl hbx hx_BKgb ⊢; clear HB BKg12; have HB := qab.mk hbl; have BKg12 := qab.mk hbx; clear hbl hbx; clear BKgb; have BKgb := qab.mk hx_BKgb; clear hx_BKgb; clear HRA; have HRA := qab.mk hy_HRA; clear hy_HRA; clear HRB; have HRB := qab.mk hy_HRB; clear hy_HRB
    have f5 : w14.cell? ⟨gb, 5, none⟩ = some (.slice A0_5 l0_5.length c0_5) := (qaa BKgb.out 5).trans rfl
    have HO : qab (Kd.R k41 41 w14 w.heap.size (fun _ => True) (.slice none 0 0) ((List.range 0).map (spanAt A B))) := ⟨Kd.R_nil _ _ _ _ _⟩
    have HBf := qab.mk (qae HBw.out HB.out)
    go_wp2
    clear f5
    go_loopw [13, 82] (fun s13 s82 wr => ∃ (j : Nat) (v : Value), j ≤ l0_5.length ∧ s82 = .int .i64 j ∧ v = s13 ∧ qab (Kd.R k41 41 wr w.heap.size (fun _ => True) v ((List.range j).map (spanAt A B))) ∧ qab (Kd.R (Kd.int .i64) 3 wr w.heap.size (fun _ => True) (.slice vA vn vc) A) ∧ qab (Kd.R (Kd.int .i64) 3 wr w.heap.size (fun _ => True) (.slice uA un uc) B) ∧ qab (Below w.heap.size w wr)) (fun _ s _ => l0_5.length - (intOf s).toNat)
    case atStart => exact ⟨0, _, by omega, rfl, rfl, HO, HRA, HRB, HBf⟩
    case round =>
     clear HO HRA HRB HBf HB HBw BKgb BKg5 BKg10 BKg12 HP1 HP2
     obtain ⟨j, v, hj, rfl, rfl, HO, HA, HBB, HB⟩ := hrel
     by_cases hlt : j < l0_5.length
     ·
      have hja : j < vn := by have h1 := HA1.out.2; have h2 := (Kd.R_reads' HA.out).1; omega
      have hjb : j < un := by have h1 := HA2.out.2; have h2 := (Kd.R_reads' HBB.out).1; omega
      obtain ⟨a, e, q2⟩ := Kd.at_int (Kd.R_reads' HA.out).2.2 j (by omega) (by have := HA1.out.2; omega)
      cases e
      obtain ⟨b, e, q3⟩ := Kd.at_int (Kd.R_reads' HBB.out).2.2 j (by omega) (by have := HA2.out.2; omega)
      cases e
      simp only [Int.toNat_natCast] at q2 q3
      go_upto_region 17 with fail
      refine start_ (n := 13) (S := (fun w' => (w'.cell? (a.add j) = some (.int .i64 (rd A j)) ∧ w'.cell? (b.add j) = some (.int .i64 (rd B j))))) (ds := [10, 11]) (msk 13 0) (by kernel_rfl) rfl rfl ⟨q2, q3⟩ (fun hHeld => ?_)
      have HO2 := qab.mk (Kd.R_drew HO.out); have HB2 := qab.mk (qaq HB.out); have HA2 := qab.mk (Kd.R_drew HA.out); have HBB2 := qab.mk (Kd.R_drew HBB.out)
      generalize wr.drew = wq at hHeld HO2 HB2 HA2 HBB2 ⊢
      refine zq 0 1 85 ?_
      refine zq 1 2 86 ?_
      refine zq 2 3 87 ?_
      refine zq 3 4 88 ?_
      refine zt2 4 5 89 hHeld ?_
      refine zq 5 6 90 ?_
      refine zq 6 7 91 ?_
      refine zq 7 8 92 ?_
      refine zt2 8 9 93 hHeld ?_
      refine zq 9 10 94 ?_
      refine last_ (i := 10) (N := some 95) (msk 13 11) rfl rfl (by kernel_rfl) (by decide) (fun K hK => ?_); refine value_ (w1 := ?_) (v := ?_) (by rfl) rfl ?_ ?_; rotate_left 2; (focus (go_simp; constructor; rfl; rfl)); refine hK.out _ _ ?_; clear hK K; refine zn 95 ?_
      refine last_ (i := 11) (N := some 96) (msk 13 12) rfl rfl (by kernel_rfl) (by decide) (fun K hK => ?_)
      refine Kd.R_append_step k41 (w0 := w) w.heap.size (by rfl) (.tmp 85) (.tmp 95) 24 41 (.agg #[.int .i64 0, .int .i64 0]) 16 rfl Try.underlying24 info41 rfl (by decide) (by omega) v ((List.range j).map (spanAt A B)) (spanAt A B j) [.int .i64 (rd A j), .int .i64 (rd B j)] (fun _ => True) (fun _ => False) rfl rfl ?aP (fun _ hk => hk.elim) ?aF ?aO ?aB ?aS ?aL ?_; (case aP => exact k41_mkM _ _ _ (spanAt A B j)); (case aF => exact fun _ _ => trivial); (case aO => exact HO2.out); (case aB => exact HB2.out); (case aS => exact HB2.out.size); (case aL => simp; omega); intro v1 w1 ho hB hg hat
      have HO3 := qab.mk ho; have HB3 := qab.mk hB; have HA3 := qab.mk (Kd.R_over' HA2.out (Kd.R_typed HO2.out) (by decide) hg); have HBB3 := qab.mk (Kd.R_over' HBB2.out (Kd.R_typed HO2.out) (by decide) hg); clear ho hB hg hat
      refine hK.out _ _ ?_; clear hK K; refine zn 96 ?_
      refine zq 12 13 13 ?_
      refine done_ (by kernel_rfl) ?_
      go_wp2
      go_roundw
      case rel => exact ⟨j + 1, v1, by omega, by go_num, rfl, ⟨by rw [List.range_succ, List.map_append]; exact HO3.out⟩, HA3, HBB3, HB3⟩
      case measure => simp [intOf]; omega
     ·
      have hjE : j = l0_5.length := by omega
      have HO4 : qab (Kd.R k41 41 wr w.heap.size (fun _ => True) v ((List.range l0_5.length).map (spanAt A B))) := ⟨by rw [← hjE]; exact HO.out⟩
      clear hjE HO
      go_wp2
      go_ret2
      exact ⟨v, rfl, HO4.out, HB.out⟩
end Go.Proofs.Ytafkanmioinbiaa.SA
