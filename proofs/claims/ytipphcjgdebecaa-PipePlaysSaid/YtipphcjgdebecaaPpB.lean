/- Parts of a proof about the pipe seat's laws: what the functions of the program answer. No condition of its own. -/
import Derived.Test.YtipphcjgdebecaaPpA
import Derived.Deep.Slices
import Derived.Lib.SmallJoins
import Derived.ChangeOld
import Derived.ProofKit
import Derived.RangeFuncNested
import Derived.RangeFuncBound
import Derived.RangeFuncCalls
import Derived.RangeFuncLeaves
import Derived.RangeFuncBox
import Derived.Shelf.Abstract
import Derived.Shelf.RegionOpen
import Derived.OwnWalkIn
import Derived.TacticsInMore
import Derived.LoopNIn
import Derived.LoopIn
import Derived.Recover
import Derived.Defers
import Derived.WalkLawsBesides
import Derived.WalkSmall
namespace Go.Proofs.Ytipphcjgdebecaa.PA
open Go.RowKit Go.Proofs.YtipphcjgdebecaaW.PrintWords Go.Proofs.YtipphcjgdebecaaW.PrintLast Go.Proofs.YtipphcjgdebecaaW.PrintMore
attribute [local go_sem] max2_int min2_int max_two min_two max_three min_three max_four min_four
set_option linter.unusedVariables false
set_option linter.unusedSimpArgs false
structure Sp where
 p : Int
 h : Int
 r : Int
 deriving DecidableEq
def spV (s : Sp) : Value := .agg #[.int .i64 s.p, .int .i64 s.h, .int .i64 s.r]
def hourV (l0 : List S39) (l2 : List (List Int)) (s : Sp) (i : Int) : Int := wrap64 (wrap64 (s.h + rd (rd_L1 l2 s.p) (i + 1)) + (rd_T39 l0 i).f7.f1)
def nextV (l0 : List S39) (l2 : List (List Int)) (s : Sp) (i : Int) : Sp := ⟨i + 1, hourV l0 l2 s i, bits .andNot .i64 s.r (wrap64 (2 ^ i.toNat))⟩
theorem spV_eq (p h r : Int) : spV ⟨p, h, r⟩ = .agg #[.int .i64 p, .int .i64 h, .int .i64 r] := rfl
theorem lateIface (i : Int) (W : World) : (Instr.makeInterface 137 (.agg #[.int .i64 i])).run Try.prog W = .ok (.iface 137 (.agg #[.int .i64 i])) W := by kernel_rfl
set_option maxRecDepth 100000 in
set_option maxHeartbeats 4000000 in
theorem repairs_calls (A0 : Option Addr) (c0 : Nat) (l0 : List S39) (v1 : Value) (A2 : Option Addr) (c2 : Nat) (l2 : List (List Int)) (wp : Int) (s : Sp) (i : Int) (A3 : Option Addr) (c3 : Nat) (D : List Int) (w : World)
  (hr0 : Kd.C k39 w A0 l0.length l0) (hr2 : Kd.C (Kd.slice 3 (Kd.int .i64)) w A2 l2.length l2) (hr3 : Kd.C (Kd.int .i64) w A3 D.length D)
  (p0 : 0 ≤ s.p) (p1 : s.p < l2.length) (i0 : 0 ≤ i) (i1 : i < l0.length) (i2 : i + 1 < (rd_L1 l2 s.p).length) (i3 : i < D.length) (i4 : i < 60) :
  Calls Try.prog 104 #[.agg #[.slice A0 l0.length c0, v1, .slice A2 l2.length c2, .int .i64 wp], spV s, .int .i64 i, .slice A3 D.length c3] w fun e w' =>
   (if hourV l0 l2 s i > rd D i then e = .panicked [{ v := .iface 137 (.agg #[.int .i64 i]), recovered := false }] else e = .returned (.tuple #[spV (nextV l0 l2 s i), .int .i64 (wrap64 (rd D i - hourV l0 l2 s i))])) ∧ Below w.heap.size w w' := by
 have hu26 := Try.underlying26
 have hu99 := Try.underlying99
 have hu39 := Try.underlying39
 have hu37 := Try.underlying37
 have hu123 := Try.underlying123
 have hli := lateIface
 obtain ⟨p, h, r⟩ := s
 dsimp only at p0 p1 i2
 obtain ⟨ad, e, hl0, hl1, hl2, hl3, hl4, hl5, hl6, hl7, hl8, hl9, hl10, hl11⟩ := at_T39 hr0 i i0 i1
 cases e
 clear hl0 hl1 hl2 hl3 hl4 hl5 hl6 hl7 hl8 hl9 hl10
 obtain ⟨ad2, A4, c4, e, hrow, hl4, hC⟩ := at_L1 hr2 p p0 p1
 cases e
 obtain ⟨ad4, e, hx⟩ := Kd.at_int hC (i + 1) (by omega) i2
 cases e
 obtain ⟨ad3, e, hd⟩ := Kd.at_int hr3 i i0 i3
 cases e
 clear hC hr0 hr2 hr3
 obtain ⟨n, rfl⟩ := Int.eq_ofNat_of_zero_le i0
 obtain ⟨m, rfl⟩ := Int.eq_ofNat_of_zero_le p0
 simp only [Int.toNat_natCast] at hl11 hrow hd
 obtain ⟨row, hrw⟩ : ∃ row, row = rd_L1 l2 m := ⟨_, rfl⟩
 obtain ⟨hV, hVe⟩ : ∃ hV, hV = hourV l0 l2 ⟨m, h, r⟩ n := ⟨_, rfl⟩
 have HV := Aside0.mk hVe
 unfold hourV at hVe
 dsimp only at hVe
 rw [← hrw] at hrow hx hl4 i2 hVe
 have HB := Aside0.mk (Below.refl w.heap.size w)
 have hx1 : w.cell? ⟨ad4.block, ad4.off + (n + 1), none⟩ = some (.int .i64 (rd row (n + 1))) := by show w.cell? (ad4.add (n + 1)) = _; rw [show (n + 1 : Nat) = ((n : Int) + 1).toNat from by omega]; exact hx
 clear hx
 have hw1 : IntKind.i64.wrap ((n : Int) + 1) = (n : Int) + 1 := by rw [i64_w]; unfold wrap64; omega
 have hw2 : (0 : Int) ≤ (n : Int) + 1 := by omega
 by_cases hlate : hV > rd D n
 ·
  rw [← HV.out]
  simp only [if_pos hlate]
  simp only [spV_eq]
  have hlt : hV > rd D n := hlate
  clear hlate
  have H2 := Aside0.mk hrw
  clear hrw
  go_enter Try.func104, Try.ntmps104
  go_wp2_with (first | ((with_reducible refine gate_dst (N := 4) rfl ?_); refine box_event ?hg (N := 4) ?hd (cs := #[.slice (some ad) l0.length c0, v1, .slice (some ad2) l2.length c2, .int .i64 wp]) (t := 99) ?hr ?_; (case hd => rfl); (case hg => rfl); (case hr => first | (go_simp; done) | (go_simp; rfl)); intro gb hg_gb w2 hbox hb; have BKgb := Aside0.mk hbox; have n_HB := Aside0.mk (below_step HB.out hb); have GEgb : w.heap.size ≤ gb := (by rw [hg_gb]; exact HB.out.size); clear HB; have HB := n_HB; clear n_HB; have hfgb := blk_frozen BKgb.out; have hcgb_0 : w2.cell? ⟨gb, 0, none⟩ = some (.slice (some ad) l0.length c0) := (blk_cell BKgb.out 0).trans rfl; have hcgb_1 : w2.cell? ⟨gb, 1, none⟩ = some (v1) := (blk_cell BKgb.out 1).trans rfl; have hcgb_2 : w2.cell? ⟨gb, 2, none⟩ = some (.slice (some ad2) l2.length c2) := (blk_cell BKgb.out 2).trans rfl; have hcgb_3 : w2.cell? ⟨gb, 3, none⟩ = some (.int .i64 wp) := (blk_cell BKgb.out 3).trans rfl; clear hbox hb hg_gb) | ((with_reducible refine gate_dst (N := 5) rfl ?_); refine box_event ?hg (N := 5) ?hd (cs := #[.int .i64 m, .int .i64 h, .int .i64 r]) (t := 123) ?hr ?_; (case hd => rfl); (case hg => rfl); (case hr => first | (go_simp; done) | (go_simp; rfl)); intro gs hg_gs w3 hbox hb; have BKgs := Aside0.mk hbox; have n_BKgb := Aside0.mk (blk_below BKgb.out hb); clear BKgb; have BKgb := n_BKgb; clear n_BKgb; have n_HB := Aside0.mk (below_step HB.out hb); have GEgs : w.heap.size ≤ gs := (by rw [hg_gs]; exact HB.out.size); clear HB; have HB := n_HB; clear n_HB; have hfgs := blk_frozen BKgs.out; have hcgs_0 : w3.cell? ⟨gs, 0, none⟩ = some (.int .i64 m) := (blk_cell BKgs.out 0).trans rfl; have hcgs_1 : w3.cell? ⟨gs, 1, none⟩ = some (.int .i64 h) := (blk_cell BKgs.out 1).trans rfl; have hcgs_2 : w3.cell? ⟨gs, 2, none⟩ = some (.int .i64 r) := (blk_cell BKgs.out 2).trans rfl; clear hbox hb hg_gs))
  clear hfgb hcgb_0 hcgb_1 hcgb_2 hcgb_3 hfgs hcgs_0 hcgs_1 hcgs_2
  have hbk := blk_new w3 (.cells #[.int .i64 0, .int .i64 0, .int .i64 0] 123); have hb : Below w3.heap.size w3 (w3.alloc (.cells #[.int .i64 0, .int .i64 0, .int .i64 0] 123)) := (Below.refl _ _).alloc (Nat.le_refl _) _; generalize hw_ : (w3.alloc (.cells #[.int .i64 0, .int .i64 0, .int .i64 0] 123)) = w4 at hbk hb ⊢; clear hw_; have n_BKgb := Aside0.mk (blk_below BKgb.out hb); clear BKgb; have BKgb := n_BKgb; clear n_BKgb; have n_BKgs := Aside0.mk (blk_below BKgs.out hb); clear BKgs; have BKgs := n_BKgs; clear n_BKgs; have GEgr : w.heap.size ≤ w3.heap.size := HB.out.size; have n_HB := Aside0.mk (below_step HB.out hb); clear HB; have HB := n_HB; clear n_HB; clear hb; generalize hg_ : w3.heap.size = gr at hbk GEgr ⊢; clear hg_; have BKgr := Aside0.mk hbk; clear hbk; have hfgr := blk_frozen BKgr.out; have hcgr_0 : w4.cell? ⟨gr, 0, none⟩ = some (.int .i64 0) := (blk_cell BKgr.out 0).trans rfl; have hcgr_1 : w4.cell? ⟨gr, 1, none⟩ = some (.int .i64 0) := (blk_cell BKgr.out 1).trans rfl; have hcgr_2 : w4.cell? ⟨gr, 2, none⟩ = some (.int .i64 0) := (blk_cell BKgr.out 2).trans rfl; have hfgb := blk_frozen BKgb.out; have hcgb_0 : w4.cell? ⟨gb, 0, none⟩ = some (.slice (some ad) l0.length c0) := (blk_cell BKgb.out 0).trans rfl; have hcgb_1 : w4.cell? ⟨gb, 1, none⟩ = some (v1) := (blk_cell BKgb.out 1).trans rfl; have hcgb_2 : w4.cell? ⟨gb, 2, none⟩ = some (.slice (some ad2) l2.length c2) := (blk_cell BKgb.out 2).trans rfl; have hcgb_3 : w4.cell? ⟨gb, 3, none⟩ = some (.int .i64 wp) := (blk_cell BKgb.out 3).trans rfl; have hfgs := blk_frozen BKgs.out; have hcgs_0 : w4.cell? ⟨gs, 0, none⟩ = some (.int .i64 m) := (blk_cell BKgs.out 0).trans rfl; have hcgs_1 : w4.cell? ⟨gs, 1, none⟩ = some (.int .i64 h) := (blk_cell BKgs.out 1).trans rfl; have hcgs_2 : w4.cell? ⟨gs, 2, none⟩ = some (.int .i64 r) := (blk_cell BKgs.out 2).trans rfl; replace hl11 := (HB.out.cell (World.block_lt_of_cell? w _ hl11)).trans hl11; replace hrow := (HB.out.cell (World.block_lt_of_cell? w _ hrow)).trans hrow; replace hd := (HB.out.cell (World.block_lt_of_cell? w _ hd)).trans hd; replace hx1 := (HB.out.cell (World.block_lt_of_cell? w _ hx1)).trans hx1
  have ne0 := World.new_ne w4 _ hl11
  have ne1 := World.new_ne w4 _ hrow
  have ne2 := World.new_ne w4 _ hd
  have ne3 := World.new_ne w4 _ hx1
  clear BKgb BKgs BKgr
  go_region_held3 (fun w' => w'.cell? ⟨gb, 0, none⟩ = some (.slice (some ad) l0.length c0) ∧ w'.cell? ⟨gb, 2, none⟩ = some (.slice (some ad2) l2.length c2) ∧ w'.cell? ⟨gs, 0, none⟩ = some (.int .i64 m) ∧ w'.cell? ⟨gs, 1, none⟩ = some (.int .i64 h) ∧ w'.cell? ⟨(ad.add (n * 12)).block, (ad.add (n * 12)).off + 11, none⟩ = some (.int .i64 (rd_T39 l0 n).f7.f1) ∧ w'.cell? (ad2.add m) = some (.slice (some ad4) row.length c4) ∧ w'.cell? ⟨ad4.block, ad4.off + (n + 1), none⟩ = some (.int .i64 (rd row (n + 1))))
   (go_keep)
   ((fail))
  rename_i hHeld
  clear hHeld
  simp only [Exit.then]
  have hlt2 : wrap64 (wrap64 (h + rd row (n + 1)) + (rd_T39 l0 n).f7.f1) > rd D n := by rw [← hVe]; exact hlt
  go_wp2_with fail
  exact ⟨rfl, rfl, below_drew HB.out⟩
 ·
  rw [← HV.out]
  simp only [if_neg hlate, nextV]
  rw [← HV.out]
  simp only [spV_eq]
  have hlt : ¬ hV > rd D n := hlate
  clear hlate
  have H2 := Aside0.mk hrw
  clear hrw
  go_enter Try.func104, Try.ntmps104
  go_wp2_with (first | ((with_reducible refine gate_dst (N := 4) rfl ?_); refine box_event ?hg (N := 4) ?hd (cs := #[.slice (some ad) l0.length c0, v1, .slice (some ad2) l2.length c2, .int .i64 wp]) (t := 99) ?hr ?_; (case hd => rfl); (case hg => rfl); (case hr => first | (go_simp; done) | (go_simp; rfl)); intro gb hg_gb w2 hbox hb; have BKgb := Aside0.mk hbox; have n_HB := Aside0.mk (below_step HB.out hb); have GEgb : w.heap.size ≤ gb := (by rw [hg_gb]; exact HB.out.size); clear HB; have HB := n_HB; clear n_HB; have hfgb := blk_frozen BKgb.out; have hcgb_0 : w2.cell? ⟨gb, 0, none⟩ = some (.slice (some ad) l0.length c0) := (blk_cell BKgb.out 0).trans rfl; have hcgb_1 : w2.cell? ⟨gb, 1, none⟩ = some (v1) := (blk_cell BKgb.out 1).trans rfl; have hcgb_2 : w2.cell? ⟨gb, 2, none⟩ = some (.slice (some ad2) l2.length c2) := (blk_cell BKgb.out 2).trans rfl; have hcgb_3 : w2.cell? ⟨gb, 3, none⟩ = some (.int .i64 wp) := (blk_cell BKgb.out 3).trans rfl; clear hbox hb hg_gb) | ((with_reducible refine gate_dst (N := 5) rfl ?_); refine box_event ?hg (N := 5) ?hd (cs := #[.int .i64 m, .int .i64 h, .int .i64 r]) (t := 123) ?hr ?_; (case hd => rfl); (case hg => rfl); (case hr => first | (go_simp; done) | (go_simp; rfl)); intro gs hg_gs w3 hbox hb; have BKgs := Aside0.mk hbox; have n_BKgb := Aside0.mk (blk_below BKgb.out hb); clear BKgb; have BKgb := n_BKgb; clear n_BKgb; have n_HB := Aside0.mk (below_step HB.out hb); have GEgs : w.heap.size ≤ gs := (by rw [hg_gs]; exact HB.out.size); clear HB; have HB := n_HB; clear n_HB; have hfgs := blk_frozen BKgs.out; have hcgs_0 : w3.cell? ⟨gs, 0, none⟩ = some (.int .i64 m) := (blk_cell BKgs.out 0).trans rfl; have hcgs_1 : w3.cell? ⟨gs, 1, none⟩ = some (.int .i64 h) := (blk_cell BKgs.out 1).trans rfl; have hcgs_2 : w3.cell? ⟨gs, 2, none⟩ = some (.int .i64 r) := (blk_cell BKgs.out 2).trans rfl; clear hbox hb hg_gs))
  clear hfgb hcgb_0 hcgb_1 hcgb_2 hcgb_3 hfgs hcgs_0 hcgs_1 hcgs_2
  have lt3 : (ad3.add n).block < w.heap.size := World.block_lt_of_cell? w _ hd
  have ltg := blk_lt BKgs.out
  have hbk := blk_new w3 (.cells #[.int .i64 0, .int .i64 0, .int .i64 0] 123); have hb : Below w3.heap.size w3 (w3.alloc (.cells #[.int .i64 0, .int .i64 0, .int .i64 0] 123)) := (Below.refl _ _).alloc (Nat.le_refl _) _; generalize hw_ : (w3.alloc (.cells #[.int .i64 0, .int .i64 0, .int .i64 0] 123)) = w4 at hbk hb ⊢; clear hw_; have n_BKgb := Aside0.mk (blk_below BKgb.out hb); clear BKgb; have BKgb := n_BKgb; clear n_BKgb; have n_BKgs := Aside0.mk (blk_below BKgs.out hb); clear BKgs; have BKgs := n_BKgs; clear n_BKgs; have GEgr : w.heap.size ≤ w3.heap.size := HB.out.size; have n_HB := Aside0.mk (below_step HB.out hb); clear HB; have HB := n_HB; clear n_HB; clear hb; generalize hg_ : w3.heap.size = gr at hbk GEgr ⊢; have EQgr := Aside0.mk hg_; clear hg_; have BKgr := Aside0.mk hbk; clear hbk; have hfgr := blk_frozen BKgr.out; have hcgr_0 : w4.cell? ⟨gr, 0, none⟩ = some (.int .i64 0) := (blk_cell BKgr.out 0).trans rfl; have hcgr_1 : w4.cell? ⟨gr, 1, none⟩ = some (.int .i64 0) := (blk_cell BKgr.out 1).trans rfl; have hcgr_2 : w4.cell? ⟨gr, 2, none⟩ = some (.int .i64 0) := (blk_cell BKgr.out 2).trans rfl; have hfgb := blk_frozen BKgb.out; have hcgb_0 : w4.cell? ⟨gb, 0, none⟩ = some (.slice (some ad) l0.length c0) := (blk_cell BKgb.out 0).trans rfl; have hcgb_1 : w4.cell? ⟨gb, 1, none⟩ = some (v1) := (blk_cell BKgb.out 1).trans rfl; have hcgb_2 : w4.cell? ⟨gb, 2, none⟩ = some (.slice (some ad2) l2.length c2) := (blk_cell BKgb.out 2).trans rfl; have hcgb_3 : w4.cell? ⟨gb, 3, none⟩ = some (.int .i64 wp) := (blk_cell BKgb.out 3).trans rfl; have hfgs := blk_frozen BKgs.out; have hcgs_0 : w4.cell? ⟨gs, 0, none⟩ = some (.int .i64 m) := (blk_cell BKgs.out 0).trans rfl; have hcgs_1 : w4.cell? ⟨gs, 1, none⟩ = some (.int .i64 h) := (blk_cell BKgs.out 1).trans rfl; have hcgs_2 : w4.cell? ⟨gs, 2, none⟩ = some (.int .i64 r) := (blk_cell BKgs.out 2).trans rfl; replace hl11 := (HB.out.cell (World.block_lt_of_cell? w _ hl11)).trans hl11; replace hrow := (HB.out.cell (World.block_lt_of_cell? w _ hrow)).trans hrow; replace hd := (HB.out.cell (World.block_lt_of_cell? w _ hd)).trans hd; replace hx1 := (HB.out.cell (World.block_lt_of_cell? w _ hx1)).trans hx1
  have ne9 : gr ≠ (ad3.add n).block := by omega
  have ne8 : gr ≠ gs := by have := EQgr.out; omega
  have ne8s := ne8.symm
  have ne9s := ne9.symm
  have ne0 := World.new_ne w4 _ hl11
  have ne1 := World.new_ne w4 _ hrow
  have ne2 := World.new_ne w4 _ hd
  have ne3 := World.new_ne w4 _ hx1
  go_region_held3 (fun w' => w'.cell? ⟨gb, 0, none⟩ = some (.slice (some ad) l0.length c0) ∧ w'.cell? ⟨gb, 2, none⟩ = some (.slice (some ad2) l2.length c2) ∧ w'.cell? ⟨gs, 0, none⟩ = some (.int .i64 m) ∧ w'.cell? ⟨gs, 1, none⟩ = some (.int .i64 h) ∧ w'.cell? ⟨(ad.add (n * 12)).block, (ad.add (n * 12)).off + 11, none⟩ = some (.int .i64 (rd_T39 l0 n).f7.f1) ∧ w'.cell? (ad2.add m) = some (.slice (some ad4) row.length c4) ∧ w'.cell? ⟨ad4.block, ad4.off + (n + 1), none⟩ = some (.int .i64 (rd row (n + 1))))
   (go_keep)
   ((fail))
  rename_i hHeld
  clear hHeld
  simp only [Exit.then]
  have hlt2 : ¬ wrap64 (wrap64 (h + rd row (n + 1)) + (rd_T39 l0 n).f7.f1) > rd D n := by rw [← hVe]; omega
  go_wp2_with fail
  go_region_held3 (fun w' => w'.cell? ⟨gs, 2, none⟩ = some (.int .i64 r) ∧ w'.cell? (ad3.add n) = some (.int .i64 (rd D n)))
   (go_keep)
   ((fail))
  rename_i hHeld2
  clear hHeld2
  simp only [Exit.then]
  go_wp2_with fail
  refine bodyPost_ret (results_ct rfl _ _ gr 123 _ (0, 0) _ rfl (by first | exact blk_drew (blk_set (blk_set (blk_set BKgr.out 0 _) 1 _) 2 _) | exact blk_set (blk_set (blk_set BKgr.out 0 _) 1 _) 2 _) hu123 rfl (by kernel_rfl)) rfl ?_
  refine ⟨?_, ?_⟩
  ·
   simp only [i64_w, hVe, hw1]
   rfl
  ·
   exact below_drew (below_drew (below_set (below_set (below_set HB.out (by omega)) (by omega)) (by omega)))
end Go.Proofs.Ytipphcjgdebecaa.PA
namespace Go.Proofs.Ytipphcjgdebecaa.PA
open Go.RowKit Go.Proofs.YtipphcjgdebecaaW.PrintWords Go.Proofs.YtipphcjgdebecaaW.PrintLast Go.Proofs.YtipphcjgdebecaaW.PrintMore
attribute [local go_sem] max2_int min2_int max_two min_two max_three min_three max_four min_four
set_option linter.unusedVariables false
set_option linter.unusedSimpArgs false
structure KB (T : Nat → Prop) (w w' : World) : Prop where
 os : w'.os = w.os
 tape : w'.tape = w.tape
 output : w'.output = w.output
 size : w.heap.size ≤ w'.heap.size
 block : ∀ k, k < w.heap.size → ¬ T k → w'.heap[k]? = w.heap[k]?
section
variable {T T' : Nat → Prop} {w W W2 : World} {g : Nat} {o : Obj}
theorem KB.refl (T : Nat → Prop) (w : World) : KB T w w := ⟨rfl, rfl, rfl, Nat.le_refl _, fun _ _ _ => rfl⟩
theorem KB.of_below (h : Below w.heap.size w W) (T : Nat → Prop) : KB T w W := ⟨h.os, h.tape, h.output, h.size, fun k hk _ => h.block k hk⟩
theorem KB.of_grown {row : Option Nat} (h : w.grownBy W row) : KB (fun k => row = some k) w W := ⟨h.os, h.tape, h.output, h.size, fun k hk hn => h.block k hk (fun e => hn e.symm)⟩
theorem KB.mono (h : KB T w W) (hs : ∀ k, T k → T' k) : KB T' w W := ⟨h.os, h.tape, h.output, h.size, fun k hk hn => h.block k hk (fun x => hn (hs k x))⟩
theorem KB.trans (h : KB T w W) (k : KB T' W W2) (hs : ∀ k, T' k → T k ∨ w.heap.size ≤ k) : KB T w W2 :=
 ⟨k.os.trans h.os, k.tape.trans h.tape, k.output.trans h.output, Nat.le_trans h.size k.size, fun i hi hn => (k.block i (Nat.lt_of_lt_of_le hi h.size) (fun x => (hs i x).elim hn (fun y => by omega))).trans (h.block i hi hn)⟩
theorem KB.then_below (h : KB T w W) (k : Below W.heap.size W W2) : KB T w W2 := h.trans (KB.of_below k (fun _ => False)) (fun _ x => x.elim)
theorem KB.set (h : KB T w W) {p : Addr} (hp : T p.block ∨ w.heap.size ≤ p.block) (u : Value) : KB T w (W.setCell p u) :=
 h.trans (T' := fun k => k = p.block) ⟨rfl, rfl, rfl, by simp, fun k _ hn => Below.heap_setCell W p u k hn⟩ (fun k e => e ▸ hp)
theorem KB.blk (h : KB T w W) (hb : w.heap[g]? = some o) (hn : ¬ T g) : W.heap[g]? = some o := (h.block g (blk_lt hb) hn).trans hb
theorem KB.below (h : KB T w W) {B : Nat} {u : World} (hu : Below B u w) (hB : B ≤ w.heap.size) (hn : ∀ k, T k → B ≤ k) : Below B u W :=
 ⟨h.os.trans hu.os, h.tape.trans hu.tape, h.output.trans hu.output, Nat.le_trans hu.size h.size, fun k hk => (h.block k (by omega) (fun x => by have := hn k x; omega)).trans (hu.block k hk)⟩
theorem KB.toBelow (h : KB T w W) (hn : ∀ k, T k → w.heap.size ≤ k) : Below w.heap.size w W := h.below (Below.refl _ _) (Nat.le_refl _) hn
theorem KB.from (h : KB T w W) {B : Nat} (hn : ∀ k, T k → k < B) : KeepsFrom B w W :=
 ⟨h.size, fun k o hB hk _ => (h.block k (blk_lt hk) (fun x => by have := hn k x; omega)).trans hk⟩
theorem KB.R {α : Type} {d : Kd α} {e base : Nat} {ok : Nat → Prop} {v : Value} {xs : List α} (h : KB T w W) (hr : Kd.R d e w base ok v xs) (hok : ∀ k, ok k → ¬ T k) : Kd.R d e W base ok v xs := Kd.R_step hr (fun k ho hlt => h.block k hlt (hok k ho))
end
structure Held (B : Nat) (Inv : (Nat → Prop) → World → Prop) : Prop where
 mono : ∀ A A' W, (∀ k, A' k → A k) → Inv A W → Inv A' W
 fresh : ∀ A W, Inv A W → Inv (fun k => A k ∨ W.heap.size ≤ k) W
 step : ∀ A W W', Inv A W → KB A W W' → Inv A W'
 own : ∀ A W W' row, Inv A W → W.grownBy W' row → (∀ r, row = some r → B ≤ r ∧ ∃ o : Obj, W.heap[r]? = some o ∧ o.isCells = false) → Inv A W'
theorem KeptAt.trans {Bn : Nat} {A B C : World} (h : KeptAt Bn A B) (k : KeptAt Bn B C) : KeptAt Bn A C := Eq.trans k h
abbrev LoopOf (f : Int) := { x : Int // x ∈ loopsOf f 5 }
theorem YieldAt_mono {F : Fence} {m : Nat} {P : Program} {l : Nat} {args : Array Value} {W : World} {R R' : Ending → World → Prop} (h : YieldAt F m P l args W R) (hr : ∀ e w, R e w → R' e w) : YieldAt F m P l args W R' := YieldAt.mono h hr
theorem loops_stops (n : Nat) (hn : 1 ≤ n) (f : Int) (h0f : 0 ≤ f) (Bn : Nat) (w : World) (hBn : w.heap[Bn]? = some (.cells #[.int .i64 f] 3 (0, 0))) :
  SeqStopsK Fence.wide n Try.prog 97 #[.pointer (some ⟨Bn, 0, none⟩)] (fun x : LoopOf f => #[.int .i64 x.1]) (KeptAt Bn) (fun xs => xs.map (·.1) = loopsOf f 5) (fun pre => pre.map (·.1) <+: loopsOf f 5) (loopsOf f 5).length w := by
 intro l J Jx W hW hJ hJx hY h0
 refine (loops1_in Fence.wide n trivial rfl hn l Bn f h0f (fun pre W => ∃ p : List (LoopOf f), p.map (·.1) = pre ∧ J p W) (fun pre W => ∃ p : List (LoopOf f), p.map (·.1) = pre ∧ Jx p W) ?_ W ((hW.block Bn (blk_lt hBn)).trans hBn) ⟨[], rfl, h0⟩).mono ?_
 ·
  rintro pre x W1 hx ⟨p, rfl, hp⟩ hlen
  refine YieldAt_mono (hY p ⟨x, hx⟩ W1 hp (by simpa using hlen)) ?_
  rintro e W' (⟨rfl, h1, h2⟩ | ⟨rfl, h1⟩)
  ·
   exact .inl ⟨rfl, ⟨_, by simp, h1⟩, h2⟩
  ·
   exact .inr ⟨rfl, ⟨_, by simp, h1⟩⟩
 ·
  rintro e W' ⟨hv, (⟨ys, rfl, p, hp, h1⟩ | ⟨pre, hpre, p, rfl, h1⟩)⟩
  ·
   exact ⟨hv, .inl ⟨p, hp, h1⟩⟩
  ·
   exact ⟨hv, .inr ⟨p, hpre, h1⟩⟩
end Go.Proofs.Ytipphcjgdebecaa.PA
namespace Go.Proofs.Ytipphcjgdebecaa.PA
open Go.RowKit Go.Proofs.YtipphcjgdebecaaW.PrintWords Go.Proofs.YtipphcjgdebecaaW.PrintLast Go.Proofs.YtipphcjgdebecaaW.PrintMore
attribute [local go_sem] max2_int min2_int max_two min_two max_three min_three max_four min_four
set_option linter.unusedVariables false
set_option linter.unusedSimpArgs false
attribute [local go_sem] Oper.semAt_some
def g1s (of : Int → Int × Bool) (a : Int × Int × Bool) (x : Int) : Int × Int × Bool := if (of x).2 = true ∧ (a.2.2 = false ∨ (of x).1 > a.2.1) then (x, (of x).1, true) else a
def g1 (of : Int → Int × Bool) (l : List Int) : Int × Int × Bool := l.foldl (g1s of) (0, 0, false)
theorem g1_snoc (of : Int → Int × Bool) (l : List Int) (x : Int) : g1 of (l ++ [x]) = g1s of (g1 of l) x := by simp [g1]
theorem allocs4 (w : World) (o1 o2 o3 o4 : Obj) : ∃ w4, (((w.alloc o1).alloc o2).alloc o3).alloc o4 = w4 ∧ w4.heap[w.heap.size]? = some o1 ∧ w4.heap[w.heap.size + 1]? = some o2 ∧ w4.heap[w.heap.size + 1 + 1]? = some o3 ∧ w4.heap[w.heap.size + 1 + 1 + 1]? = some o4 ∧
  w4.heap.size = w.heap.size + 4 ∧ Below w.heap.size w w4 := by
 refine ⟨_, rfl, blk_alloc (blk_alloc (blk_alloc (blk_new w o1) o2) o3) o4, ?_, ?_, ?_, by simp, below_alloc (below_alloc (below_alloc (below_alloc (Below.refl _ _) _) _) _) _⟩
 ·
  have := blk_alloc (blk_alloc (blk_new (w.alloc o1) o2) o3) o4
  simpa using this
 ·
  have := blk_alloc (blk_new ((w.alloc o1).alloc o2) o3) o4
  simpa using this
 ·
  have := blk_new (((w.alloc o1).alloc o2).alloc o3) o4
  simpa using this
theorem keptAt_put {Bn B : Nat} (hBn : Bn < B) (W : World) (l : Nat) (o o' : Obj) (hl : B ≤ l) (_h : W.heap[l]? = some o) (_h1 : o.isCells = false) (_h2 : o.isWalk = false) : KeptAt Bn W (W.putObj l o') := World.putObj_heap_other (by omega)
theorem blk_own {B g : Nat} {W W' : World} {row : Option Nat} {cs : Array Value} {t : TypeId} (hb : W.heap[g]? = some (.cells cs t (0, 0))) (hg : W.grownBy W' row) (hr : ∀ r, row = some r → B ≤ r ∧ ∃ o : Obj, W.heap[r]? = some o ∧ o.isCells = false) : W'.heap[g]? = some (.cells cs t (0, 0)) := by
 refine (hg.block g (blk_lt hb) (fun e => ?_)).trans hb
 obtain ⟨_, o, ho, hc⟩ := hr g e.symm
 rw [hb] at ho
 injection ho with ho
 subst ho
 cases hc
set_option maxRecDepth 100000 in
set_option maxHeartbeats 4000000 in
theorem greatest91_calls {p : Int → Prop} {gf : Nat} {lb : Array Value} (egf : ∀ args w, (callFunc gf args).run Try.prog w = .ok (.enter gf args) w)
  {S Sp : List { x : Int // p x } → Prop} {N Bn : Nat} {w : World} (hBn : Bn < w.heap.size)
  (hseq : ∀ n, 1 ≤ n → SeqStopsK Fence.wide n Try.prog gf lb (fun x : { x : Int // p x } => #[.int .i64 x.1]) (KeptAt Bn) S Sp N w)
  (L : List Int) (hS : ∀ xs, S xs → xs.map (·.1) = L) {Inv : (Nat → Prop) → World → Prop} (HI : Held w.heap.size Inv) (T : Nat → Prop) (hT : ∀ k, T k → k < w.heap.size ∧ k ≠ Bn)
  (A0 : Nat → Prop) (c0 c1 c2 c3 c4 : Value) (of : Int → Int × Bool)
  (hof : ∀ A W x, p x → (∀ k, A k → k < W.heap.size) → Inv A W → Calls Try.prog 91 #[.int .i64 x, c0, c1, c2, c3, c4] W fun e W' => e = .returned (.tuple #[.int .i64 (of x).1, .bool (of x).2]) ∧ Inv A W' ∧ KB T W W')
  (h0 : Inv A0 w) (hA0 : ∀ k, A0 k → k < w.heap.size) :
  Calls Try.prog 71 #[.func (.func gf) #[] lb, .func (.func 91) #[] #[c0, c1, c2, c3, c4]] w fun e W' => e = .returned (.tuple #[.int .i64 (g1 of L).1, .int .i64 (g1 of L).2.1, .bool (g1 of L).2.2]) ∧ Inv A0 W' ∧ KB T w W' := by
 refine (callsIn_wide (n := 8)).1 ?_
 refine callsIn_of_wp_marks Try.func71 rfl trivial ?_ rfl
 simp only [Try.ntmps71, List.size_toArray, List.length_cons, List.length_nil, Nat.reduceAdd, Nat.reduceSub, Array.replicate_succ, Array.replicate_zero, List.push_toArray, List.append_toArray, List.nil_append, List.cons_append]
 gi_wp2
 obtain ⟨w4, hw4, b3, b7, b8, b9, hsz, hb⟩ := allocs4 w (.cells #[.func (.func 91) #[] #[c0, c1, c2, c3, c4]] 110) (.cells #[.int .i64 0] 3) (.cells #[.int .i64 0] 3) (.cells #[.bool false] 4)
 rw [hw4]
 clear hw4
 obtain ⟨A, hAe⟩ : ∃ A : Nat → Prop, A = (fun k => A0 k ∨ k = w.heap.size + 1 ∨ k = w.heap.size + 1 + 1 ∨ k = w.heap.size + 1 + 1 + 1) := ⟨_, rfl⟩
 have hA : ∀ k, A k → k < w4.heap.size := fun k hk => by
  rw [hAe] at hk
  rcases hk with hk | hk | hk | hk
  ·
   have := hA0 k hk
   omega
  ·
   omega
  ·
   omega
  ·
   omega
 have i0 : Inv A w4 := by
  refine HI.step _ w _ (HI.mono _ _ _ (fun k hk => ?_) (HI.fresh _ _ h0)) (KB.of_below hb _)
  rw [hAe] at hk
  rcases hk with hk | hk | hk | hk
  ·
   exact .inl hk
  ·
   exact .inr (by omega)
  ·
   exact .inr (by omega)
  ·
   exact .inr (by omega)
 refine wpIn_rangeFunc_ownG rfl (by omega) (gf := gf) (lb := lb) rfl trivial egf (hseq _ (by omega)) (fun h k => KeptAt.trans h k) (keptAt_put (by omega)) hb (fun _ => rfl)
  (fun pre W => Inv A W ∧ W.heap[w.heap.size]? = some (.cells #[.func (.func 91) #[] #[c0, c1, c2, c3, c4]] 110 (0, 0)) ∧
   W.heap[w.heap.size + 1]? = some (.cells #[.int .i64 (g1 of (pre.map (·.1))).1] 3 (0, 0)) ∧ W.heap[w.heap.size + 1 + 1]? = some (.cells #[.int .i64 (g1 of (pre.map (·.1))).2.1] 3 (0, 0)) ∧
   W.heap[w.heap.size + 1 + 1 + 1]? = some (.cells #[.bool (g1 of (pre.map (·.1))).2.2] 4 (0, 0)) ∧ KB T w W)
  (fun _ _ _ => False) ?own (fun _ _ _ _ _ hs _ _ => hs) ⟨i0, b3, b7, b8, b9, KB.of_below hb T⟩
  (fun x => { tmps := #[.func (.func gf) #[] lb, .func (.func 91) #[] #[c0, c1, c2, c3, c4], undef, .pointer (some ⟨w.heap.size, 0, none⟩), .int .i64 0, .int .i64 0, .bool false, .pointer (some ⟨w.heap.size + 1, 0, none⟩), .pointer (some ⟨w.heap.size + 1 + 1, 0, none⟩), .pointer (some ⟨w.heap.size + 1 + 1 + 1, 0, none⟩),
   .int .i64 x.1, undef, undef, .func (.func gf) #[] lb, .int .i64 x.1, undef, undef, undef, undef, undef, undef, undef, undef, undef, undef, undef, undef, undef, undef, undef, undef, undef, undef, undef, undef, undef], defers := [] }) ?assign ?body ?done ?stop
 case own =>
  rintro s A B row ⟨h1, h2, h3, h4, h5, h6⟩ hg hr
  refine ⟨HI.own _ _ _ row h1 hg (fun r e => ⟨by have := (hr r e).1; omega, (hr r e).2⟩), blk_own h2 hg hr, blk_own h3 hg hr, blk_own h4 hg hr, blk_own h5 hg hr, ?_⟩
  exact h6.trans (KB.of_grown hg) (fun k e => .inr (by have := (hr k e).1; omega))
 case assign =>
  intro l x W K hK
  gi_wp2
  exact hK
 case body =>
  rintro l pre x W ⟨h1, h2, h3, h4, h5, h6⟩ _
  have hlt : w4.heap.size ≤ W.heap.size ∨ True := .inr trivial
  have hd : 1 ≤ 8 - 1 - 1 := by omega
  obtain ⟨x, hx⟩ := x
  have hcall := hof A W x hx (fun k hk => by
   have e1 := blk_lt h5
   have := hA k hk
   omega) h1
  have hmap : (pre ++ [(⟨x, hx⟩ : { x : Int // p x })]).map (·.1) = pre.map (·.1) ++ [x] := by simp
  have HM := Aside0.mk hmap
  have hst := g1_snoc of (pre.map (·.1)) x
  unfold g1s at hst
  have HST := Aside0.mk hst
  clear hst hmap
  generalize hg1 : g1 of (pre.map (·.1)) = g at h3 h4 h5 HST
  obtain ⟨go, gm, gfo⟩ := g
  generalize hn1 : of x = n1 at HST hcall
  obtain ⟨n1, b1⟩ := n1
  dsimp only at h3 h4 h5 HST hcall
  have H1 := Aside0.mk h1
  have H2 := Aside0.mk h2
  have H3 := Aside0.mk h3
  have H4 := Aside0.mk h4
  have H5 := Aside0.mk h5
  have H6 := Aside0.mk h6
  have hc2 : W.cell? ⟨w.heap.size, 0, none⟩ = some (.func (.func 91) #[] #[c0, c1, c2, c3, c4]) := blk_cell h2 0
  have hWs : w.heap.size ≤ W.heap.size := h6.size
  clear h1 h2 h3 h4 h5 h6 hof hseq hS
  gi_wp2
  refine ⟨trivial, (CallsIn.inRound l (callsIn_wide.2 hcall)).mono ?_⟩
  rintro e W2 ⟨rfl, i1, k1⟩
  clear hcall hc2
  have nT : ∀ j, w.heap.size ≤ j → ¬ T j := fun j hj hk => by have := (hT j hk).1; omega
  have J2 := k1.blk H2.out (nT _ (by omega))
  have J3 := k1.blk H3.out (nT _ (by omega))
  have J4 := k1.blk H4.out (nT _ (by omega))
  have J5 := k1.blk H5.out (nT _ (by omega))
  have KT := Aside0.mk (H6.out.trans k1 (fun k hk => .inl hk))
  have KW := Aside0.mk k1
  have I1 := Aside0.mk i1
  clear i1 k1 H2 H3 H4 H5 H6 H1
  have hc3 : W2.cell? ⟨w.heap.size + 1, 0, none⟩ = some (.int .i64 go) := blk_cell J3 0
  have hc4 : W2.cell? ⟨w.heap.size + 1 + 1, 0, none⟩ = some (.int .i64 gm) := blk_cell J4 0
  have hc5 : W2.cell? ⟨w.heap.size + 1 + 1 + 1, 0, none⟩ = some (.bool gfo) := blk_cell J5 0
  have hf3 : W2.frozen? ⟨w.heap.size + 1, 0, none⟩ = false := blk_frozen J3 0
  have hf4 : W2.frozen? ⟨w.heap.size + 1 + 1, 0, none⟩ = false := blk_frozen J4 0
  have hf5 : W2.frozen? ⟨w.heap.size + 1 + 1 + 1, 0, none⟩ = false := blk_frozen J5 0
  have KEEP : Aside0 (KeepsFrom w4.heap.size W W2 ∧ KeptAt Bn W W2) := ⟨KW.out.from (fun k hk => by have := (hT k hk).1; omega), KW.out.block Bn (by omega) (fun hk => (hT _ hk).2 rfl)⟩
  have B2 := Aside0.mk J2
  have B3 := Aside0.mk J3
  have B4 := Aside0.mk J4
  have B5 := Aside0.mk J5
  clear J2 J3 J4 J5
  have NO : ∀ a : Act, b1 = false ∨ (gfo = true ∧ ¬ n1 > gm) → ownPostG w4.heap.size (KeptAt Bn) (fun pre W => Inv A W ∧ W.heap[w.heap.size]? = some (.cells #[.func (.func 91) #[] #[c0, c1, c2, c3, c4]] 110 (0, 0)) ∧
   W.heap[w.heap.size + 1]? = some (.cells #[.int .i64 (g1 of (pre.map (·.1))).1] 3 (0, 0)) ∧ W.heap[w.heap.size + 1 + 1]? = some (.cells #[.int .i64 (g1 of (pre.map (·.1))).2.1] 3 (0, 0)) ∧
   W.heap[w.heap.size + 1 + 1 + 1]? = some (.cells #[.bool (g1 of (pre.map (·.1))).2.2] 4 (0, 0)) ∧ KB T w W) (fun _ _ _ => False) (pre ++ [(⟨x, hx⟩ : { x : Int // p x })]) W .normal a W2 := by
   intro a hno
   have hv : g1 of (pre.map (·.1) ++ [x]) = (go, gm, gfo) := by
    rw [HST.out, if_neg]
    rintro ⟨ha, hb⟩
    rcases hno with hno | ⟨hno, hno2⟩
    ·
     rw [hno] at ha; cases ha
    ·
     rcases hb with hb | hb
     ·
      rw [hno] at hb; cases hb
     ·
      exact hno2 hb
   refine ⟨KEEP.out.1, KEEP.out.2, I1.out, B2.out, ?_⟩
   rw [HM.out, hv]
   exact ⟨B3.out, B4.out, B5.out, KT.out⟩
  have HNO := Aside0.mk NO
  clear NO
  have YES : ∀ a : Act, b1 = true ∧ (gfo = false ∨ n1 > gm) → ownPostG w4.heap.size (KeptAt Bn) (fun pre W => Inv A W ∧ W.heap[w.heap.size]? = some (.cells #[.func (.func 91) #[] #[c0, c1, c2, c3, c4]] 110 (0, 0)) ∧
   W.heap[w.heap.size + 1]? = some (.cells #[.int .i64 (g1 of (pre.map (·.1))).1] 3 (0, 0)) ∧ W.heap[w.heap.size + 1 + 1]? = some (.cells #[.int .i64 (g1 of (pre.map (·.1))).2.1] 3 (0, 0)) ∧
   W.heap[w.heap.size + 1 + 1 + 1]? = some (.cells #[.bool (g1 of (pre.map (·.1))).2.2] 4 (0, 0)) ∧ KB T w W) (fun _ _ _ => False) (pre ++ [(⟨x, hx⟩ : { x : Int // p x })]) W .normal a (((W2.setCell ⟨w.heap.size + 1, 0, none⟩ (.int .i64 x)).setCell ⟨w.heap.size + 1 + 1, 0, none⟩ (.int .i64 n1)).setCell ⟨w.heap.size + 1 + 1 + 1, 0, none⟩ (.bool true)) := by
   intro a hyes
   have hv : g1 of (pre.map (·.1) ++ [x]) = (x, n1, true) := by
    rw [HST.out, if_pos hyes]
   have kA : ∀ S : Nat → Prop, S (w.heap.size + 1) → S (w.heap.size + 1 + 1) → S (w.heap.size + 1 + 1 + 1) → KB S W2 (((W2.setCell ⟨w.heap.size + 1, 0, none⟩ (.int .i64 x)).setCell ⟨w.heap.size + 1 + 1, 0, none⟩ (.int .i64 n1)).setCell ⟨w.heap.size + 1 + 1 + 1, 0, none⟩ (.bool true)) :=
    fun S s1 s2 s3 => (((KB.refl S W2).set (p := ⟨w.heap.size + 1, 0, none⟩) (.inl s1) _).set (p := ⟨w.heap.size + 1 + 1, 0, none⟩) (.inl s2) _).set (p := ⟨w.heap.size + 1 + 1 + 1, 0, none⟩) (.inl s3) _
   have kW := (KW.out.mono (T' := fun k => T k ∨ k = w.heap.size + 1 ∨ k = w.heap.size + 1 + 1 ∨ k = w.heap.size + 1 + 1 + 1) (fun k hk => .inl hk)).trans (kA _ (.inr (.inl rfl)) (.inr (.inr (.inl rfl))) (.inr (.inr (.inr rfl)))) (fun k hk => .inl hk)
   refine ⟨kW.from (fun k hk => ?_), kW.block Bn (by omega) (fun hk => ?_), HI.step _ _ _ I1.out (kA A ?_ ?_ ?_), ?_, ?_⟩
   ·
    rcases hk with hk | hk | hk | hk
    ·
     have := (hT k hk).1
     omega
    ·
     omega
    ·
     omega
    ·
     omega
   ·
    rcases hk with hk | hk | hk | hk
    ·
     exact (hT _ hk).2 rfl
    ·
     omega
    ·
     omega
    ·
     omega
   ·
    rw [hAe]; exact .inr (.inl rfl)
   ·
    rw [hAe]; exact .inr (.inr (.inl rfl))
   ·
    rw [hAe]; exact .inr (.inr (.inr rfl))
   ·
    exact blk_far (blk_far (blk_far B2.out (by dsimp only; omega) _) (by dsimp only; omega) _) (by dsimp only; omega) _
   ·
    rw [HM.out, hv]
    refine ⟨?_, ?_, ?_, ?_⟩
    ·
     exact blk_far (blk_far (blk_set B3.out 0 _) (by dsimp only; omega) _) (by dsimp only; omega) _
    ·
     exact blk_far (blk_set (blk_far B4.out (by dsimp only; omega) _) 0 _) (by dsimp only; omega) _
    ·
     exact blk_set (blk_far (blk_far B5.out (by dsimp only; omega) _) (by dsimp only; omega) _) 0 _
    ·
     exact KT.out.trans (kA (fun k => w.heap.size ≤ k) (by omega) (by omega) (by omega)) (fun k hk => .inr hk)
  have HYES := Aside0.mk YES
  clear YES
  cases b1 with
  | false =>
   gi_wp2
   exact HNO.out _ (by simp)
  | true =>
   cases gfo with
   | false =>
    gi_wp2
    exact HYES.out _ (by simp)
   | true =>
    by_cases hgt : n1 > gm
    ·
     gi_wp2
     exact HYES.out _ (by simp [hgt])
    ·
     gi_wp2
     exact HNO.out _ (by simp [hgt])
 case done =>
  rintro D xs W hD hSx ⟨h1, h2, h3, h4, h5, h6⟩ hK
  have hl := hS xs hSx
  rw [hl] at h3 h4 h5
  have hc3 : W.cell? ⟨w.heap.size + 1, 0, none⟩ = some (.int .i64 (g1 of L).1) := blk_cell h3 0
  have hc4 : W.cell? ⟨w.heap.size + 1 + 1, 0, none⟩ = some (.int .i64 (g1 of L).2.1) := blk_cell h4 0
  have hc5 : W.cell? ⟨w.heap.size + 1 + 1 + 1, 0, none⟩ = some (.bool (g1 of L).2.2) := blk_cell h5 0
  clear hof hseq hS h2 h3 h4 h5
  generalize hgL : g1 of L = g at hc3 hc4 hc5
  have HG := Aside0.mk hgL
  clear hgL
  have H1 := Aside0.mk h1
  have H6 := Aside0.mk h6
  have HK := Aside0.mk hK
  clear h1 h6 hK
  gi_wp2
  gi_region
  all_goals gi_wp2
  refine ⟨by simp, .inl ⟨_, _, rfl, run_takeDeferred (show W.drew.heap[D]? = _ from HK.out), ?_⟩⟩
  have hput := grownBy_putObj' W.drew D (.deferred none)
  have hrow : ∀ r, some D = some r → w.heap.size ≤ r ∧ ∃ o : Obj, W.drew.heap[r]? = some o ∧ o.isCells = false := fun r e => by
   injection e with e
   subst e
   exact ⟨by omega, _, HK.out, rfl⟩
  have hid : Inv A W.drew := HI.own A W W.drew none H1.out ⟨rfl, rfl, rfl, Nat.le_refl _, fun _ _ _ => rfl⟩ (fun r e => by cases e)
  have hi2 := HI.own A W.drew _ (some D) hid hput hrow
  refine ⟨_, results_tmp3 rfl _ _ _, by rw [HG.out]; rfl, HI.mono _ _ _ (fun k hk => by rw [hAe]; exact .inl hk) hi2, ?_⟩
  have hk6 : KB T w W.drew := ⟨H6.out.os, H6.out.tape, H6.out.output, H6.out.size, H6.out.block⟩
  exact hk6.trans (KB.of_grown hput) (fun k e => .inr (by injection e with e; omega))
 case stop =>
  rintro D c pre W _ _ h _
  exact h.elim
end Go.Proofs.Ytipphcjgdebecaa.PA
namespace Go.Proofs.Ytipphcjgdebecaa.PA
open Go.RowKit Go.Shelf Go.Proofs.YtipphcjgdebecaaW.PrintWords Go.Proofs.YtipphcjgdebecaaW.PrintLast Go.Proofs.YtipphcjgdebecaaW.PrintMore
attribute [local go_sem] max2_int min2_int max_two min_two max_three min_three max_four min_four
def Opens {α : Type} (d : Kd α) (t : TypeId) : Prop := ∀ (H : Type) (enc : TypeId × Value → H) (w : World) (base fuel : Nat) (cs : List Value) (x : DataW H × List MemPlace), DataW.trod enc Try.prog w base (fun _ => true) true fuel t cs = some x → ∃ v, d.K w v cs
theorem opens_int : Opens (Kd.int .i64) 3 := by
 intro H enc w base fuel cs x h
 obtain ⟨n, rfl, _, _⟩ := DataW.trod_int Try.underlying3 h
 exact ⟨n, rfl⟩
theorem opens_bool : Opens Kd.bool 4 := by
 intro H enc w base fuel cs x h
 obtain ⟨n, rfl, _⟩ := DataW.trod_bool Try.underlying4 h
 exact ⟨n, rfl⟩
theorem cell_of_cells {w : World} {base n : Nat} {a : Addr} {cs : List Value} (h : w.cells? base a n = some cs) : cs.length = n ∧ ∀ i u, cs[i]? = some u → w.cell? (a.add i) = some u := by
 unfold World.cells? at h
 split at h
 ·
  refine ⟨by simpa using mapM_some_length h, fun i u hu => ?_⟩
  have hi : i < n := by
   have h1 := mapM_some_length h
   have h2 := (List.getElem?_eq_some_iff.1 hu).1
   simp at h1
   omega
  have h3 := mapM_some_get h i i (by simp [hi])
  rw [h3]
  exact hu
 ·
  cases h
theorem opens_slice {α : Type} {d : Kd α} {t e : TypeId} (z : α) (ht : Try.prog.underlying t = some (.slice e)) (hz : Try.prog.cellsOf e = d.sz) (hd : Opens d e) : Opens (Kd.slice e d) t := by
 intro H enc w base fuel cs x h
 rcases Deep.open_slice ht h with ⟨rfl, _⟩ | ⟨a, len, cap, m, n, D, Pl, rfl, hb, hl, hm, hmm, _, hel⟩
 ·
  exact ⟨[], none, 0, rfl, Nat.le_refl _, rfl, by simp, fun h => absurd h (by simp)⟩
 ·
  simp only [if_true] at hmm
  subst hmm
  haveI : Inhabited (α × List Value) := ⟨(z, [])⟩
  obtain ⟨F, hF⟩ : ∃ F : Nat → α × List Value, ∀ i, i < len → w.cells? base (a.add (i * Try.prog.cellsOf e)) (Try.prog.cellsOf e) = some (F i).2 ∧ d.K w (F i).1 (F i).2 := by
   have hx : ∀ i, i < len → ∃ q : α × List Value, w.cells? base (a.add (i * Try.prog.cellsOf e)) (Try.prog.cellsOf e) = some q.2 ∧ d.K w q.1 q.2 := fun i hi => by
    obtain ⟨cs', h1, h2⟩ := hel i (by omega)
    obtain ⟨v, hv⟩ := hd H enc w base n cs' _ h2
    exact ⟨(v, cs'), h1, hv⟩
   exact Deep.choose_lt hx
  have hlen : ((List.range len).map fun i => (F i).1).length = len := by simp
  refine ⟨(List.range len).map fun i => (F i).1, some a, m, by rw [hlen], by rw [hlen]; exact hl, rfl, ?_, fun _ => ⟨a, rfl, fun j p hj => ?_⟩⟩
  ·
   rw [hlen]
   have : maxLen ≤ 9223372036854775807 := by decide
   omega
  ·
   obtain ⟨hj1, hj2⟩ := List.getElem?_eq_some_iff.1 hj
   have hjl : j < len := by simpa using hj1
   have hp : p = (F j).1 := by simpa using hj2.symm
   subst hp
   obtain ⟨h1, h2⟩ := hF j hjl
   refine ⟨(F j).2, d.K_len h2, h2, fun i u hu => ?_⟩
   have h3 := (cell_of_cells h1).2 i u hu
   rw [Deep.add_add, hz] at h3
   exact h3
theorem K_pair {α β : Type} {a : Kd α} {b : Kd β} {w : World} {cs : List Value} {o : Nat} {x : α} {y : β} (h1 : a.K w x ((cs.drop o).take a.sz)) (h2 : b.K w y (cs.drop (o + a.sz))) : (Kd.pair a b).K w (x, y) (cs.drop o) :=
 ⟨_, _, by have h := (List.take_append_drop a.sz (cs.drop o)).symm; rwa [List.drop_drop] at h, h1, h2⟩
theorem K_last {α : Type} {a : Kd α} {w : World} {cs : List Value} {o : Nat} {x : α} (h1 : a.K w x ((cs.drop o).take a.sz)) (hl : cs.length = o + a.sz) : a.K w x (cs.drop o) := by
 rwa [List.take_of_length_le (by simp; omega)] at h1
theorem field_of {α : Type} {d : Kd α} {t : TypeId} (hd : Opens d t) (hz : Try.prog.cellsOf t = d.sz) {H : Type} {enc : TypeId × Value → H} {w : World} {base n o : Nat} {cs : List Value} {xs : List (DataW H × List MemPlace)} {i : Nat} (hi : i < xs.length)
  (h : DataW.trod enc Try.prog w base (fun _ => true) true n t ((cs.drop o).take (Try.prog.cellsOf t)) = xs[i]?) : ∃ v, d.K w v ((cs.drop o).take d.sz) := by
 rw [hz, List.getElem?_eq_getElem hi] at h
 exact hd H enc w base n _ _ h
theorem opens_37 : Opens k37 37 := by
 intro H enc w base fuel cs x h
 obtain ⟨xs, n, rfl, rfl, hl, hxl, hf⟩ := DataW.trod_struct Try.underlying37 h
 have hl' : cs.length = 2 := hl.trans (by kernel_rfl)
 have hx : xs.length = 2 := hxl
 obtain ⟨v0, e0⟩ := field_of opens_int (by kernel_rfl) (i := 0) (by omega) (hf 0 _ rfl)
 obtain ⟨v1, e1⟩ := field_of opens_int (by kernel_rfl) (i := 1) (by omega) (hf 1 _ rfl)
 exact ⟨⟨v0, v1⟩, K_pair (o := 0) e0 (K_last (o := 0 + 1) e1 hl')⟩
theorem opens_44 : Opens k44 44 := by
 intro H enc w base fuel cs x h
 obtain ⟨xs, n, rfl, rfl, hl, hxl, hf⟩ := DataW.trod_struct Try.underlying44 h
 have hl' : cs.length = 3 := hl.trans (by kernel_rfl)
 have hx : xs.length = 3 := hxl
 obtain ⟨v0, e0⟩ := field_of opens_int (by kernel_rfl) (i := 0) (by omega) (hf 0 _ rfl)
 obtain ⟨v1, e1⟩ := field_of opens_int (by kernel_rfl) (i := 1) (by omega) (hf 1 _ rfl)
 obtain ⟨v2, e2⟩ := field_of opens_bool (by kernel_rfl) (i := 2) (by omega) (hf 2 _ rfl)
 exact ⟨⟨v0, v1, v2⟩, K_pair (o := 0) e0 (K_pair (o := 0 + 1) e1 (K_last (o := 0 + 1 + 1) e2 hl'))⟩
theorem opens_39 : Opens k39 39 := by
 intro H enc w base fuel cs x h
 obtain ⟨xs, n, rfl, rfl, hl, hxl, hf⟩ := DataW.trod_struct Try.underlying39 h
 have hl' : cs.length = 12 := hl.trans (by kernel_rfl)
 have hx : xs.length = 8 := hxl
 obtain ⟨v0, e0⟩ := field_of opens_37 (by kernel_rfl) (i := 0) (by omega) (hf 0 _ rfl)
 obtain ⟨v1, e1⟩ := field_of opens_37 (by kernel_rfl) (i := 1) (by omega) (hf 1 _ rfl)
 obtain ⟨v2, e2⟩ := field_of opens_37 (by kernel_rfl) (i := 2) (by omega) (hf 2 _ rfl)
 obtain ⟨v3, e3⟩ := field_of opens_int (by kernel_rfl) (i := 3) (by omega) (hf 3 _ rfl)
 obtain ⟨v4, e4⟩ := field_of opens_int (by kernel_rfl) (i := 4) (by omega) (hf 4 _ rfl)
 obtain ⟨v5, e5⟩ := field_of opens_int (by kernel_rfl) (i := 5) (by omega) (hf 5 _ rfl)
 obtain ⟨v6, e6⟩ := field_of opens_int (by kernel_rfl) (i := 6) (by omega) (hf 6 _ rfl)
 obtain ⟨v7, e7⟩ := field_of opens_37 (by kernel_rfl) (i := 7) (by omega) (hf 7 _ rfl)
 exact ⟨⟨v0, v1, v2, v3, v4, v5, v6, v7⟩, K_pair (o := 0) e0 (K_pair (o := 0 + 2) e1 (K_pair (o := 0 + 2 + 2) e2 (K_pair (o := 0 + 2 + 2 + 2) e3 (K_pair (o := 0 + 2 + 2 + 2 + 1) e4 (K_pair (o := 0 + 2 + 2 + 2 + 1 + 1) e5 (K_pair (o := 0 + 2 + 2 + 2 + 1 + 1 + 1) e6 (K_last (o := 0 + 2 + 2 + 2 + 1 + 1 + 1 + 1) e7 hl')))))))⟩
theorem opens_22 : Opens (Kd.slice 39 k39) 22 := opens_slice z39 Try.underlying22 (by kernel_rfl) opens_39
theorem opens_23 : Opens (Kd.slice 37 k37) 23 := opens_slice z37 Try.underlying23 (by kernel_rfl) opens_37
theorem opens_27 : Opens (Kd.slice 44 k44) 27 := opens_slice z44 Try.underlying27 (by kernel_rfl) opens_44
theorem opens_47 : Opens (Kd.slice 3 (Kd.int .i64)) 47 := opens_slice 0 Try.underlying47 (by kernel_rfl) opens_int
theorem opens_24 : Opens (Kd.slice 47 (Kd.slice 3 (Kd.int .i64))) 24 := opens_slice [] Try.underlying24 (by kernel_rfl) opens_47
set_option maxRecDepth 100000 in
theorem open_net {H : Type} {enc : TypeId × Value → H} {w : World} {b0 : Nat} {v : Value} {d : DataW H} {p : List MemPlace} (hv : Value.okWide Try.prog w .any b0 26 v) (h : DataW.Trod enc Try.prog w 0 (fun _ => true) true 26 v d p) :
  ∃ (A0 : Option Addr) (c0 : Nat) (l0 : List S39) (A1 : Option Addr) (c1 : Nat) (l1 : List S37) (A2 : Option Addr) (c2 : Nat) (l2 : List (List Int)), v = .agg #[.slice A0 l0.length c0, .slice A1 l1.length c1, .slice A2 l2.length c2] ∧
   Kd.C k39 w A0 l0.length l0 ∧ l0.length ≤ c0 ∧ Kd.C k37 w A1 l1.length l1 ∧ l1.length ≤ c1 ∧ Kd.C (Kd.slice 3 (Kd.int .i64)) w A2 l2.length l2 ∧ l2.length ≤ c2 := by
 obtain ⟨v0, v1, v2, y0, y1, y2, n, rfl, _, _, h0, h1, h2⟩ := Joins.open_agg3 Try.underlying26 (by kernel_rfl) (by kernel_rfl) hv h
 obtain ⟨l0, A0, c0, e0, f0, g0⟩ := opens_22 H enc w 0 n _ _ h0
 obtain ⟨l1, A1, c1, e1, f1, g1⟩ := opens_23 H enc w 0 n _ _ h1
 obtain ⟨l2, A2, c2, e2, f2, g2⟩ := opens_24 H enc w 0 n _ _ h2
 injection e0 with e0 _
 injection e1 with e1 _
 injection e2 with e2 _
 subst e0 e1 e2
 exact ⟨A0, c0, l0, A1, c1, l1, A2, c2, l2, rfl, g0, f0, g1, f1, g2, f2⟩
set_option maxRecDepth 100000 in
theorem open_truth {H : Type} {enc : TypeId × Value → H} {w : World} {b0 : Nat} {v : Value} {d : DataW H} {p : List MemPlace} (hv : Value.okWide Try.prog w .any b0 27 v) (h : DataW.Trod enc Try.prog w 0 (fun _ => true) true 27 v d p) :
  ∃ (A : Option Addr) (c : Nat) (l : List S44), v = .slice A l.length c ∧ Kd.C k44 w A l.length l ∧ l.length ≤ c := by
 obtain ⟨a, len, cap, rfl⟩ := WideShapes.okWide_slice Try.underlying27 hv
 obtain ⟨n, hn⟩ := h
 obtain ⟨l, A, c, e, f, g⟩ := opens_27 H enc w 0 n _ _ hn
 simp [Value.cells] at e
 obtain ⟨rfl, rfl, rfl⟩ := e
 exact ⟨_, _, l, rfl, g, f⟩
end Go.Proofs.Ytipphcjgdebecaa.PA
namespace Go.Proofs.Ytipphcjgdebecaa.PA
open Go.RowKit Go.Proofs.YtipphcjgdebecaaW.PrintWords Go.Proofs.YtipphcjgdebecaaW.PrintLast Go.Proofs.YtipphcjgdebecaaW.PrintMore
attribute [local go_sem] max2_int min2_int max_two min_two max_three min_three max_four min_four
set_option linter.unusedVariables false
set_option linter.unusedSimpArgs false
def inB (x lo hi : Int) : Bool := decide (lo ≤ x) && decide (x ≤ hi)
def spanB (s : S37) (lo hi : Int) : Bool := decide (lo ≤ s.f0) && (decide (s.f0 ≤ s.f1) && decide (s.f1 ≤ hi))
def loopB (l : S39) : Bool := spanB l.f0 1 1000 && (spanB l.f1 0 1000 && (spanB l.f2 0 1000 && (decide (l.f2.f0 ≤ l.f1.f0) && (decide (l.f2.f1 ≤ l.f1.f1) && (inB l.f3 0 1000000 && (inB l.f4 1 10000 && (inB l.f5 0 1000 && (inB l.f6 0 1000 && spanB l.f7 0 72))))))))
def rowB (places : Int) (i : Int) (row : List Int) : Bool := decide ((row.length : Int) = places) && (decide (rd row i = 0) && row.all fun h => inB h 0 72)
def waysB (places : Int) (ways : List (List Int)) : Bool := (List.range ways.length).all fun i => rowB places i (ways.getD i [])
def validB (l0 : List S39) (l1 : List S37) (l2 : List (List Int)) : Bool :=
 decide ((l2.length : Int) = l0.length + 1) && (waysB (l0.length + 1) l2 && (inB l0.length 1 5 && (inB l1.length 1 72 && (l0.all loopB && l1.all fun s => spanB s 0 1000))))
theorem pipe_in_eq (x lo hi : Int) : pipe_in.f x lo hi = some (inB x lo hi) := by
 unfold pipe_in.f inB
 by_cases h : x ≥ lo <;> simp [h]
theorem pipe_span_eq (a b lo hi : Int) : pipe_span.f a b lo hi = some (spanB ⟨a, b⟩ lo hi) := by
 unfold pipe_span.f spanB
 by_cases h : a ≥ lo <;> by_cases h2 : a ≤ b <;> simp [h, h2]
theorem pipe_loop_eq (l : S39) : pipe_loop.f l.f0.f0 l.f0.f1 l.f1.f0 l.f1.f1 l.f2.f0 l.f2.f1 l.f3 l.f4 l.f5 l.f6 l.f7.f0 l.f7.f1 = some (loopB l) := by
 unfold pipe_loop.f loopB
 simp only [pipe_span_eq, pipe_in_eq, Option.bind_some]
 cases spanB l.f0 1 1000 <;> simp
 cases spanB l.f1 0 1000 <;> simp
 cases spanB l.f2 0 1000 <;> simp
 by_cases h1 : l.f2.f0 ≤ l.f1.f0 <;> simp [h1]
 by_cases h2 : l.f2.f1 ≤ l.f1.f1 <;> simp [h2]
 cases inB l.f3 0 1000000 <;> simp
 cases inB l.f4 1 10000 <;> simp
 cases inB l.f5 0 1000 <;> simp
 cases inB l.f6 0 1000 <;> simp
theorem waysB_all (places : Int) (ways : List (List Int)) (h : ∀ j, j < ways.length → rowB places j (ways.getD j []) = true) : waysB places ways = true := by
 unfold waysB
 rw [List.all_eq_true]
 intro i hi
 exact h i (List.mem_range.1 hi)
theorem waysB_not (places : Int) (ways : List (List Int)) (j : Nat) (hj : j < ways.length) (h : rowB places j (ways.getD j []) = false) : waysB places ways = false := by
 unfold waysB
 rw [List.all_eq_false]
 exact ⟨j, List.mem_range.2 hj, by simp at h; simp [h]⟩
theorem in_calls (x lo hi : Int) (W : World) : Calls Try.prog 55 #[.int .i64 x, .int .i64 lo, .int .i64 hi] W fun e w' => e = .returned (.bool (inB x lo hi)) ∧ Below W.heap.size W w' :=
 (pipe_in.calls x lo hi _ W (pipe_in_eq x lo hi)).mono fun e w' ⟨h1, h2⟩ => ⟨h1, h2.below⟩
theorem valid_1_calls (x : Int) (W : World) : Calls Try.prog 82 #[.int .i64 x] W fun e w' => e = .returned (.bool (!inB x 0 72)) ∧ Below W.heap.size W w' := by
 have h : pipe_valid_1.f x = some (!inB x 0 72) := by unfold pipe_valid_1.f; rw [pipe_in_eq]; rfl
 exact (pipe_valid_1.calls x _ W h).mono fun e w' ⟨h1, h2⟩ => ⟨h1, h2.below⟩
theorem valid_2_calls (x : S39) (W : World) : Calls Try.prog 84 #[.agg #[.int .i64 x.f0.f0, .int .i64 x.f0.f1, .int .i64 x.f1.f0, .int .i64 x.f1.f1, .int .i64 x.f2.f0, .int .i64 x.f2.f1, .int .i64 x.f3, .int .i64 x.f4, .int .i64 x.f5, .int .i64 x.f6, .int .i64 x.f7.f0, .int .i64 x.f7.f1]] W fun e w' => e = .returned (.bool (!loopB x)) ∧ Below W.heap.size W w' := by
 have h : pipe_valid_2.f x.f0.f0 x.f0.f1 x.f1.f0 x.f1.f1 x.f2.f0 x.f2.f1 x.f3 x.f4 x.f5 x.f6 x.f7.f0 x.f7.f1 = some (!loopB x) := by unfold pipe_valid_2.f; rw [pipe_loop_eq]; rfl
 exact (pipe_valid_2.calls _ _ _ _ _ _ _ _ _ _ _ _ _ W h)
theorem valid_3_calls (x : S37) (W : World) : Calls Try.prog 87 #[.agg #[.int .i64 x.f0, .int .i64 x.f1]] W fun e w' => e = .returned (.bool (!spanB x 0 1000)) ∧ Below W.heap.size W w' := by
 have h : pipe_valid_3.f x.f0 x.f1 = some (!spanB x 0 1000) := by unfold pipe_valid_3.f; rw [pipe_span_eq]; rfl
 exact (pipe_valid_3.calls _ _ _ W h)
def pipe_valid.f (l0_0 : List (S39)) (l0_1 : List (S37)) (l0_2 : List (List Int)) : Option (Bool) := some (validB l0_0 l0_1 l0_2)
set_option maxHeartbeats 4000000 in
set_option maxRecDepth 100000 in
theorem pipe_valid.calls (A0_0 : Option Addr) (c0_0 : Nat) (l0_0 : List (S39)) (A0_1 : Option Addr) (c0_1 : Nat) (l0_1 : List (S37)) (A0_2 : Option Addr) (c0_2 : Nat) (l0_2 : List (List Int)) (r : Bool) (w : World) (hr0_0 : Kd.C k39 w A0_0 l0_0.length l0_0) (hc0_0 : l0_0.length ≤ c0_0) (hr0_1 : Kd.C k37 w A0_1 l0_1.length l0_1) (hc0_1 : l0_1.length ≤ c0_1) (hr0_2 : Kd.C (Kd.slice 3 (Kd.int .i64)) w A0_2 l0_2.length l0_2) (hc0_2 : l0_2.length ≤ c0_2) (h : pipe_valid.f l0_0 l0_1 l0_2 = some r) :
  Calls Try.prog 54 #[.agg #[.slice A0_0 l0_0.length c0_0, .slice A0_1 l0_1.length c0_1, .slice A0_2 l0_2.length c0_2]] w fun e w' => e = .returned (.bool r) ∧ Below w.heap.size w w' := by
 obtain rfl := Option.some.inj h
 clear h
 have hu26 := Try.underlying26
 have m2 := Kd.C_max hr0_2
 have m0 := Kd.C_max hr0_0
 have HR0 := Aside0.mk hr0_0
 have HR1 := Aside0.mk hr0_1
 have HR2 := Aside0.mk hr0_2
 clear hr0_0 hr0_1 hr0_2
 have HB := Aside0.mk (Below.refl w.heap.size w)
 by_cases hp : (l0_2.length : Int) = (l0_0.length : Int) + 1
 ·
  have b0 : (l0_0.length : Int) + 1 ≤ 9223372036854775807 := by omega
  have hp1 : ((l0_2.length : Int) != (l0_0.length : Int) + 1) = false := by simp [hp]
  have HP := Aside0.mk hp
  clear hp
  go_enter Try.func54, Try.ntmps54
  go_wp2_with ((with_reducible refine gate_dst (N := 1) rfl ?_); refine box_event ?hg (N := 1) ?hd (cs := #[.slice A0_0 l0_0.length c0_0, .slice A0_1 l0_1.length c0_1, .slice A0_2 l0_2.length c0_2]) (t := 26) ?hr ?_; (case hd => rfl); (case hg => rfl); (case hr => first | (go_simp; done) | (go_simp; rfl)); intro gb hg w2 hbox hb; have BK := Aside0.mk hbox; have HB1 := Aside0.mk (below_step HB.out hb); have hf := blk_frozen BK.out; have hc0 : w2.cell? ⟨gb, 0, none⟩ = some (.slice A0_0 l0_0.length c0_0) := (blk_cell BK.out 0).trans rfl; have hc1 : w2.cell? ⟨gb, 1, none⟩ = some (.slice A0_1 l0_1.length c0_1) := (blk_cell BK.out 1).trans rfl; have hc2 : w2.cell? ⟨gb, 2, none⟩ = some (.slice A0_2 l0_2.length c0_2) := (blk_cell BK.out 2).trans rfl; clear hbox hb hg)
  go_loopw [18] (fun s18 wr => ∃ k : Nat, k ≤ l0_2.length ∧ s18 = .int .i64 k ∧ Aside0 (∀ j : Nat, j < k → rowB (l0_0.length + 1) j (l0_2.getD j []) = true) ∧ Aside0 (wr.heap[gb]? = some (.cells #[.slice A0_0 l0_0.length c0_0, .slice A0_1 l0_1.length c0_1, .slice A0_2 l0_2.length c0_2] 26 (0, 0))) ∧ Aside0 (Below w.heap.size w wr)) (fun s _ => l0_2.length - (intOf s).toNat)
  case atStart => exact ⟨0, by omega, rfl, ⟨fun j h1 => by omega⟩, BK, HB1⟩
  case round =>
   clear BK HB1 hf hc0 hc1 hc2 hp1
   obtain ⟨k, hk1, rfl, HN, BK, HB⟩ := hrel
   have hf := blk_frozen BK.out
   have hc0 : wr.cell? ⟨gb, 0, none⟩ = some (.slice A0_0 l0_0.length c0_0) := (blk_cell BK.out 0).trans rfl
   have hc1 : wr.cell? ⟨gb, 1, none⟩ = some (.slice A0_1 l0_1.length c0_1) := (blk_cell BK.out 1).trans rfl
   have hc2 : wr.cell? ⟨gb, 2, none⟩ = some (.slice A0_2 l0_2.length c0_2) := (blk_cell BK.out 2).trans rfl
   by_cases hlt : k < l0_2.length
   ·
    obtain ⟨ad, A1, c1, e, hrow, hl1, hC⟩ := at_L1 HR2.out k (by omega) (by omega)
    cases e
    replace hrow := (HB.out.cell (World.block_lt_of_cell? w _ hrow)).trans hrow
    simp only [Int.toNat_natCast] at hrow
    have hR : Aside0 (rd_L1 l0_2 k = l0_2.getD k []) := ⟨by simp [rd_L1]⟩
    obtain ⟨row, hrw⟩ : ∃ row, row = rd_L1 l0_2 k := ⟨_, rfl⟩
    rw [← hrw] at hrow hl1 hC hR
    clear hrw
    have HC := Aside0.mk hC
    have HL := Aside0.mk hl1
    clear hC hl1
    by_cases h1 : (row.length : Int) = (l0_0.length : Int) + 1
    ·
     have h1b : ((row.length : Int) != (l0_0.length : Int) + 1) = false := by simp [h1]
     obtain ⟨ad1, e1, hx⟩ := Kd.at_int HC.out k (by omega) (by have := HP.out; omega)
     cases e1
     replace hx := (HB.out.cell (World.block_lt_of_cell? w _ hx)).trans hx
     simp only [Int.toNat_natCast] at hx
     have H1 := Aside0.mk h1
     have k1 : (k : Int) < row.length := by have := HP.out; omega
     clear h1
     by_cases h2 : rd row k = 0
     ·
      have h2b : (rd row k != 0) = false := by simp [h2]
      have H2 := Aside0.mk h2
      clear h2
      cases h3 : row.any fun h => !inB h 0 72 with
      | true =>
       have H3 := Aside0.mk h3
       clear h3
       go_wp2_with (go_at_call 81; refine (has82 row _ _ (fun h => !inB h 0 72) _ (Kd.C_below HC.out HB.out) (fun i W _ _ _ => valid_1_calls _ W)).mono ?_; rw [H3.out]; rintro e w3 ⟨rfl, hb⟩; have HB3 := Aside0.mk (below_step HB.out hb); clear hb)
       go_ret
       refine ⟨?_, HB3.out⟩
       have hw : waysB (l0_0.length + 1) l0_2 = false := waysB_not _ _ k hlt (by
        rw [← hR.out]
        simp only [rowB, H1.out, H2.out, decide_true, Bool.true_and, List.all_eq_not_any_not, H3.out, Bool.not_true])
       simp [validB, hw]
      | false =>
       have H3 := Aside0.mk h3
       clear h3
       go_wp2_with (go_at_call 81; refine (has82 row _ _ (fun h => !inB h 0 72) _ (Kd.C_below HC.out HB.out) (fun i W _ _ _ => valid_1_calls _ W)).mono ?_; rw [H3.out]; rintro e w3 ⟨rfl, hb⟩; have HB3 := Aside0.mk (below_step HB.out hb); have BK3 := Aside0.mk (blk_below BK.out hb); clear hb)
       go_roundw
       case rel => exact ⟨k + 1, by omega, by go_num, ⟨fun j hj => by
        rcases Nat.lt_or_ge j k with h | h
        ·
         exact HN.out j h
        ·
         obtain rfl : j = k := by omega
         rw [← hR.out]
         simp only [rowB, H1.out, H2.out, decide_true, Bool.true_and, List.all_eq_not_any_not, H3.out, Bool.not_false]⟩, BK3, HB3⟩
       case measure => simp [intOf]; omega
     ·
      have h2b : (rd row k != 0) = true := by simp [h2]
      have H2 := Aside0.mk h2
      clear h2
      go_wp2
      go_ret
      refine ⟨?_, HB.out⟩
      have hw : waysB (l0_0.length + 1) l0_2 = false := waysB_not _ _ k hlt (by
       rw [← hR.out]
       simp only [rowB, H2.out, decide_false, Bool.false_and, Bool.and_false])
      simp [validB, hw]
    ·
     have h1b : ((row.length : Int) != (l0_0.length : Int) + 1) = true := by simp [h1]
     have H1 := Aside0.mk h1
     clear h1
     go_wp2
     go_ret
     refine ⟨?_, HB.out⟩
     have hw : waysB (l0_0.length + 1) l0_2 = false := waysB_not _ _ k hlt (by
      rw [← hR.out]
      simp only [rowB, H1.out, decide_false, Bool.false_and])
     simp [validB, hw]
   ·
    have HW : Aside0 (waysB (l0_0.length + 1) l0_2 = true) := ⟨waysB_all _ _ (fun j hj => HN.out j (by omega))⟩
    have HV : Aside0 (validB l0_0 l0_1 l0_2 = (inB l0_0.length 1 5 && (inB l0_1.length 1 72 && (l0_0.all loopB && l0_1.all fun s => spanB s 0 1000)))) := ⟨by simp [validB, HP.out, HW.out]⟩
    have HA0 : Aside0 ((l0_0.all loopB) = !(l0_0.any fun x => !loopB x)) := ⟨List.all_eq_not_any_not⟩
    have HA1 : Aside0 ((l0_1.all fun s => spanB s 0 1000) = !(l0_1.any fun x => !spanB x 0 1000)) := ⟨List.all_eq_not_any_not⟩
    cases v1 : inB l0_0.length 1 5 with
    | false =>
     have V1 := Aside0.mk v1
     clear v1
     go_wp2_with (go_at_call 55; refine (in_calls _ _ _ _).mono ?_; rw [V1.out]; rintro e w3 ⟨rfl, hb⟩; have HB3 := Aside0.mk (below_step HB.out hb); clear hb)
     go_ret
     exact ⟨by rw [HV.out, V1.out]; rfl, HB3.out⟩
    | true =>
     have V1 := Aside0.mk v1
     clear v1
     cases v2 : inB l0_1.length 1 72 with
     | false =>
      have V2 := Aside0.mk v2
      clear v2
      go_wp2_with fail
      refine (in_calls _ _ _ _).mono ?_; rw [V1.out]; rintro e w3 ⟨rfl, hb⟩; have HB3 := Aside0.mk (below_step HB.out hb); have BK3 := Aside0.mk (blk_below BK.out hb); clear hb
      have hf3 := blk_frozen BK3.out; have hc3_0 : w3.cell? ⟨gb, 0, none⟩ = some (.slice A0_0 l0_0.length c0_0) := (blk_cell BK3.out 0).trans rfl; have hc3_1 : w3.cell? ⟨gb, 1, none⟩ = some (.slice A0_1 l0_1.length c0_1) := (blk_cell BK3.out 1).trans rfl; have hc3_2 : w3.cell? ⟨gb, 2, none⟩ = some (.slice A0_2 l0_2.length c0_2) := (blk_cell BK3.out 2).trans rfl
      go_wp2_with fail
      refine (in_calls _ _ _ _).mono ?_; rw [V2.out]; rintro e w4 ⟨rfl, hb⟩; have HB4 := Aside0.mk (below_step HB3.out hb); clear hb
      go_wp2_with fail
      go_ret
      exact ⟨by rw [HV.out, V1.out, V2.out]; rfl, HB4.out⟩
     | true =>
      have V2 := Aside0.mk v2
      clear v2
      cases v3 : l0_0.any fun x => !loopB x with
      | true =>
       have V3 := Aside0.mk v3
       clear v3
       go_wp2_with fail
       refine (in_calls _ _ _ _).mono ?_; rw [V1.out]; rintro e w3 ⟨rfl, hb⟩; have HB3 := Aside0.mk (below_step HB.out hb); have BK3 := Aside0.mk (blk_below BK.out hb); clear hb
       have hf3 := blk_frozen BK3.out; have hc3_0 : w3.cell? ⟨gb, 0, none⟩ = some (.slice A0_0 l0_0.length c0_0) := (blk_cell BK3.out 0).trans rfl; have hc3_1 : w3.cell? ⟨gb, 1, none⟩ = some (.slice A0_1 l0_1.length c0_1) := (blk_cell BK3.out 1).trans rfl; have hc3_2 : w3.cell? ⟨gb, 2, none⟩ = some (.slice A0_2 l0_2.length c0_2) := (blk_cell BK3.out 2).trans rfl
       go_wp2_with fail
       refine (in_calls _ _ _ _).mono ?_; rw [V2.out]; rintro e w4 ⟨rfl, hb⟩; have HB4 := Aside0.mk (below_step HB3.out hb); have BK4 := Aside0.mk (blk_below BK3.out hb); clear hb
       have hf4 := blk_frozen BK4.out; have hc4_0 : w4.cell? ⟨gb, 0, none⟩ = some (.slice A0_0 l0_0.length c0_0) := (blk_cell BK4.out 0).trans rfl; have hc4_1 : w4.cell? ⟨gb, 1, none⟩ = some (.slice A0_1 l0_1.length c0_1) := (blk_cell BK4.out 1).trans rfl; have hc4_2 : w4.cell? ⟨gb, 2, none⟩ = some (.slice A0_2 l0_2.length c0_2) := (blk_cell BK4.out 2).trans rfl
       go_wp2_with fail
       refine (has84 l0_0 _ _ (fun x => !loopB x) _ (Kd.C_below HR0.out HB4.out) (fun i W _ _ _ => valid_2_calls _ W)).mono ?_; rw [V3.out]; rintro e w5 ⟨rfl, hb⟩; have HB5 := Aside0.mk (below_step HB4.out hb); clear hb
       go_wp2_with fail
       go_ret
       exact ⟨by rw [HV.out, V1.out, V2.out, HA0.out, V3.out]; rfl, HB5.out⟩
      | false =>
       have V3 := Aside0.mk v3
       clear v3
       go_wp2_with fail
       refine (in_calls _ _ _ _).mono ?_; rw [V1.out]; rintro e w3 ⟨rfl, hb⟩; have HB3 := Aside0.mk (below_step HB.out hb); have BK3 := Aside0.mk (blk_below BK.out hb); clear hb
       have hf3 := blk_frozen BK3.out; have hc3_0 : w3.cell? ⟨gb, 0, none⟩ = some (.slice A0_0 l0_0.length c0_0) := (blk_cell BK3.out 0).trans rfl; have hc3_1 : w3.cell? ⟨gb, 1, none⟩ = some (.slice A0_1 l0_1.length c0_1) := (blk_cell BK3.out 1).trans rfl; have hc3_2 : w3.cell? ⟨gb, 2, none⟩ = some (.slice A0_2 l0_2.length c0_2) := (blk_cell BK3.out 2).trans rfl
       go_wp2_with fail
       refine (in_calls _ _ _ _).mono ?_; rw [V2.out]; rintro e w4 ⟨rfl, hb⟩; have HB4 := Aside0.mk (below_step HB3.out hb); have BK4 := Aside0.mk (blk_below BK3.out hb); clear hb
       have hf4 := blk_frozen BK4.out; have hc4_0 : w4.cell? ⟨gb, 0, none⟩ = some (.slice A0_0 l0_0.length c0_0) := (blk_cell BK4.out 0).trans rfl; have hc4_1 : w4.cell? ⟨gb, 1, none⟩ = some (.slice A0_1 l0_1.length c0_1) := (blk_cell BK4.out 1).trans rfl; have hc4_2 : w4.cell? ⟨gb, 2, none⟩ = some (.slice A0_2 l0_2.length c0_2) := (blk_cell BK4.out 2).trans rfl
       go_wp2_with fail
       refine (has84 l0_0 _ _ (fun x => !loopB x) _ (Kd.C_below HR0.out HB4.out) (fun i W _ _ _ => valid_2_calls _ W)).mono ?_; rw [V3.out]; rintro e w5 ⟨rfl, hb⟩; have HB5 := Aside0.mk (below_step HB4.out hb); have BK5 := Aside0.mk (blk_below BK4.out hb); clear hb
       have hf5 := blk_frozen BK5.out; have hc5_0 : w5.cell? ⟨gb, 0, none⟩ = some (.slice A0_0 l0_0.length c0_0) := (blk_cell BK5.out 0).trans rfl; have hc5_1 : w5.cell? ⟨gb, 1, none⟩ = some (.slice A0_1 l0_1.length c0_1) := (blk_cell BK5.out 1).trans rfl; have hc5_2 : w5.cell? ⟨gb, 2, none⟩ = some (.slice A0_2 l0_2.length c0_2) := (blk_cell BK5.out 2).trans rfl
       go_wp2_with fail
       refine (has87 l0_1 _ _ (fun x => !spanB x 0 1000) _ (Kd.C_below HR1.out HB5.out) (fun i W _ _ _ => valid_3_calls _ W)).mono ?_; rintro e w6 ⟨rfl, hb⟩; have HB6 := Aside0.mk (below_step HB5.out hb); clear hb
       go_wp2_with fail
       go_ret
       exact ⟨by rw [HV.out, V1.out, V2.out, HA0.out, V3.out, HA1.out]; rfl, HB6.out⟩
 ·
  have hp1 : ((l0_2.length : Int) != wrap64 ((l0_0.length : Int) + 1)) = true := by
   rw [bne_iff_ne]
   unfold wrap64
   omega
  have HP := Aside0.mk hp
  clear hp
  go_enter Try.func54, Try.ntmps54
  go_wp2_with ((with_reducible refine gate_dst (N := 1) rfl ?_); refine box_event ?hg (N := 1) ?hd (cs := #[.slice A0_0 l0_0.length c0_0, .slice A0_1 l0_1.length c0_1, .slice A0_2 l0_2.length c0_2]) (t := 26) ?hr ?_; (case hd => rfl); (case hg => rfl); (case hr => first | (go_simp; done) | (go_simp; rfl)); intro gb hg w2 hbox hb; have BK := Aside0.mk hbox; have HB1 := Aside0.mk (below_step HB.out hb); have hf := blk_frozen BK.out; have hc0 : w2.cell? ⟨gb, 0, none⟩ = some (.slice A0_0 l0_0.length c0_0) := (blk_cell BK.out 0).trans rfl; have hc1 : w2.cell? ⟨gb, 1, none⟩ = some (.slice A0_1 l0_1.length c0_1) := (blk_cell BK.out 1).trans rfl; have hc2 : w2.cell? ⟨gb, 2, none⟩ = some (.slice A0_2 l0_2.length c0_2) := (blk_cell BK.out 2).trans rfl; clear hbox hb hg)
  go_ret
  exact ⟨by simp [validB, HP.out], HB1.out⟩
end Go.Proofs.Ytipphcjgdebecaa.PA
namespace Go.Proofs.Ytipphcjgdebecaa.PA
open Go.RowKit Go.Proofs.YtipphcjgdebecaaW.PrintWords Go.Proofs.YtipphcjgdebecaaW.PrintLast Go.Proofs.YtipphcjgdebecaaW.PrintMore
attribute [local go_sem] max2_int min2_int max_two min_two max_three min_three max_four min_four
set_option linter.unusedVariables false
set_option linter.unusedSimpArgs false
def setAll (W : World) (g : Nat) : List Value → Nat → World
 | [], _ => W
 | v :: r, i => setAll (W.setCell ⟨g, i, none⟩ v) g r (i + 1)
theorem setAll_blk {g t : Nat} : ∀ (vs zs pre : List Value) (W : World), W.heap[g]? = some (.cells (pre ++ zs).toArray t (0, 0)) → zs.length = vs.length → (setAll W g vs pre.length).heap[g]? = some (.cells (pre ++ vs).toArray t (0, 0))
 | [], zs, pre, W, h, hl => by
  have : zs = [] := List.length_eq_zero_iff.1 hl
  subst this
  exact h
 | v :: vs, [], pre, W, h, hl => by simp at hl
 | v :: vs, z :: zs, pre, W, h, hl => by
  have h1 := blk_set h pre.length v
  have e : (pre ++ z :: zs).toArray.setIfInBounds pre.length v = ((pre ++ [v]) ++ zs).toArray := by simp
  rw [e] at h1
  have h2 := setAll_blk vs zs (pre ++ [v]) _ h1 (by simpa using hl)
  have e2 : pre ++ v :: vs = pre ++ [v] ++ vs := by simp
  rw [e2]
  have e3 : (pre ++ [v]).length = pre.length + 1 := by simp
  rw [e3] at h2
  exact h2
theorem setAll_new {g t : Nat} {W : World} (vs zs : List Value) (h : W.heap[g]? = some (.cells zs.toArray t (0, 0))) (hl : zs.length = vs.length) : (setAll W g vs 0).heap[g]? = some (.cells vs.toArray t (0, 0)) := setAll_blk vs zs [] W h hl
theorem setAll_far {g g' t : Nat} {cs : Array Value} (hne : g' ≠ g) : ∀ (vs : List Value) (i : Nat) (W : World), W.heap[g']? = some (.cells cs t (0, 0)) → (setAll W g vs i).heap[g']? = some (.cells cs t (0, 0))
 | [], _, _, h => h
 | v :: vs, i, W, h => setAll_far hne vs (i + 1) _ (blk_far h hne v)
theorem setAll_below {g : Nat} {w : World} (hg : w.heap.size ≤ g) : ∀ (vs : List Value) (i : Nat) (W : World), Below w.heap.size w W → Below w.heap.size w (setAll W g vs i)
 | [], _, _, h => h
 | v :: vs, i, W, h => setAll_below hg vs (i + 1) _ (below_set h hg)
theorem new_ints (W : World) (xs : List Int) (h : xs.length ≤ 9223372036854775807) : Kd.C (Kd.int .i64) (W.alloc (.cells (xs.map (Value.int .i64)).toArray 3)) (some ⟨W.heap.size, 0, none⟩) xs.length xs :=
 Kd.C_of_reads (enc := Value.int .i64) (d := (0 : Int)) (h1 := fun _ => rfl) ⟨rfl, h, fun _ => ⟨_, rfl, fun j hj => by
  have h1 := blk_cell (blk_new W (.cells (xs.map (Value.int .i64)).toArray 3)) j
  have h2 : (⟨W.heap.size, 0, none⟩ : Addr).add j = ⟨W.heap.size, j, none⟩ := by simp [Addr.add]; try omega
  rw [h2, h1]
  simp [hj]⟩⟩
theorem new_row {α : Type} (d : Kd α) (e : Nat) (W : World) (xs : List α) (inner : List Value) (hrep : Reps (d.M W W.heap.size (fun _ => True)) d.sz xs inner) (hm : xs.length ≤ 9223372036854775807) :
  d.R e (W.alloc (.cells inner.toArray e)) W.heap.size (fun _ => True) (.slice (some ⟨W.heap.size, 0, none⟩) xs.length xs.length) xs := by
 refine ⟨fun _ _ => trivial, inner, ?_, ?_⟩
 ·
  have h2 := World.ownsRow_lit (base := W.heap.size) (e := e) (size := d.sz) W inner.toArray xs.length (Nat.le_refl _) (by simpa [maxLen] using hm) (by simpa using hrep.1)
  simpa using h2
 ·
  refine hrep.imp_ (fun p c hp => d.M_mono (fun k hk => ⟨trivial, fun he => ?_⟩) (Kd.M_below (d.M_bound hp) (below_alloc (Below.refl _ _) _)))
  have h3 : k = W.heap.size := by simpa [Value.ownBlock] using he
  have := hk.2.2.1
  omega
end Go.Proofs.Ytipphcjgdebecaa.PA
namespace Go.Proofs.Ytipphcjgdebecaa.PA
open Go.RowKit Go.Proofs.YtipphcjgdebecaaW.PrintWords Go.Proofs.YtipphcjgdebecaaW.PrintLast Go.Proofs.YtipphcjgdebecaaW.PrintMore
attribute [local go_sem] max2_int min2_int max_two min_two max_three min_three max_four min_four
set_option linter.unusedVariables false
set_option linter.unusedSimpArgs false
def pipe_sum.l0 : Nat → Int → List Int → Int → Int → Option (Int)
 | 0, _, _, _, _ => none
 | k + 1, x3, x6, x7, x8 => if x8 < x7 then (if 0 ≤ x8 then (if x8 < (x6.length : Int) then (pipe_sum.l0 k (wrap64 (x3 + (rd x6 x8))) x6 x7 (wrap64 (x8 + 1))) else (none)) else (none)) else (some x3)
def pipe_sum.f (k : Nat) (l0 : List Int) : Option (Int) := pipe_sum.l0 k 0 l0 (l0.length : Int) 0
set_option maxHeartbeats 8000000 in
set_option maxRecDepth 100000 in
theorem pipe_sum.calls (k : Nat) (A0 : Option Addr) (c0 : Nat) (l0 : List Int) (r : Int) (w : World) (hr0 : Kd.C (Kd.int .i64) w A0 l0.length l0) (hc0 : l0.length ≤ c0) (h : pipe_sum.f k l0 = some r) :
  Calls Try.prog 57 #[.slice A0 l0.length c0] w fun e w' => e = .returned (.int .i64 r) ∧ Drawn0 w w' := by
 have HR0 := Aside0.mk hr0
 have HC0 := Aside0.mk hc0
 clear hr0 hc0
 have H : (pipe_sum.l0 k 0 l0 (l0.length : Int) 0) = some r := h
 clear h
 have H' := Aside0.mk H
 clear H
 go_enter Try.func57, Try.ntmps57
 go_wp2
 go_loopg [3, 8] k (fun kq v3 v8 w' => ∃ (x3_1 : Int) (x8_1 : Int), v3 = .int .i64 x3_1 ∧ v8 = .int .i64 x8_1 ∧ Aside0 (pipe_sum.l0 kq x3_1 l0 (l0.length : Int) x8_1 = some r) ∧ Aside0 (kq ≤ k) ∧ Drawn0 w w')
 case atStart => exact ⟨(0), (0), (by first | rfl | (simp; done) | (simp [*]; done)), (by first | rfl | (simp; done) | (simp [*]; done)), H', ⟨Nat.le_refl _⟩, by repeat (first | exact Drawn0.refl _ | apply Drawn0.step)⟩
 case round =>
  clear H'
  obtain ⟨x3_1, x8_1, rfl, rfl, HA, HK1, ⟨m1, rfl⟩⟩ := hrel
  cases gk with
  | zero => exact absurd HA.out (by simp [pipe_sum.l0])
  | succ k1 =>
   have H := HA.out
   clear HA
   simp only [pipe_sum.l0] at H
   by_cases c2 : x8_1 < (l0.length : Int)
   ·
    rw [if_pos c2] at H
    have c2b0 : decide (x8_1 < (l0.length : Int)) = true := decide_eq_true c2
    clear c2
    by_cases c3 : 0 ≤ x8_1
    ·
     rw [if_pos c3] at H
     have c3b0 : decide (0 ≤ x8_1) = true := decide_eq_true c3
     clear c3
     by_cases c4 : x8_1 < (l0.length : Int)
     ·
      rw [if_pos c4] at H
      have c4b0 : decide (x8_1 < (l0.length : Int)) = true := decide_eq_true c4
      clear c4
      have H' := Aside0.mk H
      clear H
      have p123 : 0 ≤ (x8_1 : Int) := of_decide_eq_true (by first | (with_reducible assumption) | assumption)
      have q123 : x8_1 < (l0.length : Int) := of_decide_eq_true (by first | (with_reducible assumption) | assumption)
      obtain ⟨ad123, e123, hx123_0⟩ := Kd.at_int HR0.out x8_1 p123 q123
      cases e123
      replace p123 := eq_true p123
      replace q123 := eq_true q123
      go_wp2
      go_roundg k1
      case measure => have := HK1.out; omega
      case rel => exact ⟨(wrap64 (x3_1 + (rd l0 x8_1))), (wrap64 (x8_1 + 1)), (by first | rfl | (simp; done) | (simp [*]; done)), (by first | rfl | (simp; done) | (simp [*]; done)), H', ⟨by have := HK1.out; omega⟩, by repeat (first | exact Drawn0.refl _ | apply Drawn0.step)⟩
     ·
      rw [if_neg c4] at H
      exact absurd H (by simp)
    ·
     rw [if_neg c3] at H
     exact absurd H (by simp)
   ·
    rw [if_neg c2] at H
    have c2b0 : decide (x8_1 < (l0.length : Int)) = false := decide_eq_false c2
    clear c2
    obtain rfl := Option.some.inj H
    go_wp2
    go_ret
    exact ⟨by first | rfl | (simp; done) | (simp [*]; done), by repeat (first | exact Drawn0.refl _ | apply Drawn0.step)⟩
end Go.Proofs.Ytipphcjgdebecaa.PA
namespace Go.Proofs.Ytipphcjgdebecaa.PA
open Go.RowKit Go.Proofs.YtipphcjgdebecaaW.PrintWords Go.Proofs.YtipphcjgdebecaaW.PrintLast Go.Proofs.YtipphcjgdebecaaW.PrintMore
attribute [local go_sem] max2_int min2_int max_two min_two max_three min_three max_four min_four
set_option linter.unusedVariables false
set_option linter.unusedSimpArgs false
abbrev Heat4 := Int × Int × Int × Int
def feedV (L : S39) (T : S44) : Int := if T.f2 = true then L.f6 else 0
def lossI (leak frost warm feed : Int) : Int := mn (wrap64 (Int.tdiv (wrap64 (leak * (wrap64 (warm + frost)))) 1000)) (wrap64 (warm + feed))
def groundV (L : S39) (lost : Int) : Int := wrap64 (Int.tdiv (wrap64 (wrap64 (lost * L.f4) * L.f5)) 1000)
def sumV (l : List Int) : Int := l.foldl (fun a x => wrap64 (a + x)) 0
def stepH (L : S39) (T : S44) (x : Heat4) : Heat4 :=
 (sumV [x.1, feedV L T, wrap64 (-(lossI T.f0 T.f1 x.1 (feedV L T)))], sumV [x.2.1, wrap64 (feedV L T * L.f4)], sumV [x.2.2.1, groundV L (lossI T.f0 T.f1 x.1 (feedV L T))],
  sumV [x.2.2.2, wrap64 (lossI T.f0 T.f1 x.1 (feedV L T) * L.f4), wrap64 (-(groundV L (lossI T.f0 T.f1 x.1 (feedV L T))))])
def playGo (L : S39) : List S44 → List S37 → Heat4 → Option Heat4
 | [], _, x => some x
 | _ :: _, [], _ => none
 | T :: ts, F :: fs, x => if (inB T.f0 L.f1.f0 L.f1.f1 && inB T.f1 F.f0 F.f1) = true then playGo L ts fs (stepH L T x) else none
def heatR : Option Heat4 → Int × Int × Int × Int × Int
 | none => (0, 0, 0, 0, 2)
 | some x => (x.1, x.2.1, x.2.2.1, x.2.2.2, 0)
def playV (l0 : List S39) (l1 : List S37) (l2 : List (List Int)) (a1 a2 : Int) (l3 : List S44) : Int × Int × Int × Int × Int :=
 if (l1.length : Int) < (l3.length : Int) then (0, 0, 0, 0, 3)
 else if (validB l0 l1 l2 && (inB a1 0 (wrap64 ((l0.length : Int) - 1)) && inB a2 (rd_T39 l0 a1).f0.f0 (rd_T39 l0 a1).f0.f1)) = true then heatR (playGo (rd_T39 l0 a1) l3 l1 (a2, 0, 0, 0))
 else (0, 0, 0, 0, 2)
theorem playGo_step (L : S39) (l3 : List S44) (l1 : List S37) (k : Nat) (h3 : k < l3.length) (h1 : k < l1.length) (x : Heat4) :
  playGo L (l3.drop k) (l1.drop k) x = if (inB (rd_T44 l3 k).f0 L.f1.f0 L.f1.f1 && inB (rd_T44 l3 k).f1 (rd_T37 l1 k).f0 (rd_T37 l1 k).f1) = true then playGo L (l3.drop (k + 1)) (l1.drop (k + 1)) (stepH L (rd_T44 l3 k) x) else none := by
 rw [List.drop_eq_getElem_cons h3, List.drop_eq_getElem_cons h1]
 have e3 : rd_T44 l3 k = l3[k] := by simp [rd_T44, h3]
 have e1 : rd_T37 l1 k = l1[k] := by simp [rd_T37, h1]
 rw [e3, e1]
 rfl
theorem sum_go (l : List Int) (hl : l.length ≤ 1000) : ∀ (k j : Nat) (s : Int), l.length - j < k → j ≤ l.length → pipe_sum.l0 k s l (l.length : Int) (j : Int) = some ((l.drop j).foldl (fun a x => wrap64 (a + x)) s) := by
 intro k
 induction k with
 | zero => intro j s h; omega
 | succ k ih =>
  intro j s h hj
  unfold pipe_sum.l0
  by_cases hlt : j < l.length
  ·
   rw [if_pos (by omega), if_pos (by omega), if_pos (by omega)]
   have hw : wrap64 ((j : Int) + 1) = ((j + 1 : Nat) : Int) := by unfold wrap64; omega
   rw [hw, ih (j + 1) _ (by omega) (by omega), List.drop_eq_getElem_cons hlt]
   have e : rd l j = l[j] := by simp [rd, hlt]
   rw [e]
   rfl
  ·
   rw [if_neg (by omega), List.drop_eq_nil_of_le (by omega)]
   rfl
theorem sum_some (l : List Int) (hl : l.length ≤ 1000) : pipe_sum.f (l.length + 1) l = some (sumV l) := sum_go l hl _ 0 0 (by omega) (by omega)
theorem sum_new_calls (W : World) (xs : List Int) (hl : xs.length ≤ 1000) : Calls Try.prog 57 #[.slice (some ⟨W.heap.size, 0, none⟩) xs.length xs.length] (W.alloc (.cells (xs.map (Value.int .i64)).toArray 3)) fun e w' => e = .returned (.int .i64 (sumV xs)) ∧ Below W.heap.size W w' :=
 (pipe_sum.calls _ _ xs.length xs _ _ (new_ints W xs (by omega)) (Nat.le_refl _) (sum_some xs hl)).mono fun e w' ⟨h1, h2⟩ => ⟨h1, below_step (below_alloc (Below.refl _ _) _) h2.below⟩
theorem sum2_calls (W : World) (a b : Int) : Calls Try.prog 57 #[.slice (some ⟨W.heap.size, 0, none⟩) 2 2] (W.alloc (.cells #[.int .i64 a, .int .i64 b] 3)) fun e w' => e = .returned (.int .i64 (sumV [a, b])) ∧ Below W.heap.size W w' := sum_new_calls W [a, b] (by simp)
theorem sum3_calls (W : World) (a b c : Int) : Calls Try.prog 57 #[.slice (some ⟨W.heap.size, 0, none⟩) 3 3] (W.alloc (.cells #[.int .i64 a, .int .i64 b, .int .i64 c] 3)) fun e w' => e = .returned (.int .i64 (sumV [a, b, c])) ∧ Below W.heap.size W w' := sum_new_calls W [a, b, c] (by simp)
structure P0 (w : World) (gb g8 : Nat) (nb : Array Value) (W : World) : Prop where
 b : W.heap[gb]? = some (.cells nb 26 (0, 0))
 r : W.heap[g8]? = some (.cells #[.int .i64 0, .int .i64 0, .int .i64 0, .int .i64 0] 31 (0, 0))
 hb : Below w.heap.size w W
theorem P0.below {w W W' : World} {gb g8 : Nat} {nb : Array Value} (h : P0 w gb g8 nb W) (hb : Below W.heap.size W W') : P0 w gb g8 nb W' := ⟨blk_below h.b hb, blk_below h.r hb, below_step h.hb hb⟩
structure PI (w : World) (gb g8 g10 g11 : Nat) (nb : Array Value) (L : S39) (x : Heat4) (W : World) : Prop where
 b : W.heap[gb]? = some (.cells nb 26 (0, 0))
 r : W.heap[g8]? = some (.cells #[.int .i64 0, .int .i64 0, .int .i64 0, .int .i64 0] 31 (0, 0))
 l : W.heap[g10]? = some (.cells #[.int .i64 L.f0.f0, .int .i64 L.f0.f1, .int .i64 L.f1.f0, .int .i64 L.f1.f1, .int .i64 L.f2.f0, .int .i64 L.f2.f1, .int .i64 L.f3, .int .i64 L.f4, .int .i64 L.f5, .int .i64 L.f6, .int .i64 L.f7.f0, .int .i64 L.f7.f1] 39 (0, 0))
 o : W.heap[g11]? = some (.cells #[.int .i64 x.1, .int .i64 x.2.1, .int .i64 x.2.2.1, .int .i64 x.2.2.2] 31 (0, 0))
 hb : Below w.heap.size w W
 ge : w.heap.size ≤ g11
 ne : g8 ≠ g11
theorem PI.below {w W W' : World} {gb g8 g10 g11 : Nat} {nb : Array Value} {L : S39} {x : Heat4} (h : PI w gb g8 g10 g11 nb L x W) (hb : Below W.heap.size W W') : PI w gb g8 g10 g11 nb L x W' :=
 ⟨blk_below h.b hb, blk_below h.r hb, blk_below h.l hb, blk_below h.o hb, below_step h.hb hb, h.ge, h.ne⟩
theorem PI.set {w W : World} {gb g8 g10 g11 : Nat} {nb : Array Value} {L : S39} {x y : Heat4} (h : PI w gb g8 g10 g11 nb L x W) (i : Nat) (v : Value) (e : (#[.int .i64 x.1, .int .i64 x.2.1, .int .i64 x.2.2.1, .int .i64 x.2.2.2] : Array Value).setIfInBounds i v = #[.int .i64 y.1, .int .i64 y.2.1, .int .i64 y.2.2.1, .int .i64 y.2.2.2]) :
  PI w gb g8 g10 g11 nb L y (W.setCell ⟨g11, i, none⟩ v) :=
 ⟨blk_far h.b (blk_ne h.b h.o (by decide)) _, blk_far h.r h.ne _, blk_far h.l (blk_ne h.l h.o (by decide)) _, by have := blk_set h.o i v; rw [e] at this; exact this, below_set h.hb h.ge, h.ge, h.ne⟩
structure TI (w : World) (gb g8 g10 g11 g13 g14 : Nat) (nb : Array Value) (L : S39) (T : S44) (F : S37) (x : Heat4) (W : World) : Prop where
 p : PI w gb g8 g10 g11 nb L x W
 t : W.heap[g13]? = some (.cells #[.int .i64 T.f0, .int .i64 T.f1, .bool T.f2] 44 (0, 0))
 f : W.heap[g14]? = some (.cells #[.int .i64 F.f0, .int .i64 F.f1] 37 (0, 0))
theorem TI.below {w W W' : World} {gb g8 g10 g11 g13 g14 : Nat} {nb : Array Value} {L : S39} {T : S44} {F : S37} {x : Heat4} (h : TI w gb g8 g10 g11 g13 g14 nb L T F x W) (hb : Below W.heap.size W W') : TI w gb g8 g10 g11 g13 g14 nb L T F x W' :=
 ⟨h.p.below hb, blk_below h.t hb, blk_below h.f hb⟩
theorem TI.set {w W : World} {gb g8 g10 g11 g13 g14 : Nat} {nb : Array Value} {L : S39} {T : S44} {F : S37} {x y : Heat4} (h : TI w gb g8 g10 g11 g13 g14 nb L T F x W) (i : Nat) (v : Value) (e : (#[.int .i64 x.1, .int .i64 x.2.1, .int .i64 x.2.2.1, .int .i64 x.2.2.2] : Array Value).setIfInBounds i v = #[.int .i64 y.1, .int .i64 y.2.1, .int .i64 y.2.2.1, .int .i64 y.2.2.2]) :
  TI w gb g8 g10 g11 g13 g14 nb L T F y (W.setCell ⟨g11, i, none⟩ v) :=
 ⟨h.p.set i v e, blk_far h.t (blk_ne h.t h.p.o (by decide)) _, blk_far h.f (blk_ne h.f h.p.o (by decide)) _⟩
theorem valid_five {l0 : List S39} {l1 : List S37} {l2 : List (List Int)} (h : validB l0 l1 l2 = true) : 1 ≤ l0.length ∧ l0.length ≤ 5 := by
 unfold validB inB at h
 simp only [Bool.and_eq_true, decide_eq_true_eq] at h
 omega
def msk (n k : Nat) : Array Bool := (List.replicate k true ++ List.replicate (n - k) false).toArray
def pipe_Play.T3 : Bool × List (List Nat × List Nat) := (true, [([], []), ([0], [0]), ([1], [1]), ([2, 1], [2]), ([3], [3]), ([3], [3]), ([5, 3], [3, 5]), ([6, 3], [3, 6]), ([7, 3], [3, 7]), ([4, 8, 3, 3], [3, 4, 8]), ([9, 3], [3, 9]), ([3, 10], [3, 10]), ([11, 9], [11]), ([12], [12]), ([12], [12]), ([14, 12], [12, 14]), ([12], [12]), ([15, 16, 12], [12, 15, 16]), ([17, 12], [12, 17]), ([18, 12], [12, 18]), ([19, 12], [12, 19]), ([12], [12]), ([21, 12], [12, 21]), ([12], [12]), ([22, 23, 12], [12, 22, 23]), ([24, 12], [12, 24]), ([25, 12], [12, 25]), ([26, 12], [12, 26]), ([13, 20, 27, 12, 12], [12, 13, 20, 27]), ([28, 12], [12, 28]), ([12, 29], [12, 29])])
def pipe_Play.B3 : List Nat := [0, 1, 3, 7, 15, 15, 47, 111, 239, 511, 1023, 2047, 4095, 8191, 8191, 24575, 8191, 122879, 253951, 516095, 1040383, 8191, 2105343, 8191, 14688255, 31465471, 65019903, 132128767, 268435455, 536870911, 1073741823]
theorem pipe_Play.tab3 : rtab .any (opsOf Try.f18 3) = pipe_Play.T3 := by kernel_rfl
theorem pipe_Play.bits3 : waitsOk pipe_Play.T3.2 pipe_Play.B3 = true := by kernel_rfl
def pipe_Play.f (l0_0 : List (S39)) (l0_1 : List (S37)) (l0_2 : List (List Int)) (a1 : Int) (a2 : Int) (l3 : List (S44)) : Option (Int × Int × Int × Int × Int) := some (playV l0_0 l0_1 l0_2 a1 a2 l3)
set_option maxHeartbeats 4000000 in
set_option maxRecDepth 100000 in
theorem pipe_Play.calls (A0_0 : Option Addr) (c0_0 : Nat) (l0_0 : List (S39)) (A0_1 : Option Addr) (c0_1 : Nat) (l0_1 : List (S37)) (A0_2 : Option Addr) (c0_2 : Nat) (l0_2 : List (List Int)) (a1 : Int) (a2 : Int) (A3 : Option Addr) (c3 : Nat) (l3 : List (S44)) (r1 : Int) (r2 : Int) (r3 : Int) (r4 : Int) (r5 : Int) (w : World) (hr0_0 : Kd.C k39 w A0_0 l0_0.length l0_0) (hc0_0 : l0_0.length ≤ c0_0) (hr0_1 : Kd.C k37 w A0_1 l0_1.length l0_1) (hc0_1 : l0_1.length ≤ c0_1) (hr0_2 : Kd.C (Kd.slice 3 (Kd.int .i64)) w A0_2 l0_2.length l0_2) (hc0_2 : l0_2.length ≤ c0_2) (hr3 : Kd.C k44 w A3 l3.length l3) (hc3 : l3.length ≤ c3) (h : pipe_Play.f l0_0 l0_1 l0_2 a1 a2 l3 = some (r1, r2, r3, r4, r5)) :
  Calls Try.prog 18 #[.agg #[.slice A0_0 l0_0.length c0_0, .slice A0_1 l0_1.length c0_1, .slice A0_2 l0_2.length c0_2], .int .i64 a1, .int .i64 a2, .slice A3 l3.length c3] w fun e w' => e = .returned (.tuple #[.agg #[.int .i64 r1, .int .i64 r2, .int .i64 r3, .int .i64 r4], .int .i64 r5]) ∧ Below w.heap.size w w' := by
 have h' := Option.some.inj h
 clear h
 have HF := Aside0.mk h'
 clear h'
 have hu26 := Try.underlying26
 have hu31 := Try.underlying31
 have hu39 := Try.underlying39
 have hu44 := Try.underlying44
 have hu37 := Try.underlying37
 have HB := Aside0.mk (Below.refl w.heap.size w)
 have HR0 := Aside0.mk hr0_0
 have HR1 := Aside0.mk hr0_1
 have HR2 := Aside0.mk hr0_2
 have HR3 := Aside0.mk hr3
 clear hr0_0 hr0_1 hr0_2 hr3
 by_cases c5 : (l0_1.length : Int) < (l3.length : Int)
 ·
  have he := HF.out
  unfold playV at he
  rw [if_pos c5] at he
  cases he
  have c5n : l0_1.length < l3.length := by omega
  go_enter Try.func18, Try.ntmps18
  go_wp2_with (first | ((with_reducible refine gate_dst (N := 4) rfl ?_); refine box_event ?hg (N := 4) ?hd (cs := #[.slice A0_0 l0_0.length c0_0, .slice A0_1 l0_1.length c0_1, .slice A0_2 l0_2.length c0_2]) (t := 26) ?hr ?_; (case hd => rfl); (case hg => rfl); (case hr => first | (go_simp; done) | (go_simp; rfl)); intro gb hg_gb w2 hbox hb; have BKgb := Aside0.mk hbox; have n_HB := Aside0.mk (below_step HB.out hb); have GEgb : w.heap.size ≤ gb := (by rw [hg_gb]; exact HB.out.size); clear HB; have HB := n_HB; clear n_HB; clear hbox hb hg_gb) | ((with_reducible refine gate_dst (N := 8) rfl ?_); refine box_event ?hg (N := 8) ?hd (cs := #[.int .i64 0, .int .i64 0, .int .i64 0, .int .i64 0]) (t := 31) ?hr ?_; (case hd => rfl); (case hg => rfl); (case hr => first | (go_simp; done) | (go_simp; rfl)); intro g8 hg_g8 w3 hbox hb; have BKg8 := Aside0.mk hbox; have n_BKgb := Aside0.mk (blk_below BKgb.out hb); clear BKgb; have BKgb := n_BKgb; clear n_BKgb; have n_HB := Aside0.mk (below_step HB.out hb); have GEg8 : w.heap.size ≤ g8 := (by rw [hg_g8]; exact HB.out.size); clear HB; have HB := n_HB; clear n_HB; clear hbox hb hg_g8; have hfgb := blk_frozen BKgb.out; have hcgb_0 : w3.cell? ⟨gb, 0, none⟩ = some (.slice A0_0 l0_0.length c0_0) := (blk_cell BKgb.out 0).trans rfl; have hcgb_1 : w3.cell? ⟨gb, 1, none⟩ = some (.slice A0_1 l0_1.length c0_1) := (blk_cell BKgb.out 1).trans rfl; have hcgb_2 : w3.cell? ⟨gb, 2, none⟩ = some (.slice A0_2 l0_2.length c0_2) := (blk_cell BKgb.out 2).trans rfl; have hfg8 := blk_frozen BKg8.out; have hcg8_0 : w3.cell? ⟨g8, 0, none⟩ = some (.int .i64 0) := (blk_cell BKg8.out 0).trans rfl; have hcg8_1 : w3.cell? ⟨g8, 1, none⟩ = some (.int .i64 0) := (blk_cell BKg8.out 1).trans rfl; have hcg8_2 : w3.cell? ⟨g8, 2, none⟩ = some (.int .i64 0) := (blk_cell BKg8.out 2).trans rfl; have hcg8_3 : w3.cell? ⟨g8, 3, none⟩ = some (.int .i64 0) := (blk_cell BKg8.out 3).trans rfl))
  refine bodyPost_ret (results_ct rfl _ _ g8 31 #[.int .i64 0, .int .i64 0, .int .i64 0, .int .i64 0] (0, 0) _ rfl ((blk_set (blk_set (blk_set (blk_set BKg8.out 0 _) 1 _) 2 _) 3 _)) Try.underlying31 rfl (by kernel_rfl)) rfl ?_
  exact ⟨rfl, (below_set (j := 3) (below_set (j := 2) (below_set (j := 1) (below_set (j := 0) HB.out GEg8) GEg8) GEg8) GEg8)⟩
 ·
  have HF2 : Aside0 ((if (validB l0_0 l0_1 l0_2 && (inB a1 0 (wrap64 ((l0_0.length : Int) - 1)) && inB a2 (rd_T39 l0_0 a1).f0.f0 (rd_T39 l0_0 a1).f0.f1)) = true then heatR (playGo (rd_T39 l0_0 a1) l3 l0_1 (a2, 0, 0, 0)) else (0, 0, 0, 0, 2)) = (r1, r2, r3, r4, r5)) := ⟨by rw [← HF.out]; unfold playV; rw [if_neg c5]⟩
  have c5n : ¬ l0_1.length < l3.length := by omega
  go_enter Try.func18, Try.ntmps18
  go_upto_region 3 with (first | ((with_reducible refine gate_dst (N := 4) rfl ?_); refine box_event ?hg (N := 4) ?hd (cs := #[.slice A0_0 l0_0.length c0_0, .slice A0_1 l0_1.length c0_1, .slice A0_2 l0_2.length c0_2]) (t := 26) ?hr ?_; (case hd => rfl); (case hg => rfl); (case hr => first | (go_simp; done) | (go_simp; rfl)); intro gb hg_gb w2 hbox hb; have BKgb := Aside0.mk hbox; have n_HB := Aside0.mk (below_step HB.out hb); have GEgb : w.heap.size ≤ gb := (by rw [hg_gb]; exact HB.out.size); clear HB; have HB := n_HB; clear n_HB; clear hbox hb hg_gb) | ((with_reducible refine gate_dst (N := 8) rfl ?_); refine box_event ?hg (N := 8) ?hd (cs := #[.int .i64 0, .int .i64 0, .int .i64 0, .int .i64 0]) (t := 31) ?hr ?_; (case hd => rfl); (case hg => rfl); (case hr => first | (go_simp; done) | (go_simp; rfl)); intro g8 hg_g8 w3 hbox hb; have BKg8 := Aside0.mk hbox; have n_BKgb := Aside0.mk (blk_below BKgb.out hb); clear BKgb; have BKgb := n_BKgb; clear n_BKgb; have n_HB := Aside0.mk (below_step HB.out hb); have GEg8 : w.heap.size ≤ g8 := (by rw [hg_g8]; exact HB.out.size); clear HB; have HB := n_HB; clear n_HB; clear hbox hb hg_g8; have hfgb := blk_frozen BKgb.out; have hcgb_0 : w3.cell? ⟨gb, 0, none⟩ = some (.slice A0_0 l0_0.length c0_0) := (blk_cell BKgb.out 0).trans rfl; have hcgb_1 : w3.cell? ⟨gb, 1, none⟩ = some (.slice A0_1 l0_1.length c0_1) := (blk_cell BKgb.out 1).trans rfl; have hcgb_2 : w3.cell? ⟨gb, 2, none⟩ = some (.slice A0_2 l0_2.length c0_2) := (blk_cell BKgb.out 2).trans rfl; have hfg8 := blk_frozen BKg8.out; have hcg8_0 : w3.cell? ⟨g8, 0, none⟩ = some (.int .i64 0) := (blk_cell BKg8.out 0).trans rfl; have hcg8_1 : w3.cell? ⟨g8, 1, none⟩ = some (.int .i64 0) := (blk_cell BKg8.out 1).trans rfl; have hcg8_2 : w3.cell? ⟨g8, 2, none⟩ = some (.int .i64 0) := (blk_cell BKg8.out 2).trans rfl; have hcg8_3 : w3.cell? ⟨g8, 3, none⟩ = some (.int .i64 0) := (blk_cell BKg8.out 3).trans rfl))
  obtain ⟨ok, hok⟩ : ∃ ok, ok = (validB l0_0 l0_1 l0_2 && (inB a1 0 (wrap64 ((l0_0.length : Int) - 1)) && inB a2 (rd_T39 l0_0 a1).f0.f0 (rd_T39 l0_0 a1).f0.f1)) := ⟨_, rfl⟩
  have HOK := Aside0.mk hok
  rw [← hok] at HF2
  clear hok
  have HP := Aside0.mk (P0.mk BKgb.out BKg8.out HB.out)
  go_cut [55] (fun v55 wc => ∃ nok, v55 = .bool nok ∧ Aside0 (nok = !ok) ∧ Aside0 (P0 w gb g8 #[.slice A0_0 l0_0.length c0_0, .slice A0_1 l0_1.length c0_1, .slice A0_2 l0_2.length c0_2] wc))
  case first =>
   have hval : ∀ W, Below w.heap.size w W → Calls Try.prog 54 #[.agg #[.slice A0_0 l0_0.length c0_0, .slice A0_1 l0_1.length c0_1, .slice A0_2 l0_2.length c0_2]] W fun e w' => e = .returned (.bool (validB l0_0 l0_1 l0_2)) ∧ Below W.heap.size W w' := fun W hW =>
    pipe_valid.calls _ _ _ _ _ _ _ _ _ _ W (Kd.C_below HR0.out hW) hc0_0 (Kd.C_below HR1.out hW) hc0_1 (Kd.C_below HR2.out hW) hc0_2 rfl
   have HVAL := Aside0.mk hval
   clear hval BKgb BKg8 HB HF2 hc0_0 hc0_1 hc0_2 hc3
   have htup : ∀ W, P0 w gb g8 #[.slice A0_0 l0_0.length c0_0, .slice A0_1 l0_1.length c0_1, .slice A0_2 l0_2.length c0_2] W → W.cell? ⟨gb, 0, none⟩ = some (.slice A0_0 l0_0.length c0_0) ∧ W.cell? ⟨gb, 1, none⟩ = some (.slice A0_1 l0_1.length c0_1) ∧ W.cell? ⟨gb, 2, none⟩ = some (.slice A0_2 l0_2.length c0_2) ∧ Aside0 (P0 w gb g8 #[.slice A0_0 l0_0.length c0_0, .slice A0_1 l0_1.length c0_1, .slice A0_2 l0_2.length c0_2] W) := fun W h =>
    ⟨blk_cell h.b 0, blk_cell h.b 1, blk_cell h.b 2, ⟨h⟩⟩
   have hp3 := HP.out.below (below_drew (Below.refl w3.heap.size w3))
   have HT := Aside0.mk htup
   have HP3 := Aside0.mk (htup _ hp3)
   clear htup hp3
   cases hv : validB l0_0 l0_1 l0_2 with
   | false =>
    have hk : ok = false := by rw [HOK.out, hv]; rfl
    subst hk
    have HVAL2 : Aside0 (∀ W, Below w.heap.size w W → Calls Try.prog 54 #[.agg #[.slice A0_0 l0_0.length c0_0, .slice A0_1 l0_1.length c0_1, .slice A0_2 l0_2.length c0_2]] W fun e w' => e = .returned (.bool false) ∧ Below W.heap.size W w') := ⟨fun W hW => by have h := HVAL.out W hW; rw [hv] at h; exact h⟩
    clear hv HOK HVAL
    refine start_ (n := 31) (S := fun w' => w'.cell? ⟨gb, 0, none⟩ = some (.slice A0_0 l0_0.length c0_0) ∧ w'.cell? ⟨gb, 1, none⟩ = some (.slice A0_1 l0_1.length c0_1) ∧ w'.cell? ⟨gb, 2, none⟩ = some (.slice A0_2 l0_2.length c0_2) ∧ Aside0 (P0 w gb g8 #[.slice A0_0 l0_0.length c0_0, .slice A0_1 l0_1.length c0_1, .slice A0_2 l0_2.length c0_2] w')) (ds := []) (msk 31 0) (by kernel_rfl) rfl (by kernel_rfl) HP3.out (fun hHeld => ?_); refine with_tabW pipe_Play.tab3 pipe_Play.bits3 (fun HT_ HW_ => ?_)
    refine take_ (i := 0) (N := some 25) (v := ?_) (a' := ?_) (msk 31 1) rfl rfl (take_ofW HT_.out HW_.out (by kernel_rfl)) (fun _ _ _ h => h) (Or.inl ⟨by rfl, ?_⟩) hHeld ?_ ?_; rotate_left; (focus (rintro w' ⟨s0, s1, s2, s3⟩; go_simp; with_reducible rfl)); rotate_left; (focus (simp only [Act.put, List.setIfInBounds_toArray, List.set_cons_zero, List.set_cons_succ, i64_w, i32_w]; rfl))
    refine one_ (i := 1) (N := some 26) (msk 31 2) rfl rfl (one_of HT_.out (by kernel_rfl)) (by decide) (fun K hK => ?_)
    refine goes_ Try.func54 (by kernel_rfl) rfl #[.agg #[.slice A0_0 l0_0.length c0_0, .slice A0_1 l0_1.length c0_1, .slice A0_2 l0_2.length c0_2]] (by rfl) rfl rfl (by (try simp only [List.map_toArray, List.map_cons, List.map_nil]); first | done | rfl | (simp only [List.length_drop, List.length_take]; rfl)) ?_
    refine (HVAL2.out _ (P0.hb hHeld.2.2.2.out)).mono ?_; rintro e w5 ⟨rfl, hb⟩; have HP4 := Aside0.mk (HT.out w5 (P0.below hHeld.2.2.2.out hb)); clear hb; refine ⟨_, rfl, ?_⟩; refine hK.out _ _ HP4.out (fun hHeld => ?_); clear hK K; refine norm_ (a' := ?_) ?_ ?_; rotate_left; (focus (show Act.put _ (some 26) _ = _; simp only [Act.put, List.setIfInBounds_toArray, List.set_cons_zero, List.set_cons_succ, i64_w, i32_w]; rfl))
    refine pure_ (i := 2) (N := some 27) (v := ?_) (a' := ?_) (msk 31 3) rfl rfl (any_of HT_.out (by kernel_rfl)) (fun _ _ _ h => h) (Or.inl ⟨by rfl, ?_⟩) ?_ ?_; rotate_left; (focus (intro w'; go_simp; with_reducible rfl)); rotate_left; (focus (simp only [Act.put, List.setIfInBounds_toArray, List.set_cons_zero, List.set_cons_succ, i64_w, i32_w]; rfl))
    refine pure_ (i := 3) (N := some 28) (v := ?_) (a' := ?_) (msk 31 4) rfl rfl (any_of HT_.out (by kernel_rfl)) (fun _ _ _ h => h) (Or.inl ⟨by rfl, ?_⟩) ?_ ?_; rotate_left; (focus (intro w'; go_simp; with_reducible rfl)); rotate_left; (focus (simp only [Act.put, List.setIfInBounds_toArray, List.set_cons_zero, List.set_cons_succ, i64_w, i32_w]; rfl))
    refine pure_ (i := 4) (N := some 29) (v := undef) (a' := ?_) (msk 31 5) rfl rfl (any_of HT_.out (by kernel_rfl)) (fun _ _ _ h => h) (Or.inr ⟨by rfl, rfl⟩) ?_ ?_; rotate_left; (focus (simp only [Act.put, List.setIfInBounds_toArray, List.set_cons_zero, List.set_cons_succ, i64_w, i32_w]; rfl))
    refine pure_ (i := 5) (N := some 30) (v := undef) (a' := ?_) (msk 31 6) rfl rfl (any_of HT_.out (by kernel_rfl)) (fun _ _ _ h => h) (Or.inr ⟨by rfl, rfl⟩) ?_ ?_; rotate_left; (focus (simp only [Act.put, List.setIfInBounds_toArray, List.set_cons_zero, List.set_cons_succ, i64_w, i32_w]; rfl))
    refine pure_ (i := 6) (N := some 31) (v := undef) (a' := ?_) (msk 31 7) rfl rfl (any_of HT_.out (by kernel_rfl)) (fun _ _ _ h => h) (Or.inr ⟨by rfl, rfl⟩) ?_ ?_; rotate_left; (focus (simp only [Act.put, List.setIfInBounds_toArray, List.set_cons_zero, List.set_cons_succ, i64_w, i32_w]; rfl))
    refine pure_ (i := 7) (N := some 32) (v := undef) (a' := ?_) (msk 31 8) rfl rfl (any_of HT_.out (by kernel_rfl)) (fun _ _ _ h => h) (Or.inr ⟨by rfl, rfl⟩) ?_ ?_; rotate_left; (focus (simp only [Act.put, List.setIfInBounds_toArray, List.set_cons_zero, List.set_cons_succ, i64_w, i32_w]; rfl))
    refine pure_ (i := 8) (N := some 33) (v := undef) (a' := ?_) (msk 31 9) rfl rfl (any_of HT_.out (by kernel_rfl)) (fun _ _ _ h => h) (Or.inr ⟨by rfl, rfl⟩) ?_ ?_; rotate_left; (focus (simp only [Act.put, List.setIfInBounds_toArray, List.set_cons_zero, List.set_cons_succ, i64_w, i32_w]; rfl))
    refine pure_ (i := 9) (N := some 34) (v := undef) (a' := ?_) (msk 31 10) rfl rfl (any_of HT_.out (by kernel_rfl)) (fun _ _ _ h => h) (Or.inr ⟨by rfl, rfl⟩) ?_ ?_; rotate_left; (focus (simp only [Act.put, List.setIfInBounds_toArray, List.set_cons_zero, List.set_cons_succ, i64_w, i32_w]; rfl))
    refine pure_ (i := 10) (N := some 35) (v := undef) (a' := ?_) (msk 31 11) rfl rfl (any_of HT_.out (by kernel_rfl)) (fun _ _ _ h => h) (Or.inr ⟨by rfl, rfl⟩) ?_ ?_; rotate_left; (focus (simp only [Act.put, List.setIfInBounds_toArray, List.set_cons_zero, List.set_cons_succ, i64_w, i32_w]; rfl))
    refine pure_ (i := 11) (N := some 36) (v := ?_) (a' := ?_) (msk 31 12) rfl rfl (any_of HT_.out (by kernel_rfl)) (fun _ _ _ h => h) (Or.inl ⟨by rfl, ?_⟩) ?_ ?_; rotate_left; (focus (intro w'; go_simp; with_reducible rfl)); rotate_left; (focus (simp only [Act.put, List.setIfInBounds_toArray, List.set_cons_zero, List.set_cons_succ, i64_w, i32_w]; rfl))
    refine pure_ (i := 12) (N := some 37) (v := ?_) (a' := ?_) (msk 31 13) rfl rfl (any_of HT_.out (by kernel_rfl)) (fun _ _ _ h => h) (Or.inl ⟨by rfl, ?_⟩) ?_ ?_; rotate_left; (focus (intro w'; go_simp; with_reducible rfl)); rotate_left; (focus (simp only [Act.put, List.setIfInBounds_toArray, List.set_cons_zero, List.set_cons_succ, i64_w, i32_w]; rfl))
    refine pure_ (i := 13) (N := some 38) (v := undef) (a' := ?_) (msk 31 14) rfl rfl (any_of HT_.out (by kernel_rfl)) (fun _ _ _ h => h) (Or.inr ⟨by rfl, rfl⟩) ?_ ?_; rotate_left; (focus (simp only [Act.put, List.setIfInBounds_toArray, List.set_cons_zero, List.set_cons_succ, i64_w, i32_w]; rfl))
    refine pure_ (i := 14) (N := some 39) (v := undef) (a' := ?_) (msk 31 15) rfl rfl (any_of HT_.out (by kernel_rfl)) (fun _ _ _ h => h) (Or.inr ⟨by rfl, rfl⟩) ?_ ?_; rotate_left; (focus (simp only [Act.put, List.setIfInBounds_toArray, List.set_cons_zero, List.set_cons_succ, i64_w, i32_w]; rfl))
    refine pure_ (i := 15) (N := some 40) (v := undef) (a' := ?_) (msk 31 16) rfl rfl (any_of HT_.out (by kernel_rfl)) (fun _ _ _ h => h) (Or.inr ⟨by rfl, rfl⟩) ?_ ?_; rotate_left; (focus (simp only [Act.put, List.setIfInBounds_toArray, List.set_cons_zero, List.set_cons_succ, i64_w, i32_w]; rfl))
    refine pure_ (i := 16) (N := some 41) (v := undef) (a' := ?_) (msk 31 17) rfl rfl (any_of HT_.out (by kernel_rfl)) (fun _ _ _ h => h) (Or.inr ⟨by rfl, rfl⟩) ?_ ?_; rotate_left; (focus (simp only [Act.put, List.setIfInBounds_toArray, List.set_cons_zero, List.set_cons_succ, i64_w, i32_w]; rfl))
    refine pure_ (i := 17) (N := some 42) (v := undef) (a' := ?_) (msk 31 18) rfl rfl (any_of HT_.out (by kernel_rfl)) (fun _ _ _ h => h) (Or.inr ⟨by rfl, rfl⟩) ?_ ?_; rotate_left; (focus (simp only [Act.put, List.setIfInBounds_toArray, List.set_cons_zero, List.set_cons_succ, i64_w, i32_w]; rfl))
    refine pure_ (i := 18) (N := some 43) (v := undef) (a' := ?_) (msk 31 19) rfl rfl (any_of HT_.out (by kernel_rfl)) (fun _ _ _ h => h) (Or.inr ⟨by rfl, rfl⟩) ?_ ?_; rotate_left; (focus (simp only [Act.put, List.setIfInBounds_toArray, List.set_cons_zero, List.set_cons_succ, i64_w, i32_w]; rfl))
    refine pure_ (i := 19) (N := some 44) (v := undef) (a' := ?_) (msk 31 20) rfl rfl (any_of HT_.out (by kernel_rfl)) (fun _ _ _ h => h) (Or.inr ⟨by rfl, rfl⟩) ?_ ?_; rotate_left; (focus (simp only [Act.put, List.setIfInBounds_toArray, List.set_cons_zero, List.set_cons_succ, i64_w, i32_w]; rfl))
    refine pure_ (i := 20) (N := some 45) (v := undef) (a' := ?_) (msk 31 21) rfl rfl (any_of HT_.out (by kernel_rfl)) (fun _ _ _ h => h) (Or.inr ⟨by rfl, rfl⟩) ?_ ?_; rotate_left; (focus (simp only [Act.put, List.setIfInBounds_toArray, List.set_cons_zero, List.set_cons_succ, i64_w, i32_w]; rfl))
    refine pure_ (i := 21) (N := some 46) (v := undef) (a' := ?_) (msk 31 22) rfl rfl (any_of HT_.out (by kernel_rfl)) (fun _ _ _ h => h) (Or.inr ⟨by rfl, rfl⟩) ?_ ?_; rotate_left; (focus (simp only [Act.put, List.setIfInBounds_toArray, List.set_cons_zero, List.set_cons_succ, i64_w, i32_w]; rfl))
    refine pure_ (i := 22) (N := some 47) (v := undef) (a' := ?_) (msk 31 23) rfl rfl (any_of HT_.out (by kernel_rfl)) (fun _ _ _ h => h) (Or.inr ⟨by rfl, rfl⟩) ?_ ?_; rotate_left; (focus (simp only [Act.put, List.setIfInBounds_toArray, List.set_cons_zero, List.set_cons_succ, i64_w, i32_w]; rfl))
    refine pure_ (i := 23) (N := some 48) (v := undef) (a' := ?_) (msk 31 24) rfl rfl (any_of HT_.out (by kernel_rfl)) (fun _ _ _ h => h) (Or.inr ⟨by rfl, rfl⟩) ?_ ?_; rotate_left; (focus (simp only [Act.put, List.setIfInBounds_toArray, List.set_cons_zero, List.set_cons_succ, i64_w, i32_w]; rfl))
    refine pure_ (i := 24) (N := some 49) (v := undef) (a' := ?_) (msk 31 25) rfl rfl (any_of HT_.out (by kernel_rfl)) (fun _ _ _ h => h) (Or.inr ⟨by rfl, rfl⟩) ?_ ?_; rotate_left; (focus (simp only [Act.put, List.setIfInBounds_toArray, List.set_cons_zero, List.set_cons_succ, i64_w, i32_w]; rfl))
    refine pure_ (i := 25) (N := some 50) (v := undef) (a' := ?_) (msk 31 26) rfl rfl (any_of HT_.out (by kernel_rfl)) (fun _ _ _ h => h) (Or.inr ⟨by rfl, rfl⟩) ?_ ?_; rotate_left; (focus (simp only [Act.put, List.setIfInBounds_toArray, List.set_cons_zero, List.set_cons_succ, i64_w, i32_w]; rfl))
    refine pure_ (i := 26) (N := some 51) (v := undef) (a' := ?_) (msk 31 27) rfl rfl (any_of HT_.out (by kernel_rfl)) (fun _ _ _ h => h) (Or.inr ⟨by rfl, rfl⟩) ?_ ?_; rotate_left; (focus (simp only [Act.put, List.setIfInBounds_toArray, List.set_cons_zero, List.set_cons_succ, i64_w, i32_w]; rfl))
    refine pure_ (i := 27) (N := some 52) (v := undef) (a' := ?_) (msk 31 28) rfl rfl (any_of HT_.out (by kernel_rfl)) (fun _ _ _ h => h) (Or.inr ⟨by rfl, rfl⟩) ?_ ?_; rotate_left; (focus (simp only [Act.put, List.setIfInBounds_toArray, List.set_cons_zero, List.set_cons_succ, i64_w, i32_w]; rfl))
    refine pure_ (i := 28) (N := some 53) (v := undef) (a' := ?_) (msk 31 29) rfl rfl (any_of HT_.out (by kernel_rfl)) (fun _ _ _ h => h) (Or.inr ⟨by rfl, rfl⟩) ?_ ?_; rotate_left; (focus (simp only [Act.put, List.setIfInBounds_toArray, List.set_cons_zero, List.set_cons_succ, i64_w, i32_w]; rfl))
    refine pure_ (i := 29) (N := some 54) (v := undef) (a' := ?_) (msk 31 30) rfl rfl (any_of HT_.out (by kernel_rfl)) (fun _ _ _ h => h) (Or.inr ⟨by rfl, rfl⟩) ?_ ?_; rotate_left; (focus (simp only [Act.put, List.setIfInBounds_toArray, List.set_cons_zero, List.set_cons_succ, i64_w, i32_w]; rfl))
    refine pure_ (i := 30) (N := some 55) (v := ?_) (a' := ?_) (msk 31 31) rfl rfl (any_of HT_.out (by kernel_rfl)) (fun _ _ _ h => h) (Or.inl ⟨by rfl, ?_⟩) ?_ ?_; rotate_left; (focus (intro w'; go_simp; with_reducible rfl)); rotate_left; (focus (simp only [Act.put, List.setIfInBounds_toArray, List.set_cons_zero, List.set_cons_succ, i64_w, i32_w]; rfl))
    refine done_ (done_of HT_.out (by kernel_rfl)) ?_
    try go_wp2
    go_meet
    case rel => exact ⟨_, rfl, ⟨rfl⟩, HP4.out.2.2.2⟩
   | true =>
    have HVAL2 : Aside0 (∀ W, Below w.heap.size w W → Calls Try.prog 54 #[.agg #[.slice A0_0 l0_0.length c0_0, .slice A0_1 l0_1.length c0_1, .slice A0_2 l0_2.length c0_2]] W fun e w' => e = .returned (.bool true) ∧ Below W.heap.size W w') := ⟨fun W hW => by have h := HVAL.out W hW; rw [hv] at h; exact h⟩
    clear HVAL
    cases hi : inB a1 0 (wrap64 ((l0_0.length : Int) - 1)) with
    | false =>
     have hk : ok = false := by rw [HOK.out, hv, hi]; rfl
     subst hk
     have HIN : Aside0 (∀ W, Calls Try.prog 55 #[.int .i64 a1, .int .i64 0, .int .i64 (wrap64 ((l0_0.length : Int) - 1))] W fun e w' => e = .returned (.bool false) ∧ Below W.heap.size W w') := ⟨fun W => by have h := in_calls a1 0 (wrap64 ((l0_0.length : Int) - 1)) W; rw [hi] at h; exact h⟩
     clear hv HOK hi
     refine start_ (n := 31) (S := fun w' => w'.cell? ⟨gb, 0, none⟩ = some (.slice A0_0 l0_0.length c0_0) ∧ w'.cell? ⟨gb, 1, none⟩ = some (.slice A0_1 l0_1.length c0_1) ∧ w'.cell? ⟨gb, 2, none⟩ = some (.slice A0_2 l0_2.length c0_2) ∧ Aside0 (P0 w gb g8 #[.slice A0_0 l0_0.length c0_0, .slice A0_1 l0_1.length c0_1, .slice A0_2 l0_2.length c0_2] w')) (ds := []) (msk 31 0) (by kernel_rfl) rfl (by kernel_rfl) HP3.out (fun hHeld => ?_); refine with_tabW pipe_Play.tab3 pipe_Play.bits3 (fun HT_ HW_ => ?_)
     refine take_ (i := 0) (N := some 25) (v := ?_) (a' := ?_) (msk 31 1) rfl rfl (take_ofW HT_.out HW_.out (by kernel_rfl)) (fun _ _ _ h => h) (Or.inl ⟨by rfl, ?_⟩) hHeld ?_ ?_; rotate_left; (focus (rintro w' ⟨s0, s1, s2, s3⟩; go_simp; with_reducible rfl)); rotate_left; (focus (simp only [Act.put, List.setIfInBounds_toArray, List.set_cons_zero, List.set_cons_succ, i64_w, i32_w]; rfl))
     refine one_ (i := 1) (N := some 26) (msk 31 2) rfl rfl (one_of HT_.out (by kernel_rfl)) (by decide) (fun K hK => ?_)
     refine goes_ Try.func54 (by kernel_rfl) rfl #[.agg #[.slice A0_0 l0_0.length c0_0, .slice A0_1 l0_1.length c0_1, .slice A0_2 l0_2.length c0_2]] (by rfl) rfl rfl (by (try simp only [List.map_toArray, List.map_cons, List.map_nil]); first | done | rfl | (simp only [List.length_drop, List.length_take]; rfl)) ?_
     refine (HVAL2.out _ (P0.hb hHeld.2.2.2.out)).mono ?_; rintro e w5 ⟨rfl, hb⟩; have HP4 := Aside0.mk (HT.out w5 (P0.below hHeld.2.2.2.out hb)); clear hb; refine ⟨_, rfl, ?_⟩; refine hK.out _ _ HP4.out (fun hHeld => ?_); clear hK K; refine norm_ (a' := ?_) ?_ ?_; rotate_left; (focus (show Act.put _ (some 26) _ = _; simp only [Act.put, List.setIfInBounds_toArray, List.set_cons_zero, List.set_cons_succ, i64_w, i32_w]; rfl))
     refine pure_ (i := 2) (N := some 27) (v := ?_) (a' := ?_) (msk 31 3) rfl rfl (any_of HT_.out (by kernel_rfl)) (fun _ _ _ h => h) (Or.inl ⟨by rfl, ?_⟩) ?_ ?_; rotate_left; (focus (intro w'; go_simp; with_reducible rfl)); rotate_left; (focus (simp only [Act.put, List.setIfInBounds_toArray, List.set_cons_zero, List.set_cons_succ, i64_w, i32_w]; rfl))
     refine pure_ (i := 3) (N := some 28) (v := ?_) (a' := ?_) (msk 31 4) rfl rfl (any_of HT_.out (by kernel_rfl)) (fun _ _ _ h => h) (Or.inl ⟨by rfl, ?_⟩) ?_ ?_; rotate_left; (focus (intro w'; go_simp; with_reducible rfl)); rotate_left; (focus (simp only [Act.put, List.setIfInBounds_toArray, List.set_cons_zero, List.set_cons_succ, i64_w, i32_w]; rfl))
     refine pure_ (i := 4) (N := some 29) (v := ?_) (a' := ?_) (msk 31 5) rfl rfl (any_of HT_.out (by kernel_rfl)) (fun _ _ _ h => h) (Or.inl ⟨by rfl, ?_⟩) ?_ ?_; rotate_left; (focus (intro w'; go_simp; with_reducible rfl)); rotate_left; (focus (simp only [Act.put, List.setIfInBounds_toArray, List.set_cons_zero, List.set_cons_succ, i64_w, i32_w]; rfl))
     refine pure_ (i := 5) (N := some 30) (v := ?_) (a' := ?_) (msk 31 6) rfl rfl (any_of HT_.out (by kernel_rfl)) (fun _ _ _ h => h) (Or.inl ⟨by rfl, ?_⟩) ?_ ?_; rotate_left; (focus (intro w'; go_simp; with_reducible rfl)); rotate_left; (focus (simp only [Act.put, List.setIfInBounds_toArray, List.set_cons_zero, List.set_cons_succ, i64_w, i32_w]; rfl))
     refine take_ (i := 6) (N := some 31) (v := ?_) (a' := ?_) (msk 31 7) rfl rfl (take_ofW HT_.out HW_.out (by kernel_rfl)) (fun _ _ _ h => h) (Or.inl ⟨by rfl, ?_⟩) hHeld ?_ ?_; rotate_left; (focus (rintro w' ⟨s0, s1, s2, s3⟩; go_simp; with_reducible rfl)); rotate_left; (focus (simp only [Act.put, List.setIfInBounds_toArray, List.set_cons_zero, List.set_cons_succ, i64_w, i32_w]; rfl))
     refine pure_ (i := 7) (N := some 32) (v := ?_) (a' := ?_) (msk 31 8) rfl rfl (any_of HT_.out (by kernel_rfl)) (fun _ _ _ h => h) (Or.inl ⟨by rfl, ?_⟩) ?_ ?_; rotate_left; (focus (intro w'; go_simp; with_reducible rfl)); rotate_left; (focus (simp only [Act.put, List.setIfInBounds_toArray, List.set_cons_zero, List.set_cons_succ, i64_w, i32_w]; rfl))
     refine pure_ (i := 8) (N := some 33) (v := ?_) (a' := ?_) (msk 31 9) rfl rfl (any_of HT_.out (by kernel_rfl)) (fun _ _ _ h => h) (Or.inl ⟨by rfl, ?_⟩) ?_ ?_; rotate_left; (focus (intro w'; go_simp; with_reducible rfl)); rotate_left; (focus (simp only [Act.put, List.setIfInBounds_toArray, List.set_cons_zero, List.set_cons_succ, i64_w, i32_w]; rfl))
     refine one_ (i := 9) (N := some 34) (msk 31 10) rfl rfl (one_of HT_.out (by kernel_rfl)) (by decide) (fun K hK => ?_)
     refine goes_ Try.func55 (by kernel_rfl) rfl #[.int .i64 a1, .int .i64 0, .int .i64 (wrap64 ((l0_0.length : Int) - 1))] (by rfl) rfl rfl (by (try simp only [List.map_toArray, List.map_cons, List.map_nil]); first | done | rfl | (simp only [List.length_drop, List.length_take]; rfl)) ?_
     refine (HIN.out _).mono ?_; rintro e w6 ⟨rfl, hb⟩; have HP5 := Aside0.mk (HT.out w6 (P0.below hHeld.2.2.2.out hb)); clear hb; refine ⟨_, rfl, ?_⟩; refine hK.out _ _ HP5.out (fun hHeld => ?_); clear hK K; refine norm_ (a' := ?_) ?_ ?_; rotate_left; (focus (show Act.put _ (some 34) _ = _; simp only [Act.put, List.setIfInBounds_toArray, List.set_cons_zero, List.set_cons_succ, i64_w, i32_w]; rfl))
     refine pure_ (i := 10) (N := some 35) (v := ?_) (a' := ?_) (msk 31 11) rfl rfl (any_of HT_.out (by kernel_rfl)) (fun _ _ _ h => h) (Or.inl ⟨by rfl, ?_⟩) ?_ ?_; rotate_left; (focus (intro w'; go_simp; with_reducible rfl)); rotate_left; (focus (simp only [Act.put, List.setIfInBounds_toArray, List.set_cons_zero, List.set_cons_succ, i64_w, i32_w]; rfl))
     refine pure_ (i := 11) (N := some 36) (v := ?_) (a' := ?_) (msk 31 12) rfl rfl (any_of HT_.out (by kernel_rfl)) (fun _ _ _ h => h) (Or.inl ⟨by rfl, ?_⟩) ?_ ?_; rotate_left; (focus (intro w'; go_simp; with_reducible rfl)); rotate_left; (focus (simp only [Act.put, List.setIfInBounds_toArray, List.set_cons_zero, List.set_cons_succ, i64_w, i32_w]; rfl))
     refine pure_ (i := 12) (N := some 37) (v := ?_) (a' := ?_) (msk 31 13) rfl rfl (any_of HT_.out (by kernel_rfl)) (fun _ _ _ h => h) (Or.inl ⟨by rfl, ?_⟩) ?_ ?_; rotate_left; (focus (intro w'; go_simp; with_reducible rfl)); rotate_left; (focus (simp only [Act.put, List.setIfInBounds_toArray, List.set_cons_zero, List.set_cons_succ, i64_w, i32_w]; rfl))
     refine pure_ (i := 13) (N := some 38) (v := undef) (a' := ?_) (msk 31 14) rfl rfl (any_of HT_.out (by kernel_rfl)) (fun _ _ _ h => h) (Or.inr ⟨by rfl, rfl⟩) ?_ ?_; rotate_left; (focus (simp only [Act.put, List.setIfInBounds_toArray, List.set_cons_zero, List.set_cons_succ, i64_w, i32_w]; rfl))
     refine pure_ (i := 14) (N := some 39) (v := undef) (a' := ?_) (msk 31 15) rfl rfl (any_of HT_.out (by kernel_rfl)) (fun _ _ _ h => h) (Or.inr ⟨by rfl, rfl⟩) ?_ ?_; rotate_left; (focus (simp only [Act.put, List.setIfInBounds_toArray, List.set_cons_zero, List.set_cons_succ, i64_w, i32_w]; rfl))
     refine pure_ (i := 15) (N := some 40) (v := undef) (a' := ?_) (msk 31 16) rfl rfl (any_of HT_.out (by kernel_rfl)) (fun _ _ _ h => h) (Or.inr ⟨by rfl, rfl⟩) ?_ ?_; rotate_left; (focus (simp only [Act.put, List.setIfInBounds_toArray, List.set_cons_zero, List.set_cons_succ, i64_w, i32_w]; rfl))
     refine pure_ (i := 16) (N := some 41) (v := undef) (a' := ?_) (msk 31 17) rfl rfl (any_of HT_.out (by kernel_rfl)) (fun _ _ _ h => h) (Or.inr ⟨by rfl, rfl⟩) ?_ ?_; rotate_left; (focus (simp only [Act.put, List.setIfInBounds_toArray, List.set_cons_zero, List.set_cons_succ, i64_w, i32_w]; rfl))
     refine pure_ (i := 17) (N := some 42) (v := undef) (a' := ?_) (msk 31 18) rfl rfl (any_of HT_.out (by kernel_rfl)) (fun _ _ _ h => h) (Or.inr ⟨by rfl, rfl⟩) ?_ ?_; rotate_left; (focus (simp only [Act.put, List.setIfInBounds_toArray, List.set_cons_zero, List.set_cons_succ, i64_w, i32_w]; rfl))
     refine pure_ (i := 18) (N := some 43) (v := undef) (a' := ?_) (msk 31 19) rfl rfl (any_of HT_.out (by kernel_rfl)) (fun _ _ _ h => h) (Or.inr ⟨by rfl, rfl⟩) ?_ ?_; rotate_left; (focus (simp only [Act.put, List.setIfInBounds_toArray, List.set_cons_zero, List.set_cons_succ, i64_w, i32_w]; rfl))
     refine pure_ (i := 19) (N := some 44) (v := undef) (a' := ?_) (msk 31 20) rfl rfl (any_of HT_.out (by kernel_rfl)) (fun _ _ _ h => h) (Or.inr ⟨by rfl, rfl⟩) ?_ ?_; rotate_left; (focus (simp only [Act.put, List.setIfInBounds_toArray, List.set_cons_zero, List.set_cons_succ, i64_w, i32_w]; rfl))
     refine pure_ (i := 20) (N := some 45) (v := undef) (a' := ?_) (msk 31 21) rfl rfl (any_of HT_.out (by kernel_rfl)) (fun _ _ _ h => h) (Or.inr ⟨by rfl, rfl⟩) ?_ ?_; rotate_left; (focus (simp only [Act.put, List.setIfInBounds_toArray, List.set_cons_zero, List.set_cons_succ, i64_w, i32_w]; rfl))
     refine pure_ (i := 21) (N := some 46) (v := undef) (a' := ?_) (msk 31 22) rfl rfl (any_of HT_.out (by kernel_rfl)) (fun _ _ _ h => h) (Or.inr ⟨by rfl, rfl⟩) ?_ ?_; rotate_left; (focus (simp only [Act.put, List.setIfInBounds_toArray, List.set_cons_zero, List.set_cons_succ, i64_w, i32_w]; rfl))
     refine pure_ (i := 22) (N := some 47) (v := undef) (a' := ?_) (msk 31 23) rfl rfl (any_of HT_.out (by kernel_rfl)) (fun _ _ _ h => h) (Or.inr ⟨by rfl, rfl⟩) ?_ ?_; rotate_left; (focus (simp only [Act.put, List.setIfInBounds_toArray, List.set_cons_zero, List.set_cons_succ, i64_w, i32_w]; rfl))
     refine pure_ (i := 23) (N := some 48) (v := undef) (a' := ?_) (msk 31 24) rfl rfl (any_of HT_.out (by kernel_rfl)) (fun _ _ _ h => h) (Or.inr ⟨by rfl, rfl⟩) ?_ ?_; rotate_left; (focus (simp only [Act.put, List.setIfInBounds_toArray, List.set_cons_zero, List.set_cons_succ, i64_w, i32_w]; rfl))
     refine pure_ (i := 24) (N := some 49) (v := undef) (a' := ?_) (msk 31 25) rfl rfl (any_of HT_.out (by kernel_rfl)) (fun _ _ _ h => h) (Or.inr ⟨by rfl, rfl⟩) ?_ ?_; rotate_left; (focus (simp only [Act.put, List.setIfInBounds_toArray, List.set_cons_zero, List.set_cons_succ, i64_w, i32_w]; rfl))
     refine pure_ (i := 25) (N := some 50) (v := undef) (a' := ?_) (msk 31 26) rfl rfl (any_of HT_.out (by kernel_rfl)) (fun _ _ _ h => h) (Or.inr ⟨by rfl, rfl⟩) ?_ ?_; rotate_left; (focus (simp only [Act.put, List.setIfInBounds_toArray, List.set_cons_zero, List.set_cons_succ, i64_w, i32_w]; rfl))
     refine pure_ (i := 26) (N := some 51) (v := undef) (a' := ?_) (msk 31 27) rfl rfl (any_of HT_.out (by kernel_rfl)) (fun _ _ _ h => h) (Or.inr ⟨by rfl, rfl⟩) ?_ ?_; rotate_left; (focus (simp only [Act.put, List.setIfInBounds_toArray, List.set_cons_zero, List.set_cons_succ, i64_w, i32_w]; rfl))
     refine pure_ (i := 27) (N := some 52) (v := undef) (a' := ?_) (msk 31 28) rfl rfl (any_of HT_.out (by kernel_rfl)) (fun _ _ _ h => h) (Or.inr ⟨by rfl, rfl⟩) ?_ ?_; rotate_left; (focus (simp only [Act.put, List.setIfInBounds_toArray, List.set_cons_zero, List.set_cons_succ, i64_w, i32_w]; rfl))
     refine pure_ (i := 28) (N := some 53) (v := undef) (a' := ?_) (msk 31 29) rfl rfl (any_of HT_.out (by kernel_rfl)) (fun _ _ _ h => h) (Or.inr ⟨by rfl, rfl⟩) ?_ ?_; rotate_left; (focus (simp only [Act.put, List.setIfInBounds_toArray, List.set_cons_zero, List.set_cons_succ, i64_w, i32_w]; rfl))
     refine pure_ (i := 29) (N := some 54) (v := undef) (a' := ?_) (msk 31 30) rfl rfl (any_of HT_.out (by kernel_rfl)) (fun _ _ _ h => h) (Or.inr ⟨by rfl, rfl⟩) ?_ ?_; rotate_left; (focus (simp only [Act.put, List.setIfInBounds_toArray, List.set_cons_zero, List.set_cons_succ, i64_w, i32_w]; rfl))
     refine pure_ (i := 30) (N := some 55) (v := ?_) (a' := ?_) (msk 31 31) rfl rfl (any_of HT_.out (by kernel_rfl)) (fun _ _ _ h => h) (Or.inl ⟨by rfl, ?_⟩) ?_ ?_; rotate_left; (focus (intro w'; go_simp; with_reducible rfl)); rotate_left; (focus (simp only [Act.put, List.setIfInBounds_toArray, List.set_cons_zero, List.set_cons_succ, i64_w, i32_w]; rfl))
     refine done_ (done_of HT_.out (by kernel_rfl)) ?_
     try go_wp2
     go_meet
     case rel => exact ⟨_, rfl, ⟨rfl⟩, HP5.out.2.2.2⟩
    | true =>
     have HIN : Aside0 (∀ W, Calls Try.prog 55 #[.int .i64 a1, .int .i64 0, .int .i64 (wrap64 ((l0_0.length : Int) - 1))] W fun e w' => e = .returned (.bool true) ∧ Below W.heap.size W w') := ⟨fun W => by have h := in_calls a1 0 (wrap64 ((l0_0.length : Int) - 1)) W; rw [hi] at h; exact h⟩
     obtain ⟨i0, i1⟩ : 0 ≤ a1 ∧ a1 < l0_0.length := by
      have hl := valid_five hv
      unfold inB at hi
      simp only [Bool.and_eq_true, decide_eq_true_eq] at hi
      unfold wrap64 at hi
      omega
     have hk : ok = inB a2 (rd_T39 l0_0 a1).f0.f0 (rd_T39 l0_0 a1).f0.f1 := by rw [HOK.out, hv, hi]; rfl
     clear hv HOK hi
     obtain ⟨ad, e, hl0, hl1, hl2, hl3, hl4, hl5, hl6, hl7, hl8, hl9, hl10, hl11⟩ := at_T39 HR0.out a1 i0 i1
     cases e
     clear hl2 hl3 hl4 hl5 hl6 hl7 hl8 hl9 hl10 hl11
     obtain ⟨n, rfl⟩ := Int.eq_ofNat_of_zero_le i0
     simp only [Int.toNat_natCast] at hl0 hl1
     have htup2 : ∀ W, P0 w gb g8 #[.slice (some ad) l0_0.length c0_0, .slice A0_1 l0_1.length c0_1, .slice A0_2 l0_2.length c0_2] W → W.cell? ⟨gb, 0, none⟩ = some (.slice (some ad) l0_0.length c0_0) ∧ W.cell? ⟨gb, 1, none⟩ = some (.slice A0_1 l0_1.length c0_1) ∧ W.cell? ⟨gb, 2, none⟩ = some (.slice A0_2 l0_2.length c0_2) ∧ W.cell? (ad.add (n * 12)) = some (.int .i64 (rd_T39 l0_0 n).f0.f0) ∧ W.cell? ⟨(ad.add (n * 12)).block, (ad.add (n * 12)).off + 1, none⟩ = some (.int .i64 (rd_T39 l0_0 n).f0.f1) ∧ Aside0 (P0 w gb g8 #[.slice (some ad) l0_0.length c0_0, .slice A0_1 l0_1.length c0_1, .slice A0_2 l0_2.length c0_2] W) := fun W h =>
      ⟨blk_cell h.b 0, blk_cell h.b 1, blk_cell h.b 2, (h.hb.cell (World.block_lt_of_cell? w _ hl0)).trans hl0, (h.hb.cell (World.block_lt_of_cell? w _ hl1)).trans hl1, ⟨h⟩⟩
     have hp3 := HP.out.below (below_drew (Below.refl w3.heap.size w3))
     have HT2 := Aside0.mk htup2
     have HP6 := Aside0.mk (htup2 _ hp3)
     clear htup2 hp3 hl0 hl1 HP3 HT
     generalize (rd_T39 l0_0 n).f0.f0 = b0 at hk HP6 HT2
     generalize (rd_T39 l0_0 n).f0.f1 = b1 at hk HP6 HT2
     subst hk
     have i2 : (0 : Int) ≤ n := i0
     refine start_ (n := 31) (S := fun w' => w'.cell? ⟨gb, 0, none⟩ = some (.slice (some ad) l0_0.length c0_0) ∧ w'.cell? ⟨gb, 1, none⟩ = some (.slice A0_1 l0_1.length c0_1) ∧ w'.cell? ⟨gb, 2, none⟩ = some (.slice A0_2 l0_2.length c0_2) ∧ w'.cell? (ad.add (n * 12)) = some (.int .i64 b0) ∧ w'.cell? ⟨(ad.add (n * 12)).block, (ad.add (n * 12)).off + 1, none⟩ = some (.int .i64 b1) ∧ Aside0 (P0 w gb g8 #[.slice (some ad) l0_0.length c0_0, .slice A0_1 l0_1.length c0_1, .slice A0_2 l0_2.length c0_2] w')) (ds := []) (msk 31 0) (by kernel_rfl) rfl (by kernel_rfl) HP6.out (fun hHeld => ?_); refine with_tabW pipe_Play.tab3 pipe_Play.bits3 (fun HT_ HW_ => ?_)
     refine take_ (i := 0) (N := some 25) (v := ?_) (a' := ?_) (msk 31 1) rfl rfl (take_ofW HT_.out HW_.out (by kernel_rfl)) (fun _ _ _ h => h) (Or.inl ⟨by rfl, ?_⟩) hHeld ?_ ?_; rotate_left; (focus (rintro w' ⟨s0, s1, s2, s3, s4, s5⟩; go_simp; with_reducible rfl)); rotate_left; (focus (simp only [Act.put, List.setIfInBounds_toArray, List.set_cons_zero, List.set_cons_succ, i64_w, i32_w]; rfl))
     refine one_ (i := 1) (N := some 26) (msk 31 2) rfl rfl (one_of HT_.out (by kernel_rfl)) (by decide) (fun K hK => ?_)
     refine goes_ Try.func54 (by kernel_rfl) rfl #[.agg #[.slice (some ad) l0_0.length c0_0, .slice A0_1 l0_1.length c0_1, .slice A0_2 l0_2.length c0_2]] (by rfl) rfl rfl (by (try simp only [List.map_toArray, List.map_cons, List.map_nil]); first | done | rfl | (simp only [List.length_drop, List.length_take]; rfl)) ?_
     refine (HVAL2.out _ (P0.hb hHeld.2.2.2.2.2.out)).mono ?_; rintro e w5 ⟨rfl, hb⟩; have HP4 := Aside0.mk (HT2.out w5 (P0.below hHeld.2.2.2.2.2.out hb)); clear hb; refine ⟨_, rfl, ?_⟩; refine hK.out _ _ HP4.out (fun hHeld => ?_); clear hK K; refine norm_ (a' := ?_) ?_ ?_; rotate_left; (focus (show Act.put _ (some 26) _ = _; simp only [Act.put, List.setIfInBounds_toArray, List.set_cons_zero, List.set_cons_succ, i64_w, i32_w]; rfl))
     refine pure_ (i := 2) (N := some 27) (v := ?_) (a' := ?_) (msk 31 3) rfl rfl (any_of HT_.out (by kernel_rfl)) (fun _ _ _ h => h) (Or.inl ⟨by rfl, ?_⟩) ?_ ?_; rotate_left; (focus (intro w'; go_simp; with_reducible rfl)); rotate_left; (focus (simp only [Act.put, List.setIfInBounds_toArray, List.set_cons_zero, List.set_cons_succ, i64_w, i32_w]; rfl))
     refine pure_ (i := 3) (N := some 28) (v := ?_) (a' := ?_) (msk 31 4) rfl rfl (any_of HT_.out (by kernel_rfl)) (fun _ _ _ h => h) (Or.inl ⟨by rfl, ?_⟩) ?_ ?_; rotate_left; (focus (intro w'; go_simp; with_reducible rfl)); rotate_left; (focus (simp only [Act.put, List.setIfInBounds_toArray, List.set_cons_zero, List.set_cons_succ, i64_w, i32_w]; rfl))
     refine pure_ (i := 4) (N := some 29) (v := ?_) (a' := ?_) (msk 31 5) rfl rfl (any_of HT_.out (by kernel_rfl)) (fun _ _ _ h => h) (Or.inl ⟨by rfl, ?_⟩) ?_ ?_; rotate_left; (focus (intro w'; go_simp; with_reducible rfl)); rotate_left; (focus (simp only [Act.put, List.setIfInBounds_toArray, List.set_cons_zero, List.set_cons_succ, i64_w, i32_w]; rfl))
     refine pure_ (i := 5) (N := some 30) (v := ?_) (a' := ?_) (msk 31 6) rfl rfl (any_of HT_.out (by kernel_rfl)) (fun _ _ _ h => h) (Or.inl ⟨by rfl, ?_⟩) ?_ ?_; rotate_left; (focus (intro w'; go_simp; with_reducible rfl)); rotate_left; (focus (simp only [Act.put, List.setIfInBounds_toArray, List.set_cons_zero, List.set_cons_succ, i64_w, i32_w]; rfl))
     refine take_ (i := 6) (N := some 31) (v := ?_) (a' := ?_) (msk 31 7) rfl rfl (take_ofW HT_.out HW_.out (by kernel_rfl)) (fun _ _ _ h => h) (Or.inl ⟨by rfl, ?_⟩) hHeld ?_ ?_; rotate_left; (focus (rintro w' ⟨s0, s1, s2, s3, s4, s5⟩; go_simp; with_reducible rfl)); rotate_left; (focus (simp only [Act.put, List.setIfInBounds_toArray, List.set_cons_zero, List.set_cons_succ, i64_w, i32_w]; rfl))
     refine pure_ (i := 7) (N := some 32) (v := ?_) (a' := ?_) (msk 31 8) rfl rfl (any_of HT_.out (by kernel_rfl)) (fun _ _ _ h => h) (Or.inl ⟨by rfl, ?_⟩) ?_ ?_; rotate_left; (focus (intro w'; go_simp; with_reducible rfl)); rotate_left; (focus (simp only [Act.put, List.setIfInBounds_toArray, List.set_cons_zero, List.set_cons_succ, i64_w, i32_w]; rfl))
     refine pure_ (i := 8) (N := some 33) (v := ?_) (a' := ?_) (msk 31 9) rfl rfl (any_of HT_.out (by kernel_rfl)) (fun _ _ _ h => h) (Or.inl ⟨by rfl, ?_⟩) ?_ ?_; rotate_left; (focus (intro w'; go_simp; with_reducible rfl)); rotate_left; (focus (simp only [Act.put, List.setIfInBounds_toArray, List.set_cons_zero, List.set_cons_succ, i64_w, i32_w]; rfl))
     refine one_ (i := 9) (N := some 34) (msk 31 10) rfl rfl (one_of HT_.out (by kernel_rfl)) (by decide) (fun K hK => ?_)
     refine goes_ Try.func55 (by kernel_rfl) rfl #[.int .i64 (n : Int), .int .i64 0, .int .i64 (wrap64 ((l0_0.length : Int) - 1))] (by rfl) rfl rfl (by (try simp only [List.map_toArray, List.map_cons, List.map_nil]); first | done | rfl | (simp only [List.length_drop, List.length_take]; rfl)) ?_
     refine (HIN.out _).mono ?_; rintro e w6 ⟨rfl, hb⟩; have HP5 := Aside0.mk (HT2.out w6 (P0.below hHeld.2.2.2.2.2.out hb)); clear hb; refine ⟨_, rfl, ?_⟩; refine hK.out _ _ HP5.out (fun hHeld => ?_); clear hK K; refine norm_ (a' := ?_) ?_ ?_; rotate_left; (focus (show Act.put _ (some 34) _ = _; simp only [Act.put, List.setIfInBounds_toArray, List.set_cons_zero, List.set_cons_succ, i64_w, i32_w]; rfl))
     refine pure_ (i := 10) (N := some 35) (v := ?_) (a' := ?_) (msk 31 11) rfl rfl (any_of HT_.out (by kernel_rfl)) (fun _ _ _ h => h) (Or.inl ⟨by rfl, ?_⟩) ?_ ?_; rotate_left; (focus (intro w'; go_simp; with_reducible rfl)); rotate_left; (focus (simp only [Act.put, List.setIfInBounds_toArray, List.set_cons_zero, List.set_cons_succ, i64_w, i32_w]; rfl))
     refine pure_ (i := 11) (N := some 36) (v := ?_) (a' := ?_) (msk 31 12) rfl rfl (any_of HT_.out (by kernel_rfl)) (fun _ _ _ h => h) (Or.inl ⟨by rfl, ?_⟩) ?_ ?_; rotate_left; (focus (intro w'; go_simp; with_reducible rfl)); rotate_left; (focus (simp only [Act.put, List.setIfInBounds_toArray, List.set_cons_zero, List.set_cons_succ, i64_w, i32_w]; rfl))
     refine pure_ (i := 12) (N := some 37) (v := ?_) (a' := ?_) (msk 31 13) rfl rfl (any_of HT_.out (by kernel_rfl)) (fun _ _ _ h => h) (Or.inl ⟨by rfl, ?_⟩) ?_ ?_; rotate_left; (focus (intro w'; go_simp; with_reducible rfl)); rotate_left; (focus (simp only [Act.put, List.setIfInBounds_toArray, List.set_cons_zero, List.set_cons_succ, i64_w, i32_w]; rfl))
     refine pure_ (i := 13) (N := some 38) (v := ?_) (a' := ?_) (msk 31 14) rfl rfl (any_of HT_.out (by kernel_rfl)) (fun _ _ _ h => h) (Or.inl ⟨by rfl, ?_⟩) ?_ ?_; rotate_left; (focus (intro w'; go_simp; with_reducible rfl)); rotate_left; (focus (simp only [Act.put, List.setIfInBounds_toArray, List.set_cons_zero, List.set_cons_succ, i64_w, i32_w]; rfl))
     refine pure_ (i := 14) (N := some 39) (v := ?_) (a' := ?_) (msk 31 15) rfl rfl (any_of HT_.out (by kernel_rfl)) (fun _ _ _ h => h) (Or.inl ⟨by rfl, ?_⟩) ?_ ?_; rotate_left; (focus (intro w'; go_simp; with_reducible rfl)); rotate_left; (focus (simp only [Act.put, List.setIfInBounds_toArray, List.set_cons_zero, List.set_cons_succ, i64_w, i32_w]; rfl))
     refine take_ (i := 15) (N := some 40) (v := ?_) (a' := ?_) (msk 31 16) rfl rfl (take_ofW HT_.out HW_.out (by kernel_rfl)) (fun _ _ _ h => h) (Or.inl ⟨by rfl, ?_⟩) hHeld ?_ ?_; rotate_left; (focus (rintro w' ⟨s0, s1, s2, s3, s4, s5⟩; go_simp; with_reducible rfl)); rotate_left; (focus (simp only [Act.put, List.setIfInBounds_toArray, List.set_cons_zero, List.set_cons_succ, i64_w, i32_w]; rfl))
     refine pure_ (i := 16) (N := some 41) (v := ?_) (a' := ?_) (msk 31 17) rfl rfl (any_of HT_.out (by kernel_rfl)) (fun _ _ _ h => h) (Or.inl ⟨by rfl, ?_⟩) ?_ ?_; rotate_left; (focus (intro w'; go_simp; with_reducible rfl)); rotate_left; (focus (simp only [Act.put, List.setIfInBounds_toArray, List.set_cons_zero, List.set_cons_succ, i64_w, i32_w]; rfl))
     refine pure_ (i := 17) (N := some 42) (v := ?_) (a' := ?_) (msk 31 18) rfl rfl (any_of HT_.out (by kernel_rfl)) (fun _ _ _ h => h) (Or.inl ⟨by rfl, ?_⟩) ?_ ?_; rotate_left; (focus (intro w'; go_simp; with_reducible rfl)); rotate_left; (focus (simp only [Act.put, List.setIfInBounds_toArray, List.set_cons_zero, List.set_cons_succ, i64_w, i32_w]; rfl))
     refine pure_ (i := 18) (N := some 43) (v := ?_) (a' := ?_) (msk 31 19) rfl rfl (any_of HT_.out (by kernel_rfl)) (fun _ _ _ h => h) (Or.inl ⟨by rfl, ?_⟩) ?_ ?_; rotate_left; (focus (intro w'; go_simp; with_reducible rfl)); rotate_left; (focus (simp only [Act.put, List.setIfInBounds_toArray, List.set_cons_zero, List.set_cons_succ, i64_w, i32_w]; rfl))
     refine pure_ (i := 19) (N := some 44) (v := ?_) (a' := ?_) (msk 31 20) rfl rfl (any_of HT_.out (by kernel_rfl)) (fun _ _ _ h => h) (Or.inl ⟨by rfl, ?_⟩) ?_ ?_; rotate_left; (focus (intro w'; go_simp; with_reducible rfl)); rotate_left; (focus (simp only [Act.put, List.setIfInBounds_toArray, List.set_cons_zero, List.set_cons_succ, i64_w, i32_w]; rfl))
     refine take_ (i := 20) (N := some 45) (v := ?_) (a' := ?_) (msk 31 21) rfl rfl (take_ofW HT_.out HW_.out (by kernel_rfl)) (fun _ _ _ h => h) (Or.inl ⟨by rfl, ?_⟩) hHeld ?_ ?_; rotate_left; (focus (rintro w' ⟨s0, s1, s2, s3, s4, s5⟩; go_simp; with_reducible rfl)); rotate_left; (focus (simp only [Act.put, List.setIfInBounds_toArray, List.set_cons_zero, List.set_cons_succ, i64_w, i32_w]; rfl))
     refine pure_ (i := 21) (N := some 46) (v := ?_) (a' := ?_) (msk 31 22) rfl rfl (any_of HT_.out (by kernel_rfl)) (fun _ _ _ h => h) (Or.inl ⟨by rfl, ?_⟩) ?_ ?_; rotate_left; (focus (intro w'; go_simp; with_reducible rfl)); rotate_left; (focus (simp only [Act.put, List.setIfInBounds_toArray, List.set_cons_zero, List.set_cons_succ, i64_w, i32_w]; rfl))
     refine take_ (i := 22) (N := some 47) (v := ?_) (a' := ?_) (msk 31 23) rfl rfl (take_ofW HT_.out HW_.out (by kernel_rfl)) (fun _ _ _ h => h) (Or.inl ⟨by rfl, ?_⟩) hHeld ?_ ?_; rotate_left; (focus (rintro w' ⟨s0, s1, s2, s3, s4, s5⟩; go_simp; with_reducible rfl)); rotate_left; (focus (simp only [Act.put, List.setIfInBounds_toArray, List.set_cons_zero, List.set_cons_succ, i64_w, i32_w]; rfl))
     refine pure_ (i := 23) (N := some 48) (v := ?_) (a' := ?_) (msk 31 24) rfl rfl (any_of HT_.out (by kernel_rfl)) (fun _ _ _ h => h) (Or.inl ⟨by rfl, ?_⟩) ?_ ?_; rotate_left; (focus (intro w'; go_simp; with_reducible rfl)); rotate_left; (focus (simp only [Act.put, List.setIfInBounds_toArray, List.set_cons_zero, List.set_cons_succ, i64_w, i32_w]; rfl))
     refine pure_ (i := 24) (N := some 49) (v := ?_) (a' := ?_) (msk 31 25) rfl rfl (any_of HT_.out (by kernel_rfl)) (fun _ _ _ h => h) (Or.inl ⟨by rfl, ?_⟩) ?_ ?_; rotate_left; (focus (intro w'; go_simp; with_reducible rfl)); rotate_left; (focus (simp only [Act.put, List.setIfInBounds_toArray, List.set_cons_zero, List.set_cons_succ, i64_w, i32_w]; rfl))
     refine pure_ (i := 25) (N := some 50) (v := ?_) (a' := ?_) (msk 31 26) rfl rfl (any_of HT_.out (by kernel_rfl)) (fun _ _ _ h => h) (Or.inl ⟨by rfl, ?_⟩) ?_ ?_; rotate_left; (focus (intro w'; go_simp; with_reducible rfl)); rotate_left; (focus (simp only [Act.put, List.setIfInBounds_toArray, List.set_cons_zero, List.set_cons_succ, i64_w, i32_w]; rfl))
     refine pure_ (i := 26) (N := some 51) (v := ?_) (a' := ?_) (msk 31 27) rfl rfl (any_of HT_.out (by kernel_rfl)) (fun _ _ _ h => h) (Or.inl ⟨by rfl, ?_⟩) ?_ ?_; rotate_left; (focus (intro w'; go_simp; with_reducible rfl)); rotate_left; (focus (simp only [Act.put, List.setIfInBounds_toArray, List.set_cons_zero, List.set_cons_succ, i64_w, i32_w]; rfl))
     refine take_ (i := 27) (N := some 52) (v := ?_) (a' := ?_) (msk 31 28) rfl rfl (take_ofW HT_.out HW_.out (by kernel_rfl)) (fun _ _ _ h => h) (Or.inl ⟨by rfl, ?_⟩) hHeld ?_ ?_; rotate_left; (focus (rintro w' ⟨s0, s1, s2, s3, s4, s5⟩; go_simp; with_reducible rfl)); rotate_left; (focus (simp only [Act.put, List.setIfInBounds_toArray, List.set_cons_zero, List.set_cons_succ, i64_w, i32_w]; rfl))
     refine one_ (i := 28) (N := some 53) (msk 31 29) rfl rfl (one_of HT_.out (by kernel_rfl)) (by decide) (fun K hK => ?_)
     refine goes_ Try.func55 (by kernel_rfl) rfl #[.int .i64 a2, .int .i64 b0, .int .i64 b1] (by rfl) rfl rfl (by (try simp only [List.map_toArray, List.map_cons, List.map_nil]); first | done | rfl | (simp only [List.length_drop, List.length_take]; rfl)) ?_
     refine (in_calls a2 b0 b1 _).mono ?_; rintro e w7 ⟨rfl, hb⟩; have HP9 := Aside0.mk (HT2.out w7 (P0.below hHeld.2.2.2.2.2.out hb)); clear hb; refine ⟨_, rfl, ?_⟩; refine hK.out _ _ HP9.out (fun hHeld => ?_); clear hK K; refine norm_ (a' := ?_) ?_ ?_; rotate_left; (focus (show Act.put _ (some 53) _ = _; simp only [Act.put, List.setIfInBounds_toArray, List.set_cons_zero, List.set_cons_succ, i64_w, i32_w]; rfl))
     refine pure_ (i := 29) (N := some 54) (v := ?_) (a' := ?_) (msk 31 30) rfl rfl (any_of HT_.out (by kernel_rfl)) (fun _ _ _ h => h) (Or.inl ⟨by rfl, ?_⟩) ?_ ?_; rotate_left; (focus (intro w'; go_simp; with_reducible rfl)); rotate_left; (focus (simp only [Act.put, List.setIfInBounds_toArray, List.set_cons_zero, List.set_cons_succ, i64_w, i32_w]; rfl))
     refine pure_ (i := 30) (N := some 55) (v := ?_) (a' := ?_) (msk 31 31) rfl rfl (any_of HT_.out (by kernel_rfl)) (fun _ _ _ h => h) (Or.inl ⟨by rfl, ?_⟩) ?_ ?_; rotate_left; (focus (intro w'; go_simp; with_reducible rfl)); rotate_left; (focus (simp only [Act.put, List.setIfInBounds_toArray, List.set_cons_zero, List.set_cons_succ, i64_w, i32_w]; rfl))
     refine done_ (done_of HT_.out (by kernel_rfl)) ?_
     try go_wp2
     go_meet
     case rel => exact ⟨_, rfl, ⟨rfl⟩, HP9.out.2.2.2.2.2⟩
  case rest =>
   clear HP BKgb BKg8 HB
   obtain ⟨nok, rfl, HNK, HP⟩ := hcut
   have BKg8 := Aside0.mk HP.out.r
   have BKgb := Aside0.mk HP.out.b
   have HB := Aside0.mk HP.out.hb
   clear HP
   cases nok with
   | true =>
    obtain rfl : ok = false := by have := HNK.out; simpa using this.symm
    have he := HF2.out
    rw [if_neg (by simp)] at he
    cases he
    have hfg8 := blk_frozen BKg8.out; have hcg8_0 : wc.cell? ⟨g8, 0, none⟩ = some (.int .i64 0) := (blk_cell BKg8.out 0).trans rfl; have hcg8_1 : wc.cell? ⟨g8, 1, none⟩ = some (.int .i64 0) := (blk_cell BKg8.out 1).trans rfl; have hcg8_2 : wc.cell? ⟨g8, 2, none⟩ = some (.int .i64 0) := (blk_cell BKg8.out 2).trans rfl; have hcg8_3 : wc.cell? ⟨g8, 3, none⟩ = some (.int .i64 0) := (blk_cell BKg8.out 3).trans rfl
    go_wp2_with fail
    refine bodyPost_ret (results_ct rfl _ _ g8 31 #[.int .i64 0, .int .i64 0, .int .i64 0, .int .i64 0] (0, 0) _ rfl ((blk_set (blk_set (blk_set (blk_set BKg8.out 0 _) 1 _) 2 _) 3 _)) Try.underlying31 rfl (by kernel_rfl)) rfl ?_
    exact ⟨rfl, (below_set (j := 3) (below_set (j := 2) (below_set (j := 1) (below_set (j := 0) HB.out GEg8) GEg8) GEg8) GEg8)⟩
   | false =>
    obtain rfl : ok = true := by have := HNK.out; simpa using this.symm
    clear HNK
    have hok := HOK.out
    clear HOK
    have hok2 := hok.symm
    simp only [Bool.and_eq_true] at hok2
    obtain ⟨hv, hi, _⟩ := hok2
    obtain ⟨i0, i1⟩ : 0 ≤ a1 ∧ a1 < l0_0.length := by
     have hl := valid_five hv
     unfold inB at hi
     simp only [Bool.and_eq_true, decide_eq_true_eq] at hi
     unfold wrap64 at hi
     omega
    clear hok hv hi
    have HF3 : Aside0 (heatR (playGo (rd_T39 l0_0 a1) l3 l0_1 (a2, 0, 0, 0)) = (r1, r2, r3, r4, r5)) := ⟨by rw [← HF2.out, if_pos rfl]⟩
    clear HF2 HF
    obtain ⟨ad, e, hl0, hl1, hl2, hl3, hl4, hl5, hl6, hl7, hl8, hl9, hl10, hl11⟩ := at_T39 HR0.out a1 i0 i1
    cases e
    obtain ⟨n, rfl⟩ := Int.eq_ofNat_of_zero_le i0
    simp only [Int.toNat_natCast] at hl0 hl1 hl2 hl3 hl4 hl5 hl6 hl7 hl8 hl9 hl10 hl11
    generalize rd_T39 l0_0 n = L at HF3 hl0 hl1 hl2 hl3 hl4 hl5 hl6 hl7 hl8 hl9 hl10 hl11
    replace hl0 := (HB.out.cell (World.block_lt_of_cell? w _ hl0)).trans hl0; replace hl1 := (HB.out.cell (World.block_lt_of_cell? w _ hl1)).trans hl1; replace hl2 := (HB.out.cell (World.block_lt_of_cell? w _ hl2)).trans hl2; replace hl3 := (HB.out.cell (World.block_lt_of_cell? w _ hl3)).trans hl3; replace hl4 := (HB.out.cell (World.block_lt_of_cell? w _ hl4)).trans hl4; replace hl5 := (HB.out.cell (World.block_lt_of_cell? w _ hl5)).trans hl5; replace hl6 := (HB.out.cell (World.block_lt_of_cell? w _ hl6)).trans hl6; replace hl7 := (HB.out.cell (World.block_lt_of_cell? w _ hl7)).trans hl7; replace hl8 := (HB.out.cell (World.block_lt_of_cell? w _ hl8)).trans hl8; replace hl9 := (HB.out.cell (World.block_lt_of_cell? w _ hl9)).trans hl9; replace hl10 := (HB.out.cell (World.block_lt_of_cell? w _ hl10)).trans hl10; replace hl11 := (HB.out.cell (World.block_lt_of_cell? w _ hl11)).trans hl11
    have hfgb := blk_frozen BKgb.out; have hcgb_0 : wc.cell? ⟨gb, 0, none⟩ = some (.slice (some ad) l0_0.length c0_0) := (blk_cell BKgb.out 0).trans rfl; have hcgb_1 : wc.cell? ⟨gb, 1, none⟩ = some (.slice A0_1 l0_1.length c0_1) := (blk_cell BKgb.out 1).trans rfl; have hcgb_2 : wc.cell? ⟨gb, 2, none⟩ = some (.slice A0_2 l0_2.length c0_2) := (blk_cell BKgb.out 2).trans rfl
    have ne_8b := blk_ne BKg8.out BKgb.out (by decide)
    go_upto_region 6 with ((with_reducible refine gate_dst (N := 10) rfl ?_); refine box_event ?hg (N := 10) ?hd (cs := #[.int .i64 0, .int .i64 0, .int .i64 0, .int .i64 0, .int .i64 0, .int .i64 0, .int .i64 0, .int .i64 0, .int .i64 0, .int .i64 0, .int .i64 0, .int .i64 0]) (t := 39) ?hr ?_; (case hd => rfl); (case hg => rfl); (case hr => first | (go_simp; done) | (go_simp; rfl)); intro g10 hg_g10 w5 hbox hb; have BKg10 := Aside0.mk hbox; have ne_gb_g10 : gb ≠ g10 := (by rw [hg_g10]; exact Nat.ne_of_lt (blk_lt BKgb.out)); have ne_g8_g10 : g8 ≠ g10 := (by rw [hg_g10]; exact Nat.ne_of_lt (blk_lt BKg8.out)); have n_BKgb := Aside0.mk (blk_below BKgb.out hb); clear BKgb; have BKgb := n_BKgb; clear n_BKgb; have n_BKg8 := Aside0.mk (blk_below BKg8.out hb); clear BKg8; have BKg8 := n_BKg8; clear n_BKg8; have n_HB := Aside0.mk (below_step HB.out hb); have GEg10 : w.heap.size ≤ g10 := (by rw [hg_g10]; exact HB.out.size); clear HB; have HB := n_HB; clear n_HB; have hfg10 := blk_frozen BKg10.out; have hcg10_0 : w5.cell? ⟨g10, 0, none⟩ = some (.int .i64 0) := (blk_cell BKg10.out 0).trans rfl; have hcg10_1 : w5.cell? ⟨g10, 1, none⟩ = some (.int .i64 0) := (blk_cell BKg10.out 1).trans rfl; have hcg10_2 : w5.cell? ⟨g10, 2, none⟩ = some (.int .i64 0) := (blk_cell BKg10.out 2).trans rfl; have hcg10_3 : w5.cell? ⟨g10, 3, none⟩ = some (.int .i64 0) := (blk_cell BKg10.out 3).trans rfl; have hcg10_4 : w5.cell? ⟨g10, 4, none⟩ = some (.int .i64 0) := (blk_cell BKg10.out 4).trans rfl; have hcg10_5 : w5.cell? ⟨g10, 5, none⟩ = some (.int .i64 0) := (blk_cell BKg10.out 5).trans rfl; have hcg10_6 : w5.cell? ⟨g10, 6, none⟩ = some (.int .i64 0) := (blk_cell BKg10.out 6).trans rfl; have hcg10_7 : w5.cell? ⟨g10, 7, none⟩ = some (.int .i64 0) := (blk_cell BKg10.out 7).trans rfl; have hcg10_8 : w5.cell? ⟨g10, 8, none⟩ = some (.int .i64 0) := (blk_cell BKg10.out 8).trans rfl; have hcg10_9 : w5.cell? ⟨g10, 9, none⟩ = some (.int .i64 0) := (blk_cell BKg10.out 9).trans rfl; have hcg10_10 : w5.cell? ⟨g10, 10, none⟩ = some (.int .i64 0) := (blk_cell BKg10.out 10).trans rfl; have hcg10_11 : w5.cell? ⟨g10, 11, none⟩ = some (.int .i64 0) := (blk_cell BKg10.out 11).trans rfl; clear hbox hb hg_g10)
    have he_ : setAll w5 g10 [.int .i64 L.f0.f0, .int .i64 L.f0.f1, .int .i64 L.f1.f0, .int .i64 L.f1.f1, .int .i64 L.f2.f0, .int .i64 L.f2.f1, .int .i64 L.f3, .int .i64 L.f4, .int .i64 L.f5, .int .i64 L.f6, .int .i64 L.f7.f0, .int .i64 L.f7.f1] 0 = ((((((((((((w5.setCell ⟨g10, 0, none⟩ (.int .i64 L.f0.f0)).setCell ⟨g10, 1, none⟩ (.int .i64 L.f0.f1)).setCell ⟨g10, 2, none⟩ (.int .i64 L.f1.f0)).setCell ⟨g10, 3, none⟩ (.int .i64 L.f1.f1)).setCell ⟨g10, 4, none⟩ (.int .i64 L.f2.f0)).setCell ⟨g10, 5, none⟩ (.int .i64 L.f2.f1)).setCell ⟨g10, 6, none⟩ (.int .i64 L.f3)).setCell ⟨g10, 7, none⟩ (.int .i64 L.f4)).setCell ⟨g10, 8, none⟩ (.int .i64 L.f5)).setCell ⟨g10, 9, none⟩ (.int .i64 L.f6)).setCell ⟨g10, 10, none⟩ (.int .i64 L.f7.f0)).setCell ⟨g10, 11, none⟩ (.int .i64 L.f7.f1)) := rfl; have hbl := setAll_below GEg10 [.int .i64 L.f0.f0, .int .i64 L.f0.f1, .int .i64 L.f1.f0, .int .i64 L.f1.f1, .int .i64 L.f2.f0, .int .i64 L.f2.f1, .int .i64 L.f3, .int .i64 L.f4, .int .i64 L.f5, .int .i64 L.f6, .int .i64 L.f7.f0, .int .i64 L.f7.f1] 0 _ HB.out; have hbx : (setAll w5 g10 [.int .i64 L.f0.f0, .int .i64 L.f0.f1, .int .i64 L.f1.f0, .int .i64 L.f1.f1, .int .i64 L.f2.f0, .int .i64 L.f2.f1, .int .i64 L.f3, .int .i64 L.f4, .int .i64 L.f5, .int .i64 L.f6, .int .i64 L.f7.f0, .int .i64 L.f7.f1] 0).heap[g10]? = some (.cells #[.int .i64 L.f0.f0, .int .i64 L.f0.f1, .int .i64 L.f1.f0, .int .i64 L.f1.f1, .int .i64 L.f2.f0, .int .i64 L.f2.f1, .int .i64 L.f3, .int .i64 L.f4, .int .i64 L.f5, .int .i64 L.f6, .int .i64 L.f7.f0, .int .i64 L.f7.f1] 39 (0, 0)) := setAll_new [.int .i64 L.f0.f0, .int .i64 L.f0.f1, .int .i64 L.f1.f0, .int .i64 L.f1.f1, .int .i64 L.f2.f0, .int .i64 L.f2.f1, .int .i64 L.f3, .int .i64 L.f4, .int .i64 L.f5, .int .i64 L.f6, .int .i64 L.f7.f0, .int .i64 L.f7.f1] [.int .i64 0, .int .i64 0, .int .i64 0, .int .i64 0, .int .i64 0, .int .i64 0, .int .i64 0, .int .i64 0, .int .i64 0, .int .i64 0, .int .i64 0, .int .i64 0] BKg10.out rfl; have hx_BKgb := setAll_far ne_gb_g10 [.int .i64 L.f0.f0, .int .i64 L.f0.f1, .int .i64 L.f1.f0, .int .i64 L.f1.f1, .int .i64 L.f2.f0, .int .i64 L.f2.f1, .int .i64 L.f3, .int .i64 L.f4, .int .i64 L.f5, .int .i64 L.f6, .int .i64 L.f7.f0, .int .i64 L.f7.f1] 0 _ BKgb.out; have hx_BKg8 := setAll_far ne_g8_g10 [.int .i64 L.f0.f0, .int .i64 L.f0.f1, .int .i64 L.f1.f0, .int .i64 L.f1.f1, .int .i64 L.f2.f0, .int .i64 L.f2.f1, .int .i64 L.f3, .int .i64 L.f4, .int .i64 L.f5, .int .i64 L.f6, .int .i64 L.f7.f0, .int .i64 L.f7.f1] 0 _ BKg8.out; rw [he_] at hbl hbx hx_BKgb hx_BKg8; clear he_; generalize ((((((((((((w5.setCell ⟨g10, 0, none⟩ (.int .i64 L.f0.f0)).setCell ⟨g10, 1, none⟩ (.int .i64 L.f0.f1)).setCell ⟨g10, 2, none⟩ (.int .i64 L.f1.f0)).setCell ⟨g10, 3, none⟩ (.int .i64 L.f1.f1)).setCell ⟨g10, 4, none⟩ (.int .i64 L.f2.f0)).setCell ⟨g10, 5, none⟩ (.int .i64 L.f2.f1)).setCell ⟨g10, 6, none⟩ (.int .i64 L.f3)).setCell ⟨g10, 7, none⟩ (.int .i64 L.f4)).setCell ⟨g10, 8, none⟩ (.int .i64 L.f5)).setCell ⟨g10, 9, none⟩ (.int .i64 L.f6)).setCell ⟨g10, 10, none⟩ (.int .i64 L.f7.f0)).setCell ⟨g10, 11, none⟩ (.int .i64 L.f7.f1)) = w6 at hbl hbx hx_BKgb hx_BKg8 ⊢; clear HB BKg10; have HB := Aside0.mk hbl; have BKg10 := Aside0.mk hbx; clear hbl hbx; clear BKgb; have BKgb := Aside0.mk hx_BKgb; clear hx_BKgb; clear BKg8; have BKg8 := Aside0.mk hx_BKg8; clear hx_BKg8
    clear hfgb hcgb_0 hcgb_1 hcgb_2 hl0 hl1 hl2 hl3 hl4 hl5 hl6 hl7 hl8 hl9 hl10 hl11
    go_upto_region 7 with ((with_reducible refine gate_dst (N := 11) rfl ?_); refine box_event ?hg (N := 11) ?hd (cs := #[.int .i64 0, .int .i64 0, .int .i64 0, .int .i64 0]) (t := 31) ?hr ?_; (case hd => rfl); (case hg => rfl); (case hr => first | (go_simp; done) | (go_simp; rfl)); intro g11 hg_g11 w7 hbox hb; have BKg11 := Aside0.mk hbox; have ne_gb_g11 : gb ≠ g11 := (by rw [hg_g11]; exact Nat.ne_of_lt (blk_lt BKgb.out)); have ne_g8_g11 : g8 ≠ g11 := (by rw [hg_g11]; exact Nat.ne_of_lt (blk_lt BKg8.out)); have ne_g10_g11 : g10 ≠ g11 := (by rw [hg_g11]; exact Nat.ne_of_lt (blk_lt BKg10.out)); have n_BKgb := Aside0.mk (blk_below BKgb.out hb); clear BKgb; have BKgb := n_BKgb; clear n_BKgb; have n_BKg8 := Aside0.mk (blk_below BKg8.out hb); clear BKg8; have BKg8 := n_BKg8; clear n_BKg8; have n_BKg10 := Aside0.mk (blk_below BKg10.out hb); clear BKg10; have BKg10 := n_BKg10; clear n_BKg10; have n_HB := Aside0.mk (below_step HB.out hb); have GEg11 : w.heap.size ≤ g11 := (by rw [hg_g11]; exact HB.out.size); clear HB; have HB := n_HB; clear n_HB; have hfg11 := blk_frozen BKg11.out; have hcg11_0 : w7.cell? ⟨g11, 0, none⟩ = some (.int .i64 0) := (blk_cell BKg11.out 0).trans rfl; have hcg11_1 : w7.cell? ⟨g11, 1, none⟩ = some (.int .i64 0) := (blk_cell BKg11.out 1).trans rfl; have hcg11_2 : w7.cell? ⟨g11, 2, none⟩ = some (.int .i64 0) := (blk_cell BKg11.out 2).trans rfl; have hcg11_3 : w7.cell? ⟨g11, 3, none⟩ = some (.int .i64 0) := (blk_cell BKg11.out 3).trans rfl; clear hbox hb hg_g11)
    have he_ : setAll w7 g11 [.int .i64 a2, .int .i64 0, .int .i64 0, .int .i64 0] 0 = ((((w7.setCell ⟨g11, 0, none⟩ (.int .i64 a2)).setCell ⟨g11, 1, none⟩ (.int .i64 0)).setCell ⟨g11, 2, none⟩ (.int .i64 0)).setCell ⟨g11, 3, none⟩ (.int .i64 0)) := rfl; have hbl := setAll_below GEg11 [.int .i64 a2, .int .i64 0, .int .i64 0, .int .i64 0] 0 _ HB.out; have hbx : (setAll w7 g11 [.int .i64 a2, .int .i64 0, .int .i64 0, .int .i64 0] 0).heap[g11]? = some (.cells #[.int .i64 a2, .int .i64 0, .int .i64 0, .int .i64 0] 31 (0, 0)) := setAll_new [.int .i64 a2, .int .i64 0, .int .i64 0, .int .i64 0] [.int .i64 0, .int .i64 0, .int .i64 0, .int .i64 0] BKg11.out rfl; have hx_BKgb := setAll_far ne_gb_g11 [.int .i64 a2, .int .i64 0, .int .i64 0, .int .i64 0] 0 _ BKgb.out; have hx_BKg8 := setAll_far ne_g8_g11 [.int .i64 a2, .int .i64 0, .int .i64 0, .int .i64 0] 0 _ BKg8.out; have hx_BKg10 := setAll_far ne_g10_g11 [.int .i64 a2, .int .i64 0, .int .i64 0, .int .i64 0] 0 _ BKg10.out; rw [he_] at hbl hbx hx_BKgb hx_BKg8 hx_BKg10; clear he_; generalize ((((w7.setCell ⟨g11, 0, none⟩ (.int .i64 a2)).setCell ⟨g11, 1, none⟩ (.int .i64 0)).setCell ⟨g11, 2, none⟩ (.int .i64 0)).setCell ⟨g11, 3, none⟩ (.int .i64 0)) = w8 at hbl hbx hx_BKgb hx_BKg8 hx_BKg10 ⊢; clear HB BKg11; have HB := Aside0.mk hbl; have BKg11 := Aside0.mk hbx; clear hbl hbx; clear BKgb; have BKgb := Aside0.mk hx_BKgb; clear hx_BKgb; clear BKg8; have BKg8 := Aside0.mk hx_BKg8; clear hx_BKg8; clear BKg10; have BKg10 := Aside0.mk hx_BKg10; clear hx_BKg10
    have HP : Aside0 (PI w gb g8 g10 g11 #[.slice (some ad) l0_0.length c0_0, .slice A0_1 l0_1.length c0_1, .slice A0_2 l0_2.length c0_2] L (a2, 0, 0, 0) w8) := ⟨⟨BKgb.out, BKg8.out, BKg10.out, BKg11.out, HB.out, GEg11, ne_g8_g11⟩⟩
    clear BKgb BKg8 BKg10 BKg11 HB hfg8 hfg10 hfg11
    go_wp2_with fail
    clear hcg8_0 hcg8_1 hcg8_2 hcg8_3 hcg10_0 hcg10_1 hcg10_2 hcg10_3 hcg10_4 hcg10_5 hcg10_6 hcg10_7 hcg10_8 hcg10_9 hcg10_10 hcg10_11 hcg11_0 hcg11_1 hcg11_2 hcg11_3
    go_loopw [66] (fun s66 wr => ∃ (k : Nat) (x : Heat4), k ≤ l3.length ∧ s66 = .int .i64 k ∧ Aside0 (heatR (playGo L (l3.drop k) (l0_1.drop k) x) = (r1, r2, r3, r4, r5)) ∧ Aside0 (PI w gb g8 g10 g11 #[.slice (some ad) l0_0.length c0_0, .slice A0_1 l0_1.length c0_1, .slice A0_2 l0_2.length c0_2] L x wr)) (fun s _ => l3.length - (intOf s).toNat)
    case atStart => exact ⟨0, (a2, 0, 0, 0), by omega, rfl, HF3, HP⟩
    case round =>
     clear HP HF3
     obtain ⟨k, x, hk, rfl, HF, HP⟩ := hrel
     by_cases hlt : k < l3.length
     ·
      have hki : (k : Int) < l3.length := by omega
      have hk1 : (k : Int) < l0_1.length := by omega
      obtain ⟨ad3, e, ht0, ht1, ht2⟩ := at_T44 HR3.out k (by omega) hki
      cases e
      obtain ⟨ad1, e, hq0, hq1⟩ := at_T37 HR1.out k (by omega) hk1
      cases e
      simp only [Int.toNat_natCast] at ht0 ht1 ht2 hq0 hq1
      have hrd := playGo_step L l3 l0_1 k hlt (by omega) x
      have HD := Aside0.mk hrd
      clear hrd
      generalize rd_T44 l3 k = T at HD ht0 ht1 ht2
      generalize rd_T37 l0_1 k = F at HD hq0 hq1
      replace ht0 := ((Aside0.mk HP.out.hb).out.cell (World.block_lt_of_cell? w _ ht0)).trans ht0; replace ht1 := ((Aside0.mk HP.out.hb).out.cell (World.block_lt_of_cell? w _ ht1)).trans ht1; replace ht2 := ((Aside0.mk HP.out.hb).out.cell (World.block_lt_of_cell? w _ ht2)).trans ht2
      have BKgb := Aside0.mk HP.out.b
      have BKg8 := Aside0.mk HP.out.r
      have BKg10 := Aside0.mk HP.out.l
      have BKg11 := Aside0.mk HP.out.o
      have HB := Aside0.mk HP.out.hb
      clear HP
      go_upto_region 10 with ((with_reducible refine gate_dst (N := 13) rfl ?_); refine box_event ?hg (N := 13) ?hd (cs := #[.int .i64 0, .int .i64 0, .bool false]) (t := 44) ?hr ?_; (case hd => rfl); (case hg => rfl); (case hr => first | (go_simp; done) | (go_simp; rfl)); intro g13 hg_g13 w11 hbox hb; have BKg13 := Aside0.mk hbox; have ne_gb_g13 : gb ≠ g13 := (by rw [hg_g13]; exact Nat.ne_of_lt (blk_lt BKgb.out)); have ne_g8_g13 : g8 ≠ g13 := (by rw [hg_g13]; exact Nat.ne_of_lt (blk_lt BKg8.out)); have ne_g10_g13 : g10 ≠ g13 := (by rw [hg_g13]; exact Nat.ne_of_lt (blk_lt BKg10.out)); have ne_g11_g13 : g11 ≠ g13 := (by rw [hg_g13]; exact Nat.ne_of_lt (blk_lt BKg11.out)); have n_BKgb := Aside0.mk (blk_below BKgb.out hb); clear BKgb; have BKgb := n_BKgb; clear n_BKgb; have n_BKg8 := Aside0.mk (blk_below BKg8.out hb); clear BKg8; have BKg8 := n_BKg8; clear n_BKg8; have n_BKg10 := Aside0.mk (blk_below BKg10.out hb); clear BKg10; have BKg10 := n_BKg10; clear n_BKg10; have n_BKg11 := Aside0.mk (blk_below BKg11.out hb); clear BKg11; have BKg11 := n_BKg11; clear n_BKg11; have n_HB := Aside0.mk (below_step HB.out hb); have GEg13 : w.heap.size ≤ g13 := (by rw [hg_g13]; exact HB.out.size); clear HB; have HB := n_HB; clear n_HB; have hfg13 := blk_frozen BKg13.out; have hcg13_0 : w11.cell? ⟨g13, 0, none⟩ = some (.int .i64 0) := (blk_cell BKg13.out 0).trans rfl; have hcg13_1 : w11.cell? ⟨g13, 1, none⟩ = some (.int .i64 0) := (blk_cell BKg13.out 1).trans rfl; have hcg13_2 : w11.cell? ⟨g13, 2, none⟩ = some (.bool false) := (blk_cell BKg13.out 2).trans rfl; clear hbox hb hg_g13)
      have he_ : setAll w11 g13 [.int .i64 T.f0, .int .i64 T.f1, .bool T.f2] 0 = (((w11.setCell ⟨g13, 0, none⟩ (.int .i64 T.f0)).setCell ⟨g13, 1, none⟩ (.int .i64 T.f1)).setCell ⟨g13, 2, none⟩ (.bool T.f2)) := rfl; have hbl := setAll_below GEg13 [.int .i64 T.f0, .int .i64 T.f1, .bool T.f2] 0 _ HB.out; have hbx : (setAll w11 g13 [.int .i64 T.f0, .int .i64 T.f1, .bool T.f2] 0).heap[g13]? = some (.cells #[.int .i64 T.f0, .int .i64 T.f1, .bool T.f2] 44 (0, 0)) := setAll_new [.int .i64 T.f0, .int .i64 T.f1, .bool T.f2] [.int .i64 0, .int .i64 0, .bool false] BKg13.out rfl; have hx_BKgb := setAll_far ne_gb_g13 [.int .i64 T.f0, .int .i64 T.f1, .bool T.f2] 0 _ BKgb.out; have hx_BKg8 := setAll_far ne_g8_g13 [.int .i64 T.f0, .int .i64 T.f1, .bool T.f2] 0 _ BKg8.out; have hx_BKg10 := setAll_far ne_g10_g13 [.int .i64 T.f0, .int .i64 T.f1, .bool T.f2] 0 _ BKg10.out; have hx_BKg11 := setAll_far ne_g11_g13 [.int .i64 T.f0, .int .i64 T.f1, .bool T.f2] 0 _ BKg11.out; rw [he_] at hbl hbx hx_BKgb hx_BKg8 hx_BKg10 hx_BKg11; clear he_; generalize (((w11.setCell ⟨g13, 0, none⟩ (.int .i64 T.f0)).setCell ⟨g13, 1, none⟩ (.int .i64 T.f1)).setCell ⟨g13, 2, none⟩ (.bool T.f2)) = w12 at hbl hbx hx_BKgb hx_BKg8 hx_BKg10 hx_BKg11 ⊢; clear HB BKg13; have HB := Aside0.mk hbl; have BKg13 := Aside0.mk hbx; clear hbl hbx; clear BKgb; have BKgb := Aside0.mk hx_BKgb; clear hx_BKgb; clear BKg8; have BKg8 := Aside0.mk hx_BKg8; clear hx_BKg8; clear BKg10; have BKg10 := Aside0.mk hx_BKg10; clear hx_BKg10; clear BKg11; have BKg11 := Aside0.mk hx_BKg11; clear hx_BKg11
      clear ht0 ht1 ht2 hcg13_0 hcg13_1 hcg13_2
      have hfgb := blk_frozen BKgb.out; have hcgb_0 : w12.cell? ⟨gb, 0, none⟩ = some (.slice (some ad) l0_0.length c0_0) := (blk_cell BKgb.out 0).trans rfl; have hcgb_1 : w12.cell? ⟨gb, 1, none⟩ = some (.slice (some ad1) l0_1.length c0_1) := (blk_cell BKgb.out 1).trans rfl
      replace hq0 := (HB.out.cell (World.block_lt_of_cell? w _ hq0)).trans hq0; replace hq1 := (HB.out.cell (World.block_lt_of_cell? w _ hq1)).trans hq1
      go_upto_region 11 with ((with_reducible refine gate_dst (N := 14) rfl ?_); refine box_event ?hg (N := 14) ?hd (cs := #[.int .i64 0, .int .i64 0]) (t := 37) ?hr ?_; (case hd => rfl); (case hg => rfl); (case hr => first | (go_simp; done) | (go_simp; rfl)); intro g14 hg_g14 w13 hbox hb; have BKg14 := Aside0.mk hbox; have ne_gb_g14 : gb ≠ g14 := (by rw [hg_g14]; exact Nat.ne_of_lt (blk_lt BKgb.out)); have ne_g8_g14 : g8 ≠ g14 := (by rw [hg_g14]; exact Nat.ne_of_lt (blk_lt BKg8.out)); have ne_g10_g14 : g10 ≠ g14 := (by rw [hg_g14]; exact Nat.ne_of_lt (blk_lt BKg10.out)); have ne_g11_g14 : g11 ≠ g14 := (by rw [hg_g14]; exact Nat.ne_of_lt (blk_lt BKg11.out)); have ne_g13_g14 : g13 ≠ g14 := (by rw [hg_g14]; exact Nat.ne_of_lt (blk_lt BKg13.out)); have n_BKgb := Aside0.mk (blk_below BKgb.out hb); clear BKgb; have BKgb := n_BKgb; clear n_BKgb; have n_BKg8 := Aside0.mk (blk_below BKg8.out hb); clear BKg8; have BKg8 := n_BKg8; clear n_BKg8; have n_BKg10 := Aside0.mk (blk_below BKg10.out hb); clear BKg10; have BKg10 := n_BKg10; clear n_BKg10; have n_BKg11 := Aside0.mk (blk_below BKg11.out hb); clear BKg11; have BKg11 := n_BKg11; clear n_BKg11; have n_BKg13 := Aside0.mk (blk_below BKg13.out hb); clear BKg13; have BKg13 := n_BKg13; clear n_BKg13; have n_HB := Aside0.mk (below_step HB.out hb); have GEg14 : w.heap.size ≤ g14 := (by rw [hg_g14]; exact HB.out.size); clear HB; have HB := n_HB; clear n_HB; have hfg14 := blk_frozen BKg14.out; have hcg14_0 : w13.cell? ⟨g14, 0, none⟩ = some (.int .i64 0) := (blk_cell BKg14.out 0).trans rfl; have hcg14_1 : w13.cell? ⟨g14, 1, none⟩ = some (.int .i64 0) := (blk_cell BKg14.out 1).trans rfl; clear hbox hb hg_g14)
      have he_ : setAll w13 g14 [.int .i64 F.f0, .int .i64 F.f1] 0 = ((w13.setCell ⟨g14, 0, none⟩ (.int .i64 F.f0)).setCell ⟨g14, 1, none⟩ (.int .i64 F.f1)) := rfl; have hbl := setAll_below GEg14 [.int .i64 F.f0, .int .i64 F.f1] 0 _ HB.out; have hbx : (setAll w13 g14 [.int .i64 F.f0, .int .i64 F.f1] 0).heap[g14]? = some (.cells #[.int .i64 F.f0, .int .i64 F.f1] 37 (0, 0)) := setAll_new [.int .i64 F.f0, .int .i64 F.f1] [.int .i64 0, .int .i64 0] BKg14.out rfl; have hx_BKgb := setAll_far ne_gb_g14 [.int .i64 F.f0, .int .i64 F.f1] 0 _ BKgb.out; have hx_BKg8 := setAll_far ne_g8_g14 [.int .i64 F.f0, .int .i64 F.f1] 0 _ BKg8.out; have hx_BKg10 := setAll_far ne_g10_g14 [.int .i64 F.f0, .int .i64 F.f1] 0 _ BKg10.out; have hx_BKg11 := setAll_far ne_g11_g14 [.int .i64 F.f0, .int .i64 F.f1] 0 _ BKg11.out; have hx_BKg13 := setAll_far ne_g13_g14 [.int .i64 F.f0, .int .i64 F.f1] 0 _ BKg13.out; rw [he_] at hbl hbx hx_BKgb hx_BKg8 hx_BKg10 hx_BKg11 hx_BKg13; clear he_; generalize ((w13.setCell ⟨g14, 0, none⟩ (.int .i64 F.f0)).setCell ⟨g14, 1, none⟩ (.int .i64 F.f1)) = w14 at hbl hbx hx_BKgb hx_BKg8 hx_BKg10 hx_BKg11 hx_BKg13 ⊢; clear HB BKg14; have HB := Aside0.mk hbl; have BKg14 := Aside0.mk hbx; clear hbl hbx; clear BKgb; have BKgb := Aside0.mk hx_BKgb; clear hx_BKgb; clear BKg8; have BKg8 := Aside0.mk hx_BKg8; clear hx_BKg8; clear BKg10; have BKg10 := Aside0.mk hx_BKg10; clear hx_BKg10; clear BKg11; have BKg11 := Aside0.mk hx_BKg11; clear hx_BKg11; clear BKg13; have BKg13 := Aside0.mk hx_BKg13; clear hx_BKg13
      have HT : Aside0 (TI w gb g8 g10 g11 g13 g14 #[.slice (some ad) l0_0.length c0_0, .slice (some ad1) l0_1.length c0_1, .slice A0_2 l0_2.length c0_2] L T F x w14) := ⟨⟨⟨BKgb.out, BKg8.out, BKg10.out, BKg11.out, HB.out, GEg11, ne_g8_g11⟩, BKg13.out, BKg14.out⟩⟩
      clear BKgb BKg8 BKg10 BKg11 BKg13 BKg14 HB hfgb hcgb_0 hcgb_1 hcg14_0 hcg14_1 hq0 hq1
      have h_t0 : w14.cell? ⟨g13, 0, none⟩ = some (.int .i64 T.f0) := (blk_cell HT.out.t 0).trans rfl; have h_t1 : w14.cell? ⟨g13, 1, none⟩ = some (.int .i64 T.f1) := (blk_cell HT.out.t 1).trans rfl; have h_l2 : w14.cell? ⟨g10, 2, none⟩ = some (.int .i64 L.f1.f0) := (blk_cell HT.out.p.l 2).trans rfl; have h_l3 : w14.cell? ⟨g10, 3, none⟩ = some (.int .i64 L.f1.f1) := (blk_cell HT.out.p.l 3).trans rfl; have h_f0 : w14.cell? ⟨g14, 0, none⟩ = some (.int .i64 F.f0) := (blk_cell HT.out.f 0).trans rfl; have h_f1 : w14.cell? ⟨g14, 1, none⟩ = some (.int .i64 F.f1) := (blk_cell HT.out.f 1).trans rfl; have h_r0 : w14.cell? ⟨g8, 0, none⟩ = some (.int .i64 0) := (blk_cell HT.out.p.r 0).trans rfl; have h_r1 : w14.cell? ⟨g8, 1, none⟩ = some (.int .i64 0) := (blk_cell HT.out.p.r 1).trans rfl; have h_r2 : w14.cell? ⟨g8, 2, none⟩ = some (.int .i64 0) := (blk_cell HT.out.p.r 2).trans rfl; have h_r3 : w14.cell? ⟨g8, 3, none⟩ = some (.int .i64 0) := (blk_cell HT.out.p.r 3).trans rfl; have hf_r := blk_frozen HT.out.p.r
      cases hA : inB T.f0 L.f1.f0 L.f1.f1 with
      | false =>
       have HA : Aside0 (∀ W, Calls Try.prog 55 #[.int .i64 T.f0, .int .i64 L.f1.f0, .int .i64 L.f1.f1] W fun e w' => e = .returned (.bool false) ∧ Below W.heap.size W w') := ⟨fun W => by have h := in_calls T.f0 L.f1.f0 L.f1.f1 W; rw [hA] at h; exact h⟩
       have he := HF.out
       rw [HD.out, hA] at he
       simp only [Bool.false_and, Bool.false_eq_true, if_false, heatR] at he
       cases he
       clear HD HF hA
       go_wp2_with (first | (go_at_call 55; with_reducible refine (HA.out _).mono ?_; rintro e w15 ⟨rfl, hb⟩; have n_HT := Aside0.mk (HT.out.below hb); clear HT; have HT := n_HT; clear n_HT hb; clear h_t0 h_t1 h_l2 h_l3 h_f0 h_f1 h_r0 h_r1 h_r2 h_r3 hf_r; have h_t0 : w15.cell? ⟨g13, 0, none⟩ = some (.int .i64 T.f0) := (blk_cell HT.out.t 0).trans rfl; have h_t1 : w15.cell? ⟨g13, 1, none⟩ = some (.int .i64 T.f1) := (blk_cell HT.out.t 1).trans rfl; have h_l2 : w15.cell? ⟨g10, 2, none⟩ = some (.int .i64 L.f1.f0) := (blk_cell HT.out.p.l 2).trans rfl; have h_l3 : w15.cell? ⟨g10, 3, none⟩ = some (.int .i64 L.f1.f1) := (blk_cell HT.out.p.l 3).trans rfl; have h_f0 : w15.cell? ⟨g14, 0, none⟩ = some (.int .i64 F.f0) := (blk_cell HT.out.f 0).trans rfl; have h_f1 : w15.cell? ⟨g14, 1, none⟩ = some (.int .i64 F.f1) := (blk_cell HT.out.f 1).trans rfl; have h_r0 : w15.cell? ⟨g8, 0, none⟩ = some (.int .i64 0) := (blk_cell HT.out.p.r 0).trans rfl; have h_r1 : w15.cell? ⟨g8, 1, none⟩ = some (.int .i64 0) := (blk_cell HT.out.p.r 1).trans rfl; have h_r2 : w15.cell? ⟨g8, 2, none⟩ = some (.int .i64 0) := (blk_cell HT.out.p.r 2).trans rfl; have h_r3 : w15.cell? ⟨g8, 3, none⟩ = some (.int .i64 0) := (blk_cell HT.out.p.r 3).trans rfl; have hf_r := blk_frozen HT.out.p.r))
       refine bodyPost_ret (results_ct rfl _ _ g8 31 #[.int .i64 0, .int .i64 0, .int .i64 0, .int .i64 0] (0, 0) _ rfl ((blk_set (blk_set (blk_set (blk_set HT.out.p.r 0 _) 1 _) 2 _) 3 _)) Try.underlying31 rfl (by kernel_rfl)) rfl ?_
       exact ⟨rfl, (below_set (j := 3) (below_set (j := 2) (below_set (j := 1) (below_set (j := 0) HT.out.p.hb GEg8) GEg8) GEg8) GEg8)⟩
      | true =>
       have HA : Aside0 (∀ W, Calls Try.prog 55 #[.int .i64 T.f0, .int .i64 L.f1.f0, .int .i64 L.f1.f1] W fun e w' => e = .returned (.bool true) ∧ Below W.heap.size W w') := ⟨fun W => by have h := in_calls T.f0 L.f1.f0 L.f1.f1 W; rw [hA] at h; exact h⟩
       have he := HF.out
       rw [HD.out, hA] at he
       simp only [Bool.true_and] at he
       clear HD HF hA
       cases hA2 : inB T.f1 F.f0 F.f1 with
       | false =>
        have HA2 : Aside0 (∀ W, Calls Try.prog 55 #[.int .i64 T.f1, .int .i64 F.f0, .int .i64 F.f1] W fun e w' => e = .returned (.bool false) ∧ Below W.heap.size W w') := ⟨fun W => by have h := in_calls T.f1 F.f0 F.f1 W; rw [hA2] at h; exact h⟩
        rw [hA2] at he
        simp only [Bool.false_eq_true, if_false, heatR] at he
        cases he
        clear hA2
        go_wp2_with (first | (go_at_call 55; with_reducible refine (HA.out _).mono ?_; rintro e w15 ⟨rfl, hb⟩; have n_HT := Aside0.mk (HT.out.below hb); clear HT; have HT := n_HT; clear n_HT hb; clear h_t0 h_t1 h_l2 h_l3 h_f0 h_f1 h_r0 h_r1 h_r2 h_r3 hf_r; have h_t0 : w15.cell? ⟨g13, 0, none⟩ = some (.int .i64 T.f0) := (blk_cell HT.out.t 0).trans rfl; have h_t1 : w15.cell? ⟨g13, 1, none⟩ = some (.int .i64 T.f1) := (blk_cell HT.out.t 1).trans rfl; have h_l2 : w15.cell? ⟨g10, 2, none⟩ = some (.int .i64 L.f1.f0) := (blk_cell HT.out.p.l 2).trans rfl; have h_l3 : w15.cell? ⟨g10, 3, none⟩ = some (.int .i64 L.f1.f1) := (blk_cell HT.out.p.l 3).trans rfl; have h_f0 : w15.cell? ⟨g14, 0, none⟩ = some (.int .i64 F.f0) := (blk_cell HT.out.f 0).trans rfl; have h_f1 : w15.cell? ⟨g14, 1, none⟩ = some (.int .i64 F.f1) := (blk_cell HT.out.f 1).trans rfl; have h_r0 : w15.cell? ⟨g8, 0, none⟩ = some (.int .i64 0) := (blk_cell HT.out.p.r 0).trans rfl; have h_r1 : w15.cell? ⟨g8, 1, none⟩ = some (.int .i64 0) := (blk_cell HT.out.p.r 1).trans rfl; have h_r2 : w15.cell? ⟨g8, 2, none⟩ = some (.int .i64 0) := (blk_cell HT.out.p.r 2).trans rfl; have h_r3 : w15.cell? ⟨g8, 3, none⟩ = some (.int .i64 0) := (blk_cell HT.out.p.r 3).trans rfl; have hf_r := blk_frozen HT.out.p.r) | (go_at_call 55; with_reducible refine (HA2.out _).mono ?_; rintro e w16 ⟨rfl, hb⟩; have n_HT := Aside0.mk (HT.out.below hb); clear HT; have HT := n_HT; clear n_HT hb; clear h_t0 h_t1 h_l2 h_l3 h_f0 h_f1 h_r0 h_r1 h_r2 h_r3 hf_r; have h_t0 : w16.cell? ⟨g13, 0, none⟩ = some (.int .i64 T.f0) := (blk_cell HT.out.t 0).trans rfl; have h_t1 : w16.cell? ⟨g13, 1, none⟩ = some (.int .i64 T.f1) := (blk_cell HT.out.t 1).trans rfl; have h_l2 : w16.cell? ⟨g10, 2, none⟩ = some (.int .i64 L.f1.f0) := (blk_cell HT.out.p.l 2).trans rfl; have h_l3 : w16.cell? ⟨g10, 3, none⟩ = some (.int .i64 L.f1.f1) := (blk_cell HT.out.p.l 3).trans rfl; have h_f0 : w16.cell? ⟨g14, 0, none⟩ = some (.int .i64 F.f0) := (blk_cell HT.out.f 0).trans rfl; have h_f1 : w16.cell? ⟨g14, 1, none⟩ = some (.int .i64 F.f1) := (blk_cell HT.out.f 1).trans rfl; have h_r0 : w16.cell? ⟨g8, 0, none⟩ = some (.int .i64 0) := (blk_cell HT.out.p.r 0).trans rfl; have h_r1 : w16.cell? ⟨g8, 1, none⟩ = some (.int .i64 0) := (blk_cell HT.out.p.r 1).trans rfl; have h_r2 : w16.cell? ⟨g8, 2, none⟩ = some (.int .i64 0) := (blk_cell HT.out.p.r 2).trans rfl; have h_r3 : w16.cell? ⟨g8, 3, none⟩ = some (.int .i64 0) := (blk_cell HT.out.p.r 3).trans rfl; have hf_r := blk_frozen HT.out.p.r))
        refine bodyPost_ret (results_ct rfl _ _ g8 31 #[.int .i64 0, .int .i64 0, .int .i64 0, .int .i64 0] (0, 0) _ rfl ((blk_set (blk_set (blk_set (blk_set HT.out.p.r 0 _) 1 _) 2 _) 3 _)) Try.underlying31 rfl (by kernel_rfl)) rfl ?_
        exact ⟨rfl, (below_set (j := 3) (below_set (j := 2) (below_set (j := 1) (below_set (j := 0) HT.out.p.hb GEg8) GEg8) GEg8) GEg8)⟩
       | true =>
        have HA2 : Aside0 (∀ W, Calls Try.prog 55 #[.int .i64 T.f1, .int .i64 F.f0, .int .i64 F.f1] W fun e w' => e = .returned (.bool true) ∧ Below W.heap.size W w') := ⟨fun W => by have h := in_calls T.f1 F.f0 F.f1 W; rw [hA2] at h; exact h⟩
        rw [hA2] at he
        simp only [if_true] at he
        have HF := Aside0.mk he
        clear hA2 he
        obtain ⟨feed, hfe⟩ : ∃ feed, feed = feedV L T := ⟨_, rfl⟩
        have HFE := Aside0.mk hfe
        clear hfe
        go_upto_region 13 with (first | (go_at_call 55; with_reducible refine (HA.out _).mono ?_; rintro e w15 ⟨rfl, hb⟩; have n_HT := Aside0.mk (HT.out.below hb); clear HT; have HT := n_HT; clear n_HT hb; clear h_t0 h_t1 h_l2 h_l3 h_f0 h_f1 h_r0 h_r1 h_r2 h_r3 hf_r; have h_t0 : w15.cell? ⟨g13, 0, none⟩ = some (.int .i64 T.f0) := (blk_cell HT.out.t 0).trans rfl; have h_t1 : w15.cell? ⟨g13, 1, none⟩ = some (.int .i64 T.f1) := (blk_cell HT.out.t 1).trans rfl; have h_l2 : w15.cell? ⟨g10, 2, none⟩ = some (.int .i64 L.f1.f0) := (blk_cell HT.out.p.l 2).trans rfl; have h_l3 : w15.cell? ⟨g10, 3, none⟩ = some (.int .i64 L.f1.f1) := (blk_cell HT.out.p.l 3).trans rfl; have h_f0 : w15.cell? ⟨g14, 0, none⟩ = some (.int .i64 F.f0) := (blk_cell HT.out.f 0).trans rfl; have h_f1 : w15.cell? ⟨g14, 1, none⟩ = some (.int .i64 F.f1) := (blk_cell HT.out.f 1).trans rfl; have h_r0 : w15.cell? ⟨g8, 0, none⟩ = some (.int .i64 0) := (blk_cell HT.out.p.r 0).trans rfl; have h_r1 : w15.cell? ⟨g8, 1, none⟩ = some (.int .i64 0) := (blk_cell HT.out.p.r 1).trans rfl; have h_r2 : w15.cell? ⟨g8, 2, none⟩ = some (.int .i64 0) := (blk_cell HT.out.p.r 2).trans rfl; have h_r3 : w15.cell? ⟨g8, 3, none⟩ = some (.int .i64 0) := (blk_cell HT.out.p.r 3).trans rfl; have hf_r := blk_frozen HT.out.p.r) | (go_at_call 55; with_reducible refine (HA2.out _).mono ?_; rintro e w16 ⟨rfl, hb⟩; have n_HT := Aside0.mk (HT.out.below hb); clear HT; have HT := n_HT; clear n_HT hb; clear h_t0 h_t1 h_l2 h_l3 h_f0 h_f1 h_r0 h_r1 h_r2 h_r3 hf_r; have h_t0 : w16.cell? ⟨g13, 0, none⟩ = some (.int .i64 T.f0) := (blk_cell HT.out.t 0).trans rfl; have h_t1 : w16.cell? ⟨g13, 1, none⟩ = some (.int .i64 T.f1) := (blk_cell HT.out.t 1).trans rfl; have h_l2 : w16.cell? ⟨g10, 2, none⟩ = some (.int .i64 L.f1.f0) := (blk_cell HT.out.p.l 2).trans rfl; have h_l3 : w16.cell? ⟨g10, 3, none⟩ = some (.int .i64 L.f1.f1) := (blk_cell HT.out.p.l 3).trans rfl; have h_f0 : w16.cell? ⟨g14, 0, none⟩ = some (.int .i64 F.f0) := (blk_cell HT.out.f 0).trans rfl; have h_f1 : w16.cell? ⟨g14, 1, none⟩ = some (.int .i64 F.f1) := (blk_cell HT.out.f 1).trans rfl; have h_r0 : w16.cell? ⟨g8, 0, none⟩ = some (.int .i64 0) := (blk_cell HT.out.p.r 0).trans rfl; have h_r1 : w16.cell? ⟨g8, 1, none⟩ = some (.int .i64 0) := (blk_cell HT.out.p.r 1).trans rfl; have h_r2 : w16.cell? ⟨g8, 2, none⟩ = some (.int .i64 0) := (blk_cell HT.out.p.r 2).trans rfl; have h_r3 : w16.cell? ⟨g8, 3, none⟩ = some (.int .i64 0) := (blk_cell HT.out.p.r 3).trans rfl; have hf_r := blk_frozen HT.out.p.r))
        clear h_t0 h_t1 h_l2 h_l3 h_f0 h_f1 h_r0 h_r1 h_r2 h_r3 hf_r
        have h_t2 : w16.cell? ⟨g13, 2, none⟩ = some (.bool T.f2) := (blk_cell HT.out.t 2).trans rfl
        go_upto_if 98 with (fail)
        go_cut [15] (fun v15 wc => v15 = .int .i64 feed ∧ Aside0 (TI w gb g8 g10 g11 g13 g14 #[.slice (some ad) l0_0.length c0_0, .slice (some ad1) l0_1.length c0_1, .slice A0_2 l0_2.length c0_2] L T F x wc))
        case first =>
         cases hfd : T.f2 with
         | true =>
          have he : L.f6 = feed := by rw [HFE.out]; unfold feedV; rw [if_pos hfd]
          have h_l9 : w16.cell? ⟨g10, 9, none⟩ = some (.int .i64 L.f6) := (blk_cell HT.out.p.l 9).trans rfl
          clear hfd
          go_wp2_with fail
          go_meet
          case rel => exact ⟨by first | rfl | rw [he], HT⟩
         | false =>
          have he : 0 = feed := by rw [HFE.out]; unfold feedV; rw [if_neg (by rw [hfd]; decide)]
          clear hfd
          go_wp2_with fail
          go_meet
          case rel => exact ⟨by first | rfl | rw [he], HT⟩
        case rest =>
         clear HT h_t2
         obtain ⟨rfl, HT⟩ := hcut
         obtain ⟨lost, hle⟩ : ∃ lost, lost = lossI T.f0 T.f1 x.1 feed := ⟨_, rfl⟩
         have HLE := Aside0.mk hle
         have hloss : ∀ W, Calls Try.prog 56 #[.int .i64 T.f0, .int .i64 T.f1, .int .i64 x.1, .int .i64 feed] W fun e w' => e = .returned (.int .i64 lost) ∧ Below W.heap.size W w' := fun W => pipe_loss.calls _ _ _ _ _ W (by rw [hle]; rfl)
         have HLO := Aside0.mk hloss
         clear hle hloss
         have h_t0 : wc.cell? ⟨g13, 0, none⟩ = some (.int .i64 T.f0) := (blk_cell HT.out.t 0).trans rfl; have h_t1 : wc.cell? ⟨g13, 1, none⟩ = some (.int .i64 T.f1) := (blk_cell HT.out.t 1).trans rfl; have h_o0 : wc.cell? ⟨g11, 0, none⟩ = some (.int .i64 x.1) := (blk_cell HT.out.p.o 0).trans rfl
         go_upto_region 17 with ((go_at_call 56; with_reducible refine (HLO.out _).mono ?_; rintro e w17 ⟨rfl, hb⟩; have n_HT := Aside0.mk (HT.out.below hb); clear HT; have HT := n_HT; clear n_HT hb; clear h_t0 h_t1 h_o0; have h_t0 : w17.cell? ⟨g13, 0, none⟩ = some (.int .i64 T.f0) := (blk_cell HT.out.t 0).trans rfl; have h_t1 : w17.cell? ⟨g13, 1, none⟩ = some (.int .i64 T.f1) := (blk_cell HT.out.t 1).trans rfl; have h_o0 : w17.cell? ⟨g11, 0, none⟩ = some (.int .i64 x.1) := (blk_cell HT.out.p.o 0).trans rfl))
         clear h_t0 h_t1 h_o0
         have h_o0 : w17.cell? ⟨g11, 0, none⟩ = some (.int .i64 x.1) := (blk_cell HT.out.p.o 0).trans rfl; have hf_o := blk_frozen HT.out.p.o
         go_upto_region 18 with (first | (go_at_call 57; with_reducible refine (sum3_calls _ _ _ _).mono ?_; rintro e w22 ⟨rfl, hb⟩; have n_HT := Aside0.mk (HT.out.below hb); clear HT; have HT := n_HT; clear n_HT hb; clear h_o0 hf_o; have h_o0 : w22.cell? ⟨g11, 0, none⟩ = some (.int .i64 x.1) := (blk_cell HT.out.p.o 0).trans rfl; have hf_o := blk_frozen HT.out.p.o))
         have n_HT := Aside0.mk (HT.out.set (y := (sumV [x.1, feed, wrap64 (-lost)], x.2.1, x.2.2.1, x.2.2.2)) 0 (.int .i64 (sumV [x.1, feed, wrap64 (-lost)])) rfl)
         clear h_o0 hf_o
         clear HT
         generalize w22.setCell ⟨g11, 0, none⟩ (.int .i64 (sumV [x.1, feed, wrap64 (-lost)])) = w20 at n_HT ⊢
         have HT := n_HT
         clear n_HT
         have h_o1 : w20.cell? ⟨g11, 1, none⟩ = some (.int .i64 x.2.1) := (blk_cell HT.out.p.o 1).trans rfl; have h_l7 : w20.cell? ⟨g10, 7, none⟩ = some (.int .i64 L.f4) := (blk_cell HT.out.p.l 7).trans rfl; have hf_o := blk_frozen HT.out.p.o
         go_upto_region 19 with (first | (go_at_call 57; with_reducible refine (sum2_calls _ _ _).mono ?_; rintro e w32 ⟨rfl, hb⟩; have n_HT := Aside0.mk (HT.out.below hb); clear HT; have HT := n_HT; clear n_HT hb; clear h_o1 h_l7 hf_o; have h_o1 : w32.cell? ⟨g11, 1, none⟩ = some (.int .i64 x.2.1) := (blk_cell HT.out.p.o 1).trans rfl; have hf_o := blk_frozen HT.out.p.o))
         have n_HT := Aside0.mk (HT.out.set (y := (sumV [x.1, feed, wrap64 (-lost)], sumV [x.2.1, wrap64 (feed * L.f4)], x.2.2.1, x.2.2.2)) 1 (.int .i64 (sumV [x.2.1, wrap64 (feed * L.f4)])) rfl)
         clear h_o1 hf_o
         clear HT
         generalize w32.setCell ⟨g11, 1, none⟩ (.int .i64 (sumV [x.2.1, wrap64 (feed * L.f4)])) = w30 at n_HT ⊢
         have HT := n_HT
         clear n_HT
         have h_l7 : w30.cell? ⟨g10, 7, none⟩ = some (.int .i64 L.f4) := (blk_cell HT.out.p.l 7).trans rfl; have h_l8 : w30.cell? ⟨g10, 8, none⟩ = some (.int .i64 L.f5) := (blk_cell HT.out.p.l 8).trans rfl
         obtain ⟨ground, hgr⟩ : ∃ ground, ground = groundV L lost := ⟨_, rfl⟩
         have HGR := Aside0.mk hgr
         unfold groundV at hgr
         go_upto_region 20 with fail
         rw [← hgr]
         clear hgr
         clear h_l7 h_l8
         have h_o2 : w30.cell? ⟨g11, 2, none⟩ = some (.int .i64 x.2.2.1) := (blk_cell HT.out.p.o 2).trans rfl; have hf_o := blk_frozen HT.out.p.o
         go_upto_region 21 with (first | (go_at_call 57; with_reducible refine (sum2_calls _ _ _).mono ?_; rintro e w42 ⟨rfl, hb⟩; have n_HT := Aside0.mk (HT.out.below hb); clear HT; have HT := n_HT; clear n_HT hb; clear h_o2 hf_o; have h_o2 : w42.cell? ⟨g11, 2, none⟩ = some (.int .i64 x.2.2.1) := (blk_cell HT.out.p.o 2).trans rfl; have hf_o := blk_frozen HT.out.p.o))
         have n_HT := Aside0.mk (HT.out.set (y := (sumV [x.1, feed, wrap64 (-lost)], sumV [x.2.1, wrap64 (feed * L.f4)], sumV [x.2.2.1, ground], x.2.2.2)) 2 (.int .i64 (sumV [x.2.2.1, ground])) rfl)
         clear h_o2 hf_o
         clear HT
         generalize w42.setCell ⟨g11, 2, none⟩ (.int .i64 (sumV [x.2.2.1, ground])) = w40 at n_HT ⊢
         have HT := n_HT
         clear n_HT
         have h_o3 : w40.cell? ⟨g11, 3, none⟩ = some (.int .i64 x.2.2.2) := (blk_cell HT.out.p.o 3).trans rfl; have h_l7 : w40.cell? ⟨g10, 7, none⟩ = some (.int .i64 L.f4) := (blk_cell HT.out.p.l 7).trans rfl; have hf_o := blk_frozen HT.out.p.o
         go_upto_region 22 with (first | (go_at_call 57; with_reducible refine (sum3_calls _ _ _ _).mono ?_; rintro e w52 ⟨rfl, hb⟩; have n_HT := Aside0.mk (HT.out.below hb); clear HT; have HT := n_HT; clear n_HT hb; clear h_o3 h_l7 hf_o; have h_o3 : w52.cell? ⟨g11, 3, none⟩ = some (.int .i64 x.2.2.2) := (blk_cell HT.out.p.o 3).trans rfl; have hf_o := blk_frozen HT.out.p.o))
         have n_HT := Aside0.mk (HT.out.set (y := (sumV [x.1, feed, wrap64 (-lost)], sumV [x.2.1, wrap64 (feed * L.f4)], sumV [x.2.2.1, ground], sumV [x.2.2.2, wrap64 (lost * L.f4), wrap64 (-ground)])) 3 (.int .i64 (sumV [x.2.2.2, wrap64 (lost * L.f4), wrap64 (-ground)])) rfl)
         clear h_o3 hf_o
         clear HT
         generalize w52.setCell ⟨g11, 3, none⟩ (.int .i64 (sumV [x.2.2.2, wrap64 (lost * L.f4), wrap64 (-ground)])) = w50 at n_HT ⊢
         have HT := n_HT
         clear n_HT
         have hw1 : IntKind.i64.wrap ((k : Int) + 1) = (k : Int) + 1 := by have := Kd.C_max HR3.out; rw [i64_w]; unfold wrap64; omega
         go_wp2_with fail
         have hfin : heatR (playGo L (l3.drop (k + 1)) (l0_1.drop (k + 1)) (sumV [x.1, feed, wrap64 (-lost)], sumV [x.2.1, wrap64 (feed * L.f4)], sumV [x.2.2.1, ground], sumV [x.2.2.2, wrap64 (lost * L.f4), wrap64 (-ground)])) = (r1, r2, r3, r4, r5) := by
          rw [← HF.out, HGR.out, HLE.out, HFE.out]
          rfl
         have HFIN := Aside0.mk hfin
         clear hfin
         go_roundw
         case rel => exact ⟨k + 1, _, by omega, by go_num, HFIN, ⟨HT.out.p⟩⟩
         case measure => simp [intOf]; omega
     ·
      have he := HF.out
      rw [List.drop_eq_nil_of_le (by omega)] at he
      simp only [playGo, heatR] at he
      cases he
      have BKg8 := Aside0.mk HP.out.r
      have BKg11 := Aside0.mk HP.out.o
      have hfg8 := blk_frozen BKg8.out; have hcg8_0 : wr.cell? ⟨g8, 0, none⟩ = some (.int .i64 0) := (blk_cell BKg8.out 0).trans rfl; have hcg8_1 : wr.cell? ⟨g8, 1, none⟩ = some (.int .i64 0) := (blk_cell BKg8.out 1).trans rfl; have hcg8_2 : wr.cell? ⟨g8, 2, none⟩ = some (.int .i64 0) := (blk_cell BKg8.out 2).trans rfl; have hcg8_3 : wr.cell? ⟨g8, 3, none⟩ = some (.int .i64 0) := (blk_cell BKg8.out 3).trans rfl
      have hfg11 := blk_frozen BKg11.out; have hcg11_0 : wr.cell? ⟨g11, 0, none⟩ = some (.int .i64 x.1) := (blk_cell BKg11.out 0).trans rfl; have hcg11_1 : wr.cell? ⟨g11, 1, none⟩ = some (.int .i64 x.2.1) := (blk_cell BKg11.out 1).trans rfl; have hcg11_2 : wr.cell? ⟨g11, 2, none⟩ = some (.int .i64 x.2.2.1) := (blk_cell BKg11.out 2).trans rfl; have hcg11_3 : wr.cell? ⟨g11, 3, none⟩ = some (.int .i64 x.2.2.2) := (blk_cell BKg11.out 3).trans rfl
      go_wp2_with fail
      try rw [Exit.noGoto_ret]
      refine bodyPost_ret (results_ct rfl _ _ g8 31 #[.int .i64 x.1, .int .i64 x.2.1, .int .i64 x.2.2.1, .int .i64 x.2.2.2] (0, 0) _ rfl ((blk_set (blk_set (blk_set (blk_set BKg8.out 0 _) 1 _) 2 _) 3 _)) Try.underlying31 rfl (by kernel_rfl)) rfl ?_
      exact ⟨rfl, (below_set (j := 3) (below_set (j := 2) (below_set (j := 1) (below_set (j := 0) HP.out.hb GEg8) GEg8) GEg8) GEg8)⟩
end Go.Proofs.Ytipphcjgdebecaa.PA
namespace Go.Proofs.Ytipphcjgdebecaa.PA
open Go.RowKit Go.Proofs.YtipphcjgdebecaaW.PrintWords Go.Proofs.YtipphcjgdebecaaW.PrintLast Go.Proofs.YtipphcjgdebecaaW.PrintMore
attribute [local go_sem] max2_int min2_int max_two min_two max_three min_three max_four min_four
set_option linter.unusedVariables false
set_option linter.unusedSimpArgs false
def pipe_place.f (l0_0 : List (S39)) (l0_1 : List (S37)) (l0_2 : List (List Int)) (a1 : Int) : Option (Bool) := (pipe_in.f a1 0 (l0_0.length : Int)).bind fun t125 => (some t125)
set_option maxHeartbeats 8000000 in
set_option maxRecDepth 100000 in
theorem pipe_place.calls (A0_0 : Option Addr) (c0_0 : Nat) (l0_0 : List (S39)) (A0_1 : Option Addr) (c0_1 : Nat) (l0_1 : List (S37)) (A0_2 : Option Addr) (c0_2 : Nat) (l0_2 : List (List Int)) (a1 : Int) (r : Bool) (w : World) (hr0_0 : Kd.C k39 w A0_0 l0_0.length l0_0) (hc0_0 : l0_0.length ≤ c0_0) (hr0_1 : Kd.C k37 w A0_1 l0_1.length l0_1) (hc0_1 : l0_1.length ≤ c0_1) (hr0_2 : Kd.C (Kd.slice 3 (Kd.int .i64)) w A0_2 l0_2.length l0_2) (hc0_2 : l0_2.length ≤ c0_2) (h : pipe_place.f l0_0 l0_1 l0_2 a1 = some r) :
  Calls Try.prog 62 #[.agg #[.slice A0_0 l0_0.length c0_0, .slice A0_1 l0_1.length c0_1, .slice A0_2 l0_2.length c0_2], .int .i64 a1] w fun e w' => e = .returned (.bool r) ∧ Below w.heap.size w w' := by
 have hu26 := Try.underlying26
 have HR0_0 := Aside0.mk hr0_0
 have HC0_0 := Aside0.mk hc0_0
 clear hr0_0 hc0_0
 have HR0_1 := Aside0.mk hr0_1
 have HC0_1 := Aside0.mk hc0_1
 clear hr0_1 hc0_1
 have HR0_2 := Aside0.mk hr0_2
 have HC0_2 := Aside0.mk hc0_2
 clear hr0_2 hc0_2
 have HB := Aside0.mk (Below.refl w.heap.size w)
 have H : ((pipe_in.f a1 0 (l0_0.length : Int)).bind fun t125 => (some t125)) = some r := h
 clear h
 replace H := Option.bind_eq_some_iff.mp H
 obtain ⟨t125, A30, H⟩ := H
 replace H : (some t125) = some r := H
 have A3 := Aside0.mk A30
 clear A30
 obtain rfl := Option.some.inj H
 go_enter Try.func62, Try.ntmps62
 go_wp2_with (first | ((with_reducible refine gate_dst (N := 2) rfl ?_); refine box_event ?hg (N := 2) ?hd (cs := #[.slice A0_0 l0_0.length c0_0, .slice A0_1 l0_1.length c0_1, .slice A0_2 l0_2.length c0_2]) (t := 26) ?hr ?_; (case hd => rfl); (case hg => rfl); (case hr => first | (go_simp; done) | (go_simp; rfl)); intro gb124 hg w4 hbox hb; have n0_ := Aside0.mk (below_step (by repeat (first | (with_reducible first | exact HB.out | apply below_alloc | apply pw_below_drewN | apply below_drew1) | exact HB.out)) hb); have n1_ := Aside0.mk (hbox); have n2_ := Aside0.mk ((by rw [hg]; exact (below_size (by repeat (first | (with_reducible first | exact HB.out | apply below_alloc | apply pw_below_drewN | apply below_drew1) | exact HB.out))) : w.heap.size ≤ gb124)); have n3_ := Aside0.mk ((by rw [hg]; exact (below_size (by repeat (first | (with_reducible first | exact HB.out | apply below_alloc | apply pw_below_drewN | apply below_drew1) | exact HB.out))) : w.heap.size ≤ gb124)); clear HB; have HB := n0_; have BK124 := n1_; have GW124 := n2_; have GE124 := n3_; clear n0_ n1_ n2_ n3_; clear hb hbox hg; have hcz5_0 : w4.cell? ⟨gb124, 0, none⟩ = some (.slice A0_0 l0_0.length c0_0) := (blk_cell BK124.out 0).trans rfl; have hcz5_1 : w4.cell? ⟨gb124, 1, none⟩ = some (.slice A0_1 l0_1.length c0_1) := (blk_cell BK124.out 1).trans rfl; have hcz5_2 : w4.cell? ⟨gb124, 2, none⟩ = some (.slice A0_2 l0_2.length c0_2) := (blk_cell BK124.out 2).trans rfl; have hfz5_0 := blk_frozen BK124.out 0; have hfz5_1 := blk_frozen BK124.out 1; have hfz5_2 := blk_frozen BK124.out 2) | ((with_reducible refine gate_callee (f := 55) rfl ?_); refine goesL_ (some 9) rfl rfl Try.func55 (by kernel_rfl) rfl #[.int .i64 a1, .int .i64 0, .int .i64 (l0_0.length : Int)] rfl (by (try simp only [List.map_toArray, List.map_cons, List.map_nil]); first | done | rfl | (simp only [List.length_drop, List.length_take]; rfl)) ?_; (with_reducible refine (pipe_in.calls a1 0 (l0_0.length : Int) t125 _ A3.out).mono ?_); rintro e w' ⟨rfl, ⟨nd, rfl⟩⟩; refine ⟨_, rfl, ?_⟩))
 go_ret
 exact ⟨by first | rfl | (simp [errW_none, errW_some] <;> rfl) | (simp [*, errW_none, errW_some] <;> rfl), by repeat (first | (with_reducible first | exact HB.out | apply below_alloc | apply pw_below_drewN | apply below_drew1 | refine below_set ?_ GE124.out) | exact HB.out)⟩
end Go.Proofs.Ytipphcjgdebecaa.PA
namespace Go.Proofs.Ytipphcjgdebecaa.PA
open Go.RowKit Go.Proofs.YtipphcjgdebecaaW.PrintWords Go.Proofs.YtipphcjgdebecaaW.PrintLast Go.Proofs.YtipphcjgdebecaaW.PrintMore
attribute [local go_sem] max2_int min2_int max_two min_two max_three min_three max_four min_four
set_option linter.unusedVariables false
set_option linter.unusedSimpArgs false
def frz : List S37 → Int → Int → Int × Int
 | [], _, can => (can, -1)
 | s :: t, h, can => if s.f1 = 0 then (if s.f0 = 0 ∧ can < 0 then h + 1 else can, h + 1) else frz t (h + 1) (if s.f0 = 0 ∧ can < 0 then h + 1 else can)
theorem frz_round (l : List S37) (k : Nat) (hk : k < l.length) (can : Int) : frz (l.drop k) k can = if (rd_T37 l k).f1 = 0 then (if (rd_T37 l k).f0 = 0 ∧ can < 0 then (k : Int) + 1 else can, (k : Int) + 1) else frz (l.drop (k + 1)) ((k + 1 : Nat) : Int) (if (rd_T37 l k).f0 = 0 ∧ can < 0 then (k : Int) + 1 else can) := by
 rw [List.drop_eq_getElem_cons hk]
 have : rd_T37 l k = l[k] := by simp [rd_T37, hk]
 rw [this]
 simp only [frz]
 rfl
def pipe_net_freezes.f (l0_0 : List (S39)) (l0_1 : List (S37)) (l0_2 : List (List Int)) (a0_3 : Int) (a1 : Int) : Option (Int × Int) := if 0 ≤ a1 ∧ a1 < l0_0.length ∧ 0 ≤ a0_3 ∧ l0_1.length ≤ 1000 then some (frz (warmthV l0_0 l0_1 a0_3 a1) 0 (-1)) else none
set_option maxHeartbeats 4000000 in
set_option maxRecDepth 100000 in
theorem pipe_net_freezes.calls (A0_0 : Option Addr) (c0_0 : Nat) (l0_0 : List (S39)) (A0_1 : Option Addr) (c0_1 : Nat) (l0_1 : List (S37)) (A0_2 : Option Addr) (c0_2 : Nat) (l0_2 : List (List Int)) (a0_3 : Int) (a1 : Int) (r1 : Int) (r2 : Int) (w : World) (hr0_0 : Kd.C k39 w A0_0 l0_0.length l0_0) (hc0_0 : l0_0.length ≤ c0_0) (hr0_1 : Kd.C k37 w A0_1 l0_1.length l0_1) (hc0_1 : l0_1.length ≤ c0_1) (hr0_2 : Kd.C (Kd.slice 3 (Kd.int .i64)) w A0_2 l0_2.length l0_2) (hc0_2 : l0_2.length ≤ c0_2) (h : pipe_net_freezes.f l0_0 l0_1 l0_2 a0_3 a1 = some (r1, r2)) :
  Calls Try.prog 77 #[.agg #[.slice A0_0 l0_0.length c0_0, .slice A0_1 l0_1.length c0_1, .slice A0_2 l0_2.length c0_2, .int .i64 a0_3], .int .i64 a1] w fun e w' => e = .returned (.tuple #[.int .i64 r1, .int .i64 r2]) ∧ Below w.heap.size w w' := by
 unfold pipe_net_freezes.f at h
 split at h
 case isFalse => cases h
 rename_i hc
 have h' := Option.some.inj h
 clear h
 have HF := Aside0.mk h'
 clear h'
 have HR0 := Aside0.mk hr0_0
 have HR1 := Aside0.mk hr0_1
 clear hr0_0 hr0_1 hr0_2
 have hu99 := Try.underlying99
 have hu37 := Try.underlying37
 have HB := Aside0.mk (Below.refl w.heap.size w)
 obtain ⟨q0, q1, q2, q3⟩ := hc
 go_enter Try.func77, Try.ntmps77
 go_wp2_with ((with_reducible refine gate_dst (N := 2) rfl ?_); refine box_event ?hg (N := 2) ?hd (cs := #[.slice A0_0 l0_0.length c0_0, .slice A0_1 l0_1.length c0_1, .slice A0_2 l0_2.length c0_2, .int .i64 a0_3]) (t := 99) ?hr ?_; (case hd => rfl); (case hg => rfl); (case hr => first | (go_simp; done) | (go_simp; rfl)); intro gb hg_gb w2 hbox hb; have BKgb := Aside0.mk hbox; have n_HB := Aside0.mk (below_step HB.out hb); have GEgb : w.heap.size ≤ gb := (by rw [hg_gb]; exact HB.out.size); clear HB; have HB := n_HB; clear n_HB; have hfgb := blk_frozen BKgb.out; have hcgb_0 : w2.cell? ⟨gb, 0, none⟩ = some (.slice A0_0 l0_0.length c0_0) := (blk_cell BKgb.out 0).trans rfl; have hcgb_1 : w2.cell? ⟨gb, 1, none⟩ = some (.slice A0_1 l0_1.length c0_1) := (blk_cell BKgb.out 1).trans rfl; have hcgb_2 : w2.cell? ⟨gb, 2, none⟩ = some (.slice A0_2 l0_2.length c0_2) := (blk_cell BKgb.out 2).trans rfl; have hcgb_3 : w2.cell? ⟨gb, 3, none⟩ = some (.int .i64 a0_3) := (blk_cell BKgb.out 3).trans rfl; clear hbox hb hg_gb)
 go_step3
 go_wp2_with fail
 go_step3
 go_wp2_with (go_at_call 79; refine (warmth_calls _ _ _ _ _ _ _ _ _ _ (Kd.C_below HR0.out HB.out) (Kd.C_below HR1.out HB.out) q0 q1 q2 q3).mono ?_; rintro e w3 ⟨v, rfl, ho, hb⟩; obtain ⟨A, n, c, rfl⟩ := R_shape ho; have HO := Aside0.mk (Kd.R_lower ho HB.out.size); clear ho; have n_HB := Aside0.mk (below_step HB.out hb); clear HB; have HB := n_HB; clear n_HB; clear hb)
 clear hfgb hcgb_0 hcgb_1 hcgb_2 hcgb_3 BKgb
 have HN : Aside0 (n = (warmthV l0_0 l0_1 a0_3 a1).length) := ⟨(Kd.R_reads' HO.out).1⟩
 have hn : n ≤ 1000 := by rw [HN.out]; simpa [warmthV] using q3
 generalize hl : warmthV l0_0 l0_1 a0_3 a1 = l at HO HF HN
 clear hl
 go_loopw [6, 7, 14] (fun s6 s7 s14 wr => ∃ (k : Nat) (can : Int), k ≤ n ∧ -1 ≤ can ∧ s14 = .int .i64 k ∧ s6 = .int .i64 can ∧ s7 = .int .i64 (-1) ∧ Aside0 (frz (l.drop k) k can = (r1, r2)) ∧ Aside0 (Kd.R k37 37 wr w.heap.size (fun _ => True) (.slice A n c) l) ∧ Aside0 (Below w.heap.size w wr)) (fun _ _ s _ => n - (intOf s).toNat)
 case atStart => exact ⟨0, -1, by omega, by omega, rfl, rfl, rfl, HF, HO, HB⟩
 case round =>
  clear HO HB HF
  obtain ⟨k, can, hk, hcan, rfl, rfl, rfl, HF, HO, HB⟩ := hrel
  by_cases hlt : k < n
  ·
   have hki : (k : Int) < n := by omega
   have hC := (Kd.R_reads' HO.out).2.2
   rw [← HN.out] at hC
   obtain ⟨ad, e, hx0, hx1⟩ := at_T37 hC k (by omega) hki
   cases e
   simp only [Int.toNat_natCast] at hx0 hx1
   clear hC
   have ne0 := World.new_ne wr _ hx0
   have hrd := frz_round l k (by rw [← HN.out]; exact hlt) can
   have HD := Aside0.mk hrd
   clear hrd
   obtain ⟨x0, hx0e⟩ : ∃ x0, x0 = (rd_T37 l k).f0 := ⟨_, rfl⟩
   obtain ⟨x1, hx1e⟩ : ∃ x1, x1 = (rd_T37 l k).f1 := ⟨_, rfl⟩
   rw [← hx0e] at hx0 HD
   rw [← hx1e] at hx1 HD
   clear hx0e hx1e
   by_cases c1 : x1 = 0
   ·
    have HE : Aside0 ((if x0 = 0 ∧ can < 0 then (k : Int) + 1 else can, (k : Int) + 1) = (r1, r2)) := ⟨by rw [← HF.out, HD.out, if_pos c1]⟩
    have hb1 : (x1 == 0) = true := by simp [c1]
    clear c1
    by_cases c2 : x0 = 0
    ·
     have hb2 : (x0 == 0) = true := by simp [c2]
     have C2 := Aside0.mk c2
     clear c2
     by_cases c3 : can < 0
     ·
      go_wp2_with fail
      try rw [Exit.noGoto_ret]
      go_ret2
      have he := HE.out
      rw [if_pos ⟨C2.out, c3⟩] at he
      cases he
      exact ⟨rfl, HB.out.alloc HB.out.size _⟩
     ·
      go_wp2_with fail
      try rw [Exit.noGoto_ret]
      go_ret2
      have he := HE.out
      rw [if_neg (by omega)] at he
      cases he
      exact ⟨rfl, HB.out.alloc HB.out.size _⟩
    ·
     have hb2 : (x0 == 0) = false := by simp [c2]
     have C2 := Aside0.mk c2
     clear c2
     go_wp2_with fail
     try rw [Exit.noGoto_ret]
     go_ret2
     have he := HE.out
     rw [if_neg (fun h => C2.out h.1)] at he
     cases he
     exact ⟨rfl, HB.out.alloc HB.out.size _⟩
   ·
    have HE : Aside0 (frz (l.drop (k + 1)) ((k + 1 : Nat) : Int) (if x0 = 0 ∧ can < 0 then (k : Int) + 1 else can) = (r1, r2)) := ⟨by rw [← HF.out, HD.out, if_neg c1]⟩
    have hb1 : (x1 == 0) = false := by simp [c1]
    clear c1
    by_cases c2 : x0 = 0
    ·
     have hb2 : (x0 == 0) = true := by simp [c2]
     have C2 := Aside0.mk c2
     clear c2
     by_cases c3 : can < 0
     ·
      go_wp2_with fail
      go_roundw
      case rel => exact ⟨k + 1, (k : Int) + 1, by omega, by omega, by go_num, by go_num, rfl, ⟨by rw [← HE.out, if_pos ⟨C2.out, c3⟩]⟩, ⟨Kd.R_alloc HO.out _⟩, ⟨HB.out.alloc HB.out.size _⟩⟩
      case measure => simp [intOf]; omega
     ·
      go_wp2_with fail
      go_roundw
      case rel => exact ⟨k + 1, can, by omega, by omega, by go_num, rfl, rfl, ⟨by rw [← HE.out, if_neg (by omega)]⟩, ⟨Kd.R_alloc HO.out _⟩, ⟨HB.out.alloc HB.out.size _⟩⟩
      case measure => simp [intOf]; omega
    ·
     have hb2 : (x0 == 0) = false := by simp [c2]
     have C2 := Aside0.mk c2
     clear c2
     go_wp2_with fail
     go_roundw
     case rel => exact ⟨k + 1, can, by omega, by omega, by go_num, rfl, rfl, ⟨by rw [← HE.out, if_neg (fun h => C2.out h.1)]⟩, ⟨Kd.R_alloc HO.out _⟩, ⟨HB.out.alloc HB.out.size _⟩⟩
     case measure => simp [intOf]; omega
  ·
   have he := HF.out
   rw [List.drop_eq_nil_of_le (by rw [← HN.out]; omega)] at he
   simp only [frz] at he
   cases he
   go_wp2_with fail
   try rw [Exit.noGoto_ret]
   go_ret2
   exact ⟨rfl, HB.out⟩
end Go.Proofs.Ytipphcjgdebecaa.PA
namespace Go.Proofs.Ytipphcjgdebecaa.PA
open Go.RowKit Go.Proofs.YtipphcjgdebecaaW.PrintWords Go.Proofs.YtipphcjgdebecaaW.PrintLast Go.Proofs.YtipphcjgdebecaaW.PrintMore
attribute [local go_sem] max2_int min2_int max_two min_two max_three min_three max_four min_four
set_option linter.unusedVariables false
set_option linter.unusedSimpArgs false
def pipe_net_due.f (l0_0 : List (S39)) (l0_1 : List (S37)) (l0_2 : List (List Int)) (a0_3 : Int) (a1 : Int) : Option (Int) := (pipe_net_freezes.f l0_0 l0_1 l0_2 a0_3 a1).bind fun bt127 => (if bt127.1 ≥ 0 then (some (wrap64 (bt127.1 - 1))) else (some (l0_1.length : Int)))
set_option maxHeartbeats 8000000 in
set_option maxRecDepth 100000 in
theorem pipe_net_due.calls (A0_0 : Option Addr) (c0_0 : Nat) (l0_0 : List (S39)) (A0_1 : Option Addr) (c0_1 : Nat) (l0_1 : List (S37)) (A0_2 : Option Addr) (c0_2 : Nat) (l0_2 : List (List Int)) (a0_3 : Int) (a1 : Int) (r : Int) (w : World) (hr0_0 : Kd.C k39 w A0_0 l0_0.length l0_0) (hc0_0 : l0_0.length ≤ c0_0) (hr0_1 : Kd.C k37 w A0_1 l0_1.length l0_1) (hc0_1 : l0_1.length ≤ c0_1) (hr0_2 : Kd.C (Kd.slice 3 (Kd.int .i64)) w A0_2 l0_2.length l0_2) (hc0_2 : l0_2.length ≤ c0_2) (h : pipe_net_due.f l0_0 l0_1 l0_2 a0_3 a1 = some r) :
  Calls Try.prog 89 #[.agg #[.slice A0_0 l0_0.length c0_0, .slice A0_1 l0_1.length c0_1, .slice A0_2 l0_2.length c0_2, .int .i64 a0_3], .int .i64 a1] w fun e w' => e = .returned (.int .i64 r) ∧ Below w.heap.size w w' := by
 have hu99 := Try.underlying99
 have HR0_0 := Aside0.mk hr0_0
 have HC0_0 := Aside0.mk hc0_0
 clear hr0_0 hc0_0
 have HR0_1 := Aside0.mk hr0_1
 have HC0_1 := Aside0.mk hc0_1
 clear hr0_1 hc0_1
 have HR0_2 := Aside0.mk hr0_2
 have HC0_2 := Aside0.mk hc0_2
 clear hr0_2 hc0_2
 have HB := Aside0.mk (Below.refl w.heap.size w)
 have H : ((pipe_net_freezes.f l0_0 l0_1 l0_2 a0_3 a1).bind fun bt127 => (if bt127.1 ≥ 0 then (some (wrap64 (bt127.1 - 1))) else (some (l0_1.length : Int)))) = some r := h
 clear h
 replace H := Option.bind_eq_some_iff.mp H
 obtain ⟨⟨t127, t128⟩, A30, H⟩ := H
 replace H : (if t127 ≥ 0 then (some (wrap64 (t127 - 1))) else (some (l0_1.length : Int))) = some r := H
 have A3 := Aside0.mk A30
 clear A30
 by_cases c4 : t127 ≥ 0
 ·
  rw [if_pos c4] at H
  have c4b0 : decide (0 ≤ t127) = true := decide_eq_true c4
  clear c4
  obtain rfl := Option.some.inj H
  go_enter Try.func89, Try.ntmps89
  go_wp2_with (first | ((with_reducible refine gate_dst (N := 2) rfl ?_); refine box_event ?hg (N := 2) ?hd (cs := #[.slice A0_0 l0_0.length c0_0, .slice A0_1 l0_1.length c0_1, .slice A0_2 l0_2.length c0_2, .int .i64 a0_3]) (t := 99) ?hr ?_; (case hd => rfl); (case hg => rfl); (case hr => first | (go_simp; done) | (go_simp; rfl)); intro gb126 hg w5 hbox hb; have n0_ := Aside0.mk (below_step (by repeat (first | (with_reducible first | exact HB.out | apply below_alloc | apply pw_below_drewN | apply below_drew1) | exact HB.out)) hb); have n1_ := Aside0.mk (hbox); have n2_ := Aside0.mk ((by rw [hg]; exact (below_size (by repeat (first | (with_reducible first | exact HB.out | apply below_alloc | apply pw_below_drewN | apply below_drew1) | exact HB.out))) : w.heap.size ≤ gb126)); have n3_ := Aside0.mk ((by rw [hg]; exact (below_size (by repeat (first | (with_reducible first | exact HB.out | apply below_alloc | apply pw_below_drewN | apply below_drew1) | exact HB.out))) : w.heap.size ≤ gb126)); clear HB; have HB := n0_; have BK126 := n1_; have GW126 := n2_; have GE126 := n3_; clear n0_ n1_ n2_ n3_; clear hb hbox hg; have hcz6_0 : w5.cell? ⟨gb126, 0, none⟩ = some (.slice A0_0 l0_0.length c0_0) := (blk_cell BK126.out 0).trans rfl; have hcz6_1 : w5.cell? ⟨gb126, 1, none⟩ = some (.slice A0_1 l0_1.length c0_1) := (blk_cell BK126.out 1).trans rfl; have hcz6_2 : w5.cell? ⟨gb126, 2, none⟩ = some (.slice A0_2 l0_2.length c0_2) := (blk_cell BK126.out 2).trans rfl; have hcz6_3 : w5.cell? ⟨gb126, 3, none⟩ = some (.int .i64 a0_3) := (blk_cell BK126.out 3).trans rfl; have hfz6_0 := blk_frozen BK126.out 0; have hfz6_1 := blk_frozen BK126.out 1; have hfz6_2 := blk_frozen BK126.out 2; have hfz6_3 := blk_frozen BK126.out 3) | ((with_reducible refine gate_callee (f := 77) rfl ?_); refine goesL_ (some 10) rfl rfl Try.func77 (by kernel_rfl) rfl #[.agg #[.slice A0_0 l0_0.length c0_0, .slice A0_1 l0_1.length c0_1, .slice A0_2 l0_2.length c0_2, .int .i64 a0_3], .int .i64 a1] rfl (by (try simp only [List.map_toArray, List.map_cons, List.map_nil]); first | done | rfl | (simp only [List.length_drop, List.length_take]; rfl)) ?_; (with_reducible refine (pipe_net_freezes.calls _ _ l0_0 _ _ l0_1 _ _ l0_2 a0_3 a1 t127 t128 _ ?side1 ?side2 ?side3 ?side4 ?side5 ?side6 A3.out).mono ?_); (case side1 => repeat (first | exact (Kd.C_below HR0_0.out HB.out) | (with_reducible refine Kd.C_alloc ?_ _) | (with_reducible refine Kd.C_drewN ?_ _) | (with_reducible refine Kd.C_drew ?_))); (case side2 => exact HC0_0.out); (case side3 => repeat (first | exact (Kd.C_below HR0_1.out HB.out) | (with_reducible refine Kd.C_alloc ?_ _) | (with_reducible refine Kd.C_drewN ?_ _) | (with_reducible refine Kd.C_drew ?_))); (case side4 => exact HC0_1.out); (case side5 => repeat (first | exact (Kd.C_below HR0_2.out HB.out) | (with_reducible refine Kd.C_alloc ?_ _) | (with_reducible refine Kd.C_drewN ?_ _) | (with_reducible refine Kd.C_drew ?_))); (case side6 => exact HC0_2.out); rintro e w7 ⟨rfl, hb⟩; refine ⟨_, rfl, ?_⟩; have n0_ := Aside0.mk (blk_below (g := gb126) (o := .cells #[.slice A0_0 l0_0.length c0_0, .slice A0_1 l0_1.length c0_1, .slice A0_2 l0_2.length c0_2, .int .i64 a0_3] 99 (0, 0)) (by (with_reducible repeat (first | refine blk_drewN ?_ _ | refine blk_drew ?_ | refine blk_alloc ?_ _)); exact BK126.out) hb); have n1_ := Aside0.mk (below_step (by repeat (first | (with_reducible first | exact HB.out | apply below_alloc | apply pw_below_drewN | apply below_drew1 | refine below_set ?_ GE126.out) | exact HB.out)) hb); clear BK126; clear HB; have BK126 := n0_; have HB := n1_; clear n0_ n1_; (try clear hb); (try clear hb2); (try clear hk); (try clear hi)))
  go_ret
  exact ⟨by first | rfl | (simp [errW_none, errW_some] <;> rfl) | (simp [*, errW_none, errW_some] <;> rfl), by repeat (first | (with_reducible first | exact HB.out | apply below_alloc | apply pw_below_drewN | apply below_drew1 | refine below_set ?_ GE126.out) | exact HB.out)⟩
 ·
  rw [if_neg c4] at H
  have c4b0 : decide (0 ≤ t127) = false := decide_eq_false c4
  clear c4
  obtain rfl := Option.some.inj H
  go_enter Try.func89, Try.ntmps89
  go_wp2_with (first | ((with_reducible refine gate_dst (N := 2) rfl ?_); refine box_event ?hg (N := 2) ?hd (cs := #[.slice A0_0 l0_0.length c0_0, .slice A0_1 l0_1.length c0_1, .slice A0_2 l0_2.length c0_2, .int .i64 a0_3]) (t := 99) ?hr ?_; (case hd => rfl); (case hg => rfl); (case hr => first | (go_simp; done) | (go_simp; rfl)); intro gb126 hg w8 hbox hb; have n0_ := Aside0.mk (below_step (by repeat (first | (with_reducible first | exact HB.out | apply below_alloc | apply pw_below_drewN | apply below_drew1) | exact HB.out)) hb); have n1_ := Aside0.mk (hbox); have n2_ := Aside0.mk ((by rw [hg]; exact (below_size (by repeat (first | (with_reducible first | exact HB.out | apply below_alloc | apply pw_below_drewN | apply below_drew1) | exact HB.out))) : w.heap.size ≤ gb126)); have n3_ := Aside0.mk ((by rw [hg]; exact (below_size (by repeat (first | (with_reducible first | exact HB.out | apply below_alloc | apply pw_below_drewN | apply below_drew1) | exact HB.out))) : w.heap.size ≤ gb126)); clear HB; have HB := n0_; have BK126 := n1_; have GW126 := n2_; have GE126 := n3_; clear n0_ n1_ n2_ n3_; clear hb hbox hg; have hcz9_0 : w8.cell? ⟨gb126, 0, none⟩ = some (.slice A0_0 l0_0.length c0_0) := (blk_cell BK126.out 0).trans rfl; have hcz9_1 : w8.cell? ⟨gb126, 1, none⟩ = some (.slice A0_1 l0_1.length c0_1) := (blk_cell BK126.out 1).trans rfl; have hcz9_2 : w8.cell? ⟨gb126, 2, none⟩ = some (.slice A0_2 l0_2.length c0_2) := (blk_cell BK126.out 2).trans rfl; have hcz9_3 : w8.cell? ⟨gb126, 3, none⟩ = some (.int .i64 a0_3) := (blk_cell BK126.out 3).trans rfl; have hfz9_0 := blk_frozen BK126.out 0; have hfz9_1 := blk_frozen BK126.out 1; have hfz9_2 := blk_frozen BK126.out 2; have hfz9_3 := blk_frozen BK126.out 3) | ((with_reducible refine gate_callee (f := 77) rfl ?_); refine goesL_ (some 10) rfl rfl Try.func77 (by kernel_rfl) rfl #[.agg #[.slice A0_0 l0_0.length c0_0, .slice A0_1 l0_1.length c0_1, .slice A0_2 l0_2.length c0_2, .int .i64 a0_3], .int .i64 a1] rfl (by (try simp only [List.map_toArray, List.map_cons, List.map_nil]); first | done | rfl | (simp only [List.length_drop, List.length_take]; rfl)) ?_; (with_reducible refine (pipe_net_freezes.calls _ _ l0_0 _ _ l0_1 _ _ l0_2 a0_3 a1 t127 t128 _ ?side1 ?side2 ?side3 ?side4 ?side5 ?side6 A3.out).mono ?_); (case side1 => repeat (first | exact (Kd.C_below HR0_0.out HB.out) | (with_reducible refine Kd.C_alloc ?_ _) | (with_reducible refine Kd.C_drewN ?_ _) | (with_reducible refine Kd.C_drew ?_))); (case side2 => exact HC0_0.out); (case side3 => repeat (first | exact (Kd.C_below HR0_1.out HB.out) | (with_reducible refine Kd.C_alloc ?_ _) | (with_reducible refine Kd.C_drewN ?_ _) | (with_reducible refine Kd.C_drew ?_))); (case side4 => exact HC0_1.out); (case side5 => repeat (first | exact (Kd.C_below HR0_2.out HB.out) | (with_reducible refine Kd.C_alloc ?_ _) | (with_reducible refine Kd.C_drewN ?_ _) | (with_reducible refine Kd.C_drew ?_))); (case side6 => exact HC0_2.out); rintro e w10 ⟨rfl, hb⟩; refine ⟨_, rfl, ?_⟩; have n0_ := Aside0.mk (blk_below (g := gb126) (o := .cells #[.slice A0_0 l0_0.length c0_0, .slice A0_1 l0_1.length c0_1, .slice A0_2 l0_2.length c0_2, .int .i64 a0_3] 99 (0, 0)) (by (with_reducible repeat (first | refine blk_drewN ?_ _ | refine blk_drew ?_ | refine blk_alloc ?_ _)); exact BK126.out) hb); have n1_ := Aside0.mk (below_step (by repeat (first | (with_reducible first | exact HB.out | apply below_alloc | apply pw_below_drewN | apply below_drew1 | refine below_set ?_ GE126.out) | exact HB.out)) hb); clear BK126; clear HB; have BK126 := n0_; have HB := n1_; clear n0_ n1_; (try clear hb); (try clear hb2); (try clear hk); (try clear hi); have hcz11_0 : w10.cell? ⟨gb126, 0, none⟩ = some (.slice A0_0 l0_0.length c0_0) := (blk_cell BK126.out 0).trans rfl; have hcz11_1 : w10.cell? ⟨gb126, 1, none⟩ = some (.slice A0_1 l0_1.length c0_1) := (blk_cell BK126.out 1).trans rfl; have hcz11_2 : w10.cell? ⟨gb126, 2, none⟩ = some (.slice A0_2 l0_2.length c0_2) := (blk_cell BK126.out 2).trans rfl; have hcz11_3 : w10.cell? ⟨gb126, 3, none⟩ = some (.int .i64 a0_3) := (blk_cell BK126.out 3).trans rfl; have hfz11_0 := blk_frozen BK126.out 0; have hfz11_1 := blk_frozen BK126.out 1; have hfz11_2 := blk_frozen BK126.out 2; have hfz11_3 := blk_frozen BK126.out 3))
  go_ret
  exact ⟨by first | rfl | (simp [errW_none, errW_some] <;> rfl) | (simp [*, errW_none, errW_some] <;> rfl), by repeat (first | (with_reducible first | exact HB.out | apply below_alloc | apply pw_below_drewN | apply below_drew1 | refine below_set ?_ GE126.out) | exact HB.out)⟩
end Go.Proofs.Ytipphcjgdebecaa.PA
namespace Go.Proofs.Ytipphcjgdebecaa.PA
open Go.RowKit Go.Proofs.YtipphcjgdebecaaW.PrintWords Go.Proofs.YtipphcjgdebecaaW.PrintLast Go.Proofs.YtipphcjgdebecaaW.PrintMore
attribute [local go_sem] max2_int min2_int max_two min_two max_three min_three max_four min_four
set_option linter.unusedVariables false
set_option linter.unusedSimpArgs false
theorem ta137 (v : Value) (W : World) : (Instr.typeAssert (.iface 137 v) 20 137 true).run Try.prog W = .ok (.tuple #[v, .bool true]) W := by
 have h := Try.underlying137
 simp [Instr.typeAssert, go_sem, h]
set_option maxRecDepth 100000 in
set_option maxHeartbeats 1000000 in
theorem repaired1_late (g : Nat) (x : Bool) (i : Int) (w : World) (hb : w.heap[g]? = some (.cells #[.bool x] 4 (0, 0))) :
  CallsD Try.prog 103 #[.pointer (some ⟨g, 0, none⟩)] (.panicking ({ v := .iface 137 (.agg #[.int .i64 i]), recovered := false } :: [])) w fun e u' w' =>
   e = .returned (.tuple #[]) ∧ u' = .panicking ({ v := .iface 137 (.agg #[.int .i64 i]), recovered := true } :: []) ∧ w' = (w.alloc (.cells #[.int .i64 i] 137)).setCell ⟨g, 0, none⟩ (.bool false) := by
 have hta := ta137
 have hb1 := blk_alloc hb (.cells #[.int .i64 i] 137)
 have h1 : (w.alloc (.cells #[.int .i64 i] 137)).cell? ⟨g, 0, none⟩ = some (.bool x) := blk_cell hb1 0
 have h2 : (w.alloc (.cells #[.int .i64 i] 137)).frozen? ⟨g, 0, none⟩ = false := blk_frozen hb1 0
 clear hb hb1
 refine callsD_of_wpS Try.func103 rfl fun c₀ cs hu => ?_
 apply wpS_seq
 apply wpS_region
 simp [wpOpsS, go_sem, recoverD, hu, Try.ntmps103, Exit.thenS]
 refine wpS_of_wp ?_
 go_wp2
 cases c₀
 simp_all [bodyPostS, results, Try.results103]
set_option maxRecDepth 100000 in
set_option maxHeartbeats 1000000 in
theorem repaired1_idle (p : Addr) (w : World) :
  CallsD Try.prog 103 #[.pointer (some p)] .returning w fun e u' w' => e = .returned (.tuple #[]) ∧ u' = .returning ∧ w' = w := by
 refine callsD_of_wpS Try.func103 rfl fun c₀ cs hu => ?_
 apply wpS_seq
 apply wpS_region
 simp [wpOpsS, go_sem, recoverD, hu, Try.ntmps103, Exit.thenS]
 refine wpS_of_wp ?_
 go_wp2
 cases c₀
 simp_all [bodyPostS, results, Try.results103]
def repV (l0 : List S39) (l2 : List (List Int)) (D : List Int) (s : Sp) (i : Int) : Sp × Int × Bool :=
 if hourV l0 l2 s i > rd D i then (⟨0, 0, 0⟩, 0, false) else (nextV l0 l2 s i, wrap64 (rd D i - hourV l0 l2 s i), true)
set_option maxRecDepth 100000 in
set_option maxHeartbeats 4000000 in
theorem repaired_calls (A0 : Option Addr) (c0 : Nat) (l0 : List S39) (v1 : Value) (A2 : Option Addr) (c2 : Nat) (l2 : List (List Int)) (wp : Int) (s : Sp) (i : Int) (A3 : Option Addr) (c3 : Nat) (D : List Int) (w : World)
  (hr0 : Kd.C k39 w A0 l0.length l0) (hr2 : Kd.C (Kd.slice 3 (Kd.int .i64)) w A2 l2.length l2) (hr3 : Kd.C (Kd.int .i64) w A3 D.length D)
  (p0 : 0 ≤ s.p) (p1 : s.p < l2.length) (i0 : 0 ≤ i) (i1 : i < l0.length) (i2 : i + 1 < (rd_L1 l2 s.p).length) (i3 : i < D.length) (i4 : i < 60) :
  Calls Try.prog 92 #[.agg #[.slice A0 l0.length c0, v1, .slice A2 l2.length c2, .int .i64 wp], spV s, .int .i64 i, .slice A3 D.length c3] w fun e w' =>
   e = .returned (.tuple #[spV (repV l0 l2 D s i).1, .int .i64 (repV l0 l2 D s i).2.1, .bool (repV l0 l2 D s i).2.2]) ∧ Below w.heap.size w w' := by
 have hu26 := Try.underlying26
 have hu99 := Try.underlying99
 have hu123 := Try.underlying123
 have hmf : ∀ (fn : Fn) (first cap : Array Value) (w : World), (Instr.makeFunc fn first cap).run Try.prog w = .ok (.func fn first cap) w := fun _ _ _ _ => rfl
 have H0 := Aside0.mk hr0
 have H2 := Aside0.mk hr2
 have H3 := Aside0.mk hr3
 clear hr0 hr2 hr3
 have HB := Aside0.mk (Below.refl w.heap.size w)
 unfold repV
 obtain ⟨p, h, r⟩ := s
 simp only [spV_eq]
 dsimp only at p0 p1 i2
 by_cases hlate : hourV l0 l2 ⟨p, h, r⟩ i > rd D i
 ·
  simp only [if_pos hlate]
  have HL := Aside0.mk hlate
  clear hlate
  go_enter_defers Try.func92, Try.ntmps92
  go_wp2_with ((first | ((with_reducible refine gate_dst (N := 4) rfl ?_); refine box_event ?hg (N := 4) ?hd (cs := #[.slice A0 l0.length c0, v1, .slice A2 l2.length c2, .int .i64 wp]) (t := 99) ?hr ?_; (case hd => rfl); (case hg => rfl); (case hr => first | (go_simp; done) | (go_simp; rfl)); intro gb hg_gb w2 hbox hb; have BKgb := Aside0.mk hbox; have n_HB := Aside0.mk (below_step HB.out hb); have GEgb : w.heap.size ≤ gb := (by rw [hg_gb]; exact HB.out.size); clear HB; have HB := n_HB; clear n_HB; clear hbox hb hg_gb) | ((with_reducible refine gate_dst (N := 5) rfl ?_); refine box_event ?hg (N := 5) ?hd (cs := #[.int .i64 p, .int .i64 h, .int .i64 r]) (t := 123) ?hr ?_; (case hd => rfl); (case hg => rfl); (case hr => first | (go_simp; done) | (go_simp; rfl)); intro gs hg_gs w3 hbox hb; have BKgs := Aside0.mk hbox; have n_BKgb := Aside0.mk (blk_below BKgb.out hb); clear BKgb; have BKgb := n_BKgb; clear n_BKgb; have n_HB := Aside0.mk (below_step HB.out hb); have GEgs : w.heap.size ≤ gs := (by rw [hg_gs]; exact HB.out.size); clear HB; have HB := n_HB; clear n_HB; clear hbox hb hg_gs) | ((with_reducible refine gate_dst (N := 8) rfl ?_); refine box_event ?hg (N := 8) ?hd (cs := #[.int .i64 0, .int .i64 0, .int .i64 0]) (t := 123) ?hr ?_; (case hd => rfl); (case hg => rfl); (case hr => first | (go_simp; done) | (go_simp; rfl)); intro gz hg_gz w4 hbox hb; have BKgz := Aside0.mk hbox; have n_BKgb := Aside0.mk (blk_below BKgb.out hb); clear BKgb; have BKgb := n_BKgb; clear n_BKgb; have n_BKgs := Aside0.mk (blk_below BKgs.out hb); clear BKgs; have BKgs := n_BKgs; clear n_BKgs; have n_HB := Aside0.mk (below_step HB.out hb); have GEgz : w.heap.size ≤ gz := (by rw [hg_gz]; exact HB.out.size); clear HB; have HB := n_HB; clear n_HB; clear hbox hb hg_gz) | ((with_reducible refine gate_dst (N := 10) rfl ?_); refine box_event ?hg (N := 10) ?hd (cs := #[.bool false]) (t := 4) ?hr ?_; (case hd => rfl); (case hg => rfl); (case hr => first | (go_simp; done) | (go_simp; rfl)); intro gi hg_gi w5 hbox hb; have BKgi := Aside0.mk hbox; have n_BKgb := Aside0.mk (blk_below BKgb.out hb); clear BKgb; have BKgb := n_BKgb; clear n_BKgb; have n_BKgs := Aside0.mk (blk_below BKgs.out hb); clear BKgs; have BKgs := n_BKgs; clear n_BKgs; have n_BKgz := Aside0.mk (blk_below BKgz.out hb); clear BKgz; have BKgz := n_BKgz; clear n_BKgz; have n_HB := Aside0.mk (below_step HB.out hb); have GEgi : w.heap.size ≤ gi := (by rw [hg_gi]; exact HB.out.size); clear HB; have HB := n_HB; clear n_HB; clear hbox hb hg_gi; have hfgb := blk_frozen BKgb.out; have hcgb_0 : w5.cell? ⟨gb, 0, none⟩ = some (.slice A0 l0.length c0) := (blk_cell BKgb.out 0).trans rfl; have hcgb_1 : w5.cell? ⟨gb, 1, none⟩ = some (v1) := (blk_cell BKgb.out 1).trans rfl; have hcgb_2 : w5.cell? ⟨gb, 2, none⟩ = some (.slice A2 l2.length c2) := (blk_cell BKgb.out 2).trans rfl; have hcgb_3 : w5.cell? ⟨gb, 3, none⟩ = some (.int .i64 wp) := (blk_cell BKgb.out 3).trans rfl; have hfgs := blk_frozen BKgs.out; have hcgs_0 : w5.cell? ⟨gs, 0, none⟩ = some (.int .i64 p) := (blk_cell BKgs.out 0).trans rfl; have hcgs_1 : w5.cell? ⟨gs, 1, none⟩ = some (.int .i64 h) := (blk_cell BKgs.out 1).trans rfl; have hcgs_2 : w5.cell? ⟨gs, 2, none⟩ = some (.int .i64 r) := (blk_cell BKgs.out 2).trans rfl; have hfgz := blk_frozen BKgz.out; have hcgz_0 : w5.cell? ⟨gz, 0, none⟩ = some (.int .i64 0) := (blk_cell BKgz.out 0).trans rfl; have hcgz_1 : w5.cell? ⟨gz, 1, none⟩ = some (.int .i64 0) := (blk_cell BKgz.out 1).trans rfl; have hcgz_2 : w5.cell? ⟨gz, 2, none⟩ = some (.int .i64 0) := (blk_cell BKgz.out 2).trans rfl; have hfgi := blk_frozen BKgi.out; have hcgi_0 : w5.cell? ⟨gi, 0, none⟩ = some (.bool false) := (blk_cell BKgi.out 0).trans rfl)))
  refine (repairs_calls _ _ _ _ _ _ _ _ ⟨p, h, r⟩ i _ _ D w5 (Kd.C_below H0.out HB.out) (Kd.C_below H2.out HB.out) (Kd.C_below H3.out HB.out) p0 p1 i0 i1 i2 i3 i4).mono ?_
  rintro e w6 ⟨he, hb⟩
  rw [if_pos HL.out] at he
  subst he
  clear hfgb hcgb_0 hcgb_1 hcgb_2 hcgb_3 hfgs hcgs_0 hcgs_1 hcgs_2 hfgz hcgz_0 hcgz_1 hcgz_2 hfgi hcgi_0
  have n_BKgb := Aside0.mk (blk_below BKgb.out hb); clear BKgb; have BKgb := n_BKgb; clear n_BKgb; have n_BKgs := Aside0.mk (blk_below BKgs.out hb); clear BKgs; have BKgs := n_BKgs; clear n_BKgs; have n_BKgz := Aside0.mk (blk_below BKgz.out hb); clear BKgz; have BKgz := n_BKgz; clear n_BKgz; have n_BKgi := Aside0.mk (blk_below BKgi.out hb); clear BKgi; have BKgi := n_BKgi; clear n_BKgi; have n_HB := Aside0.mk (below_step HB.out hb); clear HB; have HB := n_HB; clear n_HB; clear hb
  try dsimp only
  refine leaves_cons (f := 103) (args := #[.pointer (some ⟨gi, 0, none⟩)]) (by simp) (by simp [go_sem]) ?_
  refine (repaired1_late gi false i w6 BKgi.out).mono ?_
  rintro e u' w'' ⟨rfl, rfl, rfl⟩
  have B1 := blk_far (p := ⟨gi, 0, none⟩) (blk_alloc BKgz.out (.cells #[.int .i64 i] 137)) (blk_ne BKgz.out BKgi.out (by decide)) (.bool false)
  have B2 := blk_set (blk_alloc BKgi.out (.cells #[.int .i64 i] 137)) 0 (.bool false)
  have B3 := below_set (j := 0) (v := .bool false) (HB.out.alloc HB.out.size (.cells #[.int .i64 i] 137)) GEgi
  generalize (w6.alloc (.cells #[.int .i64 i] 137)).setCell ⟨gi, 0, none⟩ (.bool false) = w7 at B1 B2 B3 ⊢
  have z0 : w7.cell? ⟨gz, 0, none⟩ = some (.int .i64 0) := blk_cell B1 0
  have z1 : w7.cell? ⟨gz, 1, none⟩ = some (.int .i64 0) := blk_cell B1 1
  have z2 : w7.cell? ⟨gz, 2, none⟩ = some (.int .i64 0) := blk_cell B1 2
  have z3 : w7.cell? ⟨gi, 0, none⟩ = some (.bool false) := blk_cell B2 0
  simp [Leaves, settle, results, Try.results92, go_sem, z0, z1, z2, z3, hu123]
  exact ⟨rfl, B3⟩
 ·
  simp only [if_neg hlate]
  have HL := Aside0.mk hlate
  clear hlate
  go_enter_defers Try.func92, Try.ntmps92
  go_wp2_with ((first | ((with_reducible refine gate_dst (N := 4) rfl ?_); refine box_event ?hg (N := 4) ?hd (cs := #[.slice A0 l0.length c0, v1, .slice A2 l2.length c2, .int .i64 wp]) (t := 99) ?hr ?_; (case hd => rfl); (case hg => rfl); (case hr => first | (go_simp; done) | (go_simp; rfl)); intro gb hg_gb w2 hbox hb; have BKgb := Aside0.mk hbox; have n_HB := Aside0.mk (below_step HB.out hb); have GEgb : w.heap.size ≤ gb := (by rw [hg_gb]; exact HB.out.size); clear HB; have HB := n_HB; clear n_HB; clear hbox hb hg_gb) | ((with_reducible refine gate_dst (N := 5) rfl ?_); refine box_event ?hg (N := 5) ?hd (cs := #[.int .i64 p, .int .i64 h, .int .i64 r]) (t := 123) ?hr ?_; (case hd => rfl); (case hg => rfl); (case hr => first | (go_simp; done) | (go_simp; rfl)); intro gs hg_gs w3 hbox hb; have BKgs := Aside0.mk hbox; have n_BKgb := Aside0.mk (blk_below BKgb.out hb); clear BKgb; have BKgb := n_BKgb; clear n_BKgb; have n_HB := Aside0.mk (below_step HB.out hb); have GEgs : w.heap.size ≤ gs := (by rw [hg_gs]; exact HB.out.size); clear HB; have HB := n_HB; clear n_HB; clear hbox hb hg_gs) | ((with_reducible refine gate_dst (N := 8) rfl ?_); refine box_event ?hg (N := 8) ?hd (cs := #[.int .i64 0, .int .i64 0, .int .i64 0]) (t := 123) ?hr ?_; (case hd => rfl); (case hg => rfl); (case hr => first | (go_simp; done) | (go_simp; rfl)); intro gz hg_gz w4 hbox hb; have BKgz := Aside0.mk hbox; have n_BKgb := Aside0.mk (blk_below BKgb.out hb); clear BKgb; have BKgb := n_BKgb; clear n_BKgb; have n_BKgs := Aside0.mk (blk_below BKgs.out hb); clear BKgs; have BKgs := n_BKgs; clear n_BKgs; have n_HB := Aside0.mk (below_step HB.out hb); have GEgz : w.heap.size ≤ gz := (by rw [hg_gz]; exact HB.out.size); clear HB; have HB := n_HB; clear n_HB; clear hbox hb hg_gz) | ((with_reducible refine gate_dst (N := 10) rfl ?_); refine box_event ?hg (N := 10) ?hd (cs := #[.bool false]) (t := 4) ?hr ?_; (case hd => rfl); (case hg => rfl); (case hr => first | (go_simp; done) | (go_simp; rfl)); intro gi hg_gi w5 hbox hb; have BKgi := Aside0.mk hbox; have n_BKgb := Aside0.mk (blk_below BKgb.out hb); clear BKgb; have BKgb := n_BKgb; clear n_BKgb; have n_BKgs := Aside0.mk (blk_below BKgs.out hb); clear BKgs; have BKgs := n_BKgs; clear n_BKgs; have n_BKgz := Aside0.mk (blk_below BKgz.out hb); clear BKgz; have BKgz := n_BKgz; clear n_BKgz; have n_HB := Aside0.mk (below_step HB.out hb); have GEgi : w.heap.size ≤ gi := (by rw [hg_gi]; exact HB.out.size); clear HB; have HB := n_HB; clear n_HB; clear hbox hb hg_gi; have hfgb := blk_frozen BKgb.out; have hcgb_0 : w5.cell? ⟨gb, 0, none⟩ = some (.slice A0 l0.length c0) := (blk_cell BKgb.out 0).trans rfl; have hcgb_1 : w5.cell? ⟨gb, 1, none⟩ = some (v1) := (blk_cell BKgb.out 1).trans rfl; have hcgb_2 : w5.cell? ⟨gb, 2, none⟩ = some (.slice A2 l2.length c2) := (blk_cell BKgb.out 2).trans rfl; have hcgb_3 : w5.cell? ⟨gb, 3, none⟩ = some (.int .i64 wp) := (blk_cell BKgb.out 3).trans rfl; have hfgs := blk_frozen BKgs.out; have hcgs_0 : w5.cell? ⟨gs, 0, none⟩ = some (.int .i64 p) := (blk_cell BKgs.out 0).trans rfl; have hcgs_1 : w5.cell? ⟨gs, 1, none⟩ = some (.int .i64 h) := (blk_cell BKgs.out 1).trans rfl; have hcgs_2 : w5.cell? ⟨gs, 2, none⟩ = some (.int .i64 r) := (blk_cell BKgs.out 2).trans rfl; have hfgz := blk_frozen BKgz.out; have hcgz_0 : w5.cell? ⟨gz, 0, none⟩ = some (.int .i64 0) := (blk_cell BKgz.out 0).trans rfl; have hcgz_1 : w5.cell? ⟨gz, 1, none⟩ = some (.int .i64 0) := (blk_cell BKgz.out 1).trans rfl; have hcgz_2 : w5.cell? ⟨gz, 2, none⟩ = some (.int .i64 0) := (blk_cell BKgz.out 2).trans rfl; have hfgi := blk_frozen BKgi.out; have hcgi_0 : w5.cell? ⟨gi, 0, none⟩ = some (.bool false) := (blk_cell BKgi.out 0).trans rfl)))
  refine (repairs_calls _ _ _ _ _ _ _ _ ⟨p, h, r⟩ i _ _ D w5 (Kd.C_below H0.out HB.out) (Kd.C_below H2.out HB.out) (Kd.C_below H3.out HB.out) p0 p1 i0 i1 i2 i3 i4).mono ?_
  rintro e w6 ⟨he, hb⟩
  rw [if_neg (Int.not_lt.2 HL.out)] at he
  subst he
  clear hfgb hcgb_0 hcgb_1 hcgb_2 hcgb_3 hfgs hcgs_0 hcgs_1 hcgs_2 hfgz hcgz_0 hcgz_1 hcgz_2 hfgi hcgi_0
  have nzi := blk_ne BKgz.out BKgi.out (by decide)
  have n_BKgb := Aside0.mk (blk_below BKgb.out hb); clear BKgb; have BKgb := n_BKgb; clear n_BKgb; have n_BKgs := Aside0.mk (blk_below BKgs.out hb); clear BKgs; have BKgs := n_BKgs; clear n_BKgs; have n_BKgz := Aside0.mk (blk_below BKgz.out hb); clear BKgz; have BKgz := n_BKgz; clear n_BKgz; have n_BKgi := Aside0.mk (blk_below BKgi.out hb); clear BKgi; have BKgi := n_BKgi; clear n_BKgi; have n_HB := Aside0.mk (below_step HB.out hb); clear HB; have HB := n_HB; clear n_HB; clear hb
  clear BKgb BKgs
  obtain ⟨q, hq⟩ : ∃ q, nextV l0 l2 ⟨p, h, r⟩ i = q := ⟨_, rfl⟩
  rw [hq]
  have HQ := Aside0.mk hq
  clear hq
  obtain ⟨q0, q1, q2⟩ := q
  simp only [spV_eq]
  have hfgz := blk_frozen BKgz.out; have hcgz_0 : w6.cell? ⟨gz, 0, none⟩ = some (.int .i64 0) := (blk_cell BKgz.out 0).trans rfl; have hcgz_1 : w6.cell? ⟨gz, 1, none⟩ = some (.int .i64 0) := (blk_cell BKgz.out 1).trans rfl; have hcgz_2 : w6.cell? ⟨gz, 2, none⟩ = some (.int .i64 0) := (blk_cell BKgz.out 2).trans rfl
  have hfgi := blk_frozen BKgi.out; have hcgi_0 : w6.cell? ⟨gi, 0, none⟩ = some (.bool false) := (blk_cell BKgi.out 0).trans rfl
  have nzi2 := nzi.symm
  go_wp2
  refine leaves_cons (f := 103) (args := #[.pointer (some ⟨gi, 0, none⟩)]) (by simp) (by simp [go_sem]) ?_
  refine (repaired1_idle ⟨gi, 0, none⟩ _).mono ?_
  rintro e u' w'' ⟨rfl, rfl, rfl⟩
  have B1 := blk_far (p := ⟨gi, 0, none⟩) (blk_set (blk_set (blk_set (blk_set (blk_set (blk_set BKgz.out 0 (.int .i64 q0)) 1 (.int .i64 q1)) 2 (.int .i64 q2)) 0 (.int .i64 q0)) 1 (.int .i64 q1)) 2 (.int .i64 q2)) nzi (.bool true)
  have B2 := blk_set (blk_far (p := ⟨gz, 2, none⟩) (blk_far (p := ⟨gz, 1, none⟩) (blk_far (p := ⟨gz, 0, none⟩) (blk_far (p := ⟨gz, 2, none⟩) (blk_far (p := ⟨gz, 1, none⟩) (blk_far (p := ⟨gz, 0, none⟩) BKgi.out nzi2 (.int .i64 q0)) nzi2 (.int .i64 q1)) nzi2 (.int .i64 q2)) nzi2 (.int .i64 q0)) nzi2 (.int .i64 q1)) nzi2 (.int .i64 q2)) 0 (.bool true)
  have B3 := below_set (j := 0) (v := .bool true) (below_set (j := 2) (v := .int .i64 q2) (below_set (j := 1) (v := .int .i64 q1) (below_set (j := 0) (v := .int .i64 q0) (below_set (j := 2) (v := .int .i64 q2) (below_set (j := 1) (v := .int .i64 q1) (below_set (j := 0) (v := .int .i64 q0) HB.out GEgz) GEgz) GEgz) GEgz) GEgz) GEgz) GEgi
  dsimp only
  generalize World.setCell _ ⟨gi, 0, none⟩ (.bool true) = w7 at B1 B2 B3 ⊢
  have z0 : w7.cell? ⟨gz, 0, none⟩ = some (.int .i64 q0) := blk_cell B1 0
  have z1 : w7.cell? ⟨gz, 1, none⟩ = some (.int .i64 q1) := blk_cell B1 1
  have z2 : w7.cell? ⟨gz, 2, none⟩ = some (.int .i64 q2) := blk_cell B1 2
  have z3 : w7.cell? ⟨gi, 0, none⟩ = some (.bool true) := blk_cell B2 0
  simp [Leaves, settle, results, Try.results92, go_sem, z0, z1, z2, z3, hu123]
  exact ⟨by rw [HQ.out]; rfl, B3⟩
end Go.Proofs.Ytipphcjgdebecaa.PA
namespace Go.Proofs.Ytipphcjgdebecaa.PA
open Go.RowKit Go.Proofs.YtipphcjgdebecaaW.PrintWords Go.Proofs.YtipphcjgdebecaaW.PrintLast Go.Proofs.YtipphcjgdebecaaW.PrintMore
attribute [local go_sem] max2_int min2_int max_two min_two max_three min_three max_four min_four
set_option linter.unusedVariables false
set_option linter.unusedSimpArgs false
abbrev Way := List Int × Int × Bool
def ofV (l0 : List S39) (l2 : List (List Int)) (D : List Int) (f : Sp → Way) (s : Sp) (i : Int) : Int × Bool :=
 if (repV l0 l2 D s i).2.2 = true then (min (repV l0 l2 D s i).2.1 (f (repV l0 l2 D s i).1).2.1, (f (repV l0 l2 D s i).1).2.2) else (0, false)
def goodV (l0 : List S39) (l2 : List (List Int)) (D : List Int) (f : Sp → Way) (slack : Int) (s : Sp) (i : Int) : Bool :=
 (repV l0 l2 D s i).2.2 && decide (slack ≤ (repV l0 l2 D s i).2.1) && (f (repV l0 l2 D s i).1).2.2 && decide (slack ≤ (f (repV l0 l2 D s i).1).2.1)
def sameV (l0 : List S39) (l2 : List (List Int)) (D : List Int) (f : Sp → Way) (slack : Int) : Nat → Sp → List Int → List Int
 | 0, _, out => out
 | k + 1, s, out => if s.r = 0 then out else
  match (loopsOf s.r 5).find? (goodV l0 l2 D f slack s) with
  | some i => sameV l0 l2 D f slack k (repV l0 l2 D s i).1 (out ++ [i])
  | none => out
def stepV (l0 : List S39) (l1 : List S37) (l2 : List (List Int)) (D : List Int) (f : Sp → Way) (s : Sp) : Way :=
 if s.r = 0 then ([], (l1.length : Int), true) else
  (if (g1 (ofV l0 l2 D f s) (loopsOf s.r 5)).2.2 = true then sameV l0 l2 D f (g1 (ofV l0 l2 D f s) (loopsOf s.r 5)).2.1 5 (repV l0 l2 D s (g1 (ofV l0 l2 D f s) (loopsOf s.r 5)).1).1 [(g1 (ofV l0 l2 D f s) (loopsOf s.r 5)).1] else [],
   (g1 (ofV l0 l2 D f s) (loopsOf s.r 5)).2.1, (g1 (ofV l0 l2 D f s) (loopsOf s.r 5)).2.2)
def searchV (l0 : List S39) (l1 : List S37) (l2 : List (List Int)) (D : List Int) : Nat → Sp → Way
 | 0, _ => ([], (l1.length : Int), true)
 | k + 1, s => stepV l0 l1 l2 D (searchV l0 l1 l2 D k) s
def cntB (r : Int) : Nat := (loopsOf r 5).length
theorem bits_all : (List.range 32).all (fun r => (List.range 5).all (fun i => !(bitB r i) ||
  (decide (0 ≤ bits .andNot .i64 (r : Int) (wrap64 (2 ^ i))) && decide (bits .andNot .i64 (r : Int) (wrap64 (2 ^ i)) < 32) &&
   decide (loopsOf (bits .andNot .i64 (r : Int) (wrap64 (2 ^ i))) 5 = (loopsOf (r : Int) 5).filter (fun j => j != (i : Int)))))) = true := by kernel_rfl
theorem mem_loopsOf (f : Int) (n : Nat) (x : Int) : x ∈ loopsOf f n ↔ ∃ k : Nat, x = k ∧ k < n ∧ bitB f k = true := by
 induction n with
 | zero => simp [loopsOf]
 | succ n ih =>
  unfold loopsOf
  split
  ·
   rename_i h
   simp only [List.mem_append, ih, List.mem_singleton]
   constructor
   ·
    rintro (⟨k, rfl, hk, hb⟩ | rfl)
    ·
     exact ⟨k, rfl, by omega, hb⟩
    ·
     exact ⟨n, rfl, by omega, h⟩
   ·
    rintro ⟨k, rfl, hk, hb⟩
    rcases Nat.lt_or_ge k n with h1 | h1
    ·
     exact .inl ⟨k, rfl, h1, hb⟩
    ·
     exact .inr (by congr 1; omega)
  ·
   rename_i h
   rw [ih]
   constructor
   ·
    rintro ⟨k, rfl, hk, hb⟩
    exact ⟨k, rfl, by omega, hb⟩
   ·
    rintro ⟨k, rfl, hk, hb⟩
    refine ⟨k, rfl, ?_, hb⟩
    rcases Nat.lt_or_ge k n with h1 | h1
    ·
     exact h1
    ·
     obtain rfl : k = n := by omega
     exact absurd hb h
theorem nodup_loopsOf (f : Int) (n : Nat) : (loopsOf f n).Nodup := by
 induction n with
 | zero => simp [loopsOf]
 | succ n ih =>
  unfold loopsOf
  split
  ·
   rw [List.nodup_append]
   refine ⟨ih, by simp, ?_⟩
   intro a ha b hb
   simp only [List.mem_singleton] at hb
   obtain ⟨k, rfl, hk, _⟩ := (mem_loopsOf f n a).1 ha
   subst hb
   intro e
   have : (k : Int) = n := e
   omega
  ·
   exact ih
theorem rest_of (r : Int) (h0 : 0 ≤ r) (h1 : r < 32) (i : Int) (hi : i ∈ loopsOf r 5) :
  0 ≤ bits .andNot .i64 r (wrap64 (2 ^ i.toNat)) ∧ bits .andNot .i64 r (wrap64 (2 ^ i.toNat)) < 32 ∧
   loopsOf (bits .andNot .i64 r (wrap64 (2 ^ i.toNat))) 5 = (loopsOf r 5).filter (fun j => j != i) := by
 obtain ⟨k, rfl, hk, hb⟩ := (mem_loopsOf r 5 i).1 hi
 obtain ⟨n, rfl⟩ := Int.eq_ofNat_of_zero_le h0
 have h := bits_all
 rw [List.all_eq_true] at h
 have h2 := h n (by simp; omega)
 rw [List.all_eq_true] at h2
 have h3 := h2 k (by simp; omega)
 rw [hb] at h3
 simp only [Bool.not_true, Bool.false_or, Bool.and_eq_true, decide_eq_true_eq] at h3
 rw [Int.toNat_natCast]
 exact ⟨h3.1.1, h3.1.2, h3.2⟩
theorem cnt_next (r : Int) (h0 : 0 ≤ r) (h1 : r < 32) (i : Int) (hi : i ∈ loopsOf r 5) : cntB (bits .andNot .i64 r (wrap64 (2 ^ i.toNat))) + 1 = cntB r := by
 unfold cntB
 rw [(rest_of r h0 h1 i hi).2.2]
 have := (nodup_loopsOf r 5).erase_eq_filter i
 rw [← this, List.length_erase_of_mem hi]
 have := List.length_pos_of_mem hi
 omega
theorem bits_zero : (List.range 32).all (fun r => decide ((r : Int) = 0) == decide (loopsOf (r : Int) 5 = [])) = true := by kernel_rfl
theorem cnt_zero (r : Int) (h0 : 0 ≤ r) (h1 : r < 32) : cntB r = 0 ↔ r = 0 := by
 obtain ⟨n, rfl⟩ := Int.eq_ofNat_of_zero_le h0
 have h := bits_zero
 rw [List.all_eq_true] at h
 have h2 := h n (by simp; omega)
 rw [beq_iff_eq] at h2
 unfold cntB
 rw [List.length_eq_zero_iff]
 exact (decide_eq_decide.1 h2).symm
theorem cnt_le (r : Int) : cntB r ≤ 5 := by
 unfold cntB
 have : ∀ n, (loopsOf r n).length ≤ n := by
  intro n
  induction n with
  | zero => simp [loopsOf]
  | succ n ih =>
   unfold loopsOf
   split
   ·
    simp
    omega
   ·
    omega
 exact this 5
def OkS (s : Sp) : Prop := 0 ≤ s.r ∧ s.r < 32
section
variable (l0 : List S39) (l1 : List S37) (l2 : List (List Int)) (D : List Int)
theorem rep_next (s : Sp) (i : Int) (h : (repV l0 l2 D s i).2.2 = true) : (repV l0 l2 D s i).1 = nextV l0 l2 s i := by
 unfold repV at h ⊢
 split
 ·
  rename_i hc
  rw [if_pos hc] at h
  cases h
 ·
  rfl
theorem next_ok (s : Sp) (hs : OkS s) (i : Int) (hi : i ∈ loopsOf s.r 5) (h : (repV l0 l2 D s i).2.2 = true) : OkS (repV l0 l2 D s i).1 ∧ cntB (repV l0 l2 D s i).1.r + 1 = cntB s.r := by
 rw [rep_next l0 l2 D s i h]
 have h1 := rest_of s.r hs.1 hs.2 i hi
 exact ⟨⟨h1.1, h1.2.1⟩, cnt_next s.r hs.1 hs.2 i hi⟩
theorem g1_congr (of of' : Int → Int × Bool) (l : List Int) (h : ∀ x ∈ l, of x = of' x) : g1 of l = g1 of' l := by
 unfold g1
 generalize ((0, 0, false) : Int × Int × Bool) = a
 induction l generalizing a with
 | nil => rfl
 | cons x t ih =>
  simp only [List.foldl_cons]
  have : g1s of a x = g1s of' a x := by unfold g1s; rw [h x (by simp)]
  rw [this]
  exact ih (fun y hy => h y (by simp [hy])) _
theorem g1_mem (of : Int → Int × Bool) (l : List Int) (h : (g1 of l).2.2 = true) : (g1 of l).1 ∈ l ∧ of (g1 of l).1 = ((g1 of l).2.1, true) := by
 have key : ∀ (l : List Int) (a : Int × Int × Bool), (l.foldl (g1s of) a).2.2 = true → (l.foldl (g1s of) a = a) ∨ ((l.foldl (g1s of) a).1 ∈ l ∧ of (l.foldl (g1s of) a).1 = ((l.foldl (g1s of) a).2.1, true)) := by
  intro l
  induction l with
  | nil => intro a _; exact .inl rfl
  | cons x t ih =>
   intro a ha
   simp only [List.foldl_cons] at ha ⊢
   rcases ih _ ha with h1 | h1
   ·
    rw [h1]
    unfold g1s
    split
    ·
     rename_i hc
     exact .inr ⟨by simp, Prod.ext rfl hc.1⟩
    ·
     exact .inl rfl
   ·
    exact .inr ⟨by simp [h1.1], h1.2⟩
 rcases key l _ h with h1 | h1
 ·
  unfold g1 at h
  rw [h1] at h
  cases h
 ·
  exact h1
theorem sameV_congr (f g : Sp → Way) (slack : Int) (n : Nat) (hfg : ∀ s, OkS s → cntB s.r < n → f s = g s) : ∀ (k : Nat) (s : Sp) (out : List Int), OkS s → cntB s.r ≤ n → sameV l0 l2 D f slack k s out = sameV l0 l2 D g slack k s out := by
 intro k
 induction k with
 | zero => intro s out _ _; rfl
 | succ k ih =>
  intro s out hs hc
  unfold sameV
  split
  ·
   rfl
  ·
   have hgood : ∀ i ∈ loopsOf s.r 5, goodV l0 l2 D f slack s i = goodV l0 l2 D g slack s i := by
    intro i hi
    unfold goodV
    cases hr : (repV l0 l2 D s i).2.2 with
    | false => simp
    | true =>
     have hn := next_ok l0 l2 D s hs i hi hr
     rw [hfg _ hn.1 (by omega)]
   have hfind : (loopsOf s.r 5).find? (goodV l0 l2 D f slack s) = (loopsOf s.r 5).find? (goodV l0 l2 D g slack s) := by
    generalize loopsOf s.r 5 = l at hgood
    induction l with
    | nil => rfl
    | cons x t iht =>
     simp only [List.find?_cons]
     rw [hgood x (by simp), iht (fun i hi => hgood i (by simp [hi]))]
   rw [hfind]
   cases hf : (loopsOf s.r 5).find? (goodV l0 l2 D g slack s) with
   | none => rfl
   | some i =>
    have hi := List.mem_of_find?_eq_some hf
    have hp := List.find?_some hf
    have hr : (repV l0 l2 D s i).2.2 = true := by
     unfold goodV at hp
     simp only [Bool.and_eq_true] at hp
     exact hp.1.1.1
    have hn := next_ok l0 l2 D s hs i hi hr
    exact ih _ _ hn.1 (by omega)
theorem ofV_yes (f : Sp → Way) (s : Sp) (i n : Int) (h : ofV l0 l2 D f s i = (n, true)) : (repV l0 l2 D s i).2.2 = true ∧ min (repV l0 l2 D s i).2.1 (f (repV l0 l2 D s i).1).2.1 = n ∧ (f (repV l0 l2 D s i).1).2.2 = true := by
 unfold ofV at h
 split at h
 ·
  rename_i hr
  injection h with h1 h2
  exact ⟨hr, h1, h2⟩
 ·
  injection h with h1 h2
  cases h2
theorem stepV_congr (f g : Sp → Way) (s : Sp) (hs : OkS s) (hfg : ∀ s', OkS s' → cntB s'.r < cntB s.r → f s' = g s') : stepV l0 l1 l2 D f s = stepV l0 l1 l2 D g s := by
 unfold stepV
 split
 ·
  rfl
 ·
  have hof : g1 (ofV l0 l2 D f s) (loopsOf s.r 5) = g1 (ofV l0 l2 D g s) (loopsOf s.r 5) := by
   apply g1_congr
   intro i hi
   unfold ofV
   split
   ·
    rename_i hr
    have hn := next_ok l0 l2 D s hs i hi hr
    rw [hfg _ hn.1 (by omega)]
   ·
    rfl
  rw [hof]
  by_cases hfound : (g1 (ofV l0 l2 D g s) (loopsOf s.r 5)).2.2 = true
  ·
   rw [if_pos hfound, if_pos hfound]
   have hm := g1_mem _ _ hfound
   have hr := (ofV_yes l0 l2 D g s _ _ hm.2).1
   have hn := next_ok l0 l2 D s hs _ hm.1 hr
   rw [sameV_congr l0 l2 D f g _ (cntB s.r) hfg 5 _ _ hn.1 (by omega)]
  ·
   rw [if_neg hfound, if_neg hfound]
theorem searchV_stable : ∀ (n : Nat) (s : Sp), OkS s → cntB s.r ≤ n → ∀ k k', n ≤ k → n ≤ k' → searchV l0 l1 l2 D k s = searchV l0 l1 l2 D k' s := by
 intro n
 induction n with
 | zero =>
  intro s hs hc k k' _ _
  have hz : s.r = 0 := (cnt_zero s.r hs.1 hs.2).1 (by omega)
  have : ∀ k, searchV l0 l1 l2 D k s = ([], (l1.length : Int), true) := by
   intro k
   cases k with
   | zero => rfl
   | succ k => unfold searchV stepV; rw [if_pos hz]
  rw [this, this]
 | succ n ih =>
  intro s hs hc k k' hk hk'
  obtain ⟨a, rfl⟩ : ∃ a, k = a + 1 := ⟨k - 1, by omega⟩
  obtain ⟨b, rfl⟩ : ∃ b, k' = b + 1 := ⟨k' - 1, by omega⟩
  show stepV l0 l1 l2 D (searchV l0 l1 l2 D a) s = stepV l0 l1 l2 D (searchV l0 l1 l2 D b) s
  exact stepV_congr l0 l1 l2 D _ _ s hs (fun s' hs' hc' => ih s' hs' (by omega) a b (by omega) (by omega))
def bestV (s : Sp) : Way := searchV l0 l1 l2 D 5 s
theorem bestV_eq (s : Sp) (hs : OkS s) : bestV l0 l1 l2 D s = stepV l0 l1 l2 D (bestV l0 l1 l2 D) s := by
 have : bestV l0 l1 l2 D s = searchV l0 l1 l2 D 6 s := searchV_stable l0 l1 l2 D 5 s hs (cnt_le _) 5 6 (by omega) (by omega)
 rw [this]
 rfl
theorem good_some (s : Sp) (hs : OkS s) (h0 : s.r ≠ 0) (slack : Int) (hr : (bestV l0 l1 l2 D s).2.2 = true) (hsl : slack ≤ (bestV l0 l1 l2 D s).2.1) :
  ∃ i, (loopsOf s.r 5).find? (goodV l0 l2 D (bestV l0 l1 l2 D) slack s) = some i := by
 rw [bestV_eq l0 l1 l2 D s hs] at hr hsl
 unfold stepV at hr hsl
 rw [if_neg h0] at hr hsl
 dsimp only at hr hsl
 have hm := g1_mem _ _ hr
 have h2 := ofV_yes l0 l2 D _ s _ _ hm.2
 have hg : ((loopsOf s.r 5).find? (goodV l0 l2 D (bestV l0 l1 l2 D) slack s)).isSome = true := by
  rw [List.find?_isSome]
  refine ⟨_, hm.1, ?_⟩
  unfold goodV
  simp only [Bool.and_eq_true, decide_eq_true_eq]
  refine ⟨⟨⟨h2.1, ?_⟩, h2.2.2⟩, ?_⟩ <;> omega
 exact Option.isSome_iff_exists.1 hg
end
end Go.Proofs.Ytipphcjgdebecaa.PA
namespace Go.Proofs.Ytipphcjgdebecaa.PA
open Go.RowKit Go.Proofs.YtipphcjgdebecaaW.PrintWords Go.Proofs.YtipphcjgdebecaaW.PrintLast Go.Proofs.YtipphcjgdebecaaW.PrintMore
attribute [local go_sem] max2_int min2_int max_two min_two max_three min_three max_four min_four
set_option linter.unusedVariables false
set_option linter.unusedSimpArgs false
theorem eqA123 (d : Nat) (w : World) (a b : Sp) : (Op.equalIn (d + 2) 123 (spV a) (spV b)).run Try.prog w = .ok (a.p == b.p && (a.h == b.h && (a.r == b.r))) w := by
 refine eqA_of Try.underlying123 (by kernel_rfl) ?_
 refine eqf_cons (by rfl) (by go_simp; rfl) (by go_simp; rfl) (by go_simp) ?_
 refine eqf_cons (by rfl) (by go_simp; rfl) (by go_simp; rfl) (by go_simp) ?_
 exact eqf_last (by rfl) (by go_simp; rfl) (by go_simp; rfl) (by go_simp)
theorem eq123 (w : World) (a b : Sp) : (Op.equal 123 (spV a) (spV b)).run Try.prog w = .ok (decide (a = b)) w := by
 have h := eqA123 9998 w a b
 have e : (a.p == b.p && (a.h == b.h && (a.r == b.r))) = decide (a = b) := by
  rw [Bool.eq_iff_iff]
  simp only [Bool.and_eq_true, beq_iff_eq, decide_eq_true_eq]
  constructor
  ·
   rintro ⟨h1, h2, h3⟩
   cases a; cases b; simp_all
  ·
   rintro rfl
   exact ⟨rfl, rfl, rfl⟩
 rw [e] at h
 exact h
structure KeyKind (κ : Type) [DecidableEq κ] where
 t : TypeId
 enc : κ → Value
 inj : ∀ a b, enc a = enc b → a = b
 check : ∀ (w : World) (em : Bool) (a : κ), (Instr.checkKey em 10000 t (enc a)).run Try.prog w = .ok () w
 find : ∀ (w : World) (a : κ) (es : List MapEntry) (ks : List κ), es.map (·.key) = ks.map enc → (Instr.findKey t (enc a) es).run Try.prog w = .ok ((ks.findIdx? (· == a)).bind fun i => (es[i]?).map fun e => (i, e.val)) w
 stays : ∀ (w : World) (a : κ), (Instr.keyThatStays (enc a) (enc a)).run Try.prog w = .ok (enc a) w
theorem findAsking_run {κ : Type} [DecidableEq κ] (t : TypeId) (enc : κ → Value) (hEq : ∀ (w : World) (a b : κ), (Op.equal t (enc a) (enc b)).run Try.prog w = .ok (decide (a = b)) w) (w : World) (a : κ) :
  ∀ (es : List MapEntry) (ks : List κ) (j : Nat), es.map (·.key) = ks.map enc → (Instr.findAsking t (enc a) es j).run Try.prog w = .ok ((ks.findIdx? (· == a)).bind fun i => (es[i]?).map fun e => (i + j, e.val)) w := by
 intro es
 induction es with
 | nil =>
  intro ks j h
  cases ks with
  | nil => rfl
  | cons k t => cases h
 | cons e es ih =>
  intro ks j h
  cases ks with
  | nil => cases h
  | cons k ks =>
   simp only [List.map_cons, List.cons.injEq] at h
   unfold Instr.findAsking
   have hrun := hEq w a k
   rw [← h.1] at hrun
   simp only [Sem.run_bind, hrun, Result.andThen_ok]
   by_cases hk : a = k
   ·
    subst hk
    simp [List.findIdx?_cons]
   ·
    have hk' : (k == a) = false := by simp [Ne.symm hk]
    simp only [hk, decide_false, Bool.false_eq_true, if_false, ih ks (j + 1) h.2, List.findIdx?_cons, hk', cond_false]
    cases List.findIdx? (· == a) ks with
    | none => rfl
    | some i => simp [Nat.add_assoc, Nat.add_comm 1 j]
theorem check123 (w : World) (em : Bool) (p h r : Int) : (Instr.checkKey em 10000 123 (.agg #[.int .i64 p, .int .i64 h, .int .i64 r])).run Try.prog w = .ok () w := by kernel_rfl
def spotKey : KeyKind Sp where
 t := 123
 enc := spV
 inj a b h := by
  cases a; cases b
  simp only [spV, Value.agg.injEq, Array.mk.injEq, List.cons.injEq, Value.int.injEq, true_and, and_true] at h
  simp [h]
 check w em a := by
  obtain ⟨p, h, r⟩ := a
  exact check123 w em p h r
 find w a es ks h := by
  unfold Instr.findKey
  have hu := Try.underlying123
  have hF := findAsking_run 123 spV eq123 w a es ks 0 h
  cases es with
  | nil =>
   cases ks with
   | nil => simp [go_sem, hu, Instr.findNow]
   | cons k t => cases h
  | cons e es =>
   have : Instr.findNow (.struct #[{ name := "place", type := 3, offset := 0, embedded := false, tag := "", pkgPath := "talik/pipe", byteOffset := 0 }, { name := "hours", type := 3, offset := 1, embedded := false, tag := "", pkgPath := "talik/pipe", byteOffset := 8 }, { name := "rest", type := 3, offset := 2, embedded := false, tag := "", pkgPath := "talik/pipe", byteOffset := 16 }]) (spV a) (e :: es) 0 = none := rfl
   simp only [Sem.run_bind, run_underlying hu, Result.andThen_ok, this]
   exact hF
 stays w a := by
  have : Instr.sameBits 10000 (spV a) (spV a) = true := by simp [Instr.sameBits, spV]
  simp [Instr.keyThatStays, this]
def intKey : KeyKind Int where
 t := 3
 enc := .int .i64
 inj a b h := by injection h
 check w em a := by
  have h3 := Try.underlying3
  unfold Instr.checkKey
  simp [go_sem, h3]
 find w a es ks h := by
  unfold Instr.findKey
  have hu := Try.underlying3
  have key : ∀ (es : List MapEntry) (ks : List Int) (j : Nat), es.map (·.key) = ks.map (Value.int .i64) → Instr.findNow (.int .i64) (.int .i64 a) es j = some ((ks.findIdx? (· == a)).bind fun i => (es[i]?).map fun e => (i + j, e.val)) := by
   intro es
   induction es with
   | nil =>
    intro ks j h
    cases ks with
    | nil => rfl
    | cons k t => cases h
   | cons e es ih =>
    intro ks j h
    cases ks with
    | nil => cases h
    | cons k ks =>
     simp only [List.map_cons, List.cons.injEq] at h
     unfold Instr.findNow
     rw [h.1]
     by_cases hk : a = k
     ·
      subst hk
      simp [Instr.sameNow, List.findIdx?_cons]
     ·
      have hk' : (k == a) = false := by simp [Ne.symm hk]
      have hk2 : (a == k) = false := by simp [hk]
      simp only [Instr.sameNow, if_true, hk2, ih ks (j + 1) h.2, List.findIdx?_cons, hk', cond_false, Bool.false_eq_true, if_false]
      cases List.findIdx? (· == a) ks with
      | none => rfl
      | some i => simp [Nat.add_assoc, Nat.add_comm 1 j]
  simp only [Sem.run_bind, run_underlying hu, Result.andThen_ok, key es ks 0 h]
  rfl
 stays w a := by
  have : Instr.sameBits 10000 (.int .i64 a) (.int .i64 a) = true := by simp [Instr.sameBits]
  simp [Instr.keyThatStays, this]
def MapIs {κ : Type} [DecidableEq κ] (K : KeyKind κ) (W : World) (b : Nat) (I : κ → Value → Prop) (has : κ → Prop) : Prop :=
 ∃ (es : Array MapEntry) (clock : Nat) (ks : List κ), W.heap[b]? = some (.map es clock) ∧ es.toList.map (·.key) = ks.map K.enc ∧ ks.Nodup ∧ (∀ (i : Nat) (k : κ) (e : MapEntry), ks[i]? = some k → es.toList[i]? = some e → I k e.val) ∧ (∀ k, has k → k ∈ ks)
section
variable {κ : Type} [DecidableEq κ] {K : KeyKind κ} {W W' : World} {b : Nat} {I I' : κ → Value → Prop} {has has' : κ → Prop}
theorem MapIs.imp (h : MapIs K W b I has) (hI : ∀ k v, I k v → I' k v) (hh : ∀ k, has' k → has k) : MapIs K W b I' has' := by
 obtain ⟨es, clock, ks, h1, h2, h3, h4, h5⟩ := h
 exact ⟨es, clock, ks, h1, h2, h3, fun i k e a c => hI _ _ (h4 i k e a c), fun k hk => h5 k (hh k hk)⟩
theorem MapIs.at (h : MapIs K W b I has) (hb : W'.heap[b]? = W.heap[b]?) : MapIs K W' b I has := by
 obtain ⟨es, clock, ks, h1, h2⟩ := h
 exact ⟨es, clock, ks, hb.trans h1, h2⟩
theorem MapIs.lt (h : MapIs K W b I has) : b < W.heap.size := by
 obtain ⟨es, clock, ks, h1, h2⟩ := h
 exact blk_lt h1
theorem MapIs.noCells (h : MapIs K W b I has) {cs : Array Value} {t : TypeId} {g : Nat} (hg : W.heap[g]? = some (.cells cs t (0, 0))) : g ≠ b := by
 obtain ⟨es, clock, ks, h1, h2⟩ := h
 rintro rfl
 rw [hg] at h1
 cases h1
set_option maxRecDepth 100000 in
theorem MapIs.look (h : MapIs K W b I has) {t el : TypeId} (ht : Try.prog.underlying t = some (.map K.t el)) {z : Value} (hz : (zeroValue el).run Try.prog W = .ok z W) (a : κ) :
  (∃ v, I a v ∧ (Instr.lookup t (.map (some b)) (K.enc a) true).run Try.prog W = .ok (.tuple #[v, .bool true]) W ∧ (Instr.lookup t (.map (some b)) (K.enc a) false).run Try.prog W = .ok v W) ∨
  (¬ has a ∧ (Instr.lookup t (.map (some b)) (K.enc a) true).run Try.prog W = .ok (.tuple #[z, .bool false]) W ∧ (Instr.lookup t (.map (some b)) (K.enc a) false).run Try.prog W = .ok z W) := by
 obtain ⟨es, clock, ks, h1, h2, h3, h4, h5⟩ := h
 have hf := K.find W a es.toList ks h2
 have hlen : es.size = ks.length := by have := congrArg List.length h2; simpa using this
 have hg := MapKept.run_getObj_map (P := Try.prog) h1
 cases hx : ks.findIdx? (· == a) with
 | none =>
  rw [hx, Option.bind_none] at hf
  right
  refine ⟨fun hh => ?_, ?_, ?_⟩
  ·
   rw [List.findIdx?_eq_none_iff] at hx
   have := hx a (h5 a hh)
   simp at this
  ·
   simp [Instr.lookup, run_underlying ht, hg, K.check, hf, hz]
  ·
   simp [Instr.lookup, run_underlying ht, hg, K.check, hf, hz]
 | some i =>
  rw [List.findIdx?_eq_some_iff_getElem] at hx
  obtain ⟨hi, hk, _⟩ := hx
  have hk' : ks[i] = a := by simpa using hk
  have hi' : i < es.toList.length := by simpa [hlen] using hi
  left
  refine ⟨es.toList[i].val, ?_, ?_, ?_⟩
  ·
   exact h4 i a _ (by rw [List.getElem?_eq_getElem hi, hk']) (List.getElem?_eq_getElem hi')
  ·
   have hx2 : ks.findIdx? (· == a) = some i := by
    rw [List.findIdx?_eq_some_iff_getElem]
    refine ⟨hi, hk, fun j hj => ?_⟩
    have := (List.nodup_iff_pairwise_ne.1 h3)
    rw [List.pairwise_iff_getElem] at this
    have hne := this j i (by omega) hi hj
    rw [hk'] at hne
    simpa using hne
   rw [hx2, Option.bind_some, List.getElem?_eq_getElem hi', Option.map_some] at hf
   simp [Instr.lookup, run_underlying ht, hg, K.check, hf]
  ·
   have hx2 : ks.findIdx? (· == a) = some i := by
    rw [List.findIdx?_eq_some_iff_getElem]
    refine ⟨hi, hk, fun j hj => ?_⟩
    have := (List.nodup_iff_pairwise_ne.1 h3)
    rw [List.pairwise_iff_getElem] at this
    have hne := this j i (by omega) hi hj
    rw [hk'] at hne
    simpa using hne
   rw [hx2, Option.bind_some, List.getElem?_eq_getElem hi', Option.map_some] at hf
   simp [Instr.lookup, run_underlying ht, hg, K.check, hf]
set_option maxRecDepth 100000 in
theorem MapIs.looks (h : MapIs K W b I has) {t el : TypeId} (ht : Try.prog.underlying t = some (.map K.t el)) {z : Value} (hz : ∀ W', (zeroValue el).run Try.prog W' = .ok z W') (a : κ) :
  (∃ v, I a v ∧ ∀ W' : World, W'.heap[b]? = W.heap[b]? → (Instr.lookup t (.map (some b)) (K.enc a) true).run Try.prog W' = .ok (.tuple #[v, .bool true]) W') ∨
  (∀ W' : World, W'.heap[b]? = W.heap[b]? → (Instr.lookup t (.map (some b)) (K.enc a) true).run Try.prog W' = .ok (.tuple #[z, .bool false]) W') := by
 obtain ⟨es, clock, ks, h1, h2, h3, h4, h5⟩ := h
 have hf := fun W' => K.find W' a es.toList ks h2
 have hlen : es.size = ks.length := by have := congrArg List.length h2; simpa using this
 have hg := fun (W' : World) (e : W'.heap[b]? = W.heap[b]?) => MapKept.run_getObj_map (P := Try.prog) (e.trans h1)
 cases hx : ks.findIdx? (· == a) with
 | none =>
  rw [hx] at hf
  right
  intro W' e
  have hf' := hf W'
  rw [Option.bind_none] at hf'
  simp [Instr.lookup, run_underlying ht, hg W' e, K.check, hf', hz]
 | some i =>
  have hx2 := hx
  rw [List.findIdx?_eq_some_iff_getElem] at hx
  obtain ⟨hi, hk, _⟩ := hx
  have hk' : ks[i] = a := by simpa using hk
  have hi' : i < es.toList.length := by simpa [hlen] using hi
  left
  refine ⟨es.toList[i].val, h4 i a _ (by rw [List.getElem?_eq_getElem hi, hk']) (List.getElem?_eq_getElem hi'), fun W' e => ?_⟩
  have hf' := hf W'
  rw [hx2, Option.bind_some, List.getElem?_eq_getElem hi', Option.map_some] at hf'
  simp [Instr.lookup, run_underlying ht, hg W' e, K.check, hf']
set_option maxRecDepth 100000 in
theorem MapIs.update (h : MapIs K W b I has) {t el : TypeId} (ht : Try.prog.underlying t = some (.map K.t el)) (a : κ) (v : Value) :
  ∃ W', (Instr.mapUpdate t (.map (some b)) (K.enc a) v).run Try.prog W = .ok () W' ∧ W.grownBy W' (some b) ∧ MapIs K W' b (fun k u => (k = a ∧ u = v) ∨ (k ≠ a ∧ I k u)) (fun k => k = a ∨ has k) := by
 obtain ⟨es, clock, ks, h1, h2, h3, h4, h5⟩ := h
 have hf := K.find W a es.toList ks h2
 have hlen : es.size = ks.length := by have := congrArg List.length h2; simpa using this
 have hg := MapKept.run_getObj_map (P := Try.prog) h1
 have hgrow : ∀ o, W.grownBy (ChangeMaps.setBlock W b o) (some b) := fun o => ⟨rfl, rfl, rfl, by simp [ChangeMaps.setBlock], fun i _ hi => ChangeMaps.heap_setBlock_other h1 _ (fun e => hi (by rw [e]))⟩
 cases hx : ks.findIdx? (· == a) with
 | none =>
  rw [hx, Option.bind_none] at hf
  have hna : a ∉ ks := by
   intro ha
   rw [List.findIdx?_eq_none_iff] at hx
   have := hx a ha
   simp at this
  refine ⟨ChangeMaps.setBlock W b (.map (es.push { key := K.enc a, val := v, born := clock }) (clock + 1)), ?_, hgrow _, es.push { key := K.enc a, val := v, born := clock }, clock + 1, ks ++ [a], ChangeMaps.heap_setBlock_same h1 _, by simp [h2], ?_, ?_, ?_⟩
  ·
   simp [Instr.mapUpdate, run_underlying ht, hg, K.check, hf, MapKept.run_setObj_map _ h1, ChangeMaps.setBlock]
  ·
   rw [List.nodup_append]
   exact ⟨h3, by simp, fun x hxm y hy => by simp at hy; subst hy; intro e; exact hna (e ▸ hxm)⟩
  ·
   intro i k e hk he
   rcases Nat.lt_or_ge i ks.length with hi | hi
   ·
    rw [List.getElem?_append_left hi] at hk
    rw [Array.toList_push, List.getElem?_append_left (by simpa [hlen] using hi)] at he
    exact .inr ⟨fun e => hna (e ▸ List.mem_of_getElem? hk), h4 i k e hk he⟩
   ·
    rw [List.getElem?_append_right hi] at hk
    rw [Array.toList_push, List.getElem?_append_right (by simpa [hlen] using hi)] at he
    simp only [Array.length_toList, hlen] at he
    cases hd : i - ks.length with
    | zero =>
     rw [hd] at hk he
     simp at hk he
     exact .inl ⟨hk.symm, by rw [← he]⟩
    | succ n =>
     rw [hd] at hk
     simp at hk
  ·
   rintro k (rfl | hk)
   ·
    simp
   ·
    exact List.mem_append_left _ (h5 k hk)
 | some i =>
  have hx2 := hx
  rw [List.findIdx?_eq_some_iff_getElem] at hx
  obtain ⟨hi, hk, _⟩ := hx
  have hk' : ks[i] = a := by simpa using hk
  have hi' : i < es.toList.length := by simpa [hlen] using hi
  have hi2 : i < es.size := by simpa using hi'
  rw [hx2, Option.bind_some, List.getElem?_eq_getElem hi', Option.map_some] at hf
  have hkey : (es[i]?.map (·.key)).getD (K.enc a) = K.enc a := by
   have e1 : (es.toList.map (·.key))[i]? = (ks.map K.enc)[i]? := by rw [h2]
   rw [List.getElem?_map, List.getElem?_map, List.getElem?_eq_getElem hi, hk'] at e1
   rw [← Array.getElem?_toList, e1]
   rfl
  refine ⟨ChangeMaps.setBlock W b (.map (es.modify i fun e => { e with key := K.enc a, val := v }) clock), ?_, hgrow _, es.modify i fun e => { e with key := K.enc a, val := v }, clock, ks, ChangeMaps.heap_setBlock_same h1 _, ?_, h3, ?_, ?_⟩
  ·
   simp [Instr.mapUpdate, run_underlying ht, hg, K.check, hf, MapKept.run_setObj_map _ h1, ChangeMaps.setBlock, hkey, K.stays]
  ·
   rw [Array.toList_modify, ← h2]
   apply List.ext_getElem?
   intro j
   rw [List.getElem?_map, List.getElem?_map, List.getElem?_modify]
   split
   ·
    rename_i hj
    subst hj
    rw [List.getElem?_eq_getElem hi']
    have e1 : (es.toList.map (·.key))[i]? = (ks.map K.enc)[i]? := by rw [h2]
    rw [List.getElem?_map, List.getElem?_map, List.getElem?_eq_getElem hi, hk', List.getElem?_eq_getElem hi'] at e1
    simp only [Option.map_some, Option.some.injEq] at e1
    simpa using e1.symm
   ·
    simp
  ·
   intro j k e hkj he
   rw [Array.toList_modify, List.getElem?_modify] at he
   split at he
   ·
    rename_i hj
    subst hj
    rw [List.getElem?_eq_getElem hi] at hkj
    rw [List.getElem?_eq_getElem hi'] at he
    simp only [Option.map_eq_map, Option.map_some, Option.some.injEq] at he hkj
    exact .inl ⟨by rw [← hkj, hk'], by rw [← he]⟩
   ·
    rename_i hj
    have he2 : es.toList[j]? = some e := by simpa using he
    refine .inr ⟨fun e1 => hj ?_, h4 j k e hkj he2⟩
    subst e1
    have hjl : j < ks.length := (List.getElem?_eq_some_iff.1 hkj).1
    have e2 : ks[j] = ks[i] := by rw [hk']; rw [List.getElem?_eq_getElem hjl] at hkj; injection hkj
    have hp := List.nodup_iff_pairwise_ne.1 h3
    rw [List.pairwise_iff_getElem] at hp
    rcases Nat.lt_trichotomy i j with h | h | h
    ·
     exact absurd e2.symm (hp i j hi hjl h)
    ·
     exact h
    ·
     exact absurd e2 (hp j i hjl hi h)
  ·
   rintro k (rfl | hk)
   ·
    rw [← hk']; exact List.getElem_mem _
   ·
    exact h5 k hk
end
end Go.Proofs.Ytipphcjgdebecaa.PA
namespace Go.Proofs.Ytipphcjgdebecaa.PA
open Go.RowKit Go.Proofs.YtipphcjgdebecaaW.PrintWords Go.Proofs.YtipphcjgdebecaaW.PrintLast Go.Proofs.YtipphcjgdebecaaW.PrintMore
attribute [local go_sem] max2_int min2_int max_two min_two max_three min_three max_four min_four
set_option linter.unusedVariables false
set_option linter.unusedSimpArgs false
structure OE where
 w0 : World
 A0 : Option Addr
 c0 : Nat
 l0 : List S39
 A1 : Option Addr
 c1 : Nat
 l1 : List S37
 A2 : Option Addr
 c2 : Nat
 l2 : List (List Int)
 wp : Int
 Bn : Nat
 Bk : Nat
 Bd : Nat
 Bs : Nat
 m : Nat
 Ad : Option Addr
 cd : Nat
 D : List Int
def OE.S (E : OE) (s : Sp) : Way := bestV E.l0 E.l1 E.l2 E.D s
structure OE.Fit (E : OE) : Prop where
 r0 : Kd.C k39 E.w0 E.A0 E.l0.length E.l0
 r1 : Kd.C k37 E.w0 E.A1 E.l1.length E.l1
 r2 : Kd.C (Kd.slice 3 (Kd.int .i64)) E.w0 E.A2 E.l2.length E.l2
 h5 : E.l0.length ≤ 5
 hD : E.D.length = E.l0.length
 h2 : E.l2.length = E.l0.length + 1
 hrow : ∀ p : Int, 0 ≤ p → p ≤ E.l0.length → (rd_L1 E.l2 p).length = E.l0.length + 1
 bn : E.w0.heap.size ≤ E.Bn
 bk : E.w0.heap.size ≤ E.Bk
 bd : E.w0.heap.size ≤ E.Bd
 bs : E.w0.heap.size ≤ E.Bs
 bm : E.w0.heap.size ≤ E.m
abbrev NETC (E : OE) : Array Value := #[.slice E.A0 E.l0.length E.c0, .slice E.A1 E.l1.length E.c1, .slice E.A2 E.l2.length E.c2, .int .i64 E.wp]
abbrev SEARCHF (E : OE) : Value := .func (.func 90) #[] #[.pointer (some ⟨E.Bn, 0, none⟩), .pointer (some ⟨E.Bk, 0, none⟩), .pointer (some ⟨E.Bd, 0, none⟩), .pointer (some ⟨E.Bs, 0, none⟩)]
abbrev OE.Row (E : OE) (A : Nat → Prop) (W : World) (v : Value) (l : List Int) : Prop := Kd.R (Kd.int .i64) 3 W E.w0.heap.size (fun k => k ≠ E.m ∧ ¬ A k) v l
structure EnvInv (E : OE) (A : Nat → Prop) (W : World) : Prop where
 an : ¬ A E.Bn
 ak : ¬ A E.Bk
 ad : ¬ A E.Bd
 as_ : ¬ A E.Bs
 am : ¬ A E.m
 lo : ∀ k, A k → E.w0.heap.size ≤ k
 xn : W.heap[E.Bn]? = some (.cells (NETC E) 99 (0, 0))
 xk : W.heap[E.Bk]? = some (.cells #[.map (some E.m)] 120 (0, 0))
 xd : W.heap[E.Bd]? = some (.cells #[.slice E.Ad E.D.length E.cd] 47 (0, 0))
 xs : W.heap[E.Bs]? = some (.cells #[SEARCHF E] 121 (0, 0))
 hb : Below E.w0.heap.size E.w0 W
 due : E.Row A W (.slice E.Ad E.D.length E.cd) E.D
 map : MapIs spotKey W E.m (fun s u => OkS s ∧ ∃ v, u = .agg #[v, .int .i64 (E.S s).2.1, .bool (E.S s).2.2] ∧ E.Row A W v (E.S s).1) (fun _ => False)
section
variable {E : OE} {A A' : Nat → Prop} {W W' : World}
theorem EnvInv.imp (h : EnvInv E A W) (hA : ∀ k, A' k → E.w0.heap.size ≤ k ∧ (A k ∨ W.heap.size ≤ k)) : EnvInv E A' W := by
 have hn : ∀ {g o}, W.heap[g]? = some o → ¬ A g → ¬ A' g := fun hg hn hk => by
  rcases (hA _ hk).2 with h1 | h1
  ·
   exact hn h1
  ·
   have := blk_lt hg
   omega
 have hR : ∀ v l, E.Row A W v l → E.Row A' W v l := fun v l hr => Kd.R_mono (Kd.R_bound hr) (fun k hk => ⟨hk.1.1, fun ha => by
  rcases (hA _ ha).2 with h1 | h1
  ·
   exact hk.1.2 h1
  ·
   have := hk.2.2.1
   omega⟩)
 refine ⟨hn h.xn h.an, hn h.xk h.ak, hn h.xd h.ad, hn h.xs h.as_, ?_, fun k hk => (hA k hk).1, h.xn, h.xk, h.xd, h.xs, h.hb, hR _ _ h.due, h.map.imp (fun s u hu => ⟨hu.1, hu.2.imp fun v hv => ⟨hv.1, hR _ _ hv.2⟩⟩) (fun _ hk => hk)⟩
 intro hk
 rcases (hA _ hk).2 with h1 | h1
 ·
  exact h.am h1
 ·
  have := h.map.lt
  omega
theorem EnvInv.step (h : EnvInv E A W) (hk : KB A W W') : EnvInv E A W' := by
 have hR : ∀ v l, E.Row A W v l → E.Row A W' v l := fun v l hr => hk.R hr (fun k hk => hk.2)
 exact ⟨h.an, h.ak, h.ad, h.as_, h.am, h.lo, hk.blk h.xn h.an, hk.blk h.xk h.ak, hk.blk h.xd h.ad, hk.blk h.xs h.as_,
  ⟨hk.os.trans h.hb.os, hk.tape.trans h.hb.tape, hk.output.trans h.hb.output, Nat.le_trans h.hb.size hk.size, fun k hlt => (hk.block k (Nat.lt_of_lt_of_le hlt h.hb.size) (fun ha => by have := h.lo k ha; omega)).trans (h.hb.block k hlt)⟩,
  hR _ _ h.due, (h.map.at (hk.block _ h.map.lt h.am)).imp (fun s u hu => ⟨hu.1, hu.2.imp fun v hv => ⟨hv.1, hR _ _ hv.2⟩⟩) (fun _ hk => hk)⟩
theorem EnvInv.own' {row : Option Nat} (h : EnvInv E A W) (hg : W.grownBy W' row) (hr : ∀ r, row = some r → E.w0.heap.size ≤ r ∧ r ≠ E.m ∧ ∃ o : Obj, W.heap[r]? = some o ∧ o.isCells = false) : EnvInv E A W' := by
 have hR : ∀ v l, E.Row A W v l → E.Row A W' v l := fun v l hv => by
  refine Kd.R_mono (Kd.R_step (Kd.R_bound hv) (fun k hk hlt => hg.block k hlt (fun e => ?_))) (fun k hk => hk.1)
  obtain ⟨q, _, cells, hc⟩ := hk.2.2.2
  obtain ⟨_, _, o, ho, hn⟩ := hr k e.symm
  rw [hc] at ho
  injection ho with ho
  subst ho
  cases hn
 have hr' : ∀ r, row = some r → E.w0.heap.size ≤ r ∧ ∃ o : Obj, W.heap[r]? = some o ∧ o.isCells = false := fun r e => ⟨(hr r e).1, (hr r e).2.2⟩
 refine ⟨h.an, h.ak, h.ad, h.as_, h.am, h.lo, blk_own h.xn hg hr', blk_own h.xk hg hr', blk_own h.xd hg hr', blk_own h.xs hg hr',
  ⟨hg.os.trans h.hb.os, hg.tape.trans h.hb.tape, hg.output.trans h.hb.output, Nat.le_trans h.hb.size hg.size, fun k hlt => (hg.block k (Nat.lt_of_lt_of_le hlt h.hb.size) (fun e => by have := (hr k e.symm).1; omega)).trans (h.hb.block k hlt)⟩,
  hR _ _ h.due, (h.map.at (hg.block _ h.map.lt (fun e => (hr _ e.symm).2.1 rfl))).imp (fun s u hu => ⟨hu.1, hu.2.imp fun v hv => ⟨hv.1, hR _ _ hv.2⟩⟩) (fun _ hk => hk)⟩
theorem EnvInv.own {B : Nat} (hB : E.w0.heap.size ≤ B) (hm : E.m < B) {row : Option Nat} (h : EnvInv E A W) (hg : W.grownBy W' row) (hr : ∀ r, row = some r → B ≤ r ∧ ∃ o : Obj, W.heap[r]? = some o ∧ o.isCells = false) : EnvInv E A W' :=
 h.own' hg (fun r e => ⟨by have := (hr r e).1; omega, by have := (hr r e).1; omega, (hr r e).2⟩)
theorem EnvInv.put (h : EnvInv E A W) (hg : W.grownBy W' (some E.m)) {s : Sp} {u v : Value} (hs : OkS s) (hu : u = .agg #[v, .int .i64 (E.S s).2.1, .bool (E.S s).2.2]) (hv : E.Row A W v (E.S s).1) (bm : E.w0.heap.size ≤ E.m)
  (hm : MapIs spotKey W' E.m (fun k x => (k = s ∧ x = u) ∨ (k ≠ s ∧ OkS k ∧ ∃ v, x = .agg #[v, .int .i64 (E.S k).2.1, .bool (E.S k).2.2] ∧ E.Row A W v (E.S k).1)) (fun k => k = s ∨ False)) : EnvInv E A W' := by
 have hR : ∀ v l, E.Row A W v l → E.Row A W' v l := fun v l hr => Kd.R_grown hr hg (fun k hk e => hk.1 (by injection e))
 refine ⟨h.an, h.ak, h.ad, h.as_, h.am, h.lo, blk_grown h.xn hg (fun e => h.map.noCells h.xn (by injection e)), blk_grown h.xk hg (fun e => h.map.noCells h.xk (by injection e)), blk_grown h.xd hg (fun e => h.map.noCells h.xd (by injection e)), blk_grown h.xs hg (fun e => h.map.noCells h.xs (by injection e)),
  ⟨hg.os.trans h.hb.os, hg.tape.trans h.hb.tape, hg.output.trans h.hb.output, Nat.le_trans h.hb.size hg.size, fun k hlt => (hg.block k (Nat.lt_of_lt_of_le hlt h.hb.size) (fun e => by injection e with e; omega)).trans (h.hb.block k hlt)⟩,
  hR _ _ h.due, hm.imp (fun k x hx => ?_) (fun _ hk => hk.elim)⟩
 rcases hx with ⟨rfl, rfl⟩ | ⟨_, hk, w, hw, hr⟩
 ·
  exact ⟨hs, v, hu, hR _ _ hv⟩
 ·
  exact ⟨hk, w, hw, hR _ _ hr⟩
end
def OE.At (E : OE) (s : Sp) : Prop := OkS s ∧ 0 ≤ s.p ∧ s.p ≤ E.l0.length ∧ ∀ i ∈ loopsOf s.r 5, i < E.l0.length
theorem OE.At.next {E : OE} {s : Sp} (h : E.At s) {i : Int} (hi : i ∈ loopsOf s.r 5) (hr : (repV E.l0 E.l2 E.D s i).2.2 = true) : E.At (repV E.l0 E.l2 E.D s i).1 ∧ cntB (repV E.l0 E.l2 E.D s i).1.r + 1 = cntB s.r := by
 have h1 := next_ok E.l0 E.l2 E.D s h.1 i hi hr
 refine ⟨⟨h1.1, ?_⟩, h1.2⟩
 rw [rep_next E.l0 E.l2 E.D s i hr]
 obtain ⟨k, rfl, hk, _⟩ := (mem_loopsOf s.r 5 i).1 hi
 have h2 := h.2.2.2 _ hi
 refine ⟨by show (0 : Int) ≤ k + 1; omega, by show (k : Int) + 1 ≤ _; omega, ?_⟩
 intro j hj
 have h3 := (rest_of s.r h.1.1 h.1.2 k hi).2.2
 have hj' : j ∈ loopsOf s.r 5 := by
  have : j ∈ loopsOf (bits .andNot .i64 s.r (wrap64 (2 ^ (k : Int).toNat))) 5 := hj
  rw [h3] at this
  exact (List.mem_filter.1 this).1
 exact h.2.2.2 j hj'
def SearchC (E : OE) (s : Sp) : Prop := ∀ A W, EnvInv E A W → (∀ k, A k → k < W.heap.size) →
 Calls Try.prog 90 #[spV s, .pointer (some ⟨E.Bn, 0, none⟩), .pointer (some ⟨E.Bk, 0, none⟩), .pointer (some ⟨E.Bd, 0, none⟩), .pointer (some ⟨E.Bs, 0, none⟩)] W fun e W' =>
  ∃ v, e = .returned (.agg #[v, .int .i64 (E.S s).2.1, .bool (E.S s).2.2]) ∧ E.Row A W' v (E.S s).1 ∧ EnvInv E A W' ∧ KB (fun k => k = E.m) W W'
theorem loops_calls (f : Int) (w : World) : Calls Try.prog 76 #[.int .i64 f] w fun e w' => ∃ B, e = .returned (.func (.func 97) #[] #[.pointer (some ⟨B, 0, none⟩)]) ∧ w'.heap[B]? = some (.cells #[.int .i64 f] 3 (0, 0)) ∧ w.heap.size ≤ B ∧ Below w.heap.size w w' := by
 have hmf : ∀ (fn : Fn) (first cap : Array Value) (w : World), (Instr.makeFunc fn first cap).run Try.prog w = .ok (.func fn first cap) w := fun _ _ _ _ => rfl
 have HB := Aside0.mk (Below.refl w.heap.size w)
 go_enter Try.func76, Try.ntmps76
 go_wp2_with ((with_reducible refine gate_dst (N := 1) rfl ?_); refine box_event ?hg (N := 1) ?hd (cs := #[.int .i64 f]) (t := 3) ?hr ?_; (case hd => rfl); (case hg => rfl); (case hr => first | (go_simp; done) | (go_simp; rfl)); intro gb hg_gb w2 hbox hb; have BKgb := Aside0.mk hbox; have n_HB := Aside0.mk (below_step HB.out hb); have GEgb : w.heap.size ≤ gb := (by rw [hg_gb]; exact HB.out.size); clear HB; have HB := n_HB; clear n_HB; have hfgb := blk_frozen BKgb.out; have hcgb_0 : w2.cell? ⟨gb, 0, none⟩ = some (.int .i64 f) := (blk_cell BKgb.out 0).trans rfl; clear hbox hb hg_gb)
 go_ret
 exact ⟨gb, rfl, BKgb.out, GEgb, HB.out⟩
end Go.Proofs.Ytipphcjgdebecaa.PA
namespace Go.Proofs.Ytipphcjgdebecaa.PA
open Go.RowKit Go.Proofs.YtipphcjgdebecaaW.PrintWords Go.Proofs.YtipphcjgdebecaaW.PrintLast Go.Proofs.YtipphcjgdebecaaW.PrintMore
attribute [local go_sem] max2_int min2_int max_two min_two max_three min_three max_four min_four
set_option linter.unusedVariables false
set_option linter.unusedSimpArgs false
structure Inv91 (E : OE) (s : Sp) (gs gw mw : Nat) (A : Nat → Prop) (W : World) : Prop where
 env : EnvInv E A W
 as_ : ¬ A gs
 aw : ¬ A gw
 am : ¬ A mw
 xs : W.heap[gs]? = some (.cells #[.int .i64 s.p, .int .i64 s.h, .int .i64 s.r] 123 (0, 0))
 xw : W.heap[gw]? = some (.cells #[.map (some mw)] 125 (0, 0))
 map : MapIs intKey W mw (fun _ _ => True) (fun _ => False)
 ne : mw ≠ E.m
 lw : E.w0.heap.size ≤ mw
section
variable {E : OE} {s : Sp} {gs gw mw : Nat} {A A' : Nat → Prop} {W W' : World}
theorem Inv91.imp (h : Inv91 E s gs gw mw A W) (hA : ∀ k, A' k → E.w0.heap.size ≤ k ∧ (A k ∨ W.heap.size ≤ k)) : Inv91 E s gs gw mw A' W := by
 refine ⟨h.env.imp hA, fun hk => ?_, fun hk => ?_, fun hk => ?_, h.xs, h.xw, h.map, h.ne, h.lw⟩
 ·
  rcases (hA _ hk).2 with h1 | h1
  ·
   exact h.as_ h1
  ·
   have := blk_lt h.xs
   omega
 ·
  rcases (hA _ hk).2 with h1 | h1
  ·
   exact h.aw h1
  ·
   have := blk_lt h.xw
   omega
 ·
  rcases (hA _ hk).2 with h1 | h1
  ·
   exact h.am h1
  ·
   have := h.map.lt
   omega
theorem Inv91.step (h : Inv91 E s gs gw mw A W) (hk : KB A W W') : Inv91 E s gs gw mw A W' :=
 ⟨h.env.step hk, h.as_, h.aw, h.am, hk.blk h.xs h.as_, hk.blk h.xw h.aw, h.map.at (hk.block _ h.map.lt h.am), h.ne, h.lw⟩
theorem Inv91.after (h : Inv91 E s gs gw mw A W) (he : EnvInv E A W') (hk : KB (fun k => k = E.m) W W') : Inv91 E s gs gw mw A W' :=
 ⟨he, h.as_, h.aw, h.am, hk.blk h.xs (fun e => h.env.map.noCells h.xs e), hk.blk h.xw (fun e => h.env.map.noCells h.xw e), h.map.at (hk.block _ h.map.lt h.ne), h.ne, h.lw⟩
theorem Inv91.held {B : Nat} (hB : E.w0.heap.size ≤ B) (hm : E.m < B) (hmw : mw < B) : Held B (Inv91 E s gs gw mw) where
 mono A A' W hA h := h.imp (fun k hk => ⟨h.env.lo k (hA k hk), .inl (hA k hk)⟩)
 fresh A W h := h.imp (fun k hk => ⟨hk.elim (h.env.lo k) (fun x => Nat.le_trans h.env.hb.size x), hk⟩)
 step A W W' h hk := h.step hk
 own A W W' row h hg hr := ⟨h.env.own hB hm hg hr, h.as_, h.aw, h.am, blk_own h.xs hg hr, blk_own h.xw hg hr, h.map.at (hg.block _ h.map.lt (fun e => by have := (hr _ e.symm).1; omega)), h.ne, h.lw⟩
end
section
variable {P : Program} {ops : Array Oper} {o : Oper} {a : Act} {Q : Exit → Act → World → Prop} {Kc : Act → World → Prop} {W w1 : World}
theorem step_mapUpdate (hw : Region.wanted o (yielded ops a.tmps) = true) (t : TypeId) (m k v : Operand) (ho : o.op = .mapUpdate t m k v) (M K V : Value) (hm : a.eval m = M) (hk : a.eval k = K) (hv : a.eval v = V)
  (hrun : (Instr.mapUpdate t M K V).run P W = .ok () w1) (h : Kc (a.put o.dst undef) w1) : if Region.wanted o (yielded ops a.tmps) = true then Oper.wp P o a W Kc Q else Kc (a.put o.dst undef) W := by
 rw [if_pos hw]
 unfold Oper.wp
 simp [execOp, ho, hm, hk, hv, hrun, Result.andThen]
 exact h
end
set_option maxRecDepth 100000 in
theorem Inv91.put {E : OE} {s : Sp} {gs gw mw : Nat} {A : Nat → Prop} {W : World} (h : Inv91 E s gs gw mw A W) (x : Int) (u : Value) :
  ∃ W', (Instr.mapUpdate 125 (.map (some mw)) (.int .i64 x) u).run Try.prog W = .ok () W' ∧ Inv91 E s gs gw mw A W' ∧ KB (fun k => k = mw) W W' ∧ MapIs intKey W' mw (fun k v => k = x → v = u) (fun k => k = x) := by
 obtain ⟨W', hrun, hg, hm⟩ := h.map.update Try.underlying125 x u
 have hr : ∀ r, some mw = some r → E.w0.heap.size ≤ r ∧ r ≠ E.m ∧ ∃ o : Obj, W.heap[r]? = some o ∧ o.isCells = false := fun r e => by
  injection e with e
  subst e
  obtain ⟨es, clock, ks, h1, _⟩ := h.map
  exact ⟨h.lw, h.ne, _, h1, rfl⟩
 refine ⟨W', hrun, ⟨h.env.own' hg hr, h.as_, h.aw, h.am, blk_own h.xs hg (fun r e => ⟨(hr r e).1, (hr r e).2.2⟩), blk_own h.xw hg (fun r e => ⟨(hr r e).1, (hr r e).2.2⟩), hm.imp (fun _ _ _ => trivial) (fun _ hk => hk.elim), h.ne, h.lw⟩, (KB.of_grown hg).mono (fun k e => by injection e with e; exact e.symm), hm.imp (fun k v hk e => ?_) (fun k e => .inl e)⟩
 rcases hk with ⟨_, e1⟩ | ⟨e1, _⟩
 ·
  exact e1
 ·
  exact absurd e e1
theorem field97_1 (a b c : Value) (W : World) : (Instr.field 97 (.agg #[a, b, c]) 1).run Try.prog W = .ok b W := by kernel_rfl
theorem field97_2 (a b c : Value) (W : World) : (Instr.field 97 (.agg #[a, b, c]) 2).run Try.prog W = .ok c W := by kernel_rfl
theorem zero97 (W : World) : (zeroValue 97).run Try.prog W = .ok (.agg #[.slice none 0 0, .int .i64 0, .bool false]) W := by kernel_rfl
set_option maxRecDepth 100000 in
set_option maxHeartbeats 4000000 in
theorem of91_calls (E : OE) (hE : E.Fit) (s : Sp) (hs : E.At s) (gs gw mw : Nat) (IH : ∀ s', E.At s' → cntB s'.r < cntB s.r → SearchC E s') (x : Int) (hx : x ∈ loopsOf s.r 5) (A : Nat → Prop) (w : World) (hinv : Inv91 E s gs gw mw A w) (hA : ∀ k, A k → k < w.heap.size) :
  Calls Try.prog 91 #[.int .i64 x, .pointer (some ⟨E.Bn, 0, none⟩), .pointer (some ⟨gs, 0, none⟩), .pointer (some ⟨E.Bd, 0, none⟩), .pointer (some ⟨E.Bs, 0, none⟩), .pointer (some ⟨gw, 0, none⟩)] w fun e w' =>
   e = .returned (.tuple #[.int .i64 (ofV E.l0 E.l2 E.D E.S s x).1, .bool (ofV E.l0 E.l2 E.D E.S s x).2]) ∧ Inv91 E s gs gw mw A w' ∧ KB (fun k => k = E.m ∨ k = mw) w w' := by
 have hu99 := Try.underlying99
 have hu123 := Try.underlying123
 have hu26 := Try.underlying26
 have hx0 := (mem_loopsOf s.r 5 x).1 hx
 have hx5 := hs.2.2.2 x hx
 have hx05 : 0 ≤ x ∧ x < 5 := by
  obtain ⟨xk, hxk, hxk5, _⟩ := hx0
  omega
 clear hx0
 have hrep : Calls Try.prog 92 #[.agg (NETC E), .agg #[.int .i64 s.p, .int .i64 s.h, .int .i64 s.r], .int .i64 x, .slice E.Ad E.D.length E.cd] w fun e w' =>
   e = .returned (.tuple #[spV (repV E.l0 E.l2 E.D s x).1, .int .i64 (repV E.l0 E.l2 E.D s x).2.1, .bool (repV E.l0 E.l2 E.D s x).2.2]) ∧ Below w.heap.size w w' :=
  repaired_calls _ _ _ _ _ _ _ _ s x _ _ E.D w (Kd.C_below hE.r0 hinv.env.hb) (Kd.C_below hE.r2 hinv.env.hb) (Kd.R_reads' hinv.env.due).2.2 hs.2.1 (by have := hE.h2; have := hs.2.2.1; omega) (by omega) hx5 (by rw [hE.hrow s.p hs.2.1 hs.2.2.1]; omega) (by rw [hE.hD]; omega) (by omega)
 have hof : ofV E.l0 E.l2 E.D E.S s x = if (repV E.l0 E.l2 E.D s x).2.2 = true then (min (repV E.l0 E.l2 E.D s x).2.1 (E.S (repV E.l0 E.l2 E.D s x).1).2.1, (E.S (repV E.l0 E.l2 E.D s x).1).2.2) else (0, false) := rfl
 have HNX : Aside0 ((repV E.l0 E.l2 E.D s x).2.2 = true → E.At (repV E.l0 E.l2 E.D s x).1 ∧ cntB (repV E.l0 E.l2 E.D s x).1.r < cntB s.r) := ⟨fun hr => by have h := hs.next hx hr; exact ⟨h.1, by omega⟩⟩
 rw [hof]
 clear hof
 generalize repV E.l0 E.l2 E.D s x = q at hrep HNX ⊢
 obtain ⟨⟨q0, q1, q2⟩, ow, can⟩ := q
 simp only [spV_eq] at hrep
 dsimp only at HNX ⊢
 have HB := Aside0.mk (Below.refl w.heap.size w)
 have HI := Aside0.mk hinv
 have HIH := Aside0.mk IH
 clear IH hx hs hE hinv
 have BKn := Aside0.mk HI.out.env.xn
 have BKd := Aside0.mk HI.out.env.xd
 have BKs := Aside0.mk HI.out.env.xs
 have BKp := Aside0.mk HI.out.xs
 have BKw := Aside0.mk HI.out.xw
 have hfn := blk_frozen BKn.out; have hcn_0 : w.cell? ⟨E.Bn, 0, none⟩ = some (.slice E.A0 E.l0.length E.c0) := (blk_cell BKn.out 0).trans rfl; have hcn_1 : w.cell? ⟨E.Bn, 1, none⟩ = some (.slice E.A1 E.l1.length E.c1) := (blk_cell BKn.out 1).trans rfl; have hcn_2 : w.cell? ⟨E.Bn, 2, none⟩ = some (.slice E.A2 E.l2.length E.c2) := (blk_cell BKn.out 2).trans rfl; have hcn_3 : w.cell? ⟨E.Bn, 3, none⟩ = some (.int .i64 E.wp) := (blk_cell BKn.out 3).trans rfl
 have hfp := blk_frozen BKp.out; have hcp_0 : w.cell? ⟨gs, 0, none⟩ = some (.int .i64 s.p) := (blk_cell BKp.out 0).trans rfl; have hcp_1 : w.cell? ⟨gs, 1, none⟩ = some (.int .i64 s.h) := (blk_cell BKp.out 1).trans rfl; have hcp_2 : w.cell? ⟨gs, 2, none⟩ = some (.int .i64 s.r) := (blk_cell BKp.out 2).trans rfl
 have hfd := blk_frozen BKd.out; have hcd_0 : w.cell? ⟨E.Bd, 0, none⟩ = some (.slice E.Ad E.D.length E.cd) := (blk_cell BKd.out 0).trans rfl
 cases can with
 | false =>
  simp only [Bool.false_eq_true, if_false]
  go_enter Try.func91, Try.ntmps91
  go_wp2_with (first | (go_at_call 92; refine hrep.mono ?_; clear hrep; rintro e w2 ⟨rfl, hb⟩; have n_HB := Aside0.mk (below_step HB.out hb); clear HB; have HB := n_HB; clear n_HB; clear hb) | ((with_reducible refine gate_dst (N := 9) rfl ?_); refine box_event ?hg (N := 9) ?hd (cs := #[.int .i64 0, .int .i64 0, .int .i64 0]) (t := 123) ?hr ?_; (case hd => rfl); (case hg => rfl); (case hr => first | (go_simp; done) | (go_simp; rfl)); intro gx hg_gx w3 hbox hb; have BKgx := Aside0.mk hbox; have n_HB := Aside0.mk (below_step HB.out hb); have GEgx : w.heap.size ≤ gx := (by rw [hg_gx]; exact HB.out.size); clear HB; have HB := n_HB; clear n_HB; have hfgx := blk_frozen BKgx.out; have hcgx_0 : w3.cell? ⟨gx, 0, none⟩ = some (.int .i64 0) := (blk_cell BKgx.out 0).trans rfl; have hcgx_1 : w3.cell? ⟨gx, 1, none⟩ = some (.int .i64 0) := (blk_cell BKgx.out 1).trans rfl; have hcgx_2 : w3.cell? ⟨gx, 2, none⟩ = some (.int .i64 0) := (blk_cell BKgx.out 2).trans rfl; clear hbox hb hg_gx))
  go_ret2
  have hbl := below_set (j := 2) (v := .int .i64 q2) (below_set (j := 1) (v := .int .i64 q1) (below_set (j := 0) (v := .int .i64 q0) HB.out GEgx) GEgx) GEgx
  exact ⟨rfl, HI.out.step (KB.of_below hbl A), KB.of_below hbl _⟩
 | true =>
  have hnx := HNX.out rfl
  try dsimp only at hnx
  have hsr := HIH.out _ hnx.1 hnx.2
  unfold SearchC at hsr
  clear hnx HNX HIH
  simp only [if_true]
  generalize hS : E.S ⟨q0, q1, q2⟩ = S at hsr ⊢
  clear hS
  obtain ⟨So, Ss, Sr⟩ := S
  try dsimp only at hsr
  simp only [spV_eq] at hsr
  have HSR := Aside0.mk hsr
  clear hsr
  go_enter Try.func91, Try.ntmps91
  go_wp2_with (first | (go_at_call 92; refine hrep.mono ?_; clear hrep; rintro e w2 ⟨rfl, hb⟩; have n_HB := Aside0.mk (below_step HB.out hb); clear HB; have HB := n_HB; clear n_HB; clear hb) | ((with_reducible refine gate_dst (N := 9) rfl ?_); refine box_event ?hg (N := 9) ?hd (cs := #[.int .i64 0, .int .i64 0, .int .i64 0]) (t := 123) ?hr ?_; (case hd => rfl); (case hg => rfl); (case hr => first | (go_simp; done) | (go_simp; rfl)); intro gx hg_gx w3 hbox hb; have BKgx := Aside0.mk hbox; have n_HB := Aside0.mk (below_step HB.out hb); have GEgx : w.heap.size ≤ gx := (by rw [hg_gx]; exact HB.out.size); clear HB; have HB := n_HB; clear n_HB; have hfgx := blk_frozen BKgx.out; have hcgx_0 : w3.cell? ⟨gx, 0, none⟩ = some (.int .i64 0) := (blk_cell BKgx.out 0).trans rfl; have hcgx_1 : w3.cell? ⟨gx, 1, none⟩ = some (.int .i64 0) := (blk_cell BKgx.out 1).trans rfl; have hcgx_2 : w3.cell? ⟨gx, 2, none⟩ = some (.int .i64 0) := (blk_cell BKgx.out 2).trans rfl; clear hbox hb hg_gx))
  have hbl := below_set (j := 2) (v := .int .i64 q2) (below_set (j := 1) (v := .int .i64 q1) (below_set (j := 0) (v := .int .i64 q0) HB.out GEgx) GEgx) GEgx
  have hbx : (((w3.setCell ⟨gx, 0, none⟩ (.int .i64 q0)).setCell ⟨gx, 1, none⟩ (.int .i64 q1)).setCell ⟨gx, 2, none⟩ (.int .i64 q2)).heap[gx]? = some (.cells #[.int .i64 q0, .int .i64 q1, .int .i64 q2] 123 (0, 0)) := blk_set (blk_set (blk_set BKgx.out 0 _) 1 _) 2 _
  generalize ((w3.setCell ⟨gx, 0, none⟩ (.int .i64 q0)).setCell ⟨gx, 1, none⟩ (.int .i64 q1)).setCell ⟨gx, 2, none⟩ (.int .i64 q2) = w4 at hbl hbx ⊢
  have hi4 : Inv91 E s gs gw mw A w4 := HI.out.step (KB.of_below hbl A)
  have hk4 : KB (fun k => k = E.m ∨ k = mw) w w4 := KB.of_below hbl _
  have htup : ∀ W, Inv91 E s gs gw mw A W → KB (fun k => k = E.m ∨ k = mw) w4 W → W.cell? ⟨gw, 0, none⟩ = some (.map (some mw)) ∧ W.cell? ⟨E.Bs, 0, none⟩ = some (SEARCHF E) ∧ W.cell? ⟨gx, 0, none⟩ = some (.int .i64 q0) ∧ W.cell? ⟨gx, 1, none⟩ = some (.int .i64 q1) ∧ W.cell? ⟨gx, 2, none⟩ = some (.int .i64 q2) ∧ Aside0 (Inv91 E s gs gw mw A W ∧ KB (fun k => k = E.m ∨ k = mw) w4 W) := by
   intro W hi hk
   have hbW := hk.blk hbx (fun e => e.elim (fun e => hi4.env.map.noCells hbx e) (fun e => hi4.map.noCells hbx e))
   exact ⟨blk_cell hi.xw 0, blk_cell hi.env.xs 0, blk_cell hbW 0, blk_cell hbW 1, blk_cell hbW 2, ⟨hi, hk⟩⟩
  have hdr : Inv91 E s gs gw mw A w4.drew ∧ KB (fun k => k = E.m ∨ k = mw) w4 w4.drew := ⟨hi4.step ⟨rfl, rfl, rfl, Nat.le_refl _, fun _ _ _ => rfl⟩, ⟨rfl, rfl, rfl, Nat.le_refl _, fun _ _ _ => rfl⟩⟩
  have hS4 := htup w4.drew hdr.1 hdr.2
  have hA4 : ∀ k, A k → k < w4.heap.size := fun k hk => by have := hA k hk; have := hbl.size; omega
  have hsr2 : ∀ W, Inv91 E s gs gw mw A W ∧ KB (fun k => k = E.m ∨ k = mw) w4 W → Calls Try.prog 90 #[.agg #[.int .i64 q0, .int .i64 q1, .int .i64 q2], .pointer (some ⟨E.Bn, 0, none⟩), .pointer (some ⟨E.Bk, 0, none⟩), .pointer (some ⟨E.Bd, 0, none⟩), .pointer (some ⟨E.Bs, 0, none⟩)] W fun e W' =>
    ∃ v, e = .returned (.agg #[v, .int .i64 Ss, .bool Sr]) ∧ Aside0 (W'.cell? ⟨gw, 0, none⟩ = some (.map (some mw)) ∧ W'.cell? ⟨E.Bs, 0, none⟩ = some (SEARCHF E) ∧ W'.cell? ⟨gx, 0, none⟩ = some (.int .i64 q0) ∧ W'.cell? ⟨gx, 1, none⟩ = some (.int .i64 q1) ∧ W'.cell? ⟨gx, 2, none⟩ = some (.int .i64 q2) ∧ Aside0 (Inv91 E s gs gw mw A W' ∧ KB (fun k => k = E.m ∨ k = mw) w4 W')) ∧ ∃ W6, (Instr.mapUpdate 125 (.map (some mw)) (.int .i64 x) (.agg #[v, .int .i64 Ss, .bool Sr])).run Try.prog W' = .ok () W6 ∧ Aside0 (W6.cell? ⟨gw, 0, none⟩ = some (.map (some mw)) ∧ W6.cell? ⟨E.Bs, 0, none⟩ = some (SEARCHF E) ∧ W6.cell? ⟨gx, 0, none⟩ = some (.int .i64 q0) ∧ W6.cell? ⟨gx, 1, none⟩ = some (.int .i64 q1) ∧ W6.cell? ⟨gx, 2, none⟩ = some (.int .i64 q2) ∧ Aside0 (Inv91 E s gs gw mw A W6 ∧ KB (fun k => k = E.m ∨ k = mw) w4 W6)) ∧ Aside0 (MapIs intKey W6 mw (fun k u => k = x → u = .agg #[v, .int .i64 Ss, .bool Sr]) (fun k => k = x)) := by
   rintro W ⟨hi, hk⟩
   refine (HSR.out A W hi.env (fun k hk' => Nat.lt_of_lt_of_le (hA4 k hk') hk.size)).mono ?_
   rintro e W' ⟨v, rfl, _, henv, hkb⟩
   have hi5 := hi.after henv hkb
   have hk5 := hk.trans hkb (fun k e => .inl (.inl e))
   obtain ⟨w6, hrun, hi6, hk6, hm6⟩ := hi5.put x (.agg #[v, .int .i64 Ss, .bool Sr])
   exact ⟨v, rfl, ⟨htup _ hi5 hk5⟩, w6, hrun, ⟨htup _ hi6 (hk5.trans hk6 (fun k e => .inl (.inr e)))⟩, ⟨hm6⟩⟩
  have HSR2 := Aside0.mk hsr2
  have HS4 := Aside0.mk hS4
  have HK4 := Aside0.mk hk4
  clear htup hdr hS4 hi4 hk4 hbl hbx hA hA4 hsr2 HSR BKn BKd BKs BKp BKw BKgx hfgx hcgx_0 hcgx_1 hcgx_2 HI
  go_region_held3 (fun w' => w'.cell? ⟨gw, 0, none⟩ = some (.map (some mw)) ∧ w'.cell? ⟨E.Bs, 0, none⟩ = some (SEARCHF E) ∧ w'.cell? ⟨gx, 0, none⟩ = some (.int .i64 q0) ∧ w'.cell? ⟨gx, 1, none⟩ = some (.int .i64 q1) ∧ w'.cell? ⟨gx, 2, none⟩ = some (.int .i64 q2) ∧ Aside0 (Inv91 E s gs gw mw A w' ∧ KB (fun k => k = E.m ∨ k = mw) w4 w'))
   (first | exact HS4.out | exact HS5.out | exact HS6.out)
   (first | ((go_at_call 90; refine (HSR2.out _ (Aside0.out (And.right (And.right (And.right (And.right (And.right (by assumption)))))))).mono ?_; rintro e w5 ⟨v, rfl, HS5, w6, hrun, HS6, HM6⟩)) | ((refine step_mapUpdate (by rfl) 125 _ _ _ rfl _ _ _ rfl rfl rfl hrun ?_)))
  rename_i hHeld
  clear hHeld hrun
  simp only [Exit.then]
  have hl6 : (Instr.lookup 125 (.map (some mw)) (.int .i64 x) false).run Try.prog w6.drew = .ok (.agg #[v, .int .i64 Ss, .bool Sr]) w6.drew := by
   rcases (MapIs.at (W' := w6.drew) HM6.out rfl).look Try.underlying125 (zero97 _) x with ⟨u, hu, _, h2⟩ | ⟨hn, _, _⟩
   ·
    rw [hu rfl] at h2
    exact h2
   ·
    exact absurd rfl hn
  have hc6 : w6.drew.cell? ⟨gw, 0, none⟩ = some (.map (some mw)) := HS6.out.1
  have hfa := field97_1
  have hfb := field97_2
  go_wp2_with fail
  go_region_held3 (fun w' => w'.cell? ⟨gw, 0, none⟩ = some (.map (some mw)) ∧ (Instr.lookup 125 (.map (some mw)) (.int .i64 x) false).run Try.prog w' = .ok (.agg #[v, .int .i64 Ss, .bool Sr]) w')
   (exact ⟨hc6, hl6⟩)
   ((fail))
  all_goals
   simp only [Exit.then]
   go_wp2_with fail
   all_goals
    go_ret2
    have hfin := HS6.out.2.2.2.2.2.out
    refine ⟨?_, hfin.1.step ⟨rfl, rfl, rfl, Nat.le_refl _, fun _ _ _ => rfl⟩, (HK4.out.trans hfin.2 (fun k e => .inl e)).trans (T' := fun _ => False) ⟨rfl, rfl, rfl, Nat.le_refl _, fun _ _ _ => rfl⟩ (fun _ e => e.elim)⟩
    have hmin : (if Ss < ow then Ss else ow) = min ow Ss := by split <;> omega
    first | (have hm : min ow Ss = Ss := (by omega); rw [hm]; rfl) | (have hm : min ow Ss = ow := (by omega); rw [hm]; rfl) | (rw [← hmin]; rfl)
end Go.Proofs.Ytipphcjgdebecaa.PA
namespace Go.Proofs.Ytipphcjgdebecaa.PA
open Go.RowKit Go.Proofs.YtipphcjgdebecaaW.PrintWords Go.Proofs.YtipphcjgdebecaaW.PrintLast Go.Proofs.YtipphcjgdebecaaW.PrintMore
attribute [local go_sem] max2_int min2_int max_two min_two max_three min_three max_four min_four
set_option linter.unusedVariables false
set_option linter.unusedSimpArgs false
theorem int_append_run (W : World) (v : Value) (xs : List Int) (x : Int) (base : Nat) (ok : Nat → Prop) (HO : Kd.R (Kd.int .i64) 3 W base ok v xs) (hbase : base ≤ W.heap.size) (hl : xs.length ≤ 1000) (hok : ∀ k, W.heap.size ≤ k → ok k) :
  ∃ v1 w1, (Builtin.append_ #[47, 47] 47 #[v, .slice (some ⟨W.heap.size, 0, none⟩) 1 1]).run Try.prog (W.alloc (.cells #[.int .i64 x] 3)) = .ok v1 w1 ∧ Kd.R (Kd.int .i64) 3 w1 base ok v1 (xs ++ [x]) ∧ W.grownBy w1 v.ownBlock ∧ (v1.ownBlock = v.ownBlock ∨ ∃ b, v1.ownBlock = some b ∧ W.heap.size ≤ b) := by
 have hown := (Kd.own_of_R (h1 := fun _ => rfl) HO).alloc (.cells #[.int .i64 x] 3)
 obtain ⟨i0, hi, hz0, hz1, hz2⟩ := info_parts info3
 obtain ⟨v1, w1, hrun, ho, hg, _, hat⟩ := run_append_own_at (W.alloc (.cells #[.int .i64 x] 3)) base 47 47 3 i0 (.int .i64 0) 1 8 Try.underlying47 hi hz0 hz1 hz2 rfl (by decide) v xs.length _ hown ⟨W.heap.size, 0, none⟩ 1 1 [.int .i64 x] rfl (Go.cell_one_new W (.int .i64 x) 3) (by simp [Value.oneCell']) (by simp only [maxLen]; omega) (by omega) (by simp; omega)
 have hgW : W.grownBy w1 v.ownBlock := World.grownBy.trans (World.grownBy_alloc W _ _) hg
 refine ⟨v1, w1, hrun, ?_, hgW, ?_⟩
 ·
  refine Kd.R_of_own (h1 := fun _ => rfl) ?_ ?_
  ·
   have e : encs (Value.int .i64) (xs ++ [x]) = encs (Value.int .i64) xs ++ [.int .i64 x] := by simp [encs]
   rw [e]
   simpa using ho
  ·
   intro k hk
   rcases hat with h1 | h1
   ·
    exact HO.1 k (by rw [← h1]; exact hk)
   ·
    rw [h1] at hk
    injection hk with hk
    subst hk
    exact hok _ (by simp)
 ·
  rcases hat with h1 | h1
  ·
   exact .inl h1
  ·
   exact .inr ⟨_, h1, by simp⟩
structure St93 (E : OE) (A : Nat → Prop) (w : World) (gn gq gd gf go gx : Nat) (slack : Int) (n : Sp) (o : List Int) (v : Value) (Ds : List Nat) (W : World) : Prop where
 env : EnvInv E (fun k => A k ∨ k = go ∨ k = gx ∨ some k = v.ownBlock) W
 xn : W.heap[gn]? = some (.cells (NETC E) 99 (0, 0))
 xq : W.heap[gq]? = some (.cells #[.int .i64 slack] 3 (0, 0))
 xd : W.heap[gd]? = some (.cells #[.slice E.Ad E.D.length E.cd] 47 (0, 0))
 xf : W.heap[gf]? = some (.cells #[SEARCHF E] 121 (0, 0))
 xo : W.heap[go]? = some (.cells #[v] 47 (0, 0))
 xx : W.heap[gx]? = some (.cells #[.int .i64 n.p, .int .i64 n.h, .int .i64 n.r] 123 (0, 0))
 row : Kd.R (Kd.int .i64) 3 W E.w0.heap.size (fun k => w.heap.size ≤ k ∧ k ≠ gq) v o
 kb : KB (fun k => k = E.m) w W
 lo : w.heap.size ≤ go ∧ w.heap.size ≤ gx
 marks : ∀ D ∈ Ds, W.heap[D]? = some (.deferred (some [])) ∧ w.heap.size ≤ D
section
variable {E : OE} {A : Nat → Prop} {w W W' : World} {gn gq gd gf go gx : Nat} {slack : Int} {n n' : Sp} {o : List Int} {v : Value} {Ds : List Nat}
theorem deferred_ne {g : Nat} {cs : Array Value} {t : TypeId} {D : Nat} (h : W.heap[g]? = some (.cells cs t (0, 0))) (hD : W.heap[D]? = some (.deferred (some []))) : D ≠ g := by
 rintro rfl
 rw [h] at hD
 cases hD
theorem St93.lt (h : St93 E A w gn gq gd gf go gx slack n o v Ds W) (hA : ∀ k, A k → k < w.heap.size) : ∀ k, (A k ∨ k = go ∨ k = gx ∨ some k = v.ownBlock) → k < W.heap.size := by
 rintro k (hk | rfl | rfl | hk)
 ·
  have := hA k hk
  have := h.kb.size
  omega
 ·
  exact blk_lt h.xo
 ·
  exact blk_lt h.xx
 ·
  exact Kd.R_lt h.row k hk.symm
theorem St93.below (h : St93 E A w gn gq gd gf go gx slack n o v Ds W) (hb : Below W.heap.size W W') : St93 E A w gn gq gd gf go gx slack n o v Ds W' :=
 ⟨h.env.step (KB.of_below hb _), blk_below h.xn hb, blk_below h.xq hb, blk_below h.xd hb, blk_below h.xf hb, blk_below h.xo hb, blk_below h.xx hb, Kd.R_below h.row hb, h.kb.then_below hb, h.lo, fun D hD => ⟨blk_below (h.marks D hD).1 hb, (h.marks D hD).2⟩⟩
theorem St93.after (h : St93 E A w gn gq gd gf go gx slack n o v Ds W) (he : EnvInv E (fun k => A k ∨ k = go ∨ k = gx ∨ some k = v.ownBlock) W') (hk : KB (fun k => k = E.m) W W') : St93 E A w gn gq gd gf go gx slack n o v Ds W' := by
 have ne : ∀ {g cs t}, W.heap[g]? = some (.cells cs t (0, 0)) → ¬ g = E.m := fun hg => h.env.map.noCells hg
 have hR := hk.R (Kd.R_bound h.row) (fun k hk' => by obtain ⟨q, _, cells, hc⟩ := hk'.2.2.2; exact ne hc)
 refine ⟨he, hk.blk h.xn (ne h.xn), hk.blk h.xq (ne h.xq), hk.blk h.xd (ne h.xd), hk.blk h.xf (ne h.xf), hk.blk h.xo (ne h.xo), hk.blk h.xx (ne h.xx), Kd.R_mono hR (fun k hk => hk.1), h.kb.trans hk (fun k e => .inl e), h.lo, fun D hD => ⟨hk.blk (h.marks D hD).1 (fun e => ?_), (h.marks D hD).2⟩⟩
 obtain ⟨es, clock, ks, h1, _⟩ := h.env.map
 have h2 := (h.marks D hD).1
 rw [e, h1] at h2
 cases h2
theorem St93.own {B : Nat} (hB : w.heap.size ≤ B) (hw : E.w0.heap.size ≤ w.heap.size) (hm : E.m < w.heap.size) (hDs : ∀ D ∈ Ds, D < B) {row : Option Nat} (h : St93 E A w gn gq gd gf go gx slack n o v Ds W) (hg : W.grownBy W' row) (hr : ∀ r, row = some r → B ≤ r ∧ ∃ o : Obj, W.heap[r]? = some o ∧ o.isCells = false) : St93 E A w gn gq gd gf go gx slack n o v Ds W' := by
 refine ⟨h.env.own (B := B) (by omega) (by omega) hg hr, blk_own h.xn hg hr, blk_own h.xq hg hr, blk_own h.xd hg hr, blk_own h.xf hg hr, blk_own h.xo hg hr, blk_own h.xx hg hr, ?_, h.kb.trans (KB.of_grown hg) (fun k e => .inr (by have := (hr k e).1; omega)), h.lo,
  fun D hD => ⟨(hg.block D (blk_lt (h.marks D hD).1) (fun e => by have := (hr D e.symm).1; have := hDs D hD; omega)).trans (h.marks D hD).1, (h.marks D hD).2⟩⟩
 refine Kd.R_mono (Kd.R_step (Kd.R_bound h.row) (fun k hk hlt => hg.block k hlt (fun e => ?_))) (fun k hk => hk.1)
 obtain ⟨q, _, cells, hc⟩ := hk.2.2.2
 obtain ⟨_, o', ho, hn⟩ := hr k e.symm
 rw [hc] at ho
 injection ho with ho
 subst ho
 cases hn
theorem St93.push (h : St93 E A w gn gq gd gf go gx slack n o v Ds W) (hw0 : E.w0.heap.size ≤ w.heap.size) {w1 : World} {v1 : Value} {x : Int} (hn : gn ≠ go ∧ gn ≠ gx ∧ gq ≠ go ∧ gq ≠ gx ∧ gd ≠ go ∧ gd ≠ gx ∧ gf ≠ go ∧ gf ≠ gx ∧ go ≠ gx)
  (hR : Kd.R (Kd.int .i64) 3 w1 E.w0.heap.size (fun k => w.heap.size ≤ k ∧ k ≠ gq) v1 (o ++ [x])) (hg : W.grownBy w1 v.ownBlock) (hat : v1.ownBlock = v.ownBlock ∨ ∃ b, v1.ownBlock = some b ∧ W.heap.size ≤ b) :
  St93 E A w gn gq gd gf go gx slack n' (o ++ [x]) v1 Ds ((((w1.setCell ⟨go, 0, none⟩ v1).setCell ⟨gx, 0, none⟩ (.int .i64 n'.p)).setCell ⟨gx, 1, none⟩ (.int .i64 n'.h)).setCell ⟨gx, 2, none⟩ (.int .i64 n'.r)) := by
 obtain ⟨d1, d2, d3, d4, d5, d6, d7, d8, d9⟩ := hn
 have d9' := d9.symm
 have kset : ∀ T : Nat → Prop, T go → T gx → KB T w1 ((((w1.setCell ⟨go, 0, none⟩ v1).setCell ⟨gx, 0, none⟩ (.int .i64 n'.p)).setCell ⟨gx, 1, none⟩ (.int .i64 n'.h)).setCell ⟨gx, 2, none⟩ (.int .i64 n'.r)) :=
  fun T t1 t2 => ((((KB.refl T w1).set (p := ⟨go, 0, none⟩) (.inl t1) _).set (p := ⟨gx, 0, none⟩) (.inl t2) _).set (p := ⟨gx, 1, none⟩) (.inl t2) _).set (p := ⟨gx, 2, none⟩) (.inl t2) _
 have far : ∀ {g : Nat} {cs : Array Value} {t : TypeId}, w1.heap[g]? = some (.cells cs t (0, 0)) → g ≠ go → g ≠ gx → ((((w1.setCell ⟨go, 0, none⟩ v1).setCell ⟨gx, 0, none⟩ (.int .i64 n'.p)).setCell ⟨gx, 1, none⟩ (.int .i64 n'.h)).setCell ⟨gx, 2, none⟩ (.int .i64 n'.r)).heap[g]? = some (.cells cs t (0, 0)) :=
  fun hg e1 e2 => blk_far (blk_far (blk_far (blk_far hg (p := ⟨go, 0, none⟩) e1 _) (p := ⟨gx, 0, none⟩) e2 _) (p := ⟨gx, 1, none⟩) e2 _) (p := ⟨gx, 2, none⟩) e2 _
 have k1 : ∀ {g : Nat} {cs : Array Value} {t : TypeId}, W.heap[g]? = some (.cells cs t (0, 0)) → t ≠ 3 → w1.heap[g]? = some (.cells cs t (0, 0)) := fun hg' ht => blk_grown hg' hg (Kd.R_ne h.row hg' (Ne.symm ht))
 have env1 : EnvInv E (fun k => (A k ∨ k = go ∨ k = gx ∨ some k = v.ownBlock) ∨ W.heap.size ≤ k) W := h.env.imp (fun k hk => ⟨hk.elim (h.env.lo k) (fun x => Nat.le_trans h.env.hb.size x), hk⟩)
 have env2 := env1.step ((KB.of_grown hg).mono (fun k e => .inl (.inr (.inr (.inr e.symm)))))
 have env3 := env2.step (kset _ (.inl (.inr (.inl rfl))) (.inl (.inr (.inr (.inl rfl)))))
 refine ⟨env3.imp (fun k hk => ?_), far (k1 h.xn (by decide)) d1 d2, ?_, far (k1 h.xd (by decide)) d5 d6, far (k1 h.xf (by decide)) d7 d8, ?_, ?_, ?_, ?_, h.lo, ?_⟩
 ·
  have hk' : (A k ∨ k = go ∨ k = gx ∨ some k = v.ownBlock) ∨ W.heap.size ≤ k := by
   rcases hk with hk | hk | hk | hk
   ·
    exact .inl (.inl hk)
   ·
    exact .inl (.inr (.inl hk))
   ·
    exact .inl (.inr (.inr (.inl hk)))
   ·
    rcases hat with e | ⟨b, e, hb⟩
    ·
     exact .inl (.inr (.inr (.inr (by rw [hk, e]))))
    ·
     rw [e] at hk
     injection hk with hk
     exact .inr (by omega)
  exact ⟨env1.lo k hk', .inl hk'⟩
 ·
  exact far (blk_grown h.xq hg (fun e => (h.row.1 gq e.symm).2 rfl)) d3 d4
 ·
  exact blk_far (blk_far (blk_far (blk_set (k1 h.xo (by decide)) 0 v1) (p := ⟨gx, 0, none⟩) d9 _) (p := ⟨gx, 1, none⟩) d9 _) (p := ⟨gx, 2, none⟩) d9 _
 ·
  exact blk_set (blk_set (blk_set (blk_far (k1 h.xx (by decide)) (p := ⟨go, 0, none⟩) d9' _) 0 _) 1 _) 2 _
 ·
  have ho := blk_far (p := ⟨go, 0, none⟩) (k1 h.xx (by decide)) d9' v1
  exact Kd.R_set (Kd.R_set (Kd.R_set (Kd.R_set hR (k1 h.xo (by decide)) (by decide) 0 v1) ho (by decide) 0 _) (blk_set ho 0 _) (by decide) 1 _) (blk_set (blk_set ho 0 _) 1 _) (by decide) 2 _
 ·
  refine (h.kb.trans (KB.of_grown hg) (fun k e => .inr (h.row.1 k e).1)).trans (kset (fun k => w.heap.size ≤ k) h.lo.1 h.lo.2) (fun k e => .inr e)
 ·
  intro D hD
  have hm := h.marks D hD
  have hD1 : w1.heap[D]? = some (.deferred (some [])) := (hg.block D (blk_lt hm.1) (fun e => by
   obtain ⟨cells, hc⟩ := Kd.R_typed h.row D e.symm
   rw [hm.1] at hc
   cases hc)).trans hm.1
  refine ⟨(kset (fun k => k = go ∨ k = gx) (.inl rfl) (.inr rfl)).blk hD1 (fun e => ?_), hm.2⟩
  rcases e with e | e
  ·
   exact deferred_ne (k1 h.xo (by decide)) hD1 e
  ·
   exact deferred_ne (k1 h.xx (by decide)) hD1 e
end
end Go.Proofs.Ytipphcjgdebecaa.PA
