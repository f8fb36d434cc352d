/- Parts of a proof about the pipe seat's laws: what the functions of the program answer. No condition of its own. -/
import Derived.Test.YtipphcjgdebecaaPpB
import Derived.Test.YtipphcjgdebecaaPpC
import Derived.Test.YtipphcjgdebecaaPpA
set_option linter.all false
namespace Go.Proofs.Ytipphcjgdebecaa.PA
open Go.RowKit Go.Proofs.YtipphcjgdebecaaW.PrintWords Go.Proofs.YtipphcjgdebecaaW.PrintLast Go.Proofs.YtipphcjgdebecaaW.PrintMore
attribute [local go_sem] max2_int min2_int max_two min_two max_three min_three max_four min_four
set_option maxRecDepth 100000 in
theorem put_tail {E : OE} {A : Nat → Prop} {W : World} {s : Sp} (h : EnvInv E A W) (bm : E.w0.heap.size ≤ E.m) (hs : OkS s) (v : Value) (hv : E.Row A W v (E.S s).1) :
  ∃ w9, (Instr.mapUpdate 120 (.map (some E.m)) (.agg #[.int .i64 s.p, .int .i64 s.h, .int .i64 s.r]) (.agg #[v, .int .i64 (E.S s).2.1, .bool (E.S s).2.2])).run Try.prog W = .ok () w9 ∧ EnvInv E A w9 ∧ E.Row A w9 v (E.S s).1 ∧ KB (fun k => k = E.m) W w9 := by
 obtain ⟨w9, hrun, hg, hm⟩ := h.map.update (t := 120) (el := 97) Try.underlying120 s (.agg #[v, .int .i64 (E.S s).2.1, .bool (E.S s).2.2])
 exact ⟨w9, hrun, h.put hg hs rfl hv bm hm, Kd.R_grown hv hg (fun k hk e => hk.1 (by injection e)), (KB.of_grown hg).mono (fun k e => by injection e with e; exact e.symm)⟩
theorem allocs3 (w : World) (o1 o2 o3 : Obj) : ∃ w4, ((w.alloc o1).alloc o2).alloc o3 = w4 ∧ w4.heap[w.heap.size]? = some o1 ∧ w4.heap[w.heap.size + 1]? = some o2 ∧ w4.heap[w.heap.size + 1 + 1]? = some o3 ∧ w4.heap.size = w.heap.size + 3 ∧ Below w.heap.size w w4 := by
 have h2 := blk_new (w.alloc o1) o2
 have h3 := blk_new ((w.alloc o1).alloc o2) o3
 rw [World.size_alloc] at h2
 rw [World.size_alloc, World.size_alloc] at h3
 exact ⟨_, rfl, qaj (qaj (blk_new w o1) o2) o3, qaj h2 o3, h3, by simp, qae (qae (qae (Below.refl _ _) _) _) _⟩
set_option maxRecDepth 100000 in
set_option maxHeartbeats 8000000 in
theorem search_step (E : OE) (hE : E.Fit) (s : Sp) (hs : E.At s) (IH : ∀ s', E.At s' → cntB s'.r < cntB s.r → SearchC E s') : SearchC E s := by
 intro A w hinv hA
 have hu97 := Try.underlying97
 have hu99 := Try.underlying99
 have hu123 := Try.underlying123
 have hu26 := Try.underlying26
 have hmf : ∀ (fn : Fn) (first cap : Array Value) (w : World), (Instr.makeFunc fn first cap).run Try.prog w = .ok (.func fn first cap) w := fun _ _ _ _ => rfl
 have HB := qab.mk (Below.refl w.heap.size w)
 have HI := qab.mk hinv
 have HIH := qab.mk IH
 have HE := qab.mk hE
 have HS := qab.mk hs
 have BKBn := qab.mk hinv.xn
 have BKBk := qab.mk hinv.xk
 have BKBd := qab.mk hinv.xd
 have BKBs := qab.mk hinv.xs
 have hSe := bestV_eq E.l0 E.l1 E.l2 E.D s hs.1
 have HSE := qab.mk hSe
 clear IH hinv hE hs hSe
 unfold spV
 by_cases hz : s.r = 0
 ·
  have hzb : (s.r == 0) = true := by simp [hz]
  have hS : E.S s = ([], (E.l1.length : Int), true) := by
   unfold OE.S
   rw [HSE.out]
   unfold stepV
   rw [if_pos hz]
  rw [hS]
  clear HSE hS
  go_enter Try.func90, Try.ntmps90
  go_wp2_with ((first | ((with_reducible refine qar (N := 5) rfl ?_); refine qap ?hg (N := 5) ?hd (cs := #[.int .i64 s.p, .int .i64 s.h, .int .i64 s.r]) (t := 123) ?hr ?_; (case hd => rfl); (case hg => rfl); (case hr => first | (go_simp; done) | (go_simp; rfl)); intro gs hg_gs w2 hbox hb; have BKgs := qab.mk hbox; have n_BKBn := qab.mk (qah BKBn.out hb); clear BKBn; have BKBn := n_BKBn; clear n_BKBn; have n_BKBk := qab.mk (qah BKBk.out hb); clear BKBk; have BKBk := n_BKBk; clear n_BKBk; have n_BKBd := qab.mk (qah BKBd.out hb); clear BKBd; have BKBd := n_BKBd; clear n_BKBd; have n_BKBs := qab.mk (qah BKBs.out hb); clear BKBs; have BKBs := n_BKBs; clear n_BKBs; have n_HB := qab.mk (qag HB.out hb); have GEgs : w.heap.size ≤ gs := (by rw [hg_gs]; exact HB.out.size); clear HB; have HB := n_HB; clear n_HB; clear hbox hb hg_gs) | ((with_reducible refine qar (N := 6) rfl ?_); refine qap ?hg (N := 6) ?hd (cs := #[.slice none 0 0, .int .i64 0, .bool false]) (t := 97) ?hr ?_; (case hd => rfl); (case hg => rfl); (case hr => first | (go_simp; done) | (go_simp; rfl)); intro gr hg_gr w3 hbox hb; have BKgr := qab.mk hbox; have n_BKBn := qab.mk (qah BKBn.out hb); clear BKBn; have BKBn := n_BKBn; clear n_BKBn; have n_BKBk := qab.mk (qah BKBk.out hb); clear BKBk; have BKBk := n_BKBk; clear n_BKBk; have n_BKBd := qab.mk (qah BKBd.out hb); clear BKBd; have BKBd := n_BKBd; clear n_BKBd; have n_BKBs := qab.mk (qah BKBs.out hb); clear BKBs; have BKBs := n_BKBs; clear n_BKBs; have n_BKgs := qab.mk (qah BKgs.out hb); clear BKgs; have BKgs := n_BKgs; clear n_BKgs; have n_HB := qab.mk (qag HB.out hb); have GEgr : w.heap.size ≤ gr := (by rw [hg_gr]; exact HB.out.size); clear HB; have HB := n_HB; clear n_HB; clear hbox hb hg_gr; have hfgs := qac BKgs.out; have hcgs_0 : w3.cell? ⟨gs, 0, none⟩ = some (.int .i64 s.p) := (qaa BKgs.out 0).trans rfl; have hcgs_1 : w3.cell? ⟨gs, 1, none⟩ = some (.int .i64 s.h) := (qaa BKgs.out 1).trans rfl; have hcgs_2 : w3.cell? ⟨gs, 2, none⟩ = some (.int .i64 s.r) := (qaa BKgs.out 2).trans rfl; have hfgr := qac BKgr.out; have hcgr_0 : w3.cell? ⟨gr, 0, none⟩ = some (.slice none 0 0) := (qaa BKgr.out 0).trans rfl; have hcgr_1 : w3.cell? ⟨gr, 1, none⟩ = some (.int .i64 0) := (qaa BKgr.out 1).trans rfl; have hcgr_2 : w3.cell? ⟨gr, 2, none⟩ = some (.bool false) := (qaa BKgr.out 2).trans rfl; have hfBn := qac BKBn.out; have hcBn_0 : w3.cell? ⟨E.Bn, 0, none⟩ = some (.slice E.A0 E.l0.length E.c0) := (qaa BKBn.out 0).trans rfl; have hcBn_1 : w3.cell? ⟨E.Bn, 1, none⟩ = some (.slice E.A1 E.l1.length E.c1) := (qaa BKBn.out 1).trans rfl; have hcBn_2 : w3.cell? ⟨E.Bn, 2, none⟩ = some (.slice E.A2 E.l2.length E.c2) := (qaa BKBn.out 2).trans rfl; have hcBn_3 : w3.cell? ⟨E.Bn, 3, none⟩ = some (.int .i64 E.wp) := (qaa BKBn.out 3).trans rfl; have hfBk := qac BKBk.out; have hcBk_0 : w3.cell? ⟨E.Bk, 0, none⟩ = some (.map (some E.m)) := (qaa BKBk.out 0).trans rfl; have hfBd := qac BKBd.out; have hcBd_0 : w3.cell? ⟨E.Bd, 0, none⟩ = some (.slice E.Ad E.D.length E.cd) := (qaa BKBd.out 0).trans rfl; have hfBs := qac BKBs.out; have hcBs_0 : w3.cell? ⟨E.Bs, 0, none⟩ = some (.func (.func 90) #[] #[.pointer (some ⟨E.Bn, 0, none⟩), .pointer (some ⟨E.Bk, 0, none⟩), .pointer (some ⟨E.Bd, 0, none⟩), .pointer (some ⟨E.Bs, 0, none⟩)]) := (qaa BKBs.out 0).trans rfl)))
  refine bodyPost_ret (results_cell_row rfl _ _ gr 97 _ (0, 0) _ rfl (by first | exact qao (blk_set (blk_set (blk_set BKgr.out 0 _) 1 _) 2 _) | exact blk_set (blk_set (blk_set BKgr.out 0 _) 1 _) 2 _) hu97 rfl (by kernel_rfl)) rfl ?_
  have hfin := qai (j := 2) (v := .bool true) (qai (j := 1) (v := .int .i64 E.l1.length) (qai (j := 0) (v := .slice none 0 0) HB.out GEgr) GEgr) GEgr
  exact ⟨_, rfl, Kd.R_nil _ _ _ _ _, HI.out.step (KB.of_below hfin _), KB.of_below hfin _⟩
 ·
  have hzb : (s.r == 0) = false := by simp [hz]
  have hlk := HI.out.map
  have HLT := qab.mk hlk.lt
  rcases hlk.looks (t := 120) (el := 97) Try.underlying120 zero97 s with ⟨u, ⟨hok, v, hu, hrow⟩, hl⟩ | hl
  ·
   obtain ⟨vA, vn, vc, rfl⟩ := R_shape hrow
   generalize hSs : E.S s = S at hu hrow ⊢
   obtain ⟨So, Ss, Sr⟩ := S
   try dsimp only at hu hrow
   subst hu
   have HL : qab (∀ W' : World, W'.heap[E.m]? = w.heap[E.m]? → (Instr.lookup 120 (.map (some E.m)) (.agg #[.int .i64 s.p, .int .i64 s.h, .int .i64 s.r]) true).run Try.prog W' = .ok (.tuple #[.agg #[.slice vA vn vc, .int .i64 Ss, .bool Sr], .bool true]) W') := ⟨hl⟩
   have HROW := qab.mk hrow
   clear hl hlk hrow hSs
   go_enter Try.func90, Try.ntmps90
   go_wp2_with (first | ((with_reducible refine qar (N := 5) rfl ?_); refine qap ?hg (N := 5) ?hd (cs := #[.int .i64 s.p, .int .i64 s.h, .int .i64 s.r]) (t := 123) ?hr ?_; (case hd => rfl); (case hg => rfl); (case hr => first | (go_simp; done) | (go_simp; rfl)); intro gs hg_gs w2 hbox hb; have BKgs := qab.mk hbox; have n_BKBn := qab.mk (qah BKBn.out hb); clear BKBn; have BKBn := n_BKBn; clear n_BKBn; have n_BKBk := qab.mk (qah BKBk.out hb); clear BKBk; have BKBk := n_BKBk; clear n_BKBk; have n_BKBd := qab.mk (qah BKBd.out hb); clear BKBd; have BKBd := n_BKBd; clear n_BKBd; have n_BKBs := qab.mk (qah BKBs.out hb); clear BKBs; have BKBs := n_BKBs; clear n_BKBs; have n_HB := qab.mk (qag HB.out hb); have GEgs : w.heap.size ≤ gs := (by rw [hg_gs]; exact HB.out.size); clear HB; have HB := n_HB; clear n_HB; clear hbox hb hg_gs) | ((with_reducible refine qar (N := 6) rfl ?_); refine qap ?hg (N := 6) ?hd (cs := #[.slice none 0 0, .int .i64 0, .bool false]) (t := 97) ?hr ?_; (case hd => rfl); (case hg => rfl); (case hr => first | (go_simp; done) | (go_simp; rfl)); intro gr hg_gr w3 hbox hb; have BKgr := qab.mk hbox; have n_BKBn := qab.mk (qah BKBn.out hb); clear BKBn; have BKBn := n_BKBn; clear n_BKBn; have n_BKBk := qab.mk (qah BKBk.out hb); clear BKBk; have BKBk := n_BKBk; clear n_BKBk; have n_BKBd := qab.mk (qah BKBd.out hb); clear BKBd; have BKBd := n_BKBd; clear n_BKBd; have n_BKBs := qab.mk (qah BKBs.out hb); clear BKBs; have BKBs := n_BKBs; clear n_BKBs; have n_BKgs := qab.mk (qah BKgs.out hb); clear BKgs; have BKgs := n_BKgs; clear n_BKgs; have n_HB := qab.mk (qag HB.out hb); have GEgr : w.heap.size ≤ gr := (by rw [hg_gr]; exact HB.out.size); clear HB; have HB := n_HB; clear n_HB; clear hbox hb hg_gr; have hfgs := qac BKgs.out; have hcgs_0 : w3.cell? ⟨gs, 0, none⟩ = some (.int .i64 s.p) := (qaa BKgs.out 0).trans rfl; have hcgs_1 : w3.cell? ⟨gs, 1, none⟩ = some (.int .i64 s.h) := (qaa BKgs.out 1).trans rfl; have hcgs_2 : w3.cell? ⟨gs, 2, none⟩ = some (.int .i64 s.r) := (qaa BKgs.out 2).trans rfl; have hfgr := qac BKgr.out; have hcgr_0 : w3.cell? ⟨gr, 0, none⟩ = some (.slice none 0 0) := (qaa BKgr.out 0).trans rfl; have hcgr_1 : w3.cell? ⟨gr, 1, none⟩ = some (.int .i64 0) := (qaa BKgr.out 1).trans rfl; have hcgr_2 : w3.cell? ⟨gr, 2, none⟩ = some (.bool false) := (qaa BKgr.out 2).trans rfl; have hfBn := qac BKBn.out; have hcBn_0 : w3.cell? ⟨E.Bn, 0, none⟩ = some (.slice E.A0 E.l0.length E.c0) := (qaa BKBn.out 0).trans rfl; have hcBn_1 : w3.cell? ⟨E.Bn, 1, none⟩ = some (.slice E.A1 E.l1.length E.c1) := (qaa BKBn.out 1).trans rfl; have hcBn_2 : w3.cell? ⟨E.Bn, 2, none⟩ = some (.slice E.A2 E.l2.length E.c2) := (qaa BKBn.out 2).trans rfl; have hcBn_3 : w3.cell? ⟨E.Bn, 3, none⟩ = some (.int .i64 E.wp) := (qaa BKBn.out 3).trans rfl; have hfBk := qac BKBk.out; have hcBk_0 : w3.cell? ⟨E.Bk, 0, none⟩ = some (.map (some E.m)) := (qaa BKBk.out 0).trans rfl; have hfBd := qac BKBd.out; have hcBd_0 : w3.cell? ⟨E.Bd, 0, none⟩ = some (.slice E.Ad E.D.length E.cd) := (qaa BKBd.out 0).trans rfl; have hfBs := qac BKBs.out; have hcBs_0 : w3.cell? ⟨E.Bs, 0, none⟩ = some (.func (.func 90) #[] #[.pointer (some ⟨E.Bn, 0, none⟩), .pointer (some ⟨E.Bk, 0, none⟩), .pointer (some ⟨E.Bd, 0, none⟩), .pointer (some ⟨E.Bs, 0, none⟩)]) := (qaa BKBs.out 0).trans rfl; have hl3 := HL.out w3 (HB.out.block _ HLT.out)) | ((with_reducible refine qar (N := 7) rfl ?_); refine qap ?hg (N := 7) ?hd (cs := #[.slice none 0 0, .int .i64 0, .bool false]) (t := 97) ?hr ?_; (case hd => rfl); (case hg => rfl); (case hr => first | (go_simp; done) | (go_simp; rfl)); intro gk hg_gk w4 hbox hb; have BKgk := qab.mk hbox; have ne_gr_gk : gr ≠ gk := (by rw [hg_gk]; exact Nat.ne_of_lt (blk_lt BKgr.out)); have n_BKgs := qab.mk (qah BKgs.out hb); clear BKgs; have BKgs := n_BKgs; clear n_BKgs; have n_BKgr := qab.mk (qah BKgr.out hb); clear BKgr; have BKgr := n_BKgr; clear n_BKgr; have n_HB := qab.mk (qag HB.out hb); have GEgk : w.heap.size ≤ gk := (by rw [hg_gk]; exact HB.out.size); clear HB; have HB := n_HB; clear n_HB; clear hbox hb hg_gk; have hfgk := qac BKgk.out; have hcgk_0 : w4.cell? ⟨gk, 0, none⟩ = some (.slice none 0 0) := (qaa BKgk.out 0).trans rfl; have hcgk_1 : w4.cell? ⟨gk, 1, none⟩ = some (.int .i64 0) := (qaa BKgk.out 1).trans rfl; have hcgk_2 : w4.cell? ⟨gk, 2, none⟩ = some (.bool false) := (qaa BKgk.out 2).trans rfl; have hfgr := qac BKgr.out; have hcgr_0 : w4.cell? ⟨gr, 0, none⟩ = some (.slice none 0 0) := (qaa BKgr.out 0).trans rfl; have hcgr_1 : w4.cell? ⟨gr, 1, none⟩ = some (.int .i64 0) := (qaa BKgr.out 1).trans rfl; have hcgr_2 : w4.cell? ⟨gr, 2, none⟩ = some (.bool false) := (qaa BKgr.out 2).trans rfl))
   have hba := qai (j := 2) (v := .bool Sr) (qai (j := 1) (v := .int .i64 Ss) (qai (j := 0) (v := .slice vA vn vc) HB.out GEgk) GEgk) GEgk
   have hbb := qai (j := 2) (v := .bool Sr) (qai (j := 1) (v := .int .i64 Ss) (qai (j := 0) (v := .slice vA vn vc) hba GEgr) GEgr) GEgr
   refine bodyPost_ret (results_cell_row rfl _ _ gr 97 _ (0, 0) _ rfl (blk_set (blk_set (blk_set (blk_far (blk_far (blk_far BKgr.out (p := ⟨gk, 0, none⟩) ne_gr_gk _) (p := ⟨gk, 1, none⟩) ne_gr_gk _) (p := ⟨gk, 2, none⟩) ne_gr_gk _) 0 _) 1 _) 2 _) hu97 rfl (by kernel_rfl)) rfl ?_
   exact ⟨_, rfl, Kd.R_below HROW.out hbb, HI.out.step (KB.of_below hbb _), KB.of_below hbb _⟩
  ·
   have HL : qab (∀ W' : World, W'.heap[E.m]? = w.heap[E.m]? → (Instr.lookup 120 (.map (some E.m)) (.agg #[.int .i64 s.p, .int .i64 s.h, .int .i64 s.r]) true).run Try.prog W' = .ok (.tuple #[.agg #[.slice none 0 0, .int .i64 0, .bool false], .bool false]) W') := ⟨hl⟩
   have hmm := @run_makeMap Try.prog
   clear hl hlk
   go_enter Try.func90, Try.ntmps90
   go_wp2_with (first | ((with_reducible refine qar (N := 5) rfl ?_); refine qap ?hg (N := 5) ?hd (cs := #[.int .i64 s.p, .int .i64 s.h, .int .i64 s.r]) (t := 123) ?hr ?_; (case hd => rfl); (case hg => rfl); (case hr => first | (go_simp; done) | (go_simp; rfl)); intro gs hg_gs w2 hbox hb; have BKgs := qab.mk hbox; have n_BKBn := qab.mk (qah BKBn.out hb); clear BKBn; have BKBn := n_BKBn; clear n_BKBn; have n_BKBk := qab.mk (qah BKBk.out hb); clear BKBk; have BKBk := n_BKBk; clear n_BKBk; have n_BKBd := qab.mk (qah BKBd.out hb); clear BKBd; have BKBd := n_BKBd; clear n_BKBd; have n_BKBs := qab.mk (qah BKBs.out hb); clear BKBs; have BKBs := n_BKBs; clear n_BKBs; have n_HB := qab.mk (qag HB.out hb); have GEgs : w.heap.size ≤ gs := (by rw [hg_gs]; exact HB.out.size); clear HB; have HB := n_HB; clear n_HB; clear hbox hb hg_gs) | ((with_reducible refine qar (N := 6) rfl ?_); refine qap ?hg (N := 6) ?hd (cs := #[.slice none 0 0, .int .i64 0, .bool false]) (t := 97) ?hr ?_; (case hd => rfl); (case hg => rfl); (case hr => first | (go_simp; done) | (go_simp; rfl)); intro gr hg_gr w3 hbox hb; have BKgr := qab.mk hbox; have n_BKBn := qab.mk (qah BKBn.out hb); clear BKBn; have BKBn := n_BKBn; clear n_BKBn; have n_BKBk := qab.mk (qah BKBk.out hb); clear BKBk; have BKBk := n_BKBk; clear n_BKBk; have n_BKBd := qab.mk (qah BKBd.out hb); clear BKBd; have BKBd := n_BKBd; clear n_BKBd; have n_BKBs := qab.mk (qah BKBs.out hb); clear BKBs; have BKBs := n_BKBs; clear n_BKBs; have n_BKgs := qab.mk (qah BKgs.out hb); clear BKgs; have BKgs := n_BKgs; clear n_BKgs; have n_HB := qab.mk (qag HB.out hb); have GEgr : w.heap.size ≤ gr := (by rw [hg_gr]; exact HB.out.size); clear HB; have HB := n_HB; clear n_HB; clear hbox hb hg_gr; have hfgs := qac BKgs.out; have hcgs_0 : w3.cell? ⟨gs, 0, none⟩ = some (.int .i64 s.p) := (qaa BKgs.out 0).trans rfl; have hcgs_1 : w3.cell? ⟨gs, 1, none⟩ = some (.int .i64 s.h) := (qaa BKgs.out 1).trans rfl; have hcgs_2 : w3.cell? ⟨gs, 2, none⟩ = some (.int .i64 s.r) := (qaa BKgs.out 2).trans rfl; have hfgr := qac BKgr.out; have hcgr_0 : w3.cell? ⟨gr, 0, none⟩ = some (.slice none 0 0) := (qaa BKgr.out 0).trans rfl; have hcgr_1 : w3.cell? ⟨gr, 1, none⟩ = some (.int .i64 0) := (qaa BKgr.out 1).trans rfl; have hcgr_2 : w3.cell? ⟨gr, 2, none⟩ = some (.bool false) := (qaa BKgr.out 2).trans rfl; have hfBn := qac BKBn.out; have hcBn_0 : w3.cell? ⟨E.Bn, 0, none⟩ = some (.slice E.A0 E.l0.length E.c0) := (qaa BKBn.out 0).trans rfl; have hcBn_1 : w3.cell? ⟨E.Bn, 1, none⟩ = some (.slice E.A1 E.l1.length E.c1) := (qaa BKBn.out 1).trans rfl; have hcBn_2 : w3.cell? ⟨E.Bn, 2, none⟩ = some (.slice E.A2 E.l2.length E.c2) := (qaa BKBn.out 2).trans rfl; have hcBn_3 : w3.cell? ⟨E.Bn, 3, none⟩ = some (.int .i64 E.wp) := (qaa BKBn.out 3).trans rfl; have hfBk := qac BKBk.out; have hcBk_0 : w3.cell? ⟨E.Bk, 0, none⟩ = some (.map (some E.m)) := (qaa BKBk.out 0).trans rfl; have hfBd := qac BKBd.out; have hcBd_0 : w3.cell? ⟨E.Bd, 0, none⟩ = some (.slice E.Ad E.D.length E.cd) := (qaa BKBd.out 0).trans rfl; have hfBs := qac BKBs.out; have hcBs_0 : w3.cell? ⟨E.Bs, 0, none⟩ = some (.func (.func 90) #[] #[.pointer (some ⟨E.Bn, 0, none⟩), .pointer (some ⟨E.Bk, 0, none⟩), .pointer (some ⟨E.Bd, 0, none⟩), .pointer (some ⟨E.Bs, 0, none⟩)]) := (qaa BKBs.out 0).trans rfl; have hl3 := HL.out w3 (HB.out.block _ HLT.out); have hraw := qaj (qaj (qaj BKgs.out (.cells #[.slice none 0 0, .int .i64 0, .bool false] 97)) (.map #[] 0)) (.cells #[.map (some (w3.heap.size + 1))] 125); have hrc := qaa hraw 2; clear hraw; simp only [List.getElem?_toArray, List.getElem?_cons_succ, List.getElem?_cons_zero] at hrc) | (go_at_call 76; obtain ⟨w5, hw5, b7, bm, bw, hsz5, hb5⟩ := allocs3 w3 (.cells #[.slice none 0 0, .int .i64 0, .bool false] 97) (.map #[] 0) (.cells #[.map (some (w3.heap.size + 1))] 125); rw [hw5]; clear hw5 hrc hl3; refine (loops_calls s.r w5).mono ?_; rintro e w6 ⟨BB, rfl, hBB, hge, hb6⟩))
   have hbw6 : Below w.heap.size w w6 := qag (qag HB.out hb5) hb6
   have xgs6 := qah (qah BKgs.out hb5) hb6
   have xgr6 := qah (qah BKgr.out hb5) hb6
   have xw6 := qah bw hb6
   have xm6 := qah bm hb6
   have lgr := blk_lt BKgr.out
   have l3 := HB.out.size
   have lE := HLT.out
   have lw0 := HI.out.hb.size
   have nsr : gs ≠ gr := blk_ne BKgs.out BKgr.out (by decide)
   have hinv6 : Inv91 E s gs (w3.heap.size + 1 + 1) (w3.heap.size + 1) (fun k => A k ∨ k = gr) w6 := by
    refine ⟨(HI.out.imp (A' := fun k => A k ∨ k = gr) (fun k hk => ?_)).step (KB.of_below hbw6 _), ?_, ?_, ?_, xgs6, xw6, ⟨#[], 0, [], xm6, rfl, by simp, fun i k e h _ => by simp at h, fun k hk => hk.elim⟩, by omega, by omega⟩
    ·
     rcases hk with hk | hk
     ·
      exact ⟨HI.out.lo k hk, .inl hk⟩
     ·
      exact ⟨by omega, .inr (by omega)⟩
    ·
     rintro (hk | hk)
     ·
      have := hA _ hk
      omega
     ·
      exact nsr hk
    ·
     rintro (hk | hk)
     ·
      have := hA _ hk
      omega
     ·
      omega
    ·
     rintro (hk | hk)
     ·
      have := hA _ hk
      omega
     ·
      omega
   have l6 : w3.heap.size + 3 ≤ w6.heap.size := by have := hb6.size; omega
   have lBB := blk_lt hBB
   have hA6 : ∀ k, (A k ∨ k = gr) → k < w6.heap.size := fun k hk => by
    rcases hk with hk | hk
    ·
     have := hA k hk
     omega
    ·
     omega
   have hcall := greatest91_calls (p := fun x => x ∈ loopsOf s.r 5) (gf := 97) (lb := #[.pointer (some ⟨BB, 0, none⟩)]) (enters_of Try.func97 (by kernel_rfl) rfl) (Bn := BB) (w := w6) lBB (fun n hn => loops_stops n hn s.r HS.out.1.1 BB w6 hBB) (loopsOf s.r 5) (fun xs h => h)
    (Inv91.held (E := E) (s := s) (gs := gs) (gw := w3.heap.size + 1 + 1) (mw := w3.heap.size + 1) (B := w6.heap.size) (by omega) (by omega) (by omega)) (fun k => k = E.m ∨ k = w3.heap.size + 1) (fun k hk => by omega)
    (fun k => A k ∨ k = gr) (.pointer (some ⟨E.Bn, 0, none⟩)) (.pointer (some ⟨gs, 0, none⟩)) (.pointer (some ⟨E.Bd, 0, none⟩)) (.pointer (some ⟨E.Bs, 0, none⟩)) (.pointer (some ⟨w3.heap.size + 1 + 1, 0, none⟩)) (ofV E.l0 E.l2 E.D E.S s)
    (fun A' W' x hx hA' hi' => of91_calls E HE.out s HS.out gs _ _ HIH.out x hx A' W' hi' hA') hinv6 hA6
   refine hcall.mono ?_
   rintro e w7 ⟨rfl, i7, k7⟩
   have hg7 : w6.heap.size ≤ w7.heap.size := k7.size
   clear hcall hinv6 xgs6 xw6 xm6
   generalize hgm : g1 (ofV E.l0 E.l2 E.D E.S s) (loopsOf s.r 5) = g
   obtain ⟨ga, gb, gf⟩ := g
   try dsimp only
   have xgr7 := k7.blk xgr6 (by rintro (hk | hk) <;> omega)
   have hb8 := qae (Below.refl w7.heap.size w7) (.cells #[.slice none 0 0, .int .i64 gb, .bool gf] 97)
   have env8 : EnvInv E (fun k => A k ∨ k = gr ∨ k = w7.heap.size) (w7.alloc (.cells #[.slice none 0 0, .int .i64 gb, .bool gf] 97)) := by
    refine (i7.env.imp (fun k hk => ?_)).step (KB.of_below hb8 _)
    have := i7.env.hb.size
    rcases hk with hk | hk | hk
    ·
     exact ⟨HI.out.lo k hk, .inl (.inl hk)⟩
    ·
     exact ⟨by omega, .inl (.inr hk)⟩
    ·
     exact ⟨by omega, .inr (by omega)⟩
   have xgs8 := qah i7.xs hb8
   have xgr8 := qah xgr7 hb8
   have xt8 := blk_new w7 (.cells #[.slice none 0 0, .int .i64 gb, .bool gf] 97)
   have k67 : KB (fun k => k = E.m) w w7 := (KB.of_below hbw6 (fun k => k = E.m)).trans k7 (fun k hk => by
    rcases hk with hk | hk
    ·
     exact .inl hk
    ·
     exact .inr (by omega))
   have k8 := k67.then_below hb8
   have nrt : gr ≠ w7.heap.size := by omega
   have hS : E.S s = (if gf = true then sameV E.l0 E.l2 E.D E.S gb 5 (repV E.l0 E.l2 E.D s ga).1 [ga] else [], gb, gf) := by
    have h := HSE.out
    unfold stepV at h
    rw [if_neg hz] at h
    have hgm' : g1 (ofV E.l0 E.l2 E.D (bestV E.l0 E.l1 E.l2 E.D) s) (loopsOf s.r 5) = (ga, gb, gf) := hgm
    rw [hgm'] at h
    exact h
   have c8k : (w7.alloc (.cells #[.slice none 0 0, .int .i64 gb, .bool gf] 97)).cell? ⟨E.Bk, 0, none⟩ = some (.map (some E.m)) := qaa env8.xk 0
   have c8s0 : (w7.alloc (.cells #[.slice none 0 0, .int .i64 gb, .bool gf] 97)).cell? ⟨gs, 0, none⟩ = some (.int .i64 s.p) := qaa xgs8 0
   have c8s1 : (w7.alloc (.cells #[.slice none 0 0, .int .i64 gb, .bool gf] 97)).cell? ⟨gs, 1, none⟩ = some (.int .i64 s.h) := qaa xgs8 1
   have c8s2 : (w7.alloc (.cells #[.slice none 0 0, .int .i64 gb, .bool gf] 97)).cell? ⟨gs, 2, none⟩ = some (.int .i64 s.r) := qaa xgs8 2
   cases gf with
   | false =>
    simp only [Bool.false_eq_true, if_false] at hS
    have hpt := put_tail env8 HE.out.bm HS.out.1 (.slice none 0 0) (by rw [hS]; exact Kd.R_nil _ _ _ _ _)
    rw [hS] at hpt
    obtain ⟨w9, hrun, env9, row9, k9⟩ := hpt
    try dsimp only at hrun
    have nm : ∀ {g : Nat} {cs : Array Value} {t : TypeId}, (w7.alloc (.cells #[.slice none 0 0, .int .i64 gb, .bool false] 97)).heap[g]? = some (.cells cs t (0, 0)) → ¬ g = E.m := fun hg => env8.map.noCells hg
    have xt9 := k9.blk xt8 (nm xt8)
    have xr9 := k9.blk xgr8 (nm xgr8)
    have c9t0 : w9.cell? ⟨w7.heap.size, 0, none⟩ = some (.slice none 0 0) := qaa xt9 0
    have c9t1 : w9.cell? ⟨w7.heap.size, 1, none⟩ = some (.int .i64 gb) := qaa xt9 1
    have c9t2 : w9.cell? ⟨w7.heap.size, 2, none⟩ = some (.bool false) := qaa xt9 2
    have c9r0 : w9.cell? ⟨gr, 0, none⟩ = some (.slice none 0 0) := qaa xr9 0
    have c9r1 : w9.cell? ⟨gr, 1, none⟩ = some (.int .i64 0) := qaa xr9 1
    have c9r2 : w9.cell? ⟨gr, 2, none⟩ = some (.bool false) := qaa xr9 2
    have z9 : ∀ i, w9.frozen? ⟨gr, i, none⟩ = false := qac xr9
    have ENV9 := qab.mk env9
    have K89 := qab.mk (k8.trans k9 (fun k e => .inl e))
    have XR9 := qab.mk xr9
    clear env9 k9 k8 row9 nm xt9 xr9 env8 xgs8 xgr8 xt8 hb8 xgr7 k7 i7 hgm
    go_wp2_with fail
    refine bodyPost_ret (results_cell_row rfl _ _ gr 97 _ (0, 0) _ rfl (blk_set (blk_set (blk_set XR9.out 0 _) 1 _) 2 _) hu97 rfl (by kernel_rfl)) rfl ?_
    have kset : ∀ T : Nat → Prop, T gr → KB T w9 (((w9.setCell ⟨gr, 0, none⟩ (.slice none 0 0)).setCell ⟨gr, 1, none⟩ (.int .i64 gb)).setCell ⟨gr, 2, none⟩ (.bool false)) := fun T t1 => (((KB.refl T w9).set (p := ⟨gr, 0, none⟩) (.inl t1) _).set (p := ⟨gr, 1, none⟩) (.inl t1) _).set (p := ⟨gr, 2, none⟩) (.inl t1) _
    have hAA : ∀ k, A k → E.w0.heap.size ≤ k ∧ ((A k ∨ k = gr ∨ k = w7.heap.size) ∨ (((w9.setCell ⟨gr, 0, none⟩ (.slice none 0 0)).setCell ⟨gr, 1, none⟩ (.int .i64 gb)).setCell ⟨gr, 2, none⟩ (.bool false)).heap.size ≤ k) := fun k hk => ⟨HI.out.lo k hk, .inl (.inl hk)⟩
    refine ⟨.slice none 0 0, by rw [hS]; rfl, by rw [hS]; exact Kd.R_nil _ _ _ _ _, (ENV9.out.step (kset _ (.inr (.inl rfl)))).imp hAA, K89.out.trans (kset (fun k => w.heap.size ≤ k) GEgr) (fun k e => .inr e)⟩
   | true =>
    simp only [if_true] at hS
    have hm := g1_mem (ofV E.l0 E.l2 E.D E.S s) (loopsOf s.r 5) (by rw [hgm])
    rw [hgm] at hm
    have hy := ofV_yes E.l0 E.l2 E.D E.S s ga gb hm.2
    have hA8 : ∀ k, (A k ∨ k = gr ∨ k = w7.heap.size) → k < (w7.alloc (.cells #[.slice none 0 0, .int .i64 gb, .bool true] 97)).heap.size := fun k hk => by
     simp
     rcases hk with hk | hk | hk
     ·
      have := hA k hk
      omega
     ·
      omega
     ·
      omega
    have hsame := same_calls E HE.out s HS.out ga gb hm.1 hy.1 hy.2.2 (by have := hy.2.1; omega) HIH.out _ _ env8 hA8
    have c8n0 : (w7.alloc (.cells #[.slice none 0 0, .int .i64 gb, .bool true] 97)).cell? ⟨E.Bn, 0, none⟩ = some (.slice E.A0 E.l0.length E.c0) := qaa env8.xn 0
    have c8n1 : (w7.alloc (.cells #[.slice none 0 0, .int .i64 gb, .bool true] 97)).cell? ⟨E.Bn, 1, none⟩ = some (.slice E.A1 E.l1.length E.c1) := qaa env8.xn 1
    have c8n2 : (w7.alloc (.cells #[.slice none 0 0, .int .i64 gb, .bool true] 97)).cell? ⟨E.Bn, 2, none⟩ = some (.slice E.A2 E.l2.length E.c2) := qaa env8.xn 2
    have c8n3 : (w7.alloc (.cells #[.slice none 0 0, .int .i64 gb, .bool true] 97)).cell? ⟨E.Bn, 3, none⟩ = some (.int .i64 E.wp) := qaa env8.xn 3
    have c8d : (w7.alloc (.cells #[.slice none 0 0, .int .i64 gb, .bool true] 97)).cell? ⟨E.Bd, 0, none⟩ = some (.slice E.Ad E.D.length E.cd) := qaa env8.xd 0
    have c8s : (w7.alloc (.cells #[.slice none 0 0, .int .i64 gb, .bool true] 97)).cell? ⟨E.Bs, 0, none⟩ = some (SEARCHF E) := qaa env8.xs 0
    have HSAME := qab.mk hsame
    have ENV8 := qab.mk env8
    have XG8 := qab.mk xgs8
    have XR8 := qab.mk xgr8
    have XT8 := qab.mk xt8
    have K8 := qab.mk k8
    have HSS := qab.mk hS
    clear hsame env8 xgs8 xgr8 xt8 k8 hS hm hy hgm hA8 hb8 xgr7 k7 i7
    go_wp2_with fail
    refine HSAME.out.mono ?_
    rintro e w9 ⟨v, rfl, hrow, henv, hkb⟩
    obtain ⟨vA, vn, vc, rfl⟩ := R_shape hrow
    clear c8k c8s0 c8s1 c8s2 c8n0 c8n1 c8n2 c8n3 c8d c8s
    have nm : ∀ {g : Nat} {cs : Array Value} {t : TypeId}, (w7.alloc (.cells #[.slice none 0 0, .int .i64 gb, .bool true] 97)).heap[g]? = some (.cells cs t (0, 0)) → ¬ g = E.m := fun hg => ENV8.out.map.noCells hg
    have xt9 := hkb.blk XT8.out (nm XT8.out)
    have xg9 := hkb.blk XG8.out (nm XG8.out)
    have xr9 := hkb.blk XR8.out (nm XR8.out)
    have t9 : w9.cell? ⟨w7.heap.size, 0, none⟩ = some (.slice none 0 0) := qaa xt9 0
    have z9 : w9.frozen? ⟨w7.heap.size, 0, none⟩ = false := qac xt9 0
    have kst : KB (fun k => A k ∨ k = gr ∨ k = w7.heap.size) w9 (w9.setCell ⟨w7.heap.size, 0, none⟩ (.slice vA vn vc)) := (KB.refl _ w9).set (p := ⟨w7.heap.size, 0, none⟩) (.inl (.inr (.inr rfl))) _
    have kst2 : KB (fun k => w.heap.size ≤ k) w9 (w9.setCell ⟨w7.heap.size, 0, none⟩ (.slice vA vn vc)) := (KB.refl _ w9).set (p := ⟨w7.heap.size, 0, none⟩) (.inl (by show w.heap.size ≤ w7.heap.size; omega)) _
    have env10 := henv.step kst
    have row10 : E.Row (fun k => A k ∨ k = gr ∨ k = w7.heap.size) (w9.setCell ⟨w7.heap.size, 0, none⟩ (.slice vA vn vc)) (.slice vA vn vc) (E.S s).1 := by rw [HSS.out]; exact kst.R hrow (fun k hk => hk.2)
    have xt10 := blk_set xt9 0 (.slice vA vn vc)
    have nst : gs ≠ w7.heap.size := blk_ne xg9 xt9 (by decide)
    have xg10 := blk_far (p := ⟨w7.heap.size, 0, none⟩) xg9 nst (.slice vA vn vc)
    have xr10 := blk_far (p := ⟨w7.heap.size, 0, none⟩) xr9 nrt (.slice vA vn vc)
    have k10 := (K8.out.trans hkb (fun k e => .inl e)).trans kst2 (fun k e => .inr e)
    have hpt := put_tail env10 HE.out.bm HS.out.1 (.slice vA vn vc) row10
    rw [HSS.out] at hpt
    obtain ⟨w11, hrun, env11, row11, k11⟩ := hpt
    try dsimp only at hrun
    have nm2 : ∀ {g : Nat} {cs : Array Value} {t : TypeId}, (w9.setCell ⟨w7.heap.size, 0, none⟩ (.slice vA vn vc)).heap[g]? = some (.cells cs t (0, 0)) → ¬ g = E.m := fun hg => env10.map.noCells hg
    have xt11 := k11.blk xt10 (nm2 xt10)
    have xr11 := k11.blk xr10 (nm2 xr10)
    have d0 : (w9.setCell ⟨w7.heap.size, 0, none⟩ (.slice vA vn vc)).cell? ⟨E.Bk, 0, none⟩ = some (.map (some E.m)) := qaa env10.xk 0
    have d1 : (w9.setCell ⟨w7.heap.size, 0, none⟩ (.slice vA vn vc)).cell? ⟨gs, 0, none⟩ = some (.int .i64 s.p) := qaa xg10 0
    have d2 : (w9.setCell ⟨w7.heap.size, 0, none⟩ (.slice vA vn vc)).cell? ⟨gs, 1, none⟩ = some (.int .i64 s.h) := qaa xg10 1
    have d3 : (w9.setCell ⟨w7.heap.size, 0, none⟩ (.slice vA vn vc)).cell? ⟨gs, 2, none⟩ = some (.int .i64 s.r) := qaa xg10 2
    have d4 : (w9.setCell ⟨w7.heap.size, 0, none⟩ (.slice vA vn vc)).cell? ⟨w7.heap.size, 0, none⟩ = some (.slice vA vn vc) := qaa xt10 0
    have d5 : (w9.setCell ⟨w7.heap.size, 0, none⟩ (.slice vA vn vc)).cell? ⟨w7.heap.size, 1, none⟩ = some (.int .i64 gb) := qaa xt10 1
    have d6 : (w9.setCell ⟨w7.heap.size, 0, none⟩ (.slice vA vn vc)).cell? ⟨w7.heap.size, 2, none⟩ = some (.bool true) := qaa xt10 2
    have e0 : w11.cell? ⟨w7.heap.size, 0, none⟩ = some (.slice vA vn vc) := qaa xt11 0
    have e1 : w11.cell? ⟨w7.heap.size, 1, none⟩ = some (.int .i64 gb) := qaa xt11 1
    have e2 : w11.cell? ⟨w7.heap.size, 2, none⟩ = some (.bool true) := qaa xt11 2
    have e3 : w11.cell? ⟨gr, 0, none⟩ = some (.slice none 0 0) := qaa xr11 0
    have e4 : w11.cell? ⟨gr, 1, none⟩ = some (.int .i64 0) := qaa xr11 1
    have e5 : w11.cell? ⟨gr, 2, none⟩ = some (.bool false) := qaa xr11 2
    have z11 : ∀ i, w11.frozen? ⟨gr, i, none⟩ = false := qac xr11
    have ENV11 := qab.mk env11
    have K11 := qab.mk (k10.trans k11 (fun k e => .inl e))
    have XR11 := qab.mk xr11
    have ROW11 := qab.mk row11
    clear env11 k11 row11 xr11 xt11 nm nm2 k10 env10 row10 xt10 xg10 xr10 kst kst2 xt9 xg9 xr9 henv hkb hrow
    go_wp2_with fail
    refine bodyPost_ret (results_cell_row rfl _ _ gr 97 _ (0, 0) _ rfl (blk_set (blk_set (blk_set XR11.out 0 _) 1 _) 2 _) hu97 rfl (by kernel_rfl)) rfl ?_
    have kset : ∀ T : Nat → Prop, T gr → KB T w11 (((w11.setCell ⟨gr, 0, none⟩ (.slice vA vn vc)).setCell ⟨gr, 1, none⟩ (.int .i64 gb)).setCell ⟨gr, 2, none⟩ (.bool true)) := fun T t1 => (((KB.refl T w11).set (p := ⟨gr, 0, none⟩) (.inl t1) _).set (p := ⟨gr, 1, none⟩) (.inl t1) _).set (p := ⟨gr, 2, none⟩) (.inl t1) _
    have hAA : ∀ k, A k → E.w0.heap.size ≤ k ∧ ((A k ∨ k = gr ∨ k = w7.heap.size) ∨ (((w11.setCell ⟨gr, 0, none⟩ (.slice vA vn vc)).setCell ⟨gr, 1, none⟩ (.int .i64 gb)).setCell ⟨gr, 2, none⟩ (.bool true)).heap.size ≤ k) := fun k hk => ⟨HI.out.lo k hk, .inl (.inl hk)⟩
    refine ⟨.slice vA vn vc, by rw [HSS.out]; rfl, ?_, (ENV11.out.step (kset _ (.inr (.inl rfl)))).imp hAA, K11.out.trans (kset (fun k => w.heap.size ≤ k) GEgr) (fun k e => .inr e)⟩
    have hrr := (kset (fun k => A k ∨ k = gr ∨ k = w7.heap.size) (.inr (.inl rfl))).R ROW11.out (fun k hk => hk.2)
    rw [HSS.out]
    exact Kd.R_mono hrr (fun k hk => ⟨hk.1, fun ha => hk.2 (.inl ha)⟩)
end Go.Proofs.Ytipphcjgdebecaa.PA
namespace Go.Proofs.Ytipphcjgdebecaa.PA
open Go.RowKit Go.Proofs.YtipphcjgdebecaaW.PrintWords Go.Proofs.YtipphcjgdebecaaW.PrintLast Go.Proofs.YtipphcjgdebecaaW.PrintMore
attribute [local go_sem] max2_int min2_int max_two min_two max_three min_three max_four min_four
theorem search_all (E : OE) (hE : E.Fit) : ∀ (c : Nat) (s : Sp), E.At s → cntB s.r ≤ c → SearchC E s := by
 intro c
 induction c with
 | zero => exact fun s hs hc => search_step E hE s hs (fun s' _ h => by omega)
 | succ c ih => exact fun s hs hc => search_step E hE s hs (fun s' hs' h => ih s' hs' (by omega))
theorem bit_low : (List.range 32).all (fun r => (List.range 5).all fun i => !(bitB r i) || decide (2 ^ i ≤ r)) = true := by kernel_rfl
theorem bit_le (r : Int) (h0 : 0 ≤ r) (h1 : r < 32) (k : Nat) (hk : k < 5) (hb : bitB r k = true) : (2 : Int) ^ k ≤ r := by
 obtain ⟨n, rfl⟩ := Int.eq_ofNat_of_zero_le h0
 have h := bit_low
 rw [List.all_eq_true] at h
 have h2 := h n (by simp; omega)
 rw [List.all_eq_true] at h2
 have h3 := h2 k (by simp; omega)
 rw [hb] at h3
 simp only [Bool.not_true, Bool.false_or, decide_eq_true_eq] at h3
 exact_mod_cast h3
theorem valid_lens {l0 : List S39} {l1 : List S37} {l2 : List (List Int)} (h : validB l0 l1 l2 = true) : l2.length = l0.length + 1 ∧ 1 ≤ l0.length ∧ l0.length ≤ 5 ∧ 1 ≤ l1.length ∧ l1.length ≤ 72 ∧ ∀ p : Int, 0 ≤ p → p ≤ l0.length → (rd_L1 l2 p).length = l0.length + 1 := by
 unfold validB inB at h
 simp only [Bool.and_eq_true, decide_eq_true_eq] at h
 obtain ⟨h1, h2, ⟨h3, h4⟩, ⟨h5, h6⟩, _⟩ := h
 refine ⟨by omega, by omega, by omega, by omega, by omega, fun p p0 p1 => ?_⟩
 unfold waysB at h2
 rw [List.all_eq_true] at h2
 have h7 := h2 p.toNat (by simp; omega)
 unfold rowB at h7
 simp only [Bool.and_eq_true, decide_eq_true_eq] at h7
 have h8 := h7.1
 unfold rd_L1
 omega
def duesV (l0 : List S39) (l1 : List S37) (l2 : List (List Int)) (wp : Int) (n : Nat) : List Int := (List.range n).map fun i : Nat => (pipe_net_due.f l0 l1 l2 wp (i : Int)).getD 0
theorem duesV_succ (l0 : List S39) (l1 : List S37) (l2 : List (List Int)) (wp : Int) (n : Nat) : duesV l0 l1 l2 wp (n + 1) = duesV l0 l1 l2 wp n ++ [(pipe_net_due.f l0 l1 l2 wp (n : Int)).getD 0] := by simp [duesV, List.range_succ]
theorem duesV_length (l0 : List S39) (l1 : List S37) (l2 : List (List Int)) (wp : Int) (n : Nat) : (duesV l0 l1 l2 wp n).length = n := by simp [duesV]
theorem due_some (l0 : List S39) (l1 : List S37) (l2 : List (List Int)) (wp : Int) (i : Int) (h0 : 0 ≤ i) (h1 : i < l0.length) (hw : 0 ≤ wp) (hn : l1.length ≤ 1000) : pipe_net_due.f l0 l1 l2 wp i = some ((pipe_net_due.f l0 l1 l2 wp i).getD 0) := by
 unfold pipe_net_due.f pipe_net_freezes.f
 rw [if_pos ⟨h0, h1, hw, hn⟩]
 simp only [Option.bind_some]
 split <;> rfl
def DInv (w W : World) (gb gr gd : Nat) (cb cr : Array Value) (v : Value) (xs : List Int) : Prop :=
 W.heap[gb]? = some (.cells cb 99 (0, 0)) ∧ W.heap[gr]? = some (.cells cr 97 (0, 0)) ∧ W.heap[gd]? = some (.cells #[v] 47 (0, 0)) ∧ Kd.R (Kd.int .i64) 3 W w.heap.size (fun _ => True) v xs ∧ Below w.heap.size w W ∧ w.heap.size ≤ gd
theorem DInv.below {w W W1 : World} {gb gr gd : Nat} {cb cr : Array Value} {v : Value} {xs : List Int} (h : DInv w W gb gr gd cb cr v xs) (hb : Below W.heap.size W W1) : DInv w W1 gb gr gd cb cr v xs := by
 obtain ⟨a, b, c, d, e, f⟩ := h
 exact ⟨qah a hb, qah b hb, qah c hb, Kd.R_below d hb, qag e hb, f⟩
theorem DInv.put {w W W1 : World} {gb gr gd : Nat} {cb cr : Array Value} {v v1 : Value} {xs : List Int} {x : Int} (h : DInv w W gb gr gd cb cr v xs) (ho : Kd.R (Kd.int .i64) 3 W1 w.heap.size (fun _ => True) v1 (xs ++ [x])) (hB : Below w.heap.size w W1) (hg : W.grownBy W1 v.ownBlock) : DInv w (W1.setCell ⟨gd, 0, none⟩ v1) gb gr gd cb cr v1 (xs ++ [x]) := by
 obtain ⟨a, b, c, d, e, f⟩ := h
 have a1 := blk_grown a hg (Kd.R_ne d a (by decide))
 have b1 := blk_grown b hg (Kd.R_ne d b (by decide))
 have c1 := blk_grown c hg (Kd.R_ne d c (by decide))
 exact ⟨blk_far a1 (p := ⟨gd, 0, none⟩) (blk_ne a c (by decide)) _, blk_far b1 (p := ⟨gd, 0, none⟩) (blk_ne b c (by decide)) _, blk_set c1 0 v1, Kd.R_set ho c1 (by decide) 0 v1, qai hB f, f⟩
theorem store_func (W : World) (g : Nat) (f : Fn) (a b : Array Value) (u : Value) (hc : W.cell? ⟨g, 0, none⟩ = some u) (hf : W.frozen? ⟨g, 0, none⟩ = false) : (store ⟨g, 0, none⟩ (.func f a b)).run Try.prog W = .ok () (W.setCell ⟨g, 0, none⟩ (.func f a b)) := by
 rw [run_store _ _ _ _ _ rfl]
 simp [stored, hc, hf]
def pipe_net_order.f (l0_0 : List (S39)) (l0_1 : List (S37)) (l0_2 : List (List Int)) (a0_3 : Int) (a1 : Int) (a2 : Int) : Option (List Int × Int × Bool) := if validB l0_0 l0_1 l0_2 = true ∧ 0 ≤ a0_3 ∧ 0 ≤ a1 ∧ a1 ≤ l0_0.length ∧ 0 ≤ a2 ∧ a2 < 2 ^ l0_0.length then some (bestV l0_0 l0_1 l0_2 (duesV l0_0 l0_1 l0_2 a0_3 l0_0.length) ⟨a1, 0, a2⟩) else none
set_option maxHeartbeats 8000000 in
set_option maxRecDepth 100000 in
theorem pipe_net_order.calls (A0_0 : Option Addr) (c0_0 : Nat) (l0_0 : List (S39)) (A0_1 : Option Addr) (c0_1 : Nat) (l0_1 : List (S37)) (A0_2 : Option Addr) (c0_2 : Nat) (l0_2 : List (List Int)) (a0_3 : Int) (a1 : Int) (a2 : Int) (r1 : List Int) (r2 : Int) (r3 : Bool) (w : World) (hr0_0 : Kd.C k39 w A0_0 l0_0.length l0_0) (hc0_0 : l0_0.length ≤ c0_0) (hr0_1 : Kd.C k37 w A0_1 l0_1.length l0_1) (hc0_1 : l0_1.length ≤ c0_1) (hr0_2 : Kd.C (Kd.slice 3 (Kd.int .i64)) w A0_2 l0_2.length l0_2) (hc0_2 : l0_2.length ≤ c0_2) (h : pipe_net_order.f l0_0 l0_1 l0_2 a0_3 a1 a2 = some (r1, r2, r3)) :
  Calls Try.prog 64 #[.agg #[.slice A0_0 l0_0.length c0_0, .slice A0_1 l0_1.length c0_1, .slice A0_2 l0_2.length c0_2, .int .i64 a0_3], .int .i64 a1, .int .i64 a2] w fun e w' => ∃ v0_ : Value, e = .returned (.agg #[v0_, .int .i64 r2, .bool r3]) ∧ Kd.R (Kd.int .i64) 3 w' w.heap.size (fun _ => True) v0_ r1 ∧ Below w.heap.size w w' := by
 unfold pipe_net_order.f at h
 split at h
 case isFalse => cases h
 rename_i hc
 have h' := Option.some.inj h
 clear h
 have HF := qab.mk h'
 clear h'
 obtain ⟨q0, q1, q2, q3, q4, q5⟩ := hc
 have HV := qab.mk (valid_lens q0)
 clear q0
 have HR0 := qab.mk hr0_0
 have HR1 := qab.mk hr0_1
 have HR2 := qab.mk hr0_2
 clear hr0_0 hr0_1 hr0_2
 have hu99 := Try.underlying99
 have hu97 := Try.underlying97
 have hmm := @run_makeMap Try.prog
 have hmf : ∀ (fn : Fn) (first cap : Array Value) (w : World), (Instr.makeFunc fn first cap).run Try.prog w = .ok (.func fn first cap) w := fun _ _ _ _ => rfl
 have HB := qab.mk (Below.refl w.heap.size w)
 go_enter Try.func64, Try.ntmps64
 go_wp2_with ((first | ((with_reducible refine qar (N := 3) rfl ?_); refine qap ?hg (N := 3) ?hd (cs := #[.slice A0_0 l0_0.length c0_0, .slice A0_1 l0_1.length c0_1, .slice A0_2 l0_2.length c0_2, .int .i64 a0_3]) (t := 99) ?hr ?_; (case hd => rfl); (case hg => rfl); (case hr => first | (go_simp; done) | (go_simp; rfl)); intro gb hg_gb w2 hbox hb; have BKgb := qab.mk hbox; have n_HB := qab.mk (qag HB.out hb); have GEgb : w.heap.size ≤ gb := (by rw [hg_gb]; exact HB.out.size); clear HB; have HB := n_HB; clear n_HB; clear hbox hb hg_gb) | ((with_reducible refine qar (N := 6) rfl ?_); refine qap ?hg (N := 6) ?hd (cs := #[.slice none 0 0, .int .i64 0, .bool false]) (t := 97) ?hr ?_; (case hd => rfl); (case hg => rfl); (case hr => first | (go_simp; done) | (go_simp; rfl)); intro gr hg_gr w3 hbox hb; have BKgr := qab.mk hbox; have n_BKgb := qab.mk (qah BKgb.out hb); clear BKgb; have BKgb := n_BKgb; clear n_BKgb; have n_HB := qab.mk (qag HB.out hb); have GEgr : w.heap.size ≤ gr := (by rw [hg_gr]; exact HB.out.size); clear HB; have HB := n_HB; clear n_HB; clear hbox hb hg_gr) | ((with_reducible refine qar (N := 7) rfl ?_); refine qap ?hg (N := 7) ?hd (cs := #[.slice none 0 0]) (t := 47) ?hr ?_; (case hd => rfl); (case hg => rfl); (case hr => first | (go_simp; done) | (go_simp; rfl)); intro gd hg_gd w4 hbox hb; have BKgd := qab.mk hbox; have n_BKgb := qab.mk (qah BKgb.out hb); clear BKgb; have BKgb := n_BKgb; clear n_BKgb; have n_BKgr := qab.mk (qah BKgr.out hb); clear BKgr; have BKgr := n_BKgr; clear n_BKgr; have n_HB := qab.mk (qag HB.out hb); have GEgd : w.heap.size ≤ gd := (by rw [hg_gd]; exact HB.out.size); clear HB; have HB := n_HB; clear n_HB; clear hbox hb hg_gd; have hfgb := qac BKgb.out; have hcgb_0 : w4.cell? ⟨gb, 0, none⟩ = some (.slice A0_0 l0_0.length c0_0) := (qaa BKgb.out 0).trans rfl; have hcgb_1 : w4.cell? ⟨gb, 1, none⟩ = some (.slice A0_1 l0_1.length c0_1) := (qaa BKgb.out 1).trans rfl; have hcgb_2 : w4.cell? ⟨gb, 2, none⟩ = some (.slice A0_2 l0_2.length c0_2) := (qaa BKgb.out 2).trans rfl; have hcgb_3 : w4.cell? ⟨gb, 3, none⟩ = some (.int .i64 a0_3) := (qaa BKgb.out 3).trans rfl; have hfgr := qac BKgr.out; have hcgr_0 : w4.cell? ⟨gr, 0, none⟩ = some (.slice none 0 0) := (qaa BKgr.out 0).trans rfl; have hcgr_1 : w4.cell? ⟨gr, 1, none⟩ = some (.int .i64 0) := (qaa BKgr.out 1).trans rfl; have hcgr_2 : w4.cell? ⟨gr, 2, none⟩ = some (.bool false) := (qaa BKgr.out 2).trans rfl; have hfgd := qac BKgd.out; have hcgd_0 : w4.cell? ⟨gd, 0, none⟩ = some (.slice none 0 0) := (qaa BKgd.out 0).trans rfl)))
 clear hfgb hcgb_0 hcgb_1 hcgb_2 hcgb_3 hfgr hcgr_0 hcgr_1 hcgr_2 hfgd hcgd_0
 have hdi : qab (DInv w w4 gb gr gd #[.slice A0_0 l0_0.length c0_0, .slice A0_1 l0_1.length c0_1, .slice A0_2 l0_2.length c0_2, .int .i64 a0_3] #[.slice none 0 0, .int .i64 0, .bool false] (.slice none 0 0) []) := ⟨BKgb.out, BKgr.out, BKgd.out, Kd.R_nil _ _ _ _ _, HB.out, GEgd⟩
 clear BKgb BKgr BKgd HB
 go_loopw [8, 15] (fun s8 s15 wr_ => ∃ (k : Nat) (v_ : Value), k ≤ l0_0.length ∧ s15 = .int .i64 k ∧ qab (DInv w wr_ gb gr gd #[.slice A0_0 l0_0.length c0_0, .slice A0_1 l0_1.length c0_1, .slice A0_2 l0_2.length c0_2, .int .i64 a0_3] #[.slice none 0 0, .int .i64 0, .bool false] v_ (duesV l0_0 l0_1 l0_2 a0_3 k))) (fun _ s _ => l0_0.length - (intOf s).toNat)
 case atStart => exact ⟨0, _, by omega, rfl, hdi⟩
 case round =>
  clear hdi
  obtain ⟨wO, rfl⟩ : ∃ wo : World, wo = wr := ⟨_, rfl⟩
  obtain ⟨k, v_, hk, rfl, HI⟩ := hrel
  have HV1 := HV.out
  by_cases hlt : k < l0_0.length
  ·
   have hlt1 : (k : Int) < l0_0.length := by omega
   obtain ⟨vA, vn, vc, rfl⟩ := R_shape HI.out.2.2.2.1
   obtain ⟨dk, hdk⟩ : ∃ dk, dk = (pipe_net_due.f l0_0 l0_1 l0_2 a0_3 (k : Int)).getD 0 := ⟨_, rfl⟩
   have HDK := qab.mk hdk
   clear hdk
   have hdue : ∀ W, Below w.heap.size w W → Calls Try.prog 89 #[.agg #[.slice A0_0 l0_0.length c0_0, .slice A0_1 l0_1.length c0_1, .slice A0_2 l0_2.length c0_2, .int .i64 a0_3], .int .i64 k] W fun e w' => e = .returned (.int .i64 dk) ∧ Below W.heap.size W w' := fun W hW =>
    pipe_net_due.calls _ _ _ _ _ _ _ _ _ a0_3 k dk W (Kd.qam HR0.out hW) hc0_0 (Kd.qam HR1.out hW) hc0_1 (Kd.qam HR2.out hW) hc0_2 (by rw [HDK.out]; exact due_some _ _ _ _ _ (by omega) hlt1 q1 (by omega))
   have HDUE := qab.mk hdue
   clear hdue
   have htup : ∀ W, W.heap[gb]? = some (.cells #[.slice A0_0 l0_0.length c0_0, .slice A0_1 l0_1.length c0_1, .slice A0_2 l0_2.length c0_2, .int .i64 a0_3] 99 (0, 0)) → W.cell? ⟨gd, 0, none⟩ = some (.slice vA vn vc) → Below w.heap.size w W → W.cell? ⟨gb, 0, none⟩ = some (.slice A0_0 l0_0.length c0_0) ∧ W.cell? ⟨gb, 1, none⟩ = some (.slice A0_1 l0_1.length c0_1) ∧ W.cell? ⟨gb, 2, none⟩ = some (.slice A0_2 l0_2.length c0_2) ∧ W.cell? ⟨gb, 3, none⟩ = some (.int .i64 a0_3) ∧ W.cell? ⟨gd, 0, none⟩ = some (.slice vA vn vc) ∧ qab (Below w.heap.size w W) := fun W h hd hb =>
    ⟨qaa h 0, qaa h 1, qaa h 2, qaa h 3, hd, ⟨hb⟩⟩
   have hd0 := HI.out.below (below_drew (Below.refl wO.heap.size wO))
   have hgd0 : wO.drew.cell? ⟨gd, 0, none⟩ = some (.slice vA vn vc) := qaa hd0.2.2.1 0
   have HD0 := qab.mk hd0
   have HT := qab.mk htup
   have hk5 : k ≤ 5 := by omega
   clear htup HV1 hd0
   go_upto_region 5 with fail
   refine start_ (n := 7) (S := fun w' => w'.cell? ⟨gb, 0, none⟩ = some (.slice A0_0 l0_0.length c0_0) ∧ w'.cell? ⟨gb, 1, none⟩ = some (.slice A0_1 l0_1.length c0_1) ∧ w'.cell? ⟨gb, 2, none⟩ = some (.slice A0_2 l0_2.length c0_2) ∧ w'.cell? ⟨gb, 3, none⟩ = some (.int .i64 a0_3) ∧ w'.cell? ⟨gd, 0, none⟩ = some (.slice vA vn vc) ∧ qab (Below w.heap.size w w')) (ds := [6]) (msk 7 0) (by kernel_rfl) rfl rfl (HT.out wO.drew HD0.out.1 hgd0 HD0.out.2.2.2.2.1) (fun hHeld => ?_)
   refine take_ (i := 0) (N := some 18) (v := ?_) (a' := ?_) (msk 7 1) rfl rfl (by kernel_rfl) (fun _ _ _ h => h) (Or.inl ⟨by rfl, ?_⟩) hHeld ?_ ?_; rotate_left; (focus (rintro w' ⟨s0, s1, s2, s3, s4, s5⟩; go_simp; with_reducible rfl)); rotate_left; (focus (simp only [Act.put, List.setIfInBounds_toArray, List.set_cons_zero, List.set_cons_succ, i64_w, i32_w]; rfl))
   refine take_ (i := 1) (N := some 19) (v := ?_) (a' := ?_) (msk 7 2) rfl rfl (by kernel_rfl) (fun _ _ _ h => h) (Or.inl ⟨by rfl, ?_⟩) hHeld ?_ ?_; rotate_left; (focus (rintro w' ⟨s0, s1, s2, s3, s4, s5⟩; go_simp; with_reducible rfl)); rotate_left; (focus (simp only [Act.put, List.setIfInBounds_toArray, List.set_cons_zero, List.set_cons_succ, i64_w, i32_w]; rfl))
   refine pure_ (i := 2) (N := some 20) (v := ?_) (a' := ?_) (msk 7 3) rfl rfl (by kernel_rfl) (fun _ _ _ h => h) (Or.inl ⟨by rfl, ?_⟩) ?_ ?_; rotate_left; (focus (intro w'; go_simp; with_reducible rfl)); rotate_left; (focus (simp only [Act.put, List.setIfInBounds_toArray, List.set_cons_zero, List.set_cons_succ, i64_w, i32_w]; rfl))
   refine one_ (i := 3) (N := some 21) (msk 7 4) rfl rfl (by kernel_rfl) (by decide) (fun K hK => ?_)
   refine goes_ Try.func89 (by kernel_rfl) rfl #[.agg #[.slice A0_0 l0_0.length c0_0, .slice A0_1 l0_1.length c0_1, .slice A0_2 l0_2.length c0_2, .int .i64 a0_3], .int .i64 k] (by rfl) rfl rfl (by first | rfl | (simp only [List.map_toArray, List.map_cons, List.map_nil]; rfl)) ?_
   refine (HDUE.out _ hHeld.2.2.2.2.2.out).mono ?_; rintro e w5 ⟨rfl, hb⟩; have hd5 := DInv.below HD0.out hb; have HD5 := qab.mk hd5; clear hd5 hb; refine ⟨_, rfl, ?_⟩; refine hK.out _ _ (HT.out w5 HD5.out.1 (qaa HD5.out.2.2.1 0) HD5.out.2.2.2.2.1) (fun hHeld => ?_); clear hK K; refine norm_ (a' := ?_) ?_ ?_; rotate_left; (focus (show Act.put _ (some 21) _ = _; simp only [Act.put, List.setIfInBounds_toArray, List.set_cons_zero, List.set_cons_succ, i64_w, i32_w]; rfl))
   refine one_ (i := 4) (N := some 22) (msk 7 5) rfl rfl (by kernel_rfl) (by decide) (fun K hK => ?_)
   refine value_ (w1 := ?_) (v := ?_) (by rfl) rfl ?_ ?_; rotate_left 2; (focus (go_simp; constructor; rfl; rfl))
   have hd6 := HD5.out.below (qae (Below.refl w5.heap.size w5) (.cells #[.int .i64 dk] 3)); have HD6 := qab.mk hd6; clear hd6
   refine hK.out _ _ (HT.out _ HD6.out.1 (qaa HD6.out.2.2.1 0) HD6.out.2.2.2.2.1) (fun hHeld => ?_); clear hK K; refine norm_ (a' := ?_) ?_ ?_; rotate_left; (focus (show Act.put _ (some 22) _ = _; simp only [Act.put, List.setIfInBounds_toArray, List.set_cons_zero, List.set_cons_succ, i64_w, i32_w]; rfl))
   refine one_ (i := 5) (N := some 23) (msk 7 6) rfl rfl (by kernel_rfl) (by decide) (fun K hK => ?_)
   refine Kd.R_append_step (Kd.int .i64) (w0 := w) (W := w5) w.heap.size (by rfl) (.tmp 18) (.tmp 22) 47 3 (.int .i64 0) 8 (by rfl) Try.underlying47 info3 rfl (by decide) (by omega) (.slice vA vn vc) (duesV l0_0 l0_1 l0_2 a0_3 k) dk [.int .i64 dk] (fun _ => True) (fun _ => False) (by rfl) (by rfl) rfl (fun _ h => h.elim) (fun _ _ => trivial) HD5.out.2.2.2.1 HD5.out.2.2.2.2.1 HD5.out.2.2.2.2.1.size (by rw [duesV_length]; omega) ?_; intro v6 w6 ho hB hg hat; obtain ⟨uA, un, uc, rfl⟩ := R_shape ho; have hbg := blk_grown HD5.out.1 hg (Kd.R_ne HD5.out.2.2.2.1 HD5.out.1 (by decide)); have hbd := blk_grown HD5.out.2.2.1 hg (Kd.R_ne HD5.out.2.2.2.1 HD5.out.2.2.1 (by decide)); have hgd7 : w6.cell? ⟨gd, 0, none⟩ = some (.slice vA vn vc) := qaa hbd 0; have hfd7 : w6.frozen? ⟨gd, 0, none⟩ = false := qac hbd 0; have hd7 := HD5.out.put ho hB hg; have HD7 := qab.mk hd7; have HS3 := qab.mk (HT.out w6 hbg hgd7 hB); clear ho hB hg hat hbg hbd hd7
   refine hK.out _ _ HS3.out (fun hHeld => ?_); clear hK K; refine norm_ (a' := ?_) ?_ ?_; rotate_left; (focus (show Act.put _ (some 23) _ = _; simp only [Act.put, List.setIfInBounds_toArray, List.set_cons_zero, List.set_cons_succ, i64_w, i32_w]; rfl))
   refine last_ (i := 6) (N := none) (msk 7 7) rfl rfl (by kernel_rfl) (by decide) (fun K hK => ?_)
   refine skip_ (w1 := ?_) (by rfl) rfl ?_ ?_; rotate_left; (focus (go_simp; rfl))
   refine hK.out _ _ ?_; clear hK K hHeld; refine done_ (by kernel_rfl) ?_
   clear HD0 HD5 HD6 HS3 HT hgd0 hgd7 hfd7
   try go_wp2_with fail
   go_roundw
   case rel => exact ⟨k + 1, _, by omega, by go_num, ⟨by rw [duesV_succ, ← HDK.out]; exact HD7.out⟩⟩
   case measure => simp [intOf]; omega
  ·
   obtain rfl : k = l0_0.length := by omega
   obtain ⟨vA, vn, vc, rfl⟩ := R_shape HI.out.2.2.2.1
   have hstf := fun (W : World) (g : Nat) (f : Fn) (a b : Array Value) (hc : W.cell? ⟨g, 0, none⟩ = some .nilFunc) (hf : W.frozen? ⟨g, 0, none⟩ = false) => store_func W g f a b .nilFunc hc hf
   go_wp2_with fail
   have HE5 : qab (l0_0.length ≤ 5) := ⟨HV1.2.2.1⟩
   have hvn := (Kd.R_reads' HI.out.2.2.2.1).1
   subst hvn
   obtain ⟨E, hEe⟩ : ∃ E : OE, E = { w0 := w, A0 := A0_0, c0 := c0_0, l0 := l0_0, A1 := A0_1, c1 := c0_1, l1 := l0_1, A2 := A0_2, c2 := c0_2, l2 := l0_2, wp := a0_3, Bn := gb, Bk := wO.heap.size + 1, Bd := gd, Bs := wO.heap.size + 1 + 1, m := wO.heap.size, Ad := vA, cd := vc, D := duesV l0_0 l0_1 l0_2 a0_3 l0_0.length } := ⟨_, rfl⟩
   have hDO := HI.out
   have lO : w.heap.size ≤ wO.heap.size := hDO.2.2.2.2.1.size
   have hE : E.Fit := by
    subst hEe
    exact ⟨HR0.out, HR1.out, HR2.out, HV1.2.2.1, duesV_length _ _ _ _ _, HV1.1, HV1.2.2.2.2.2, GEgb, by show w.heap.size ≤ wO.heap.size + 1; omega, GEgd, by show w.heap.size ≤ wO.heap.size + 1 + 1; omega, lO⟩
   have hAt : E.At ⟨a1, 0, a2⟩ := by
    subst hEe
    have h32 : (2 : Int) ^ l0_0.length ≤ 32 := by
     have h := Nat.pow_le_pow_right (n := 2) (by decide) HV1.2.2.1
     have : ((2 ^ l0_0.length : Nat) : Int) ≤ ((2 ^ 5 : Nat) : Int) := Int.ofNat_le.2 h
     simpa using this
    refine ⟨⟨q4, by show a2 < 32; omega⟩, q2, q3, fun i hi => ?_⟩
    obtain ⟨k, rfl, hk, hb⟩ := (mem_loopsOf a2 5 i).1 hi
    have h1 := bit_le a2 q4 (by omega) k hk hb
    rcases Nat.lt_or_ge k l0_0.length with h2 | h2
    ·
     show (k : Int) < l0_0.length
     omega
    ·
     exfalso
     have h3 := Nat.pow_le_pow_right (n := 2) (by decide) h2
     have h4 : ((2 ^ l0_0.length : Nat) : Int) ≤ ((2 ^ k : Nat) : Int) := Int.ofNat_le.2 h3
     simp at h4
     omega
   obtain ⟨w5, hw5, bm5, bk5, bs5, hsz5, hb5⟩ := allocs3 wO (.map #[] 0) (.cells #[.map (some wO.heap.size)] 120) (.cells #[.func (.func 90) #[] #[.pointer (some ⟨gb, 0, none⟩), .pointer (some ⟨wO.heap.size + 1, 0, none⟩), .pointer (some ⟨gd, 0, none⟩), .pointer (some ⟨wO.heap.size + 1 + 1, 0, none⟩)]] 121)
   rw [hw5]
   clear hw5
   have hD5 := hDO.below hb5
   have lgr := blk_lt hDO.2.1
   have lgb := blk_lt hDO.1
   have lgd := blk_lt hDO.2.2.1
   have henv : EnvInv E (fun k => k = gr) w5 := by
    subst hEe
    refine ⟨blk_ne hD5.1 hD5.2.1 (by decide), by show ¬ wO.heap.size + 1 = gr; omega, blk_ne hD5.2.2.1 hD5.2.1 (by decide), by show ¬ wO.heap.size + 1 + 1 = gr; omega, by show ¬ wO.heap.size = gr; omega, fun k hk => by show w.heap.size ≤ k; omega, hD5.1, bk5, hD5.2.2.1, bs5, hD5.2.2.2.2.1, ?_, ⟨#[], 0, [], bm5, rfl, by simp, fun i k e h _ => by simp at h, fun k hk => hk.elim⟩⟩
    have hr1 := Kd.R_types (Kd.R_mono (Kd.R_bound hDO.2.2.2.1) (ok' := fun k => k < wO.heap.size) (fun k hk => hk.2.2.1)) hDO.2.1 (by decide)
    exact Kd.R_mono (Kd.R_below hr1 hb5) (fun k hk => ⟨by show ¬ k = wO.heap.size; omega, hk.2⟩)
   have hcall := search_all E hE 5 ⟨a1, 0, a2⟩ hAt (cnt_le _) (fun k => k = gr) w5 henv (fun k hk => by omega)
   have hS : E.S ⟨a1, 0, a2⟩ = (r1, r2, r3) := by subst hEe; exact HF.out
   rw [hS] at hcall
   subst hEe
   refine hcall.mono ?_
   rintro e w7 ⟨v, rfl, hrow, henv7, hkb⟩
   obtain ⟨uA, un, uc, rfl⟩ := R_shape hrow
   have xr7 := hkb.blk hD5.2.1 (by show ¬ gr = wO.heap.size; omega)
   have hb7 : Below w.heap.size w w7 := henv7.hb
   have ROW := qab.mk hrow
   have XR := qab.mk xr7
   have HB7 := qab.mk hb7
   have z7 : ∀ i, w7.frozen? ⟨gr, i, none⟩ = false := qac xr7
   have c70 : w7.cell? ⟨gr, 0, none⟩ = some (.slice none 0 0) := qaa xr7 0
   have c71 : w7.cell? ⟨gr, 1, none⟩ = some (.int .i64 0) := qaa xr7 1
   have c72 : w7.cell? ⟨gr, 2, none⟩ = some (.bool false) := qaa xr7 2
   clear hcall hrow henv7 hkb xr7 hb7 henv hE hAt hS hstf hDO hD5 HV1 bm5 bk5 bs5 hb5
   go_wp2_with fail
   refine bodyPost_ret (results_cell_row rfl _ _ gr 97 _ (0, 0) _ rfl (blk_set (blk_set (blk_set XR.out 0 _) 1 _) 2 _) hu97 rfl (by kernel_rfl)) rfl ?_
   refine ⟨.slice uA un uc, rfl, ?_, qai (qai (qai HB7.out GEgr) GEgr) GEgr⟩
   exact Kd.R_mono (Kd.R_set (Kd.R_set (Kd.R_set ROW.out XR.out (by decide) 0 _) (blk_set XR.out 0 _) (by decide) 1 _) (blk_set (blk_set XR.out 0 _) 1 _) (by decide) 2 _) (fun _ _ => trivial)
end Go.Proofs.Ytipphcjgdebecaa.PA
namespace Go.Proofs.Ytipphcjgdebecaa.PA
open Go.RowKit Go.Proofs.YtipphcjgdebecaaW.PrintWords Go.Proofs.YtipphcjgdebecaaW.PrintLast Go.Proofs.YtipphcjgdebecaaW.PrintMore
attribute [local go_sem] max2_int min2_int max_two min_two max_three min_three max_four min_four
def pipe_Order.j0 : Nat → Int → Int → Bool → List (S39) → List (S37) → List (List Int) → Option (List Int × Int × Int)
 | 0, _, _, _, _, _, _ => none
 | k + 1, x1, x2, x24, x130000, x130001, x130002 => if x24 = true then (some (([] : List Int), 0, 2)) else ((pipe_net_order.f x130000 x130001 x130002 0 x1 x2).bind fun bt133 => (if bt133.2.2 = true then (some (bt133.1, bt133.2.1, 0)) else (some (([] : List Int), 0, 5))))
def pipe_Order.f (k : Nat) (l0_0 : List (S39)) (l0_1 : List (S37)) (l0_2 : List (List Int)) (a1 : Int) (a2 : Int) : Option (List Int × Int × Int) := (pipe_valid.f l0_0 l0_1 l0_2).bind fun t130 => (if t130 = true then ((pipe_place.f l0_0 l0_1 l0_2 a1).bind fun t131 => (if t131 = true then ((pipe_fault.f l0_0 l0_1 l0_2 a2).bind fun t132 => (pipe_Order.j0 k a1 a2 (!t132) l0_0 l0_1 l0_2)) else (pipe_Order.j0 k a1 a2 true l0_0 l0_1 l0_2))) else (pipe_Order.j0 k a1 a2 true l0_0 l0_1 l0_2))
set_option maxHeartbeats 8000000 in
set_option maxRecDepth 100000 in
theorem pipe_Order.calls (k : Nat) (A0_0 : Option Addr) (c0_0 : Nat) (l0_0 : List (S39)) (A0_1 : Option Addr) (c0_1 : Nat) (l0_1 : List (S37)) (A0_2 : Option Addr) (c0_2 : Nat) (l0_2 : List (List Int)) (a1 : Int) (a2 : Int) (r1 : List Int) (r2 : Int) (r3 : Int) (w : World) (hr0_0 : Kd.C k39 w A0_0 l0_0.length l0_0) (hc0_0 : l0_0.length ≤ c0_0) (hr0_1 : Kd.C k37 w A0_1 l0_1.length l0_1) (hc0_1 : l0_1.length ≤ c0_1) (hr0_2 : Kd.C (Kd.slice 3 (Kd.int .i64)) w A0_2 l0_2.length l0_2) (hc0_2 : l0_2.length ≤ c0_2) (h : pipe_Order.f k l0_0 l0_1 l0_2 a1 a2 = some (r1, r2, r3)) :
  Calls Try.prog 24 #[.agg #[.slice A0_0 l0_0.length c0_0, .slice A0_1 l0_1.length c0_1, .slice A0_2 l0_2.length c0_2], .int .i64 a1, .int .i64 a2] w fun e w' => ∃ v0_ : Value, e = .returned (.tuple #[v0_, .int .i64 r2, .int .i64 r3]) ∧ Kd.R (Kd.int .i64) 3 w' w.heap.size (fun _ => True) v0_ r1 ∧ Below w.heap.size w w' := by
 have hu26 := Try.underlying26
 have hu99 := Try.underlying99
 have hu97 := Try.underlying97
 have HR0_0 := qab.mk hr0_0
 have HC0_0 := qab.mk hc0_0
 clear hr0_0 hc0_0
 have HR0_1 := qab.mk hr0_1
 have HC0_1 := qab.mk hc0_1
 clear hr0_1 hc0_1
 have HR0_2 := qab.mk hr0_2
 have HC0_2 := qab.mk hc0_2
 clear hr0_2 hc0_2
 have HB := qab.mk (Below.refl w.heap.size w)
 have H : ((pipe_valid.f l0_0 l0_1 l0_2).bind fun t130 => (if t130 = true then ((pipe_place.f l0_0 l0_1 l0_2 a1).bind fun t131 => (if t131 = true then ((pipe_fault.f l0_0 l0_1 l0_2 a2).bind fun t132 => (pipe_Order.j0 k a1 a2 (!t132) l0_0 l0_1 l0_2)) else (pipe_Order.j0 k a1 a2 true l0_0 l0_1 l0_2))) else (pipe_Order.j0 k a1 a2 true l0_0 l0_1 l0_2))) = some (r1, r2, r3) := h
 clear h
 have HC4 := qab.mk H
 clear H
 go_enter Try.func24, Try.ntmps24
 go_upto_region 1 with (first | ((with_reducible refine qar (N := 3) rfl ?_); refine qap ?hg (N := 3) ?hd (cs := #[.slice A0_0 l0_0.length c0_0, .slice A0_1 l0_1.length c0_1, .slice A0_2 l0_2.length c0_2]) (t := 26) ?hr ?_; (case hd => rfl); (case hg => rfl); (case hr => first | (go_simp; done) | (go_simp; rfl)); intro gb129 hg w5 hbox hb; have n0_ := qab.mk (qag (by repeat (first | (with_reducible first | exact HB.out | apply qae | apply qad | apply qaf) | exact HB.out)) hb); have n1_ := qab.mk (hbox); have n2_ := qab.mk ((by rw [hg]; exact (qan (by repeat (first | (with_reducible first | exact HB.out | apply qae | apply qad | apply qaf) | exact HB.out))) : w.heap.size ≤ gb129)); have n3_ := qab.mk ((by rw [hg]; exact (qan (by repeat (first | (with_reducible first | exact HB.out | apply qae | apply qad | apply qaf) | exact HB.out))) : w.heap.size ≤ gb129)); clear HB; have HB := n0_; have BK129 := n1_; have GW129 := n2_; have GE129 := n3_; clear n0_ n1_ n2_ n3_; clear hb hbox hg))
 repeat (go_quiet (first | ((with_reducible refine qar (N := 3) rfl ?_); refine qap ?hg (N := 3) ?hd (cs := #[.slice A0_0 l0_0.length c0_0, .slice A0_1 l0_1.length c0_1, .slice A0_2 l0_2.length c0_2]) (t := 26) ?hr ?_; (case hd => rfl); (case hg => rfl); (case hr => first | (go_simp; done) | (go_simp; rfl)); intro gb129 hg w5 hbox hb; have n0_ := qab.mk (qag (by repeat (first | (with_reducible first | exact HB.out | apply qae | apply qad | apply qaf) | exact HB.out)) hb); have n1_ := qab.mk (hbox); have n2_ := qab.mk ((by rw [hg]; exact (qan (by repeat (first | (with_reducible first | exact HB.out | apply qae | apply qad | apply qaf) | exact HB.out))) : w.heap.size ≤ gb129)); have n3_ := qab.mk ((by rw [hg]; exact (qan (by repeat (first | (with_reducible first | exact HB.out | apply qae | apply qad | apply qaf) | exact HB.out))) : w.heap.size ≤ gb129)); clear HB; have HB := n0_; have BK129 := n1_; have GW129 := n2_; have GE129 := n3_; clear n0_ n1_ n2_ n3_; clear hb hbox hg)); go_upto_region 1 with (first | ((with_reducible refine qar (N := 3) rfl ?_); refine qap ?hg (N := 3) ?hd (cs := #[.slice A0_0 l0_0.length c0_0, .slice A0_1 l0_1.length c0_1, .slice A0_2 l0_2.length c0_2]) (t := 26) ?hr ?_; (case hd => rfl); (case hg => rfl); (case hr => first | (go_simp; done) | (go_simp; rfl)); intro gb129 hg w5 hbox hb; have n0_ := qab.mk (qag (by repeat (first | (with_reducible first | exact HB.out | apply qae | apply qad | apply qaf) | exact HB.out)) hb); have n1_ := qab.mk (hbox); have n2_ := qab.mk ((by rw [hg]; exact (qan (by repeat (first | (with_reducible first | exact HB.out | apply qae | apply qad | apply qaf) | exact HB.out))) : w.heap.size ≤ gb129)); have n3_ := qab.mk ((by rw [hg]; exact (qan (by repeat (first | (with_reducible first | exact HB.out | apply qae | apply qad | apply qaf) | exact HB.out))) : w.heap.size ≤ gb129)); clear HB; have HB := n0_; have BK129 := n1_; have GW129 := n2_; have GE129 := n3_; clear n0_ n1_ n2_ n3_; clear hb hbox hg)))
 (try simp only [Act.put, List.setIfInBounds_toArray, List.set_cons_zero, List.set_cons_succ])
 go_cut [24] (fun v24 wc => ∃ (kq : Nat) (x24_3 : Bool), v24 = .bool x24_3 ∧ qab (pipe_Order.j0 kq a1 a2 x24_3 l0_0 l0_1 l0_2 = some (r1, r2, r3)) ∧ qab (kq ≤ k) ∧ qab (wc.heap[gb129]? = some (.cells #[(.slice A0_0 l0_0.length c0_0), (.slice A0_1 l0_1.length c0_1), (.slice A0_2 l0_2.length c0_2)] 26 (0, 0))) ∧ qab (Below w.heap.size w wc))
 case first =>
  have H := HC4.out
  clear HC4
  replace H := Option.bind_eq_some_iff.mp H
  obtain ⟨t130, A60, H⟩ := H
  replace H : (if t130 = true then ((pipe_place.f l0_0 l0_1 l0_2 a1).bind fun t131 => (if t131 = true then ((pipe_fault.f l0_0 l0_1 l0_2 a2).bind fun t132 => (pipe_Order.j0 k a1 a2 (!t132) l0_0 l0_1 l0_2)) else (pipe_Order.j0 k a1 a2 true l0_0 l0_1 l0_2))) else (pipe_Order.j0 k a1 a2 true l0_0 l0_1 l0_2)) = some (r1, r2, r3) := H
  have A6 := qab.mk A60
  clear A60
  by_cases c7 : t130 = true
  ·
   subst c7
   have H1 : ((pipe_place.f l0_0 l0_1 l0_2 a1).bind fun t131 => (if t131 = true then ((pipe_fault.f l0_0 l0_1 l0_2 a2).bind fun t132 => (pipe_Order.j0 k a1 a2 (!t132) l0_0 l0_1 l0_2)) else (pipe_Order.j0 k a1 a2 true l0_0 l0_1 l0_2))) = some (r1, r2, r3) := by rw [if_pos rfl] at H; exact H
   clear H
   have H := H1
   clear H1
   replace H := Option.bind_eq_some_iff.mp H
   obtain ⟨t131, A80, H⟩ := H
   replace H : (if t131 = true then ((pipe_fault.f l0_0 l0_1 l0_2 a2).bind fun t132 => (pipe_Order.j0 k a1 a2 (!t132) l0_0 l0_1 l0_2)) else (pipe_Order.j0 k a1 a2 true l0_0 l0_1 l0_2)) = some (r1, r2, r3) := H
   have A8 := qab.mk A80
   clear A80
   by_cases c9 : t131 = true
   ·
    subst c9
    have H1 : ((pipe_fault.f l0_0 l0_1 l0_2 a2).bind fun t132 => (pipe_Order.j0 k a1 a2 (!t132) l0_0 l0_1 l0_2)) = some (r1, r2, r3) := by rw [if_pos rfl] at H; exact H
    clear H
    have H := H1
    clear H1
    replace H := Option.bind_eq_some_iff.mp H
    obtain ⟨t132, A100, H⟩ := H
    replace H : (pipe_Order.j0 k a1 a2 (!t132) l0_0 l0_1 l0_2) = some (r1, r2, r3) := H
    have A10 := qab.mk A100
    clear A100
    have H' := qab.mk H
    clear H
    have hcz11_0 : w5.cell? ⟨gb129, 0, none⟩ = some (.slice A0_0 l0_0.length c0_0) := (qaa BK129.out 0).trans rfl
    have hcz11_1 : w5.cell? ⟨gb129, 1, none⟩ = some (.slice A0_1 l0_1.length c0_1) := (qaa BK129.out 1).trans rfl
    have hcz11_2 : w5.cell? ⟨gb129, 2, none⟩ = some (.slice A0_2 l0_2.length c0_2) := (qaa BK129.out 2).trans rfl
    have hfz11_0 := qac BK129.out 0
    have hfz11_1 := qac BK129.out 1
    have hfz11_2 := qac BK129.out 2
    go_wp2_with (first | (go_at_call 54; (with_reducible refine (pipe_valid.calls _ _ l0_0 _ _ l0_1 _ _ l0_2 true _ ?side1 ?side2 ?side3 ?side4 ?side5 ?side6 A6.out).mono ?_); (case side1 => repeat (first | exact (Kd.qam HR0_0.out HB.out) | (with_reducible refine Kd.C_alloc ?_ _) | (with_reducible refine Kd.C_drewN ?_ _) | (with_reducible refine Kd.C_drew ?_))); (case side2 => exact HC0_0.out); (case side3 => repeat (first | exact (Kd.qam HR0_1.out HB.out) | (with_reducible refine Kd.C_alloc ?_ _) | (with_reducible refine Kd.C_drewN ?_ _) | (with_reducible refine Kd.C_drew ?_))); (case side4 => exact HC0_1.out); (case side5 => repeat (first | exact (Kd.qam HR0_2.out HB.out) | (with_reducible refine Kd.C_alloc ?_ _) | (with_reducible refine Kd.C_drewN ?_ _) | (with_reducible refine Kd.C_drew ?_))); (case side6 => exact HC0_2.out); rintro e w12 ⟨rfl, hb⟩; have n0_ := qab.mk (qah (g := gb129) (o := .cells #[.slice A0_0 l0_0.length c0_0, .slice A0_1 l0_1.length c0_1, .slice A0_2 l0_2.length c0_2] 26 (0, 0)) (by (with_reducible repeat (first | refine qal ?_ _ | refine qao ?_ | refine qaj ?_ _)); exact BK129.out) hb); have n1_ := qab.mk (qag (by repeat (first | (with_reducible first | exact HB.out | apply qae | apply qad | apply qaf | refine qai ?_ GE129.out) | exact HB.out)) hb); clear BK129; clear HB; have BK129 := n0_; have HB := n1_; clear n0_ n1_; (try clear hb); (try clear hb2); (try clear hk); (try clear hi); have hcz13_0 : w12.cell? ⟨gb129, 0, none⟩ = some (.slice A0_0 l0_0.length c0_0) := (qaa BK129.out 0).trans rfl; have hcz13_1 : w12.cell? ⟨gb129, 1, none⟩ = some (.slice A0_1 l0_1.length c0_1) := (qaa BK129.out 1).trans rfl; have hcz13_2 : w12.cell? ⟨gb129, 2, none⟩ = some (.slice A0_2 l0_2.length c0_2) := (qaa BK129.out 2).trans rfl; have hfz13_0 := qac BK129.out 0; have hfz13_1 := qac BK129.out 1; have hfz13_2 := qac BK129.out 2) | (go_at_call 62; (with_reducible refine (pipe_place.calls _ _ l0_0 _ _ l0_1 _ _ l0_2 a1 true _ ?side1 ?side2 ?side3 ?side4 ?side5 ?side6 A8.out).mono ?_); (case side1 => repeat (first | exact (Kd.qam HR0_0.out HB.out) | (with_reducible refine Kd.C_alloc ?_ _) | (with_reducible refine Kd.C_drewN ?_ _) | (with_reducible refine Kd.C_drew ?_))); (case side2 => exact HC0_0.out); (case side3 => repeat (first | exact (Kd.qam HR0_1.out HB.out) | (with_reducible refine Kd.C_alloc ?_ _) | (with_reducible refine Kd.C_drewN ?_ _) | (with_reducible refine Kd.C_drew ?_))); (case side4 => exact HC0_1.out); (case side5 => repeat (first | exact (Kd.qam HR0_2.out HB.out) | (with_reducible refine Kd.C_alloc ?_ _) | (with_reducible refine Kd.C_drewN ?_ _) | (with_reducible refine Kd.C_drew ?_))); (case side6 => exact HC0_2.out); rintro e w14 ⟨rfl, hb⟩; have n0_ := qab.mk (qah (g := gb129) (o := .cells #[.slice A0_0 l0_0.length c0_0, .slice A0_1 l0_1.length c0_1, .slice A0_2 l0_2.length c0_2] 26 (0, 0)) (by (with_reducible repeat (first | refine qal ?_ _ | refine qao ?_ | refine qaj ?_ _)); exact BK129.out) hb); have n1_ := qab.mk (qag (by repeat (first | (with_reducible first | exact HB.out | apply qae | apply qad | apply qaf | refine qai ?_ GE129.out) | exact HB.out)) hb); clear BK129; clear HB; have BK129 := n0_; have HB := n1_; clear n0_ n1_; (try clear hb); (try clear hb2); (try clear hk); (try clear hi); have hcz15_0 : w14.cell? ⟨gb129, 0, none⟩ = some (.slice A0_0 l0_0.length c0_0) := (qaa BK129.out 0).trans rfl; have hcz15_1 : w14.cell? ⟨gb129, 1, none⟩ = some (.slice A0_1 l0_1.length c0_1) := (qaa BK129.out 1).trans rfl; have hcz15_2 : w14.cell? ⟨gb129, 2, none⟩ = some (.slice A0_2 l0_2.length c0_2) := (qaa BK129.out 2).trans rfl; have hfz15_0 := qac BK129.out 0; have hfz15_1 := qac BK129.out 1; have hfz15_2 := qac BK129.out 2) | (go_at_call 63; (with_reducible refine (pipe_fault.calls _ _ l0_0 _ _ l0_1 _ _ l0_2 a2 t132 _ ?side1 ?side2 ?side3 ?side4 ?side5 ?side6 A10.out).mono ?_); (case side1 => repeat (first | exact (Kd.qam HR0_0.out HB.out) | (with_reducible refine Kd.C_alloc ?_ _) | (with_reducible refine Kd.C_drewN ?_ _) | (with_reducible refine Kd.C_drew ?_))); (case side2 => exact HC0_0.out); (case side3 => repeat (first | exact (Kd.qam HR0_1.out HB.out) | (with_reducible refine Kd.C_alloc ?_ _) | (with_reducible refine Kd.C_drewN ?_ _) | (with_reducible refine Kd.C_drew ?_))); (case side4 => exact HC0_1.out); (case side5 => repeat (first | exact (Kd.qam HR0_2.out HB.out) | (with_reducible refine Kd.C_alloc ?_ _) | (with_reducible refine Kd.C_drewN ?_ _) | (with_reducible refine Kd.C_drew ?_))); (case side6 => exact HC0_2.out); rintro e w16 ⟨rfl, hb⟩; have n0_ := qab.mk (qah (g := gb129) (o := .cells #[.slice A0_0 l0_0.length c0_0, .slice A0_1 l0_1.length c0_1, .slice A0_2 l0_2.length c0_2] 26 (0, 0)) (by (with_reducible repeat (first | refine qal ?_ _ | refine qao ?_ | refine qaj ?_ _)); exact BK129.out) hb); have n1_ := qab.mk (qag (by repeat (first | (with_reducible first | exact HB.out | apply qae | apply qad | apply qaf | refine qai ?_ GE129.out) | exact HB.out)) hb); clear BK129; clear HB; have BK129 := n0_; have HB := n1_; clear n0_ n1_; (try clear hb); (try clear hb2); (try clear hk); (try clear hi)))
    repeat (go_quiet (first | (go_at_call 54; (with_reducible refine (pipe_valid.calls _ _ l0_0 _ _ l0_1 _ _ l0_2 true _ ?side1 ?side2 ?side3 ?side4 ?side5 ?side6 A6.out).mono ?_); (case side1 => repeat (first | exact (Kd.qam HR0_0.out HB.out) | (with_reducible refine Kd.C_alloc ?_ _) | (with_reducible refine Kd.C_drewN ?_ _) | (with_reducible refine Kd.C_drew ?_))); (case side2 => exact HC0_0.out); (case side3 => repeat (first | exact (Kd.qam HR0_1.out HB.out) | (with_reducible refine Kd.C_alloc ?_ _) | (with_reducible refine Kd.C_drewN ?_ _) | (with_reducible refine Kd.C_drew ?_))); (case side4 => exact HC0_1.out); (case side5 => repeat (first | exact (Kd.qam HR0_2.out HB.out) | (with_reducible refine Kd.C_alloc ?_ _) | (with_reducible refine Kd.C_drewN ?_ _) | (with_reducible refine Kd.C_drew ?_))); (case side6 => exact HC0_2.out); rintro e w12 ⟨rfl, hb⟩; have n0_ := qab.mk (qah (g := gb129) (o := .cells #[.slice A0_0 l0_0.length c0_0, .slice A0_1 l0_1.length c0_1, .slice A0_2 l0_2.length c0_2] 26 (0, 0)) (by (with_reducible repeat (first | refine qal ?_ _ | refine qao ?_ | refine qaj ?_ _)); exact BK129.out) hb); have n1_ := qab.mk (qag (by repeat (first | (with_reducible first | exact HB.out | apply qae | apply qad | apply qaf | refine qai ?_ GE129.out) | exact HB.out)) hb); clear BK129; clear HB; have BK129 := n0_; have HB := n1_; clear n0_ n1_; (try clear hb); (try clear hb2); (try clear hk); (try clear hi); have hcz13_0 : w12.cell? ⟨gb129, 0, none⟩ = some (.slice A0_0 l0_0.length c0_0) := (qaa BK129.out 0).trans rfl; have hcz13_1 : w12.cell? ⟨gb129, 1, none⟩ = some (.slice A0_1 l0_1.length c0_1) := (qaa BK129.out 1).trans rfl; have hcz13_2 : w12.cell? ⟨gb129, 2, none⟩ = some (.slice A0_2 l0_2.length c0_2) := (qaa BK129.out 2).trans rfl; have hfz13_0 := qac BK129.out 0; have hfz13_1 := qac BK129.out 1; have hfz13_2 := qac BK129.out 2) | (go_at_call 62; (with_reducible refine (pipe_place.calls _ _ l0_0 _ _ l0_1 _ _ l0_2 a1 true _ ?side1 ?side2 ?side3 ?side4 ?side5 ?side6 A8.out).mono ?_); (case side1 => repeat (first | exact (Kd.qam HR0_0.out HB.out) | (with_reducible refine Kd.C_alloc ?_ _) | (with_reducible refine Kd.C_drewN ?_ _) | (with_reducible refine Kd.C_drew ?_))); (case side2 => exact HC0_0.out); (case side3 => repeat (first | exact (Kd.qam HR0_1.out HB.out) | (with_reducible refine Kd.C_alloc ?_ _) | (with_reducible refine Kd.C_drewN ?_ _) | (with_reducible refine Kd.C_drew ?_))); (case side4 => exact HC0_1.out); (case side5 => repeat (first | exact (Kd.qam HR0_2.out HB.out) | (with_reducible refine Kd.C_alloc ?_ _) | (with_reducible refine Kd.C_drewN ?_ _) | (with_reducible refine Kd.C_drew ?_))); (case side6 => exact HC0_2.out); rintro e w14 ⟨rfl, hb⟩; have n0_ := qab.mk (qah (g := gb129) (o := .cells #[.slice A0_0 l0_0.length c0_0, .slice A0_1 l0_1.length c0_1, .slice A0_2 l0_2.length c0_2] 26 (0, 0)) (by (with_reducible repeat (first | refine qal ?_ _ | refine qao ?_ | refine qaj ?_ _)); exact BK129.out) hb); have n1_ := qab.mk (qag (by repeat (first | (with_reducible first | exact HB.out | apply qae | apply qad | apply qaf | refine qai ?_ GE129.out) | exact HB.out)) hb); clear BK129; clear HB; have BK129 := n0_; have HB := n1_; clear n0_ n1_; (try clear hb); (try clear hb2); (try clear hk); (try clear hi); have hcz15_0 : w14.cell? ⟨gb129, 0, none⟩ = some (.slice A0_0 l0_0.length c0_0) := (qaa BK129.out 0).trans rfl; have hcz15_1 : w14.cell? ⟨gb129, 1, none⟩ = some (.slice A0_1 l0_1.length c0_1) := (qaa BK129.out 1).trans rfl; have hcz15_2 : w14.cell? ⟨gb129, 2, none⟩ = some (.slice A0_2 l0_2.length c0_2) := (qaa BK129.out 2).trans rfl; have hfz15_0 := qac BK129.out 0; have hfz15_1 := qac BK129.out 1; have hfz15_2 := qac BK129.out 2) | (go_at_call 63; (with_reducible refine (pipe_fault.calls _ _ l0_0 _ _ l0_1 _ _ l0_2 a2 t132 _ ?side1 ?side2 ?side3 ?side4 ?side5 ?side6 A10.out).mono ?_); (case side1 => repeat (first | exact (Kd.qam HR0_0.out HB.out) | (with_reducible refine Kd.C_alloc ?_ _) | (with_reducible refine Kd.C_drewN ?_ _) | (with_reducible refine Kd.C_drew ?_))); (case side2 => exact HC0_0.out); (case side3 => repeat (first | exact (Kd.qam HR0_1.out HB.out) | (with_reducible refine Kd.C_alloc ?_ _) | (with_reducible refine Kd.C_drewN ?_ _) | (with_reducible refine Kd.C_drew ?_))); (case side4 => exact HC0_1.out); (case side5 => repeat (first | exact (Kd.qam HR0_2.out HB.out) | (with_reducible refine Kd.C_alloc ?_ _) | (with_reducible refine Kd.C_drewN ?_ _) | (with_reducible refine Kd.C_drew ?_))); (case side6 => exact HC0_2.out); rintro e w16 ⟨rfl, hb⟩; have n0_ := qab.mk (qah (g := gb129) (o := .cells #[.slice A0_0 l0_0.length c0_0, .slice A0_1 l0_1.length c0_1, .slice A0_2 l0_2.length c0_2] 26 (0, 0)) (by (with_reducible repeat (first | refine qal ?_ _ | refine qao ?_ | refine qaj ?_ _)); exact BK129.out) hb); have n1_ := qab.mk (qag (by repeat (first | (with_reducible first | exact HB.out | apply qae | apply qad | apply qaf | refine qai ?_ GE129.out) | exact HB.out)) hb); clear BK129; clear HB; have BK129 := n0_; have HB := n1_; clear n0_ n1_; (try clear hb); (try clear hb2); (try clear hk); (try clear hi))); try go_wp2_with (first | (go_at_call 54; (with_reducible refine (pipe_valid.calls _ _ l0_0 _ _ l0_1 _ _ l0_2 true _ ?side1 ?side2 ?side3 ?side4 ?side5 ?side6 A6.out).mono ?_); (case side1 => repeat (first | exact (Kd.qam HR0_0.out HB.out) | (with_reducible refine Kd.C_alloc ?_ _) | (with_reducible refine Kd.C_drewN ?_ _) | (with_reducible refine Kd.C_drew ?_))); (case side2 => exact HC0_0.out); (case side3 => repeat (first | exact (Kd.qam HR0_1.out HB.out) | (with_reducible refine Kd.C_alloc ?_ _) | (with_reducible refine Kd.C_drewN ?_ _) | (with_reducible refine Kd.C_drew ?_))); (case side4 => exact HC0_1.out); (case side5 => repeat (first | exact (Kd.qam HR0_2.out HB.out) | (with_reducible refine Kd.C_alloc ?_ _) | (with_reducible refine Kd.C_drewN ?_ _) | (with_reducible refine Kd.C_drew ?_))); (case side6 => exact HC0_2.out); rintro e w12 ⟨rfl, hb⟩; have n0_ := qab.mk (qah (g := gb129) (o := .cells #[.slice A0_0 l0_0.length c0_0, .slice A0_1 l0_1.length c0_1, .slice A0_2 l0_2.length c0_2] 26 (0, 0)) (by (with_reducible repeat (first | refine qal ?_ _ | refine qao ?_ | refine qaj ?_ _)); exact BK129.out) hb); have n1_ := qab.mk (qag (by repeat (first | (with_reducible first | exact HB.out | apply qae | apply qad | apply qaf | refine qai ?_ GE129.out) | exact HB.out)) hb); clear BK129; clear HB; have BK129 := n0_; have HB := n1_; clear n0_ n1_; (try clear hb); (try clear hb2); (try clear hk); (try clear hi); have hcz13_0 : w12.cell? ⟨gb129, 0, none⟩ = some (.slice A0_0 l0_0.length c0_0) := (qaa BK129.out 0).trans rfl; have hcz13_1 : w12.cell? ⟨gb129, 1, none⟩ = some (.slice A0_1 l0_1.length c0_1) := (qaa BK129.out 1).trans rfl; have hcz13_2 : w12.cell? ⟨gb129, 2, none⟩ = some (.slice A0_2 l0_2.length c0_2) := (qaa BK129.out 2).trans rfl; have hfz13_0 := qac BK129.out 0; have hfz13_1 := qac BK129.out 1; have hfz13_2 := qac BK129.out 2) | (go_at_call 62; (with_reducible refine (pipe_place.calls _ _ l0_0 _ _ l0_1 _ _ l0_2 a1 true _ ?side1 ?side2 ?side3 ?side4 ?side5 ?side6 A8.out).mono ?_); (case side1 => repeat (first | exact (Kd.qam HR0_0.out HB.out) | (with_reducible refine Kd.C_alloc ?_ _) | (with_reducible refine Kd.C_drewN ?_ _) | (with_reducible refine Kd.C_drew ?_))); (case side2 => exact HC0_0.out); (case side3 => repeat (first | exact (Kd.qam HR0_1.out HB.out) | (with_reducible refine Kd.C_alloc ?_ _) | (with_reducible refine Kd.C_drewN ?_ _) | (with_reducible refine Kd.C_drew ?_))); (case side4 => exact HC0_1.out); (case side5 => repeat (first | exact (Kd.qam HR0_2.out HB.out) | (with_reducible refine Kd.C_alloc ?_ _) | (with_reducible refine Kd.C_drewN ?_ _) | (with_reducible refine Kd.C_drew ?_))); (case side6 => exact HC0_2.out); rintro e w14 ⟨rfl, hb⟩; have n0_ := qab.mk (qah (g := gb129) (o := .cells #[.slice A0_0 l0_0.length c0_0, .slice A0_1 l0_1.length c0_1, .slice A0_2 l0_2.length c0_2] 26 (0, 0)) (by (with_reducible repeat (first | refine qal ?_ _ | refine qao ?_ | refine qaj ?_ _)); exact BK129.out) hb); have n1_ := qab.mk (qag (by repeat (first | (with_reducible first | exact HB.out | apply qae | apply qad | apply qaf | refine qai ?_ GE129.out) | exact HB.out)) hb); clear BK129; clear HB; have BK129 := n0_; have HB := n1_; clear n0_ n1_; (try clear hb); (try clear hb2); (try clear hk); (try clear hi); have hcz15_0 : w14.cell? ⟨gb129, 0, none⟩ = some (.slice A0_0 l0_0.length c0_0) := (qaa BK129.out 0).trans rfl; have hcz15_1 : w14.cell? ⟨gb129, 1, none⟩ = some (.slice A0_1 l0_1.length c0_1) := (qaa BK129.out 1).trans rfl; have hcz15_2 : w14.cell? ⟨gb129, 2, none⟩ = some (.slice A0_2 l0_2.length c0_2) := (qaa BK129.out 2).trans rfl; have hfz15_0 := qac BK129.out 0; have hfz15_1 := qac BK129.out 1; have hfz15_2 := qac BK129.out 2) | (go_at_call 63; (with_reducible refine (pipe_fault.calls _ _ l0_0 _ _ l0_1 _ _ l0_2 a2 t132 _ ?side1 ?side2 ?side3 ?side4 ?side5 ?side6 A10.out).mono ?_); (case side1 => repeat (first | exact (Kd.qam HR0_0.out HB.out) | (with_reducible refine Kd.C_alloc ?_ _) | (with_reducible refine Kd.C_drewN ?_ _) | (with_reducible refine Kd.C_drew ?_))); (case side2 => exact HC0_0.out); (case side3 => repeat (first | exact (Kd.qam HR0_1.out HB.out) | (with_reducible refine Kd.C_alloc ?_ _) | (with_reducible refine Kd.C_drewN ?_ _) | (with_reducible refine Kd.C_drew ?_))); (case side4 => exact HC0_1.out); (case side5 => repeat (first | exact (Kd.qam HR0_2.out HB.out) | (with_reducible refine Kd.C_alloc ?_ _) | (with_reducible refine Kd.C_drewN ?_ _) | (with_reducible refine Kd.C_drew ?_))); (case side6 => exact HC0_2.out); rintro e w16 ⟨rfl, hb⟩; have n0_ := qab.mk (qah (g := gb129) (o := .cells #[.slice A0_0 l0_0.length c0_0, .slice A0_1 l0_1.length c0_1, .slice A0_2 l0_2.length c0_2] 26 (0, 0)) (by (with_reducible repeat (first | refine qal ?_ _ | refine qao ?_ | refine qaj ?_ _)); exact BK129.out) hb); have n1_ := qab.mk (qag (by repeat (first | (with_reducible first | exact HB.out | apply qae | apply qad | apply qaf | refine qai ?_ GE129.out) | exact HB.out)) hb); clear BK129; clear HB; have BK129 := n0_; have HB := n1_; clear n0_ n1_; (try clear hb); (try clear hb2); (try clear hk); (try clear hi))))
    go_meet
    case rel => exact ⟨_, (!t132), (by first | rfl | (simp; done) | (simp [*]; done)), H', ⟨by first | omega | exact Nat.le_refl _⟩, ⟨by (with_reducible repeat (first | refine qal ?_ _ | refine qao ?_ | refine qaj ?_ _)); exact BK129.out⟩, ⟨by repeat (first | (with_reducible first | exact HB.out | apply qae | apply qad | apply qaf | refine qai ?_ GE129.out) | exact HB.out)⟩⟩
   ·
    replace c9 := Bool.eq_false_iff.mpr c9
    subst c9
    have H1 : (pipe_Order.j0 k a1 a2 true l0_0 l0_1 l0_2) = some (r1, r2, r3) := by rw [if_neg (show ¬ (false = true) by decide)] at H; exact H
    clear H
    have H := H1
    clear H1
    have H' := qab.mk H
    clear H
    have hcz17_0 : w5.cell? ⟨gb129, 0, none⟩ = some (.slice A0_0 l0_0.length c0_0) := (qaa BK129.out 0).trans rfl
    have hcz17_1 : w5.cell? ⟨gb129, 1, none⟩ = some (.slice A0_1 l0_1.length c0_1) := (qaa BK129.out 1).trans rfl
    have hcz17_2 : w5.cell? ⟨gb129, 2, none⟩ = some (.slice A0_2 l0_2.length c0_2) := (qaa BK129.out 2).trans rfl
    have hfz17_0 := qac BK129.out 0
    have hfz17_1 := qac BK129.out 1
    have hfz17_2 := qac BK129.out 2
    go_wp2_with (first | (go_at_call 54; (with_reducible refine (pipe_valid.calls _ _ l0_0 _ _ l0_1 _ _ l0_2 true _ ?side1 ?side2 ?side3 ?side4 ?side5 ?side6 A6.out).mono ?_); (case side1 => repeat (first | exact (Kd.qam HR0_0.out HB.out) | (with_reducible refine Kd.C_alloc ?_ _) | (with_reducible refine Kd.C_drewN ?_ _) | (with_reducible refine Kd.C_drew ?_))); (case side2 => exact HC0_0.out); (case side3 => repeat (first | exact (Kd.qam HR0_1.out HB.out) | (with_reducible refine Kd.C_alloc ?_ _) | (with_reducible refine Kd.C_drewN ?_ _) | (with_reducible refine Kd.C_drew ?_))); (case side4 => exact HC0_1.out); (case side5 => repeat (first | exact (Kd.qam HR0_2.out HB.out) | (with_reducible refine Kd.C_alloc ?_ _) | (with_reducible refine Kd.C_drewN ?_ _) | (with_reducible refine Kd.C_drew ?_))); (case side6 => exact HC0_2.out); rintro e w18 ⟨rfl, hb⟩; have n0_ := qab.mk (qah (g := gb129) (o := .cells #[.slice A0_0 l0_0.length c0_0, .slice A0_1 l0_1.length c0_1, .slice A0_2 l0_2.length c0_2] 26 (0, 0)) (by (with_reducible repeat (first | refine qal ?_ _ | refine qao ?_ | refine qaj ?_ _)); exact BK129.out) hb); have n1_ := qab.mk (qag (by repeat (first | (with_reducible first | exact HB.out | apply qae | apply qad | apply qaf | refine qai ?_ GE129.out) | exact HB.out)) hb); clear BK129; clear HB; have BK129 := n0_; have HB := n1_; clear n0_ n1_; (try clear hb); (try clear hb2); (try clear hk); (try clear hi); have hcz19_0 : w18.cell? ⟨gb129, 0, none⟩ = some (.slice A0_0 l0_0.length c0_0) := (qaa BK129.out 0).trans rfl; have hcz19_1 : w18.cell? ⟨gb129, 1, none⟩ = some (.slice A0_1 l0_1.length c0_1) := (qaa BK129.out 1).trans rfl; have hcz19_2 : w18.cell? ⟨gb129, 2, none⟩ = some (.slice A0_2 l0_2.length c0_2) := (qaa BK129.out 2).trans rfl; have hfz19_0 := qac BK129.out 0; have hfz19_1 := qac BK129.out 1; have hfz19_2 := qac BK129.out 2) | (go_at_call 62; (with_reducible refine (pipe_place.calls _ _ l0_0 _ _ l0_1 _ _ l0_2 a1 false _ ?side1 ?side2 ?side3 ?side4 ?side5 ?side6 A8.out).mono ?_); (case side1 => repeat (first | exact (Kd.qam HR0_0.out HB.out) | (with_reducible refine Kd.C_alloc ?_ _) | (with_reducible refine Kd.C_drewN ?_ _) | (with_reducible refine Kd.C_drew ?_))); (case side2 => exact HC0_0.out); (case side3 => repeat (first | exact (Kd.qam HR0_1.out HB.out) | (with_reducible refine Kd.C_alloc ?_ _) | (with_reducible refine Kd.C_drewN ?_ _) | (with_reducible refine Kd.C_drew ?_))); (case side4 => exact HC0_1.out); (case side5 => repeat (first | exact (Kd.qam HR0_2.out HB.out) | (with_reducible refine Kd.C_alloc ?_ _) | (with_reducible refine Kd.C_drewN ?_ _) | (with_reducible refine Kd.C_drew ?_))); (case side6 => exact HC0_2.out); rintro e w20 ⟨rfl, hb⟩; have n0_ := qab.mk (qah (g := gb129) (o := .cells #[.slice A0_0 l0_0.length c0_0, .slice A0_1 l0_1.length c0_1, .slice A0_2 l0_2.length c0_2] 26 (0, 0)) (by (with_reducible repeat (first | refine qal ?_ _ | refine qao ?_ | refine qaj ?_ _)); exact BK129.out) hb); have n1_ := qab.mk (qag (by repeat (first | (with_reducible first | exact HB.out | apply qae | apply qad | apply qaf | refine qai ?_ GE129.out) | exact HB.out)) hb); clear BK129; clear HB; have BK129 := n0_; have HB := n1_; clear n0_ n1_; (try clear hb); (try clear hb2); (try clear hk); (try clear hi)))
    repeat (go_quiet (first | (go_at_call 54; (with_reducible refine (pipe_valid.calls _ _ l0_0 _ _ l0_1 _ _ l0_2 true _ ?side1 ?side2 ?side3 ?side4 ?side5 ?side6 A6.out).mono ?_); (case side1 => repeat (first | exact (Kd.qam HR0_0.out HB.out) | (with_reducible refine Kd.C_alloc ?_ _) | (with_reducible refine Kd.C_drewN ?_ _) | (with_reducible refine Kd.C_drew ?_))); (case side2 => exact HC0_0.out); (case side3 => repeat (first | exact (Kd.qam HR0_1.out HB.out) | (with_reducible refine Kd.C_alloc ?_ _) | (with_reducible refine Kd.C_drewN ?_ _) | (with_reducible refine Kd.C_drew ?_))); (case side4 => exact HC0_1.out); (case side5 => repeat (first | exact (Kd.qam HR0_2.out HB.out) | (with_reducible refine Kd.C_alloc ?_ _) | (with_reducible refine Kd.C_drewN ?_ _) | (with_reducible refine Kd.C_drew ?_))); (case side6 => exact HC0_2.out); rintro e w18 ⟨rfl, hb⟩; have n0_ := qab.mk (qah (g := gb129) (o := .cells #[.slice A0_0 l0_0.length c0_0, .slice A0_1 l0_1.length c0_1, .slice A0_2 l0_2.length c0_2] 26 (0, 0)) (by (with_reducible repeat (first | refine qal ?_ _ | refine qao ?_ | refine qaj ?_ _)); exact BK129.out) hb); have n1_ := qab.mk (qag (by repeat (first | (with_reducible first | exact HB.out | apply qae | apply qad | apply qaf | refine qai ?_ GE129.out) | exact HB.out)) hb); clear BK129; clear HB; have BK129 := n0_; have HB := n1_; clear n0_ n1_; (try clear hb); (try clear hb2); (try clear hk); (try clear hi); have hcz19_0 : w18.cell? ⟨gb129, 0, none⟩ = some (.slice A0_0 l0_0.length c0_0) := (qaa BK129.out 0).trans rfl; have hcz19_1 : w18.cell? ⟨gb129, 1, none⟩ = some (.slice A0_1 l0_1.length c0_1) := (qaa BK129.out 1).trans rfl; have hcz19_2 : w18.cell? ⟨gb129, 2, none⟩ = some (.slice A0_2 l0_2.length c0_2) := (qaa BK129.out 2).trans rfl; have hfz19_0 := qac BK129.out 0; have hfz19_1 := qac BK129.out 1; have hfz19_2 := qac BK129.out 2) | (go_at_call 62; (with_reducible refine (pipe_place.calls _ _ l0_0 _ _ l0_1 _ _ l0_2 a1 false _ ?side1 ?side2 ?side3 ?side4 ?side5 ?side6 A8.out).mono ?_); (case side1 => repeat (first | exact (Kd.qam HR0_0.out HB.out) | (with_reducible refine Kd.C_alloc ?_ _) | (with_reducible refine Kd.C_drewN ?_ _) | (with_reducible refine Kd.C_drew ?_))); (case side2 => exact HC0_0.out); (case side3 => repeat (first | exact (Kd.qam HR0_1.out HB.out) | (with_reducible refine Kd.C_alloc ?_ _) | (with_reducible refine Kd.C_drewN ?_ _) | (with_reducible refine Kd.C_drew ?_))); (case side4 => exact HC0_1.out); (case side5 => repeat (first | exact (Kd.qam HR0_2.out HB.out) | (with_reducible refine Kd.C_alloc ?_ _) | (with_reducible refine Kd.C_drewN ?_ _) | (with_reducible refine Kd.C_drew ?_))); (case side6 => exact HC0_2.out); rintro e w20 ⟨rfl, hb⟩; have n0_ := qab.mk (qah (g := gb129) (o := .cells #[.slice A0_0 l0_0.length c0_0, .slice A0_1 l0_1.length c0_1, .slice A0_2 l0_2.length c0_2] 26 (0, 0)) (by (with_reducible repeat (first | refine qal ?_ _ | refine qao ?_ | refine qaj ?_ _)); exact BK129.out) hb); have n1_ := qab.mk (qag (by repeat (first | (with_reducible first | exact HB.out | apply qae | apply qad | apply qaf | refine qai ?_ GE129.out) | exact HB.out)) hb); clear BK129; clear HB; have BK129 := n0_; have HB := n1_; clear n0_ n1_; (try clear hb); (try clear hb2); (try clear hk); (try clear hi))); try go_wp2_with (first | (go_at_call 54; (with_reducible refine (pipe_valid.calls _ _ l0_0 _ _ l0_1 _ _ l0_2 true _ ?side1 ?side2 ?side3 ?side4 ?side5 ?side6 A6.out).mono ?_); (case side1 => repeat (first | exact (Kd.qam HR0_0.out HB.out) | (with_reducible refine Kd.C_alloc ?_ _) | (with_reducible refine Kd.C_drewN ?_ _) | (with_reducible refine Kd.C_drew ?_))); (case side2 => exact HC0_0.out); (case side3 => repeat (first | exact (Kd.qam HR0_1.out HB.out) | (with_reducible refine Kd.C_alloc ?_ _) | (with_reducible refine Kd.C_drewN ?_ _) | (with_reducible refine Kd.C_drew ?_))); (case side4 => exact HC0_1.out); (case side5 => repeat (first | exact (Kd.qam HR0_2.out HB.out) | (with_reducible refine Kd.C_alloc ?_ _) | (with_reducible refine Kd.C_drewN ?_ _) | (with_reducible refine Kd.C_drew ?_))); (case side6 => exact HC0_2.out); rintro e w18 ⟨rfl, hb⟩; have n0_ := qab.mk (qah (g := gb129) (o := .cells #[.slice A0_0 l0_0.length c0_0, .slice A0_1 l0_1.length c0_1, .slice A0_2 l0_2.length c0_2] 26 (0, 0)) (by (with_reducible repeat (first | refine qal ?_ _ | refine qao ?_ | refine qaj ?_ _)); exact BK129.out) hb); have n1_ := qab.mk (qag (by repeat (first | (with_reducible first | exact HB.out | apply qae | apply qad | apply qaf | refine qai ?_ GE129.out) | exact HB.out)) hb); clear BK129; clear HB; have BK129 := n0_; have HB := n1_; clear n0_ n1_; (try clear hb); (try clear hb2); (try clear hk); (try clear hi); have hcz19_0 : w18.cell? ⟨gb129, 0, none⟩ = some (.slice A0_0 l0_0.length c0_0) := (qaa BK129.out 0).trans rfl; have hcz19_1 : w18.cell? ⟨gb129, 1, none⟩ = some (.slice A0_1 l0_1.length c0_1) := (qaa BK129.out 1).trans rfl; have hcz19_2 : w18.cell? ⟨gb129, 2, none⟩ = some (.slice A0_2 l0_2.length c0_2) := (qaa BK129.out 2).trans rfl; have hfz19_0 := qac BK129.out 0; have hfz19_1 := qac BK129.out 1; have hfz19_2 := qac BK129.out 2) | (go_at_call 62; (with_reducible refine (pipe_place.calls _ _ l0_0 _ _ l0_1 _ _ l0_2 a1 false _ ?side1 ?side2 ?side3 ?side4 ?side5 ?side6 A8.out).mono ?_); (case side1 => repeat (first | exact (Kd.qam HR0_0.out HB.out) | (with_reducible refine Kd.C_alloc ?_ _) | (with_reducible refine Kd.C_drewN ?_ _) | (with_reducible refine Kd.C_drew ?_))); (case side2 => exact HC0_0.out); (case side3 => repeat (first | exact (Kd.qam HR0_1.out HB.out) | (with_reducible refine Kd.C_alloc ?_ _) | (with_reducible refine Kd.C_drewN ?_ _) | (with_reducible refine Kd.C_drew ?_))); (case side4 => exact HC0_1.out); (case side5 => repeat (first | exact (Kd.qam HR0_2.out HB.out) | (with_reducible refine Kd.C_alloc ?_ _) | (with_reducible refine Kd.C_drewN ?_ _) | (with_reducible refine Kd.C_drew ?_))); (case side6 => exact HC0_2.out); rintro e w20 ⟨rfl, hb⟩; have n0_ := qab.mk (qah (g := gb129) (o := .cells #[.slice A0_0 l0_0.length c0_0, .slice A0_1 l0_1.length c0_1, .slice A0_2 l0_2.length c0_2] 26 (0, 0)) (by (with_reducible repeat (first | refine qal ?_ _ | refine qao ?_ | refine qaj ?_ _)); exact BK129.out) hb); have n1_ := qab.mk (qag (by repeat (first | (with_reducible first | exact HB.out | apply qae | apply qad | apply qaf | refine qai ?_ GE129.out) | exact HB.out)) hb); clear BK129; clear HB; have BK129 := n0_; have HB := n1_; clear n0_ n1_; (try clear hb); (try clear hb2); (try clear hk); (try clear hi))))
    go_meet
    case rel => exact ⟨_, (true), (by first | rfl | (simp; done) | (simp [*]; done)), H', ⟨by first | omega | exact Nat.le_refl _⟩, ⟨by (with_reducible repeat (first | refine qal ?_ _ | refine qao ?_ | refine qaj ?_ _)); exact BK129.out⟩, ⟨by repeat (first | (with_reducible first | exact HB.out | apply qae | apply qad | apply qaf | refine qai ?_ GE129.out) | exact HB.out)⟩⟩
  ·
   replace c7 := Bool.eq_false_iff.mpr c7
   subst c7
   have H1 : (pipe_Order.j0 k a1 a2 true l0_0 l0_1 l0_2) = some (r1, r2, r3) := by rw [if_neg (show ¬ (false = true) by decide)] at H; exact H
   clear H
   have H := H1
   clear H1
   have H' := qab.mk H
   clear H
   have hcz21_0 : w5.cell? ⟨gb129, 0, none⟩ = some (.slice A0_0 l0_0.length c0_0) := (qaa BK129.out 0).trans rfl
   have hcz21_1 : w5.cell? ⟨gb129, 1, none⟩ = some (.slice A0_1 l0_1.length c0_1) := (qaa BK129.out 1).trans rfl
   have hcz21_2 : w5.cell? ⟨gb129, 2, none⟩ = some (.slice A0_2 l0_2.length c0_2) := (qaa BK129.out 2).trans rfl
   have hfz21_0 := qac BK129.out 0
   have hfz21_1 := qac BK129.out 1
   have hfz21_2 := qac BK129.out 2
   go_wp2_with (first | (go_at_call 54; (with_reducible refine (pipe_valid.calls _ _ l0_0 _ _ l0_1 _ _ l0_2 false _ ?side1 ?side2 ?side3 ?side4 ?side5 ?side6 A6.out).mono ?_); (case side1 => repeat (first | exact (Kd.qam HR0_0.out HB.out) | (with_reducible refine Kd.C_alloc ?_ _) | (with_reducible refine Kd.C_drewN ?_ _) | (with_reducible refine Kd.C_drew ?_))); (case side2 => exact HC0_0.out); (case side3 => repeat (first | exact (Kd.qam HR0_1.out HB.out) | (with_reducible refine Kd.C_alloc ?_ _) | (with_reducible refine Kd.C_drewN ?_ _) | (with_reducible refine Kd.C_drew ?_))); (case side4 => exact HC0_1.out); (case side5 => repeat (first | exact (Kd.qam HR0_2.out HB.out) | (with_reducible refine Kd.C_alloc ?_ _) | (with_reducible refine Kd.C_drewN ?_ _) | (with_reducible refine Kd.C_drew ?_))); (case side6 => exact HC0_2.out); rintro e w22 ⟨rfl, hb⟩; have n0_ := qab.mk (qah (g := gb129) (o := .cells #[.slice A0_0 l0_0.length c0_0, .slice A0_1 l0_1.length c0_1, .slice A0_2 l0_2.length c0_2] 26 (0, 0)) (by (with_reducible repeat (first | refine qal ?_ _ | refine qao ?_ | refine qaj ?_ _)); exact BK129.out) hb); have n1_ := qab.mk (qag (by repeat (first | (with_reducible first | exact HB.out | apply qae | apply qad | apply qaf | refine qai ?_ GE129.out) | exact HB.out)) hb); clear BK129; clear HB; have BK129 := n0_; have HB := n1_; clear n0_ n1_; (try clear hb); (try clear hb2); (try clear hk); (try clear hi)))
   repeat (go_quiet (first | (go_at_call 54; (with_reducible refine (pipe_valid.calls _ _ l0_0 _ _ l0_1 _ _ l0_2 false _ ?side1 ?side2 ?side3 ?side4 ?side5 ?side6 A6.out).mono ?_); (case side1 => repeat (first | exact (Kd.qam HR0_0.out HB.out) | (with_reducible refine Kd.C_alloc ?_ _) | (with_reducible refine Kd.C_drewN ?_ _) | (with_reducible refine Kd.C_drew ?_))); (case side2 => exact HC0_0.out); (case side3 => repeat (first | exact (Kd.qam HR0_1.out HB.out) | (with_reducible refine Kd.C_alloc ?_ _) | (with_reducible refine Kd.C_drewN ?_ _) | (with_reducible refine Kd.C_drew ?_))); (case side4 => exact HC0_1.out); (case side5 => repeat (first | exact (Kd.qam HR0_2.out HB.out) | (with_reducible refine Kd.C_alloc ?_ _) | (with_reducible refine Kd.C_drewN ?_ _) | (with_reducible refine Kd.C_drew ?_))); (case side6 => exact HC0_2.out); rintro e w22 ⟨rfl, hb⟩; have n0_ := qab.mk (qah (g := gb129) (o := .cells #[.slice A0_0 l0_0.length c0_0, .slice A0_1 l0_1.length c0_1, .slice A0_2 l0_2.length c0_2] 26 (0, 0)) (by (with_reducible repeat (first | refine qal ?_ _ | refine qao ?_ | refine qaj ?_ _)); exact BK129.out) hb); have n1_ := qab.mk (qag (by repeat (first | (with_reducible first | exact HB.out | apply qae | apply qad | apply qaf | refine qai ?_ GE129.out) | exact HB.out)) hb); clear BK129; clear HB; have BK129 := n0_; have HB := n1_; clear n0_ n1_; (try clear hb); (try clear hb2); (try clear hk); (try clear hi))); try go_wp2_with (first | (go_at_call 54; (with_reducible refine (pipe_valid.calls _ _ l0_0 _ _ l0_1 _ _ l0_2 false _ ?side1 ?side2 ?side3 ?side4 ?side5 ?side6 A6.out).mono ?_); (case side1 => repeat (first | exact (Kd.qam HR0_0.out HB.out) | (with_reducible refine Kd.C_alloc ?_ _) | (with_reducible refine Kd.C_drewN ?_ _) | (with_reducible refine Kd.C_drew ?_))); (case side2 => exact HC0_0.out); (case side3 => repeat (first | exact (Kd.qam HR0_1.out HB.out) | (with_reducible refine Kd.C_alloc ?_ _) | (with_reducible refine Kd.C_drewN ?_ _) | (with_reducible refine Kd.C_drew ?_))); (case side4 => exact HC0_1.out); (case side5 => repeat (first | exact (Kd.qam HR0_2.out HB.out) | (with_reducible refine Kd.C_alloc ?_ _) | (with_reducible refine Kd.C_drewN ?_ _) | (with_reducible refine Kd.C_drew ?_))); (case side6 => exact HC0_2.out); rintro e w22 ⟨rfl, hb⟩; have n0_ := qab.mk (qah (g := gb129) (o := .cells #[.slice A0_0 l0_0.length c0_0, .slice A0_1 l0_1.length c0_1, .slice A0_2 l0_2.length c0_2] 26 (0, 0)) (by (with_reducible repeat (first | refine qal ?_ _ | refine qao ?_ | refine qaj ?_ _)); exact BK129.out) hb); have n1_ := qab.mk (qag (by repeat (first | (with_reducible first | exact HB.out | apply qae | apply qad | apply qaf | refine qai ?_ GE129.out) | exact HB.out)) hb); clear BK129; clear HB; have BK129 := n0_; have HB := n1_; clear n0_ n1_; (try clear hb); (try clear hb2); (try clear hk); (try clear hi))))
   go_meet
   case rel => exact ⟨_, (true), (by first | rfl | (simp; done) | (simp [*]; done)), H', ⟨by first | omega | exact Nat.le_refl _⟩, ⟨by (with_reducible repeat (first | refine qal ?_ _ | refine qao ?_ | refine qaj ?_ _)); exact BK129.out⟩, ⟨by repeat (first | (with_reducible first | exact HB.out | apply qae | apply qad | apply qaf | refine qai ?_ GE129.out) | exact HB.out)⟩⟩
 case rest =>
  clear HC4
  try clear c2
  try clear p2
  try clear c7
  try clear c9
  try clear hcz11_0
  try clear hcz11_1
  try clear hcz11_2
  try clear hcz13_0
  try clear hcz13_1
  try clear hcz13_2
  try clear hcz15_0
  try clear hcz15_1
  try clear hcz15_2
  try clear hcz17_0
  try clear hcz17_1
  try clear hcz17_2
  try clear hcz19_0
  try clear hcz19_1
  try clear hcz19_2
  try clear hcz21_0
  try clear hcz21_1
  try clear hcz21_2
  try clear hfz11_0
  try clear hfz11_1
  try clear hfz11_2
  try clear hfz13_0
  try clear hfz13_1
  try clear hfz13_2
  try clear hfz15_0
  try clear hfz15_1
  try clear hfz15_2
  try clear hfz17_0
  try clear hfz17_1
  try clear hfz17_2
  try clear hfz19_0
  try clear hfz19_1
  try clear hfz19_2
  try clear hfz21_0
  try clear hfz21_1
  try clear hfz21_2
  obtain ⟨kq, x24_3, rfl, HA, HJ3, BK129, HB⟩ := hcut
  cases kq with
  | zero => exact absurd HA.out (by simp [pipe_Order.j0])
  | succ kj3 =>
   have H := HA.out
   clear HA
   simp only [pipe_Order.j0] at H
   by_cases c23 : x24_3 = true
   ·
    subst c23
    have H1 : (some (([] : List Int), 0, 2)) = some (r1, r2, r3) := by rw [if_pos rfl] at H; exact H
    clear H
    have H := H1
    clear H1
    simp only [Option.some.injEq, Prod.mk.injEq] at H
    obtain ⟨rfl, rfl, rfl⟩ := H
    go_wp2
    repeat (go_quiet (fail); try go_wp2)
    go_ret3
    exact ⟨_, by first | rfl | (simp [qas, qat] <;> rfl) | (simp [*, qas, qat] <;> rfl), by first | exact Kd.R_nil _ _ _ _ _ | exact Kd.N_nil _ _ _ _ _ | exact Kd.V_nil _ _ _ _ _ | exact Kd.Q_nil _ _ _ _ _ | exact Kd.S_nil _ _ _ _ _, by repeat (first | (with_reducible first | exact HB.out | apply qae | apply qad | apply qaf | refine qai ?_ GE129.out) | exact HB.out)⟩
   ·
    replace c23 := Bool.eq_false_iff.mpr c23
    subst c23
    have H1 : ((pipe_net_order.f l0_0 l0_1 l0_2 0 a1 a2).bind fun bt133 => (if bt133.2.2 = true then (some (bt133.1, bt133.2.1, 0)) else (some (([] : List Int), 0, 5)))) = some (r1, r2, r3) := by rw [if_neg (show ¬ (false = true) by decide)] at H; exact H
    clear H
    have H := H1
    clear H1
    replace H := Option.bind_eq_some_iff.mp H
    obtain ⟨⟨t133, t136, t137⟩, A240, H⟩ := H
    replace H : (if t137 = true then (some (t133, t136, 0)) else (some (([] : List Int), 0, 5))) = some (r1, r2, r3) := H
    have A24 := qab.mk A240
    clear A240
    by_cases c25 : t137 = true
    ·
     subst c25
     have H1 : (some (t133, t136, 0)) = some (r1, r2, r3) := by rw [if_pos rfl] at H; exact H
     clear H
     have H := H1
     clear H1
     simp only [Option.some.injEq, Prod.mk.injEq] at H
     obtain ⟨rfl, rfl, rfl⟩ := H
     have hcz26_0 : wc.cell? ⟨gb129, 0, none⟩ = some (.slice A0_0 l0_0.length c0_0) := (qaa BK129.out 0).trans rfl
     have hcz26_1 : wc.cell? ⟨gb129, 1, none⟩ = some (.slice A0_1 l0_1.length c0_1) := (qaa BK129.out 1).trans rfl
     have hcz26_2 : wc.cell? ⟨gb129, 2, none⟩ = some (.slice A0_2 l0_2.length c0_2) := (qaa BK129.out 2).trans rfl
     have hfz26_0 := qac BK129.out 0
     have hfz26_1 := qac BK129.out 1
     have hfz26_2 := qac BK129.out 2
     go_wp2_with (first | (go_at_call 64; (with_reducible refine (pipe_net_order.calls _ _ l0_0 _ _ l0_1 _ _ l0_2 0 a1 a2 t133 t136 true _ ?side1 ?side2 ?side3 ?side4 ?side5 ?side6 A24.out).mono ?_); (case side1 => repeat (first | exact (Kd.qam HR0_0.out HB.out) | (with_reducible refine Kd.C_alloc ?_ _) | (with_reducible refine Kd.C_drewN ?_ _) | (with_reducible refine Kd.C_drew ?_))); (case side2 => exact HC0_0.out); (case side3 => repeat (first | exact (Kd.qam HR0_1.out HB.out) | (with_reducible refine Kd.C_alloc ?_ _) | (with_reducible refine Kd.C_drewN ?_ _) | (with_reducible refine Kd.C_drew ?_))); (case side4 => exact HC0_1.out); (case side5 => repeat (first | exact (Kd.qam HR0_2.out HB.out) | (with_reducible refine Kd.C_alloc ?_ _) | (with_reducible refine Kd.C_drewN ?_ _) | (with_reducible refine Kd.C_drew ?_))); (case side6 => exact HC0_2.out); rintro e w27 ⟨v134, rfl, ho0, hb⟩; have n0_ := qab.mk (Kd.R_lower ho0 (qan (by repeat (first | (with_reducible first | exact HB.out | apply qae | apply qad | apply qaf | refine qai ?_ GE129.out) | exact HB.out)))); have n1_ := qab.mk (qah (g := gb129) (o := .cells #[.slice A0_0 l0_0.length c0_0, .slice A0_1 l0_1.length c0_1, .slice A0_2 l0_2.length c0_2] 26 (0, 0)) (by (with_reducible repeat (first | refine qal ?_ _ | refine qao ?_ | refine qaj ?_ _)); exact BK129.out) hb); have n2_ := qab.mk (qag (by repeat (first | (with_reducible first | exact HB.out | apply qae | apply qad | apply qaf | refine qai ?_ GE129.out) | exact HB.out)) hb); clear BK129; clear HB; have HO135 := n0_; have BK129 := n1_; have HB := n2_; clear n0_ n1_ n2_; (try clear hb); (try clear hb2); (try clear hk); (try clear hi); (try clear ho0)) | ((with_reducible refine qar (N := 9) rfl ?_); refine qap ?hg (N := 9) ?hd (cs := #[.slice none 0 0, .int .i64 0, .bool false]) (t := 97) ?hr ?_; (case hd => rfl); (case hg => rfl); (case hr => first | (go_simp; done) | (go_simp; rfl)); intro gb138 hg w28 hbox hb; have n0_ := qab.mk (Kd.R_below (by (with_reducible repeat (first | apply Kd.R_alloc | apply Kd.R_drewN | apply Kd.R_drew)); exact HO135.out) hb); have n1_ := qab.mk (qah (g := gb129) (o := .cells #[.slice A0_0 l0_0.length c0_0, .slice A0_1 l0_1.length c0_1, .slice A0_2 l0_2.length c0_2] 26 (0, 0)) (by (with_reducible repeat (first | refine qal ?_ _ | refine qao ?_ | refine qaj ?_ _)); exact BK129.out) hb); have n2_ := qab.mk (qag (by repeat (first | (with_reducible first | exact HB.out | apply qae | apply qad | apply qaf | refine qai ?_ GE129.out) | exact HB.out)) hb); have n3_ := qab.mk (hbox); have n4_ := qab.mk ((by rw [hg]; exact (qan (by repeat (first | (with_reducible first | exact HB.out | apply qae | apply qad | apply qaf | refine qai ?_ GE129.out) | exact HB.out))) : w.heap.size ≤ gb138)); have n5_ := qab.mk ((by rw [hg]; exact (qan (by repeat (first | (with_reducible first | exact HB.out | apply qae | apply qad | apply qaf | refine qai ?_ GE129.out) | exact HB.out))) : w.heap.size ≤ gb138)); have n6_ := qab.mk ((by rw [hg]; exact Nat.ne_of_lt (blk_lt (g := gb129) (o := .cells #[.slice A0_0 l0_0.length c0_0, .slice A0_1 l0_1.length c0_1, .slice A0_2 l0_2.length c0_2] 26 (0, 0)) (by (with_reducible repeat (first | refine qal ?_ _ | refine qao ?_ | refine qaj ?_ _)); exact BK129.out)) : gb129 ≠ gb138)); have n7_ := qab.mk ((by rw [hg]; exact Nat.ne_of_gt (blk_lt (g := gb129) (o := .cells #[.slice A0_0 l0_0.length c0_0, .slice A0_1 l0_1.length c0_1, .slice A0_2 l0_2.length c0_2] 26 (0, 0)) (by (with_reducible repeat (first | refine qal ?_ _ | refine qao ?_ | refine qaj ?_ _)); exact BK129.out)) : gb138 ≠ gb129)); clear HO135; clear BK129; clear HB; have HO135 := n0_; have BK129 := n1_; have HB := n2_; have BK138 := n3_; have GW138 := n4_; have GE138 := n5_; have NB129_138 := n6_; have NB138_129 := n7_; clear n0_ n1_ n2_ n3_ n4_ n5_ n6_ n7_; clear hb hbox hg; obtain ⟨Ao29, co29, eo29⟩ := Kd.R_slice HO135.out; subst eo29; have hnb30 := NB138_129.out; have hnc30 := NB129_138.out; have hcz31_0 : w28.cell? ⟨gb138, 0, none⟩ = some (.slice none 0 0) := (qaa BK138.out 0).trans rfl; have hcz31_1 : w28.cell? ⟨gb138, 1, none⟩ = some (.int .i64 0) := (qaa BK138.out 1).trans rfl; have hcz31_2 : w28.cell? ⟨gb138, 2, none⟩ = some (.bool false) := (qaa BK138.out 2).trans rfl; have hfz31_0 := qac BK138.out 0; have hfz31_1 := qac BK138.out 1; have hfz31_2 := qac BK138.out 2))
     repeat (go_quiet (first | (go_at_call 64; (with_reducible refine (pipe_net_order.calls _ _ l0_0 _ _ l0_1 _ _ l0_2 0 a1 a2 t133 t136 true _ ?side1 ?side2 ?side3 ?side4 ?side5 ?side6 A24.out).mono ?_); (case side1 => repeat (first | exact (Kd.qam HR0_0.out HB.out) | (with_reducible refine Kd.C_alloc ?_ _) | (with_reducible refine Kd.C_drewN ?_ _) | (with_reducible refine Kd.C_drew ?_))); (case side2 => exact HC0_0.out); (case side3 => repeat (first | exact (Kd.qam HR0_1.out HB.out) | (with_reducible refine Kd.C_alloc ?_ _) | (with_reducible refine Kd.C_drewN ?_ _) | (with_reducible refine Kd.C_drew ?_))); (case side4 => exact HC0_1.out); (case side5 => repeat (first | exact (Kd.qam HR0_2.out HB.out) | (with_reducible refine Kd.C_alloc ?_ _) | (with_reducible refine Kd.C_drewN ?_ _) | (with_reducible refine Kd.C_drew ?_))); (case side6 => exact HC0_2.out); rintro e w27 ⟨v134, rfl, ho0, hb⟩; have n0_ := qab.mk (Kd.R_lower ho0 (qan (by repeat (first | (with_reducible first | exact HB.out | apply qae | apply qad | apply qaf | refine qai ?_ GE129.out) | exact HB.out)))); have n1_ := qab.mk (qah (g := gb129) (o := .cells #[.slice A0_0 l0_0.length c0_0, .slice A0_1 l0_1.length c0_1, .slice A0_2 l0_2.length c0_2] 26 (0, 0)) (by (with_reducible repeat (first | refine qal ?_ _ | refine qao ?_ | refine qaj ?_ _)); exact BK129.out) hb); have n2_ := qab.mk (qag (by repeat (first | (with_reducible first | exact HB.out | apply qae | apply qad | apply qaf | refine qai ?_ GE129.out) | exact HB.out)) hb); clear BK129; clear HB; have HO135 := n0_; have BK129 := n1_; have HB := n2_; clear n0_ n1_ n2_; (try clear hb); (try clear hb2); (try clear hk); (try clear hi); (try clear ho0)) | ((with_reducible refine qar (N := 9) rfl ?_); refine qap ?hg (N := 9) ?hd (cs := #[.slice none 0 0, .int .i64 0, .bool false]) (t := 97) ?hr ?_; (case hd => rfl); (case hg => rfl); (case hr => first | (go_simp; done) | (go_simp; rfl)); intro gb138 hg w28 hbox hb; have n0_ := qab.mk (Kd.R_below (by (with_reducible repeat (first | apply Kd.R_alloc | apply Kd.R_drewN | apply Kd.R_drew)); exact HO135.out) hb); have n1_ := qab.mk (qah (g := gb129) (o := .cells #[.slice A0_0 l0_0.length c0_0, .slice A0_1 l0_1.length c0_1, .slice A0_2 l0_2.length c0_2] 26 (0, 0)) (by (with_reducible repeat (first | refine qal ?_ _ | refine qao ?_ | refine qaj ?_ _)); exact BK129.out) hb); have n2_ := qab.mk (qag (by repeat (first | (with_reducible first | exact HB.out | apply qae | apply qad | apply qaf | refine qai ?_ GE129.out) | exact HB.out)) hb); have n3_ := qab.mk (hbox); have n4_ := qab.mk ((by rw [hg]; exact (qan (by repeat (first | (with_reducible first | exact HB.out | apply qae | apply qad | apply qaf | refine qai ?_ GE129.out) | exact HB.out))) : w.heap.size ≤ gb138)); have n5_ := qab.mk ((by rw [hg]; exact (qan (by repeat (first | (with_reducible first | exact HB.out | apply qae | apply qad | apply qaf | refine qai ?_ GE129.out) | exact HB.out))) : w.heap.size ≤ gb138)); have n6_ := qab.mk ((by rw [hg]; exact Nat.ne_of_lt (blk_lt (g := gb129) (o := .cells #[.slice A0_0 l0_0.length c0_0, .slice A0_1 l0_1.length c0_1, .slice A0_2 l0_2.length c0_2] 26 (0, 0)) (by (with_reducible repeat (first | refine qal ?_ _ | refine qao ?_ | refine qaj ?_ _)); exact BK129.out)) : gb129 ≠ gb138)); have n7_ := qab.mk ((by rw [hg]; exact Nat.ne_of_gt (blk_lt (g := gb129) (o := .cells #[.slice A0_0 l0_0.length c0_0, .slice A0_1 l0_1.length c0_1, .slice A0_2 l0_2.length c0_2] 26 (0, 0)) (by (with_reducible repeat (first | refine qal ?_ _ | refine qao ?_ | refine qaj ?_ _)); exact BK129.out)) : gb138 ≠ gb129)); clear HO135; clear BK129; clear HB; have HO135 := n0_; have BK129 := n1_; have HB := n2_; have BK138 := n3_; have GW138 := n4_; have GE138 := n5_; have NB129_138 := n6_; have NB138_129 := n7_; clear n0_ n1_ n2_ n3_ n4_ n5_ n6_ n7_; clear hb hbox hg; obtain ⟨Ao29, co29, eo29⟩ := Kd.R_slice HO135.out; subst eo29; have hnb30 := NB138_129.out; have hnc30 := NB129_138.out; have hcz31_0 : w28.cell? ⟨gb138, 0, none⟩ = some (.slice none 0 0) := (qaa BK138.out 0).trans rfl; have hcz31_1 : w28.cell? ⟨gb138, 1, none⟩ = some (.int .i64 0) := (qaa BK138.out 1).trans rfl; have hcz31_2 : w28.cell? ⟨gb138, 2, none⟩ = some (.bool false) := (qaa BK138.out 2).trans rfl; have hfz31_0 := qac BK138.out 0; have hfz31_1 := qac BK138.out 1; have hfz31_2 := qac BK138.out 2)); try go_wp2_with (first | (go_at_call 64; (with_reducible refine (pipe_net_order.calls _ _ l0_0 _ _ l0_1 _ _ l0_2 0 a1 a2 t133 t136 true _ ?side1 ?side2 ?side3 ?side4 ?side5 ?side6 A24.out).mono ?_); (case side1 => repeat (first | exact (Kd.qam HR0_0.out HB.out) | (with_reducible refine Kd.C_alloc ?_ _) | (with_reducible refine Kd.C_drewN ?_ _) | (with_reducible refine Kd.C_drew ?_))); (case side2 => exact HC0_0.out); (case side3 => repeat (first | exact (Kd.qam HR0_1.out HB.out) | (with_reducible refine Kd.C_alloc ?_ _) | (with_reducible refine Kd.C_drewN ?_ _) | (with_reducible refine Kd.C_drew ?_))); (case side4 => exact HC0_1.out); (case side5 => repeat (first | exact (Kd.qam HR0_2.out HB.out) | (with_reducible refine Kd.C_alloc ?_ _) | (with_reducible refine Kd.C_drewN ?_ _) | (with_reducible refine Kd.C_drew ?_))); (case side6 => exact HC0_2.out); rintro e w27 ⟨v134, rfl, ho0, hb⟩; have n0_ := qab.mk (Kd.R_lower ho0 (qan (by repeat (first | (with_reducible first | exact HB.out | apply qae | apply qad | apply qaf | refine qai ?_ GE129.out) | exact HB.out)))); have n1_ := qab.mk (qah (g := gb129) (o := .cells #[.slice A0_0 l0_0.length c0_0, .slice A0_1 l0_1.length c0_1, .slice A0_2 l0_2.length c0_2] 26 (0, 0)) (by (with_reducible repeat (first | refine qal ?_ _ | refine qao ?_ | refine qaj ?_ _)); exact BK129.out) hb); have n2_ := qab.mk (qag (by repeat (first | (with_reducible first | exact HB.out | apply qae | apply qad | apply qaf | refine qai ?_ GE129.out) | exact HB.out)) hb); clear BK129; clear HB; have HO135 := n0_; have BK129 := n1_; have HB := n2_; clear n0_ n1_ n2_; (try clear hb); (try clear hb2); (try clear hk); (try clear hi); (try clear ho0)) | ((with_reducible refine qar (N := 9) rfl ?_); refine qap ?hg (N := 9) ?hd (cs := #[.slice none 0 0, .int .i64 0, .bool false]) (t := 97) ?hr ?_; (case hd => rfl); (case hg => rfl); (case hr => first | (go_simp; done) | (go_simp; rfl)); intro gb138 hg w28 hbox hb; have n0_ := qab.mk (Kd.R_below (by (with_reducible repeat (first | apply Kd.R_alloc | apply Kd.R_drewN | apply Kd.R_drew)); exact HO135.out) hb); have n1_ := qab.mk (qah (g := gb129) (o := .cells #[.slice A0_0 l0_0.length c0_0, .slice A0_1 l0_1.length c0_1, .slice A0_2 l0_2.length c0_2] 26 (0, 0)) (by (with_reducible repeat (first | refine qal ?_ _ | refine qao ?_ | refine qaj ?_ _)); exact BK129.out) hb); have n2_ := qab.mk (qag (by repeat (first | (with_reducible first | exact HB.out | apply qae | apply qad | apply qaf | refine qai ?_ GE129.out) | exact HB.out)) hb); have n3_ := qab.mk (hbox); have n4_ := qab.mk ((by rw [hg]; exact (qan (by repeat (first | (with_reducible first | exact HB.out | apply qae | apply qad | apply qaf | refine qai ?_ GE129.out) | exact HB.out))) : w.heap.size ≤ gb138)); have n5_ := qab.mk ((by rw [hg]; exact (qan (by repeat (first | (with_reducible first | exact HB.out | apply qae | apply qad | apply qaf | refine qai ?_ GE129.out) | exact HB.out))) : w.heap.size ≤ gb138)); have n6_ := qab.mk ((by rw [hg]; exact Nat.ne_of_lt (blk_lt (g := gb129) (o := .cells #[.slice A0_0 l0_0.length c0_0, .slice A0_1 l0_1.length c0_1, .slice A0_2 l0_2.length c0_2] 26 (0, 0)) (by (with_reducible repeat (first | refine qal ?_ _ | refine qao ?_ | refine qaj ?_ _)); exact BK129.out)) : gb129 ≠ gb138)); have n7_ := qab.mk ((by rw [hg]; exact Nat.ne_of_gt (blk_lt (g := gb129) (o := .cells #[.slice A0_0 l0_0.length c0_0, .slice A0_1 l0_1.length c0_1, .slice A0_2 l0_2.length c0_2] 26 (0, 0)) (by (with_reducible repeat (first | refine qal ?_ _ | refine qao ?_ | refine qaj ?_ _)); exact BK129.out)) : gb138 ≠ gb129)); clear HO135; clear BK129; clear HB; have HO135 := n0_; have BK129 := n1_; have HB := n2_; have BK138 := n3_; have GW138 := n4_; have GE138 := n5_; have NB129_138 := n6_; have NB138_129 := n7_; clear n0_ n1_ n2_ n3_ n4_ n5_ n6_ n7_; clear hb hbox hg; obtain ⟨Ao29, co29, eo29⟩ := Kd.R_slice HO135.out; subst eo29; have hnb30 := NB138_129.out; have hnc30 := NB129_138.out; have hcz31_0 : w28.cell? ⟨gb138, 0, none⟩ = some (.slice none 0 0) := (qaa BK138.out 0).trans rfl; have hcz31_1 : w28.cell? ⟨gb138, 1, none⟩ = some (.int .i64 0) := (qaa BK138.out 1).trans rfl; have hcz31_2 : w28.cell? ⟨gb138, 2, none⟩ = some (.bool false) := (qaa BK138.out 2).trans rfl; have hfz31_0 := qac BK138.out 0; have hfz31_1 := qac BK138.out 1; have hfz31_2 := qac BK138.out 2)))
     go_ret3
     exact ⟨_, by first | rfl | (simp [qas, qat] <;> rfl) | (simp [*, qas, qat] <;> rfl), by (with_reducible repeat (first | apply Kd.R_alloc | apply Kd.R_drewN | apply Kd.R_drew)); exact Kd.R_mono (Kd.R_far (p := ⟨gb138, 2, none⟩) (Kd.R_far (p := ⟨gb138, 1, none⟩) (Kd.R_far (p := ⟨gb138, 0, none⟩) (Kd.R_types HO135.out BK138.out (by decide)) (fun _ hk => hk.2) (.slice Ao29 t133.length co29)) (fun _ hk => hk.2) (.int .i64 t136)) (fun _ hk => hk.2) (.bool true)) (fun _ hk => trivial), by repeat (first | (with_reducible first | exact HB.out | apply qae | apply qad | apply qaf | refine qai ?_ GE129.out | refine qai ?_ GE138.out) | exact HB.out)⟩
    ·
     replace c25 := Bool.eq_false_iff.mpr c25
     subst c25
     have H1 : (some (([] : List Int), 0, 5)) = some (r1, r2, r3) := by rw [if_neg (show ¬ (false = true) by decide)] at H; exact H
     clear H
     have H := H1
     clear H1
     simp only [Option.some.injEq, Prod.mk.injEq] at H
     obtain ⟨rfl, rfl, rfl⟩ := H
     have hcz32_0 : wc.cell? ⟨gb129, 0, none⟩ = some (.slice A0_0 l0_0.length c0_0) := (qaa BK129.out 0).trans rfl
     have hcz32_1 : wc.cell? ⟨gb129, 1, none⟩ = some (.slice A0_1 l0_1.length c0_1) := (qaa BK129.out 1).trans rfl
     have hcz32_2 : wc.cell? ⟨gb129, 2, none⟩ = some (.slice A0_2 l0_2.length c0_2) := (qaa BK129.out 2).trans rfl
     have hfz32_0 := qac BK129.out 0
     have hfz32_1 := qac BK129.out 1
     have hfz32_2 := qac BK129.out 2
     go_wp2_with (first | (go_at_call 64; (with_reducible refine (pipe_net_order.calls _ _ l0_0 _ _ l0_1 _ _ l0_2 0 a1 a2 t133 t136 false _ ?side1 ?side2 ?side3 ?side4 ?side5 ?side6 A24.out).mono ?_); (case side1 => repeat (first | exact (Kd.qam HR0_0.out HB.out) | (with_reducible refine Kd.C_alloc ?_ _) | (with_reducible refine Kd.C_drewN ?_ _) | (with_reducible refine Kd.C_drew ?_))); (case side2 => exact HC0_0.out); (case side3 => repeat (first | exact (Kd.qam HR0_1.out HB.out) | (with_reducible refine Kd.C_alloc ?_ _) | (with_reducible refine Kd.C_drewN ?_ _) | (with_reducible refine Kd.C_drew ?_))); (case side4 => exact HC0_1.out); (case side5 => repeat (first | exact (Kd.qam HR0_2.out HB.out) | (with_reducible refine Kd.C_alloc ?_ _) | (with_reducible refine Kd.C_drewN ?_ _) | (with_reducible refine Kd.C_drew ?_))); (case side6 => exact HC0_2.out); rintro e w33 ⟨v134, rfl, ho0, hb⟩; have n0_ := qab.mk (Kd.R_lower ho0 (qan (by repeat (first | (with_reducible first | exact HB.out | apply qae | apply qad | apply qaf | refine qai ?_ GE129.out) | exact HB.out)))); have n1_ := qab.mk (qah (g := gb129) (o := .cells #[.slice A0_0 l0_0.length c0_0, .slice A0_1 l0_1.length c0_1, .slice A0_2 l0_2.length c0_2] 26 (0, 0)) (by (with_reducible repeat (first | refine qal ?_ _ | refine qao ?_ | refine qaj ?_ _)); exact BK129.out) hb); have n2_ := qab.mk (qag (by repeat (first | (with_reducible first | exact HB.out | apply qae | apply qad | apply qaf | refine qai ?_ GE129.out) | exact HB.out)) hb); clear BK129; clear HB; have HO135 := n0_; have BK129 := n1_; have HB := n2_; clear n0_ n1_ n2_; (try clear hb); (try clear hb2); (try clear hk); (try clear hi); (try clear ho0)) | ((with_reducible refine qar (N := 9) rfl ?_); refine qap ?hg (N := 9) ?hd (cs := #[.slice none 0 0, .int .i64 0, .bool false]) (t := 97) ?hr ?_; (case hd => rfl); (case hg => rfl); (case hr => first | (go_simp; done) | (go_simp; rfl)); intro gb138 hg w34 hbox hb; have n0_ := qab.mk (Kd.R_below (by (with_reducible repeat (first | apply Kd.R_alloc | apply Kd.R_drewN | apply Kd.R_drew)); exact HO135.out) hb); have n1_ := qab.mk (qah (g := gb129) (o := .cells #[.slice A0_0 l0_0.length c0_0, .slice A0_1 l0_1.length c0_1, .slice A0_2 l0_2.length c0_2] 26 (0, 0)) (by (with_reducible repeat (first | refine qal ?_ _ | refine qao ?_ | refine qaj ?_ _)); exact BK129.out) hb); have n2_ := qab.mk (qag (by repeat (first | (with_reducible first | exact HB.out | apply qae | apply qad | apply qaf | refine qai ?_ GE129.out) | exact HB.out)) hb); have n3_ := qab.mk (hbox); have n4_ := qab.mk ((by rw [hg]; exact (qan (by repeat (first | (with_reducible first | exact HB.out | apply qae | apply qad | apply qaf | refine qai ?_ GE129.out) | exact HB.out))) : w.heap.size ≤ gb138)); have n5_ := qab.mk ((by rw [hg]; exact (qan (by repeat (first | (with_reducible first | exact HB.out | apply qae | apply qad | apply qaf | refine qai ?_ GE129.out) | exact HB.out))) : w.heap.size ≤ gb138)); have n6_ := qab.mk ((by rw [hg]; exact Nat.ne_of_lt (blk_lt (g := gb129) (o := .cells #[.slice A0_0 l0_0.length c0_0, .slice A0_1 l0_1.length c0_1, .slice A0_2 l0_2.length c0_2] 26 (0, 0)) (by (with_reducible repeat (first | refine qal ?_ _ | refine qao ?_ | refine qaj ?_ _)); exact BK129.out)) : gb129 ≠ gb138)); have n7_ := qab.mk ((by rw [hg]; exact Nat.ne_of_gt (blk_lt (g := gb129) (o := .cells #[.slice A0_0 l0_0.length c0_0, .slice A0_1 l0_1.length c0_1, .slice A0_2 l0_2.length c0_2] 26 (0, 0)) (by (with_reducible repeat (first | refine qal ?_ _ | refine qao ?_ | refine qaj ?_ _)); exact BK129.out)) : gb138 ≠ gb129)); clear HO135; clear BK129; clear HB; have HO135 := n0_; have BK129 := n1_; have HB := n2_; have BK138 := n3_; have GW138 := n4_; have GE138 := n5_; have NB129_138 := n6_; have NB138_129 := n7_; clear n0_ n1_ n2_ n3_ n4_ n5_ n6_ n7_; clear hb hbox hg; obtain ⟨Ao35, co35, eo35⟩ := Kd.R_slice HO135.out; subst eo35; have hnb36 := NB138_129.out; have hnc36 := NB129_138.out; have hcz37_0 : w34.cell? ⟨gb138, 0, none⟩ = some (.slice none 0 0) := (qaa BK138.out 0).trans rfl; have hcz37_1 : w34.cell? ⟨gb138, 1, none⟩ = some (.int .i64 0) := (qaa BK138.out 1).trans rfl; have hcz37_2 : w34.cell? ⟨gb138, 2, none⟩ = some (.bool false) := (qaa BK138.out 2).trans rfl; have hfz37_0 := qac BK138.out 0; have hfz37_1 := qac BK138.out 1; have hfz37_2 := qac BK138.out 2))
     repeat (go_quiet (first | (go_at_call 64; (with_reducible refine (pipe_net_order.calls _ _ l0_0 _ _ l0_1 _ _ l0_2 0 a1 a2 t133 t136 false _ ?side1 ?side2 ?side3 ?side4 ?side5 ?side6 A24.out).mono ?_); (case side1 => repeat (first | exact (Kd.qam HR0_0.out HB.out) | (with_reducible refine Kd.C_alloc ?_ _) | (with_reducible refine Kd.C_drewN ?_ _) | (with_reducible refine Kd.C_drew ?_))); (case side2 => exact HC0_0.out); (case side3 => repeat (first | exact (Kd.qam HR0_1.out HB.out) | (with_reducible refine Kd.C_alloc ?_ _) | (with_reducible refine Kd.C_drewN ?_ _) | (with_reducible refine Kd.C_drew ?_))); (case side4 => exact HC0_1.out); (case side5 => repeat (first | exact (Kd.qam HR0_2.out HB.out) | (with_reducible refine Kd.C_alloc ?_ _) | (with_reducible refine Kd.C_drewN ?_ _) | (with_reducible refine Kd.C_drew ?_))); (case side6 => exact HC0_2.out); rintro e w33 ⟨v134, rfl, ho0, hb⟩; have n0_ := qab.mk (Kd.R_lower ho0 (qan (by repeat (first | (with_reducible first | exact HB.out | apply qae | apply qad | apply qaf | refine qai ?_ GE129.out) | exact HB.out)))); have n1_ := qab.mk (qah (g := gb129) (o := .cells #[.slice A0_0 l0_0.length c0_0, .slice A0_1 l0_1.length c0_1, .slice A0_2 l0_2.length c0_2] 26 (0, 0)) (by (with_reducible repeat (first | refine qal ?_ _ | refine qao ?_ | refine qaj ?_ _)); exact BK129.out) hb); have n2_ := qab.mk (qag (by repeat (first | (with_reducible first | exact HB.out | apply qae | apply qad | apply qaf | refine qai ?_ GE129.out) | exact HB.out)) hb); clear BK129; clear HB; have HO135 := n0_; have BK129 := n1_; have HB := n2_; clear n0_ n1_ n2_; (try clear hb); (try clear hb2); (try clear hk); (try clear hi); (try clear ho0)) | ((with_reducible refine qar (N := 9) rfl ?_); refine qap ?hg (N := 9) ?hd (cs := #[.slice none 0 0, .int .i64 0, .bool false]) (t := 97) ?hr ?_; (case hd => rfl); (case hg => rfl); (case hr => first | (go_simp; done) | (go_simp; rfl)); intro gb138 hg w34 hbox hb; have n0_ := qab.mk (Kd.R_below (by (with_reducible repeat (first | apply Kd.R_alloc | apply Kd.R_drewN | apply Kd.R_drew)); exact HO135.out) hb); have n1_ := qab.mk (qah (g := gb129) (o := .cells #[.slice A0_0 l0_0.length c0_0, .slice A0_1 l0_1.length c0_1, .slice A0_2 l0_2.length c0_2] 26 (0, 0)) (by (with_reducible repeat (first | refine qal ?_ _ | refine qao ?_ | refine qaj ?_ _)); exact BK129.out) hb); have n2_ := qab.mk (qag (by repeat (first | (with_reducible first | exact HB.out | apply qae | apply qad | apply qaf | refine qai ?_ GE129.out) | exact HB.out)) hb); have n3_ := qab.mk (hbox); have n4_ := qab.mk ((by rw [hg]; exact (qan (by repeat (first | (with_reducible first | exact HB.out | apply qae | apply qad | apply qaf | refine qai ?_ GE129.out) | exact HB.out))) : w.heap.size ≤ gb138)); have n5_ := qab.mk ((by rw [hg]; exact (qan (by repeat (first | (with_reducible first | exact HB.out | apply qae | apply qad | apply qaf | refine qai ?_ GE129.out) | exact HB.out))) : w.heap.size ≤ gb138)); have n6_ := qab.mk ((by rw [hg]; exact Nat.ne_of_lt (blk_lt (g := gb129) (o := .cells #[.slice A0_0 l0_0.length c0_0, .slice A0_1 l0_1.length c0_1, .slice A0_2 l0_2.length c0_2] 26 (0, 0)) (by (with_reducible repeat (first | refine qal ?_ _ | refine qao ?_ | refine qaj ?_ _)); exact BK129.out)) : gb129 ≠ gb138)); have n7_ := qab.mk ((by rw [hg]; exact Nat.ne_of_gt (blk_lt (g := gb129) (o := .cells #[.slice A0_0 l0_0.length c0_0, .slice A0_1 l0_1.length c0_1, .slice A0_2 l0_2.length c0_2] 26 (0, 0)) (by (with_reducible repeat (first | refine qal ?_ _ | refine qao ?_ | refine qaj ?_ _)); exact BK129.out)) : gb138 ≠ gb129)); clear HO135; clear BK129; clear HB; have HO135 := n0_; have BK129 := n1_; have HB := n2_; have BK138 := n3_; have GW138 := n4_; have GE138 := n5_; have NB129_138 := n6_; have NB138_129 := n7_; clear n0_ n1_ n2_ n3_ n4_ n5_ n6_ n7_; clear hb hbox hg; obtain ⟨Ao35, co35, eo35⟩ := Kd.R_slice HO135.out; subst eo35; have hnb36 := NB138_129.out; have hnc36 := NB129_138.out; have hcz37_0 : w34.cell? ⟨gb138, 0, none⟩ = some (.slice none 0 0) := (qaa BK138.out 0).trans rfl; have hcz37_1 : w34.cell? ⟨gb138, 1, none⟩ = some (.int .i64 0) := (qaa BK138.out 1).trans rfl; have hcz37_2 : w34.cell? ⟨gb138, 2, none⟩ = some (.bool false) := (qaa BK138.out 2).trans rfl; have hfz37_0 := qac BK138.out 0; have hfz37_1 := qac BK138.out 1; have hfz37_2 := qac BK138.out 2)); try go_wp2_with (first | (go_at_call 64; (with_reducible refine (pipe_net_order.calls _ _ l0_0 _ _ l0_1 _ _ l0_2 0 a1 a2 t133 t136 false _ ?side1 ?side2 ?side3 ?side4 ?side5 ?side6 A24.out).mono ?_); (case side1 => repeat (first | exact (Kd.qam HR0_0.out HB.out) | (with_reducible refine Kd.C_alloc ?_ _) | (with_reducible refine Kd.C_drewN ?_ _) | (with_reducible refine Kd.C_drew ?_))); (case side2 => exact HC0_0.out); (case side3 => repeat (first | exact (Kd.qam HR0_1.out HB.out) | (with_reducible refine Kd.C_alloc ?_ _) | (with_reducible refine Kd.C_drewN ?_ _) | (with_reducible refine Kd.C_drew ?_))); (case side4 => exact HC0_1.out); (case side5 => repeat (first | exact (Kd.qam HR0_2.out HB.out) | (with_reducible refine Kd.C_alloc ?_ _) | (with_reducible refine Kd.C_drewN ?_ _) | (with_reducible refine Kd.C_drew ?_))); (case side6 => exact HC0_2.out); rintro e w33 ⟨v134, rfl, ho0, hb⟩; have n0_ := qab.mk (Kd.R_lower ho0 (qan (by repeat (first | (with_reducible first | exact HB.out | apply qae | apply qad | apply qaf | refine qai ?_ GE129.out) | exact HB.out)))); have n1_ := qab.mk (qah (g := gb129) (o := .cells #[.slice A0_0 l0_0.length c0_0, .slice A0_1 l0_1.length c0_1, .slice A0_2 l0_2.length c0_2] 26 (0, 0)) (by (with_reducible repeat (first | refine qal ?_ _ | refine qao ?_ | refine qaj ?_ _)); exact BK129.out) hb); have n2_ := qab.mk (qag (by repeat (first | (with_reducible first | exact HB.out | apply qae | apply qad | apply qaf | refine qai ?_ GE129.out) | exact HB.out)) hb); clear BK129; clear HB; have HO135 := n0_; have BK129 := n1_; have HB := n2_; clear n0_ n1_ n2_; (try clear hb); (try clear hb2); (try clear hk); (try clear hi); (try clear ho0)) | ((with_reducible refine qar (N := 9) rfl ?_); refine qap ?hg (N := 9) ?hd (cs := #[.slice none 0 0, .int .i64 0, .bool false]) (t := 97) ?hr ?_; (case hd => rfl); (case hg => rfl); (case hr => first | (go_simp; done) | (go_simp; rfl)); intro gb138 hg w34 hbox hb; have n0_ := qab.mk (Kd.R_below (by (with_reducible repeat (first | apply Kd.R_alloc | apply Kd.R_drewN | apply Kd.R_drew)); exact HO135.out) hb); have n1_ := qab.mk (qah (g := gb129) (o := .cells #[.slice A0_0 l0_0.length c0_0, .slice A0_1 l0_1.length c0_1, .slice A0_2 l0_2.length c0_2] 26 (0, 0)) (by (with_reducible repeat (first | refine qal ?_ _ | refine qao ?_ | refine qaj ?_ _)); exact BK129.out) hb); have n2_ := qab.mk (qag (by repeat (first | (with_reducible first | exact HB.out | apply qae | apply qad | apply qaf | refine qai ?_ GE129.out) | exact HB.out)) hb); have n3_ := qab.mk (hbox); have n4_ := qab.mk ((by rw [hg]; exact (qan (by repeat (first | (with_reducible first | exact HB.out | apply qae | apply qad | apply qaf | refine qai ?_ GE129.out) | exact HB.out))) : w.heap.size ≤ gb138)); have n5_ := qab.mk ((by rw [hg]; exact (qan (by repeat (first | (with_reducible first | exact HB.out | apply qae | apply qad | apply qaf | refine qai ?_ GE129.out) | exact HB.out))) : w.heap.size ≤ gb138)); have n6_ := qab.mk ((by rw [hg]; exact Nat.ne_of_lt (blk_lt (g := gb129) (o := .cells #[.slice A0_0 l0_0.length c0_0, .slice A0_1 l0_1.length c0_1, .slice A0_2 l0_2.length c0_2] 26 (0, 0)) (by (with_reducible repeat (first | refine qal ?_ _ | refine qao ?_ | refine qaj ?_ _)); exact BK129.out)) : gb129 ≠ gb138)); have n7_ := qab.mk ((by rw [hg]; exact Nat.ne_of_gt (blk_lt (g := gb129) (o := .cells #[.slice A0_0 l0_0.length c0_0, .slice A0_1 l0_1.length c0_1, .slice A0_2 l0_2.length c0_2] 26 (0, 0)) (by (with_reducible repeat (first | refine qal ?_ _ | refine qao ?_ | refine qaj ?_ _)); exact BK129.out)) : gb138 ≠ gb129)); clear HO135; clear BK129; clear HB; have HO135 := n0_; have BK129 := n1_; have HB := n2_; have BK138 := n3_; have GW138 := n4_; have GE138 := n5_; have NB129_138 := n6_; have NB138_129 := n7_; clear n0_ n1_ n2_ n3_ n4_ n5_ n6_ n7_; clear hb hbox hg; obtain ⟨Ao35, co35, eo35⟩ := Kd.R_slice HO135.out; subst eo35; have hnb36 := NB138_129.out; have hnc36 := NB129_138.out; have hcz37_0 : w34.cell? ⟨gb138, 0, none⟩ = some (.slice none 0 0) := (qaa BK138.out 0).trans rfl; have hcz37_1 : w34.cell? ⟨gb138, 1, none⟩ = some (.int .i64 0) := (qaa BK138.out 1).trans rfl; have hcz37_2 : w34.cell? ⟨gb138, 2, none⟩ = some (.bool false) := (qaa BK138.out 2).trans rfl; have hfz37_0 := qac BK138.out 0; have hfz37_1 := qac BK138.out 1; have hfz37_2 := qac BK138.out 2)))
     go_ret3
     exact ⟨_, by first | rfl | (simp [qas, qat] <;> rfl) | (simp [*, qas, qat] <;> rfl), by first | exact Kd.R_nil _ _ _ _ _ | exact Kd.N_nil _ _ _ _ _ | exact Kd.V_nil _ _ _ _ _ | exact Kd.Q_nil _ _ _ _ _ | exact Kd.S_nil _ _ _ _ _, by repeat (first | (with_reducible first | exact HB.out | apply qae | apply qad | apply qaf | refine qai ?_ GE129.out | refine qai ?_ GE138.out) | exact HB.out)⟩
def talikref04_Same.l0 : Nat → List Int → List Int → Int → Option (Bool)
 | 0, _, _, _ => none
 | k + 1, x0, x1, x5 => if x5 < (x0.length : Int) then (if 0 ≤ x5 then (if x5 < (x1.length : Int) then (if (rd x0 x5) = (rd x1 x5) then (talikref04_Same.l0 k x0 x1 (wrap64 (x5 + 1))) else (some false)) else (none)) else (none)) else (some true)
def talikref04_Same.f (k : Nat) (l0 : List Int) (l1 : List Int) : Option (Bool) := if (l0.length : Int) = (l1.length : Int) then (talikref04_Same.l0 k l0 l1 0) else (some false)
set_option maxHeartbeats 8000000 in
set_option maxRecDepth 100000 in
theorem talikref04_Same.calls (k : Nat) (A0 : Option Addr) (c0 : Nat) (l0 : List Int) (A1 : Option Addr) (c1 : Nat) (l1 : List Int) (r : Bool) (w : World) (hr0 : Kd.C (Kd.int .i64) w A0 l0.length l0) (hc0 : l0.length ≤ c0) (hr1 : Kd.C (Kd.int .i64) w A1 l1.length l1) (hc1 : l1.length ≤ c1) (h : talikref04_Same.f k l0 l1 = some r) :
  Calls Try.prog 28 #[.slice A0 l0.length c0, .slice A1 l1.length c1] w fun e w' => e = .returned (.bool r) ∧ Drawn0 w w' := by
 have HR0 := qab.mk hr0
 have HC0 := qab.mk hc0
 clear hr0 hc0
 have HR1 := qab.mk hr1
 have HC1 := qab.mk hc1
 clear hr1 hc1
 have H : (if (l0.length : Int) = (l1.length : Int) then (talikref04_Same.l0 k l0 l1 0) else (some false)) = some r := h
 clear h
 by_cases c3 : (l0.length : Int) = (l1.length : Int)
 ·
  rw [if_pos c3] at H
  have c3b0 : ((l0.length : Int) == (l1.length : Int)) = true := beq_iff_eq.mpr c3
  have c3b1 : ((l0.length : Int) != (l1.length : Int)) = false := bne_eq_false_iff_eq.mpr c3
  have c3b2 : (l0.length == l1.length) = true := by first | simpa using c3 | (simp at c3 ⊢; omega)
  clear c3
  have H' := qab.mk H
  clear H
  go_enter Try.func28, Try.ntmps28
  go_wp2
  repeat (go_quiet (fail); try go_wp2)
  go_loopg [5] k (fun kq v5 w' => ∃ (x5_1 : Int), v5 = .int .i64 x5_1 ∧ qab (talikref04_Same.l0 kq l0 l1 x5_1 = some r) ∧ qab (kq ≤ k) ∧ Drawn0 w w')
  case atStart => exact ⟨(0), (by first | rfl | (simp; done) | (simp [*]; done)), H', ⟨Nat.le_refl _⟩, by repeat (first | exact Drawn0.refl _ | apply Drawn0.step)⟩
  case round =>
   clear H'
   try clear c1
   try clear c2
   try clear p2
   try clear c3
   try clear c3b0
   try clear c3b1
   try clear c3b2
   obtain ⟨x5_1, rfl, HA, HK1, ⟨m1, rfl⟩⟩ := hrel
   cases gk with
   | zero => exact absurd HA.out (by simp [talikref04_Same.l0])
   | succ k1 =>
    have H := HA.out
    clear HA
    simp only [talikref04_Same.l0] at H
    by_cases c4 : x5_1 < (l0.length : Int)
    ·
     rw [if_pos c4] at H
     have c4b0 : decide (x5_1 < (l0.length : Int)) = true := decide_eq_true c4
     clear c4
     by_cases c5 : 0 ≤ x5_1
     ·
      rw [if_pos c5] at H
      have c5b0 : decide (0 ≤ x5_1) = true := decide_eq_true c5
      clear c5
      by_cases c6 : x5_1 < (l1.length : Int)
      ·
       rw [if_pos c6] at H
       have c6b0 : decide (x5_1 < (l1.length : Int)) = true := decide_eq_true c6
       clear c6
       by_cases c7 : (rd l0 x5_1) = (rd l1 x5_1)
       ·
        rw [if_pos c7] at H
        have c7b0 : ((rd l0 x5_1) == (rd l1 x5_1)) = true := beq_iff_eq.mpr c7
        have c7b1 : ((rd l0 x5_1) != (rd l1 x5_1)) = false := bne_eq_false_iff_eq.mpr c7
        clear c7
        have H' := qab.mk H
        clear H
        have p139 : 0 ≤ (x5_1 : Int) := of_decide_eq_true (by first | (with_reducible assumption) | assumption)
        have q139 : x5_1 < (l0.length : Int) := of_decide_eq_true (by first | (with_reducible assumption) | assumption)
        obtain ⟨ad139, e139, hx139_0⟩ := Kd.at_int HR0.out x5_1 p139 q139
        cases e139
        replace p139 := eq_true p139
        replace q139 := eq_true q139
        have p140 : 0 ≤ (x5_1 : Int) := of_decide_eq_true (by first | (with_reducible assumption) | assumption)
        have q140 : x5_1 < (l1.length : Int) := of_decide_eq_true (by first | (with_reducible assumption) | assumption)
        obtain ⟨ad140, e140, hx140_0⟩ := Kd.at_int HR1.out x5_1 p140 q140
        cases e140
        replace p140 := eq_true p140
        replace q140 := eq_true q140
        go_wp2
        repeat (go_quiet (fail); try go_wp2)
        go_roundg k1
        case measure => have := HK1.out; omega
        case rel => exact ⟨(wrap64 (x5_1 + 1)), (by first | rfl | (simp; done) | (simp [*]; done)), H', ⟨by have := HK1.out; omega⟩, by repeat (first | exact Drawn0.refl _ | apply Drawn0.step)⟩
       ·
        rw [if_neg c7] at H
        have c7b0 : ((rd l0 x5_1) == (rd l1 x5_1)) = false := beq_eq_false_iff_ne.mpr c7
        have c7b1 : ((rd l0 x5_1) != (rd l1 x5_1)) = true := bne_iff_ne.mpr c7
        obtain rfl := Option.some.inj H
        have p139 : 0 ≤ (x5_1 : Int) := of_decide_eq_true (by first | (with_reducible assumption) | assumption)
        have q139 : x5_1 < (l0.length : Int) := of_decide_eq_true (by first | (with_reducible assumption) | assumption)
        obtain ⟨ad139, e139, hx139_0⟩ := Kd.at_int HR0.out x5_1 p139 q139
        cases e139
        replace p139 := eq_true p139
        replace q139 := eq_true q139
        have p140 : 0 ≤ (x5_1 : Int) := of_decide_eq_true (by first | (with_reducible assumption) | assumption)
        have q140 : x5_1 < (l1.length : Int) := of_decide_eq_true (by first | (with_reducible assumption) | assumption)
        obtain ⟨ad140, e140, hx140_0⟩ := Kd.at_int HR1.out x5_1 p140 q140
        cases e140
        replace p140 := eq_true p140
        replace q140 := eq_true q140
        go_wp2
        repeat (go_quiet (fail); try go_wp2)
        go_ret
        exact ⟨by first | rfl | (simp; done) | (simp [*]; done), by repeat (first | exact Drawn0.refl _ | apply Drawn0.step)⟩
      ·
       rw [if_neg c6] at H
       exact absurd H (by simp)
     ·
      rw [if_neg c5] at H
      exact absurd H (by simp)
    ·
     rw [if_neg c4] at H
     have c4b0 : decide (x5_1 < (l0.length : Int)) = false := decide_eq_false c4
     clear c4
     obtain rfl := Option.some.inj H
     go_wp2
     repeat (go_quiet (fail); try go_wp2)
     go_ret
     exact ⟨by first | rfl | (simp; done) | (simp [*]; done), by repeat (first | exact Drawn0.refl _ | apply Drawn0.step)⟩
 ·
  rw [if_neg c3] at H
  have c3b0 : ((l0.length : Int) == (l1.length : Int)) = false := beq_eq_false_iff_ne.mpr c3
  have c3b1 : ((l0.length : Int) != (l1.length : Int)) = true := bne_iff_ne.mpr c3
  have c3b2 : (l0.length == l1.length) = false := by first | simpa using c3 | (simp at c3 ⊢; omega)
  obtain rfl := Option.some.inj H
  go_enter Try.func28, Try.ntmps28
  go_wp2
  repeat (go_quiet (fail); try go_wp2)
  go_ret
  exact ⟨by first | rfl | (simp; done) | (simp [*]; done), by repeat (first | exact Drawn0.refl _ | apply Drawn0.step)⟩
end Go.Proofs.Ytipphcjgdebecaa.PA
namespace Go.Proofs.Ytipphcjgdebecaa.PA
open Go.RowKit Go.Proofs.YtipphcjgdebecaaW.PrintWords Go.Proofs.YtipphcjgdebecaaW.PrintLast Go.Proofs.YtipphcjgdebecaaW.PrintMore
attribute [local go_sem] max2_int min2_int max_two min_two max_three min_three max_four min_four
def faultB (l0 : List S39) (f : Int) : Bool := inB f 0 (wrap64 (shl .i64 1 (l0.length : Int) - 1))
def givenV (l0 : List S39) (l1 : List S37) (l2 : List (List Int)) (a1 : Int) (fs : List Int) : Int :=
 if 12 < (fs.length : Int) then 3 else if (!validB l0 l1 l2 || (!inB a1 0 l0.length || fs.any fun f => !faultB l0 f)) = true then 2 else 0
theorem fault_some (l0 : List S39) (l1 : List S37) (l2 : List (List Int)) (f : Int) : pipe_fault.f l0 l1 l2 f = some (faultB l0 f) := by
 unfold pipe_fault.f faultB
 rw [pipe_in_eq]
 rfl
theorem place_some (l0 : List S39) (l1 : List S37) (l2 : List (List Int)) (a : Int) : pipe_place.f l0 l1 l2 a = some (inB a 0 l0.length) := by
 unfold pipe_place.f
 rw [pipe_in_eq]
 rfl
set_option maxRecDepth 100000 in
set_option maxHeartbeats 2000000 in
theorem given1_calls (A0 : Option Addr) (c0 : Nat) (l0 : List S39) (A1 : Option Addr) (c1 : Nat) (l1 : List S37) (A2 : Option Addr) (c2 : Nat) (l2 : List (List Int)) (f : Int) (gb : Nat) (w : World) (hr0 : Kd.C k39 w A0 l0.length l0) (hc0 : l0.length ≤ c0) (hr1 : Kd.C k37 w A1 l1.length l1) (hc1 : l1.length ≤ c1) (hr2 : Kd.C (Kd.slice 3 (Kd.int .i64)) w A2 l2.length l2) (hc2 : l2.length ≤ c2)
  (hb : w.heap[gb]? = some (.cells #[.slice A0 l0.length c0, .slice A1 l1.length c1, .slice A2 l2.length c2] 26 (0, 0))) :
  Calls Try.prog 95 #[.int .i64 f, .pointer (some ⟨gb, 0, none⟩)] w fun e w' => e = .returned (.bool (!faultB l0 f)) ∧ Below w.heap.size w w' := by
 have hu26 := Try.underlying26
 have H := qab.mk (pipe_fault.calls _ _ l0 _ _ l1 _ _ l2 f (faultB l0 f) w hr0 hc0 hr1 hc1 hr2 hc2 (fault_some l0 l1 l2 f))
 have k0 : w.cell? ⟨gb, 0, none⟩ = some (.slice A0 l0.length c0) := qaa hb 0
 have k1 : w.cell? ⟨gb, 1, none⟩ = some (.slice A1 l1.length c1) := qaa hb 1
 have k2 : w.cell? ⟨gb, 2, none⟩ = some (.slice A2 l2.length c2) := qaa hb 2
 clear hr0 hc0 hr1 hc1 hr2 hc2 hb
 go_enter Try.func95, Try.ntmps95
 go_wp2_with (go_at_call 63; refine H.out.mono ?_; rintro e w2 ⟨rfl, hb⟩; have HB := qab.mk hb; clear hb)
 go_ret
 exact ⟨rfl, HB.out⟩
def pipe_given.f (l0_0 : List (S39)) (l0_1 : List (S37)) (l0_2 : List (List Int)) (a1 : Int) (l2 : List Int) : Option (Int) := some (givenV l0_0 l0_1 l0_2 a1 l2)
set_option maxHeartbeats 4000000 in
set_option maxRecDepth 100000 in
theorem pipe_given.calls (A0_0 : Option Addr) (c0_0 : Nat) (l0_0 : List (S39)) (A0_1 : Option Addr) (c0_1 : Nat) (l0_1 : List (S37)) (A0_2 : Option Addr) (c0_2 : Nat) (l0_2 : List (List Int)) (a1 : Int) (A2 : Option Addr) (c2 : Nat) (l2 : List Int) (r : Int) (w : World) (hr0_0 : Kd.C k39 w A0_0 l0_0.length l0_0) (hc0_0 : l0_0.length ≤ c0_0) (hr0_1 : Kd.C k37 w A0_1 l0_1.length l0_1) (hc0_1 : l0_1.length ≤ c0_1) (hr0_2 : Kd.C (Kd.slice 3 (Kd.int .i64)) w A0_2 l0_2.length l0_2) (hc0_2 : l0_2.length ≤ c0_2) (hr2 : Kd.C (Kd.int .i64) w A2 l2.length l2) (hc2 : l2.length ≤ c2) (h : pipe_given.f l0_0 l0_1 l0_2 a1 l2 = some r) :
  Calls Try.prog 70 #[.agg #[.slice A0_0 l0_0.length c0_0, .slice A0_1 l0_1.length c0_1, .slice A0_2 l0_2.length c0_2], .int .i64 a1, .slice A2 l2.length c2] w fun e w' => e = .returned (.int .i64 r) ∧ Below w.heap.size w w' := by
 have h' := Option.some.inj h
 clear h
 have HF := qab.mk h'
 clear h'
 have hu26 := Try.underlying26
 have HB := qab.mk (Below.refl w.heap.size w)
 have HR0 := qab.mk hr0_0
 have HR1 := qab.mk hr0_1
 have HR2 := qab.mk hr0_2
 have HR3 := qab.mk hr2
 clear hr0_0 hr0_1 hr0_2 hr2
 have hmf : ∀ (fn : Fn) (first cap : Array Value) (w : World), (Instr.makeFunc fn first cap).run Try.prog w = .ok (.func fn first cap) w := fun _ _ _ _ => rfl
 by_cases hlen : 12 < (l2.length : Int)
 ·
  have hr : r = 3 := by rw [← HF.out]; unfold givenV; rw [if_pos hlen]
  subst hr
  go_enter Try.func70, Try.ntmps70
  go_wp2_with ((with_reducible refine qar (N := 3) rfl ?_); refine qap ?hg (N := 3) ?hd (cs := #[.slice A0_0 l0_0.length c0_0, .slice A0_1 l0_1.length c0_1, .slice A0_2 l0_2.length c0_2]) (t := 26) ?hr ?_; (case hd => rfl); (case hg => rfl); (case hr => first | (go_simp; done) | (go_simp; rfl)); intro gb hg_gb w2 hbox hb; have BKgb := qab.mk hbox; have n_HB := qab.mk (qag HB.out hb); have GEgb : w.heap.size ≤ gb := (by rw [hg_gb]; exact HB.out.size); clear HB; have HB := n_HB; clear n_HB; have hfgb := qac BKgb.out; have hcgb_0 : w2.cell? ⟨gb, 0, none⟩ = some (.slice A0_0 l0_0.length c0_0) := (qaa BKgb.out 0).trans rfl; have hcgb_1 : w2.cell? ⟨gb, 1, none⟩ = some (.slice A0_1 l0_1.length c0_1) := (qaa BKgb.out 1).trans rfl; have hcgb_2 : w2.cell? ⟨gb, 2, none⟩ = some (.slice A0_2 l0_2.length c0_2) := (qaa BKgb.out 2).trans rfl; clear hbox hb hg_gb)
  go_ret
  exact ⟨rfl, HB.out⟩
 ·
  have hr : r = if (!validB l0_0 l0_1 l0_2 || (!inB a1 0 l0_0.length || l2.any fun f => !faultB l0_0 f)) = true then 2 else 0 := by rw [← HF.out]; unfold givenV; rw [if_neg hlen]
  have HR := qab.mk hr
  clear hr
  have hval : ∀ W, Below w.heap.size w W → Calls Try.prog 54 #[.agg #[.slice A0_0 l0_0.length c0_0, .slice A0_1 l0_1.length c0_1, .slice A0_2 l0_2.length c0_2]] W fun e w' => e = .returned (.bool (validB l0_0 l0_1 l0_2)) ∧ Below W.heap.size W w' := fun W hW =>
   pipe_valid.calls _ _ _ _ _ _ _ _ _ _ W (Kd.qam HR0.out hW) hc0_0 (Kd.qam HR1.out hW) hc0_1 (Kd.qam HR2.out hW) hc0_2 rfl
  have hpl : ∀ W, Below w.heap.size w W → Calls Try.prog 62 #[.agg #[.slice A0_0 l0_0.length c0_0, .slice A0_1 l0_1.length c0_1, .slice A0_2 l0_2.length c0_2], .int .i64 a1] W fun e w' => e = .returned (.bool (inB a1 0 l0_0.length)) ∧ Below W.heap.size W w' := fun W hW =>
   pipe_place.calls _ _ _ _ _ _ _ _ _ _ _ W (Kd.qam HR0.out hW) hc0_0 (Kd.qam HR1.out hW) hc0_1 (Kd.qam HR2.out hW) hc0_2 (place_some _ _ _ _)
  have HVAL := qab.mk hval
  have HPL := qab.mk hpl
  clear hval hpl
  cases hv : validB l0_0 l0_1 l0_2 with
  | false =>
   rw [hv] at HR
   have hr2 : r = 2 := by rw [HR.out]; rfl
   have HV := qab.mk hv
   clear hv
   subst hr2
   go_enter Try.func70, Try.ntmps70
   go_wp2_with (first | ((with_reducible refine qar (N := 3) rfl ?_); refine qap ?hg (N := 3) ?hd (cs := #[.slice A0_0 l0_0.length c0_0, .slice A0_1 l0_1.length c0_1, .slice A0_2 l0_2.length c0_2]) (t := 26) ?hr ?_; (case hd => rfl); (case hg => rfl); (case hr => first | (go_simp; done) | (go_simp; rfl)); intro gb hg_gb w2 hbox hb; have BKgb := qab.mk hbox; have n_HB := qab.mk (qag HB.out hb); have GEgb : w.heap.size ≤ gb := (by rw [hg_gb]; exact HB.out.size); clear HB; have HB := n_HB; clear n_HB; have hfgb := qac BKgb.out; have hcgb_0 : w2.cell? ⟨gb, 0, none⟩ = some (.slice A0_0 l0_0.length c0_0) := (qaa BKgb.out 0).trans rfl; have hcgb_1 : w2.cell? ⟨gb, 1, none⟩ = some (.slice A0_1 l0_1.length c0_1) := (qaa BKgb.out 1).trans rfl; have hcgb_2 : w2.cell? ⟨gb, 2, none⟩ = some (.slice A0_2 l0_2.length c0_2) := (qaa BKgb.out 2).trans rfl; clear hbox hb hg_gb) | (go_at_call 54; refine (HVAL.out _ HB.out).mono ?_; rw [HV.out]; rintro e w3 ⟨rfl, hb⟩; have n_HB := qab.mk (qag HB.out hb); clear HB; have HB := n_HB; clear n_HB; clear hb))
   go_ret
   exact ⟨rfl, HB.out⟩
  | true =>
   rw [hv] at HR
   have HV := qab.mk hv
   clear hv
   cases hp : inB a1 0 l0_0.length with
   | false =>
    rw [hp] at HR
    have hr2 : r = 2 := by rw [HR.out]; rfl
    have HP := qab.mk hp
    clear hp
    subst hr2
    go_enter Try.func70, Try.ntmps70
    go_wp2_with (first | ((with_reducible refine qar (N := 3) rfl ?_); refine qap ?hg (N := 3) ?hd (cs := #[.slice A0_0 l0_0.length c0_0, .slice A0_1 l0_1.length c0_1, .slice A0_2 l0_2.length c0_2]) (t := 26) ?hr ?_; (case hd => rfl); (case hg => rfl); (case hr => first | (go_simp; done) | (go_simp; rfl)); intro gb hg_gb w2 hbox hb; have BKgb := qab.mk hbox; have n_HB := qab.mk (qag HB.out hb); have GEgb : w.heap.size ≤ gb := (by rw [hg_gb]; exact HB.out.size); clear HB; have HB := n_HB; clear n_HB; have hfgb := qac BKgb.out; have hcgb_0 : w2.cell? ⟨gb, 0, none⟩ = some (.slice A0_0 l0_0.length c0_0) := (qaa BKgb.out 0).trans rfl; have hcgb_1 : w2.cell? ⟨gb, 1, none⟩ = some (.slice A0_1 l0_1.length c0_1) := (qaa BKgb.out 1).trans rfl; have hcgb_2 : w2.cell? ⟨gb, 2, none⟩ = some (.slice A0_2 l0_2.length c0_2) := (qaa BKgb.out 2).trans rfl; clear hbox hb hg_gb) | (go_at_call 54; refine (HVAL.out _ HB.out).mono ?_; rw [HV.out]; rintro e w3 ⟨rfl, hb⟩; have n_BKgb := qab.mk (qah BKgb.out hb); clear BKgb; have BKgb := n_BKgb; clear n_BKgb; have n_HB := qab.mk (qag HB.out hb); clear HB; have HB := n_HB; clear n_HB; clear hb; have hfgb := qac BKgb.out; have hcgb_0 : w3.cell? ⟨gb, 0, none⟩ = some (.slice A0_0 l0_0.length c0_0) := (qaa BKgb.out 0).trans rfl; have hcgb_1 : w3.cell? ⟨gb, 1, none⟩ = some (.slice A0_1 l0_1.length c0_1) := (qaa BKgb.out 1).trans rfl; have hcgb_2 : w3.cell? ⟨gb, 2, none⟩ = some (.slice A0_2 l0_2.length c0_2) := (qaa BKgb.out 2).trans rfl) | (go_at_call 62; refine (HPL.out _ HB.out).mono ?_; rw [HP.out]; rintro e w4 ⟨rfl, hb⟩; have n_BKgb := qab.mk (qah BKgb.out hb); clear BKgb; have BKgb := n_BKgb; clear n_BKgb; have n_HB := qab.mk (qag HB.out hb); clear HB; have HB := n_HB; clear n_HB; clear hb; have hfgb := qac BKgb.out; have hcgb_0 : w4.cell? ⟨gb, 0, none⟩ = some (.slice A0_0 l0_0.length c0_0) := (qaa BKgb.out 0).trans rfl; have hcgb_1 : w4.cell? ⟨gb, 1, none⟩ = some (.slice A0_1 l0_1.length c0_1) := (qaa BKgb.out 1).trans rfl; have hcgb_2 : w4.cell? ⟨gb, 2, none⟩ = some (.slice A0_2 l0_2.length c0_2) := (qaa BKgb.out 2).trans rfl))
    go_ret
    exact ⟨rfl, HB.out⟩
   | true =>
    rw [hp] at HR
    have HP := qab.mk hp
    clear hp
    obtain ⟨b, hbb⟩ : ∃ b, b = l2.any fun f => !faultB l0_0 f := ⟨_, rfl⟩
    rw [← hbb] at HR
    have HBB := qab.mk hbb
    clear hbb
    have hany : ∀ gb W, Below w.heap.size w W → W.heap[gb]? = some (.cells #[.slice A0_0 l0_0.length c0_0, .slice A0_1 l0_1.length c0_1, .slice A0_2 l0_2.length c0_2] 26 (0, 0)) → Calls Try.prog 81 #[.slice A2 l2.length c2, .func (.func 95) #[] #[.pointer (some ⟨gb, 0, none⟩)]] W fun e w' => e = .returned (.bool b) ∧ Below W.heap.size W w' := fun gb W hW hg => by
     rw [HBB.out]
     exact has95 _ l2 _ _ (fun f => !faultB l0_0 f) W (Kd.qam HR3.out hW) (fun i W' _ _ hb' => by
      have hW' := qag hW hb'
      exact given1_calls _ _ l0_0 _ _ l0_1 _ _ l0_2 _ gb W' (Kd.qam HR0.out hW') hc0_0 (Kd.qam HR1.out hW') hc0_1 (Kd.qam HR2.out hW') hc0_2 (qah hg hb'))
    have HANY := qab.mk hany
    clear hany
    cases b with
    | true =>
     have hr2 : r = 2 := by rw [HR.out]; rfl
     subst hr2
     go_enter Try.func70, Try.ntmps70
     go_wp2_with (first | ((with_reducible refine qar (N := 3) rfl ?_); refine qap ?hg (N := 3) ?hd (cs := #[.slice A0_0 l0_0.length c0_0, .slice A0_1 l0_1.length c0_1, .slice A0_2 l0_2.length c0_2]) (t := 26) ?hr ?_; (case hd => rfl); (case hg => rfl); (case hr => first | (go_simp; done) | (go_simp; rfl)); intro gb hg_gb w2 hbox hb; have BKgb := qab.mk hbox; have n_HB := qab.mk (qag HB.out hb); have GEgb : w.heap.size ≤ gb := (by rw [hg_gb]; exact HB.out.size); clear HB; have HB := n_HB; clear n_HB; have hfgb := qac BKgb.out; have hcgb_0 : w2.cell? ⟨gb, 0, none⟩ = some (.slice A0_0 l0_0.length c0_0) := (qaa BKgb.out 0).trans rfl; have hcgb_1 : w2.cell? ⟨gb, 1, none⟩ = some (.slice A0_1 l0_1.length c0_1) := (qaa BKgb.out 1).trans rfl; have hcgb_2 : w2.cell? ⟨gb, 2, none⟩ = some (.slice A0_2 l0_2.length c0_2) := (qaa BKgb.out 2).trans rfl; clear hbox hb hg_gb) | (go_at_call 54; refine (HVAL.out _ HB.out).mono ?_; rw [HV.out]; rintro e w3 ⟨rfl, hb⟩; have n_BKgb := qab.mk (qah BKgb.out hb); clear BKgb; have BKgb := n_BKgb; clear n_BKgb; have n_HB := qab.mk (qag HB.out hb); clear HB; have HB := n_HB; clear n_HB; clear hb; have hfgb := qac BKgb.out; have hcgb_0 : w3.cell? ⟨gb, 0, none⟩ = some (.slice A0_0 l0_0.length c0_0) := (qaa BKgb.out 0).trans rfl; have hcgb_1 : w3.cell? ⟨gb, 1, none⟩ = some (.slice A0_1 l0_1.length c0_1) := (qaa BKgb.out 1).trans rfl; have hcgb_2 : w3.cell? ⟨gb, 2, none⟩ = some (.slice A0_2 l0_2.length c0_2) := (qaa BKgb.out 2).trans rfl) | (go_at_call 62; refine (HPL.out _ HB.out).mono ?_; rw [HP.out]; rintro e w4 ⟨rfl, hb⟩; have n_BKgb := qab.mk (qah BKgb.out hb); clear BKgb; have BKgb := n_BKgb; clear n_BKgb; have n_HB := qab.mk (qag HB.out hb); clear HB; have HB := n_HB; clear n_HB; clear hb; have hfgb := qac BKgb.out; have hcgb_0 : w4.cell? ⟨gb, 0, none⟩ = some (.slice A0_0 l0_0.length c0_0) := (qaa BKgb.out 0).trans rfl; have hcgb_1 : w4.cell? ⟨gb, 1, none⟩ = some (.slice A0_1 l0_1.length c0_1) := (qaa BKgb.out 1).trans rfl; have hcgb_2 : w4.cell? ⟨gb, 2, none⟩ = some (.slice A0_2 l0_2.length c0_2) := (qaa BKgb.out 2).trans rfl) | (go_at_call 81; refine (HANY.out gb _ HB.out BKgb.out).mono ?_; rintro e w5 ⟨rfl, hb⟩; have n_HB := qab.mk (qag HB.out hb); clear HB; have HB := n_HB; clear n_HB; clear hb))
     go_ret
     exact ⟨rfl, HB.out⟩
    | false =>
     have hr2 : r = 0 := by rw [HR.out]; rfl
     subst hr2
     go_enter Try.func70, Try.ntmps70
     go_wp2_with (first | ((with_reducible refine qar (N := 3) rfl ?_); refine qap ?hg (N := 3) ?hd (cs := #[.slice A0_0 l0_0.length c0_0, .slice A0_1 l0_1.length c0_1, .slice A0_2 l0_2.length c0_2]) (t := 26) ?hr ?_; (case hd => rfl); (case hg => rfl); (case hr => first | (go_simp; done) | (go_simp; rfl)); intro gb hg_gb w2 hbox hb; have BKgb := qab.mk hbox; have n_HB := qab.mk (qag HB.out hb); have GEgb : w.heap.size ≤ gb := (by rw [hg_gb]; exact HB.out.size); clear HB; have HB := n_HB; clear n_HB; have hfgb := qac BKgb.out; have hcgb_0 : w2.cell? ⟨gb, 0, none⟩ = some (.slice A0_0 l0_0.length c0_0) := (qaa BKgb.out 0).trans rfl; have hcgb_1 : w2.cell? ⟨gb, 1, none⟩ = some (.slice A0_1 l0_1.length c0_1) := (qaa BKgb.out 1).trans rfl; have hcgb_2 : w2.cell? ⟨gb, 2, none⟩ = some (.slice A0_2 l0_2.length c0_2) := (qaa BKgb.out 2).trans rfl; clear hbox hb hg_gb) | (go_at_call 54; refine (HVAL.out _ HB.out).mono ?_; rw [HV.out]; rintro e w3 ⟨rfl, hb⟩; have n_BKgb := qab.mk (qah BKgb.out hb); clear BKgb; have BKgb := n_BKgb; clear n_BKgb; have n_HB := qab.mk (qag HB.out hb); clear HB; have HB := n_HB; clear n_HB; clear hb; have hfgb := qac BKgb.out; have hcgb_0 : w3.cell? ⟨gb, 0, none⟩ = some (.slice A0_0 l0_0.length c0_0) := (qaa BKgb.out 0).trans rfl; have hcgb_1 : w3.cell? ⟨gb, 1, none⟩ = some (.slice A0_1 l0_1.length c0_1) := (qaa BKgb.out 1).trans rfl; have hcgb_2 : w3.cell? ⟨gb, 2, none⟩ = some (.slice A0_2 l0_2.length c0_2) := (qaa BKgb.out 2).trans rfl) | (go_at_call 62; refine (HPL.out _ HB.out).mono ?_; rw [HP.out]; rintro e w4 ⟨rfl, hb⟩; have n_BKgb := qab.mk (qah BKgb.out hb); clear BKgb; have BKgb := n_BKgb; clear n_BKgb; have n_HB := qab.mk (qag HB.out hb); clear HB; have HB := n_HB; clear n_HB; clear hb; have hfgb := qac BKgb.out; have hcgb_0 : w4.cell? ⟨gb, 0, none⟩ = some (.slice A0_0 l0_0.length c0_0) := (qaa BKgb.out 0).trans rfl; have hcgb_1 : w4.cell? ⟨gb, 1, none⟩ = some (.slice A0_1 l0_1.length c0_1) := (qaa BKgb.out 1).trans rfl; have hcgb_2 : w4.cell? ⟨gb, 2, none⟩ = some (.slice A0_2 l0_2.length c0_2) := (qaa BKgb.out 2).trans rfl) | (go_at_call 81; refine (HANY.out gb _ HB.out BKgb.out).mono ?_; rintro e w5 ⟨rfl, hb⟩; have n_HB := qab.mk (qag HB.out hb); clear HB; have HB := n_HB; clear n_HB; clear hb))
     go_ret
     exact ⟨rfl, HB.out⟩
end Go.Proofs.Ytipphcjgdebecaa.PA
namespace Go.Proofs.Ytipphcjgdebecaa.PA
open Go.RowKit Go.Proofs.YtipphcjgdebecaaW.PrintWords Go.Proofs.YtipphcjgdebecaaW.PrintLast Go.Proofs.YtipphcjgdebecaaW.PrintMore
attribute [local go_sem] max2_int min2_int max_two min_two max_three min_three max_four min_four
attribute [local go_sem] Oper.semAt_some
def numsOf (m : Nat) : List Int := (List.range m).map fun i : Nat => (i : Int)
theorem numsOf_succ (m : Nat) : numsOf (m + 1) = numsOf m ++ [(m : Int)] := by simp [numsOf, List.range_succ]
theorem numsOf_pre (k m : Nat) (h : k ≤ m) : numsOf k <+: numsOf m := by
 induction m with
 | zero =>
  obtain rfl : k = 0 := by omega
  exact List.prefix_refl _
 | succ m ih =>
  rcases Nat.lt_or_ge k (m + 1) with hk | hk
  ·
   rw [numsOf_succ]
   exact (ih (by omega)).trans (List.prefix_append _ _)
  ·
   obtain rfl : k = m + 1 := by omega
   exact List.prefix_refl _
theorem numsOf_length (m : Nat) : (numsOf m).length = m := by simp [numsOf]
set_option maxRecDepth 100000 in
set_option maxHeartbeats 1000000 in
theorem numbers1_in (F : Fence) (n : Nat) (h6 : F.fn 96) (hro : F.round = none) (hn : 1 ≤ n) (l Bn : Nat) (m : Nat) (hm : m ≤ 1000) (J Jx : List Int → World → Prop)
  (hY : ∀ pre x W, x ∈ numsOf m → J pre W → pre.length < (numsOf m).length → YieldAt F (n - 1) Try.prog l #[.int .i64 x] W fun e W' =>
   (e = .returned (.bool true) ∧ J (pre ++ [x]) W' ∧ KeptAt Bn W W') ∨ (e = .returned (.bool false) ∧ Jx (pre ++ [x]) W'))
  (W : World) (hBn : W.heap[Bn]? = some (.cells #[.int .i64 m] 3 (0, 0))) (h0 : J [] W) :
  CallsIn F n Try.prog 96 #[.func (.yield l) #[] #[], .pointer (some ⟨Bn, 0, none⟩)] W fun e W' => (∃ v, e = .returned v) ∧
   ((∃ ys, ys = numsOf m ∧ J ys W') ∨ (∃ pre, pre <+: numsOf m ∧ Jx pre W')) := by
 refine callsIn_of_wp Try.func96 rfl h6 ?_ hro
 simp only [Try.ntmps96, List.size_toArray, List.length_cons, List.length_nil, Nat.reduceAdd, Nat.reduceSub, Array.replicate_succ, Array.replicate_zero, List.push_toArray, List.append_toArray, List.nil_append, List.cons_append]
 have hc0 : W.cell? ⟨Bn, 0, none⟩ = some (.int .i64 m) := (qaa hBn 0).trans rfl
 gi_wp2
 gi_loopw [5] (fun s wr => ∃ (k : Nat), k ≤ m ∧ s = .int .i64 k ∧ qab (J (numsOf k) wr))
  (fun s _ => m - (intOf s).toNat)
 case atStart =>
  exact ⟨0, by omega, rfl, ⟨h0⟩⟩
 case round =>
  obtain ⟨k, hk, rfl, HJ⟩ := hrel
  by_cases hlt : k < m
  ·
   have hlt1 : (k : Int) < m := by omega
   obtain ⟨fn, tmps, assign, body, hy, hR⟩ := hY (numsOf k) k wr ((numsOf_pre (k + 1) m (by omega)).subset (by rw [numsOf_succ]; simp)) HJ.out (by rw [numsOf_length, numsOf_length]; exact hlt)
   gi_wp2
   try rw [hy]
   refine hR.mono ?_
   rintro e W3 (⟨rfl, hJ3, hk3⟩ | ⟨rfl, hJx3⟩)
   ·
    have HJ3 := qab.mk hJ3
    clear hJ3 hk3
    gi_wp2
    go_roundw
    case rel => exact ⟨k + 1, by omega, by go_num, ⟨by rw [numsOf_succ]; exact HJ3.out⟩⟩
    case measure => simp [intOf]; omega
   ·
    have HJ3 := qab.mk hJx3
    clear hJx3
    gi_wp2
    refine bodyPost_ret (results_none rfl _ _ _) rfl ?_
    exact ⟨⟨_, rfl⟩, .inr ⟨numsOf k ++ [(k : Int)], by rw [← numsOf_succ]; exact numsOf_pre (k + 1) m (by omega), HJ3.out⟩⟩
  ·
   obtain rfl : k = m := by omega
   gi_wp2
   go_end0
   exact ⟨⟨_, rfl⟩, .inl ⟨_, rfl, HJ.out⟩⟩
theorem numbers_stops (n : Nat) (hn : 1 ≤ n) (m : Nat) (hm : m ≤ 1000) (Bn : Nat) (w : World) (hBn : w.heap[Bn]? = some (.cells #[.int .i64 m] 3 (0, 0))) :
  SeqStopsK Fence.wide n Try.prog 96 #[.pointer (some ⟨Bn, 0, none⟩)] (fun x : { x : Int // x ∈ numsOf m } => #[.int .i64 x.1]) (KeptAt Bn) (fun xs => xs.map (·.1) = numsOf m) (fun pre => pre.map (·.1) <+: numsOf m) (numsOf m).length w := by
 intro l J Jx W hW hJ hJx hY h0
 refine (numbers1_in Fence.wide n trivial rfl hn l Bn m hm (fun pre W => ∃ p : List { x : Int // x ∈ numsOf m }, p.map (·.1) = pre ∧ J p W) (fun pre W => ∃ p : List { x : Int // x ∈ numsOf m }, p.map (·.1) = pre ∧ Jx p W) ?_ W ((hW.block Bn (blk_lt hBn)).trans hBn) ⟨[], rfl, h0⟩).mono ?_
 ·
  rintro pre x W1 hx ⟨p, rfl, hp⟩ hlen
  refine YieldAt_mono (hY p ⟨x, hx⟩ W1 hp (by simpa using hlen)) ?_
  rintro e W' (⟨rfl, h1, h2⟩ | ⟨rfl, h1⟩)
  ·
   exact .inl ⟨rfl, ⟨_, by simp, h1⟩, h2⟩
  ·
   exact .inr ⟨rfl, ⟨_, by simp, h1⟩⟩
 ·
  rintro e W' ⟨hv, (⟨ys, rfl, p, hp, h1⟩ | ⟨pre, hpre, p, rfl, h1⟩)⟩
  ·
   exact ⟨hv, .inl ⟨p, hp, h1⟩⟩
  ·
   exact ⟨hv, .inr ⟨p, hpre, h1⟩⟩
theorem numbers_calls (f : Int) (w : World) : Calls Try.prog 72 #[.int .i64 f] w fun e w' => ∃ B, e = .returned (.func (.func 96) #[] #[.pointer (some ⟨B, 0, none⟩)]) ∧ w'.heap[B]? = some (.cells #[.int .i64 f] 3 (0, 0)) ∧ w.heap.size ≤ B ∧ Below w.heap.size w w' := by
 have hmf : ∀ (fn : Fn) (first cap : Array Value) (w : World), (Instr.makeFunc fn first cap).run Try.prog w = .ok (.func fn first cap) w := fun _ _ _ _ => rfl
 have HB := qab.mk (Below.refl w.heap.size w)
 go_enter Try.func72, Try.ntmps72
 go_wp2_with ((with_reducible refine qar (N := 1) rfl ?_); refine qap ?hg (N := 1) ?hd (cs := #[.int .i64 f]) (t := 3) ?hr ?_; (case hd => rfl); (case hg => rfl); (case hr => first | (go_simp; done) | (go_simp; rfl)); intro gb hg_gb w2 hbox hb; have BKgb := qab.mk hbox; have n_HB := qab.mk (qag HB.out hb); have GEgb : w.heap.size ≤ gb := (by rw [hg_gb]; exact HB.out.size); clear HB; have HB := n_HB; clear n_HB; have hfgb := qac BKgb.out; have hcgb_0 : w2.cell? ⟨gb, 0, none⟩ = some (.int .i64 f) := (qaa BKgb.out 0).trans rfl; clear hbox hb hg_gb)
 go_ret
 exact ⟨gb, rfl, BKgb.out, GEgb, HB.out⟩
end Go.Proofs.Ytipphcjgdebecaa.PA
namespace Go.Proofs.Ytipphcjgdebecaa.PA
open Go.RowKit Go.Proofs.YtipphcjgdebecaaW.PrintWords Go.Proofs.YtipphcjgdebecaaW.PrintLast Go.Proofs.YtipphcjgdebecaaW.PrintMore
attribute [local go_sem] max2_int min2_int max_two min_two max_three min_three max_four min_four
attribute [local go_sem] Oper.semAt_some
set_option maxRecDepth 100000 in
set_option maxHeartbeats 4000000 in
theorem greatest73_calls {p : Int → Prop} {gf : Nat} {lb : Array Value} (egf : ∀ args w, (callFunc gf args).run Try.prog w = .ok (.enter gf args) w)
  {S Sp : List { x : Int // p x } → Prop} {N Bn : Nat} {w : World} (hBn : Bn < w.heap.size)
  (hseq : ∀ n, 1 ≤ n → SeqStopsK Fence.wide n Try.prog gf lb (fun x : { x : Int // p x } => #[.int .i64 x.1]) (KeptAt Bn) S Sp N w)
  (L : List Int) (hS : ∀ xs, S xs → xs.map (·.1) = L) {Inv : (Nat → Prop) → World → Prop} (HI : Held w.heap.size Inv) (T : Nat → Prop) (hT : ∀ k, T k → k < w.heap.size ∧ k ≠ Bn)
  (A0 : Nat → Prop) (c0 c1 : Value) (of : Int → Int × Bool)
  (hof : ∀ A W x, p x → (∀ k, A k → k < W.heap.size) → Inv A W → Calls Try.prog 73 #[.int .i64 x, c0, c1] W fun e W' => e = .returned (.tuple #[.int .i64 (of x).1, .bool (of x).2]) ∧ Inv A W' ∧ KB T W W')
  (h0 : Inv A0 w) (hA0 : ∀ k, A0 k → k < w.heap.size) :
  Calls Try.prog 71 #[.func (.func gf) #[] lb, .func (.func 73) #[] #[c0, c1]] w fun e W' => e = .returned (.tuple #[.int .i64 (g1 of L).1, .int .i64 (g1 of L).2.1, .bool (g1 of L).2.2]) ∧ Inv A0 W' ∧ KB T w W' := by
 refine (callsIn_wide (n := 8)).1 ?_
 refine callsIn_of_wp_marks Try.func71 rfl trivial ?_ rfl
 simp only [Try.ntmps71, List.size_toArray, List.length_cons, List.length_nil, Nat.reduceAdd, Nat.reduceSub, Array.replicate_succ, Array.replicate_zero, List.push_toArray, List.append_toArray, List.nil_append, List.cons_append]
 gi_wp2
 obtain ⟨w4, hw4, b3, b7, b8, b9, hsz, hb⟩ := allocs4 w (.cells #[.func (.func 73) #[] #[c0, c1]] 110) (.cells #[.int .i64 0] 3) (.cells #[.int .i64 0] 3) (.cells #[.bool false] 4)
 rw [hw4]
 clear hw4
 obtain ⟨A, hAe⟩ : ∃ A : Nat → Prop, A = (fun k => A0 k ∨ k = w.heap.size + 1 ∨ k = w.heap.size + 1 + 1 ∨ k = w.heap.size + 1 + 1 + 1) := ⟨_, rfl⟩
 have hA : ∀ k, A k → k < w4.heap.size := fun k hk => by
  rw [hAe] at hk
  rcases hk with hk | hk | hk | hk
  ·
   have := hA0 k hk
   omega
  ·
   omega
  ·
   omega
  ·
   omega
 have i0 : Inv A w4 := by
  refine HI.step _ w _ (HI.mono _ _ _ (fun k hk => ?_) (HI.fresh _ _ h0)) (KB.of_below hb _)
  rw [hAe] at hk
  rcases hk with hk | hk | hk | hk
  ·
   exact .inl hk
  ·
   exact .inr (by omega)
  ·
   exact .inr (by omega)
  ·
   exact .inr (by omega)
 refine wpIn_rangeFunc_ownG rfl (by omega) (gf := gf) (lb := lb) rfl trivial egf (hseq _ (by omega)) (fun h k => KeptAt.trans h k) (keptAt_put (by omega)) hb (fun _ => rfl)
  (fun pre W => Inv A W ∧ W.heap[w.heap.size]? = some (.cells #[.func (.func 73) #[] #[c0, c1]] 110 (0, 0)) ∧
   W.heap[w.heap.size + 1]? = some (.cells #[.int .i64 (g1 of (pre.map (·.1))).1] 3 (0, 0)) ∧ W.heap[w.heap.size + 1 + 1]? = some (.cells #[.int .i64 (g1 of (pre.map (·.1))).2.1] 3 (0, 0)) ∧
   W.heap[w.heap.size + 1 + 1 + 1]? = some (.cells #[.bool (g1 of (pre.map (·.1))).2.2] 4 (0, 0)) ∧ KB T w W)
  (fun _ _ _ => False) ?own (fun _ _ _ _ _ hs _ _ => hs) ⟨i0, b3, b7, b8, b9, KB.of_below hb T⟩
  (fun x => { tmps := #[.func (.func gf) #[] lb, .func (.func 73) #[] #[c0, c1], undef, .pointer (some ⟨w.heap.size, 0, none⟩), .int .i64 0, .int .i64 0, .bool false, .pointer (some ⟨w.heap.size + 1, 0, none⟩), .pointer (some ⟨w.heap.size + 1 + 1, 0, none⟩), .pointer (some ⟨w.heap.size + 1 + 1 + 1, 0, none⟩),
   .int .i64 x.1, undef, undef, .func (.func gf) #[] lb, .int .i64 x.1, undef, undef, undef, undef, undef, undef, undef, undef, undef, undef, undef, undef, undef, undef, undef, undef, undef, undef, undef, undef, undef], defers := [] }) ?assign ?body ?done ?stop
 case own =>
  rintro s A B row ⟨h1, h2, h3, h4, h5, h6⟩ hg hr
  refine ⟨HI.own _ _ _ row h1 hg (fun r e => ⟨by have := (hr r e).1; omega, (hr r e).2⟩), blk_own h2 hg hr, blk_own h3 hg hr, blk_own h4 hg hr, blk_own h5 hg hr, ?_⟩
  exact h6.trans (KB.of_grown hg) (fun k e => .inr (by have := (hr k e).1; omega))
 case assign =>
  intro l x W K hK
  gi_wp2
  exact hK
 case body =>
  rintro l pre x W ⟨h1, h2, h3, h4, h5, h6⟩ _
  have hlt : w4.heap.size ≤ W.heap.size ∨ True := .inr trivial
  have hd : 1 ≤ 8 - 1 - 1 := by omega
  obtain ⟨x, hx⟩ := x
  have hcall := hof A W x hx (fun k hk => by
   have e1 := blk_lt h5
   have := hA k hk
   omega) h1
  have hmap : (pre ++ [(⟨x, hx⟩ : { x : Int // p x })]).map (·.1) = pre.map (·.1) ++ [x] := by simp
  have HM := qab.mk hmap
  have hst := g1_snoc of (pre.map (·.1)) x
  unfold g1s at hst
  have HST := qab.mk hst
  clear hst hmap
  generalize hg1 : g1 of (pre.map (·.1)) = g at h3 h4 h5 HST
  obtain ⟨go, gm, gfo⟩ := g
  generalize hn1 : of x = n1 at HST hcall
  obtain ⟨n1, b1⟩ := n1
  dsimp only at h3 h4 h5 HST hcall
  have H1 := qab.mk h1
  have H2 := qab.mk h2
  have H3 := qab.mk h3
  have H4 := qab.mk h4
  have H5 := qab.mk h5
  have H6 := qab.mk h6
  have hc2 : W.cell? ⟨w.heap.size, 0, none⟩ = some (.func (.func 73) #[] #[c0, c1]) := qaa h2 0
  have hWs : w.heap.size ≤ W.heap.size := h6.size
  clear h1 h2 h3 h4 h5 h6 hof hseq hS
  gi_wp2
  refine ⟨trivial, (CallsIn.inRound l (callsIn_wide.2 hcall)).mono ?_⟩
  rintro e W2 ⟨rfl, i1, k1⟩
  clear hcall hc2
  have nT : ∀ j, w.heap.size ≤ j → ¬ T j := fun j hj hk => by have := (hT j hk).1; omega
  have J2 := k1.blk H2.out (nT _ (by omega))
  have J3 := k1.blk H3.out (nT _ (by omega))
  have J4 := k1.blk H4.out (nT _ (by omega))
  have J5 := k1.blk H5.out (nT _ (by omega))
  have KT := qab.mk (H6.out.trans k1 (fun k hk => .inl hk))
  have KW := qab.mk k1
  have I1 := qab.mk i1
  clear i1 k1 H2 H3 H4 H5 H6 H1
  have hc3 : W2.cell? ⟨w.heap.size + 1, 0, none⟩ = some (.int .i64 go) := qaa J3 0
  have hc4 : W2.cell? ⟨w.heap.size + 1 + 1, 0, none⟩ = some (.int .i64 gm) := qaa J4 0
  have hc5 : W2.cell? ⟨w.heap.size + 1 + 1 + 1, 0, none⟩ = some (.bool gfo) := qaa J5 0
  have hf3 : W2.frozen? ⟨w.heap.size + 1, 0, none⟩ = false := qac J3 0
  have hf4 : W2.frozen? ⟨w.heap.size + 1 + 1, 0, none⟩ = false := qac J4 0
  have hf5 : W2.frozen? ⟨w.heap.size + 1 + 1 + 1, 0, none⟩ = false := qac J5 0
  have KEEP : qab (KeepsFrom w4.heap.size W W2 ∧ KeptAt Bn W W2) := ⟨KW.out.from (fun k hk => by have := (hT k hk).1; omega), KW.out.block Bn (by omega) (fun hk => (hT _ hk).2 rfl)⟩
  have B2 := qab.mk J2
  have B3 := qab.mk J3
  have B4 := qab.mk J4
  have B5 := qab.mk J5
  clear J2 J3 J4 J5
  have NO : ∀ a : Act, b1 = false ∨ (gfo = true ∧ ¬ n1 > gm) → ownPostG w4.heap.size (KeptAt Bn) (fun pre W => Inv A W ∧ W.heap[w.heap.size]? = some (.cells #[.func (.func 73) #[] #[c0, c1]] 110 (0, 0)) ∧
   W.heap[w.heap.size + 1]? = some (.cells #[.int .i64 (g1 of (pre.map (·.1))).1] 3 (0, 0)) ∧ W.heap[w.heap.size + 1 + 1]? = some (.cells #[.int .i64 (g1 of (pre.map (·.1))).2.1] 3 (0, 0)) ∧
   W.heap[w.heap.size + 1 + 1 + 1]? = some (.cells #[.bool (g1 of (pre.map (·.1))).2.2] 4 (0, 0)) ∧ KB T w W) (fun _ _ _ => False) (pre ++ [(⟨x, hx⟩ : { x : Int // p x })]) W .normal a W2 := by
   intro a hno
   have hv : g1 of (pre.map (·.1) ++ [x]) = (go, gm, gfo) := by
    rw [HST.out, if_neg]
    rintro ⟨ha, hb⟩
    rcases hno with hno | ⟨hno, hno2⟩
    ·
     rw [hno] at ha; cases ha
    ·
     rcases hb with hb | hb
     ·
      rw [hno] at hb; cases hb
     ·
      exact hno2 hb
   refine ⟨KEEP.out.1, KEEP.out.2, I1.out, B2.out, ?_⟩
   rw [HM.out, hv]
   exact ⟨B3.out, B4.out, B5.out, KT.out⟩
  have HNO := qab.mk NO
  clear NO
  have YES : ∀ a : Act, b1 = true ∧ (gfo = false ∨ n1 > gm) → ownPostG w4.heap.size (KeptAt Bn) (fun pre W => Inv A W ∧ W.heap[w.heap.size]? = some (.cells #[.func (.func 73) #[] #[c0, c1]] 110 (0, 0)) ∧
   W.heap[w.heap.size + 1]? = some (.cells #[.int .i64 (g1 of (pre.map (·.1))).1] 3 (0, 0)) ∧ W.heap[w.heap.size + 1 + 1]? = some (.cells #[.int .i64 (g1 of (pre.map (·.1))).2.1] 3 (0, 0)) ∧
   W.heap[w.heap.size + 1 + 1 + 1]? = some (.cells #[.bool (g1 of (pre.map (·.1))).2.2] 4 (0, 0)) ∧ KB T w W) (fun _ _ _ => False) (pre ++ [(⟨x, hx⟩ : { x : Int // p x })]) W .normal a (((W2.setCell ⟨w.heap.size + 1, 0, none⟩ (.int .i64 x)).setCell ⟨w.heap.size + 1 + 1, 0, none⟩ (.int .i64 n1)).setCell ⟨w.heap.size + 1 + 1 + 1, 0, none⟩ (.bool true)) := by
   intro a hyes
   have hv : g1 of (pre.map (·.1) ++ [x]) = (x, n1, true) := by
    rw [HST.out, if_pos hyes]
   have kA : ∀ S : Nat → Prop, S (w.heap.size + 1) → S (w.heap.size + 1 + 1) → S (w.heap.size + 1 + 1 + 1) → KB S W2 (((W2.setCell ⟨w.heap.size + 1, 0, none⟩ (.int .i64 x)).setCell ⟨w.heap.size + 1 + 1, 0, none⟩ (.int .i64 n1)).setCell ⟨w.heap.size + 1 + 1 + 1, 0, none⟩ (.bool true)) :=
    fun S s1 s2 s3 => (((KB.refl S W2).set (p := ⟨w.heap.size + 1, 0, none⟩) (.inl s1) _).set (p := ⟨w.heap.size + 1 + 1, 0, none⟩) (.inl s2) _).set (p := ⟨w.heap.size + 1 + 1 + 1, 0, none⟩) (.inl s3) _
   have kW := (KW.out.mono (T' := fun k => T k ∨ k = w.heap.size + 1 ∨ k = w.heap.size + 1 + 1 ∨ k = w.heap.size + 1 + 1 + 1) (fun k hk => .inl hk)).trans (kA _ (.inr (.inl rfl)) (.inr (.inr (.inl rfl))) (.inr (.inr (.inr rfl)))) (fun k hk => .inl hk)
   refine ⟨kW.from (fun k hk => ?_), kW.block Bn (by omega) (fun hk => ?_), HI.step _ _ _ I1.out (kA A ?_ ?_ ?_), ?_, ?_⟩
   ·
    rcases hk with hk | hk | hk | hk
    ·
     have := (hT k hk).1
     omega
    ·
     omega
    ·
     omega
    ·
     omega
   ·
    rcases hk with hk | hk | hk | hk
    ·
     exact (hT _ hk).2 rfl
    ·
     omega
    ·
     omega
    ·
     omega
   ·
    rw [hAe]; exact .inr (.inl rfl)
   ·
    rw [hAe]; exact .inr (.inr (.inl rfl))
   ·
    rw [hAe]; exact .inr (.inr (.inr rfl))
   ·
    exact blk_far (blk_far (blk_far B2.out (by dsimp only; omega) _) (by dsimp only; omega) _) (by dsimp only; omega) _
   ·
    rw [HM.out, hv]
    refine ⟨?_, ?_, ?_, ?_⟩
    ·
     exact blk_far (blk_far (blk_set B3.out 0 _) (by dsimp only; omega) _) (by dsimp only; omega) _
    ·
     exact blk_far (blk_set (blk_far B4.out (by dsimp only; omega) _) 0 _) (by dsimp only; omega) _
    ·
     exact blk_set (blk_far (blk_far B5.out (by dsimp only; omega) _) (by dsimp only; omega) _) 0 _
    ·
     exact KT.out.trans (kA (fun k => w.heap.size ≤ k) (by omega) (by omega) (by omega)) (fun k hk => .inr hk)
  have HYES := qab.mk YES
  clear YES
  cases b1 with
  | false =>
   gi_wp2
   exact HNO.out _ (by simp)
  | true =>
   cases gfo with
   | false =>
    gi_wp2
    exact HYES.out _ (by simp)
   | true =>
    by_cases hgt : n1 > gm
    ·
     gi_wp2
     exact HYES.out _ (by simp [hgt])
    ·
     gi_wp2
     exact HNO.out _ (by simp [hgt])
 case done =>
  rintro D xs W hD hSx ⟨h1, h2, h3, h4, h5, h6⟩ hK
  have hl := hS xs hSx
  rw [hl] at h3 h4 h5
  have hc3 : W.cell? ⟨w.heap.size + 1, 0, none⟩ = some (.int .i64 (g1 of L).1) := qaa h3 0
  have hc4 : W.cell? ⟨w.heap.size + 1 + 1, 0, none⟩ = some (.int .i64 (g1 of L).2.1) := qaa h4 0
  have hc5 : W.cell? ⟨w.heap.size + 1 + 1 + 1, 0, none⟩ = some (.bool (g1 of L).2.2) := qaa h5 0
  clear hof hseq hS h2 h3 h4 h5
  generalize hgL : g1 of L = g at hc3 hc4 hc5
  have HG := qab.mk hgL
  clear hgL
  have H1 := qab.mk h1
  have H6 := qab.mk h6
  have HK := qab.mk hK
  clear h1 h6 hK
  gi_wp2
  gi_region
  all_goals gi_wp2
  refine ⟨by simp, .inl ⟨_, _, rfl, run_takeDeferred (show W.drew.heap[D]? = _ from HK.out), ?_⟩⟩
  have hput := grownBy_putObj' W.drew D (.deferred none)
  have hrow : ∀ r, some D = some r → w.heap.size ≤ r ∧ ∃ o : Obj, W.drew.heap[r]? = some o ∧ o.isCells = false := fun r e => by
   injection e with e
   subst e
   exact ⟨by omega, _, HK.out, rfl⟩
  have hid : Inv A W.drew := HI.own A W W.drew none H1.out ⟨rfl, rfl, rfl, Nat.le_refl _, fun _ _ _ => rfl⟩ (fun r e => by cases e)
  have hi2 := HI.own A W.drew _ (some D) hid hput hrow
  refine ⟨_, results_tmp3 rfl _ _ _, by rw [HG.out]; rfl, HI.mono _ _ _ (fun k hk => by rw [hAe]; exact .inl hk) hi2, ?_⟩
  have hk6 : KB T w W.drew := ⟨H6.out.os, H6.out.tape, H6.out.output, H6.out.size, H6.out.block⟩
  exact hk6.trans (KB.of_grown hput) (fun k e => .inr (by injection e with e; omega))
 case stop =>
  rintro D c pre W _ _ h _
  exact h.elim
set_option maxRecDepth 100000 in
set_option maxHeartbeats 4000000 in
theorem greatest75_calls {p : Int → Prop} {gf : Nat} {lb : Array Value} (egf : ∀ args w, (callFunc gf args).run Try.prog w = .ok (.enter gf args) w)
  {S Sp : List { x : Int // p x } → Prop} {N Bn : Nat} {w : World} (hBn : Bn < w.heap.size)
  (hseq : ∀ n, 1 ≤ n → SeqStopsK Fence.wide n Try.prog gf lb (fun x : { x : Int // p x } => #[.int .i64 x.1]) (KeptAt Bn) S Sp N w)
  (L : List Int) (hS : ∀ xs, S xs → xs.map (·.1) = L) {Inv : (Nat → Prop) → World → Prop} (HI : Held w.heap.size Inv) (T : Nat → Prop) (hT : ∀ k, T k → k < w.heap.size ∧ k ≠ Bn)
  (A0 : Nat → Prop) (c0 c1 c2 : Value) (of : Int → Int × Bool)
  (hof : ∀ A W x, p x → (∀ k, A k → k < W.heap.size) → Inv A W → Calls Try.prog 75 #[.int .i64 x, c0, c1, c2] W fun e W' => e = .returned (.tuple #[.int .i64 (of x).1, .bool (of x).2]) ∧ Inv A W' ∧ KB T W W')
  (h0 : Inv A0 w) (hA0 : ∀ k, A0 k → k < w.heap.size) :
  Calls Try.prog 71 #[.func (.func gf) #[] lb, .func (.func 75) #[] #[c0, c1, c2]] w fun e W' => e = .returned (.tuple #[.int .i64 (g1 of L).1, .int .i64 (g1 of L).2.1, .bool (g1 of L).2.2]) ∧ Inv A0 W' ∧ KB T w W' := by
 refine (callsIn_wide (n := 8)).1 ?_
 refine callsIn_of_wp_marks Try.func71 rfl trivial ?_ rfl
 simp only [Try.ntmps71, List.size_toArray, List.length_cons, List.length_nil, Nat.reduceAdd, Nat.reduceSub, Array.replicate_succ, Array.replicate_zero, List.push_toArray, List.append_toArray, List.nil_append, List.cons_append]
 gi_wp2
 obtain ⟨w4, hw4, b3, b7, b8, b9, hsz, hb⟩ := allocs4 w (.cells #[.func (.func 75) #[] #[c0, c1, c2]] 110) (.cells #[.int .i64 0] 3) (.cells #[.int .i64 0] 3) (.cells #[.bool false] 4)
 rw [hw4]
 clear hw4
 obtain ⟨A, hAe⟩ : ∃ A : Nat → Prop, A = (fun k => A0 k ∨ k = w.heap.size + 1 ∨ k = w.heap.size + 1 + 1 ∨ k = w.heap.size + 1 + 1 + 1) := ⟨_, rfl⟩
 have hA : ∀ k, A k → k < w4.heap.size := fun k hk => by
  rw [hAe] at hk
  rcases hk with hk | hk | hk | hk
  ·
   have := hA0 k hk
   omega
  ·
   omega
  ·
   omega
  ·
   omega
 have i0 : Inv A w4 := by
  refine HI.step _ w _ (HI.mono _ _ _ (fun k hk => ?_) (HI.fresh _ _ h0)) (KB.of_below hb _)
  rw [hAe] at hk
  rcases hk with hk | hk | hk | hk
  ·
   exact .inl hk
  ·
   exact .inr (by omega)
  ·
   exact .inr (by omega)
  ·
   exact .inr (by omega)
 refine wpIn_rangeFunc_ownG rfl (by omega) (gf := gf) (lb := lb) rfl trivial egf (hseq _ (by omega)) (fun h k => KeptAt.trans h k) (keptAt_put (by omega)) hb (fun _ => rfl)
  (fun pre W => Inv A W ∧ W.heap[w.heap.size]? = some (.cells #[.func (.func 75) #[] #[c0, c1, c2]] 110 (0, 0)) ∧
   W.heap[w.heap.size + 1]? = some (.cells #[.int .i64 (g1 of (pre.map (·.1))).1] 3 (0, 0)) ∧ W.heap[w.heap.size + 1 + 1]? = some (.cells #[.int .i64 (g1 of (pre.map (·.1))).2.1] 3 (0, 0)) ∧
   W.heap[w.heap.size + 1 + 1 + 1]? = some (.cells #[.bool (g1 of (pre.map (·.1))).2.2] 4 (0, 0)) ∧ KB T w W)
  (fun _ _ _ => False) ?own (fun _ _ _ _ _ hs _ _ => hs) ⟨i0, b3, b7, b8, b9, KB.of_below hb T⟩
  (fun x => { tmps := #[.func (.func gf) #[] lb, .func (.func 75) #[] #[c0, c1, c2], undef, .pointer (some ⟨w.heap.size, 0, none⟩), .int .i64 0, .int .i64 0, .bool false, .pointer (some ⟨w.heap.size + 1, 0, none⟩), .pointer (some ⟨w.heap.size + 1 + 1, 0, none⟩), .pointer (some ⟨w.heap.size + 1 + 1 + 1, 0, none⟩),
   .int .i64 x.1, undef, undef, .func (.func gf) #[] lb, .int .i64 x.1, undef, undef, undef, undef, undef, undef, undef, undef, undef, undef, undef, undef, undef, undef, undef, undef, undef, undef, undef, undef, undef], defers := [] }) ?assign ?body ?done ?stop
 case own =>
  rintro s A B row ⟨h1, h2, h3, h4, h5, h6⟩ hg hr
  refine ⟨HI.own _ _ _ row h1 hg (fun r e => ⟨by have := (hr r e).1; omega, (hr r e).2⟩), blk_own h2 hg hr, blk_own h3 hg hr, blk_own h4 hg hr, blk_own h5 hg hr, ?_⟩
  exact h6.trans (KB.of_grown hg) (fun k e => .inr (by have := (hr k e).1; omega))
 case assign =>
  intro l x W K hK
  gi_wp2
  exact hK
 case body =>
  rintro l pre x W ⟨h1, h2, h3, h4, h5, h6⟩ _
  have hlt : w4.heap.size ≤ W.heap.size ∨ True := .inr trivial
  have hd : 1 ≤ 8 - 1 - 1 := by omega
  obtain ⟨x, hx⟩ := x
  have hcall := hof A W x hx (fun k hk => by
   have e1 := blk_lt h5
   have := hA k hk
   omega) h1
  have hmap : (pre ++ [(⟨x, hx⟩ : { x : Int // p x })]).map (·.1) = pre.map (·.1) ++ [x] := by simp
  have HM := qab.mk hmap
  have hst := g1_snoc of (pre.map (·.1)) x
  unfold g1s at hst
  have HST := qab.mk hst
  clear hst hmap
  generalize hg1 : g1 of (pre.map (·.1)) = g at h3 h4 h5 HST
  obtain ⟨go, gm, gfo⟩ := g
  generalize hn1 : of x = n1 at HST hcall
  obtain ⟨n1, b1⟩ := n1
  dsimp only at h3 h4 h5 HST hcall
  have H1 := qab.mk h1
  have H2 := qab.mk h2
  have H3 := qab.mk h3
  have H4 := qab.mk h4
  have H5 := qab.mk h5
  have H6 := qab.mk h6
  have hc2 : W.cell? ⟨w.heap.size, 0, none⟩ = some (.func (.func 75) #[] #[c0, c1, c2]) := qaa h2 0
  have hWs : w.heap.size ≤ W.heap.size := h6.size
  clear h1 h2 h3 h4 h5 h6 hof hseq hS
  gi_wp2
  refine ⟨trivial, (CallsIn.inRound l (callsIn_wide.2 hcall)).mono ?_⟩
  rintro e W2 ⟨rfl, i1, k1⟩
  clear hcall hc2
  have nT : ∀ j, w.heap.size ≤ j → ¬ T j := fun j hj hk => by have := (hT j hk).1; omega
  have J2 := k1.blk H2.out (nT _ (by omega))
  have J3 := k1.blk H3.out (nT _ (by omega))
  have J4 := k1.blk H4.out (nT _ (by omega))
  have J5 := k1.blk H5.out (nT _ (by omega))
  have KT := qab.mk (H6.out.trans k1 (fun k hk => .inl hk))
  have KW := qab.mk k1
  have I1 := qab.mk i1
  clear i1 k1 H2 H3 H4 H5 H6 H1
  have hc3 : W2.cell? ⟨w.heap.size + 1, 0, none⟩ = some (.int .i64 go) := qaa J3 0
  have hc4 : W2.cell? ⟨w.heap.size + 1 + 1, 0, none⟩ = some (.int .i64 gm) := qaa J4 0
  have hc5 : W2.cell? ⟨w.heap.size + 1 + 1 + 1, 0, none⟩ = some (.bool gfo) := qaa J5 0
  have hf3 : W2.frozen? ⟨w.heap.size + 1, 0, none⟩ = false := qac J3 0
  have hf4 : W2.frozen? ⟨w.heap.size + 1 + 1, 0, none⟩ = false := qac J4 0
  have hf5 : W2.frozen? ⟨w.heap.size + 1 + 1 + 1, 0, none⟩ = false := qac J5 0
  have KEEP : qab (KeepsFrom w4.heap.size W W2 ∧ KeptAt Bn W W2) := ⟨KW.out.from (fun k hk => by have := (hT k hk).1; omega), KW.out.block Bn (by omega) (fun hk => (hT _ hk).2 rfl)⟩
  have B2 := qab.mk J2
  have B3 := qab.mk J3
  have B4 := qab.mk J4
  have B5 := qab.mk J5
  clear J2 J3 J4 J5
  have NO : ∀ a : Act, b1 = false ∨ (gfo = true ∧ ¬ n1 > gm) → ownPostG w4.heap.size (KeptAt Bn) (fun pre W => Inv A W ∧ W.heap[w.heap.size]? = some (.cells #[.func (.func 75) #[] #[c0, c1, c2]] 110 (0, 0)) ∧
   W.heap[w.heap.size + 1]? = some (.cells #[.int .i64 (g1 of (pre.map (·.1))).1] 3 (0, 0)) ∧ W.heap[w.heap.size + 1 + 1]? = some (.cells #[.int .i64 (g1 of (pre.map (·.1))).2.1] 3 (0, 0)) ∧
   W.heap[w.heap.size + 1 + 1 + 1]? = some (.cells #[.bool (g1 of (pre.map (·.1))).2.2] 4 (0, 0)) ∧ KB T w W) (fun _ _ _ => False) (pre ++ [(⟨x, hx⟩ : { x : Int // p x })]) W .normal a W2 := by
   intro a hno
   have hv : g1 of (pre.map (·.1) ++ [x]) = (go, gm, gfo) := by
    rw [HST.out, if_neg]
    rintro ⟨ha, hb⟩
    rcases hno with hno | ⟨hno, hno2⟩
    ·
     rw [hno] at ha; cases ha
    ·
     rcases hb with hb | hb
     ·
      rw [hno] at hb; cases hb
     ·
      exact hno2 hb
   refine ⟨KEEP.out.1, KEEP.out.2, I1.out, B2.out, ?_⟩
   rw [HM.out, hv]
   exact ⟨B3.out, B4.out, B5.out, KT.out⟩
  have HNO := qab.mk NO
  clear NO
  have YES : ∀ a : Act, b1 = true ∧ (gfo = false ∨ n1 > gm) → ownPostG w4.heap.size (KeptAt Bn) (fun pre W => Inv A W ∧ W.heap[w.heap.size]? = some (.cells #[.func (.func 75) #[] #[c0, c1, c2]] 110 (0, 0)) ∧
   W.heap[w.heap.size + 1]? = some (.cells #[.int .i64 (g1 of (pre.map (·.1))).1] 3 (0, 0)) ∧ W.heap[w.heap.size + 1 + 1]? = some (.cells #[.int .i64 (g1 of (pre.map (·.1))).2.1] 3 (0, 0)) ∧
   W.heap[w.heap.size + 1 + 1 + 1]? = some (.cells #[.bool (g1 of (pre.map (·.1))).2.2] 4 (0, 0)) ∧ KB T w W) (fun _ _ _ => False) (pre ++ [(⟨x, hx⟩ : { x : Int // p x })]) W .normal a (((W2.setCell ⟨w.heap.size + 1, 0, none⟩ (.int .i64 x)).setCell ⟨w.heap.size + 1 + 1, 0, none⟩ (.int .i64 n1)).setCell ⟨w.heap.size + 1 + 1 + 1, 0, none⟩ (.bool true)) := by
   intro a hyes
   have hv : g1 of (pre.map (·.1) ++ [x]) = (x, n1, true) := by
    rw [HST.out, if_pos hyes]
   have kA : ∀ S : Nat → Prop, S (w.heap.size + 1) → S (w.heap.size + 1 + 1) → S (w.heap.size + 1 + 1 + 1) → KB S W2 (((W2.setCell ⟨w.heap.size + 1, 0, none⟩ (.int .i64 x)).setCell ⟨w.heap.size + 1 + 1, 0, none⟩ (.int .i64 n1)).setCell ⟨w.heap.size + 1 + 1 + 1, 0, none⟩ (.bool true)) :=
    fun S s1 s2 s3 => (((KB.refl S W2).set (p := ⟨w.heap.size + 1, 0, none⟩) (.inl s1) _).set (p := ⟨w.heap.size + 1 + 1, 0, none⟩) (.inl s2) _).set (p := ⟨w.heap.size + 1 + 1 + 1, 0, none⟩) (.inl s3) _
   have kW := (KW.out.mono (T' := fun k => T k ∨ k = w.heap.size + 1 ∨ k = w.heap.size + 1 + 1 ∨ k = w.heap.size + 1 + 1 + 1) (fun k hk => .inl hk)).trans (kA _ (.inr (.inl rfl)) (.inr (.inr (.inl rfl))) (.inr (.inr (.inr rfl)))) (fun k hk => .inl hk)
   refine ⟨kW.from (fun k hk => ?_), kW.block Bn (by omega) (fun hk => ?_), HI.step _ _ _ I1.out (kA A ?_ ?_ ?_), ?_, ?_⟩
   ·
    rcases hk with hk | hk | hk | hk
    ·
     have := (hT k hk).1
     omega
    ·
     omega
    ·
     omega
    ·
     omega
   ·
    rcases hk with hk | hk | hk | hk
    ·
     exact (hT _ hk).2 rfl
    ·
     omega
    ·
     omega
    ·
     omega
   ·
    rw [hAe]; exact .inr (.inl rfl)
   ·
    rw [hAe]; exact .inr (.inr (.inl rfl))
   ·
    rw [hAe]; exact .inr (.inr (.inr rfl))
   ·
    exact blk_far (blk_far (blk_far B2.out (by dsimp only; omega) _) (by dsimp only; omega) _) (by dsimp only; omega) _
   ·
    rw [HM.out, hv]
    refine ⟨?_, ?_, ?_, ?_⟩
    ·
     exact blk_far (blk_far (blk_set B3.out 0 _) (by dsimp only; omega) _) (by dsimp only; omega) _
    ·
     exact blk_far (blk_set (blk_far B4.out (by dsimp only; omega) _) 0 _) (by dsimp only; omega) _
    ·
     exact blk_set (blk_far (blk_far B5.out (by dsimp only; omega) _) (by dsimp only; omega) _) 0 _
    ·
     exact KT.out.trans (kA (fun k => w.heap.size ≤ k) (by omega) (by omega) (by omega)) (fun k hk => .inr hk)
  have HYES := qab.mk YES
  clear YES
  cases b1 with
  | false =>
   gi_wp2
   exact HNO.out _ (by simp)
  | true =>
   cases gfo with
   | false =>
    gi_wp2
    exact HYES.out _ (by simp)
   | true =>
    by_cases hgt : n1 > gm
    ·
     gi_wp2
     exact HYES.out _ (by simp [hgt])
    ·
     gi_wp2
     exact HNO.out _ (by simp [hgt])
 case done =>
  rintro D xs W hD hSx ⟨h1, h2, h3, h4, h5, h6⟩ hK
  have hl := hS xs hSx
  rw [hl] at h3 h4 h5
  have hc3 : W.cell? ⟨w.heap.size + 1, 0, none⟩ = some (.int .i64 (g1 of L).1) := qaa h3 0
  have hc4 : W.cell? ⟨w.heap.size + 1 + 1, 0, none⟩ = some (.int .i64 (g1 of L).2.1) := qaa h4 0
  have hc5 : W.cell? ⟨w.heap.size + 1 + 1 + 1, 0, none⟩ = some (.bool (g1 of L).2.2) := qaa h5 0
  clear hof hseq hS h2 h3 h4 h5
  generalize hgL : g1 of L = g at hc3 hc4 hc5
  have HG := qab.mk hgL
  clear hgL
  have H1 := qab.mk h1
  have H6 := qab.mk h6
  have HK := qab.mk hK
  clear h1 h6 hK
  gi_wp2
  gi_region
  all_goals gi_wp2
  refine ⟨by simp, .inl ⟨_, _, rfl, run_takeDeferred (show W.drew.heap[D]? = _ from HK.out), ?_⟩⟩
  have hput := grownBy_putObj' W.drew D (.deferred none)
  have hrow : ∀ r, some D = some r → w.heap.size ≤ r ∧ ∃ o : Obj, W.drew.heap[r]? = some o ∧ o.isCells = false := fun r e => by
   injection e with e
   subst e
   exact ⟨by omega, _, HK.out, rfl⟩
  have hid : Inv A W.drew := HI.own A W W.drew none H1.out ⟨rfl, rfl, rfl, Nat.le_refl _, fun _ _ _ => rfl⟩ (fun r e => by cases e)
  have hi2 := HI.own A W.drew _ (some D) hid hput hrow
  refine ⟨_, results_tmp3 rfl _ _ _, by rw [HG.out]; rfl, HI.mono _ _ _ (fun k hk => by rw [hAe]; exact .inl hk) hi2, ?_⟩
  have hk6 : KB T w W.drew := ⟨H6.out.os, H6.out.tape, H6.out.output, H6.out.size, H6.out.block⟩
  exact hk6.trans (KB.of_grown hput) (fun k e => .inr (by injection e with e; omega))
 case stop =>
  rintro D c pre W _ _ h _
  exact h.elim
end Go.Proofs.Ytipphcjgdebecaa.PA
namespace Go.Proofs.Ytipphcjgdebecaa.PA
open Go.RowKit Go.Proofs.YtipphcjgdebecaaW.PrintWords Go.Proofs.YtipphcjgdebecaaW.PrintLast Go.Proofs.YtipphcjgdebecaaW.PrintMore
attribute [local go_sem] max2_int min2_int max_two min_two max_three min_three max_four min_four
def pipe_net_weak.l0 : Nat → Int → Int → List Int → Int → Int → List (S39) → List (S37) → List (List Int) → Int → Option (Int × Int)
 | 0, _, _, _, _, _, _, _, _, _ => none
 | k + 1, x1, x8, x16, x17, x18, x506000, x506001, x506002, x506003 => if x18 < x17 then (if 0 ≤ x18 then (if x18 < (x16.length : Int) then ((pipe_net_order.f x506000 x506001 x506002 x506003 x1 (rd x16 x18)).bind fun bt507 => (if bt507.2.2 = true then (pipe_net_weak.l0 k x1 (mn x8 bt507.2.1) x16 x17 (wrap64 (x18 + 1)) x506000 x506001 x506002 x506003) else (some (x18, 0)))) else (none)) else (none)) else (some ((-1), x8))
def pipe_net_weak.f (k : Nat) (l0_0 : List (S39)) (l0_1 : List (S37)) (l0_2 : List (List Int)) (a0_3 : Int) (a1 : Int) (l2 : List Int) : Option (Int × Int) := pipe_net_weak.l0 k a1 (l0_1.length : Int) l2 (l2.length : Int) 0 l0_0 l0_1 l0_2 a0_3
set_option maxHeartbeats 8000000 in
set_option maxRecDepth 100000 in
theorem pipe_net_weak.calls (k : Nat) (A0_0 : Option Addr) (c0_0 : Nat) (l0_0 : List (S39)) (A0_1 : Option Addr) (c0_1 : Nat) (l0_1 : List (S37)) (A0_2 : Option Addr) (c0_2 : Nat) (l0_2 : List (List Int)) (a0_3 : Int) (a1 : Int) (A2 : Option Addr) (c2 : Nat) (l2 : List Int) (r1 : Int) (r2 : Int) (w : World) (hr0_0 : Kd.C k39 w A0_0 l0_0.length l0_0) (hc0_0 : l0_0.length ≤ c0_0) (hr0_1 : Kd.C k37 w A0_1 l0_1.length l0_1) (hc0_1 : l0_1.length ≤ c0_1) (hr0_2 : Kd.C (Kd.slice 3 (Kd.int .i64)) w A0_2 l0_2.length l0_2) (hc0_2 : l0_2.length ≤ c0_2) (hr2 : Kd.C (Kd.int .i64) w A2 l2.length l2) (hc2 : l2.length ≤ c2) (h : pipe_net_weak.f k l0_0 l0_1 l0_2 a0_3 a1 l2 = some (r1, r2)) :
  Calls Try.prog 74 #[.agg #[.slice A0_0 l0_0.length c0_0, .slice A0_1 l0_1.length c0_1, .slice A0_2 l0_2.length c0_2, .int .i64 a0_3], .int .i64 a1, .slice A2 l2.length c2] w fun e w' => e = .returned (.tuple #[.int .i64 r1, .int .i64 r2]) ∧ Below w.heap.size w w' := by
 have hu99 := Try.underlying99
 have hu97 := Try.underlying97
 have HR0_0 := qab.mk hr0_0
 have HC0_0 := qab.mk hc0_0
 clear hr0_0 hc0_0
 have HR0_1 := qab.mk hr0_1
 have HC0_1 := qab.mk hc0_1
 clear hr0_1 hc0_1
 have HR0_2 := qab.mk hr0_2
 have HC0_2 := qab.mk hc0_2
 clear hr0_2 hc0_2
 have HR2 := qab.mk hr2
 have HC2 := qab.mk hc2
 clear hr2 hc2
 have HB := qab.mk (Below.refl w.heap.size w)
 have H : (pipe_net_weak.l0 k a1 (l0_1.length : Int) l2 (l2.length : Int) 0 l0_0 l0_1 l0_2 a0_3) = some (r1, r2) := h
 clear h
 have H' := qab.mk H
 clear H
 go_enter Try.func74, Try.ntmps74
 go_wp2_with (first | ((with_reducible refine qar (N := 3) rfl ?_); refine qap ?hg (N := 3) ?hd (cs := #[.slice A0_0 l0_0.length c0_0, .slice A0_1 l0_1.length c0_1, .slice A0_2 l0_2.length c0_2, .int .i64 a0_3]) (t := 99) ?hr ?_; (case hd => rfl); (case hg => rfl); (case hr => first | (go_simp; done) | (go_simp; rfl)); intro gb505 hg w4 hbox hb; have n0_ := qab.mk (qag (by repeat (first | (with_reducible first | exact HB.out | apply qae | apply qad | apply qaf) | exact HB.out)) hb); have n1_ := qab.mk (hbox); have n2_ := qab.mk ((by rw [hg]; exact (qan (by repeat (first | (with_reducible first | exact HB.out | apply qae | apply qad | apply qaf) | exact HB.out))) : w.heap.size ≤ gb505)); have n3_ := qab.mk ((by rw [hg]; exact (qan (by repeat (first | (with_reducible first | exact HB.out | apply qae | apply qad | apply qaf) | exact HB.out))) : w.heap.size ≤ gb505)); clear HB; have HB := n0_; have BK505 := n1_; have GW505 := n2_; have GE505 := n3_; clear n0_ n1_ n2_ n3_; clear hb hbox hg; have hcz5_0 : w4.cell? ⟨gb505, 0, none⟩ = some (.slice A0_0 l0_0.length c0_0) := (qaa BK505.out 0).trans rfl; have hcz5_1 : w4.cell? ⟨gb505, 1, none⟩ = some (.slice A0_1 l0_1.length c0_1) := (qaa BK505.out 1).trans rfl; have hcz5_2 : w4.cell? ⟨gb505, 2, none⟩ = some (.slice A0_2 l0_2.length c0_2) := (qaa BK505.out 2).trans rfl; have hcz5_3 : w4.cell? ⟨gb505, 3, none⟩ = some (.int .i64 a0_3) := (qaa BK505.out 3).trans rfl; have hfz5_0 := qac BK505.out 0; have hfz5_1 := qac BK505.out 1; have hfz5_2 := qac BK505.out 2; have hfz5_3 := qac BK505.out 3))
 go_loopg [8, 18] k (fun kq v8 v18 w' => ∃ (x8_1 : Int) (x18_1 : Int), v8 = .int .i64 x8_1 ∧ v18 = .int .i64 x18_1 ∧ qab (pipe_net_weak.l0 kq a1 x8_1 l2 (l2.length : Int) x18_1 l0_0 l0_1 l0_2 a0_3 = some (r1, r2)) ∧ qab (kq ≤ k) ∧ qab (w'.heap[gb505]? = some (.cells #[(.slice A0_0 l0_0.length c0_0), (.slice A0_1 l0_1.length c0_1), (.slice A0_2 l0_2.length c0_2), .int .i64 a0_3] 99 (0, 0))) ∧ qab (Below w.heap.size w w'))
 case atStart => exact ⟨((l0_1.length : Int)), (0), (by first | rfl | (simp; done) | (simp [*]; done)), (by first | rfl | (simp; done) | (simp [*]; done)), H', ⟨Nat.le_refl _⟩, ⟨by (with_reducible repeat (first | refine qal ?_ _ | refine qao ?_ | refine qaj ?_ _)); exact BK505.out⟩, ⟨by repeat (first | (with_reducible first | exact HB.out | apply qae | apply qad | apply qaf | refine qai ?_ GE505.out) | exact HB.out)⟩⟩
 case round =>
  clear H'
  try clear c2
  try clear p2
  try clear hcz5_0
  try clear hcz5_1
  try clear hcz5_2
  try clear hcz5_3
  try clear hfz5_0
  try clear hfz5_1
  try clear hfz5_2
  try clear hfz5_3
  obtain ⟨x8_1, x18_1, rfl, rfl, HA, HK1, BK505, HB⟩ := hrel
  cases gk with
  | zero => exact absurd HA.out (by simp [pipe_net_weak.l0])
  | succ k1 =>
   have H := HA.out
   clear HA
   simp only [pipe_net_weak.l0] at H
   by_cases c6 : x18_1 < (l2.length : Int)
   ·
    rw [if_pos c6] at H
    have c6b0 : decide (x18_1 < (l2.length : Int)) = true := decide_eq_true c6
    clear c6
    by_cases c7 : 0 ≤ x18_1
    ·
     rw [if_pos c7] at H
     have c7b0 : decide (0 ≤ x18_1) = true := decide_eq_true c7
     clear c7
     by_cases c8 : x18_1 < (l2.length : Int)
     ·
      rw [if_pos c8] at H
      have c8b0 : decide (x18_1 < (l2.length : Int)) = true := decide_eq_true c8
      clear c8
      replace H := Option.bind_eq_some_iff.mp H
      obtain ⟨⟨t507, t510, t511⟩, A90, H⟩ := H
      replace H : (if t511 = true then (pipe_net_weak.l0 k1 a1 (mn x8_1 t510) l2 (l2.length : Int) (wrap64 (x18_1 + 1)) l0_0 l0_1 l0_2 a0_3) else (some (x18_1, 0))) = some (r1, r2) := H
      have A9 := qab.mk A90
      clear A90
      by_cases c10 : t511 = true
      ·
       subst c10
       have H1 : (pipe_net_weak.l0 k1 a1 (mn x8_1 t510) l2 (l2.length : Int) (wrap64 (x18_1 + 1)) l0_0 l0_1 l0_2 a0_3) = some (r1, r2) := by rw [if_pos rfl] at H; exact H
       clear H
       have H := H1
       clear H1
       obtain ⟨ji11, hji11⟩ : ∃ j_ : Int, (mn x8_1 t510) = j_ := ⟨_, rfl⟩
       replace H : (pipe_net_weak.l0 k1 a1 ji11 l2 (l2.length : Int) (wrap64 (x18_1 + 1)) l0_0 l0_1 l0_2 a0_3) = some (r1, r2) := by first | (rw [hji11] at H; exact H) | (simp only [hji11] at H ⊢; exact H)
       (try rw [hji11] at A9)
       have hji11_ : (if t510 < x8_1 then t510 else x8_1) = ji11 := hji11
       have H' := qab.mk H
       clear H
       have p506 : 0 ≤ (x18_1 : Int) := of_decide_eq_true (by first | (with_reducible assumption) | assumption)
       have q506 : x18_1 < (l2.length : Int) := of_decide_eq_true (by first | (with_reducible assumption) | assumption)
       obtain ⟨ad506, e506, hx506_0⟩ := Kd.at_int HR2.out x18_1 p506 q506
       cases e506
       replace hx506_0 := (HB.out.cell (World.block_lt_of_cell? w _ hx506_0)).trans hx506_0
       replace p506 := eq_true p506
       replace q506 := eq_true q506
       have hcz12_0 : wr.cell? ⟨gb505, 0, none⟩ = some (.slice A0_0 l0_0.length c0_0) := (qaa BK505.out 0).trans rfl
       have hcz12_1 : wr.cell? ⟨gb505, 1, none⟩ = some (.slice A0_1 l0_1.length c0_1) := (qaa BK505.out 1).trans rfl
       have hcz12_2 : wr.cell? ⟨gb505, 2, none⟩ = some (.slice A0_2 l0_2.length c0_2) := (qaa BK505.out 2).trans rfl
       have hcz12_3 : wr.cell? ⟨gb505, 3, none⟩ = some (.int .i64 a0_3) := (qaa BK505.out 3).trans rfl
       have hfz12_0 := qac BK505.out 0
       have hfz12_1 := qac BK505.out 1
       have hfz12_2 := qac BK505.out 2
       have hfz12_3 := qac BK505.out 3
       go_wp2_with (first | ((with_reducible refine gate_callee (f := 64) rfl ?_); refine goesL_ (some 26) rfl rfl Try.func64 (by kernel_rfl) rfl #[.agg #[.slice A0_0 l0_0.length c0_0, .slice A0_1 l0_1.length c0_1, .slice A0_2 l0_2.length c0_2, .int .i64 a0_3], .int .i64 a1, .int .i64 (rd l2 x18_1)] rfl (by (try simp only [List.map_toArray, List.map_cons, List.map_nil]); first | done | rfl | (simp only [List.length_drop, List.length_take]; rfl)) ?_; (with_reducible refine (pipe_net_order.calls _ _ l0_0 _ _ l0_1 _ _ l0_2 a0_3 a1 (rd l2 x18_1) t507 t510 true _ ?side1 ?side2 ?side3 ?side4 ?side5 ?side6 A9.out).mono ?_); (case side1 => repeat (first | exact (Kd.qam HR0_0.out HB.out) | (with_reducible refine Kd.C_alloc ?_ _) | (with_reducible refine Kd.C_drewN ?_ _) | (with_reducible refine Kd.C_drew ?_))); (case side2 => exact HC0_0.out); (case side3 => repeat (first | exact (Kd.qam HR0_1.out HB.out) | (with_reducible refine Kd.C_alloc ?_ _) | (with_reducible refine Kd.C_drewN ?_ _) | (with_reducible refine Kd.C_drew ?_))); (case side4 => exact HC0_1.out); (case side5 => repeat (first | exact (Kd.qam HR0_2.out HB.out) | (with_reducible refine Kd.C_alloc ?_ _) | (with_reducible refine Kd.C_drewN ?_ _) | (with_reducible refine Kd.C_drew ?_))); (case side6 => exact HC0_2.out); rintro e w13 ⟨v508, rfl, ho0, hb⟩; refine ⟨_, rfl, ?_⟩; have n0_ := qab.mk (Kd.R_lower ho0 (qan (by repeat (first | (with_reducible first | exact HB.out | apply qae | apply qad | apply qaf | refine qai ?_ GE505.out) | exact HB.out)))); have n1_ := qab.mk (qah (g := gb505) (o := .cells #[.slice A0_0 l0_0.length c0_0, .slice A0_1 l0_1.length c0_1, .slice A0_2 l0_2.length c0_2, .int .i64 a0_3] 99 (0, 0)) (by (with_reducible repeat (first | refine qal ?_ _ | refine qao ?_ | refine qaj ?_ _)); exact BK505.out) hb); have n2_ := qab.mk (qag (by repeat (first | (with_reducible first | exact HB.out | apply qae | apply qad | apply qaf | refine qai ?_ GE505.out) | exact HB.out)) hb); clear BK505; clear HB; have HO509 := n0_; have BK505 := n1_; have HB := n2_; clear n0_ n1_ n2_; (try clear hb); (try clear hb2); (try clear hk); (try clear hi); (try clear ho0)) | ((with_reducible refine qar (N := 11) rfl ?_); refine qap ?hg (N := 11) ?hd (cs := #[.slice none 0 0, .int .i64 0, .bool false]) (t := 97) ?hr ?_; (case hd => rfl); (case hg => rfl); (case hr => first | (go_simp; done) | (go_simp; rfl)); intro gb512 hg w14 hbox hb; have n0_ := qab.mk (Kd.R_below (by (with_reducible repeat (first | apply Kd.R_alloc | apply Kd.R_drewN | apply Kd.R_drew)); exact HO509.out) hb); have n1_ := qab.mk (qah (g := gb505) (o := .cells #[.slice A0_0 l0_0.length c0_0, .slice A0_1 l0_1.length c0_1, .slice A0_2 l0_2.length c0_2, .int .i64 a0_3] 99 (0, 0)) (by (with_reducible repeat (first | refine qal ?_ _ | refine qao ?_ | refine qaj ?_ _)); exact BK505.out) hb); have n2_ := qab.mk (qag (by repeat (first | (with_reducible first | exact HB.out | apply qae | apply qad | apply qaf | refine qai ?_ GE505.out) | exact HB.out)) hb); have n3_ := qab.mk (hbox); have n4_ := qab.mk ((by rw [hg]; exact (qan (by repeat (first | (with_reducible first | exact HB.out | apply qae | apply qad | apply qaf | refine qai ?_ GE505.out) | exact HB.out))) : w.heap.size ≤ gb512)); have n5_ := qab.mk ((by rw [hg]; exact (qan (by repeat (first | (with_reducible first | exact HB.out | apply qae | apply qad | apply qaf | refine qai ?_ GE505.out) | exact HB.out))) : w.heap.size ≤ gb512)); have n6_ := qab.mk ((by rw [hg]; exact Nat.ne_of_lt (blk_lt (g := gb505) (o := .cells #[.slice A0_0 l0_0.length c0_0, .slice A0_1 l0_1.length c0_1, .slice A0_2 l0_2.length c0_2, .int .i64 a0_3] 99 (0, 0)) (by (with_reducible repeat (first | refine qal ?_ _ | refine qao ?_ | refine qaj ?_ _)); exact BK505.out)) : gb505 ≠ gb512)); have n7_ := qab.mk ((by rw [hg]; exact Nat.ne_of_gt (blk_lt (g := gb505) (o := .cells #[.slice A0_0 l0_0.length c0_0, .slice A0_1 l0_1.length c0_1, .slice A0_2 l0_2.length c0_2, .int .i64 a0_3] 99 (0, 0)) (by (with_reducible repeat (first | refine qal ?_ _ | refine qao ?_ | refine qaj ?_ _)); exact BK505.out)) : gb512 ≠ gb505)); clear HO509; clear BK505; clear HB; have HO509 := n0_; have BK505 := n1_; have HB := n2_; have BK512 := n3_; have GW512 := n4_; have GE512 := n5_; have NB505_512 := n6_; have NB512_505 := n7_; clear n0_ n1_ n2_ n3_ n4_ n5_ n6_ n7_; clear hb hbox hg; obtain ⟨Ao15, co15, eo15⟩ := Kd.R_slice HO509.out; subst eo15; have hnb16 := NB512_505.out; have hnc16 := NB505_512.out; have hcz17_0 : w14.cell? ⟨gb512, 0, none⟩ = some (.slice none 0 0) := (qaa BK512.out 0).trans rfl; have hcz17_1 : w14.cell? ⟨gb512, 1, none⟩ = some (.int .i64 0) := (qaa BK512.out 1).trans rfl; have hcz17_2 : w14.cell? ⟨gb512, 2, none⟩ = some (.bool false) := (qaa BK512.out 2).trans rfl; have hfz17_0 := qac BK512.out 0; have hfz17_1 := qac BK512.out 1; have hfz17_2 := qac BK512.out 2))
       go_roundg k1
       case measure => have := HK1.out; omega
       case rel => exact ⟨(ji11), (wrap64 (x18_1 + 1)), (by first | rfl | (simp; done) | (simp only [← hji11] <;> (first | rfl | simp)) | (simp [*]; done)), (by first | rfl | (simp; done) | (simp [*]; done)), H', ⟨by have := HK1.out; omega⟩, ⟨by (with_reducible repeat (first | refine qal ?_ _ | refine qao ?_ | refine qaj ?_ _)); refine blk_far ?_ NB505_512.out _; (with_reducible repeat (first | refine qal ?_ _ | refine qao ?_ | refine qaj ?_ _)); refine blk_far ?_ NB505_512.out _; (with_reducible repeat (first | refine qal ?_ _ | refine qao ?_ | refine qaj ?_ _)); refine blk_far ?_ NB505_512.out _; (with_reducible repeat (first | refine qal ?_ _ | refine qao ?_ | refine qaj ?_ _)); exact BK505.out⟩, ⟨by repeat (first | (with_reducible first | exact HB.out | apply qae | apply qad | apply qaf | refine qai ?_ GE505.out | refine qai ?_ GE512.out) | exact HB.out)⟩⟩
      ·
       replace c10 := Bool.eq_false_iff.mpr c10
       subst c10
       have H1 : (some (x18_1, 0)) = some (r1, r2) := by rw [if_neg (show ¬ (false = true) by decide)] at H; exact H
       clear H
       have H := H1
       clear H1
       simp only [Option.some.injEq, Prod.mk.injEq] at H
       obtain ⟨rfl, rfl⟩ := H
       have p506 : 0 ≤ (x18_1 : Int) := of_decide_eq_true (by first | (with_reducible assumption) | assumption)
       have q506 : x18_1 < (l2.length : Int) := of_decide_eq_true (by first | (with_reducible assumption) | assumption)
       obtain ⟨ad506, e506, hx506_0⟩ := Kd.at_int HR2.out x18_1 p506 q506
       cases e506
       replace hx506_0 := (HB.out.cell (World.block_lt_of_cell? w _ hx506_0)).trans hx506_0
       replace p506 := eq_true p506
       replace q506 := eq_true q506
       have hcz18_0 : wr.cell? ⟨gb505, 0, none⟩ = some (.slice A0_0 l0_0.length c0_0) := (qaa BK505.out 0).trans rfl
       have hcz18_1 : wr.cell? ⟨gb505, 1, none⟩ = some (.slice A0_1 l0_1.length c0_1) := (qaa BK505.out 1).trans rfl
       have hcz18_2 : wr.cell? ⟨gb505, 2, none⟩ = some (.slice A0_2 l0_2.length c0_2) := (qaa BK505.out 2).trans rfl
       have hcz18_3 : wr.cell? ⟨gb505, 3, none⟩ = some (.int .i64 a0_3) := (qaa BK505.out 3).trans rfl
       have hfz18_0 := qac BK505.out 0
       have hfz18_1 := qac BK505.out 1
       have hfz18_2 := qac BK505.out 2
       have hfz18_3 := qac BK505.out 3
       go_wp2_with (first | ((with_reducible refine gate_callee (f := 64) rfl ?_); refine goesL_ (some 26) rfl rfl Try.func64 (by kernel_rfl) rfl #[.agg #[.slice A0_0 l0_0.length c0_0, .slice A0_1 l0_1.length c0_1, .slice A0_2 l0_2.length c0_2, .int .i64 a0_3], .int .i64 a1, .int .i64 (rd l2 x18_1)] rfl (by (try simp only [List.map_toArray, List.map_cons, List.map_nil]); first | done | rfl | (simp only [List.length_drop, List.length_take]; rfl)) ?_; (with_reducible refine (pipe_net_order.calls _ _ l0_0 _ _ l0_1 _ _ l0_2 a0_3 a1 (rd l2 x18_1) t507 t510 false _ ?side1 ?side2 ?side3 ?side4 ?side5 ?side6 A9.out).mono ?_); (case side1 => repeat (first | exact (Kd.qam HR0_0.out HB.out) | (with_reducible refine Kd.C_alloc ?_ _) | (with_reducible refine Kd.C_drewN ?_ _) | (with_reducible refine Kd.C_drew ?_))); (case side2 => exact HC0_0.out); (case side3 => repeat (first | exact (Kd.qam HR0_1.out HB.out) | (with_reducible refine Kd.C_alloc ?_ _) | (with_reducible refine Kd.C_drewN ?_ _) | (with_reducible refine Kd.C_drew ?_))); (case side4 => exact HC0_1.out); (case side5 => repeat (first | exact (Kd.qam HR0_2.out HB.out) | (with_reducible refine Kd.C_alloc ?_ _) | (with_reducible refine Kd.C_drewN ?_ _) | (with_reducible refine Kd.C_drew ?_))); (case side6 => exact HC0_2.out); rintro e w19 ⟨v508, rfl, ho0, hb⟩; refine ⟨_, rfl, ?_⟩; have n0_ := qab.mk (Kd.R_lower ho0 (qan (by repeat (first | (with_reducible first | exact HB.out | apply qae | apply qad | apply qaf | refine qai ?_ GE505.out) | exact HB.out)))); have n1_ := qab.mk (qah (g := gb505) (o := .cells #[.slice A0_0 l0_0.length c0_0, .slice A0_1 l0_1.length c0_1, .slice A0_2 l0_2.length c0_2, .int .i64 a0_3] 99 (0, 0)) (by (with_reducible repeat (first | refine qal ?_ _ | refine qao ?_ | refine qaj ?_ _)); exact BK505.out) hb); have n2_ := qab.mk (qag (by repeat (first | (with_reducible first | exact HB.out | apply qae | apply qad | apply qaf | refine qai ?_ GE505.out) | exact HB.out)) hb); clear BK505; clear HB; have HO509 := n0_; have BK505 := n1_; have HB := n2_; clear n0_ n1_ n2_; (try clear hb); (try clear hb2); (try clear hk); (try clear hi); (try clear ho0)) | ((with_reducible refine qar (N := 11) rfl ?_); refine qap ?hg (N := 11) ?hd (cs := #[.slice none 0 0, .int .i64 0, .bool false]) (t := 97) ?hr ?_; (case hd => rfl); (case hg => rfl); (case hr => first | (go_simp; done) | (go_simp; rfl)); intro gb512 hg w20 hbox hb; have n0_ := qab.mk (Kd.R_below (by (with_reducible repeat (first | apply Kd.R_alloc | apply Kd.R_drewN | apply Kd.R_drew)); exact HO509.out) hb); have n1_ := qab.mk (qah (g := gb505) (o := .cells #[.slice A0_0 l0_0.length c0_0, .slice A0_1 l0_1.length c0_1, .slice A0_2 l0_2.length c0_2, .int .i64 a0_3] 99 (0, 0)) (by (with_reducible repeat (first | refine qal ?_ _ | refine qao ?_ | refine qaj ?_ _)); exact BK505.out) hb); have n2_ := qab.mk (qag (by repeat (first | (with_reducible first | exact HB.out | apply qae | apply qad | apply qaf | refine qai ?_ GE505.out) | exact HB.out)) hb); have n3_ := qab.mk (hbox); have n4_ := qab.mk ((by rw [hg]; exact (qan (by repeat (first | (with_reducible first | exact HB.out | apply qae | apply qad | apply qaf | refine qai ?_ GE505.out) | exact HB.out))) : w.heap.size ≤ gb512)); have n5_ := qab.mk ((by rw [hg]; exact (qan (by repeat (first | (with_reducible first | exact HB.out | apply qae | apply qad | apply qaf | refine qai ?_ GE505.out) | exact HB.out))) : w.heap.size ≤ gb512)); have n6_ := qab.mk ((by rw [hg]; exact Nat.ne_of_lt (blk_lt (g := gb505) (o := .cells #[.slice A0_0 l0_0.length c0_0, .slice A0_1 l0_1.length c0_1, .slice A0_2 l0_2.length c0_2, .int .i64 a0_3] 99 (0, 0)) (by (with_reducible repeat (first | refine qal ?_ _ | refine qao ?_ | refine qaj ?_ _)); exact BK505.out)) : gb505 ≠ gb512)); have n7_ := qab.mk ((by rw [hg]; exact Nat.ne_of_gt (blk_lt (g := gb505) (o := .cells #[.slice A0_0 l0_0.length c0_0, .slice A0_1 l0_1.length c0_1, .slice A0_2 l0_2.length c0_2, .int .i64 a0_3] 99 (0, 0)) (by (with_reducible repeat (first | refine qal ?_ _ | refine qao ?_ | refine qaj ?_ _)); exact BK505.out)) : gb512 ≠ gb505)); clear HO509; clear BK505; clear HB; have HO509 := n0_; have BK505 := n1_; have HB := n2_; have BK512 := n3_; have GW512 := n4_; have GE512 := n5_; have NB505_512 := n6_; have NB512_505 := n7_; clear n0_ n1_ n2_ n3_ n4_ n5_ n6_ n7_; clear hb hbox hg; obtain ⟨Ao21, co21, eo21⟩ := Kd.R_slice HO509.out; subst eo21; have hnb22 := NB512_505.out; have hnc22 := NB505_512.out; have hcz23_0 : w20.cell? ⟨gb512, 0, none⟩ = some (.slice none 0 0) := (qaa BK512.out 0).trans rfl; have hcz23_1 : w20.cell? ⟨gb512, 1, none⟩ = some (.int .i64 0) := (qaa BK512.out 1).trans rfl; have hcz23_2 : w20.cell? ⟨gb512, 2, none⟩ = some (.bool false) := (qaa BK512.out 2).trans rfl; have hfz23_0 := qac BK512.out 0; have hfz23_1 := qac BK512.out 1; have hfz23_2 := qac BK512.out 2))
       go_ret2
       exact ⟨by first | rfl | (simp [qas, qat] <;> rfl) | (simp [*, qas, qat] <;> rfl), by repeat (first | (with_reducible first | exact HB.out | apply qae | apply qad | apply qaf | refine qai ?_ GE505.out | refine qai ?_ GE512.out) | exact HB.out)⟩
     ·
      rw [if_neg c8] at H
      exact absurd H (by simp)
    ·
     rw [if_neg c7] at H
     exact absurd H (by simp)
   ·
    rw [if_neg c6] at H
    have c6b0 : decide (x18_1 < (l2.length : Int)) = false := decide_eq_false c6
    clear c6
    simp only [Option.some.injEq, Prod.mk.injEq] at H
    obtain ⟨rfl, rfl⟩ := H
    go_wp2
    go_ret2
    exact ⟨by first | rfl | (simp [qas, qat] <;> rfl) | (simp [*, qas, qat] <;> rfl), by repeat (first | (with_reducible first | exact HB.out | apply qae | apply qad | apply qaf | refine qai ?_ GE505.out) | exact HB.out)⟩
end Go.Proofs.Ytipphcjgdebecaa.PA
namespace Go.Proofs.Ytipphcjgdebecaa.PA
open Go.RowKit Go.Proofs.YtipphcjgdebecaaW.PrintWords Go.Proofs.YtipphcjgdebecaaW.PrintLast Go.Proofs.YtipphcjgdebecaaW.PrintMore
attribute [local go_sem] max2_int min2_int max_two min_two max_three min_three max_four min_four
theorem weak_some (l0 : List S39) (l1 : List S37) (l2 : List (List Int)) (wp from_ : Int) (fs : List Int) (ho : ∀ f ∈ fs, ∃ r, pipe_net_order.f l0 l1 l2 wp from_ f = some r) :
  ∀ (k j : Nat) (s : Int), fs.length - j < k → j ≤ fs.length → fs.length ≤ 1000 → ∃ r, pipe_net_weak.l0 k from_ s fs (fs.length : Int) (j : Int) l0 l1 l2 wp = some r := by
 intro k
 induction k with
 | zero => intro j s h; omega
 | succ k ih =>
  intro j s h hj hn
  unfold pipe_net_weak.l0
  by_cases hlt : j < fs.length
  ·
   rw [if_pos (by omega), if_pos (by omega), if_pos (by omega)]
   obtain ⟨r, hr⟩ := ho (rd fs j) (by unfold rd; simp [hlt])
   rw [hr]
   simp only [Option.bind_some]
   split
   ·
    have hw : wrap64 ((j : Int) + 1) = ((j + 1 : Nat) : Int) := by unfold wrap64; omega
    rw [hw]
    exact ih (j + 1) _ (by omega) (by omega) hn
   ·
    exact ⟨_, rfl⟩
  ·
   rw [if_neg (by omega)]
   exact ⟨_, rfl⟩
def weakV (l0 : List S39) (l1 : List S37) (l2 : List (List Int)) (wp from_ : Int) (fs : List Int) : Int × Int := (pipe_net_weak.f 14 l0 l1 l2 wp from_ fs).getD (0, 0)
theorem weakV_some (l0 : List S39) (l1 : List S37) (l2 : List (List Int)) (wp from_ : Int) (fs : List Int) (hl : fs.length ≤ 12) (ho : ∀ f ∈ fs, ∃ r, pipe_net_order.f l0 l1 l2 wp from_ f = some r) :
  pipe_net_weak.f 14 l0 l1 l2 wp from_ fs = some ((weakV l0 l1 l2 wp from_ fs).1, (weakV l0 l1 l2 wp from_ fs).2) := by
 obtain ⟨r, hr⟩ := weak_some l0 l1 l2 wp from_ fs ho 14 0 (l1.length : Int) (by omega) (by omega) (by omega)
 have h : pipe_net_weak.f 14 l0 l1 l2 wp from_ fs = some r := hr
 unfold weakV
 rw [h]
 rfl
theorem shl_pow (n : Nat) (h : n ≤ 5) : shl .i64 1 (n : Int) = 2 ^ n := by
 match n, h with
 | 0, _ => rfl
 | 1, _ => rfl
 | 2, _ => rfl
 | 3, _ => rfl
 | 4, _ => rfl
 | 5, _ => rfl
theorem given_ok {l0 : List S39} {l1 : List S37} {l2 : List (List Int)} {a1 : Int} {fs : List Int} (h : givenV l0 l1 l2 a1 fs = 0) : fs.length ≤ 12 ∧ validB l0 l1 l2 = true ∧ 0 ≤ a1 ∧ a1 ≤ l0.length ∧ ∀ f ∈ fs, 0 ≤ f ∧ f < 2 ^ l0.length := by
 unfold givenV at h
 split at h
 ·
  cases h
 ·
  rename_i hl
  split at h
  ·
   cases h
  ·
   rename_i hc
   simp only [Bool.or_eq_true, Bool.not_eq_true', not_or, Bool.not_eq_false] at hc
   obtain ⟨hv, hp, ha⟩ := hc
   have hlen := valid_lens hv
   unfold inB at hp
   simp only [Bool.and_eq_true, decide_eq_true_eq] at hp
   refine ⟨by omega, hv, hp.1, hp.2, fun f hf => ?_⟩
   rw [Bool.not_eq_true, List.any_eq_false] at ha
   have h1 := ha f hf
   simp only [Bool.not_eq_true', Bool.not_eq_false] at h1
   unfold faultB inB at h1
   simp only [Bool.and_eq_true, decide_eq_true_eq] at h1
   rw [shl_pow _ hlen.2.2.1] at h1
   have h32 : (2 : Int) ^ l0.length ≤ 32 := by
    have h := Nat.pow_le_pow_right (n := 2) (by decide) hlen.2.2.1
    have : ((2 ^ l0.length : Nat) : Int) ≤ ((2 ^ 5 : Nat) : Int) := Int.ofNat_le.2 h
    simpa using this
   have h0 : (0 : Int) < 2 ^ l0.length := Int.pow_pos (by decide)
   unfold wrap64 at h1
   exact ⟨h1.1, by omega⟩
theorem order_some {l0 : List S39} {l1 : List S37} {l2 : List (List Int)} {wp a1 f : Int} (hv : validB l0 l1 l2 = true) (hw : 0 ≤ wp) (h0 : 0 ≤ a1) (h1 : a1 ≤ l0.length) (f0 : 0 ≤ f) (f1 : f < 2 ^ l0.length) : ∃ r, pipe_net_order.f l0 l1 l2 wp a1 f = some r := by
 unfold pipe_net_order.f
 rw [if_pos ⟨hv, hw, h0, h1, f0, f1⟩]
 exact ⟨_, rfl⟩
structure Inv73 (w0 : World) (gn gf : Nat) (cn cf : Value) (cs : Array Value) (A : Nat → Prop) (W : World) : Prop where
 an : ¬ A gn
 af : ¬ A gf
 lo : ∀ k, A k → w0.heap.size ≤ k
 xn : W.heap[gn]? = some (.cells cs 26 (0, 0))
 xf : W.heap[gf]? = some (.cells #[cf] 47 (0, 0))
 hb : Below w0.heap.size w0 W
theorem Inv73.held {w0 : World} {gn gf : Nat} {cn cf : Value} {cs : Array Value} {B : Nat} (hB : w0.heap.size ≤ B) : Held B (Inv73 w0 gn gf cn cf cs) where
 mono A A' W hA h := ⟨fun hk => h.an (hA _ hk), fun hk => h.af (hA _ hk), fun k hk => h.lo k (hA k hk), h.xn, h.xf, h.hb⟩
 fresh A W h := ⟨fun hk => hk.elim h.an (fun e => by have := blk_lt h.xn; omega), fun hk => hk.elim h.af (fun e => by have := blk_lt h.xf; omega), fun k hk => hk.elim (h.lo k) (fun e => Nat.le_trans h.hb.size e), h.xn, h.xf, h.hb⟩
 step A W W' h hk := ⟨h.an, h.af, h.lo, hk.blk h.xn h.an, hk.blk h.xf h.af, ⟨hk.os.trans h.hb.os, hk.tape.trans h.hb.tape, hk.output.trans h.hb.output, Nat.le_trans h.hb.size hk.size, fun k hlt => (hk.block k (Nat.lt_of_lt_of_le hlt h.hb.size) (fun ha => by have := h.lo k ha; omega)).trans (h.hb.block k hlt)⟩⟩
 own A W W' row h hg hr := ⟨h.an, h.af, h.lo, blk_own h.xn hg hr, blk_own h.xf hg hr, ⟨hg.os.trans h.hb.os, hg.tape.trans h.hb.tape, hg.output.trans h.hb.output, Nat.le_trans h.hb.size hg.size, fun k hlt => (hg.block k (Nat.lt_of_lt_of_le hlt h.hb.size) (fun e => by have := (hr k e.symm).1; omega)).trans (h.hb.block k hlt)⟩⟩
def ofPost (l0 : List S39) (l1 : List S37) (l2 : List (List Int)) (fs : List Int) (p : Int) : Int × Bool := ((weakV l0 l1 l2 0 p fs).2, decide ((weakV l0 l1 l2 0 p fs).1 < 0))
set_option maxRecDepth 100000 in
set_option maxHeartbeats 4000000 in
theorem of73_calls (A0 : Option Addr) (c0 : Nat) (l0 : List S39) (A1 : Option Addr) (c1 : Nat) (l1 : List S37) (A2 : Option Addr) (c2 : Nat) (l2 : List (List Int)) (A3 : Option Addr) (c3 : Nat) (fs : List Int) (w0 : World) (gn gf : Nat) (cn : Value)
  (hr0 : Kd.C k39 w0 A0 l0.length l0) (hc0 : l0.length ≤ c0) (hr1 : Kd.C k37 w0 A1 l1.length l1) (hc1 : l1.length ≤ c1) (hr2 : Kd.C (Kd.slice 3 (Kd.int .i64)) w0 A2 l2.length l2) (hc2 : l2.length ≤ c2) (hr3 : Kd.C (Kd.int .i64) w0 A3 fs.length fs) (hc3 : fs.length ≤ c3)
  (x : Int) (hok : pipe_net_weak.f 14 l0 l1 l2 0 x fs = some ((weakV l0 l1 l2 0 x fs).1, (weakV l0 l1 l2 0 x fs).2)) (A : Nat → Prop) (w : World) (hinv : Inv73 w0 gn gf cn (.slice A3 fs.length c3) #[.slice A0 l0.length c0, .slice A1 l1.length c1, .slice A2 l2.length c2] A w) :
  Calls Try.prog 73 #[.int .i64 x, .pointer (some ⟨gn, 0, none⟩), .pointer (some ⟨gf, 0, none⟩)] w fun e w' => e = .returned (.tuple #[.int .i64 (ofPost l0 l1 l2 fs x).1, .bool (ofPost l0 l1 l2 fs x).2]) ∧ Inv73 w0 gn gf cn (.slice A3 fs.length c3) #[.slice A0 l0.length c0, .slice A1 l1.length c1, .slice A2 l2.length c2] A w' ∧ KB (fun _ => False) w w' := by
 have hu26 := Try.underlying26
 have hu99 := Try.underlying99
 have H := qab.mk (pipe_net_weak.calls 14 _ _ l0 _ _ l1 _ _ l2 0 x _ _ fs _ _ w (Kd.qam hr0 hinv.hb) hc0 (Kd.qam hr1 hinv.hb) hc1 (Kd.qam hr2 hinv.hb) hc2 (Kd.qam hr3 hinv.hb) hc3 hok)
 have k0 : w.cell? ⟨gn, 0, none⟩ = some (.slice A0 l0.length c0) := qaa hinv.xn 0
 have k1 : w.cell? ⟨gn, 1, none⟩ = some (.slice A1 l1.length c1) := qaa hinv.xn 1
 have k2 : w.cell? ⟨gn, 2, none⟩ = some (.slice A2 l2.length c2) := qaa hinv.xn 2
 have k3 : w.cell? ⟨gf, 0, none⟩ = some (.slice A3 fs.length c3) := qaa hinv.xf 0
 have HI := qab.mk hinv
 unfold ofPost
 clear hr0 hc0 hr1 hc1 hr2 hc2 hr3 hc3 hok hinv
 generalize weakV l0 l1 l2 0 x fs = ws at H ⊢
 obtain ⟨i, sl⟩ := ws
 try dsimp only at H ⊢
 go_enter Try.func73, Try.ntmps73
 go_wp2_with (go_at_call 74; refine H.out.mono ?_; rintro e w2 ⟨rfl, hb⟩; have HB := qab.mk hb; clear hb)
 go_ret2
 exact ⟨rfl, (Inv73.held (Nat.le_refl _)).step A w _ HI.out (KB.of_below HB.out A), KB.of_below HB.out _⟩
def postV (l0 : List S39) (l1 : List S37) (l2 : List (List Int)) (fs : List Int) : Int × Int × Int :=
 if givenV l0 l1 l2 0 fs ≠ 0 then (0, 0, givenV l0 l1 l2 0 fs) else
  if (g1 (ofPost l0 l1 l2 fs) (numsOf (l0.length + 1))).2.2 = true then ((g1 (ofPost l0 l1 l2 fs) (numsOf (l0.length + 1))).1, (g1 (ofPost l0 l1 l2 fs) (numsOf (l0.length + 1))).2.1, 0) else (0, 0, 5)
def pipe_Post.f (l0_0 : List (S39)) (l0_1 : List (S37)) (l0_2 : List (List Int)) (l1 : List Int) : Option (Int × Int × Int) := some (postV l0_0 l0_1 l0_2 l1)
set_option maxHeartbeats 4000000 in
set_option maxRecDepth 100000 in
theorem pipe_Post.calls (A0_0 : Option Addr) (c0_0 : Nat) (l0_0 : List (S39)) (A0_1 : Option Addr) (c0_1 : Nat) (l0_1 : List (S37)) (A0_2 : Option Addr) (c0_2 : Nat) (l0_2 : List (List Int)) (A1 : Option Addr) (c1 : Nat) (l1 : List Int) (r1 : Int) (r2 : Int) (r3 : Int) (w : World) (hr0_0 : Kd.C k39 w A0_0 l0_0.length l0_0) (hc0_0 : l0_0.length ≤ c0_0) (hr0_1 : Kd.C k37 w A0_1 l0_1.length l0_1) (hc0_1 : l0_1.length ≤ c0_1) (hr0_2 : Kd.C (Kd.slice 3 (Kd.int .i64)) w A0_2 l0_2.length l0_2) (hc0_2 : l0_2.length ≤ c0_2) (hr1 : Kd.C (Kd.int .i64) w A1 l1.length l1) (hc1 : l1.length ≤ c1) (h : pipe_Post.f l0_0 l0_1 l0_2 l1 = some (r1, r2, r3)) :
  Calls Try.prog 37 #[.agg #[.slice A0_0 l0_0.length c0_0, .slice A0_1 l0_1.length c0_1, .slice A0_2 l0_2.length c0_2], .slice A1 l1.length c1] w fun e w' => e = .returned (.tuple #[.int .i64 r1, .int .i64 r2, .int .i64 r3]) ∧ Below w.heap.size w w' := by
 have h' := Option.some.inj h
 clear h
 have HF := qab.mk h'
 clear h'
 have hu26 := Try.underlying26
 have HB := qab.mk (Below.refl w.heap.size w)
 have HR0 := qab.mk hr0_0
 have HR1 := qab.mk hr0_1
 have HR2 := qab.mk hr0_2
 have HR3 := qab.mk hr1
 clear hr0_0 hr0_1 hr0_2 hr1
 have hmf : ∀ (fn : Fn) (first cap : Array Value) (w : World), (Instr.makeFunc fn first cap).run Try.prog w = .ok (.func fn first cap) w := fun _ _ _ _ => rfl
 have hgiven : ∀ W, Below w.heap.size w W → Calls Try.prog 70 #[.agg #[.slice A0_0 l0_0.length c0_0, .slice A0_1 l0_1.length c0_1, .slice A0_2 l0_2.length c0_2], .int .i64 0, .slice A1 l1.length c1] W fun e w' => e = .returned (.int .i64 (givenV l0_0 l0_1 l0_2 0 l1)) ∧ Below W.heap.size W w' := fun W hW =>
  pipe_given.calls _ _ _ _ _ _ _ _ _ 0 _ _ l1 _ W (Kd.qam HR0.out hW) hc0_0 (Kd.qam HR1.out hW) hc0_1 (Kd.qam HR2.out hW) hc0_2 (Kd.qam HR3.out hW) hc1 rfl
 have HGIV := qab.mk hgiven
 clear hgiven
 obtain ⟨gv, hgv⟩ : ∃ gv, gv = givenV l0_0 l0_1 l0_2 0 l1 := ⟨_, rfl⟩
 rw [← hgv] at HGIV
 by_cases hz : gv = 0
 ·
  have hgo := given_ok (hgv.symm.trans hz)
  have hlen := valid_lens hgo.2.1
  have hweak : ∀ x, x ∈ numsOf (l0_0.length + 1) → pipe_net_weak.f 14 l0_0 l0_1 l0_2 0 x l1 = some ((weakV l0_0 l0_1 l0_2 0 x l1).1, (weakV l0_0 l0_1 l0_2 0 x l1).2) := fun x hx => by
   unfold numsOf at hx
   simp only [List.mem_map, List.mem_range] at hx
   obtain ⟨k, hk, rfl⟩ := hx
   exact weakV_some _ _ _ _ _ _ hgo.1 (fun f hf => order_some hgo.2.1 (by omega) (by omega) (by omega) (hgo.2.2.2.2 f hf).1 (hgo.2.2.2.2 f hf).2)
  have HW := qab.mk hweak
  have HLN : qab (l0_0.length ≤ 5) := ⟨hlen.2.2.1⟩
  have hPV : postV l0_0 l0_1 l0_2 l1 = (if (g1 (ofPost l0_0 l0_1 l0_2 l1) (numsOf (l0_0.length + 1))).2.2 = true then ((g1 (ofPost l0_0 l0_1 l0_2 l1) (numsOf (l0_0.length + 1))).1, (g1 (ofPost l0_0 l0_1 l0_2 l1) (numsOf (l0_0.length + 1))).2.1, 0) else (0, 0, 5)) := by
   unfold postV
   rw [if_neg (by rw [← hgv]; simp [hz])]
  have HPV := qab.mk (hPV.symm.trans HF.out)
  clear hPV hweak hlen hgo hgv
  subst hz
  have hw1 : IntKind.i64.wrap ((l0_0.length : Int) + 1) = (l0_0.length : Int) + 1 := by rw [i64_w]; unfold wrap64; have := HLN.out; omega
  go_enter Try.func37, Try.ntmps37
  go_wp2_with (first | ((with_reducible refine qar (N := 2) rfl ?_); refine qap ?hg (N := 2) ?hd (cs := #[.slice A0_0 l0_0.length c0_0, .slice A0_1 l0_1.length c0_1, .slice A0_2 l0_2.length c0_2]) (t := 26) ?hr ?_; (case hd => rfl); (case hg => rfl); (case hr => first | (go_simp; done) | (go_simp; rfl)); intro gb hg_gb w2 hbox hb; have BKgb := qab.mk hbox; have n_HB := qab.mk (qag HB.out hb); have GEgb : w.heap.size ≤ gb := (by rw [hg_gb]; exact HB.out.size); clear HB; have HB := n_HB; clear n_HB; clear hbox hb hg_gb) | ((with_reducible refine qar (N := 3) rfl ?_); refine qap ?hg (N := 3) ?hd (cs := #[.slice A1 l1.length c1]) (t := 47) ?hr ?_; (case hd => rfl); (case hg => rfl); (case hr => first | (go_simp; done) | (go_simp; rfl)); intro gf hg_gf w3 hbox hb; have BKgf := qab.mk hbox; have n_BKgb := qab.mk (qah BKgb.out hb); clear BKgb; have BKgb := n_BKgb; clear n_BKgb; have n_HB := qab.mk (qag HB.out hb); have GEgf : w.heap.size ≤ gf := (by rw [hg_gf]; exact HB.out.size); clear HB; have HB := n_HB; clear n_HB; clear hbox hb hg_gf; have hfgb := qac BKgb.out; have hcgb_0 : w3.cell? ⟨gb, 0, none⟩ = some (.slice A0_0 l0_0.length c0_0) := (qaa BKgb.out 0).trans rfl; have hcgb_1 : w3.cell? ⟨gb, 1, none⟩ = some (.slice A0_1 l0_1.length c0_1) := (qaa BKgb.out 1).trans rfl; have hcgb_2 : w3.cell? ⟨gb, 2, none⟩ = some (.slice A0_2 l0_2.length c0_2) := (qaa BKgb.out 2).trans rfl; have hfgf := qac BKgf.out; have hcgf_0 : w3.cell? ⟨gf, 0, none⟩ = some (.slice A1 l1.length c1) := (qaa BKgf.out 0).trans rfl) | (go_at_call 70; refine (HGIV.out _ HB.out).mono ?_; rintro e w4 ⟨rfl, hb⟩; have n_BKgb := qab.mk (qah BKgb.out hb); clear BKgb; have BKgb := n_BKgb; clear n_BKgb; have n_BKgf := qab.mk (qah BKgf.out hb); clear BKgf; have BKgf := n_BKgf; clear n_BKgf; have n_HB := qab.mk (qag HB.out hb); clear HB; have HB := n_HB; clear n_HB; clear hb; have hfgb := qac BKgb.out; have hcgb_0 : w4.cell? ⟨gb, 0, none⟩ = some (.slice A0_0 l0_0.length c0_0) := (qaa BKgb.out 0).trans rfl; have hcgb_1 : w4.cell? ⟨gb, 1, none⟩ = some (.slice A0_1 l0_1.length c0_1) := (qaa BKgb.out 1).trans rfl; have hcgb_2 : w4.cell? ⟨gb, 2, none⟩ = some (.slice A0_2 l0_2.length c0_2) := (qaa BKgb.out 2).trans rfl) | (go_at_call 72; refine (numbers_calls _ _).mono ?_; rintro e w5 ⟨BB, rfl, hBB, hge, hb⟩; have n_BKgb := qab.mk (qah BKgb.out hb); clear BKgb; have BKgb := n_BKgb; clear n_BKgb; have n_BKgf := qab.mk (qah BKgf.out hb); clear BKgf; have BKgf := n_BKgf; clear n_BKgf; have n_HB := qab.mk (qag HB.out hb); clear HB; have HB := n_HB; clear n_HB; clear hb))
  have hcall := greatest73_calls (p := fun x => x ∈ numsOf (l0_0.length + 1)) (gf := 96) (lb := #[.pointer (some ⟨BB, 0, none⟩)]) (enters_of Try.func96 (by kernel_rfl) rfl) (Bn := BB) (w := w5) (blk_lt hBB) (fun n hn => numbers_stops n hn (l0_0.length + 1) (by have := HLN.out; omega) BB w5 hBB) (numsOf (l0_0.length + 1)) (fun xs h => h)
   (Inv73.held (w0 := w) (gn := gb) (gf := gf) (cn := .nilIface) (cf := .slice A1 l1.length c1) (cs := #[.slice A0_0 l0_0.length c0_0, .slice A0_1 l0_1.length c0_1, .slice A0_2 l0_2.length c0_2]) (B := w5.heap.size) HB.out.size) (fun _ => False) (fun k hk => hk.elim)
   (fun _ => False) (.pointer (some ⟨gb, 0, none⟩)) (.pointer (some ⟨gf, 0, none⟩)) (ofPost l0_0 l0_1 l0_2 l1)
   (fun A' W' x hx hA' hi' => of73_calls _ _ l0_0 _ _ l0_1 _ _ l0_2 _ _ l1 w gb gf .nilIface HR0.out hc0_0 HR1.out hc0_1 HR2.out hc0_2 HR3.out hc1 x (HW.out x hx) A' W' hi')
   ⟨fun h => h, fun h => h, fun k h => h.elim, BKgb.out, BKgf.out, HB.out⟩ (fun k hk => hk.elim)
  refine hcall.mono ?_
  rintro e w7 ⟨rfl, i7, k7⟩
  have hb7 := HB.out.trans (k7.toBelow (fun k h => h.elim) |>.mono HB.out.size)
  clear hcall i7 k7 hBB hge
  generalize g1 (ofPost l0_0 l0_1 l0_2 l1) (numsOf (l0_0.length + 1)) = g at HPV ⊢
  obtain ⟨ga, gc, gd⟩ := g
  try dsimp only at HPV ⊢
  have HB7 := qab.mk hb7
  clear hb7
  cases gd with
  | false =>
   have he := HPV.out
   cases he
   go_wp2_with fail
   go_ret3
   exact ⟨rfl, HB7.out⟩
  | true =>
   have he := HPV.out
   cases he
   go_wp2_with fail
   go_ret3
   exact ⟨rfl, HB7.out⟩
 ·
  have hzb : (gv != 0) = true := by simp [hz]
  have hv : (r1, r2, r3) = (0, 0, gv) := by rw [← HF.out]; unfold postV; rw [← hgv, if_pos hz]
  cases hv
  clear hgv
  go_enter Try.func37, Try.ntmps37
  go_wp2_with (first | ((with_reducible refine qar (N := 2) rfl ?_); refine qap ?hg (N := 2) ?hd (cs := #[.slice A0_0 l0_0.length c0_0, .slice A0_1 l0_1.length c0_1, .slice A0_2 l0_2.length c0_2]) (t := 26) ?hr ?_; (case hd => rfl); (case hg => rfl); (case hr => first | (go_simp; done) | (go_simp; rfl)); intro gb hg_gb w2 hbox hb; have BKgb := qab.mk hbox; have n_HB := qab.mk (qag HB.out hb); have GEgb : w.heap.size ≤ gb := (by rw [hg_gb]; exact HB.out.size); clear HB; have HB := n_HB; clear n_HB; clear hbox hb hg_gb) | ((with_reducible refine qar (N := 3) rfl ?_); refine qap ?hg (N := 3) ?hd (cs := #[.slice A1 l1.length c1]) (t := 47) ?hr ?_; (case hd => rfl); (case hg => rfl); (case hr => first | (go_simp; done) | (go_simp; rfl)); intro gf hg_gf w3 hbox hb; have BKgf := qab.mk hbox; have n_BKgb := qab.mk (qah BKgb.out hb); clear BKgb; have BKgb := n_BKgb; clear n_BKgb; have n_HB := qab.mk (qag HB.out hb); have GEgf : w.heap.size ≤ gf := (by rw [hg_gf]; exact HB.out.size); clear HB; have HB := n_HB; clear n_HB; clear hbox hb hg_gf; have hfgb := qac BKgb.out; have hcgb_0 : w3.cell? ⟨gb, 0, none⟩ = some (.slice A0_0 l0_0.length c0_0) := (qaa BKgb.out 0).trans rfl; have hcgb_1 : w3.cell? ⟨gb, 1, none⟩ = some (.slice A0_1 l0_1.length c0_1) := (qaa BKgb.out 1).trans rfl; have hcgb_2 : w3.cell? ⟨gb, 2, none⟩ = some (.slice A0_2 l0_2.length c0_2) := (qaa BKgb.out 2).trans rfl; have hfgf := qac BKgf.out; have hcgf_0 : w3.cell? ⟨gf, 0, none⟩ = some (.slice A1 l1.length c1) := (qaa BKgf.out 0).trans rfl) | (go_at_call 70; refine (HGIV.out _ HB.out).mono ?_; rintro e w4 ⟨rfl, hb⟩; have n_HB := qab.mk (qag HB.out hb); clear HB; have HB := n_HB; clear n_HB; clear hb))
  go_ret3
  exact ⟨rfl, HB.out⟩
end Go.Proofs.Ytipphcjgdebecaa.PA
namespace Go.Proofs.Ytipphcjgdebecaa.PA
open Go.RowKit Go.Proofs.YtipphcjgdebecaaW.PrintWords Go.Proofs.YtipphcjgdebecaaW.PrintLast Go.Proofs.YtipphcjgdebecaaW.PrintMore
attribute [local go_sem] max2_int min2_int max_two min_two max_three min_three max_four min_four
attribute [local go_sem] Oper.semAt_some
def costS (l0 : List S39) (a : Int) (i : Int) : Int := wrap64 (a + (qak l0 i).f3)
def costV (l0 : List S39) (s : List Int) : Int := s.foldl (costS l0) 0
theorem costV_snoc (l0 : List S39) (s : List Int) (x : Int) : costV l0 (s ++ [x]) = wrap64 (costV l0 s + (qak l0 x).f3) := by simp [costV, costS]
structure Inv75 (w0 : World) (gn gf gm : Nat) (cf cm : Value) (cs : Array Value) (A : Nat → Prop) (W : World) : Prop where
 an : ¬ A gn
 af : ¬ A gf
 am : ¬ A gm
 lo : ∀ k, A k → w0.heap.size ≤ k
 xn : W.heap[gn]? = some (.cells cs 26 (0, 0))
 xf : W.heap[gf]? = some (.cells #[cf] 47 (0, 0))
 xm : W.heap[gm]? = some (.cells #[cm] 3 (0, 0))
 hb : Below w0.heap.size w0 W
theorem Inv75.held {w0 : World} {gn gf gm : Nat} {cf cm : Value} {cs : Array Value} {B : Nat} (hB : w0.heap.size ≤ B) : Held B (Inv75 w0 gn gf gm cf cm cs) where
 mono A A' W hA h := ⟨fun hk => h.an (hA _ hk), fun hk => h.af (hA _ hk), fun hk => h.am (hA _ hk), fun k hk => h.lo k (hA k hk), h.xn, h.xf, h.xm, h.hb⟩
 fresh A W h := ⟨fun hk => hk.elim h.an (fun e => by have := blk_lt h.xn; omega), fun hk => hk.elim h.af (fun e => by have := blk_lt h.xf; omega), fun hk => hk.elim h.am (fun e => by have := blk_lt h.xm; omega), fun k hk => hk.elim (h.lo k) (fun e => Nat.le_trans h.hb.size e), h.xn, h.xf, h.xm, h.hb⟩
 step A W W' h hk := ⟨h.an, h.af, h.am, h.lo, hk.blk h.xn h.an, hk.blk h.xf h.af, hk.blk h.xm h.am, ⟨hk.os.trans h.hb.os, hk.tape.trans h.hb.tape, hk.output.trans h.hb.output, Nat.le_trans h.hb.size hk.size, fun k hlt => (hk.block k (Nat.lt_of_lt_of_le hlt h.hb.size) (fun ha => by have := h.lo k ha; omega)).trans (h.hb.block k hlt)⟩⟩
 own A W W' row h hg hr := ⟨h.an, h.af, h.am, h.lo, blk_own h.xn hg hr, blk_own h.xf hg hr, blk_own h.xm hg hr, ⟨hg.os.trans h.hb.os, hg.tape.trans h.hb.tape, hg.output.trans h.hb.output, Nat.le_trans h.hb.size hg.size, fun k hlt => (hg.block k (Nat.lt_of_lt_of_le hlt h.hb.size) (fun e => by have := (hr k e.symm).1; omega)).trans (h.hb.block k hlt)⟩⟩
def ofWrap (l0 : List S39) (l1 : List S37) (l2 : List (List Int)) (from_ : Int) (fs : List Int) (x : Int) : Int × Bool := (wrap64 (-(costV l0 (loopsOf x 5))), decide ((weakV l0 l1 l2 x from_ fs).1 < 0))
set_option maxRecDepth 100000 in
set_option maxHeartbeats 4000000 in
theorem of75_calls (A0 : Option Addr) (c0 : Nat) (l0 : List S39) (A1 : Option Addr) (c1 : Nat) (l1 : List S37) (A2 : Option Addr) (c2 : Nat) (l2 : List (List Int)) (A3 : Option Addr) (c3 : Nat) (fs : List Int) (from_ : Int) (w0 : World) (gn gf gm : Nat)
  (hr0 : Kd.C k39 w0 A0 l0.length l0) (hc0 : l0.length ≤ c0) (hr1 : Kd.C k37 w0 A1 l1.length l1) (hc1 : l1.length ≤ c1) (hr2 : Kd.C (Kd.slice 3 (Kd.int .i64)) w0 A2 l2.length l2) (hc2 : l2.length ≤ c2) (hr3 : Kd.C (Kd.int .i64) w0 A3 fs.length fs) (hc3 : fs.length ≤ c3)
  (x : Int) (hx0 : 0 ≤ x) (hlp : ∀ i ∈ loopsOf x 5, i < l0.length) (hok : pipe_net_weak.f 14 l0 l1 l2 x from_ fs = some ((weakV l0 l1 l2 x from_ fs).1, (weakV l0 l1 l2 x from_ fs).2)) (A : Nat → Prop) (w : World) (hinv : Inv75 w0 gn gf gm (.slice A3 fs.length c3) (.int .i64 from_) #[.slice A0 l0.length c0, .slice A1 l1.length c1, .slice A2 l2.length c2] A w) :
  Calls Try.prog 75 #[.int .i64 x, .pointer (some ⟨gn, 0, none⟩), .pointer (some ⟨gm, 0, none⟩), .pointer (some ⟨gf, 0, none⟩)] w fun e w' => e = .returned (.tuple #[.int .i64 (ofWrap l0 l1 l2 from_ fs x).1, .bool (ofWrap l0 l1 l2 from_ fs x).2]) ∧ Inv75 w0 gn gf gm (.slice A3 fs.length c3) (.int .i64 from_) #[.slice A0 l0.length c0, .slice A1 l1.length c1, .slice A2 l2.length c2] A w' ∧ KB (fun _ => False) w w' := by
 have hu26 := Try.underlying26
 have hu39 := Try.underlying39
 have hu99 := Try.underlying99
 have HI := qab.mk hinv
 refine (callsIn_wide (n := 8)).1 ?_
 refine callsIn_of_wp_marks Try.func75 rfl trivial ?_ rfl
 refine wpIn_wide.2 ?_
 simp only [Try.ntmps75, List.size_toArray, List.length_cons, List.length_nil, Nat.reduceAdd, Nat.reduceSub, Array.replicate_succ, Array.replicate_zero, List.push_toArray, List.append_toArray, List.nil_append, List.cons_append]
 go_wp2_with (go_at_call 76; refine (loops_calls x _).mono ?_; rintro e w2 ⟨BB, rfl, hBB, hge, hb⟩)
 refine (wpIn_wide (n := 8)).1 ?_
 have hbw := blk_new w (.cells #[.int .i64 0] 3)
 have hba := qae (Below.refl w.heap.size w) (.cells #[.int .i64 0] 3)
 have h7 := qah hbw hb
 have hb2 := qag hba hb
 have hl2 : w.heap.size < w2.heap.size := by have := hb.size; simp at this; omega
 have hBl := blk_lt hBB
 have hBne : BB ≠ w.heap.size := by simp at hge; omega
 have hi2 : Inv75 w0 gn gf gm (.slice A3 fs.length c3) (.int .i64 from_) #[.slice A0 l0.length c0, .slice A1 l1.length c1, .slice A2 l2.length c2] (fun k => A k ∨ k = w.heap.size) w2 := by
  have hh := Inv75.held (w0 := w0) (gn := gn) (gf := gf) (gm := gm) (cf := .slice A3 fs.length c3) (cm := .int .i64 from_) (cs := #[.slice A0 l0.length c0, .slice A1 l1.length c1, .slice A2 l2.length c2]) (B := w0.heap.size) (Nat.le_refl _)
  exact hh.step _ w _ (hh.mono _ _ _ (fun k hk => hk.elim .inl (fun e => .inr (by omega))) (hh.fresh _ _ hinv)) (KB.of_below hb2 _)
 have hw0 : w0.heap.size ≤ w2.heap.size := hi2.hb.size
 refine wpIn_rangeFunc_ownG rfl (by omega) (gf := 97) (lb := #[.pointer (some ⟨BB, 0, none⟩)]) rfl trivial (enters_of Try.func97 (by kernel_rfl) rfl) (loops_stops _ (by omega) x hx0 BB w2 hBB) (fun h k => KeptAt.trans h k) (keptAt_put hBl) (Below.refl _ _) (fun _ => rfl)
  (fun (pre : List (LoopOf x)) W => Inv75 w0 gn gf gm (.slice A3 fs.length c3) (.int .i64 from_) #[.slice A0 l0.length c0, .slice A1 l1.length c1, .slice A2 l2.length c2] (fun k => A k ∨ k = w.heap.size) W ∧ W.heap[w.heap.size]? = some (.cells #[.int .i64 (costV l0 (pre.map (fun y : LoopOf x => y.1)))] 3 (0, 0)) ∧ KB (fun k => k = w.heap.size) w2 W)
  (fun _ _ _ => False)
  (fun s A' B row hs hg hr => ⟨(Inv75.held hw0).own _ _ _ row hs.1 hg hr, blk_own hs.2.1 hg hr, hs.2.2.trans (KB.of_grown hg) (fun k e => .inr (by have := (hr k e).1; omega))⟩)
  (fun _ _ _ _ _ hs _ _ => hs)
  ⟨hi2, h7, KB.refl _ _⟩
  (fun y => { tmps := #[.int .i64 x, .pointer (some ⟨gn, 0, none⟩), .pointer (some ⟨gm, 0, none⟩), .pointer (some ⟨gf, 0, none⟩), undef, .int .i64 0, .bool false, .pointer (some ⟨w.heap.size, 0, none⟩), .int .i64 y.1, undef, undef, .int .i64 x, .func (.func 97) #[] #[.pointer (some ⟨BB, 0, none⟩)], .int .i64 y.1, undef, undef, undef, undef, undef, undef, undef, undef, undef, undef, undef, undef, undef, undef, undef, undef, undef, undef, undef, undef, undef], defers := [] }) ?assign ?body ?done ?stop
 case assign =>
  intro l y W K hK
  gi_wp2
  exact hK
 case body =>
  rintro l pre ⟨y, hy⟩ W ⟨hi, h7', hk⟩ _
  obtain ⟨k, rfl, hk5, _⟩ := (mem_loopsOf x 5 y).1 hy
  have hyl := hlp _ hy
  obtain ⟨ad, e, hl0, hl1, hl2, hl3, hl4, hl5, hl6, hl7, hl8, hl9, hl10, hl11⟩ := at_T39 (Kd.qam hr0 hi.hb) (k : Int) (by omega) hyl
  cases e
  clear hl0 hl1 hl2 hl3 hl4 hl5 hl7 hl8 hl9 hl10 hl11
  simp only [Int.toNat_natCast] at hl6
  have hmx : Try.prog.follows .mixedOrders = true := by kernel_rfl
  have j0 : W.drew.cell? ⟨gn, 0, none⟩ = some (.slice (some ad) l0.length c0) := qaa hi.xn 0
  have j1 : W.drew.cell? ⟨w.heap.size, 0, none⟩ = some (.int .i64 (costV l0 (pre.map (fun y : LoopOf x => y.1)))) := qaa h7' 0
  have j2 : W.drew.frozen? ⟨w.heap.size, 0, none⟩ = false := qac h7' 0
  have j3 : W.drew.cell? ⟨(ad.add (k * 12)).block, (ad.add (k * 12)).off + 6, none⟩ = some (.int .i64 (qak l0 k).f3) := hl6
  have hk0 : (0 : Int) ≤ k := by omega
  have HH := qab.mk (And.intro hi (And.intro h7' hk))
  clear hi h7' hk hl6 hlp hok hr0 hr1 hr2 hr3 hinv hi2 h7
  have FIN : ∀ a : Act, ownPostG w2.heap.size (KeptAt BB) (fun (pre : List (LoopOf x)) W => Inv75 w0 gn gf gm (.slice A3 fs.length c3) (.int .i64 from_) #[.slice (some ad) l0.length c0, .slice A1 l1.length c1, .slice A2 l2.length c2] (fun k => A k ∨ k = w.heap.size) W ∧ W.heap[w.heap.size]? = some (.cells #[.int .i64 (costV l0 (pre.map (fun y : LoopOf x => y.1)))] 3 (0, 0)) ∧ KB (fun k => k = w.heap.size) w2 W)
    (fun _ _ _ => False) (pre ++ [(⟨(k : Int), hy⟩ : LoopOf x)]) W .normal a ((W.setCell ⟨w.heap.size, 0, none⟩ (.int .i64 (IntKind.i64.wrap (costV l0 (pre.map (fun y : LoopOf x => y.1)) + (qak l0 k).f3)))).drew) := by
   intro a
   have hK : ∀ v, KB (fun k => k = w.heap.size) W ((W.setCell ⟨w.heap.size, 0, none⟩ v).drew) := fun v => by
    have h := (KB.refl (fun k => k = w.heap.size) W).set (p := ⟨w.heap.size, 0, none⟩) (.inl rfl) v
    exact ⟨h.os, h.tape, h.output, h.size, h.block⟩
   have hsz := HH.out.2.2.size
   refine ⟨(hK _).from (fun k e => by omega), (hK _).block BB (by omega) (fun e => hBne e), (Inv75.held hw0).step _ _ _ HH.out.1 ((hK _).mono (fun k e => .inr e)), ?_, HH.out.2.2.trans (hK _) (fun k e => .inl e)⟩
   rw [List.map_append, List.map_cons, List.map_nil, costV_snoc, ← i64_w]
   exact blk_set HH.out.2.1 0 _
  gi_wp2
  gi_region
  all_goals gi_wp2
  all_goals exact FIN _
 case done =>
  rintro D xs W hD hSx ⟨hi, h7', hk⟩ hK
  have hcall : ∀ W', Below W.heap.size W W' → _ := fun W' hW => pipe_net_weak.calls 14 _ _ l0 _ _ l1 _ _ l2 x from_ _ _ fs _ _ W' (Kd.qam (Kd.qam hr0 hi.hb) hW) hc0 (Kd.qam (Kd.qam hr1 hi.hb) hW) hc1 (Kd.qam (Kd.qam hr2 hi.hb) hW) hc2 (Kd.qam (Kd.qam hr3 hi.hb) hW) hc3 hok
  have HC := qab.mk hcall
  clear hcall
  have k0 : W.cell? ⟨gn, 0, none⟩ = some (.slice A0 l0.length c0) := qaa hi.xn 0
  have k1 : W.cell? ⟨gn, 1, none⟩ = some (.slice A1 l1.length c1) := qaa hi.xn 1
  have k2 : W.cell? ⟨gn, 2, none⟩ = some (.slice A2 l2.length c2) := qaa hi.xn 2
  have k3 : W.cell? ⟨gf, 0, none⟩ = some (.slice A3 fs.length c3) := qaa hi.xf 0
  have k4 : W.cell? ⟨gm, 0, none⟩ = some (.int .i64 from_) := qaa hi.xm 0
  have k5 : W.cell? ⟨w.heap.size, 0, none⟩ = some (.int .i64 (costV l0 (xs.map (fun y : LoopOf x => y.1)))) := qaa h7' 0
  have H1 := qab.mk hi
  have H6 := qab.mk hk
  have H7 := qab.mk h7'
  have HK := qab.mk hK
  have HSX := qab.mk hSx
  clear hi hk h7' hK hSx hr0 hr1 hr2 hr3 hok hlp hinv hi2 h7
  gi_wp2
  go_wp2_with (go_at_call 74; refine (HC.out _ (Below.refl _ _)).mono ?_; rintro e w3 ⟨rfl, hb⟩; have k6 : w3.cell? ⟨w.heap.size, 0, none⟩ = some (.int .i64 (costV l0 (xs.map (fun y : LoopOf x => y.1)))) := (hb.cell (World.block_lt_of_cell? _ _ k5)).trans k5; have HB3 : qab (Below W.heap.size W w3) := ⟨hb⟩; clear hb k0 k1 k2 k3 k4 k5)
  have hD3 : w3.heap[D]? = some (.deferred (some [])) := (HB3.out.block D (blk_lt HK.out)).trans HK.out
  refine ⟨by simp, .inl ⟨_, _, rfl, run_takeDeferred hD3, ?_⟩⟩
  have hput := grownBy_putObj' w3 D (.deferred none)
  have hrow : ∀ r, some D = some r → w0.heap.size ≤ r ∧ ∃ o : Obj, w3.heap[r]? = some o ∧ o.isCells = false := fun r e => by
   injection e with e
   subst e
   exact ⟨by omega, _, hD3, rfl⟩
  have hl0 := Inv75.held (w0 := w0) (gn := gn) (gf := gf) (gm := gm) (cf := .slice A3 fs.length c3) (cm := .int .i64 from_) (cs := #[.slice A0 l0.length c0, .slice A1 l1.length c1, .slice A2 l2.length c2]) (B := w0.heap.size) (Nat.le_refl _)
  have hi3 := hl0.step _ W w3 H1.out (KB.of_below HB3.out _)
  have hi4 := hl0.own _ w3 _ (some D) hi3 hput hrow
  refine ⟨_, results_tmp2 rfl _ _ _, ?_, hl0.mono _ _ _ (fun k hk => .inl hk) hi4, ?_⟩
  ·
   have hx : xs.unattach = loopsOf x 5 := HSX.out
   rw [hx]
   rfl
  ·
   exact (((KB.of_below hb2 (fun _ => False)).trans H6.out (fun k e => .inr (by omega))).trans (KB.of_below HB3.out (fun _ => False)) (fun k e => .inl e)).trans (KB.of_grown hput) (fun k e => .inr (by injection e with e; omega))
 case stop =>
  rintro D c pre W _ _ h _
  exact h.elim
end Go.Proofs.Ytipphcjgdebecaa.PA
namespace Go.Proofs.Ytipphcjgdebecaa.PA
open Go.RowKit Go.Proofs.YtipphcjgdebecaaW.PrintWords Go.Proofs.YtipphcjgdebecaaW.PrintLast Go.Proofs.YtipphcjgdebecaaW.PrintMore
attribute [local go_sem] max2_int min2_int max_two min_two max_three min_three max_four min_four
def wrapV (l0 : List S39) (l1 : List S37) (l2 : List (List Int)) (from_ : Int) (fs : List Int) : Int × Int × Int :=
 if givenV l0 l1 l2 from_ fs ≠ 0 then (0, 0, givenV l0 l1 l2 from_ fs) else
  if (g1 (ofWrap l0 l1 l2 from_ fs) (numsOf (2 ^ l0.length))).2.2 = true then ((g1 (ofWrap l0 l1 l2 from_ fs) (numsOf (2 ^ l0.length))).1, wrap64 (-(g1 (ofWrap l0 l1 l2 from_ fs) (numsOf (2 ^ l0.length))).2.1), 0) else (0, 0, 5)
theorem pow_le32 {n : Nat} (h : n ≤ 5) : 2 ^ n ≤ 32 := Nat.pow_le_pow_right (n := 2) (by decide) h
theorem loops_low {n : Nat} (h5 : n ≤ 5) {x : Nat} (hx : x < 2 ^ n) : ∀ i ∈ loopsOf (x : Int) 5, i < n := fun i hi => by
 have h32 := pow_le32 h5
 obtain ⟨k, rfl, hk, hb⟩ := (mem_loopsOf _ 5 i).1 hi
 have h1 := bit_le (x : Int) (by omega) (by omega) k hk hb
 rcases Nat.lt_or_ge k n with h2 | h2
 ·
  omega
 ·
  exfalso
  have h3 := Nat.pow_le_pow_right (n := 2) (by decide) h2
  have h4 : ((2 ^ n : Nat) : Int) ≤ ((2 ^ k : Nat) : Int) := Int.ofNat_le.2 h3
  simp at h4
  have h5 : ((x : Nat) : Int) < ((2 ^ n : Nat) : Int) := Int.ofNat_lt.2 hx
  simp at h5
  omega
def pipe_Wrap.f (l0_0 : List (S39)) (l0_1 : List (S37)) (l0_2 : List (List Int)) (a1 : Int) (l2 : List Int) : Option (Int × Int × Int) := some (wrapV l0_0 l0_1 l0_2 a1 l2)
set_option maxHeartbeats 4000000 in
set_option maxRecDepth 100000 in
theorem pipe_Wrap.calls (A0_0 : Option Addr) (c0_0 : Nat) (l0_0 : List (S39)) (A0_1 : Option Addr) (c0_1 : Nat) (l0_1 : List (S37)) (A0_2 : Option Addr) (c0_2 : Nat) (l0_2 : List (List Int)) (a1 : Int) (A2 : Option Addr) (c2 : Nat) (l2 : List Int) (r1 : Int) (r2 : Int) (r3 : Int) (w : World) (hr0_0 : Kd.C k39 w A0_0 l0_0.length l0_0) (hc0_0 : l0_0.length ≤ c0_0) (hr0_1 : Kd.C k37 w A0_1 l0_1.length l0_1) (hc0_1 : l0_1.length ≤ c0_1) (hr0_2 : Kd.C (Kd.slice 3 (Kd.int .i64)) w A0_2 l0_2.length l0_2) (hc0_2 : l0_2.length ≤ c0_2) (hr2 : Kd.C (Kd.int .i64) w A2 l2.length l2) (hc2 : l2.length ≤ c2) (h : pipe_Wrap.f l0_0 l0_1 l0_2 a1 l2 = some (r1, r2, r3)) :
  Calls Try.prog 39 #[.agg #[.slice A0_0 l0_0.length c0_0, .slice A0_1 l0_1.length c0_1, .slice A0_2 l0_2.length c0_2], .int .i64 a1, .slice A2 l2.length c2] w fun e w' => e = .returned (.tuple #[.int .i64 r1, .int .i64 r2, .int .i64 r3]) ∧ Below w.heap.size w w' := by
 have h' := Option.some.inj h
 clear h
 have HF := qab.mk h'
 clear h'
 have hu26 := Try.underlying26
 have HB := qab.mk (Below.refl w.heap.size w)
 have HR0 := qab.mk hr0_0
 have HR1 := qab.mk hr0_1
 have HR2 := qab.mk hr0_2
 have HR3 := qab.mk hr2
 clear hr0_0 hr0_1 hr0_2 hr2
 have hmf : ∀ (fn : Fn) (first cap : Array Value) (w : World), (Instr.makeFunc fn first cap).run Try.prog w = .ok (.func fn first cap) w := fun _ _ _ _ => rfl
 have hgiven : ∀ W, Below w.heap.size w W → Calls Try.prog 70 #[.agg #[.slice A0_0 l0_0.length c0_0, .slice A0_1 l0_1.length c0_1, .slice A0_2 l0_2.length c0_2], .int .i64 a1, .slice A2 l2.length c2] W fun e w' => e = .returned (.int .i64 (givenV l0_0 l0_1 l0_2 a1 l2)) ∧ Below W.heap.size W w' := fun W hW =>
  pipe_given.calls _ _ _ _ _ _ _ _ _ a1 _ _ l2 _ W (Kd.qam HR0.out hW) hc0_0 (Kd.qam HR1.out hW) hc0_1 (Kd.qam HR2.out hW) hc0_2 (Kd.qam HR3.out hW) hc2 rfl
 have HGIV := qab.mk hgiven
 clear hgiven
 obtain ⟨gv, hgv⟩ : ∃ gv, gv = givenV l0_0 l0_1 l0_2 a1 l2 := ⟨_, rfl⟩
 rw [← hgv] at HGIV
 by_cases hz : gv = 0
 ·
  have hgo := given_ok (hgv.symm.trans hz)
  have hlen := valid_lens hgo.2.1
  have hweak : ∀ x, x ∈ numsOf (2 ^ l0_0.length) → pipe_net_weak.f 14 l0_0 l0_1 l0_2 x a1 l2 = some ((weakV l0_0 l0_1 l0_2 x a1 l2).1, (weakV l0_0 l0_1 l0_2 x a1 l2).2) := fun x hx => by
   unfold numsOf at hx
   simp only [List.mem_map, List.mem_range] at hx
   obtain ⟨k, hk, rfl⟩ := hx
   exact weakV_some _ _ _ _ _ _ hgo.1 (fun f hf => order_some hgo.2.1 (by omega) hgo.2.2.1 hgo.2.2.2.1 (hgo.2.2.2.2 f hf).1 (hgo.2.2.2.2 f hf).2)
  have hx01 : ∀ x, x ∈ numsOf (2 ^ l0_0.length) → 0 ≤ x ∧ ∀ i ∈ loopsOf x 5, i < l0_0.length := fun x hx => by
   unfold numsOf at hx
   simp only [List.mem_map, List.mem_range] at hx
   obtain ⟨k, hk, rfl⟩ := hx
   exact ⟨by omega, loops_low hlen.2.2.1 hk⟩
  have hsh0 : wrap64 (2 ^ min l0_0.length 64) = ((2 ^ l0_0.length : Nat) : Int) := by
   have h32 := pow_le32 hlen.2.2.1
   rw [Nat.min_eq_left (by have := hlen.2.2.1; omega)]
   have : ((2 : Int) ^ l0_0.length) = ((2 ^ l0_0.length : Nat) : Int) := by simp
   rw [this]
   generalize 2 ^ l0_0.length = m at h32 ⊢
   unfold wrap64
   omega
  have hm32 := pow_le32 hlen.2.2.1
  obtain ⟨M, hM⟩ : ∃ M : Nat, M = 2 ^ l0_0.length := ⟨_, rfl⟩
  rw [← hM] at hweak hx01 hsh0 hm32
  have HX := qab.mk hx01
  have HSH := qab.mk hsh0
  clear hsh0
  have HM32 := qab.mk hm32
  have HW := qab.mk hweak
  have HLN : qab (l0_0.length ≤ 5) := ⟨hlen.2.2.1⟩
  have hPV : wrapV l0_0 l0_1 l0_2 a1 l2 = (if (g1 (ofWrap l0_0 l0_1 l0_2 a1 l2) (numsOf M)).2.2 = true then ((g1 (ofWrap l0_0 l0_1 l0_2 a1 l2) (numsOf M)).1, wrap64 (-(g1 (ofWrap l0_0 l0_1 l0_2 a1 l2) (numsOf M)).2.1), 0) else (0, 0, 5)) := by
   unfold wrapV
   rw [if_neg (by rw [← hgv]; simp [hz]), ← hM]
  have HPV := qab.mk (hPV.symm.trans HF.out)
  clear hPV hweak hlen hgo hgv hx01 hm32 hM
  subst hz
  have hnn : ((l0_0.length : Int) < 0) = False := by simp
  go_enter Try.func39, Try.ntmps39
  go_wp2_with (first | ((with_reducible refine qar (N := 3) rfl ?_); refine qap ?hg (N := 3) ?hd (cs := #[.slice A0_0 l0_0.length c0_0, .slice A0_1 l0_1.length c0_1, .slice A0_2 l0_2.length c0_2]) (t := 26) ?hr ?_; (case hd => rfl); (case hg => rfl); (case hr => first | (go_simp; done) | (go_simp; rfl)); intro gb hg_gb w2 hbox hb; have BKgb := qab.mk hbox; have n_HB := qab.mk (qag HB.out hb); have GEgb : w.heap.size ≤ gb := (by rw [hg_gb]; exact HB.out.size); clear HB; have HB := n_HB; clear n_HB; clear hbox hb hg_gb) | ((with_reducible refine qar (N := 4) rfl ?_); refine qap ?hg (N := 4) ?hd (cs := #[.int .i64 a1]) (t := 3) ?hr ?_; (case hd => rfl); (case hg => rfl); (case hr => first | (go_simp; done) | (go_simp; rfl)); intro gm hg_gm w2b hbox hb; have BKgm := qab.mk hbox; have n_BKgb := qab.mk (qah BKgb.out hb); clear BKgb; have BKgb := n_BKgb; clear n_BKgb; have n_HB := qab.mk (qag HB.out hb); have GEgm : w.heap.size ≤ gm := (by rw [hg_gm]; exact HB.out.size); clear HB; have HB := n_HB; clear n_HB; clear hbox hb hg_gm) | ((with_reducible refine qar (N := 5) rfl ?_); refine qap ?hg (N := 5) ?hd (cs := #[.slice A2 l2.length c2]) (t := 47) ?hr ?_; (case hd => rfl); (case hg => rfl); (case hr => first | (go_simp; done) | (go_simp; rfl)); intro gf hg_gf w3 hbox hb; have BKgf := qab.mk hbox; have n_BKgb := qab.mk (qah BKgb.out hb); clear BKgb; have BKgb := n_BKgb; clear n_BKgb; have n_BKgm := qab.mk (qah BKgm.out hb); clear BKgm; have BKgm := n_BKgm; clear n_BKgm; have n_HB := qab.mk (qag HB.out hb); have GEgf : w.heap.size ≤ gf := (by rw [hg_gf]; exact HB.out.size); clear HB; have HB := n_HB; clear n_HB; clear hbox hb hg_gf; have hfgb := qac BKgb.out; have hcgb_0 : w3.cell? ⟨gb, 0, none⟩ = some (.slice A0_0 l0_0.length c0_0) := (qaa BKgb.out 0).trans rfl; have hcgb_1 : w3.cell? ⟨gb, 1, none⟩ = some (.slice A0_1 l0_1.length c0_1) := (qaa BKgb.out 1).trans rfl; have hcgb_2 : w3.cell? ⟨gb, 2, none⟩ = some (.slice A0_2 l0_2.length c0_2) := (qaa BKgb.out 2).trans rfl; have hfgm := qac BKgm.out; have hcgm_0 : w3.cell? ⟨gm, 0, none⟩ = some (.int .i64 a1) := (qaa BKgm.out 0).trans rfl; have hfgf := qac BKgf.out; have hcgf_0 : w3.cell? ⟨gf, 0, none⟩ = some (.slice A2 l2.length c2) := (qaa BKgf.out 0).trans rfl) | (go_at_call 70; refine (HGIV.out _ HB.out).mono ?_; rintro e w4 ⟨rfl, hb⟩; have n_BKgb := qab.mk (qah BKgb.out hb); clear BKgb; have BKgb := n_BKgb; clear n_BKgb; have n_BKgm := qab.mk (qah BKgm.out hb); clear BKgm; have BKgm := n_BKgm; clear n_BKgm; have n_BKgf := qab.mk (qah BKgf.out hb); clear BKgf; have BKgf := n_BKgf; clear n_BKgf; have n_HB := qab.mk (qag HB.out hb); clear HB; have HB := n_HB; clear n_HB; clear hb; have hfgb := qac BKgb.out; have hcgb_0 : w4.cell? ⟨gb, 0, none⟩ = some (.slice A0_0 l0_0.length c0_0) := (qaa BKgb.out 0).trans rfl; have hcgb_1 : w4.cell? ⟨gb, 1, none⟩ = some (.slice A0_1 l0_1.length c0_1) := (qaa BKgb.out 1).trans rfl; have hcgb_2 : w4.cell? ⟨gb, 2, none⟩ = some (.slice A0_2 l0_2.length c0_2) := (qaa BKgb.out 2).trans rfl) | (go_at_call 72; refine (numbers_calls _ _).mono ?_; rintro e w5 ⟨BB, rfl, hBB, hge, hb⟩; have n_BKgb := qab.mk (qah BKgb.out hb); clear BKgb; have BKgb := n_BKgb; clear n_BKgb; have n_BKgm := qab.mk (qah BKgm.out hb); clear BKgm; have BKgm := n_BKgm; clear n_BKgm; have n_BKgf := qab.mk (qah BKgf.out hb); clear BKgf; have BKgf := n_BKgf; clear n_BKgf; have n_HB := qab.mk (qag HB.out hb); clear HB; have HB := n_HB; clear n_HB; clear hb))
  rw [HSH.out] at hBB
  have hcall := greatest75_calls (p := fun x => x ∈ numsOf M) (gf := 96) (lb := #[.pointer (some ⟨BB, 0, none⟩)]) (enters_of Try.func96 (by kernel_rfl) rfl) (Bn := BB) (w := w5) (blk_lt hBB) (fun n hn => numbers_stops n hn M (by have := HM32.out; omega) BB w5 hBB) (numsOf M) (fun xs h => h)
   (Inv75.held (w0 := w) (gn := gb) (gf := gf) (gm := gm) (cf := .slice A2 l2.length c2) (cm := .int .i64 a1) (cs := #[.slice A0_0 l0_0.length c0_0, .slice A0_1 l0_1.length c0_1, .slice A0_2 l0_2.length c0_2]) (B := w5.heap.size) HB.out.size) (fun _ => False) (fun k hk => hk.elim)
   (fun _ => False) (.pointer (some ⟨gb, 0, none⟩)) (.pointer (some ⟨gm, 0, none⟩)) (.pointer (some ⟨gf, 0, none⟩)) (ofWrap l0_0 l0_1 l0_2 a1 l2)
   (fun A' W' x hx hA' hi' => of75_calls _ _ l0_0 _ _ l0_1 _ _ l0_2 _ _ l2 a1 w gb gf gm HR0.out hc0_0 HR1.out hc0_1 HR2.out hc0_2 HR3.out hc2 x (HX.out x hx).1 (HX.out x hx).2 (HW.out x hx) A' W' hi')
   ⟨fun h => h, fun h => h, fun h => h, fun k h => h.elim, BKgb.out, BKgf.out, BKgm.out, HB.out⟩ (fun k hk => hk.elim)
  refine hcall.mono ?_
  rintro e w7 ⟨rfl, i7, k7⟩
  have hb7 := HB.out.trans (k7.toBelow (fun k h => h.elim) |>.mono HB.out.size)
  clear hcall i7 k7 hBB hge
  generalize g1 (ofWrap l0_0 l0_1 l0_2 a1 l2) (numsOf M) = g at HPV ⊢
  obtain ⟨ga, gc, gd⟩ := g
  try dsimp only at HPV ⊢
  have HB7 := qab.mk hb7
  clear hb7
  cases gd with
  | false =>
   have he := HPV.out
   cases he
   go_wp2_with fail
   go_ret3
   exact ⟨rfl, HB7.out⟩
  | true =>
   have he := HPV.out
   cases he
   go_wp2_with fail
   go_ret3
   exact ⟨rfl, HB7.out⟩
 ·
  have hzb : (gv != 0) = true := by simp [hz]
  have hv : (r1, r2, r3) = (0, 0, gv) := by rw [← HF.out]; unfold wrapV; rw [← hgv, if_pos hz]
  cases hv
  clear hgv
  go_enter Try.func39, Try.ntmps39
  go_wp2_with (first | ((with_reducible refine qar (N := 3) rfl ?_); refine qap ?hg (N := 3) ?hd (cs := #[.slice A0_0 l0_0.length c0_0, .slice A0_1 l0_1.length c0_1, .slice A0_2 l0_2.length c0_2]) (t := 26) ?hr ?_; (case hd => rfl); (case hg => rfl); (case hr => first | (go_simp; done) | (go_simp; rfl)); intro gb hg_gb w2 hbox hb; have BKgb := qab.mk hbox; have n_HB := qab.mk (qag HB.out hb); have GEgb : w.heap.size ≤ gb := (by rw [hg_gb]; exact HB.out.size); clear HB; have HB := n_HB; clear n_HB; clear hbox hb hg_gb) | ((with_reducible refine qar (N := 4) rfl ?_); refine qap ?hg (N := 4) ?hd (cs := #[.int .i64 a1]) (t := 3) ?hr ?_; (case hd => rfl); (case hg => rfl); (case hr => first | (go_simp; done) | (go_simp; rfl)); intro gm hg_gm w2b hbox hb; have BKgm := qab.mk hbox; have n_BKgb := qab.mk (qah BKgb.out hb); clear BKgb; have BKgb := n_BKgb; clear n_BKgb; have n_HB := qab.mk (qag HB.out hb); have GEgm : w.heap.size ≤ gm := (by rw [hg_gm]; exact HB.out.size); clear HB; have HB := n_HB; clear n_HB; clear hbox hb hg_gm) | ((with_reducible refine qar (N := 5) rfl ?_); refine qap ?hg (N := 5) ?hd (cs := #[.slice A2 l2.length c2]) (t := 47) ?hr ?_; (case hd => rfl); (case hg => rfl); (case hr => first | (go_simp; done) | (go_simp; rfl)); intro gf hg_gf w3 hbox hb; have BKgf := qab.mk hbox; have n_BKgb := qab.mk (qah BKgb.out hb); clear BKgb; have BKgb := n_BKgb; clear n_BKgb; have n_BKgm := qab.mk (qah BKgm.out hb); clear BKgm; have BKgm := n_BKgm; clear n_BKgm; have n_HB := qab.mk (qag HB.out hb); have GEgf : w.heap.size ≤ gf := (by rw [hg_gf]; exact HB.out.size); clear HB; have HB := n_HB; clear n_HB; clear hbox hb hg_gf; have hfgb := qac BKgb.out; have hcgb_0 : w3.cell? ⟨gb, 0, none⟩ = some (.slice A0_0 l0_0.length c0_0) := (qaa BKgb.out 0).trans rfl; have hcgb_1 : w3.cell? ⟨gb, 1, none⟩ = some (.slice A0_1 l0_1.length c0_1) := (qaa BKgb.out 1).trans rfl; have hcgb_2 : w3.cell? ⟨gb, 2, none⟩ = some (.slice A0_2 l0_2.length c0_2) := (qaa BKgb.out 2).trans rfl; have hfgm := qac BKgm.out; have hcgm_0 : w3.cell? ⟨gm, 0, none⟩ = some (.int .i64 a1) := (qaa BKgm.out 0).trans rfl; have hfgf := qac BKgf.out; have hcgf_0 : w3.cell? ⟨gf, 0, none⟩ = some (.slice A2 l2.length c2) := (qaa BKgf.out 0).trans rfl) | (go_at_call 70; refine (HGIV.out _ HB.out).mono ?_; rintro e w4 ⟨rfl, hb⟩; have n_HB := qab.mk (qag HB.out hb); clear HB; have HB := n_HB; clear n_HB; clear hb))
  go_ret3
  exact ⟨rfl, HB.out⟩
end Go.Proofs.Ytipphcjgdebecaa.PA
