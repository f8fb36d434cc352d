/- What functions of the program answer. No condition. -/
import Derived.Test.YtipphcjgdebecaaSC
import Derived.Test.YtipphcjgdebecaaSE
import Derived.Test.YtipphcjgdebecaaSF
import Derived.Test.YtipphcjgdebecaaSH
import Derived.Test.YtipphcjgdebecaaSI
import Derived.Test.YtipphcjgdebecaaSD
set_option linter.all false
set_option maxRecDepth 100000
set_option maxHeartbeats 8000000
namespace Go.Proofs.Ytipphcjgdebecaa.PA
open Go.RowKit Go.Proofs.YtipphcjgdebecaaW.PrintWords Go.Proofs.YtipphcjgdebecaaW.PrintLast Go.Proofs.YtipphcjgdebecaaW.PrintMore
attribute [local go_sem] qas qau max_two min_two qao qap qat qav
theorem put_tail {E : OE} {A : Nat → Prop} {W : World} {s : Sp} (h : EnvInv E A W) (bm : E.w0.heap.size ≤ E.m) (hs : OkS s) (v : Value) (hv : E.Row A W v (E.S s).1) :
  ∃ w9, (Instr.mapUpdate 120 (.map (some E.m)) (.agg #[.int .i64 s.p, .int .i64 s.h, .int .i64 s.r]) (.agg #[v, .int .i64 (E.S s).2.1, .bool (E.S s).2.2])).run Try.prog W = .ok () w9 ∧ EnvInv E A w9 ∧ E.Row A w9 v (E.S s).1 ∧ KB (fun k => k = E.m) W w9 := by
 obtain ⟨w9, hrun, hg, hm⟩ := h.map.update (t := 120) (el := 97) Try.underlying120 s (.agg #[v, .int .i64 (E.S s).2.1, .bool (E.S s).2.2])
 exact ⟨w9, hrun, h.put hg hs rfl hv bm hm, Kd.R_grown hv hg (fun k hk e => hk.1 (by injection e)), (KB.of_grown hg).mono (fun k e => by injection e with e; exact e.symm)⟩
theorem allocs3 (w : World) (o1 o2 o3 : Obj) : ∃ w4, ((w.alloc o1).alloc o2).alloc o3 = w4 ∧ w4.heap[w.heap.size]? = some o1 ∧ w4.heap[w.heap.size + 1]? = some o2 ∧ w4.heap[w.heap.size + 1 + 1]? = some o3 ∧ w4.heap.size = w.heap.size + 3 ∧ Below w.heap.size w w4 := by
 have h2 := blk_new (w.alloc o1) o2
 have h3 := blk_new ((w.alloc o1).alloc o2) o3
 rw [World.size_alloc] at h2
 rw [World.size_alloc, World.size_alloc] at h3
 exact ⟨_, rfl, qan (qan (blk_new w o1) o2) o3, qan h2 o3, h3, by simp, qag (qag (qag (Below.refl _ _) _) _) _⟩
theorem search_step (E : OE) (hE : E.Fit) (s : Sp) (hs : E.At s) (IH : ∀ s', E.At s' → cntB s'.r < cntB s.r → SearchC E s') : SearchC E s := by
 intro A w hinv hA
 have hu97 := Try.underlying97
 have hu99 := Try.underlying99
 have hu123 := Try.underlying123
 have hu26 := Try.underlying26
 have hmf : ∀ (fn : Fn) (first cap : Array Value) (w : World), (Instr.makeFunc fn first cap).run Try.prog w = .ok (.func fn first cap) w := fun _ _ _ _ => rfl
 have HB := qab.mk (Below.refl w.heap.size w)
 have HI := qab.mk hinv
 have HIH := qab.mk IH
 have HE := qab.mk hE
 have HS := qab.mk hs
 have BKBn := qab.mk hinv.xn
 have BKBk := qab.mk hinv.xk
 have BKBd := qab.mk hinv.xd
 have BKBs := qab.mk hinv.xs
 have hSe := bestV_eq E.l0 E.l1 E.l2 E.D s hs.1
 have HSE := qab.mk hSe
 clear IH hinv hE hs hSe
 unfold spV
 by_cases hz : s.r = 0
 ·
  have hzb : (s.r == 0) = true := by simp [hz]
  have hS : E.S s = ([], (E.l1.length : Int), true) := by
   unfold OE.S
   rw [HSE.out]
   unfold stepV
   rw [if_pos hz]
  rw [hS]
  clear HSE hS
  go_enter Try.func90, Try.ntmps90
  go_wp2_with ((first | ((with_reducible refine qam (N := 5) rfl ?_); refine qal ?hg (N := 5) ?hd (cs := #[.int .i64 s.p, .int .i64 s.h, .int .i64 s.r]) (t := 123) ?hr ?_; (case hd => rfl); (case hg => rfl); (case hr => first | (go_simp; done) | (go_simp; rfl)); intro gs hg_gs w2 hbox hb; have BKgs := qab.mk hbox; replace BKBn := qab.mk (qae BKBn.out hb); replace BKBk := qab.mk (qae BKBk.out hb); replace BKBd := qab.mk (qae BKBd.out hb); replace BKBs := qab.mk (qae BKBs.out hb); have n_HB := qab.mk (qad HB.out hb); have GEgs : w.heap.size ≤ gs := (by rw [hg_gs]; exact HB.out.size); clear HB; have HB := n_HB; clear n_HB; clear hbox hb hg_gs) | ((with_reducible refine qam (N := 6) rfl ?_); refine qal ?hg (N := 6) ?hd (cs := #[.slice none 0 0, .int .i64 0, .bool false]) (t := 97) ?hr ?_; (case hd => rfl); (case hg => rfl); (case hr => first | (go_simp; done) | (go_simp; rfl)); intro gr hg_gr w3 hbox hb; have BKgr := qab.mk hbox; replace BKBn := qab.mk (qae BKBn.out hb); replace BKBk := qab.mk (qae BKBk.out hb); replace BKBd := qab.mk (qae BKBd.out hb); replace BKBs := qab.mk (qae BKBs.out hb); replace BKgs := qab.mk (qae BKgs.out hb); have n_HB := qab.mk (qad HB.out hb); have GEgr : w.heap.size ≤ gr := (by rw [hg_gr]; exact HB.out.size); clear HB; have HB := n_HB; clear n_HB; clear hbox hb hg_gr; obtain ⟨hfgs, hcgs_0, hcgs_1, hcgs_2⟩ := qz3 BKgs.out; obtain ⟨hfgr, hcgr_0, hcgr_1, hcgr_2⟩ := qz3 BKgr.out; have hfBn := qac BKBn.out; have hcBn_0 : w3.cell? ⟨E.Bn, 0, none⟩ = some (.slice E.A0 E.l0.length E.c0) := (qaa BKBn.out 0).trans rfl; have hcBn_1 : w3.cell? ⟨E.Bn, 1, none⟩ = some (.slice E.A1 E.l1.length E.c1) := (qaa BKBn.out 1).trans rfl; have hcBn_2 : w3.cell? ⟨E.Bn, 2, none⟩ = some (.slice E.A2 E.l2.length E.c2) := (qaa BKBn.out 2).trans rfl; have hcBn_3 : w3.cell? ⟨E.Bn, 3, none⟩ = some (.int .i64 E.wp) := (qaa BKBn.out 3).trans rfl; have hfBk := qac BKBk.out; have hcBk_0 : w3.cell? ⟨E.Bk, 0, none⟩ = some (.map (some E.m)) := (qaa BKBk.out 0).trans rfl; have hfBd := qac BKBd.out; have hcBd_0 : w3.cell? ⟨E.Bd, 0, none⟩ = some (.slice E.Ad E.D.length E.cd) := (qaa BKBd.out 0).trans rfl; have hfBs := qac BKBs.out; have hcBs_0 : w3.cell? ⟨E.Bs, 0, none⟩ = some (.func (.func 90) #[] #[.pointer (some ⟨E.Bn, 0, none⟩), .pointer (some ⟨E.Bk, 0, none⟩), .pointer (some ⟨E.Bd, 0, none⟩), .pointer (some ⟨E.Bs, 0, none⟩)]) := (qaa BKBs.out 0).trans rfl)))
  refine bodyPost_ret (results_cell_row rfl _ _ gr 97 _ (0, 0) _ rfl (by first | exact blk_drew (blk_set (blk_set (blk_set BKgr.out 0 _) 1 _) 2 _) | exact blk_set (blk_set (blk_set BKgr.out 0 _) 1 _) 2 _) hu97 rfl (by kernel_rfl)) rfl ?_
  have hfin := qai (j := 2) (v := .bool true) (qai (j := 1) (v := .int .i64 E.l1.length) (qai (j := 0) (v := .slice none 0 0) HB.out GEgr) GEgr) GEgr
  exact ⟨_, rfl, Kd.R_nil _ _ _ _ _, HI.out.step (KB.of_below hfin _), KB.of_below hfin _⟩
 ·
  have hzb : (s.r == 0) = false := by simp [hz]
  have hlk := HI.out.map
  have HLT := qab.mk hlk.lt
  rcases hlk.looks (t := 120) (el := 97) Try.underlying120 zero97 s with ⟨u, ⟨hok, v, hu, hrow⟩, hl⟩ | hl
  ·
   obtain ⟨vA, vn, vc, rfl⟩ := R_shape hrow
   generalize hSs : E.S s = S at hu hrow ⊢
   obtain ⟨So, Ss, Sr⟩ := S
   try dsimp only at hu hrow
   subst hu
   have HL : qab (∀ W' : World, W'.heap[E.m]? = w.heap[E.m]? → (Instr.lookup 120 (.map (some E.m)) (.agg #[.int .i64 s.p, .int .i64 s.h, .int .i64 s.r]) true).run Try.prog W' = .ok (.tuple #[.agg #[.slice vA vn vc, .int .i64 Ss, .bool Sr], .bool true]) W') := ⟨hl⟩
   have HROW := qab.mk hrow
   clear hl hlk hrow hSs
   go_enter Try.func90, Try.ntmps90
   go_wp2_with (first | ((with_reducible refine qam (N := 5) rfl ?_); refine qal ?hg (N := 5) ?hd (cs := #[.int .i64 s.p, .int .i64 s.h, .int .i64 s.r]) (t := 123) ?hr ?_; (case hd => rfl); (case hg => rfl); (case hr => first | (go_simp; done) | (go_simp; rfl)); intro gs hg_gs w2 hbox hb; have BKgs := qab.mk hbox; replace BKBn := qab.mk (qae BKBn.out hb); replace BKBk := qab.mk (qae BKBk.out hb); replace BKBd := qab.mk (qae BKBd.out hb); replace BKBs := qab.mk (qae BKBs.out hb); have n_HB := qab.mk (qad HB.out hb); have GEgs : w.heap.size ≤ gs := (by rw [hg_gs]; exact HB.out.size); clear HB; have HB := n_HB; clear n_HB; clear hbox hb hg_gs) | ((with_reducible refine qam (N := 6) rfl ?_); refine qal ?hg (N := 6) ?hd (cs := #[.slice none 0 0, .int .i64 0, .bool false]) (t := 97) ?hr ?_; (case hd => rfl); (case hg => rfl); (case hr => first | (go_simp; done) | (go_simp; rfl)); intro gr hg_gr w3 hbox hb; have BKgr := qab.mk hbox; replace BKBn := qab.mk (qae BKBn.out hb); replace BKBk := qab.mk (qae BKBk.out hb); replace BKBd := qab.mk (qae BKBd.out hb); replace BKBs := qab.mk (qae BKBs.out hb); replace BKgs := qab.mk (qae BKgs.out hb); have n_HB := qab.mk (qad HB.out hb); have GEgr : w.heap.size ≤ gr := (by rw [hg_gr]; exact HB.out.size); clear HB; have HB := n_HB; clear n_HB; clear hbox hb hg_gr; obtain ⟨hfgs, hcgs_0, hcgs_1, hcgs_2⟩ := qz3 BKgs.out; obtain ⟨hfgr, hcgr_0, hcgr_1, hcgr_2⟩ := qz3 BKgr.out; have hfBn := qac BKBn.out; have hcBn_0 : w3.cell? ⟨E.Bn, 0, none⟩ = some (.slice E.A0 E.l0.length E.c0) := (qaa BKBn.out 0).trans rfl; have hcBn_1 : w3.cell? ⟨E.Bn, 1, none⟩ = some (.slice E.A1 E.l1.length E.c1) := (qaa BKBn.out 1).trans rfl; have hcBn_2 : w3.cell? ⟨E.Bn, 2, none⟩ = some (.slice E.A2 E.l2.length E.c2) := (qaa BKBn.out 2).trans rfl; have hcBn_3 : w3.cell? ⟨E.Bn, 3, none⟩ = some (.int .i64 E.wp) := (qaa BKBn.out 3).trans rfl; have hfBk := qac BKBk.out; have hcBk_0 : w3.cell? ⟨E.Bk, 0, none⟩ = some (.map (some E.m)) := (qaa BKBk.out 0).trans rfl; have hfBd := qac BKBd.out; have hcBd_0 : w3.cell? ⟨E.Bd, 0, none⟩ = some (.slice E.Ad E.D.length E.cd) := (qaa BKBd.out 0).trans rfl; have hfBs := qac BKBs.out; have hcBs_0 : w3.cell? ⟨E.Bs, 0, none⟩ = some (.func (.func 90) #[] #[.pointer (some ⟨E.Bn, 0, none⟩), .pointer (some ⟨E.Bk, 0, none⟩), .pointer (some ⟨E.Bd, 0, none⟩), .pointer (some ⟨E.Bs, 0, none⟩)]) := (qaa BKBs.out 0).trans rfl; have hl3 := HL.out w3 (HB.out.block _ HLT.out)) | ((with_reducible refine qam (N := 7) rfl ?_); refine qal ?hg (N := 7) ?hd (cs := #[.slice none 0 0, .int .i64 0, .bool false]) (t := 97) ?hr ?_; (case hd => rfl); (case hg => rfl); (case hr => first | (go_simp; done) | (go_simp; rfl)); intro gk hg_gk w4 hbox hb; have BKgk := qab.mk hbox; have ne_gr_gk : gr ≠ gk := (by rw [hg_gk]; exact Nat.ne_of_lt (blk_lt BKgr.out)); replace BKgs := qab.mk (qae BKgs.out hb); replace BKgr := qab.mk (qae BKgr.out hb); have n_HB := qab.mk (qad HB.out hb); have GEgk : w.heap.size ≤ gk := (by rw [hg_gk]; exact HB.out.size); clear HB; have HB := n_HB; clear n_HB; clear hbox hb hg_gk; obtain ⟨hfgk, hcgk_0, hcgk_1, hcgk_2⟩ := qz3 BKgk.out; obtain ⟨hfgr, hcgr_0, hcgr_1, hcgr_2⟩ := qz3 BKgr.out))
   have hba := qai (j := 2) (v := .bool Sr) (qai (j := 1) (v := .int .i64 Ss) (qai (j := 0) (v := .slice vA vn vc) HB.out GEgk) GEgk) GEgk
   have hbb := qai (j := 2) (v := .bool Sr) (qai (j := 1) (v := .int .i64 Ss) (qai (j := 0) (v := .slice vA vn vc) hba GEgr) GEgr) GEgr
   refine bodyPost_ret (results_cell_row rfl _ _ gr 97 _ (0, 0) _ rfl (blk_set (blk_set (blk_set (blk_far (blk_far (blk_far BKgr.out (p := ⟨gk, 0, none⟩) ne_gr_gk _) (p := ⟨gk, 1, none⟩) ne_gr_gk _) (p := ⟨gk, 2, none⟩) ne_gr_gk _) 0 _) 1 _) 2 _) hu97 rfl (by kernel_rfl)) rfl ?_
   exact ⟨_, rfl, Kd.R_below HROW.out hbb, HI.out.step (KB.of_below hbb _), KB.of_below hbb _⟩
  ·
   have HL : qab (∀ W' : World, W'.heap[E.m]? = w.heap[E.m]? → (Instr.lookup 120 (.map (some E.m)) (.agg #[.int .i64 s.p, .int .i64 s.h, .int .i64 s.r]) true).run Try.prog W' = .ok (.tuple #[.agg #[.slice none 0 0, .int .i64 0, .bool false], .bool false]) W') := ⟨hl⟩
   have hmm := @run_makeMap Try.prog
   clear hl hlk
   go_enter Try.func90, Try.ntmps90
   go_wp2_with (first | ((with_reducible refine qam (N := 5) rfl ?_); refine qal ?hg (N := 5) ?hd (cs := #[.int .i64 s.p, .int .i64 s.h, .int .i64 s.r]) (t := 123) ?hr ?_; (case hd => rfl); (case hg => rfl); (case hr => first | (go_simp; done) | (go_simp; rfl)); intro gs hg_gs w2 hbox hb; have BKgs := qab.mk hbox; replace BKBn := qab.mk (qae BKBn.out hb); replace BKBk := qab.mk (qae BKBk.out hb); replace BKBd := qab.mk (qae BKBd.out hb); replace BKBs := qab.mk (qae BKBs.out hb); have n_HB := qab.mk (qad HB.out hb); have GEgs : w.heap.size ≤ gs := (by rw [hg_gs]; exact HB.out.size); clear HB; have HB := n_HB; clear n_HB; clear hbox hb hg_gs) | ((with_reducible refine qam (N := 6) rfl ?_); refine qal ?hg (N := 6) ?hd (cs := #[.slice none 0 0, .int .i64 0, .bool false]) (t := 97) ?hr ?_; (case hd => rfl); (case hg => rfl); (case hr => first | (go_simp; done) | (go_simp; rfl)); intro gr hg_gr w3 hbox hb; have BKgr := qab.mk hbox; replace BKBn := qab.mk (qae BKBn.out hb); replace BKBk := qab.mk (qae BKBk.out hb); replace BKBd := qab.mk (qae BKBd.out hb); replace BKBs := qab.mk (qae BKBs.out hb); replace BKgs := qab.mk (qae BKgs.out hb); have n_HB := qab.mk (qad HB.out hb); have GEgr : w.heap.size ≤ gr := (by rw [hg_gr]; exact HB.out.size); clear HB; have HB := n_HB; clear n_HB; clear hbox hb hg_gr; obtain ⟨hfgs, hcgs_0, hcgs_1, hcgs_2⟩ := qz3 BKgs.out; obtain ⟨hfgr, hcgr_0, hcgr_1, hcgr_2⟩ := qz3 BKgr.out; have hfBn := qac BKBn.out; have hcBn_0 : w3.cell? ⟨E.Bn, 0, none⟩ = some (.slice E.A0 E.l0.length E.c0) := (qaa BKBn.out 0).trans rfl; have hcBn_1 : w3.cell? ⟨E.Bn, 1, none⟩ = some (.slice E.A1 E.l1.length E.c1) := (qaa BKBn.out 1).trans rfl; have hcBn_2 : w3.cell? ⟨E.Bn, 2, none⟩ = some (.slice E.A2 E.l2.length E.c2) := (qaa BKBn.out 2).trans rfl; have hcBn_3 : w3.cell? ⟨E.Bn, 3, none⟩ = some (.int .i64 E.wp) := (qaa BKBn.out 3).trans rfl; have hfBk := qac BKBk.out; have hcBk_0 : w3.cell? ⟨E.Bk, 0, none⟩ = some (.map (some E.m)) := (qaa BKBk.out 0).trans rfl; have hfBd := qac BKBd.out; have hcBd_0 : w3.cell? ⟨E.Bd, 0, none⟩ = some (.slice E.Ad E.D.length E.cd) := (qaa BKBd.out 0).trans rfl; have hfBs := qac BKBs.out; have hcBs_0 : w3.cell? ⟨E.Bs, 0, none⟩ = some (.func (.func 90) #[] #[.pointer (some ⟨E.Bn, 0, none⟩), .pointer (some ⟨E.Bk, 0, none⟩), .pointer (some ⟨E.Bd, 0, none⟩), .pointer (some ⟨E.Bs, 0, none⟩)]) := (qaa BKBs.out 0).trans rfl; have hl3 := HL.out w3 (HB.out.block _ HLT.out); have hraw := qan (qan (qan BKgs.out (.cells #[.slice none 0 0, .int .i64 0, .bool false] 97)) (.map #[] 0)) (.cells #[.map (some (w3.heap.size + 1))] 125); have hrc := qaa hraw 2; clear hraw; simp only [List.getElem?_toArray, List.getElem?_cons_succ, List.getElem?_cons_zero] at hrc) | (go_at_call 76; obtain ⟨w5, hw5, b7, bm, bw, hsz5, hb5⟩ := allocs3 w3 (.cells #[.slice none 0 0, .int .i64 0, .bool false] 97) (.map #[] 0) (.cells #[.map (some (w3.heap.size + 1))] 125); rw [hw5]; clear hw5 hrc hl3; refine (loops_calls s.r w5).mono ?_; rintro e w6 ⟨BB, rfl, hBB, hge, hb6⟩))
   have hbw6 : Below w.heap.size w w6 := qad (qad HB.out hb5) hb6
   have xgs6 := qae (qae BKgs.out hb5) hb6
   have xgr6 := qae (qae BKgr.out hb5) hb6
   have xw6 := qae bw hb6
   have xm6 := qae bm hb6
   have lgr := blk_lt BKgr.out
   have l3 := HB.out.size
   have lE := HLT.out
   have lw0 := HI.out.hb.size
   have nsr : gs ≠ gr := blk_ne BKgs.out BKgr.out (by decide)
   have hinv6 : Inv91 E s gs (w3.heap.size + 1 + 1) (w3.heap.size + 1) (fun k => A k ∨ k = gr) w6 := by
    refine ⟨(HI.out.imp (A' := fun k => A k ∨ k = gr) (fun k hk => ?_)).step (KB.of_below hbw6 _), ?_, ?_, ?_, xgs6, xw6, ⟨#[], 0, [], xm6, rfl, by simp, fun i k e h _ => by simp at h, fun k hk => hk.elim⟩, by omega, by omega⟩
    ·
     rcases hk with hk | hk
     ·
      exact ⟨HI.out.lo k hk, .inl hk⟩
     ·
      exact ⟨by omega, .inr (by omega)⟩
    ·
     rintro (hk | hk)
     ·
      have := hA _ hk
      omega
     ·
      exact nsr hk
    ·
     rintro (hk | hk)
     ·
      have := hA _ hk
      omega
     ·
      omega
    ·
     rintro (hk | hk)
     ·
      have := hA _ hk
      omega
     ·
      omega
   have l6 : w3.heap.size + 3 ≤ w6.heap.size := by have := hb6.size; omega
   have lBB := blk_lt hBB
   have hA6 : ∀ k, (A k ∨ k = gr) → k < w6.heap.size := fun k hk => by
    rcases hk with hk | hk
    ·
     have := hA k hk
     omega
    ·
     omega
   have hcall := greatest91_calls (p := fun x => x ∈ qaq s.r 5) (gf := 97) (lb := #[.pointer (some ⟨BB, 0, none⟩)]) (enters_of Try.func97 (by kernel_rfl) rfl) (Bn := BB) (w := w6) lBB (fun n hn => loops_stops n hn s.r HS.out.1.1 BB w6 hBB) (qaq s.r 5) (fun xs h => h)
    (Inv91.held (E := E) (s := s) (gs := gs) (gw := w3.heap.size + 1 + 1) (mw := w3.heap.size + 1) (B := w6.heap.size) (by omega) (by omega) (by omega)) (fun k => k = E.m ∨ k = w3.heap.size + 1) (fun k hk => by omega)
    (fun k => A k ∨ k = gr) (.pointer (some ⟨E.Bn, 0, none⟩)) (.pointer (some ⟨gs, 0, none⟩)) (.pointer (some ⟨E.Bd, 0, none⟩)) (.pointer (some ⟨E.Bs, 0, none⟩)) (.pointer (some ⟨w3.heap.size + 1 + 1, 0, none⟩)) (ofV E.l0 E.l2 E.D E.S s)
    (fun A' W' x hx hA' hi' => of91_calls E HE.out s HS.out gs _ _ HIH.out x hx A' W' hi' hA') hinv6 hA6
   refine hcall.mono ?_
   rintro e w7 ⟨rfl, i7, k7⟩
   have hg7 : w6.heap.size ≤ w7.heap.size := k7.size
   clear hcall hinv6 xgs6 xw6 xm6
   generalize hgm : g1 (ofV E.l0 E.l2 E.D E.S s) (qaq s.r 5) = g
   obtain ⟨ga, gb, gf⟩ := g
   try dsimp only
   have xgr7 := k7.blk xgr6 (by rintro (hk | hk) <;> omega)
   have hb8 := qag (Below.refl w7.heap.size w7) (.cells #[.slice none 0 0, .int .i64 gb, .bool gf] 97)
   have env8 : EnvInv E (fun k => A k ∨ k = gr ∨ k = w7.heap.size) (w7.alloc (.cells #[.slice none 0 0, .int .i64 gb, .bool gf] 97)) := by
    refine (i7.env.imp (fun k hk => ?_)).step (KB.of_below hb8 _)
    have := i7.env.hb.size
    rcases hk with hk | hk | hk
    ·
     exact ⟨HI.out.lo k hk, .inl (.inl hk)⟩
    ·
     exact ⟨by omega, .inl (.inr hk)⟩
    ·
     exact ⟨by omega, .inr (by omega)⟩
   have xgs8 := qae i7.xs hb8
   have xgr8 := qae xgr7 hb8
   have xt8 := blk_new w7 (.cells #[.slice none 0 0, .int .i64 gb, .bool gf] 97)
   have k67 : KB (fun k => k = E.m) w w7 := (KB.of_below hbw6 (fun k => k = E.m)).trans k7 (fun k hk => by
    rcases hk with hk | hk
    ·
     exact .inl hk
    ·
     exact .inr (by omega))
   have k8 := k67.then_below hb8
   have nrt : gr ≠ w7.heap.size := by omega
   have hS : E.S s = (if gf = true then sameV E.l0 E.l2 E.D E.S gb 5 (repV E.l0 E.l2 E.D s ga).1 [ga] else [], gb, gf) := by
    have h := HSE.out
    unfold stepV at h
    rw [if_neg hz] at h
    have hgm' : g1 (ofV E.l0 E.l2 E.D (bestV E.l0 E.l1 E.l2 E.D) s) (qaq s.r 5) = (ga, gb, gf) := hgm
    rw [hgm'] at h
    exact h
   have c8k : (w7.alloc (.cells #[.slice none 0 0, .int .i64 gb, .bool gf] 97)).cell? ⟨E.Bk, 0, none⟩ = some (.map (some E.m)) := qaa env8.xk 0
   have c8s0 : (w7.alloc (.cells #[.slice none 0 0, .int .i64 gb, .bool gf] 97)).cell? ⟨gs, 0, none⟩ = some (.int .i64 s.p) := qaa xgs8 0
   have c8s1 : (w7.alloc (.cells #[.slice none 0 0, .int .i64 gb, .bool gf] 97)).cell? ⟨gs, 1, none⟩ = some (.int .i64 s.h) := qaa xgs8 1
   have c8s2 : (w7.alloc (.cells #[.slice none 0 0, .int .i64 gb, .bool gf] 97)).cell? ⟨gs, 2, none⟩ = some (.int .i64 s.r) := qaa xgs8 2
   cases gf with
   | false =>
    simp only [Bool.false_eq_true, if_false] at hS
    have hpt := put_tail env8 HE.out.bm HS.out.1 (.slice none 0 0) (by rw [hS]; exact Kd.R_nil _ _ _ _ _)
    rw [hS] at hpt
    obtain ⟨w9, hrun, env9, row9, k9⟩ := hpt
    try dsimp only at hrun
    have nm : ∀ {g : Nat} {cs : Array Value} {t : TypeId}, (w7.alloc (.cells #[.slice none 0 0, .int .i64 gb, .bool false] 97)).heap[g]? = some (.cells cs t (0, 0)) → ¬ g = E.m := fun hg => env8.map.noCells hg
    have xt9 := k9.blk xt8 (nm xt8)
    have xr9 := k9.blk xgr8 (nm xgr8)
    have c9t0 : w9.cell? ⟨w7.heap.size, 0, none⟩ = some (.slice none 0 0) := qaa xt9 0
    have c9t1 : w9.cell? ⟨w7.heap.size, 1, none⟩ = some (.int .i64 gb) := qaa xt9 1
    have c9t2 : w9.cell? ⟨w7.heap.size, 2, none⟩ = some (.bool false) := qaa xt9 2
    have c9r0 : w9.cell? ⟨gr, 0, none⟩ = some (.slice none 0 0) := qaa xr9 0
    have c9r1 : w9.cell? ⟨gr, 1, none⟩ = some (.int .i64 0) := qaa xr9 1
    have c9r2 : w9.cell? ⟨gr, 2, none⟩ = some (.bool false) := qaa xr9 2
    have z9 : ∀ i, w9.frozen? ⟨gr, i, none⟩ = false := qac xr9
    have ENV9 := qab.mk env9
    have K89 := qab.mk (k8.trans k9 (fun k e => .inl e))
    have XR9 := qab.mk xr9
    clear env9 k9 k8 row9 nm xt9 xr9 env8 xgs8 xgr8 xt8 hb8 xgr7 k7 i7 hgm
    go_wp2_with fail
    refine bodyPost_ret (results_cell_row rfl _ _ gr 97 _ (0, 0) _ rfl (blk_set (blk_set (blk_set XR9.out 0 _) 1 _) 2 _) hu97 rfl (by kernel_rfl)) rfl ?_
    have kset : ∀ T : Nat → Prop, T gr → KB T w9 (((w9.setCell ⟨gr, 0, none⟩ (.slice none 0 0)).setCell ⟨gr, 1, none⟩ (.int .i64 gb)).setCell ⟨gr, 2, none⟩ (.bool false)) := fun T t1 => (((KB.refl T w9).set (p := ⟨gr, 0, none⟩) (.inl t1) _).set (p := ⟨gr, 1, none⟩) (.inl t1) _).set (p := ⟨gr, 2, none⟩) (.inl t1) _
    have hAA : ∀ k, A k → E.w0.heap.size ≤ k ∧ ((A k ∨ k = gr ∨ k = w7.heap.size) ∨ (((w9.setCell ⟨gr, 0, none⟩ (.slice none 0 0)).setCell ⟨gr, 1, none⟩ (.int .i64 gb)).setCell ⟨gr, 2, none⟩ (.bool false)).heap.size ≤ k) := fun k hk => ⟨HI.out.lo k hk, .inl (.inl hk)⟩
    refine ⟨.slice none 0 0, by rw [hS]; rfl, by rw [hS]; exact Kd.R_nil _ _ _ _ _, (ENV9.out.step (kset _ (.inr (.inl rfl)))).imp hAA, K89.out.trans (kset (fun k => w.heap.size ≤ k) GEgr) (fun k e => .inr e)⟩
   | true =>
    simp only [if_true] at hS
    have hm := g1_mem (ofV E.l0 E.l2 E.D E.S s) (qaq s.r 5) (by rw [hgm])
    rw [hgm] at hm
    have hy := ofV_yes E.l0 E.l2 E.D E.S s ga gb hm.2
    have hA8 : ∀ k, (A k ∨ k = gr ∨ k = w7.heap.size) → k < (w7.alloc (.cells #[.slice none 0 0, .int .i64 gb, .bool true] 97)).heap.size := fun k hk => by
     simp
     rcases hk with hk | hk | hk
     ·
      have := hA k hk
      omega
     ·
      omega
     ·
      omega
    have hsame := same_calls E HE.out s HS.out ga gb hm.1 hy.1 hy.2.2 (by have := hy.2.1; omega) HIH.out _ _ env8 hA8
    have c8n0 : (w7.alloc (.cells #[.slice none 0 0, .int .i64 gb, .bool true] 97)).cell? ⟨E.Bn, 0, none⟩ = some (.slice E.A0 E.l0.length E.c0) := qaa env8.xn 0
    have c8n1 : (w7.alloc (.cells #[.slice none 0 0, .int .i64 gb, .bool true] 97)).cell? ⟨E.Bn, 1, none⟩ = some (.slice E.A1 E.l1.length E.c1) := qaa env8.xn 1
    have c8n2 : (w7.alloc (.cells #[.slice none 0 0, .int .i64 gb, .bool true] 97)).cell? ⟨E.Bn, 2, none⟩ = some (.slice E.A2 E.l2.length E.c2) := qaa env8.xn 2
    have c8n3 : (w7.alloc (.cells #[.slice none 0 0, .int .i64 gb, .bool true] 97)).cell? ⟨E.Bn, 3, none⟩ = some (.int .i64 E.wp) := qaa env8.xn 3
    have c8d : (w7.alloc (.cells #[.slice none 0 0, .int .i64 gb, .bool true] 97)).cell? ⟨E.Bd, 0, none⟩ = some (.slice E.Ad E.D.length E.cd) := qaa env8.xd 0
    have c8s : (w7.alloc (.cells #[.slice none 0 0, .int .i64 gb, .bool true] 97)).cell? ⟨E.Bs, 0, none⟩ = some (SEARCHF E) := qaa env8.xs 0
    have HSAME := qab.mk hsame
    have ENV8 := qab.mk env8
    have XG8 := qab.mk xgs8
    have XR8 := qab.mk xgr8
    have XT8 := qab.mk xt8
    have K8 := qab.mk k8
    have HSS := qab.mk hS
    clear hsame env8 xgs8 xgr8 xt8 k8 hS hm hy hgm hA8 hb8 xgr7 k7 i7
    go_wp2_with fail
    refine HSAME.out.mono ?_
    rintro e w9 ⟨v, rfl, hrow, henv, hkb⟩
    obtain ⟨vA, vn, vc, rfl⟩ := R_shape hrow
    clear c8k c8s0 c8s1 c8s2 c8n0 c8n1 c8n2 c8n3 c8d c8s
    have nm : ∀ {g : Nat} {cs : Array Value} {t : TypeId}, (w7.alloc (.cells #[.slice none 0 0, .int .i64 gb, .bool true] 97)).heap[g]? = some (.cells cs t (0, 0)) → ¬ g = E.m := fun hg => ENV8.out.map.noCells hg
    have xt9 := hkb.blk XT8.out (nm XT8.out)
    have xg9 := hkb.blk XG8.out (nm XG8.out)
    have xr9 := hkb.blk XR8.out (nm XR8.out)
    have t9 : w9.cell? ⟨w7.heap.size, 0, none⟩ = some (.slice none 0 0) := qaa xt9 0
    have z9 : w9.frozen? ⟨w7.heap.size, 0, none⟩ = false := qac xt9 0
    have kst : KB (fun k => A k ∨ k = gr ∨ k = w7.heap.size) w9 (w9.setCell ⟨w7.heap.size, 0, none⟩ (.slice vA vn vc)) := (KB.refl _ w9).set (p := ⟨w7.heap.size, 0, none⟩) (.inl (.inr (.inr rfl))) _
    have kst2 : KB (fun k => w.heap.size ≤ k) w9 (w9.setCell ⟨w7.heap.size, 0, none⟩ (.slice vA vn vc)) := (KB.refl _ w9).set (p := ⟨w7.heap.size, 0, none⟩) (.inl (by show w.heap.size ≤ w7.heap.size; omega)) _
    have env10 := henv.step kst
    have row10 : E.Row (fun k => A k ∨ k = gr ∨ k = w7.heap.size) (w9.setCell ⟨w7.heap.size, 0, none⟩ (.slice vA vn vc)) (.slice vA vn vc) (E.S s).1 := by rw [HSS.out]; exact kst.R hrow (fun k hk => hk.2)
    have xt10 := blk_set xt9 0 (.slice vA vn vc)
    have nst : gs ≠ w7.heap.size := blk_ne xg9 xt9 (by decide)
    have xg10 := blk_far (p := ⟨w7.heap.size, 0, none⟩) xg9 nst (.slice vA vn vc)
    have xr10 := blk_far (p := ⟨w7.heap.size, 0, none⟩) xr9 nrt (.slice vA vn vc)
    have k10 := (K8.out.trans hkb (fun k e => .inl e)).trans kst2 (fun k e => .inr e)
    have hpt := put_tail env10 HE.out.bm HS.out.1 (.slice vA vn vc) row10
    rw [HSS.out] at hpt
    obtain ⟨w11, hrun, env11, row11, k11⟩ := hpt
    try dsimp only at hrun
    have nm2 : ∀ {g : Nat} {cs : Array Value} {t : TypeId}, (w9.setCell ⟨w7.heap.size, 0, none⟩ (.slice vA vn vc)).heap[g]? = some (.cells cs t (0, 0)) → ¬ g = E.m := fun hg => env10.map.noCells hg
    have xt11 := k11.blk xt10 (nm2 xt10)
    have xr11 := k11.blk xr10 (nm2 xr10)
    have d0 : (w9.setCell ⟨w7.heap.size, 0, none⟩ (.slice vA vn vc)).cell? ⟨E.Bk, 0, none⟩ = some (.map (some E.m)) := qaa env10.xk 0
    have d1 : (w9.setCell ⟨w7.heap.size, 0, none⟩ (.slice vA vn vc)).cell? ⟨gs, 0, none⟩ = some (.int .i64 s.p) := qaa xg10 0
    have d2 : (w9.setCell ⟨w7.heap.size, 0, none⟩ (.slice vA vn vc)).cell? ⟨gs, 1, none⟩ = some (.int .i64 s.h) := qaa xg10 1
    have d3 : (w9.setCell ⟨w7.heap.size, 0, none⟩ (.slice vA vn vc)).cell? ⟨gs, 2, none⟩ = some (.int .i64 s.r) := qaa xg10 2
    have d4 : (w9.setCell ⟨w7.heap.size, 0, none⟩ (.slice vA vn vc)).cell? ⟨w7.heap.size, 0, none⟩ = some (.slice vA vn vc) := qaa xt10 0
    have d5 : (w9.setCell ⟨w7.heap.size, 0, none⟩ (.slice vA vn vc)).cell? ⟨w7.heap.size, 1, none⟩ = some (.int .i64 gb) := qaa xt10 1
    have d6 : (w9.setCell ⟨w7.heap.size, 0, none⟩ (.slice vA vn vc)).cell? ⟨w7.heap.size, 2, none⟩ = some (.bool true) := qaa xt10 2
    have e0 : w11.cell? ⟨w7.heap.size, 0, none⟩ = some (.slice vA vn vc) := qaa xt11 0
    have e1 : w11.cell? ⟨w7.heap.size, 1, none⟩ = some (.int .i64 gb) := qaa xt11 1
    have e2 : w11.cell? ⟨w7.heap.size, 2, none⟩ = some (.bool true) := qaa xt11 2
    have e3 : w11.cell? ⟨gr, 0, none⟩ = some (.slice none 0 0) := qaa xr11 0
    have e4 : w11.cell? ⟨gr, 1, none⟩ = some (.int .i64 0) := qaa xr11 1
    have e5 : w11.cell? ⟨gr, 2, none⟩ = some (.bool false) := qaa xr11 2
    have z11 : ∀ i, w11.frozen? ⟨gr, i, none⟩ = false := qac xr11
    have ENV11 := qab.mk env11
    have K11 := qab.mk (k10.trans k11 (fun k e => .inl e))
    have XR11 := qab.mk xr11
    have ROW11 := qab.mk row11
    clear env11 k11 row11 xr11 xt11 nm nm2 k10 env10 row10 xt10 xg10 xr10 kst kst2 xt9 xg9 xr9 henv hkb hrow
    go_wp2_with fail
    refine bodyPost_ret (results_cell_row rfl _ _ gr 97 _ (0, 0) _ rfl (blk_set (blk_set (blk_set XR11.out 0 _) 1 _) 2 _) hu97 rfl (by kernel_rfl)) rfl ?_
    have kset : ∀ T : Nat → Prop, T gr → KB T w11 (((w11.setCell ⟨gr, 0, none⟩ (.slice vA vn vc)).setCell ⟨gr, 1, none⟩ (.int .i64 gb)).setCell ⟨gr, 2, none⟩ (.bool true)) := fun T t1 => (((KB.refl T w11).set (p := ⟨gr, 0, none⟩) (.inl t1) _).set (p := ⟨gr, 1, none⟩) (.inl t1) _).set (p := ⟨gr, 2, none⟩) (.inl t1) _
    have hAA : ∀ k, A k → E.w0.heap.size ≤ k ∧ ((A k ∨ k = gr ∨ k = w7.heap.size) ∨ (((w11.setCell ⟨gr, 0, none⟩ (.slice vA vn vc)).setCell ⟨gr, 1, none⟩ (.int .i64 gb)).setCell ⟨gr, 2, none⟩ (.bool true)).heap.size ≤ k) := fun k hk => ⟨HI.out.lo k hk, .inl (.inl hk)⟩
    refine ⟨.slice vA vn vc, by rw [HSS.out]; rfl, ?_, (ENV11.out.step (kset _ (.inr (.inl rfl)))).imp hAA, K11.out.trans (kset (fun k => w.heap.size ≤ k) GEgr) (fun k e => .inr e)⟩
    have hrr := (kset (fun k => A k ∨ k = gr ∨ k = w7.heap.size) (.inr (.inl rfl))).R ROW11.out (fun k hk => hk.2)
    rw [HSS.out]
    exact Kd.R_mono hrr (fun k hk => ⟨hk.1, fun ha => hk.2 (.inl ha)⟩)
theorem search_all (E : OE) (hE : E.Fit) : ∀ (c : Nat) (s : Sp), E.At s → cntB s.r ≤ c → SearchC E s := by
 intro c
 induction c with
 | zero => exact fun s hs hc => search_step E hE s hs (fun s' _ h => by omega)
 | succ c ih => exact fun s hs hc => search_step E hE s hs (fun s' hs' h => ih s' hs' (by omega))
theorem bit_low : (List.range 32).all (fun r => (List.range 5).all fun i => !(bitB r i) || decide (2 ^ i ≤ r)) = true := by kernel_rfl
theorem bit_le (r : Int) (h0 : 0 ≤ r) (h1 : r < 32) (k : Nat) (hk : k < 5) (hb : bitB r k = true) : (2 : Int) ^ k ≤ r := by
 obtain ⟨n, rfl⟩ := Int.eq_ofNat_of_zero_le h0
 have h := bit_low
 rw [List.all_eq_true] at h
 have h2 := h n (by simp; omega)
 rw [List.all_eq_true] at h2
 have h3 := h2 k (by simp; omega)
 rw [hb] at h3
 simp only [Bool.not_true, Bool.false_or, decide_eq_true_eq] at h3
 exact_mod_cast h3
theorem valid_lens {l0 : List S39} {l1 : List S37} {l2 : List (List Int)} (h : validB l0 l1 l2 = true) : l2.length = l0.length + 1 ∧ 1 ≤ l0.length ∧ l0.length ≤ 5 ∧ 1 ≤ l1.length ∧ l1.length ≤ 72 ∧ ∀ p : Int, 0 ≤ p → p ≤ l0.length → (rd_L1 l2 p).length = l0.length + 1 := by
 unfold validB inB at h
 simp only [Bool.and_eq_true, decide_eq_true_eq] at h
 obtain ⟨h1, h2, ⟨h3, h4⟩, ⟨h5, h6⟩, _⟩ := h
 refine ⟨by omega, by omega, by omega, by omega, by omega, fun p p0 p1 => ?_⟩
 unfold waysB at h2
 rw [List.all_eq_true] at h2
 have h7 := h2 p.toNat (by simp; omega)
 unfold rowB at h7
 simp only [Bool.and_eq_true, decide_eq_true_eq] at h7
 have h8 := h7.1
 unfold rd_L1
 omega
def duesV (l0 : List S39) (l1 : List S37) (l2 : List (List Int)) (wp : Int) (n : Nat) : List Int := (List.range n).map fun i : Nat => (pipe_net_due.f l0 l1 l2 wp (i : Int)).getD 0
theorem duesV_succ (l0 : List S39) (l1 : List S37) (l2 : List (List Int)) (wp : Int) (n : Nat) : duesV l0 l1 l2 wp (n + 1) = duesV l0 l1 l2 wp n ++ [(pipe_net_due.f l0 l1 l2 wp (n : Int)).getD 0] := by simp [duesV, List.range_succ]
theorem duesV_length (l0 : List S39) (l1 : List S37) (l2 : List (List Int)) (wp : Int) (n : Nat) : (duesV l0 l1 l2 wp n).length = n := by simp [duesV]
theorem due_some (l0 : List S39) (l1 : List S37) (l2 : List (List Int)) (wp : Int) (i : Int) (h0 : 0 ≤ i) (h1 : i < l0.length) (hw : 0 ≤ wp) (hn : l1.length ≤ 1000) : pipe_net_due.f l0 l1 l2 wp i = some ((pipe_net_due.f l0 l1 l2 wp i).getD 0) := by
 unfold pipe_net_due.f pipe_net_freezes.f
 rw [if_pos ⟨h0, h1, hw, hn⟩]
 simp only [Option.bind_some]
 split <;> rfl
def DInv (w W : World) (gb gr gd : Nat) (cb cr : Array Value) (v : Value) (xs : List Int) : Prop :=
 W.heap[gb]? = some (.cells cb 99 (0, 0)) ∧ W.heap[gr]? = some (.cells cr 97 (0, 0)) ∧ W.heap[gd]? = some (.cells #[v] 47 (0, 0)) ∧ Kd.R (Kd.int .i64) 3 W w.heap.size (fun _ => True) v xs ∧ Below w.heap.size w W ∧ w.heap.size ≤ gd
theorem DInv.below {w W W1 : World} {gb gr gd : Nat} {cb cr : Array Value} {v : Value} {xs : List Int} (h : DInv w W gb gr gd cb cr v xs) (hb : Below W.heap.size W W1) : DInv w W1 gb gr gd cb cr v xs := by
 obtain ⟨a, b, c, d, e, f⟩ := h
 exact ⟨qae a hb, qae b hb, qae c hb, Kd.R_below d hb, qad e hb, f⟩
theorem DInv.put {w W W1 : World} {gb gr gd : Nat} {cb cr : Array Value} {v v1 : Value} {xs : List Int} {x : Int} (h : DInv w W gb gr gd cb cr v xs) (ho : Kd.R (Kd.int .i64) 3 W1 w.heap.size (fun _ => True) v1 (xs ++ [x])) (hB : Below w.heap.size w W1) (hg : W.grownBy W1 v.ownBlock) : DInv w (W1.setCell ⟨gd, 0, none⟩ v1) gb gr gd cb cr v1 (xs ++ [x]) := by
 obtain ⟨a, b, c, d, e, f⟩ := h
 have a1 := blk_grown a hg (Kd.R_ne d a (by decide))
 have b1 := blk_grown b hg (Kd.R_ne d b (by decide))
 have c1 := blk_grown c hg (Kd.R_ne d c (by decide))
 exact ⟨blk_far a1 (p := ⟨gd, 0, none⟩) (blk_ne a c (by decide)) _, blk_far b1 (p := ⟨gd, 0, none⟩) (blk_ne b c (by decide)) _, blk_set c1 0 v1, Kd.R_set ho c1 (by decide) 0 v1, qai hB f, f⟩
theorem store_func (W : World) (g : Nat) (f : Fn) (a b : Array Value) (u : Value) (hc : W.cell? ⟨g, 0, none⟩ = some u) (hf : W.frozen? ⟨g, 0, none⟩ = false) : (store ⟨g, 0, none⟩ (.func f a b)).run Try.prog W = .ok () (W.setCell ⟨g, 0, none⟩ (.func f a b)) := by
 rw [run_store _ _ _ _ _ rfl]
 simp [stored, hc, hf]
def pipe_net_order.f (l0_0 : List (S39)) (l0_1 : List (S37)) (l0_2 : List (List Int)) (a0_3 : Int) (a1 : Int) (a2 : Int) : Option (List Int × Int × Bool) := if validB l0_0 l0_1 l0_2 = true ∧ 0 ≤ a0_3 ∧ 0 ≤ a1 ∧ a1 ≤ l0_0.length ∧ 0 ≤ a2 ∧ a2 < 2 ^ l0_0.length then some (bestV l0_0 l0_1 l0_2 (duesV l0_0 l0_1 l0_2 a0_3 l0_0.length) ⟨a1, 0, a2⟩) else none
theorem pipe_net_order.calls (A0_0 : Option Addr) (c0_0 : Nat) (l0_0 : List (S39)) (A0_1 : Option Addr) (c0_1 : Nat) (l0_1 : List (S37)) (A0_2 : Option Addr) (c0_2 : Nat) (l0_2 : List (List Int)) (a0_3 : Int) (a1 : Int) (a2 : Int) (r1 : List Int) (r2 : Int) (r3 : Bool) (w : World) (hr0_0 : Kd.C k39 w A0_0 l0_0.length l0_0) (hc0_0 : l0_0.length ≤ c0_0) (hr0_1 : Kd.C k37 w A0_1 l0_1.length l0_1) (hc0_1 : l0_1.length ≤ c0_1) (hr0_2 : Kd.C (Kd.slice 3 (Kd.int .i64)) w A0_2 l0_2.length l0_2) (hc0_2 : l0_2.length ≤ c0_2) (h : pipe_net_order.f l0_0 l0_1 l0_2 a0_3 a1 a2 = some (r1, r2, r3)) :
  Calls Try.prog 64 #[.agg #[.slice A0_0 l0_0.length c0_0, .slice A0_1 l0_1.length c0_1, .slice A0_2 l0_2.length c0_2, .int .i64 a0_3], .int .i64 a1, .int .i64 a2] w fun e w' => ∃ v0_ : Value, e = .returned (.agg #[v0_, .int .i64 r2, .bool r3]) ∧ Kd.R (Kd.int .i64) 3 w' w.heap.size (fun _ => True) v0_ r1 ∧ Below w.heap.size w w' := by
 unfold pipe_net_order.f at h
 split at h
 case isFalse => cases h
 rename_i hc
 have h' := Option.some.inj h
 clear h
 have HF := qab.mk h'
 clear h'
 obtain ⟨q0, q1, q2, q3, q4, q5⟩ := hc
 have HV := qab.mk (valid_lens q0)
 clear q0
 have HR0 := qab.mk hr0_0
 have HR1 := qab.mk hr0_1
 have HR2 := qab.mk hr0_2
 clear hr0_0 hr0_1 hr0_2
 have hu99 := Try.underlying99
 have hu97 := Try.underlying97
 have hmm := @run_makeMap Try.prog
 have hmf : ∀ (fn : Fn) (first cap : Array Value) (w : World), (Instr.makeFunc fn first cap).run Try.prog w = .ok (.func fn first cap) w := fun _ _ _ _ => rfl
 have HB := qab.mk (Below.refl w.heap.size w)
 go_enter Try.func64, Try.ntmps64
 go_wp2_with ((first | ((with_reducible refine qam (N := 3) rfl ?_); refine qal ?hg (N := 3) ?hd (cs := #[.slice A0_0 l0_0.length c0_0, .slice A0_1 l0_1.length c0_1, .slice A0_2 l0_2.length c0_2, .int .i64 a0_3]) (t := 99) ?hr ?_; (case hd => rfl); (case hg => rfl); (case hr => first | (go_simp; done) | (go_simp; rfl)); intro gb hg_gb w2 hbox hb; have BKgb := qab.mk hbox; have n_HB := qab.mk (qad HB.out hb); have GEgb : w.heap.size ≤ gb := (by rw [hg_gb]; exact HB.out.size); clear HB; have HB := n_HB; clear n_HB; clear hbox hb hg_gb) | ((with_reducible refine qam (N := 6) rfl ?_); refine qal ?hg (N := 6) ?hd (cs := #[.slice none 0 0, .int .i64 0, .bool false]) (t := 97) ?hr ?_; (case hd => rfl); (case hg => rfl); (case hr => first | (go_simp; done) | (go_simp; rfl)); intro gr hg_gr w3 hbox hb; have BKgr := qab.mk hbox; replace BKgb := qab.mk (qae BKgb.out hb); have n_HB := qab.mk (qad HB.out hb); have GEgr : w.heap.size ≤ gr := (by rw [hg_gr]; exact HB.out.size); clear HB; have HB := n_HB; clear n_HB; clear hbox hb hg_gr) | ((with_reducible refine qam (N := 7) rfl ?_); refine qal ?hg (N := 7) ?hd (cs := #[.slice none 0 0]) (t := 47) ?hr ?_; (case hd => rfl); (case hg => rfl); (case hr => first | (go_simp; done) | (go_simp; rfl)); intro gd hg_gd w4 hbox hb; have BKgd := qab.mk hbox; replace BKgb := qab.mk (qae BKgb.out hb); replace BKgr := qab.mk (qae BKgr.out hb); have n_HB := qab.mk (qad HB.out hb); have GEgd : w.heap.size ≤ gd := (by rw [hg_gd]; exact HB.out.size); clear HB; have HB := n_HB; clear n_HB; clear hbox hb hg_gd; obtain ⟨hfgb, hcgb_0, hcgb_1, hcgb_2, hcgb_3⟩ := qz4 BKgb.out; obtain ⟨hfgr, hcgr_0, hcgr_1, hcgr_2⟩ := qz3 BKgr.out; obtain ⟨hfgd, hcgd_0⟩ := qz1 BKgd.out)))
 clear hfgb hcgb_0 hcgb_1 hcgb_2 hcgb_3 hfgr hcgr_0 hcgr_1 hcgr_2 hfgd hcgd_0
 have hdi : qab (DInv w w4 gb gr gd #[.slice A0_0 l0_0.length c0_0, .slice A0_1 l0_1.length c0_1, .slice A0_2 l0_2.length c0_2, .int .i64 a0_3] #[.slice none 0 0, .int .i64 0, .bool false] (.slice none 0 0) []) := ⟨BKgb.out, BKgr.out, BKgd.out, Kd.R_nil _ _ _ _ _, HB.out, GEgd⟩
 clear BKgb BKgr BKgd HB
 go_loopw [8, 15] (fun s8 s15 wr_ => ∃ (k : Nat) (v_ : Value), k ≤ l0_0.length ∧ s15 = .int .i64 k ∧ qab (DInv w wr_ gb gr gd #[.slice A0_0 l0_0.length c0_0, .slice A0_1 l0_1.length c0_1, .slice A0_2 l0_2.length c0_2, .int .i64 a0_3] #[.slice none 0 0, .int .i64 0, .bool false] v_ (duesV l0_0 l0_1 l0_2 a0_3 k))) (fun _ s _ => l0_0.length - (intOf s).toNat)
 case atStart => exact ⟨0, _, by omega, rfl, hdi⟩
 case round =>
  clear hdi
  obtain ⟨wO, rfl⟩ : ∃ wo : World, wo = wr := ⟨_, rfl⟩
  obtain ⟨k, v_, hk, rfl, HI⟩ := hrel
  have HV1 := HV.out
  by_cases hlt : k < l0_0.length
  ·
   have hlt1 : (k : Int) < l0_0.length := by omega
   obtain ⟨vA, vn, vc, rfl⟩ := R_shape HI.out.2.2.2.1
   obtain ⟨dk, hdk⟩ : ∃ dk, dk = (pipe_net_due.f l0_0 l0_1 l0_2 a0_3 (k : Int)).getD 0 := ⟨_, rfl⟩
   have HDK := qab.mk hdk
   clear hdk
   have hdue : ∀ W, Below w.heap.size w W → Calls Try.prog 89 #[.agg #[.slice A0_0 l0_0.length c0_0, .slice A0_1 l0_1.length c0_1, .slice A0_2 l0_2.length c0_2, .int .i64 a0_3], .int .i64 k] W fun e w' => e = .returned (.int .i64 dk) ∧ Below W.heap.size W w' := fun W hW =>
    pipe_net_due.calls _ _ _ _ _ _ _ _ _ a0_3 k dk W (Kd.qak HR0.out hW) hc0_0 (Kd.qak HR1.out hW) hc0_1 (Kd.qak HR2.out hW) hc0_2 (by rw [HDK.out]; exact due_some _ _ _ _ _ (by omega) hlt1 q1 (by omega))
   have HDUE := qab.mk hdue
   clear hdue
   have htup : ∀ W, W.heap[gb]? = some (.cells #[.slice A0_0 l0_0.length c0_0, .slice A0_1 l0_1.length c0_1, .slice A0_2 l0_2.length c0_2, .int .i64 a0_3] 99 (0, 0)) → W.cell? ⟨gd, 0, none⟩ = some (.slice vA vn vc) → Below w.heap.size w W → W.cell? ⟨gb, 0, none⟩ = some (.slice A0_0 l0_0.length c0_0) ∧ W.cell? ⟨gb, 1, none⟩ = some (.slice A0_1 l0_1.length c0_1) ∧ W.cell? ⟨gb, 2, none⟩ = some (.slice A0_2 l0_2.length c0_2) ∧ W.cell? ⟨gb, 3, none⟩ = some (.int .i64 a0_3) ∧ W.cell? ⟨gd, 0, none⟩ = some (.slice vA vn vc) ∧ qab (Below w.heap.size w W) := fun W h hd hb =>
    ⟨qaa h 0, qaa h 1, qaa h 2, qaa h 3, hd, ⟨hb⟩⟩
   have hd0 := HI.out.below (below_drew (Below.refl wO.heap.size wO))
   have hgd0 : wO.drew.cell? ⟨gd, 0, none⟩ = some (.slice vA vn vc) := qaa hd0.2.2.1 0
   have HD0 := qab.mk hd0
   have HT := qab.mk htup
   have hk5 : k ≤ 5 := by omega
   clear htup HV1 hd0
   go_upto_region 5 with fail
   refine start_ (n := 7) (S := fun w' => w'.cell? ⟨gb, 0, none⟩ = some (.slice A0_0 l0_0.length c0_0) ∧ w'.cell? ⟨gb, 1, none⟩ = some (.slice A0_1 l0_1.length c0_1) ∧ w'.cell? ⟨gb, 2, none⟩ = some (.slice A0_2 l0_2.length c0_2) ∧ w'.cell? ⟨gb, 3, none⟩ = some (.int .i64 a0_3) ∧ w'.cell? ⟨gd, 0, none⟩ = some (.slice vA vn vc) ∧ qab (Below w.heap.size w w')) (ds := [6]) (msk 7 0) (by kernel_rfl) rfl rfl (HT.out wO.drew HD0.out.1 hgd0 HD0.out.2.2.2.2.1) (fun hHeld => ?_)
   refine take_ (i := 0) (N := some 18) (v := ?_) (a' := ?_) (msk 7 1) rfl rfl (by kernel_rfl) (fun _ _ _ h => h) (Or.inl ⟨by rfl, ?_⟩) hHeld ?_ ?_; rotate_left; (focus (rintro w' ⟨s0, s1, s2, s3, s4, s5⟩; go_simp; with_reducible rfl)); rotate_left; (focus (simp only [Act.put, qzA, qzB, qzC, i64_w, i32_w]; rfl))
   refine take_ (i := 1) (N := some 19) (v := ?_) (a' := ?_) (msk 7 2) rfl rfl (by kernel_rfl) (fun _ _ _ h => h) (Or.inl ⟨by rfl, ?_⟩) hHeld ?_ ?_; rotate_left; (focus (rintro w' ⟨s0, s1, s2, s3, s4, s5⟩; go_simp; with_reducible rfl)); rotate_left; (focus (simp only [Act.put, qzA, qzB, qzC, i64_w, i32_w]; rfl))
   refine pure_ (i := 2) (N := some 20) (v := ?_) (a' := ?_) (msk 7 3) rfl rfl (by kernel_rfl) (fun _ _ _ h => h) (Or.inl ⟨by rfl, ?_⟩) ?_ ?_; rotate_left; (focus (intro w'; go_simp; with_reducible rfl)); rotate_left; (focus (simp only [Act.put, qzA, qzB, qzC, i64_w, i32_w]; rfl))
   refine one_ (i := 3) (N := some 21) (msk 7 4) rfl rfl (by kernel_rfl) (by decide) (fun K hK => ?_)
   refine goes_ Try.func89 (by kernel_rfl) rfl #[.agg #[.slice A0_0 l0_0.length c0_0, .slice A0_1 l0_1.length c0_1, .slice A0_2 l0_2.length c0_2, .int .i64 a0_3], .int .i64 k] (by rfl) rfl rfl (by first | rfl | (simp only [List.map_toArray, List.map_cons, List.map_nil]; rfl)) ?_
   refine (HDUE.out _ hHeld.2.2.2.2.2.out).mono ?_; rintro e w5 ⟨rfl, hb⟩; have hd5 := DInv.below HD0.out hb; have HD5 := qab.mk hd5; clear hd5 hb; refine ⟨_, rfl, ?_⟩; refine hK.out _ _ (HT.out w5 HD5.out.1 (qaa HD5.out.2.2.1 0) HD5.out.2.2.2.2.1) (fun hHeld => ?_); clear hK K; refine norm_ (a' := ?_) ?_ ?_; rotate_left; (focus (show Act.put _ (some 21) _ = _; simp only [Act.put, qzA, qzB, qzC, i64_w, i32_w]; rfl))
   refine one_ (i := 4) (N := some 22) (msk 7 5) rfl rfl (by kernel_rfl) (by decide) (fun K hK => ?_)
   refine value_ (w1 := ?_) (v := ?_) (by rfl) rfl ?_ ?_; rotate_left 2; (focus (go_simp; constructor; rfl; rfl))
   have hd6 := HD5.out.below (qag (Below.refl w5.heap.size w5) (.cells #[.int .i64 dk] 3)); have HD6 := qab.mk hd6; clear hd6
   refine hK.out _ _ (HT.out _ HD6.out.1 (qaa HD6.out.2.2.1 0) HD6.out.2.2.2.2.1) (fun hHeld => ?_); clear hK K; refine norm_ (a' := ?_) ?_ ?_; rotate_left; (focus (show Act.put _ (some 22) _ = _; simp only [Act.put, qzA, qzB, qzC, i64_w, i32_w]; rfl))
   refine one_ (i := 5) (N := some 23) (msk 7 6) rfl rfl (by kernel_rfl) (by decide) (fun K hK => ?_)
   refine Kd.R_append_step (Kd.int .i64) (w0 := w) (W := w5) w.heap.size (by rfl) (.tmp 18) (.tmp 22) 47 3 (.int .i64 0) 8 (by rfl) Try.underlying47 info3 rfl (by decide) (by omega) (.slice vA vn vc) (duesV l0_0 l0_1 l0_2 a0_3 k) dk [.int .i64 dk] (fun _ => True) (fun _ => False) (by rfl) (by rfl) rfl (fun _ h => h.elim) (fun _ _ => trivial) HD5.out.2.2.2.1 HD5.out.2.2.2.2.1 HD5.out.2.2.2.2.1.size (by rw [duesV_length]; omega) ?_; intro v6 w6 ho hB hg hat; obtain ⟨uA, un, uc, rfl⟩ := R_shape ho; have hbg := blk_grown HD5.out.1 hg (Kd.R_ne HD5.out.2.2.2.1 HD5.out.1 (by decide)); have hbd := blk_grown HD5.out.2.2.1 hg (Kd.R_ne HD5.out.2.2.2.1 HD5.out.2.2.1 (by decide)); have hgd7 : w6.cell? ⟨gd, 0, none⟩ = some (.slice vA vn vc) := qaa hbd 0; have hfd7 : w6.frozen? ⟨gd, 0, none⟩ = false := qac hbd 0; have hd7 := HD5.out.put ho hB hg; have HD7 := qab.mk hd7; have HS3 := qab.mk (HT.out w6 hbg hgd7 hB); clear ho hB hg hat hbg hbd hd7
   refine hK.out _ _ HS3.out (fun hHeld => ?_); clear hK K; refine norm_ (a' := ?_) ?_ ?_; rotate_left; (focus (show Act.put _ (some 23) _ = _; simp only [Act.put, qzA, qzB, qzC, i64_w, i32_w]; rfl))
   refine last_ (i := 6) (N := none) (msk 7 7) rfl rfl (by kernel_rfl) (by decide) (fun K hK => ?_)
   refine skip_ (w1 := ?_) (by rfl) rfl ?_ ?_; rotate_left; (focus (go_simp; rfl))
   refine hK.out _ _ ?_; clear hK K hHeld; refine done_ (by kernel_rfl) ?_
   clear HD0 HD5 HD6 HS3 HT hgd0 hgd7 hfd7
   try go_wp2_with fail
   go_roundw
   case rel => exact ⟨k + 1, _, by omega, by go_num, ⟨by rw [duesV_succ, ← HDK.out]; exact HD7.out⟩⟩
   case measure => simp [intOf]; omega
  ·
   obtain rfl : k = l0_0.length := by omega
   obtain ⟨vA, vn, vc, rfl⟩ := R_shape HI.out.2.2.2.1
   have hstf := fun (W : World) (g : Nat) (f : Fn) (a b : Array Value) (hc : W.cell? ⟨g, 0, none⟩ = some .nilFunc) (hf : W.frozen? ⟨g, 0, none⟩ = false) => store_func W g f a b .nilFunc hc hf
   go_wp2_with fail
   have HE5 : qab (l0_0.length ≤ 5) := ⟨HV1.2.2.1⟩
   have hvn := (Kd.R_reads' HI.out.2.2.2.1).1
   subst hvn
   obtain ⟨E, hEe⟩ : ∃ E : OE, E = { w0 := w, A0 := A0_0, c0 := c0_0, l0 := l0_0, A1 := A0_1, c1 := c0_1, l1 := l0_1, A2 := A0_2, c2 := c0_2, l2 := l0_2, wp := a0_3, Bn := gb, Bk := wO.heap.size + 1, Bd := gd, Bs := wO.heap.size + 1 + 1, m := wO.heap.size, Ad := vA, cd := vc, D := duesV l0_0 l0_1 l0_2 a0_3 l0_0.length } := ⟨_, rfl⟩
   have hDO := HI.out
   have lO : w.heap.size ≤ wO.heap.size := hDO.2.2.2.2.1.size
   have hE : E.Fit := by
    subst hEe
    exact ⟨HR0.out, HR1.out, HR2.out, HV1.2.2.1, duesV_length _ _ _ _ _, HV1.1, HV1.2.2.2.2.2, GEgb, by show w.heap.size ≤ wO.heap.size + 1; omega, GEgd, by show w.heap.size ≤ wO.heap.size + 1 + 1; omega, lO⟩
   have hAt : E.At ⟨a1, 0, a2⟩ := by
    subst hEe
    have h32 : (2 : Int) ^ l0_0.length ≤ 32 := by
     have h := Nat.pow_le_pow_right (n := 2) (by decide) HV1.2.2.1
     have : ((2 ^ l0_0.length : Nat) : Int) ≤ ((2 ^ 5 : Nat) : Int) := Int.ofNat_le.2 h
     simpa using this
    refine ⟨⟨q4, by show a2 < 32; omega⟩, q2, q3, fun i hi => ?_⟩
    obtain ⟨k, rfl, hk, hb⟩ := (mem_loopsOf a2 5 i).1 hi
    have h1 := bit_le a2 q4 (by omega) k hk hb
    rcases Nat.lt_or_ge k l0_0.length with h2 | h2
    ·
     show (k : Int) < l0_0.length
     omega
    ·
     exfalso
     have h3 := Nat.pow_le_pow_right (n := 2) (by decide) h2
     have h4 : ((2 ^ l0_0.length : Nat) : Int) ≤ ((2 ^ k : Nat) : Int) := Int.ofNat_le.2 h3
     simp at h4
     omega
   obtain ⟨w5, hw5, bm5, bk5, bs5, hsz5, hb5⟩ := allocs3 wO (.map #[] 0) (.cells #[.map (some wO.heap.size)] 120) (.cells #[.func (.func 90) #[] #[.pointer (some ⟨gb, 0, none⟩), .pointer (some ⟨wO.heap.size + 1, 0, none⟩), .pointer (some ⟨gd, 0, none⟩), .pointer (some ⟨wO.heap.size + 1 + 1, 0, none⟩)]] 121)
   rw [hw5]
   clear hw5
   have hD5 := hDO.below hb5
   have lgr := blk_lt hDO.2.1
   have lgb := blk_lt hDO.1
   have lgd := blk_lt hDO.2.2.1
   have henv : EnvInv E (fun k => k = gr) w5 := by
    subst hEe
    refine ⟨blk_ne hD5.1 hD5.2.1 (by decide), by show ¬ wO.heap.size + 1 = gr; omega, blk_ne hD5.2.2.1 hD5.2.1 (by decide), by show ¬ wO.heap.size + 1 + 1 = gr; omega, by show ¬ wO.heap.size = gr; omega, fun k hk => by show w.heap.size ≤ k; omega, hD5.1, bk5, hD5.2.2.1, bs5, hD5.2.2.2.2.1, ?_, ⟨#[], 0, [], bm5, rfl, by simp, fun i k e h _ => by simp at h, fun k hk => hk.elim⟩⟩
    have hr1 := Kd.R_types (Kd.R_mono (Kd.R_bound hDO.2.2.2.1) (ok' := fun k => k < wO.heap.size) (fun k hk => hk.2.2.1)) hDO.2.1 (by decide)
    exact Kd.R_mono (Kd.R_below hr1 hb5) (fun k hk => ⟨by show ¬ k = wO.heap.size; omega, hk.2⟩)
   have hcall := search_all E hE 5 ⟨a1, 0, a2⟩ hAt (cnt_le _) (fun k => k = gr) w5 henv (fun k hk => by omega)
   have hS : E.S ⟨a1, 0, a2⟩ = (r1, r2, r3) := by subst hEe; exact HF.out
   rw [hS] at hcall
   subst hEe
   refine hcall.mono ?_
   rintro e w7 ⟨v, rfl, hrow, henv7, hkb⟩
   obtain ⟨uA, un, uc, rfl⟩ := R_shape hrow
   have xr7 := hkb.blk hD5.2.1 (by show ¬ gr = wO.heap.size; omega)
   have hb7 : Below w.heap.size w w7 := henv7.hb
   have ROW := qab.mk hrow
   have XR := qab.mk xr7
   have HB7 := qab.mk hb7
   have z7 : ∀ i, w7.frozen? ⟨gr, i, none⟩ = false := qac xr7
   have c70 : w7.cell? ⟨gr, 0, none⟩ = some (.slice none 0 0) := qaa xr7 0
   have c71 : w7.cell? ⟨gr, 1, none⟩ = some (.int .i64 0) := qaa xr7 1
   have c72 : w7.cell? ⟨gr, 2, none⟩ = some (.bool false) := qaa xr7 2
   clear hcall hrow henv7 hkb xr7 hb7 henv hE hAt hS hstf hDO hD5 HV1 bm5 bk5 bs5 hb5
   go_wp2_with fail
   refine bodyPost_ret (results_cell_row rfl _ _ gr 97 _ (0, 0) _ rfl (blk_set (blk_set (blk_set XR.out 0 _) 1 _) 2 _) hu97 rfl (by kernel_rfl)) rfl ?_
   refine ⟨.slice uA un uc, rfl, ?_, qai (qai (qai HB7.out GEgr) GEgr) GEgr⟩
   exact Kd.R_mono (Kd.R_set (Kd.R_set (Kd.R_set ROW.out XR.out (by decide) 0 _) (blk_set XR.out 0 _) (by decide) 1 _) (blk_set (blk_set XR.out 0 _) 1 _) (by decide) 2 _) (fun _ _ => trivial)
def faultB (l0 : List S39) (f : Int) : Bool := inB f 0 (wrap64 (shl .i64 1 (l0.length : Int) - 1))
theorem fault_some (l0 : List S39) (l1 : List S37) (l2 : List (List Int)) (f : Int) : pipe_fault.f l0 l1 l2 f = some (faultB l0 f) := by
 unfold pipe_fault.f faultB
 rw [pipe_in_eq]
 rfl
theorem place_some (l0 : List S39) (l1 : List S37) (l2 : List (List Int)) (a : Int) : pipe_place.f l0 l1 l2 a = some (inB a 0 l0.length) := by
 unfold pipe_place.f
 rw [pipe_in_eq]
 rfl
def pipe_Order.f (k : Nat) (l0_0 : List (S39)) (l0_1 : List (S37)) (l0_2 : List (List Int)) (a1 : Int) (a2 : Int) : Option (List Int × Int × Int) := if (validB l0_0 l0_1 l0_2 && (inB a1 0 l0_0.length && faultB l0_0 a2)) = true then (pipe_net_order.f l0_0 l0_1 l0_2 0 a1 a2).bind fun o => some (if o.2.2 = true then (o.1, o.2.1, 0) else ([], 0, 5)) else some ([], 0, 2)
theorem pipe_Order.calls (k : Nat) (A0_0 : Option Addr) (c0_0 : Nat) (l0_0 : List (S39)) (A0_1 : Option Addr) (c0_1 : Nat) (l0_1 : List (S37)) (A0_2 : Option Addr) (c0_2 : Nat) (l0_2 : List (List Int)) (a1 : Int) (a2 : Int) (r1 : List Int) (r2 : Int) (r3 : Int) (w : World) (hr0_0 : Kd.C k39 w A0_0 l0_0.length l0_0) (hc0_0 : l0_0.length ≤ c0_0) (hr0_1 : Kd.C k37 w A0_1 l0_1.length l0_1) (hc0_1 : l0_1.length ≤ c0_1) (hr0_2 : Kd.C (Kd.slice 3 (Kd.int .i64)) w A0_2 l0_2.length l0_2) (hc0_2 : l0_2.length ≤ c0_2) (h : pipe_Order.f k l0_0 l0_1 l0_2 a1 a2 = some (r1, r2, r3)) :
  Calls Try.prog 24 #[.agg #[.slice A0_0 l0_0.length c0_0, .slice A0_1 l0_1.length c0_1, .slice A0_2 l0_2.length c0_2], .int .i64 a1, .int .i64 a2] w fun e w' => ∃ v0_ : Value, e = .returned (.tuple #[v0_, .int .i64 r2, .int .i64 r3]) ∧ Kd.R (Kd.int .i64) 3 w' w.heap.size (fun _ => True) v0_ r1 ∧ Below w.heap.size w w' := by
 unfold pipe_Order.f at h
 have hu26 := Try.underlying26
 have hu99 := Try.underlying99
 have hu97 := Try.underlying97
 have HB := qab.mk (Below.refl w.heap.size w)
 have HR0 := qab.mk hr0_0
 have HR1 := qab.mk hr0_1
 have HR2 := qab.mk hr0_2
 clear hr0_0 hr0_1 hr0_2
 have HVAL : qab (∀ W, Below w.heap.size w W → Calls Try.prog 54 #[.agg #[.slice A0_0 l0_0.length c0_0, .slice A0_1 l0_1.length c0_1, .slice A0_2 l0_2.length c0_2]] W fun e w' => e = .returned (.bool (validB l0_0 l0_1 l0_2)) ∧ Below W.heap.size W w') := ⟨fun W hW =>
  pipe_valid.calls _ _ _ _ _ _ _ _ _ _ W (Kd.qak HR0.out hW) hc0_0 (Kd.qak HR1.out hW) hc0_1 (Kd.qak HR2.out hW) hc0_2 rfl⟩
 have HPL : qab (∀ W, Below w.heap.size w W → Calls Try.prog 62 #[.agg #[.slice A0_0 l0_0.length c0_0, .slice A0_1 l0_1.length c0_1, .slice A0_2 l0_2.length c0_2], .int .i64 a1] W fun e w' => e = .returned (.bool (inB a1 0 l0_0.length)) ∧ Below W.heap.size W w') := ⟨fun W hW =>
  pipe_place.calls _ _ _ _ _ _ _ _ _ _ _ W (Kd.qak HR0.out hW) hc0_0 (Kd.qak HR1.out hW) hc0_1 (Kd.qak HR2.out hW) hc0_2 (place_some _ _ _ _)⟩
 have HFL : qab (∀ W, Below w.heap.size w W → Calls Try.prog 63 #[.agg #[.slice A0_0 l0_0.length c0_0, .slice A0_1 l0_1.length c0_1, .slice A0_2 l0_2.length c0_2], .int .i64 a2] W fun e w' => e = .returned (.bool (faultB l0_0 a2)) ∧ Below W.heap.size W w') := ⟨fun W hW =>
  pipe_fault.calls _ _ _ _ _ _ _ _ _ _ _ W (Kd.qak HR0.out hW) hc0_0 (Kd.qak HR1.out hW) hc0_1 (Kd.qak HR2.out hW) hc0_2 (fault_some _ _ _ _)⟩
 obtain ⟨b1, e1⟩ : ∃ b, b = validB l0_0 l0_1 l0_2 := ⟨_, rfl⟩
 obtain ⟨b2, e2⟩ : ∃ b, b = inB a1 0 l0_0.length := ⟨_, rfl⟩
 obtain ⟨b3, e3⟩ : ∃ b, b = faultB l0_0 a2 := ⟨_, rfl⟩
 rw [← e1] at HVAL h
 rw [← e2] at HPL h
 rw [← e3] at HFL h
 clear e1 e2 e3
 cases b1 with
 | false =>
  rw [if_neg (by simp)] at h
  cases h
  go_enter Try.func24, Try.ntmps24
  go_wp2_with (first | (with_reducible refine qam (N := 3) rfl ?_); refine qal ?hg (N := 3) ?hd (cs := #[.slice A0_0 l0_0.length c0_0, .slice A0_1 l0_1.length c0_1, .slice A0_2 l0_2.length c0_2]) (t := 26) ?hr ?_; (case hd => rfl); (case hg => rfl); (case hr => first | (go_simp; done) | (go_simp; rfl)); intro gb hg_gb w2 hbox hb; have BKgb := qab.mk hbox; have n_HB := qab.mk (qad HB.out hb); have GEgb : w.heap.size ≤ gb := (by rw [hg_gb]; exact HB.out.size); clear HB; have HB := n_HB; clear n_HB; obtain ⟨hfgb, hcgb_0, hcgb_1, hcgb_2⟩ := qz3 BKgb.out; clear hbox hb hg_gb | (go_at_call 54; with_reducible refine (HVAL.out _ HB.out).mono ?_; rintro e w3 ⟨rfl, hb⟩; replace BKgb := qab.mk (qae BKgb.out hb); replace HB := qab.mk (qad HB.out hb); clear hb; obtain ⟨hfgb, hcgb_0, hcgb_1, hcgb_2⟩ := qz3 BKgb.out))
  go_ret3
  exact ⟨_, rfl, Kd.R_nil _ _ _ _ _, HB.out⟩
 | true =>
  cases b2 with
  | false =>
   rw [if_neg (by simp)] at h
   cases h
   go_enter Try.func24, Try.ntmps24
   go_wp2_with (first | (with_reducible refine qam (N := 3) rfl ?_); refine qal ?hg (N := 3) ?hd (cs := #[.slice A0_0 l0_0.length c0_0, .slice A0_1 l0_1.length c0_1, .slice A0_2 l0_2.length c0_2]) (t := 26) ?hr ?_; (case hd => rfl); (case hg => rfl); (case hr => first | (go_simp; done) | (go_simp; rfl)); intro gb hg_gb w2 hbox hb; have BKgb := qab.mk hbox; have n_HB := qab.mk (qad HB.out hb); have GEgb : w.heap.size ≤ gb := (by rw [hg_gb]; exact HB.out.size); clear HB; have HB := n_HB; clear n_HB; obtain ⟨hfgb, hcgb_0, hcgb_1, hcgb_2⟩ := qz3 BKgb.out; clear hbox hb hg_gb | (go_at_call 54; with_reducible refine (HVAL.out _ HB.out).mono ?_; rintro e w3 ⟨rfl, hb⟩; replace BKgb := qab.mk (qae BKgb.out hb); replace HB := qab.mk (qad HB.out hb); clear hb; obtain ⟨hfgb, hcgb_0, hcgb_1, hcgb_2⟩ := qz3 BKgb.out) | (go_at_call 62; with_reducible refine (HPL.out _ HB.out).mono ?_; rintro e w4 ⟨rfl, hb⟩; replace BKgb := qab.mk (qae BKgb.out hb); replace HB := qab.mk (qad HB.out hb); clear hb; obtain ⟨hfgb, hcgb_0, hcgb_1, hcgb_2⟩ := qz3 BKgb.out))
   go_ret3
   exact ⟨_, rfl, Kd.R_nil _ _ _ _ _, HB.out⟩
  | true =>
  cases b3 with
  | false =>
   rw [if_neg (by simp)] at h
   cases h
   go_enter Try.func24, Try.ntmps24
   go_wp2_with (first | (with_reducible refine qam (N := 3) rfl ?_); refine qal ?hg (N := 3) ?hd (cs := #[.slice A0_0 l0_0.length c0_0, .slice A0_1 l0_1.length c0_1, .slice A0_2 l0_2.length c0_2]) (t := 26) ?hr ?_; (case hd => rfl); (case hg => rfl); (case hr => first | (go_simp; done) | (go_simp; rfl)); intro gb hg_gb w2 hbox hb; have BKgb := qab.mk hbox; have n_HB := qab.mk (qad HB.out hb); have GEgb : w.heap.size ≤ gb := (by rw [hg_gb]; exact HB.out.size); clear HB; have HB := n_HB; clear n_HB; obtain ⟨hfgb, hcgb_0, hcgb_1, hcgb_2⟩ := qz3 BKgb.out; clear hbox hb hg_gb | (go_at_call 54; with_reducible refine (HVAL.out _ HB.out).mono ?_; rintro e w3 ⟨rfl, hb⟩; replace BKgb := qab.mk (qae BKgb.out hb); replace HB := qab.mk (qad HB.out hb); clear hb; obtain ⟨hfgb, hcgb_0, hcgb_1, hcgb_2⟩ := qz3 BKgb.out) | (go_at_call 62; with_reducible refine (HPL.out _ HB.out).mono ?_; rintro e w4 ⟨rfl, hb⟩; replace BKgb := qab.mk (qae BKgb.out hb); replace HB := qab.mk (qad HB.out hb); clear hb; obtain ⟨hfgb, hcgb_0, hcgb_1, hcgb_2⟩ := qz3 BKgb.out) | (go_at_call 63; with_reducible refine (HFL.out _ HB.out).mono ?_; rintro e w5 ⟨rfl, hb⟩; replace BKgb := qab.mk (qae BKgb.out hb); replace HB := qab.mk (qad HB.out hb); clear hb; obtain ⟨hfgb, hcgb_0, hcgb_1, hcgb_2⟩ := qz3 BKgb.out))
   go_ret3
   exact ⟨_, rfl, Kd.R_nil _ _ _ _ _, HB.out⟩
  | true =>
   rw [if_pos (by decide)] at h
   obtain ⟨o, ho, h⟩ := Option.bind_eq_some_iff.1 h
   obtain ⟨o1, o2, o3⟩ := o
   have HH := qab.mk h
   have HNO : qab (∀ W, Below w.heap.size w W → _) := ⟨fun W hW => pipe_net_order.calls _ _ l0_0 _ _ l0_1 _ _ l0_2 0 a1 a2 o1 o2 o3 W (Kd.qak HR0.out hW) hc0_0 (Kd.qak HR1.out hW) hc0_1 (Kd.qak HR2.out hW) hc0_2 ho⟩
   clear h ho
   go_enter Try.func24, Try.ntmps24
   go_upto_region 4 with (first | (with_reducible refine qam (N := 3) rfl ?_); refine qal ?hg (N := 3) ?hd (cs := #[.slice A0_0 l0_0.length c0_0, .slice A0_1 l0_1.length c0_1, .slice A0_2 l0_2.length c0_2]) (t := 26) ?hr ?_; (case hd => rfl); (case hg => rfl); (case hr => first | (go_simp; done) | (go_simp; rfl)); intro gb hg_gb w2 hbox hb; have BKgb := qab.mk hbox; have n_HB := qab.mk (qad HB.out hb); have GEgb : w.heap.size ≤ gb := (by rw [hg_gb]; exact HB.out.size); clear HB; have HB := n_HB; clear n_HB; obtain ⟨hfgb, hcgb_0, hcgb_1, hcgb_2⟩ := qz3 BKgb.out; clear hbox hb hg_gb | (with_reducible refine qam (N := 9) rfl ?_); refine qal ?hg (N := 9) ?hd (cs := #[.slice none 0 0, .int .i64 0, .bool false]) (t := 97) ?hr ?_; (case hd => rfl); (case hg => rfl); (case hr => first | (go_simp; done) | (go_simp; rfl)); intro g9 hg_g9 w7 hbox hb; replace HO := qab.mk (Kd.R_below HO.out hb); have BKg9 := qab.mk hbox; replace BKgb := qab.mk (qae BKgb.out hb); have n_HB := qab.mk (qad HB.out hb); have GEg9 : w.heap.size ≤ g9 := (by rw [hg_g9]; exact HB.out.size); clear HB; have HB := n_HB; clear n_HB; obtain ⟨hfg9, hcg9_0, hcg9_1, hcg9_2⟩ := qz3 BKg9.out; clear hbox hb hg_g9 | (go_at_call 54; with_reducible refine (HVAL.out _ HB.out).mono ?_; rintro e w3 ⟨rfl, hb⟩; replace BKgb := qab.mk (qae BKgb.out hb); replace HB := qab.mk (qad HB.out hb); clear hb; obtain ⟨hfgb, hcgb_0, hcgb_1, hcgb_2⟩ := qz3 BKgb.out) | (go_at_call 62; with_reducible refine (HPL.out _ HB.out).mono ?_; rintro e w4 ⟨rfl, hb⟩; replace BKgb := qab.mk (qae BKgb.out hb); replace HB := qab.mk (qad HB.out hb); clear hb; obtain ⟨hfgb, hcgb_0, hcgb_1, hcgb_2⟩ := qz3 BKgb.out) | (go_at_call 63; with_reducible refine (HFL.out _ HB.out).mono ?_; rintro e w5 ⟨rfl, hb⟩; replace BKgb := qab.mk (qae BKgb.out hb); replace HB := qab.mk (qad HB.out hb); clear hb; obtain ⟨hfgb, hcgb_0, hcgb_1, hcgb_2⟩ := qz3 BKgb.out) | (go_at_call 64; refine (HNO.out _ HB.out).mono ?_; rintro e w6 ⟨v6, rfl, ho, hb⟩; obtain ⟨vA, vc, rfl⟩ := Kd.R_slice ho; have HO := qab.mk (Kd.R_lower ho HB.out.size); clear ho; replace BKgb := qab.mk (qae BKgb.out hb); replace HB := qab.mk (qad HB.out hb); clear hb; obtain ⟨hfgb, hcgb_0, hcgb_1, hcgb_2⟩ := qz3 BKgb.out))
   have HS : qab (Kd.R (Kd.int .i64) 3 (((w7.setCell ⟨g9, 0, none⟩ (.slice vA o1.length vc)).setCell ⟨g9, 1, none⟩ (.int .i64 o2)).setCell ⟨g9, 2, none⟩ (.bool o3)) w.heap.size (fun _ => True) (.slice vA o1.length vc) o1 ∧ (((w7.setCell ⟨g9, 0, none⟩ (.slice vA o1.length vc)).setCell ⟨g9, 1, none⟩ (.int .i64 o2)).setCell ⟨g9, 2, none⟩ (.bool o3)).heap[g9]? = some (.cells #[.slice vA o1.length vc, .int .i64 o2, .bool o3] 97 (0, 0)) ∧ Below w.heap.size w (((w7.setCell ⟨g9, 0, none⟩ (.slice vA o1.length vc)).setCell ⟨g9, 1, none⟩ (.int .i64 o2)).setCell ⟨g9, 2, none⟩ (.bool o3))) :=
    ⟨Kd.R_set (Kd.R_set (Kd.R_set HO.out BKg9.out (by decide) 0 _) (blk_set BKg9.out 0 _) (by decide) 1 _) (blk_set (blk_set BKg9.out 0 _) 1 _) (by decide) 2 _, blk_set (blk_set (blk_set BKg9.out 0 _) 1 _) 2 _, qai (qai (qai HB.out GEg9) GEg9) GEg9⟩
   generalize ((w7.setCell ⟨g9, 0, none⟩ (.slice vA o1.length vc)).setCell ⟨g9, 1, none⟩ (.int .i64 o2)).setCell ⟨g9, 2, none⟩ (.bool o3) = w8 at HS ⊢
   clear hfgb hcgb_0 hcgb_1 hcgb_2 hfg9 hcg9_0 hcg9_1 hcg9_2 BKgb BKg9 HB HO
   have k0 : w8.cell? ⟨g9, 0, none⟩ = some (.slice vA o1.length vc) := qaa HS.out.2.1 0
   have k1 : w8.cell? ⟨g9, 1, none⟩ = some (.int .i64 o2) := qaa HS.out.2.1 1
   have k2 : w8.cell? ⟨g9, 2, none⟩ = some (.bool o3) := qaa HS.out.2.1 2
   cases o3 with
   | false =>
    have he := HH.out
    simp only [Bool.false_eq_true, if_false, Option.some.injEq] at he
    cases he
    go_wp2_with fail
    go_ret3
    exact ⟨_, rfl, Kd.R_nil _ _ _ _ _, HS.out.2.2⟩
   | true =>
    have he := HH.out
    simp only [if_true, Option.some.injEq] at he
    cases he
    go_upto_region 6 with fail
    refine start_ (n := 7) (S := (fun w' => w'.cell? ⟨g9, 0, none⟩ = some (.slice vA r1.length vc) ∧ w'.cell? ⟨g9, 1, none⟩ = some (.int .i64 r2))) (ds := []) (msk 7 0) (by kernel_rfl) rfl rfl ⟨k0, k1⟩ (fun hHeld => ?_)
    refine pure_ (i := 0) (N := some 33) (v := ?_) (a' := ?_) (msk 7 1) rfl rfl (by kernel_rfl) (fun _ _ _ h => h) (Or.inl ⟨by rfl, ?_⟩) ?_ ?_; rotate_left; (focus (intro w'; go_simp; with_reducible rfl)); rotate_left; (focus (simp only [Act.put, qzA, qzB, qzC, i64_w, i32_w]; rfl))
    refine take_ (i := 1) (N := some 34) (v := ?_) (a' := ?_) (msk 7 2) rfl rfl (by kernel_rfl) (fun _ _ _ h => h) (Or.inl ⟨by rfl, ?_⟩) hHeld ?_ ?_; rotate_left; (focus (rintro w' ⟨s0, s1⟩; go_simp; with_reducible rfl)); rotate_left; (focus (simp only [Act.put, qzA, qzB, qzC, i64_w, i32_w]; rfl))
    refine pure_ (i := 2) (N := some 35) (v := ?_) (a' := ?_) (msk 7 3) rfl rfl (by kernel_rfl) (fun _ _ _ h => h) (Or.inl ⟨by rfl, ?_⟩) ?_ ?_; rotate_left; (focus (intro w'; go_simp; with_reducible rfl)); rotate_left; (focus (simp only [Act.put, qzA, qzB, qzC, i64_w, i32_w]; rfl))
    refine take_ (i := 3) (N := some 36) (v := ?_) (a' := ?_) (msk 7 4) rfl rfl (by kernel_rfl) (fun _ _ _ h => h) (Or.inl ⟨by rfl, ?_⟩) hHeld ?_ ?_; rotate_left; (focus (rintro w' ⟨s0, s1⟩; go_simp; with_reducible rfl)); rotate_left; (focus (simp only [Act.put, qzA, qzB, qzC, i64_w, i32_w]; rfl))
    refine pure_ (i := 4) (N := some 6) (v := ?_) (a' := ?_) (msk 7 5) rfl rfl (by kernel_rfl) (fun _ _ _ h => h) (Or.inl ⟨by rfl, ?_⟩) ?_ ?_; rotate_left; (focus (intro w'; go_simp; with_reducible rfl)); rotate_left; (focus (simp only [Act.put, qzA, qzB, qzC, i64_w, i32_w]; rfl))
    refine pure_ (i := 5) (N := some 7) (v := ?_) (a' := ?_) (msk 7 6) rfl rfl (by kernel_rfl) (fun _ _ _ h => h) (Or.inl ⟨by rfl, ?_⟩) ?_ ?_; rotate_left; (focus (intro w'; go_simp; with_reducible rfl)); rotate_left; (focus (simp only [Act.put, qzA, qzB, qzC, i64_w, i32_w]; rfl))
    refine pure_ (i := 6) (N := some 8) (v := ?_) (a' := ?_) (msk 7 7) rfl rfl (by kernel_rfl) (fun _ _ _ h => h) (Or.inl ⟨by rfl, ?_⟩) ?_ ?_; rotate_left; (focus (intro w'; go_simp; with_reducible rfl)); rotate_left; (focus (simp only [Act.put, qzA, qzB, qzC, i64_w, i32_w]; rfl))
    refine done_ (by kernel_rfl) ?_
    go_wp2_with fail
    go_ret3
    exact ⟨_, rfl, Kd.R_below HS.out.1 (below_drew (Below.refl _ _)), below_drew HS.out.2.2⟩
def talikref04_Same.l0 : Nat → List Int → List Int → Int → Option (Bool)
 | 0, _, _, _ => none
 | k + 1, x0, x1, x5 => if x5 < (x0.length : Int) then (if 0 ≤ x5 then (if x5 < (x1.length : Int) then (if (rd x0 x5) = (rd x1 x5) then (talikref04_Same.l0 k x0 x1 (wrap64 (x5 + 1))) else (some false)) else (none)) else (none)) else (some true)
def talikref04_Same.f (k : Nat) (l0 : List Int) (l1 : List Int) : Option (Bool) := if (l0.length : Int) = (l1.length : Int) then (talikref04_Same.l0 k l0 l1 0) else (some false)
theorem talikref04_Same.calls (k : Nat) (A0 : Option Addr) (c0 : Nat) (l0 : List Int) (A1 : Option Addr) (c1 : Nat) (l1 : List Int) (r : Bool) (w : World) (hr0 : Kd.C (Kd.int .i64) w A0 l0.length l0) (hc0 : l0.length ≤ c0) (hr1 : Kd.C (Kd.int .i64) w A1 l1.length l1) (hc1 : l1.length ≤ c1) (h : talikref04_Same.f k l0 l1 = some r) :
  Calls Try.prog 28 #[.slice A0 l0.length c0, .slice A1 l1.length c1] w fun e w' => e = .returned (.bool r) ∧ Drawn0 w w' := by
 have HR0 := qab.mk hr0
 have HC0 := qab.mk hc0
 clear hr0 hc0
 have HR1 := qab.mk hr1
 have HC1 := qab.mk hc1
 clear hr1 hc1
 have H : (if (l0.length : Int) = (l1.length : Int) then (talikref04_Same.l0 k l0 l1 0) else (some false)) = some r := h
 clear h
 by_cases c3 : (l0.length : Int) = (l1.length : Int)
 ·
  rw [if_pos c3] at H
  have c3b0 : ((l0.length : Int) == (l1.length : Int)) = true := beq_iff_eq.mpr c3
  have c3b1 : ((l0.length : Int) != (l1.length : Int)) = false := bne_eq_false_iff_eq.mpr c3
  have c3b2 : (l0.length == l1.length) = true := by first | simpa using c3 | (simp at c3 ⊢; omega)
  clear c3
  have H' := qab.mk H
  clear H
  go_enter Try.func28, Try.ntmps28
  go_wp2
  repeat (go_quiet (fail); try go_wp2)
  go_loopg [5] k (fun kq v5 w' => ∃ (x5_1 : Int), v5 = .int .i64 x5_1 ∧ qab (talikref04_Same.l0 kq l0 l1 x5_1 = some r) ∧ qab (kq ≤ k) ∧ Drawn0 w w')
  case atStart => exact ⟨(0), (by first | rfl | (simp; done) | (simp [*]; done)), H', ⟨Nat.le_refl _⟩, by repeat (first | exact Drawn0.refl _ | apply Drawn0.step)⟩
  case round =>
   clear H'
   try clear c1
   try clear c2
   try clear p2
   try clear c3
   try clear c3b0
   try clear c3b1
   try clear c3b2
   obtain ⟨x5_1, rfl, HA, HK1, ⟨m1, rfl⟩⟩ := hrel
   cases gk with
   | zero => exact absurd HA.out (by simp [talikref04_Same.l0])
   | succ k1 =>
    have H := HA.out
    clear HA
    simp only [talikref04_Same.l0] at H
    by_cases c4 : x5_1 < (l0.length : Int)
    ·
     rw [if_pos c4] at H
     have c4b0 : decide (x5_1 < (l0.length : Int)) = true := decide_eq_true c4
     clear c4
     by_cases c5 : 0 ≤ x5_1
     ·
      rw [if_pos c5] at H
      have c5b0 : decide (0 ≤ x5_1) = true := decide_eq_true c5
      clear c5
      by_cases c6 : x5_1 < (l1.length : Int)
      ·
       rw [if_pos c6] at H
       have c6b0 : decide (x5_1 < (l1.length : Int)) = true := decide_eq_true c6
       clear c6
       by_cases c7 : (rd l0 x5_1) = (rd l1 x5_1)
       ·
        rw [if_pos c7] at H
        have c7b0 : ((rd l0 x5_1) == (rd l1 x5_1)) = true := beq_iff_eq.mpr c7
        have c7b1 : ((rd l0 x5_1) != (rd l1 x5_1)) = false := bne_eq_false_iff_eq.mpr c7
        clear c7
        have H' := qab.mk H
        clear H
        have p129 : 0 ≤ (x5_1 : Int) := of_decide_eq_true (by first | (with_reducible assumption) | assumption)
        have q129 : x5_1 < (l0.length : Int) := of_decide_eq_true (by first | (with_reducible assumption) | assumption)
        obtain ⟨ad129, e129, hx129_0⟩ := Kd.at_int HR0.out x5_1 p129 q129
        cases e129
        replace p129 := eq_true p129
        replace q129 := eq_true q129
        have p130 : 0 ≤ (x5_1 : Int) := of_decide_eq_true (by first | (with_reducible assumption) | assumption)
        have q130 : x5_1 < (l1.length : Int) := of_decide_eq_true (by first | (with_reducible assumption) | assumption)
        obtain ⟨ad130, e130, hx130_0⟩ := Kd.at_int HR1.out x5_1 p130 q130
        cases e130
        replace p130 := eq_true p130
        replace q130 := eq_true q130
        go_wp2
        repeat (go_quiet (fail); try go_wp2)
        go_roundg k1
        case measure => have := HK1.out; omega
        case rel => exact ⟨(wrap64 (x5_1 + 1)), (by first | rfl | (simp; done) | (simp [*]; done)), H', ⟨by have := HK1.out; omega⟩, by repeat (first | exact Drawn0.refl _ | apply Drawn0.step)⟩
       ·
        rw [if_neg c7] at H
        have c7b0 : ((rd l0 x5_1) == (rd l1 x5_1)) = false := beq_eq_false_iff_ne.mpr c7
        have c7b1 : ((rd l0 x5_1) != (rd l1 x5_1)) = true := bne_iff_ne.mpr c7
        obtain rfl := Option.some.inj H
        have p129 : 0 ≤ (x5_1 : Int) := of_decide_eq_true (by first | (with_reducible assumption) | assumption)
        have q129 : x5_1 < (l0.length : Int) := of_decide_eq_true (by first | (with_reducible assumption) | assumption)
        obtain ⟨ad129, e129, hx129_0⟩ := Kd.at_int HR0.out x5_1 p129 q129
        cases e129
        replace p129 := eq_true p129
        replace q129 := eq_true q129
        have p130 : 0 ≤ (x5_1 : Int) := of_decide_eq_true (by first | (with_reducible assumption) | assumption)
        have q130 : x5_1 < (l1.length : Int) := of_decide_eq_true (by first | (with_reducible assumption) | assumption)
        obtain ⟨ad130, e130, hx130_0⟩ := Kd.at_int HR1.out x5_1 p130 q130
        cases e130
        replace p130 := eq_true p130
        replace q130 := eq_true q130
        go_wp2
        repeat (go_quiet (fail); try go_wp2)
        go_ret
        exact ⟨by first | rfl | (simp; done) | (simp [*]; done), by repeat (first | exact Drawn0.refl _ | apply Drawn0.step)⟩
      ·
       rw [if_neg c6] at H
       exact absurd H (by simp)
     ·
      rw [if_neg c5] at H
      exact absurd H (by simp)
    ·
     rw [if_neg c4] at H
     have c4b0 : decide (x5_1 < (l0.length : Int)) = false := decide_eq_false c4
     clear c4
     obtain rfl := Option.some.inj H
     go_wp2
     repeat (go_quiet (fail); try go_wp2)
     go_ret
     exact ⟨by first | rfl | (simp; done) | (simp [*]; done), by repeat (first | exact Drawn0.refl _ | apply Drawn0.step)⟩
 ·
  rw [if_neg c3] at H
  have c3b0 : ((l0.length : Int) == (l1.length : Int)) = false := beq_eq_false_iff_ne.mpr c3
  have c3b1 : ((l0.length : Int) != (l1.length : Int)) = true := bne_iff_ne.mpr c3
  have c3b2 : (l0.length == l1.length) = false := by first | simpa using c3 | (simp at c3 ⊢; omega)
  obtain rfl := Option.some.inj H
  go_enter Try.func28, Try.ntmps28
  go_wp2
  repeat (go_quiet (fail); try go_wp2)
  go_ret
  exact ⟨by first | rfl | (simp; done) | (simp [*]; done), by repeat (first | exact Drawn0.refl _ | apply Drawn0.step)⟩
end Go.Proofs.Ytipphcjgdebecaa.PA
