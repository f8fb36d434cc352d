/- What functions of the program answer. No condition. -/
import Derived.Test.YtafkanmioinbiaaSC
import Derived.Test.YtafkanmioinbiaaSF
import Derived.Test.YtafkanmioinbiaaSD
import Derived.Test.YtafkanmioinbiaaSE
import Derived.Test.YtafkanmioinbiaaSG
import Derived.Test.YtafkanmioinbiaaSK
import Derived.Test.YtafkanmioinbiaaSM
set_option linter.all false
set_option maxRecDepth 100000
set_option maxHeartbeats 8000000
namespace Go.Proofs.Ytafkanmioinbiaa.SA
open Go.RowKit Go.Proofs.YtafkanmioinbiaaW.PrintWords Go.Proofs.YtafkanmioinbiaaW.PrintLast Go.Proofs.YtafkanmioinbiaaW.PrintMore
attribute [local go_sem] qax qaz max_two min_two qao qap qay qba
attribute [local go_sem] Oper.semAt_some
def flowTo (ls : List S95) (years : List Int) (Y : Int) : Nat → Int → Int
 | 0, t => t
 | k + 1, t => if t ≠ -1 ∧ rd years t < Y then flowTo ls years Y k (rd_T95 ls t).f0 else t
structure Pt where
 years : List Int
 come : List Int
 out : Int
def flowV (ls : List S95) (Y : Int) (s : Pt) (i : Nat) (water : Int) : Pt :=
 if flowTo ls s.years Y ls.length (rd_T95 ls i).f0 = -1 then ⟨s.years, s.come, wrap64 (s.out + water)⟩
 else ⟨s.years, s.come.set (flowTo ls s.years Y ls.length (rd_T95 ls i).f0).toNat (wrap64 (rd s.come (flowTo ls s.years Y ls.length (rd_T95 ls i).f0) + water)), s.out⟩
structure PS (w : World) (gb gt g5 g6 g8 g9 gy gc cy cc n : Nat) (mc tc : Array Value) (all kept : Int) (s : Pt) (W : World) : Prop where
 hb : Below w.heap.size w W
 b : W.heap[gb]? = some (.cells mc 27 (0, 0))
 t : W.heap[gt]? = some (.cells tc 67 (0, 0))
 x6 : W.heap[g6]? = some (.cells #[.slice (some ⟨gy, 0, none⟩) n cy] 23 (0, 0))
 x8 : W.heap[g8]? = some (.cells #[.slice (some ⟨gc, 0, none⟩) n cc] 23 (0, 0))
 x9 : W.heap[g9]? = some (.cells #[.int .i64 all, .int .i64 s.out, .int .i64 kept] 70 (0, 0))
 x5 : W.heap[g5]? = some (.cells #[.int .i64 0, .int .i64 0, .int .i64 0] 70 (0, 0))
 n59 : g5 ≠ g9
 l5 : w.heap.size ≤ g5
 y : Kd.R (Kd.int .i64) 3 W w.heap.size (fun k => k = gy) (.slice (some ⟨gy, 0, none⟩) n cy) s.years
 c : Kd.R (Kd.int .i64) 3 W w.heap.size (fun k => k = gc) (.slice (some ⟨gc, 0, none⟩) n cc) s.come
 ne : gy ≠ gc
 l9 : w.heap.size ≤ g9
 ly : w.heap.size ≤ gy ∧ gy < W.heap.size
 lc : w.heap.size ≤ gc ∧ gc < W.heap.size
 ny : s.years.length = n
 nc : s.come.length = n
section
variable {w W W' : World} {gb gt g5 g6 g8 g9 gy gc cy cc n : Nat} {mc tc : Array Value} {all kept : Int} {s : Pt}
theorem PS.below (h : PS w gb gt g5 g6 g8 g9 gy gc cy cc n mc tc all kept s W) (hb : Below W.heap.size W W') : PS w gb gt g5 g6 g8 g9 gy gc cy cc n mc tc all kept s W' :=
 ⟨qae h.hb hb, qad h.b hb, qad h.t hb, qad h.x6 hb, qad h.x8 hb, qad h.x9 hb, qad h.x5 hb, h.n59, h.l5, Kd.qal h.y hb, Kd.qal h.c hb, h.ne, h.l9, ⟨h.ly.1, Nat.lt_of_lt_of_le h.ly.2 hb.size⟩, ⟨h.lc.1, Nat.lt_of_lt_of_le h.lc.2 hb.size⟩, h.ny, h.nc⟩
theorem PS.blks (h : PS w gb gt g5 g6 g8 g9 gy gc cy cc n mc tc all kept s W) (hn : 0 < n) : (∃ cs, W.heap[gy]? = some (.cells cs 3 (0, 0))) ∧ (∃ cs, W.heap[gc]? = some (.cells cs 3 (0, 0))) := by
 obtain ⟨_, cs, h1⟩ := R_blk h.y hn
 obtain ⟨_, cs', h2⟩ := R_blk h.c hn
 exact ⟨⟨cs, h1⟩, ⟨cs', h2⟩⟩
theorem PS.putY (h : PS w gb gt g5 g6 g8 g9 gy gc cy cc n mc tc all kept s W) (hn : 0 < n) (i : Nat) (x : Int) : PS w gb gt g5 g6 g8 g9 gy gc cy cc n mc tc all kept ⟨s.years.set i x, s.come, s.out⟩ (W.setCell ⟨gy, i, none⟩ (.int .i64 x)) := by
 obtain ⟨⟨cs, hy⟩, _⟩ := h.blks hn
 have f : ∀ {g : Nat} {c : Array Value} {t : Nat}, W.heap[g]? = some (.cells c t (0, 0)) → t ≠ 3 → (W.setCell ⟨gy, i, none⟩ (.int .i64 x)).heap[g]? = some (.cells c t (0, 0)) := fun hh ht => blk_far (p := ⟨gy, i, none⟩) hh (blk_ne hh hy ht) _
 exact ⟨qaj h.hb h.ly.1, f h.b (by decide), f h.t (by decide), f h.x6 (by decide), f h.x8 (by decide), f h.x9 (by decide), f h.x5 (by decide), h.n59, h.l5, Kd.R_putn h.y (i : Int) x, Kd.R_step h.c (fun k e hk => Below.heap_setCell W ⟨gy, i, none⟩ _ k (by rw [e]; exact h.ne.symm)), h.ne, h.l9, ⟨h.ly.1, by simpa using h.ly.2⟩, ⟨h.lc.1, by simpa using h.lc.2⟩, by simpa using h.ny, h.nc⟩
theorem PS.putC (h : PS w gb gt g5 g6 g8 g9 gy gc cy cc n mc tc all kept s W) (hn : 0 < n) (i : Nat) (x : Int) : PS w gb gt g5 g6 g8 g9 gy gc cy cc n mc tc all kept ⟨s.years, s.come.set i x, s.out⟩ (W.setCell ⟨gc, i, none⟩ (.int .i64 x)) := by
 obtain ⟨_, ⟨cs, hy⟩⟩ := h.blks hn
 have f : ∀ {g : Nat} {c : Array Value} {t : Nat}, W.heap[g]? = some (.cells c t (0, 0)) → t ≠ 3 → (W.setCell ⟨gc, i, none⟩ (.int .i64 x)).heap[g]? = some (.cells c t (0, 0)) := fun hh ht => blk_far (p := ⟨gc, i, none⟩) hh (blk_ne hh hy ht) _
 exact ⟨qaj h.hb h.lc.1, f h.b (by decide), f h.t (by decide), f h.x6 (by decide), f h.x8 (by decide), f h.x9 (by decide), f h.x5 (by decide), h.n59, h.l5, Kd.R_step h.y (fun k e hk => Below.heap_setCell W ⟨gc, i, none⟩ _ k (by rw [e]; exact h.ne)), Kd.R_putn h.c (i : Int) x, h.ne, h.l9, ⟨h.ly.1, by simpa using h.ly.2⟩, ⟨h.lc.1, by simpa using h.lc.2⟩, h.ny, by simpa using h.nc⟩
theorem PS.put9 (h : PS w gb gt g5 g6 g8 g9 gy gc cy cc n mc tc all kept s W) (hn : 0 < n) (x : Int) : PS w gb gt g5 g6 g8 g9 gy gc cy cc n mc tc all kept ⟨s.years, s.come, x⟩ (W.setCell ⟨g9, 1, none⟩ (.int .i64 x)) ∧ PS w gb gt g5 g6 g8 g9 gy gc cy cc n mc tc all x s (W.setCell ⟨g9, 2, none⟩ (.int .i64 x)) := by
 obtain ⟨⟨cs, hy⟩, ⟨cs', hc⟩⟩ := h.blks hn
 have n1 : gy ≠ g9 := (blk_ne h.x9 hy (by decide)).symm
 have n2 : gc ≠ g9 := (blk_ne h.x9 hc (by decide)).symm
 have f : ∀ (i : Nat) {g : Nat} {c : Array Value} {t : Nat}, W.heap[g]? = some (.cells c t (0, 0)) → t ≠ 70 → (W.setCell ⟨g9, i, none⟩ (.int .i64 x)).heap[g]? = some (.cells c t (0, 0)) := fun i _ _ _ hh ht => blk_far (p := ⟨g9, i, none⟩) hh (blk_ne hh h.x9 ht) _
 exact ⟨⟨qaj h.hb h.l9, f 1 h.b (by decide), f 1 h.t (by decide), f 1 h.x6 (by decide), f 1 h.x8 (by decide), blk_set h.x9 1 _, blk_far (p := ⟨g9, 1, none⟩) h.x5 h.n59 _, h.n59, h.l5, Kd.R_step h.y (fun k e hk => Below.heap_setCell W ⟨g9, 1, none⟩ _ k (by rw [e]; exact n1)), Kd.R_step h.c (fun k e hk => Below.heap_setCell W ⟨g9, 1, none⟩ _ k (by rw [e]; exact n2)), h.ne, h.l9, ⟨h.ly.1, by simpa using h.ly.2⟩, ⟨h.lc.1, by simpa using h.lc.2⟩, h.ny, h.nc⟩,
  ⟨qaj h.hb h.l9, f 2 h.b (by decide), f 2 h.t (by decide), f 2 h.x6 (by decide), f 2 h.x8 (by decide), blk_set h.x9 2 _, blk_far (p := ⟨g9, 2, none⟩) h.x5 h.n59 _, h.n59, h.l5, Kd.R_step h.y (fun k e hk => Below.heap_setCell W ⟨g9, 2, none⟩ _ k (by rw [e]; exact n1)), Kd.R_step h.c (fun k e hk => Below.heap_setCell W ⟨g9, 2, none⟩ _ k (by rw [e]; exact n2)), h.ne, h.l9, ⟨h.ly.1, by simpa using h.ly.2⟩, ⟨h.lc.1, by simpa using h.lc.2⟩, h.ny, h.nc⟩⟩
end
def IntoOk (ls : List S95) : Prop := ∀ k : Nat, k < ls.length → (rd_T95 ls k).f0 = -1 ∨ ((k : Int) + 1 ≤ (rd_T95 ls k).f0 ∧ (rd_T95 ls k).f0 < ls.length)
theorem flowTo_step (ls : List S95) (years : List Int) (Y : Int) (k : Nat) (t : Int) (h : t ≠ -1 ∧ rd years t < Y) : flowTo ls years Y (k + 1) t = flowTo ls years Y k (rd_T95 ls t).f0 := by
 show (if _ then _ else _) = _
 rw [if_pos h]
theorem flowTo_stop (ls : List S95) (years : List Int) (Y : Int) (k : Nat) (t : Int) (h : ¬ (t ≠ -1 ∧ rd years t < Y)) : flowTo ls years Y k t = t := by
 cases k with
 | zero => rfl
 | succ k => show (if _ then _ else _) = _; rw [if_neg h]
theorem flowTo_neg (ls : List S95) (years : List Int) (Y : Int) (k : Nat) : flowTo ls years Y k (-1) = -1 := flowTo_stop ls years Y k (-1) (fun h => h.1 rfl)
def mT (n : Nat) (t : Int) : Nat := if t = -1 then 0 else n - t.toNat
theorem mT_lt {n u : Nat} {tn : Int} (hu : u < n) (h : tn = -1 ∨ ((u : Int) + 1 ≤ tn ∧ tn < n)) : mT n tn < mT n (u : Int) := by
 unfold mT
 rw [if_neg (show ¬ ((u : Nat) : Int) = -1 by omega)]
 split <;> omega
theorem pour1_calls (gb gt g5 g6 g8 g9 gy gc cy cc : Nat) (v0 v1 v2 v3 : Value) (A4 : Option Addr) (n4 c4 : Nat) (A5 : Option Addr) (c5 : Nat) (ls : List S95) (tc : Array Value) (all kept : Int) (s : Pt) (i : Nat) (water : Int) (w W : World) (hr5 : Kd.C k95 w A5 ls.length ls) (hI : IntoOk ls) (hi : i < ls.length) (hn : ls.length ≤ 1000)
  (h : PS w gb gt g5 g6 g8 g9 gy gc cy cc ls.length #[v0, v1, v2, v3, .slice A4 n4 c4, .slice A5 ls.length c5] tc all kept s W) :
  Calls Try.prog 106 #[.int .i64 (i : Int), .int .i64 water, .pointer (some ⟨gb, 0, none⟩), .pointer (some ⟨g6, 0, none⟩), .pointer (some ⟨g9, 0, none⟩), .pointer (some ⟨g8, 0, none⟩)] W fun e w' => e = .returned (.tuple #[]) ∧ PS w gb gt g5 g6 g8 g9 gy gc cy cc ls.length #[v0, v1, v2, v3, .slice A4 n4 c4, .slice A5 ls.length c5] tc all kept (flowV ls n4 s i water) w' := by
 have hu27 := Try.underlying27
 have hu95 := Try.underlying95
 have hu70 := Try.underlying70
 have H := qab.mk h
 have HI := qab.mk hI
 have HR := qab.mk hr5
 obtain ⟨a5, e, hq⟩ : ∃ a5, A5 = some a5 ∧ ∀ t : Nat, t < ls.length → W.cell? (a5.add (t * 6)) = some (.int .i64 (rd_T95 ls t).f0) := by
  obtain ⟨a5, e, _⟩ := at_T95 hr5 i (by omega) (by omega)
  refine ⟨a5, e, fun t ht => ?_⟩
  obtain ⟨a6, e', q, _⟩ := at_T95 hr5 t (by omega) (by omega)
  rw [e] at e'
  cases e'
  simp only [Int.toNat_natCast] at q
  exact (h.hb.cell (World.block_lt_of_cell? w _ q)).trans q
 cases e
 have HQ := qab.mk hq
 have q5 : W.cell? ⟨gb, 5, none⟩ = some (.slice (some a5) ls.length c5) := (qaa h.b 5).trans rfl
 have qi := hq i hi
 obtain ⟨ti, hti⟩ : ∃ t, t = (rd_T95 ls i).f0 := ⟨_, rfl⟩
 have hok := hI i hi
 rw [← hti] at qi hok
 have HTI := qab.mk hti
 clear h hr5 hI hq hti
 go_enter Try.func106, Try.ntmps106
 go_wp2
 clear q5 qi
 go_loopw [8] (fun s8 wr => ∃ (t : Int) (k : Nat), s8 = .int .i64 t ∧ (t = -1 ∨ (0 ≤ t ∧ t < ls.length ∧ (ls.length : Int) ≤ t + k)) ∧ qab (flowTo ls s.years n4 ls.length (rd_T95 ls i).f0 = flowTo ls s.years n4 k t) ∧ qab (Below W.heap.size W wr)) (fun s _ => mT ls.length (intOf s))
 case atStart => exact ⟨ti, ls.length, rfl, by rcases hok with h | h; exact .inl h; exact .inr ⟨by omega, by omega, by omega⟩, ⟨by rw [HTI.out]⟩, ⟨Below.refl _ _⟩⟩
 case round =>
  clear hok HTI
  obtain ⟨t, k, rfl, hok, HF, HB⟩ := hrel
  have q6 : wr.cell? ⟨g6, 0, none⟩ = some (.slice (some ⟨gy, 0, none⟩) ls.length cy) := (qaa (qad H.out.x6 HB.out) 0).trans rfl
  by_cases hm1 : t = -1
  ·
   subst hm1
   have HFV : qab (flowV ls n4 s i water = ⟨s.years, s.come, wrap64 (s.out + water)⟩) := ⟨by unfold flowV; rw [HF.out, flowTo_neg, if_pos rfl]⟩
   have HS := qab.mk ((H.out.below HB.out).below (qaq (Below.refl _ _)))
   have HX := qab.mk (HS.out.put9 (by omega) (wrap64 (s.out + water))).1
   go_upto_region 1 with fail
   refine start_ (n := 12) (S := (fun w' => w'.cell? ⟨g6, 0, none⟩ = some (.slice (some ⟨gy, 0, none⟩) ls.length cy))) (ds := []) (msk 12 0) (by kernel_rfl) rfl rfl q6 (fun hHeld => ?_)
   refine zq 0 1 15 ?_
   refine zq 1 2 16 ?_
   refine zq 2 3 17 ?_
   refine zo 3 4 18 ?_
   refine zo 4 5 19 ?_
   refine zo 5 6 20 ?_
   refine zo 6 7 21 ?_
   refine zo 7 8 22 ?_
   refine zo 8 9 23 ?_
   refine zo 9 10 24 ?_
   refine zo 10 11 25 ?_
   refine zq 11 12 26 ?_
   refine done_ (by kernel_rfl) ?_
   generalize wr.drew = wd at HS HX ⊢
   clear hHeld q6
   have q9 : wd.cell? ⟨g9, 1, none⟩ = some (.int .i64 s.out) := (qaa HS.out.x9 1).trans rfl
   have fr := qac HS.out.x9
   go_wp2
   go_end0
   exact ⟨rfl, by rw [HFV.out]; exact HX.out⟩
  ·
   obtain ⟨u, rfl⟩ : ∃ u : Nat, t = u := ⟨t.toNat, by omega⟩
   have hu : u < ls.length := by omega
   have hne : ((u : Int) != -1) = true := by rw [bne_iff_ne]; omega
   obtain ⟨yt, hyt⟩ : ∃ y, y = rd s.years u := ⟨_, rfl⟩
   have HYT := qab.mk hyt
   have qy : wr.cell? ⟨gy, u, none⟩ = some (.int .i64 yt) := by rw [hyt]; exact introw_at (Kd.qal H.out.y HB.out) u (by have := H.out.ny; omega)
   have q4 : wr.cell? ⟨gb, 4, none⟩ = some (.slice A4 n4 c4) := (qaa (qad H.out.b HB.out) 4).trans rfl
   clear hyt
   by_cases hlt : yt < n4
   ·
    have hb2 : decide (yt < (n4 : Int)) = true := decide_eq_true hlt
    have hk : 0 < k := by omega
    obtain ⟨k', rfl⟩ : ∃ k', k = k' + 1 := ⟨k - 1, by omega⟩
    have HF2 : qab (flowTo ls s.years n4 ls.length (rd_T95 ls i).f0 = flowTo ls s.years n4 k' (rd_T95 ls u).f0) := ⟨by rw [HF.out, flowTo_step ls s.years n4 k' u ⟨by omega, by rw [← HYT.out]; exact hlt⟩]⟩
    have q5 : wr.drew.cell? ⟨gb, 5, none⟩ = some (.slice (some a5) ls.length c5) := (qaa (qad H.out.b HB.out) 5).trans rfl
    have qn : wr.drew.cell? (a5.add (u * 6)) = some (.int .i64 (rd_T95 ls u).f0) := (HB.out.cell (World.block_lt_of_cell? W _ (HQ.out u hu))).trans (HQ.out u hu)
    have hok2 := HI.out u hu
    generalize (rd_T95 ls u).f0 = tn at qn hok2 HF2
    have HBd := qab.mk (qaq HB.out)
    clear hlt
    go_upto_region 1 with fail
    refine start_ (n := 12) (S := (fun w' => (w'.cell? ⟨g6, 0, none⟩ = some (.slice (some ⟨gy, 0, none⟩) ls.length cy) ∧ w'.cell? ⟨gy, u, none⟩ = some (.int .i64 yt) ∧ w'.cell? ⟨gb, 4, none⟩ = some (.slice A4 n4 c4)))) (ds := []) (msk 12 0) (by kernel_rfl) rfl rfl ⟨q6, qy, q4⟩ (fun hHeld => ?_)
    refine zq 0 1 15 ?_
    refine zq 1 2 16 ?_
    refine zq 2 3 17 ?_
    refine zt3 3 4 18 hHeld ?_
    refine zq 4 5 19 ?_
    refine zq 5 6 20 ?_
    refine zt3 6 7 21 hHeld ?_
    refine zq 7 8 22 ?_
    refine zt3 8 9 23 hHeld ?_
    refine zq 9 10 24 ?_
    refine zq 10 11 25 ?_
    refine zq 11 12 26 ?_
    refine done_ (by kernel_rfl) ?_
    clear hHeld q6 qy q4
    generalize wr.drew = wd at q5 qn HBd ⊢
    go_wp2
    go_roundw
    case rel => exact ⟨tn, k', rfl, by rcases hok2 with h | h; exact .inl h; exact .inr ⟨by omega, by omega, by omega⟩, HF2, HBd⟩
    case measure => exact mT_lt hu hok2
   ·
    have hb2 : decide (yt < (n4 : Int)) = false := decide_eq_false hlt
    have HFE : qab (flowTo ls s.years n4 ls.length (rd_T95 ls i).f0 = (u : Int)) := ⟨by rw [HF.out, flowTo_stop ls s.years n4 k u (fun h => hlt (by rw [HYT.out]; exact h.2))]⟩
    have HFV : qab (flowV ls n4 s i water = ⟨s.years, s.come.set u (wrap64 (rd s.come u + water)), s.out⟩) := ⟨by unfold flowV; rw [HFE.out, if_neg (by omega), Int.toNat_natCast]⟩
    have HS := qab.mk ((H.out.below HB.out).below (qaq (Below.refl _ _)))
    have HX := qab.mk (HS.out.putC (by omega) u (wrap64 (rd s.come u + water)))
    have q8 : wr.drew.cell? ⟨g8, 0, none⟩ = some (.slice (some ⟨gc, 0, none⟩) ls.length cc) := (qaa HS.out.x8 0).trans rfl
    obtain ⟨cu, hcu⟩ : ∃ c, c = rd s.come u := ⟨_, rfl⟩
    have qc : wr.drew.cell? ⟨gc, u, none⟩ = some (.int .i64 cu) := by rw [hcu]; exact introw_at HS.out.c u (by have := HS.out.nc; omega)
    obtain ⟨_, cs, hbl⟩ := R_blk HS.out.c (show 0 < ls.length by omega)
    have fr := qac hbl
    rw [← hcu] at HX HFV
    have hneg : ((u : Int) == -1) = false := by rw [beq_eq_false_iff_ne]; omega
    clear hlt hbl hcu
    go_upto_region 1 with fail
    refine start_ (n := 12) (S := (fun w' => (w'.cell? ⟨g6, 0, none⟩ = some (.slice (some ⟨gy, 0, none⟩) ls.length cy) ∧ w'.cell? ⟨gy, u, none⟩ = some (.int .i64 yt) ∧ w'.cell? ⟨gb, 4, none⟩ = some (.slice A4 n4 c4)))) (ds := []) (msk 12 0) (by kernel_rfl) rfl rfl ⟨q6, qy, q4⟩ (fun hHeld => ?_)
    refine zq 0 1 15 ?_
    refine zq 1 2 16 ?_
    refine zq 2 3 17 ?_
    refine zt3 3 4 18 hHeld ?_
    refine zq 4 5 19 ?_
    refine zq 5 6 20 ?_
    refine zt3 6 7 21 hHeld ?_
    refine zq 7 8 22 ?_
    refine zt3 8 9 23 hHeld ?_
    refine zq 9 10 24 ?_
    refine zq 10 11 25 ?_
    refine zq 11 12 26 ?_
    refine done_ (by kernel_rfl) ?_
    clear hHeld q6 qy q4
    generalize wr.drew = wd at q8 qc fr HX HS ⊢
    go_wp2
    go_end0
    exact ⟨rfl, by rw [HFV.out]; exact HX.out⟩
def lakeStep (ls : List S95) (Y : Int) (vols rooms : List Int) (thaw year : Int) (s : Pt) (i : Nat) : Pt :=
 if rd s.years i < Y ∨ (thaw < (rd_T95 ls i).f1 ∧ rd s.come i ≤ rd rooms i) then s
 else ⟨(flowV ls Y ⟨s.years.set i year, s.come, s.out⟩ i (wrap64 (rd vols i + rd s.come i))).years, (flowV ls Y ⟨s.years.set i year, s.come, s.out⟩ i (wrap64 (rd vols i + rd s.come i))).come.set i 0, (flowV ls Y ⟨s.years.set i year, s.come, s.out⟩ i (wrap64 (rd vols i + rd s.come i))).out⟩
def yearTo (ls : List S95) (Y : Int) (vols rooms : List Int) (thaw year : Int) (s : Pt) (k : Nat) : Pt := (List.range k).foldl (lakeStep ls Y vols rooms thaw year) s
def pourTo (ls : List S95) (Y : Int) (thaws vols rooms : List Int) : Nat → Pt
 | 0 => ⟨List.replicate ls.length Y, List.replicate ls.length 0, 0⟩
 | y + 1 => yearTo ls Y vols rooms (rd thaws y) y (pourTo ls Y thaws vols rooms y) ls.length
def sum3 (a b c : Int) : Int := wrap64 (wrap64 (wrap64 (0 + a) + b) + c)
def keptTo (Y : Int) (vols : List Int) (s : Pt) : Nat → Int
 | 0 => 0
 | i + 1 => if rd s.years i = Y then sum3 (keptTo Y vols s i) (rd vols i) (rd s.come i) else keptTo Y vols s i
def pourV (ls : List S95) (Y : Int) (thaws vols rooms : List Int) : List Int × Int × Int :=
 ((pourTo ls Y thaws vols rooms thaws.length).years, (pourTo ls Y thaws vols rooms thaws.length).out, keptTo Y vols (pourTo ls Y thaws vols rooms thaws.length) ls.length)
theorem flowV_years (ls : List S95) (Y : Int) (s : Pt) (i : Nat) (x : Int) : (flowV ls Y s i x).years = s.years := by unfold flowV; split <;> rfl
theorem yearTo_succ (ls : List S95) (Y : Int) (vols rooms : List Int) (thaw year : Int) (s : Pt) (k : Nat) : yearTo ls Y vols rooms thaw year s (k + 1) = lakeStep ls Y vols rooms thaw year (yearTo ls Y vols rooms thaw year s k) k := by
 unfold yearTo
 rw [List.range_succ, List.foldl_append]
 rfl
theorem sum3_calls (a b c : Int) (g : Nat) (W : World) (h : W.heap[g]? = some (.cells #[.int .i64 a, .int .i64 b, .int .i64 c] 3 (0, 0))) :
  Calls Try.prog 81 #[.slice (some ⟨g, 0, none⟩) 3 3] W fun e w' => e = .returned (.int .i64 (sum3 a b c)) ∧ Below W.heap.size W w' := by
 have hc := C_blk (xs := [a, b, c]) h (by simp)
 have hf : seep_sum.f 4 [a, b, c] = some (sum3 a b c) := by
  unfold seep_sum.f sum3
  simp [seep_sum.l0, rd, wrap64]
 exact (seep_sum.calls 4 _ 3 [a, b, c] _ W hc (by simp) hf).mono fun e w' ⟨h1, h2⟩ => ⟨h1, h2.below⟩
theorem pour_calls (a0_0 : Int) (A0_1 : Option Addr) (c0_1 : Nat) (l0_1 : List S44) (A0_2 : Option Addr) (c0_2 : Nat) (l0_2 : List Int) (A0_3 : Option Addr) (c0_3 : Nat) (l0_3 : List Int) (A0_4 : Option Addr) (c0_4 : Nat) (l0_4 : List S41) (A0_5 : Option Addr) (c0_5 : Nat) (l0_5 : List S95) (A1_0 : Option Addr) (c1_0 : Nat) (l1_0 : List Int) (A1_1 : Option Addr) (c1_1 : Nat) (l1_1 : List Int) (A1_2 : Option Addr) (c1_2 : Nat) (l1_2 : List Int) (w : World) (hr0_1 : Kd.C k44 w A0_1 l0_1.length l0_1) (hc0_1 : l0_1.length ≤ c0_1) (hr0_2 : Kd.C (Kd.int .i64) w A0_2 l0_2.length l0_2) (hc0_2 : l0_2.length ≤ c0_2) (hr0_3 : Kd.C (Kd.int .i64) w A0_3 l0_3.length l0_3) (hc0_3 : l0_3.length ≤ c0_3) (hr0_4 : Kd.C k41 w A0_4 l0_4.length l0_4) (hc0_4 : l0_4.length ≤ c0_4) (hr0_5 : Kd.C k95 w A0_5 l0_5.length l0_5) (hc0_5 : l0_5.length ≤ c0_5) (hr1_0 : Kd.C (Kd.int .i64) w A1_0 l1_0.length l1_0) (hr1_1 : Kd.C (Kd.int .i64) w A1_1 l1_1.length l1_1) (hc1_1 : l1_1.length ≤ c1_1) (hr1_2 : Kd.C (Kd.int .i64) w A1_2 l1_2.length l1_2)
  (hV : ValidF a0_0 l0_1 l0_2 l0_3 l0_4 l0_5) (hv : l1_1.length = l0_5.length) (ho : l1_2.length = l0_5.length) (ht : l1_0.length = l0_4.length) (hvb : ∀ k : Nat, k < l1_1.length → 0 ≤ rd l1_1 k ∧ rd l1_1 k ≤ 1000000) (hn0 : 0 < l0_5.length) :
  Calls Try.prog 86 #[.agg #[.int .i64 a0_0, .slice A0_1 l0_1.length c0_1, .slice A0_2 l0_2.length c0_2, .slice A0_3 l0_3.length c0_3, .slice A0_4 l0_4.length c0_4, .slice A0_5 l0_5.length c0_5], .agg #[.slice A1_0 l1_0.length c1_0, .slice A1_1 l1_1.length c1_1, .slice A1_2 l1_2.length c1_2]] w fun e w' => ∃ v, e = .returned (.tuple #[v, .agg #[.int .i64 l1_1.sum, .int .i64 (pourV l0_5 l0_4.length l1_0 l1_1 l1_2).2.1, .int .i64 (pourV l0_5 l0_4.length l1_0 l1_1 l1_2).2.2]]) ∧ Kd.R (Kd.int .i64) 3 w' w.heap.size (fun _ => True) v (pourV l0_5 l0_4.length l1_0 l1_1 l1_2).1 ∧ Below w.heap.size w w' := by
 have hu27 := Try.underlying27
 have hu95 := Try.underlying95
 have hu70 := Try.underlying70
 have hu67 := Try.underlying67
 have hmf : ∀ (fn : Fn) (first cap : Array Value) (w : World), (Instr.makeFunc fn first cap).run Try.prog w = .ok (.func fn first cap) w := fun _ _ _ _ => rfl
 have HB := qab.mk (Below.refl w.heap.size w)
 have hb10 : l1_0.length ≤ 10 := by have := hV.n4; omega
 have hn5 := hV.n5
 have hn4 := hV.n4
 have HV := qab.mk hV
 have HR5 := qab.mk hr0_5
 have HT0 := qab.mk hr1_0
 have HT1 := qab.mk hr1_1
 have HT2 := qab.mk hr1_2
 have HVL := qab.mk hv
 have HOL := qab.mk ho
 have HTL := qab.mk ht
 have HSU : qab (∀ W, Below w.heap.size w W → Calls Try.prog 81 #[.slice A1_1 l1_1.length c1_1] W fun e w' => e = .returned (.int .i64 l1_1.sum) ∧ Below W.heap.size W w') := ⟨fun W hW => sumAll_calls A1_1 c1_1 l1_1 W (Kd.qai hr1_1 hW) hc1_1 hvb (by omega)⟩
 obtain ⟨all, hall⟩ : ∃ a, a = l1_1.sum := ⟨_, rfl⟩
 rw [← hall] at HSU ⊢
 clear hr0_1 hr0_2 hr0_3 hr0_4 hr0_5 hr1_0 hr1_1 hr1_2 hV hv ho ht hvb hall
 go_enter Try.func86, Try.ntmps86
 go_upto_region 1 with (first | ((with_reducible refine qam (N := 2) rfl ?_); refine ze 2 #[.int .i64 a0_0, .slice A0_1 l0_1.length c0_1, .slice A0_2 l0_2.length c0_2, .slice A0_3 l0_3.length c0_3, .slice A0_4 l0_4.length c0_4, .slice A0_5 l0_5.length c0_5] 27 ?_; intro gb hg_gb w2 hbox hb; have BKgb := qab.mk hbox; have n_HB := qab.mk (qae HB.out hb); have GEgb : w.heap.size ≤ gb := (by rw [hg_gb]; exact HB.out.size); clear HB; have HB := n_HB; clear n_HB; clear hbox hb hg_gb) | ((with_reducible refine qam (N := 3) rfl ?_); refine ze 3 #[.slice A1_0 l1_0.length c1_0, .slice A1_1 l1_1.length c1_1, .slice A1_2 l1_2.length c1_2] 67 ?_; intro gt hg_gt w3 hbox hb; have BKgt := qab.mk hbox; replace BKgb := qab.mk (qad BKgb.out hb); have n_HB := qab.mk (qae HB.out hb); have GEgt : w.heap.size ≤ gt := (by rw [hg_gt]; exact HB.out.size); clear HB; have HB := n_HB; clear n_HB; clear hbox hb hg_gt) | ((with_reducible refine qam (N := 5) rfl ?_); refine ze 5 #[.int .i64 0, .int .i64 0, .int .i64 0] 70 ?_; intro g5 hg_g5 w4 hbox hb; have BKg5 := qab.mk hbox; replace BKgb := qab.mk (qad BKgb.out hb); replace BKgt := qab.mk (qad BKgt.out hb); have n_HB := qab.mk (qae HB.out hb); have GEg5 : w.heap.size ≤ g5 := (by rw [hg_g5]; exact HB.out.size); clear HB; have HB := n_HB; clear n_HB; clear hbox hb hg_g5; obtain ⟨hfgb, hcgb_0, hcgb_1, hcgb_2, hcgb_3, hcgb_4, hcgb_5⟩ := qz6 BKgb.out; obtain ⟨hfgt, hcgt_0, hcgt_1, hcgt_2⟩ := qz3 BKgt.out; obtain ⟨hfg5, hcg5_0, hcg5_1, hcg5_2⟩ := qz3 BKg5.out))
 go_upto_region 2 with (first | ((with_reducible refine qam (N := 20) rfl ?_); refine Kd.R_make (Kd.int .i64) (w0 := w) w.heap.size 3 rfl (N := 20) rfl 23 _ _ rfl (l0_5.length : Int) rfl rfl Try.underlying23 (.int .i64 0) 8 info3 rfl (by decide) (by omega) (0 : Int) (ok := fun _ => True) (okp := fun _ => True) rfl (fun _ hk => hk) trivial (by omega) (by (try simp only [Int.toNat_natCast]); omega) HB.out HB.out.size ?_; intro v1 w5 ho hB hg_ hnew; (try clear hfgb hcgb_0 hcgb_1 hcgb_2 hcgb_3 hcgb_4 hcgb_5); (try clear hfgt hcgt_0 hcgt_1 hcgt_2); (try clear hfg5 hcg5_0 hcg5_1 hcg5_2); rw [Int.toNat_natCast] at ho; have hb : Below _ _ w5 := ⟨hg_.os, hg_.tape, hg_.output, hg_.size, fun k hk => hg_.block k hk (fun e => by cases e)⟩; obtain ⟨gy, cy, e, hgo, hgo2, _⟩ := Kd.R_form ho (by simp; omega); rw [List.length_replicate] at e; subst e; obtain ⟨b_, hb1_, hb2_⟩ := hnew; have hb3_ : gy = b_ := (by simpa [Value.ownBlock] using hb1_); subst hb3_; skip; have HY := qab.mk (Kd.R_mono (ok' := fun k => k = gy) (Kd.R_tight rfl ho) (fun k hk => by simpa [Value.ownBlock] using hk)); have HL_HY := qab.mk (And.intro hgo hgo2); replace BKgb := qab.mk (qad BKgb.out hb); replace BKgt := qab.mk (qad BKgt.out hb); replace BKg5 := qab.mk (qad BKg5.out hb); replace HB := qab.mk hB; clear hgo hgo2 ho hB hb hb1_ hb2_ hg_; obtain ⟨hfgb, hcgb_0, hcgb_1, hcgb_2, hcgb_3, hcgb_4, hcgb_5⟩ := qz6 BKgb.out; obtain ⟨hfgt, hcgt_0, hcgt_1, hcgt_2⟩ := qz3 BKgt.out) | ((with_reducible refine qam (N := 6) rfl ?_); refine ze 6 #[.slice none 0 0] 23 ?_; intro g6 hg_g6 w6 hbox hb; have BKg6 := qab.mk hbox; have ne_gb_g6 : gb ≠ g6 := (by rw [hg_g6]; exact Nat.ne_of_lt (blk_lt BKgb.out)); have ne_gt_g6 : gt ≠ g6 := (by rw [hg_g6]; exact Nat.ne_of_lt (blk_lt BKgt.out)); have ne_g5_g6 : g5 ≠ g6 := (by rw [hg_g6]; exact Nat.ne_of_lt (blk_lt BKg5.out)); replace BKgb := qab.mk (qad BKgb.out hb); replace BKgt := qab.mk (qad BKgt.out hb); replace BKg5 := qab.mk (qad BKg5.out hb); have n_HB := qab.mk (qae HB.out hb); have GEg6 : w.heap.size ≤ g6 := (by rw [hg_g6]; exact HB.out.size); clear HB; have HB := n_HB; clear n_HB; obtain ⟨hfg6, hcg6_0⟩ := qz1 BKg6.out; replace HY := qab.mk (Kd.qal HY.out hb); clear hbox hb hg_g6))
 (try clear hfgb hcgb_0 hcgb_1 hcgb_2 hcgb_3 hcgb_4 hcgb_5); (try clear hfgt hcgt_0 hcgt_1 hcgt_2); (try clear hfg5 hcg5_0 hcg5_1 hcg5_2)
 clear hfg6 hcg6_0
 have he_ : setAll w6 g6 [.slice (some ⟨gy, 0, none⟩) l0_5.length cy] 0 = (w6.setCell ⟨g6, 0, none⟩ (.slice (some ⟨gy, 0, none⟩) l0_5.length cy)) := rfl; have hbl := setAll_below GEg6 [.slice (some ⟨gy, 0, none⟩) l0_5.length cy] 0 _ HB.out; have hbx : (setAll w6 g6 [.slice (some ⟨gy, 0, none⟩) l0_5.length cy] 0).heap[g6]? = some (.cells #[.slice (some ⟨gy, 0, none⟩) l0_5.length cy] 23 (0, 0)) := setAll_new [.slice (some ⟨gy, 0, none⟩) l0_5.length cy] [.slice none 0 0] BKg6.out rfl; have hx_BKgb := setAll_far ne_gb_g6 [.slice (some ⟨gy, 0, none⟩) l0_5.length cy] 0 _ BKgb.out; have hx_BKgt := setAll_far ne_gt_g6 [.slice (some ⟨gy, 0, none⟩) l0_5.length cy] 0 _ BKgt.out; have hx_BKg5 := setAll_far ne_g5_g6 [.slice (some ⟨gy, 0, none⟩) l0_5.length cy] 0 _ BKg5.out; have hy_HY := setAll_R (g := g6) (by decide) [.slice (some ⟨gy, 0, none⟩) l0_5.length cy] 0 w6 _ BKg6.out HY.out; rw [he_] at hy_HY hbl hbx hx_BKgb hx_BKgt hx_BKg5; clear he_; generalize (w6.setCell ⟨g6, 0, none⟩ (.slice (some ⟨gy, 0, none⟩) l0_5.length cy)) = w7 at hy_HY hbl hbx hx_BKgb hx_BKgt hx_BKg5 ⊢; clear HB BKg6; have HB := qab.mk hbl; have BKg6 := qab.mk hbx; clear hbl hbx; clear BKgb; have BKgb := qab.mk hx_BKgb; clear hx_BKgb; clear BKgt; have BKgt := qab.mk hx_BKgt; clear hx_BKgt; clear BKg5; have BKg5 := qab.mk hx_BKg5; clear hx_BKg5; clear HY; have HY := qab.mk hy_HY; clear hy_HY
 have HY1 : qab ((Kd.int .i64).R 3 w7 w.heap.size (fun k => k = gy) (.slice (some ⟨gy, 0, none⟩) l0_5.length cy) (fillTo l0_5.length l0_4.length 0)) := ⟨by rw [fillTo_zero]; exact HY.out⟩
 have q6 : w7.cell? ⟨g6, 0, none⟩ = some (.slice (some ⟨gy, 0, none⟩) l0_5.length cy) := (qaa BKg6.out 0).trans rfl
 have hgy := HL_HY.out.1
 clear HY HL_HY
 go_wp2
 go_loopw [23] (fun s23 wr => ∃ k : Nat, k ≤ l0_5.length ∧ s23 = .int .i64 k ∧ qab ((Kd.int .i64).R 3 wr w.heap.size (fun k => k = gy) (.slice (some ⟨gy, 0, none⟩) l0_5.length cy) (fillTo l0_5.length l0_4.length k)) ∧ qab (wr.heap[gb]? = some (.cells #[.int .i64 a0_0, .slice A0_1 l0_1.length c0_1, .slice A0_2 l0_2.length c0_2, .slice A0_3 l0_3.length c0_3, .slice A0_4 l0_4.length c0_4, .slice A0_5 l0_5.length c0_5] 27 (0, 0))) ∧ qab (wr.heap[gt]? = some (.cells #[.slice A1_0 l1_0.length c1_0, .slice A1_1 l1_1.length c1_1, .slice A1_2 l1_2.length c1_2] 67 (0, 0))) ∧ qab (wr.heap[g5]? = some (.cells #[.int .i64 0, .int .i64 0, .int .i64 0] 70 (0, 0))) ∧ qab (wr.heap[g6]? = some (.cells #[.slice (some ⟨gy, 0, none⟩) l0_5.length cy] 23 (0, 0))) ∧ qab (Below w.heap.size w wr)) (fun s _ => l0_5.length - (intOf s).toNat)
 case atStart => exact ⟨0, by omega, rfl, HY1, BKgb, BKgt, BKg5, BKg6, HB⟩
 case round =>
  clear HY1 BKgb BKgt BKg5 BKg6 HB q6
  obtain ⟨k, hk, rfl, HY, BKgb, BKgt, BKg5, BKg6, HB⟩ := hrel
  have q6 : wr.cell? ⟨g6, 0, none⟩ = some (.slice (some ⟨gy, 0, none⟩) l0_5.length cy) := (qaa BKg6.out 0).trans rfl
  by_cases hlt : k < l0_5.length
  ·
   have qb4 : wr.cell? ⟨gb, 4, none⟩ = some (.slice A0_4 l0_4.length c0_4) := (qaa BKgb.out 4).trans rfl
   have qo := introw_at HY.out k hlt
   obtain ⟨_, cso, hbo⟩ := R_blk HY.out (by omega)
   have qf := qac hbo
   have N1 := qab.mk (blk_ne BKgb.out hbo (by decide))
   have N2 := qab.mk (blk_ne BKgt.out hbo (by decide))
   have N3 := qab.mk (blk_ne BKg5.out hbo (by decide))
   have N4 := qab.mk (blk_ne BKg6.out hbo (by decide))
   clear hbo
   go_wp2
   go_roundw
   case rel => exact ⟨k + 1, by omega, by go_num, ⟨by rw [← fillTo_succ l0_5.length l0_4.length k hlt]; exact Kd.R_putn HY.out (k : Int) (l0_4.length : Int)⟩, ⟨blk_far (p := ⟨gy, k, none⟩) BKgb.out N1.out _⟩, ⟨blk_far (p := ⟨gy, k, none⟩) BKgt.out N2.out _⟩, ⟨blk_far (p := ⟨gy, k, none⟩) BKg5.out N3.out _⟩, ⟨blk_far (p := ⟨gy, k, none⟩) BKg6.out N4.out _⟩, ⟨qaj HB.out hgy⟩⟩
   case measure => simp [intOf]; omega
  ·
   have hkE : k = l0_5.length := by omega
   have HY2 : qab ((Kd.int .i64).R 3 wr w.heap.size (fun k => k = gy) (.slice (some ⟨gy, 0, none⟩) l0_5.length cy) (List.replicate l0_5.length (l0_4.length : Int))) := ⟨by have h := HY.out; rwa [hkE, fillTo_all] at h⟩
   clear HY hkE
   have HY := HY2
   clear HY2
   have HGY : qab (gy < wr.heap.size) := ⟨by obtain ⟨_, cs, hb⟩ := R_blk HY.out (by simpa using hn0); exact blk_lt hb⟩
   have qb5 : wr.cell? ⟨gb, 5, none⟩ = some (.slice A0_5 l0_5.length c0_5) := (qaa BKgb.out 5).trans rfl
   go_upto_region 8 with (first | ((with_reducible refine qam (N := 36) rfl ?_); refine Kd.R_make (Kd.int .i64) (w0 := w) w.heap.size 3 rfl (N := 36) rfl 23 _ _ rfl (l0_5.length : Int) rfl rfl Try.underlying23 (.int .i64 0) 8 info3 rfl (by decide) (by omega) (0 : Int) (ok := fun _ => True) (okp := fun _ => True) rfl (fun _ hk => hk) trivial (by omega) (by (try simp only [Int.toNat_natCast]); omega) HB.out HB.out.size ?_; intro v2 w9 ho hB hg_ hnew; (try clear hfgb hcgb_0 hcgb_1 hcgb_2 hcgb_3 hcgb_4 hcgb_5); (try clear hfgt hcgt_0 hcgt_1 hcgt_2); (try clear hfg5 hcg5_0 hcg5_1 hcg5_2); rw [Int.toNat_natCast] at ho; have hb : Below _ _ w9 := ⟨hg_.os, hg_.tape, hg_.output, hg_.size, fun k hk => hg_.block k hk (fun e => by cases e)⟩; obtain ⟨gc, cc, e, hgo, hgo2, _⟩ := Kd.R_form ho (by simp; omega); rw [List.length_replicate] at e; subst e; obtain ⟨b_, hb1_, hb2_⟩ := hnew; have hb3_ : gc = b_ := (by simpa [Value.ownBlock] using hb1_); subst hb3_; have HNE : qab (gy ≠ gc) := ⟨by have := HGY.out; omega⟩; have HC := qab.mk (Kd.R_mono (ok' := fun k => k = gc) (Kd.R_tight rfl ho) (fun k hk => by simpa [Value.ownBlock] using hk)); have HL_HC := qab.mk (And.intro hgo hgo2); replace BKgb := qab.mk (qad BKgb.out hb); replace BKgt := qab.mk (qad BKgt.out hb); replace BKg5 := qab.mk (qad BKg5.out hb); replace BKg6 := qab.mk (qad BKg6.out hb); replace HY := qab.mk (Kd.qal HY.out hb); replace HB := qab.mk hB; clear hgo hgo2 ho hB hb hb1_ hb2_ hg_; obtain ⟨hfgb, hcgb_0, hcgb_1, hcgb_2, hcgb_3, hcgb_4, hcgb_5⟩ := qz6 BKgb.out; obtain ⟨hfgt, hcgt_0, hcgt_1, hcgt_2⟩ := qz3 BKgt.out) | ((with_reducible refine qam (N := 8) rfl ?_); refine ze 8 #[.slice none 0 0] 23 ?_; intro g8 hg_g8 w10 hbox hb; have BKg8 := qab.mk hbox; have ne_gb_g8 : gb ≠ g8 := (by rw [hg_g8]; exact Nat.ne_of_lt (blk_lt BKgb.out)); have ne_gt_g8 : gt ≠ g8 := (by rw [hg_g8]; exact Nat.ne_of_lt (blk_lt BKgt.out)); have ne_g5_g8 : g5 ≠ g8 := (by rw [hg_g8]; exact Nat.ne_of_lt (blk_lt BKg5.out)); have ne_g6_g8 : g6 ≠ g8 := (by rw [hg_g8]; exact Nat.ne_of_lt (blk_lt BKg6.out)); replace BKgb := qab.mk (qad BKgb.out hb); replace BKgt := qab.mk (qad BKgt.out hb); replace BKg5 := qab.mk (qad BKg5.out hb); replace BKg6 := qab.mk (qad BKg6.out hb); have n_HB := qab.mk (qae HB.out hb); have GEg8 : w.heap.size ≤ g8 := (by rw [hg_g8]; exact HB.out.size); clear HB; have HB := n_HB; clear n_HB; obtain ⟨hfg8, hcg8_0⟩ := qz1 BKg8.out; replace HY := qab.mk (Kd.qal HY.out hb); replace HC := qab.mk (Kd.qal HC.out hb); clear hbox hb hg_g8))
   clear hfg8 hcg8_0 q6 qb5
   (try clear hfgb hcgb_0 hcgb_1 hcgb_2 hcgb_3 hcgb_4 hcgb_5); (try clear hfgt hcgt_0 hcgt_1 hcgt_2); (try clear hfg5 hcg5_0 hcg5_1 hcg5_2)
   have he_ : setAll w10 g8 [.slice (some ⟨gc, 0, none⟩) l0_5.length cc] 0 = (w10.setCell ⟨g8, 0, none⟩ (.slice (some ⟨gc, 0, none⟩) l0_5.length cc)) := rfl; have hbl := setAll_below GEg8 [.slice (some ⟨gc, 0, none⟩) l0_5.length cc] 0 _ HB.out; have hbx : (setAll w10 g8 [.slice (some ⟨gc, 0, none⟩) l0_5.length cc] 0).heap[g8]? = some (.cells #[.slice (some ⟨gc, 0, none⟩) l0_5.length cc] 23 (0, 0)) := setAll_new [.slice (some ⟨gc, 0, none⟩) l0_5.length cc] [.slice none 0 0] BKg8.out rfl; have hx_BKgb := setAll_far ne_gb_g8 [.slice (some ⟨gc, 0, none⟩) l0_5.length cc] 0 _ BKgb.out; have hx_BKgt := setAll_far ne_gt_g8 [.slice (some ⟨gc, 0, none⟩) l0_5.length cc] 0 _ BKgt.out; have hx_BKg5 := setAll_far ne_g5_g8 [.slice (some ⟨gc, 0, none⟩) l0_5.length cc] 0 _ BKg5.out; have hx_BKg6 := setAll_far ne_g6_g8 [.slice (some ⟨gc, 0, none⟩) l0_5.length cc] 0 _ BKg6.out; have hy_HY := setAll_R (g := g8) (by decide) [.slice (some ⟨gc, 0, none⟩) l0_5.length cc] 0 w10 _ BKg8.out HY.out; have hy_HC := setAll_R (g := g8) (by decide) [.slice (some ⟨gc, 0, none⟩) l0_5.length cc] 0 w10 _ BKg8.out HC.out; rw [he_] at hy_HY hy_HC hbl hbx hx_BKgb hx_BKgt hx_BKg5 hx_BKg6; clear he_; generalize (w10.setCell ⟨g8, 0, none⟩ (.slice (some ⟨gc, 0, none⟩) l0_5.length cc)) = w11 at hy_HY hy_HC hbl hbx hx_BKgb hx_BKgt hx_BKg5 hx_BKg6 ⊢; clear HB BKg8; have HB := qab.mk hbl; have BKg8 := qab.mk hbx; clear hbl hbx; clear BKgb; have BKgb := qab.mk hx_BKgb; clear hx_BKgb; clear BKgt; have BKgt := qab.mk hx_BKgt; clear hx_BKgt; clear BKg5; have BKg5 := qab.mk hx_BKg5; clear hx_BKg5; clear BKg6; have BKg6 := qab.mk hx_BKg6; clear hx_BKg6; clear HY; have HY := qab.mk hy_HY; clear hy_HY; clear HC; have HC := qab.mk hy_HC; clear hy_HC
   have qt1 : w11.cell? ⟨gt, 1, none⟩ = some (.slice A1_1 l1_1.length c1_1) := (qaa BKgt.out 1).trans rfl
   go_upto_region 9 with (first | (go_at_call 81; (with_reducible refine (HSU.out _ HB.out).mono ?_); rintro e w12 ⟨rfl, hb⟩; replace HY := qab.mk (Kd.qal HY.out hb); replace HC := qab.mk (Kd.qal HC.out hb); replace BKgb := qab.mk (qad BKgb.out hb); replace BKgt := qab.mk (qad BKgt.out hb); replace BKg5 := qab.mk (qad BKg5.out hb); replace BKg6 := qab.mk (qad BKg6.out hb); replace BKg8 := qab.mk (qad BKg8.out hb); replace HB := qab.mk (qae HB.out hb); clear hb) | ((with_reducible refine qam (N := 9) rfl ?_); refine ze 9 #[.int .i64 0, .int .i64 0, .int .i64 0] 70 ?_; intro g9 hg_g9 w13 hbox hb; have BKg9 := qab.mk hbox; have ne_gb_g9 : gb ≠ g9 := (by rw [hg_g9]; exact Nat.ne_of_lt (blk_lt BKgb.out)); have ne_gt_g9 : gt ≠ g9 := (by rw [hg_g9]; exact Nat.ne_of_lt (blk_lt BKgt.out)); have ne_g5_g9 : g5 ≠ g9 := (by rw [hg_g9]; exact Nat.ne_of_lt (blk_lt BKg5.out)); have ne_g6_g9 : g6 ≠ g9 := (by rw [hg_g9]; exact Nat.ne_of_lt (blk_lt BKg6.out)); have ne_g8_g9 : g8 ≠ g9 := (by rw [hg_g9]; exact Nat.ne_of_lt (blk_lt BKg8.out)); replace BKgb := qab.mk (qad BKgb.out hb); replace BKgt := qab.mk (qad BKgt.out hb); replace BKg5 := qab.mk (qad BKg5.out hb); replace BKg6 := qab.mk (qad BKg6.out hb); replace BKg8 := qab.mk (qad BKg8.out hb); have n_HB := qab.mk (qae HB.out hb); have GEg9 : w.heap.size ≤ g9 := (by rw [hg_g9]; exact HB.out.size); clear HB; have HB := n_HB; clear n_HB; obtain ⟨hfg9, hcg9_0, hcg9_1, hcg9_2⟩ := qz3 BKg9.out; replace HY := qab.mk (Kd.qal HY.out hb); replace HC := qab.mk (Kd.qal HC.out hb); clear hbox hb hg_g9))
   clear hfg9 hcg9_0 hcg9_1 hcg9_2 qt1
   have he_ : setAll w13 g9 [.int .i64 all, .int .i64 0, .int .i64 0] 0 = (((w13.setCell ⟨g9, 0, none⟩ (.int .i64 all)).setCell ⟨g9, 1, none⟩ (.int .i64 0)).setCell ⟨g9, 2, none⟩ (.int .i64 0)) := rfl; have hbl := setAll_below GEg9 [.int .i64 all, .int .i64 0, .int .i64 0] 0 _ HB.out; have hbx : (setAll w13 g9 [.int .i64 all, .int .i64 0, .int .i64 0] 0).heap[g9]? = some (.cells #[.int .i64 all, .int .i64 0, .int .i64 0] 70 (0, 0)) := setAll_new [.int .i64 all, .int .i64 0, .int .i64 0] [.int .i64 0, .int .i64 0, .int .i64 0] BKg9.out rfl; have hx_BKgb := setAll_far ne_gb_g9 [.int .i64 all, .int .i64 0, .int .i64 0] 0 _ BKgb.out; have hx_BKgt := setAll_far ne_gt_g9 [.int .i64 all, .int .i64 0, .int .i64 0] 0 _ BKgt.out; have hx_BKg5 := setAll_far ne_g5_g9 [.int .i64 all, .int .i64 0, .int .i64 0] 0 _ BKg5.out; have hx_BKg6 := setAll_far ne_g6_g9 [.int .i64 all, .int .i64 0, .int .i64 0] 0 _ BKg6.out; have hx_BKg8 := setAll_far ne_g8_g9 [.int .i64 all, .int .i64 0, .int .i64 0] 0 _ BKg8.out; have hy_HY := setAll_R (g := g9) (by decide) [.int .i64 all, .int .i64 0, .int .i64 0] 0 w13 _ BKg9.out HY.out; have hy_HC := setAll_R (g := g9) (by decide) [.int .i64 all, .int .i64 0, .int .i64 0] 0 w13 _ BKg9.out HC.out; rw [he_] at hy_HY hy_HC hbl hbx hx_BKgb hx_BKgt hx_BKg5 hx_BKg6 hx_BKg8; clear he_; generalize (((w13.setCell ⟨g9, 0, none⟩ (.int .i64 all)).setCell ⟨g9, 1, none⟩ (.int .i64 0)).setCell ⟨g9, 2, none⟩ (.int .i64 0)) = w14 at hy_HY hy_HC hbl hbx hx_BKgb hx_BKgt hx_BKg5 hx_BKg6 hx_BKg8 ⊢; clear HB BKg9; have HB := qab.mk hbl; have BKg9 := qab.mk hbx; clear hbl hbx; clear BKgb; have BKgb := qab.mk hx_BKgb; clear hx_BKgb; clear BKgt; have BKgt := qab.mk hx_BKgt; clear hx_BKgt; clear BKg5; have BKg5 := qab.mk hx_BKg5; clear hx_BKg5; clear BKg6; have BKg6 := qab.mk hx_BKg6; clear hx_BKg6; clear BKg8; have BKg8 := qab.mk hx_BKg8; clear hx_BKg8; clear HY; have HY := qab.mk hy_HY; clear hy_HY; clear HC; have HC := qab.mk hy_HC; clear hy_HC
   have HS : qab (PS w gb gt g5 g6 g8 g9 gy gc cy cc l0_5.length #[.int .i64 a0_0, .slice A0_1 l0_1.length c0_1, .slice A0_2 l0_2.length c0_2, .slice A0_3 l0_3.length c0_3, .slice A0_4 l0_4.length c0_4, .slice A0_5 l0_5.length c0_5] #[.slice A1_0 l1_0.length c1_0, .slice A1_1 l1_1.length c1_1, .slice A1_2 l1_2.length c1_2] all 0 (pourTo l0_5 l0_4.length l1_0 l1_1 l1_2 0) w14) := ⟨⟨HB.out, BKgb.out, BKgt.out, BKg6.out, BKg8.out, BKg9.out, BKg5.out, ne_g5_g9, GEg5, HY.out, HC.out, HNE.out, GEg9, ⟨hgy, by obtain ⟨_, cs, hb⟩ := R_blk HY.out (by simpa using hn0); exact blk_lt hb⟩, ⟨HL_HC.out.1, by obtain ⟨_, cs, hb⟩ := R_blk HC.out (by simpa using hn0); exact blk_lt hb⟩, by simp [pourTo], by simp [pourTo]⟩⟩
   clear HY HC BKgb BKgt BKg5 BKg6 BKg8 BKg9 HNE HGY HL_HC HB ne_gb_g9 ne_gt_g9 ne_g5_g9 ne_g6_g9 ne_g8_g9 ne_gb_g8 ne_gt_g8 ne_g5_g8 ne_g6_g8
   obtain ⟨a5, e, _⟩ := at_T95 HR5.out 0 (by omega) (by omega)
   cases e
   obtain ⟨a0, e, _⟩ := Kd.at_int HT0.out 0 (by omega) (by have := HTL.out; omega)
   cases e
   obtain ⟨a1, e, _⟩ := Kd.at_int HT1.out 0 (by omega) (by have := HVL.out; omega)
   cases e
   obtain ⟨a2, e, _⟩ := Kd.at_int HT2.out 0 (by omega) (by have := HOL.out; omega)
   cases e
   have HPC : qab (∀ (W : World) (i : Nat) (water : Int) (s : Pt), i < l0_5.length → PS w gb gt g5 g6 g8 g9 gy gc cy cc l0_5.length #[.int .i64 a0_0, .slice A0_1 l0_1.length c0_1, .slice A0_2 l0_2.length c0_2, .slice A0_3 l0_3.length c0_3, .slice A0_4 l0_4.length c0_4, .slice (some a5) l0_5.length c0_5] #[.slice (some a0) l1_0.length c1_0, .slice (some a1) l1_1.length c1_1, .slice (some a2) l1_2.length c1_2] all 0 s W → Calls Try.prog 106 #[.int .i64 (i : Int), .int .i64 water, .pointer (some ⟨gb, 0, none⟩), .pointer (some ⟨g6, 0, none⟩), .pointer (some ⟨g9, 0, none⟩), .pointer (some ⟨g8, 0, none⟩)] W fun e w' => e = .returned (.tuple #[]) ∧ PS w gb gt g5 g6 g8 g9 gy gc cy cc l0_5.length #[.int .i64 a0_0, .slice A0_1 l0_1.length c0_1, .slice A0_2 l0_2.length c0_2, .slice A0_3 l0_3.length c0_3, .slice A0_4 l0_4.length c0_4, .slice (some a5) l0_5.length c0_5] #[.slice (some a0) l1_0.length c1_0, .slice (some a1) l1_1.length c1_1, .slice (some a2) l1_2.length c1_2] all 0 (flowV l0_5 l0_4.length s i water) w') := ⟨fun W i water s hi h => pour1_calls gb gt g5 g6 g8 g9 gy gc cy cc _ _ _ _ A0_4 l0_4.length c0_4 (some a5) c0_5 l0_5 _ all 0 s i water w W HR5.out (fun k hk => (HV.out.l k hk).1) hi (by omega) h⟩
   have qt0 : w14.cell? ⟨gt, 0, none⟩ = some (.slice (some a0) l1_0.length c1_0) := (qaa HS.out.t 0).trans rfl
   go_wp2
   clear qt0
   go_loopw [45] (fun s45 wr => ∃ y : Nat, y ≤ l1_0.length ∧ s45 = .int .i64 y ∧ qab (PS w gb gt g5 g6 g8 g9 gy gc cy cc l0_5.length #[.int .i64 a0_0, .slice A0_1 l0_1.length c0_1, .slice A0_2 l0_2.length c0_2, .slice A0_3 l0_3.length c0_3, .slice A0_4 l0_4.length c0_4, .slice (some a5) l0_5.length c0_5] #[.slice (some a0) l1_0.length c1_0, .slice (some a1) l1_1.length c1_1, .slice (some a2) l1_2.length c1_2] all 0 (pourTo l0_5 l0_4.length l1_0 l1_1 l1_2 y) wr)) (fun s _ => l1_0.length - (intOf s).toNat)
   case atStart => exact ⟨0, by omega, rfl, HS⟩
   case round =>
    clear HS
    obtain ⟨y, hy, rfl, HS⟩ := hrel
    by_cases hly : y < l1_0.length
    ·
     obtain ⟨_, e, q⟩ := Kd.at_int HT0.out y (by omega) (by omega)
     cases e
     replace q := (HS.out.hb.cell (World.block_lt_of_cell? w _ q)).trans q
     simp only [Int.toNat_natCast] at q
     have qb5 : wr.cell? ⟨gb, 5, none⟩ = some (.slice (some a5) l0_5.length c0_5) := (qaa HS.out.b 5).trans rfl
     have HPY : qab (pourTo l0_5 l0_4.length l1_0 l1_1 l1_2 (y + 1) = yearTo l0_5 l0_4.length l1_1 l1_2 (rd l1_0 y) y (pourTo l0_5 l0_4.length l1_0 l1_1 l1_2 y) l0_5.length) := ⟨rfl⟩
     generalize pourTo l0_5 l0_4.length l1_0 l1_1 l1_2 y = s0 at HS HPY
     generalize rd l1_0 y = th at q HPY
     go_wp2
     clear q qb5
     go_loopw [53] (fun s53 wr => ∃ i : Nat, i ≤ l0_5.length ∧ s53 = .int .i64 i ∧ qab (PS w gb gt g5 g6 g8 g9 gy gc cy cc l0_5.length #[.int .i64 a0_0, .slice A0_1 l0_1.length c0_1, .slice A0_2 l0_2.length c0_2, .slice A0_3 l0_3.length c0_3, .slice A0_4 l0_4.length c0_4, .slice (some a5) l0_5.length c0_5] #[.slice (some a0) l1_0.length c1_0, .slice (some a1) l1_1.length c1_1, .slice (some a2) l1_2.length c1_2] all 0 (yearTo l0_5 l0_4.length l1_1 l1_2 th y s0 i) wr)) (fun s _ => l0_5.length - (intOf s).toNat)
     case atStart => exact ⟨0, by omega, rfl, HS⟩
     case round =>
      clear HS
      obtain ⟨i, hi, rfl, HS⟩ := hrel
      obtain ⟨W0, rfl⟩ : ∃ W0, W0 = wr := ⟨_, rfl⟩
      by_cases hli : i < l0_5.length
      ·
       obtain ⟨_, e, z0, z1, z2, z3, z4, z5⟩ := at_T95 HR5.out i (by omega) (by omega)
       cases e
       simp only [Int.toNat_natCast] at z0 z1 z2 z3 z4 z5
       replace z0 := (HS.out.hb.cell (World.block_lt_of_cell? w _ z0)).trans z0
       replace z1 := (HS.out.hb.cell (World.block_lt_of_cell? w _ z1)).trans z1
       replace z2 := (HS.out.hb.cell (World.block_lt_of_cell? w _ z2)).trans z2
       replace z3 := (HS.out.hb.cell (World.block_lt_of_cell? w _ z3)).trans z3
       replace z4 := (HS.out.hb.cell (World.block_lt_of_cell? w _ z4)).trans z4
       replace z5 := (HS.out.hb.cell (World.block_lt_of_cell? w _ z5)).trans z5
       have HYT : qab (yearTo l0_5 l0_4.length l1_1 l1_2 th y s0 (i + 1) = lakeStep l0_5 l0_4.length l1_1 l1_2 th y (yearTo l0_5 l0_4.length l1_1 l1_2 th y s0 i) i) := ⟨yearTo_succ _ _ _ _ _ _ _ _⟩
       generalize yearTo l0_5 l0_4.length l1_1 l1_2 th y s0 i = s at HS HYT
       obtain ⟨rim, hrim⟩ : ∃ r, r = (rd_T95 l0_5 i).f1 := ⟨_, rfl⟩
       have HRIM := qab.mk hrim
       rw [← hrim] at z1
       generalize (rd_T95 l0_5 i).f0 = k0 at z0
       generalize (rd_T95 l0_5 i).f2.f0 = k2 at z2
       generalize (rd_T95 l0_5 i).f2.f1 = k3 at z3
       generalize (rd_T95 l0_5 i).f3.f0 = k4 at z4
       generalize (rd_T95 l0_5 i).f3.f1 = k5 at z5
       have HBW := qab.mk (Below.refl W0.heap.size W0)
       clear hrim
       go_upto_region 16 with ((with_reducible refine qam (N := 14) rfl ?_); refine ze 14 #[.int .i64 0, .int .i64 0, .int .i64 0, .int .i64 0, .int .i64 0, .int .i64 0] 95 ?_; intro ge hg_ge w4_ hbox hb; have BKge := qab.mk hbox; have n_HB := qab.mk (qae HBW.out hb); have GEge : W0.heap.size ≤ ge := (by rw [hg_ge]; exact HBW.out.size); clear HBW; have HBW := n_HB; clear n_HB; obtain ⟨hfge, hcge_0, hcge_1, hcge_2, hcge_3, hcge_4, hcge_5⟩ := qz6 BKge.out; clear hbox hb hg_ge)
       clear z0 z1 z2 z3 z4 z5 hfge hcge_0 hcge_1 hcge_2 hcge_3 hcge_4 hcge_5
       have he_ : setAll w4_ ge [.int .i64 k0, .int .i64 rim, .int .i64 k2, .int .i64 k3, .int .i64 k4, .int .i64 k5] 0 = ((((((w4_.setCell ⟨ge, 0, none⟩ (.int .i64 k0)).setCell ⟨ge, 1, none⟩ (.int .i64 rim)).setCell ⟨ge, 2, none⟩ (.int .i64 k2)).setCell ⟨ge, 3, none⟩ (.int .i64 k3)).setCell ⟨ge, 4, none⟩ (.int .i64 k4)).setCell ⟨ge, 5, none⟩ (.int .i64 k5)) := rfl; have hbl := setAll_below GEge [.int .i64 k0, .int .i64 rim, .int .i64 k2, .int .i64 k3, .int .i64 k4, .int .i64 k5] 0 _ HBW.out; have hbx : (setAll w4_ ge [.int .i64 k0, .int .i64 rim, .int .i64 k2, .int .i64 k3, .int .i64 k4, .int .i64 k5] 0).heap[ge]? = some (.cells #[.int .i64 k0, .int .i64 rim, .int .i64 k2, .int .i64 k3, .int .i64 k4, .int .i64 k5] 95 (0, 0)) := setAll_new [.int .i64 k0, .int .i64 rim, .int .i64 k2, .int .i64 k3, .int .i64 k4, .int .i64 k5] [.int .i64 0, .int .i64 0, .int .i64 0, .int .i64 0, .int .i64 0, .int .i64 0] BKge.out rfl; rw [he_] at hbl hbx ; clear he_; generalize ((((((w4_.setCell ⟨ge, 0, none⟩ (.int .i64 k0)).setCell ⟨ge, 1, none⟩ (.int .i64 rim)).setCell ⟨ge, 2, none⟩ (.int .i64 k2)).setCell ⟨ge, 3, none⟩ (.int .i64 k3)).setCell ⟨ge, 4, none⟩ (.int .i64 k4)).setCell ⟨ge, 5, none⟩ (.int .i64 k5)) = w5_ at hbl hbx  ⊢; clear HBW BKge; have HBW := qab.mk hbl; have BKge := qab.mk hbx; clear hbl hbx
       have HS5 := qab.mk (HS.out.below HBW.out)
       have hip : i < l1_2.length := by have := HOL.out; omega
       have hiv : i < l1_1.length := by have := HVL.out; omega
       obtain ⟨_, e, z7⟩ := Kd.at_int HT2.out i (by omega) (by omega)
       cases e
       obtain ⟨_, e, qv⟩ := Kd.at_int HT1.out i (by omega) (by omega)
       cases e
       simp only [Int.toNat_natCast] at z7 qv
       replace z7 := (HS5.out.hb.cell (World.block_lt_of_cell? w _ z7)).trans z7
       obtain ⟨yi, hyi⟩ : ∃ x, x = rd s.years i := ⟨_, rfl⟩
       obtain ⟨ci, hci⟩ : ∃ x, x = rd s.come i := ⟨_, rfl⟩
       obtain ⟨ri, hri⟩ : ∃ x, x = rd l1_2 i := ⟨_, rfl⟩
       obtain ⟨vi, hvi⟩ : ∃ x, x = rd l1_1 i := ⟨_, rfl⟩
       have z0 : w5_.cell? ⟨g6, 0, none⟩ = some (.slice (some ⟨gy, 0, none⟩) l0_5.length cy) := (qaa HS5.out.x6 0).trans rfl
       have z1 : w5_.cell? ⟨gy, i, none⟩ = some (.int .i64 yi) := by rw [hyi]; exact introw_at HS5.out.y i (by have := HS5.out.ny; omega)
       have z2 : w5_.cell? ⟨gb, 4, none⟩ = some (.slice A0_4 l0_4.length c0_4) := (qaa HS5.out.b 4).trans rfl
       have z3 : w5_.cell? ⟨ge, 1, none⟩ = some (.int .i64 rim) := (qaa BKge.out 1).trans rfl
       have z4 : w5_.cell? ⟨g8, 0, none⟩ = some (.slice (some ⟨gc, 0, none⟩) l0_5.length cc) := (qaa HS5.out.x8 0).trans rfl
       have z5 : w5_.cell? ⟨gc, i, none⟩ = some (.int .i64 ci) := by rw [hci]; exact introw_at HS5.out.c i (by have := HS5.out.nc; omega)
       have z6 : w5_.cell? ⟨gt, 2, none⟩ = some (.slice (some a2) l1_2.length c1_2) := (qaa HS5.out.t 2).trans rfl
       rw [← hri] at z7
       rw [← hvi] at qv
       have QV := qab.mk qv
       have HCI := qab.mk hci
       obtain ⟨s2, hs2⟩ : ∃ s2, s2 = flowV l0_5 l0_4.length ⟨s.years.set i y, s.come, s.out⟩ i (wrap64 (vi + ci)) := ⟨_, rfl⟩
       have HPCi : qab (∀ W, PS w gb gt g5 g6 g8 g9 gy gc cy cc l0_5.length #[.int .i64 a0_0, .slice A0_1 l0_1.length c0_1, .slice A0_2 l0_2.length c0_2, .slice A0_3 l0_3.length c0_3, .slice A0_4 l0_4.length c0_4, .slice (some a5) l0_5.length c0_5] #[.slice (some a0) l1_0.length c1_0, .slice (some a1) l1_1.length c1_1, .slice (some a2) l1_2.length c1_2] all 0 ⟨s.years.set i (y : Int), s.come, s.out⟩ W → Calls Try.prog 106 #[.int .i64 (i : Int), .int .i64 (wrap64 (vi + ci)), .pointer (some ⟨gb, 0, none⟩), .pointer (some ⟨g6, 0, none⟩), .pointer (some ⟨g9, 0, none⟩), .pointer (some ⟨g8, 0, none⟩)] W fun e w' => e = .returned (.tuple #[]) ∧ PS w gb gt g5 g6 g8 g9 gy gc cy cc l0_5.length #[.int .i64 a0_0, .slice A0_1 l0_1.length c0_1, .slice A0_2 l0_2.length c0_2, .slice A0_3 l0_3.length c0_3, .slice A0_4 l0_4.length c0_4, .slice (some a5) l0_5.length c0_5] #[.slice (some a0) l1_0.length c1_0, .slice (some a1) l1_1.length c1_1, .slice (some a2) l1_2.length c1_2] all 0 s2 w') := ⟨fun W h => by rw [hs2]; exact HPC.out W i (wrap64 (vi + ci)) _ hli h⟩
       have HLS : qab (lakeStep l0_5 l0_4.length l1_1 l1_2 th y s i = if yi < (l0_4.length : Int) ∨ (th < rim ∧ ci ≤ ri) then s else ⟨s2.years, s2.come.set i 0, s2.out⟩) := ⟨by rw [hs2, hyi, hci, hri, hvi, HRIM.out]; rfl⟩
       clear qv hyi hci hri hvi hs2
       by_cases hc1 : yi < (l0_4.length : Int)
       ·
        have hb1 : decide (yi < (l0_4.length : Int)) = true := decide_eq_true hc1
        have HSTEP : qab (yearTo l0_5 l0_4.length l1_1 l1_2 th y s0 (i + 1) = s) := ⟨by rw [HYT.out, HLS.out, if_pos (.inl hc1)]⟩
        clear hc1
        refine start_ (n := 26) (S := (fun w' => (w'.cell? ⟨g6, 0, none⟩ = some (.slice (some ⟨gy, 0, none⟩) l0_5.length cy) ∧ w'.cell? ⟨gy, i, none⟩ = some (.int .i64 yi) ∧ w'.cell? ⟨gb, 4, none⟩ = some (.slice A0_4 l0_4.length c0_4) ∧ w'.cell? ⟨ge, 1, none⟩ = some (.int .i64 rim) ∧ w'.cell? ⟨g8, 0, none⟩ = some (.slice (some ⟨gc, 0, none⟩) l0_5.length cc) ∧ w'.cell? ⟨gc, i, none⟩ = some (.int .i64 ci) ∧ w'.cell? ⟨gt, 2, none⟩ = some (.slice (some a2) l1_2.length c1_2) ∧ w'.cell? (a2.add i) = some (.int .i64 ri)))) (ds := []) (msk 26 0) (by kernel_rfl) rfl rfl ⟨z0, z1, z2, z3, z4, z5, z6, z7⟩ (fun hHeld => ?_)
        refine zt8 0 1 58 hHeld ?_
        refine zq 1 2 59 ?_
        refine zq 2 3 60 ?_
        refine zt8 3 4 61 hHeld ?_
        refine zq 4 5 62 ?_
        refine zt8 5 6 63 hHeld ?_
        refine zq 6 7 64 ?_
        refine zq 7 8 65 ?_
        refine zq 8 9 66 ?_
        refine zo 9 10 67 ?_
        refine zo 10 11 68 ?_
        refine zo 11 12 69 ?_
        refine zo 12 13 70 ?_
        refine zo 13 14 71 ?_
        refine zo 14 15 72 ?_
        refine zo 15 16 73 ?_
        refine zo 16 17 74 ?_
        refine zo 17 18 75 ?_
        refine zo 18 19 76 ?_
        refine zo 19 20 77 ?_
        refine zo 20 21 78 ?_
        refine zo 21 22 79 ?_
        refine zo 22 23 80 ?_
        refine zo 23 24 81 ?_
        refine zo 24 25 82 ?_
        refine zq 25 26 83 ?_
        refine done_ (by kernel_rfl) ?_
        have HS6 := qab.mk (HS5.out.below (qaq (Below.refl _ _)))
        generalize w5_.drew = we at HS6 ⊢
        clear hHeld z0 z1 z2 z3 z4 z5 z6 z7
        go_wp2
        go_roundw
        case rel => exact ⟨i + 1, by omega, by go_num, ⟨by rw [HSTEP.out]; exact HS6.out⟩⟩
        case measure => simp [intOf]; omega
       ·
        have hb1 : decide (yi < (l0_4.length : Int)) = false := decide_eq_false hc1
        by_cases hc2 : th < rim
        ·
         have hb2 : decide (th < rim) = true := decide_eq_true hc2
         by_cases hc3 : ci ≤ ri
         ·
          have hb3 : decide (ci ≤ ri) = true := decide_eq_true hc3
          have HSTEP : qab (yearTo l0_5 l0_4.length l1_1 l1_2 th y s0 (i + 1) = s) := ⟨by rw [HYT.out, HLS.out, if_pos (.inr ⟨hc2, hc3⟩)]⟩
          clear hc1 hc2 hc3
          refine start_ (n := 26) (S := (fun w' => (w'.cell? ⟨g6, 0, none⟩ = some (.slice (some ⟨gy, 0, none⟩) l0_5.length cy) ∧ w'.cell? ⟨gy, i, none⟩ = some (.int .i64 yi) ∧ w'.cell? ⟨gb, 4, none⟩ = some (.slice A0_4 l0_4.length c0_4) ∧ w'.cell? ⟨ge, 1, none⟩ = some (.int .i64 rim) ∧ w'.cell? ⟨g8, 0, none⟩ = some (.slice (some ⟨gc, 0, none⟩) l0_5.length cc) ∧ w'.cell? ⟨gc, i, none⟩ = some (.int .i64 ci) ∧ w'.cell? ⟨gt, 2, none⟩ = some (.slice (some a2) l1_2.length c1_2) ∧ w'.cell? (a2.add i) = some (.int .i64 ri)))) (ds := []) (msk 26 0) (by kernel_rfl) rfl rfl ⟨z0, z1, z2, z3, z4, z5, z6, z7⟩ (fun hHeld => ?_)
          refine zt8 0 1 58 hHeld ?_
          refine zq 1 2 59 ?_
          refine zq 2 3 60 ?_
          refine zt8 3 4 61 hHeld ?_
          refine zq 4 5 62 ?_
          refine zt8 5 6 63 hHeld ?_
          refine zq 6 7 64 ?_
          refine zq 7 8 65 ?_
          refine zq 8 9 66 ?_
          refine zq 9 10 67 ?_
          refine zq 10 11 68 ?_
          refine zt8 11 12 69 hHeld ?_
          refine zq 12 13 70 ?_
          refine zq 13 14 71 ?_
          refine zt8 14 15 72 hHeld ?_
          refine zq 15 16 73 ?_
          refine zq 16 17 74 ?_
          refine zt8 17 18 75 hHeld ?_
          refine zq 18 19 76 ?_
          refine zt8 19 20 77 hHeld ?_
          refine zq 20 21 78 ?_
          refine zq 21 22 79 ?_
          refine zt8 22 23 80 hHeld ?_
          refine zq 23 24 81 ?_
          refine zq 24 25 82 ?_
          refine zq 25 26 83 ?_
          refine done_ (by kernel_rfl) ?_
          have HS6 := qab.mk (HS5.out.below (qaq (Below.refl _ _)))
          generalize w5_.drew = we at HS6 ⊢
          clear hHeld z0 z1 z2 z3 z4 z5 z6 z7
          go_wp2
          go_roundw
          case rel => exact ⟨i + 1, by omega, by go_num, ⟨by rw [HSTEP.out]; exact HS6.out⟩⟩
          case measure => simp [intOf]; omega
         ·
          have hb3 : decide (ci ≤ ri) = false := decide_eq_false hc3
          have HSTEP : qab (yearTo l0_5 l0_4.length l1_1 l1_2 th y s0 (i + 1) = ⟨s2.years, s2.come.set i 0, s2.out⟩) := ⟨by rw [HYT.out, HLS.out, if_neg (fun h => h.elim hc1 (fun h => hc3 h.2))]⟩
          clear hc1 hc2 hc3
          refine start_ (n := 26) (S := (fun w' => (w'.cell? ⟨g6, 0, none⟩ = some (.slice (some ⟨gy, 0, none⟩) l0_5.length cy) ∧ w'.cell? ⟨gy, i, none⟩ = some (.int .i64 yi) ∧ w'.cell? ⟨gb, 4, none⟩ = some (.slice A0_4 l0_4.length c0_4) ∧ w'.cell? ⟨ge, 1, none⟩ = some (.int .i64 rim) ∧ w'.cell? ⟨g8, 0, none⟩ = some (.slice (some ⟨gc, 0, none⟩) l0_5.length cc) ∧ w'.cell? ⟨gc, i, none⟩ = some (.int .i64 ci) ∧ w'.cell? ⟨gt, 2, none⟩ = some (.slice (some a2) l1_2.length c1_2) ∧ w'.cell? (a2.add i) = some (.int .i64 ri)))) (ds := []) (msk 26 0) (by kernel_rfl) rfl rfl ⟨z0, z1, z2, z3, z4, z5, z6, z7⟩ (fun hHeld => ?_)
          refine zt8 0 1 58 hHeld ?_
          refine zq 1 2 59 ?_
          refine zq 2 3 60 ?_
          refine zt8 3 4 61 hHeld ?_
          refine zq 4 5 62 ?_
          refine zt8 5 6 63 hHeld ?_
          refine zq 6 7 64 ?_
          refine zq 7 8 65 ?_
          refine zq 8 9 66 ?_
          refine zq 9 10 67 ?_
          refine zq 10 11 68 ?_
          refine zt8 11 12 69 hHeld ?_
          refine zq 12 13 70 ?_
          refine zq 13 14 71 ?_
          refine zt8 14 15 72 hHeld ?_
          refine zq 15 16 73 ?_
          refine zq 16 17 74 ?_
          refine zt8 17 18 75 hHeld ?_
          refine zq 18 19 76 ?_
          refine zt8 19 20 77 hHeld ?_
          refine zq 20 21 78 ?_
          refine zq 21 22 79 ?_
          refine zt8 22 23 80 hHeld ?_
          refine zq 23 24 81 ?_
          refine zq 24 25 82 ?_
          refine zq 25 26 83 ?_
          refine done_ (by kernel_rfl) ?_
          have HS5b := qab.mk (HS5.out.below (qaq (Below.refl _ _)))
          generalize w5_.drew = we0 at HS5b ⊢
          clear hHeld z0 z1 z2 z3 z4 z5 z6 z7
          have u0 : we0.cell? ⟨g6, 0, none⟩ = some (.slice (some ⟨gy, 0, none⟩) l0_5.length cy) := (qaa HS5b.out.x6 0).trans rfl
          have u1 := introw_at HS5b.out.y i (by have := HS5b.out.ny; omega)
          obtain ⟨_, cs_, hbl_⟩ := R_blk HS5b.out.y (by have := HS5b.out.ny; omega)
          have fry := qac hbl_
          clear hbl_
          go_upto_region 18 with fail
          have HS6 := qab.mk (HS5b.out.putY hn0 i (y : Int))
          clear u0 u1 fry
          generalize we0.setCell ⟨gy, i, none⟩ (.int .i64 (y : Int)) = we at HS6 ⊢
          have y0 : we.cell? ⟨gt, 1, none⟩ = some (.slice (some a1) l1_1.length c1_1) := (qaa HS6.out.t 1).trans rfl
          have y1 : we.cell? (a1.add i) = some (.int .i64 vi) := (HS6.out.hb.cell (World.block_lt_of_cell? w _ QV.out)).trans QV.out
          have y2 : we.cell? ⟨g8, 0, none⟩ = some (.slice (some ⟨gc, 0, none⟩) l0_5.length cc) := (qaa HS6.out.x8 0).trans rfl
          have y3 : we.cell? ⟨gc, i, none⟩ = some (.int .i64 ci) := by rw [HCI.out]; exact introw_at HS6.out.c i (by have := HS6.out.nc; omega)
          clear HS5 HS5b
          refine start_ (n := 13) (S := (fun w' => (w'.cell? ⟨gt, 1, none⟩ = some (.slice (some a1) l1_1.length c1_1) ∧ w'.cell? (a1.add i) = some (.int .i64 vi) ∧ w'.cell? ⟨g8, 0, none⟩ = some (.slice (some ⟨gc, 0, none⟩) l0_5.length cc) ∧ w'.cell? ⟨gc, i, none⟩ = some (.int .i64 ci)))) (ds := [12]) (msk 13 0) (by kernel_rfl) rfl rfl ⟨y0, y1, y2, y3⟩ (fun hHeld => ?_)
          have HS7 := qab.mk (HS6.out.below (qaq (Below.refl _ _)))
          generalize we.drew = wd at HS7 hHeld ⊢
          refine zq 0 1 88 ?_
          refine zq 1 2 89 ?_
          refine zq 2 3 90 ?_
          refine zt4 3 4 91 hHeld ?_
          refine zq 4 5 92 ?_
          refine zq 5 6 93 ?_
          refine zt4 6 7 94 hHeld ?_
          refine zt4 7 8 95 hHeld ?_
          refine zq 8 9 96 ?_
          refine zq 9 10 97 ?_
          refine zt4 10 11 98 hHeld ?_
          refine zq 11 12 99 ?_
          refine last_ (i := 12) (N := some 100) (msk 13 13) rfl rfl (by kernel_rfl) (by decide) (fun K hK => ?_)
          refine goesV_ (c := .tmp 88) (args := #[.int .i64 (i : Int), .int .i64 (wrap64 (vi + ci))]) (all := #[.int .i64 (i : Int), .int .i64 (wrap64 (vi + ci)), .pointer (some ⟨gb, 0, none⟩), .pointer (some ⟨g6, 0, none⟩), .pointer (some ⟨g9, 0, none⟩), .pointer (some ⟨g8, 0, none⟩)]) Try.func106 (by kernel_rfl) rfl (by rfl) rfl rfl (by rfl) (by (try simp only [List.map_toArray, List.map_cons, List.map_nil]); first | done | rfl) (by rfl) ?_
          refine (HPCi.out _ HS7.out).mono ?_; rintro e wf ⟨rfl, hps⟩
          have HS8 := qab.mk hps; clear hps
          refine ⟨_, rfl, ?_⟩; refine hK.out _ _ ?_; clear hK K; refine zn 100 ?_
          refine done_ (by kernel_rfl) ?_
          clear hHeld y0 y1 y2 y3
          have x8_ : wf.cell? ⟨g8, 0, none⟩ = some (.slice (some ⟨gc, 0, none⟩) l0_5.length cc) := (qaa HS8.out.x8 0).trans rfl
          obtain ⟨_, cs_, hbl_⟩ := R_blk HS8.out.c (by have := HS8.out.nc; omega)
          have frc := qac hbl_
          have xc := introw_at HS8.out.c i (by have := HS8.out.nc; omega)
          clear hbl_
          go_wp2
          go_roundw
          case rel => exact ⟨i + 1, by omega, by go_num, ⟨by rw [HSTEP.out]; exact HS8.out.putC hn0 i 0⟩⟩
          case measure => simp [intOf]; omega
        ·
         have hb2 : decide (th < rim) = false := decide_eq_false hc2
         have HSTEP : qab (yearTo l0_5 l0_4.length l1_1 l1_2 th y s0 (i + 1) = ⟨s2.years, s2.come.set i 0, s2.out⟩) := ⟨by rw [HYT.out, HLS.out, if_neg (fun h => h.elim hc1 (fun h => hc2 h.1))]⟩
         clear hc1 hc2
         refine start_ (n := 26) (S := (fun w' => (w'.cell? ⟨g6, 0, none⟩ = some (.slice (some ⟨gy, 0, none⟩) l0_5.length cy) ∧ w'.cell? ⟨gy, i, none⟩ = some (.int .i64 yi) ∧ w'.cell? ⟨gb, 4, none⟩ = some (.slice A0_4 l0_4.length c0_4) ∧ w'.cell? ⟨ge, 1, none⟩ = some (.int .i64 rim) ∧ w'.cell? ⟨g8, 0, none⟩ = some (.slice (some ⟨gc, 0, none⟩) l0_5.length cc) ∧ w'.cell? ⟨gc, i, none⟩ = some (.int .i64 ci) ∧ w'.cell? ⟨gt, 2, none⟩ = some (.slice (some a2) l1_2.length c1_2) ∧ w'.cell? (a2.add i) = some (.int .i64 ri)))) (ds := []) (msk 26 0) (by kernel_rfl) rfl rfl ⟨z0, z1, z2, z3, z4, z5, z6, z7⟩ (fun hHeld => ?_)
         refine zt8 0 1 58 hHeld ?_
         refine zq 1 2 59 ?_
         refine zq 2 3 60 ?_
         refine zt8 3 4 61 hHeld ?_
         refine zq 4 5 62 ?_
         refine zt8 5 6 63 hHeld ?_
         refine zq 6 7 64 ?_
         refine zq 7 8 65 ?_
         refine zq 8 9 66 ?_
         refine zq 9 10 67 ?_
         refine zq 10 11 68 ?_
         refine zt8 11 12 69 hHeld ?_
         refine zq 12 13 70 ?_
         refine zq 13 14 71 ?_
         refine zo 14 15 72 ?_
         refine zo 15 16 73 ?_
         refine zo 16 17 74 ?_
         refine zo 17 18 75 ?_
         refine zo 18 19 76 ?_
         refine zo 19 20 77 ?_
         refine zo 20 21 78 ?_
         refine zo 21 22 79 ?_
         refine zo 22 23 80 ?_
         refine zo 23 24 81 ?_
         refine zq 24 25 82 ?_
         refine zq 25 26 83 ?_
         refine done_ (by kernel_rfl) ?_
         have HS5b := qab.mk (HS5.out.below (qaq (Below.refl _ _)))
         generalize w5_.drew = we0 at HS5b ⊢
         clear hHeld z0 z1 z2 z3 z4 z5 z6 z7
         have u0 : we0.cell? ⟨g6, 0, none⟩ = some (.slice (some ⟨gy, 0, none⟩) l0_5.length cy) := (qaa HS5b.out.x6 0).trans rfl
         have u1 := introw_at HS5b.out.y i (by have := HS5b.out.ny; omega)
         obtain ⟨_, cs_, hbl_⟩ := R_blk HS5b.out.y (by have := HS5b.out.ny; omega)
         have fry := qac hbl_
         clear hbl_
         go_upto_region 18 with fail
         have HS6 := qab.mk (HS5b.out.putY hn0 i (y : Int))
         clear u0 u1 fry
         generalize we0.setCell ⟨gy, i, none⟩ (.int .i64 (y : Int)) = we at HS6 ⊢
         have y0 : we.cell? ⟨gt, 1, none⟩ = some (.slice (some a1) l1_1.length c1_1) := (qaa HS6.out.t 1).trans rfl
         have y1 : we.cell? (a1.add i) = some (.int .i64 vi) := (HS6.out.hb.cell (World.block_lt_of_cell? w _ QV.out)).trans QV.out
         have y2 : we.cell? ⟨g8, 0, none⟩ = some (.slice (some ⟨gc, 0, none⟩) l0_5.length cc) := (qaa HS6.out.x8 0).trans rfl
         have y3 : we.cell? ⟨gc, i, none⟩ = some (.int .i64 ci) := by rw [HCI.out]; exact introw_at HS6.out.c i (by have := HS6.out.nc; omega)
         clear HS5 HS5b
         refine start_ (n := 13) (S := (fun w' => (w'.cell? ⟨gt, 1, none⟩ = some (.slice (some a1) l1_1.length c1_1) ∧ w'.cell? (a1.add i) = some (.int .i64 vi) ∧ w'.cell? ⟨g8, 0, none⟩ = some (.slice (some ⟨gc, 0, none⟩) l0_5.length cc) ∧ w'.cell? ⟨gc, i, none⟩ = some (.int .i64 ci)))) (ds := [12]) (msk 13 0) (by kernel_rfl) rfl rfl ⟨y0, y1, y2, y3⟩ (fun hHeld => ?_)
         have HS7 := qab.mk (HS6.out.below (qaq (Below.refl _ _)))
         generalize we.drew = wd at HS7 hHeld ⊢
         refine zq 0 1 88 ?_
         refine zq 1 2 89 ?_
         refine zq 2 3 90 ?_
         refine zt4 3 4 91 hHeld ?_
         refine zq 4 5 92 ?_
         refine zq 5 6 93 ?_
         refine zt4 6 7 94 hHeld ?_
         refine zt4 7 8 95 hHeld ?_
         refine zq 8 9 96 ?_
         refine zq 9 10 97 ?_
         refine zt4 10 11 98 hHeld ?_
         refine zq 11 12 99 ?_
         refine last_ (i := 12) (N := some 100) (msk 13 13) rfl rfl (by kernel_rfl) (by decide) (fun K hK => ?_)
         refine goesV_ (c := .tmp 88) (args := #[.int .i64 (i : Int), .int .i64 (wrap64 (vi + ci))]) (all := #[.int .i64 (i : Int), .int .i64 (wrap64 (vi + ci)), .pointer (some ⟨gb, 0, none⟩), .pointer (some ⟨g6, 0, none⟩), .pointer (some ⟨g9, 0, none⟩), .pointer (some ⟨g8, 0, none⟩)]) Try.func106 (by kernel_rfl) rfl (by rfl) rfl rfl (by rfl) (by (try simp only [List.map_toArray, List.map_cons, List.map_nil]); first | done | rfl) (by rfl) ?_
         refine (HPCi.out _ HS7.out).mono ?_; rintro e wf ⟨rfl, hps⟩
         have HS8 := qab.mk hps; clear hps
         refine ⟨_, rfl, ?_⟩; refine hK.out _ _ ?_; clear hK K; refine zn 100 ?_
         refine done_ (by kernel_rfl) ?_
         clear hHeld y0 y1 y2 y3
         have x8_ : wf.cell? ⟨g8, 0, none⟩ = some (.slice (some ⟨gc, 0, none⟩) l0_5.length cc) := (qaa HS8.out.x8 0).trans rfl
         obtain ⟨_, cs_, hbl_⟩ := R_blk HS8.out.c (by have := HS8.out.nc; omega)
         have frc := qac hbl_
         have xc := introw_at HS8.out.c i (by have := HS8.out.nc; omega)
         clear hbl_
         go_wp2
         go_roundw
         case rel => exact ⟨i + 1, by omega, by go_num, ⟨by rw [HSTEP.out]; exact HS8.out.putC hn0 i 0⟩⟩
         case measure => simp [intOf]; omega
      ·
       have hiE : i = l0_5.length := by omega
       have HSE : qab (PS w gb gt g5 g6 g8 g9 gy gc cy cc l0_5.length #[.int .i64 a0_0, .slice A0_1 l0_1.length c0_1, .slice A0_2 l0_2.length c0_2, .slice A0_3 l0_3.length c0_3, .slice A0_4 l0_4.length c0_4, .slice (some a5) l0_5.length c0_5] #[.slice (some a0) l1_0.length c1_0, .slice (some a1) l1_1.length c1_1, .slice (some a2) l1_2.length c1_2] all 0 (pourTo l0_5 l0_4.length l1_0 l1_1 l1_2 (y + 1)) W0) := ⟨by have h := HS.out; rw [hiE] at h; rw [HPY.out]; exact h⟩
       clear hiE HS
       go_wp2
       go_roundw
       case rel => exact ⟨y + 1, by omega, by go_num, HSE⟩
       case measure => simp [intOf]; omega
    ·
     have hyE : y = l1_0.length := by omega
     have HPV : qab (pourV l0_5 l0_4.length l1_0 l1_1 l1_2 = ((pourTo l0_5 l0_4.length l1_0 l1_1 l1_2 y).years, (pourTo l0_5 l0_4.length l1_0 l1_1 l1_2 y).out, keptTo l0_4.length l1_1 (pourTo l0_5 l0_4.length l1_0 l1_1 l1_2 y) l0_5.length)) := ⟨by rw [hyE]; rfl⟩
     generalize pourTo l0_5 l0_4.length l1_0 l1_1 l1_2 y = s at HS HPV
     have z0 : wr.cell? ⟨g6, 0, none⟩ = some (.slice (some ⟨gy, 0, none⟩) l0_5.length cy) := (qaa HS.out.x6 0).trans rfl
     clear hyE
     go_wp2
     clear z0
     go_loopw [108] (fun s108 wr => ∃ i : Nat, i ≤ l0_5.length ∧ s108 = .int .i64 i ∧ qab (PS w gb gt g5 g6 g8 g9 gy gc cy cc l0_5.length #[.int .i64 a0_0, .slice A0_1 l0_1.length c0_1, .slice A0_2 l0_2.length c0_2, .slice A0_3 l0_3.length c0_3, .slice A0_4 l0_4.length c0_4, .slice (some a5) l0_5.length c0_5] #[.slice (some a0) l1_0.length c1_0, .slice (some a1) l1_1.length c1_1, .slice (some a2) l1_2.length c1_2] all (keptTo l0_4.length l1_1 s i) s wr)) (fun s _ => l0_5.length - (intOf s).toNat)
     case atStart => exact ⟨0, by omega, rfl, HS⟩
     case round =>
      clear HS
      obtain ⟨i, hi, rfl, HS⟩ := hrel
      by_cases hli : i < l0_5.length
      ·
       have hiv : i < l1_1.length := by have := HVL.out; omega
       obtain ⟨_, e, qv⟩ := Kd.at_int HT1.out i (by omega) (by omega)
       cases e
       simp only [Int.toNat_natCast] at qv
       obtain ⟨yi, hyi⟩ : ∃ x, x = rd s.years i := ⟨_, rfl⟩
       obtain ⟨ci, hci⟩ : ∃ x, x = rd s.come i := ⟨_, rfl⟩
       obtain ⟨vi, hvi⟩ : ∃ x, x = rd l1_1 i := ⟨_, rfl⟩
       obtain ⟨kp, hkp⟩ : ∃ x, x = keptTo l0_4.length l1_1 s i := ⟨_, rfl⟩
       have HKT : qab (keptTo l0_4.length l1_1 s (i + 1) = if yi = (l0_4.length : Int) then sum3 kp vi ci else kp) := ⟨by rw [hyi, hci, hvi, hkp]; rfl⟩
       have z1 : wr.cell? ⟨gy, i, none⟩ = some (.int .i64 yi) := by rw [hyi]; exact introw_at HS.out.y i (by have := HS.out.ny; omega)
       have z2 : wr.cell? ⟨gb, 4, none⟩ = some (.slice A0_4 l0_4.length c0_4) := (qaa HS.out.b 4).trans rfl
       have y4 : wr.cell? ⟨gc, i, none⟩ = some (.int .i64 ci) := by rw [hci]; exact introw_at HS.out.c i (by have := HS.out.nc; omega)
       rw [← hkp] at HS
       rw [← hvi] at qv
       have y0 : wr.cell? ⟨g9, 2, none⟩ = some (.int .i64 kp) := (qaa HS.out.x9 2).trans rfl
       have y1 : wr.cell? ⟨gt, 1, none⟩ = some (.slice (some a1) l1_1.length c1_1) := (qaa HS.out.t 1).trans rfl
       have y2 : wr.cell? (a1.add i) = some (.int .i64 vi) := (HS.out.hb.cell (World.block_lt_of_cell? w _ qv)).trans qv
       have y3 : wr.cell? ⟨g8, 0, none⟩ = some (.slice (some ⟨gc, 0, none⟩) l0_5.length cc) := (qaa HS.out.x8 0).trans rfl
       clear qv hyi hci hvi hkp
       by_cases hc : yi = (l0_4.length : Int)
       ·
        have hcb : (yi == (l0_4.length : Int)) = true := by simp [hc]
        have HKT2 : qab (keptTo l0_4.length l1_1 s (i + 1) = sum3 kp vi ci) := ⟨by rw [HKT.out, if_pos hc]⟩
        clear hc
        go_upto_region 26 with fail
        clear z1 z2
        refine start_ (n := 15) (S := (fun w' => (w'.cell? ⟨g9, 2, none⟩ = some (.int .i64 kp) ∧ w'.cell? ⟨gt, 1, none⟩ = some (.slice (some a1) l1_1.length c1_1) ∧ w'.cell? (a1.add i) = some (.int .i64 vi) ∧ w'.cell? ⟨g8, 0, none⟩ = some (.slice (some ⟨gc, 0, none⟩) l0_5.length cc) ∧ w'.cell? ⟨gc, i, none⟩ = some (.int .i64 ci)))) (ds := [11, 12, 14]) (msk 15 0) (by kernel_rfl) rfl rfl ⟨y0, y1, y2, y3, y4⟩ (fun hHeld => ?_)
        have HS7 := qab.mk (HS.out.below (qaq (Below.refl _ _)))
        generalize wr.drew = wd at HS7 hHeld ⊢
        refine zq 0 1 118 ?_
        refine zt5 1 2 119 hHeld ?_
        refine zq 2 3 120 ?_
        refine zt5 3 4 121 hHeld ?_
        refine zq 4 5 122 ?_
        refine zq 5 6 123 ?_
        refine zt5 6 7 124 hHeld ?_
        refine zt5 7 8 125 hHeld ?_
        refine zq 8 9 126 ?_
        refine zq 9 10 127 ?_
        refine zt5 10 11 128 hHeld ?_
        refine last_ (i := 11) (N := some 129) (msk 15 12) rfl rfl (by kernel_rfl) (by decide) (fun K hK => ?_); refine value_ (w1 := ?_) (v := ?_) (by rfl) rfl ?_ ?_; rotate_left 2; (focus (go_simp; constructor; rfl; rfl)); refine hK.out _ _ ?_; clear hK K; refine zn 129 ?_
        refine last_ (i := 12) (N := some 130) (msk 15 13) rfl rfl (by kernel_rfl) (by decide) (fun K hK => ?_)
        refine zg Try.func81 #[.slice (some ⟨wd.heap.size, 0, none⟩) 3 3] ?_
        refine (sum3_calls kp vi ci _ _ (blk_new wd (.cells #[.int .i64 kp, .int .i64 vi, .int .i64 ci] 3))).mono ?_; rintro e wf ⟨rfl, hb⟩
        have HS8 := qab.mk (HS7.out.below (qae (qag (Below.refl _ _) _) hb)); have HS9 := qab.mk (HS8.out.put9 hn0 (sum3 kp vi ci)).2; have fr9 := qac HS8.out.x9; have c92 := qaa HS8.out.x9 2; clear hb
        refine ⟨_, rfl, ?_⟩; refine hK.out _ _ ?_; clear hK K; refine zn 130 ?_
        refine zq 13 14 131 ?_
        refine last_ (i := 14) (N := none) (msk 15 15) rfl rfl (by kernel_rfl) (by decide) (fun K hK => ?_); refine skip_ (w1 := ?_) (by rfl) rfl ?_ ?_; rotate_left; (focus (go_simp; rfl)); refine hK.out _ _ ?_; clear hK K
        refine done_ (by kernel_rfl) ?_
        clear hHeld y0 y1 y2 y3 y4
        go_wp2
        go_roundw
        case rel => exact ⟨i + 1, by omega, by go_num, ⟨by rw [HKT2.out]; exact HS9.out⟩⟩
        case measure => simp [intOf]; omega
       ·
        have hcb : (yi == (l0_4.length : Int)) = false := by simp [hc]
        have HKT2 : qab (keptTo l0_4.length l1_1 s (i + 1) = kp) := ⟨by rw [HKT.out, if_neg hc]⟩
        clear hc y0 y1 y2 y3 y4
        go_wp2
        go_roundw
        case rel => exact ⟨i + 1, by omega, by go_num, ⟨by rw [HKT2.out]; exact HS.out⟩⟩
        case measure => simp [intOf]; omega
      ·
       have hiE : i = l0_5.length := by omega
       rw [hiE] at HS
       generalize keptTo l0_4.length l1_1 s l0_5.length = kp at HS HPV
       obtain ⟨so, hso⟩ : ∃ x, x = s.out := ⟨_, rfl⟩
       have z0 : wr.cell? ⟨g6, 0, none⟩ = some (.slice (some ⟨gy, 0, none⟩) l0_5.length cy) := (qaa HS.out.x6 0).trans rfl
       have y0 : wr.cell? ⟨g9, 0, none⟩ = some (.int .i64 all) := (qaa HS.out.x9 0).trans rfl
       have y1 : wr.cell? ⟨g9, 1, none⟩ = some (.int .i64 so) := by rw [hso]; exact (qaa HS.out.x9 1).trans rfl
       have y2 : wr.cell? ⟨g9, 2, none⟩ = some (.int .i64 kp) := (qaa HS.out.x9 2).trans rfl
       have fr5 := qac HS.out.x5
       have c50 := qaa HS.out.x5 0
       have c51 := qaa HS.out.x5 1
       have c52 := qaa HS.out.x5 2
       rw [← hso] at HPV
       clear hso hiE
       go_wp2
       go_region
       go_wp2
       have hl5 := HS.out.l5
       have B5 := qaw (blk_set (blk_set (blk_set HS.out.x5 0 (.int .i64 all)) 1 (.int .i64 so)) 2 (.int .i64 kp))
       have BB := qaq (qaj (j := 2) (v := .int .i64 kp) (qaj (j := 1) (v := .int .i64 so) (qaj (j := 0) (v := .int .i64 all) HS.out.hb hl5) hl5) hl5)
       have BR := Kd.R_drew (Kd.R_mono (ok' := fun _ => True) (Kd.R_set (Kd.R_set (Kd.R_set HS.out.y HS.out.x5 (by decide) 0 (.int .i64 all)) (blk_set HS.out.x5 0 (.int .i64 all)) (by decide) 1 (.int .i64 so)) (blk_set (blk_set HS.out.x5 0 (.int .i64 all)) 1 (.int .i64 so)) (by decide) 2 (.int .i64 kp)) (fun _ _ => trivial))
       refine bodyPost_ret (results_tc rfl _ _ g5 70 #[.int .i64 all, .int .i64 so, .int .i64 kp] (0, 0) _ rfl B5 hu70 rfl (by kernel_rfl)) rfl ?_
       refine ⟨_, by rw [HPV.out], ?_, BB⟩
       rw [HPV.out]
       exact BR
end Go.Proofs.Ytafkanmioinbiaa.SA
