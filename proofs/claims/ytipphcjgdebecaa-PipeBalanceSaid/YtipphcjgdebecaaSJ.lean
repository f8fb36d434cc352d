/- Parts of a proof about the pipe seat's laws: what the functions of the program answer. No condition of its own. -/
import Derived.Test.YtipphcjgdebecaaSC
import Derived.Test.YtipphcjgdebecaaSE
import Derived.Test.YtipphcjgdebecaaSH
import Derived.Test.YtipphcjgdebecaaSF
import Derived.Test.YtipphcjgdebecaaSI
set_option linter.all false
namespace Go.Proofs.Ytipphcjgdebecaa.PA
open Go.RowKit Go.Proofs.YtipphcjgdebecaaW.PrintWords Go.Proofs.YtipphcjgdebecaaW.PrintLast Go.Proofs.YtipphcjgdebecaaW.PrintMore
attribute [local go_sem] max2_int min2_int max_two min_two max_three min_three max_four min_four
attribute [local go_sem] Oper.semAt_some
theorem leave93 (E : OE) (A : Nat → Prop) (w : World) (tmps : Array Value) (v : Value) (o : List Int) (ok : Nat → Prop) (hm : E.m < w.heap.size) (hw0 : E.w0.heap.size ≤ w.heap.size) (ht : tmps.getD 12 undef = v) (R : Ending → World → Prop)
  (hfin : ∀ W, EnvInv E A W → Kd.R (Kd.int .i64) 3 W E.w0.heap.size ok v o → KB (fun k => k = E.m) w W → R (.returned v) W) :
  ∀ (Ds : List Nat) (W : World), Ds.Nodup → (∀ D ∈ Ds, W.heap[D]? = some (.deferred (some [])) ∧ w.heap.size ≤ D) → EnvInv E A W → Kd.R (Kd.int .i64) 3 W E.w0.heap.size ok v o → KB (fun k => k = E.m) w W →
   LeavesInM Fence.wide 12 Try.prog Try.f93 tmps R (Ds.map fun D => { target := .collected D, args := #[] }) .returning W := by
 intro Ds
 induction Ds with
 | nil =>
  intro W _ _ he hr hk
  refine ⟨_, results_tmp rfl _ _ _, ?_⟩
  rw [ht]
  exact hfin W he hr hk
 | cons D Ds ih =>
  intro W hnd hD he hr hk
  have h1 := hD D (by simp)
  refine ⟨by simp, .inl ⟨D, _, rfl, run_takeDeferred h1.1, ?_⟩⟩
  have hput := grownBy_putObj' W D (.deferred none)
  rw [List.nodup_cons] at hnd
  refine ih _ hnd.2 (fun D' hD' => ?_) ?_ ?_ ?_
  ·
   have h2 := hD D' (by simp [hD'])
   exact ⟨by rw [World.putObj_heap_other (by rintro rfl; exact hnd.1 hD')]; exact h2.1, h2.2⟩
  ·
   exact he.own' hput (fun r e => by injection e with e; subst e; exact ⟨by omega, by omega, _, h1.1, rfl⟩)
  ·
   refine Kd.R_mono (Kd.R_step (Kd.R_bound hr) (fun k hk' hlt => hput.block k hlt (fun e => ?_))) (fun k hk => hk.1)
   obtain ⟨q, _, cells, hc⟩ := hk'.2.2.2
   injection e with e
   subst e
   rw [h1.1] at hc
   cases hc
  ·
   exact hk.trans (KB.of_grown hput) (fun k e => .inr (by injection e with e; omega))
def fr93 (E : OE) (s : Sp) (first slack : Int) (gn gs gq gd gf go gx : Nat) (z15 z16 z22 z23 z24 z25 z26 z27 z28 z29 z30 z31 z32 t33 t34 t35 t36 t37 t38 : Value) : Array Value := #[.agg (NETC E), .agg #[.int .i64 s.p, .int .i64 s.h, .int .i64 s.r], .int .i64 first, .int .i64 slack, .slice E.Ad E.D.length E.cd, SEARCHF E, .pointer (some ⟨gn, 0, none⟩), .pointer (some ⟨gs, 0, none⟩), undef, .pointer (some ⟨gq, 0, none⟩), .pointer (some ⟨gd, 0, none⟩), .pointer (some ⟨gf, 0, none⟩), .slice none 0 0, .pointer (some ⟨go, 0, none⟩), .pointer (some ⟨gx, 0, none⟩), z15, z16, undef, undef, undef, undef, undef, z22, z23, z24, z25, z26, z27, z28, z29, z30, z31, z32, t33, t34, t35, t36, t37, t38, undef, undef, undef, undef, undef, undef, undef, undef, undef, undef, undef, undef, undef, undef, undef, undef, undef, undef, undef, undef, undef, undef, undef, undef, undef, undef, undef, undef, undef, undef, undef, undef, undef, undef]
def mu93 (gx : Nat) (W : World) : Nat := match W.cell? ⟨gx, 2, none⟩ with | some (.int _ r) => cntB r | _ => 0
theorem mu93_eq {gx : Nat} {W : World} {r : Int} (h : W.cell? ⟨gx, 2, none⟩ = some (.int .i64 r)) : mu93 gx W = cntB r := by unfold mu93; rw [h]
def LI93 (E : OE) (A : Nat → Prop) (w : World) (s : Sp) (first slack : Int) (gq gd gf go gx : Nat) (q0 q1 q2 : Int) (a : Act) (W : World) : Prop := ∃ (n : Sp) (o : List Int) (v : Value) (k : Nat) (Ds : List Nat) (z15 z16 z22 z23 z24 z25 z26 z27 z28 z29 z30 z31 z32 t33 t34 t35 t36 t37 t38 : Value), a = { tmps := fr93 E s first slack w.heap.size (w.heap.size + 1) gq gd gf go gx z15 z16 z22 z23 z24 z25 z26 z27 z28 z29 z30 z31 z32 t33 t34 t35 t36 t37 t38, defers := Ds.map fun D => { target := .collected D, args := #[] } } ∧
   qac (St93 E A w w.heap.size gq gd gf go gx slack n o v Ds W ∧ Ds.Nodup ∧ E.At n ∧ cntB n.r < cntB s.r ∧ cntB n.r ≤ k ∧ (E.S n).2.2 = true ∧ slack ≤ (E.S n).2.1 ∧ sameV E.l0 E.l2 E.D E.S slack k n o = sameV E.l0 E.l2 E.D E.S slack 5 ⟨q0, q1, q2⟩ [first] ∧ o.length + cntB n.r ≤ 5)
theorem find_at (p : Int → Bool) (l pre : List Int) (x : Int) (h : pre ++ [x] <+: l) (hn : ∀ i ∈ pre, p i = false) (hx : p x = true) : l.find? p = some x := by
 obtain ⟨t, rfl⟩ := h
 simp only [List.find?_append]
 have h1 : pre.find? p = none := by
  rw [List.find?_eq_none]
  intro i hi
  rw [hn i hi]
  simp
 rw [h1]
 simp [hx]
def IX93 (E : OE) (A : Nat → Prop) (w : World) (gq gd gf go gx : Nat) (slack : Int) (n : Sp) (o : List Int) (Ds : List Nat) (c : Code) (pre : List (LoopOf n.r)) (W : World) : Prop :=
 ∃ (pre0 : List (LoopOf n.r)) (x : LoopOf n.r) (v1 : Value), pre = pre0 ++ [x] ∧ c = .exit 2 ∧ (∀ i ∈ pre0.map (·.1), goodV E.l0 E.l2 E.D E.S slack n i = false) ∧ goodV E.l0 E.l2 E.D E.S slack n x.1 = true ∧ St93 E A w w.heap.size gq gd gf go gx slack (repV E.l0 E.l2 E.D n x.1).1 (o ++ [x.1]) v1 Ds W
theorem allocs7 (w : World) (o1 o2 o3 o4 o5 o6 o7 : Obj) : ∃ w4, ((((((w.alloc o1).alloc o2).alloc o3).alloc o4).alloc o5).alloc o6).alloc o7 = w4 ∧ w4.heap[w.heap.size]? = some o1 ∧ w4.heap[w.heap.size + 1]? = some o2 ∧ w4.heap[w.heap.size + 1 + 1]? = some o3 ∧ w4.heap[w.heap.size + 1 + 1 + 1]? = some o4 ∧
  w4.heap[w.heap.size + 1 + 1 + 1 + 1]? = some o5 ∧ w4.heap[w.heap.size + 1 + 1 + 1 + 1 + 1]? = some o6 ∧ w4.heap[w.heap.size + 1 + 1 + 1 + 1 + 1 + 1]? = some o7 ∧ w4.heap.size = w.heap.size + 7 ∧ Below w.heap.size w w4 := by
 obtain ⟨w4, hw4, a1, a2, a3, a4, hs, hb⟩ := allocs4 w o1 o2 o3 o4
 have h5 := blk_new w4 o5
 have h6 := blk_new (w4.alloc o5) o6
 have h7 := blk_new ((w4.alloc o5).alloc o6) o7
 rw [World.size_alloc] at h6
 rw [World.size_alloc, World.size_alloc] at h7
 rw [hs] at h5 h6 h7
 refine ⟨_, rfl, ?_, ?_, ?_, ?_, ?_, ?_, ?_, ?_, ?_⟩
 all_goals rw [hw4]
 ·
  exact qaj (qaj (qaj a1 _) _) _
 ·
  exact qaj (qaj (qaj a2 _) _) _
 ·
  exact qaj (qaj (qaj a3 _) _) _
 ·
  exact qaj (qaj (qaj a4 _) _) _
 ·
  exact qaj (qaj h5 _) _
 ·
  exact qaj h6 _
 ·
  exact h7
 ·
  simp [hs]
 ·
  exact qae (qae (qae hb _) _) _
theorem R_one {W : World} {g : Nat} {x : Int} {base : Nat} {ok : Nat → Prop} (hb : W.heap[g]? = some (.cells #[.int .i64 x] 3 (0, 0))) (hg : base ≤ g) (hok : ok g) : Kd.R (Kd.int .i64) 3 W base ok (.slice (some ⟨g, 0, none⟩) 1 1) [x] :=
 Kd.R_of_own (h1 := fun _ => rfl) ⟨rfl, .inr ⟨g, 1, _, rfl, hg, hb, Nat.le_refl _, by decide, rfl, rfl⟩⟩ (fun k hk => by
  have : g = k := by simpa [Value.ownBlock] using hk
  exact this ▸ hok)
set_option maxRecDepth 100000 in
set_option maxHeartbeats 8000000 in
theorem same_calls (E : OE) (hE : E.Fit) (s : Sp) (hs : E.At s) (first slack : Int) (hf : first ∈ qay s.r 5) (hrp : (repV E.l0 E.l2 E.D s first).2.2 = true) (hr : (E.S (repV E.l0 E.l2 E.D s first).1).2.2 = true) (hsl : slack ≤ (E.S (repV E.l0 E.l2 E.D s first).1).2.1)
  (IH : ∀ s', E.At s' → cntB s'.r < cntB s.r → SearchC E s') (A : Nat → Prop) (w : World) (hinv : EnvInv E A w) (hA : ∀ k, A k → k < w.heap.size) :
  Calls Try.prog 93 #[.agg (NETC E), .agg #[.int .i64 s.p, .int .i64 s.h, .int .i64 s.r], .int .i64 first, .int .i64 slack, .slice E.Ad E.D.length E.cd, SEARCHF E] w fun e w' =>
   ∃ v, e = .returned v ∧ E.Row A w' v (sameV E.l0 E.l2 E.D E.S slack 5 (repV E.l0 E.l2 E.D s first).1 [first]) ∧ EnvInv E A w' ∧ KB (fun k => k = E.m) w w' := by
 have hu99 := Try.underlying99
 have hu123 := Try.underlying123
 have hu26 := Try.underlying26
 have HB := qac.mk (Below.refl w.heap.size w)
 have hx05 : 0 ≤ first ∧ first < 5 := by
  obtain ⟨xk, hxk, hxk5, _⟩ := (mem_loopsOf s.r 5 first).1 hf
  omega
 have hx5 := hs.2.2.2 first hf
 have hrep : ∀ W, Below E.w0.heap.size E.w0 W → (Kd.int .i64).C W E.Ad E.D.length E.D → Calls Try.prog 92 #[.agg (NETC E), .agg #[.int .i64 s.p, .int .i64 s.h, .int .i64 s.r], .int .i64 first, .slice E.Ad E.D.length E.cd] W fun e w' =>
   e = .returned (.tuple #[spV (repV E.l0 E.l2 E.D s first).1, .int .i64 (repV E.l0 E.l2 E.D s first).2.1, .bool (repV E.l0 E.l2 E.D s first).2.2]) ∧ Below W.heap.size W w' := fun W hW hC =>
  repaired_calls _ _ _ _ _ _ _ _ s first _ _ E.D W (Kd.qal hE.r0 hW) (Kd.qal hE.r2 hW) hC hs.2.1 (by have := hE.h2; have := hs.2.2.1; omega) (by omega) hx5 (by rw [hE.hrow s.p hs.2.1 hs.2.2.1]; omega) (by rw [hE.hD]; omega) (by omega)
 have hnx := hs.next hf hrp
 rw [hrp] at hrep
 generalize hq : repV E.l0 E.l2 E.D s first = q at hrep hnx hr hsl ⊢
 obtain ⟨⟨q0, q1, q2⟩, ow, can⟩ := q
 simp only [spV_eq] at hrep
 try dsimp only at hrep hnx hr hsl ⊢
 have HREP := qac.mk hrep
 have HNX := qac.mk hnx
 have HSL := qac.mk (And.intro hr hsl)
 have HI := qac.mk hinv
 have HIH := qac.mk IH
 clear IH hs hinv hrep hnx hr hsl hq hrp hf hx5
 refine (callsIn_wide (n := 12)).1 ?_
 refine callsIn_of_wp_marks Try.func93 rfl trivial ?_ rfl
 refine wpIn_wide.2 ?_
 simp only [Try.ntmps93, List.size_toArray, List.length_cons, List.length_nil, Nat.reduceAdd, Nat.reduceSub, Array.replicate_succ, Array.replicate_zero, List.push_toArray, List.append_toArray, List.nil_append, List.cons_append]
 have HW0 : qac (E.w0.heap.size ≤ w.heap.size) := ⟨HI.out.hb.size⟩
 go_wp2_with fail
 obtain ⟨w8, hw8, bn, bs, bq, bd, bf, bv, bo, hsz, hb⟩ := allocs7 w (.cells (NETC E) 99) (.cells #[.int .i64 s.p, .int .i64 s.h, .int .i64 s.r] 123) (.cells #[.int .i64 slack] 3) (.cells #[.slice E.Ad E.D.length E.cd] 47) (.cells #[SEARCHF E] 121) (.cells #[.int .i64 first] 3) (.cells #[.slice (some ⟨w.heap.size + 1 + 1 + 1 + 1 + 1, 0, none⟩) 1 1] 47)
 rw [hw8]
 clear hw8
 have hbe : Below E.w0.heap.size E.w0 w8 := HI.out.hb.trans (hb.mono HW0.out)
 refine (HREP.out w8 hbe (Kd.qal (Kd.qbb HI.out.due).2.2 hb)).mono ?_
 rintro e w9 ⟨rfl, hb9⟩
 have ROW := qac.mk (Kd.R_below (R_one (base := E.w0.heap.size) (ok := fun k => w.heap.size ≤ k ∧ k ≠ w.heap.size + 1 + 1) bv (by have := HW0.out; omega) ⟨by omega, by omega⟩) hb9)
 replace bn := qac.mk (qam bn hb9)
 replace bq := qac.mk (qam bq hb9)
 replace bd := qac.mk (qam bd hb9)
 replace bf := qac.mk (qam bf hb9)
 replace bo := qac.mk (qam bo hb9)
 have hsz9 : w.heap.size + 7 ≤ w9.heap.size := by have := hb9.size; omega
 have HB9 := qac.mk (qai hb hb9)
 clear hb hb9 hbe bs bv hsz
 have hwn : w9.heap.size = w9.heap.size := rfl
 go_wp2_with fail
 refine (wpIn_wide (n := 12)).1 ?_
 have St0 : St93 E A w w.heap.size (w.heap.size + 1 + 1) (w.heap.size + 1 + 1 + 1) (w.heap.size + 1 + 1 + 1 + 1) (w.heap.size + 1 + 1 + 1 + 1 + 1 + 1) w9.heap.size slack ⟨q0, q1, q2⟩ [first] (.slice (some ⟨w.heap.size + 1 + 1 + 1 + 1 + 1, 0, none⟩) 1 1) [] (w9.alloc (.cells #[.int .i64 q0, .int .i64 q1, .int .i64 q2] 123)) := by
  have hb10 := qae (Below.refl w9.heap.size w9) (.cells #[.int .i64 q0, .int .i64 q1, .int .i64 q2] 123)
  have hbw := HB9.out.alloc HB9.out.size (.cells #[.int .i64 q0, .int .i64 q1, .int .i64 q2] 123)
  refine ⟨?_, qam bn.out hb10, qam bq.out hb10, qam bd.out hb10, qam bf.out hb10, qam bo.out hb10, blk_new _ _, Kd.R_below ROW.out hb10, KB.of_below hbw _, ⟨by omega, by omega⟩, by simp⟩
  refine (HI.out.imp (A' := fun k => A k ∨ k = w.heap.size + 1 + 1 + 1 + 1 + 1 + 1 ∨ k = w9.heap.size ∨ some k = (Value.slice (some ⟨w.heap.size + 1 + 1 + 1 + 1 + 1, 0, none⟩) 1 1).ownBlock) (fun k hk => ?_)).step (KB.of_below hbw _)
  have hwe := HW0.out
  rcases hk with hk | hk | hk | hk
  ·
   exact ⟨HI.out.lo k hk, .inl hk⟩
  ·
   exact ⟨by omega, .inr (by omega)⟩
  ·
   exact ⟨by omega, .inr (by omega)⟩
  ·
   have : k = w.heap.size + 1 + 1 + 1 + 1 + 1 := by simpa [Value.ownBlock] using hk
   exact ⟨by omega, .inr (by omega)⟩
 have hne : w.heap.size ≠ w.heap.size + 1 + 1 + 1 + 1 + 1 + 1 ∧ w.heap.size ≠ w9.heap.size ∧ w.heap.size + 1 + 1 ≠ w.heap.size + 1 + 1 + 1 + 1 + 1 + 1 ∧ w.heap.size + 1 + 1 ≠ w9.heap.size ∧ w.heap.size + 1 + 1 + 1 ≠ w.heap.size + 1 + 1 + 1 + 1 + 1 + 1 ∧ w.heap.size + 1 + 1 + 1 ≠ w9.heap.size ∧ w.heap.size + 1 + 1 + 1 + 1 ≠ w.heap.size + 1 + 1 + 1 + 1 + 1 + 1 ∧ w.heap.size + 1 + 1 + 1 + 1 ≠ w9.heap.size ∧ w.heap.size + 1 + 1 + 1 + 1 + 1 + 1 ≠ w9.heap.size := by omega
 clear bn bq bd bf bo ROW HB9 hwn
 have ST0 := qac.mk St0
 have HNE := qac.mk hne
 clear St0 hne
 generalize w9.alloc (.cells #[.int .i64 q0, .int .i64 q1, .int .i64 q2] 123) = W0 at ST0 ⊢
 generalize w9.heap.size = gx at ST0 HNE hsz9 ⊢
 generalize w.heap.size + 1 + 1 + 1 + 1 + 1 + 1 = go at ST0 HNE ⊢
 generalize w.heap.size + 1 + 1 + 1 + 1 = gf at ST0 HNE ⊢
 generalize w.heap.size + 1 + 1 + 1 = gd at ST0 HNE ⊢
 generalize w.heap.size + 1 + 1 = gq at ST0 HNE ⊢
 refine wpIn_loop (LI93 E A w s first slack gq gd gf go gx q0 q1 q2)
  (fun _ W => mu93 gx W) ?h0 ?round
 case h0 =>
  have hnx := HNX.out
  have hc5 := cnt_le s.r
  have hnx2 : cntB q2 + 1 = cntB s.r := hnx.2
  exact ⟨⟨q0, q1, q2⟩, [first], _, 5, [], _, _, _, _, _, _, _, _, _, _, _, _, _, _, _, _, _, _, _, rfl, ⟨ST0.out, by simp, hnx.1, by show cntB q2 < _; omega, by show cntB q2 ≤ _; omega, HSL.out.1, HSL.out.2, rfl, by show 1 + cntB q2 ≤ 5; omega⟩⟩
 case round =>
  rintro a W ⟨n, o, v, k, Ds, z15, z16, z22, z23, z24, z25, z26, z27, z28, z29, z30, z31, z32, t33, t34, t35, t36, t37, t38, rfl, HST⟩
  refine wpIn_wide.2 ?_
  unfold fr93
  have hn0 : 0 ≤ n.r := HST.out.2.2.1.1.1
  have hc2 : W.cell? ⟨gx, 2, none⟩ = some (.int .i64 n.r) := qaa HST.out.1.xx 2
  by_cases hz : n.r = 0
  ·
   have hzb : (n.r != 0) = false := by simp [hz]
   have hco : W.cell? ⟨go, 0, none⟩ = some v := qaa HST.out.1.xo 0
   go_wp2_with fail
   have hst := HST.out
   have hm := HI.out.map.lt
   refine leave93 E (fun k => A k ∨ k = go ∨ k = gx ∨ some k = v.ownBlock) w _ v o (fun k => w.heap.size ≤ k ∧ k ≠ gq) hm HW0.out rfl _ ?_ Ds W hst.2.1 hst.1.marks hst.1.env hst.1.row hst.1.kb
   intro W' he hr hk
   have hout : sameV E.l0 E.l2 E.D E.S slack k n o = o := by
    cases k with
    | zero => rfl
    | succ k => unfold sameV; rw [if_pos hz]
   rw [← hst.2.2.2.2.2.2.2.1, hout]
   refine ⟨v, rfl, Kd.R_mono hr (fun k hk => ⟨by omega, fun ha => by have := hA k ha; omega⟩), he.imp (fun k hk => ⟨HI.out.lo k hk, .inl (.inl hk)⟩), hk⟩
  ·
   have hzb : (n.r != 0) = true := by simp [hz]
   go_wp2_with (go_at_call 76; refine (loops_calls n.r W).mono ?_; rintro e W1 ⟨BB, rfl, hBB, hge, hb⟩)
   refine (wpIn_wide (n := 12)).1 ?_
   have hst1 := HST.out.1.below hb
   have hlt1 : BB < W1.heap.size := blk_lt hBB
   have hDs1 : ∀ D ∈ Ds, D < W1.heap.size := fun D hD => blk_lt (hst1.marks D hD).1
   have hwW1 : w.heap.size ≤ W1.heap.size := hst1.kb.size
   have hmw := HI.out.map.lt
   have hAt := HST.out.2.2.1
   have hcs := HST.out.2.2.2.1
   have hkW := HST.out
   have HST1 := qac.mk hst1
   refine wpIn_rangeFunc_ownG rfl (by omega) (gf := 97) (lb := #[.pointer (some ⟨BB, 0, none⟩)]) rfl trivial (enters_of Try.func97 (by kernel_rfl) rfl) (loops_stops _ (by omega) n.r hn0 BB W1 hBB) (fun h k => KeptAt.trans h k) (keptAt_put hlt1) (Below.refl _ _) (fun _ => rfl)
    (fun (pre : List (LoopOf n.r)) W => St93 E A w w.heap.size gq gd gf go gx slack n o v Ds W ∧ BB < W.heap.size ∧ ∀ i ∈ pre.map (fun y : LoopOf n.r => y.1), goodV E.l0 E.l2 E.D E.S slack n i = false)
    (IX93 E A w gq gd gf go gx slack n o Ds)
    (fun s A B row hs hg hr => ⟨hs.1.own hwW1 HW0.out hmw hDs1 hg hr, Nat.lt_of_lt_of_le hs.2.1 hg.size, hs.2.2⟩)
    (fun c s A B row hs hg hr => by
     obtain ⟨p0, x, v1, e1, e2, e3, e4, e5⟩ := hs
     exact ⟨p0, x, v1, e1, e2, e3, e4, e5.own hwW1 HW0.out hmw hDs1 hg hr⟩)
    ⟨hst1, hlt1, by simp⟩
    (fun x => { tmps := #[.agg (NETC E), .agg #[.int .i64 s.p, .int .i64 s.h, .int .i64 s.r], .int .i64 first, .int .i64 slack, .slice E.Ad E.D.length E.cd, SEARCHF E, .pointer (some ⟨w.heap.size, 0, none⟩), .pointer (some ⟨w.heap.size + 1, 0, none⟩), undef, .pointer (some ⟨gq, 0, none⟩), .pointer (some ⟨gd, 0, none⟩), .pointer (some ⟨gf, 0, none⟩), .slice none 0 0, .pointer (some ⟨go, 0, none⟩), .pointer (some ⟨gx, 0, none⟩), z15, z16, .int .i64 x.1, undef, undef, undef, undef, z22, z23, z24, z25, z26, z27, z28, z29, z30, z31, z32, .pointer (some ⟨gx, 2, none⟩), .int .i64 n.r, .bool true, .pointer (some ⟨gx, 2, none⟩), .int .i64 n.r, .func (.func 97) #[] #[.pointer (some ⟨BB, 0, none⟩)], .int .i64 x.1, undef, undef, undef, undef, undef, undef, undef, undef, undef, undef, undef, undef, undef, undef, undef, undef, undef, undef, undef, undef, undef, undef, undef, undef, undef, undef, undef, undef, undef, undef, undef, undef, undef], defers := [] }) ?assign ?body ?done ?stop
   case assign =>
    intro l x W K hK
    gi_wp2
    exact hK
   case body =>
    rintro l pre ⟨x, hxm⟩ W2 ⟨hst, hBB2, hng⟩ _
    have hx05' : 0 ≤ x ∧ x < 5 := by
     obtain ⟨xk, hxk, hxk5, _⟩ := (mem_loopsOf n.r 5 x).1 hxm
     omega
    have hx5 := hAt.2.2.2 x hxm
    have hrep2 : Calls Try.prog 92 #[.agg (NETC E), .agg #[.int .i64 n.p, .int .i64 n.h, .int .i64 n.r], .int .i64 x, .slice E.Ad E.D.length E.cd] W2 fun e w' =>
      e = .returned (.tuple #[spV (repV E.l0 E.l2 E.D n x).1, .int .i64 (repV E.l0 E.l2 E.D n x).2.1, .bool (repV E.l0 E.l2 E.D n x).2.2]) ∧ Below W2.heap.size W2 w' :=
     repaired_calls _ _ _ _ _ _ _ _ n x _ _ E.D W2 (Kd.qal hE.r0 hst.env.hb) (Kd.qal hE.r2 hst.env.hb) (Kd.qbb hst.env.due).2.2 hAt.2.1 (by have := hE.h2; have := hAt.2.2.1; omega) (by omega) hx5 (by rw [hE.hrow n.p hAt.2.1 hAt.2.2.1]; omega) (by rw [hE.hD]; omega) (by omega)
    have hnx3 : (repV E.l0 E.l2 E.D n x).2.2 = true → E.At (repV E.l0 E.l2 E.D n x).1 ∧ cntB (repV E.l0 E.l2 E.D n x).1.r + 1 = cntB n.r := fun h => hAt.next hxm h
    have hgood : goodV E.l0 E.l2 E.D E.S slack n x = ((repV E.l0 E.l2 E.D n x).2.2 && decide (slack ≤ (repV E.l0 E.l2 E.D n x).2.1) && (E.S (repV E.l0 E.l2 E.D n x).1).2.2 && decide (slack ≤ (E.S (repV E.l0 E.l2 E.D n x).1).2.1)) := rfl
    generalize hq2 : repV E.l0 E.l2 E.D n x = q at hrep2 hnx3 hgood
    obtain ⟨⟨y0, y1, y2⟩, ow2, can2⟩ := q
    simp only [spV_eq] at hrep2
    try dsimp only at hrep2 hnx3 hgood
    have HQ2 := qac.mk hq2
    have HST2 := qac.mk hst
    have NO : ∀ (a : Act) (W' : World), St93 E A w w.heap.size gq gd gf go gx slack n o v Ds W' → KB (fun k => k = E.m) W2 W' → goodV E.l0 E.l2 E.D E.S slack n x = false →
      ownPostG W1.heap.size (KeptAt BB) (fun (pre : List (LoopOf n.r)) W => St93 E A w w.heap.size gq gd gf go gx slack n o v Ds W ∧ BB < W.heap.size ∧ ∀ i ∈ pre.map (fun y : LoopOf n.r => y.1), goodV E.l0 E.l2 E.D E.S slack n i = false)
       (IX93 E A w gq gd gf go gx slack n o Ds)
       (pre ++ [(⟨x, hxm⟩ : LoopOf n.r)]) W2 .normal a W' := by
     intro a W' hs hk hg
     refine ⟨hk.from (fun k e => by omega), hk.block BB hBB2 (by have := hst1.kb.size; have := HST.out.1.kb.size; omega), hs, Nat.lt_of_lt_of_le hBB2 hk.size, ?_⟩
     intro i hi
     rw [List.map_append, List.mem_append] at hi
     rcases hi with hi | hi
     ·
      exact hng i hi
     ·
      simp only [List.map_cons, List.map_nil, List.mem_singleton] at hi
      rw [hi]
      exact hg
    have HNO := qac.mk NO
    have HNX3 := qac.mk hnx3
    have HG := qac.mk hgood
    have HNG := qac.mk hng
    have HLEN : qac (o.length ≤ 5) := ⟨by have := hkW.2.2.2.2.2.2.2.2; omega⟩
    have hca0 : W2.cell? ⟨w.heap.size, 0, none⟩ = some (.slice E.A0 E.l0.length E.c0) := qaa hst.xn 0
    have hca1 : W2.cell? ⟨w.heap.size, 1, none⟩ = some (.slice E.A1 E.l1.length E.c1) := qaa hst.xn 1
    have hca2 : W2.cell? ⟨w.heap.size, 2, none⟩ = some (.slice E.A2 E.l2.length E.c2) := qaa hst.xn 2
    have hca3 : W2.cell? ⟨w.heap.size, 3, none⟩ = some (.int .i64 E.wp) := qaa hst.xn 3
    have hcb0 : W2.cell? ⟨gx, 0, none⟩ = some (.int .i64 n.p) := qaa hst.xx 0
    have hcb1 : W2.cell? ⟨gx, 1, none⟩ = some (.int .i64 n.h) := qaa hst.xx 1
    have hcb2 : W2.cell? ⟨gx, 2, none⟩ = some (.int .i64 n.r) := qaa hst.xx 2
    have hcd0 : W2.cell? ⟨gd, 0, none⟩ = some (.slice E.Ad E.D.length E.cd) := qaa hst.xd 0
    clear NO hnx3 hgood hng hst hq2 hx5 hAt hkW HST hst1 hc2 hz hzb
    gi_wp2
    refine ⟨trivial, (CallsIn.inRound l (callsIn_wide.2 hrep2)).mono ?_⟩
    rintro e W3 ⟨rfl, hb3⟩
    clear hrep2 hca0 hca1 hca2 hca3 hcb0 hcb1 hcb2 hcd0
    have hb4 := qae hb3 (.cells #[.int .i64 y0, .int .i64 y1, .int .i64 y2] 123)
    have st4 := HST2.out.below hb4
    have BY := blk_new W3 (.cells #[.int .i64 y0, .int .i64 y1, .int .i64 y2] 123)
    have hcq4 : (W3.alloc (.cells #[.int .i64 y0, .int .i64 y1, .int .i64 y2] 123)).cell? ⟨gq, 0, none⟩ = some (.int .i64 slack) := qaa st4.xq 0
    have hcf4 : (W3.alloc (.cells #[.int .i64 y0, .int .i64 y1, .int .i64 y2] 123)).cell? ⟨gf, 0, none⟩ = some (SEARCHF E) := qaa st4.xf 0
    have ST4 := qac.mk st4
    have HB4 := qac.mk hb4
    have HBY := qac.mk BY
    clear st4 hb4 BY hb3
    cases can2 with
    | false =>
     gi_wp2
     exact HNO.out _ _ ST4.out (KB.of_below HB4.out _) (by rw [HG.out]; rfl)
    | true =>
     by_cases hos : ow2 < slack
     ·
      gi_wp2
      exact HNO.out _ _ ST4.out (KB.of_below HB4.out _) (by rw [HG.out]; simp; omega)
     ·
      gi_wp2
      have hnx4 := HNX3.out (by simp)
      have hsr := HIH.out ⟨y0, y1, y2⟩ hnx4.1 (by have := hnx4.2; show cntB y2 < _; omega) (fun k => A k ∨ k = go ∨ k = gx ∨ some k = v.ownBlock) _ ST4.out.env (ST4.out.lt hA)
      simp only [spV_eq] at hsr
      refine ⟨trivial, (CallsIn.inRound l (callsIn_wide.2 hsr)).mono ?_⟩
      rintro e W5 ⟨v2, rfl, hrow2, henv, hkb⟩
      obtain ⟨vA, vn, vc, rfl⟩ := R_shape hrow2
      clear hrow2
      have st5 := ST4.out.after henv hkb
      have k5 := (KB.of_below HB4.out (fun k => k = E.m)).trans hkb (fun k e => .inl e)
      have by5 := hkb.blk HBY.out (fun e => ST4.out.env.map.noCells HBY.out e)
      generalize E.S ⟨y0, y1, y2⟩ = S2 at HG ⊢
      obtain ⟨So, Ss, Sr⟩ := S2
      try dsimp only at HG
      clear hsr henv hkb hcf4 hcq4
      have hb6 := qae (Below.refl W5.heap.size W5) (.cells #[.slice vA vn vc, .int .i64 Ss, .bool Sr] 97)
      have st6 := st5.below hb6
      have k6 := k5.then_below hb6
      have by6 := qam by5 hb6
      have bz6 := blk_new W5 (.cells #[.slice vA vn vc, .int .i64 Ss, .bool Sr] 97)
      have hcq6 : (W5.alloc (.cells #[.slice vA vn vc, .int .i64 Ss, .bool Sr] 97)).cell? ⟨gq, 0, none⟩ = some (.int .i64 slack) := qaa st6.xq 0
      have ST6 := qac.mk st6
      have K6 := qac.mk k6
      have BY6 := qac.mk by6
      clear st5 st6 k5 k6 by5 by6 bz6 hb6 HBY ST4 HB4
      cases Sr with
      | false =>
       gi_wp2
       exact HNO.out _ _ ST6.out K6.out (by rw [HG.out]; simp)
      | true =>
       by_cases hos2 : slack ≤ Ss
       ·
        gi_wp2
        have st6 := ST6.out
        have k6 := K6.out
        have by6 := BY6.out
        generalize W5.alloc (.cells #[.slice vA vn vc, .int .i64 Ss, .bool true] 97) = W6 at st6 k6 by6 ⊢
        generalize W3.heap.size = gy at by6 ⊢
        clear ST6 K6 BY6 hcq6
        obtain ⟨oA, on, oc, rfl⟩ := R_shape st6.row
        have hsz6 : ∀ k, W6.heap.size ≤ k → w.heap.size ≤ k ∧ k ≠ gq := fun k hk => ⟨Nat.le_trans st6.kb.size hk, fun e => by have := blk_lt st6.xq; omega⟩
        obtain ⟨v1, w1, hrun, hR1, hg1, hat1⟩ := int_append_run W6.drew (.slice oA on oc) o x E.w0.heap.size _ (Kd.R_drew st6.row) (Nat.le_trans HW0.out st6.kb.size) (by have := HLEN.out; omega) hsz6
        obtain ⟨pA, pn, pc, rfl⟩ := R_shape hR1
        have hg1' : W6.grownBy w1 (Value.slice oA on oc).ownBlock := ⟨hg1.os, hg1.tape, hg1.output, hg1.size, hg1.block⟩
        have hrun' : (Builtin.append_ #[47, 47] 47 #[.slice oA on oc, .slice (some ⟨W6.heap.size, 0, none⟩) 1 1]).run Try.prog (W6.drew.alloc (.cells #[.int .i64 x] 3)) = .ok (.slice pA pn pc) w1 := hrun
        have push := st6.push (n' := ⟨y0, y1, y2⟩) HW0.out HNE.out hR1 hg1' hat1
        dsimp only at push
        have bo6 := st6.xo
        have bx6 := st6.xx
        have bo1 := blk_grown bo6 hg1' (Kd.R_ne st6.row bo6 (by decide))
        have bx1 := blk_grown bx6 hg1' (Kd.R_ne st6.row bx6 (by decide))
        have by1 := blk_grown by6 hg1' (Kd.R_ne st6.row by6 (by decide))
        have nex : gx ≠ go := HNE.out.2.2.2.2.2.2.2.2.symm
        have ney : gy ≠ go := blk_ne by6 bo6 (by decide)
        have hKF : KeepsFrom W1.heap.size W2 ((((w1.setCell ⟨go, 0, none⟩ (.slice pA pn pc)).setCell ⟨gx, 0, none⟩ (.int .i64 y0)).setCell ⟨gx, 1, none⟩ (.int .i64 y1)).setCell ⟨gx, 2, none⟩ (.int .i64 y2)) := by
         refine ⟨by simpa using Nat.le_trans k6.size hg1'.size, fun k ob hB hk hc => ?_⟩
         have e6 : W6.heap[k]? = some ob := k6.blk hk (by omega)
         have e1 : w1.heap[k]? = some ob := (hg1'.block k (blk_lt e6) (fun e => by
          obtain ⟨cells, hcc⟩ := Kd.R_typed st6.row k e.symm
          rw [e6] at hcc
          injection hcc with hcc
          subst hcc
          cases hc)).trans e6
         have ng : k ≠ go := fun e => by
          subst e
          rw [bo1] at e1
          injection e1 with e1
          subst e1
          cases hc
         have nx : k ≠ gx := fun e => by
          subst e
          rw [bx1] at e1
          injection e1 with e1
          subst e1
          cases hc
         exact (Below.heap_setCell _ ⟨gx, 2, none⟩ _ k nx).trans ((Below.heap_setCell _ ⟨gx, 1, none⟩ _ k nx).trans ((Below.heap_setCell _ ⟨gx, 0, none⟩ _ k nx).trans ((Below.heap_setCell _ ⟨go, 0, none⟩ _ k ng).trans e1)))
        have hIx : IX93 E A w gq gd gf go gx slack n o Ds (.exit 2) (pre ++ [(⟨x, hxm⟩ : LoopOf n.r)]) ((((w1.setCell ⟨go, 0, none⟩ (.slice pA pn pc)).setCell ⟨gx, 0, none⟩ (.int .i64 y0)).setCell ⟨gx, 1, none⟩ (.int .i64 y1)).setCell ⟨gx, 2, none⟩ (.int .i64 y2)) := by
         refine ⟨pre, ⟨x, hxm⟩, .slice pA pn pc, rfl, rfl, HNG.out, ?_, ?_⟩
         ·
          rw [HG.out]
          simp
          omega
         ·
          show St93 E A w w.heap.size gq gd gf go gx slack (repV E.l0 E.l2 E.D n x).1 (o ++ [x]) _ Ds _
          rw [HQ2.out]
          exact push
        have HKF := qac.mk hKF
        have HIX := qac.mk hIx
        clear hKF hIx push HNO HNG HG HQ2 k6 hR1 hg1 hat1 hg1' hsz6 hnx4
        refine region10 (gx := gx) (go := go) (gy := gy) (x := 0) (oA := oA) (pA := pA) (on := on) (oc := oc) (pn := pn) (pc := pc) (xi := x) (y0 := y0) (y1 := y1) (y2 := y2) (n0 := n.p) (n1 := n.h) (n2 := n.r) rfl rfl rfl rfl rfl rfl rfl rfl (by kernel_rfl) ⟨rfl, rfl, rfl, rfl, rfl, fun h => (by cases h), fun h => (by cases h), fun h => (by cases h), fun h => (by cases h), fun h => (by cases h)⟩ bo6 by6 hrun' bo1 by1 bx1 nex ney (fun a' => ?_)
        clear bo6 by6 hrun' bo1 by1 bx1 bx6 hrun
        gi_wp2
        exact ⟨HKF.out, HIX.out⟩
       ·
        gi_wp2
        exact HNO.out _ _ ST6.out K6.out (by rw [HG.out]; simp; omega)
   case done =>
    rintro D2 xs W2 hD2 hSx ⟨hst, _, hng⟩ hK
    exfalso
    rw [hSx] at hng
    obtain ⟨i, hi⟩ := good_some E.l0 E.l1 E.l2 E.D n hAt.1 hz slack hkW.2.2.2.2.2.1 hkW.2.2.2.2.2.2.1
    have h1 := List.find?_some hi
    have h2 := hng i (List.mem_of_find?_eq_some hi)
    have h3 : goodV E.l0 E.l2 E.D E.S slack n i = true := h1
    rw [h3] at h2
    cases h2
   case stop =>
    rintro D2 c pre W2 hD2 hSp ⟨pre0, x, v1, rfl, rfl, hng, hgx, hst⟩ hK
    have hpre : (pre0 ++ [x]).map (·.1) <+: qay n.r 5 := hSp
    have hfind := find_at (goodV E.l0 E.l2 E.D E.S slack n) (qay n.r 5) (pre0.map (·.1)) x.1 (by simpa using hpre) hng hgx
    have hgx2 := hgx
    unfold goodV at hgx2
    simp only [Bool.and_eq_true, decide_eq_true_eq] at hgx2
    have hnx2 := hAt.next x.2 hgx2.1.1.1
    have hc0 : cntB n.r ≠ 0 := fun e => hz ((cnt_zero n.r hAt.1.1 hAt.1.2).1 e)
    obtain ⟨k', rfl⟩ : ∃ k', k = k' + 1 := ⟨k - 1, by have := hkW.2.2.2.2.1; omega⟩
    have hsame : sameV E.l0 E.l2 E.D E.S slack (k' + 1) n o = sameV E.l0 E.l2 E.D E.S slack k' (repV E.l0 E.l2 E.D n x.1).1 (o ++ [x.1]) := by
     conv => lhs; unfold sameV
     rw [if_neg hz, hfind]
    have hxx : W2.cell? ⟨gx, 2, none⟩ = some (.int .i64 (repV E.l0 E.l2 E.D n x.1).1.r) := qaa hst.xx 2
    have hDnew : D2 ∉ Ds := fun hD => by have := hDs1 D2 hD; omega
    have hlw := hkW
    have hLI : ∀ (t33 t34 t35 t36 t37 t38 : Value), LI93 E A w s first slack gq gd gf go gx q0 q1 q2 { tmps := fr93 E s first slack w.heap.size (w.heap.size + 1) gq gd gf go gx z15 z16 z22 z23 z24 z25 z26 z27 z28 z29 z30 z31 z32 t33 t34 t35 t36 t37 t38, defers := { target := .collected D2, args := #[] } :: Ds.map fun D => { target := .collected D, args := #[] } } W2 := by
     intro t33 t34 t35 t36 t37 t38
     refine ⟨_, o ++ [x.1], v1, k', D2 :: Ds, z15, z16, z22, z23, z24, z25, z26, z27, z28, z29, z30, z31, z32, t33, t34, t35, t36, t37, t38, rfl, ⟨⟨hst.env, hst.xn, hst.xq, hst.xd, hst.xf, hst.xo, hst.xx, hst.row, hst.kb, hst.lo, ?_⟩, ?_, hnx2.1, by omega, ?_, hgx2.1.2, hgx2.2, ?_, ?_⟩⟩
     ·
      intro D hD
      rcases List.mem_cons.1 hD with rfl | hD
      ·
       exact ⟨hK, by omega⟩
      ·
       exact hst.marks D hD
     ·
      exact List.nodup_cons.2 ⟨hDnew, hlw.2.1⟩
     ·
      have := hlw.2.2.2.2.1
      omega
     ·
      rw [← hsame]
      exact hlw.2.2.2.2.2.2.2.1
     ·
      have := hlw.2.2.2.2.2.2.2.2
      simp
      omega
    have HLI := qac.mk hLI
    have HMU : qac (mu93 gx W2 < mu93 gx W) := ⟨by rw [mu93_eq hxx, mu93_eq hc2]; omega⟩
    clear hLI hng hgx2 hgx hkW hlw hfind hsame hDs1
    gi_wp2
    exact ⟨HLI.out _ _ _ _ _ _, HMU.out⟩
end Go.Proofs.Ytipphcjgdebecaa.PA
namespace Go.Proofs.Ytipphcjgdebecaa.PA
open Go.RowKit Go.Proofs.YtipphcjgdebecaaW.PrintWords Go.Proofs.YtipphcjgdebecaaW.PrintLast Go.Proofs.YtipphcjgdebecaaW.PrintMore
attribute [local go_sem] max2_int min2_int max_two min_two max_three min_three max_four min_four
set_option maxRecDepth 100000 in
theorem put_tail {E : OE} {A : Nat → Prop} {W : World} {s : Sp} (h : EnvInv E A W) (bm : E.w0.heap.size ≤ E.m) (hs : OkS s) (v : Value) (hv : E.Row A W v (E.S s).1) :
  ∃ w9, (Instr.mapUpdate 120 (.map (some E.m)) (.agg #[.int .i64 s.p, .int .i64 s.h, .int .i64 s.r]) (.agg #[v, .int .i64 (E.S s).2.1, .bool (E.S s).2.2])).run Try.prog W = .ok () w9 ∧ EnvInv E A w9 ∧ E.Row A w9 v (E.S s).1 ∧ KB (fun k => k = E.m) W w9 := by
 obtain ⟨w9, hrun, hg, hm⟩ := h.map.update (t := 120) (el := 97) Try.underlying120 s (.agg #[v, .int .i64 (E.S s).2.1, .bool (E.S s).2.2])
 exact ⟨w9, hrun, h.put hg hs rfl hv bm hm, Kd.R_grown hv hg (fun k hk e => hk.1 (by injection e)), (KB.of_grown hg).mono (fun k e => by injection e with e; exact e.symm)⟩
theorem allocs3 (w : World) (o1 o2 o3 : Obj) : ∃ w4, ((w.alloc o1).alloc o2).alloc o3 = w4 ∧ w4.heap[w.heap.size]? = some o1 ∧ w4.heap[w.heap.size + 1]? = some o2 ∧ w4.heap[w.heap.size + 1 + 1]? = some o3 ∧ w4.heap.size = w.heap.size + 3 ∧ Below w.heap.size w w4 := by
 have h2 := blk_new (w.alloc o1) o2
 have h3 := blk_new ((w.alloc o1).alloc o2) o3
 rw [World.size_alloc] at h2
 rw [World.size_alloc, World.size_alloc] at h3
 exact ⟨_, rfl, qaj (qaj (blk_new w o1) o2) o3, qaj h2 o3, h3, by simp, qae (qae (qae (Below.refl _ _) _) _) _⟩
set_option maxRecDepth 100000 in
set_option maxHeartbeats 8000000 in
theorem search_step (E : OE) (hE : E.Fit) (s : Sp) (hs : E.At s) (IH : ∀ s', E.At s' → cntB s'.r < cntB s.r → SearchC E s') : SearchC E s := by
 intro A w hinv hA
 have hu97 := Try.underlying97
 have hu99 := Try.underlying99
 have hu123 := Try.underlying123
 have hu26 := Try.underlying26
 have hmf : ∀ (fn : Fn) (first cap : Array Value) (w : World), (Instr.makeFunc fn first cap).run Try.prog w = .ok (.func fn first cap) w := fun _ _ _ _ => rfl
 have HB := qac.mk (Below.refl w.heap.size w)
 have HI := qac.mk hinv
 have HIH := qac.mk IH
 have HE := qac.mk hE
 have HS := qac.mk hs
 have BKBn := qac.mk hinv.xn
 have BKBk := qac.mk hinv.xk
 have BKBd := qac.mk hinv.xd
 have BKBs := qac.mk hinv.xs
 have hSe := bestV_eq E.l0 E.l1 E.l2 E.D s hs.1
 have HSE := qac.mk hSe
 clear IH hinv hE hs hSe
 unfold spV
 by_cases hz : s.r = 0
 ·
  have hzb : (s.r == 0) = true := by simp [hz]
  have hS : E.S s = ([], (E.l1.length : Int), true) := by
   unfold OE.S
   rw [HSE.out]
   unfold stepV
   rw [if_pos hz]
  rw [hS]
  clear HSE hS
  go_enter Try.func90, Try.ntmps90
  go_wp2_with ((first | ((with_reducible refine qax (N := 5) rfl ?_); refine qaw ?hg (N := 5) ?hd (cs := #[.int .i64 s.p, .int .i64 s.h, .int .i64 s.r]) (t := 123) ?hr ?_; (case hd => rfl); (case hg => rfl); (case hr => first | (go_simp; done) | (go_simp; rfl)); intro gs hg_gs w2 hbox hb; have BKgs := qac.mk hbox; have n_BKBn := qac.mk (qam BKBn.out hb); clear BKBn; have BKBn := n_BKBn; clear n_BKBn; have n_BKBk := qac.mk (qam BKBk.out hb); clear BKBk; have BKBk := n_BKBk; clear n_BKBk; have n_BKBd := qac.mk (qam BKBd.out hb); clear BKBd; have BKBd := n_BKBd; clear n_BKBd; have n_BKBs := qac.mk (qam BKBs.out hb); clear BKBs; have BKBs := n_BKBs; clear n_BKBs; have n_HB := qac.mk (qai HB.out hb); have GEgs : w.heap.size ≤ gs := (by rw [hg_gs]; exact HB.out.size); clear HB; have HB := n_HB; clear n_HB; clear hbox hb hg_gs) | ((with_reducible refine qax (N := 6) rfl ?_); refine qaw ?hg (N := 6) ?hd (cs := #[.slice none 0 0, .int .i64 0, .bool false]) (t := 97) ?hr ?_; (case hd => rfl); (case hg => rfl); (case hr => first | (go_simp; done) | (go_simp; rfl)); intro gr hg_gr w3 hbox hb; have BKgr := qac.mk hbox; have n_BKBn := qac.mk (qam BKBn.out hb); clear BKBn; have BKBn := n_BKBn; clear n_BKBn; have n_BKBk := qac.mk (qam BKBk.out hb); clear BKBk; have BKBk := n_BKBk; clear n_BKBk; have n_BKBd := qac.mk (qam BKBd.out hb); clear BKBd; have BKBd := n_BKBd; clear n_BKBd; have n_BKBs := qac.mk (qam BKBs.out hb); clear BKBs; have BKBs := n_BKBs; clear n_BKBs; have n_BKgs := qac.mk (qam BKgs.out hb); clear BKgs; have BKgs := n_BKgs; clear n_BKgs; have n_HB := qac.mk (qai HB.out hb); have GEgr : w.heap.size ≤ gr := (by rw [hg_gr]; exact HB.out.size); clear HB; have HB := n_HB; clear n_HB; clear hbox hb hg_gr; have hfgs := qab BKgs.out; have hcgs_0 : w3.cell? ⟨gs, 0, none⟩ = some (.int .i64 s.p) := (qaa BKgs.out 0).trans rfl; have hcgs_1 : w3.cell? ⟨gs, 1, none⟩ = some (.int .i64 s.h) := (qaa BKgs.out 1).trans rfl; have hcgs_2 : w3.cell? ⟨gs, 2, none⟩ = some (.int .i64 s.r) := (qaa BKgs.out 2).trans rfl; have hfgr := qab BKgr.out; have hcgr_0 : w3.cell? ⟨gr, 0, none⟩ = some (.slice none 0 0) := (qaa BKgr.out 0).trans rfl; have hcgr_1 : w3.cell? ⟨gr, 1, none⟩ = some (.int .i64 0) := (qaa BKgr.out 1).trans rfl; have hcgr_2 : w3.cell? ⟨gr, 2, none⟩ = some (.bool false) := (qaa BKgr.out 2).trans rfl; have hfBn := qab BKBn.out; have hcBn_0 : w3.cell? ⟨E.Bn, 0, none⟩ = some (.slice E.A0 E.l0.length E.c0) := (qaa BKBn.out 0).trans rfl; have hcBn_1 : w3.cell? ⟨E.Bn, 1, none⟩ = some (.slice E.A1 E.l1.length E.c1) := (qaa BKBn.out 1).trans rfl; have hcBn_2 : w3.cell? ⟨E.Bn, 2, none⟩ = some (.slice E.A2 E.l2.length E.c2) := (qaa BKBn.out 2).trans rfl; have hcBn_3 : w3.cell? ⟨E.Bn, 3, none⟩ = some (.int .i64 E.wp) := (qaa BKBn.out 3).trans rfl; have hfBk := qab BKBk.out; have hcBk_0 : w3.cell? ⟨E.Bk, 0, none⟩ = some (.map (some E.m)) := (qaa BKBk.out 0).trans rfl; have hfBd := qab BKBd.out; have hcBd_0 : w3.cell? ⟨E.Bd, 0, none⟩ = some (.slice E.Ad E.D.length E.cd) := (qaa BKBd.out 0).trans rfl; have hfBs := qab BKBs.out; have hcBs_0 : w3.cell? ⟨E.Bs, 0, none⟩ = some (.func (.func 90) #[] #[.pointer (some ⟨E.Bn, 0, none⟩), .pointer (some ⟨E.Bk, 0, none⟩), .pointer (some ⟨E.Bd, 0, none⟩), .pointer (some ⟨E.Bs, 0, none⟩)]) := (qaa BKBs.out 0).trans rfl)))
  refine bodyPost_ret (results_cell_row rfl _ _ gr 97 _ (0, 0) _ rfl (by first | exact qap (blk_set (blk_set (blk_set BKgr.out 0 _) 1 _) 2 _) | exact blk_set (blk_set (blk_set BKgr.out 0 _) 1 _) 2 _) hu97 rfl (by kernel_rfl)) rfl ?_
  have hfin := qag (j := 2) (v := .bool true) (qag (j := 1) (v := .int .i64 E.l1.length) (qag (j := 0) (v := .slice none 0 0) HB.out GEgr) GEgr) GEgr
  exact ⟨_, rfl, Kd.R_nil _ _ _ _ _, HI.out.step (KB.of_below hfin _), KB.of_below hfin _⟩
 ·
  have hzb : (s.r == 0) = false := by simp [hz]
  have hlk := HI.out.map
  have HLT := qac.mk hlk.lt
  rcases hlk.looks (t := 120) (el := 97) Try.underlying120 zero97 s with ⟨u, ⟨hok, v, hu, hrow⟩, hl⟩ | hl
  ·
   obtain ⟨vA, vn, vc, rfl⟩ := R_shape hrow
   generalize hSs : E.S s = S at hu hrow ⊢
   obtain ⟨So, Ss, Sr⟩ := S
   try dsimp only at hu hrow
   subst hu
   have HL : qac (∀ W' : World, W'.heap[E.m]? = w.heap[E.m]? → (Instr.lookup 120 (.map (some E.m)) (.agg #[.int .i64 s.p, .int .i64 s.h, .int .i64 s.r]) true).run Try.prog W' = .ok (.tuple #[.agg #[.slice vA vn vc, .int .i64 Ss, .bool Sr], .bool true]) W') := ⟨hl⟩
   have HROW := qac.mk hrow
   clear hl hlk hrow hSs
   go_enter Try.func90, Try.ntmps90
   go_wp2_with (first | ((with_reducible refine qax (N := 5) rfl ?_); refine qaw ?hg (N := 5) ?hd (cs := #[.int .i64 s.p, .int .i64 s.h, .int .i64 s.r]) (t := 123) ?hr ?_; (case hd => rfl); (case hg => rfl); (case hr => first | (go_simp; done) | (go_simp; rfl)); intro gs hg_gs w2 hbox hb; have BKgs := qac.mk hbox; have n_BKBn := qac.mk (qam BKBn.out hb); clear BKBn; have BKBn := n_BKBn; clear n_BKBn; have n_BKBk := qac.mk (qam BKBk.out hb); clear BKBk; have BKBk := n_BKBk; clear n_BKBk; have n_BKBd := qac.mk (qam BKBd.out hb); clear BKBd; have BKBd := n_BKBd; clear n_BKBd; have n_BKBs := qac.mk (qam BKBs.out hb); clear BKBs; have BKBs := n_BKBs; clear n_BKBs; have n_HB := qac.mk (qai HB.out hb); have GEgs : w.heap.size ≤ gs := (by rw [hg_gs]; exact HB.out.size); clear HB; have HB := n_HB; clear n_HB; clear hbox hb hg_gs) | ((with_reducible refine qax (N := 6) rfl ?_); refine qaw ?hg (N := 6) ?hd (cs := #[.slice none 0 0, .int .i64 0, .bool false]) (t := 97) ?hr ?_; (case hd => rfl); (case hg => rfl); (case hr => first | (go_simp; done) | (go_simp; rfl)); intro gr hg_gr w3 hbox hb; have BKgr := qac.mk hbox; have n_BKBn := qac.mk (qam BKBn.out hb); clear BKBn; have BKBn := n_BKBn; clear n_BKBn; have n_BKBk := qac.mk (qam BKBk.out hb); clear BKBk; have BKBk := n_BKBk; clear n_BKBk; have n_BKBd := qac.mk (qam BKBd.out hb); clear BKBd; have BKBd := n_BKBd; clear n_BKBd; have n_BKBs := qac.mk (qam BKBs.out hb); clear BKBs; have BKBs := n_BKBs; clear n_BKBs; have n_BKgs := qac.mk (qam BKgs.out hb); clear BKgs; have BKgs := n_BKgs; clear n_BKgs; have n_HB := qac.mk (qai HB.out hb); have GEgr : w.heap.size ≤ gr := (by rw [hg_gr]; exact HB.out.size); clear HB; have HB := n_HB; clear n_HB; clear hbox hb hg_gr; have hfgs := qab BKgs.out; have hcgs_0 : w3.cell? ⟨gs, 0, none⟩ = some (.int .i64 s.p) := (qaa BKgs.out 0).trans rfl; have hcgs_1 : w3.cell? ⟨gs, 1, none⟩ = some (.int .i64 s.h) := (qaa BKgs.out 1).trans rfl; have hcgs_2 : w3.cell? ⟨gs, 2, none⟩ = some (.int .i64 s.r) := (qaa BKgs.out 2).trans rfl; have hfgr := qab BKgr.out; have hcgr_0 : w3.cell? ⟨gr, 0, none⟩ = some (.slice none 0 0) := (qaa BKgr.out 0).trans rfl; have hcgr_1 : w3.cell? ⟨gr, 1, none⟩ = some (.int .i64 0) := (qaa BKgr.out 1).trans rfl; have hcgr_2 : w3.cell? ⟨gr, 2, none⟩ = some (.bool false) := (qaa BKgr.out 2).trans rfl; have hfBn := qab BKBn.out; have hcBn_0 : w3.cell? ⟨E.Bn, 0, none⟩ = some (.slice E.A0 E.l0.length E.c0) := (qaa BKBn.out 0).trans rfl; have hcBn_1 : w3.cell? ⟨E.Bn, 1, none⟩ = some (.slice E.A1 E.l1.length E.c1) := (qaa BKBn.out 1).trans rfl; have hcBn_2 : w3.cell? ⟨E.Bn, 2, none⟩ = some (.slice E.A2 E.l2.length E.c2) := (qaa BKBn.out 2).trans rfl; have hcBn_3 : w3.cell? ⟨E.Bn, 3, none⟩ = some (.int .i64 E.wp) := (qaa BKBn.out 3).trans rfl; have hfBk := qab BKBk.out; have hcBk_0 : w3.cell? ⟨E.Bk, 0, none⟩ = some (.map (some E.m)) := (qaa BKBk.out 0).trans rfl; have hfBd := qab BKBd.out; have hcBd_0 : w3.cell? ⟨E.Bd, 0, none⟩ = some (.slice E.Ad E.D.length E.cd) := (qaa BKBd.out 0).trans rfl; have hfBs := qab BKBs.out; have hcBs_0 : w3.cell? ⟨E.Bs, 0, none⟩ = some (.func (.func 90) #[] #[.pointer (some ⟨E.Bn, 0, none⟩), .pointer (some ⟨E.Bk, 0, none⟩), .pointer (some ⟨E.Bd, 0, none⟩), .pointer (some ⟨E.Bs, 0, none⟩)]) := (qaa BKBs.out 0).trans rfl; have hl3 := HL.out w3 (HB.out.block _ HLT.out)) | ((with_reducible refine qax (N := 7) rfl ?_); refine qaw ?hg (N := 7) ?hd (cs := #[.slice none 0 0, .int .i64 0, .bool false]) (t := 97) ?hr ?_; (case hd => rfl); (case hg => rfl); (case hr => first | (go_simp; done) | (go_simp; rfl)); intro gk hg_gk w4 hbox hb; have BKgk := qac.mk hbox; have ne_gr_gk : gr ≠ gk := (by rw [hg_gk]; exact Nat.ne_of_lt (blk_lt BKgr.out)); have n_BKgs := qac.mk (qam BKgs.out hb); clear BKgs; have BKgs := n_BKgs; clear n_BKgs; have n_BKgr := qac.mk (qam BKgr.out hb); clear BKgr; have BKgr := n_BKgr; clear n_BKgr; have n_HB := qac.mk (qai HB.out hb); have GEgk : w.heap.size ≤ gk := (by rw [hg_gk]; exact HB.out.size); clear HB; have HB := n_HB; clear n_HB; clear hbox hb hg_gk; have hfgk := qab BKgk.out; have hcgk_0 : w4.cell? ⟨gk, 0, none⟩ = some (.slice none 0 0) := (qaa BKgk.out 0).trans rfl; have hcgk_1 : w4.cell? ⟨gk, 1, none⟩ = some (.int .i64 0) := (qaa BKgk.out 1).trans rfl; have hcgk_2 : w4.cell? ⟨gk, 2, none⟩ = some (.bool false) := (qaa BKgk.out 2).trans rfl; have hfgr := qab BKgr.out; have hcgr_0 : w4.cell? ⟨gr, 0, none⟩ = some (.slice none 0 0) := (qaa BKgr.out 0).trans rfl; have hcgr_1 : w4.cell? ⟨gr, 1, none⟩ = some (.int .i64 0) := (qaa BKgr.out 1).trans rfl; have hcgr_2 : w4.cell? ⟨gr, 2, none⟩ = some (.bool false) := (qaa BKgr.out 2).trans rfl))
   have hba := qag (j := 2) (v := .bool Sr) (qag (j := 1) (v := .int .i64 Ss) (qag (j := 0) (v := .slice vA vn vc) HB.out GEgk) GEgk) GEgk
   have hbb := qag (j := 2) (v := .bool Sr) (qag (j := 1) (v := .int .i64 Ss) (qag (j := 0) (v := .slice vA vn vc) hba GEgr) GEgr) GEgr
   refine bodyPost_ret (results_cell_row rfl _ _ gr 97 _ (0, 0) _ rfl (blk_set (blk_set (blk_set (qbc (qbc (qbc BKgr.out (p := ⟨gk, 0, none⟩) ne_gr_gk _) (p := ⟨gk, 1, none⟩) ne_gr_gk _) (p := ⟨gk, 2, none⟩) ne_gr_gk _) 0 _) 1 _) 2 _) hu97 rfl (by kernel_rfl)) rfl ?_
   exact ⟨_, rfl, Kd.R_below HROW.out hbb, HI.out.step (KB.of_below hbb _), KB.of_below hbb _⟩
  ·
   have HL : qac (∀ W' : World, W'.heap[E.m]? = w.heap[E.m]? → (Instr.lookup 120 (.map (some E.m)) (.agg #[.int .i64 s.p, .int .i64 s.h, .int .i64 s.r]) true).run Try.prog W' = .ok (.tuple #[.agg #[.slice none 0 0, .int .i64 0, .bool false], .bool false]) W') := ⟨hl⟩
   have hmm := @run_makeMap Try.prog
   clear hl hlk
   go_enter Try.func90, Try.ntmps90
   go_wp2_with (first | ((with_reducible refine qax (N := 5) rfl ?_); refine qaw ?hg (N := 5) ?hd (cs := #[.int .i64 s.p, .int .i64 s.h, .int .i64 s.r]) (t := 123) ?hr ?_; (case hd => rfl); (case hg => rfl); (case hr => first | (go_simp; done) | (go_simp; rfl)); intro gs hg_gs w2 hbox hb; have BKgs := qac.mk hbox; have n_BKBn := qac.mk (qam BKBn.out hb); clear BKBn; have BKBn := n_BKBn; clear n_BKBn; have n_BKBk := qac.mk (qam BKBk.out hb); clear BKBk; have BKBk := n_BKBk; clear n_BKBk; have n_BKBd := qac.mk (qam BKBd.out hb); clear BKBd; have BKBd := n_BKBd; clear n_BKBd; have n_BKBs := qac.mk (qam BKBs.out hb); clear BKBs; have BKBs := n_BKBs; clear n_BKBs; have n_HB := qac.mk (qai HB.out hb); have GEgs : w.heap.size ≤ gs := (by rw [hg_gs]; exact HB.out.size); clear HB; have HB := n_HB; clear n_HB; clear hbox hb hg_gs) | ((with_reducible refine qax (N := 6) rfl ?_); refine qaw ?hg (N := 6) ?hd (cs := #[.slice none 0 0, .int .i64 0, .bool false]) (t := 97) ?hr ?_; (case hd => rfl); (case hg => rfl); (case hr => first | (go_simp; done) | (go_simp; rfl)); intro gr hg_gr w3 hbox hb; have BKgr := qac.mk hbox; have n_BKBn := qac.mk (qam BKBn.out hb); clear BKBn; have BKBn := n_BKBn; clear n_BKBn; have n_BKBk := qac.mk (qam BKBk.out hb); clear BKBk; have BKBk := n_BKBk; clear n_BKBk; have n_BKBd := qac.mk (qam BKBd.out hb); clear BKBd; have BKBd := n_BKBd; clear n_BKBd; have n_BKBs := qac.mk (qam BKBs.out hb); clear BKBs; have BKBs := n_BKBs; clear n_BKBs; have n_BKgs := qac.mk (qam BKgs.out hb); clear BKgs; have BKgs := n_BKgs; clear n_BKgs; have n_HB := qac.mk (qai HB.out hb); have GEgr : w.heap.size ≤ gr := (by rw [hg_gr]; exact HB.out.size); clear HB; have HB := n_HB; clear n_HB; clear hbox hb hg_gr; have hfgs := qab BKgs.out; have hcgs_0 : w3.cell? ⟨gs, 0, none⟩ = some (.int .i64 s.p) := (qaa BKgs.out 0).trans rfl; have hcgs_1 : w3.cell? ⟨gs, 1, none⟩ = some (.int .i64 s.h) := (qaa BKgs.out 1).trans rfl; have hcgs_2 : w3.cell? ⟨gs, 2, none⟩ = some (.int .i64 s.r) := (qaa BKgs.out 2).trans rfl; have hfgr := qab BKgr.out; have hcgr_0 : w3.cell? ⟨gr, 0, none⟩ = some (.slice none 0 0) := (qaa BKgr.out 0).trans rfl; have hcgr_1 : w3.cell? ⟨gr, 1, none⟩ = some (.int .i64 0) := (qaa BKgr.out 1).trans rfl; have hcgr_2 : w3.cell? ⟨gr, 2, none⟩ = some (.bool false) := (qaa BKgr.out 2).trans rfl; have hfBn := qab BKBn.out; have hcBn_0 : w3.cell? ⟨E.Bn, 0, none⟩ = some (.slice E.A0 E.l0.length E.c0) := (qaa BKBn.out 0).trans rfl; have hcBn_1 : w3.cell? ⟨E.Bn, 1, none⟩ = some (.slice E.A1 E.l1.length E.c1) := (qaa BKBn.out 1).trans rfl; have hcBn_2 : w3.cell? ⟨E.Bn, 2, none⟩ = some (.slice E.A2 E.l2.length E.c2) := (qaa BKBn.out 2).trans rfl; have hcBn_3 : w3.cell? ⟨E.Bn, 3, none⟩ = some (.int .i64 E.wp) := (qaa BKBn.out 3).trans rfl; have hfBk := qab BKBk.out; have hcBk_0 : w3.cell? ⟨E.Bk, 0, none⟩ = some (.map (some E.m)) := (qaa BKBk.out 0).trans rfl; have hfBd := qab BKBd.out; have hcBd_0 : w3.cell? ⟨E.Bd, 0, none⟩ = some (.slice E.Ad E.D.length E.cd) := (qaa BKBd.out 0).trans rfl; have hfBs := qab BKBs.out; have hcBs_0 : w3.cell? ⟨E.Bs, 0, none⟩ = some (.func (.func 90) #[] #[.pointer (some ⟨E.Bn, 0, none⟩), .pointer (some ⟨E.Bk, 0, none⟩), .pointer (some ⟨E.Bd, 0, none⟩), .pointer (some ⟨E.Bs, 0, none⟩)]) := (qaa BKBs.out 0).trans rfl; have hl3 := HL.out w3 (HB.out.block _ HLT.out); have hraw := qaj (qaj (qaj BKgs.out (.cells #[.slice none 0 0, .int .i64 0, .bool false] 97)) (.map #[] 0)) (.cells #[.map (some (w3.heap.size + 1))] 125); have hrc := qaa hraw 2; clear hraw; simp only [List.getElem?_toArray, List.getElem?_cons_succ, List.getElem?_cons_zero] at hrc) | (go_at_call 76; obtain ⟨w5, hw5, b7, bm, bw, hsz5, hb5⟩ := allocs3 w3 (.cells #[.slice none 0 0, .int .i64 0, .bool false] 97) (.map #[] 0) (.cells #[.map (some (w3.heap.size + 1))] 125); rw [hw5]; clear hw5 hrc hl3; refine (loops_calls s.r w5).mono ?_; rintro e w6 ⟨BB, rfl, hBB, hge, hb6⟩))
   have hbw6 : Below w.heap.size w w6 := qai (qai HB.out hb5) hb6
   have xgs6 := qam (qam BKgs.out hb5) hb6
   have xgr6 := qam (qam BKgr.out hb5) hb6
   have xw6 := qam bw hb6
   have xm6 := qam bm hb6
   have lgr := blk_lt BKgr.out
   have l3 := HB.out.size
   have lE := HLT.out
   have lw0 := HI.out.hb.size
   have nsr : gs ≠ gr := blk_ne BKgs.out BKgr.out (by decide)
   have hinv6 : Inv91 E s gs (w3.heap.size + 1 + 1) (w3.heap.size + 1) (fun k => A k ∨ k = gr) w6 := by
    refine ⟨(HI.out.imp (A' := fun k => A k ∨ k = gr) (fun k hk => ?_)).step (KB.of_below hbw6 _), ?_, ?_, ?_, xgs6, xw6, ⟨#[], 0, [], xm6, rfl, by simp, fun i k e h _ => by simp at h, fun k hk => hk.elim⟩, by omega, by omega⟩
    ·
     rcases hk with hk | hk
     ·
      exact ⟨HI.out.lo k hk, .inl hk⟩
     ·
      exact ⟨by omega, .inr (by omega)⟩
    ·
     rintro (hk | hk)
     ·
      have := hA _ hk
      omega
     ·
      exact nsr hk
    ·
     rintro (hk | hk)
     ·
      have := hA _ hk
      omega
     ·
      omega
    ·
     rintro (hk | hk)
     ·
      have := hA _ hk
      omega
     ·
      omega
   have l6 : w3.heap.size + 3 ≤ w6.heap.size := by have := hb6.size; omega
   have lBB := blk_lt hBB
   have hA6 : ∀ k, (A k ∨ k = gr) → k < w6.heap.size := fun k hk => by
    rcases hk with hk | hk
    ·
     have := hA k hk
     omega
    ·
     omega
   have hcall := greatest91_calls (p := fun x => x ∈ qay s.r 5) (gf := 97) (lb := #[.pointer (some ⟨BB, 0, none⟩)]) (enters_of Try.func97 (by kernel_rfl) rfl) (Bn := BB) (w := w6) lBB (fun n hn => loops_stops n hn s.r HS.out.1.1 BB w6 hBB) (qay s.r 5) (fun xs h => h)
    (Inv91.held (E := E) (s := s) (gs := gs) (gw := w3.heap.size + 1 + 1) (mw := w3.heap.size + 1) (B := w6.heap.size) (by omega) (by omega) (by omega)) (fun k => k = E.m ∨ k = w3.heap.size + 1) (fun k hk => by omega)
    (fun k => A k ∨ k = gr) (.pointer (some ⟨E.Bn, 0, none⟩)) (.pointer (some ⟨gs, 0, none⟩)) (.pointer (some ⟨E.Bd, 0, none⟩)) (.pointer (some ⟨E.Bs, 0, none⟩)) (.pointer (some ⟨w3.heap.size + 1 + 1, 0, none⟩)) (ofV E.l0 E.l2 E.D E.S s)
    (fun A' W' x hx hA' hi' => of91_calls E HE.out s HS.out gs _ _ HIH.out x hx A' W' hi' hA') hinv6 hA6
   refine hcall.mono ?_
   rintro e w7 ⟨rfl, i7, k7⟩
   have hg7 : w6.heap.size ≤ w7.heap.size := k7.size
   clear hcall hinv6 xgs6 xw6 xm6
   generalize hgm : g1 (ofV E.l0 E.l2 E.D E.S s) (qay s.r 5) = g
   obtain ⟨ga, gb, gf⟩ := g
   try dsimp only
   have xgr7 := k7.blk xgr6 (by rintro (hk | hk) <;> omega)
   have hb8 := qae (Below.refl w7.heap.size w7) (.cells #[.slice none 0 0, .int .i64 gb, .bool gf] 97)
   have env8 : EnvInv E (fun k => A k ∨ k = gr ∨ k = w7.heap.size) (w7.alloc (.cells #[.slice none 0 0, .int .i64 gb, .bool gf] 97)) := by
    refine (i7.env.imp (fun k hk => ?_)).step (KB.of_below hb8 _)
    have := i7.env.hb.size
    rcases hk with hk | hk | hk
    ·
     exact ⟨HI.out.lo k hk, .inl (.inl hk)⟩
    ·
     exact ⟨by omega, .inl (.inr hk)⟩
    ·
     exact ⟨by omega, .inr (by omega)⟩
   have xgs8 := qam i7.xs hb8
   have xgr8 := qam xgr7 hb8
   have xt8 := blk_new w7 (.cells #[.slice none 0 0, .int .i64 gb, .bool gf] 97)
   have k67 : KB (fun k => k = E.m) w w7 := (KB.of_below hbw6 (fun k => k = E.m)).trans k7 (fun k hk => by
    rcases hk with hk | hk
    ·
     exact .inl hk
    ·
     exact .inr (by omega))
   have k8 := k67.then_below hb8
   have nrt : gr ≠ w7.heap.size := by omega
   have hS : E.S s = (if gf = true then sameV E.l0 E.l2 E.D E.S gb 5 (repV E.l0 E.l2 E.D s ga).1 [ga] else [], gb, gf) := by
    have h := HSE.out
    unfold stepV at h
    rw [if_neg hz] at h
    have hgm' : g1 (ofV E.l0 E.l2 E.D (bestV E.l0 E.l1 E.l2 E.D) s) (qay s.r 5) = (ga, gb, gf) := hgm
    rw [hgm'] at h
    exact h
   have c8k : (w7.alloc (.cells #[.slice none 0 0, .int .i64 gb, .bool gf] 97)).cell? ⟨E.Bk, 0, none⟩ = some (.map (some E.m)) := qaa env8.xk 0
   have c8s0 : (w7.alloc (.cells #[.slice none 0 0, .int .i64 gb, .bool gf] 97)).cell? ⟨gs, 0, none⟩ = some (.int .i64 s.p) := qaa xgs8 0
   have c8s1 : (w7.alloc (.cells #[.slice none 0 0, .int .i64 gb, .bool gf] 97)).cell? ⟨gs, 1, none⟩ = some (.int .i64 s.h) := qaa xgs8 1
   have c8s2 : (w7.alloc (.cells #[.slice none 0 0, .int .i64 gb, .bool gf] 97)).cell? ⟨gs, 2, none⟩ = some (.int .i64 s.r) := qaa xgs8 2
   cases gf with
   | false =>
    simp only [Bool.false_eq_true, if_false] at hS
    have hpt := put_tail env8 HE.out.bm HS.out.1 (.slice none 0 0) (by rw [hS]; exact Kd.R_nil _ _ _ _ _)
    rw [hS] at hpt
    obtain ⟨w9, hrun, env9, row9, k9⟩ := hpt
    try dsimp only at hrun
    have nm : ∀ {g : Nat} {cs : Array Value} {t : TypeId}, (w7.alloc (.cells #[.slice none 0 0, .int .i64 gb, .bool false] 97)).heap[g]? = some (.cells cs t (0, 0)) → ¬ g = E.m := fun hg => env8.map.noCells hg
    have xt9 := k9.blk xt8 (nm xt8)
    have xr9 := k9.blk xgr8 (nm xgr8)
    have c9t0 : w9.cell? ⟨w7.heap.size, 0, none⟩ = some (.slice none 0 0) := qaa xt9 0
    have c9t1 : w9.cell? ⟨w7.heap.size, 1, none⟩ = some (.int .i64 gb) := qaa xt9 1
    have c9t2 : w9.cell? ⟨w7.heap.size, 2, none⟩ = some (.bool false) := qaa xt9 2
    have c9r0 : w9.cell? ⟨gr, 0, none⟩ = some (.slice none 0 0) := qaa xr9 0
    have c9r1 : w9.cell? ⟨gr, 1, none⟩ = some (.int .i64 0) := qaa xr9 1
    have c9r2 : w9.cell? ⟨gr, 2, none⟩ = some (.bool false) := qaa xr9 2
    have z9 : ∀ i, w9.frozen? ⟨gr, i, none⟩ = false := qab xr9
    have ENV9 := qac.mk env9
    have K89 := qac.mk (k8.trans k9 (fun k e => .inl e))
    have XR9 := qac.mk xr9
    clear env9 k9 k8 row9 nm xt9 xr9 env8 xgs8 xgr8 xt8 hb8 xgr7 k7 i7 hgm
    go_wp2_with fail
    refine bodyPost_ret (results_cell_row rfl _ _ gr 97 _ (0, 0) _ rfl (blk_set (blk_set (blk_set XR9.out 0 _) 1 _) 2 _) hu97 rfl (by kernel_rfl)) rfl ?_
    have kset : ∀ T : Nat → Prop, T gr → KB T w9 (((w9.setCell ⟨gr, 0, none⟩ (.slice none 0 0)).setCell ⟨gr, 1, none⟩ (.int .i64 gb)).setCell ⟨gr, 2, none⟩ (.bool false)) := fun T t1 => (((KB.refl T w9).set (p := ⟨gr, 0, none⟩) (.inl t1) _).set (p := ⟨gr, 1, none⟩) (.inl t1) _).set (p := ⟨gr, 2, none⟩) (.inl t1) _
    have hAA : ∀ k, A k → E.w0.heap.size ≤ k ∧ ((A k ∨ k = gr ∨ k = w7.heap.size) ∨ (((w9.setCell ⟨gr, 0, none⟩ (.slice none 0 0)).setCell ⟨gr, 1, none⟩ (.int .i64 gb)).setCell ⟨gr, 2, none⟩ (.bool false)).heap.size ≤ k) := fun k hk => ⟨HI.out.lo k hk, .inl (.inl hk)⟩
    refine ⟨.slice none 0 0, by rw [hS]; rfl, by rw [hS]; exact Kd.R_nil _ _ _ _ _, (ENV9.out.step (kset _ (.inr (.inl rfl)))).imp hAA, K89.out.trans (kset (fun k => w.heap.size ≤ k) GEgr) (fun k e => .inr e)⟩
   | true =>
    simp only [if_true] at hS
    have hm := g1_mem (ofV E.l0 E.l2 E.D E.S s) (qay s.r 5) (by rw [hgm])
    rw [hgm] at hm
    have hy := ofV_yes E.l0 E.l2 E.D E.S s ga gb hm.2
    have hA8 : ∀ k, (A k ∨ k = gr ∨ k = w7.heap.size) → k < (w7.alloc (.cells #[.slice none 0 0, .int .i64 gb, .bool true] 97)).heap.size := fun k hk => by
     simp
     rcases hk with hk | hk | hk
     ·
      have := hA k hk
      omega
     ·
      omega
     ·
      omega
    have hsame := same_calls E HE.out s HS.out ga gb hm.1 hy.1 hy.2.2 (by have := hy.2.1; omega) HIH.out _ _ env8 hA8
    have c8n0 : (w7.alloc (.cells #[.slice none 0 0, .int .i64 gb, .bool true] 97)).cell? ⟨E.Bn, 0, none⟩ = some (.slice E.A0 E.l0.length E.c0) := qaa env8.xn 0
    have c8n1 : (w7.alloc (.cells #[.slice none 0 0, .int .i64 gb, .bool true] 97)).cell? ⟨E.Bn, 1, none⟩ = some (.slice E.A1 E.l1.length E.c1) := qaa env8.xn 1
    have c8n2 : (w7.alloc (.cells #[.slice none 0 0, .int .i64 gb, .bool true] 97)).cell? ⟨E.Bn, 2, none⟩ = some (.slice E.A2 E.l2.length E.c2) := qaa env8.xn 2
    have c8n3 : (w7.alloc (.cells #[.slice none 0 0, .int .i64 gb, .bool true] 97)).cell? ⟨E.Bn, 3, none⟩ = some (.int .i64 E.wp) := qaa env8.xn 3
    have c8d : (w7.alloc (.cells #[.slice none 0 0, .int .i64 gb, .bool true] 97)).cell? ⟨E.Bd, 0, none⟩ = some (.slice E.Ad E.D.length E.cd) := qaa env8.xd 0
    have c8s : (w7.alloc (.cells #[.slice none 0 0, .int .i64 gb, .bool true] 97)).cell? ⟨E.Bs, 0, none⟩ = some (SEARCHF E) := qaa env8.xs 0
    have HSAME := qac.mk hsame
    have ENV8 := qac.mk env8
    have XG8 := qac.mk xgs8
    have XR8 := qac.mk xgr8
    have XT8 := qac.mk xt8
    have K8 := qac.mk k8
    have HSS := qac.mk hS
    clear hsame env8 xgs8 xgr8 xt8 k8 hS hm hy hgm hA8 hb8 xgr7 k7 i7
    go_wp2_with fail
    refine HSAME.out.mono ?_
    rintro e w9 ⟨v, rfl, hrow, henv, hkb⟩
    obtain ⟨vA, vn, vc, rfl⟩ := R_shape hrow
    clear c8k c8s0 c8s1 c8s2 c8n0 c8n1 c8n2 c8n3 c8d c8s
    have nm : ∀ {g : Nat} {cs : Array Value} {t : TypeId}, (w7.alloc (.cells #[.slice none 0 0, .int .i64 gb, .bool true] 97)).heap[g]? = some (.cells cs t (0, 0)) → ¬ g = E.m := fun hg => ENV8.out.map.noCells hg
    have xt9 := hkb.blk XT8.out (nm XT8.out)
    have xg9 := hkb.blk XG8.out (nm XG8.out)
    have xr9 := hkb.blk XR8.out (nm XR8.out)
    have t9 : w9.cell? ⟨w7.heap.size, 0, none⟩ = some (.slice none 0 0) := qaa xt9 0
    have z9 : w9.frozen? ⟨w7.heap.size, 0, none⟩ = false := qab xt9 0
    have kst : KB (fun k => A k ∨ k = gr ∨ k = w7.heap.size) w9 (w9.setCell ⟨w7.heap.size, 0, none⟩ (.slice vA vn vc)) := (KB.refl _ w9).set (p := ⟨w7.heap.size, 0, none⟩) (.inl (.inr (.inr rfl))) _
    have kst2 : KB (fun k => w.heap.size ≤ k) w9 (w9.setCell ⟨w7.heap.size, 0, none⟩ (.slice vA vn vc)) := (KB.refl _ w9).set (p := ⟨w7.heap.size, 0, none⟩) (.inl (by show w.heap.size ≤ w7.heap.size; omega)) _
    have env10 := henv.step kst
    have row10 : E.Row (fun k => A k ∨ k = gr ∨ k = w7.heap.size) (w9.setCell ⟨w7.heap.size, 0, none⟩ (.slice vA vn vc)) (.slice vA vn vc) (E.S s).1 := by rw [HSS.out]; exact kst.R hrow (fun k hk => hk.2)
    have xt10 := blk_set xt9 0 (.slice vA vn vc)
    have nst : gs ≠ w7.heap.size := blk_ne xg9 xt9 (by decide)
    have xg10 := qbc (p := ⟨w7.heap.size, 0, none⟩) xg9 nst (.slice vA vn vc)
    have xr10 := qbc (p := ⟨w7.heap.size, 0, none⟩) xr9 nrt (.slice vA vn vc)
    have k10 := (K8.out.trans hkb (fun k e => .inl e)).trans kst2 (fun k e => .inr e)
    have hpt := put_tail env10 HE.out.bm HS.out.1 (.slice vA vn vc) row10
    rw [HSS.out] at hpt
    obtain ⟨w11, hrun, env11, row11, k11⟩ := hpt
    try dsimp only at hrun
    have nm2 : ∀ {g : Nat} {cs : Array Value} {t : TypeId}, (w9.setCell ⟨w7.heap.size, 0, none⟩ (.slice vA vn vc)).heap[g]? = some (.cells cs t (0, 0)) → ¬ g = E.m := fun hg => env10.map.noCells hg
    have xt11 := k11.blk xt10 (nm2 xt10)
    have xr11 := k11.blk xr10 (nm2 xr10)
    have d0 : (w9.setCell ⟨w7.heap.size, 0, none⟩ (.slice vA vn vc)).cell? ⟨E.Bk, 0, none⟩ = some (.map (some E.m)) := qaa env10.xk 0
    have d1 : (w9.setCell ⟨w7.heap.size, 0, none⟩ (.slice vA vn vc)).cell? ⟨gs, 0, none⟩ = some (.int .i64 s.p) := qaa xg10 0
    have d2 : (w9.setCell ⟨w7.heap.size, 0, none⟩ (.slice vA vn vc)).cell? ⟨gs, 1, none⟩ = some (.int .i64 s.h) := qaa xg10 1
    have d3 : (w9.setCell ⟨w7.heap.size, 0, none⟩ (.slice vA vn vc)).cell? ⟨gs, 2, none⟩ = some (.int .i64 s.r) := qaa xg10 2
    have d4 : (w9.setCell ⟨w7.heap.size, 0, none⟩ (.slice vA vn vc)).cell? ⟨w7.heap.size, 0, none⟩ = some (.slice vA vn vc) := qaa xt10 0
    have d5 : (w9.setCell ⟨w7.heap.size, 0, none⟩ (.slice vA vn vc)).cell? ⟨w7.heap.size, 1, none⟩ = some (.int .i64 gb) := qaa xt10 1
    have d6 : (w9.setCell ⟨w7.heap.size, 0, none⟩ (.slice vA vn vc)).cell? ⟨w7.heap.size, 2, none⟩ = some (.bool true) := qaa xt10 2
    have e0 : w11.cell? ⟨w7.heap.size, 0, none⟩ = some (.slice vA vn vc) := qaa xt11 0
    have e1 : w11.cell? ⟨w7.heap.size, 1, none⟩ = some (.int .i64 gb) := qaa xt11 1
    have e2 : w11.cell? ⟨w7.heap.size, 2, none⟩ = some (.bool true) := qaa xt11 2
    have e3 : w11.cell? ⟨gr, 0, none⟩ = some (.slice none 0 0) := qaa xr11 0
    have e4 : w11.cell? ⟨gr, 1, none⟩ = some (.int .i64 0) := qaa xr11 1
    have e5 : w11.cell? ⟨gr, 2, none⟩ = some (.bool false) := qaa xr11 2
    have z11 : ∀ i, w11.frozen? ⟨gr, i, none⟩ = false := qab xr11
    have ENV11 := qac.mk env11
    have K11 := qac.mk (k10.trans k11 (fun k e => .inl e))
    have XR11 := qac.mk xr11
    have ROW11 := qac.mk row11
    clear env11 k11 row11 xr11 xt11 nm nm2 k10 env10 row10 xt10 xg10 xr10 kst kst2 xt9 xg9 xr9 henv hkb hrow
    go_wp2_with fail
    refine bodyPost_ret (results_cell_row rfl _ _ gr 97 _ (0, 0) _ rfl (blk_set (blk_set (blk_set XR11.out 0 _) 1 _) 2 _) hu97 rfl (by kernel_rfl)) rfl ?_
    have kset : ∀ T : Nat → Prop, T gr → KB T w11 (((w11.setCell ⟨gr, 0, none⟩ (.slice vA vn vc)).setCell ⟨gr, 1, none⟩ (.int .i64 gb)).setCell ⟨gr, 2, none⟩ (.bool true)) := fun T t1 => (((KB.refl T w11).set (p := ⟨gr, 0, none⟩) (.inl t1) _).set (p := ⟨gr, 1, none⟩) (.inl t1) _).set (p := ⟨gr, 2, none⟩) (.inl t1) _
    have hAA : ∀ k, A k → E.w0.heap.size ≤ k ∧ ((A k ∨ k = gr ∨ k = w7.heap.size) ∨ (((w11.setCell ⟨gr, 0, none⟩ (.slice vA vn vc)).setCell ⟨gr, 1, none⟩ (.int .i64 gb)).setCell ⟨gr, 2, none⟩ (.bool true)).heap.size ≤ k) := fun k hk => ⟨HI.out.lo k hk, .inl (.inl hk)⟩
    refine ⟨.slice vA vn vc, by rw [HSS.out]; rfl, ?_, (ENV11.out.step (kset _ (.inr (.inl rfl)))).imp hAA, K11.out.trans (kset (fun k => w.heap.size ≤ k) GEgr) (fun k e => .inr e)⟩
    have hrr := (kset (fun k => A k ∨ k = gr ∨ k = w7.heap.size) (.inr (.inl rfl))).R ROW11.out (fun k hk => hk.2)
    rw [HSS.out]
    exact Kd.R_mono hrr (fun k hk => ⟨hk.1, fun ha => hk.2 (.inl ha)⟩)
end Go.Proofs.Ytipphcjgdebecaa.PA
