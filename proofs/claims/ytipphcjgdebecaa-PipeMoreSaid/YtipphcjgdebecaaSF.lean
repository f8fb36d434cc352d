/- What functions of the program answer. No condition. -/
import Derived.Test.YtipphcjgdebecaaSC
import Derived.Test.YtipphcjgdebecaaSE
import Derived.Test.YtipphcjgdebecaaSD
set_option linter.all false
set_option maxRecDepth 100000
set_option maxHeartbeats 8000000
namespace Go.Proofs.Ytipphcjgdebecaa.PA
open Go.RowKit Go.Proofs.YtipphcjgdebecaaW.PrintWords Go.Proofs.YtipphcjgdebecaaW.PrintLast Go.Proofs.YtipphcjgdebecaaW.PrintMore
attribute [local go_sem] qas qau max_two min_two qao qap qat qav
attribute [local go_sem] Oper.semAt_some
def g1s (of : Int → Int × Bool) (a : Int × Int × Bool) (x : Int) : Int × Int × Bool := if (of x).2 = true ∧ (a.2.2 = false ∨ (of x).1 > a.2.1) then (x, (of x).1, true) else a
def g1 (of : Int → Int × Bool) (l : List Int) : Int × Int × Bool := l.foldl (g1s of) (0, 0, false)
theorem g1_snoc (of : Int → Int × Bool) (l : List Int) (x : Int) : g1 of (l ++ [x]) = g1s of (g1 of l) x := by simp [g1]
theorem allocs4 (w : World) (o1 o2 o3 o4 : Obj) : ∃ w4, (((w.alloc o1).alloc o2).alloc o3).alloc o4 = w4 ∧ w4.heap[w.heap.size]? = some o1 ∧ w4.heap[w.heap.size + 1]? = some o2 ∧ w4.heap[w.heap.size + 1 + 1]? = some o3 ∧ w4.heap[w.heap.size + 1 + 1 + 1]? = some o4 ∧
  w4.heap.size = w.heap.size + 4 ∧ Below w.heap.size w w4 := by
 refine ⟨_, rfl, qan (qan (qan (blk_new w o1) o2) o3) o4, ?_, ?_, ?_, by simp, qag (qag (qag (qag (Below.refl _ _) _) _) _) _⟩
 ·
  have := qan (qan (blk_new (w.alloc o1) o2) o3) o4
  simpa using this
 ·
  have := qan (blk_new ((w.alloc o1).alloc o2) o3) o4
  simpa using this
 ·
  have := blk_new (((w.alloc o1).alloc o2).alloc o3) o4
  simpa using this
theorem keptAt_put {Bn B : Nat} (hBn : Bn < B) (W : World) (l : Nat) (o o' : Obj) (hl : B ≤ l) (_h : W.heap[l]? = some o) (_h1 : o.isCells = false) (_h2 : o.isWalk = false) : KeptAt Bn W (W.putObj l o') := World.putObj_heap_other (by omega)
theorem blk_own {B g : Nat} {W W' : World} {row : Option Nat} {cs : Array Value} {t : TypeId} (hb : W.heap[g]? = some (.cells cs t (0, 0))) (hg : W.grownBy W' row) (hr : ∀ r, row = some r → B ≤ r ∧ ∃ o : Obj, W.heap[r]? = some o ∧ o.isCells = false) : W'.heap[g]? = some (.cells cs t (0, 0)) := by
 refine (hg.block g (blk_lt hb) (fun e => ?_)).trans hb
 obtain ⟨_, o, ho, hc⟩ := hr g e.symm
 rw [hb] at ho
 injection ho with ho
 subst ho
 cases hc
theorem greatest91_calls {p : Int → Prop} {gf : Nat} {lb : Array Value} (egf : ∀ args w, (callFunc gf args).run Try.prog w = .ok (.enter gf args) w)
  {S Sp : List { x : Int // p x } → Prop} {N Bn : Nat} {w : World} (hBn : Bn < w.heap.size)
  (hseq : ∀ n, 1 ≤ n → SeqStopsK Fence.wide n Try.prog gf lb (fun x : { x : Int // p x } => #[.int .i64 x.1]) (KeptAt Bn) S Sp N w)
  (L : List Int) (hS : ∀ xs, S xs → xs.map (·.1) = L) {Inv : (Nat → Prop) → World → Prop} (HI : Held w.heap.size Inv) (T : Nat → Prop) (hT : ∀ k, T k → k < w.heap.size ∧ k ≠ Bn)
  (A0 : Nat → Prop) (c0 c1 c2 c3 c4 : Value) (of : Int → Int × Bool)
  (hof : ∀ A W x, p x → (∀ k, A k → k < W.heap.size) → Inv A W → Calls Try.prog 91 #[.int .i64 x, c0, c1, c2, c3, c4] W fun e W' => e = .returned (.tuple #[.int .i64 (of x).1, .bool (of x).2]) ∧ Inv A W' ∧ KB T W W')
  (h0 : Inv A0 w) (hA0 : ∀ k, A0 k → k < w.heap.size) :
  Calls Try.prog 71 #[.func (.func gf) #[] lb, .func (.func 91) #[] #[c0, c1, c2, c3, c4]] w fun e W' => e = .returned (.tuple #[.int .i64 (g1 of L).1, .int .i64 (g1 of L).2.1, .bool (g1 of L).2.2]) ∧ Inv A0 W' ∧ KB T w W' := by
 refine (callsIn_wide (n := 8)).1 ?_
 refine callsIn_of_wp_marks Try.func71 rfl trivial ?_ rfl
 simp only [Try.ntmps71, List.size_toArray, List.length_cons, List.length_nil, Nat.reduceAdd, Nat.reduceSub, Array.replicate_succ, Array.replicate_zero, List.push_toArray, List.append_toArray, List.nil_append, List.cons_append]
 gi_wp2
 obtain ⟨w4, hw4, b3, b7, b8, b9, hsz, hb⟩ := allocs4 w (.cells #[.func (.func 91) #[] #[c0, c1, c2, c3, c4]] 110) (.cells #[.int .i64 0] 3) (.cells #[.int .i64 0] 3) (.cells #[.bool false] 4)
 rw [hw4]
 clear hw4
 obtain ⟨A, hAe⟩ : ∃ A : Nat → Prop, A = (fun k => A0 k ∨ k = w.heap.size + 1 ∨ k = w.heap.size + 1 + 1 ∨ k = w.heap.size + 1 + 1 + 1) := ⟨_, rfl⟩
 have hA : ∀ k, A k → k < w4.heap.size := fun k hk => by
  rw [hAe] at hk
  rcases hk with hk | hk | hk | hk
  ·
   have := hA0 k hk
   omega
  ·
   omega
  ·
   omega
  ·
   omega
 have i0 : Inv A w4 := by
  refine HI.step _ w _ (HI.mono _ _ _ (fun k hk => ?_) (HI.fresh _ _ h0)) (KB.of_below hb _)
  rw [hAe] at hk
  rcases hk with hk | hk | hk | hk
  ·
   exact .inl hk
  ·
   exact .inr (by omega)
  ·
   exact .inr (by omega)
  ·
   exact .inr (by omega)
 refine wpIn_rangeFunc_ownG rfl (by omega) (gf := gf) (lb := lb) rfl trivial egf (hseq _ (by omega)) (fun h k => KeptAt.trans h k) (keptAt_put (by omega)) hb (fun _ => rfl)
  (fun pre W => Inv A W ∧ W.heap[w.heap.size]? = some (.cells #[.func (.func 91) #[] #[c0, c1, c2, c3, c4]] 110 (0, 0)) ∧
   W.heap[w.heap.size + 1]? = some (.cells #[.int .i64 (g1 of (pre.map (·.1))).1] 3 (0, 0)) ∧ W.heap[w.heap.size + 1 + 1]? = some (.cells #[.int .i64 (g1 of (pre.map (·.1))).2.1] 3 (0, 0)) ∧
   W.heap[w.heap.size + 1 + 1 + 1]? = some (.cells #[.bool (g1 of (pre.map (·.1))).2.2] 4 (0, 0)) ∧ KB T w W)
  (fun _ _ _ => False) ?own (fun _ _ _ _ _ hs _ _ => hs) ⟨i0, b3, b7, b8, b9, KB.of_below hb T⟩
  (fun x => { tmps := #[.func (.func gf) #[] lb, .func (.func 91) #[] #[c0, c1, c2, c3, c4], undef, .pointer (some ⟨w.heap.size, 0, none⟩), .int .i64 0, .int .i64 0, .bool false, .pointer (some ⟨w.heap.size + 1, 0, none⟩), .pointer (some ⟨w.heap.size + 1 + 1, 0, none⟩), .pointer (some ⟨w.heap.size + 1 + 1 + 1, 0, none⟩),
   .int .i64 x.1, undef, undef, .func (.func gf) #[] lb, .int .i64 x.1, undef, undef, undef, undef, undef, undef, undef, undef, undef, undef, undef, undef, undef, undef, undef, undef, undef, undef, undef, undef, undef], defers := [] }) ?assign ?body ?done ?stop
 case own =>
  rintro s A B row ⟨h1, h2, h3, h4, h5, h6⟩ hg hr
  refine ⟨HI.own _ _ _ row h1 hg (fun r e => ⟨by have := (hr r e).1; omega, (hr r e).2⟩), blk_own h2 hg hr, blk_own h3 hg hr, blk_own h4 hg hr, blk_own h5 hg hr, ?_⟩
  exact h6.trans (KB.of_grown hg) (fun k e => .inr (by have := (hr k e).1; omega))
 case assign =>
  intro l x W K hK
  gi_wp2
  exact hK
 case body =>
  rintro l pre x W ⟨h1, h2, h3, h4, h5, h6⟩ _
  have hlt : w4.heap.size ≤ W.heap.size ∨ True := .inr trivial
  have hd : 1 ≤ 8 - 1 - 1 := by omega
  obtain ⟨x, hx⟩ := x
  have hcall := hof A W x hx (fun k hk => by
   have e1 := blk_lt h5
   have := hA k hk
   omega) h1
  have hmap : (pre ++ [(⟨x, hx⟩ : { x : Int // p x })]).map (·.1) = pre.map (·.1) ++ [x] := by simp
  have HM := qab.mk hmap
  have hst := g1_snoc of (pre.map (·.1)) x
  unfold g1s at hst
  have HST := qab.mk hst
  clear hst hmap
  generalize hg1 : g1 of (pre.map (·.1)) = g at h3 h4 h5 HST
  obtain ⟨go, gm, gfo⟩ := g
  generalize hn1 : of x = n1 at HST hcall
  obtain ⟨n1, b1⟩ := n1
  dsimp only at h3 h4 h5 HST hcall
  have H1 := qab.mk h1
  have H2 := qab.mk h2
  have H3 := qab.mk h3
  have H4 := qab.mk h4
  have H5 := qab.mk h5
  have H6 := qab.mk h6
  have hc2 : W.cell? ⟨w.heap.size, 0, none⟩ = some (.func (.func 91) #[] #[c0, c1, c2, c3, c4]) := qaa h2 0
  have hWs : w.heap.size ≤ W.heap.size := h6.size
  clear h1 h2 h3 h4 h5 h6 hof hseq hS
  gi_wp2
  refine ⟨trivial, (CallsIn.inRound l (callsIn_wide.2 hcall)).mono ?_⟩
  rintro e W2 ⟨rfl, i1, k1⟩
  clear hcall hc2
  have nT : ∀ j, w.heap.size ≤ j → ¬ T j := fun j hj hk => by have := (hT j hk).1; omega
  have J2 := k1.blk H2.out (nT _ (by omega))
  have J3 := k1.blk H3.out (nT _ (by omega))
  have J4 := k1.blk H4.out (nT _ (by omega))
  have J5 := k1.blk H5.out (nT _ (by omega))
  have KT := qab.mk (H6.out.trans k1 (fun k hk => .inl hk))
  have KW := qab.mk k1
  have I1 := qab.mk i1
  clear i1 k1 H2 H3 H4 H5 H6 H1
  have hc3 : W2.cell? ⟨w.heap.size + 1, 0, none⟩ = some (.int .i64 go) := qaa J3 0
  have hc4 : W2.cell? ⟨w.heap.size + 1 + 1, 0, none⟩ = some (.int .i64 gm) := qaa J4 0
  have hc5 : W2.cell? ⟨w.heap.size + 1 + 1 + 1, 0, none⟩ = some (.bool gfo) := qaa J5 0
  have hf3 : W2.frozen? ⟨w.heap.size + 1, 0, none⟩ = false := qac J3 0
  have hf4 : W2.frozen? ⟨w.heap.size + 1 + 1, 0, none⟩ = false := qac J4 0
  have hf5 : W2.frozen? ⟨w.heap.size + 1 + 1 + 1, 0, none⟩ = false := qac J5 0
  have KEEP : qab (KeepsFrom w4.heap.size W W2 ∧ KeptAt Bn W W2) := ⟨KW.out.from (fun k hk => by have := (hT k hk).1; omega), KW.out.block Bn (by omega) (fun hk => (hT _ hk).2 rfl)⟩
  have B2 := qab.mk J2
  have B3 := qab.mk J3
  have B4 := qab.mk J4
  have B5 := qab.mk J5
  clear J2 J3 J4 J5
  have NO : ∀ a : Act, b1 = false ∨ (gfo = true ∧ ¬ n1 > gm) → ownPostG w4.heap.size (KeptAt Bn) (fun pre W => Inv A W ∧ W.heap[w.heap.size]? = some (.cells #[.func (.func 91) #[] #[c0, c1, c2, c3, c4]] 110 (0, 0)) ∧
   W.heap[w.heap.size + 1]? = some (.cells #[.int .i64 (g1 of (pre.map (·.1))).1] 3 (0, 0)) ∧ W.heap[w.heap.size + 1 + 1]? = some (.cells #[.int .i64 (g1 of (pre.map (·.1))).2.1] 3 (0, 0)) ∧
   W.heap[w.heap.size + 1 + 1 + 1]? = some (.cells #[.bool (g1 of (pre.map (·.1))).2.2] 4 (0, 0)) ∧ KB T w W) (fun _ _ _ => False) (pre ++ [(⟨x, hx⟩ : { x : Int // p x })]) W .normal a W2 := by
   intro a hno
   have hv : g1 of (pre.map (·.1) ++ [x]) = (go, gm, gfo) := by
    rw [HST.out, if_neg]
    rintro ⟨ha, hb⟩
    rcases hno with hno | ⟨hno, hno2⟩
    ·
     rw [hno] at ha; cases ha
    ·
     rcases hb with hb | hb
     ·
      rw [hno] at hb; cases hb
     ·
      exact hno2 hb
   refine ⟨KEEP.out.1, KEEP.out.2, I1.out, B2.out, ?_⟩
   rw [HM.out, hv]
   exact ⟨B3.out, B4.out, B5.out, KT.out⟩
  have HNO := qab.mk NO
  clear NO
  have YES : ∀ a : Act, b1 = true ∧ (gfo = false ∨ n1 > gm) → ownPostG w4.heap.size (KeptAt Bn) (fun pre W => Inv A W ∧ W.heap[w.heap.size]? = some (.cells #[.func (.func 91) #[] #[c0, c1, c2, c3, c4]] 110 (0, 0)) ∧
   W.heap[w.heap.size + 1]? = some (.cells #[.int .i64 (g1 of (pre.map (·.1))).1] 3 (0, 0)) ∧ W.heap[w.heap.size + 1 + 1]? = some (.cells #[.int .i64 (g1 of (pre.map (·.1))).2.1] 3 (0, 0)) ∧
   W.heap[w.heap.size + 1 + 1 + 1]? = some (.cells #[.bool (g1 of (pre.map (·.1))).2.2] 4 (0, 0)) ∧ KB T w W) (fun _ _ _ => False) (pre ++ [(⟨x, hx⟩ : { x : Int // p x })]) W .normal a (((W2.setCell ⟨w.heap.size + 1, 0, none⟩ (.int .i64 x)).setCell ⟨w.heap.size + 1 + 1, 0, none⟩ (.int .i64 n1)).setCell ⟨w.heap.size + 1 + 1 + 1, 0, none⟩ (.bool true)) := by
   intro a hyes
   have hv : g1 of (pre.map (·.1) ++ [x]) = (x, n1, true) := by
    rw [HST.out, if_pos hyes]
   have kA : ∀ S : Nat → Prop, S (w.heap.size + 1) → S (w.heap.size + 1 + 1) → S (w.heap.size + 1 + 1 + 1) → KB S W2 (((W2.setCell ⟨w.heap.size + 1, 0, none⟩ (.int .i64 x)).setCell ⟨w.heap.size + 1 + 1, 0, none⟩ (.int .i64 n1)).setCell ⟨w.heap.size + 1 + 1 + 1, 0, none⟩ (.bool true)) :=
    fun S s1 s2 s3 => (((KB.refl S W2).set (p := ⟨w.heap.size + 1, 0, none⟩) (.inl s1) _).set (p := ⟨w.heap.size + 1 + 1, 0, none⟩) (.inl s2) _).set (p := ⟨w.heap.size + 1 + 1 + 1, 0, none⟩) (.inl s3) _
   have kW := (KW.out.mono (T' := fun k => T k ∨ k = w.heap.size + 1 ∨ k = w.heap.size + 1 + 1 ∨ k = w.heap.size + 1 + 1 + 1) (fun k hk => .inl hk)).trans (kA _ (.inr (.inl rfl)) (.inr (.inr (.inl rfl))) (.inr (.inr (.inr rfl)))) (fun k hk => .inl hk)
   refine ⟨kW.from (fun k hk => ?_), kW.block Bn (by omega) (fun hk => ?_), HI.step _ _ _ I1.out (kA A ?_ ?_ ?_), ?_, ?_⟩
   ·
    rcases hk with hk | hk | hk | hk
    ·
     have := (hT k hk).1
     omega
    ·
     omega
    ·
     omega
    ·
     omega
   ·
    rcases hk with hk | hk | hk | hk
    ·
     exact (hT _ hk).2 rfl
    ·
     omega
    ·
     omega
    ·
     omega
   ·
    rw [hAe]; exact .inr (.inl rfl)
   ·
    rw [hAe]; exact .inr (.inr (.inl rfl))
   ·
    rw [hAe]; exact .inr (.inr (.inr rfl))
   ·
    exact blk_far (blk_far (blk_far B2.out (by dsimp only; omega) _) (by dsimp only; omega) _) (by dsimp only; omega) _
   ·
    rw [HM.out, hv]
    refine ⟨?_, ?_, ?_, ?_⟩
    ·
     exact blk_far (blk_far (blk_set B3.out 0 _) (by dsimp only; omega) _) (by dsimp only; omega) _
    ·
     exact blk_far (blk_set (blk_far B4.out (by dsimp only; omega) _) 0 _) (by dsimp only; omega) _
    ·
     exact blk_set (blk_far (blk_far B5.out (by dsimp only; omega) _) (by dsimp only; omega) _) 0 _
    ·
     exact KT.out.trans (kA (fun k => w.heap.size ≤ k) (by omega) (by omega) (by omega)) (fun k hk => .inr hk)
  have HYES := qab.mk YES
  clear YES
  cases b1 with
  | false =>
   gi_wp2
   exact HNO.out _ (by simp)
  | true =>
   cases gfo with
   | false =>
    gi_wp2
    exact HYES.out _ (by simp)
   | true =>
    by_cases hgt : n1 > gm
    ·
     gi_wp2
     exact HYES.out _ (by simp [hgt])
    ·
     gi_wp2
     exact HNO.out _ (by simp [hgt])
 case done =>
  rintro D xs W hD hSx ⟨h1, h2, h3, h4, h5, h6⟩ hK
  have hl := hS xs hSx
  rw [hl] at h3 h4 h5
  have hc3 : W.cell? ⟨w.heap.size + 1, 0, none⟩ = some (.int .i64 (g1 of L).1) := qaa h3 0
  have hc4 : W.cell? ⟨w.heap.size + 1 + 1, 0, none⟩ = some (.int .i64 (g1 of L).2.1) := qaa h4 0
  have hc5 : W.cell? ⟨w.heap.size + 1 + 1 + 1, 0, none⟩ = some (.bool (g1 of L).2.2) := qaa h5 0
  clear hof hseq hS h2 h3 h4 h5
  generalize hgL : g1 of L = g at hc3 hc4 hc5
  have HG := qab.mk hgL
  clear hgL
  have H1 := qab.mk h1
  have H6 := qab.mk h6
  have HK := qab.mk hK
  clear h1 h6 hK
  gi_wp2
  gi_region
  all_goals gi_wp2
  refine ⟨by simp, .inl ⟨_, _, rfl, run_takeDeferred (show W.drew.heap[D]? = _ from HK.out), ?_⟩⟩
  have hput := grownBy_putObj' W.drew D (.deferred none)
  have hrow : ∀ r, some D = some r → w.heap.size ≤ r ∧ ∃ o : Obj, W.drew.heap[r]? = some o ∧ o.isCells = false := fun r e => by
   injection e with e
   subst e
   exact ⟨by omega, _, HK.out, rfl⟩
  have hid : Inv A W.drew := HI.own A W W.drew none H1.out ⟨rfl, rfl, rfl, Nat.le_refl _, fun _ _ _ => rfl⟩ (fun r e => by cases e)
  have hi2 := HI.own A W.drew _ (some D) hid hput hrow
  refine ⟨_, results_tmp3 rfl _ _ _, by rw [HG.out]; rfl, HI.mono _ _ _ (fun k hk => by rw [hAe]; exact .inl hk) hi2, ?_⟩
  have hk6 : KB T w W.drew := ⟨H6.out.os, H6.out.tape, H6.out.output, H6.out.size, H6.out.block⟩
  exact hk6.trans (KB.of_grown hput) (fun k e => .inr (by injection e with e; omega))
 case stop =>
  rintro D c pre W _ _ h _
  exact h.elim
end Go.Proofs.Ytipphcjgdebecaa.PA
namespace Go.Proofs.Ytipphcjgdebecaa.PA
open Go.RowKit Go.Proofs.YtipphcjgdebecaaW.PrintWords Go.Proofs.YtipphcjgdebecaaW.PrintLast Go.Proofs.YtipphcjgdebecaaW.PrintMore
attribute [local go_sem] qas qau max_two min_two qao qap qat qav
abbrev Way := List Int × Int × Bool
def ofV (l0 : List S39) (l2 : List (List Int)) (D : List Int) (f : Sp → Way) (s : Sp) (i : Int) : Int × Bool :=
 if (repV l0 l2 D s i).2.2 = true then (min (repV l0 l2 D s i).2.1 (f (repV l0 l2 D s i).1).2.1, (f (repV l0 l2 D s i).1).2.2) else (0, false)
def goodV (l0 : List S39) (l2 : List (List Int)) (D : List Int) (f : Sp → Way) (slack : Int) (s : Sp) (i : Int) : Bool :=
 (repV l0 l2 D s i).2.2 && decide (slack ≤ (repV l0 l2 D s i).2.1) && (f (repV l0 l2 D s i).1).2.2 && decide (slack ≤ (f (repV l0 l2 D s i).1).2.1)
def sameV (l0 : List S39) (l2 : List (List Int)) (D : List Int) (f : Sp → Way) (slack : Int) : Nat → Sp → List Int → List Int
 | 0, _, out => out
 | k + 1, s, out => if s.r = 0 then out else
  match (qaq s.r 5).find? (goodV l0 l2 D f slack s) with
  | some i => sameV l0 l2 D f slack k (repV l0 l2 D s i).1 (out ++ [i])
  | none => out
def stepV (l0 : List S39) (l1 : List S37) (l2 : List (List Int)) (D : List Int) (f : Sp → Way) (s : Sp) : Way :=
 if s.r = 0 then ([], (l1.length : Int), true) else
  (if (g1 (ofV l0 l2 D f s) (qaq s.r 5)).2.2 = true then sameV l0 l2 D f (g1 (ofV l0 l2 D f s) (qaq s.r 5)).2.1 5 (repV l0 l2 D s (g1 (ofV l0 l2 D f s) (qaq s.r 5)).1).1 [(g1 (ofV l0 l2 D f s) (qaq s.r 5)).1] else [],
   (g1 (ofV l0 l2 D f s) (qaq s.r 5)).2.1, (g1 (ofV l0 l2 D f s) (qaq s.r 5)).2.2)
def searchV (l0 : List S39) (l1 : List S37) (l2 : List (List Int)) (D : List Int) : Nat → Sp → Way
 | 0, _ => ([], (l1.length : Int), true)
 | k + 1, s => stepV l0 l1 l2 D (searchV l0 l1 l2 D k) s
def cntB (r : Int) : Nat := (qaq r 5).length
theorem bits_all : (List.range 32).all (fun r => (List.range 5).all (fun i => !(bitB r i) ||
  (decide (0 ≤ bits .andNot .i64 (r : Int) (wrap64 (2 ^ i))) && decide (bits .andNot .i64 (r : Int) (wrap64 (2 ^ i)) < 32) &&
   decide (qaq (bits .andNot .i64 (r : Int) (wrap64 (2 ^ i))) 5 = (qaq (r : Int) 5).filter (fun j => j != (i : Int)))))) = true := by kernel_rfl
theorem mem_loopsOf (f : Int) (n : Nat) (x : Int) : x ∈ qaq f n ↔ ∃ k : Nat, x = k ∧ k < n ∧ bitB f k = true := by
 induction n with
 | zero => simp [qaq]
 | succ n ih =>
  unfold qaq
  split
  ·
   rename_i h
   simp only [List.mem_append, ih, List.mem_singleton]
   constructor
   ·
    rintro (⟨k, rfl, hk, hb⟩ | rfl)
    ·
     exact ⟨k, rfl, by omega, hb⟩
    ·
     exact ⟨n, rfl, by omega, h⟩
   ·
    rintro ⟨k, rfl, hk, hb⟩
    rcases Nat.lt_or_ge k n with h1 | h1
    ·
     exact .inl ⟨k, rfl, h1, hb⟩
    ·
     exact .inr (by congr 1; omega)
  ·
   rename_i h
   rw [ih]
   constructor
   ·
    rintro ⟨k, rfl, hk, hb⟩
    exact ⟨k, rfl, by omega, hb⟩
   ·
    rintro ⟨k, rfl, hk, hb⟩
    refine ⟨k, rfl, ?_, hb⟩
    rcases Nat.lt_or_ge k n with h1 | h1
    ·
     exact h1
    ·
     obtain rfl : k = n := by omega
     exact absurd hb h
theorem nodup_loopsOf (f : Int) (n : Nat) : (qaq f n).Nodup := by
 induction n with
 | zero => simp [qaq]
 | succ n ih =>
  unfold qaq
  split
  ·
   rw [List.nodup_append]
   refine ⟨ih, by simp, ?_⟩
   intro a ha b hb
   simp only [List.mem_singleton] at hb
   obtain ⟨k, rfl, hk, _⟩ := (mem_loopsOf f n a).1 ha
   subst hb
   intro e
   have : (k : Int) = n := e
   omega
  ·
   exact ih
theorem rest_of (r : Int) (h0 : 0 ≤ r) (h1 : r < 32) (i : Int) (hi : i ∈ qaq r 5) :
  0 ≤ bits .andNot .i64 r (wrap64 (2 ^ i.toNat)) ∧ bits .andNot .i64 r (wrap64 (2 ^ i.toNat)) < 32 ∧
   qaq (bits .andNot .i64 r (wrap64 (2 ^ i.toNat))) 5 = (qaq r 5).filter (fun j => j != i) := by
 obtain ⟨k, rfl, hk, hb⟩ := (mem_loopsOf r 5 i).1 hi
 obtain ⟨n, rfl⟩ := Int.eq_ofNat_of_zero_le h0
 have h := bits_all
 rw [List.all_eq_true] at h
 have h2 := h n (by simp; omega)
 rw [List.all_eq_true] at h2
 have h3 := h2 k (by simp; omega)
 rw [hb] at h3
 simp only [Bool.not_true, Bool.false_or, Bool.and_eq_true, decide_eq_true_eq] at h3
 rw [Int.toNat_natCast]
 exact ⟨h3.1.1, h3.1.2, h3.2⟩
theorem cnt_next (r : Int) (h0 : 0 ≤ r) (h1 : r < 32) (i : Int) (hi : i ∈ qaq r 5) : cntB (bits .andNot .i64 r (wrap64 (2 ^ i.toNat))) + 1 = cntB r := by
 unfold cntB
 rw [(rest_of r h0 h1 i hi).2.2]
 have := (nodup_loopsOf r 5).erase_eq_filter i
 rw [← this, List.length_erase_of_mem hi]
 have := List.length_pos_of_mem hi
 omega
theorem bits_zero : (List.range 32).all (fun r => decide ((r : Int) = 0) == decide (qaq (r : Int) 5 = [])) = true := by kernel_rfl
theorem cnt_zero (r : Int) (h0 : 0 ≤ r) (h1 : r < 32) : cntB r = 0 ↔ r = 0 := by
 obtain ⟨n, rfl⟩ := Int.eq_ofNat_of_zero_le h0
 have h := bits_zero
 rw [List.all_eq_true] at h
 have h2 := h n (by simp; omega)
 rw [beq_iff_eq] at h2
 unfold cntB
 rw [List.length_eq_zero_iff]
 exact (decide_eq_decide.1 h2).symm
theorem cnt_le (r : Int) : cntB r ≤ 5 := by
 unfold cntB
 have : ∀ n, (qaq r n).length ≤ n := by
  intro n
  induction n with
  | zero => simp [qaq]
  | succ n ih =>
   unfold qaq
   split
   ·
    simp
    omega
   ·
    omega
 exact this 5
def OkS (s : Sp) : Prop := 0 ≤ s.r ∧ s.r < 32
section
variable (l0 : List S39) (l1 : List S37) (l2 : List (List Int)) (D : List Int)
theorem rep_next (s : Sp) (i : Int) (h : (repV l0 l2 D s i).2.2 = true) : (repV l0 l2 D s i).1 = nextV l0 l2 s i := by
 unfold repV at h ⊢
 split
 ·
  rename_i hc
  rw [if_pos hc] at h
  cases h
 ·
  rfl
theorem next_ok (s : Sp) (hs : OkS s) (i : Int) (hi : i ∈ qaq s.r 5) (h : (repV l0 l2 D s i).2.2 = true) : OkS (repV l0 l2 D s i).1 ∧ cntB (repV l0 l2 D s i).1.r + 1 = cntB s.r := by
 rw [rep_next l0 l2 D s i h]
 have h1 := rest_of s.r hs.1 hs.2 i hi
 exact ⟨⟨h1.1, h1.2.1⟩, cnt_next s.r hs.1 hs.2 i hi⟩
theorem g1_congr (of of' : Int → Int × Bool) (l : List Int) (h : ∀ x ∈ l, of x = of' x) : g1 of l = g1 of' l := by
 unfold g1
 generalize ((0, 0, false) : Int × Int × Bool) = a
 induction l generalizing a with
 | nil => rfl
 | cons x t ih =>
  simp only [List.foldl_cons]
  have : g1s of a x = g1s of' a x := by unfold g1s; rw [h x (by simp)]
  rw [this]
  exact ih (fun y hy => h y (by simp [hy])) _
theorem g1_mem (of : Int → Int × Bool) (l : List Int) (h : (g1 of l).2.2 = true) : (g1 of l).1 ∈ l ∧ of (g1 of l).1 = ((g1 of l).2.1, true) := by
 have key : ∀ (l : List Int) (a : Int × Int × Bool), (l.foldl (g1s of) a).2.2 = true → (l.foldl (g1s of) a = a) ∨ ((l.foldl (g1s of) a).1 ∈ l ∧ of (l.foldl (g1s of) a).1 = ((l.foldl (g1s of) a).2.1, true)) := by
  intro l
  induction l with
  | nil => intro a _; exact .inl rfl
  | cons x t ih =>
   intro a ha
   simp only [List.foldl_cons] at ha ⊢
   rcases ih _ ha with h1 | h1
   ·
    rw [h1]
    unfold g1s
    split
    ·
     rename_i hc
     exact .inr ⟨by simp, Prod.ext rfl hc.1⟩
    ·
     exact .inl rfl
   ·
    exact .inr ⟨by simp [h1.1], h1.2⟩
 rcases key l _ h with h1 | h1
 ·
  unfold g1 at h
  rw [h1] at h
  cases h
 ·
  exact h1
theorem sameV_congr (f g : Sp → Way) (slack : Int) (n : Nat) (hfg : ∀ s, OkS s → cntB s.r < n → f s = g s) : ∀ (k : Nat) (s : Sp) (out : List Int), OkS s → cntB s.r ≤ n → sameV l0 l2 D f slack k s out = sameV l0 l2 D g slack k s out := by
 intro k
 induction k with
 | zero => intro s out _ _; rfl
 | succ k ih =>
  intro s out hs hc
  unfold sameV
  split
  ·
   rfl
  ·
   have hgood : ∀ i ∈ qaq s.r 5, goodV l0 l2 D f slack s i = goodV l0 l2 D g slack s i := by
    intro i hi
    unfold goodV
    cases hr : (repV l0 l2 D s i).2.2 with
    | false => simp
    | true =>
     have hn := next_ok l0 l2 D s hs i hi hr
     rw [hfg _ hn.1 (by omega)]
   have hfind : (qaq s.r 5).find? (goodV l0 l2 D f slack s) = (qaq s.r 5).find? (goodV l0 l2 D g slack s) := by
    generalize qaq s.r 5 = l at hgood
    induction l with
    | nil => rfl
    | cons x t iht =>
     simp only [List.find?_cons]
     rw [hgood x (by simp), iht (fun i hi => hgood i (by simp [hi]))]
   rw [hfind]
   cases hf : (qaq s.r 5).find? (goodV l0 l2 D g slack s) with
   | none => rfl
   | some i =>
    have hi := List.mem_of_find?_eq_some hf
    have hp := List.find?_some hf
    have hr : (repV l0 l2 D s i).2.2 = true := by
     unfold goodV at hp
     simp only [Bool.and_eq_true] at hp
     exact hp.1.1.1
    have hn := next_ok l0 l2 D s hs i hi hr
    exact ih _ _ hn.1 (by omega)
theorem ofV_yes (f : Sp → Way) (s : Sp) (i n : Int) (h : ofV l0 l2 D f s i = (n, true)) : (repV l0 l2 D s i).2.2 = true ∧ min (repV l0 l2 D s i).2.1 (f (repV l0 l2 D s i).1).2.1 = n ∧ (f (repV l0 l2 D s i).1).2.2 = true := by
 unfold ofV at h
 split at h
 ·
  rename_i hr
  injection h with h1 h2
  exact ⟨hr, h1, h2⟩
 ·
  injection h with h1 h2
  cases h2
theorem stepV_congr (f g : Sp → Way) (s : Sp) (hs : OkS s) (hfg : ∀ s', OkS s' → cntB s'.r < cntB s.r → f s' = g s') : stepV l0 l1 l2 D f s = stepV l0 l1 l2 D g s := by
 unfold stepV
 split
 ·
  rfl
 ·
  have hof : g1 (ofV l0 l2 D f s) (qaq s.r 5) = g1 (ofV l0 l2 D g s) (qaq s.r 5) := by
   apply g1_congr
   intro i hi
   unfold ofV
   split
   ·
    rename_i hr
    have hn := next_ok l0 l2 D s hs i hi hr
    rw [hfg _ hn.1 (by omega)]
   ·
    rfl
  rw [hof]
  by_cases hfound : (g1 (ofV l0 l2 D g s) (qaq s.r 5)).2.2 = true
  ·
   rw [if_pos hfound, if_pos hfound]
   have hm := g1_mem _ _ hfound
   have hr := (ofV_yes l0 l2 D g s _ _ hm.2).1
   have hn := next_ok l0 l2 D s hs _ hm.1 hr
   rw [sameV_congr l0 l2 D f g _ (cntB s.r) hfg 5 _ _ hn.1 (by omega)]
  ·
   rw [if_neg hfound, if_neg hfound]
theorem searchV_stable : ∀ (n : Nat) (s : Sp), OkS s → cntB s.r ≤ n → ∀ k k', n ≤ k → n ≤ k' → searchV l0 l1 l2 D k s = searchV l0 l1 l2 D k' s := by
 intro n
 induction n with
 | zero =>
  intro s hs hc k k' _ _
  have hz : s.r = 0 := (cnt_zero s.r hs.1 hs.2).1 (by omega)
  have : ∀ k, searchV l0 l1 l2 D k s = ([], (l1.length : Int), true) := by
   intro k
   cases k with
   | zero => rfl
   | succ k => unfold searchV stepV; rw [if_pos hz]
  rw [this, this]
 | succ n ih =>
  intro s hs hc k k' hk hk'
  obtain ⟨a, rfl⟩ : ∃ a, k = a + 1 := ⟨k - 1, by omega⟩
  obtain ⟨b, rfl⟩ : ∃ b, k' = b + 1 := ⟨k' - 1, by omega⟩
  show stepV l0 l1 l2 D (searchV l0 l1 l2 D a) s = stepV l0 l1 l2 D (searchV l0 l1 l2 D b) s
  exact stepV_congr l0 l1 l2 D _ _ s hs (fun s' hs' hc' => ih s' hs' (by omega) a b (by omega) (by omega))
def bestV (s : Sp) : Way := searchV l0 l1 l2 D 5 s
theorem bestV_eq (s : Sp) (hs : OkS s) : bestV l0 l1 l2 D s = stepV l0 l1 l2 D (bestV l0 l1 l2 D) s := by
 have : bestV l0 l1 l2 D s = searchV l0 l1 l2 D 6 s := searchV_stable l0 l1 l2 D 5 s hs (cnt_le _) 5 6 (by omega) (by omega)
 rw [this]
 rfl
theorem good_some (s : Sp) (hs : OkS s) (h0 : s.r ≠ 0) (slack : Int) (hr : (bestV l0 l1 l2 D s).2.2 = true) (hsl : slack ≤ (bestV l0 l1 l2 D s).2.1) :
  ∃ i, (qaq s.r 5).find? (goodV l0 l2 D (bestV l0 l1 l2 D) slack s) = some i := by
 rw [bestV_eq l0 l1 l2 D s hs] at hr hsl
 unfold stepV at hr hsl
 rw [if_neg h0] at hr hsl
 dsimp only at hr hsl
 have hm := g1_mem _ _ hr
 have h2 := ofV_yes l0 l2 D _ s _ _ hm.2
 have hg : ((qaq s.r 5).find? (goodV l0 l2 D (bestV l0 l1 l2 D) slack s)).isSome = true := by
  rw [List.find?_isSome]
  refine ⟨_, hm.1, ?_⟩
  unfold goodV
  simp only [Bool.and_eq_true, decide_eq_true_eq]
  refine ⟨⟨⟨h2.1, ?_⟩, h2.2.2⟩, ?_⟩ <;> omega
 exact Option.isSome_iff_exists.1 hg
end
def inB (x lo hi : Int) : Bool := decide (lo ≤ x) && decide (x ≤ hi)
def spanB (s : S37) (lo hi : Int) : Bool := decide (lo ≤ s.f0) && (decide (s.f0 ≤ s.f1) && decide (s.f1 ≤ hi))
def loopB (l : S39) : Bool := spanB l.f0 1 1000 && (spanB l.f1 0 1000 && (spanB l.f2 0 1000 && (decide (l.f2.f0 ≤ l.f1.f0) && (decide (l.f2.f1 ≤ l.f1.f1) && (inB l.f3 0 1000000 && (inB l.f4 1 10000 && (inB l.f5 0 1000 && (inB l.f6 0 1000 && spanB l.f7 0 72))))))))
def rowB (places : Int) (i : Int) (row : List Int) : Bool := decide ((row.length : Int) = places) && (decide (rd row i = 0) && row.all fun h => inB h 0 72)
def waysB (places : Int) (ways : List (List Int)) : Bool := (List.range ways.length).all fun i => rowB places i (ways.getD i [])
def validB (l0 : List S39) (l1 : List S37) (l2 : List (List Int)) : Bool :=
 decide ((l2.length : Int) = l0.length + 1) && (waysB (l0.length + 1) l2 && (inB l0.length 1 5 && (inB l1.length 1 72 && (l0.all loopB && l1.all fun s => spanB s 0 1000))))
theorem pipe_in_eq (x lo hi : Int) : pipe_in.f x lo hi = some (inB x lo hi) := by
 unfold pipe_in.f inB
 by_cases h : x ≥ lo <;> simp [h]
theorem pipe_span_eq (a b lo hi : Int) : pipe_span.f a b lo hi = some (spanB ⟨a, b⟩ lo hi) := by
 unfold pipe_span.f spanB
 by_cases h : a ≥ lo <;> by_cases h2 : a ≤ b <;> simp [h, h2]
theorem pipe_loop_eq (l : S39) : pipe_loop.f l.f0.f0 l.f0.f1 l.f1.f0 l.f1.f1 l.f2.f0 l.f2.f1 l.f3 l.f4 l.f5 l.f6 l.f7.f0 l.f7.f1 = some (loopB l) := by
 unfold pipe_loop.f loopB
 simp only [pipe_span_eq, pipe_in_eq, Option.bind_some]
 cases spanB l.f0 1 1000 <;> simp
 cases spanB l.f1 0 1000 <;> simp
 cases spanB l.f2 0 1000 <;> simp
 by_cases h1 : l.f2.f0 ≤ l.f1.f0 <;> simp [h1]
 by_cases h2 : l.f2.f1 ≤ l.f1.f1 <;> simp [h2]
 cases inB l.f3 0 1000000 <;> simp
 cases inB l.f4 1 10000 <;> simp
 cases inB l.f5 0 1000 <;> simp
 cases inB l.f6 0 1000 <;> simp
theorem waysB_all (places : Int) (ways : List (List Int)) (h : ∀ j, j < ways.length → rowB places j (ways.getD j []) = true) : waysB places ways = true := by
 unfold waysB
 rw [List.all_eq_true]
 intro i hi
 exact h i (List.mem_range.1 hi)
theorem waysB_not (places : Int) (ways : List (List Int)) (j : Nat) (hj : j < ways.length) (h : rowB places j (ways.getD j []) = false) : waysB places ways = false := by
 unfold waysB
 rw [List.all_eq_false]
 exact ⟨j, List.mem_range.2 hj, by simp at h; simp [h]⟩
theorem in_calls (x lo hi : Int) (W : World) : Calls Try.prog 55 #[.int .i64 x, .int .i64 lo, .int .i64 hi] W fun e w' => e = .returned (.bool (inB x lo hi)) ∧ Below W.heap.size W w' :=
 (pipe_in.calls x lo hi _ W (pipe_in_eq x lo hi)).mono fun e w' ⟨h1, h2⟩ => ⟨h1, h2.below⟩
theorem valid_1_calls (x : Int) (W : World) : Calls Try.prog 82 #[.int .i64 x] W fun e w' => e = .returned (.bool (!inB x 0 72)) ∧ Below W.heap.size W w' := by
 have h : pipe_valid_1.f x = some (!inB x 0 72) := by unfold pipe_valid_1.f; rw [pipe_in_eq]; rfl
 exact (pipe_valid_1.calls x _ W h).mono fun e w' ⟨h1, h2⟩ => ⟨h1, h2.below⟩
theorem valid_2_calls (x : S39) (W : World) : Calls Try.prog 84 #[.agg #[.int .i64 x.f0.f0, .int .i64 x.f0.f1, .int .i64 x.f1.f0, .int .i64 x.f1.f1, .int .i64 x.f2.f0, .int .i64 x.f2.f1, .int .i64 x.f3, .int .i64 x.f4, .int .i64 x.f5, .int .i64 x.f6, .int .i64 x.f7.f0, .int .i64 x.f7.f1]] W fun e w' => e = .returned (.bool (!loopB x)) ∧ Below W.heap.size W w' := by
 have h : pipe_valid_2.f x.f0.f0 x.f0.f1 x.f1.f0 x.f1.f1 x.f2.f0 x.f2.f1 x.f3 x.f4 x.f5 x.f6 x.f7.f0 x.f7.f1 = some (!loopB x) := by unfold pipe_valid_2.f; rw [pipe_loop_eq]; rfl
 exact (pipe_valid_2.calls _ _ _ _ _ _ _ _ _ _ _ _ _ W h)
theorem valid_3_calls (x : S37) (W : World) : Calls Try.prog 87 #[.agg #[.int .i64 x.f0, .int .i64 x.f1]] W fun e w' => e = .returned (.bool (!spanB x 0 1000)) ∧ Below W.heap.size W w' := by
 have h : pipe_valid_3.f x.f0 x.f1 = some (!spanB x 0 1000) := by unfold pipe_valid_3.f; rw [pipe_span_eq]; rfl
 exact (pipe_valid_3.calls _ _ _ W h)
def pipe_valid.f (l0_0 : List (S39)) (l0_1 : List (S37)) (l0_2 : List (List Int)) : Option (Bool) := some (validB l0_0 l0_1 l0_2)
theorem pipe_valid.calls (A0_0 : Option Addr) (c0_0 : Nat) (l0_0 : List (S39)) (A0_1 : Option Addr) (c0_1 : Nat) (l0_1 : List (S37)) (A0_2 : Option Addr) (c0_2 : Nat) (l0_2 : List (List Int)) (r : Bool) (w : World) (hr0_0 : Kd.C k39 w A0_0 l0_0.length l0_0) (hc0_0 : l0_0.length ≤ c0_0) (hr0_1 : Kd.C k37 w A0_1 l0_1.length l0_1) (hc0_1 : l0_1.length ≤ c0_1) (hr0_2 : Kd.C (Kd.slice 3 (Kd.int .i64)) w A0_2 l0_2.length l0_2) (hc0_2 : l0_2.length ≤ c0_2) (h : pipe_valid.f l0_0 l0_1 l0_2 = some r) :
  Calls Try.prog 54 #[.agg #[.slice A0_0 l0_0.length c0_0, .slice A0_1 l0_1.length c0_1, .slice A0_2 l0_2.length c0_2]] w fun e w' => e = .returned (.bool r) ∧ Below w.heap.size w w' := by
 obtain rfl := Option.some.inj h
 clear h
 have hu26 := Try.underlying26
 have m2 := Kd.C_max hr0_2
 have m0 := Kd.C_max hr0_0
 have HR0 := qab.mk hr0_0
 have HR1 := qab.mk hr0_1
 have HR2 := qab.mk hr0_2
 clear hr0_0 hr0_1 hr0_2
 have HB := qab.mk (Below.refl w.heap.size w)
 by_cases hp : (l0_2.length : Int) = (l0_0.length : Int) + 1
 ·
  have b0 : (l0_0.length : Int) + 1 ≤ 9223372036854775807 := by omega
  have hp1 : ((l0_2.length : Int) != (l0_0.length : Int) + 1) = false := by simp [hp]
  have HP := qab.mk hp
  clear hp
  go_enter Try.func54, Try.ntmps54
  go_wp2_with ((with_reducible refine qam (N := 1) rfl ?_); refine qal ?hg (N := 1) ?hd (cs := #[.slice A0_0 l0_0.length c0_0, .slice A0_1 l0_1.length c0_1, .slice A0_2 l0_2.length c0_2]) (t := 26) ?hr ?_; (case hd => rfl); (case hg => rfl); (case hr => first | (go_simp; done) | (go_simp; rfl)); intro gb hg w2 hbox hb; have BK := qab.mk hbox; have HB1 := qab.mk (qad HB.out hb); obtain ⟨hf, hc0, hc1, hc2⟩ := qz3 BK.out; clear hbox hb hg)
  go_loopw [18] (fun s18 wr => ∃ k : Nat, k ≤ l0_2.length ∧ s18 = .int .i64 k ∧ qab (∀ j : Nat, j < k → rowB (l0_0.length + 1) j (l0_2.getD j []) = true) ∧ qab (wr.heap[gb]? = some (.cells #[.slice A0_0 l0_0.length c0_0, .slice A0_1 l0_1.length c0_1, .slice A0_2 l0_2.length c0_2] 26 (0, 0))) ∧ qab (Below w.heap.size w wr)) (fun s _ => l0_2.length - (intOf s).toNat)
  case atStart => exact ⟨0, by omega, rfl, ⟨fun j h1 => by omega⟩, BK, HB1⟩
  case round =>
   clear BK HB1 hf hc0 hc1 hc2 hp1
   obtain ⟨k, hk1, rfl, HN, BK, HB⟩ := hrel
   have hf := qac BK.out
   have hc0 : wr.cell? ⟨gb, 0, none⟩ = some (.slice A0_0 l0_0.length c0_0) := (qaa BK.out 0).trans rfl
   have hc1 : wr.cell? ⟨gb, 1, none⟩ = some (.slice A0_1 l0_1.length c0_1) := (qaa BK.out 1).trans rfl
   have hc2 : wr.cell? ⟨gb, 2, none⟩ = some (.slice A0_2 l0_2.length c0_2) := (qaa BK.out 2).trans rfl
   by_cases hlt : k < l0_2.length
   ·
    obtain ⟨ad, A1, c1, e, hrow, hl1, hC⟩ := at_L1 HR2.out k (by omega) (by omega)
    cases e
    replace hrow := (HB.out.cell (World.block_lt_of_cell? w _ hrow)).trans hrow
    simp only [Int.toNat_natCast] at hrow
    have hR : qab (rd_L1 l0_2 k = l0_2.getD k []) := ⟨by simp [rd_L1]⟩
    obtain ⟨row, hrw⟩ : ∃ row, row = rd_L1 l0_2 k := ⟨_, rfl⟩
    rw [← hrw] at hrow hl1 hC hR
    clear hrw
    have HC := qab.mk hC
    have HL := qab.mk hl1
    clear hC hl1
    by_cases h1 : (row.length : Int) = (l0_0.length : Int) + 1
    ·
     have h1b : ((row.length : Int) != (l0_0.length : Int) + 1) = false := by simp [h1]
     obtain ⟨ad1, e1, hx⟩ := Kd.at_int HC.out k (by omega) (by have := HP.out; omega)
     cases e1
     replace hx := (HB.out.cell (World.block_lt_of_cell? w _ hx)).trans hx
     simp only [Int.toNat_natCast] at hx
     have H1 := qab.mk h1
     have k1 : (k : Int) < row.length := by have := HP.out; omega
     clear h1
     by_cases h2 : rd row k = 0
     ·
      have h2b : (rd row k != 0) = false := by simp [h2]
      have H2 := qab.mk h2
      clear h2
      cases h3 : row.any fun h => !inB h 0 72 with
      | true =>
       have H3 := qab.mk h3
       clear h3
       go_wp2_with (go_at_call 81; refine (has82 row _ _ (fun h => !inB h 0 72) _ (Kd.qak HC.out HB.out) (fun i W _ _ _ => valid_1_calls _ W)).mono ?_; rw [H3.out]; rintro e w3 ⟨rfl, hb⟩; have HB3 := qab.mk (qad HB.out hb); clear hb)
       go_ret
       refine ⟨?_, HB3.out⟩
       have hw : waysB (l0_0.length + 1) l0_2 = false := waysB_not _ _ k hlt (by
        rw [← hR.out]
        simp only [rowB, H1.out, H2.out, decide_true, Bool.true_and, List.all_eq_not_any_not, H3.out, Bool.not_true])
       simp [validB, hw]
      | false =>
       have H3 := qab.mk h3
       clear h3
       go_wp2_with (go_at_call 81; refine (has82 row _ _ (fun h => !inB h 0 72) _ (Kd.qak HC.out HB.out) (fun i W _ _ _ => valid_1_calls _ W)).mono ?_; rw [H3.out]; rintro e w3 ⟨rfl, hb⟩; have HB3 := qab.mk (qad HB.out hb); have BK3 := qab.mk (qae BK.out hb); clear hb)
       go_roundw
       case rel => exact ⟨k + 1, by omega, by go_num, ⟨fun j hj => by
        rcases Nat.lt_or_ge j k with h | h
        ·
         exact HN.out j h
        ·
         obtain rfl : j = k := by omega
         rw [← hR.out]
         simp only [rowB, H1.out, H2.out, decide_true, Bool.true_and, List.all_eq_not_any_not, H3.out, Bool.not_false]⟩, BK3, HB3⟩
       case measure => simp [intOf]; omega
     ·
      have h2b : (rd row k != 0) = true := by simp [h2]
      have H2 := qab.mk h2
      clear h2
      go_wp2
      go_ret
      refine ⟨?_, HB.out⟩
      have hw : waysB (l0_0.length + 1) l0_2 = false := waysB_not _ _ k hlt (by
       rw [← hR.out]
       simp only [rowB, H2.out, decide_false, Bool.false_and, Bool.and_false])
      simp [validB, hw]
    ·
     have h1b : ((row.length : Int) != (l0_0.length : Int) + 1) = true := by simp [h1]
     have H1 := qab.mk h1
     clear h1
     go_wp2
     go_ret
     refine ⟨?_, HB.out⟩
     have hw : waysB (l0_0.length + 1) l0_2 = false := waysB_not _ _ k hlt (by
      rw [← hR.out]
      simp only [rowB, H1.out, decide_false, Bool.false_and])
     simp [validB, hw]
   ·
    have HW : qab (waysB (l0_0.length + 1) l0_2 = true) := ⟨waysB_all _ _ (fun j hj => HN.out j (by omega))⟩
    have HV : qab (validB l0_0 l0_1 l0_2 = (inB l0_0.length 1 5 && (inB l0_1.length 1 72 && (l0_0.all loopB && l0_1.all fun s => spanB s 0 1000)))) := ⟨by simp [validB, HP.out, HW.out]⟩
    have HA0 : qab ((l0_0.all loopB) = !(l0_0.any fun x => !loopB x)) := ⟨List.all_eq_not_any_not⟩
    have HA1 : qab ((l0_1.all fun s => spanB s 0 1000) = !(l0_1.any fun x => !spanB x 0 1000)) := ⟨List.all_eq_not_any_not⟩
    cases v1 : inB l0_0.length 1 5 with
    | false =>
     have V1 := qab.mk v1
     clear v1
     go_wp2_with (go_at_call 55; refine (in_calls _ _ _ _).mono ?_; rw [V1.out]; rintro e w3 ⟨rfl, hb⟩; have HB3 := qab.mk (qad HB.out hb); clear hb)
     go_ret
     exact ⟨by rw [HV.out, V1.out]; rfl, HB3.out⟩
    | true =>
     have V1 := qab.mk v1
     clear v1
     cases v2 : inB l0_1.length 1 72 with
     | false =>
      have V2 := qab.mk v2
      clear v2
      go_wp2_with fail
      refine (in_calls _ _ _ _).mono ?_; rw [V1.out]; rintro e w3 ⟨rfl, hb⟩; have HB3 := qab.mk (qad HB.out hb); have BK3 := qab.mk (qae BK.out hb); clear hb
      obtain ⟨hf3, hc3_0, hc3_1, hc3_2⟩ := qz3 BK3.out
      go_wp2_with fail
      refine (in_calls _ _ _ _).mono ?_; rw [V2.out]; rintro e w4 ⟨rfl, hb⟩; have HB4 := qab.mk (qad HB3.out hb); clear hb
      go_wp2_with fail
      go_ret
      exact ⟨by rw [HV.out, V1.out, V2.out]; rfl, HB4.out⟩
     | true =>
      have V2 := qab.mk v2
      clear v2
      cases v3 : l0_0.any fun x => !loopB x with
      | true =>
       have V3 := qab.mk v3
       clear v3
       go_wp2_with fail
       refine (in_calls _ _ _ _).mono ?_; rw [V1.out]; rintro e w3 ⟨rfl, hb⟩; have HB3 := qab.mk (qad HB.out hb); have BK3 := qab.mk (qae BK.out hb); clear hb
       obtain ⟨hf3, hc3_0, hc3_1, hc3_2⟩ := qz3 BK3.out
       go_wp2_with fail
       refine (in_calls _ _ _ _).mono ?_; rw [V2.out]; rintro e w4 ⟨rfl, hb⟩; have HB4 := qab.mk (qad HB3.out hb); have BK4 := qab.mk (qae BK3.out hb); clear hb
       obtain ⟨hf4, hc4_0, hc4_1, hc4_2⟩ := qz3 BK4.out
       go_wp2_with fail
       refine (has84 l0_0 _ _ (fun x => !loopB x) _ (Kd.qak HR0.out HB4.out) (fun i W _ _ _ => valid_2_calls _ W)).mono ?_; rw [V3.out]; rintro e w5 ⟨rfl, hb⟩; have HB5 := qab.mk (qad HB4.out hb); clear hb
       go_wp2_with fail
       go_ret
       exact ⟨by rw [HV.out, V1.out, V2.out, HA0.out, V3.out]; rfl, HB5.out⟩
      | false =>
       have V3 := qab.mk v3
       clear v3
       go_wp2_with fail
       refine (in_calls _ _ _ _).mono ?_; rw [V1.out]; rintro e w3 ⟨rfl, hb⟩; have HB3 := qab.mk (qad HB.out hb); have BK3 := qab.mk (qae BK.out hb); clear hb
       obtain ⟨hf3, hc3_0, hc3_1, hc3_2⟩ := qz3 BK3.out
       go_wp2_with fail
       refine (in_calls _ _ _ _).mono ?_; rw [V2.out]; rintro e w4 ⟨rfl, hb⟩; have HB4 := qab.mk (qad HB3.out hb); have BK4 := qab.mk (qae BK3.out hb); clear hb
       obtain ⟨hf4, hc4_0, hc4_1, hc4_2⟩ := qz3 BK4.out
       go_wp2_with fail
       refine (has84 l0_0 _ _ (fun x => !loopB x) _ (Kd.qak HR0.out HB4.out) (fun i W _ _ _ => valid_2_calls _ W)).mono ?_; rw [V3.out]; rintro e w5 ⟨rfl, hb⟩; have HB5 := qab.mk (qad HB4.out hb); have BK5 := qab.mk (qae BK4.out hb); clear hb
       obtain ⟨hf5, hc5_0, hc5_1, hc5_2⟩ := qz3 BK5.out
       go_wp2_with fail
       refine (has87 l0_1 _ _ (fun x => !spanB x 0 1000) _ (Kd.qak HR1.out HB5.out) (fun i W _ _ _ => valid_3_calls _ W)).mono ?_; rintro e w6 ⟨rfl, hb⟩; have HB6 := qab.mk (qad HB5.out hb); clear hb
       go_wp2_with fail
       go_ret
       exact ⟨by rw [HV.out, V1.out, V2.out, HA0.out, V3.out, HA1.out]; rfl, HB6.out⟩
 ·
  have hp1 : ((l0_2.length : Int) != wrap64 ((l0_0.length : Int) + 1)) = true := by
   rw [bne_iff_ne]
   unfold wrap64
   omega
  have HP := qab.mk hp
  clear hp
  go_enter Try.func54, Try.ntmps54
  go_wp2_with ((with_reducible refine qam (N := 1) rfl ?_); refine qal ?hg (N := 1) ?hd (cs := #[.slice A0_0 l0_0.length c0_0, .slice A0_1 l0_1.length c0_1, .slice A0_2 l0_2.length c0_2]) (t := 26) ?hr ?_; (case hd => rfl); (case hg => rfl); (case hr => first | (go_simp; done) | (go_simp; rfl)); intro gb hg w2 hbox hb; have BK := qab.mk hbox; have HB1 := qab.mk (qad HB.out hb); obtain ⟨hf, hc0, hc1, hc2⟩ := qz3 BK.out; clear hbox hb hg)
  go_ret
  exact ⟨by simp [validB, HP.out], HB1.out⟩
def pipe_sum.l0 : Nat → Int → List Int → Int → Int → Option (Int)
 | 0, _, _, _, _ => none
 | k + 1, x3, x6, x7, x8 => if x8 < x7 then (if 0 ≤ x8 then (if x8 < (x6.length : Int) then (pipe_sum.l0 k (wrap64 (x3 + (rd x6 x8))) x6 x7 (wrap64 (x8 + 1))) else (none)) else (none)) else (some x3)
def pipe_sum.f (k : Nat) (l0 : List Int) : Option (Int) := pipe_sum.l0 k 0 l0 (l0.length : Int) 0
theorem pipe_sum.calls (k : Nat) (A0 : Option Addr) (c0 : Nat) (l0 : List Int) (r : Int) (w : World) (hr0 : Kd.C (Kd.int .i64) w A0 l0.length l0) (hc0 : l0.length ≤ c0) (h : pipe_sum.f k l0 = some r) :
  Calls Try.prog 57 #[.slice A0 l0.length c0] w fun e w' => e = .returned (.int .i64 r) ∧ Drawn0 w w' := by
 have HR0 := qab.mk hr0
 have HC0 := qab.mk hc0
 clear hr0 hc0
 have H : (pipe_sum.l0 k 0 l0 (l0.length : Int) 0) = some r := h
 clear h
 have H' := qab.mk H
 clear H
 go_enter Try.func57, Try.ntmps57
 go_wp2
 go_loopg [3, 8] k (fun kq v3 v8 w' => ∃ (x3_1 : Int) (x8_1 : Int), v3 = .int .i64 x3_1 ∧ v8 = .int .i64 x8_1 ∧ qab (pipe_sum.l0 kq x3_1 l0 (l0.length : Int) x8_1 = some r) ∧ qab (kq ≤ k) ∧ Drawn0 w w')
 case atStart => exact ⟨(0), (0), (by first | rfl | (simp; done) | (simp [*]; done)), (by first | rfl | (simp; done) | (simp [*]; done)), H', ⟨Nat.le_refl _⟩, by repeat (first | exact Drawn0.refl _ | apply Drawn0.step)⟩
 case round =>
  clear H'
  obtain ⟨x3_1, x8_1, rfl, rfl, HA, HK1, ⟨m1, rfl⟩⟩ := hrel
  cases gk with
  | zero => exact absurd HA.out (by simp [pipe_sum.l0])
  | succ k1 =>
   have H := HA.out
   clear HA
   simp only [pipe_sum.l0] at H
   by_cases c2 : x8_1 < (l0.length : Int)
   ·
    rw [if_pos c2] at H
    have c2b0 : decide (x8_1 < (l0.length : Int)) = true := decide_eq_true c2
    clear c2
    by_cases c3 : 0 ≤ x8_1
    ·
     rw [if_pos c3] at H
     have c3b0 : decide (0 ≤ x8_1) = true := decide_eq_true c3
     clear c3
     by_cases c4 : x8_1 < (l0.length : Int)
     ·
      rw [if_pos c4] at H
      have c4b0 : decide (x8_1 < (l0.length : Int)) = true := decide_eq_true c4
      clear c4
      have H' := qab.mk H
      clear H
      have p123 : 0 ≤ (x8_1 : Int) := of_decide_eq_true (by first | (with_reducible assumption) | assumption)
      have q123 : x8_1 < (l0.length : Int) := of_decide_eq_true (by first | (with_reducible assumption) | assumption)
      obtain ⟨ad123, e123, hx123_0⟩ := Kd.at_int HR0.out x8_1 p123 q123
      cases e123
      replace p123 := eq_true p123
      replace q123 := eq_true q123
      go_wp2
      go_roundg k1
      case measure => have := HK1.out; omega
      case rel => exact ⟨(wrap64 (x3_1 + (rd l0 x8_1))), (wrap64 (x8_1 + 1)), (by first | rfl | (simp; done) | (simp [*]; done)), (by first | rfl | (simp; done) | (simp [*]; done)), H', ⟨by have := HK1.out; omega⟩, by repeat (first | exact Drawn0.refl _ | apply Drawn0.step)⟩
     ·
      rw [if_neg c4] at H
      exact absurd H (by simp)
    ·
     rw [if_neg c3] at H
     exact absurd H (by simp)
   ·
    rw [if_neg c2] at H
    have c2b0 : decide (x8_1 < (l0.length : Int)) = false := decide_eq_false c2
    clear c2
    obtain rfl := Option.some.inj H
    go_wp2
    go_ret
    exact ⟨by first | rfl | (simp; done) | (simp [*]; done), by repeat (first | exact Drawn0.refl _ | apply Drawn0.step)⟩
def setAll (W : World) (g : Nat) : List Value → Nat → World
 | [], _ => W
 | v :: r, i => setAll (W.setCell ⟨g, i, none⟩ v) g r (i + 1)
theorem setAll_blk {g t : Nat} : ∀ (vs zs pre : List Value) (W : World), W.heap[g]? = some (.cells (pre ++ zs).toArray t (0, 0)) → zs.length = vs.length → (setAll W g vs pre.length).heap[g]? = some (.cells (pre ++ vs).toArray t (0, 0))
 | [], zs, pre, W, h, hl => by
  have : zs = [] := List.length_eq_zero_iff.1 hl
  subst this
  exact h
 | v :: vs, [], pre, W, h, hl => by simp at hl
 | v :: vs, z :: zs, pre, W, h, hl => by
  have h1 := blk_set h pre.length v
  have e : (pre ++ z :: zs).toArray.setIfInBounds pre.length v = ((pre ++ [v]) ++ zs).toArray := by simp
  rw [e] at h1
  have h2 := setAll_blk vs zs (pre ++ [v]) _ h1 (by simpa using hl)
  have e2 : pre ++ v :: vs = pre ++ [v] ++ vs := by simp
  rw [e2]
  have e3 : (pre ++ [v]).length = pre.length + 1 := by simp
  rw [e3] at h2
  exact h2
theorem setAll_new {g t : Nat} {W : World} (vs zs : List Value) (h : W.heap[g]? = some (.cells zs.toArray t (0, 0))) (hl : zs.length = vs.length) : (setAll W g vs 0).heap[g]? = some (.cells vs.toArray t (0, 0)) := setAll_blk vs zs [] W h hl
theorem setAll_far {g g' t : Nat} {cs : Array Value} (hne : g' ≠ g) : ∀ (vs : List Value) (i : Nat) (W : World), W.heap[g']? = some (.cells cs t (0, 0)) → (setAll W g vs i).heap[g']? = some (.cells cs t (0, 0))
 | [], _, _, h => h
 | v :: vs, i, W, h => setAll_far hne vs (i + 1) _ (blk_far h hne v)
theorem setAll_below {g : Nat} {w : World} (hg : w.heap.size ≤ g) : ∀ (vs : List Value) (i : Nat) (W : World), Below w.heap.size w W → Below w.heap.size w (setAll W g vs i)
 | [], _, _, h => h
 | v :: vs, i, W, h => setAll_below hg vs (i + 1) _ (qai h hg)
theorem new_ints (W : World) (xs : List Int) (h : xs.length ≤ 9223372036854775807) : Kd.C (Kd.int .i64) (W.alloc (.cells (xs.map (Value.int .i64)).toArray 3)) (some ⟨W.heap.size, 0, none⟩) xs.length xs :=
 Kd.C_of_reads (enc := Value.int .i64) (d := (0 : Int)) (h1 := fun _ => rfl) ⟨rfl, h, fun _ => ⟨_, rfl, fun j hj => by
  have h1 := qaa (blk_new W (.cells (xs.map (Value.int .i64)).toArray 3)) j
  have h2 : (⟨W.heap.size, 0, none⟩ : Addr).add j = ⟨W.heap.size, j, none⟩ := by simp [Addr.add]; try omega
  rw [h2, h1]
  simp [hj]⟩⟩
theorem new_row {α : Type} (d : Kd α) (e : Nat) (W : World) (xs : List α) (inner : List Value) (hrep : Reps (d.M W W.heap.size (fun _ => True)) d.sz xs inner) (hm : xs.length ≤ 9223372036854775807) :
  d.R e (W.alloc (.cells inner.toArray e)) W.heap.size (fun _ => True) (.slice (some ⟨W.heap.size, 0, none⟩) xs.length xs.length) xs := by
 refine ⟨fun _ _ => trivial, inner, ?_, ?_⟩
 ·
  have h2 := World.ownsRow_lit (base := W.heap.size) (e := e) (size := d.sz) W inner.toArray xs.length (Nat.le_refl _) (by simpa [maxLen] using hm) (by simpa using hrep.1)
  simpa using h2
 ·
  refine hrep.imp_ (fun p c hp => d.M_mono (fun k hk => ⟨trivial, fun he => ?_⟩) (Kd.M_below (d.M_bound hp) (qag (Below.refl _ _) _)))
  have h3 : k = W.heap.size := by simpa [Value.ownBlock] using he
  have := hk.2.2.1
  omega
end Go.Proofs.Ytipphcjgdebecaa.PA
