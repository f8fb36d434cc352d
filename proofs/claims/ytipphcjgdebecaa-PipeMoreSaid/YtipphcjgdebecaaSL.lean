/- What functions of the program answer. No condition. -/
import Derived.Test.YtipphcjgdebecaaSC
import Derived.Test.YtipphcjgdebecaaSE
import Derived.Test.YtipphcjgdebecaaSF
import Derived.Test.YtipphcjgdebecaaSH
import Derived.Test.YtipphcjgdebecaaSK
import Derived.Test.YtipphcjgdebecaaSJ
set_option linter.all false
set_option maxRecDepth 100000
set_option maxHeartbeats 8000000
namespace Go.Proofs.Ytipphcjgdebecaa.PA
open Go.RowKit Go.Proofs.YtipphcjgdebecaaW.PrintWords Go.Proofs.YtipphcjgdebecaaW.PrintLast Go.Proofs.YtipphcjgdebecaaW.PrintMore
attribute [local go_sem] qas qau max_two min_two qao qap qat qav
attribute [local go_sem] Oper.semAt_some
def costS (l0 : List S39) (a : Int) (i : Int) : Int := wrap64 (a + (qaj l0 i).f3)
def costV (l0 : List S39) (s : List Int) : Int := s.foldl (costS l0) 0
theorem costV_snoc (l0 : List S39) (s : List Int) (x : Int) : costV l0 (s ++ [x]) = wrap64 (costV l0 s + (qaj l0 x).f3) := by simp [costV, costS]
structure Inv75 (w0 : World) (gn gf gm : Nat) (cf cm : Value) (cs : Array Value) (A : Nat → Prop) (W : World) : Prop where
 an : ¬ A gn
 af : ¬ A gf
 am : ¬ A gm
 lo : ∀ k, A k → w0.heap.size ≤ k
 xn : W.heap[gn]? = some (.cells cs 26 (0, 0))
 xf : W.heap[gf]? = some (.cells #[cf] 47 (0, 0))
 xm : W.heap[gm]? = some (.cells #[cm] 3 (0, 0))
 hb : Below w0.heap.size w0 W
theorem Inv75.held {w0 : World} {gn gf gm : Nat} {cf cm : Value} {cs : Array Value} {B : Nat} (hB : w0.heap.size ≤ B) : Held B (Inv75 w0 gn gf gm cf cm cs) where
 mono A A' W hA h := ⟨fun hk => h.an (hA _ hk), fun hk => h.af (hA _ hk), fun hk => h.am (hA _ hk), fun k hk => h.lo k (hA k hk), h.xn, h.xf, h.xm, h.hb⟩
 fresh A W h := ⟨fun hk => hk.elim h.an (fun e => by have := blk_lt h.xn; omega), fun hk => hk.elim h.af (fun e => by have := blk_lt h.xf; omega), fun hk => hk.elim h.am (fun e => by have := blk_lt h.xm; omega), fun k hk => hk.elim (h.lo k) (fun e => Nat.le_trans h.hb.size e), h.xn, h.xf, h.xm, h.hb⟩
 step A W W' h hk := ⟨h.an, h.af, h.am, h.lo, hk.blk h.xn h.an, hk.blk h.xf h.af, hk.blk h.xm h.am, ⟨hk.os.trans h.hb.os, hk.tape.trans h.hb.tape, hk.output.trans h.hb.output, Nat.le_trans h.hb.size hk.size, fun k hlt => (hk.block k (Nat.lt_of_lt_of_le hlt h.hb.size) (fun ha => by have := h.lo k ha; omega)).trans (h.hb.block k hlt)⟩⟩
 own A W W' row h hg hr := ⟨h.an, h.af, h.am, h.lo, blk_own h.xn hg hr, blk_own h.xf hg hr, blk_own h.xm hg hr, ⟨hg.os.trans h.hb.os, hg.tape.trans h.hb.tape, hg.output.trans h.hb.output, Nat.le_trans h.hb.size hg.size, fun k hlt => (hg.block k (Nat.lt_of_lt_of_le hlt h.hb.size) (fun e => by have := (hr k e.symm).1; omega)).trans (h.hb.block k hlt)⟩⟩
def ofWrap (l0 : List S39) (l1 : List S37) (l2 : List (List Int)) (from_ : Int) (fs : List Int) (x : Int) : Int × Bool := (wrap64 (-(costV l0 (qaq x 5))), decide ((weakV l0 l1 l2 x from_ fs).1 < 0))
theorem of75_calls (A0 : Option Addr) (c0 : Nat) (l0 : List S39) (A1 : Option Addr) (c1 : Nat) (l1 : List S37) (A2 : Option Addr) (c2 : Nat) (l2 : List (List Int)) (A3 : Option Addr) (c3 : Nat) (fs : List Int) (from_ : Int) (w0 : World) (gn gf gm : Nat)
  (hr0 : Kd.C k39 w0 A0 l0.length l0) (hc0 : l0.length ≤ c0) (hr1 : Kd.C k37 w0 A1 l1.length l1) (hc1 : l1.length ≤ c1) (hr2 : Kd.C (Kd.slice 3 (Kd.int .i64)) w0 A2 l2.length l2) (hc2 : l2.length ≤ c2) (hr3 : Kd.C (Kd.int .i64) w0 A3 fs.length fs) (hc3 : fs.length ≤ c3)
  (x : Int) (hx0 : 0 ≤ x) (hlp : ∀ i ∈ qaq x 5, i < l0.length) (hok : pipe_net_weak.f 14 l0 l1 l2 x from_ fs = some ((weakV l0 l1 l2 x from_ fs).1, (weakV l0 l1 l2 x from_ fs).2)) (A : Nat → Prop) (w : World) (hinv : Inv75 w0 gn gf gm (.slice A3 fs.length c3) (.int .i64 from_) #[.slice A0 l0.length c0, .slice A1 l1.length c1, .slice A2 l2.length c2] A w) :
  Calls Try.prog 75 #[.int .i64 x, .pointer (some ⟨gn, 0, none⟩), .pointer (some ⟨gm, 0, none⟩), .pointer (some ⟨gf, 0, none⟩)] w fun e w' => e = .returned (.tuple #[.int .i64 (ofWrap l0 l1 l2 from_ fs x).1, .bool (ofWrap l0 l1 l2 from_ fs x).2]) ∧ Inv75 w0 gn gf gm (.slice A3 fs.length c3) (.int .i64 from_) #[.slice A0 l0.length c0, .slice A1 l1.length c1, .slice A2 l2.length c2] A w' ∧ KB (fun _ => False) w w' := by
 have hu26 := Try.underlying26
 have hu39 := Try.underlying39
 have hu99 := Try.underlying99
 have HI := qab.mk hinv
 refine (callsIn_wide (n := 8)).1 ?_
 refine callsIn_of_wp_marks Try.func75 rfl trivial ?_ rfl
 refine wpIn_wide.2 ?_
 simp only [Try.ntmps75, List.size_toArray, List.length_cons, List.length_nil, Nat.reduceAdd, Nat.reduceSub, Array.replicate_succ, Array.replicate_zero, List.push_toArray, List.append_toArray, List.nil_append, List.cons_append]
 go_wp2_with (go_at_call 76; refine (loops_calls x _).mono ?_; rintro e w2 ⟨BB, rfl, hBB, hge, hb⟩)
 refine (wpIn_wide (n := 8)).1 ?_
 have hbw := blk_new w (.cells #[.int .i64 0] 3)
 have hba := qag (Below.refl w.heap.size w) (.cells #[.int .i64 0] 3)
 have h7 := qae hbw hb
 have hb2 := qad hba hb
 have hl2 : w.heap.size < w2.heap.size := by have := hb.size; simp at this; omega
 have hBl := blk_lt hBB
 have hBne : BB ≠ w.heap.size := by simp at hge; omega
 have hi2 : Inv75 w0 gn gf gm (.slice A3 fs.length c3) (.int .i64 from_) #[.slice A0 l0.length c0, .slice A1 l1.length c1, .slice A2 l2.length c2] (fun k => A k ∨ k = w.heap.size) w2 := by
  have hh := Inv75.held (w0 := w0) (gn := gn) (gf := gf) (gm := gm) (cf := .slice A3 fs.length c3) (cm := .int .i64 from_) (cs := #[.slice A0 l0.length c0, .slice A1 l1.length c1, .slice A2 l2.length c2]) (B := w0.heap.size) (Nat.le_refl _)
  exact hh.step _ w _ (hh.mono _ _ _ (fun k hk => hk.elim .inl (fun e => .inr (by omega))) (hh.fresh _ _ hinv)) (KB.of_below hb2 _)
 have hw0 : w0.heap.size ≤ w2.heap.size := hi2.hb.size
 refine wpIn_rangeFunc_ownG rfl (by omega) (gf := 97) (lb := #[.pointer (some ⟨BB, 0, none⟩)]) rfl trivial (enters_of Try.func97 (by kernel_rfl) rfl) (loops_stops _ (by omega) x hx0 BB w2 hBB) (fun h k => KeptAt.trans h k) (keptAt_put hBl) (Below.refl _ _) (fun _ => rfl)
  (fun (pre : List (LoopOf x)) W => Inv75 w0 gn gf gm (.slice A3 fs.length c3) (.int .i64 from_) #[.slice A0 l0.length c0, .slice A1 l1.length c1, .slice A2 l2.length c2] (fun k => A k ∨ k = w.heap.size) W ∧ W.heap[w.heap.size]? = some (.cells #[.int .i64 (costV l0 (pre.map (fun y : LoopOf x => y.1)))] 3 (0, 0)) ∧ KB (fun k => k = w.heap.size) w2 W)
  (fun _ _ _ => False)
  (fun s A' B row hs hg hr => ⟨(Inv75.held hw0).own _ _ _ row hs.1 hg hr, blk_own hs.2.1 hg hr, hs.2.2.trans (KB.of_grown hg) (fun k e => .inr (by have := (hr k e).1; omega))⟩)
  (fun _ _ _ _ _ hs _ _ => hs)
  ⟨hi2, h7, KB.refl _ _⟩
  (fun y => { tmps := #[.int .i64 x, .pointer (some ⟨gn, 0, none⟩), .pointer (some ⟨gm, 0, none⟩), .pointer (some ⟨gf, 0, none⟩), undef, .int .i64 0, .bool false, .pointer (some ⟨w.heap.size, 0, none⟩), .int .i64 y.1, undef, undef, .int .i64 x, .func (.func 97) #[] #[.pointer (some ⟨BB, 0, none⟩)], .int .i64 y.1, undef, undef, undef, undef, undef, undef, undef, undef, undef, undef, undef, undef, undef, undef, undef, undef, undef, undef, undef, undef, undef], defers := [] }) ?assign ?body ?done ?stop
 case assign =>
  intro l y W K hK
  gi_wp2
  exact hK
 case body =>
  rintro l pre ⟨y, hy⟩ W ⟨hi, h7', hk⟩ _
  obtain ⟨k, rfl, hk5, _⟩ := (mem_loopsOf x 5 y).1 hy
  have hyl := hlp _ hy
  obtain ⟨ad, e, hl0, hl1, hl2, hl3, hl4, hl5, hl6, hl7, hl8, hl9, hl10, hl11⟩ := at_T39 (Kd.qak hr0 hi.hb) (k : Int) (by omega) hyl
  cases e
  clear hl0 hl1 hl2 hl3 hl4 hl5 hl7 hl8 hl9 hl10 hl11
  simp only [Int.toNat_natCast] at hl6
  have hmx : Try.prog.follows .mixedOrders = true := by kernel_rfl
  have j0 : W.drew.cell? ⟨gn, 0, none⟩ = some (.slice (some ad) l0.length c0) := qaa hi.xn 0
  have j1 : W.drew.cell? ⟨w.heap.size, 0, none⟩ = some (.int .i64 (costV l0 (pre.map (fun y : LoopOf x => y.1)))) := qaa h7' 0
  have j2 : W.drew.frozen? ⟨w.heap.size, 0, none⟩ = false := qac h7' 0
  have j3 : W.drew.cell? ⟨(ad.add (k * 12)).block, (ad.add (k * 12)).off + 6, none⟩ = some (.int .i64 (qaj l0 k).f3) := hl6
  have hk0 : (0 : Int) ≤ k := by omega
  have HH := qab.mk (And.intro hi (And.intro h7' hk))
  clear hi h7' hk hl6 hlp hok hr0 hr1 hr2 hr3 hinv hi2 h7
  have FIN : ∀ a : Act, ownPostG w2.heap.size (KeptAt BB) (fun (pre : List (LoopOf x)) W => Inv75 w0 gn gf gm (.slice A3 fs.length c3) (.int .i64 from_) #[.slice (some ad) l0.length c0, .slice A1 l1.length c1, .slice A2 l2.length c2] (fun k => A k ∨ k = w.heap.size) W ∧ W.heap[w.heap.size]? = some (.cells #[.int .i64 (costV l0 (pre.map (fun y : LoopOf x => y.1)))] 3 (0, 0)) ∧ KB (fun k => k = w.heap.size) w2 W)
    (fun _ _ _ => False) (pre ++ [(⟨(k : Int), hy⟩ : LoopOf x)]) W .normal a ((W.setCell ⟨w.heap.size, 0, none⟩ (.int .i64 (IntKind.i64.wrap (costV l0 (pre.map (fun y : LoopOf x => y.1)) + (qaj l0 k).f3)))).drew) := by
   intro a
   have hK : ∀ v, KB (fun k => k = w.heap.size) W ((W.setCell ⟨w.heap.size, 0, none⟩ v).drew) := fun v => by
    have h := (KB.refl (fun k => k = w.heap.size) W).set (p := ⟨w.heap.size, 0, none⟩) (.inl rfl) v
    exact ⟨h.os, h.tape, h.output, h.size, h.block⟩
   have hsz := HH.out.2.2.size
   refine ⟨(hK _).from (fun k e => by omega), (hK _).block BB (by omega) (fun e => hBne e), (Inv75.held hw0).step _ _ _ HH.out.1 ((hK _).mono (fun k e => .inr e)), ?_, HH.out.2.2.trans (hK _) (fun k e => .inl e)⟩
   rw [List.map_append, List.map_cons, List.map_nil, costV_snoc, ← i64_w]
   exact blk_set HH.out.2.1 0 _
  gi_wp2
  gi_region
  all_goals gi_wp2
  all_goals exact FIN _
 case done =>
  rintro D xs W hD hSx ⟨hi, h7', hk⟩ hK
  have hcall : ∀ W', Below W.heap.size W W' → _ := fun W' hW => pipe_net_weak.calls 14 _ _ l0 _ _ l1 _ _ l2 x from_ _ _ fs _ _ W' (Kd.qak (Kd.qak hr0 hi.hb) hW) hc0 (Kd.qak (Kd.qak hr1 hi.hb) hW) hc1 (Kd.qak (Kd.qak hr2 hi.hb) hW) hc2 (Kd.qak (Kd.qak hr3 hi.hb) hW) hc3 hok
  have HC := qab.mk hcall
  clear hcall
  have k0 : W.cell? ⟨gn, 0, none⟩ = some (.slice A0 l0.length c0) := qaa hi.xn 0
  have k1 : W.cell? ⟨gn, 1, none⟩ = some (.slice A1 l1.length c1) := qaa hi.xn 1
  have k2 : W.cell? ⟨gn, 2, none⟩ = some (.slice A2 l2.length c2) := qaa hi.xn 2
  have k3 : W.cell? ⟨gf, 0, none⟩ = some (.slice A3 fs.length c3) := qaa hi.xf 0
  have k4 : W.cell? ⟨gm, 0, none⟩ = some (.int .i64 from_) := qaa hi.xm 0
  have k5 : W.cell? ⟨w.heap.size, 0, none⟩ = some (.int .i64 (costV l0 (xs.map (fun y : LoopOf x => y.1)))) := qaa h7' 0
  have H1 := qab.mk hi
  have H6 := qab.mk hk
  have H7 := qab.mk h7'
  have HK := qab.mk hK
  have HSX := qab.mk hSx
  clear hi hk h7' hK hSx hr0 hr1 hr2 hr3 hok hlp hinv hi2 h7
  gi_wp2
  go_wp2_with (go_at_call 74; refine (HC.out _ (Below.refl _ _)).mono ?_; rintro e w3 ⟨rfl, hb⟩; have k6 : w3.cell? ⟨w.heap.size, 0, none⟩ = some (.int .i64 (costV l0 (xs.map (fun y : LoopOf x => y.1)))) := (hb.cell (World.block_lt_of_cell? _ _ k5)).trans k5; have HB3 : qab (Below W.heap.size W w3) := ⟨hb⟩; clear hb k0 k1 k2 k3 k4 k5)
  have hD3 : w3.heap[D]? = some (.deferred (some [])) := (HB3.out.block D (blk_lt HK.out)).trans HK.out
  refine ⟨by simp, .inl ⟨_, _, rfl, run_takeDeferred hD3, ?_⟩⟩
  have hput := grownBy_putObj' w3 D (.deferred none)
  have hrow : ∀ r, some D = some r → w0.heap.size ≤ r ∧ ∃ o : Obj, w3.heap[r]? = some o ∧ o.isCells = false := fun r e => by
   injection e with e
   subst e
   exact ⟨by omega, _, hD3, rfl⟩
  have hl0 := Inv75.held (w0 := w0) (gn := gn) (gf := gf) (gm := gm) (cf := .slice A3 fs.length c3) (cm := .int .i64 from_) (cs := #[.slice A0 l0.length c0, .slice A1 l1.length c1, .slice A2 l2.length c2]) (B := w0.heap.size) (Nat.le_refl _)
  have hi3 := hl0.step _ W w3 H1.out (KB.of_below HB3.out _)
  have hi4 := hl0.own _ w3 _ (some D) hi3 hput hrow
  refine ⟨_, results_tmp2 rfl _ _ _, ?_, hl0.mono _ _ _ (fun k hk => .inl hk) hi4, ?_⟩
  ·
   have hx : xs.unattach = qaq x 5 := HSX.out
   rw [hx]
   rfl
  ·
   exact (((KB.of_below hb2 (fun _ => False)).trans H6.out (fun k e => .inr (by omega))).trans (KB.of_below HB3.out (fun _ => False)) (fun k e => .inl e)).trans (KB.of_grown hput) (fun k e => .inr (by injection e with e; omega))
 case stop =>
  rintro D c pre W _ _ h _
  exact h.elim
end Go.Proofs.Ytipphcjgdebecaa.PA
namespace Go.Proofs.Ytipphcjgdebecaa.PA
open Go.RowKit Go.Proofs.YtipphcjgdebecaaW.PrintWords Go.Proofs.YtipphcjgdebecaaW.PrintLast Go.Proofs.YtipphcjgdebecaaW.PrintMore
attribute [local go_sem] qas qau max_two min_two qao qap qat qav
def wrapV (l0 : List S39) (l1 : List S37) (l2 : List (List Int)) (from_ : Int) (fs : List Int) : Int × Int × Int :=
 if givenV l0 l1 l2 from_ fs ≠ 0 then (0, 0, givenV l0 l1 l2 from_ fs) else
  if (g1 (ofWrap l0 l1 l2 from_ fs) (numsOf (2 ^ l0.length))).2.2 = true then ((g1 (ofWrap l0 l1 l2 from_ fs) (numsOf (2 ^ l0.length))).1, wrap64 (-(g1 (ofWrap l0 l1 l2 from_ fs) (numsOf (2 ^ l0.length))).2.1), 0) else (0, 0, 5)
theorem pow_le32 {n : Nat} (h : n ≤ 5) : 2 ^ n ≤ 32 := Nat.pow_le_pow_right (n := 2) (by decide) h
theorem loops_low {n : Nat} (h5 : n ≤ 5) {x : Nat} (hx : x < 2 ^ n) : ∀ i ∈ qaq (x : Int) 5, i < n := fun i hi => by
 have h32 := pow_le32 h5
 obtain ⟨k, rfl, hk, hb⟩ := (mem_loopsOf _ 5 i).1 hi
 have h1 := bit_le (x : Int) (by omega) (by omega) k hk hb
 rcases Nat.lt_or_ge k n with h2 | h2
 ·
  omega
 ·
  exfalso
  have h3 := Nat.pow_le_pow_right (n := 2) (by decide) h2
  have h4 : ((2 ^ n : Nat) : Int) ≤ ((2 ^ k : Nat) : Int) := Int.ofNat_le.2 h3
  simp at h4
  have h5 : ((x : Nat) : Int) < ((2 ^ n : Nat) : Int) := Int.ofNat_lt.2 hx
  simp at h5
  omega
theorem shl_powN (n : Nat) (h : n ≤ 5) : shl .i64 1 (n : Int) = ((2 ^ n : Nat) : Int) := by rw [shl_pow n h]; simp
def pipe_Wrap.f (l0_0 : List (S39)) (l0_1 : List (S37)) (l0_2 : List (List Int)) (a1 : Int) (l2 : List Int) : Option (Int × Int × Int) := some (wrapV l0_0 l0_1 l0_2 a1 l2)
theorem pipe_Wrap.calls (A0_0 : Option Addr) (c0_0 : Nat) (l0_0 : List (S39)) (A0_1 : Option Addr) (c0_1 : Nat) (l0_1 : List (S37)) (A0_2 : Option Addr) (c0_2 : Nat) (l0_2 : List (List Int)) (a1 : Int) (A2 : Option Addr) (c2 : Nat) (l2 : List Int) (r1 : Int) (r2 : Int) (r3 : Int) (w : World) (hr0_0 : Kd.C k39 w A0_0 l0_0.length l0_0) (hc0_0 : l0_0.length ≤ c0_0) (hr0_1 : Kd.C k37 w A0_1 l0_1.length l0_1) (hc0_1 : l0_1.length ≤ c0_1) (hr0_2 : Kd.C (Kd.slice 3 (Kd.int .i64)) w A0_2 l0_2.length l0_2) (hc0_2 : l0_2.length ≤ c0_2) (hr2 : Kd.C (Kd.int .i64) w A2 l2.length l2) (hc2 : l2.length ≤ c2) (h : pipe_Wrap.f l0_0 l0_1 l0_2 a1 l2 = some (r1, r2, r3)) :
  Calls Try.prog 39 #[.agg #[.slice A0_0 l0_0.length c0_0, .slice A0_1 l0_1.length c0_1, .slice A0_2 l0_2.length c0_2], .int .i64 a1, .slice A2 l2.length c2] w fun e w' => e = .returned (.tuple #[.int .i64 r1, .int .i64 r2, .int .i64 r3]) ∧ Below w.heap.size w w' := by
 have h' := Option.some.inj h
 clear h
 have HF := qab.mk h'
 clear h'
 have hu26 := Try.underlying26
 have HB := qab.mk (Below.refl w.heap.size w)
 have HR0 := qab.mk hr0_0
 have HR1 := qab.mk hr0_1
 have HR2 := qab.mk hr0_2
 have HR3 := qab.mk hr2
 clear hr0_0 hr0_1 hr0_2 hr2
 have hmf : ∀ (fn : Fn) (first cap : Array Value) (w : World), (Instr.makeFunc fn first cap).run Try.prog w = .ok (.func fn first cap) w := fun _ _ _ _ => rfl
 have hgiven : ∀ W, Below w.heap.size w W → Calls Try.prog 70 #[.agg #[.slice A0_0 l0_0.length c0_0, .slice A0_1 l0_1.length c0_1, .slice A0_2 l0_2.length c0_2], .int .i64 a1, .slice A2 l2.length c2] W fun e w' => e = .returned (.int .i64 (givenV l0_0 l0_1 l0_2 a1 l2)) ∧ Below W.heap.size W w' := fun W hW =>
  pipe_given.calls _ _ _ _ _ _ _ _ _ a1 _ _ l2 _ W (Kd.qak HR0.out hW) hc0_0 (Kd.qak HR1.out hW) hc0_1 (Kd.qak HR2.out hW) hc0_2 (Kd.qak HR3.out hW) hc2 rfl
 have HGIV := qab.mk hgiven
 clear hgiven
 obtain ⟨gv, hgv⟩ : ∃ gv, gv = givenV l0_0 l0_1 l0_2 a1 l2 := ⟨_, rfl⟩
 rw [← hgv] at HGIV
 by_cases hz : gv = 0
 ·
  have hgo := given_ok (hgv.symm.trans hz)
  have hlen := valid_lens hgo.2.1
  have hweak : ∀ x, x ∈ numsOf (2 ^ l0_0.length) → pipe_net_weak.f 14 l0_0 l0_1 l0_2 x a1 l2 = some ((weakV l0_0 l0_1 l0_2 x a1 l2).1, (weakV l0_0 l0_1 l0_2 x a1 l2).2) := fun x hx => by
   unfold numsOf at hx
   simp only [List.mem_map, List.mem_range] at hx
   obtain ⟨k, hk, rfl⟩ := hx
   exact weakV_some _ _ _ _ _ _ hgo.1 (fun f hf => order_some hgo.2.1 (by omega) hgo.2.2.1 hgo.2.2.2.1 (hgo.2.2.2.2 f hf).1 (hgo.2.2.2.2 f hf).2)
  have hx01 : ∀ x, x ∈ numsOf (2 ^ l0_0.length) → 0 ≤ x ∧ ∀ i ∈ qaq x 5, i < l0_0.length := fun x hx => by
   unfold numsOf at hx
   simp only [List.mem_map, List.mem_range] at hx
   obtain ⟨k, hk, rfl⟩ := hx
   exact ⟨by omega, loops_low hlen.2.2.1 hk⟩
  have hsh0 : wrap64 (2 ^ min l0_0.length 64) = ((2 ^ l0_0.length : Nat) : Int) := by
   have h32 := pow_le32 hlen.2.2.1
   rw [Nat.min_eq_left (by have := hlen.2.2.1; omega)]
   have : ((2 : Int) ^ l0_0.length) = ((2 ^ l0_0.length : Nat) : Int) := by simp
   rw [this]
   generalize 2 ^ l0_0.length = m at h32 ⊢
   unfold wrap64
   omega
  have hm32 := pow_le32 hlen.2.2.1
  obtain ⟨M, hM⟩ : ∃ M : Nat, M = 2 ^ l0_0.length := ⟨_, rfl⟩
  rw [← hM] at hweak hx01 hsh0 hm32
  have HX := qab.mk hx01
  have HSH := qab.mk hsh0
  clear hsh0
  have HM32 := qab.mk hm32
  have HW := qab.mk hweak
  have HLN : qab (l0_0.length ≤ 5) := ⟨hlen.2.2.1⟩
  have hPV : wrapV l0_0 l0_1 l0_2 a1 l2 = (if (g1 (ofWrap l0_0 l0_1 l0_2 a1 l2) (numsOf M)).2.2 = true then ((g1 (ofWrap l0_0 l0_1 l0_2 a1 l2) (numsOf M)).1, wrap64 (-(g1 (ofWrap l0_0 l0_1 l0_2 a1 l2) (numsOf M)).2.1), 0) else (0, 0, 5)) := by
   unfold wrapV
   rw [if_neg (by rw [← hgv]; simp [hz]), ← hM]
  have HPV := qab.mk (hPV.symm.trans HF.out)
  clear hPV hweak hlen hgo hgv hx01 hm32 hM
  subst hz
  have hnn : ((l0_0.length : Int) < 0) = False := by simp
  go_enter Try.func39, Try.ntmps39
  go_wp2_with (first | ((with_reducible refine qam (N := 3) rfl ?_); refine qal ?hg (N := 3) ?hd (cs := #[.slice A0_0 l0_0.length c0_0, .slice A0_1 l0_1.length c0_1, .slice A0_2 l0_2.length c0_2]) (t := 26) ?hr ?_; (case hd => rfl); (case hg => rfl); (case hr => first | (go_simp; done) | (go_simp; rfl)); intro gb hg_gb w2 hbox hb; have BKgb := qab.mk hbox; have n_HB := qab.mk (qad HB.out hb); have GEgb : w.heap.size ≤ gb := (by rw [hg_gb]; exact HB.out.size); clear HB; have HB := n_HB; clear n_HB; clear hbox hb hg_gb) | ((with_reducible refine qam (N := 4) rfl ?_); refine qal ?hg (N := 4) ?hd (cs := #[.int .i64 a1]) (t := 3) ?hr ?_; (case hd => rfl); (case hg => rfl); (case hr => first | (go_simp; done) | (go_simp; rfl)); intro gm hg_gm w2b hbox hb; have BKgm := qab.mk hbox; replace BKgb := qab.mk (qae BKgb.out hb); have n_HB := qab.mk (qad HB.out hb); have GEgm : w.heap.size ≤ gm := (by rw [hg_gm]; exact HB.out.size); clear HB; have HB := n_HB; clear n_HB; clear hbox hb hg_gm) | ((with_reducible refine qam (N := 5) rfl ?_); refine qal ?hg (N := 5) ?hd (cs := #[.slice A2 l2.length c2]) (t := 47) ?hr ?_; (case hd => rfl); (case hg => rfl); (case hr => first | (go_simp; done) | (go_simp; rfl)); intro gf hg_gf w3 hbox hb; have BKgf := qab.mk hbox; replace BKgb := qab.mk (qae BKgb.out hb); replace BKgm := qab.mk (qae BKgm.out hb); have n_HB := qab.mk (qad HB.out hb); have GEgf : w.heap.size ≤ gf := (by rw [hg_gf]; exact HB.out.size); clear HB; have HB := n_HB; clear n_HB; clear hbox hb hg_gf; obtain ⟨hfgb, hcgb_0, hcgb_1, hcgb_2⟩ := qz3 BKgb.out; obtain ⟨hfgm, hcgm_0⟩ := qz1 BKgm.out; obtain ⟨hfgf, hcgf_0⟩ := qz1 BKgf.out) | (go_at_call 70; refine (HGIV.out _ HB.out).mono ?_; rintro e w4 ⟨rfl, hb⟩; replace BKgb := qab.mk (qae BKgb.out hb); replace BKgm := qab.mk (qae BKgm.out hb); replace BKgf := qab.mk (qae BKgf.out hb); replace HB := qab.mk (qad HB.out hb); clear hb; obtain ⟨hfgb, hcgb_0, hcgb_1, hcgb_2⟩ := qz3 BKgb.out) | (go_at_call 72; refine (numbers_calls _ _).mono ?_; rintro e w5 ⟨BB, rfl, hBB, hge, hb⟩; replace BKgb := qab.mk (qae BKgb.out hb); replace BKgm := qab.mk (qae BKgm.out hb); replace BKgf := qab.mk (qae BKgf.out hb); replace HB := qab.mk (qad HB.out hb); clear hb))
  rw [HSH.out] at hBB
  have hcall := greatest75_calls (p := fun x => x ∈ numsOf M) (gf := 96) (lb := #[.pointer (some ⟨BB, 0, none⟩)]) (enters_of Try.func96 (by kernel_rfl) rfl) (Bn := BB) (w := w5) (blk_lt hBB) (fun n hn => numbers_stops n hn M (by have := HM32.out; omega) BB w5 hBB) (numsOf M) (fun xs h => h)
   (Inv75.held (w0 := w) (gn := gb) (gf := gf) (gm := gm) (cf := .slice A2 l2.length c2) (cm := .int .i64 a1) (cs := #[.slice A0_0 l0_0.length c0_0, .slice A0_1 l0_1.length c0_1, .slice A0_2 l0_2.length c0_2]) (B := w5.heap.size) HB.out.size) (fun _ => False) (fun k hk => hk.elim)
   (fun _ => False) (.pointer (some ⟨gb, 0, none⟩)) (.pointer (some ⟨gm, 0, none⟩)) (.pointer (some ⟨gf, 0, none⟩)) (ofWrap l0_0 l0_1 l0_2 a1 l2)
   (fun A' W' x hx hA' hi' => of75_calls _ _ l0_0 _ _ l0_1 _ _ l0_2 _ _ l2 a1 w gb gf gm HR0.out hc0_0 HR1.out hc0_1 HR2.out hc0_2 HR3.out hc2 x (HX.out x hx).1 (HX.out x hx).2 (HW.out x hx) A' W' hi')
   ⟨fun h => h, fun h => h, fun h => h, fun k h => h.elim, BKgb.out, BKgf.out, BKgm.out, HB.out⟩ (fun k hk => hk.elim)
  refine hcall.mono ?_
  rintro e w7 ⟨rfl, i7, k7⟩
  have hb7 := HB.out.trans (k7.toBelow (fun k h => h.elim) |>.mono HB.out.size)
  clear hcall i7 k7 hBB hge
  generalize g1 (ofWrap l0_0 l0_1 l0_2 a1 l2) (numsOf M) = g at HPV ⊢
  obtain ⟨ga, gc, gd⟩ := g
  try dsimp only at HPV ⊢
  have HB7 := qab.mk hb7
  clear hb7
  cases gd with
  | false =>
   have he := HPV.out
   cases he
   go_wp2_with fail
   go_ret3
   exact ⟨rfl, HB7.out⟩
  | true =>
   have he := HPV.out
   cases he
   go_wp2_with fail
   go_ret3
   exact ⟨rfl, HB7.out⟩
 ·
  have hzb : (gv != 0) = true := by simp [hz]
  have hv : (r1, r2, r3) = (0, 0, gv) := by rw [← HF.out]; unfold wrapV; rw [← hgv, if_pos hz]
  cases hv
  clear hgv
  go_enter Try.func39, Try.ntmps39
  go_wp2_with (first | ((with_reducible refine qam (N := 3) rfl ?_); refine qal ?hg (N := 3) ?hd (cs := #[.slice A0_0 l0_0.length c0_0, .slice A0_1 l0_1.length c0_1, .slice A0_2 l0_2.length c0_2]) (t := 26) ?hr ?_; (case hd => rfl); (case hg => rfl); (case hr => first | (go_simp; done) | (go_simp; rfl)); intro gb hg_gb w2 hbox hb; have BKgb := qab.mk hbox; have n_HB := qab.mk (qad HB.out hb); have GEgb : w.heap.size ≤ gb := (by rw [hg_gb]; exact HB.out.size); clear HB; have HB := n_HB; clear n_HB; clear hbox hb hg_gb) | ((with_reducible refine qam (N := 4) rfl ?_); refine qal ?hg (N := 4) ?hd (cs := #[.int .i64 a1]) (t := 3) ?hr ?_; (case hd => rfl); (case hg => rfl); (case hr => first | (go_simp; done) | (go_simp; rfl)); intro gm hg_gm w2b hbox hb; have BKgm := qab.mk hbox; replace BKgb := qab.mk (qae BKgb.out hb); have n_HB := qab.mk (qad HB.out hb); have GEgm : w.heap.size ≤ gm := (by rw [hg_gm]; exact HB.out.size); clear HB; have HB := n_HB; clear n_HB; clear hbox hb hg_gm) | ((with_reducible refine qam (N := 5) rfl ?_); refine qal ?hg (N := 5) ?hd (cs := #[.slice A2 l2.length c2]) (t := 47) ?hr ?_; (case hd => rfl); (case hg => rfl); (case hr => first | (go_simp; done) | (go_simp; rfl)); intro gf hg_gf w3 hbox hb; have BKgf := qab.mk hbox; replace BKgb := qab.mk (qae BKgb.out hb); replace BKgm := qab.mk (qae BKgm.out hb); have n_HB := qab.mk (qad HB.out hb); have GEgf : w.heap.size ≤ gf := (by rw [hg_gf]; exact HB.out.size); clear HB; have HB := n_HB; clear n_HB; clear hbox hb hg_gf; obtain ⟨hfgb, hcgb_0, hcgb_1, hcgb_2⟩ := qz3 BKgb.out; obtain ⟨hfgm, hcgm_0⟩ := qz1 BKgm.out; obtain ⟨hfgf, hcgf_0⟩ := qz1 BKgf.out) | (go_at_call 70; refine (HGIV.out _ HB.out).mono ?_; rintro e w4 ⟨rfl, hb⟩; replace HB := qab.mk (qad HB.out hb); clear hb))
  go_ret3
  exact ⟨rfl, HB.out⟩
def pipe_Freezes.f (l0_0 : List (S39)) (l0_1 : List (S37)) (l0_2 : List (List Int)) (a1 : Int) : Option (Int × Int × Int) := if (validB l0_0 l0_1 l0_2 && inB a1 0 (wrap64 ((l0_0.length : Int) - 1))) = true then (pipe_net_freezes.f l0_0 l0_1 l0_2 0 a1).bind fun x => some (x.1, x.2, 0) else some (0, 0, 2)
theorem pipe_Freezes.calls (A0_0 : Option Addr) (c0_0 : Nat) (l0_0 : List (S39)) (A0_1 : Option Addr) (c0_1 : Nat) (l0_1 : List (S37)) (A0_2 : Option Addr) (c0_2 : Nat) (l0_2 : List (List Int)) (a1 : Int) (r1 : Int) (r2 : Int) (r3 : Int) (w : World) (hr0_0 : Kd.C k39 w A0_0 l0_0.length l0_0) (hc0_0 : l0_0.length ≤ c0_0) (hr0_1 : Kd.C k37 w A0_1 l0_1.length l0_1) (hc0_1 : l0_1.length ≤ c0_1) (hr0_2 : Kd.C (Kd.slice 3 (Kd.int .i64)) w A0_2 l0_2.length l0_2) (hc0_2 : l0_2.length ≤ c0_2) (h : pipe_Freezes.f l0_0 l0_1 l0_2 a1 = some (r1, r2, r3)) :
  Calls Try.prog 43 #[.agg #[.slice A0_0 l0_0.length c0_0, .slice A0_1 l0_1.length c0_1, .slice A0_2 l0_2.length c0_2], .int .i64 a1] w fun e w' => e = .returned (.tuple #[.int .i64 r1, .int .i64 r2, .int .i64 r3]) ∧ Below w.heap.size w w' := by
 unfold pipe_Freezes.f at h
 have hu26 := Try.underlying26
 have hu99 := Try.underlying99
 have HB := qab.mk (Below.refl w.heap.size w)
 have HR0 := qab.mk hr0_0
 have HR1 := qab.mk hr0_1
 have HR2 := qab.mk hr0_2
 clear hr0_0 hr0_1 hr0_2
 have HVAL : qab (∀ W, Below w.heap.size w W → Calls Try.prog 54 #[.agg #[.slice A0_0 l0_0.length c0_0, .slice A0_1 l0_1.length c0_1, .slice A0_2 l0_2.length c0_2]] W fun e w' => e = .returned (.bool (validB l0_0 l0_1 l0_2)) ∧ Below W.heap.size W w') := ⟨fun W hW =>
  pipe_valid.calls _ _ _ _ _ _ _ _ _ _ W (Kd.qak HR0.out hW) hc0_0 (Kd.qak HR1.out hW) hc0_1 (Kd.qak HR2.out hW) hc0_2 rfl⟩
 have HIN := qab.mk (in_calls a1 0 (wrap64 ((l0_0.length : Int) - 1)))
 have hw1 : IntKind.i64.wrap ((l0_0.length : Int) - 1) = wrap64 ((l0_0.length : Int) - 1) := by rw [i64_w]
 obtain ⟨b1, e1⟩ : ∃ b, b = validB l0_0 l0_1 l0_2 := ⟨_, rfl⟩
 obtain ⟨b2, e2⟩ : ∃ b, b = inB a1 0 (wrap64 ((l0_0.length : Int) - 1)) := ⟨_, rfl⟩
 rw [← e1] at HVAL h
 rw [← e2] at HIN h
 clear e1 e2
 cases b1 with
 | false =>
  rw [if_neg (by simp)] at h
  cases h
  go_enter Try.func43, Try.ntmps43
  go_wp2_with (first | (with_reducible refine qam (N := 2) rfl ?_); refine qal ?hg (N := 2) ?hd (cs := #[.slice A0_0 l0_0.length c0_0, .slice A0_1 l0_1.length c0_1, .slice A0_2 l0_2.length c0_2]) (t := 26) ?hr ?_; (case hd => rfl); (case hg => rfl); (case hr => first | (go_simp; done) | (go_simp; rfl)); intro gb hg_gb w2 hbox hb; have BKgb := qab.mk hbox; have n_HB := qab.mk (qad HB.out hb); have GEgb : w.heap.size ≤ gb := (by rw [hg_gb]; exact HB.out.size); clear HB; have HB := n_HB; clear n_HB; obtain ⟨hfgb, hcgb_0, hcgb_1, hcgb_2⟩ := qz3 BKgb.out; clear hbox hb hg_gb | (go_at_call 54; with_reducible refine (HVAL.out _ HB.out).mono ?_; rintro e w3 ⟨rfl, hb⟩; replace BKgb := qab.mk (qae BKgb.out hb); replace HB := qab.mk (qad HB.out hb); clear hb; obtain ⟨hfgb, hcgb_0, hcgb_1, hcgb_2⟩ := qz3 BKgb.out))
  go_ret3
  exact ⟨rfl, HB.out⟩
 | true =>
  cases b2 with
  | false =>
   rw [if_neg (by simp)] at h
   cases h
   go_enter Try.func43, Try.ntmps43
   go_wp2_with (first | (with_reducible refine qam (N := 2) rfl ?_); refine qal ?hg (N := 2) ?hd (cs := #[.slice A0_0 l0_0.length c0_0, .slice A0_1 l0_1.length c0_1, .slice A0_2 l0_2.length c0_2]) (t := 26) ?hr ?_; (case hd => rfl); (case hg => rfl); (case hr => first | (go_simp; done) | (go_simp; rfl)); intro gb hg_gb w2 hbox hb; have BKgb := qab.mk hbox; have n_HB := qab.mk (qad HB.out hb); have GEgb : w.heap.size ≤ gb := (by rw [hg_gb]; exact HB.out.size); clear HB; have HB := n_HB; clear n_HB; obtain ⟨hfgb, hcgb_0, hcgb_1, hcgb_2⟩ := qz3 BKgb.out; clear hbox hb hg_gb | (go_at_call 54; with_reducible refine (HVAL.out _ HB.out).mono ?_; rintro e w3 ⟨rfl, hb⟩; replace BKgb := qab.mk (qae BKgb.out hb); replace HB := qab.mk (qad HB.out hb); clear hb; obtain ⟨hfgb, hcgb_0, hcgb_1, hcgb_2⟩ := qz3 BKgb.out) | (go_at_call 55; with_reducible refine (HIN.out _).mono ?_; rintro e w4 ⟨rfl, hb⟩; replace BKgb := qab.mk (qae BKgb.out hb); replace HB := qab.mk (qad HB.out hb); clear hb; obtain ⟨hfgb, hcgb_0, hcgb_1, hcgb_2⟩ := qz3 BKgb.out))
   go_ret3
   exact ⟨rfl, HB.out⟩
  | true =>
   rw [if_pos (by decide)] at h
   obtain ⟨o, ho, h⟩ := Option.bind_eq_some_iff.1 h
   obtain ⟨o1, o2⟩ := o
   cases h
   have HFR : qab (∀ W, Below w.heap.size w W → _) := ⟨fun W hW => pipe_net_freezes.calls _ _ l0_0 _ _ l0_1 _ _ l0_2 0 a1 _ _ W (Kd.qak HR0.out hW) hc0_0 (Kd.qak HR1.out hW) hc0_1 (Kd.qak HR2.out hW) hc0_2 ho⟩
   go_enter Try.func43, Try.ntmps43
   go_wp2_with (first | (with_reducible refine qam (N := 2) rfl ?_); refine qal ?hg (N := 2) ?hd (cs := #[.slice A0_0 l0_0.length c0_0, .slice A0_1 l0_1.length c0_1, .slice A0_2 l0_2.length c0_2]) (t := 26) ?hr ?_; (case hd => rfl); (case hg => rfl); (case hr => first | (go_simp; done) | (go_simp; rfl)); intro gb hg_gb w2 hbox hb; have BKgb := qab.mk hbox; have n_HB := qab.mk (qad HB.out hb); have GEgb : w.heap.size ≤ gb := (by rw [hg_gb]; exact HB.out.size); clear HB; have HB := n_HB; clear n_HB; obtain ⟨hfgb, hcgb_0, hcgb_1, hcgb_2⟩ := qz3 BKgb.out; clear hbox hb hg_gb | (go_at_call 54; with_reducible refine (HVAL.out _ HB.out).mono ?_; rintro e w3 ⟨rfl, hb⟩; replace BKgb := qab.mk (qae BKgb.out hb); replace HB := qab.mk (qad HB.out hb); clear hb; obtain ⟨hfgb, hcgb_0, hcgb_1, hcgb_2⟩ := qz3 BKgb.out) | (go_at_call 55; with_reducible refine (HIN.out _).mono ?_; rintro e w4 ⟨rfl, hb⟩; replace BKgb := qab.mk (qae BKgb.out hb); replace HB := qab.mk (qad HB.out hb); clear hb; obtain ⟨hfgb, hcgb_0, hcgb_1, hcgb_2⟩ := qz3 BKgb.out) | (go_at_call 77; refine (HFR.out _ HB.out).mono ?_; rintro e w5 ⟨rfl, hb⟩; replace BKgb := qab.mk (qae BKgb.out hb); replace HB := qab.mk (qad HB.out hb); clear hb; obtain ⟨hfgb, hcgb_0, hcgb_1, hcgb_2⟩ := qz3 BKgb.out))
   go_ret3
   exact ⟨rfl, HB.out⟩
def taliklaw04_Net.l0 : Nat → Int → List (S39) → List (S37) → List (List Int) → Option ((List (S39)) × (List (S37)) × (List (List Int)))
 | 0, _, _, _, _ => none
 | k + 1, x2, x148000, x148001, x148002 => if x2 < 8 then (if x148001.length < 8796093022208 then (taliklaw04_Net.l0 k (wrap64 (x2 + 1)) x148000 (x148001 ++ [(⟨200, 300⟩ : S37)]) x148002) else (none)) else (some (x148000, x148001, x148002))
def taliklaw04_Net.f (k : Nat)  : Option ((List (S39)) × (List (S37)) × (List (List Int))) := taliklaw04_Net.l0 k 0 (([(⟨(⟨300, 400⟩ : S37), (⟨100, 150⟩ : S37), (⟨50, 80⟩ : S37), 30, 50, 200, 60, (⟨1, 2⟩ : S37)⟩ : S39), (⟨(⟨300, 300⟩ : S37), (⟨200, 200⟩ : S37), (⟨60, 60⟩ : S37), 40, 50, 200, 80, (⟨1, 1⟩ : S37)⟩ : S39)] : List (S39))) ([] : List (S37)) (([(([0, 1, 1] : List Int)), (([1, 0, 1] : List Int)), (([1, 1, 0] : List Int))] : List (List Int)))
theorem taliklaw04_Net.calls (k : Nat)  (r1 : List (S39)) (r2 : List (S37)) (r3 : List (List Int)) (w : World) (h : taliklaw04_Net.f k  = some (r1, r2, r3)) :
  Calls Try.prog 53 #[] w fun e w' => ∃ v0_ v1_ v2_ : Value, e = .returned (.agg #[v0_, v1_, v2_]) ∧ Kd.R k39 39 w' w.heap.size (fun k_ => (w.heap.size ≤ k_)) v0_ r1 ∧ Kd.R k37 37 w' w.heap.size (fun k_ => (w.heap.size ≤ k_)) v1_ r2 ∧ Kd.N (Kd.slice 3 (Kd.int .i64)) 47 w' w.heap.size (fun k_ => (w.heap.size ≤ k_) ∧ some k_ ≠ (v0_ : Value).ownBlock ∧ some k_ ≠ (v1_ : Value).ownBlock) v2_ r3 ∧ Below w.heap.size w w' := by
 have hu26 := Try.underlying26
 have hu37 := Try.underlying37
 have hu39 := Try.underlying39
 have HB := qab.mk (Below.refl w.heap.size w)
 have H : (taliklaw04_Net.l0 k 0 (([(⟨(⟨300, 400⟩ : S37), (⟨100, 150⟩ : S37), (⟨50, 80⟩ : S37), 30, 50, 200, 60, (⟨1, 2⟩ : S37)⟩ : S39), (⟨(⟨300, 300⟩ : S37), (⟨200, 200⟩ : S37), (⟨60, 60⟩ : S37), 40, 50, 200, 80, (⟨1, 1⟩ : S37)⟩ : S39)] : List (S39))) ([] : List (S37)) (([(([0, 1, 1] : List Int)), (([1, 0, 1] : List Int)), (([1, 1, 0] : List Int))] : List (List Int)))) = some (r1, r2, r3) := h
 clear h
 obtain ⟨y132, hy132⟩ : ∃ y_ : List (S39), y_ = (([(⟨(⟨300, 400⟩ : S37), (⟨100, 150⟩ : S37), (⟨50, 80⟩ : S37), 30, 50, 200, 60, (⟨1, 2⟩ : S37)⟩ : S39), (⟨(⟨300, 300⟩ : S37), (⟨200, 200⟩ : S37), (⟨60, 60⟩ : S37), 40, 50, 200, 80, (⟨1, 1⟩ : S37)⟩ : S39)] : List (S39))) := ⟨_, rfl⟩
 replace H : (taliklaw04_Net.l0 k 0 y132 ([] : List (S37)) (([(([0, 1, 1] : List Int)), (([1, 0, 1] : List Int)), (([1, 1, 0] : List Int))] : List (List Int)))) = some (r1, r2, r3) := by first | (rw [hy132]; with_reducible exact H) | (have H2_ := (Option.bind_some _ _).symm.trans H; rw [hy132]; with_reducible exact H2_) | (have H2_ := (Option.bind_some _ _).symm.trans H; with_reducible exact H2_) | with_reducible exact H | (rw [hy132]; exact H) | exact H
 have Ny132 := qab.mk hy132
 clear hy132
 obtain ⟨y135, hy135⟩ : ∃ y_ : List Int, y_ = (([0, 1, 1] : List Int)) := ⟨_, rfl⟩
 replace H : (taliklaw04_Net.l0 k 0 y132 ([] : List (S37)) (([y135, (([1, 0, 1] : List Int)), (([1, 1, 0] : List Int))] : List (List Int)))) = some (r1, r2, r3) := by first | (rw [hy135]; with_reducible exact H) | (have H2_ := (Option.bind_some _ _).symm.trans H; rw [hy135]; with_reducible exact H2_) | (have H2_ := (Option.bind_some _ _).symm.trans H; with_reducible exact H2_) | with_reducible exact H | (rw [hy135]; exact H) | exact H
 have Ny135 := qab.mk hy135
 clear hy135
 obtain ⟨y138, hy138⟩ : ∃ y_ : List Int, y_ = (([1, 0, 1] : List Int)) := ⟨_, rfl⟩
 replace H : (taliklaw04_Net.l0 k 0 y132 ([] : List (S37)) (([y135, y138, (([1, 1, 0] : List Int))] : List (List Int)))) = some (r1, r2, r3) := by first | (rw [hy138]; with_reducible exact H) | (have H2_ := (Option.bind_some _ _).symm.trans H; rw [hy138]; with_reducible exact H2_) | (have H2_ := (Option.bind_some _ _).symm.trans H; with_reducible exact H2_) | with_reducible exact H | (rw [hy138]; exact H) | exact H
 have Ny138 := qab.mk hy138
 clear hy138
 obtain ⟨y141, hy141⟩ : ∃ y_ : List Int, y_ = (([1, 1, 0] : List Int)) := ⟨_, rfl⟩
 replace H : (taliklaw04_Net.l0 k 0 y132 ([] : List (S37)) (([y135, y138, y141] : List (List Int)))) = some (r1, r2, r3) := by first | (rw [hy141]; with_reducible exact H) | (have H2_ := (Option.bind_some _ _).symm.trans H; rw [hy141]; with_reducible exact H2_) | (have H2_ := (Option.bind_some _ _).symm.trans H; with_reducible exact H2_) | with_reducible exact H | (rw [hy141]; exact H) | exact H
 have Ny141 := qab.mk hy141
 clear hy141
 obtain ⟨y144, hy144⟩ : ∃ y_ : List (List Int), y_ = (([y135, y138, y141] : List (List Int))) := ⟨_, rfl⟩
 replace H : (taliklaw04_Net.l0 k 0 y132 ([] : List (S37)) y144) = some (r1, r2, r3) := by first | (rw [hy144]; with_reducible exact H) | (have H2_ := (Option.bind_some _ _).symm.trans H; rw [hy144]; with_reducible exact H2_) | (have H2_ := (Option.bind_some _ _).symm.trans H; with_reducible exact H2_) | with_reducible exact H | (rw [hy144]; exact H) | exact H
 have Ny144 := qab.mk hy144
 clear hy144
 have H' := qab.mk H
 clear H
 go_enter Try.func53, Try.ntmps53
 go_wp2_with (first | ((with_reducible refine qam (N := 0) rfl ?_); refine qal ?hg (N := 0) ?hd (cs := #[.slice none 0 0, .slice none 0 0, .slice none 0 0]) (t := 26) ?hr ?_; (case hd => rfl); (case hg => rfl); (case hr => first | (go_simp; done) | (go_simp; rfl)); intro gb131 hg w1 hbox hb; have n0_ := qab.mk (qad (by repeat (first | (with_reducible first | exact HB.out | apply qag | apply qaf | apply qah) | exact HB.out)) hb); have n1_ := qab.mk (hbox); have n2_ := qab.mk ((by rw [hg]; exact (qar (by repeat (first | (with_reducible first | exact HB.out | apply qag | apply qaf | apply qah) | exact HB.out))) : w.heap.size ≤ gb131)); have n3_ := qab.mk ((by rw [hg]; exact (qar (by repeat (first | (with_reducible first | exact HB.out | apply qag | apply qaf | apply qah) | exact HB.out))) : w.heap.size ≤ gb131)); clear HB; have HB := n0_; have BK131 := n1_; have GW131 := n2_; have GE131 := n3_; clear n0_ n1_ n2_ n3_; clear hb hbox hg) | ((with_reducible refine qam (N := 13) rfl ?_); refine Kd.R_lit k39 _ 39 ?hg (N := 13) ?hd (xs := ([(⟨(⟨300, 400⟩ : S37), (⟨100, 150⟩ : S37), (⟨50, 80⟩ : S37), 30, 50, 200, 60, (⟨1, 2⟩ : S37)⟩ : S39), (⟨(⟨300, 300⟩ : S37), (⟨200, 200⟩ : S37), (⟨60, 60⟩ : S37), 40, 50, 200, 80, (⟨1, 1⟩ : S37)⟩ : S39)] : List (S39))) (inner := [.int .i64 300, .int .i64 400, .int .i64 100, .int .i64 150, .int .i64 50, .int .i64 80, .int .i64 30, .int .i64 50, .int .i64 200, .int .i64 60, .int .i64 1, .int .i64 2, .int .i64 300, .int .i64 300, .int .i64 200, .int .i64 200, .int .i64 60, .int .i64 60, .int .i64 40, .int .i64 50, .int .i64 200, .int .i64 80, .int .i64 1, .int .i64 1]) (ok := fun _ => True) (okp := fun _ => True) ?hr ?hp (fun _ hk => hk) trivial (Below.refl _ _) (Nat.le_refl _) (by simp) ?_; (case hd => rfl); (case hg => rfl); (case hr => first | (go_simp; done) | (go_simp; rfl)); (case hp => exact (Reps.front (show Kd.M k39 _ _ _ (⟨(⟨300, 400⟩ : S37), (⟨100, 150⟩ : S37), (⟨50, 80⟩ : S37), 30, 50, 200, 60, (⟨1, 2⟩ : S37)⟩ : S39) [.int .i64 300, .int .i64 400, .int .i64 100, .int .i64 150, .int .i64 50, .int .i64 80, .int .i64 30, .int .i64 50, .int .i64 200, .int .i64 60, .int .i64 1, .int .i64 2] from (k39_mkM _ _ _ (⟨(⟨300, 400⟩ : S37), (⟨100, 150⟩ : S37), (⟨50, 80⟩ : S37), 30, 50, 200, 60, (⟨1, 2⟩ : S37)⟩ : S39) )) rfl (Reps.front (show Kd.M k39 _ _ _ (⟨(⟨300, 300⟩ : S37), (⟨200, 200⟩ : S37), (⟨60, 60⟩ : S37), 40, 50, 200, 80, (⟨1, 1⟩ : S37)⟩ : S39) [.int .i64 300, .int .i64 300, .int .i64 200, .int .i64 200, .int .i64 60, .int .i64 60, .int .i64 40, .int .i64 50, .int .i64 200, .int .i64 80, .int .i64 1, .int .i64 1] from (k39_mkM _ _ _ (⟨(⟨300, 300⟩ : S37), (⟨200, 200⟩ : S37), (⟨60, 60⟩ : S37), 40, 50, 200, 80, (⟨1, 1⟩ : S37)⟩ : S39) )) rfl (Reps.none _ _) rfl) rfl)); intro v133 w2 ho3 hb hg_ hnew_; clear hg_ hnew_; (first | rw [← Ny132.out] at ho3 | (simp only [Int.reduceToNat] at ho3; rw [← Ny132.out] at ho3)); have n0_ := qab.mk (Kd.R_lower (Kd.R_newM (M := fun k_ => (w.heap.size ≤ k_)) ho3 (qar (by repeat (first | (with_reducible first | exact HB.out | apply qag | apply qaf | apply qah | refine qai ?_ GE131.out) | exact HB.out))) (fun k_ h_ => h_)) (qar (by repeat (first | (with_reducible first | exact HB.out | apply qag | apply qaf | apply qah | refine qai ?_ GE131.out) | exact HB.out)))); have n1_ := qab.mk (qae (g := gb131) (o := .cells #[.slice none 0 0, .slice none 0 0, .slice none 0 0] 26 (0, 0)) (by (with_reducible repeat (first | refine blk_drewN ?_ _ | refine blk_drew ?_ | refine qan ?_ _)); exact BK131.out) hb); have n2_ := qab.mk (qad (by repeat (first | (with_reducible first | exact HB.out | apply qag | apply qaf | apply qah | refine qai ?_ GE131.out) | exact HB.out)) hb); clear BK131; clear HB; have HO134 := n0_; have BK131 := n1_; have HB := n2_; clear n0_ n1_ n2_; clear hb ho3) | ((with_reducible refine qam (N := 14) rfl ?_); refine Kd.R_lit (Kd.int .i64) _ 3 ?hg (N := 14) ?hd (xs := ([0, 1, 1] : List Int)) (inner := [.int .i64 0, .int .i64 1, .int .i64 1]) (ok := fun _ => True) (okp := fun _ => True) ?hr ?hp (fun _ hk => hk) trivial (Below.refl _ _) (Nat.le_refl _) (by simp) ?_; (case hd => rfl); (case hg => rfl); (case hr => first | (go_simp; done) | (go_simp; rfl)); (case hp => exact (Reps.one (show Kd.M (Kd.int .i64) _ _ _ 0 [.int .i64 0] from rfl) (Reps.one (show Kd.M (Kd.int .i64) _ _ _ 1 [.int .i64 1] from rfl) (Reps.one (show Kd.M (Kd.int .i64) _ _ _ 1 [.int .i64 1] from rfl) (Reps.none _ _))))); intro v136 w4 ho5 hb hg_ hnew_; clear hg_ hnew_; (first | rw [← Ny135.out] at ho5 | (simp only [Int.reduceToNat] at ho5; rw [← Ny135.out] at ho5)); have n0_ := qab.mk (Kd.R_below (by (with_reducible repeat (first | apply Kd.R_alloc | apply Kd.R_drewN | apply Kd.R_drew)); exact HO134.out) hb); have n1_ := qab.mk (Kd.R_lower (Kd.R_newM (M := fun k_ => (w.heap.size ≤ k_)) ho5 (qar (by repeat (first | (with_reducible first | exact HB.out | apply qag | apply qaf | apply qah | refine qai ?_ GE131.out) | exact HB.out))) (fun k_ h_ => h_)) (qar (by repeat (first | (with_reducible first | exact HB.out | apply qag | apply qaf | apply qah | refine qai ?_ GE131.out) | exact HB.out)))); have n2_ := qab.mk (qae (g := gb131) (o := .cells #[.slice none 0 0, .slice none 0 0, .slice none 0 0] 26 (0, 0)) (by (with_reducible repeat (first | refine blk_drewN ?_ _ | refine blk_drew ?_ | refine qan ?_ _)); exact BK131.out) hb); have n3_ := qab.mk (qad (by repeat (first | (with_reducible first | exact HB.out | apply qag | apply qaf | apply qah | refine qai ?_ GE131.out) | exact HB.out)) hb); clear HO134; clear BK131; clear HB; have HO134 := n0_; have HO137 := n1_; have BK131 := n2_; have HB := n3_; clear n0_ n1_ n2_ n3_; clear hb ho5) | ((with_reducible refine qam (N := 15) rfl ?_); refine Kd.R_lit (Kd.int .i64) _ 3 ?hg (N := 15) ?hd (xs := ([1, 0, 1] : List Int)) (inner := [.int .i64 1, .int .i64 0, .int .i64 1]) (ok := fun _ => True) (okp := fun _ => True) ?hr ?hp (fun _ hk => hk) trivial (Below.refl _ _) (Nat.le_refl _) (by simp) ?_; (case hd => rfl); (case hg => rfl); (case hr => first | (go_simp; done) | (go_simp; rfl)); (case hp => exact (Reps.one (show Kd.M (Kd.int .i64) _ _ _ 1 [.int .i64 1] from rfl) (Reps.one (show Kd.M (Kd.int .i64) _ _ _ 0 [.int .i64 0] from rfl) (Reps.one (show Kd.M (Kd.int .i64) _ _ _ 1 [.int .i64 1] from rfl) (Reps.none _ _))))); intro v139 w6 ho7 hb hg_ hnew_; clear hg_ hnew_; (first | rw [← Ny138.out] at ho7 | (simp only [Int.reduceToNat] at ho7; rw [← Ny138.out] at ho7)); have n0_ := qab.mk (Kd.R_below (by (with_reducible repeat (first | apply Kd.R_alloc | apply Kd.R_drewN | apply Kd.R_drew)); exact HO134.out) hb); have n1_ := qab.mk (Kd.R_elder' (by (with_reducible repeat (first | apply Kd.R_alloc | apply Kd.R_drewN | apply Kd.R_drew)); exact HO137.out) (Kd.R_base ho7) hb); have n2_ := qab.mk (Kd.R_lower (Kd.R_new' (Kd.R_newM (M := fun k_ => (w.heap.size ≤ k_)) ho7 (qar (by repeat (first | (with_reducible first | exact HB.out | apply qag | apply qaf | apply qah | refine qai ?_ GE131.out) | exact HB.out))) (fun k_ h_ => h_)) (Kd.R_lt (by (with_reducible repeat (first | apply Kd.R_alloc | apply Kd.R_drewN | apply Kd.R_drew)); exact HO137.out))) (qar (by repeat (first | (with_reducible first | exact HB.out | apply qag | apply qaf | apply qah | refine qai ?_ GE131.out) | exact HB.out)))); have n3_ := qab.mk (qae (g := gb131) (o := .cells #[.slice none 0 0, .slice none 0 0, .slice none 0 0] 26 (0, 0)) (by (with_reducible repeat (first | refine blk_drewN ?_ _ | refine blk_drew ?_ | refine qan ?_ _)); exact BK131.out) hb); have n4_ := qab.mk (qad (by repeat (first | (with_reducible first | exact HB.out | apply qag | apply qaf | apply qah | refine qai ?_ GE131.out) | exact HB.out)) hb); clear HO134; clear HO137; clear BK131; clear HB; have HO134 := n0_; have HO137 := n1_; have HO140 := n2_; have BK131 := n3_; have HB := n4_; clear n0_ n1_ n2_ n3_ n4_; clear hb ho7) | ((with_reducible refine qam (N := 16) rfl ?_); refine Kd.R_lit (Kd.int .i64) _ 3 ?hg (N := 16) ?hd (xs := ([1, 1, 0] : List Int)) (inner := [.int .i64 1, .int .i64 1, .int .i64 0]) (ok := fun _ => True) (okp := fun _ => True) ?hr ?hp (fun _ hk => hk) trivial (Below.refl _ _) (Nat.le_refl _) (by simp) ?_; (case hd => rfl); (case hg => rfl); (case hr => first | (go_simp; done) | (go_simp; rfl)); (case hp => exact (Reps.one (show Kd.M (Kd.int .i64) _ _ _ 1 [.int .i64 1] from rfl) (Reps.one (show Kd.M (Kd.int .i64) _ _ _ 1 [.int .i64 1] from rfl) (Reps.one (show Kd.M (Kd.int .i64) _ _ _ 0 [.int .i64 0] from rfl) (Reps.none _ _))))); intro v142 w8 ho9 hb hg_ hnew_; clear hg_ hnew_; (first | rw [← Ny141.out] at ho9 | (simp only [Int.reduceToNat] at ho9; rw [← Ny141.out] at ho9)); have n0_ := qab.mk (Kd.R_below (by (with_reducible repeat (first | apply Kd.R_alloc | apply Kd.R_drewN | apply Kd.R_drew)); exact HO134.out) hb); have n1_ := qab.mk (Kd.R_elder' (by (with_reducible repeat (first | apply Kd.R_alloc | apply Kd.R_drewN | apply Kd.R_drew)); exact HO137.out) (Kd.R_base ho9) hb); have n2_ := qab.mk (Kd.R_elder' (by (with_reducible repeat (first | apply Kd.R_alloc | apply Kd.R_drewN | apply Kd.R_drew)); exact HO140.out) (Kd.R_base ho9) hb); have n3_ := qab.mk (Kd.R_lower (Kd.R_new' (Kd.R_new' (Kd.R_newM (M := fun k_ => (w.heap.size ≤ k_)) ho9 (qar (by repeat (first | (with_reducible first | exact HB.out | apply qag | apply qaf | apply qah | refine qai ?_ GE131.out) | exact HB.out))) (fun k_ h_ => h_)) (Kd.R_lt (by (with_reducible repeat (first | apply Kd.R_alloc | apply Kd.R_drewN | apply Kd.R_drew)); exact HO137.out))) (Kd.R_lt (by (with_reducible repeat (first | apply Kd.R_alloc | apply Kd.R_drewN | apply Kd.R_drew)); exact HO140.out))) (qar (by repeat (first | (with_reducible first | exact HB.out | apply qag | apply qaf | apply qah | refine qai ?_ GE131.out) | exact HB.out)))); have n4_ := qab.mk (qae (g := gb131) (o := .cells #[.slice none 0 0, .slice none 0 0, .slice none 0 0] 26 (0, 0)) (by (with_reducible repeat (first | refine blk_drewN ?_ _ | refine blk_drew ?_ | refine qan ?_ _)); exact BK131.out) hb); have n5_ := qab.mk (qad (by repeat (first | (with_reducible first | exact HB.out | apply qag | apply qaf | apply qah | refine qai ?_ GE131.out) | exact HB.out)) hb); clear HO134; clear HO137; clear HO140; clear BK131; clear HB; have HO134 := n0_; have HO137 := n1_; have HO140 := n2_; have HO143 := n3_; have BK131 := n4_; have HB := n5_; clear n0_ n1_ n2_ n3_ n4_ n5_; clear hb ho9; obtain ⟨Ao10, co10, eo10⟩ := Kd.R_slice HO137.out; subst eo10; obtain ⟨Ao11, co11, eo11⟩ := Kd.R_slice HO140.out; subst eo11; obtain ⟨Ao12, co12, eo12⟩ := Kd.R_slice HO143.out; subst eo12) | ((with_reducible refine qam (N := 17) rfl ?_); refine Kd.N_lit (Kd.slice 3 (Kd.int .i64)) _ 47 ?hg (N' := 17) ?hd (xs := ([y135, y138, y141] : List (List Int))) (inner := [.slice Ao10 y135.length co10, .slice Ao11 y138.length co11, .slice Ao12 y141.length co12]) (ok := (fun k_ => (w.heap.size ≤ k_) ∧ some k_ ≠ (v133 : Value).ownBlock ∧ k_ ≠ gb131)) (okp := (fun k_ => (w.heap.size ≤ k_) ∧ some k_ ≠ (v133 : Value).ownBlock ∧ k_ ≠ gb131)) ?hr ?hp (fun _ hk => hk) ((show ∀ k_, w8.heap.size ≤ k_ → (fun k_ => (w.heap.size ≤ k_) ∧ some k_ ≠ (v133 : Value).ownBlock ∧ k_ ≠ gb131) k_ from fun k_ hk => ⟨(Nat.le_trans (qar (by repeat (first | (with_reducible first | exact HB.out | apply qag | apply qaf | apply qah | refine qai ?_ GE131.out) | exact HB.out))) hk), Kd.fresh' (Kd.R_lt (by (with_reducible repeat (first | apply Kd.R_alloc | apply Kd.R_drewN | apply Kd.R_drew)); exact HO134.out)) k_ hk, Kd.freshB (g := gb131) (o := .cells #[.slice none 0 0, .slice none 0 0, .slice none 0 0] 26 (0, 0)) (by (with_reducible repeat (first | refine blk_drewN ?_ _ | refine blk_drew ?_ | refine qan ?_ _)); exact BK131.out) k_ hk⟩) _ (Nat.le_refl _)) (Below.refl _ _) (Nat.le_refl _) (by simp) ?_; (case hd => rfl); (case hg => rfl); (case hr => first | (go_simp; done) | (go_simp; rfl)); (case hp => exact (Reps.one (show Kd.FK (Kd.slice 3 (Kd.int .i64)) _ _ y135 [.slice Ao10 y135.length co10] from (Kd.FK_slice_mk (Kd.R_reads' (Kd.R_mono (ok' := (fun k_ => (w.heap.size ≤ k_) ∧ some k_ ≠ (v133 : Value).ownBlock ∧ k_ ≠ gb131)) (Kd.R_types (Kd.R_apart' (HO137.out) (Kd.R_typed HO134.out) (by decide)) BK131.out (by decide)) (fun k_ hk => ⟨hk.1.1.1.1.1, ⟨hk.1.2, hk.2⟩⟩))).2.1 (Kd.R_F (Kd.R_mono (ok' := (fun k_ => (w.heap.size ≤ k_) ∧ some k_ ≠ (v133 : Value).ownBlock ∧ k_ ≠ gb131)) (Kd.R_types (Kd.R_apart' (HO137.out) (Kd.R_typed HO134.out) (by decide)) BK131.out (by decide)) (fun k_ hk => ⟨hk.1.1.1.1.1, ⟨hk.1.2, hk.2⟩⟩))))) (Reps.one (show Kd.FK (Kd.slice 3 (Kd.int .i64)) _ _ y138 [.slice Ao11 y138.length co11] from (Kd.FK_slice_mk (Kd.R_reads' (Kd.R_mono (ok' := (fun k_ => (w.heap.size ≤ k_) ∧ some k_ ≠ (v133 : Value).ownBlock ∧ k_ ≠ gb131)) (Kd.R_types (Kd.R_apart' (HO140.out) (Kd.R_typed HO134.out) (by decide)) BK131.out (by decide)) (fun k_ hk => ⟨hk.1.1.1.1.1, ⟨hk.1.2, hk.2⟩⟩))).2.1 (Kd.R_F (Kd.R_mono (ok' := (fun k_ => (w.heap.size ≤ k_) ∧ some k_ ≠ (v133 : Value).ownBlock ∧ k_ ≠ gb131)) (Kd.R_types (Kd.R_apart' (HO140.out) (Kd.R_typed HO134.out) (by decide)) BK131.out (by decide)) (fun k_ hk => ⟨hk.1.1.1.1.1, ⟨hk.1.2, hk.2⟩⟩))))) (Reps.one (show Kd.FK (Kd.slice 3 (Kd.int .i64)) _ _ y141 [.slice Ao12 y141.length co12] from (Kd.FK_slice_mk (Kd.R_reads' (Kd.R_mono (ok' := (fun k_ => (w.heap.size ≤ k_) ∧ some k_ ≠ (v133 : Value).ownBlock ∧ k_ ≠ gb131)) (Kd.R_types (Kd.R_apart' (HO143.out) (Kd.R_typed HO134.out) (by decide)) BK131.out (by decide)) (fun k_ hk => ⟨hk.1.1.1.1.1, ⟨hk.1.2, hk.2⟩⟩))).2.1 (Kd.R_F (Kd.R_mono (ok' := (fun k_ => (w.heap.size ≤ k_) ∧ some k_ ≠ (v133 : Value).ownBlock ∧ k_ ≠ gb131)) (Kd.R_types (Kd.R_apart' (HO143.out) (Kd.R_typed HO134.out) (by decide)) BK131.out (by decide)) (fun k_ hk => ⟨hk.1.1.1.1.1, ⟨hk.1.2, hk.2⟩⟩))))) (Reps.none _ _))))); intro v145 w13 ho14 hb hg_ hnew_; clear hg_ hnew_; (first | rw [← Ny144.out] at ho14 | (simp only [Int.reduceToNat] at ho14; rw [← Ny144.out] at ho14)); have n0_ := qab.mk (Kd.R_below (by (with_reducible repeat (first | apply Kd.R_alloc | apply Kd.R_drewN | apply Kd.R_drew)); exact HO134.out) hb); have n1_ := qab.mk (Kd.N_lower ho14 (qar (by repeat (first | (with_reducible first | exact HB.out | apply qag | apply qaf | apply qah | refine qai ?_ GE131.out) | exact HB.out)))); have n2_ := qab.mk (qae (g := gb131) (o := .cells #[.slice none 0 0, .slice none 0 0, .slice none 0 0] 26 (0, 0)) (by (with_reducible repeat (first | refine blk_drewN ?_ _ | refine blk_drew ?_ | refine qan ?_ _)); exact BK131.out) hb); have n3_ := qab.mk (qad (by repeat (first | (with_reducible first | exact HB.out | apply qag | apply qaf | apply qah | refine qai ?_ GE131.out) | exact HB.out)) hb); clear HO134; clear BK131; clear HB; clear HO137; clear HO140; clear HO143; have HO134 := n0_; have HO146 := n1_; have BK131 := n2_; have HB := n3_; clear n0_ n1_ n2_ n3_; clear hb ho14; obtain ⟨Ao15, co15, eo15⟩ := Kd.N_slice HO146.out; subst eo15; obtain ⟨Ao16, co16, eo16⟩ := Kd.R_slice HO134.out; subst eo16) | ((with_reducible refine qam (N := 1) rfl ?_); refine qal ?hg (N := 1) ?hd (cs := #[.slice none 0 0, .slice none 0 0, .slice none 0 0]) (t := 26) ?hr ?_; (case hd => rfl); (case hg => rfl); (case hr => first | (go_simp; done) | (go_simp; rfl)); intro gb147 hg w17 hbox hb; have n0_ := qab.mk (Kd.R_below (by (with_reducible repeat (first | apply Kd.R_alloc | apply Kd.R_drewN | apply Kd.R_drew)); exact HO134.out) hb); have n1_ := qab.mk (Kd.N_below (Kd.N_elderB (by (with_reducible repeat (first | apply Kd.N_alloc | apply Kd.N_drewN | apply Kd.N_drew)); exact HO146.out) gb147 (Nat.le_of_eq hg.symm)) hb); have n2_ := qab.mk (qae (g := gb131) (o := .cells #[.slice none 0 0, .slice none 0 0, .slice none 0 0] 26 (0, 0)) (by (with_reducible repeat (first | refine blk_drewN ?_ _ | refine blk_drew ?_ | refine qan ?_ _)); exact BK131.out) hb); have n3_ := qab.mk (qad (by repeat (first | (with_reducible first | exact HB.out | apply qag | apply qaf | apply qah | refine qai ?_ GE131.out) | exact HB.out)) hb); have n4_ := qab.mk (hbox); have n5_ := qab.mk ((by rw [hg]; exact (qar (by repeat (first | (with_reducible first | exact HB.out | apply qag | apply qaf | apply qah | refine qai ?_ GE131.out) | exact HB.out))) : w.heap.size ≤ gb147)); have n6_ := qab.mk ((by rw [hg]; exact (qar (by repeat (first | (with_reducible first | exact HB.out | apply qag | apply qaf | apply qah | refine qai ?_ GE131.out) | exact HB.out))) : w.heap.size ≤ gb147)); have n7_ := qab.mk ((by rw [hg]; exact Nat.ne_of_lt (blk_lt (g := gb131) (o := .cells #[.slice none 0 0, .slice none 0 0, .slice none 0 0] 26 (0, 0)) (by (with_reducible repeat (first | refine blk_drewN ?_ _ | refine blk_drew ?_ | refine qan ?_ _)); exact BK131.out)) : gb131 ≠ gb147)); have n8_ := qab.mk ((by rw [hg]; exact Nat.ne_of_gt (blk_lt (g := gb131) (o := .cells #[.slice none 0 0, .slice none 0 0, .slice none 0 0] 26 (0, 0)) (by (with_reducible repeat (first | refine blk_drewN ?_ _ | refine blk_drew ?_ | refine qan ?_ _)); exact BK131.out)) : gb147 ≠ gb131)); clear HO134; clear HO146; clear BK131; clear HB; have HO134 := n0_; have HO146 := n1_; have BK131 := n2_; have HB := n3_; have BK147 := n4_; have GW147 := n5_; have GE147 := n6_; have NB131_147 := n7_; have NB147_131 := n8_; clear n0_ n1_ n2_ n3_ n4_ n5_ n6_ n7_ n8_; clear hb hbox hg; have hnb18 := NB147_131.out; have hnc18 := NB131_147.out; have hcz19_0 : w17.cell? ⟨gb147, 0, none⟩ = some (.slice none 0 0) := (qaa BK147.out 0).trans rfl; have hcz19_1 : w17.cell? ⟨gb147, 1, none⟩ = some (.slice none 0 0) := (qaa BK147.out 1).trans rfl; have hcz19_2 : w17.cell? ⟨gb147, 2, none⟩ = some (.slice none 0 0) := (qaa BK147.out 2).trans rfl; have hfz19_0 := qac BK147.out 0; have hfz19_1 := qac BK147.out 1; have hfz19_2 := qac BK147.out 2))
 go_loopg [2] k (fun kq v2 w' => ∃ (x2_1 : Int) (x148001_1 : List (S37)) (u148001 : Value), v2 = .int .i64 x2_1 ∧ qab (taliklaw04_Net.l0 kq x2_1 y132 x148001_1 y144 = some (r1, r2, r3)) ∧ qab (kq ≤ k) ∧ qab (Kd.R k39 39 w' w.heap.size (fun k_ => (w.heap.size ≤ k_)) (.slice Ao16 y132.length co16) y132) ∧ qab (Kd.R k37 37 w' w.heap.size (fun k_ => (w.heap.size ≤ k_)) u148001 x148001_1) ∧ qab (Kd.N (Kd.slice 3 (Kd.int .i64)) 47 w' w.heap.size (fun k_ => (w.heap.size ≤ k_) ∧ some k_ ≠ ((.slice Ao16 y132.length co16) : Value).ownBlock ∧ some k_ ≠ (u148001 : Value).ownBlock ∧ k_ ≠ gb131 ∧ k_ ≠ gb147) (.slice Ao15 y144.length co15) y144) ∧ qab (w'.heap[gb131]? = some (.cells #[(.slice none 0 0), (.slice none 0 0), (.slice none 0 0)] 26 (0, 0))) ∧ qab (w'.heap[gb147]? = some (.cells #[(.slice Ao16 y132.length co16), u148001, (.slice Ao15 y144.length co15)] 26 (0, 0))) ∧ qab (Below w.heap.size w w'))
 case atStart => exact ⟨(0), (([] : List (S37))), (.slice none 0 0), (by first | rfl | (simp; done) | (simp [*]; done)), H', ⟨Nat.le_refl _⟩, ⟨by (with_reducible repeat (first | apply Kd.R_alloc | apply Kd.R_drewN | apply Kd.R_drew)); exact Kd.R_mono (Kd.R_far (p := ⟨gb147, 2, none⟩) (Kd.R_far (p := ⟨gb147, 1, none⟩) (Kd.R_far (p := ⟨gb147, 0, none⟩) (Kd.R_types HO134.out BK147.out (by decide)) (fun _ hk => hk.2) (.slice Ao16 y132.length co16)) (fun _ hk => hk.2) (.slice none 0 0)) (fun _ hk => hk.2) (.slice Ao15 y144.length co15)) (fun _ hk => hk.1.1)⟩, ⟨by first | exact Kd.R_nil _ _ _ _ _ | exact Kd.N_nil _ _ _ _ _ | exact Kd.V_nil _ _ _ _ _ | exact Kd.Q_nil _ _ _ _ _ | exact Kd.S_nil _ _ _ _ _⟩, ⟨by (with_reducible repeat (first | apply Kd.N_alloc | apply Kd.N_drewN | apply Kd.N_drew)); exact Kd.N_mono (Kd.N_far (p := ⟨gb147, 2, none⟩) (Kd.N_far (p := ⟨gb147, 1, none⟩) (Kd.N_far (p := ⟨gb147, 0, none⟩) (Kd.N_mono HO146.out (fun k_ hk => (⟨hk, hk.2⟩ : _ ∧ k_ ≠ gb147))) (fun _ hk => hk.2) (.slice Ao16 y132.length co16)) (fun _ hk => hk.2) (.slice none 0 0)) (fun _ hk => hk.2) (.slice Ao15 y144.length co15)) (fun _ hk => ⟨hk.1.1.1, ⟨hk.1.1.2.1, ⟨(by simp [Value.ownBlock]), ⟨hk.1.1.2.2, hk.1.2⟩⟩⟩⟩)⟩, ⟨by (with_reducible repeat (first | refine blk_drewN ?_ _ | refine blk_drew ?_ | refine qan ?_ _)); refine blk_far ?_ NB131_147.out _; (with_reducible repeat (first | refine blk_drewN ?_ _ | refine blk_drew ?_ | refine qan ?_ _)); refine blk_far ?_ NB131_147.out _; (with_reducible repeat (first | refine blk_drewN ?_ _ | refine blk_drew ?_ | refine qan ?_ _)); refine blk_far ?_ NB131_147.out _; (with_reducible repeat (first | refine blk_drewN ?_ _ | refine blk_drew ?_ | refine qan ?_ _)); exact BK131.out⟩, ⟨by (with_reducible repeat (first | refine blk_drewN ?_ _ | refine blk_drew ?_ | refine qan ?_ _)); refine blk_put (cs := #[.slice Ao16 y132.length co16, .slice none 0 0, .slice none 0 0]) ?_ 2 _ rfl; (with_reducible repeat (first | refine blk_drewN ?_ _ | refine blk_drew ?_ | refine qan ?_ _)); refine blk_put (cs := #[.slice Ao16 y132.length co16, .slice none 0 0, .slice none 0 0]) ?_ 1 _ rfl; (with_reducible repeat (first | refine blk_drewN ?_ _ | refine blk_drew ?_ | refine qan ?_ _)); refine blk_put (cs := #[.slice none 0 0, .slice none 0 0, .slice none 0 0]) ?_ 0 _ rfl; (with_reducible repeat (first | refine blk_drewN ?_ _ | refine blk_drew ?_ | refine qan ?_ _)); exact BK147.out⟩, ⟨by repeat (first | (with_reducible first | exact HB.out | apply qag | apply qaf | apply qah | refine qai ?_ GE131.out | refine qai ?_ GE147.out) | exact HB.out)⟩⟩
 case round =>
  clear H'
  try clear c1
  try clear p2
  try clear c5
  try clear c18
  try clear hcz19_0
  try clear hcz19_1
  try clear hcz19_2
  try clear hfz19_0
  try clear hfz19_1
  try clear hfz19_2
  obtain ⟨x2_1, x148001_1, u148001, rfl, HA, HK1, HO_148000, HO_148001, HO_148002, BK131, BK147, HB⟩ := hrel
  cases gk with
  | zero => exact absurd HA.out (by simp [taliklaw04_Net.l0])
  | succ k1 =>
   have H := HA.out
   clear HA
   simp only [taliklaw04_Net.l0] at H
   by_cases c20 : x2_1 < 8
   ·
    rw [if_pos c20] at H
    have c20b0 : decide (x2_1 < 8) = true := decide_eq_true c20
    clear c20
    by_cases c21 : x148001_1.length < 8796093022208
    ·
     rw [if_pos c21] at H
     have LMc21 := qab.mk c21
     clear c21
     obtain ⟨y148, hy148⟩ : ∃ y_ : List (S37), y_ = (x148001_1 ++ [(⟨200, 300⟩ : S37)]) := ⟨_, rfl⟩
     replace H : (taliklaw04_Net.l0 k1 (wrap64 (x2_1 + 1)) y132 y148 y144) = some (r1, r2, r3) := by first | (rw [hy148]; with_reducible exact H) | (have H2_ := (Option.bind_some _ _).symm.trans H; rw [hy148]; with_reducible exact H2_) | (have H2_ := (Option.bind_some _ _).symm.trans H; with_reducible exact H2_) | with_reducible exact H | (rw [hy148]; exact H) | exact H
     have Ny148 := qab.mk hy148
     clear hy148
     have H' := qab.mk H
     clear H
     have hnb22 := NB147_131.out
     have hnc22 := NB131_147.out
     have hcz23_0 : wr.cell? ⟨gb147, 0, none⟩ = some (.slice Ao16 y132.length co16) := (qaa BK147.out 0).trans rfl
     have hcz23_1 : wr.cell? ⟨gb147, 1, none⟩ = some (u148001) := (qaa BK147.out 1).trans rfl
     have hcz23_2 : wr.cell? ⟨gb147, 2, none⟩ = some (.slice Ao15 y144.length co15) := (qaa BK147.out 2).trans rfl
     have hfz23_0 := qac BK147.out 0
     have hfz23_1 := qac BK147.out 1
     have hfz23_2 := qac BK147.out 2
     go_wp2_with (first | ((with_reducible refine gate_builtin (b := .append) (xs := #[.tmp 24, .tmp 26]) rfl ?_); at_builtin; refine Kd.R_append k37 (w0 := w) w.heap.size rfl (.tmp 24) (.tmp 26) 23 37 (.agg #[(.int .i64 0), (.int .i64 0)]) 16 rfl Try.underlying23 info37 rfl (by decide) (by omega) u148001 x148001_1 (⟨200, 300⟩ : S37) [.int .i64 200, .int .i64 300] (fun k_ => (w.heap.size ≤ k_)) (fun _ => False) rfl rfl ?aP (fun _ hk => hk.elim) ?aF ?aO ?aB ?aS ?aL ?_; (case aP => exact k37_mkM _ _ _ (⟨200, 300⟩ : S37)); (case aB => exact (by repeat (first | (with_reducible first | exact HB.out | apply qag | apply qaf | apply qah | refine qai ?_ GE131.out | refine qai ?_ GE147.out) | exact HB.out))); (case aF => exact (fun k_ hk => (Nat.le_trans (qar (by repeat (first | (with_reducible first | exact HB.out | apply qag | apply qaf | apply qah | refine qai ?_ GE131.out | refine qai ?_ GE147.out) | exact HB.out))) hk))); (case aO => exact (by (with_reducible repeat (first | apply Kd.R_alloc | apply Kd.R_drewN | apply Kd.R_drew)); exact HO_148001.out)); (case aS => exact (qar (by repeat (first | (with_reducible first | exact HB.out | apply qag | apply qaf | apply qah | refine qai ?_ GE131.out | refine qai ?_ GE147.out) | exact HB.out)))); (case aL => have := LMc21.out; omega); intro v149 w24 ho hb hg hat; rw [← Ny148.out] at ho; have n0_ := qab.mk (Kd.R_over' (by (with_reducible repeat (first | apply Kd.R_alloc | apply Kd.R_drewN | apply Kd.R_drew)); exact HO_148000.out) (Kd.R_typed (by (with_reducible repeat (first | apply Kd.R_alloc | apply Kd.R_drewN | apply Kd.R_drew)); exact HO_148001.out)) (by decide) hg); have n1_ := qab.mk (Kd.N_afterv (ok := (fun k_ => (w.heap.size ≤ k_) ∧ some k_ ≠ (.slice Ao16 y132.length co16 : Value).ownBlock ∧ k_ ≠ gb131 ∧ k_ ≠ gb147)) (by (with_reducible repeat (first | apply Kd.N_alloc | apply Kd.N_drewN | apply Kd.N_drew)); exact Kd.N_mono HO_148002.out (fun _ hk => ⟨⟨hk.1, ⟨hk.2.1, ⟨hk.2.2.2.1, hk.2.2.2.2⟩⟩⟩, hk.2.2.1⟩)) hg hat); have n2_ := qab.mk (blk_grown (g := gb131) (o := .cells #[.slice none 0 0, .slice none 0 0, .slice none 0 0] 26 (0, 0)) (by (with_reducible repeat (first | refine blk_drewN ?_ _ | refine blk_drew ?_ | refine qan ?_ _)); exact BK131.out) hg (Kd.R_ne HO_148001.out BK131.out (by decide))); have n3_ := qab.mk (blk_grown (g := gb147) (o := .cells #[.slice Ao16 y132.length co16, u148001, .slice Ao15 y144.length co15] 26 (0, 0)) (by (with_reducible repeat (first | refine blk_drewN ?_ _ | refine blk_drew ?_ | refine qan ?_ _)); exact BK147.out) hg (Kd.R_ne HO_148001.out BK147.out (by decide))); have n4_ := qab.mk (hb); have n5_ := qab.mk (ho); clear HO_148000; clear HO_148002; clear BK131; clear BK147; clear HB; clear HO_148001; have HO_148000 := n0_; have HO_148002 := n1_; have BK131 := n2_; have BK147 := n3_; have HB := n4_; have HO150 := n5_; clear n0_ n1_ n2_ n3_ n4_ n5_; clear ho hb hg hat; obtain ⟨Ao25, co25, eo25⟩ := Kd.R_slice HO150.out; subst eo25; have hcz26_0 : w24.cell? ⟨gb147, 0, none⟩ = some (.slice Ao16 y132.length co16) := (qaa BK147.out 0).trans rfl; have hcz26_1 : w24.cell? ⟨gb147, 1, none⟩ = some (u148001) := (qaa BK147.out 1).trans rfl; have hcz26_2 : w24.cell? ⟨gb147, 2, none⟩ = some (.slice Ao15 y144.length co15) := (qaa BK147.out 2).trans rfl; have hfz26_0 := qac BK147.out 0; have hfz26_1 := qac BK147.out 1; have hfz26_2 := qac BK147.out 2))
     go_roundg k1
     case measure => have := HK1.out; omega
     case rel => exact ⟨(wrap64 (x2_1 + 1)), (y148), (.slice Ao25 y148.length co25), (by first | rfl | (simp; done) | (simp [*]; done)), H', ⟨by have := HK1.out; omega⟩, ⟨by (with_reducible repeat (first | apply Kd.R_alloc | apply Kd.R_drewN | apply Kd.R_drew)); exact Kd.R_mono (Kd.R_far (p := ⟨gb147, 1, none⟩) (Kd.R_types HO_148000.out BK147.out (by decide)) (fun _ hk => hk.2) (.slice Ao25 y148.length co25)) (fun _ hk => hk.1)⟩, ⟨by (with_reducible repeat (first | apply Kd.R_alloc | apply Kd.R_drewN | apply Kd.R_drew)); exact Kd.R_mono (Kd.R_far (p := ⟨gb147, 1, none⟩) (Kd.R_types HO150.out BK147.out (by decide)) (fun _ hk => hk.2) (.slice Ao25 y148.length co25)) (fun _ hk => hk.1)⟩, ⟨by (with_reducible repeat (first | apply Kd.N_alloc | apply Kd.N_drewN | apply Kd.N_drew)); exact Kd.N_mono (Kd.N_far (p := ⟨gb147, 1, none⟩) (Kd.N_mono HO_148002.out (fun k_ hk => (⟨hk, hk.1.2.2.2⟩ : _ ∧ k_ ≠ gb147))) (fun _ hk => hk.2) (.slice Ao25 y148.length co25)) (fun _ hk => ⟨hk.1.1.1, ⟨hk.1.1.2.1, ⟨hk.1.2, ⟨hk.1.1.2.2.1, hk.1.1.2.2.2⟩⟩⟩⟩)⟩, ⟨by (with_reducible repeat (first | refine blk_drewN ?_ _ | refine blk_drew ?_ | refine qan ?_ _)); refine blk_far ?_ NB131_147.out _; (with_reducible repeat (first | refine blk_drewN ?_ _ | refine blk_drew ?_ | refine qan ?_ _)); exact BK131.out⟩, ⟨by (with_reducible repeat (first | refine blk_drewN ?_ _ | refine blk_drew ?_ | refine qan ?_ _)); refine blk_put (cs := #[.slice Ao16 y132.length co16, u148001, .slice Ao15 y144.length co15]) ?_ 1 _ rfl; (with_reducible repeat (first | refine blk_drewN ?_ _ | refine blk_drew ?_ | refine qan ?_ _)); exact BK147.out⟩, ⟨by repeat (first | (with_reducible first | exact HB.out | apply qag | apply qaf | apply qah | refine qai ?_ GE131.out | refine qai ?_ GE147.out) | exact HB.out)⟩⟩
    ·
     rw [if_neg c21] at H
     exact absurd H (by simp)
   ·
    rw [if_neg c20] at H
    have c20b0 : decide (x2_1 < 8) = false := decide_eq_false c20
    clear c20
    simp only [Option.some.injEq, Prod.mk.injEq] at H
    obtain ⟨rfl, rfl, rfl⟩ := H
    have hnb27 := NB147_131.out
    have hnc27 := NB131_147.out
    have hcz28_0 : wr.cell? ⟨gb147, 0, none⟩ = some (.slice Ao16 y132.length co16) := (qaa BK147.out 0).trans rfl
    have hcz28_1 : wr.cell? ⟨gb147, 1, none⟩ = some (u148001) := (qaa BK147.out 1).trans rfl
    have hcz28_2 : wr.cell? ⟨gb147, 2, none⟩ = some (.slice Ao15 y144.length co15) := (qaa BK147.out 2).trans rfl
    have hfz28_0 := qac BK147.out 0
    have hfz28_1 := qac BK147.out 1
    have hfz28_2 := qac BK147.out 2
    have hcz29_0 : wr.cell? ⟨gb131, 0, none⟩ = some (.slice none 0 0) := (qaa BK131.out 0).trans rfl
    have hcz29_1 : wr.cell? ⟨gb131, 1, none⟩ = some (.slice none 0 0) := (qaa BK131.out 1).trans rfl
    have hcz29_2 : wr.cell? ⟨gb131, 2, none⟩ = some (.slice none 0 0) := (qaa BK131.out 2).trans rfl
    have hfz29_0 := qac BK131.out 0
    have hfz29_1 := qac BK131.out 1
    have hfz29_2 := qac BK131.out 2
    obtain ⟨Ao30, co30, eo30⟩ := Kd.R_slice HO_148001.out
    subst eo30
    go_wp2
    refine bodyPost_ret (results_cell_row rfl _ _ gb131 26 #[.slice Ao16 y132.length co16, .slice Ao30 x148001_1.length co30, .slice Ao15 y144.length co15] (0, 0) _ rfl (by (with_reducible repeat (first | refine blk_drewN ?_ _ | refine blk_drew ?_ | refine qan ?_ _)); refine blk_put (cs := #[.slice Ao16 y132.length co16, .slice Ao30 x148001_1.length co30, .slice none 0 0]) ?_ 2 _ rfl; (with_reducible repeat (first | refine blk_drewN ?_ _ | refine blk_drew ?_ | refine qan ?_ _)); refine blk_put (cs := #[.slice Ao16 y132.length co16, .slice none 0 0, .slice none 0 0]) ?_ 1 _ rfl; (with_reducible repeat (first | refine blk_drewN ?_ _ | refine blk_drew ?_ | refine qan ?_ _)); refine blk_put (cs := #[.slice none 0 0, .slice none 0 0, .slice none 0 0]) ?_ 0 _ rfl; (with_reducible repeat (first | refine blk_drewN ?_ _ | refine blk_drew ?_ | refine qan ?_ _)); exact BK131.out) Try.underlying26 rfl (by kernel_rfl)) rfl ?_
    exact ⟨_, _, _, by first | rfl | (simp [errW_none, errW_some] <;> rfl) | (simp [*, errW_none, errW_some] <;> rfl), by (with_reducible repeat (first | apply Kd.R_alloc | apply Kd.R_drewN | apply Kd.R_drew)); exact Kd.R_mono (Kd.R_far (p := ⟨gb131, 2, none⟩) (Kd.R_far (p := ⟨gb131, 1, none⟩) (Kd.R_far (p := ⟨gb131, 0, none⟩) (Kd.R_types HO_148000.out BK131.out (by decide)) (fun _ hk => hk.2) (.slice Ao16 y132.length co16)) (fun _ hk => hk.2) (.slice Ao30 x148001_1.length co30)) (fun _ hk => hk.2) (.slice Ao15 y144.length co15)) (fun _ hk => hk.1), by (with_reducible repeat (first | apply Kd.R_alloc | apply Kd.R_drewN | apply Kd.R_drew)); exact Kd.R_mono (Kd.R_far (p := ⟨gb131, 2, none⟩) (Kd.R_far (p := ⟨gb131, 1, none⟩) (Kd.R_far (p := ⟨gb131, 0, none⟩) (Kd.R_types HO_148001.out BK131.out (by decide)) (fun _ hk => hk.2) (.slice Ao16 y132.length co16)) (fun _ hk => hk.2) (.slice Ao30 x148001_1.length co30)) (fun _ hk => hk.2) (.slice Ao15 y144.length co15)) (fun _ hk => hk.1), by (with_reducible repeat (first | apply Kd.N_alloc | apply Kd.N_drewN | apply Kd.N_drew)); exact Kd.N_mono (Kd.N_far (p := ⟨gb131, 2, none⟩) (Kd.N_far (p := ⟨gb131, 1, none⟩) (Kd.N_far (p := ⟨gb131, 0, none⟩) (Kd.N_mono HO_148002.out (fun k_ hk => (⟨hk, hk.2.2.2.1⟩ : _ ∧ k_ ≠ gb131))) (fun _ hk => hk.2) (.slice Ao16 y132.length co16)) (fun _ hk => hk.2) (.slice Ao30 x148001_1.length co30)) (fun _ hk => hk.2) (.slice Ao15 y144.length co15)) (fun _ hk => ⟨hk.1.1, ⟨hk.1.2.1, hk.1.2.2.1⟩⟩), by repeat (first | (with_reducible first | exact HB.out | apply qag | apply qaf | apply qah | refine qai ?_ GE131.out | refine qai ?_ GE147.out) | exact HB.out)⟩
end Go.Proofs.Ytipphcjgdebecaa.PA
