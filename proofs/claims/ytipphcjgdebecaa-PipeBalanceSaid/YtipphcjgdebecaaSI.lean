/- Parts of a proof about the pipe seat's laws: what the functions of the program answer. No condition of its own. -/
import Derived.Test.YtipphcjgdebecaaSC
import Derived.Test.YtipphcjgdebecaaSE
import Derived.Test.YtipphcjgdebecaaSH
import Derived.Test.YtipphcjgdebecaaSF
set_option linter.all false
namespace Go.Proofs.Ytipphcjgdebecaa.PA
open Go.RowKit Go.Proofs.YtipphcjgdebecaaW.PrintWords Go.Proofs.YtipphcjgdebecaaW.PrintLast Go.Proofs.YtipphcjgdebecaaW.PrintMore
attribute [local go_sem] max2_int min2_int max_two min_two max_three min_three max_four min_four
structure Inv91 (E : OE) (s : Sp) (gs gw mw : Nat) (A : Nat → Prop) (W : World) : Prop where
 env : EnvInv E A W
 as_ : ¬ A gs
 aw : ¬ A gw
 am : ¬ A mw
 xs : W.heap[gs]? = some (.cells #[.int .i64 s.p, .int .i64 s.h, .int .i64 s.r] 123 (0, 0))
 xw : W.heap[gw]? = some (.cells #[.map (some mw)] 125 (0, 0))
 map : MapIs intKey W mw (fun _ _ => True) (fun _ => False)
 ne : mw ≠ E.m
 lw : E.w0.heap.size ≤ mw
section
variable {E : OE} {s : Sp} {gs gw mw : Nat} {A A' : Nat → Prop} {W W' : World}
theorem Inv91.imp (h : Inv91 E s gs gw mw A W) (hA : ∀ k, A' k → E.w0.heap.size ≤ k ∧ (A k ∨ W.heap.size ≤ k)) : Inv91 E s gs gw mw A' W := by
 refine ⟨h.env.imp hA, fun hk => ?_, fun hk => ?_, fun hk => ?_, h.xs, h.xw, h.map, h.ne, h.lw⟩
 ·
  rcases (hA _ hk).2 with h1 | h1
  ·
   exact h.as_ h1
  ·
   have := blk_lt h.xs
   omega
 ·
  rcases (hA _ hk).2 with h1 | h1
  ·
   exact h.aw h1
  ·
   have := blk_lt h.xw
   omega
 ·
  rcases (hA _ hk).2 with h1 | h1
  ·
   exact h.am h1
  ·
   have := h.map.lt
   omega
theorem Inv91.step (h : Inv91 E s gs gw mw A W) (hk : KB A W W') : Inv91 E s gs gw mw A W' :=
 ⟨h.env.step hk, h.as_, h.aw, h.am, hk.blk h.xs h.as_, hk.blk h.xw h.aw, h.map.at (hk.block _ h.map.lt h.am), h.ne, h.lw⟩
theorem Inv91.after (h : Inv91 E s gs gw mw A W) (he : EnvInv E A W') (hk : KB (fun k => k = E.m) W W') : Inv91 E s gs gw mw A W' :=
 ⟨he, h.as_, h.aw, h.am, hk.blk h.xs (fun e => h.env.map.noCells h.xs e), hk.blk h.xw (fun e => h.env.map.noCells h.xw e), h.map.at (hk.block _ h.map.lt h.ne), h.ne, h.lw⟩
theorem Inv91.held {B : Nat} (hB : E.w0.heap.size ≤ B) (hm : E.m < B) (hmw : mw < B) : Held B (Inv91 E s gs gw mw) where
 mono A A' W hA h := h.imp (fun k hk => ⟨h.env.lo k (hA k hk), .inl (hA k hk)⟩)
 fresh A W h := h.imp (fun k hk => ⟨hk.elim (h.env.lo k) (fun x => Nat.le_trans h.env.hb.size x), hk⟩)
 step A W W' h hk := h.step hk
 own A W W' row h hg hr := ⟨h.env.own hB hm hg hr, h.as_, h.aw, h.am, blk_own h.xs hg hr, blk_own h.xw hg hr, h.map.at (hg.block _ h.map.lt (fun e => by have := (hr _ e.symm).1; omega)), h.ne, h.lw⟩
end
section
variable {P : Program} {ops : Array Oper} {o : Oper} {a : Act} {Q : Exit → Act → World → Prop} {Kc : Act → World → Prop} {W w1 : World}
theorem step_mapUpdate (hw : Region.wanted o (yielded ops a.tmps) = true) (t : TypeId) (m k v : Operand) (ho : o.op = .mapUpdate t m k v) (M K V : Value) (hm : a.eval m = M) (hk : a.eval k = K) (hv : a.eval v = V)
  (hrun : (Instr.mapUpdate t M K V).run P W = .ok () w1) (h : Kc (a.put o.dst undef) w1) : if Region.wanted o (yielded ops a.tmps) = true then Oper.wp P o a W Kc Q else Kc (a.put o.dst undef) W := by
 rw [if_pos hw]
 unfold Oper.wp
 simp [execOp, ho, hm, hk, hv, hrun, Result.andThen]
 exact h
end
set_option maxRecDepth 100000 in
theorem Inv91.put {E : OE} {s : Sp} {gs gw mw : Nat} {A : Nat → Prop} {W : World} (h : Inv91 E s gs gw mw A W) (x : Int) (u : Value) :
  ∃ W', (Instr.mapUpdate 125 (.map (some mw)) (.int .i64 x) u).run Try.prog W = .ok () W' ∧ Inv91 E s gs gw mw A W' ∧ KB (fun k => k = mw) W W' ∧ MapIs intKey W' mw (fun k v => k = x → v = u) (fun k => k = x) := by
 obtain ⟨W', hrun, hg, hm⟩ := h.map.update Try.underlying125 x u
 have hr : ∀ r, some mw = some r → E.w0.heap.size ≤ r ∧ r ≠ E.m ∧ ∃ o : Obj, W.heap[r]? = some o ∧ o.isCells = false := fun r e => by
  injection e with e
  subst e
  obtain ⟨es, clock, ks, h1, _⟩ := h.map
  exact ⟨h.lw, h.ne, _, h1, rfl⟩
 refine ⟨W', hrun, ⟨h.env.own' hg hr, h.as_, h.aw, h.am, blk_own h.xs hg (fun r e => ⟨(hr r e).1, (hr r e).2.2⟩), blk_own h.xw hg (fun r e => ⟨(hr r e).1, (hr r e).2.2⟩), hm.imp (fun _ _ _ => trivial) (fun _ hk => hk.elim), h.ne, h.lw⟩, (KB.of_grown hg).mono (fun k e => by injection e with e; exact e.symm), hm.imp (fun k v hk e => ?_) (fun k e => .inl e)⟩
 rcases hk with ⟨_, e1⟩ | ⟨e1, _⟩
 ·
  exact e1
 ·
  exact absurd e e1
theorem field97_1 (a b c : Value) (W : World) : (Instr.field 97 (.agg #[a, b, c]) 1).run Try.prog W = .ok b W := by kernel_rfl
theorem field97_2 (a b c : Value) (W : World) : (Instr.field 97 (.agg #[a, b, c]) 2).run Try.prog W = .ok c W := by kernel_rfl
theorem zero97 (W : World) : (zeroValue 97).run Try.prog W = .ok (.agg #[.slice none 0 0, .int .i64 0, .bool false]) W := by kernel_rfl
set_option maxRecDepth 100000 in
set_option maxHeartbeats 4000000 in
theorem of91_calls (E : OE) (hE : E.Fit) (s : Sp) (hs : E.At s) (gs gw mw : Nat) (IH : ∀ s', E.At s' → cntB s'.r < cntB s.r → SearchC E s') (x : Int) (hx : x ∈ qay s.r 5) (A : Nat → Prop) (w : World) (hinv : Inv91 E s gs gw mw A w) (hA : ∀ k, A k → k < w.heap.size) :
  Calls Try.prog 91 #[.int .i64 x, .pointer (some ⟨E.Bn, 0, none⟩), .pointer (some ⟨gs, 0, none⟩), .pointer (some ⟨E.Bd, 0, none⟩), .pointer (some ⟨E.Bs, 0, none⟩), .pointer (some ⟨gw, 0, none⟩)] w fun e w' =>
   e = .returned (.tuple #[.int .i64 (ofV E.l0 E.l2 E.D E.S s x).1, .bool (ofV E.l0 E.l2 E.D E.S s x).2]) ∧ Inv91 E s gs gw mw A w' ∧ KB (fun k => k = E.m ∨ k = mw) w w' := by
 have hu99 := Try.underlying99
 have hu123 := Try.underlying123
 have hu26 := Try.underlying26
 have hx0 := (mem_loopsOf s.r 5 x).1 hx
 have hx5 := hs.2.2.2 x hx
 have hx05 : 0 ≤ x ∧ x < 5 := by
  obtain ⟨xk, hxk, hxk5, _⟩ := hx0
  omega
 clear hx0
 have hrep : Calls Try.prog 92 #[.agg (NETC E), .agg #[.int .i64 s.p, .int .i64 s.h, .int .i64 s.r], .int .i64 x, .slice E.Ad E.D.length E.cd] w fun e w' =>
   e = .returned (.tuple #[spV (repV E.l0 E.l2 E.D s x).1, .int .i64 (repV E.l0 E.l2 E.D s x).2.1, .bool (repV E.l0 E.l2 E.D s x).2.2]) ∧ Below w.heap.size w w' :=
  repaired_calls _ _ _ _ _ _ _ _ s x _ _ E.D w (Kd.qal hE.r0 hinv.env.hb) (Kd.qal hE.r2 hinv.env.hb) (Kd.qbb hinv.env.due).2.2 hs.2.1 (by have := hE.h2; have := hs.2.2.1; omega) (by omega) hx5 (by rw [hE.hrow s.p hs.2.1 hs.2.2.1]; omega) (by rw [hE.hD]; omega) (by omega)
 have hof : ofV E.l0 E.l2 E.D E.S s x = if (repV E.l0 E.l2 E.D s x).2.2 = true then (min (repV E.l0 E.l2 E.D s x).2.1 (E.S (repV E.l0 E.l2 E.D s x).1).2.1, (E.S (repV E.l0 E.l2 E.D s x).1).2.2) else (0, false) := rfl
 have HNX : qac ((repV E.l0 E.l2 E.D s x).2.2 = true → E.At (repV E.l0 E.l2 E.D s x).1 ∧ cntB (repV E.l0 E.l2 E.D s x).1.r < cntB s.r) := ⟨fun hr => by have h := hs.next hx hr; exact ⟨h.1, by omega⟩⟩
 rw [hof]
 clear hof
 generalize repV E.l0 E.l2 E.D s x = q at hrep HNX ⊢
 obtain ⟨⟨q0, q1, q2⟩, ow, can⟩ := q
 simp only [spV_eq] at hrep
 dsimp only at HNX ⊢
 have HB := qac.mk (Below.refl w.heap.size w)
 have HI := qac.mk hinv
 have HIH := qac.mk IH
 clear IH hx hs hE hinv
 have BKn := qac.mk HI.out.env.xn
 have BKd := qac.mk HI.out.env.xd
 have BKs := qac.mk HI.out.env.xs
 have BKp := qac.mk HI.out.xs
 have BKw := qac.mk HI.out.xw
 have hfn := qab BKn.out; have hcn_0 : w.cell? ⟨E.Bn, 0, none⟩ = some (.slice E.A0 E.l0.length E.c0) := (qaa BKn.out 0).trans rfl; have hcn_1 : w.cell? ⟨E.Bn, 1, none⟩ = some (.slice E.A1 E.l1.length E.c1) := (qaa BKn.out 1).trans rfl; have hcn_2 : w.cell? ⟨E.Bn, 2, none⟩ = some (.slice E.A2 E.l2.length E.c2) := (qaa BKn.out 2).trans rfl; have hcn_3 : w.cell? ⟨E.Bn, 3, none⟩ = some (.int .i64 E.wp) := (qaa BKn.out 3).trans rfl
 have hfp := qab BKp.out; have hcp_0 : w.cell? ⟨gs, 0, none⟩ = some (.int .i64 s.p) := (qaa BKp.out 0).trans rfl; have hcp_1 : w.cell? ⟨gs, 1, none⟩ = some (.int .i64 s.h) := (qaa BKp.out 1).trans rfl; have hcp_2 : w.cell? ⟨gs, 2, none⟩ = some (.int .i64 s.r) := (qaa BKp.out 2).trans rfl
 have hfd := qab BKd.out; have hcd_0 : w.cell? ⟨E.Bd, 0, none⟩ = some (.slice E.Ad E.D.length E.cd) := (qaa BKd.out 0).trans rfl
 cases can with
 | false =>
  simp only [Bool.false_eq_true, if_false]
  go_enter Try.func91, Try.ntmps91
  go_wp2_with (first | (go_at_call 92; refine hrep.mono ?_; clear hrep; rintro e w2 ⟨rfl, hb⟩; have n_HB := qac.mk (qai HB.out hb); clear HB; have HB := n_HB; clear n_HB; clear hb) | ((with_reducible refine qax (N := 9) rfl ?_); refine qaw ?hg (N := 9) ?hd (cs := #[.int .i64 0, .int .i64 0, .int .i64 0]) (t := 123) ?hr ?_; (case hd => rfl); (case hg => rfl); (case hr => first | (go_simp; done) | (go_simp; rfl)); intro gx hg_gx w3 hbox hb; have BKgx := qac.mk hbox; have n_HB := qac.mk (qai HB.out hb); have GEgx : w.heap.size ≤ gx := (by rw [hg_gx]; exact HB.out.size); clear HB; have HB := n_HB; clear n_HB; have hfgx := qab BKgx.out; have hcgx_0 : w3.cell? ⟨gx, 0, none⟩ = some (.int .i64 0) := (qaa BKgx.out 0).trans rfl; have hcgx_1 : w3.cell? ⟨gx, 1, none⟩ = some (.int .i64 0) := (qaa BKgx.out 1).trans rfl; have hcgx_2 : w3.cell? ⟨gx, 2, none⟩ = some (.int .i64 0) := (qaa BKgx.out 2).trans rfl; clear hbox hb hg_gx))
  go_ret2
  have hbl := qag (j := 2) (v := .int .i64 q2) (qag (j := 1) (v := .int .i64 q1) (qag (j := 0) (v := .int .i64 q0) HB.out GEgx) GEgx) GEgx
  exact ⟨rfl, HI.out.step (KB.of_below hbl A), KB.of_below hbl _⟩
 | true =>
  have hnx := HNX.out rfl
  try dsimp only at hnx
  have hsr := HIH.out _ hnx.1 hnx.2
  unfold SearchC at hsr
  clear hnx HNX HIH
  simp only [if_true]
  generalize hS : E.S ⟨q0, q1, q2⟩ = S at hsr ⊢
  clear hS
  obtain ⟨So, Ss, Sr⟩ := S
  try dsimp only at hsr
  simp only [spV_eq] at hsr
  have HSR := qac.mk hsr
  clear hsr
  go_enter Try.func91, Try.ntmps91
  go_wp2_with (first | (go_at_call 92; refine hrep.mono ?_; clear hrep; rintro e w2 ⟨rfl, hb⟩; have n_HB := qac.mk (qai HB.out hb); clear HB; have HB := n_HB; clear n_HB; clear hb) | ((with_reducible refine qax (N := 9) rfl ?_); refine qaw ?hg (N := 9) ?hd (cs := #[.int .i64 0, .int .i64 0, .int .i64 0]) (t := 123) ?hr ?_; (case hd => rfl); (case hg => rfl); (case hr => first | (go_simp; done) | (go_simp; rfl)); intro gx hg_gx w3 hbox hb; have BKgx := qac.mk hbox; have n_HB := qac.mk (qai HB.out hb); have GEgx : w.heap.size ≤ gx := (by rw [hg_gx]; exact HB.out.size); clear HB; have HB := n_HB; clear n_HB; have hfgx := qab BKgx.out; have hcgx_0 : w3.cell? ⟨gx, 0, none⟩ = some (.int .i64 0) := (qaa BKgx.out 0).trans rfl; have hcgx_1 : w3.cell? ⟨gx, 1, none⟩ = some (.int .i64 0) := (qaa BKgx.out 1).trans rfl; have hcgx_2 : w3.cell? ⟨gx, 2, none⟩ = some (.int .i64 0) := (qaa BKgx.out 2).trans rfl; clear hbox hb hg_gx))
  have hbl := qag (j := 2) (v := .int .i64 q2) (qag (j := 1) (v := .int .i64 q1) (qag (j := 0) (v := .int .i64 q0) HB.out GEgx) GEgx) GEgx
  have hbx : (((w3.setCell ⟨gx, 0, none⟩ (.int .i64 q0)).setCell ⟨gx, 1, none⟩ (.int .i64 q1)).setCell ⟨gx, 2, none⟩ (.int .i64 q2)).heap[gx]? = some (.cells #[.int .i64 q0, .int .i64 q1, .int .i64 q2] 123 (0, 0)) := blk_set (blk_set (blk_set BKgx.out 0 _) 1 _) 2 _
  generalize ((w3.setCell ⟨gx, 0, none⟩ (.int .i64 q0)).setCell ⟨gx, 1, none⟩ (.int .i64 q1)).setCell ⟨gx, 2, none⟩ (.int .i64 q2) = w4 at hbl hbx ⊢
  have hi4 : Inv91 E s gs gw mw A w4 := HI.out.step (KB.of_below hbl A)
  have hk4 : KB (fun k => k = E.m ∨ k = mw) w w4 := KB.of_below hbl _
  have htup : ∀ W, Inv91 E s gs gw mw A W → KB (fun k => k = E.m ∨ k = mw) w4 W → W.cell? ⟨gw, 0, none⟩ = some (.map (some mw)) ∧ W.cell? ⟨E.Bs, 0, none⟩ = some (SEARCHF E) ∧ W.cell? ⟨gx, 0, none⟩ = some (.int .i64 q0) ∧ W.cell? ⟨gx, 1, none⟩ = some (.int .i64 q1) ∧ W.cell? ⟨gx, 2, none⟩ = some (.int .i64 q2) ∧ qac (Inv91 E s gs gw mw A W ∧ KB (fun k => k = E.m ∨ k = mw) w4 W) := by
   intro W hi hk
   have hbW := hk.blk hbx (fun e => e.elim (fun e => hi4.env.map.noCells hbx e) (fun e => hi4.map.noCells hbx e))
   exact ⟨qaa hi.xw 0, qaa hi.env.xs 0, qaa hbW 0, qaa hbW 1, qaa hbW 2, ⟨hi, hk⟩⟩
  have hdr : Inv91 E s gs gw mw A w4.drew ∧ KB (fun k => k = E.m ∨ k = mw) w4 w4.drew := ⟨hi4.step ⟨rfl, rfl, rfl, Nat.le_refl _, fun _ _ _ => rfl⟩, ⟨rfl, rfl, rfl, Nat.le_refl _, fun _ _ _ => rfl⟩⟩
  have hS4 := htup w4.drew hdr.1 hdr.2
  have hA4 : ∀ k, A k → k < w4.heap.size := fun k hk => by have := hA k hk; have := hbl.size; omega
  have hsr2 : ∀ W, Inv91 E s gs gw mw A W ∧ KB (fun k => k = E.m ∨ k = mw) w4 W → Calls Try.prog 90 #[.agg #[.int .i64 q0, .int .i64 q1, .int .i64 q2], .pointer (some ⟨E.Bn, 0, none⟩), .pointer (some ⟨E.Bk, 0, none⟩), .pointer (some ⟨E.Bd, 0, none⟩), .pointer (some ⟨E.Bs, 0, none⟩)] W fun e W' =>
    ∃ v, e = .returned (.agg #[v, .int .i64 Ss, .bool Sr]) ∧ qac (W'.cell? ⟨gw, 0, none⟩ = some (.map (some mw)) ∧ W'.cell? ⟨E.Bs, 0, none⟩ = some (SEARCHF E) ∧ W'.cell? ⟨gx, 0, none⟩ = some (.int .i64 q0) ∧ W'.cell? ⟨gx, 1, none⟩ = some (.int .i64 q1) ∧ W'.cell? ⟨gx, 2, none⟩ = some (.int .i64 q2) ∧ qac (Inv91 E s gs gw mw A W' ∧ KB (fun k => k = E.m ∨ k = mw) w4 W')) ∧ ∃ W6, (Instr.mapUpdate 125 (.map (some mw)) (.int .i64 x) (.agg #[v, .int .i64 Ss, .bool Sr])).run Try.prog W' = .ok () W6 ∧ qac (W6.cell? ⟨gw, 0, none⟩ = some (.map (some mw)) ∧ W6.cell? ⟨E.Bs, 0, none⟩ = some (SEARCHF E) ∧ W6.cell? ⟨gx, 0, none⟩ = some (.int .i64 q0) ∧ W6.cell? ⟨gx, 1, none⟩ = some (.int .i64 q1) ∧ W6.cell? ⟨gx, 2, none⟩ = some (.int .i64 q2) ∧ qac (Inv91 E s gs gw mw A W6 ∧ KB (fun k => k = E.m ∨ k = mw) w4 W6)) ∧ qac (MapIs intKey W6 mw (fun k u => k = x → u = .agg #[v, .int .i64 Ss, .bool Sr]) (fun k => k = x)) := by
   rintro W ⟨hi, hk⟩
   refine (HSR.out A W hi.env (fun k hk' => Nat.lt_of_lt_of_le (hA4 k hk') hk.size)).mono ?_
   rintro e W' ⟨v, rfl, _, henv, hkb⟩
   have hi5 := hi.after henv hkb
   have hk5 := hk.trans hkb (fun k e => .inl (.inl e))
   obtain ⟨w6, hrun, hi6, hk6, hm6⟩ := hi5.put x (.agg #[v, .int .i64 Ss, .bool Sr])
   exact ⟨v, rfl, ⟨htup _ hi5 hk5⟩, w6, hrun, ⟨htup _ hi6 (hk5.trans hk6 (fun k e => .inl (.inr e)))⟩, ⟨hm6⟩⟩
  have HSR2 := qac.mk hsr2
  have HS4 := qac.mk hS4
  have HK4 := qac.mk hk4
  clear htup hdr hS4 hi4 hk4 hbl hbx hA hA4 hsr2 HSR BKn BKd BKs BKp BKw BKgx hfgx hcgx_0 hcgx_1 hcgx_2 HI
  go_region_held3 (fun w' => w'.cell? ⟨gw, 0, none⟩ = some (.map (some mw)) ∧ w'.cell? ⟨E.Bs, 0, none⟩ = some (SEARCHF E) ∧ w'.cell? ⟨gx, 0, none⟩ = some (.int .i64 q0) ∧ w'.cell? ⟨gx, 1, none⟩ = some (.int .i64 q1) ∧ w'.cell? ⟨gx, 2, none⟩ = some (.int .i64 q2) ∧ qac (Inv91 E s gs gw mw A w' ∧ KB (fun k => k = E.m ∨ k = mw) w4 w'))
   (first | exact HS4.out | exact HS5.out | exact HS6.out)
   (first | ((go_at_call 90; refine (HSR2.out _ (qac.out (And.right (And.right (And.right (And.right (And.right (by assumption)))))))).mono ?_; rintro e w5 ⟨v, rfl, HS5, w6, hrun, HS6, HM6⟩)) | ((refine step_mapUpdate (by rfl) 125 _ _ _ rfl _ _ _ rfl rfl rfl hrun ?_)))
  rename_i hHeld
  clear hHeld hrun
  simp only [Exit.then]
  have hl6 : (Instr.lookup 125 (.map (some mw)) (.int .i64 x) false).run Try.prog w6.drew = .ok (.agg #[v, .int .i64 Ss, .bool Sr]) w6.drew := by
   rcases (MapIs.at (W' := w6.drew) HM6.out rfl).look Try.underlying125 (zero97 _) x with ⟨u, hu, _, h2⟩ | ⟨hn, _, _⟩
   ·
    rw [hu rfl] at h2
    exact h2
   ·
    exact absurd rfl hn
  have hc6 : w6.drew.cell? ⟨gw, 0, none⟩ = some (.map (some mw)) := HS6.out.1
  have hfa := field97_1
  have hfb := field97_2
  go_wp2_with fail
  go_region_held3 (fun w' => w'.cell? ⟨gw, 0, none⟩ = some (.map (some mw)) ∧ (Instr.lookup 125 (.map (some mw)) (.int .i64 x) false).run Try.prog w' = .ok (.agg #[v, .int .i64 Ss, .bool Sr]) w')
   (exact ⟨hc6, hl6⟩)
   ((fail))
  all_goals
   simp only [Exit.then]
   go_wp2_with fail
   all_goals
    go_ret2
    have hfin := HS6.out.2.2.2.2.2.out
    refine ⟨?_, hfin.1.step ⟨rfl, rfl, rfl, Nat.le_refl _, fun _ _ _ => rfl⟩, (HK4.out.trans hfin.2 (fun k e => .inl e)).trans (T' := fun _ => False) ⟨rfl, rfl, rfl, Nat.le_refl _, fun _ _ _ => rfl⟩ (fun _ e => e.elim)⟩
    have hmin : (if Ss < ow then Ss else ow) = min ow Ss := by split <;> omega
    first | (have hm : min ow Ss = Ss := (by omega); rw [hm]; rfl) | (have hm : min ow Ss = ow := (by omega); rw [hm]; rfl) | (rw [← hmin]; rfl)
end Go.Proofs.Ytipphcjgdebecaa.PA
namespace Go.Proofs.Ytipphcjgdebecaa.PA
open Go.RowKit Go.Proofs.YtipphcjgdebecaaW.PrintWords Go.Proofs.YtipphcjgdebecaaW.PrintLast Go.Proofs.YtipphcjgdebecaaW.PrintMore
attribute [local go_sem] max2_int min2_int max_two min_two max_three min_three max_four min_four
theorem int_append_run (W : World) (v : Value) (xs : List Int) (x : Int) (base : Nat) (ok : Nat → Prop) (HO : Kd.R (Kd.int .i64) 3 W base ok v xs) (hbase : base ≤ W.heap.size) (hl : xs.length ≤ 1000) (hok : ∀ k, W.heap.size ≤ k → ok k) :
  ∃ v1 w1, (Builtin.append_ #[47, 47] 47 #[v, .slice (some ⟨W.heap.size, 0, none⟩) 1 1]).run Try.prog (W.alloc (.cells #[.int .i64 x] 3)) = .ok v1 w1 ∧ Kd.R (Kd.int .i64) 3 w1 base ok v1 (xs ++ [x]) ∧ W.grownBy w1 v.ownBlock ∧ (v1.ownBlock = v.ownBlock ∨ ∃ b, v1.ownBlock = some b ∧ W.heap.size ≤ b) := by
 have hown := (Kd.own_of_R (h1 := fun _ => rfl) HO).alloc (.cells #[.int .i64 x] 3)
 obtain ⟨i0, hi, hz0, hz1, hz2⟩ := info_parts info3
 obtain ⟨v1, w1, hrun, ho, hg, _, hat⟩ := run_append_own_at (W.alloc (.cells #[.int .i64 x] 3)) base 47 47 3 i0 (.int .i64 0) 1 8 Try.underlying47 hi hz0 hz1 hz2 rfl (by decide) v xs.length _ hown ⟨W.heap.size, 0, none⟩ 1 1 [.int .i64 x] rfl (Go.cell_one_new W (.int .i64 x) 3) (by simp [Value.oneCell']) (by simp only [maxLen]; omega) (by omega) (by simp; omega)
 have hgW : W.grownBy w1 v.ownBlock := World.grownBy.trans (World.grownBy_alloc W _ _) hg
 refine ⟨v1, w1, hrun, ?_, hgW, ?_⟩
 ·
  refine Kd.R_of_own (h1 := fun _ => rfl) ?_ ?_
  ·
   have e : encs (Value.int .i64) (xs ++ [x]) = encs (Value.int .i64) xs ++ [.int .i64 x] := by simp [encs]
   rw [e]
   simpa using ho
  ·
   intro k hk
   rcases hat with h1 | h1
   ·
    exact HO.1 k (by rw [← h1]; exact hk)
   ·
    rw [h1] at hk
    injection hk with hk
    subst hk
    exact hok _ (by simp)
 ·
  rcases hat with h1 | h1
  ·
   exact .inl h1
  ·
   exact .inr ⟨_, h1, by simp⟩
structure St93 (E : OE) (A : Nat → Prop) (w : World) (gn gq gd gf go gx : Nat) (slack : Int) (n : Sp) (o : List Int) (v : Value) (Ds : List Nat) (W : World) : Prop where
 env : EnvInv E (fun k => A k ∨ k = go ∨ k = gx ∨ some k = v.ownBlock) W
 xn : W.heap[gn]? = some (.cells (NETC E) 99 (0, 0))
 xq : W.heap[gq]? = some (.cells #[.int .i64 slack] 3 (0, 0))
 xd : W.heap[gd]? = some (.cells #[.slice E.Ad E.D.length E.cd] 47 (0, 0))
 xf : W.heap[gf]? = some (.cells #[SEARCHF E] 121 (0, 0))
 xo : W.heap[go]? = some (.cells #[v] 47 (0, 0))
 xx : W.heap[gx]? = some (.cells #[.int .i64 n.p, .int .i64 n.h, .int .i64 n.r] 123 (0, 0))
 row : Kd.R (Kd.int .i64) 3 W E.w0.heap.size (fun k => w.heap.size ≤ k ∧ k ≠ gq) v o
 kb : KB (fun k => k = E.m) w W
 lo : w.heap.size ≤ go ∧ w.heap.size ≤ gx
 marks : ∀ D ∈ Ds, W.heap[D]? = some (.deferred (some [])) ∧ w.heap.size ≤ D
section
variable {E : OE} {A : Nat → Prop} {w W W' : World} {gn gq gd gf go gx : Nat} {slack : Int} {n n' : Sp} {o : List Int} {v : Value} {Ds : List Nat}
theorem deferred_ne {g : Nat} {cs : Array Value} {t : TypeId} {D : Nat} (h : W.heap[g]? = some (.cells cs t (0, 0))) (hD : W.heap[D]? = some (.deferred (some []))) : D ≠ g := by
 rintro rfl
 rw [h] at hD
 cases hD
theorem St93.lt (h : St93 E A w gn gq gd gf go gx slack n o v Ds W) (hA : ∀ k, A k → k < w.heap.size) : ∀ k, (A k ∨ k = go ∨ k = gx ∨ some k = v.ownBlock) → k < W.heap.size := by
 rintro k (hk | rfl | rfl | hk)
 ·
  have := hA k hk
  have := h.kb.size
  omega
 ·
  exact blk_lt h.xo
 ·
  exact blk_lt h.xx
 ·
  exact Kd.R_lt h.row k hk.symm
theorem St93.below (h : St93 E A w gn gq gd gf go gx slack n o v Ds W) (hb : Below W.heap.size W W') : St93 E A w gn gq gd gf go gx slack n o v Ds W' :=
 ⟨h.env.step (KB.of_below hb _), qam h.xn hb, qam h.xq hb, qam h.xd hb, qam h.xf hb, qam h.xo hb, qam h.xx hb, Kd.R_below h.row hb, h.kb.then_below hb, h.lo, fun D hD => ⟨qam (h.marks D hD).1 hb, (h.marks D hD).2⟩⟩
theorem St93.after (h : St93 E A w gn gq gd gf go gx slack n o v Ds W) (he : EnvInv E (fun k => A k ∨ k = go ∨ k = gx ∨ some k = v.ownBlock) W') (hk : KB (fun k => k = E.m) W W') : St93 E A w gn gq gd gf go gx slack n o v Ds W' := by
 have ne : ∀ {g cs t}, W.heap[g]? = some (.cells cs t (0, 0)) → ¬ g = E.m := fun hg => h.env.map.noCells hg
 have hR := hk.R (Kd.R_bound h.row) (fun k hk' => by obtain ⟨q, _, cells, hc⟩ := hk'.2.2.2; exact ne hc)
 refine ⟨he, hk.blk h.xn (ne h.xn), hk.blk h.xq (ne h.xq), hk.blk h.xd (ne h.xd), hk.blk h.xf (ne h.xf), hk.blk h.xo (ne h.xo), hk.blk h.xx (ne h.xx), Kd.R_mono hR (fun k hk => hk.1), h.kb.trans hk (fun k e => .inl e), h.lo, fun D hD => ⟨hk.blk (h.marks D hD).1 (fun e => ?_), (h.marks D hD).2⟩⟩
 obtain ⟨es, clock, ks, h1, _⟩ := h.env.map
 have h2 := (h.marks D hD).1
 rw [e, h1] at h2
 cases h2
theorem St93.own {B : Nat} (hB : w.heap.size ≤ B) (hw : E.w0.heap.size ≤ w.heap.size) (hm : E.m < w.heap.size) (hDs : ∀ D ∈ Ds, D < B) {row : Option Nat} (h : St93 E A w gn gq gd gf go gx slack n o v Ds W) (hg : W.grownBy W' row) (hr : ∀ r, row = some r → B ≤ r ∧ ∃ o : Obj, W.heap[r]? = some o ∧ o.isCells = false) : St93 E A w gn gq gd gf go gx slack n o v Ds W' := by
 refine ⟨h.env.own (B := B) (by omega) (by omega) hg hr, blk_own h.xn hg hr, blk_own h.xq hg hr, blk_own h.xd hg hr, blk_own h.xf hg hr, blk_own h.xo hg hr, blk_own h.xx hg hr, ?_, h.kb.trans (KB.of_grown hg) (fun k e => .inr (by have := (hr k e).1; omega)), h.lo,
  fun D hD => ⟨(hg.block D (blk_lt (h.marks D hD).1) (fun e => by have := (hr D e.symm).1; have := hDs D hD; omega)).trans (h.marks D hD).1, (h.marks D hD).2⟩⟩
 refine Kd.R_mono (Kd.R_step (Kd.R_bound h.row) (fun k hk hlt => hg.block k hlt (fun e => ?_))) (fun k hk => hk.1)
 obtain ⟨q, _, cells, hc⟩ := hk.2.2.2
 obtain ⟨_, o', ho, hn⟩ := hr k e.symm
 rw [hc] at ho
 injection ho with ho
 subst ho
 cases hn
theorem St93.push (h : St93 E A w gn gq gd gf go gx slack n o v Ds W) (hw0 : E.w0.heap.size ≤ w.heap.size) {w1 : World} {v1 : Value} {x : Int} (hn : gn ≠ go ∧ gn ≠ gx ∧ gq ≠ go ∧ gq ≠ gx ∧ gd ≠ go ∧ gd ≠ gx ∧ gf ≠ go ∧ gf ≠ gx ∧ go ≠ gx)
  (hR : Kd.R (Kd.int .i64) 3 w1 E.w0.heap.size (fun k => w.heap.size ≤ k ∧ k ≠ gq) v1 (o ++ [x])) (hg : W.grownBy w1 v.ownBlock) (hat : v1.ownBlock = v.ownBlock ∨ ∃ b, v1.ownBlock = some b ∧ W.heap.size ≤ b) :
  St93 E A w gn gq gd gf go gx slack n' (o ++ [x]) v1 Ds ((((w1.setCell ⟨go, 0, none⟩ v1).setCell ⟨gx, 0, none⟩ (.int .i64 n'.p)).setCell ⟨gx, 1, none⟩ (.int .i64 n'.h)).setCell ⟨gx, 2, none⟩ (.int .i64 n'.r)) := by
 obtain ⟨d1, d2, d3, d4, d5, d6, d7, d8, d9⟩ := hn
 have d9' := d9.symm
 have kset : ∀ T : Nat → Prop, T go → T gx → KB T w1 ((((w1.setCell ⟨go, 0, none⟩ v1).setCell ⟨gx, 0, none⟩ (.int .i64 n'.p)).setCell ⟨gx, 1, none⟩ (.int .i64 n'.h)).setCell ⟨gx, 2, none⟩ (.int .i64 n'.r)) :=
  fun T t1 t2 => ((((KB.refl T w1).set (p := ⟨go, 0, none⟩) (.inl t1) _).set (p := ⟨gx, 0, none⟩) (.inl t2) _).set (p := ⟨gx, 1, none⟩) (.inl t2) _).set (p := ⟨gx, 2, none⟩) (.inl t2) _
 have far : ∀ {g : Nat} {cs : Array Value} {t : TypeId}, w1.heap[g]? = some (.cells cs t (0, 0)) → g ≠ go → g ≠ gx → ((((w1.setCell ⟨go, 0, none⟩ v1).setCell ⟨gx, 0, none⟩ (.int .i64 n'.p)).setCell ⟨gx, 1, none⟩ (.int .i64 n'.h)).setCell ⟨gx, 2, none⟩ (.int .i64 n'.r)).heap[g]? = some (.cells cs t (0, 0)) :=
  fun hg e1 e2 => qbc (qbc (qbc (qbc hg (p := ⟨go, 0, none⟩) e1 _) (p := ⟨gx, 0, none⟩) e2 _) (p := ⟨gx, 1, none⟩) e2 _) (p := ⟨gx, 2, none⟩) e2 _
 have k1 : ∀ {g : Nat} {cs : Array Value} {t : TypeId}, W.heap[g]? = some (.cells cs t (0, 0)) → t ≠ 3 → w1.heap[g]? = some (.cells cs t (0, 0)) := fun hg' ht => blk_grown hg' hg (Kd.R_ne h.row hg' (Ne.symm ht))
 have env1 : EnvInv E (fun k => (A k ∨ k = go ∨ k = gx ∨ some k = v.ownBlock) ∨ W.heap.size ≤ k) W := h.env.imp (fun k hk => ⟨hk.elim (h.env.lo k) (fun x => Nat.le_trans h.env.hb.size x), hk⟩)
 have env2 := env1.step ((KB.of_grown hg).mono (fun k e => .inl (.inr (.inr (.inr e.symm)))))
 have env3 := env2.step (kset _ (.inl (.inr (.inl rfl))) (.inl (.inr (.inr (.inl rfl)))))
 refine ⟨env3.imp (fun k hk => ?_), far (k1 h.xn (by decide)) d1 d2, ?_, far (k1 h.xd (by decide)) d5 d6, far (k1 h.xf (by decide)) d7 d8, ?_, ?_, ?_, ?_, h.lo, ?_⟩
 ·
  have hk' : (A k ∨ k = go ∨ k = gx ∨ some k = v.ownBlock) ∨ W.heap.size ≤ k := by
   rcases hk with hk | hk | hk | hk
   ·
    exact .inl (.inl hk)
   ·
    exact .inl (.inr (.inl hk))
   ·
    exact .inl (.inr (.inr (.inl hk)))
   ·
    rcases hat with e | ⟨b, e, hb⟩
    ·
     exact .inl (.inr (.inr (.inr (by rw [hk, e]))))
    ·
     rw [e] at hk
     injection hk with hk
     exact .inr (by omega)
  exact ⟨env1.lo k hk', .inl hk'⟩
 ·
  exact far (blk_grown h.xq hg (fun e => (h.row.1 gq e.symm).2 rfl)) d3 d4
 ·
  exact qbc (qbc (qbc (blk_set (k1 h.xo (by decide)) 0 v1) (p := ⟨gx, 0, none⟩) d9 _) (p := ⟨gx, 1, none⟩) d9 _) (p := ⟨gx, 2, none⟩) d9 _
 ·
  exact blk_set (blk_set (blk_set (qbc (k1 h.xx (by decide)) (p := ⟨go, 0, none⟩) d9' _) 0 _) 1 _) 2 _
 ·
  have ho := qbc (p := ⟨go, 0, none⟩) (k1 h.xx (by decide)) d9' v1
  exact Kd.R_set (Kd.R_set (Kd.R_set (Kd.R_set hR (k1 h.xo (by decide)) (by decide) 0 v1) ho (by decide) 0 _) (blk_set ho 0 _) (by decide) 1 _) (blk_set (blk_set ho 0 _) 1 _) (by decide) 2 _
 ·
  refine (h.kb.trans (KB.of_grown hg) (fun k e => .inr (h.row.1 k e).1)).trans (kset (fun k => w.heap.size ≤ k) h.lo.1 h.lo.2) (fun k e => .inr e)
 ·
  intro D hD
  have hm := h.marks D hD
  have hD1 : w1.heap[D]? = some (.deferred (some [])) := (hg.block D (blk_lt hm.1) (fun e => by
   obtain ⟨cells, hc⟩ := Kd.R_typed h.row D e.symm
   rw [hm.1] at hc
   cases hc)).trans hm.1
  refine ⟨(kset (fun k => k = go ∨ k = gx) (.inl rfl) (.inr rfl)).blk hD1 (fun e => ?_), hm.2⟩
  rcases e with e | e
  ·
   exact deferred_ne (k1 h.xo (by decide)) hD1 e
  ·
   exact deferred_ne (k1 h.xx (by decide)) hD1 e
end
end Go.Proofs.Ytipphcjgdebecaa.PA
namespace Go.Proofs.Ytipphcjgdebecaa.PA
open Go.RowKit Go.Proofs.YtipphcjgdebecaaW.PrintWords Go.Proofs.YtipphcjgdebecaaW.PrintLast Go.Proofs.YtipphcjgdebecaaW.PrintMore
attribute [local go_sem] max2_int min2_int max_two min_two max_three min_three max_four min_four
attribute [local go_sem] Oper.semAt_some
def bAt (L : Array Bool) (i : Nat) : Bool := L.getD i false
def valid10 (L : Array Bool) : Bool := L.size == 7 && (!bAt L 2 || bAt L 1) && (!bAt L 3 || (bAt L 0 && bAt L 2)) && (!bAt L 5 || bAt L 3) && (!bAt L 6 || (bAt L 5 && bAt L 4))
def check10 (ops : Array Oper) (L : Array Bool) : Bool :=
 !valid10 L || ((Region.ready .any ops L).all (fun i => decide (i < 7) && !bAt L i && valid10 (L.setIfInBounds i true)) && (!(Region.ready .any ops L).isEmpty || L.all id) && (!L.all id || (Region.ready .any ops L).isEmpty))
def all10 : List (Array Bool) := (List.range 128).map fun k => #[k.testBit 0, k.testBit 1, k.testBit 2, k.testBit 3, k.testBit 4, k.testBit 5, k.testBit 6]
theorem mem_all10 (L : Array Bool) (h : L.size = 7) : L ∈ all10 := by
 obtain ⟨l⟩ := L
 match l, h with
 | [a, b, c, d, e, f, g], _ => cases a <;> cases b <;> cases c <;> cases d <;> cases e <;> cases f <;> cases g <;> decide
theorem opIn_value {n : Nat} {P : Program} {ops : Array Oper} {Q : Exit → Act → World → Prop} {i : Nat} {K : Act → World → Prop} {a : Act} {w w1 : World} {o : Oper} {v : Value} {l : Nat} (hi : ops[i]? = some o) (hg : o.guard = none)
  (hd : ∀ c, o.op ≠ .defer c) (hrun : (execOp a.eval o).run P w = .ok (.value v) w1) (h : K (a.put o.dst v) w1) : wpOpIn (Fence.wide.inRound l) n P ops Q i K a w := by
 refine wpOpIn_step hi fun K' hK => ?_
 have hw : Region.wanted o (yielded ops a.tmps) = true := by simp [Region.wanted, hg]
 rw [if_pos hw]
 unfold Oper.wpIn
 refine ⟨fun f hf => trivial, ?_⟩
 rw [Oper.semAt_eq _ _ _ hd, hrun]
 exact hK _ _ h
theorem opIn_skip {n : Nat} {P : Program} {ops : Array Oper} {Q : Exit → Act → World → Prop} {i : Nat} {K : Act → World → Prop} {a : Act} {w w1 : World} {o : Oper} {l : Nat} (hi : ops[i]? = some o) (hg : o.guard = none)
  (hd : ∀ c, o.op ≠ .defer c) (hrun : (execOp a.eval o).run P w = .ok .skip w1) (h : K (a.put o.dst undef) w1) : wpOpIn (Fence.wide.inRound l) n P ops Q i K a w := by
 refine wpOpIn_step hi fun K' hK => ?_
 have hw : Region.wanted o (yielded ops a.tmps) = true := by simp [Region.wanted, hg]
 rw [if_pos hw]
 unfold Oper.wpIn
 refine ⟨fun f hf => trivial, ?_⟩
 rw [Oper.semAt_eq _ _ _ hd, hrun]
 exact hK _ _ h
structure St10 (L : Array Bool) (a : Act) (gx go gy x : Nat) (vo v1 vs vy : Value) (xi : Int) : Prop where
 size : a.tmps.size = 73
 s13 : a.tmps.getD 13 undef = .pointer (some ⟨go, 0, none⟩)
 s14 : a.tmps.getD 14 undef = .pointer (some ⟨gx, 0, none⟩)
 s17 : a.tmps.getD 17 undef = .int .i64 xi
 s18 : a.tmps.getD 18 undef = .pointer (some ⟨gy, 0, none⟩)
 d0 : bAt L 0 = true → a.tmps.getD 67 undef = vo
 d1 : bAt L 1 = true → a.tmps.getD 68 undef = .int .i64 xi
 d2 : bAt L 2 = true → a.tmps.getD 69 undef = vs
 d3 : bAt L 3 = true → a.tmps.getD 70 undef = v1
 d4 : bAt L 4 = true → a.tmps.getD 71 undef = vy
theorem bAt_set {L : Array Bool} {i j : Nat} (hi : i < L.size) : bAt (L.setIfInBounds i true) j = (if i = j then true else bAt L j) := by
 unfold bAt
 by_cases h : i = j
 ·
  subst h
  simp [hi]
 ·
  simp [h, Array.getD_eq_getD_getElem?, Array.getElem?_setIfInBounds]
theorem getD_put {a : Act} {k j : Nat} {v : Value} (hk : k < a.tmps.size) : (a.put (some k) v).tmps.getD j undef = (if k = j then v else a.tmps.getD j undef) := by
 show (a.tmps.setIfInBounds k v).getD j undef = _
 by_cases h : k = j
 ·
  subst h
  simp [hk]
 ·
  simp [h, Array.getD_eq_getD_getElem?, Array.getElem?_setIfInBounds]
theorem St10.put {L : Array Bool} {a : Act} {gx go gy x : Nat} {vo v1 vs vy v : Value} {xi : Int} (h : St10 L a gx go gy x vo v1 vs vy xi) (i k : Nat) (hL : i < L.size) (hk : k < 73) (hki : k ≠ 13 ∧ k ≠ 14 ∧ k ≠ 17 ∧ k ≠ 18)
  (h0 : k = 67 → v = vo) (h1 : k = 68 → v = .int .i64 xi) (h2 : k = 69 → v = vs) (h3 : k = 70 → v = v1) (h4 : k = 71 → v = vy) (hi : i = k - 67) (hk2 : 67 ≤ k) : St10 (L.setIfInBounds i true) (a.put (some k) v) gx go gy x vo v1 vs vy xi := by
 have hks : k < a.tmps.size := by rw [h.size]; exact hk
 have key : ∀ (j kk : Nat) (u : Value), kk = j + 67 → (k = kk → v = u) → (bAt L j = true → a.tmps.getD kk undef = u) → bAt (L.setIfInBounds i true) j = true → (a.put (some k) v).tmps.getD kk undef = u := by
  intro j kk u hkk hvu hd hb
  rw [getD_put hks]
  by_cases e : k = kk
  ·
   rw [if_pos e]; exact hvu e
  ·
   rw [if_neg e]
   rw [bAt_set hL, if_neg (by omega)] at hb
   exact hd hb
 have far : ∀ (j : Nat) (u : Value), k ≠ j → a.tmps.getD j undef = u → (a.put (some k) v).tmps.getD j undef = u := fun j u hj hu => by rw [getD_put hks, if_neg hj]; exact hu
 exact ⟨by show (a.tmps.setIfInBounds k v).size = 73; simp [h.size], far _ _ hki.1 h.s13, far _ _ hki.2.1 h.s14, far _ _ hki.2.2.1 h.s17, far _ _ hki.2.2.2 h.s18, key 0 67 vo rfl h0 h.d0, key 1 68 _ rfl h1 h.d1, key 2 69 vs rfl h2 h.d2, key 3 70 v1 rfl h3 h.d3, key 4 71 vy rfl h4 h.d4⟩
theorem St10.skip {L : Array Bool} {a : Act} {gx go gy x : Nat} {vo v1 vs vy : Value} {xi : Int} (h : St10 L a gx go gy x vo v1 vs vy xi) (i : Nat) (hL : i < L.size) (hi : 5 ≤ i) : St10 (L.setIfInBounds i true) a gx go gy x vo v1 vs vy xi :=
 ⟨h.size, h.s13, h.s14, h.s17, h.s18, fun hb => h.d0 (by rwa [bAt_set hL, if_neg (by omega)] at hb), fun hb => h.d1 (by rwa [bAt_set hL, if_neg (by omega)] at hb), fun hb => h.d2 (by rwa [bAt_set hL, if_neg (by omega)] at hb), fun hb => h.d3 (by rwa [bAt_set hL, if_neg (by omega)] at hb), fun hb => h.d4 (by rwa [bAt_set hL, if_neg (by omega)] at hb)⟩
def wd10 (w0 w1 w2 w3 w4 : World) (L : Array Bool) : World := if bAt L 6 = true then w4 else if bAt L 5 = true then w3 else if bAt L 3 = true then w2 else if bAt L 2 = true then w1 else w0
def cnt10 (L : Array Bool) : Nat := (bAt L 0).toNat + (bAt L 1).toNat + (bAt L 2).toNat + (bAt L 3).toNat + (bAt L 4).toNat + (bAt L 5).toNat + (bAt L 6).toNat
theorem valid_size {L : Array Bool} (h : valid10 L = true) : L.size = 7 := by
 unfold valid10 at h
 simp only [Bool.and_eq_true, beq_iff_eq] at h
 exact h.1.1.1.1
theorem valid_imp {L : Array Bool} (h : valid10 L = true) : (bAt L 2 = true → bAt L 1 = true) ∧ (bAt L 3 = true → bAt L 0 = true ∧ bAt L 2 = true) ∧ (bAt L 5 = true → bAt L 3 = true) ∧ (bAt L 6 = true → bAt L 5 = true ∧ bAt L 4 = true) := by
 unfold valid10 at h
 simp only [Bool.and_eq_true, Bool.or_eq_true, Bool.not_eq_true'] at h
 obtain ⟨⟨⟨⟨_, a⟩, b⟩, c⟩, d⟩ := h
 refine ⟨fun e => ?_, fun e => ?_, fun e => ?_, fun e => ?_⟩
 ·
  rcases a with a | a
  ·
   rw [e] at a; cases a
  ·
   exact a
 ·
  rcases b with b | b
  ·
   rw [e] at b; cases b
  ·
   exact b
 ·
  rcases c with c | c
  ·
   rw [e] at c; cases c
  ·
   exact c
 ·
  rcases d with d | d
  ·
   rw [e] at d; cases d
  ·
   exact d
theorem cnt_set {L : Array Bool} (hL : L.size = 7) {i : Nat} (hi : i < 7) (hb : bAt L i = false) : cnt10 (L.setIfInBounds i true) = cnt10 L + 1 := by
 unfold cnt10
 have B := fun j => bAt_set (L := L) (i := i) (j := j) (by omega)
 simp only [B]
 match i, hi with
 | 0, _ => simp [hb]; omega
 | 1, _ => simp [hb]; omega
 | 2, _ => simp [hb]; omega
 | 3, _ => simp [hb]; omega
 | 4, _ => simp [hb]; omega
 | 5, _ => simp [hb]; omega
 | 6, _ => simp [hb]
theorem cnt_all {L : Array Bool} (hL : L.size = 7) (h : cnt10 L = 7) : L.all id = true := by
 obtain ⟨l⟩ := L
 match l, hL with
 | [a, b, c, d, e, f, g], _ => cases a <;> cases b <;> cases c <;> cases d <;> cases e <;> cases f <;> cases g <;> simp [cnt10, bAt] at h ⊢
theorem check_done {ops : Array Oper} {L : Array Bool} (h : check10 ops L = true) (hv : valid10 L = true) (ha : L.all id = true) : Region.ready .any ops L = [] := by
 unfold check10 at h
 rw [hv, ha] at h
 simp at h
 exact h.2
theorem check_all {ops : Array Oper} {L : Array Bool} (h : check10 ops L = true) (hv : valid10 L = true) (hr : Region.ready .any ops L = []) : L.all id = true := by
 unfold check10 at h
 rw [hv, hr] at h
 simp at h
 simpa using h
theorem check_mem {ops : Array Oper} {L : Array Bool} (h : check10 ops L = true) (hv : valid10 L = true) {i : Nat} (hi : i ∈ Region.ready .any ops L) : i < 7 ∧ bAt L i = false ∧ valid10 (L.setIfInBounds i true) = true := by
 unfold check10 at h
 rw [hv] at h
 simp only [Bool.not_true, Bool.false_or, Bool.and_eq_true, List.all_eq_true] at h
 have := h.1.1 i hi
 simp only [Bool.and_eq_true, decide_eq_true_eq, Bool.not_eq_true'] at this
 exact ⟨this.1.1, this.1.2, this.2⟩
theorem all_bit {L : Array Bool} (h : L.all id = true) (hs : 6 < L.size) : bAt L 6 = true := by
 rw [Array.all_eq_true] at h
 have := h 6 hs
 simpa [bAt, hs] using this
theorem wd_all {w0 w1 w2 w3 w4 : World} {L : Array Bool} (h : L.all id = true) (hs : 6 < L.size) : wd10 w0 w1 w2 w3 w4 L = w4 := by
 unfold wd10
 rw [all_bit h hs, if_pos rfl]
theorem wd_set {w0 w1 w2 w3 w4 : World} {L : Array Bool} {i : Nat} (hi : i < L.size) (hn : i = 0 ∨ i = 1 ∨ i = 4) : wd10 w0 w1 w2 w3 w4 (L.setIfInBounds i true) = wd10 w0 w1 w2 w3 w4 L := by
 have e2 : bAt (L.setIfInBounds i true) 2 = bAt L 2 := by rw [bAt_set hi, if_neg (by omega)]
 have e3 : bAt (L.setIfInBounds i true) 3 = bAt L 3 := by rw [bAt_set hi, if_neg (by omega)]
 have e5 : bAt (L.setIfInBounds i true) 5 = bAt L 5 := by rw [bAt_set hi, if_neg (by omega)]
 have e6 : bAt (L.setIfInBounds i true) 6 = bAt L 6 := by rw [bAt_set hi, if_neg (by omega)]
 unfold wd10
 rw [e2, e3, e5, e6]
set_option maxRecDepth 100000 in
set_option maxHeartbeats 2000000 in
theorem region10 {n l : Nat} {Q : Exit → Act → World → Prop} {a : Act} {W : World} {ops : Array Oper} {id : Nat} {t0 t1 t2 t4 t5 t6 : TypeId} {p0 p1 p2 p3 p4 p5 p6 : String} {f0 f1 f2 f3 f4 f5 f6 : Array Edge}
  (h0 : ops[0]? = some { dst := some 67, op := .load 47 (.tmp 13), type := t0, pos := p0, after := f0, guard := none })
  (h1 : ops[1]? = some { dst := some 68, op := .move (.tmp 17), type := t1, pos := p1, after := f1, guard := none })
  (h2 : ops[2]? = some { dst := some 69, op := .buildSlice 47 1 #[(0, .tmp 68)], type := t2, pos := p2, after := f2, guard := none })
  (h3 : ops[3]? = some { dst := some 70, op := .call { callee := .builtin .append, args := #[.tmp 67, .tmp 69], argTypes := #[47, 47] }, type := 47, pos := p3, after := f3, guard := none })
  (h4 : ops[4]? = some { dst := some 71, op := .load 123 (.tmp 18), type := t4, pos := p4, after := f4, guard := none })
  (h5 : ops[5]? = some { dst := none, op := .store 47 (.tmp 13) (.tmp 70), type := t5, pos := p5, after := f5, guard := none })
  (h6 : ops[6]? = some { dst := none, op := .store 123 (.tmp 14) (.tmp 71), type := t6, pos := p6, after := f6, guard := none })
  (hsz : ops.size = 7) (hV : all10.all (check10 ops) = true)
  {gx go gy x : Nat} {oA pA : Option Addr} {on oc pn pc : Nat} {xi y0 y1 y2 n0 n1 n2 : Int}
  (hs : St10 (Array.replicate 7 false) a gx go gy x (.slice oA on oc) (.slice pA pn pc) (.slice (some ⟨W.heap.size, 0, none⟩) 1 1) (.agg #[.int .i64 y0, .int .i64 y1, .int .i64 y2]) xi)
  (bo : W.heap[go]? = some (.cells #[.slice oA on oc] 47 (0, 0))) (by_ : W.heap[gy]? = some (.cells #[.int .i64 y0, .int .i64 y1, .int .i64 y2] 123 (0, 0))) {w1 : World}
  (hrun : (Builtin.append_ #[47, 47] 47 #[.slice oA on oc, .slice (some ⟨W.heap.size, 0, none⟩) 1 1]).run Try.prog (W.drew.alloc (.cells #[.int .i64 xi] 3)) = .ok (.slice pA pn pc) w1)
  (bo1 : w1.heap[go]? = some (.cells #[.slice oA on oc] 47 (0, 0))) (by1 : w1.heap[gy]? = some (.cells #[.int .i64 y0, .int .i64 y1, .int .i64 y2] 123 (0, 0))) (bx1 : w1.heap[gx]? = some (.cells #[.int .i64 n0, .int .i64 n1, .int .i64 n2] 123 (0, 0))) (nxo : gx ≠ go) (nyo : gy ≠ go)
  (hQ : ∀ a', Q .normal a' ((((w1.setCell ⟨go, 0, none⟩ (.slice pA pn pc)).setCell ⟨gx, 0, none⟩ (.int .i64 y0)).setCell ⟨gx, 1, none⟩ (.int .i64 y1)).setCell ⟨gx, 2, none⟩ (.int .i64 y2))) :
  (Code.region id ops true).wpIn (Fence.wide.inRound l) n Try.prog Q a W := by
 have hmx : Try.prog.follows .mixedOrders = true := by kernel_rfl
 refine wpIn_region_any hmx ?_
 rw [hsz]
 have bx3 := qbc (p := ⟨go, 0, none⟩) bx1 nxo (.slice pA pn pc)
 have by3 := qbc (p := ⟨go, 0, none⟩) by1 nyo (.slice pA pn pc)
 have hu123 := Try.underlying123
 have HQ := qac.mk hQ
 clear hQ
 have key : ∀ (fuel : Nat) (L : Array Bool) (a : Act), valid10 L = true → cnt10 L + fuel = 7 → St10 L a gx go gy x (.slice oA on oc) (.slice pA pn pc) (.slice (some ⟨W.heap.size, 0, none⟩) 1 1) (.agg #[.int .i64 y0, .int .i64 y1, .int .i64 y2]) xi →
   wpAnyIn (Fence.wide.inRound l) n Try.prog .any ops Q fuel L a (wd10 W.drew (W.drew.alloc (.cells #[.int .i64 xi] 3)) w1 (w1.setCell ⟨go, 0, none⟩ (.slice pA pn pc)) ((((w1.setCell ⟨go, 0, none⟩ (.slice pA pn pc)).setCell ⟨gx, 0, none⟩ (.int .i64 y0)).setCell ⟨gx, 1, none⟩ (.int .i64 y1)).setCell ⟨gx, 2, none⟩ (.int .i64 y2)) L) := by
  intro fuel
  induction fuel with
  | zero =>
   intro L a hv hc hst
   have hLs : L.size = 7 := valid_size hv
   have hck := List.all_eq_true.1 hV L (mem_all10 L hLs)
   have hall := cnt_all hLs (by omega)
   refine wpAnyIn_done (check_done hck hv hall) ?_ 0
   rw [wd_all hall (by omega)]
   exact HQ.out a
  | succ fuel ih =>
   intro L a hv hc hst
   have hLs : L.size = 7 := valid_size hv
   have hck := List.all_eq_true.1 hV L (mem_all10 L hLs)
   refine ⟨fun h0 => by rw [wd_all (check_all hck hv h0) (by omega)]; exact HQ.out a, fun i hi => ?_⟩
   obtain ⟨i7, hbi, hvi⟩ := check_mem hck hv hi
   have hcn := cnt_set hLs i7 hbi
   have hiL : i < L.size := by omega
   have B := fun j => bAt_set (L := L) (i := i) (j := j) hiL
   have pv := valid_imp hv
   have pvi := valid_imp hvi
   have nb : ∀ {j k : Nat}, (bAt L j = true → bAt L k = true) → bAt L k = false → bAt L j = false := fun h hk => by
    cases hb : bAt L _ with
    | false => rfl
    | true => rw [h hb] at hk; cases hk
   have B' := B
   match i, i7 with
   | 0, _ =>
    have b3 := nb (fun h => (pv.2.1 h).1) hbi
    have b5 := nb pv.2.2.1 b3
    have b6 := nb (fun h => (pv.2.2.2 h).1) b5
    have hco : ((wd10 W.drew (W.drew.alloc (.cells #[.int .i64 xi] 3)) w1 (w1.setCell ⟨go, 0, none⟩ (.slice pA pn pc)) ((((w1.setCell ⟨go, 0, none⟩ (.slice pA pn pc)).setCell ⟨gx, 0, none⟩ (.int .i64 y0)).setCell ⟨gx, 1, none⟩ (.int .i64 y1)).setCell ⟨gx, 2, none⟩ (.int .i64 y2)) L)).cell? ⟨go, 0, none⟩ = some (.slice oA on oc) := by
     unfold wd10
     rw [b6, b5, b3]
     cases bAt L 2
     ·
      exact qaa (w := W.drew) bo 0
     ·
      exact qaa (qaj (w := W.drew) bo _) 0
    refine opIn_value h0 rfl (by intro c hc; cases hc) (v := .slice oA on oc) (w1 := (wd10 W.drew (W.drew.alloc (.cells #[.int .i64 xi] 3)) w1 (w1.setCell ⟨go, 0, none⟩ (.slice pA pn pc)) ((((w1.setCell ⟨go, 0, none⟩ (.slice pA pn pc)).setCell ⟨gx, 0, none⟩ (.int .i64 y0)).setCell ⟨gx, 1, none⟩ (.int .i64 y1)).setCell ⟨gx, 2, none⟩ (.int .i64 y2)) L)) ?_ ?_
    ·
     have e := hst.s13
     generalize (wd10 W.drew (W.drew.alloc (.cells #[.int .i64 xi] 3)) w1 (w1.setCell ⟨go, 0, none⟩ (.slice pA pn pc)) ((((w1.setCell ⟨go, 0, none⟩ (.slice pA pn pc)).setCell ⟨gx, 0, none⟩ (.int .i64 y0)).setCell ⟨gx, 1, none⟩ (.int .i64 y1)).setCell ⟨gx, 2, none⟩ (.int .i64 y2)) L) = Wc at hco
     simp [go_sem, Act.eval, e, hco]
    ·
     have := ih (L.setIfInBounds 0 true) _ hvi (by omega) (hst.put 0 67 hiL (by decide) (by decide) (fun _ => rfl) (fun e => absurd e (by decide)) (fun e => absurd e (by decide)) (fun e => absurd e (by decide)) (fun e => absurd e (by decide)) rfl (by decide))
     rwa [wd_set (by omega) (by decide)] at this
   | 1, _ =>
    refine opIn_value h1 rfl (by intro c hc; cases hc) (v := .int .i64 xi) (w1 := (wd10 W.drew (W.drew.alloc (.cells #[.int .i64 xi] 3)) w1 (w1.setCell ⟨go, 0, none⟩ (.slice pA pn pc)) ((((w1.setCell ⟨go, 0, none⟩ (.slice pA pn pc)).setCell ⟨gx, 0, none⟩ (.int .i64 y0)).setCell ⟨gx, 1, none⟩ (.int .i64 y1)).setCell ⟨gx, 2, none⟩ (.int .i64 y2)) L)) ?_ ?_
    ·
     have e := hst.s17
     generalize (wd10 W.drew (W.drew.alloc (.cells #[.int .i64 xi] 3)) w1 (w1.setCell ⟨go, 0, none⟩ (.slice pA pn pc)) ((((w1.setCell ⟨go, 0, none⟩ (.slice pA pn pc)).setCell ⟨gx, 0, none⟩ (.int .i64 y0)).setCell ⟨gx, 1, none⟩ (.int .i64 y1)).setCell ⟨gx, 2, none⟩ (.int .i64 y2)) L) = Wc
     simp [go_sem, Act.eval, e]
    ·
     have := ih (L.setIfInBounds 1 true) _ hvi (by omega) (hst.put 1 68 hiL (by decide) (by decide) (fun e => absurd e (by decide)) (fun _ => rfl) (fun e => absurd e (by decide)) (fun e => absurd e (by decide)) (fun e => absurd e (by decide)) rfl (by decide))
     rwa [wd_set (by omega) (by decide)] at this
   | 2, _ =>
    have b3 := nb (fun h => (pv.2.1 h).2) hbi
    have b5 := nb pv.2.2.1 b3
    have b6 := nb (fun h => (pv.2.2.2 h).1) b5
    have hb1 : bAt L 1 = true := by
     have h := pvi.1 (by rw [B]; rfl)
     rwa [B, if_neg (by decide)] at h
    have hw : (wd10 W.drew (W.drew.alloc (.cells #[.int .i64 xi] 3)) w1 (w1.setCell ⟨go, 0, none⟩ (.slice pA pn pc)) ((((w1.setCell ⟨go, 0, none⟩ (.slice pA pn pc)).setCell ⟨gx, 0, none⟩ (.int .i64 y0)).setCell ⟨gx, 1, none⟩ (.int .i64 y1)).setCell ⟨gx, 2, none⟩ (.int .i64 y2)) L) = W.drew := by unfold wd10; rw [b6, b5, b3, hbi]; rfl
    rw [hw]
    refine opIn_value h2 rfl (by intro c hc; cases hc) (v := .slice (some ⟨W.heap.size, 0, none⟩) 1 1) (w1 := W.drew.alloc (.cells #[.int .i64 xi] 3)) ?_ ?_
    ·
     have e := hst.d1 hb1
     have e' : a.tmps[68]?.getD undef = .int .i64 xi := by simpa [Array.getD_eq_getD_getElem?] using e
     have hu47 := Try.underlying47
     simp [go_sem, Act.eval, e, e', hu47]
     try rfl
    ·
     have := ih (L.setIfInBounds 2 true) _ hvi (by omega) (hst.put 2 69 hiL (by decide) (by decide) (fun e => absurd e (by decide)) (fun e => absurd e (by decide)) (fun _ => rfl) (fun e => absurd e (by decide)) (fun e => absurd e (by decide)) rfl (by decide))
     have hw2 : wd10 W.drew (W.drew.alloc (.cells #[.int .i64 xi] 3)) w1 (w1.setCell ⟨go, 0, none⟩ (.slice pA pn pc)) ((((w1.setCell ⟨go, 0, none⟩ (.slice pA pn pc)).setCell ⟨gx, 0, none⟩ (.int .i64 y0)).setCell ⟨gx, 1, none⟩ (.int .i64 y1)).setCell ⟨gx, 2, none⟩ (.int .i64 y2)) (L.setIfInBounds 2 true) = W.drew.alloc (.cells #[.int .i64 xi] 3) := by
      simp [wd10, B, b6, b5, b3]
     rwa [hw2] at this
   | 3, _ =>
    have b5 := nb pv.2.2.1 hbi
    have b6 := nb (fun h => (pv.2.2.2 h).1) b5
    have hb := pvi.2.1 (by rw [B]; rfl)
    rw [B, B, if_neg (by decide), if_neg (by decide)] at hb
    have hw : (wd10 W.drew (W.drew.alloc (.cells #[.int .i64 xi] 3)) w1 (w1.setCell ⟨go, 0, none⟩ (.slice pA pn pc)) ((((w1.setCell ⟨go, 0, none⟩ (.slice pA pn pc)).setCell ⟨gx, 0, none⟩ (.int .i64 y0)).setCell ⟨gx, 1, none⟩ (.int .i64 y1)).setCell ⟨gx, 2, none⟩ (.int .i64 y2)) L) = W.drew.alloc (.cells #[.int .i64 xi] 3) := by unfold wd10; rw [b6, b5, hbi, hb.2]; rfl
    rw [hw]
    refine opIn_value h3 rfl (by intro c hc; cases hc) (v := .slice pA pn pc) (w1 := w1) ?_ ?_
    ·
     have e := hst.d0 hb.1
     have e2 := hst.d2 hb.2
     have ea : (#[Operand.tmp 67, Operand.tmp 69].map a.eval) = #[.slice oA on oc, .slice (some ⟨W.heap.size, 0, none⟩) 1 1] := by
      simp only [List.map_toArray, List.map_cons, List.map_nil, Act.eval, e, e2]
     rw [BigFrame.execOp_builtin, BigFrame.builtin_append, ea, Sem.run_bind, hrun]
     rfl
    ·
     have := ih (L.setIfInBounds 3 true) _ hvi (by omega) (hst.put 3 70 hiL (by decide) (by decide) (fun e => absurd e (by decide)) (fun e => absurd e (by decide)) (fun e => absurd e (by decide)) (fun _ => rfl) (fun e => absurd e (by decide)) rfl (by decide))
     have hw2 : wd10 W.drew (W.drew.alloc (.cells #[.int .i64 xi] 3)) w1 (w1.setCell ⟨go, 0, none⟩ (.slice pA pn pc)) ((((w1.setCell ⟨go, 0, none⟩ (.slice pA pn pc)).setCell ⟨gx, 0, none⟩ (.int .i64 y0)).setCell ⟨gx, 1, none⟩ (.int .i64 y1)).setCell ⟨gx, 2, none⟩ (.int .i64 y2)) (L.setIfInBounds 3 true) = w1 := by
      simp [wd10, B, b6, b5]
     rwa [hw2] at this
   | 4, _ =>
    have b6 := nb (fun h => (pv.2.2.2 h).2) hbi
    have hg : ((wd10 W.drew (W.drew.alloc (.cells #[.int .i64 xi] 3)) w1 (w1.setCell ⟨go, 0, none⟩ (.slice pA pn pc)) ((((w1.setCell ⟨go, 0, none⟩ (.slice pA pn pc)).setCell ⟨gx, 0, none⟩ (.int .i64 y0)).setCell ⟨gx, 1, none⟩ (.int .i64 y1)).setCell ⟨gx, 2, none⟩ (.int .i64 y2)) L)).heap[gy]? = some (.cells #[.int .i64 y0, .int .i64 y1, .int .i64 y2] 123 (0, 0)) := by
     unfold wd10
     rw [b6]
     cases bAt L 5
     ·
      cases bAt L 3
      ·
       cases bAt L 2
       ·
        exact by_
       ·
        exact qaj (w := W.drew) by_ _
      ·
       exact by1
     ·
      exact by3
    refine opIn_value h4 rfl (by intro c hc; cases hc) (v := .agg #[.int .i64 y0, .int .i64 y1, .int .i64 y2]) (w1 := (wd10 W.drew (W.drew.alloc (.cells #[.int .i64 xi] 3)) w1 (w1.setCell ⟨go, 0, none⟩ (.slice pA pn pc)) ((((w1.setCell ⟨go, 0, none⟩ (.slice pA pn pc)).setCell ⟨gx, 0, none⟩ (.int .i64 y0)).setCell ⟨gx, 1, none⟩ (.int .i64 y1)).setCell ⟨gx, 2, none⟩ (.int .i64 y2)) L)) ?_ ?_
    ·
     have e := hst.s18
     generalize (wd10 W.drew (W.drew.alloc (.cells #[.int .i64 xi] 3)) w1 (w1.setCell ⟨go, 0, none⟩ (.slice pA pn pc)) ((((w1.setCell ⟨go, 0, none⟩ (.slice pA pn pc)).setCell ⟨gx, 0, none⟩ (.int .i64 y0)).setCell ⟨gx, 1, none⟩ (.int .i64 y1)).setCell ⟨gx, 2, none⟩ (.int .i64 y2)) L) = Wc at hg
     have c0 : Wc.cell? ⟨gy, 0, none⟩ = some (.int .i64 y0) := qaa hg 0
     have c1 : Wc.cell? ⟨gy, 1, none⟩ = some (.int .i64 y1) := qaa hg 1
     have c2 : Wc.cell? ⟨gy, 2, none⟩ = some (.int .i64 y2) := qaa hg 2
     simp [go_sem, Act.eval, e, c0, c1, c2, hu123]
    ·
     have := ih (L.setIfInBounds 4 true) _ hvi (by omega) (hst.put 4 71 hiL (by decide) (by decide) (fun e => absurd e (by decide)) (fun e => absurd e (by decide)) (fun e => absurd e (by decide)) (fun e => absurd e (by decide)) (fun _ => rfl) rfl (by decide))
     rwa [wd_set (by omega) (by decide)] at this
   | 5, _ =>
    have b6 := nb (fun h => (pv.2.2.2 h).1) hbi
    have hb := pvi.2.2.1 (by rw [B]; rfl)
    rw [B, if_neg (by decide)] at hb
    have hw : (wd10 W.drew (W.drew.alloc (.cells #[.int .i64 xi] 3)) w1 (w1.setCell ⟨go, 0, none⟩ (.slice pA pn pc)) ((((w1.setCell ⟨go, 0, none⟩ (.slice pA pn pc)).setCell ⟨gx, 0, none⟩ (.int .i64 y0)).setCell ⟨gx, 1, none⟩ (.int .i64 y1)).setCell ⟨gx, 2, none⟩ (.int .i64 y2)) L) = w1 := by unfold wd10; rw [b6, hbi, hb]; rfl
    rw [hw]
    refine opIn_skip h5 rfl (by intro c hc; cases hc) (w1 := w1.setCell ⟨go, 0, none⟩ (.slice pA pn pc)) ?_ ?_
    ·
     have e := hst.s13
     have e2 := hst.d3 hb
     have c0 : w1.cell? ⟨go, 0, none⟩ = some (.slice oA on oc) := qaa bo1 0
     have z0 : w1.frozen? ⟨go, 0, none⟩ = false := qab bo1 0
     simp [go_sem, Act.eval, e, e2, c0, z0]
    ·
     have := ih (L.setIfInBounds 5 true) _ hvi (by omega) (hst.skip 5 hiL (by decide))
     have hw2 : wd10 W.drew (W.drew.alloc (.cells #[.int .i64 xi] 3)) w1 (w1.setCell ⟨go, 0, none⟩ (.slice pA pn pc)) ((((w1.setCell ⟨go, 0, none⟩ (.slice pA pn pc)).setCell ⟨gx, 0, none⟩ (.int .i64 y0)).setCell ⟨gx, 1, none⟩ (.int .i64 y1)).setCell ⟨gx, 2, none⟩ (.int .i64 y2)) (L.setIfInBounds 5 true) = (w1.setCell ⟨go, 0, none⟩ (.slice pA pn pc)) := by
      simp [wd10, B, b6]
     rwa [hw2] at this
   | 6, _ =>
    have hb := pvi.2.2.2 (by rw [B]; rfl)
    rw [B, B, if_neg (by decide), if_neg (by decide)] at hb
    have hw : (wd10 W.drew (W.drew.alloc (.cells #[.int .i64 xi] 3)) w1 (w1.setCell ⟨go, 0, none⟩ (.slice pA pn pc)) ((((w1.setCell ⟨go, 0, none⟩ (.slice pA pn pc)).setCell ⟨gx, 0, none⟩ (.int .i64 y0)).setCell ⟨gx, 1, none⟩ (.int .i64 y1)).setCell ⟨gx, 2, none⟩ (.int .i64 y2)) L) = (w1.setCell ⟨go, 0, none⟩ (.slice pA pn pc)) := by unfold wd10; rw [hbi, hb.1]; rfl
    rw [hw]
    refine opIn_skip h6 rfl (by intro c hc; cases hc) (w1 := ((((w1.setCell ⟨go, 0, none⟩ (.slice pA pn pc)).setCell ⟨gx, 0, none⟩ (.int .i64 y0)).setCell ⟨gx, 1, none⟩ (.int .i64 y1)).setCell ⟨gx, 2, none⟩ (.int .i64 y2))) ?_ ?_
    ·
     have e := hst.s14
     have e2 := hst.d4 hb.2
     have c0 : (w1.setCell ⟨go, 0, none⟩ (.slice pA pn pc)).cell? ⟨gx, 0, none⟩ = some (.int .i64 n0) := qaa bx3 0
     have c1 : (w1.setCell ⟨go, 0, none⟩ (.slice pA pn pc)).cell? ⟨gx, 1, none⟩ = some (.int .i64 n1) := qaa bx3 1
     have c2 : (w1.setCell ⟨go, 0, none⟩ (.slice pA pn pc)).cell? ⟨gx, 2, none⟩ = some (.int .i64 n2) := qaa bx3 2
     have z0 : ∀ i, (w1.setCell ⟨go, 0, none⟩ (.slice pA pn pc)).frozen? ⟨gx, i, none⟩ = false := qab bx3
     generalize (w1.setCell ⟨go, 0, none⟩ (.slice pA pn pc)) = Wc at c0 c1 c2 z0
     simp [go_sem, Act.eval, e, e2, c0, c1, c2, z0, hu123]
    ·
     have := ih (L.setIfInBounds 6 true) _ hvi (by omega) (hst.skip 6 hiL (by decide))
     have hw2 : wd10 W.drew (W.drew.alloc (.cells #[.int .i64 xi] 3)) w1 (w1.setCell ⟨go, 0, none⟩ (.slice pA pn pc)) ((((w1.setCell ⟨go, 0, none⟩ (.slice pA pn pc)).setCell ⟨gx, 0, none⟩ (.int .i64 y0)).setCell ⟨gx, 1, none⟩ (.int .i64 y1)).setCell ⟨gx, 2, none⟩ (.int .i64 y2)) (L.setIfInBounds 6 true) = ((((w1.setCell ⟨go, 0, none⟩ (.slice pA pn pc)).setCell ⟨gx, 0, none⟩ (.int .i64 y0)).setCell ⟨gx, 1, none⟩ (.int .i64 y1)).setCell ⟨gx, 2, none⟩ (.int .i64 y2)) := by
      simp [wd10, B]
     rwa [hw2] at this
 have h := key 7 (Array.replicate 7 false) a (by rfl) (by rfl) hs
 exact h
end Go.Proofs.Ytipphcjgdebecaa.PA
