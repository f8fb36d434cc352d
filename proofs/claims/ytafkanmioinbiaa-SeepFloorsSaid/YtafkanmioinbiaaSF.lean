/- What functions of the program answer. No condition. -/
import Derived.Test.YtafkanmioinbiaaSC
import Derived.Test.YtafkanmioinbiaaSD
import Derived.Test.YtafkanmioinbiaaSE
set_option linter.all false
set_option maxRecDepth 100000
set_option maxHeartbeats 8000000
namespace Go.Proofs.Ytafkanmioinbiaa.SA
open Go.RowKit Go.Proofs.YtafkanmioinbiaaW.PrintWords Go.Proofs.YtafkanmioinbiaaW.PrintLast Go.Proofs.YtafkanmioinbiaaW.PrintMore
attribute [local go_sem] qax qaz max_two min_two qao qap qay qba
structure KB (T : Nat → Prop) (w w' : World) : Prop where
 os : w'.os = w.os
 tape : w'.tape = w.tape
 output : w'.output = w.output
 size : w.heap.size ≤ w'.heap.size
 block : ∀ k, k < w.heap.size → ¬ T k → w'.heap[k]? = w.heap[k]?
section
variable {T T' : Nat → Prop} {w W W2 : World} {g : Nat} {o : Obj}
theorem KB.refl (T : Nat → Prop) (w : World) : KB T w w := ⟨rfl, rfl, rfl, Nat.le_refl _, fun _ _ _ => rfl⟩
theorem KB.of_below (h : Below w.heap.size w W) (T : Nat → Prop) : KB T w W := ⟨h.os, h.tape, h.output, h.size, fun k hk _ => h.block k hk⟩
theorem KB.of_grown {row : Option Nat} (h : w.grownBy W row) : KB (fun k => row = some k) w W := ⟨h.os, h.tape, h.output, h.size, fun k hk hn => h.block k hk (fun e => hn e.symm)⟩
theorem KB.mono (h : KB T w W) (hs : ∀ k, T k → T' k) : KB T' w W := ⟨h.os, h.tape, h.output, h.size, fun k hk hn => h.block k hk (fun x => hn (hs k x))⟩
theorem KB.trans (h : KB T w W) (k : KB T' W W2) (hs : ∀ k, T' k → T k ∨ w.heap.size ≤ k) : KB T w W2 :=
 ⟨k.os.trans h.os, k.tape.trans h.tape, k.output.trans h.output, Nat.le_trans h.size k.size, fun i hi hn => (k.block i (Nat.lt_of_lt_of_le hi h.size) (fun x => (hs i x).elim hn (fun y => by omega))).trans (h.block i hi hn)⟩
theorem KB.set (h : KB T w W) {p : Addr} (hp : T p.block ∨ w.heap.size ≤ p.block) (u : Value) : KB T w (W.setCell p u) :=
 h.trans (T' := fun k => k = p.block) ⟨rfl, rfl, rfl, by simp, fun k _ hn => Below.heap_setCell W p u k hn⟩ (fun k e => e ▸ hp)
theorem KB.blk (h : KB T w W) (hb : w.heap[g]? = some o) (hn : ¬ T g) : W.heap[g]? = some o := (h.block g (blk_lt hb) hn).trans hb
theorem KB.below (h : KB T w W) {B : Nat} {u : World} (hu : Below B u w) (hB : B ≤ w.heap.size) (hn : ∀ k, T k → B ≤ k) : Below B u W :=
 ⟨h.os.trans hu.os, h.tape.trans hu.tape, h.output.trans hu.output, Nat.le_trans hu.size h.size, fun k hk => (h.block k (by omega) (fun x => by have := hn k x; omega)).trans (hu.block k hk)⟩
theorem KB.from (h : KB T w W) {B : Nat} (hn : ∀ k, T k → k < B) : KeepsFrom B w W :=
 ⟨h.size, fun k o hB hk _ => (h.block k (blk_lt hk) (fun x => by have := hn k x; omega)).trans hk⟩
theorem KB.R {α : Type} {d : Kd α} {e base : Nat} {ok : Nat → Prop} {v : Value} {xs : List α} (h : KB T w W) (hr : Kd.R d e w base ok v xs) (hok : ∀ k, ok k → ¬ T k) : Kd.R d e W base ok v xs := Kd.R_step hr (fun k ho hlt => h.block k hlt (hok k ho))
end
theorem setAll_R {α : Type} {dk : Kd α} {e base : Nat} {ok : Nat → Prop} {v : Value} {xs : List α} {g t : Nat} (ht : ∀ q, q ∈ e :: dk.E → q ≠ t) : ∀ (vs : List Value) (i : Nat) (W : World) (cs : Array Value), W.heap[g]? = some (.cells cs t (0, 0)) → dk.R e W base ok v xs → dk.R e (setAll W g vs i) base ok v xs
 | [], _, _, _, _, h => h
 | u :: vs, i, W, cs, hb, h => setAll_R ht vs (i + 1) _ _ (blk_set hb i u) (Kd.R_set h hb ht i u)
theorem R_blk {α : Type} {d : Kd α} {e : Nat} {W : World} {base g n c : Nat} {ok : Nat → Prop} {xs : List α} (h : d.R e W base ok (.slice (some ⟨g, 0, none⟩) n c) xs) (hn : 0 < n) : base ≤ g ∧ ∃ cells, W.heap[g]? = some (.cells cells e (0, 0)) := by
 obtain ⟨g', c', e', h1, h2, cs, h3⟩ := Kd.R_form h (by have := (Kd.R_reads' h).1; omega)
 injection e' with e1 _ _
 injection e1 with e1
 injection e1 with e1 _ _
 subst e1
 exact ⟨h1, cs, h3⟩
theorem introw_at {W : World} {base gi n c : Nat} {ok : Nat → Prop} {xs : List Int} (h : (Kd.int .i64).R 3 W base ok (.slice (some ⟨gi, 0, none⟩) n c) xs) (k : Nat) (hk : k < n) : W.cell? ⟨gi, k, none⟩ = some (.int .i64 (rd xs k)) := by
 obtain ⟨ad, c', e, _, hK, hc⟩ := Kd.C_get (Kd.R_reads' h).2.2 (0 : Int) (k : Int) (by omega) (by have := (Kd.R_reads' h).1; omega)
 cases e
 have hK' : c' = [.int .i64 (xs.getD (k : Int).toNat 0)] := hK
 have h1 := hc 0 (.int .i64 (rd xs k)) (by rw [hK']; simp [rd])
 have e2 : (⟨gi, 0, none⟩ : Addr).add ((k : Int).toNat * 1 + 0) = ⟨gi, k, none⟩ := by simp [Addr.add]; try omega
 exact e2 ▸ h1
theorem blk_own' {B g : Nat} {W W' : World} {row : Option Nat} {cs : Array Value} {t : TypeId} (hb : W.heap[g]? = some (.cells cs t (0, 0))) (hg : W.grownBy W' row) (hr : ∀ r, row = some r → B ≤ r ∧ ∃ o : Obj, W.heap[r]? = some o ∧ o.isCells = false) : W'.heap[g]? = some (.cells cs t (0, 0)) := by
 refine (hg.block g (blk_lt hb) (fun e => ?_)).trans hb
 obtain ⟨_, o, ho, hc⟩ := hr g e.symm
 rw [hb] at ho
 injection ho with ho
 subst ho
 cases hc
abbrev EdgeOf (es : List S44) := { k : Nat // k < es.length }
def encE (es : List S44) (x : EdgeOf es) : Array Value := #[.int .i64 (x.1 : Int), .agg #[.int .i64 (qav es x.1).f0, .int .i64 (qav es x.1).f1, .int .i64 (qav es x.1).f2, .int .i64 (qav es x.1).f3]]
theorem open_stops (n : Nat) (hn : 3 ≤ n) (gd Bd Bt : Nat) (v0 v2 v3 v4 v5 : Value) (A1 : Option Addr) (c1 : Nat) (es : List S44) (d th : Int) (w W : World) (hr : Kd.C k44 w A1 es.length es) (h12 : es.length ≤ 60)
  (hB : Below w.heap.size w W) (hp : W.heap[Bd]? = some (.cells #[.pointer (some ⟨gd, 0, none⟩)] 84 (0, 0))) (ht : W.heap[Bt]? = some (.cells #[.int .i64 th] 3 (0, 0)))
  (hd : W.heap[gd]? = some (.cells #[v0, .slice A1 es.length c1, v2, v3, v4, v5, .int .i64 d] 123 (0, 0))) :
  SeqStopsK Fence.wide n Try.prog 107 #[.pointer (some ⟨Bd, 0, none⟩), .pointer (some ⟨Bt, 0, none⟩)] (encE es) (OKp w.heap.size gd Bd Bt) (fun xs => xs.map (·.1) = openL d es th es.length) (fun pre => pre.map (·.1) <+: openL d es th es.length) es.length W := by
 intro l J Jx W1 hW hJ hJx hY h0
 refine (open1_in n hn l gd Bd Bt v0 v2 v3 v4 v5 A1 c1 es d th w hr h12 (fun pre W => ∃ p : List (EdgeOf es), p.map (·.1) = pre ∧ J p W) (fun pre W => ∃ p : List (EdgeOf es), p.map (·.1) = pre ∧ Jx p W) ?_ ?_ W1
  (qae hB hW) ((hW.block Bd (blk_lt hp)).trans hp) ((hW.block Bt (blk_lt ht)).trans ht) ((hW.block gd (blk_lt hd)).trans hd) ⟨[], rfl, h0⟩).mono ?_
 ·
  rintro pre Wa Wb ⟨p, hp1, hp2⟩ hb
  exact ⟨p, hp1, hJ p Wa Wb none hp2 (grown_of_below hb none) (fun r e => by cases e)⟩
 ·
  rintro pre k Wa hk ⟨p, rfl, hp⟩ hlen
  refine YieldAt.mono (hY p ⟨k, hk⟩ Wa hp (by simpa using hlen)) ?_
  rintro e W' (⟨rfl, h1, h2⟩ | ⟨rfl, h1⟩)
  ·
   exact .inl ⟨rfl, ⟨_, by simp, h1⟩, h2⟩
  ·
   exact .inr ⟨rfl, ⟨_, by simp, h1⟩⟩
 ·
  rintro e W' ⟨hv, (⟨ys, rfl, p, hp1, h1⟩ | ⟨pre, hpre, p, rfl, h1⟩)⟩
  ·
   exact ⟨hv, .inl ⟨p, hp1, h1⟩⟩
  ·
   exact ⟨hv, .inr ⟨p, hpre, h1⟩⟩
theorem open_calls (gd : Nat) (th : Int) (w : World) :
  Calls Try.prog 91 #[.pointer (some ⟨gd, 0, none⟩), .int .i64 th] w fun e w' => ∃ Bd Bt, e = .returned (.func (.func 107) #[] #[.pointer (some ⟨Bd, 0, none⟩), .pointer (some ⟨Bt, 0, none⟩)]) ∧ w.heap.size ≤ Bd ∧ w.heap.size ≤ Bt ∧
   w'.heap[Bd]? = some (.cells #[.pointer (some ⟨gd, 0, none⟩)] 84 (0, 0)) ∧ w'.heap[Bt]? = some (.cells #[.int .i64 th] 3 (0, 0)) ∧ Below w.heap.size w w' := by
 have hmf : ∀ (fn : Fn) (first cap : Array Value) (w : World), (Instr.makeFunc fn first cap).run Try.prog w = .ok (.func fn first cap) w := fun _ _ _ _ => rfl
 have HB := qab.mk (Below.refl w.heap.size w)
 go_enter Try.func91, Try.ntmps91
 go_wp2_with ((first | ((with_reducible refine qam (N := 2) rfl ?_); refine ze 2 #[.pointer (some ⟨gd, 0, none⟩)] 84 ?_; intro gb hg_gb w2 hbox hb; have BKgb := qab.mk hbox; have n_HB := qab.mk (qae HB.out hb); have GEgb : w.heap.size ≤ gb := (by rw [hg_gb]; exact HB.out.size); clear HB; have HB := n_HB; clear n_HB; clear hbox hb hg_gb) | ((with_reducible refine qam (N := 3) rfl ?_); refine ze 3 #[.int .i64 th] 3 ?_; intro gt hg_gt w3 hbox hb; have BKgt := qab.mk hbox; replace BKgb := qab.mk (qad BKgb.out hb); have n_HB := qab.mk (qae HB.out hb); have GEgt : w.heap.size ≤ gt := (by rw [hg_gt]; exact HB.out.size); clear HB; have HB := n_HB; clear n_HB; clear hbox hb hg_gt; obtain ⟨hfgb, hcgb_0⟩ := qz1 BKgb.out; obtain ⟨hfgt, hcgt_0⟩ := qz1 BKgt.out)))
 go_ret
 exact ⟨gb, gt, rfl, GEgb, GEgt, BKgb.out, BKgt.out, HB.out⟩
structure QAt (B g : Nat) (ok : Nat → Prop) (xs : List Int) (W : World) : Prop where
 q : ∃ v, W.heap[g]? = some (.cells #[v] 127 (0, 0)) ∧ (Kd.int .i64).Q 3 W B ok v xs
 ge : B ≤ g
def QKeeps (g : Nat) (ok : Nat → Prop) (W W' : World) : Prop := KB (fun k => k = g ∨ ok k) W W'
theorem put_calls (g : Nat) (ok : Nat → Prop) (xs : List Int) (x : Int) (w W : World) (hB : Below w.heap.size w W) (hq : QAt w.heap.size g ok xs W) (hfr : ∀ k, W.heap.size ≤ k → ok k) (hl : xs.length ≤ 1000000) :
  Calls Try.prog 89 #[.pointer (some ⟨g, 0, none⟩), .int .i64 x] W fun e W' => e = .returned (.tuple #[]) ∧ QAt w.heap.size g ok (xs ++ [x]) W' ∧ QKeeps g ok W W' ∧ KeepsOthers W W' ∧ Below w.heap.size w W' := by
 obtain ⟨⟨v, hb, hQ⟩, hg⟩ := hq
 have hu127 := Try.underlying127
 have HQ := qab.mk hQ
 have BKg := qab.mk hb
 have HB := qab.mk hB
 have HF := qab.mk hfr
 obtain ⟨A, c, e, hc⟩ := Kd.Q_slice hQ
 subst e
 have q0 : W.cell? ⟨g, 0, none⟩ = some (.slice A xs.length c) := (qaa hb 0).trans rfl
 clear hQ hb hB hfr
 go_enter Try.func89, Try.ntmps89
 go_wp2_with ((with_reducible refine gate_builtin (b := .append) (xs := #[.tmp 8, .tmp 10]) rfl ?_); at_builtin; refine Kd.Q_append (Kd.int .i64) (w0 := w) w.heap.size rfl (.tmp 8) (.tmp 10) 23 3 (.int .i64 0) 8 rfl Try.underlying23 info3 rfl (by decide) (by omega) (.slice A xs.length c) xs x [.int .i64 x] ok (fun _ => False) rfl rfl ?aP (fun _ hk => hk.elim) ?aF ?aO ?aB ?aS ?aL ?_; (case aP => exact rfl); (case aF => exact HF.out); (case aO => exact HQ.out); (case aB => exact HB.out); (case aS => exact HB.out.size); (case aL => omega); intro v1 w1 ho hB hg hat; obtain ⟨A1, c1, e, hc1⟩ := Kd.Q_slice ho; subst e; have BK1 := qab.mk (blk_grown BKg.out hg (Kd.Q_ne HQ.out BKg.out (by decide))); have HQ1 := qab.mk ho; have HB1 := qab.mk hB; have HG1 := qab.mk hg; clear ho hB hg hat; have q1 : w1.cell? ⟨g, 0, none⟩ = some (.slice A xs.length c) := (qaa BK1.out 0).trans rfl; have qf := qac BK1.out)
 go_end0
 have hk : QKeeps g ok W w1 := (KB.of_grown HG1.out).mono (fun k hk => .inr (HQ.out.1 k hk))
 have hq1 := Kd.Q_set HQ1.out BK1.out (by decide) 0 (.slice A1 (xs.length + 1) c1)
 rw [List.length_append, List.length_singleton] at hq1
 refine ⟨rfl, ⟨⟨_, blk_set BK1.out 0 _, hq1⟩, hg⟩, ?_, ?_, qaj HB1.out hg⟩
 rotate_left
 ·
  refine (KeepsOthers.of_grownBy HG1.out (fun j o hj ho => ?_)).trans (KeepsOthers.setCell _ _ _)
  obtain ⟨_, inner, hq, _⟩ := HQ.out
  obtain ⟨_, cells, hc⟩ := q_typed hq j hj
  rw [hc] at ho
  injection ho with ho
  subst ho
  rfl
 exact hk.trans (KB.set (KB.refl (fun k => k = g) w1) (.inl rfl) _) (fun k hk => .inl (.inl hk))
theorem take_none (g : Nat) (ok : Nat → Prop) (w W : World) (hB : Below w.heap.size w W) (hq : QAt w.heap.size g ok [] W) :
  Calls Try.prog 90 #[.pointer (some ⟨g, 0, none⟩)] W fun e W' => e = .returned (.tuple #[.int .i64 0, .bool false]) ∧ Below W.heap.size W W' := by
 obtain ⟨⟨v, hb, hQ⟩, hg⟩ := hq
 have hu127 := Try.underlying127
 obtain ⟨A, c, e, hc⟩ := Kd.Q_slice hQ
 subst e
 have q0 : W.cell? ⟨g, 0, none⟩ = some (.slice A 0 c) := (qaa hb 0).trans rfl
 have HB := qab.mk (Below.refl W.heap.size W)
 clear hQ hb hB
 go_enter Try.func90, Try.ntmps90
 go_wp2
 go_ret2
 exact ⟨rfl, HB.out⟩
theorem take_some (g : Nat) (ok : Nat → Prop) (x : Int) (xs : List Int) (w W : World) (hB : Below w.heap.size w W) (hq : QAt w.heap.size g ok (x :: xs) W) :
  Calls Try.prog 90 #[.pointer (some ⟨g, 0, none⟩)] W fun e W' => e = .returned (.tuple #[.int .i64 x, .bool true]) ∧ QAt w.heap.size g ok xs W' ∧ QKeeps g ok W W' ∧ KeepsOthers W W' ∧ Below w.heap.size w W' := by
 obtain ⟨⟨v, hb, hQ⟩, hg⟩ := hq
 have hu127 := Try.underlying127
 have HQ := qab.mk hQ
 have BKg := qab.mk hb
 have HB := qab.mk hB
 obtain ⟨A, c, e, hc⟩ := Kd.Q_slice hQ
 subst e
 obtain ⟨ad, e, hx⟩ := Kd.at_int (Kd.Q_reads' hQ).2.2 0 (by omega) (by simp)
 subst e
 have hm : (x :: xs).length ≤ 9223372036854775807 := Kd.C_max (Kd.Q_reads' hQ).2.2
 rw [show rd (x :: xs) 0 = x from rfl, show ad.add (0 : Int).toNat = ad from by cases ad; simp [Addr.add]] at hx
 have hz : ((xs.length : Int) + 1 == 0) = false := by simp; omega
 have q0 : W.cell? ⟨g, 0, none⟩ = some (.slice (some ad) (x :: xs).length c) := (qaa hb 0).trans rfl
 have qf := qac hb
 have hD := qab.mk (Kd.Q_drop hQ (k := 1) (by simp))
 simp only [List.length_cons] at hm q0 hc hx
 clear hQ hb hB
 have hk : ∀ u, QKeeps g ok W (W.setCell ⟨g, 0, none⟩ u) := fun u => KB.set (KB.refl _ W) (.inl (.inl rfl)) u
 by_cases hc1 : c = 1
 ·
  subst hc1
  have h0 : xs.length = 0 := by omega
  have hd1 : qab ((Kd.int .i64).Q 3 W w.heap.size ok (.slice (some ad) 0 0) xs) := ⟨by have h := hD.out; simpa [h0] using h⟩
  go_enter Try.func90, Try.ntmps90
  go_wp2
  go_ret2
  exact ⟨rfl, ⟨⟨_, blk_set BKg.out 0 _, Kd.Q_set hd1.out BKg.out (by decide) 0 _⟩, hg⟩, hk _, KeepsOthers.setCell _ _ _, qaj HB.out hg⟩
 ·
  have hd1 : qab ((Kd.int .i64).Q 3 W w.heap.size ok (.slice (some (ad.add 1)) xs.length (c - 1)) xs) := ⟨by
   have h := hD.out
   rw [if_neg hc1] at h
   exact h⟩
  go_enter Try.func90, Try.ntmps90
  go_wp2
  go_ret2
  refine ⟨rfl, ⟨⟨_, blk_set BKg.out 0 _, Kd.Q_set ?_ BKg.out (by decide) 0 _⟩, hg⟩, hk _, KeepsOthers.setCell _ _ _, qaj HB.out hg⟩
  exact hd1.out
def okF (w : World) (gd g5 g7 g9 gq go : Nat) (X : Nat → Prop) (k : Nat) : Prop := w.heap.size ≤ k ∧ k ≠ gd ∧ k ≠ g5 ∧ k ≠ g7 ∧ k ≠ g9 ∧ k ≠ gq ∧ k ≠ go ∧ ¬ X k
structure FS (w : World) (gd g5 g7 g9 gq go : Nat) (dcs : Array Value) (P cp : Nat) (y : Int) (X : Nat → Prop) (o q : List Int) (W : World) : Prop where
 hb : Below w.heap.size w W
 d : W.heap[gd]? = some (.cells dcs 123 (0, 0))
 x5 : W.heap[g5]? = some (.cells #[.slice (some ⟨go, 0, none⟩) P cp] 23 (0, 0))
 x7 : W.heap[g7]? = some (.cells #[.int .i64 y] 3 (0, 0))
 x9 : W.heap[g9]? = some (.cells #[.pointer (some ⟨gq, 0, none⟩)] 125 (0, 0))
 o : (Kd.int .i64).R 3 W w.heap.size (fun k => k = go) (.slice (some ⟨go, 0, none⟩) P cp) o
 q : QAt w.heap.size gq (okF w gd g5 g7 g9 gq go X) q W
 l5 : w.heap.size ≤ g5
 l7 : w.heap.size ≤ g7
 l9 : w.heap.size ≤ g9
 lo : w.heap.size ≤ go ∧ go < W.heap.size
 n7 : g7 ≠ go
section
variable {w W W' : World} {gd g5 g7 g9 gq go : Nat} {dcs : Array Value} {P cp : Nat} {y : Int} {X : Nat → Prop} {o q : List Int}
theorem QAt.of {B g : Nat} {ok : Nat → Prop} {xs : List Int} (h : QAt B g ok xs W) (e : W'.heap[g]? = W.heap[g]?) (hs : ∀ k, ok k → k < W.heap.size → W'.heap[k]? = W.heap[k]?) : QAt B g ok xs W' := by
 obtain ⟨⟨v, h1, h2⟩, h3⟩ := h
 exact ⟨⟨v, e.trans h1, Kd.Q_step h2 hs⟩, h3⟩
theorem QAt.imp {B g : Nat} {ok ok' : Nat → Prop} {xs : List Int} (h : QAt B g ok xs W) (hs : ∀ k, ok k → k < W.heap.size → ok' k) : QAt B g ok' xs W := by
 obtain ⟨⟨v, h1, h2⟩, h3⟩ := h
 exact ⟨⟨v, h1, Kd.Q_mono (Kd.Q_bound h2) (fun k hk => hs k hk.1 hk.2.2.1)⟩, h3⟩
theorem QAt.lt {B g : Nat} {ok : Nat → Prop} {xs : List Int} (h : QAt B g ok xs W) : g < W.heap.size := by
 obtain ⟨⟨v, h1, _⟩, _⟩ := h
 exact blk_lt h1
theorem FS.of (h : FS w gd g5 g7 g9 gq go dcs P cp y X o q W) (hb : Below w.heap.size w W') (hs : W.heap.size ≤ W'.heap.size) (hk : ∀ k, k < W.heap.size → (k = gd ∨ k = g5 ∨ k = g7 ∨ k = g9 ∨ k = go ∨ k = gq ∨ okF w gd g5 g7 g9 gq go X k) → W'.heap[k]? = W.heap[k]?) : FS w gd g5 g7 g9 gq go dcs P cp y X o q W' where
 hb := hb
 d := (hk gd (blk_lt h.d) (by simp)).trans h.d
 x5 := (hk g5 (blk_lt h.x5) (by simp)).trans h.x5
 x7 := (hk g7 (blk_lt h.x7) (by simp)).trans h.x7
 x9 := (hk g9 (blk_lt h.x9) (by simp)).trans h.x9
 o := Kd.R_step h.o (fun k e hlt => hk k hlt (by simp [e]))
 q := h.q.of (hk gq h.q.lt (by simp)) (fun k ho hlt => hk k hlt (by simp [ho]))
 l5 := h.l5
 l7 := h.l7
 l9 := h.l9
 lo := ⟨h.lo.1, Nat.lt_of_lt_of_le h.lo.2 hs⟩
 n7 := h.n7
theorem FS.below (h : FS w gd g5 g7 g9 gq go dcs P cp y X o q W) (hb : Below W.heap.size W W') : FS w gd g5 g7 g9 gq go dcs P cp y X o q W' := h.of (qae h.hb hb) hb.size (fun k hk _ => hb.block k hk)
theorem FS.own {row : Option Nat} (h : FS w gd g5 g7 g9 gq go dcs P cp y X o q W) (hg : W.grownBy W' row) (hr : ∀ r, row = some r → w.heap.size ≤ r ∧ ∃ ob : Obj, W.heap[r]? = some ob ∧ ob.isCells = false) : FS w gd g5 g7 g9 gq go dcs P cp y X o q W' := by
 refine ⟨h.hb.grown hg h.hb.size (fun k e => (hr k e).1), ?_, ?_, ?_, ?_, ?_, ?_, h.l5, h.l7, h.l9, ⟨h.lo.1, Nat.lt_of_lt_of_le h.lo.2 hg.size⟩, h.n7⟩
 ·
  exact blk_own' h.d hg hr
 ·
  exact blk_own' h.x5 hg hr
 ·
  exact blk_own' h.x7 hg hr
 ·
  exact blk_own' h.x9 hg hr
 ·
  refine Kd.R_mono (Kd.R_step (Kd.R_bound h.o) (fun k hk hlt => hg.block k hlt (fun e => ?_))) (fun k hk => hk.1)
  obtain ⟨_, ob, h1, h2⟩ := hr k e.symm
  obtain ⟨q, _, cells, hc⟩ := hk.2.2.2
  rw [hc] at h1
  injection h1 with h1
  subst h1
  cases h2
 ·
  obtain ⟨⟨v, h1, h2⟩, h3⟩ := h.q
  refine ⟨⟨v, blk_own' h1 hg hr, Kd.Q_mono (Kd.Q_step (Kd.Q_bound h2) (fun k hk hlt => hg.block k hlt (fun e => ?_))) (fun k hk => hk.1)⟩, h3⟩
  obtain ⟨_, ob, h1, h2⟩ := hr k e.symm
  obtain ⟨q, _, cells, hc⟩ := hk.2.2.2
  rw [hc] at h1
  injection h1 with h1
  subst h1
  cases h2
theorem FS.queue {q' : List Int} (h : FS w gd g5 g7 g9 gq go dcs P cp y X o q W) (hq : QAt w.heap.size gq (okF w gd g5 g7 g9 gq go X) q' W') (hk : QKeeps gq (okF w gd g5 g7 g9 gq go X) W W') (hb : Below w.heap.size w W') (hd : gd ≠ gq) (h5 : g5 ≠ gq) (h7 : g7 ≠ gq) (h9 : g9 ≠ gq) (h0 : go ≠ gq) : FS w gd g5 g7 g9 gq go dcs P cp y X o q' W' where
 hb := hb
 d := hk.blk h.d (fun e => e.elim hd (fun e => e.2.1 rfl))
 x5 := hk.blk h.x5 (fun e => e.elim h5 (fun e => e.2.2.1 rfl))
 x7 := hk.blk h.x7 (fun e => e.elim h7 (fun e => e.2.2.2.1 rfl))
 x9 := hk.blk h.x9 (fun e => e.elim h9 (fun e => e.2.2.2.2.1 rfl))
 o := Kd.R_step h.o (fun k e hlt => hk.block k hlt (fun hh => by subst e; exact hh.elim h0 (fun e => e.2.2.2.2.2.2.1 rfl)))
 q := hq
 l5 := h.l5
 l7 := h.l7
 l9 := h.l9
 lo := ⟨h.lo.1, Nat.lt_of_lt_of_le h.lo.2 hk.size⟩
 n7 := h.n7
theorem FS.ne (h : FS w gd g5 g7 g9 gq go dcs P cp y X o q W) (hP : 0 < P) : gd ≠ gq ∧ g5 ≠ gq ∧ g7 ≠ gq ∧ g9 ≠ gq ∧ go ≠ gq ∧ gd ≠ go ∧ g5 ≠ go ∧ g9 ≠ go := by
 obtain ⟨⟨v, h1, _⟩, _⟩ := h.q
 obtain ⟨_, cs, h2⟩ := R_blk h.o hP
 exact ⟨blk_ne h.d h1 (by decide), blk_ne h.x5 h1 (by decide), blk_ne h.x7 h1 (by decide), blk_ne h.x9 h1 (by decide), blk_ne h2 h1 (by decide), blk_ne h.d h2 (by decide), blk_ne h.x5 h2 (by decide), blk_ne h.x9 h2 (by decide)⟩
theorem FS.put (h : FS w gd g5 g7 g9 gq go dcs P cp y X o q W) (hP : 0 < P) (i : Nat) (x : Int) : FS w gd g5 g7 g9 gq go dcs P cp y X (o.set i x) q (W.setCell ⟨go, i, none⟩ (.int .i64 x)) := by
 obtain ⟨n1, n2, n3, n4, n5, n6, n8, n9⟩ := h.ne hP
 refine ⟨qaj h.hb h.lo.1, blk_far (p := ⟨go, i, none⟩) h.d n6 _, blk_far (p := ⟨go, i, none⟩) h.x5 n8 _, blk_far (p := ⟨go, i, none⟩) h.x7 h.n7 _, blk_far (p := ⟨go, i, none⟩) h.x9 n9 _, Kd.R_putn h.o (i : Int) x, ?_, h.l5, h.l7, h.l9, ⟨h.lo.1, by simpa using h.lo.2⟩, h.n7⟩
 exact h.q.of (Below.heap_setCell W ⟨go, i, none⟩ _ gq (Ne.symm n5)) (fun k hk _ => Below.heap_setCell W ⟨go, i, none⟩ _ k hk.2.2.2.2.2.2.1)
theorem FS.far (h : FS w gd g5 g7 g9 gq go dcs P cp y X o q W) {g : Nat} (hg : w.heap.size ≤ g) (hX : X g) (h1 : gd ≠ g) (h2 : g5 ≠ g) (h3 : g7 ≠ g) (h4 : g9 ≠ g) (h5 : gq ≠ g) (h6 : go ≠ g) (i : Nat) (v : Value) : FS w gd g5 g7 g9 gq go dcs P cp y X o q (W.setCell ⟨g, i, none⟩ v) := by
 refine h.of (qaj h.hb hg) (by simp) (fun k _ hk => Below.heap_setCell W ⟨g, i, none⟩ v k ?_)
 rcases hk with rfl | rfl | rfl | rfl | rfl | rfl | hk
 ·
  exact h1
 ·
  exact h2
 ·
  exact h3
 ·
  exact h4
 ·
  exact h6
 ·
  exact h5
 ·
  exact fun e => hk.2.2.2.2.2.2.2 (by rw [show k = g from e]; exact hX)
theorem FS.more {X' : Nat → Prop} (h : FS w gd g5 g7 g9 gq go dcs P cp y X o q W) (hX : ∀ k, X' k → k < W.heap.size → X k) : FS w gd g5 g7 g9 gq go dcs P cp y X' o q W :=
 ⟨h.hb, h.d, h.x5, h.x7, h.x9, h.o, h.q.imp (fun k hk hlt => ⟨hk.1, hk.2.1, hk.2.2.1, hk.2.2.2.1, hk.2.2.2.2.1, hk.2.2.2.2.2.1, hk.2.2.2.2.2.2.1, fun hx => hk.2.2.2.2.2.2.2 (hX k hx hlt)⟩), h.l5, h.l7, h.l9, h.lo, h.n7⟩
end
structure FU (w : World) (gd g5 go : Nat) (dcs : Array Value) (P cp : Nat) (o : List Int) (Ds : List Nat) (W : World) : Prop where
 hb : Below w.heap.size w W
 d : W.heap[gd]? = some (.cells dcs 123 (0, 0))
 x5 : W.heap[g5]? = some (.cells #[.slice (some ⟨go, 0, none⟩) P cp] 23 (0, 0))
 o : (Kd.int .i64).R 3 W w.heap.size (fun k => k = go) (.slice (some ⟨go, 0, none⟩) P cp) o
 l5 : w.heap.size ≤ g5
 lo : w.heap.size ≤ go ∧ go < W.heap.size
 marks : ∀ D ∈ Ds, W.heap[D]? = some (.deferred (some [])) ∧ w.heap.size ≤ D
 nd : Ds.Nodup
def frF (gd g5 : Nat) (At : Option Addr) (n ct : Nat) (i : Int) (z : Nat → Value) : Array Value := #[.pointer (some ⟨gd, 0, none⟩), .slice At n ct, z 2, z 3, z 4, .pointer (some ⟨g5, 0, none⟩), z 6, z 7, z 8, z 9, z 10, z 11, z 12, z 13, z 14, z 15, z 16, z 17, z 18, z 19, z 20, z 21, z 22, z 23, z 24, z 25, z 26, z 27, z 28, z 29, z 30, z 31, .slice At n ct, .int .i64 (n : Int), .int .i64 i, z 35, z 36, z 37, z 38, z 39, z 40, z 41, z 42, z 43, z 44, z 45, z 46, z 47, z 48, z 49, z 50, z 51, z 52, z 53, z 54, z 55, z 56, z 57, z 58, z 59, z 60, z 61, z 62, z 63, z 64, z 65, z 66, z 67, z 68, z 69, z 70, z 71, z 72, z 73, z 74, z 75, z 76, z 77, z 78, z 79, z 80, z 81, z 82, z 83, z 84, z 85, z 86, z 87, z 88, z 89, z 90, z 91, z 92, z 93, z 94, z 95, z 96, z 97, z 98, z 99, z 100, z 101, z 102, z 103, z 104, z 105, z 106, z 107, z 108, z 109, z 110, z 111, z 112, z 113, z 114]
def dfs (Ds : List Nat) : List Deferred := Ds.map fun D => { target := .collected D, args := #[] }
def LIY (w : World) (gd g5 go : Nat) (dcs : Array Value) (P cp : Nat) (At : Option Addr) (ct : Nat) (ths : List Int) (f : Nat → List Int) (a : Act) (W : World) : Prop :=
 ∃ (i : Nat) (z : Nat → Value) (Ds : List Nat), i ≤ ths.length ∧ a = { tmps := frF gd g5 At ths.length ct i z, defers := dfs Ds } ∧ qab (FU w gd g5 go dcs P cp (f i) Ds W)
theorem LIY.mk {w : World} {gd g5 go : Nat} {dcs : Array Value} {P cp : Nat} {At : Option Addr} {ct : Nat} {ths : List Int} {f : Nat → List Int} {t : Array Value} {df : List Deferred} {W : World} (i : Nat) (Ds : List Nat) (hi : i ≤ ths.length)
  (h : t = frF gd g5 At ths.length ct i (fun j => t.getD j undef)) (hd : df = dfs Ds) (HU : qab (FU w gd g5 go dcs P cp (f i) Ds W)) : LIY w gd g5 go dcs P cp At ct ths f { tmps := t, defers := df } W := by
 subst hd
 exact ⟨i, fun j => t.getD j undef, Ds, hi, by rw [← h], HU⟩
theorem FU.start {w W : World} {gd g5 go : Nat} {dcs : Array Value} {P cp : Nat} {o : List Int} {Ds : List Nat} (h : FU w gd g5 go dcs P cp o Ds W) {g7 gq g9 : Nat} {y : Int} (hP : 0 < P) (x7 : W.heap[g7]? = some (.cells #[.int .i64 y] 3 (0, 0))) (xq : W.heap[gq]? = some (.cells #[.slice none 0 0] 127 (0, 0))) (x9 : W.heap[g9]? = some (.cells #[.pointer (some ⟨gq, 0, none⟩)] 125 (0, 0)))
  (l7 : w.heap.size ≤ g7) (lq : w.heap.size ≤ gq) (l9 : w.heap.size ≤ g9) (n7 : g7 ≠ go) (X : Nat → Prop) : FS w gd g5 g7 g9 gq go dcs P cp y X o [] W :=
 ⟨h.hb, h.d, h.x5, x7, x9, h.o, ⟨⟨_, xq, Kd.Q_nil _ _ _ _ _⟩, lq⟩, h.l5, l7, l9, h.lo, n7⟩
theorem FU.below {w W W' : World} {gd g5 go : Nat} {dcs : Array Value} {P cp : Nat} {o : List Int} {Ds : List Nat} (h : FU w gd g5 go dcs P cp o Ds W) (hb : Below W.heap.size W W') : FU w gd g5 go dcs P cp o Ds W' :=
 ⟨qae h.hb hb, qad h.d hb, qad h.x5 hb, Kd.qal h.o hb, h.l5, ⟨h.lo.1, Nat.lt_of_lt_of_le h.lo.2 hb.size⟩, fun D hD => ⟨(hb.block D (blk_lt (h.marks D hD).1)).trans (h.marks D hD).1, (h.marks D hD).2⟩, h.nd⟩
theorem allocs3 (w : World) (o1 o2 o3 : Obj) : ∃ w4, ((w.alloc o1).alloc o2).alloc o3 = w4 ∧ w4.heap[w.heap.size]? = some o1 ∧ w4.heap[w.heap.size + 1]? = some o2 ∧ w4.heap[w.heap.size + 1 + 1]? = some o3 ∧ Below w.heap.size w w4 := by
 have h1 := blk_new w o1
 have h2 := blk_new (w.alloc o1) o2
 have h3 := blk_new ((w.alloc o1).alloc o2) o3
 rw [World.size_alloc] at h2
 rw [World.size_alloc, World.size_alloc] at h3
 have b1 := qag (Below.refl w.heap.size w) o1
 have b2 := qag b1 o2
 have b3 := qag b2 o3
 exact ⟨_, rfl, qan (qan h1 o2) o3, qan h2 o3, h3, b3⟩
def onlyN (Q : Exit → Act → World → Prop) : Exit → Act → World → Prop
 | .normal, a, w => Q .normal a w
 | _, _, _ => False
theorem wp_normal {P : Program} {c : Code} {Q : Exit → Act → World → Prop} {a : Act} {w : World} (h : c.wp P (onlyN Q) a w) : c.wp P Q a w := Go.wp_mono h (fun e a w hh => by cases e <;> first | exact hh | exact hh.elim)
theorem onlyN_to {Q : Exit → Act → World → Prop} {a : Act} {w : World} (h : Q .normal a w) : onlyN Q .normal a w := h
def slices_Index_int_int.l0 : Nat → List Int → Int → Int → Int → Option (Int)
 | 0, _, _, _, _ => none
 | k + 1, x0, x1, x7, x8 => if x8 < x7 then (if 0 ≤ x8 then (if x8 < (x0.length : Int) then (if x1 = (rd x0 x8) then (some x8) else (slices_Index_int_int.l0 k x0 x1 x7 (wrap64 (x8 + 1)))) else (none)) else (none)) else (some (-1))
def slices_Index_int_int.f (k : Nat) (l0 : List Int) (a1 : Int) : Option (Int) := slices_Index_int_int.l0 k l0 a1 (l0.length : Int) 0
theorem slices_Index_int_int.calls (k : Nat) (A0 : Option Addr) (c0 : Nat) (l0 : List Int) (a1 : Int) (r : Int) (w : World) (hr0 : Kd.C (Kd.int .i64) w A0 l0.length l0) (hc0 : l0.length ≤ c0) (h : slices_Index_int_int.f k l0 a1 = some r) :
  Calls Try.prog 93 #[.slice A0 l0.length c0, .int .i64 a1] w fun e w' => e = .returned (.int .i64 r) ∧ qar w w' := by
 have HR0 := qab.mk hr0
 have HC0 := qab.mk hc0
 clear hr0 hc0
 have H : (slices_Index_int_int.l0 k l0 a1 (l0.length : Int) 0) = some r := h
 clear h
 have H' := qab.mk H
 clear H
 go_enter Try.func93, Try.ntmps93
 go_wp2
 go_loopg [8] k (fun kq v8 w' => ∃ (x8_1 : Int), v8 = .int .i64 x8_1 ∧ qab (slices_Index_int_int.l0 kq l0 a1 (l0.length : Int) x8_1 = some r) ∧ qab (kq ≤ k) ∧ qar w w')
 case atStart => exact ⟨(0), (by first | rfl | (simp; done) | (simp [*]; done)), H', ⟨Nat.le_refl _⟩, by repeat (first | exact qar.refl _ | apply qar.step)⟩
 case round =>
  clear H'
  try clear p2
  obtain ⟨x8_1, rfl, HA, HK1, ⟨m1, rfl⟩⟩ := hrel
  cases gk with
  | zero => exact absurd HA.out (by simp [slices_Index_int_int.l0])
  | succ k1 =>
   have H := HA.out
   clear HA
   simp only [slices_Index_int_int.l0] at H
   by_cases c3 : x8_1 < (l0.length : Int)
   ·
    rw [if_pos c3] at H
    have c3b0 : decide (x8_1 < (l0.length : Int)) = true := decide_eq_true c3
    clear c3
    by_cases c4 : 0 ≤ x8_1
    ·
     rw [if_pos c4] at H
     have c4b0 : decide (0 ≤ x8_1) = true := decide_eq_true c4
     clear c4
     by_cases c5 : x8_1 < (l0.length : Int)
     ·
      rw [if_pos c5] at H
      have c5b0 : decide (x8_1 < (l0.length : Int)) = true := decide_eq_true c5
      clear c5
      by_cases c6 : a1 = (rd l0 x8_1)
      ·
       rw [if_pos c6] at H
       have c6b0 : (a1 == (rd l0 x8_1)) = true := beq_iff_eq.mpr c6
       have c6b1 : (a1 != (rd l0 x8_1)) = false := bne_eq_false_iff_eq.mpr c6
       clear c6
       obtain rfl := Option.some.inj H
       have p108 : 0 ≤ (x8_1 : Int) := of_decide_eq_true (by first | (with_reducible assumption) | assumption)
       have q108 : x8_1 < (l0.length : Int) := of_decide_eq_true (by first | (with_reducible assumption) | assumption)
       obtain ⟨ad108, e108, hx108_0⟩ := Kd.at_int HR0.out x8_1 p108 q108
       cases e108
       replace p108 := eq_true p108
       replace q108 := eq_true q108
       go_wp2
       go_ret
       exact ⟨by first | rfl | (simp; done) | (simp [*]; done), by repeat (first | exact qar.refl _ | apply qar.step)⟩
      ·
       rw [if_neg c6] at H
       have c6b0 : (a1 == (rd l0 x8_1)) = false := beq_eq_false_iff_ne.mpr c6
       have c6b1 : (a1 != (rd l0 x8_1)) = true := bne_iff_ne.mpr c6
       have H' := qab.mk H
       clear H
       have p108 : 0 ≤ (x8_1 : Int) := of_decide_eq_true (by first | (with_reducible assumption) | assumption)
       have q108 : x8_1 < (l0.length : Int) := of_decide_eq_true (by first | (with_reducible assumption) | assumption)
       obtain ⟨ad108, e108, hx108_0⟩ := Kd.at_int HR0.out x8_1 p108 q108
       cases e108
       replace p108 := eq_true p108
       replace q108 := eq_true q108
       go_wp2
       go_roundg k1
       case measure => have := HK1.out; omega
       case rel => exact ⟨(wrap64 (x8_1 + 1)), (by first | rfl | (simp; done) | (simp [*]; done)), H', ⟨by have := HK1.out; omega⟩, by repeat (first | exact qar.refl _ | apply qar.step)⟩
     ·
      rw [if_neg c5] at H
      exact absurd H (by simp)
    ·
     rw [if_neg c4] at H
     exact absurd H (by simp)
   ·
    rw [if_neg c3] at H
    have c3b0 : decide (x8_1 < (l0.length : Int)) = false := decide_eq_false c3
    clear c3
    obtain rfl := Option.some.inj H
    go_wp2
    go_ret
    exact ⟨by first | rfl | (simp; done) | (simp [*]; done), by repeat (first | exact qar.refl _ | apply qar.step)⟩
def slices_Contains_int_int.f (k : Nat) (l0 : List Int) (a1 : Int) : Option (Bool) := (slices_Index_int_int.f k l0 a1).bind fun t109 => (some (decide (t109 ≥ 0)))
theorem slices_Contains_int_int.calls (k : Nat) (A0 : Option Addr) (c0 : Nat) (l0 : List Int) (a1 : Int) (r : Bool) (w : World) (hr0 : Kd.C (Kd.int .i64) w A0 l0.length l0) (hc0 : l0.length ≤ c0) (h : slices_Contains_int_int.f k l0 a1 = some r) :
  Calls Try.prog 64 #[.slice A0 l0.length c0, .int .i64 a1] w fun e w' => e = .returned (.bool r) ∧ qar w w' := by
 have HR0 := qab.mk hr0
 have HC0 := qab.mk hc0
 clear hr0 hc0
 have H : ((slices_Index_int_int.f k l0 a1).bind fun t109 => (some (decide (t109 ≥ 0)))) = some r := h
 clear h
 replace H := Option.bind_eq_some_iff.mp H
 obtain ⟨t109, A30, H⟩ := H
 try dsimp only at H
 have A3 := qab.mk A30
 clear A30
 obtain rfl := Option.some.inj H
 go_enter Try.func64, Try.ntmps64
 go_wp2_with (first | ((with_reducible refine gate_callee (f := 93) rfl ?_); refine zl 7 Try.func93 #[.slice A0 l0.length c0, .int .i64 a1] ?_; (with_reducible refine (slices_Index_int_int.calls k _ _ l0 a1 t109 _ ?side1 ?side2 A3.out).mono ?_); (case side1 => repeat (first | exact HR0.out | (with_reducible refine Kd.qas ?_ _) | (with_reducible refine Kd.qat ?_ _) | (with_reducible refine Kd.C_drew ?_))); (case side2 => exact HC0.out); rintro e w' ⟨rfl, ⟨nd, rfl⟩⟩; refine ⟨_, rfl, ?_⟩))
 go_ret
 exact ⟨by first | rfl | (simp; done) | (simp [*]; done), by repeat (first | exact qar.refl _ | apply qar.step)⟩
def seep_Floor_1.f (a0 : Int) : Option (Bool) := (seep_in.f a0 0 1000000).bind fun t115 => (some (!t115))
theorem seep_Floor_1.calls (a0 : Int) (r : Bool) (w : World) (h : seep_Floor_1.f a0 = some r) :
  Calls Try.prog 75 #[.int .i64 a0] w fun e w' => e = .returned (.bool r) ∧ qar w w' := by
 have H : ((seep_in.f a0 0 1000000).bind fun t115 => (some (!t115))) = some r := h
 clear h
 replace H := Option.bind_eq_some_iff.mp H
 obtain ⟨t115, A20, H⟩ := H
 try dsimp only at H
 have A2 := qab.mk A20
 clear A20
 obtain rfl := Option.some.inj H
 go_enter Try.func75, Try.ntmps75
 go_wp2_with (first | ((with_reducible refine gate_callee (f := 55) rfl ?_); refine zl 4 Try.func55 #[.int .i64 a0, .int .i64 0, .int .i64 1000000] ?_; (with_reducible refine (seep_in.calls a0 0 1000000 t115 _ A2.out).mono ?_); rintro e w' ⟨rfl, ⟨nd, rfl⟩⟩; refine ⟨_, rfl, ?_⟩))
 go_ret
 exact ⟨by first | rfl | (simp; done) | (simp [*]; done), by repeat (first | exact qar.refl _ | apply qar.step)⟩
def taliklaw07_short.f (a0_0 : Int) (l0_1 : List (S44)) (l0_2 : List Int) (l0_3 : List Int) (l0_4 : List (S41)) (l0_5 : List (S95)) : Option (Bool) := if (l0_1.length : Int) ≤ 16 then (if (l0_2.length : Int) ≤ 15 then (if (l0_3.length : Int) ≤ 15 then (if (l0_4.length : Int) ≤ 15 then (some (decide ((l0_5.length : Int) ≤ 10))) else (some false)) else (some false)) else (some false)) else (some false)
theorem taliklaw07_short.calls (a0_0 : Int) (A0_1 : Option Addr) (c0_1 : Nat) (l0_1 : List (S44)) (A0_2 : Option Addr) (c0_2 : Nat) (l0_2 : List Int) (A0_3 : Option Addr) (c0_3 : Nat) (l0_3 : List Int) (A0_4 : Option Addr) (c0_4 : Nat) (l0_4 : List (S41)) (A0_5 : Option Addr) (c0_5 : Nat) (l0_5 : List (S95)) (r : Bool) (w : World) (hr0_1 : Kd.C k44 w A0_1 l0_1.length l0_1) (hc0_1 : l0_1.length ≤ c0_1) (hr0_2 : Kd.C (Kd.int .i64) w A0_2 l0_2.length l0_2) (hc0_2 : l0_2.length ≤ c0_2) (hr0_3 : Kd.C (Kd.int .i64) w A0_3 l0_3.length l0_3) (hc0_3 : l0_3.length ≤ c0_3) (hr0_4 : Kd.C k41 w A0_4 l0_4.length l0_4) (hc0_4 : l0_4.length ≤ c0_4) (hr0_5 : Kd.C k95 w A0_5 l0_5.length l0_5) (hc0_5 : l0_5.length ≤ c0_5) (h : taliklaw07_short.f a0_0 l0_1 l0_2 l0_3 l0_4 l0_5 = some r) :
  Calls Try.prog 16 #[.agg #[.int .i64 a0_0, .slice A0_1 l0_1.length c0_1, .slice A0_2 l0_2.length c0_2, .slice A0_3 l0_3.length c0_3, .slice A0_4 l0_4.length c0_4, .slice A0_5 l0_5.length c0_5]] w fun e w' => e = .returned (.bool r) ∧ Below w.heap.size w w' := by
 have hu27 := Try.underlying27
 have HR0_1 := qab.mk hr0_1
 have HC0_1 := qab.mk hc0_1
 clear hr0_1 hc0_1
 have HR0_2 := qab.mk hr0_2
 have HC0_2 := qab.mk hc0_2
 clear hr0_2 hc0_2
 have HR0_3 := qab.mk hr0_3
 have HC0_3 := qab.mk hc0_3
 clear hr0_3 hc0_3
 have HR0_4 := qab.mk hr0_4
 have HC0_4 := qab.mk hc0_4
 clear hr0_4 hc0_4
 have HR0_5 := qab.mk hr0_5
 have HC0_5 := qab.mk hc0_5
 clear hr0_5 hc0_5
 have HB := qab.mk (Below.refl w.heap.size w)
 have H : (if (l0_1.length : Int) ≤ 16 then (if (l0_2.length : Int) ≤ 15 then (if (l0_3.length : Int) ≤ 15 then (if (l0_4.length : Int) ≤ 15 then (some (decide ((l0_5.length : Int) ≤ 10))) else (some false)) else (some false)) else (some false)) else (some false)) = some r := h
 clear h
 by_cases c2 : (l0_1.length : Int) ≤ 16
 ·
  rw [if_pos c2] at H
  have c2b0 : decide ((l0_1.length : Int) ≤ 16) = true := decide_eq_true c2
  have c2b1 : decide (l0_1.length ≤ 16) = true := decide_eq_true (by omega)
  clear c2
  by_cases c3 : (l0_2.length : Int) ≤ 15
  ·
   rw [if_pos c3] at H
   have c3b0 : decide ((l0_2.length : Int) ≤ 15) = true := decide_eq_true c3
   have c3b1 : decide (l0_2.length ≤ 15) = true := decide_eq_true (by omega)
   clear c3
   by_cases c4 : (l0_3.length : Int) ≤ 15
   ·
    rw [if_pos c4] at H
    have c4b0 : decide ((l0_3.length : Int) ≤ 15) = true := decide_eq_true c4
    have c4b1 : decide (l0_3.length ≤ 15) = true := decide_eq_true (by omega)
    clear c4
    by_cases c5 : (l0_4.length : Int) ≤ 15
    ·
     rw [if_pos c5] at H
     have c5b0 : decide ((l0_4.length : Int) ≤ 15) = true := decide_eq_true c5
     have c5b1 : decide (l0_4.length ≤ 15) = true := decide_eq_true (by omega)
     clear c5
     obtain rfl := Option.some.inj H
     go_enter Try.func16, Try.ntmps16
     go_wp2_with (first | ((with_reducible refine qam (N := 1) rfl ?_); (try (refine gate_guard (by rfl) ?_; dsimp only)); refine ze 1 #[.int .i64 a0_0, .slice A0_1 l0_1.length c0_1, .slice A0_2 l0_2.length c0_2, .slice A0_3 l0_3.length c0_3, .slice A0_4 l0_4.length c0_4, .slice A0_5 l0_5.length c0_5] 27 ?_; intro gb116 hg w6 hbox hb; have n0_ := qab.mk (qae (zb HB.out) hb); have n1_ := qab.mk (hbox); have n2_ := qab.mk ((by rw [hg]; exact (below_size (zb HB.out)) : w.heap.size ≤ gb116)); have n3_ := qab.mk ((by rw [hg]; exact (below_size (zb HB.out)) : w.heap.size ≤ gb116)); clear HB; have HB := n0_; have BK116 := n1_; have GW116 := n2_; have GE116 := n3_; clear n0_ n1_ n2_ n3_; clear hb hbox hg; obtain ⟨hfz_, hcz7_0, hcz7_1, hcz7_2, hcz7_3, hcz7_4, hcz7_5⟩ := qz6 BK116.out))
     go_ret
     exact ⟨by first | rfl | (simp [qbb, qbc] <;> rfl) | (simp [*, qbb, qbc] <;> rfl), by repeat (first | (with_reducible first | exact HB.out | apply qag | apply qaf | apply qah | refine qaj ?_ GE116.out) | exact HB.out)⟩
    ·
     rw [if_neg c5] at H
     have c5b0 : decide ((l0_4.length : Int) ≤ 15) = false := decide_eq_false c5
     have c5b1 : decide (l0_4.length ≤ 15) = false := decide_eq_false (by omega)
     clear c5
     obtain rfl := Option.some.inj H
     go_enter Try.func16, Try.ntmps16
     go_wp2_with (first | ((with_reducible refine qam (N := 1) rfl ?_); (try (refine gate_guard (by rfl) ?_; dsimp only)); refine ze 1 #[.int .i64 a0_0, .slice A0_1 l0_1.length c0_1, .slice A0_2 l0_2.length c0_2, .slice A0_3 l0_3.length c0_3, .slice A0_4 l0_4.length c0_4, .slice A0_5 l0_5.length c0_5] 27 ?_; intro gb116 hg w8 hbox hb; have n0_ := qab.mk (qae (zb HB.out) hb); have n1_ := qab.mk (hbox); have n2_ := qab.mk ((by rw [hg]; exact (below_size (zb HB.out)) : w.heap.size ≤ gb116)); have n3_ := qab.mk ((by rw [hg]; exact (below_size (zb HB.out)) : w.heap.size ≤ gb116)); clear HB; have HB := n0_; have BK116 := n1_; have GW116 := n2_; have GE116 := n3_; clear n0_ n1_ n2_ n3_; clear hb hbox hg; obtain ⟨hfz_, hcz9_0, hcz9_1, hcz9_2, hcz9_3, hcz9_4, hcz9_5⟩ := qz6 BK116.out))
     go_ret
     exact ⟨by first | rfl | (simp [qbb, qbc] <;> rfl) | (simp [*, qbb, qbc] <;> rfl), by repeat (first | (with_reducible first | exact HB.out | apply qag | apply qaf | apply qah | refine qaj ?_ GE116.out) | exact HB.out)⟩
   ·
    rw [if_neg c4] at H
    have c4b0 : decide ((l0_3.length : Int) ≤ 15) = false := decide_eq_false c4
    have c4b1 : decide (l0_3.length ≤ 15) = false := decide_eq_false (by omega)
    clear c4
    obtain rfl := Option.some.inj H
    go_enter Try.func16, Try.ntmps16
    go_wp2_with (first | ((with_reducible refine qam (N := 1) rfl ?_); (try (refine gate_guard (by rfl) ?_; dsimp only)); refine ze 1 #[.int .i64 a0_0, .slice A0_1 l0_1.length c0_1, .slice A0_2 l0_2.length c0_2, .slice A0_3 l0_3.length c0_3, .slice A0_4 l0_4.length c0_4, .slice A0_5 l0_5.length c0_5] 27 ?_; intro gb116 hg w10 hbox hb; have n0_ := qab.mk (qae (zb HB.out) hb); have n1_ := qab.mk (hbox); have n2_ := qab.mk ((by rw [hg]; exact (below_size (zb HB.out)) : w.heap.size ≤ gb116)); have n3_ := qab.mk ((by rw [hg]; exact (below_size (zb HB.out)) : w.heap.size ≤ gb116)); clear HB; have HB := n0_; have BK116 := n1_; have GW116 := n2_; have GE116 := n3_; clear n0_ n1_ n2_ n3_; clear hb hbox hg; obtain ⟨hfz_, hcz11_0, hcz11_1, hcz11_2, hcz11_3, hcz11_4, hcz11_5⟩ := qz6 BK116.out))
    go_ret
    exact ⟨by first | rfl | (simp [qbb, qbc] <;> rfl) | (simp [*, qbb, qbc] <;> rfl), by repeat (first | (with_reducible first | exact HB.out | apply qag | apply qaf | apply qah | refine qaj ?_ GE116.out) | exact HB.out)⟩
  ·
   rw [if_neg c3] at H
   have c3b0 : decide ((l0_2.length : Int) ≤ 15) = false := decide_eq_false c3
   have c3b1 : decide (l0_2.length ≤ 15) = false := decide_eq_false (by omega)
   clear c3
   obtain rfl := Option.some.inj H
   go_enter Try.func16, Try.ntmps16
   go_wp2_with (first | ((with_reducible refine qam (N := 1) rfl ?_); (try (refine gate_guard (by rfl) ?_; dsimp only)); refine ze 1 #[.int .i64 a0_0, .slice A0_1 l0_1.length c0_1, .slice A0_2 l0_2.length c0_2, .slice A0_3 l0_3.length c0_3, .slice A0_4 l0_4.length c0_4, .slice A0_5 l0_5.length c0_5] 27 ?_; intro gb116 hg w12 hbox hb; have n0_ := qab.mk (qae (zb HB.out) hb); have n1_ := qab.mk (hbox); have n2_ := qab.mk ((by rw [hg]; exact (below_size (zb HB.out)) : w.heap.size ≤ gb116)); have n3_ := qab.mk ((by rw [hg]; exact (below_size (zb HB.out)) : w.heap.size ≤ gb116)); clear HB; have HB := n0_; have BK116 := n1_; have GW116 := n2_; have GE116 := n3_; clear n0_ n1_ n2_ n3_; clear hb hbox hg; obtain ⟨hfz_, hcz13_0, hcz13_1, hcz13_2, hcz13_3, hcz13_4, hcz13_5⟩ := qz6 BK116.out))
   go_ret
   exact ⟨by first | rfl | (simp [qbb, qbc] <;> rfl) | (simp [*, qbb, qbc] <;> rfl), by repeat (first | (with_reducible first | exact HB.out | apply qag | apply qaf | apply qah | refine qaj ?_ GE116.out) | exact HB.out)⟩
 ·
  rw [if_neg c2] at H
  have c2b0 : decide ((l0_1.length : Int) ≤ 16) = false := decide_eq_false c2
  have c2b1 : decide (l0_1.length ≤ 16) = false := decide_eq_false (by omega)
  clear c2
  obtain rfl := Option.some.inj H
  go_enter Try.func16, Try.ntmps16
  go_wp2_with (first | ((with_reducible refine qam (N := 1) rfl ?_); (try (refine gate_guard (by rfl) ?_; dsimp only)); refine ze 1 #[.int .i64 a0_0, .slice A0_1 l0_1.length c0_1, .slice A0_2 l0_2.length c0_2, .slice A0_3 l0_3.length c0_3, .slice A0_4 l0_4.length c0_4, .slice A0_5 l0_5.length c0_5] 27 ?_; intro gb116 hg w14 hbox hb; have n0_ := qab.mk (qae (zb HB.out) hb); have n1_ := qab.mk (hbox); have n2_ := qab.mk ((by rw [hg]; exact (below_size (zb HB.out)) : w.heap.size ≤ gb116)); have n3_ := qab.mk ((by rw [hg]; exact (below_size (zb HB.out)) : w.heap.size ≤ gb116)); clear HB; have HB := n0_; have BK116 := n1_; have GW116 := n2_; have GE116 := n3_; clear n0_ n1_ n2_ n3_; clear hb hbox hg; obtain ⟨hfz_, hcz15_0, hcz15_1, hcz15_2, hcz15_3, hcz15_4, hcz15_5⟩ := qz6 BK116.out))
  go_ret
  exact ⟨by first | rfl | (simp [qbb, qbc] <;> rfl) | (simp [*, qbb, qbc] <;> rfl), by repeat (first | (with_reducible first | exact HB.out | apply qag | apply qaf | apply qah | refine qaj ?_ GE116.out) | exact HB.out)⟩
theorem index_go (l : List Int) (a : Int) (hl : l.length ≤ 9223372036854775807) : ∀ (d i k : Nat), i + d = l.length → d < k → (∀ j, j < i → l.getD j 0 ≠ a) → ∃ r, slices_Index_int_int.l0 k l a (l.length : Int) (i : Int) = some r ∧ decide (r ≥ 0) = l.contains a := by
 intro d
 induction d with
 | zero =>
  intro i k hd hk hp
  obtain ⟨k, rfl⟩ : ∃ m, k = m + 1 := ⟨k - 1, by omega⟩
  simp only [slices_Index_int_int.l0]
  rw [if_neg (by omega)]
  refine ⟨-1, rfl, ?_⟩
  have : l.contains a = false := by
   rw [List.contains_eq_any_beq, List.any_eq_false]
   intro x hx
   obtain ⟨j, hj, rfl⟩ := List.mem_iff_getElem.1 hx
   have := hp j (by omega)
   simp only [List.getD_eq_getElem?_getD, List.getElem?_eq_getElem hj, Option.getD_some] at this
   simp
   exact fun h => this h.symm
  rw [this]
  rfl
 | succ d ih =>
  intro i k hd hk hp
  obtain ⟨k, rfl⟩ : ∃ m, k = m + 1 := ⟨k - 1, by omega⟩
  simp only [slices_Index_int_int.l0]
  have e1 : rd l (i : Int) = l.getD i 0 := by simp [rd]
  rw [if_pos (by omega), if_pos (by omega), if_pos (by omega), e1]
  by_cases h : a = l.getD i 0
  ·
   rw [if_pos h]
   refine ⟨_, rfl, ?_⟩
   have hm : a ∈ l := by
    rw [h, List.getD_eq_getElem?_getD, List.getElem?_eq_getElem (by omega)]
    exact List.getElem_mem _
   rw [List.contains_iff_mem.2 hm]
   simp
  ·
   rw [if_neg h, show wrap64 ((i : Int) + 1) = ((i + 1 : Nat) : Int) from by unfold wrap64; omega]
   refine ih (i + 1) k (by omega) (by omega) (fun j hj => ?_)
   rcases Nat.lt_or_ge j i with h2 | h2
   ·
    exact hp j h2
   ·
    obtain rfl : j = i := by omega
    exact fun e => h e.symm
theorem contains_eq (l : List Int) (a : Int) (hl : l.length ≤ 9223372036854775807) : slices_Contains_int_int.f (l.length + 1) l a = some (l.contains a) := by
 obtain ⟨r, h1, h2⟩ := index_go l a hl l.length 0 (l.length + 1) (by omega) (by omega) (fun j hj => by omega)
 unfold slices_Contains_int_int.f slices_Index_int_int.f
 have h3 : slices_Index_int_int.l0 (l.length + 1) l a (l.length : Int) 0 = some r := h1
 rw [h3, Option.bind_some, ← h2]
theorem contains_calls (A : Option Addr) (c : Nat) (l : List Int) (a : Int) (W : World) (hr : Kd.C (Kd.int .i64) W A l.length l) (hc : l.length ≤ c) : Calls Try.prog 64 #[.slice A l.length c, .int .i64 a] W fun e w' => e = .returned (.bool (l.contains a)) ∧ Below W.heap.size W w' :=
 (slices_Contains_int_int.calls (l.length + 1) A c l a _ W hr hc (contains_eq l a (Kd.C_max hr))).mono fun e w' ⟨h1, h2⟩ => ⟨h1, h2.below⟩
def frQ (gd g5 g7 g9 g11 : Nat) (At : Option Addr) (n ct : Nat) (th : Int) (is : Bool) (i : Int) (z : Nat → Value) : Array Value := #[.pointer (some ⟨gd, 0, none⟩), .slice At n ct, z 2, z 3, z 4, .pointer (some ⟨g5, 0, none⟩), z 6, .pointer (some ⟨g7, 0, none⟩), .int .i64 th, .pointer (some ⟨g9, 0, none⟩), z 10, .pointer (some ⟨g11, 0, none⟩), .bool is, z 13, z 14, z 15, z 16, z 17, z 18, z 19, z 20, z 21, z 22, z 23, z 24, z 25, z 26, z 27, z 28, z 29, z 30, z 31, .slice At n ct, .int .i64 (n : Int), .int .i64 i, z 35, z 36, z 37, z 38, z 39, z 40, z 41, z 42, z 43, z 44, z 45, z 46, z 47, z 48, z 49, z 50, z 51, z 52, z 53, z 54, z 55, z 56, z 57, z 58, z 59, z 60, z 61, z 62, z 63, z 64, z 65, z 66, z 67, z 68, z 69, z 70, z 71, z 72, z 73, z 74, z 75, z 76, z 77, z 78, z 79, z 80, z 81, z 82, z 83, z 84, z 85, z 86, z 87, z 88, z 89, z 90, z 91, z 92, z 93, z 94, z 95, z 96, z 97, z 98, z 99, z 100, z 101, z 102, z 103, z 104, z 105, z 106, z 107, z 108, z 109, z 110, z 111, z 112, z 113, z 114]
structure FQ (w : World) (gd g5 g7 g9 gq go g11 : Nat) (dcs : Array Value) (P cp : Nat) (y : Int) (es : List S44) (ks : List Nat) (T : List Int) (p : Int) (is : Bool) (o q : List Int) (Ds : List Nat) (W : World) : Prop where
 f : FS w gd g5 g7 g9 gq go dcs P cp y (fun k => k = g11) o q W
 x11 : W.heap[g11]? = some (.cells #[.int .i64 p] 3 (0, 0))
 l11 : w.heap.size ≤ g11
 n11 : g11 ≠ go ∧ g11 ≠ g7
 marks : ∀ D ∈ Ds, W.heap[D]? = some (.deferred (some [])) ∧ w.heap.size ≤ D
 nd : Ds.Nodup
 len : o.length = P
 len2 : cntN y o + q.length ≤ 2 * P
 qs : ∀ x ∈ q, 0 ≤ x ∧ x < (P : Int)
 run : (is = true ∧ (0 ≤ p ∧ p < (P : Int)) ∧ bfsV es ks y (cntN y o + (q.length + 1) + 1) o (p :: q) = T) ∨ (is = false ∧ q = [] ∧ o = T)
def LIQ (w : World) (gd g5 g7 g9 gq go : Nat) (dcs : Array Value) (P cp : Nat) (At : Option Addr) (n ct : Nat) (th : Int) (i : Nat) (es : List S44) (ks : List Nat) (T : List Int) (a : Act) (W : World) : Prop :=
 ∃ (g11 : Nat) (p : Int) (is : Bool) (o q : List Int) (z : Nat → Value) (Ds : List Nat), a = { tmps := frQ gd g5 g7 g9 g11 At n ct th is i z, defers := dfs Ds } ∧ qab (FQ w gd g5 g7 g9 gq go g11 dcs P cp i es ks T p is o q Ds W)
theorem LIQ.mk {w : World} {gd g5 g7 g9 gq go : Nat} {dcs : Array Value} {P cp : Nat} {At : Option Addr} {n ct : Nat} {th : Int} {i : Nat} {es : List S44} {ks : List Nat} {T : List Int} {t : Array Value} {df : List Deferred} {W : World} (g11 : Nat) (p : Int) (is : Bool) (o q : List Int) (Ds : List Nat)
  (h : t = frQ gd g5 g7 g9 g11 At n ct th is i (fun j => t.getD j undef)) (hd : df = dfs Ds) (HQ : qab (FQ w gd g5 g7 g9 gq go g11 dcs P cp i es ks T p is o q Ds W)) : LIQ w gd g5 g7 g9 gq go dcs P cp At n ct th i es ks T { tmps := t, defers := df } W := by
 subst hd
 exact ⟨g11, p, is, o, q, fun j => t.getD j undef, Ds, by rw [← h], HQ⟩
def cellI (W : World) (g j : Nat) : Int := match W.cell? ⟨g, j, none⟩ with | some (.int _ x) => x | _ => 0
def muQ (go gq P : Nat) (y : Int) (a : Act) (W : World) : Nat := cntN y ((List.range P).map (cellI W go)) + (match W.cell? ⟨gq, 0, none⟩ with | some (.slice _ n _) => n | _ => 0) + (match a.tmps.getD 12 undef with | .bool true => 1 | _ => 0)
theorem muQ_cells {w W : World} {gd g5 g7 g9 gq go : Nat} {dcs : Array Value} {P cp : Nat} {y : Int} {X : Nat → Prop} {o q : List Int} (h : FS w gd g5 g7 g9 gq go dcs P cp y X o q W) (hl : o.length = P) (a : Act) : muQ go gq P y a W = cntN y o + q.length + (match a.tmps.getD 12 undef with | .bool true => 1 | _ => 0) := by
 unfold muQ
 have e1 : (List.range P).map (cellI W go) = o := by
  refine List.ext_getElem (by simp [hl]) fun j h1 h2 => ?_
  have hj : j < P := by simpa using h1
  simp only [List.getElem_map, List.getElem_range]
  unfold cellI
  rw [introw_at h.o j hj]
  simp [rd, h2]
 obtain ⟨⟨v, h1, h2⟩, _⟩ := h.q
 obtain ⟨A, c, e, _⟩ := Kd.Q_slice h2
 subst e
 have e2 : W.cell? ⟨gq, 0, none⟩ = some (.slice A q.length c) := (qaa h1 0).trans rfl
 rw [e1, e2]
theorem take_FS {w W : World} {gd g5 g7 g9 gq go : Nat} {dcs : Array Value} {P cp : Nat} {y : Int} {X : Nat → Prop} {o q : List Int} (h : FS w gd g5 g7 g9 gq go dcs P cp y X o q W) (hP : 0 < P) :
  Calls Try.prog 90 #[.pointer (some ⟨gq, 0, none⟩)] W fun e W' => ∃ (p : Int) (is : Bool) (q' : List Int), e = .returned (.tuple #[.int .i64 p, .bool is]) ∧ ((is = true ∧ q = p :: q') ∨ (is = false ∧ q' = [] ∧ q = [])) ∧
   FS w gd g5 g7 g9 gq go dcs P cp y X o q' W' ∧ QKeeps gq (okF w gd g5 g7 g9 gq go X) W W' ∧ KeepsOthers W W' := by
 obtain ⟨n1, n2, n3, n4, n5, _⟩ := h.ne hP
 cases q with
 | nil =>
  refine (take_none gq _ w W h.hb h.q).mono ?_
  rintro e W' ⟨rfl, hb⟩
  exact ⟨0, false, [], rfl, .inr ⟨rfl, rfl, rfl⟩, h.below hb, KB.of_below hb _, KeepsOthers.of_grownBy (grown_of_below hb none) (fun j o e => by cases e)⟩
 | cons p q' =>
  refine (take_some gq _ p q' w W h.hb h.q).mono ?_
  rintro e W' ⟨rfl, hq, hk, ho, hb⟩
  exact ⟨p, true, q', rfl, .inl ⟨rfl, rfl⟩, h.queue hq hk hb n1 n2 n3 n4 n5, hk, ho⟩
theorem leaveF (w : World) (tmps : Array Value) (v : Value) (o : List Int) (g : Nat) (n c : Nat) (hv : v = .slice (some ⟨g, 0, none⟩) n c) (ht : tmps.getD 4 undef = v) (R : Ending → World → Prop)
  (hfin : ∀ W, Kd.R (Kd.int .i64) 3 W w.heap.size (fun k => k = g) v o → Below w.heap.size w W → R (.returned v) W) :
  ∀ (Ds : List Nat) (W : World), Ds.Nodup → (∀ D ∈ Ds, W.heap[D]? = some (.deferred (some [])) ∧ w.heap.size ≤ D) → Kd.R (Kd.int .i64) 3 W w.heap.size (fun k => k = g) v o → Below w.heap.size w W →
   LeavesInM Fence.wide 12 Try.prog Try.f56 tmps R (dfs Ds) .returning W := by
 intro Ds
 induction Ds with
 | nil =>
  intro W _ _ hr hb
  refine ⟨_, results_tmp rfl _ _ _, ?_⟩
  rw [ht]
  exact hfin W hr hb
 | cons D Ds ih =>
  intro W hnd hD hr hb
  have h1 := hD D (by simp)
  refine ⟨by simp, .inl ⟨D, _, rfl, run_takeDeferred h1.1, ?_⟩⟩
  have hput := grownBy_putObj' W D (.deferred none)
  rw [List.nodup_cons] at hnd
  refine ih _ hnd.2 (fun D' hD' => ?_) ?_ ?_
  ·
   have h2 := hD D' (by simp [hD'])
   exact ⟨by rw [World.putObj_heap_other (by rintro rfl; exact hnd.1 hD')]; exact h2.1, h2.2⟩
  ·
   refine Kd.R_mono (Kd.R_step (Kd.R_bound hr) (fun k hk' hlt => hput.block k hlt (fun e => ?_))) (fun k hk => hk.1)
   obtain ⟨q, _, cells, hc⟩ := hk'.2.2.2
   injection e with e
   subst e
   rw [h1.1] at hc
   cases hc
  ·
   exact hb.grown hput hb.size (fun k e => by injection e with e; omega)
def frB (g5 g7 g9 g11 Be : Nat) (z : Nat → Value) : Array Value := #[z 0, z 1, z 2, z 3, z 4, .pointer (some ⟨g5, 0, none⟩), z 6, .pointer (some ⟨g7, 0, none⟩), z 8, .pointer (some ⟨g9, 0, none⟩), z 10, .pointer (some ⟨g11, 0, none⟩), z 12, z 13, .pointer (some ⟨Be, 0, none⟩), z 15, z 16, z 17, z 18, z 19, z 20, z 21, z 22, z 23, z 24, z 25, z 26, z 27, z 28, z 29, z 30, z 31, z 32, z 33, z 34, z 35, z 36, z 37, z 38, z 39, z 40, z 41, z 42, z 43, z 44, z 45, z 46, z 47, z 48, z 49, z 50, z 51, z 52, z 53, z 54, z 55, z 56, z 57, z 58, z 59, z 60, z 61, z 62, z 63, z 64, z 65, z 66, z 67, z 68, z 69, z 70, z 71, z 72, z 73, z 74, z 75, z 76, z 77, z 78, z 79, z 80, z 81, z 82, z 83, z 84, z 85, z 86, z 87, z 88, z 89, z 90, z 91, z 92, z 93, z 94, z 95, z 96, z 97, z 98, z 99, z 100, z 101, z 102, z 103, z 104, z 105, z 106, z 107, z 108, z 109, z 110, z 111, z 112, z 113, z 114]
structure FB (w : World) (gd g5 g7 g9 gq go g11 Bd Bt : Nat) (dcs : Array Value) (P cp : Nat) (y th p : Int) (o q : List Int) (Ds : List Nat) (W : World) : Prop where
 f : FS w gd g5 g7 g9 gq go dcs P cp y (fun k => k = g11 ∨ k = Bd ∨ k = Bt) o q W
 x11 : W.heap[g11]? = some (.cells #[.int .i64 p] 3 (0, 0))
 bd : W.heap[Bd]? = some (.cells #[.pointer (some ⟨gd, 0, none⟩)] 84 (0, 0))
 bt : W.heap[Bt]? = some (.cells #[.int .i64 th] 3 (0, 0))
 marks : ∀ D ∈ Ds, W.heap[D]? = some (.deferred (some []))
 n11 : g11 ≠ go
 nt : Bt ≠ go
section
variable {w W W' : World} {gd g5 g7 g9 gq go g11 Bd Bt : Nat} {dcs : Array Value} {P cp : Nat} {y th p : Int} {o q : List Int} {Ds : List Nat}
theorem FB.below (h : FB w gd g5 g7 g9 gq go g11 Bd Bt dcs P cp y th p o q Ds W) (hb : Below W.heap.size W W') : FB w gd g5 g7 g9 gq go g11 Bd Bt dcs P cp y th p o q Ds W' :=
 ⟨h.f.below hb, qad h.x11 hb, qad h.bd hb, qad h.bt hb, fun D hD => qad (h.marks D hD) hb, h.n11, h.nt⟩
theorem FB.own {row : Option Nat} {B : Nat} (h : FB w gd g5 g7 g9 gq go g11 Bd Bt dcs P cp y th p o q Ds W) (hB : w.heap.size ≤ B) (hD : ∀ D ∈ Ds, D < B) (hg : W.grownBy W' row) (hr : ∀ r, row = some r → B ≤ r ∧ ∃ ob : Obj, W.heap[r]? = some ob ∧ ob.isCells = false) : FB w gd g5 g7 g9 gq go g11 Bd Bt dcs P cp y th p o q Ds W' := by
 have hr' : ∀ r, row = some r → w.heap.size ≤ r ∧ ∃ ob : Obj, W.heap[r]? = some ob ∧ ob.isCells = false := fun r e => ⟨Nat.le_trans hB (hr r e).1, (hr r e).2⟩
 exact ⟨h.f.own hg hr', blk_own' h.x11 hg hr', blk_own' h.bd hg hr', blk_own' h.bt hg hr', fun D hd => (hg.block D (blk_lt (h.marks D hd)) (fun e => by have := (hr D e.symm).1; have := hD D hd; omega)).trans (h.marks D hd), h.n11, h.nt⟩
theorem FB.put (h : FB w gd g5 g7 g9 gq go g11 Bd Bt dcs P cp y th p o q Ds W) (hP : 0 < P) (i : Nat) (x : Int) : FB w gd g5 g7 g9 gq go g11 Bd Bt dcs P cp y th p (o.set i x) q Ds (W.setCell ⟨go, i, none⟩ (.int .i64 x)) := by
 obtain ⟨_, cs, hb⟩ := R_blk h.f.o hP
 refine ⟨h.f.put hP i x, blk_far (p := ⟨go, i, none⟩) h.x11 h.n11 _, blk_far (p := ⟨go, i, none⟩) h.bd (blk_ne h.bd hb (by decide)) _, blk_far (p := ⟨go, i, none⟩) h.bt h.nt _, fun D hD => (Below.heap_setCell W ⟨go, i, none⟩ _ D (fun e => ?_)).trans (h.marks D hD), h.n11, h.nt⟩
 have h1 := h.marks D hD
 rw [show D = go from e, hb] at h1
 cases h1
theorem FB.queue {q' : List Int} (h : FB w gd g5 g7 g9 gq go g11 Bd Bt dcs P cp y th p o q Ds W) (hP : 0 < P) (hq : QAt w.heap.size gq (okF w gd g5 g7 g9 gq go (fun k => k = g11 ∨ k = Bd ∨ k = Bt)) q' W') (hk : QKeeps gq (okF w gd g5 g7 g9 gq go (fun k => k = g11 ∨ k = Bd ∨ k = Bt)) W W') (hb : Below w.heap.size w W') (ho : KeepsOthers W W') : FB w gd g5 g7 g9 gq go g11 Bd Bt dcs P cp y th p o q' Ds W' := by
 obtain ⟨n1, n2, n3, n4, n5, _⟩ := h.f.ne hP
 obtain ⟨⟨v, hv, _⟩, _⟩ := h.f.q
 exact ⟨h.f.queue hq hk hb n1 n2 n3 n4 n5, hk.blk h.x11 (fun e => e.elim (blk_ne h.x11 hv (by decide)) (fun e => e.2.2.2.2.2.2.2 (.inl rfl))), hk.blk h.bd (fun e => e.elim (blk_ne h.bd hv (by decide)) (fun e => e.2.2.2.2.2.2.2 (.inr (.inl rfl)))), hk.blk h.bt (fun e => e.elim (blk_ne h.bt hv (by decide)) (fun e => e.2.2.2.2.2.2.2 (.inr (.inr rfl)))), fun D hD => ho.same D _ (h.marks D hD) rfl, h.n11, h.nt⟩
theorem FB.okp {o' q' : List Int} {Ds' : List Nat} (h : FB w gd g5 g7 g9 gq go g11 Bd Bt dcs P cp y th p o q Ds W) (h' : FB w gd g5 g7 g9 gq go g11 Bd Bt dcs P cp y th p o' q' Ds' W') (hs : W.heap.size ≤ W'.heap.size) : OKp w.heap.size gd Bd Bt W W' :=
 ⟨⟨h'.f.hb.os.trans h.f.hb.os.symm, h'.f.hb.tape.trans h.f.hb.tape.symm, h'.f.hb.output.trans h.f.hb.output.symm, hs, fun k hk => (h'.f.hb.block k hk).trans (h.f.hb.block k hk).symm⟩, h'.f.d.trans h.f.d.symm, h'.bd.trans h.bd.symm, h'.bt.trans h.bt.symm⟩
theorem OKp.tr {B gd Bd Bt : Nat} {X Y Z : World} (h : OKp B gd Bd Bt X Y) (k : OKp B gd Bd Bt Y Z) : OKp B gd Bd Bt X Z := ⟨h.b.trans k.b, k.d.trans h.d, k.p.trans h.p, k.t.trans h.t⟩
theorem okp_put {B gd Bd Bt B1 : Nat} (h1 : B ≤ B1) (h2 : gd < B1) (h3 : Bd < B1) (h4 : Bt < B1) (W : World) (l : Nat) (o o' : Obj) (hl : B1 ≤ l) (hw : W.heap[l]? = some o) (hc : o.isCells = false) (hn : o.isWalk = false) : OKp B gd Bd Bt W (W.putObj l o') :=
 ⟨(Below.refl B W).grown (grownBy_putObj' W l o') (by have := blk_lt hw; omega) (fun k e => by cases e; omega), World.putObj_heap_other (by omega), World.putObj_heap_other (by omega), World.putObj_heap_other (by omega)⟩
theorem actB {t : Array Value} {Be : Nat} (h : t = frB g5 g7 g9 g11 Be (fun j => t.getD j undef)) : ({ tmps := t, defers := [] } : Act) = { tmps := frB g5 g7 g9 g11 Be (fun j => t.getD j undef), defers := [] } := congrArg (fun t => ({ tmps := t, defers := [] } : Act)) h
theorem muQ_at {X : Nat → Prop} (h : FS w gd g5 g7 g9 gq go dcs P cp y X o q W) (hl : o.length = P) (is : Bool) (a : Act) (ha : a.tmps.getD 12 undef = .bool is) : muQ go gq P y a W = cntN y o + q.length + is.toNat := by
 rw [muQ_cells h hl, ha]
 cases is <;> rfl
theorem relV_in (es : List S44) (n : Nat) : ∀ (ks : List Nat) (s : List Int × List Int), (∀ x ∈ s.2, 0 ≤ x ∧ x < (n : Int)) → (∀ k ∈ ks, 0 ≤ (qav es k).f1 ∧ (qav es k).f1 < (n : Int)) → ∀ x ∈ (relV es y p ks s).2, 0 ≤ x ∧ x < (n : Int)
 | [], _, h, _ => h
 | k :: t, s, h, hk => by
  unfold relV
  rw [List.foldl_cons]
  exact relV_in es n t _ (relS_in es y p s k n h (hk k (by simp))) (fun j hj => hk j (by simp [hj]))
def X3 (g11 Bd Bt g : Nat) (k : Nat) : Prop := k = g11 ∨ k = Bd ∨ k = Bt ∨ k = g
theorem FB.next1 (h : FB w gd g5 g7 g9 gq go g11 Bd Bt dcs P cp y th p o q Ds W) : FS w gd g5 g7 g9 gq go dcs P cp y (X3 g11 Bd Bt W.heap.size) o q (W.alloc (.cells #[.int .i64 p] 3)) :=
 (h.f.more (X' := X3 g11 Bd Bt W.heap.size) (fun k h1 h2 => by
  rcases h1 with h1 | h1 | h1 | h1
  ·
   exact .inl h1
  ·
   exact .inr (.inl h1)
  ·
   exact .inr (.inr h1)
  ·
   omega)).below (qag (Below.refl _ W) _)
theorem FB.next2 {es : List S44} {ks : List Nat} {T q2 : List Int} {p2 : Int} {is : Bool} {o0 q0 : List Int} {W4 : World} {D : Nat} (h : FB w gd g5 g7 g9 gq go g11 Bd Bt dcs P cp y th p (relV es y p ks (o0, q0)).1 (relV es y p ks (o0, q0)).2 Ds W) (hP : 0 < P)
  (hrun : bfsV es ks y (cntN y o0 + (q0.length + 1) + 1) o0 (p :: q0) = T) (hlen : o0.length = P) (hlen2 : cntN y o0 + q0.length ≤ 2 * P) (hqs : ∀ x ∈ q0, 0 ≤ x ∧ x < (P : Int)) (hks : ∀ k ∈ ks, 0 ≤ (qav es k).f1 ∧ (qav es k).f1 < (P : Int))
  (hD : W.heap[D]? = some (.deferred (some []))) (hDw : w.heap.size ≤ D) (hDn : D ∉ Ds) (hma : ∀ D ∈ Ds, w.heap.size ≤ D) (hnd : Ds.Nodup)
  (hf : FS w gd g5 g7 g9 gq go dcs P cp y (X3 g11 Bd Bt W.heap.size) (relV es y p ks (o0, q0)).1 q2 W4) (hk : QKeeps gq (okF w gd g5 g7 g9 gq go (X3 g11 Bd Bt W.heap.size)) (W.alloc (.cells #[.int .i64 p] 3)) W4) (ho : KeepsOthers (W.alloc (.cells #[.int .i64 p] 3)) W4)
  (hc : (is = true ∧ (relV es y p ks (o0, q0)).2 = p2 :: q2) ∨ (is = false ∧ q2 = [] ∧ (relV es y p ks (o0, q0)).2 = [])) :
  FQ w gd g5 g7 g9 gq go W.heap.size dcs P cp y es ks T p2 is (relV es y p ks (o0, q0)).1 q2 (D :: Ds) (W4.setCell ⟨W.heap.size, 0, none⟩ (.int .i64 p2)) ∧ cntN y (relV es y p ks (o0, q0)).1 + q2.length + is.toNat < cntN y o0 + q0.length + 1 := by
 have hme := relV_meas es y p ks (o0, q0) (fun k hk => by rw [show ((o0, q0) : List Int × List Int).1.length = P from hlen]; exact hks k hk)
 have hin := relV_in (y := y) (p := p) es P ks (o0, q0) hqs hks
 have hl : (relV es y p ks (o0, q0)).1.length = P := by rw [relV_length]; exact hlen
 have hrun2 : bfsV es ks y (cntN y o0 + q0.length + 1) (relV es y p ks (o0, q0)).1 (relV es y p ks (o0, q0)).2 = T := by
  rw [← hrun, show cntN y o0 + (q0.length + 1) + 1 = (cntN y o0 + q0.length + 1) + 1 from by omega]
  rfl
 simp only at hme
 have hn := blk_new W (.cells #[.int .i64 p] 3)
 have hq := h.f.q.lt
 have h1 := blk_lt h.f.d
 have h2 := blk_lt h.f.x5
 have h3 := blk_lt h.f.x7
 have h4 := blk_lt h.f.x9
 have h5 := h.f.lo
 have hw := h.f.hb.size
 have hn4 := hk.blk hn (fun e => e.elim (fun e => by omega) (fun e => e.2.2.2.2.2.2.2 (.inr (.inr (.inr rfl)))))
 have mk : ∀ D' : Nat, W.heap[D']? = some (.deferred (some [])) → (W4.setCell ⟨W.heap.size, 0, none⟩ (.int .i64 p2)).heap[D']? = some (.deferred (some [])) := fun D' hD' =>
  (Below.heap_setCell W4 ⟨W.heap.size, 0, none⟩ _ D' (fun e => by have := blk_lt hD'; have e' : D' = W.heap.size := e; omega)).trans (ho.same D' _ (qan hD' _) rfl)
 generalize relV es y p ks (o0, q0) = s at hme hin hl hrun2 hf hc h ⊢
 refine ⟨⟨?_, blk_set hn4 0 _, hw, ⟨by omega, by omega⟩, ?_, List.nodup_cons.2 ⟨hDn, hnd⟩, hl, ?_, ?_, ?_⟩, ?_⟩
 ·
  exact (hf.far hw (.inr (.inr (.inr rfl))) (by omega) (by omega) (by omega) (by omega) (by omega) (by omega) 0 _).more (fun k e _ => .inr (.inr (.inr e)))
 ·
  intro D' hD'
  rcases List.mem_cons.1 hD' with rfl | hD'
  ·
   exact ⟨mk _ hD, hDw⟩
  ·
   exact ⟨mk _ (h.marks _ hD'), hma _ hD'⟩
 ·
  rcases hc with ⟨_, e⟩ | ⟨_, e, _⟩
  ·
   rw [e] at hme; simp at hme; omega
  ·
   rw [e]; simp; omega
 ·
  intro x hx
  rcases hc with ⟨_, e⟩ | ⟨_, e, _⟩
  ·
   exact hin x (by rw [e]; exact List.mem_cons_of_mem _ hx)
  ·
   rw [e] at hx; cases hx
 ·
  rcases hc with ⟨hi, e⟩ | ⟨hi, e, e2⟩
  ·
   refine .inl ⟨hi, hin p2 (by rw [e]; simp), ?_⟩
   rw [e] at hme hrun2
   simp only [List.length_cons] at hme
   rw [← hrun2, hme]
  ·
   refine .inr ⟨hi, e, ?_⟩
   rw [e2] at hrun2
   rw [← hrun2]
   rfl
 ·
  rcases hc with ⟨rfl, e⟩ | ⟨rfl, e, e2⟩
  ·
   rw [e] at hme; simp at hme ⊢; omega
  ·
   rw [e]; rw [e2] at hme; simp at hme ⊢; omega
end
section
variable {P : Program} {ops : Array Oper} {Q : Exit → Act → World → Prop} {md : Region.Mode} {S : World → Prop} {ds : List Nat} {l m : Nat}
theorem rows_round {row : String} {args : Array Value} {w : World} {R : Value → World → Prop} (h : Rows P row args w R) : RowsIn (Fence.wide.inRound l) m P row args w R :=
 fun c cs _ => let ⟨v, w', r, s⟩ := h c cs; ⟨v, w', r, stepsIn_wide.2 s⟩
theorem op_round {o : Oper} {a : Act} {w : World} {K : Act → World → Prop} (hd : ∀ c, o.op ≠ .defer c) (h : o.wp P a w K Q) : o.wpIn (Fence.wide.inRound l) m P a w K Q := by
 unfold Oper.wpIn
 refine ⟨fun f _ => trivial, ?_⟩
 rw [Oper.semAt_eq _ _ _ hd]
 unfold Oper.wp at h
 generalize (execOp a.eval o).run P w = r at h ⊢
 cases r with
 | ok x w' =>
  cases x <;> simp only [Oper.upon, Oper.uponIn] at h ⊢ <;> first
   | exact h
   | exact ⟨fun e => (by cases e), CallsIn.inRound l (callsIn_wide.2 h)⟩
   | exact ⟨fun e => (by cases e), rows_round h⟩
   | exact h.elim
 | halt x w' => cases x <;> simp only [Oper.upon, Oper.uponIn] at h ⊢ <;> exact h
def noDefer (ops : Array Oper) : Bool := ops.all fun o => match o.op with | .defer _ => false | _ => true
theorem noDefer_spec (h : noDefer ops = true) {i : Nat} {o : Oper} (ho : ops[i]? = some o) : ∀ c, o.op ≠ .defer c := by
 intro c e
 have h1 := Array.all_eq_true_iff_forall_mem.1 h o (Array.mem_of_getElem? ho)
 rw [e] at h1
 cases h1
theorem any_round (hd : noDefer ops = true) (hQ : ¬ LetsOut Q) : ∀ (fuel : Nat) (L : Array Bool) (a : Act) (w : World), wpAny P md ops Q fuel L a w → wpAnyIn (Fence.wide.inRound l) m P md ops Q fuel L a w
 | 0, _, _, _, h => h
 | fuel + 1, L, a, w, h => ⟨h.1, fun i hi => by
  have h1 := wpOp_mono (fun a w => any_round hd hQ fuel _ a w) (h.2 i hi)
  unfold wpOp at h1
  unfold wpOpIn
  cases ho : ops[i]? with
  | none => rw [ho] at h1; exact h1
  | some o =>
   rw [ho] at h1
   simp only at h1 ⊢
   by_cases hw : Region.wanted o (yielded ops a.tmps) = true
   ·
    rw [if_pos hw] at h1 ⊢
    exact op_round (noDefer_spec hd ho) (h1.resolve_right (fun x => hQ x.2))
   ·
    rw [if_neg hw] at h1 ⊢
    exact ⟨fun f _ => trivial, h1⟩⟩
theorem startR_ {id n : Nat} {a : Act} {w : World} (L : Array Bool) (hd : noDefer ops = true) (hQ : ¬ LetsOut Q) (hm : P.follows .mixedOrders = true) (hn : ops.size = n) (hl : Array.replicate n false = L) (hS : S w.drew)
  (h : S w.drew → wpAnyLast P .any ops Q S ds n L a w.drew) : (Code.region id ops true).wpIn (Fence.wide.inRound l) m P Q a w := by
 subst hn
 subst hl
 exact wpIn_region_any hm (any_round hd hQ _ _ _ _ (wpAny_of_last _ _ _ _ (h hS)))
end
section
variable {P : Program} {ops : Array Oper} {Q : Exit → Act → World → Prop}
theorem goesV_ {oi : Oper} {N : Option Tmp} {a : Act} {w : World} {K : Act → World → Prop} {f : FuncId} {fn : Func} {c : Operand} {xs : Array Operand} {ts : Array TypeId} {args cap all : Array Value} (hf : P.funcs[f]? = some fn) (hname : (fn.name == "runtime.NumGoroutine") = false) (hb : fn.body.isSome = true)
  (hw : Region.wanted oi (yielded ops a.tmps) = true) (hN : oi.dst = N) (hop : oi.op = .call { callee := .value c, args := xs, argTypes := ts }) (hc : a.eval c = .func (.func f) #[] cap) (hargs : xs.map a.eval = args) (hall : args ++ cap = all)
  (h : Calls P f all w fun e w' => ∃ v, e = .returned v ∧ K (a.put N v) w') : if Region.wanted oi (yielded ops a.tmps) = true then Oper.wp P oi a w K Q else K (a.put N undef) w := by
 subst hall
 refine call_ f (args ++ cap) hw hN ?_ h
 have he := enters_ hf hname hb (args ++ cap) w
 unfold execOp
 simp [hop, resolve, Deferred.ofValue, invoke, hc, hargs, he]
end
end Go.Proofs.Ytafkanmioinbiaa.SA
